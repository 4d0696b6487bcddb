/- What the rules ask of this program's types and functions: closed facts, printed by a program of this claim's (ty.py). -/
import Derived.Test.YtjnckainogpenaaQ14
set_option maxRecDepth 100000
namespace Go.Proofs.Ytjnckainogpenaa
open Go Q

instance : TyOne 1 := ⟨fun _ => by kernel_rfl⟩
instance : TySize 1 1 := ⟨fun _ => by kernel_rfl⟩
instance : ZeroV 1 .nilFunc := ⟨fun _ => by kernel_rfl⟩
instance : TyZero 1 [.nilFunc] := ⟨.nilFunc, rfl, fun _ => by kernel_rfl⟩
instance : TyOne 2 := ⟨fun _ => by kernel_rfl⟩
instance : TySize 2 1 := ⟨fun _ => by kernel_rfl⟩
instance : ZeroV 2 (.int .i64 0) := ⟨fun _ => by kernel_rfl⟩
instance : TyZero 2 [(.int .i64 0)] := ⟨(.int .i64 0), rfl, fun _ => by kernel_rfl⟩
instance : TyInt 2 .i64 := ⟨fun _ => by kernel_rfl⟩
instance : TyOne 3 := ⟨fun _ => by kernel_rfl⟩
instance : TySize 3 1 := ⟨fun _ => by kernel_rfl⟩
instance : ZeroV 3 (.int .i64 0) := ⟨fun _ => by kernel_rfl⟩
instance : TyZero 3 [(.int .i64 0)] := ⟨(.int .i64 0), rfl, fun _ => by kernel_rfl⟩
instance : TyInt 3 .i64 := ⟨fun _ => by kernel_rfl⟩
instance : TyOne 4 := ⟨fun _ => by kernel_rfl⟩
instance : TySize 4 1 := ⟨fun _ => by kernel_rfl⟩
instance : ZeroV 4 (.bool false) := ⟨fun _ => by kernel_rfl⟩
instance : TyZero 4 [(.bool false)] := ⟨(.bool false), rfl, fun _ => by kernel_rfl⟩
instance : TyBool 4 := ⟨fun _ => by kernel_rfl⟩
instance : TyOne 5 := ⟨fun _ => by kernel_rfl⟩
instance : TySize 5 1 := ⟨fun _ => by kernel_rfl⟩
instance : ZeroV 5 (.int .u8 0) := ⟨fun _ => by kernel_rfl⟩
instance : TyZero 5 [(.int .u8 0)] := ⟨(.int .u8 0), rfl, fun _ => by kernel_rfl⟩
instance : TyInt 5 .u8 := ⟨fun _ => by kernel_rfl⟩
instance : TyOne 6 := ⟨fun _ => by kernel_rfl⟩
instance : TySize 6 1 := ⟨fun _ => by kernel_rfl⟩
instance : ZeroV 6 (.int .u8 0) := ⟨fun _ => by kernel_rfl⟩
instance : TyZero 6 [(.int .u8 0)] := ⟨(.int .u8 0), rfl, fun _ => by kernel_rfl⟩
instance : TyInt 6 .u8 := ⟨fun _ => by kernel_rfl⟩
instance : TyAgg 8 4 := ⟨fun _ => by kernel_rfl⟩
instance : TySize 8 4 := ⟨fun _ => by kernel_rfl⟩
instance : TyZero 8 [(.int .i64 0), (.int .i64 0), (.bool false), (.int .u8 0)] := ⟨(.agg #[(.int .i64 0), (.int .i64 0), (.bool false), (.int .u8 0)]), rfl, fun _ => by kernel_rfl⟩
instance : Fld 8 0 0 := ⟨fun _ _ => by kernel_rfl⟩
instance : Fld 8 1 1 := ⟨fun _ _ => by kernel_rfl⟩
instance : Fld 8 2 2 := ⟨fun _ _ => by kernel_rfl⟩
instance : Fld 8 3 3 := ⟨fun _ _ => by kernel_rfl⟩
instance : TyStruct 8 [(.int .i64 0), (.int .i64 0), (.bool false), (.int .u8 0)] [(0, 1), (1, 1), (2, 1), (3, 1)] := ⟨fun _ _ => by kernel_rfl⟩
instance : TyEqS 8 [(2, 0), (3, 1), (4, 2), (6, 3)] := ⟨⟨fieldsOf 8, fun _ => by kernel_rfl, by kernel_rfl, by kernel_rfl⟩, by kernel_rfl, by kernel_rfl⟩
instance : Fld1 8 0 0 := ⟨fun _ _ => by kernel_rfl⟩
instance : Fld1 8 1 1 := ⟨fun _ _ => by kernel_rfl⟩
instance : Fld1 8 2 2 := ⟨fun _ _ => by kernel_rfl⟩
instance : Fld1 8 3 3 := ⟨fun _ _ => by kernel_rfl⟩
instance : TyOne 9 := ⟨fun _ => by kernel_rfl⟩
instance : TySize 9 1 := ⟨fun _ => by kernel_rfl⟩
instance : ZeroV 9 (.string ⟨#[]⟩) := ⟨fun _ => by kernel_rfl⟩
instance : TyZero 9 [(.string ⟨#[]⟩)] := ⟨(.string ⟨#[]⟩), rfl, fun _ => by kernel_rfl⟩
instance : TyStr 9 := ⟨fun _ => by kernel_rfl⟩
instance : TyOne 21 := ⟨fun _ => by kernel_rfl⟩
instance : TySize 21 1 := ⟨fun _ => by kernel_rfl⟩
instance : ZeroV 21 (.int .i32 0) := ⟨fun _ => by kernel_rfl⟩
instance : TyZero 21 [(.int .i32 0)] := ⟨(.int .i32 0), rfl, fun _ => by kernel_rfl⟩
instance : TyInt 21 .i32 := ⟨fun _ => by kernel_rfl⟩
instance : TyOne 22 := ⟨fun _ => by kernel_rfl⟩
instance : TySize 22 1 := ⟨fun _ => by kernel_rfl⟩
instance : ZeroV 22 (.slice none 0 0) := ⟨fun _ => by kernel_rfl⟩
instance : TyZero 22 [(.slice none 0 0)] := ⟨(.slice none 0 0), rfl, fun _ => by kernel_rfl⟩
instance : TySlice 22 25 4 := ⟨fun _ => by kernel_rfl, fun _ => by kernel_rfl⟩
instance : TyFill 25 4 := ⟨(.agg #[(.int .i64 0), (.int .i64 0), (.int .i64 0), (.string ⟨#[]⟩)]), rfl, fun _ => by kernel_rfl⟩
instance : TyApp 22 25 4 40 := ⟨by kernel_rfl, ⟨(.agg #[(.int .i64 0), (.int .i64 0), (.int .i64 0), (.string ⟨#[]⟩)]), by kernel_rfl, rfl⟩, by decide⟩
instance : TyAgg 25 4 := ⟨fun _ => by kernel_rfl⟩
instance : TySize 25 4 := ⟨fun _ => by kernel_rfl⟩
instance : TyZero 25 [(.int .i64 0), (.int .i64 0), (.int .i64 0), (.string ⟨#[]⟩)] := ⟨(.agg #[(.int .i64 0), (.int .i64 0), (.int .i64 0), (.string ⟨#[]⟩)]), rfl, fun _ => by kernel_rfl⟩
instance : Fld 25 0 0 := ⟨fun _ _ => by kernel_rfl⟩
instance : Fld 25 1 1 := ⟨fun _ _ => by kernel_rfl⟩
instance : Fld 25 2 2 := ⟨fun _ _ => by kernel_rfl⟩
instance : Fld 25 3 3 := ⟨fun _ _ => by kernel_rfl⟩
instance : TyStruct 25 [(.int .i64 0), (.int .i64 0), (.int .i64 0), (.string ⟨#[]⟩)] [(0, 1), (1, 1), (2, 1), (3, 1)] := ⟨fun _ _ => by kernel_rfl⟩
instance : TyEqS 25 [(3, 0), (3, 1), (3, 2), (9, 3)] := ⟨⟨fieldsOf 25, fun _ => by kernel_rfl, by kernel_rfl, by kernel_rfl⟩, by kernel_rfl, by kernel_rfl⟩
instance : Fld1 25 0 0 := ⟨fun _ _ => by kernel_rfl⟩
instance : Fld1 25 1 1 := ⟨fun _ _ => by kernel_rfl⟩
instance : Fld1 25 2 2 := ⟨fun _ _ => by kernel_rfl⟩
instance : Fld1 25 3 3 := ⟨fun _ _ => by kernel_rfl⟩
instance : TyOne 26 := ⟨fun _ => by kernel_rfl⟩
instance : TySize 26 1 := ⟨fun _ => by kernel_rfl⟩
instance : ZeroV 26 (.slice none 0 0) := ⟨fun _ => by kernel_rfl⟩
instance : TyZero 26 [(.slice none 0 0)] := ⟨(.slice none 0 0), rfl, fun _ => by kernel_rfl⟩
instance : TySlice 26 63 5 := ⟨fun _ => by kernel_rfl, fun _ => by kernel_rfl⟩
instance : TyFill 63 5 := ⟨(.agg #[(.slice none 0 0), (.slice none 0 0), (.int .i64 0), (.int .i64 0), (.string ⟨#[]⟩)]), rfl, fun _ => by kernel_rfl⟩
instance : TyApp 26 63 5 80 := ⟨by kernel_rfl, ⟨(.agg #[(.slice none 0 0), (.slice none 0 0), (.int .i64 0), (.int .i64 0), (.string ⟨#[]⟩)]), by kernel_rfl, rfl⟩, by decide⟩
instance : TyAgg 28 1 := ⟨fun _ => by kernel_rfl⟩
instance : TySize 28 1 := ⟨fun _ => by kernel_rfl⟩
instance : TyZero 28 [(.slice none 0 0)] := ⟨(.agg #[(.slice none 0 0)]), rfl, fun _ => by kernel_rfl⟩
instance : Fld 28 0 0 := ⟨fun _ _ => by kernel_rfl⟩
instance : TyStruct 28 [(.slice none 0 0)] [(0, 1)] := ⟨fun _ _ => by kernel_rfl⟩
instance : Fld1 28 0 0 := ⟨fun _ _ => by kernel_rfl⟩
instance : TyOne 29 := ⟨fun _ => by kernel_rfl⟩
instance : TySize 29 1 := ⟨fun _ => by kernel_rfl⟩
instance : ZeroV 29 (.slice none 0 0) := ⟨fun _ => by kernel_rfl⟩
instance : TyZero 29 [(.slice none 0 0)] := ⟨(.slice none 0 0), rfl, fun _ => by kernel_rfl⟩
instance : TySlice 29 39 4 := ⟨fun _ => by kernel_rfl, fun _ => by kernel_rfl⟩
instance : TyFill 39 4 := ⟨(.agg #[(.int .i64 0), (.string ⟨#[]⟩), (.int .i64 0), (.string ⟨#[]⟩)]), rfl, fun _ => by kernel_rfl⟩
instance : TyApp 29 39 4 48 := ⟨by kernel_rfl, ⟨(.agg #[(.int .i64 0), (.string ⟨#[]⟩), (.int .i64 0), (.string ⟨#[]⟩)]), by kernel_rfl, rfl⟩, by decide⟩
instance : TyOne 30 := ⟨fun _ => by kernel_rfl⟩
instance : TySize 30 1 := ⟨fun _ => by kernel_rfl⟩
instance : ZeroV 30 (.slice none 0 0) := ⟨fun _ => by kernel_rfl⟩
instance : TyZero 30 [(.slice none 0 0)] := ⟨(.slice none 0 0), rfl, fun _ => by kernel_rfl⟩
instance : TySlice 30 31 1 := ⟨fun _ => by kernel_rfl, fun _ => by kernel_rfl⟩
instance : TyFill 31 1 := ⟨(.int .i64 0), rfl, fun _ => by kernel_rfl⟩
instance : TyApp 30 31 1 8 := ⟨by kernel_rfl, ⟨(.int .i64 0), by kernel_rfl, rfl⟩, by decide⟩
instance : TyOne 31 := ⟨fun _ => by kernel_rfl⟩
instance : TySize 31 1 := ⟨fun _ => by kernel_rfl⟩
instance : ZeroV 31 (.int .i64 0) := ⟨fun _ => by kernel_rfl⟩
instance : TyZero 31 [(.int .i64 0)] := ⟨(.int .i64 0), rfl, fun _ => by kernel_rfl⟩
instance : TyInt 31 .i64 := ⟨fun _ => by kernel_rfl⟩
instance : TyAgg 35 4 := ⟨fun _ => by kernel_rfl⟩
instance : TySize 35 4 := ⟨fun _ => by kernel_rfl⟩
instance : TyZero 35 [(.slice none 0 0), (.slice none 0 0), (.slice none 0 0), (.int .i64 0)] := ⟨(.agg #[(.slice none 0 0), (.slice none 0 0), (.slice none 0 0), (.int .i64 0)]), rfl, fun _ => by kernel_rfl⟩
instance : Fld 35 0 0 := ⟨fun _ _ => by kernel_rfl⟩
instance : Fld 35 1 1 := ⟨fun _ _ => by kernel_rfl⟩
instance : Fld 35 2 2 := ⟨fun _ _ => by kernel_rfl⟩
instance : Fld 35 3 3 := ⟨fun _ _ => by kernel_rfl⟩
instance : TyStruct 35 [(.slice none 0 0), (.slice none 0 0), (.slice none 0 0), (.int .i64 0)] [(0, 1), (1, 1), (2, 1), (3, 1)] := ⟨fun _ _ => by kernel_rfl⟩
instance : FldN 35 0 0 1 := ⟨fun _ _ => by kernel_rfl⟩
instance : Fld1 35 1 1 := ⟨fun _ _ => by kernel_rfl⟩
instance : Fld1 35 2 2 := ⟨fun _ _ => by kernel_rfl⟩
instance : Fld1 35 3 3 := ⟨fun _ _ => by kernel_rfl⟩
instance : TyAgg 39 4 := ⟨fun _ => by kernel_rfl⟩
instance : TySize 39 4 := ⟨fun _ => by kernel_rfl⟩
instance : TyZero 39 [(.int .i64 0), (.string ⟨#[]⟩), (.int .i64 0), (.string ⟨#[]⟩)] := ⟨(.agg #[(.int .i64 0), (.string ⟨#[]⟩), (.int .i64 0), (.string ⟨#[]⟩)]), rfl, fun _ => by kernel_rfl⟩
instance : Fld 39 0 0 := ⟨fun _ _ => by kernel_rfl⟩
instance : Fld 39 1 1 := ⟨fun _ _ => by kernel_rfl⟩
instance : Fld 39 2 2 := ⟨fun _ _ => by kernel_rfl⟩
instance : Fld 39 3 3 := ⟨fun _ _ => by kernel_rfl⟩
instance : TyStruct 39 [(.int .i64 0), (.string ⟨#[]⟩), (.int .i64 0), (.string ⟨#[]⟩)] [(0, 1), (1, 1), (2, 1), (3, 1)] := ⟨fun _ _ => by kernel_rfl⟩
instance : TyEqS 39 [(3, 0), (9, 1), (3, 2), (9, 3)] := ⟨⟨fieldsOf 39, fun _ => by kernel_rfl, by kernel_rfl, by kernel_rfl⟩, by kernel_rfl, by kernel_rfl⟩
instance : Fld1 39 0 0 := ⟨fun _ _ => by kernel_rfl⟩
instance : Fld1 39 1 1 := ⟨fun _ _ => by kernel_rfl⟩
instance : Fld1 39 2 2 := ⟨fun _ _ => by kernel_rfl⟩
instance : Fld1 39 3 3 := ⟨fun _ _ => by kernel_rfl⟩
instance : TyAgg 53 6 := ⟨fun _ => by kernel_rfl⟩
instance : TySize 53 6 := ⟨fun _ => by kernel_rfl⟩
instance : TyZero 53 [(.slice none 0 0), (.int .i64 0), (.string ⟨#[]⟩), (.int .i64 0), (.string ⟨#[]⟩), (.int .i64 0)] := ⟨(.agg #[(.slice none 0 0), (.int .i64 0), (.string ⟨#[]⟩), (.int .i64 0), (.string ⟨#[]⟩), (.int .i64 0)]), rfl, fun _ => by kernel_rfl⟩
instance : Fld 53 0 0 := ⟨fun _ _ => by kernel_rfl⟩
instance : Fld 53 1 1 := ⟨fun _ _ => by kernel_rfl⟩
instance : Fld 53 2 5 := ⟨fun _ _ => by kernel_rfl⟩
instance : TyStruct 53 [(.slice none 0 0), (.int .i64 0), (.string ⟨#[]⟩), (.int .i64 0), (.string ⟨#[]⟩), (.int .i64 0)] [(0, 1), (1, 4), (5, 1)] := ⟨fun _ _ => by kernel_rfl⟩
instance : FldN 53 0 0 1 := ⟨fun _ _ => by kernel_rfl⟩
instance : FldN 53 1 1 4 := ⟨fun _ _ => by kernel_rfl⟩
instance : Fld1 53 2 5 := ⟨fun _ _ => by kernel_rfl⟩
instance : TyOne 58 := ⟨fun _ => by kernel_rfl⟩
instance : TySize 58 1 := ⟨fun _ => by kernel_rfl⟩
instance : ZeroV 58 (.slice none 0 0) := ⟨fun _ => by kernel_rfl⟩
instance : TyZero 58 [(.slice none 0 0)] := ⟨(.slice none 0 0), rfl, fun _ => by kernel_rfl⟩
instance : TySlice 58 73 3 := ⟨fun _ => by kernel_rfl, fun _ => by kernel_rfl⟩
instance : TyFill 73 3 := ⟨(.agg #[(.int .i64 0), (.string ⟨#[]⟩), (.bool false)]), rfl, fun _ => by kernel_rfl⟩
instance : TyApp 58 73 3 32 := ⟨by kernel_rfl, ⟨(.agg #[(.int .i64 0), (.string ⟨#[]⟩), (.bool false)]), by kernel_rfl, rfl⟩, by decide⟩
instance : TyOne 59 := ⟨fun _ => by kernel_rfl⟩
instance : TySize 59 1 := ⟨fun _ => by kernel_rfl⟩
instance : ZeroV 59 (.slice none 0 0) := ⟨fun _ => by kernel_rfl⟩
instance : TyZero 59 [(.slice none 0 0)] := ⟨(.slice none 0 0), rfl, fun _ => by kernel_rfl⟩
instance : TySlice 59 70 2 := ⟨fun _ => by kernel_rfl, fun _ => by kernel_rfl⟩
instance : TyFill 70 2 := ⟨(.agg #[(.int .i64 0), (.string ⟨#[]⟩)]), rfl, fun _ => by kernel_rfl⟩
instance : TyApp 59 70 2 24 := ⟨by kernel_rfl, ⟨(.agg #[(.int .i64 0), (.string ⟨#[]⟩)]), by kernel_rfl, rfl⟩, by decide⟩
instance : TyAgg 61 3 := ⟨fun _ => by kernel_rfl⟩
instance : TySize 61 3 := ⟨fun _ => by kernel_rfl⟩
instance : TyZero 61 [(.int .i64 0), (.int .i64 0), (.string ⟨#[]⟩)] := ⟨(.agg #[(.int .i64 0), (.int .i64 0), (.string ⟨#[]⟩)]), rfl, fun _ => by kernel_rfl⟩
instance : Fld 61 0 0 := ⟨fun _ _ => by kernel_rfl⟩
instance : Fld 61 1 1 := ⟨fun _ _ => by kernel_rfl⟩
instance : Fld 61 2 2 := ⟨fun _ _ => by kernel_rfl⟩
instance : TyStruct 61 [(.int .i64 0), (.int .i64 0), (.string ⟨#[]⟩)] [(0, 1), (1, 1), (2, 1)] := ⟨fun _ _ => by kernel_rfl⟩
instance : TyEqS 61 [(3, 0), (3, 1), (9, 2)] := ⟨⟨fieldsOf 61, fun _ => by kernel_rfl, by kernel_rfl, by kernel_rfl⟩, by kernel_rfl, by kernel_rfl⟩
instance : Fld1 61 0 0 := ⟨fun _ _ => by kernel_rfl⟩
instance : Fld1 61 1 1 := ⟨fun _ _ => by kernel_rfl⟩
instance : Fld1 61 2 2 := ⟨fun _ _ => by kernel_rfl⟩
instance : TyAgg 63 5 := ⟨fun _ => by kernel_rfl⟩
instance : TySize 63 5 := ⟨fun _ => by kernel_rfl⟩
instance : TyZero 63 [(.slice none 0 0), (.slice none 0 0), (.int .i64 0), (.int .i64 0), (.string ⟨#[]⟩)] := ⟨(.agg #[(.slice none 0 0), (.slice none 0 0), (.int .i64 0), (.int .i64 0), (.string ⟨#[]⟩)]), rfl, fun _ => by kernel_rfl⟩
instance : Fld 63 0 0 := ⟨fun _ _ => by kernel_rfl⟩
instance : Fld 63 1 1 := ⟨fun _ _ => by kernel_rfl⟩
instance : Fld 63 2 2 := ⟨fun _ _ => by kernel_rfl⟩
instance : TyStruct 63 [(.slice none 0 0), (.slice none 0 0), (.int .i64 0), (.int .i64 0), (.string ⟨#[]⟩)] [(0, 1), (1, 1), (2, 3)] := ⟨fun _ _ => by kernel_rfl⟩
instance : Fld1 63 0 0 := ⟨fun _ _ => by kernel_rfl⟩
instance : Fld1 63 1 1 := ⟨fun _ _ => by kernel_rfl⟩
instance : FldN 63 2 2 3 := ⟨fun _ _ => by kernel_rfl⟩
instance : TyOne 67 := ⟨fun _ => by kernel_rfl⟩
instance : TySize 67 1 := ⟨fun _ => by kernel_rfl⟩
instance : ZeroV 67 (.slice none 0 0) := ⟨fun _ => by kernel_rfl⟩
instance : TyZero 67 [(.slice none 0 0)] := ⟨(.slice none 0 0), rfl, fun _ => by kernel_rfl⟩
instance : TySlice 67 5 1 := ⟨fun _ => by kernel_rfl, fun _ => by kernel_rfl⟩
instance : TyFill 5 1 := ⟨(.int .u8 0), rfl, fun _ => by kernel_rfl⟩
instance : TyApp 67 5 1 1 := ⟨by kernel_rfl, ⟨(.int .u8 0), by kernel_rfl, rfl⟩, by decide⟩
instance : TyOne 68 := ⟨fun _ => by kernel_rfl⟩
instance : TySize 68 1 := ⟨fun _ => by kernel_rfl⟩
instance : ZeroV 68 (.slice none 0 0) := ⟨fun _ => by kernel_rfl⟩
instance : TyZero 68 [(.slice none 0 0)] := ⟨(.slice none 0 0), rfl, fun _ => by kernel_rfl⟩
instance : TySlice 68 3 1 := ⟨fun _ => by kernel_rfl, fun _ => by kernel_rfl⟩
instance : TyFill 3 1 := ⟨(.int .i64 0), rfl, fun _ => by kernel_rfl⟩
instance : TyApp 68 3 1 8 := ⟨by kernel_rfl, ⟨(.int .i64 0), by kernel_rfl, rfl⟩, by decide⟩
instance : TyAgg 70 2 := ⟨fun _ => by kernel_rfl⟩
instance : TySize 70 2 := ⟨fun _ => by kernel_rfl⟩
instance : TyZero 70 [(.int .i64 0), (.string ⟨#[]⟩)] := ⟨(.agg #[(.int .i64 0), (.string ⟨#[]⟩)]), rfl, fun _ => by kernel_rfl⟩
instance : Fld 70 0 0 := ⟨fun _ _ => by kernel_rfl⟩
instance : Fld 70 1 1 := ⟨fun _ _ => by kernel_rfl⟩
instance : TyStruct 70 [(.int .i64 0), (.string ⟨#[]⟩)] [(0, 1), (1, 1)] := ⟨fun _ _ => by kernel_rfl⟩
instance : TyEqS 70 [(3, 0), (9, 1)] := ⟨⟨fieldsOf 70, fun _ => by kernel_rfl, by kernel_rfl, by kernel_rfl⟩, by kernel_rfl, by kernel_rfl⟩
instance : Fld1 70 0 0 := ⟨fun _ _ => by kernel_rfl⟩
instance : Fld1 70 1 1 := ⟨fun _ _ => by kernel_rfl⟩
instance : TyAgg 73 3 := ⟨fun _ => by kernel_rfl⟩
instance : TySize 73 3 := ⟨fun _ => by kernel_rfl⟩
instance : TyZero 73 [(.int .i64 0), (.string ⟨#[]⟩), (.bool false)] := ⟨(.agg #[(.int .i64 0), (.string ⟨#[]⟩), (.bool false)]), rfl, fun _ => by kernel_rfl⟩
instance : Fld 73 0 0 := ⟨fun _ _ => by kernel_rfl⟩
instance : Fld 73 1 1 := ⟨fun _ _ => by kernel_rfl⟩
instance : Fld 73 2 2 := ⟨fun _ _ => by kernel_rfl⟩
instance : TyStruct 73 [(.int .i64 0), (.string ⟨#[]⟩), (.bool false)] [(0, 1), (1, 1), (2, 1)] := ⟨fun _ _ => by kernel_rfl⟩
instance : TyEqS 73 [(3, 0), (9, 1), (4, 2)] := ⟨⟨fieldsOf 73, fun _ => by kernel_rfl, by kernel_rfl, by kernel_rfl⟩, by kernel_rfl, by kernel_rfl⟩
instance : Fld1 73 0 0 := ⟨fun _ _ => by kernel_rfl⟩
instance : Fld1 73 1 1 := ⟨fun _ _ => by kernel_rfl⟩
instance : Fld1 73 2 2 := ⟨fun _ _ => by kernel_rfl⟩
instance : TyAgg 86 2 := ⟨fun _ => by kernel_rfl⟩
instance : TySize 86 2 := ⟨fun _ => by kernel_rfl⟩
instance : TyZero 86 [(.string ⟨#[]⟩), (.int .i64 0)] := ⟨(.agg #[(.string ⟨#[]⟩), (.int .i64 0)]), rfl, fun _ => by kernel_rfl⟩
instance : Fld 86 0 0 := ⟨fun _ _ => by kernel_rfl⟩
instance : Fld 86 1 1 := ⟨fun _ _ => by kernel_rfl⟩
instance : TyStruct 86 [(.string ⟨#[]⟩), (.int .i64 0)] [(0, 1), (1, 1)] := ⟨fun _ _ => by kernel_rfl⟩
instance : TyEqS 86 [(9, 0), (31, 1)] := ⟨⟨fieldsOf 86, fun _ => by kernel_rfl, by kernel_rfl, by kernel_rfl⟩, by kernel_rfl, by kernel_rfl⟩
instance : Fld1 86 0 0 := ⟨fun _ _ => by kernel_rfl⟩
instance : Fld1 86 1 1 := ⟨fun _ _ => by kernel_rfl⟩
instance : TyOne 98 := ⟨fun _ => by kernel_rfl⟩
instance : TySize 98 1 := ⟨fun _ => by kernel_rfl⟩
instance : ZeroV 98 .nilFunc := ⟨fun _ => by kernel_rfl⟩
instance : TyZero 98 [.nilFunc] := ⟨.nilFunc, rfl, fun _ => by kernel_rfl⟩
instance : TyOne 100 := ⟨fun _ => by kernel_rfl⟩
instance : TySize 100 1 := ⟨fun _ => by kernel_rfl⟩
instance : ZeroV 100 (.map none) := ⟨fun _ => by kernel_rfl⟩
instance : TyZero 100 [(.map none)] := ⟨(.map none), rfl, fun _ => by kernel_rfl⟩
instance : TyMap 100 3 98 := ⟨fun _ => by kernel_rfl⟩
instance : TyOne 105 := ⟨fun _ => by kernel_rfl⟩
instance : TySize 105 1 := ⟨fun _ => by kernel_rfl⟩
instance : ZeroV 105 .nilFunc := ⟨fun _ => by kernel_rfl⟩
instance : TyZero 105 [.nilFunc] := ⟨.nilFunc, rfl, fun _ => by kernel_rfl⟩
instance : TyOne 108 := ⟨fun _ => by kernel_rfl⟩
instance : TySize 108 1 := ⟨fun _ => by kernel_rfl⟩
instance : ZeroV 108 .nilFunc := ⟨fun _ => by kernel_rfl⟩
instance : TyZero 108 [.nilFunc] := ⟨.nilFunc, rfl, fun _ => by kernel_rfl⟩
instance : TyOne 109 := ⟨fun _ => by kernel_rfl⟩
instance : TySize 109 1 := ⟨fun _ => by kernel_rfl⟩
instance : ZeroV 109 .nilFunc := ⟨fun _ => by kernel_rfl⟩
instance : TyZero 109 [.nilFunc] := ⟨.nilFunc, rfl, fun _ => by kernel_rfl⟩
instance : TyOne 113 := ⟨fun _ => by kernel_rfl⟩
instance : TySize 113 1 := ⟨fun _ => by kernel_rfl⟩
instance : ZeroV 113 (.pointer none) := ⟨fun _ => by kernel_rfl⟩
instance : TyZero 113 [(.pointer none)] := ⟨(.pointer none), rfl, fun _ => by kernel_rfl⟩
instance : TyOne 116 := ⟨fun _ => by kernel_rfl⟩
instance : TySize 116 1 := ⟨fun _ => by kernel_rfl⟩
instance : ZeroV 116 (.pointer none) := ⟨fun _ => by kernel_rfl⟩
instance : TyZero 116 [(.pointer none)] := ⟨(.pointer none), rfl, fun _ => by kernel_rfl⟩
instance : TyAgg 120 6 := ⟨fun _ => by kernel_rfl⟩
instance : TySize 120 6 := ⟨fun _ => by kernel_rfl⟩
instance : TyZero 120 [(.string ⟨#[]⟩), (.string ⟨#[]⟩), (.string ⟨#[]⟩), (.string ⟨#[]⟩), (.string ⟨#[]⟩), (.string ⟨#[]⟩)] := ⟨(.agg #[(.string ⟨#[]⟩), (.string ⟨#[]⟩), (.string ⟨#[]⟩), (.string ⟨#[]⟩), (.string ⟨#[]⟩), (.string ⟨#[]⟩)]), rfl, fun _ => by kernel_rfl⟩
instance : TyArr 120 6 9 1 := ⟨fun _ => by kernel_rfl, fun _ => by kernel_rfl⟩
instance : TyOne 122 := ⟨fun _ => by kernel_rfl⟩
instance : TySize 122 1 := ⟨fun _ => by kernel_rfl⟩
instance : ZeroV 122 .nilFunc := ⟨fun _ => by kernel_rfl⟩
instance : TyZero 122 [.nilFunc] := ⟨.nilFunc, rfl, fun _ => by kernel_rfl⟩
instance : TyOne 123 := ⟨fun _ => by kernel_rfl⟩
instance : TySize 123 1 := ⟨fun _ => by kernel_rfl⟩
instance : ZeroV 123 (.map none) := ⟨fun _ => by kernel_rfl⟩
instance : TyZero 123 [(.map none)] := ⟨(.map none), rfl, fun _ => by kernel_rfl⟩
instance : TyMap 123 3 9 := ⟨fun _ => by kernel_rfl⟩
instance : TyOne 125 := ⟨fun _ => by kernel_rfl⟩
instance : TySize 125 1 := ⟨fun _ => by kernel_rfl⟩
instance : ZeroV 125 (.map none) := ⟨fun _ => by kernel_rfl⟩
instance : TyZero 125 [(.map none)] := ⟨(.map none), rfl, fun _ => by kernel_rfl⟩
instance : TyMap 125 5 122 := ⟨fun _ => by kernel_rfl⟩
instance : TyOne 129 := ⟨fun _ => by kernel_rfl⟩
instance : TySize 129 1 := ⟨fun _ => by kernel_rfl⟩
instance : ZeroV 129 .nilFunc := ⟨fun _ => by kernel_rfl⟩
instance : TyZero 129 [.nilFunc] := ⟨.nilFunc, rfl, fun _ => by kernel_rfl⟩
instance : TyOne 131 := ⟨fun _ => by kernel_rfl⟩
instance : TySize 131 1 := ⟨fun _ => by kernel_rfl⟩
instance : ZeroV 131 (.slice none 0 0) := ⟨fun _ => by kernel_rfl⟩
instance : TyZero 131 [(.slice none 0 0)] := ⟨(.slice none 0 0), rfl, fun _ => by kernel_rfl⟩
instance : TySlice 131 9 1 := ⟨fun _ => by kernel_rfl, fun _ => by kernel_rfl⟩
instance : TyFill 9 1 := ⟨(.string ⟨#[]⟩), rfl, fun _ => by kernel_rfl⟩
instance : TyApp 131 9 1 16 := ⟨by kernel_rfl, ⟨(.string ⟨#[]⟩), by kernel_rfl, rfl⟩, by decide⟩
instance : TyAgg 134 1 := ⟨fun _ => by kernel_rfl⟩
instance : TySize 134 1 := ⟨fun _ => by kernel_rfl⟩
instance : TyZero 134 [(.slice none 0 0)] := ⟨(.agg #[(.slice none 0 0)]), rfl, fun _ => by kernel_rfl⟩
instance : Fld 134 0 0 := ⟨fun _ _ => by kernel_rfl⟩
instance : TyStruct 134 [(.slice none 0 0)] [(0, 1)] := ⟨fun _ _ => by kernel_rfl⟩
instance : FldN 134 0 0 1 := ⟨fun _ _ => by kernel_rfl⟩
instance : TyOne 138 := ⟨fun _ => by kernel_rfl⟩
instance : TySize 138 1 := ⟨fun _ => by kernel_rfl⟩
instance : ZeroV 138 (.map none) := ⟨fun _ => by kernel_rfl⟩
instance : TyZero 138 [(.map none)] := ⟨(.map none), rfl, fun _ => by kernel_rfl⟩
instance : TyMap 138 3 4 := ⟨fun _ => by kernel_rfl⟩
instance : TyOne 142 := ⟨fun _ => by kernel_rfl⟩
instance : TySize 142 1 := ⟨fun _ => by kernel_rfl⟩
instance : ZeroV 142 .nilFunc := ⟨fun _ => by kernel_rfl⟩
instance : TyZero 142 [.nilFunc] := ⟨.nilFunc, rfl, fun _ => by kernel_rfl⟩
instance : TyOne 145 := ⟨fun _ => by kernel_rfl⟩
instance : TySize 145 1 := ⟨fun _ => by kernel_rfl⟩
instance : ZeroV 145 .nilFunc := ⟨fun _ => by kernel_rfl⟩
instance : TyZero 145 [.nilFunc] := ⟨.nilFunc, rfl, fun _ => by kernel_rfl⟩
instance : TyOne 146 := ⟨fun _ => by kernel_rfl⟩
instance : TySize 146 1 := ⟨fun _ => by kernel_rfl⟩
instance : ZeroV 146 .nilFunc := ⟨fun _ => by kernel_rfl⟩
instance : TyZero 146 [.nilFunc] := ⟨.nilFunc, rfl, fun _ => by kernel_rfl⟩
instance : TyOne 147 := ⟨fun _ => by kernel_rfl⟩
instance : TySize 147 1 := ⟨fun _ => by kernel_rfl⟩
instance : ZeroV 147 .nilFunc := ⟨fun _ => by kernel_rfl⟩
instance : TyZero 147 [.nilFunc] := ⟨.nilFunc, rfl, fun _ => by kernel_rfl⟩
instance : TyOne 152 := ⟨fun _ => by kernel_rfl⟩
instance : TySize 152 1 := ⟨fun _ => by kernel_rfl⟩
instance : ZeroV 152 (.pointer none) := ⟨fun _ => by kernel_rfl⟩
instance : TyZero 152 [(.pointer none)] := ⟨(.pointer none), rfl, fun _ => by kernel_rfl⟩
instance : TyOne 154 := ⟨fun _ => by kernel_rfl⟩
instance : TySize 154 1 := ⟨fun _ => by kernel_rfl⟩
instance : ZeroV 154 .nilFunc := ⟨fun _ => by kernel_rfl⟩
instance : TyZero 154 [.nilFunc] := ⟨.nilFunc, rfl, fun _ => by kernel_rfl⟩
instance : TyOne 163 := ⟨fun _ => by kernel_rfl⟩
instance : TySize 163 1 := ⟨fun _ => by kernel_rfl⟩
instance : ZeroV 163 (.int .u64 0) := ⟨fun _ => by kernel_rfl⟩
instance : TyZero 163 [(.int .u64 0)] := ⟨(.int .u64 0), rfl, fun _ => by kernel_rfl⟩
instance : TyInt 163 .u64 := ⟨fun _ => by kernel_rfl⟩
instance : Enters 12 := ⟨fun _ _ => by kernel_rfl⟩
instance : Enters 13 := ⟨fun _ _ => by kernel_rfl⟩
instance : Enters 14 := ⟨fun _ _ => by kernel_rfl⟩
instance : Enters 15 := ⟨fun _ _ => by kernel_rfl⟩
instance : Enters 16 := ⟨fun _ _ => by kernel_rfl⟩
instance : Enters 17 := ⟨fun _ _ => by kernel_rfl⟩
instance : Enters 18 := ⟨fun _ _ => by kernel_rfl⟩
instance : Enters 19 := ⟨fun _ _ => by kernel_rfl⟩
instance : Enters 20 := ⟨fun _ _ => by kernel_rfl⟩
instance : Enters 21 := ⟨fun _ _ => by kernel_rfl⟩
instance : Enters 22 := ⟨fun _ _ => by kernel_rfl⟩
instance : Enters 23 := ⟨fun _ _ => by kernel_rfl⟩
instance : Enters 24 := ⟨fun _ _ => by kernel_rfl⟩
instance : Enters 25 := ⟨fun _ _ => by kernel_rfl⟩
instance : Enters 26 := ⟨fun _ _ => by kernel_rfl⟩
instance : Enters 27 := ⟨fun _ _ => by kernel_rfl⟩
instance : Enters 28 := ⟨fun _ _ => by kernel_rfl⟩
instance : Enters 29 := ⟨fun _ _ => by kernel_rfl⟩
instance : Enters 30 := ⟨fun _ _ => by kernel_rfl⟩
instance : Enters 31 := ⟨fun _ _ => by kernel_rfl⟩
instance : Enters 32 := ⟨fun _ _ => by kernel_rfl⟩
instance : Enters 33 := ⟨fun _ _ => by kernel_rfl⟩
instance : Enters 34 := ⟨fun _ _ => by kernel_rfl⟩
instance : Enters 35 := ⟨fun _ _ => by kernel_rfl⟩
instance : Enters 36 := ⟨fun _ _ => by kernel_rfl⟩
instance : Enters 37 := ⟨fun _ _ => by kernel_rfl⟩
instance : Enters 38 := ⟨fun _ _ => by kernel_rfl⟩
instance : Enters 39 := ⟨fun _ _ => by kernel_rfl⟩
instance : Enters 40 := ⟨fun _ _ => by kernel_rfl⟩
instance : Enters 41 := ⟨fun _ _ => by kernel_rfl⟩
instance : Enters 42 := ⟨fun _ _ => by kernel_rfl⟩
instance : Enters 43 := ⟨fun _ _ => by kernel_rfl⟩
instance : Enters 44 := ⟨fun _ _ => by kernel_rfl⟩
instance : Enters 45 := ⟨fun _ _ => by kernel_rfl⟩
instance : Enters 46 := ⟨fun _ _ => by kernel_rfl⟩
instance : Enters 47 := ⟨fun _ _ => by kernel_rfl⟩
instance : Enters 48 := ⟨fun _ _ => by kernel_rfl⟩
instance : Enters 49 := ⟨fun _ _ => by kernel_rfl⟩
instance : Enters 50 := ⟨fun _ _ => by kernel_rfl⟩
instance : Enters 51 := ⟨fun _ _ => by kernel_rfl⟩
instance : Enters 52 := ⟨fun _ _ => by kernel_rfl⟩
instance : Enters 53 := ⟨fun _ _ => by kernel_rfl⟩
instance : Enters 54 := ⟨fun _ _ => by kernel_rfl⟩
instance : Enters 55 := ⟨fun _ _ => by kernel_rfl⟩
instance : Enters 56 := ⟨fun _ _ => by kernel_rfl⟩
instance : Enters 57 := ⟨fun _ _ => by kernel_rfl⟩
instance : Enters 58 := ⟨fun _ _ => by kernel_rfl⟩
instance : Enters 59 := ⟨fun _ _ => by kernel_rfl⟩
instance : Enters 60 := ⟨fun _ _ => by kernel_rfl⟩
instance : Enters 61 := ⟨fun _ _ => by kernel_rfl⟩
instance : Enters 62 := ⟨fun _ _ => by kernel_rfl⟩
instance : Enters 63 := ⟨fun _ _ => by kernel_rfl⟩
instance : Enters 64 := ⟨fun _ _ => by kernel_rfl⟩
instance : Enters 65 := ⟨fun _ _ => by kernel_rfl⟩
instance : Enters 66 := ⟨fun _ _ => by kernel_rfl⟩
instance : Enters 67 := ⟨fun _ _ => by kernel_rfl⟩
instance : Enters 68 := ⟨fun _ _ => by kernel_rfl⟩
instance : Enters 69 := ⟨fun _ _ => by kernel_rfl⟩
instance : Enters 70 := ⟨fun _ _ => by kernel_rfl⟩
instance : Enters 71 := ⟨fun _ _ => by kernel_rfl⟩
instance : Enters 72 := ⟨fun _ _ => by kernel_rfl⟩
instance : Enters 73 := ⟨fun _ _ => by kernel_rfl⟩
instance : Enters 74 := ⟨fun _ _ => by kernel_rfl⟩
instance : Enters 75 := ⟨fun _ _ => by kernel_rfl⟩
instance : Enters 76 := ⟨fun _ _ => by kernel_rfl⟩
instance : Enters 77 := ⟨fun _ _ => by kernel_rfl⟩
instance : Enters 78 := ⟨fun _ _ => by kernel_rfl⟩
instance : Enters 79 := ⟨fun _ _ => by kernel_rfl⟩
instance : Enters 80 := ⟨fun _ _ => by kernel_rfl⟩
instance : Enters 81 := ⟨fun _ _ => by kernel_rfl⟩
instance : Enters 82 := ⟨fun _ _ => by kernel_rfl⟩
instance : Enters 83 := ⟨fun _ _ => by kernel_rfl⟩
instance : Enters 84 := ⟨fun _ _ => by kernel_rfl⟩
instance : Enters 85 := ⟨fun _ _ => by kernel_rfl⟩
instance : Enters 86 := ⟨fun _ _ => by kernel_rfl⟩
instance : Enters 87 := ⟨fun _ _ => by kernel_rfl⟩
instance : Enters 88 := ⟨fun _ _ => by kernel_rfl⟩
instance : Enters 89 := ⟨fun _ _ => by kernel_rfl⟩
instance : Enters 90 := ⟨fun _ _ => by kernel_rfl⟩
instance : Enters 91 := ⟨fun _ _ => by kernel_rfl⟩
instance : Enters 92 := ⟨fun _ _ => by kernel_rfl⟩
instance : Enters 93 := ⟨fun _ _ => by kernel_rfl⟩
instance : Enters 94 := ⟨fun _ _ => by kernel_rfl⟩
instance : Enters 95 := ⟨fun _ _ => by kernel_rfl⟩
instance : Enters 96 := ⟨fun _ _ => by kernel_rfl⟩
instance : Enters 97 := ⟨fun _ _ => by kernel_rfl⟩
instance : Enters 98 := ⟨fun _ _ => by kernel_rfl⟩
instance : Enters 99 := ⟨fun _ _ => by kernel_rfl⟩
instance : Enters 100 := ⟨fun _ _ => by kernel_rfl⟩
instance : Enters 101 := ⟨fun _ _ => by kernel_rfl⟩
instance : Enters 102 := ⟨fun _ _ => by kernel_rfl⟩
instance : Enters 103 := ⟨fun _ _ => by kernel_rfl⟩
instance : Enters 104 := ⟨fun _ _ => by kernel_rfl⟩
instance : Enters 105 := ⟨fun _ _ => by kernel_rfl⟩
instance : Enters 106 := ⟨fun _ _ => by kernel_rfl⟩
instance : Enters 107 := ⟨fun _ _ => by kernel_rfl⟩
instance : Enters 108 := ⟨fun _ _ => by kernel_rfl⟩
instance : Enters 109 := ⟨fun _ _ => by kernel_rfl⟩
instance : Enters 110 := ⟨fun _ _ => by kernel_rfl⟩
instance : Enters 111 := ⟨fun _ _ => by kernel_rfl⟩
instance : Enters 112 := ⟨fun _ _ => by kernel_rfl⟩
instance : Enters 113 := ⟨fun _ _ => by kernel_rfl⟩
instance : Enters 114 := ⟨fun _ _ => by kernel_rfl⟩
instance : Enters 115 := ⟨fun _ _ => by kernel_rfl⟩
instance : Enters 116 := ⟨fun _ _ => by kernel_rfl⟩
instance : Enters 117 := ⟨fun _ _ => by kernel_rfl⟩
instance : Enters 118 := ⟨fun _ _ => by kernel_rfl⟩
instance : Enters 119 := ⟨fun _ _ => by kernel_rfl⟩
instance : Enters 120 := ⟨fun _ _ => by kernel_rfl⟩
instance : Enters 121 := ⟨fun _ _ => by kernel_rfl⟩
instance : Enters 122 := ⟨fun _ _ => by kernel_rfl⟩
instance : Enters 124 := ⟨fun _ _ => by kernel_rfl⟩
instance : EntersX 125 Extern.BytealgIndexByte.indexByte := ⟨fun _ _ => by kernel_rfl⟩
end Go.Proofs.Ytjnckainogpenaa
