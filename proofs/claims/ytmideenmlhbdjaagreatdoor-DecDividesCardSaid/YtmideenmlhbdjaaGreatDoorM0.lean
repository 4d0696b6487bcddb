/- Texts joined: Q1, Q2, Q3, Q4, Q5, Q6, QR. -/
import Derived.RangeFuncLeaves
import Derived.RangeFuncIn
import Derived.OrdersIn
import Derived.KernelRfl
import Derived.Laws.Sem
import Derived.Scope
import Derived.TacticsIn
import Derived.OrdersHeld
import Derived.Test.YtmideenmlhbdjaaGreatDoorProg
import Derived.RecoverIn
set_option linter.unusedSimpArgs false
set_option linter.unusedVariables false
set_option linter.unusedSectionVars false
section
namespace Go.Proofs.YtmideenmlhbdjaaGreatDoor.Q
open Go
abbrev Env:=Nat->Value
def upd (e:Env) (d:Nat) (v:Value):Env:=fun i=>bif Nat.beq i d then v else e i
def memB (i:Nat):List Nat->Bool
 | []=>false
 | j :: js=>bif Nat.beq i j then true else memB i js
def subB:List Nat->List Nat->Bool
 | [],_=>true
 | i :: is,l=>bif memB i l then subB is l else false
def mixL:List Nat->List Value->Env->Env
 | i :: is,v :: vs,e=>upd (mixL is vs e) i v
 | _,_,e=>e
def mix (live:List Nat) (l:List Value) (ms:List Nat) (g e:Env):Env:=mixL live l (fun i=>bif memB i ms then g i else e i)
def AllV:Nat->(List Value->Prop)->Prop
 | 0,p=>p []
 | n + 1,p=>∀ v,AllV n fun l=>p (v :: l)
theorem AllV.elim:∀ {n:Nat} {p:List Value->Prop},AllV n p->∀ l:List Value,l.length = n->p l
 | 0,_,h,[],_=>h
 | n + 1,_,h,v :: l,hl=>AllV.elim (h v) l (by simpa using hl)
theorem AllV.intro:∀ {n:Nat} {p:List Value->Prop},(∀ l:List Value,l.length = n->p l)->AllV n p
 | 0,_,h=>h [] rfl
 | n + 1,_,h=>fun v=>AllV.intro fun l hl=>h (v :: l) (by simp [hl])
theorem upd_same (e:Env) (d:Nat) (v:Value):upd e d v d = v:=by simp [upd]
theorem upd_ne (e:Env) (d:Nat) (v:Value) {i:Nat} (h:i ≠ d):upd e d v i = e i:=by
 have:Nat.beq i d = false:=by rw [<- Bool.not_eq_true,Nat.beq_eq]; exact h
 simp [upd,this]
theorem memB_iff {i:Nat}:∀ {l:List Nat},memB i l = true ↔ i ∈ l
 | []=>by simp [memB]
 | j :: js=>by
  unfold memB
  cases h:Nat.beq i j with
  | true=>rw [Nat.beq_eq] at h; simp [h]
  | false=>
   have:i ≠ j:=fun e=>by rw [<- Nat.beq_eq] at e; rw [e] at h; cases h
   simp [this,memB_iff (l:=js)]
theorem subB_spec:∀ {l m:List Nat},subB l m = true->∀ i ∈ l,i ∈ m
 | [],_,_,i,hi=>by cases hi
 | j :: js,m,h,i,hi=>by
  unfold subB at h
  cases hj:memB j m with
  | false=>simp [hj] at h
  | true=>
   simp only [hj,cond_true] at h
   rcases List.mem_cons.1 hi with rfl | hi
   ·exact memB_iff.1 hj
   ·exact subB_spec h i hi
theorem mixL_same:∀ (live:List Nat) (e f:Env),(∀ i,i ∉ live->f i = e i)->∀ i,mixL live (live.map e) f i = e i
 | [],e,f,h,i=>h i (by simp)
 | j :: js,e,f,h,i=>by
  simp only [List.map_cons,mixL]
  by_cases hij:i = j
  ·subst hij; exact upd_same ..
  ·rw [upd_ne _ _ _ hij]
   exact mixL_map_ne js e f i fun hn=>h i (by simp [hij,hn])
where
 mixL_map_ne:∀ (live:List Nat) (e f:Env) (i:Nat),(i ∉ live->f i = e i)->mixL live (live.map e) f i = e i
  | [],e,f,i,h=>h (by simp)
  | j :: js,e,f,i,h=>by
   simp only [List.map_cons,mixL]
   by_cases hij:i = j
   ·subst hij; exact upd_same ..
   ·rw [upd_ne _ _ _ hij]
    exact mixL_map_ne js e f i fun hn=>h (by simp [hij,hn])
theorem mix_of (live ms:List Nat) (e e':Env) (h:∀ i,i ∉ ms->e' i = e i):mix live (live.map e') ms e' e = e':=by
 funext i
 unfold mix;refine mixL_same live e' _ (fun i _=>?_) i
 cases hm:memB i ms with
 | true=>rfl
 | false=>
  refine (h i fun hi=>?_).symm;rw [memB_iff.2 hi] at hm; cases hm
theorem mixL_out:∀ (live:List Nat) (l:List Value) (f:Env) (i:Nat),i ∉ live->mixL live l f i = f i
 | [],_,f,i,_=>by simp [mixL]
 | j :: js,[],f,i,_=>by simp [mixL]
 | j :: js,v :: vs,f,i,h=>by
  simp only [mixL];rw [upd_ne _ _ _ (fun e=>h (by simp [e]))];exact mixL_out js vs f i fun hn=>h (by simp [hn])
theorem mix_out {live ms:List Nat} {l:List Value} {g e:Env} {i:Nat} (h1:i ∉ live) (h2:i ∉ ms):mix live l ms g e i = e i:=by
 unfold mix;rw [mixL_out _ _ _ _ h1]
 cases hm:memB i ms with
 | true=>exact absurd (memB_iff.1 hm) h2
 | false=>rfl
def ev (n:Nat) (e:Env):Operand->Value
 | .tmp t=>bif Nat.blt t n then e t else undef
 | .const v=>v
 | .global g=>.pointer (some ⟨g,0,none⟩)
 | .func f=>.func (.func f) #[] #[]
def marksF:Nat->Value->List Nat
 | k + 1,.iface r v=>r :: marksF k v
 | _,_=>[]
def depth:Value->Nat
 | .iface _ v=>depth v + 1
 | _=>0
def marks (v:Value):List Nat:=marksF (depth v) v
theorem marks_iface (r:Nat) (v:Value):marks (.iface r v) = r :: marks v:=rfl
def markD (r:Nat):Deferred:={ target:=.collected r,args:=#[] }
def clo:Value->List Deferred
 | .func fn first captured=>[{ target:=.fn fn captured,args:=first }]
 | _=>[]
abbrev PnT:=List PanicEntry->World->Prop
structure Agree (n:Nat) (e:Env) (a:Act):Prop where
 size:a.tmps.size = n
 at_:∀ i,i < n->a.tmps.getD i undef = e i
 defers:a.defers = (marks (e n)).map markD ++ clo (e (n + 1))
theorem blt_iff {t n:Nat}:Nat.blt t n = true ↔ t < n:=by rw [Nat.blt_eq]
theorem blt_true {t n:Nat} (h:t < n):Nat.blt t n = true:=blt_iff.2 h
theorem blt_false {t n:Nat} (h:¬ t < n):Nat.blt t n = false:=by
 cases hb:Nat.blt t n with
 | false=>rfl
 | true=>exact absurd (blt_iff.1 hb) h
theorem Agree.ev {n:Nat} {e:Env} {a:Act} (h:Agree n e a) (x:Operand):a.eval x = Q.ev n e x:=by
 cases x with
 | tmp t=>
  simp only [Act.eval,Q.ev]
  by_cases ht:t < n
  ·rw [blt_true ht,cond_true,<- h.at_ t ht]
  ·have hle:a.tmps.size <= t:=by rw [h.size]; exact Nat.le_of_not_lt ht
   rw [blt_false ht,cond_false,Array.getD_eq_getD_getElem?,Array.getElem?_eq_none hle]; rfl
 | _=>rfl
theorem Agree.evf {n:Nat} {e:Env} {a:Act} (h:Agree n e a):a.eval = Q.ev n e:=funext h.ev
theorem Agree.put {n:Nat} {e:Env} {a:Act} (h:Agree n e a) {d:Nat} (hd:d < n) (v:Value):Agree n (upd e d v) (a.put (some d) v) where
 size:=by simp [Act.put,h.size]
 at_:=fun i hi=>by
  by_cases hid:i = d
  ·subst hid
   rw [upd_same];simp [Act.put,Array.getD_eq_getD_getElem?,h.size,hi]
  ·rw [upd_ne _ _ _ hid,<- h.at_ i hi]
   simp [Act.put,Array.getD_eq_getD_getElem?,Array.getElem?_setIfInBounds_ne (Ne.symm hid)]
 defers:=by
  rw [upd_ne _ _ _ (by omega:n ≠ d),upd_ne _ _ _ (by omega:n + 1 ≠ d)];exact h.defers
theorem Agree.again {n:Nat} {e:Env} {a:Act} (h:Agree n e a) (d:Nat) (v:Value) (hv:e d = v):Agree n (upd e d v) a:=by
 have:upd e d v = e:=by
  funext i
  by_cases hid:i = d
  ·subst hid; rw [upd_same,hv]
  ·exact upd_ne _ _ _ hid
 rw [this]; exact h
inductive X where
 | normal
 | exit (id:Nat)
 | ret
def Sv (P:Program) (s:Sem Value) (w:World) (K:Value->World->Prop):Prop:=∃ v w',s.run P w = .ok v w'/\K v w'
def Su (P:Program) (s:Sem Unit) (w:World) (K:World->Prop):Prop:=∃ w',s.run P w = .ok () w'/\K w'
def CondW (c:Value) (A B:Prop):Prop:=∃ b,c = .bool b/\(b = true->A)/\(b = false->B)
def Pk (c a b:Value) (K:Value->Prop):Prop:=
 match c with
 | .bool t=>K (bif t then a else b)
 | _=>False
def NilW (v:Value) (K:Value->Prop):Prop:=
 match v with
 | .pointer none=>False
 | .pointer (some a)=>K (.pointer (some a))
 | v=>∃ a,v = .pointer (some a)/\K v
def callSem (f:Value) (args:Array Value):Sem Next:=do let d <- Deferred.ofValue f args; invoke d.target d.args
def retK (K:Value->World->Prop):Ending->World->Prop
 | .returned v,w=>K v w
 | _,_=>False
def retKP (K:Value->World->Prop) (Pn:PnT):Ending->World->Prop
 | .returned v,w=>K v w
 | .panicked c,w=>Pn c w
 | .outgrown,_=>False
def CallVP (P:Program) (Pn:PnT) (f:Value) (args:Array Value) (w:World) (K:Value->World->Prop):Prop:=
 match (callSem f args).run P w with
 | .ok (.value v) w'=>K v w'
 | .ok (.enter g ags) w'=>Calls P g ags w' (retKP K Pn)
 | .ok (.round l g tmps asg body) w'=>RoundIn Fence.wide 0 P l g tmps asg body w' (retKP K Pn)
 | _=>False
def PanW (Pn:PnT) (x:Value) (w:World):Prop:=∃ t v,x = .iface t v/\Pn [{ v:=x,recovered:=false }] w
def CallV (P:Program) (f:Value) (args:Array Value) (w:World) (K:Value->World->Prop):Prop:=
 match (callSem f args).run P w with
 | .ok (.value v) w'=>K v w'
 | .ok (.enter g ags) w'=>Calls P g ags w' (retK K)
 | .ok (.round l g tmps asg body) w'=>RoundIn Fence.wide 0 P l g tmps asg body w' (retK K)
 | _=>False
def mapE (n:Nat) (e:Env) (xs:Array Operand):Array Value:=(xs.toList.map (ev n e)).toArray
def mapP (n:Nat) (e:Env) (ps:Array (Nat × Operand)):Array (Nat × Value):=(ps.toList.map fun p=>(p.1,ev n e p.2)).toArray
def bsem (b:Builtin) (argTypes:Array TypeId) (type:TypeId) (args:Array Value):Option (Sem Value):=
 match b with
 | .append=>some (Builtin.append_ argTypes type args)
 | .len=>some (Builtin.len_ argTypes type args)
 | .cap=>some (Builtin.cap_ argTypes type args)
 | .copy=>some (Builtin.copy_ argTypes type args)
 | .delete=>some (Builtin.delete_ argTypes type args)
 | .clear=>some (Builtin.clear_ argTypes type args)
 | .min=>some (Builtin.min_ argTypes type args)
 | .max=>some (Builtin.max_ argTypes type args)
 | .unsafeSliceData=>some (Builtin.unsafeSliceData_ argTypes type args)
 | .unsafeString=>some (Builtin.unsafeString_ argTypes type args)
 | .unsafeStringData=>some (Builtin.unsafeStringData_ argTypes type args)
 | _=>none
def vsem (n:Nat) (e:Env) (o:Oper):Option (Sem Value):=
 match o.op with
 | .alloc elem=>some (Instr.alloc elem true (.tuple #[]))
 | .box elem x=>some (Instr.box elem (ev n e x))
 | .build t parts=>some (Instr.build t (mapP n e parts))
 | .buildSlice t len parts=>some (Instr.buildSlice t len (mapP n e parts))
 | .load t a=>some (Instr.loadAt t (ev n e a))
 | .waits g=>some (Instr.waits g)
 | .binOp op xType x y _=>some (do eqGuard op xType x y (ev n e x) (ev n e y); binOp op xType (ev n e x) (ev n e y))
 | .unOp op _ x=>some (Op.unary op (ev n e x))
 | .convert src dst x=>some (convert src dst (ev n e x))
 | .makeInterface xType x=>some (Instr.makeInterface xType (ev n e x))
 | .makeMap t r=>some (Instr.makeMap t (r.map (ev n e)))
 | .makeSlice t l c=>some (Instr.makeSlice t (ev n e l) (ev n e c))
 | .slice t x lo hi mx=>some (Instr.sliceAt t (ev n e x) (lo.map (ev n e)) (hi.map (ev n e)) (mx.map (ev n e)))
 | .fieldAddr s x f=>some (Instr.fieldAt s (ev n e x) f)
 | .field xType x f=>some (Instr.field xType (ev n e x) f)
 | .indexAddr t x ix=>some (Instr.indexAt t (ev n e x) (ev n e ix))
 | .index xType x ix=>some (Instr.index xType (ev n e x) (ev n e ix))
 | .lookup xType x ix ok=>some (Instr.lookup xType (ev n e x) (ev n e ix) ok)
 | .mapEntry t m k=>some (Instr.mapEntry t (ev n e m) (ev n e k))
 | .range xType x=>some (Instr.range xType (ev n e x))
 | .next it isString=>some (Instr.next (ev n e it) isString o.type)
 | .entry it=>some (Instr.entry (ev n e it))
 | .typeAssert x xType asserted ok=>some (Instr.typeAssert (ev n e x) xType asserted ok)
 | .extract t ix=>some (Instr.extract (ev n e t) ix)
 | .call c=>
  match c.callee with
  | .builtin b=>bsem b c.argTypes o.type (mapE n e c.args)
  | _=>none
 | _=>none
def moveA (n:Nat) (o:Oper) (e:Env) (K:Value->Prop):Option Prop:=
 match o.op with
 | .move x | .assign x=>some (K (ev n e x))
 | .pick c a b=>some (Pk (ev n e c) (ev n e a) (ev n e b) K)
 | .makeFunc fn f c=>some (K (.func fn (mapE n e f) (mapE n e c)))
 | .nilCheck x=>some (NilW (ev n e x) K)
 | _=>none
def valA (P:Program) (n:Nat) (pn:Option PnT) (o:Oper) (e:Env) (w:World) (K:Value->World->Prop):Prop:=
 match moveA n o e (fun v=>K v w) with
 | some p=>p
 | none=>
  match vsem n e o with
  | some s=>Sv P s w K
  | none=>
   match o.op with
   | .store t a x=>Su P (Instr.storeAt t (ev n e a) (ev n e x)) w (K undef)
   | .ready g=>Su P (Instr.ready g) w (K undef)
   | .mapUpdate t m k x | .insert t m k x=>Su P (Instr.mapUpdate t (ev n e m) (ev n e k) (ev n e x)) w (K undef)
   | .entryStore t m s x=>Su P (Instr.entryStore t (ev n e m) (ev n e s) (ev n e x)) w (K undef)
   | .call c=>
    match c.callee with
    | .value f=>match pn with
     | none=>CallV P (ev n e f) (mapE n e c.args) w K
     | some Pn=>CallVP P Pn (ev n e f) (mapE n e c.args) w K
    | _=>False
   | .panic x=>match pn with
    | none=>False
    | some Pn=>PanW Pn (ev n e x) w
   | _=>False
def dstA (n:Nat) (o:Oper) (e:Env) (v:Value) (K:Env->Prop):Prop:=
 match o.dst with
 | some d=>bif Nat.blt d n then K (upd e d v) else False
 | none=>K e
def FF (ro:Option Nat):Fence:={ Fence.wide with round:=ro }
theorem FF_depth (ro:Option Nat):(FF ro).depth.isSome = true->1 <= 0:=fun h=>by cases h
theorem callsIn_FF {ro:Option Nat} {k:Nat} {P:Program} {f:FuncId} {args:Array Value} {w:World} {R:Ending->World->Prop} (h:Calls P f args w R):CallsIn (FF ro) k P f args w R:=
 ⟨trivial,fun cs _=>let ⟨e,w',fr,r,s,x⟩:=(callsIn_wide (n:=k)).2 h |>.2 cs (room_wide _); ⟨e,w',fr,r,s,x⟩⟩
theorem roundIn_FF {ro:Option Nat} {k:Nat} {P:Program} {l:Nat} {f:FuncId} {tmps:Array Value} {asg body:Code} {w:World} {R:Ending->World->Prop} (h:RoundIn Fence.wide 0 P l f tmps asg body w R):RoundIn (FF ro) k P l f tmps asg body w R:=
 ⟨trivial,fun c cs _=>let ⟨e,w',r,s⟩:=h.2 c cs (room_wide _); ⟨e,w',r,s⟩⟩
theorem mapE_eq (n:Nat) (e:Env) (xs:Array Operand):mapE n e xs = xs.map (ev n e):=by
 apply Array.toList_inj.1; simp [mapE]
theorem mapP_eq (n:Nat) (e:Env) (ps:Array (Nat × Operand)):mapP n e ps = ps.map fun (i,x)=>(i,ev n e x):=by
 apply Array.toList_inj.1; simp [mapP]
def lift (s:Sem Value):Sem Next:=do pure (.value (<- s))
theorem lift_run {P:Program} {s:Sem Value} {w w':World} {v:Value} (h:s.run P w = .ok v w'):(lift s).run P w = .ok (.value v) w':=by
 simp only [lift,Sem.run_bind,h,Result.andThen_ok]; rfl
theorem vsem_exec {n:Nat} {e:Env} {o:Oper} {s:Sem Value} (h:vsem n e o = some s):execOp (ev n e) o = lift s:=by
 unfold vsem at h;unfold execOp lift
 split at h <;> rename_i hop <;> simp only [hop]
 all_goals first
  | (cases h; rfl)
  | (rw [mapP_eq] at h; cases h; rfl)
  | skip
 case h_25 c=>
  split at h
  ·rename_i b hc
   simp only [resolve,hc,pure_bind,invoke];rw [mapE_eq] at h
   cases b <;> simp only [bsem] at h <;> cases h <;> rfl
  ·cases h
 case h_26=>cases h
theorem moveA_lift {n:Nat} {e:Env} {o:Oper} {K:Value->Prop} {p:Prop} (h:moveA n o e K = some p) (hp:p) :
  ∃ v,execOp (ev n e) o = lift (.pure v)/\K v:=by
 unfold moveA at h;unfold execOp
 split at h <;> rename_i hop <;> simp only [hop]
 ·cases h; exact ⟨_,rfl,hp⟩
 ·cases h; exact ⟨_,rfl,hp⟩
 ·cases h
  unfold Pk at hp
  split at hp
  ·rename_i t hc
   refine ⟨_,?_,hp⟩;simp only [hc,asBool]
   cases t <;> rfl
  ·exact hp.elim
 ·cases h
  rw [mapE_eq,mapE_eq] at hp;exact ⟨_,rfl,hp⟩
 ·cases h
  unfold NilW at hp
  split at hp
  ·exact hp.elim
  ·rename_i hx; rw [hx]; exact ⟨_,rfl,hp⟩
  ·obtain ⟨ad,hv,hp⟩:=hp
   rw [hv] at hp ⊢;exact ⟨_,rfl,hp⟩
 ·cases h
theorem moveA_exec {P:Program} {n:Nat} {e:Env} {o:Oper} {K:Value->Prop} {p:Prop} (h:moveA n o e K = some p) (hp:p) :
  ∃ v,(∀ w,(execOp (ev n e) o).run P w = .ok (.value v) w)/\K v:=by
 obtain ⟨v,hx,hK⟩:=moveA_lift h hp;exact ⟨v,fun w=>by rw [hx]; rfl,hK⟩
theorem moveA_mono {n:Nat} {o:Oper} {e:Env} {K K':Value->Prop} {p:Prop} (h:moveA n o e K = some p) (hk:∀ v,K v->K' v):∃ p',moveA n o e K' = some p'/\(p->p'):=by
 unfold moveA at h ⊢
 split at h <;> rename_i hop <;> cases h <;> refine ⟨_,rfl,fun hp=>?_⟩
 ·exact hk _ hp
 ·exact hk _ hp
 ·unfold Pk at hp ⊢; split at hp <;> first | exact hk _ hp | exact hp
 ·exact hk _ hp
 ·unfold NilW at hp ⊢; split at hp <;> first | exact hk _ hp | exact hp | (obtain ⟨ad,hv,hp⟩:=hp; exact ⟨ad,hv,hk _ hp⟩)
theorem moveA_none {n:Nat} {o:Oper} {e:Env} {K K':Value->Prop} (h:moveA n o e K = none):moveA n o e K' = none:=by
 unfold moveA at h ⊢
 split at h <;> first | (cases h; done) | rfl
theorem Sv.mono {P:Program} {s:Sem Value} {w:World} {K K':Value->World->Prop} (h:Sv P s w K) (hk:∀ v w',K v w'->K' v w'):Sv P s w K':=
 let ⟨v,w',hr,hK⟩:=h; ⟨v,w',hr,hk _ _ hK⟩
theorem Su.mono {P:Program} {s:Sem Unit} {w:World} {K K':World->Prop} (h:Su P s w K) (hk:∀ w',K w'->K' w'):Su P s w K':=
 let ⟨w',hr,hK⟩:=h; ⟨w',hr,hk _ hK⟩
theorem retK.mono {K K':Value->World->Prop} (hk:∀ v w',K v w'->K' v w'):∀ e w,retK K e w->retK K' e w
 | .returned v,w,h=>hk _ _ h
 | .panicked _,_,h=>h.elim
 | .outgrown,_,h=>h.elim
theorem CallV.mono {P:Program} {f:Value} {args:Array Value} {w:World} {K K':Value->World->Prop} (h:CallV P f args w K) (hk:∀ v w',K v w'->K' v w'):CallV P f args w K':=by
 unfold CallV at h ⊢
 split at h
 ·exact hk _ _ h
 ·exact Calls.mono h (retK.mono hk)
 ·exact RoundIn.mono h (retK.mono hk)
 ·exact h.elim
theorem retKP.mono {Pn:PnT} {K K':Value->World->Prop} (hk:∀ v w',K v w'->K' v w'):∀ e w,retKP K Pn e w->retKP K' Pn e w
 | .returned v,w,h=>hk _ _ h
 | .panicked _,_,h=>h
 | .outgrown,_,h=>h.elim
theorem CallVP.mono {P:Program} {Pn:PnT} {f:Value} {args:Array Value} {w:World} {K K':Value->World->Prop} (h:CallVP P Pn f args w K) (hk:∀ v w',K v w'->K' v w'):CallVP P Pn f args w K':=by
 unfold CallVP at h ⊢
 split at h
 ·exact hk _ _ h
 ·exact Calls.mono h (retKP.mono hk)
 ·exact RoundIn.mono h (retKP.mono hk)
 ·exact h.elim
theorem CallV.may {P:Program} {Pn:PnT} {f:Value} {args:Array Value} {w:World} {K:Value->World->Prop} (h:CallV P f args w K):CallVP P Pn f args w K:=by
 unfold CallV at h;unfold CallVP;have hm:∀ e w,retK K e w->retKP K Pn e w:=fun e w h=>by cases e <;> first | exact h | exact h.elim
 split at h
 ·exact h
 ·exact Calls.mono h hm
 ·exact RoundIn.mono h hm
 ·exact h.elim
theorem valA_mono {P:Program} {n:Nat} {pn:Option PnT} {o:Oper} {e:Env} {w:World} {K K':Value->World->Prop} (h:valA P n pn o e w K) (hk:∀ v w',K v w'->K' v w'):valA P n pn o e w K':=by
 unfold valA at h ⊢
 split at h
 ·rename_i p hp
  obtain ⟨p',hp',himp⟩:=moveA_mono hp (fun v=>hk v w);rw [hp'];exact himp h
 ·rename_i hp
  rw [moveA_none hp]
  split at h
  ·exact h.mono hk
  ·split at h <;> first
    | exact h.mono (fun w'=>hk _ _)
    | exact h.elim
    | skip
   ·split at h
    ·split at h
     ·exact h.mono hk
     ·exact h.mono hk
    ·exact h.elim
   ·split at h
    ·exact h.elim
    ·exact h
theorem valA_sound {P:Program} {n:Nat} {ro:Option Nat} {pn:Option PnT} {o:Oper} {e:Env} {a:Act} {w:World} {K:Value->World->Prop} {next:Act->World->Prop} {Qx:Exit->Act->World->Prop}
  (ha:Agree n e a) (h:valA P n pn o e w K) (hk:∀ v w',K v w'->next (a.put o.dst v) w') (hp:∀ Pn,pn = some Pn->∀ c w,Pn c w->Qx (.panic c) a w):o.wpIn (FF ro) 0 P a w next Qx:=by
 refine ⟨fun _ _=>trivial,?_⟩;have hsem:o.semAt (FF ro).round a.eval = execOp (ev n e) o:=by
  rw [Oper.semAt_eq _ _ _ (fun c hc=>by simp only [valA,moveA,vsem,hc] at h),ha.evf]
 rw [hsem];have hu:∀ s:Sem Unit,Su P s w (K undef)->o.uponIn (FF ro) 0 P a next Qx ((do s; pure Next.skip:Sem Next).run P w):=fun s ⟨w',hr,hK⟩=>by
  simp only [Sem.run_bind,hr,Result.andThen_ok];exact hk _ _ hK
 unfold valA at h
 split at h
 ·rename_i p hp
  obtain ⟨v,hr,hK⟩:=moveA_exec (P:=P) hp h;rw [hr];exact hk _ _ hK
 ·split at h
  ·rename_i s hs
   obtain ⟨v,w',hr,hK⟩:=h;rw [vsem_exec hs,lift_run hr];exact hk _ _ hK
  ·unfold execOp
   split at h <;> rename_i hop <;> simp only [hop]
   all_goals first
    | exact hu _ h
    | exact h.elim
    | skip
   ·split at h
    ·rename_i f hc
     simp only [resolve,hc];rw [mapE_eq] at h
     cases pn with
     | none=>
      simp only at h;unfold CallV callSem at h;generalize hr:(Deferred.ofValue (ev n e f) (_:Array Value) >>= fun d=>invoke d.target d.args).run P w = r at h
      split at h
      ·exact hk _ _ h
      ·refine ⟨FF_depth ro,callsIn_FF (h.mono fun en w'' he=>?_)⟩
       cases en with
       | returned v=>exact hk _ _ he
       | panicked ch=>exact he.elim
       | outgrown=>exact he.elim
      ·refine ⟨FF_depth ro,roundIn_FF (h.mono fun en w'' he=>?_)⟩
       cases en with
       | returned v=>exact hk _ _ he
       | panicked ch=>exact he.elim
       | outgrown=>exact he.elim
      ·exact h.elim
     | some Pn=>
      simp only at h;unfold CallVP callSem at h;generalize hr:(Deferred.ofValue (ev n e f) (_:Array Value) >>= fun d=>invoke d.target d.args).run P w = r at h
      split at h
      ·exact hk _ _ h
      ·refine ⟨FF_depth ro,callsIn_FF (h.mono fun en w'' he=>?_)⟩
       cases en with
       | returned v=>exact hk _ _ he
       | panicked ch=>exact hp _ rfl _ _ he
       | outgrown=>exact he.elim
      ·refine ⟨FF_depth ro,roundIn_FF (h.mono fun en w'' he=>?_)⟩
       cases en with
       | returned v=>exact hk _ _ he
       | panicked ch=>exact hp _ rfl _ _ he
       | outgrown=>exact he.elim
      ·exact h.elim
    ·exact h.elim
   ·cases pn with
    | none=>exact h.elim
    | some Pn=>
     simp only at h;obtain ⟨ty,v,hx,hpn⟩:=h;simp only [hx,Instr.panic,goPanic,Sem.run_bind,Sem.run,Result.andThen];rw [hx] at hpn;exact hp _ rfl _ _ hpn
end Go.Proofs.YtmideenmlhbdjaaGreatDoor.Q
end
section
namespace Go.Proofs.YtmideenmlhbdjaaGreatDoor.Q
open Go
inductive Items where
 | done
 | op (rest:Items)
 | split (d:Nat) (p q:Items)
 | join (live ms:List Nat) (sub rest:Items)
def opn:Nat->Items->Items
 | 0,r=>r
 | k + 1,r=>.op (opn k r)
def cnt:Items->Nat
 | .done=>0
 | .op r=>cnt r + 1
 | .split _ p _=>cnt p
 | .join _ _ s r=>cnt s + cnt r
def dsts:List Oper->List Nat
 | []=>[]
 | o :: l=>match o.dst with
  | some d=>d :: dsts l
  | none=>dsts l
def isB (v:Value) (b:Bool):Bool:=
 match v with
 | .bool c=>bif b then c else !c
 | _=>false
def wantE (n:Nat) (l0:List Oper) (o:Oper) (e:Env):Bool:=
 match o.guard with
 | none=>true
 | some (j,want)=>match (l0[j]?).bind (·.dst) with
  | some d=>isB (ev n e (.tmp d)) want
  | none=>false
def opsA (P:Program) (n:Nat) (pn:Env->Option PnT) (l0:List Oper):Items->List Oper->(List Oper->Env->World->Prop)->Env->World->Prop
 | .done,l,K,e,w=>K l e w
 | .op r,o :: l,K,e,w=>bif wantE n l0 o e then valA P n (pn e) o e w (fun v w'=>dstA n o e v fun e'=>opsA P n pn l0 r l K e' w') else dstA n o e undef fun e'=>opsA P n pn l0 r l K e' w
 | .op _,[],_,_,_=>False
 | .split d p q,l,K,e,w=>bif Nat.beq (cnt p) (cnt q) then CondW (ev n e (.tmp d)) (opsA P n pn l0 p l K (upd e d (.bool true)) w) (opsA P n pn l0 q l K (upd e d (.bool false)) w) else False
 | .join live ms sub rest,l,K,e,w=>bif subB (dsts (l.take (cnt sub))) ms && (subB live ms && subB ms (dsts (l.take (cnt sub)))) then
   ∀ Kj:List Value->World->Prop,AllV live.length (fun vs=>∀ w,(∀ g:Env,opsA P n pn l0 rest (l.drop (cnt sub)) K (mix live vs ms g e) w)->Kj vs w) ->
    opsA P n pn l0 sub l (fun _ e' w'=>Kj (live.map e') w') e w
   else False
theorem wanted_E {n:Nat} {ops:Array Oper} {o:Oper} {e:Env} {a:Act} (ha:Agree n e a):Region.wanted o (yielded ops a.tmps) = wantE n ops.toList o e:=by
 unfold Region.wanted wantE
 cases o.guard with
 | none=>rfl
 | some jw=>
  obtain ⟨j,want⟩:=jw;simp only [Array.getElem?_toList];unfold yielded
  cases hd:(ops[j]?).bind (·.dst) with
  | none=>cases want <;> rfl
  | some d=>
   simp only [Option.bind_some,ev]
   by_cases h:d < n
   ·rw [blt_true h,cond_true,<- ha.at_ d h]
    have hs:d < a.tmps.size:=by rw [ha.size]; exact h
    rw [Array.getD_eq_getD_getElem?,Array.getElem?_eq_getElem hs];simp only [Option.getD_some]
    cases a.tmps[d] <;> simp [isB]
    cases want <;> simp [isB] <;> rename_i b <;> cases b <;> simp
   ·have hs:a.tmps.size <= d:=by rw [ha.size]; exact Nat.le_of_not_lt h
    rw [blt_false h,cond_false,Array.getElem?_eq_none hs]
    cases want <;> rfl
theorem dstA_mono {n:Nat} {o:Oper} {e:Env} {v:Value} {K K':Env->Prop} (h:dstA n o e v K) (hk:∀ e',K e'->K' e'):dstA n o e v K':=by
 unfold dstA at h ⊢
 split at h
 ·rename_i d hd
  cases hb:Nat.blt d n with
  | false=>simp [hb] at h
  | true=>simp only [hb,cond_true] at h ⊢; exact hk _ h
 ·exact hk _ h
theorem dstA_spec {n:Nat} {o:Oper} {e:Env} {v:Value} {K:Env->Prop} (h:dstA n o e v K) :
  ∃ e',K e'/\(∀ i,i ∉ dsts [o]->e' i = e i)/\∀ a,Agree n e a->Agree n e' (a.put o.dst v):=by
 unfold dstA at h
 split at h
 ·rename_i d hd
  cases hb:Nat.blt d n with
  | false=>simp [hb] at h
  | true=>
   simp only [hb,cond_true] at h;refine ⟨_,h,fun i hi=>upd_ne _ _ _ (fun hid=>hi (by simp [dsts,hd,hid])),fun a ha=>?_⟩;rw [hd];exact ha.put (blt_iff.1 hb) v
 ·rename_i hd
  exact ⟨e,h,fun _ _=>rfl,fun a ha=>by rw [hd]; exact ha⟩
theorem dsts_cons (o:Oper) (l:List Oper):dsts (o :: l) = dsts [o] ++ dsts l:=by
 simp only [dsts]; cases o.dst <;> simp
theorem dsts_append:∀ l m:List Oper,dsts (l ++ m) = dsts l ++ dsts m
 | [],m=>by simp [dsts]
 | o :: l,m=>by rw [List.cons_append,dsts_cons,dsts_append l m,dsts_cons o l,List.append_assoc]
theorem opsA_mono {P:Program} {n:Nat} {pn:Env->Option PnT} {l0:List Oper}:∀ (it:Items) (l:List Oper) {K K':List Oper->Env->World->Prop} (e:Env) (w:World),
  opsA P n pn l0 it l K e w->(∀ l e w,K l e w->K' l e w)->opsA P n pn l0 it l K' e w
 | .done,l,K,K',e,w,h,hk=>hk _ _ _ h
 | .op r,o :: l,K,K',e,w,h,hk=>by
  unfold opsA at h ⊢
  cases hw:wantE n l0 o e with
  | true=>simp only [hw,cond_true] at h ⊢; exact valA_mono h fun v w' h1=>dstA_mono h1 fun e' h2=>opsA_mono r l e' w' h2 hk
  | false=>simp only [hw,cond_false] at h ⊢; exact dstA_mono h fun e' h2=>opsA_mono r l e' w h2 hk
 | .op _,[],_,_,_,_,h,_=>by unfold opsA at h; exact h.elim
 | .split d p q,l,K,K',e,w,h,hk=>by
  unfold opsA at h ⊢
  cases hc:Nat.beq (cnt p) (cnt q) with
  | false=>simp [hc] at h
  | true=>
   simp only [hc,cond_true] at h ⊢;obtain ⟨b,hb,h1,h2⟩:=h;exact ⟨b,hb,fun hh=>opsA_mono p l _ w (h1 hh) hk,fun hh=>opsA_mono q l _ w (h2 hh) hk⟩
 | .join live ms sub rest,l,K,K',e,w,h,hk=>by
  unfold opsA at h ⊢
  cases hc:subB (dsts (l.take (cnt sub))) ms && (subB live ms && subB ms (dsts (l.take (cnt sub)))) with
  | false=>simp [hc] at h
  | true=>
   simp only [hc,cond_true] at h ⊢;intro Kj hKj;refine h Kj (AllV.intro fun vs hl w hr=>hKj.elim vs hl w fun g=>opsA_mono rest _ _ w (hr g) hk)
theorem opsA_mods {P:Program} {n:Nat} {pn:Env->Option PnT} {l0:List Oper} (ms:List Nat):∀ (it:Items) (l:List Oper) {K:List Oper->Env->World->Prop} (e:Env) (w:World),
  opsA P n pn l0 it l K e w->(∀ i ∈ dsts (l.take (cnt it)),i ∈ ms)->opsA P n pn l0 it l (fun l' e' w'=>l' = l.drop (cnt it)/\(∀ i,i ∉ ms->e' i = e i)/\K l' e' w') e w
 | .done,l,K,e,w,h,hm=>⟨by simp [cnt],fun _ _=>rfl,h⟩
 | .op r,o :: l,K,e,w,h,hm=>by
  have hm1:∀ i ∈ dsts [o],i ∈ ms:=fun i hi=>hm i (by rw [cnt,List.take_succ_cons,dsts_cons]; exact List.mem_append_left _ hi)
  have hm2:∀ i ∈ dsts (l.take (cnt r)),i ∈ ms:=fun i hi=>hm i (by rw [cnt,List.take_succ_cons,dsts_cons]; exact List.mem_append_right _ hi)
  have key:∀ v w',dstA n o e v (fun e'=>opsA P n pn l0 r l K e' w') ->
    dstA n o e v (fun e'=>opsA P n pn l0 r l (fun l' e'' w''=>l' = (o :: l).drop (cnt r + 1)/\(∀ i,i ∉ ms->e'' i = e i)/\K l' e'' w'') e' w'):=fun v w' h1=>by
   obtain ⟨e',h2,h3,_⟩:=dstA_spec h1;unfold dstA at h1 ⊢
   split at h1
   ·rename_i d hd
    cases hb:Nat.blt d n with
    | false=>simp [hb] at h1
    | true=>
     simp only [hb,cond_true] at h1 ⊢;refine opsA_mono r l _ w' (opsA_mods ms r l _ w' h1 hm2) fun l' e'' w'' ⟨h4,h5,h6⟩=>⟨by simpa using h4,fun i hi=>?_,h6⟩
     rw [h5 i hi];exact upd_ne _ _ _ fun hid=>hi (hm1 i (by simp [dsts,hd,hid]))
   ·refine opsA_mono r l _ w' (opsA_mods ms r l _ w' h1 hm2) fun l' e'' w'' ⟨h4,h5,h6⟩=>⟨by simpa using h4,h5,h6⟩
  unfold opsA at h ⊢
  cases hw:wantE n l0 o e with
  | true=>simp only [hw,cond_true] at h ⊢; exact valA_mono h fun v w' h1=>key v w' h1
  | false=>simp only [hw,cond_false] at h ⊢; exact key _ _ h
 | .op _,[],_,_,_,h,_=>by unfold opsA at h; exact h.elim
 | .split d p q,l,K,e,w,h,hm=>by
  unfold opsA at h ⊢
  cases hc:Nat.beq (cnt p) (cnt q) with
  | false=>simp [hc] at h
  | true=>
  simp only [hc,cond_true] at h ⊢;obtain ⟨b,hb,h1,h2⟩:=h;have hpq:cnt p = cnt q:=Nat.beq_eq.mp hc;have hd:∀ c,b = c->∀ i,upd e d (.bool c) i = e i:=fun c hbc i=>by
   by_cases hid:i = d
   ·subst hid
    rw [upd_same];subst hbc;unfold ev at hb
    cases hlt:Nat.blt i n with
    | true=>simp only [hlt,cond_true] at hb; exact hb.symm
    | false=>simp only [hlt,cond_false,undef] at hb; cases hb
   ·exact upd_ne _ _ _ hid
  refine ⟨b,hb,fun hh=>?_,fun hh=>?_⟩
  ·exact opsA_mono p l _ w (opsA_mods ms p l _ w (h1 hh) hm) fun l' e'' w'' ⟨h4,h5,h6⟩=>⟨h4,fun i hi=>by rw [h5 i hi,hd true hh],h6⟩
  ·exact opsA_mono q l _ w (opsA_mods ms q l _ w (h2 hh) (by rw [<- hpq]; exact hm)) fun l' e'' w'' ⟨h4,h5,h6⟩=>⟨by rw [h4,<- hpq]; rfl,fun i hi=>by rw [h5 i hi,hd false hh],h6⟩
 | .join live ms' sub rest,l,K,e,w,h,hm=>by
  unfold opsA at h ⊢
  cases hc:subB (dsts (l.take (cnt sub))) ms' && (subB live ms' && subB ms' (dsts (l.take (cnt sub)))) with
  | false=>simp [hc] at h
  | true=>
   simp only [hc,cond_true] at h ⊢;have hl1:∀ i ∈ dsts (l.take (cnt sub)),i ∈ ms:=fun i hi=>hm i (by
    rw [cnt,List.take_add,dsts_append]; exact List.mem_append_left _ hi)
   have hl2:∀ i ∈ dsts ((l.drop (cnt sub)).take (cnt rest)),i ∈ ms:=fun i hi=>hm i (by
    rw [cnt,List.take_add,dsts_append]; exact List.mem_append_right _ hi)
   intro Kj hKj;have h0:=h (fun vs w=>∀ g:Env,opsA P n pn l0 rest (l.drop (cnt sub)) K (mix live vs ms' g e) w) (AllV.intro fun vs _ w hr=>hr);refine opsA_mono sub l e w (opsA_mods ms sub l e w h0 hl1) fun l' e' w' ⟨_,h5,h6⟩=>?_
   simp only [Bool.and_eq_true] at hc;refine hKj.elim (live.map e') (by simp) w' fun g=>?_
   refine opsA_mono rest _ _ w' (opsA_mods ms rest _ _ w' (h6 g) hl2) fun l'' e'' w'' ⟨h7,h8,h9⟩=>⟨?_,fun i hi=>?_,h9⟩
   ·rw [h7,cnt,List.drop_drop]
   ·have hi':i ∉ ms':=fun hn=>hi (hl1 i (subB_spec hc.2.2 i hn))
    rw [h8 i hi,mix_out (fun hn=>hi' (subB_spec hc.2.1 i hn)) hi']
theorem opsA_sound {P:Program} {n:Nat} {ro:Option Nat} {ops:Array Oper} {pn:Env->Option PnT} {Qx:Exit->Act->World->Prop} (hpn:∀ e a Pn c w,Agree n e a->pn e = some Pn->Pn c w->Qx (.panic c) a w):∀ (it:Items) (k:Nat) (l:List Oper) {K:List Oper->Env->World->Prop} (e:Env) (a:Act) (w:World),
  ops.toList.drop k = l->Agree n e a->opsA P n pn ops.toList it l K e w ->
  (∀ l' e' w' a' k',ops.toList.drop k' = l'->k + l.length = k' + l'.length->K l' e' w'->Agree n e' a'->wpOpsIn (FF ro) 0 P ops Qx (List.range' k' l'.length) a' w') ->
  wpOpsIn (FF ro) 0 P ops Qx (List.range' k l.length) a w
 | .done,k,l,K,e,a,w,hl,ha,h,hk=>hk l e w a k hl rfl h ha
 | .op r,k,o :: l,K,e,a,w,hl,ha,h,hk=>by
  have hko:ops[k]? = some o:=by
   rw [<- Array.getElem?_toList,<- List.head?_drop,hl]; rfl
  have hl2:ops.toList.drop (k + 1) = l:=by rw [<- List.drop_drop,hl]; rfl
  rw [List.length_cons,List.range'_succ,wpOpsIn_cons];unfold wpOpIn;simp only [hko];rw [wanted_E ha];have next:∀ v w',dstA n o e v (fun e'=>opsA P n pn ops.toList r l K e' w')->wpOpsIn (FF ro) 0 P ops Qx (List.range' (k + 1) l.length) (a.put o.dst v) w':=fun v w' h1=>by
   obtain ⟨e',h2,_,h4⟩:=dstA_spec h1;refine opsA_sound hpn r (k + 1) l e' _ w' hl2 (h4 a ha) h2 fun l' e'' w'' a' k' g1 g2 g3 g4=>hk l' e'' w'' a' k' g1 (by simp only [List.length_cons]; omega) g3 g4
  unfold opsA at h
  cases hw:wantE n ops.toList o e with
  | true=>
   simp only [hw,cond_true] at h;simp only [if_true];exact valA_sound ha h next fun Pn h1 c w h2=>hpn e a Pn c w ha h1 h2
  | false=>
   simp only [hw,cond_false] at h;simp only [Bool.false_eq_true,if_false];exact ⟨fun _ _=>trivial,next _ _ h⟩
 | .op _,_,[],_,_,_,_,_,_,h,_=>by unfold opsA at h; exact h.elim
 | .split d p q,k,l,K,e,a,w,hl,ha,h,hk=>by
  unfold opsA at h
  cases hc:Nat.beq (cnt p) (cnt q) with
  | false=>simp [hc] at h
  | true=>
  simp only [hc,cond_true] at h;obtain ⟨b,hb,h1,h2⟩:=h;have hd:e d = .bool b:=by
   unfold ev at hb
   cases hlt:Nat.blt d n with
   | true=>simpa only [hlt,cond_true] using hb
   | false=>simp only [hlt,cond_false,undef] at hb; cases hb
  cases b with
  | true=>exact opsA_sound hpn p k l _ a w hl (ha.again d _ hd) (h1 rfl) hk
  | false=>exact opsA_sound hpn q k l _ a w hl (ha.again d _ hd) (h2 rfl) hk
 | .join live ms sub rest,k,l,K,e,a,w,hl,ha,h,hk=>by
  unfold opsA at h
  cases hc:subB (dsts (l.take (cnt sub))) ms && (subB live ms && subB ms (dsts (l.take (cnt sub)))) with
  | false=>simp [hc] at h
  | true=>
   simp only [hc,cond_true] at h;simp only [Bool.and_eq_true] at hc;have h0:=h (fun vs w=>∀ g:Env,opsA P n pn ops.toList rest (l.drop (cnt sub)) K (mix live vs ms g e) w) (AllV.intro fun vs _ w hr=>hr);have h1:=opsA_mods ms sub l e w h0 (subB_spec hc.1);refine opsA_sound hpn sub k l e a w hl ha h1 fun l' e' w' a' k' g1 g2 g3 g4=>?_
   obtain ⟨g5,g6,g7⟩:=g3;have g8:=g7 e';rw [mix_of live ms e e' g6,<- g5] at g8;exact opsA_sound hpn rest k' l' e' a' w' g1 g4 g8 fun l'' e'' w'' a'' k'' i1 i2 i3 i4=>hk l'' e'' w'' a'' k'' i1 (by omega) i3 i4
theorem region_sound {P:Program} {n:Nat} {ro:Option Nat} {id:Nat} {ops:Array Oper} {pn:Env->Option PnT} {Qx:Exit->Act->World->Prop} (hpn:∀ e a Pn c w,Agree n e a->pn e = some Pn->Pn c w->Qx (.panic c) a w) {it:Items} {K:List Oper->Env->World->Prop} {e:Env} {a:Act} {w:World}
  (ha:Agree n e a) (h:opsA P n pn ops.toList it ops.toList K e w) (hk:∀ l' e' w' a',K l' e' w'->Agree n e' a'->l' = []/\Qx .normal a' w'):(Code.region id ops false).wpIn (FF ro) 0 P Qx a w:=by
 refine wpIn_region ?_;rw [show List.range ops.size = List.range' 0 ops.toList.length from by rw [List.range_eq_range',Array.length_toList]];refine opsA_sound hpn it 0 ops.toList e a w (by simp) ha h fun l' e' w' a' k' g1 g2 g3 g4=>?_
 obtain ⟨g5,g6⟩:=hk l' e' w' a' g3 g4;subst g5
 simpa [wpOpsIn] using g6
end Go.Proofs.YtmideenmlhbdjaaGreatDoor.Q
end
section
namespace Go.Proofs.YtmideenmlhbdjaaGreatDoor.Q
open Go
inductive Plan where
 | done
 | take (i:Nat) (next:Plan)
 | hold (i:Nat) (next:Plan)
 | alts (p:Plan)
 | eff (i:Nat) (next rest:Plan)
 | nil
 | split (d:Nat) (p q:Plan)
abbrev Held:=List (Nat × Sem Value × Value)
def dirB (l0:List Oper) (i j:Nat):Bool:=
 match l0[j]? with
 | some o=>o.after.toList.any fun ed=>Region.binds .any ed && Nat.beq ed.on i
 | none=>false
def anyE (l0:List Oper) (i:Nat):List Nat->Bool
 | []=>false
 | j :: js=>bif dirB l0 i j then true else anyE l0 i js
def HoldK (P:Program) (l0:List Oper) (E:List Nat):Held->World->Prop->Prop
 | [],_,r=>r
 | h :: hs,w,r=>bif anyE l0 h.1 E then HoldK P l0 E hs w r else h.2.1.run P w = .ok h.2.2 w/\HoldK P l0 E hs w r
def rdy (l0:List Oper) (ls:List Nat) (i:Nat):Bool:=
 bif memB i ls then false else
 match l0[i]? with
 | some o=>o.after.toList.all fun ed=>!Region.binds .any ed || memB ed.on ls
 | none=>false
def freeAt (ops:Array Oper) (ls:List Nat) (i:Nat) (oi:Oper):Nat->List Oper->Bool
 | _,[]=>true
 | j,o :: l=>(bif Nat.beq j i then true else bif memB j ls then true else bif o.after.toList.any (fun ed=>Region.binds .any ed && Nat.beq ed.on i) then true else oi.apart ops o) && freeAt ops ls i oi (j + 1) l
def covers (l0:List Oper) (ls is:List Nat):Nat->Bool
 | 0=>true
 | k + 1=>(bif rdy l0 ls k then memB k is else true) && covers l0 ls is k
def idxs:Plan->List Nat
 | .eff i _ r=>i :: idxs r
 | _=>[]
mutual
def okP:Plan->Bool
 | .done=>true
 | .take _ p=>okP p
 | .hold _ p=>okP p
 | .alts p=>okC p
 | .split _ p q=>okP p && okP q
 | _=>false
def okC:Plan->Bool
 | .eff _ p r=>okP p && okC r
 | .nil=>true
 | _=>false
end
def plainB (o:Oper):Bool:=
 match o.op with
 | .select .. | .defer _=>false
 | _=>true
def allPlain:List Oper->Bool
 | []=>true
 | o :: l=>plainB o && allPlain l
def Pv (P:Program) (s:Sem Value) (K:Value->Prop):Prop:=∃ v,(∀ w,s.run P w = .ok v w)/\K v
def Hv (P:Program) (s:Sem Value) (w:World) (K:Value->Prop):Prop:=∃ v,s.run P w = .ok v w/\K v
def pureA (P:Program) (n:Nat) (o:Oper) (e:Env) (K:Value->Prop):Prop:=
 match moveA n o e K with
 | some p=>p
 | none=>
  match vsem n e o with
  | some s=>Pv P s K
  | none=>False
def fstRdy (l0:List Oper) (ls:List Nat):List Nat->Bool
 | []=>false
 | i :: _=>rdy l0 ls i
def keepB (rts:List Nat):Option Nat->Bool
 | none=>true
 | some d=>!memB d rts
def drawA (P:Program) (n:Nat) (pn:Env->Option PnT) (rts:List Nat) (ops:Array Oper):Plan->Nat->Held->List Nat->List Nat->(Env->World->Prop)->Env->World->Prop
 | .done,_,_,ls,_,K,e,w=>bif covers ops.toList ls [] ops.toList.length then K e w else False
 | .take i p,f + 1,H,ls,E,K,e,w=>
  match ops.toList[i]? with
  | some o=>bif rdy ops.toList ls i && freeAt ops ls i o 0 ops.toList && keepB rts o.dst then
    (bif wantE n ops.toList o e then pureA P n o e fun v=>dstA n o e v fun e'=>drawA P n pn rts ops p f H (i :: ls) E K e' w
    else dstA n o e undef fun e'=>drawA P n pn rts ops p f H (i :: ls) E K e' w)
   else False
  | none=>False
 | .hold i p,f + 1,H,ls,E,K,e,w=>
  match ops.toList[i]? with
  | some o=>bif rdy ops.toList ls i && freeAt ops ls i o 0 ops.toList && keepB rts o.dst && wantE n ops.toList o e then
    (match vsem n e o with
    | some s=>Hv P s w fun v=>dstA n o e v fun e'=>drawA P n pn rts ops p f ((i,s,v) :: H) (i :: ls) E K e' w
    | none=>False)
   else False
  | none=>False
 | .alts p,f,H,ls,E,K,e,w=>bif covers ops.toList ls (idxs p) ops.toList.length && fstRdy ops.toList ls (idxs p) then drawA P n pn rts ops p f H ls E K e w else False
 | .eff i p .nil,f + 1,H,ls,E,K,e,w=>
  match ops.toList[i]? with
  | some o=>bif wantE n ops.toList o e then
    valA P n (pn e) o e w (fun v w'=>HoldK P ops.toList (i :: E) H w' (dstA n o e v fun e'=>drawA P n pn rts ops p f H (i :: ls) (i :: E) K e' w'))
   else False
  | none=>False
 | .eff i p r,f + 1,H,ls,E,K,e,w=>
  match ops.toList[i]? with
  | some o=>bif wantE n ops.toList o e then
    valA P n (pn e) o e w (fun v w'=>HoldK P ops.toList (i :: E) H w' (dstA n o e v fun e'=>drawA P n pn rts ops p f H (i :: ls) (i :: E) K e' w'))/\drawA P n pn rts ops r (f + 1) H ls E K e w
   else False
  | none=>False
 | .split d p q,f,H,ls,E,K,e,w=>CondW (ev n e (.tmp d)) (drawA P n pn rts ops p f H ls E K (upd e d (.bool true)) w) (drawA P n pn rts ops q f H ls E K (upd e d (.bool false)) w)
 | _,_,_,_,_,_,_,_=>False
section
variable {P:Program} {n:Nat} {ro:Option Nat} {pn:Env->Option PnT} {rts:List Nat} {ops:Array Oper} {Qx:Exit->Act->World->Prop}
def HoldOK (P:Program) (l0:List Oper) (H:Held) (E:List Nat) (w:World):Prop:=∀ h ∈ H,(∀ j ∈ E,dirB l0 h.1 j = false)->h.2.1.run P w = .ok h.2.2 w
def wpAnyD (ro:Option Nat) (P:Program) (ops:Array Oper) (Qx:Exit->Act->World->Prop) (H:Held):Nat->Array Bool->List Nat->Act->World->Prop
 | 0,listed,_,a,w=>Region.ready .any ops listed = []/\Qx .normal a w
 | f + 1,listed,E,a,w=>
  (Region.ready .any ops listed = []->Qx .normal a w) /\
  ∀ i ∈ Region.ready .any ops listed,wpOpIn (FF ro) 0 P ops Qx i (fun a' w'=>HoldOK P ops.toList H (i :: E) w'/\wpAnyD ro P ops Qx H f (listed.setIfInBounds i true) (i :: E) a' w') a w
theorem wpAnyD_any {H:Held}:∀ (f:Nat) (listed:Array Bool) (E:List Nat) (a:Act) (w:World),wpAnyD ro P ops Qx H f listed E a w->wpAnyIn (FF ro) 0 P .any ops Qx f listed a w
 | 0,_,_,_,_,h=>h
 | f + 1,_,_,_,_,h=>⟨h.1,fun i hi=>wpOpIn_mono (fun a' w' h'=>wpAnyD_any f _ _ a' w' h'.2) (h.2 i hi)⟩
theorem HoldOK.mono {H H':Held} {E E':List Nat} {w:World} (h:HoldOK P ops.toList H' E w) (hH:∀ x ∈ H,x ∈ H') (hE:∀ j ∈ E,j ∈ E'):HoldOK P ops.toList H E' w:=
 fun x hx hj=>h x (hH x hx) fun j hjE=>hj j (hE j hjE)
theorem wpAnyD_mono {H H':Held} (hH:∀ x ∈ H,x ∈ H'):∀ (f:Nat) (listed:Array Bool) (E E':List Nat) (a:Act) (w:World),(∀ j ∈ E,j ∈ E') ->
  wpAnyD ro P ops Qx H' f listed E a w->wpAnyD ro P ops Qx H f listed E' a w
 | 0,_,_,_,_,_,_,h=>h
 | f + 1,_,E,E',_,_,hE,h=>⟨h.1,fun i hi=>wpOpIn_mono (fun a' w' h'=>
   have hE':∀ j ∈ i :: E,j ∈ i :: E':=fun j hj=>by
    rcases List.mem_cons.1 hj with rfl | hj
    ·exact List.mem_cons_self
    ·exact List.mem_cons_of_mem _ (hE j hj)
   ⟨h'.1.mono hH hE',wpAnyD_mono hH f _ _ _ a' w' hE' h'.2⟩) (h.2 i hi)⟩
def Yd (ops:Array Oper) (o:Oper) (s:Sem Value) (v:Value) (a:Act):Prop:=
 (Region.wanted o (yielded ops a.tmps) = true/\execOp a.eval o = lift s) \/ (Region.wanted o (yielded ops a.tmps) = false/\v = undef)
theorem Yd.of_same {o:Oper} {s:Sem Value} {v:Value} {a a':Act} (h:Yd ops o s v a) (he:execOp a'.eval o = execOp a.eval o) (hw:Region.wanted o (yielded ops a'.tmps) = Region.wanted o (yielded ops a.tmps)):Yd ops o s v a':=by
 unfold Yd at *;rw [he,hw];exact h
theorem plainB_spec {o:Oper} (h:plainB o = true):(∀ cs b,o.op ≠ .select cs b)/\(∀ c,o.op ≠ .defer c):=by
 unfold plainB at h
 split at h <;> first | (cases h; done) | skip
 rename_i h1 h2;exact ⟨fun cs b hn=>h1 _ _ hn,fun c hn=>h2 _ hn⟩
theorem semAt_plain {o:Oper} (h:plainB o = true) (ρ:Operand->Value):o.semAt (FF ro).round ρ = execOp ρ o:=Oper.semAt_eq _ _ _ (plainB_spec h).2
theorem Yd.wpOpIn {i:Nat} {o:Oper} {s:Sem Value} {v:Value} {a:Act} {K:Act->World->Prop} {w:World} (hi:ops[i]? = some o) (hp:plainB o = true) (hy:Yd ops o s v a)
  (hs:Region.wanted o (yielded ops a.tmps) = true->s.run P w = .ok v w) (h:K (a.put o.dst v) w):wpOpIn (FF ro) 0 P ops Qx i K a w:=by
 unfold Go.wpOpIn;simp only [hi]
 rcases hy with ⟨hw,hx⟩ | ⟨hw,rfl⟩
 ·simp only [hw,if_true]
  refine ⟨fun _ _=>trivial,?_⟩;rw [semAt_plain hp,hx,lift_run (hs hw)];exact h
 ·simp only [hw,Bool.false_eq_true,if_false]
  exact ⟨fun _ _=>trivial,h⟩
theorem wpOpIn_putD {j:Nat} {oi oj:Oper} {s:Sem Value} {v:Value} (hj:ops[j]? = some oj) (hap:oi.apart ops oj = true) (hpi:plainB oi = true) (hpj:plainB oj = true)
  (hQ:∀ c (a:Act) d v w,memB d rts = false->Qx (.panic c) (a.put (some d) v) w->Qx (.panic c) a w) (hkp:keepB rts oi.dst = true) {K:Act->World->Prop} {a:Act} {w:World} (hy:Yd ops oi s v a) (h:wpOpIn (FF ro) 0 P ops Qx j K (a.put oi.dst v) w) :
  wpOpIn (FF ro) 0 P ops Qx j (fun a' w'=>Yd ops oi s v a'/\K (a'.put oi.dst v) w') a w:=by
 obtain ⟨h1,h2,h3⟩:=Oper.apart_spec hap;have hQ':∀ c (a:Act) v w,Qx (.panic c) (a.put oi.dst v) w->Qx (.panic c) a w:=fun c a v w h=>by
  cases hd:oi.dst with
  | none=>rw [hd] at h; exact h
  | some d=>rw [hd] at h hkp; exact hQ c a d v w (by simpa [keepB] using hkp) h
 have hsi:=(plainB_spec hpi).1;have hsj:=(plainB_spec hpj).1;have keep:∀ (a:Act),Yd ops oi s v a->∀ u,Yd ops oi s v (a.put oj.dst u):=fun a hy u=>
  hy.of_same (execOp_put oi hsi a oj.dst u h3) (wanted_put oi a oj.dst u h3)
 have keepD:∀ d,Yd ops oi s v { a with defers:=d :: a.defers }:=fun d=>hy.of_same rfl rfl
 unfold wpOpIn at *;simp only [hj] at *;rw [wanted_put oj a oi.dst v h1] at h
 split
 ·rename_i hw
  simp only [hw,if_true] at h;unfold Oper.wpIn at *;refine ⟨fun _ _=>trivial,?_⟩;have h:=h.2;rw [semAt_plain hpj,execOp_put oj hsj a oi.dst v h1] at h;rw [semAt_plain hpj];generalize (execOp a.eval oj).run P w = r at *
  cases r with
  | ok x w'=>
   cases x <;> simp only [Oper.uponIn] at h ⊢
   case value u=>exact ⟨keep a hy u,by rw [<- Act.put_comm a v u h2]; exact h⟩
   case skip=>exact ⟨keep a hy _,by rw [<- Act.put_comm a v undef h2]; exact h⟩
   case defer d=>
    refine ⟨keep _ (keepD d) _,?_⟩;rw [<- Act.put_comm _ v undef h2,<- Act.put_defers];exact h
   case enter f args=>
    refine ⟨h.1,CallsIn.mono h.2 fun e w'' he=>?_⟩
    cases e with
    | returned u=>exact ⟨keep a hy u,by rw [<- Act.put_comm a v u h2]; exact he⟩
    | panicked c=>exact hQ' _ _ _ _ he
    | outgrown=>exact he
   case row row args=>exact ⟨h.1,RowsIn.mono h.2 fun u w'' he=>⟨keep a hy u,by rw [<- Act.put_comm a v u h2]; exact he⟩⟩
   case round l f tmps assign body=>
    refine ⟨h.1,RoundIn.mono h.2 fun e w'' he=>?_⟩
    cases e with
    | returned u=>exact ⟨keep a hy u,by rw [<- Act.put_comm a v u h2]; exact he⟩
    | panicked c=>exact hQ' _ _ _ _ he
    | outgrown=>exact he
  | halt x w'=>
   cases x <;> simp only [Oper.uponIn] at h ⊢
   case panic u=>exact hQ' _ _ _ _ h
 ·rename_i hw
  simp only [hw] at h;exact ⟨fun _ _=>trivial,keep a hy _,by rw [<- Act.put_comm a v undef h2]; exact h.2⟩
def Down (ops:Array Oper) (listed:Array Bool):Prop:=∀ j oj,ops[j]? = some oj->listed.getD j false = true->∀ ed ∈ oj.after,Region.binds .any ed = true->listed.getD ed.on false = true
def Seen (listed:Array Bool) (E:List Nat):Prop:=∀ j ∈ E,listed.getD j false = true
theorem Down.set {listed:Array Bool} {i:Nat} (h:Down ops listed) (hr:i ∈ Region.ready .any ops listed):Down ops (listed.setIfInBounds i true):=by
 intro j oj hj hl ed he hb;obtain ⟨hun,oi,hoi,hall⟩:=mem_ready.1 hr;refine getD_set_true ?_
 by_cases hij:i = j
 ·subst hij
  rw [hoi] at hj
  cases hj
  exact hall ed he hb
 ·rw [getD_set_ne false hij] at hl
  exact h j oj hj hl ed he hb
theorem Seen.set {listed:Array Bool} {i:Nat} {E:List Nat} (h:Seen listed E):Seen (listed.setIfInBounds i true) E:=fun j hj=>getD_set_true (h j hj)
theorem Seen.cons {listed:Array Bool} {i:Nat} {E:List Nat} (h:Seen listed E) (hi:i < listed.size):Seen (listed.setIfInBounds i true) (i :: E):=fun j hj=>by
 rcases List.mem_cons.1 hj with rfl | hj
 ·simp [hi]
 ·exact getD_set_true (h j hj)
theorem dirB_false {listed:Array Bool} {i j:Nat} (hd:Down ops listed) (hj:listed.getD j false = true) (hi:listed.getD i false = false):dirB ops.toList i j = false:=by
 unfold dirB;rw [Array.getElem?_toList]
 cases ho:ops[j]? with
 | none=>rfl
 | some o=>
  simp only [List.any_eq_false];intro ed he hb;simp only [Bool.and_eq_true,Nat.beq_eq] at hb;have:=hd j o ho hj ed (Array.mem_toList_iff.1 he) hb.1;rw [hb.2,hi] at this
  cases this
theorem getD_true_false {listed:Array Bool} {i:Nat} (h:listed.getD i true = false):listed.getD i false = false/\i < listed.size:=by
 rcases Nat.lt_or_ge i listed.size with h' | h'
 ·simp [h'] at h ⊢; exact h
 ·simp [Array.getElem?_eq_none h'] at h
theorem takeD {i:Nat} {oi:Oper} {s:Sem Value} {v:Value} {H H':Held} (hi:ops[i]? = some oi) (hpl:∀ (j:Nat) o,ops[j]? = some o->plainB o = true) (hQ:∀ c (a:Act) d v w,memB d rts = false->Qx (.panic c) (a.put (some d) v) w->Qx (.panic c) a w) (hkp:keepB rts oi.dst = true) (hH:∀ x ∈ H,x ∈ H')
  (hs:∀ (listed:Array Bool) E w,Down ops listed->Seen listed E->listed.getD i false = false->HoldOK P ops.toList H' E w->s.run P w = .ok v w) :
  ∀ (f:Nat) (listed:Array Bool) (E:List Nat) (a:Act) (w:World),
   (∀ j oj,ops[j]? = some oj->j ≠ i->listed.getD j true = false->(∀ e ∈ oj.after,Region.binds .any e = true->e.on ≠ i)->oi.apart ops oj = true) ->
   i ∈ Region.ready .any ops listed->Down ops listed->Seen listed E->Yd ops oi s v a->HoldOK P ops.toList H' E w ->
   wpAnyD ro P ops Qx H' f (listed.setIfInBounds i true) E (a.put oi.dst v) w->wpAnyD ro P ops Qx H (f + 1) listed E a w:=by
 intro f;have now:∀ (f:Nat) (listed:Array Bool) (E:List Nat) (a:Act) (w:World),i ∈ Region.ready .any ops listed->Down ops listed->Seen listed E->Yd ops oi s v a->HoldOK P ops.toList H' E w ->
   wpAnyD ro P ops Qx H' f (listed.setIfInBounds i true) E (a.put oi.dst v) w ->
   wpOpIn (FF ro) 0 P ops Qx i (fun a' w'=>HoldOK P ops.toList H (i :: E) w'/\wpAnyD ro P ops Qx H f (listed.setIfInBounds i true) (i :: E) a' w') a w:=fun f listed E a w hr hd hse hy hok hh=>
  hy.wpOpIn hi (hpl i oi hi) (fun _=>hs listed E w hd hse (getD_true_false (mem_ready.1 hr).1).1 hok) ⟨hok.mono hH (fun j hj=>List.mem_cons_of_mem _ hj),wpAnyD_mono hH f _ _ _ _ _ (fun j hj=>List.mem_cons_of_mem _ hj) hh⟩
 induction f with
 | zero=>
  intro listed E a w _ hr hd hse hy hok hh;refine ⟨fun h=>(by rw [h] at hr; cases hr),fun j hj=>?_⟩
  by_cases hji:j = i
  ·subst hji; exact now 0 listed E a w hr hd hse hy hok hh
  ·have:=ready_mono hj hji
   rw [hh.1] at this
   cases this
 | succ f ih=>
  intro listed E a w hfree hr hd hse hy hok hh;refine ⟨fun h=>(by rw [h] at hr; cases hr),fun j hj=>?_⟩
  by_cases hji:j = i
  ·subst hji; exact now (f + 1) listed E a w hr hd hse hy hok hh
  ·have h1:=hh.2 j (ready_mono hj hji)
   obtain ⟨hjun,oj,hoj,hall⟩:=mem_ready.1 hj;have hnot:∀ e ∈ oj.after,Region.binds .any e = true->e.on ≠ i:=fun e he hb heq=>by
    have h1:=hall e he hb;have h0:=(getD_true_false (mem_ready.1 hr).1).1;rw [heq,h0] at h1
    cases h1
   have h2:=wpOpIn_putD hoj (hfree j oj hoj hji hjun hnot) (hpl i oi hi) (hpl j oj hoj) hQ hkp hy h1;have hfree':∀ k ok,ops[k]? = some ok->k ≠ i->(listed.setIfInBounds j true).getD k true = false ->
     (∀ e ∈ ok.after,Region.binds .any e = true->e.on ≠ i)->oi.apart ops ok = true:=fun k ok hk hki hun hno=>by
    refine hfree k ok hk hki ?_ hno
    by_cases hjk:j = k
    ·subst hjk; exact hjun
    ·rw [getD_set_ne true hjk] at hun; exact hun
   refine wpOpIn_mono (fun a' w' h3=>⟨h3.2.1.mono hH (fun _ h=>h),ih (listed.setIfInBounds j true) (j :: E) a' w' hfree' (ready_mono hr (Ne.symm hji)) (hd.set hj) (hse.cons (getD_true_false hjun).2) h3.1 h3.2.1 ?_⟩) h2;rw [Array.setIfInBounds_comm _ _ hji];exact h3.2.2
def Ls (ops:Array Oper) (listed:Array Bool) (ls:List Nat):Prop:=listed.size = ops.size/\∀ j,listed.getD j false = memB j ls
theorem getD_true_of {listed:Array Bool} {j:Nat} (hj:j < listed.size):listed.getD j true = listed.getD j false:=by simp [hj]
theorem Ls.set {listed:Array Bool} {ls:List Nat} {i:Nat} (h:Ls ops listed ls) (hi:i < ops.size):Ls ops (listed.setIfInBounds i true) (i :: ls):=by
 refine ⟨by simp [h.1],fun j=>?_⟩;unfold memB
 cases hb:Nat.beq j i with
 | true=>
  rw [Nat.beq_eq] at hb;subst hb;simp [h.1,hi]
 | false=>
  have hne:i ≠ j:=fun e=>by rw [<- e,show Nat.beq i i = true from by rw [Nat.beq_eq]] at hb; cases hb
  rw [getD_set_ne false hne,h.2 j]
  rfl
theorem rdy_iff {listed:Array Bool} {ls:List Nat} {i:Nat} (h:Ls ops listed ls):rdy ops.toList ls i = true ↔ i ∈ Region.ready .any ops listed:=by
 rw [mem_ready];unfold rdy;rw [Array.getElem?_toList];constructor
 ·intro hr
  cases hm:memB i ls with
  | true=>simp [hm] at hr
  | false=>
   simp only [hm,cond_false] at hr
   cases ho:ops[i]? with
   | none=>simp [ho] at hr
   | some o=>
    have hi:i < ops.size:=(Array.getElem?_eq_some_iff.1 ho).1;refine ⟨by rw [getD_true_of (by rw [h.1]; exact hi),h.2,hm],o,rfl,fun ed he hb=>?_⟩;simp only [ho,List.all_eq_true,Bool.or_eq_true,Bool.not_eq_true'] at hr;rw [h.2]
    rcases hr ed (Array.mem_toList_iff.2 he) with h1 | h1
    ·rw [hb] at h1; cases h1
    ·exact h1
 ·rintro ⟨hun,o,ho,hall⟩
  have:=getD_true_false hun;rw [show memB i ls = false from by rw [<- h.2]; exact this.1];simp only [cond_false,ho,List.all_eq_true,Bool.or_eq_true,Bool.not_eq_true'];intro ed he
  cases hb:Region.binds .any ed with
  | false=>exact .inl rfl
  | true=>exact .inr (by rw [<- h.2]; exact hall ed (Array.mem_toList_iff.1 he) hb)
theorem covers_spec {listed:Array Bool} {ls is:List Nat} (h:Ls ops listed ls):∀ k,covers ops.toList ls is k = true->∀ i,i < k->i ∈ Region.ready .any ops listed->i ∈ is
 | 0,_,i,hi,_=>by omega
 | k + 1,hc,i,hi,hr=>by
  unfold covers at hc;simp only [Bool.and_eq_true] at hc
  by_cases hik:i = k
  ·subst hik
   have:=hc.1;rw [(rdy_iff h).2 hr] at this;exact memB_iff.1 this
  ·exact covers_spec h k hc.2 i (by omega) hr
theorem ready_lt {listed:Array Bool} {i:Nat} (h:i ∈ Region.ready .any ops listed):i < ops.size:=by
 obtain ⟨_,o,ho,_⟩:=mem_ready.1 h;exact (Array.getElem?_eq_some_iff.1 ho).1
theorem freeAt_spec {listed:Array Bool} {ls:List Nat} {i:Nat} {oi:Oper} (h:Ls ops listed ls):∀ (j:Nat) (l:List Oper),ops.toList.drop j = l->freeAt ops ls i oi j l = true ->
  ∀ k ok,j <= k->ops[k]? = some ok->k ≠ i->listed.getD k true = false->(∀ e ∈ ok.after,Region.binds .any e = true->e.on ≠ i)->oi.apart ops ok = true
 | j,[],hl,_,k,ok,hjk,hk,_,_,_=>by
  have hlt:=(Array.getElem?_eq_some_iff.1 hk).1;have:=congrArg List.length hl;simp at this;omega
 | j,o :: l,hl,hf,k,ok,hjk,hk,hne,hun,hno=>by
  unfold freeAt at hf;simp only [Bool.and_eq_true] at hf
  by_cases hjk':j = k
  ·subst hjk'
   have hko:ops[j]? = some o:=by rw [<- Array.getElem?_toList,<- List.head?_drop,hl]; rfl
   rw [hk] at hko
   cases hko
   have h1:=hf.1;rw [show Nat.beq j i = false from by rw [<- Bool.not_eq_true,Nat.beq_eq]; exact hne] at h1;simp only [cond_false] at h1;rw [show memB j ls = false from by rw [<- h.2]; exact (getD_true_false hun).1] at h1;simp only [cond_false] at h1
   cases ha:o.after.toList.any (fun ed=>Region.binds .any ed && Nat.beq ed.on i) with
   | false=>simpa only [ha,cond_false] using h1
   | true=>
    obtain ⟨ed,he,hb⟩:=List.any_eq_true.1 ha;simp only [Bool.and_eq_true,Nat.beq_eq] at hb;exact absurd hb.2 (hno ed (Array.mem_toList_iff.1 he) hb.1)
  ·have hl2:ops.toList.drop (j + 1) = l:=by rw [<- List.drop_drop,hl]; rfl
   exact freeAt_spec h (j + 1) l hl2 hf.2 k ok (by omega) hk hne hun hno
theorem allPlain_spec:∀ {l:List Oper},allPlain l = true->∀ o ∈ l,plainB o = true
 | [],_,o,h=>by cases h
 | x :: l,h,o,ho=>by
  unfold allPlain at h;simp only [Bool.and_eq_true] at h
  rcases List.mem_cons.1 ho with rfl | ho
  ·exact h.1
  ·exact allPlain_spec h.2 o ho
theorem anyE_false {l0:List Oper} {i:Nat}:∀ {E:List Nat},anyE l0 i E = false ↔ ∀ j ∈ E,dirB l0 i j = false
 | []=>by simp [anyE]
 | j :: js=>by
  unfold anyE
  cases hb:dirB l0 i j with
  | true=>simp [hb]
  | false=>simp [hb,anyE_false (E:=js)]
theorem HoldK_spec {l0:List Oper} {E:List Nat} {w:World} {r:Prop}:∀ {H:Held},HoldK P l0 E H w r->HoldOK P l0 H E w/\r
 | [],h=>⟨fun _ hx=>(by cases hx),h⟩
 | x :: H,h=>by
  unfold HoldK at h
  cases ha:anyE l0 x.1 E with
  | true=>
   simp only [ha,cond_true] at h;obtain ⟨h1,h2⟩:=HoldK_spec h;refine ⟨fun y hy hj=>?_,h2⟩
   rcases List.mem_cons.1 hy with rfl | hy
   ·rw [anyE_false.2 hj] at ha; cases ha
   ·exact h1 y hy hj
  | false=>
   simp only [ha,cond_false] at h;obtain ⟨h1,h2⟩:=HoldK_spec h.2;refine ⟨fun y hy hj=>?_,h2⟩
   rcases List.mem_cons.1 hy with rfl | hy
   ·exact h.1
   ·exact h1 y hy hj
theorem HoldK_mono {l0:List Oper} {E:List Nat} {w:World} {r r':Prop} (hr:r->r'):∀ {H:Held},HoldK P l0 E H w r->HoldK P l0 E H w r'
 | [],h=>hr h
 | x :: H,h=>by
  unfold HoldK at h ⊢
  cases ha:anyE l0 x.1 E with
  | true=>simp only [ha,cond_true] at h ⊢; exact HoldK_mono hr h
  | false=>simp only [ha,cond_false] at h ⊢; exact ⟨h.1,HoldK_mono hr h.2⟩
theorem pureA_spec {o:Oper} {e:Env} {K:Value->Prop} (h:pureA P n o e K):∃ s v,execOp (ev n e) o = lift s/\(∀ w,s.run P w = .ok v w)/\K v:=by
 unfold pureA at h
 split at h
 ·rename_i p hp
  obtain ⟨v,hx,hK⟩:=moveA_lift hp h;exact ⟨_,v,hx,fun _=>rfl,hK⟩
 ·split at h
  ·rename_i s hs
   obtain ⟨v,hr,hK⟩:=h;exact ⟨s,v,vsem_exec hs,hr,hK⟩
  ·exact h.elim
theorem ready_nil {listed:Array Bool} {ls:List Nat} (h:Ls ops listed ls) (hc:covers ops.toList ls [] ops.toList.length = true):Region.ready .any ops listed = []:=by
 cases hr:Region.ready .any ops listed with
 | nil=>rfl
 | cons x xs=>
  have hx:x ∈ Region.ready .any ops listed:=by rw [hr]; exact List.mem_cons_self
  have:=covers_spec h _ hc x (by rw [Array.length_toList]; exact ready_lt hx) hx
  cases this
def Main (ro:Option Nat) (P:Program) (n:Nat) (pn:Env->Option PnT) (rts:List Nat) (ops:Array Oper) (Qx:Exit->Act->World->Prop) (p:Plan):Prop:=
 ∀ (f:Nat) (H:Held) (ls E:List Nat) (K:Env->World->Prop) (e:Env) (a:Act) (w:World) (listed:Array Bool),Ls ops listed ls->Down ops listed->Seen listed E->Agree n e a->HoldOK P ops.toList H E w ->
  (∀ e' w' a',K e' w'->Agree n e' a'->Qx .normal a' w')->drawA P n pn rts ops p f H ls E K e w->wpAnyD ro P ops Qx H f listed E a w
def Chain (ro:Option Nat) (P:Program) (n:Nat) (pn:Env->Option PnT) (rts:List Nat) (ops:Array Oper) (Qx:Exit->Act->World->Prop) (p:Plan):Prop:=
 ∀ (f:Nat) (H:Held) (ls E:List Nat) (K:Env->World->Prop) (e:Env) (a:Act) (w:World) (listed:Array Bool),Ls ops listed ls->Down ops listed->Seen listed E->Agree n e a->HoldOK P ops.toList H E w ->
  (∀ e' w' a',K e' w'->Agree n e' a'->Qx .normal a' w')->drawA P n pn rts ops p f H ls E K e w->∀ i ∈ idxs p,i ∈ Region.ready .any ops listed ->
   ∃ f',f = f' + 1/\wpOpIn (FF ro) 0 P ops Qx i (fun a' w'=>HoldOK P ops.toList H (i :: E) w'/\wpAnyD ro P ops Qx H f' (listed.setIfInBounds i true) (i :: E) a' w') a w
theorem main_take (hQ:∀ c (a:Act) d v w,memB d rts = false->Qx (.panic c) (a.put (some d) v) w->Qx (.panic c) a w) (hpl:∀ (j:Nat) o,ops[j]? = some o->plainB o = true) {H H':Held} {ls E:List Nat} {f i:Nat} {o:Oper} {K:Env->World->Prop} {p:Plan} {e:Env} {a:Act} {w:World} {listed:Array Bool}
  (ih:Main ro P n pn rts ops Qx p) (hl:Ls ops listed ls) (hd:Down ops listed) (hse:Seen listed E) (ha:Agree n e a) (hok:HoldOK P ops.toList H' E w) (hH:∀ x ∈ H,x ∈ H')
  (hk:∀ e' w' a',K e' w'->Agree n e' a'->Qx .normal a' w') (ho:ops[i]? = some o) (hc:rdy ops.toList ls i = true) (hf:freeAt ops ls i o 0 ops.toList = true) (hkp:keepB rts o.dst = true) (s:Sem Value) (v:Value)
  (hs:∀ listed' E' w',Down ops listed'->Seen listed' E'->listed'.getD i false = false->HoldOK P ops.toList H' E' w'->s.run P w' = .ok v w') (hy:Yd ops o s v a)
  (h:dstA n o e v (fun e'=>drawA P n pn rts ops p f H' (i :: ls) E K e' w)):wpAnyD ro P ops Qx H (f + 1) listed E a w:=by
 have hr:=(rdy_iff hl).1 hc;have hi:=ready_lt hr;obtain ⟨e',h2,_,h4⟩:=dstA_spec h;exact takeD ho hpl hQ hkp hH hs f listed E a w (fun j oj=>freeAt_spec hl 0 ops.toList (by simp) hf j oj (Nat.zero_le _)) hr hd hse hy hok
  (ih f H' (i :: ls) E K e' _ w _ (hl.set hi) (hd.set hr) hse.set (h4 a ha) hok hk h2)
theorem main_eff (hpn:∀ e a Pn c w,Agree n e a->pn e = some Pn->Pn c w->Qx (.panic c) a w) {H:Held} {ls E:List Nat} {f i:Nat} {o:Oper} {K:Env->World->Prop} {p:Plan} {e:Env} {a:Act} {w:World} {listed:Array Bool}
  (ih:Main ro P n pn rts ops Qx p) (hl:Ls ops listed ls) (hd:Down ops listed) (hse:Seen listed E) (ha:Agree n e a)
  (hk:∀ e' w' a',K e' w'->Agree n e' a'->Qx .normal a' w') (ho:ops[i]? = some o) (hr:i ∈ Region.ready .any ops listed) (hw:wantE n ops.toList o e = true)
  (h:valA P n (pn e) o e w (fun v w'=>HoldK P ops.toList (i :: E) H w' (dstA n o e v fun e'=>drawA P n pn rts ops p f H (i :: ls) (i :: E) K e' w'))) :
  wpOpIn (FF ro) 0 P ops Qx i (fun a' w'=>HoldOK P ops.toList H (i :: E) w'/\wpAnyD ro P ops Qx H f (listed.setIfInBounds i true) (i :: E) a' w') a w:=by
 have hi:=ready_lt hr;unfold wpOpIn;simp only [ho,wanted_E ha,hw,if_true];refine valA_sound ha h (fun v w' h1=>?_) (fun Pn h1 c w h2=>hpn e a Pn c w ha h1 h2);obtain ⟨h2,h3⟩:=HoldK_spec h1;obtain ⟨e',h4,_,h5⟩:=dstA_spec h3;exact ⟨h2,ih f H (i :: ls) (i :: E) K e' _ w' _ (hl.set hi) (hd.set hr) (hse.cons (by rw [hl.1]; exact hi)) (h5 a ha) h2 hk h4⟩
theorem drawA_sound (hpn:∀ e a Pn c w,Agree n e a->pn e = some Pn->Pn c w->Qx (.panic c) a w) (hQ:∀ c (a:Act) d v w,memB d rts = false->Qx (.panic c) (a.put (some d) v) w->Qx (.panic c) a w) (hpl:allPlain ops.toList = true) (p:Plan) :
  (okP p = true->Main ro P n pn rts ops Qx p)/\(okC p = true->Chain ro P n pn rts ops Qx p):=by
 have hpl':∀ (j:Nat) o,ops[j]? = some o->plainB o = true:=fun j o ho=>allPlain_spec hpl o (Array.mem_toList_iff.2 (Array.mem_of_getElem? ho))
 induction p with
 | done=>
  refine ⟨fun _ f H ls E K e a w listed hl hd hse ha hok hk h=>?_,fun h=>(by unfold okC at h; cases h)⟩;unfold drawA at h
  cases hc:covers ops.toList ls [] ops.toList.length with
  | false=>rw [hc] at h; exact h.elim
  | true=>
   rw [hc] at h;have hn:=ready_nil hl hc
   cases f with
   | zero=>exact ⟨hn,hk _ _ _ h ha⟩
   | succ f=>exact ⟨fun _=>hk _ _ _ h ha,by rw [hn]; intro i hi; cases hi⟩
 | take i p ih=>
  refine ⟨fun hp f H ls E K e a w listed hl hd hse ha hok hk h=>?_,fun h=>(by unfold okC at h; cases h)⟩
  cases f with
  | zero=>unfold drawA at h; exact h.elim
  | succ f=>
   unfold drawA at h;rw [Array.getElem?_toList] at h
   cases ho:ops[i]? with
   | none=>simp [ho] at h
   | some o=>
    simp only [ho] at h
    cases hc:rdy ops.toList ls i && freeAt ops ls i o 0 ops.toList && keepB rts o.dst with
    | false=>simp [hc] at h
    | true=>
     simp only [hc,cond_true] at h;simp only [Bool.and_eq_true] at hc;have ihp:Main ro P n pn rts ops Qx p:=ih.1 (by unfold okP at hp; exact hp)
     cases hw:wantE n ops.toList o e with
     | true=>
      simp only [hw,cond_true] at h;obtain ⟨s,v,hx,hs,h1⟩:=pureA_spec h;exact main_take hQ hpl' ihp hl hd hse ha hok (fun _ h=>h) hk ho hc.1.1 hc.1.2 hc.2 s v (fun _ _ w' _ _ _ _=>hs w') (.inl ⟨by rw [wanted_E ha]; exact hw,by rw [ha.evf]; exact hx⟩) h1
     | false=>
      simp only [hw,cond_false] at h;exact main_take hQ hpl' ihp hl hd hse ha hok (fun _ h=>h) hk ho hc.1.1 hc.1.2 hc.2 (.pure undef) undef (fun _ _ w' _ _ _ _=>rfl) (.inr ⟨by rw [wanted_E ha]; exact hw,rfl⟩) h
 | hold i p ih=>
  refine ⟨fun hp f H ls E K e a w listed hl hd hse ha hok hk h=>?_,fun h=>(by unfold okC at h; cases h)⟩
  cases f with
  | zero=>unfold drawA at h; exact h.elim
  | succ f=>
   unfold drawA at h;rw [Array.getElem?_toList] at h
   cases ho:ops[i]? with
   | none=>simp [ho] at h
   | some o=>
    simp only [ho] at h
    cases hc:rdy ops.toList ls i && freeAt ops ls i o 0 ops.toList && keepB rts o.dst && wantE n ops.toList o e with
    | false=>simp [hc] at h
    | true=>
     simp only [hc,cond_true] at h;simp only [Bool.and_eq_true] at hc;have ihp:Main ro P n pn rts ops Qx p:=ih.1 (by unfold okP at hp; exact hp)
     split at h
     ·rename_i s hs
      obtain ⟨v,hr,h1⟩:=h;refine main_take (H':=(i,s,v) :: H) hQ hpl' ihp hl hd hse ha ?_ (fun x hx=>List.mem_cons_of_mem _ hx) hk ho hc.1.1.1 hc.1.1.2 hc.1.2 s v ?_ (.inl ⟨by rw [wanted_E ha]; exact hc.2,by rw [ha.evf]; exact vsem_exec hs⟩) h1
      ·intro x hx hj
       rcases List.mem_cons.1 hx with rfl | hx
       ·exact hr
       ·exact hok x hx hj
      ·intro listed' E' w' hd' hse' hun hok'
       exact hok' (i,s,v) List.mem_cons_self fun j hj=>dirB_false hd' (hse' j hj) hun
     ·exact h.elim
 | alts p ih=>
  refine ⟨fun hp f H ls E K e a w listed hl hd hse ha hok hk h=>?_,fun h=>(by unfold okC at h; cases h)⟩;unfold okP at hp;unfold drawA at h
  cases hc:covers ops.toList ls (idxs p) ops.toList.length && fstRdy ops.toList ls (idxs p) with
  | false=>rw [hc] at h; exact h.elim
  | true=>
   rw [hc] at h;simp only [Bool.and_eq_true] at hc;have hch:=ih.2 hp f H ls E K e a w listed hl hd hse ha hok hk h;have hcov:∀ i ∈ Region.ready .any ops listed,i ∈ idxs p:=fun i hi=>covers_spec hl _ hc.1 i (by rw [Array.length_toList]; exact ready_lt hi) hi
   have hone:∃ i,i ∈ idxs p/\i ∈ Region.ready .any ops listed:=by
    have h2:=hc.2
    cases hx:idxs p with
    | nil=>rw [hx] at h2; cases h2
    | cons i is=>rw [hx] at h2; exact ⟨i,List.mem_cons_self,(rdy_iff hl).1 h2⟩
   obtain ⟨i,hi,hr⟩:=hone;obtain ⟨f',rfl,_⟩:=hch i hi hr;refine ⟨fun hn=>(by rw [hn] at hr; cases hr),fun j hj=>?_⟩;obtain ⟨f'',hf,hj'⟩:=hch j (hcov j hj) hj
   cases hf
   exact hj'
 | eff i p r ihp ihr=>
  refine ⟨fun h=>(by unfold okP at h; cases h),fun hp f H ls E K e a w listed hl hd hse ha hok hk h j hj hr=>?_⟩;unfold okC at hp;simp only [Bool.and_eq_true] at hp
  cases f with
  | zero=>cases r <;> (unfold drawA at h; exact h.elim)
  | succ f=>
   have hsplit:(∃ o,ops[i]? = some o/\wantE n ops.toList o e = true/\valA P n (pn e) o e w (fun v w'=>HoldK P ops.toList (i :: E) H w' (dstA n o e v fun e'=>drawA P n pn rts ops p f H (i :: ls) (i :: E) K e' w'))) /\
     (r = .nil \/ drawA P n pn rts ops r (f + 1) H ls E K e w):=by
    cases r <;> (
     unfold drawA at h;rw [Array.getElem?_toList] at h
     cases ho:ops[i]? with
     | none=>simp [ho] at h
     | some o=>
      simp only [ho] at h
      cases hw:wantE n ops.toList o e with
      | false=>simp [hw] at h
      | true=>
       simp only [hw,cond_true] at h
       first
        | exact ⟨⟨o,rfl,hw,h⟩,.inl rfl⟩
        | exact ⟨⟨o,rfl,hw,h.1⟩,.inr h.2⟩)
   obtain ⟨⟨o,ho,hw,h1⟩,h2⟩:=hsplit
   rcases List.mem_cons.1 hj with rfl | hj
   ·exact ⟨f,rfl,main_eff hpn (ihp.1 hp.1) hl hd hse ha hk ho hr hw h1⟩
   ·rcases h2 with rfl | h2
    ·cases hj
    ·exact ihr.2 hp.2 (f + 1) H ls E K e a w listed hl hd hse ha hok hk h2 j hj hr
 | nil=>exact ⟨fun h=>(by unfold okP at h; cases h),fun _ f H ls E K e a w listed _ _ _ _ _ _ _ i hi=>by cases hi⟩
 | split d p q ihp ihq=>
  refine ⟨fun hp f H ls E K e a w listed hl hd hse ha hok hk h=>?_,fun h=>(by unfold okC at h; cases h)⟩;unfold okP at hp;simp only [Bool.and_eq_true] at hp;unfold drawA at h;obtain ⟨b,hb,h1,h2⟩:=h;have hde:e d = .bool b:=by
   unfold ev at hb
   cases hlt:Nat.blt d n with
   | true=>simpa only [hlt,cond_true] using hb
   | false=>simp only [hlt,cond_false,undef] at hb; cases hb
  cases b with
  | true=>exact ihp.1 hp.1 f H ls E K _ a w listed hl hd hse (ha.again d _ hde) hok hk (h1 rfl)
  | false=>exact ihq.1 hp.2 f H ls E K _ a w listed hl hd hse (ha.again d _ hde) hok hk (h2 rfl)
end
end Go.Proofs.YtmideenmlhbdjaaGreatDoor.Q
end
section
namespace Go.Proofs.YtmideenmlhbdjaaGreatDoor.Q
open Go
inductive Ann where
 | leaf
 | seq (a b:Ann)
 | seqJ (live ms:List Nat) (a b:Ann)
 | cond (a b:Ann)
 | one (a:Ann)
 | loop (live ms:List Nat) (a:Ann)
 | reg (it:Items)
 | draw (p:Plan)
 | rf (ids:List Nat) (asg body:Ann)
 | dfr (it:Items)
def isDf (o:Oper):Bool:=
 match o.op with
 | .defer _=>true
 | _=>false
def hasDf:List Oper->Bool
 | []=>false
 | o :: l=>bif isDf o then true else hasDf l
def mods (n:Nat):Code->List Nat
 | .region _ ops _=>dsts ops.toList ++ (bif hasDf ops.toList then [n + 1] else [])
 | .seq a b=>mods n a ++ mods n b
 | .cond _ a b=>mods n a ++ mods n b
 | .block _ a=>mods n a
 | .loop a=>mods n a
 | .scope a=>mods n a
 | .rangeFunc ..=>[n]
 | _=>[]
def thenX (K:Env->World->Prop) (Q:X->Env->World->Prop):X->Env->World->Prop
 | .normal,e,w=>K e w
 | x,e,w=>Q x e w
def blockX (id:Nat) (Q:X->Env->World->Prop):X->Env->World->Prop
 | .exit i,e,w=>bif Nat.beq i id then Q .normal e w else Q (.exit i) e w
 | x,e,w=>Q x e w
def loopX (live:List Nat) (I:List Value->World->Prop) (μ:List Value->World->Nat) (m:Nat) (Q:X->Env->World->Prop):X->Env->World->Prop
 | .normal,e,w=>I (live.map e) w/\μ (live.map e) w < m
 | x,e,w=>Q x e w
def Dr (w:World) (K:World->Prop):Prop:=K { w with drawn:=w.drawn + 1 }
def lobj (lp:Loop) (st:LoopState) (pend:Option Code):Obj:=.loop { lp with state:=st,pending:=pend }
def putR (w:World) (l:Nat) (o:Obj):World:={ w with heap:=w.heap.setIfInBounds l o }
def BeginW (l:Nat) (lp:Loop) (w:World) (K:World->Prop):Prop:=w.heap[l]? = some (lobj lp .ready none)/\K (putR w l (lobj lp .busy none))
def EndW (l:Nat) (lp:Loop) (jump:Option Code) (w:World) (K:Value->World->Prop):Prop:=
 (∃ st pend,w.heap[l]? = some (lobj lp st pend))/\K (.bool jump.isNone) (putR w l (lobj lp (if jump.isNone then .ready else .done) jump))
def NewRF (w w1:World) (r l:Nat) (lp:Loop):Prop:=r = w.heap.size/\l = w.heap.size + 1/\w1 = { w with heap:=(w.heap.push (.deferred (some []))).push (lobj lp .ready none) }
def CallE (P:Program) (f:Value) (args:Array Value) (w:World) (K:Value->World->Prop):Prop:=
 match (callSem f args).run P w with
 | .ok (.enter g ags) w'=>Calls P g ags w' (retK K)
 | _=>False
def lookK (id:Nat):List (Nat × (World->Prop))->World->Prop
 | [],_=>False
 | (i,K) :: l,w=>bif Nat.beq i id then K w else lookK id l w
def jumpK (pend:Option Code) (Kn Kr:World->Prop) (kes:List (Nat × (World->Prop))) (w:World):Prop:=
 match pend with
 | none=>Kn w
 | some .ret=>Kr w
 | some (.exit id)=>lookK id kes w
 | some _=>False
def RfEnd (l:Nat) (lp:Loop) (w:World) (Kn Kr:World->Prop) (kes:List (Nat × (World->Prop))):Prop:=
 ∃ st pend,w.heap[l]? = some (lobj lp st pend)/\st ≠ .busy/\jumpK pend Kn Kr kes (putR w l (lobj lp .exhausted pend))
def putE:List Nat->List Value->Env->Env
 | p :: ps,v :: vs,e=>putE ps vs (upd e p v)
 | _,_,e=>e
def allLt (n:Nat):List Nat->Bool
 | []=>true
 | p :: ps=>Nat.blt p n && allLt n ps
def roundX (l:Nat) (lp:Loop) (K:Value->World->Prop):X->Env->World->Prop
 | .normal,_,w=>EndW l lp none w K
 | .ret,_,w=>EndW l lp (some .ret) w K
 | .exit id,_,w=>EndW l lp (some (.exit id)) w K
def asgX (K:Env->World->Prop):X->Env->World->Prop
 | .normal,e,w=>K e w
 | _,_,_=>False
def dfF (o:Oper):Option Operand:=
 match o.op with
 | .defer c=>match c.callee with
  | .value f=>bif c.args.toList.isEmpty then some f else none
  | _=>none
 | _=>none
def CloK (v:Value) (K:Value->Prop):Prop:=
 match v with
 | .func fn first captured=>K (.func fn first captured)
 | _=>False
def Defer1 (n:Nat) (l0:List Oper) (o:Oper) (e:Env) (K:Env->Prop):Prop:=
 match dfF o with
 | some f=>bif wantE n l0 o e && (o.dst.isNone && ((marks (e n)).isEmpty && (clo (e (n + 1))).isEmpty)) then CloK (ev n e f) fun v=>K (upd e (n + 1) v) else False
 | none=>False
def DeferA (n:Nat) (l0:List Oper) (l:List Oper) (e:Env) (K:Env->Prop):Prop:=
 match l with
 | [o]=>Defer1 n l0 o e K
 | _=>False
def wpA (P:Program) (n:Nat) (pn:Env->Option PnT) (rts:List Nat):Code->Ann->Option Nat->(X->Env->World->Prop)->Env->World->Prop
 | .skip,_,_,Q,e,w=>Q .normal e w
 | .label _,_,_,Q,e,w=>Q .normal e w
 | .ret,_,_,Q,e,w=>Q .ret e w
 | .exit id,_,_,Q,e,w=>Q (.exit id) e w
 | .seq a b,.seq p q,ro,Q,e,w=>wpA P n pn rts a p ro (thenX (wpA P n pn rts b q ro Q) Q) e w
 | .seq a b,.seqJ live ms p q,ro,Q,e,w=>bif subB (mods n a) ms && (subB live ms && subB ms (mods n a)) then
   ∀ K:List Value->World->Prop,AllV live.length (fun l=>∀ w,(∀ g:Env,wpA P n pn rts b q ro Q (mix live l ms g e) w)->K l w)->wpA P n pn rts a p ro (thenX (fun e' w'=>K (live.map e') w') Q) e w
   else False
 | .cond c a b,.cond p q,ro,Q,e,w=>CondW (ev n e c) (wpA P n pn rts a p ro Q e w) (wpA P n pn rts b q ro Q e w)
 | .block id a,.one p,ro,Q,e,w=>wpA P n pn rts a p ro (blockX id Q) e w
 | .scope a,.one p,none,Q,e,w=>wpA P n pn rts a p none Q e w
 | .loop a,.loop live ms p,ro,Q,e,w=>bif subB (mods n a) ms && (subB live ms && subB ms (mods n a)) then
   ∃ (I:List Value->World->Prop) (μ:List Value->World->Nat),I (live.map e) w /\
    ∀ g:Env,AllV live.length (fun l=>∀ w,I l w->∀ m,m = μ l w->wpA P n pn rts a p ro (loopX live I μ m Q) (mix live l ms g e) w)
   else False
 | .region _ ops false,.reg it,ro,Q,e,w=>opsA P n pn ops.toList it ops.toList (fun l e w=>match l with | []=>Q .normal e w | _=>False) e w
 | .region _ ops false,.dfr it,none,Q,e,w=>opsA P n pn ops.toList it ops.toList (fun l e w=>DeferA n ops.toList l e fun e=>Q .normal e w) e w
 | .region _ ops true,.draw p,ro,Q,e,w=>bif okP p && allPlain ops.toList then Dr w (fun w=>drawA P n pn rts ops p ops.toList.length [] [] [] (fun e w=>Q .normal e w) e w) else False
 | .rangeFunc g ps asg body,.rf ids p q,none,Q,e,w=>bif allLt n ps.toList then
   ∀ (lp:Loop) (r l:Nat) (w1:World),NewRF w w1 r l lp ->
    (∀ (w':World) (K:Value->World->Prop),AllV ps.toList.length (fun vs=>wpA P n (fun _=>none) [] asg p (some l) (asgX fun e1 w1'=>BeginW l lp w1' fun w2=>wpA P n (fun _=>none) [] body q (some l) (roundX l lp K) e1 w2) (putE ps.toList vs (upd (upd e n undef) (n + 1) undef)) w'->w'.heap[l]? = some (lobj lp .ready none) ->
     CallV P (.func (.yield l) #[] #[]) vs.toArray w' K)) ->
    CallE P (ev n e g) #[.func (.yield l) #[] #[]] w1 (fun _ w2=>RfEnd l lp w2 (fun w3=>Q .normal (upd e n (.iface r (e n))) w3) (fun w3=>Q .ret (upd e n (.iface r (e n))) w3) (ids.map fun id=>(id,fun w3=>Q (.exit id) (upd e n (.iface r (e n))) w3)))
   else False
 | _,_,_,_,_,_=>False
def TakeW:List Nat->World->(World->Prop)->Prop
 | [],w,K=>K w
 | r :: rs,w,K=>w.heap[r]? = some (.deferred (some []))/\TakeW rs (putR w r (.deferred none)) K
def CellW (P:Program) (t:TypeId) (x:Value) (w:World) (K:Value->Prop):Prop:=
 match x with
 | .pointer (some ad)=>Hv P (loadVar t ad) w K
 | _=>False
def resL (P:Program) (n:Nat) (e:Env):List ResultVar->List Value->World->(List Value->World->Prop)->Prop
 | [],acc,w,K=>K acc.reverse w
 | .tmp t :: rs,acc,w,K=>resL P n e rs (ev n e (.tmp t) :: acc) w K
 | .cell a t :: rs,acc,w,K=>CellW P t (ev n e (.tmp a)) w fun v=>resL P n e rs (v :: acc) w K
def resV:List Value->Value
 | [v]=>v
 | vs=>.tuple vs.toArray
def CloseW (P:Program) (v:Value) (u:FrameMode) (w:World) (K:World->Prop):Prop:=
 match v with
 | .func fn first captured=>∃ f args,(invoke (.fn fn captured) first).run P w = .ok (.enter f args) w/\CallsDIn (FF none) 0 P f args u w fun en u' w'=>∃ x,en = .returned x/\settle u' = .returning/\K w'
 | _=>False
def cloR (P:Program) (v:Value) (w:World) (K:World->Prop):Prop:=
 match v with
 | .func fn first captured=>CloseW P (.func fn first captured) .returning w K
 | _=>K w
def retQ (P:Program) (n:Nat) (rs:List ResultVar) (R:Value->World->Prop):X->Env->World->Prop
 | .normal,e,w=>TakeW (marks (e n)) w fun w=>cloR P (e (n + 1)) w fun w=>resL P n e rs [] w fun vs w=>R (resV vs) w
 | .ret,e,w=>TakeW (marks (e n)) w fun w=>cloR P (e (n + 1)) w fun w=>resL P n e rs [] w fun vs w=>R (resV vs) w
 | _,_,_=>False
def pnF (n:Nat) (Pn:PnT):Env->Option PnT:=fun e=>some fun c w=>bif (clo (e (n + 1))).isEmpty then TakeW (marks (e n)) w fun w=>Pn c w else False
def pnD (P:Program) (n:Nat) (rs:List ResultVar) (R:Value->World->Prop):Env->Option PnT:=fun e=>some fun c w=>TakeW (marks (e n)) w fun w=>CloseW P (e (n + 1)) (.panicking c) w fun w=>resL P n e rs [] w fun vs w=>R (resV vs) w
def resT:List ResultVar->List Nat
 | []=>[]
 | .tmp t :: rs=>t :: resT rs
 | .cell a _ :: rs=>a :: resT rs
def initE:Nat->List Value->Env
 | _,[]=>fun _=>undef
 | k,v :: vs=>upd (initE (k + 1) vs) k v
def enterW (P:Program) (fn:Func) (ann:Ann) (args:List Value) (w:World) (R:Value->World->Prop):Prop:=
 match fn.body with
 | some c=>wpA P fn.ntmps (fun _=>none) [] c ann none (retQ P fn.ntmps fn.results.toList R) (initE 0 args) w
 | none=>False
def enterWP (P:Program) (fn:Func) (ann:Ann) (args:List Value) (w:World) (R:Value->World->Prop) (Pn:PnT):Prop:=
 match fn.body with
 | some c=>wpA P fn.ntmps (pnF fn.ntmps Pn) [] c ann none (retQ P fn.ntmps fn.results.toList R) (initE 0 args) w
 | none=>False
def enterWD (P:Program) (fn:Func) (ann:Ann) (args:List Value) (w:World) (R:Value->World->Prop):Prop:=
 match fn.body with
 | some c=>wpA P fn.ntmps (pnD P fn.ntmps fn.results.toList R) (resT fn.results.toList) c ann none (retQ P fn.ntmps fn.results.toList R) (initE 0 args) w
 | none=>False
end Go.Proofs.YtmideenmlhbdjaaGreatDoor.Q
end
section
namespace Go.Proofs.YtmideenmlhbdjaaGreatDoor.Q
open Go
variable {P:Program} {n:Nat}
theorem dstA_step {o:Oper} {e:Env} {v:Value} {K:Env->Prop} {ms:List Nat} (h:dstA n o e v K) (hm:∀ i ∈ dsts [o],i ∈ ms):dstA n o e v fun e'=>(∀ i,i ∉ ms->e' i = e i)/\K e':=by
 unfold dstA at h ⊢
 split at h
 ·rename_i d hd
  cases hb:Nat.blt d n with
  | false=>simp [hb] at h
  | true=>
   simp only [hb,cond_true] at h ⊢;exact ⟨fun i hi=>upd_ne _ _ _ fun hid=>hi (hm i (by simp [dsts,hd,hid])),h⟩
 ·exact ⟨fun _ _=>rfl,h⟩
theorem pureA_mono {o:Oper} {e:Env} {K K':Value->Prop} (h:pureA P n o e K) (hk:∀ v,K v->K' v):pureA P n o e K':=by
 unfold pureA at h ⊢
 split at h
 ·rename_i p hp
  obtain ⟨p',hp',himp⟩:=moveA_mono hp hk;rw [hp'];exact himp h
 ·rename_i hp
  rw [moveA_none hp]
  split at h
  ·obtain ⟨v,hr,hK⟩:=h; exact ⟨v,hr,hk _ hK⟩
  ·exact h.elim
theorem dsts_of_mem {o:Oper}:∀ {l:List Oper},o ∈ l->∀ i ∈ dsts [o],i ∈ dsts l
 | x :: l,h,i,hi=>by
  rw [dsts_cons]
  rcases List.mem_cons.1 h with rfl | h
  ·exact List.mem_append_left _ hi
  ·exact List.mem_append_right _ (dsts_of_mem h i hi)
theorem drawA_mods {pn:Env->Option PnT} {rts:List Nat} {ops:Array Oper} {ms:List Nat} (hm:∀ i ∈ dsts ops.toList,i ∈ ms):∀ (p:Plan) (f:Nat) (H:Held) (ls E:List Nat) (K K':Env->World->Prop) (e:Env) (w:World),
  (∀ e' w',(∀ i,i ∉ ms->e' i = e i)->K e' w'->K' e' w')->drawA P n pn rts ops p f H ls E K e w->drawA P n pn rts ops p f H ls E K' e w:=by
 have hmo:∀ {i:Nat} {o:Oper},ops.toList[i]? = some o->∀ j ∈ dsts [o],j ∈ ms:=fun ho j hj=>hm j (dsts_of_mem (List.mem_of_getElem? ho) j hj)
 intro p
 induction p with
 | done=>
  intro f H ls E K K' e w hk h;unfold drawA at h ⊢
  cases hc:covers ops.toList ls [] ops.toList.length with
  | false=>rw [hc] at h; exact h.elim
  | true=>rw [hc] at h; exact hk e w (fun _ _=>rfl) h
 | take i p ih=>
  intro f H ls E K K' e w hk h
  cases f with
  | zero=>unfold drawA at h; exact h.elim
  | succ f=>
   unfold drawA at h ⊢
   cases ho:ops.toList[i]? with
   | none=>rw [ho] at h; exact h.elim
   | some o=>
    rw [ho] at h;simp only at h ⊢;have key:∀ v,dstA n o e v (fun e'=>drawA P n pn rts ops p f H (i :: ls) E K e' w)->dstA n o e v (fun e'=>drawA P n pn rts ops p f H (i :: ls) E K' e' w):=fun v h1=>
     dstA_mono (dstA_step h1 (hmo ho)) fun e' ⟨h2,h3⟩=>ih f H _ E K K' e' w (fun e'' w'' h4=>hk e'' w'' fun i hi=>by rw [h4 i hi,h2 i hi]) h3
    cases hc:rdy ops.toList ls i && freeAt ops ls i o 0 ops.toList && keepB rts o.dst with
    | false=>rw [hc] at h; exact h.elim
    | true=>
     rw [hc] at h
     cases hw:wantE n ops.toList o e with
     | true=>rw [hw] at h; exact pureA_mono h key
     | false=>rw [hw] at h; exact key _ h
 | hold i p ih=>
  intro f H ls E K K' e w hk h
  cases f with
  | zero=>unfold drawA at h; exact h.elim
  | succ f=>
   unfold drawA at h ⊢
   cases ho:ops.toList[i]? with
   | none=>rw [ho] at h; exact h.elim
   | some o=>
    rw [ho] at h;simp only at h ⊢
    cases hc:rdy ops.toList ls i && freeAt ops ls i o 0 ops.toList && keepB rts o.dst && wantE n ops.toList o e with
    | false=>rw [hc] at h; exact h.elim
    | true=>
     rw [hc] at h;simp only [cond_true] at h ⊢
     split at h
     ·obtain ⟨v,hr,h1⟩:=h
      exact ⟨v,hr,dstA_mono (dstA_step h1 (hmo ho)) fun e' ⟨h2,h3⟩=>ih f _ _ E K K' e' w (fun e'' w'' h4=>hk e'' w'' fun i hi=>by rw [h4 i hi,h2 i hi]) h3⟩
     ·exact h.elim
 | alts p ih=>
  intro f H ls E K K' e w hk h;unfold drawA at h ⊢
  cases hc:covers ops.toList ls (idxs p) ops.toList.length && fstRdy ops.toList ls (idxs p) with
  | false=>rw [hc] at h; exact h.elim
  | true=>rw [hc] at h; exact ih f H ls E K K' e w hk h
 | eff i p r ihp ihr=>
  intro f H ls E K K' e w hk h
  cases f with
  | zero=>cases r <;> (unfold drawA at h; exact h.elim)
  | succ f=>
   have key:∀ o,ops.toList[i]? = some o->valA P n (pn e) o e w (fun v w'=>HoldK P ops.toList (i :: E) H w' (dstA n o e v fun e'=>drawA P n pn rts ops p f H (i :: ls) (i :: E) K e' w')) ->
     valA P n (pn e) o e w (fun v w'=>HoldK P ops.toList (i :: E) H w' (dstA n o e v fun e'=>drawA P n pn rts ops p f H (i :: ls) (i :: E) K' e' w')):=fun o ho h=>
    valA_mono h fun v w' h1=>HoldK_mono (fun h2=>dstA_mono (dstA_step h2 (hmo ho)) fun e' ⟨h3,h4⟩=>ihp f H _ _ K K' e' w' (fun e'' w'' h5=>hk e'' w'' fun i hi=>by rw [h5 i hi,h3 i hi]) h4) h1
   cases r <;> (
    unfold drawA at h ⊢
    cases ho:ops.toList[i]? with
    | none=>rw [ho] at h; exact h.elim
    | some o=>
     rw [ho] at h;simp only at h ⊢
     cases hw:wantE n ops.toList o e with
     | false=>rw [hw] at h; exact h.elim
     | true=>
      rw [hw] at h;simp only [cond_true] at h ⊢
      first
       | exact key o ho h
       | exact ⟨key o ho h.1,ihr (f + 1) H ls E K K' e w hk h.2⟩)
 | nil=>intro f H ls E K K' e w hk h; unfold drawA at h; exact h.elim
 | split d p q ihp ihq=>
  intro f H ls E K K' e w hk h;unfold drawA at h ⊢;obtain ⟨b,hb,h1,h2⟩:=h;have hd:∀ c,b = c->∀ i,upd e d (.bool c) i = e i:=fun c hbc i=>by
   by_cases hid:i = d
   ·subst hid
    rw [upd_same];subst hbc;unfold ev at hb
    cases hlt:Nat.blt i n with
    | true=>simp only [hlt,cond_true] at hb; exact hb.symm
    | false=>simp only [hlt,cond_false,undef] at hb; cases hb
   ·exact upd_ne _ _ _ hid
  exact ⟨b,hb,fun hh=>ihp f H ls E K K' _ w (fun e' w' h3=>hk e' w' fun i hi=>by rw [h3 i hi,hd true hh]) (h1 hh),
   fun hh=>ihq f H ls E K K' _ w (fun e' w' h3=>hk e' w' fun i hi=>by rw [h3 i hi,hd false hh]) (h2 hh)⟩
theorem CallE.mono {f:Value} {args:Array Value} {w:World} {K K':Value->World->Prop} (h:CallE P f args w K) (hk:∀ v w',K v w'->K' v w'):CallE P f args w K':=by
 unfold CallE at h ⊢
 split at h
 ·exact Calls.mono h (retK.mono hk)
 ·exact h.elim
theorem lookK_mono {id:Nat} {ids:List Nat} {A B:Nat->World->Prop} (h:∀ id w,A id w->B id w) {w:World}:lookK id (ids.map fun i=>(i,A i)) w->lookK id (ids.map fun i=>(i,B i)) w:=by
 induction ids with
 | nil=>exact fun hh=>hh
 | cons j js ih=>
  simp only [List.map_cons,lookK]
  cases hb:Nat.beq j id with
  | true=>
   have:j = id:=Nat.beq_eq.mp hb;subst this;exact h _ _
  | false=>exact ih
theorem hasDf_mem {o:Oper} (ho:isDf o = true):∀ (l:List Oper),o ∈ l->hasDf l = true
 | [],h=>by cases h
 | x :: l,h=>by
  show (bif isDf x then true else hasDf l) = true
  rcases List.mem_cons.1 h with e | h
  ·rw [<- e,ho]; rfl
  ·rw [hasDf_mem ho l h]; cases isDf x <;> rfl
theorem dfF_spec {o:Oper} {f:Operand} (h:dfF o = some f):∃ c,o.op = .defer c/\c.callee = .value f/\c.args = #[]:=by
 unfold dfF at h
 split at h
 ·rename_i c hop
  split at h
  ·rename_i g hc
   cases ha:c.args.toList.isEmpty with
   | false=>rw [ha] at h; cases h
   | true=>
    rw [ha] at h
    cases h
    exact ⟨c,hop,hc,Array.toList_inj.1 (by simpa using ha)⟩
  ·cases h
 ·cases h
theorem CloK_spec {v:Value} {K:Value->Prop} (h:CloK v K):∃ fn first cap,v = .func fn first cap/\K (.func fn first cap):=by
 unfold CloK at h
 split at h
 ·exact ⟨_,_,_,rfl,h⟩
 ·exact h.elim
theorem deferA_spec {l0 l:List Oper} {e:Env} {K:Env->Prop} (h:DeferA n l0 l e K):∃ o c f fn first cap,l = [o]/\o.op = .defer c/\c.callee = .value f/\c.args = #[]/\wantE n l0 o e = true/\o.dst = none/\marks (e n) = []/\clo (e (n + 1)) = []/\ev n e f = .func fn first cap/\K (upd e (n + 1) (.func fn first cap)):=by
 match l,h with
 | [o],h=>
  have h:Defer1 n l0 o e K:=h;unfold Defer1 at h
  cases hd:dfF o with
  | none=>rw [hd] at h; exact h.elim
  | some f=>
   rw [hd] at h;simp only at h;obtain ⟨c,h1,h2,h3⟩:=dfF_spec hd
   cases hb:wantE n l0 o e && (o.dst.isNone && ((marks (e n)).isEmpty && (clo (e (n + 1))).isEmpty)) with
   | false=>rw [hb] at h; exact h.elim
   | true=>
    rw [hb] at h;simp only [Bool.and_eq_true,Option.isNone_iff_eq_none,List.isEmpty_iff] at hb;rw [cond_true] at h;obtain ⟨fn,first,cap,h4,h5⟩:=CloK_spec h;exact ⟨o,c,f,fn,first,cap,rfl,h1,h2,h3,hb.1,hb.2.1,hb.2.2.1,hb.2.2.2,h4,h5⟩
 | [],h=>exact h.elim
 | _ :: _ :: _,h=>exact h.elim
theorem deferA_mono {l0 l:List Oper} {e:Env} {K K':Env->Prop} (h:DeferA n l0 l e K) (hk:∀ o v,l = [o]->isDf o = true->K (upd e (n + 1) v)->K' (upd e (n + 1) v)):DeferA n l0 l e K':=by
 obtain ⟨o,c,f,fn,first,cap,rfl,h1,h2,h3,h4,h5,h6,h7,h8,h9⟩:=deferA_spec h;have hd:dfF o = some f:=by unfold dfF; rw [h1]; simp only [h2,h3]; rfl
 show Defer1 n l0 o e K'
 unfold Defer1;rw [hd];simp only [h4,h5,h6,h7,h8,CloK];exact hk o _ rfl (by unfold isDf; rw [h1]) h9
theorem wpA_mods (ms:List Nat):∀ (c:Code) (pn:Env->Option PnT) (rts:List Nat) (ann:Ann) (ro:Option Nat) (Q Q':X->Env->World->Prop) (e:Env) (w:World),(∀ i ∈ mods n c,i ∈ ms) ->
  (∀ x e' w',(∀ i,i ∉ ms->e' i = e i)->Q x e' w'->Q' x e' w')->wpA P n pn rts c ann ro Q e w->wpA P n pn rts c ann ro Q' e w:=by
 intro c
 induction c with
 | skip=>intro pn rts ann ro Q Q' e w hm hk h; unfold wpA at h ⊢; exact hk _ _ _ (fun _ _=>rfl) h
 | label=>intro pn rts ann ro Q Q' e w hm hk h; unfold wpA at h ⊢; exact hk _ _ _ (fun _ _=>rfl) h
 | ret=>intro pn rts ann ro Q Q' e w hm hk h; unfold wpA at h ⊢; exact hk _ _ _ (fun _ _=>rfl) h
 | exit id=>intro pn rts ann ro Q Q' e w hm hk h; unfold wpA at h ⊢; exact hk _ _ _ (fun _ _=>rfl) h
 | goto=>intro pn rts ann ro Q Q' e w hm hk h; unfold wpA at h; exact h.elim
 | refuse=>intro pn rts ann ro Q Q' e w hm hk h; unfold wpA at h; exact h.elim
 | seq a b iha ihb=>
  intro pn rts ann ro Q Q' e w hm hk h;have hma:∀ i ∈ mods n a,i ∈ ms:=fun i hi=>hm i (List.mem_append_left _ hi)
  have hmb:∀ i ∈ mods n b,i ∈ ms:=fun i hi=>hm i (List.mem_append_right _ hi)
  cases ann <;> unfold wpA at h <;> first | exact h.elim | skip
  case seq p q=>
   unfold wpA;refine iha pn rts p ro _ _ e w hma (fun x e' w' he h1=>?_) h
   cases x with
   | normal=>exact ihb pn rts q ro Q Q' e' w' hmb (fun x e'' w'' h2=>hk x e'' w'' fun i hi=>by rw [h2 i hi,he i hi]) h1
   | exit id=>exact hk _ _ _ he h1
   | ret=>exact hk _ _ _ he h1
  case seqJ live ms' p q=>
   unfold wpA
   cases hc:subB (mods n a) ms' && (subB live ms' && subB ms' (mods n a)) with
   | false=>rw [hc] at h; exact h.elim
   | true=>
    rw [hc] at h;simp only [cond_true] at h ⊢;simp only [Bool.and_eq_true] at hc;intro K hK;refine iha pn rts p ro _ _ e w hma (fun x e' w' he h1=>?_) (h (fun l w=>∀ g:Env,wpA P n pn rts b q ro Q (mix live l ms' g e) w) (AllV.intro fun l _ w h=>h))
    cases x with
    | normal=>
     refine hK.elim (live.map e') (by simp) w' fun g=>ihb pn rts q ro Q Q' _ w' hmb (fun x e'' w'' h2=>hk x e'' w'' fun i hi=>?_) (h1 g)
     have hi':i ∉ ms':=fun hn=>hi (hma i (subB_spec hc.2.2 i hn))
     rw [h2 i hi,mix_out (fun hn=>hi' (subB_spec hc.2.1 i hn)) hi']
    | exit id=>exact hk _ _ _ he h1
    | ret=>exact hk _ _ _ he h1
 | cond c a b iha ihb=>
  intro pn rts ann ro Q Q' e w hm hk h
  cases ann <;> unfold wpA at h <;> first | exact h.elim | skip
  unfold wpA;obtain ⟨t,ht,h1,h2⟩:=h;exact ⟨t,ht,fun hh=>iha pn rts _ ro Q Q' e w (fun i hi=>hm i (List.mem_append_left _ hi)) hk (h1 hh),fun hh=>ihb pn rts _ ro Q Q' e w (fun i hi=>hm i (List.mem_append_right _ hi)) hk (h2 hh)⟩
 | block id a ih=>
  intro pn rts ann ro Q Q' e w hm hk h
  cases ann <;> unfold wpA at h <;> first | exact h.elim | skip
  unfold wpA;refine ih pn rts _ ro _ _ e w hm (fun x e' w' he h1=>?_) h
  cases x with
  | normal=>exact hk _ _ _ he h1
  | ret=>exact hk _ _ _ he h1
  | exit i=>
   simp only [blockX] at h1 ⊢
   cases hb:Nat.beq i id with
   | true=>rw [hb] at h1; exact hk _ _ _ he h1
   | false=>rw [hb] at h1; exact hk _ _ _ he h1
 | scope a ih=>
  intro pn rts ann ro Q Q' e w hm hk h
  cases ann <;> unfold wpA at h <;> first | exact h.elim | skip
  cases ro with
  | some l=>exact h.elim
  | none=>unfold wpA; exact ih pn rts _ none Q Q' e w hm hk h
 | loop a ih=>
  intro pn rts ann ro Q Q' e w hm hk h
  cases ann <;> unfold wpA at h <;> first | exact h.elim | skip
  rename_i live ms' p;unfold wpA
  cases hc:subB (mods n a) ms' && (subB live ms' && subB ms' (mods n a)) with
  | false=>rw [hc] at h; exact h.elim
  | true=>
   rw [hc] at h;simp only [cond_true] at h ⊢;simp only [Bool.and_eq_true] at hc;obtain ⟨I,μ,h0,h1⟩:=h;refine ⟨I,μ,h0,fun g=>AllV.intro fun l hl w1 hI m hmm=>ih pn rts p ro _ _ _ w1 hm (fun x e' w' he h2=>?_) ((h1 g).elim l hl w1 hI m hmm)⟩;have hout:∀ i,i ∉ ms->e' i = e i:=fun i hi=>by
    have hi':i ∉ ms':=fun hn=>hi (hm i (subB_spec hc.2.2 i hn))
    rw [he i hi,mix_out (fun hn=>hi' (subB_spec hc.2.1 i hn)) hi']
   cases x with
   | normal=>exact h2
   | exit id=>exact hk _ _ _ hout h2
   | ret=>exact hk _ _ _ hout h2
 | region id ops d=>
  intro pn rts ann ro Q Q' e w hm hk h
  cases d with
  | false=>
   cases ann <;> unfold wpA at h <;> first | exact h.elim | skip
   case reg it=>
    unfold wpA;refine opsA_mono _ _ e w (opsA_mods ms _ _ e w h fun i hi=>hm i ?_) fun l e' w' ⟨_,h2,h3⟩=>?_
    ·have:=List.take_append_drop (cnt it) ops.toList
     show i ∈ dsts ops.toList ++ _
     refine List.mem_append_left _ ?_;rw [<- this,dsts_append];exact List.mem_append_left _ hi
    ·split at h3
     ·exact hk _ _ _ h2 h3
     ·exact h3.elim
   case dfr it=>
    cases ro with
    | some l=>exact h.elim
    | none=>
     unfold wpA;refine opsA_mono _ _ e w (opsA_mods ms _ _ e w h fun i hi=>hm i ?_) fun l e' w' ⟨hl,h2,h3⟩=>?_
     ·have:=List.take_append_drop (cnt it) ops.toList
      show i ∈ dsts ops.toList ++ _
      refine List.mem_append_left _ ?_;rw [<- this,dsts_append];exact List.mem_append_left _ hi
     ·refine deferA_mono h3 fun o v ho hdf hK=>hk _ _ _ (fun i hi=>?_) hK
      have hd:hasDf ops.toList = true:=hasDf_mem hdf _ (List.mem_of_mem_drop (by rw [<- hl,ho]; exact List.mem_cons_self));have hin:n + 1 ∈ ms:=hm _ (by
       show n + 1 ∈ dsts ops.toList ++ (bif hasDf ops.toList then [n + 1] else [])
       rw [hd]; exact List.mem_append_right _ (by simp))
      rw [upd_ne _ _ _ (fun hid=>hi (by rw [hid]; exact hin)),h2 i hi]
  | true=>
   cases ann <;> unfold wpA at h <;> first | exact h.elim | skip
   unfold wpA;rename_i p
   cases hc:okP p && allPlain ops.toList with
   | false=>rw [hc] at h; exact h.elim
   | true=>
    rw [hc] at h;exact drawA_mods (fun i hi=>hm i (List.mem_append_left _ hi)) p _ _ _ _ _ _ e _ (fun e' w' he h1=>hk _ _ _ he h1) h
 | rangeFunc g ps asg body iha ihb=>
  intro pn rts ann ro Q Q' e w hm hk h
  cases ann <;> unfold wpA at h <;> first | exact h.elim | skip
  cases ro with
  | some l=>exact h.elim
  | none=>
   unfold wpA;rename_i ids p q
   cases hc:allLt n ps.toList with
   | false=>simp only [hc] at h; exact h.elim
   | true=>
    simp only [hc,cond_true] at h ⊢;intro lp r l w1 hn hY;have he:∀ i,i ∉ ms->upd e n (.iface r (e n)) i = e i:=fun i hi=>upd_ne _ _ _ fun hid=>hi (hm i (by simp [mods,hid]))
    refine (h lp r l w1 hn hY).mono fun v w2 ⟨st,pend,h1,h2,h3⟩=>⟨st,pend,h1,h2,?_⟩
    unfold jumpK at h3 ⊢
    split at h3
    ·exact hk _ _ _ he h3
    ·exact hk _ _ _ he h3
    ·exact lookK_mono (A:=fun id w3=>Q (.exit id) (upd e n (.iface r (e n))) w3) (B:=fun id w3=>Q' (.exit id) (upd e n (.iface r (e n))) w3) (fun id w h=>hk _ _ _ he h) h3
    ·exact h3.elim
def liftQ (n:Nat) (pn:Env->Option PnT) (Q:X->Env->World->Prop):Exit->Act->World->Prop
 | .normal,a,w=>∃ e,Agree n e a/\Q .normal e w
 | .ret,a,w=>∃ e,Agree n e a/\Q .ret e w
 | .exit id,a,w=>∃ e,Agree n e a/\Q (.exit id) e w
 | .panic c,a,w=>∃ e Pn,Agree n e a/\pn e = some Pn/\Pn c w
 | _,_,_=>False
def PnOK (n:Nat) (pn:Env->Option PnT) (rts:List Nat):Prop:=∀ e e':Env,(∀ t,memB t rts = true->e t = e' t)->e n = e' n->e (n + 1) = e' (n + 1)->pn e = pn e'
theorem PnOK.put {pn:Env->Option PnT} {rts:List Nat} {Q:X->Env->World->Prop} (h:PnOK n pn rts):∀ c (a:Act) d v w,memB d rts = false->liftQ n pn Q (.panic c) (a.put (some d) v) w->liftQ n pn Q (.panic c) a w:=by
 rintro c a d v w hd ⟨e,Pn,ha,h1,h2⟩
 have hsz:a.tmps.size = n:=by have:=ha.size; simpa [Act.put] using this
 refine ⟨fun i=>if i < n then a.tmps.getD i undef else e i,Pn,⟨hsz,fun i hi=>by simp [hi],?_⟩,?_,h2⟩
 ·have:=ha.defers
  simp only [show ¬ n < n by omega,show ¬ n + 1 < n by omega,if_false];exact this
 ·rw [<- h1]
  refine h _ _ (fun t ht=>?_) (by simp) (by simp [show ¬ n + 1 < n by omega])
  by_cases hi:t < n
  ·rw [if_pos hi,<- ha.at_ t hi]
   have htd:d ≠ t:=fun hh=>by rw [hh,ht] at hd; cases hd
   simp [Act.put,Array.getD_eq_getD_getElem?,Array.getElem?_setIfInBounds_ne htd]
  ·rw [if_neg hi]
theorem wpIn_loopG {F:Fence} {k:Nat} {c:Code} {Qx:Exit->Act->World->Prop} {a:Act} {w:World} (I:Nat->Act->World->Prop) (j₀:Nat) (h₀:I j₀ a w)
  (round:∀ j a w,I j a w->c.wpIn F k P (Exit.then (fun a' w'=>∃ j',j' < j/\I j' a' w') Qx) a w):(Code.loop c).wpIn F k P Qx a w:=by
 intro b ks cs hro hb hr;have key:∀ j a w,I j a w ->
   ∃ e a' w',Qx e a' w'/\ArrivesIn (Machine.fenced P F) P (lone (b.atR a (.code c :: .inLoop c :: ks)) cs w) b ks cs e a' w':=by
  intro j
  induction j using Nat.strongRecOn with
  | _ j ih=>
   intro a w hI;obtain ⟨e,a₁,w₁,hq,harr⟩:=round j a w hI b (.inLoop c :: ks) cs hro hb hr
   cases e with
   | normal=>
    obtain ⟨j',hlt,hI₁⟩:=hq;obtain ⟨e₂,a₂,w₂,hq₂,harr₂⟩:=ih j' hlt a₁ w₁ hI₁;exact ⟨e₂,a₂,w₂,hq₂,.of_steps (StepsIn.trans harr (.one (fenced_calm hb hr rfl) stepR_inLoop)) harr₂⟩
   | exit id=>exact ⟨_,a₁,w₁,hq,.pass (x:=.inLoop c) rfl (fun _ _=>.inl (by simp)) harr⟩
   | goto l=>exact ⟨_,a₁,w₁,hq,.pass (x:=.inLoop c) rfl (fun _ _=>.inl (by simp)) harr⟩
   | ret=>exact ⟨_,a₁,w₁,hq,.pass (x:=.inLoop c) rfl (fun _ _=>.inl (by simp)) harr⟩
   | panic ch=>exact ⟨_,a₁,w₁,hq,.pass (x:=.inLoop c) rfl (fun _ _=>.inl (by simp)) harr⟩
   | outgrown=>exact ⟨_,a₁,w₁,hq,.pass (x:=.inLoop c) rfl (fun _ _=>.inl (by simp)) harr⟩
 obtain ⟨e,a',w',hq,harr⟩:=key _ a w h₀;exact ⟨e,a',w',hq,.of_steps (.one (fenced_calm hb hr rfl) stepR_loop) harr⟩
theorem lookK_mem {id:Nat} {ids:List Nat} {A:Nat->World->Prop} {w:World}:lookK id (ids.map fun i=>(i,A i)) w->A id w:=by
 induction ids with
 | nil=>exact fun hh=>hh.elim
 | cons j js ih=>
  simp only [List.map_cons,lookK]
  cases hb:Nat.beq j id with
  | true=>
   have:j = id:=Nat.beq_eq.mp hb;subst this;exact fun h=>h
  | false=>exact ih
theorem allLt_spec:∀ {ps:List Nat},allLt n ps = true->∀ p ∈ ps,p < n
 | p :: ps,h,q,hq=>by
  unfold allLt at h;simp only [Bool.and_eq_true] at h
  rcases List.mem_cons.1 hq with rfl | hq
  ·exact blt_iff.1 h.1
  ·exact allLt_spec h.2 q hq
theorem Agree.putE:∀ (ps:List Nat) (vs:List Value) {e:Env} {a:Act},Agree n e a->(∀ p ∈ ps,p < n) ->
  Agree n (Q.putE ps vs e) { a with tmps:=(ps.zip vs).foldl (fun tmps (t,x)=>tmps.setIfInBounds t x) a.tmps }
 | [],_,e,a,h,_=>by simpa [Q.putE] using h
 | p :: ps,[],e,a,h,_=>by simpa [Q.putE] using h
 | p :: ps,v :: vs,e,a,h,hp=>by
  have:=Agree.putE ps vs (h.put (hp p List.mem_cons_self) v) fun q hq=>hp q (List.mem_cons_of_mem _ hq)
  exact this
theorem enterLoop_run (w:World) (fn:FuncId) (tmps:Array Value) (ps:Array Tmp) (asg body:Code) :
  ∃ lp:Loop,lp.fn = fn/\lp.tmps = tmps/\lp.params = ps/\lp.assign = asg/\lp.body = body /\
   (Instr.enterLoop fn tmps ps asg body none).run P w = .ok (w.heap.size + 1,[markD w.heap.size]) { w with heap:=(w.heap.push (.deferred (some []))).push (lobj lp .ready none) }:=by
 refine ⟨{ state:=.ready,pending:=none,fn,tmps,params:=ps,assign:=asg,body,defers:=w.heap.size },rfl,rfl,rfl,rfl,rfl,?_⟩;simp [Instr.enterLoop,newObj,Sem.run,markD,lobj]
 rfl
theorem getLoop_run {w:World} {l:Nat} {lp:Loop} (h:w.heap[l]? = some (.loop lp)):(Instr.getLoop l).run P w = .ok lp w:=by
 simp [Instr.getLoop,getObj,Sem.run,h]
theorem yield_round {w:World} {l:Nat} {lp:Loop} {args:Array Value} (h:w.heap[l]? = some (lobj lp .ready none)) (hs:args.size = lp.params.size) :
  (callSem (.func (.yield l) #[] #[]) args).run P w = .ok (.round l lp.fn ((lp.params.zip args).foldl (fun tmps (t,a)=>tmps.setIfInBounds t a) lp.tmps) lp.assign lp.body) w:=by
 simp [callSem,Deferred.ofValue,invoke,Instr.yield,getLoop_run h,hs,lobj,Sem.run]
theorem beginRound_run {w:World} {l:Nat} {lp:Loop} (h:w.heap[l]? = some (lobj lp .ready none)):(Instr.beginRound l).run P w = .ok () (putR w l (lobj lp .busy none)):=by
 have h':=h;unfold lobj at h';simp [Instr.beginRound,getLoop_run h',setObj,Sem.run,h',putR,lobj]
theorem endRound_run {w:World} {l:Nat} {lp:Loop} {st:LoopState} {pend:Option Code} (jump:Option Code) (h:w.heap[l]? = some (lobj lp st pend)) :
  (Instr.endRound l jump).run P w = .ok (.bool jump.isNone) (putR w l (lobj lp (if jump.isNone then .ready else .done) jump)):=by
 have h':=h;unfold lobj at h';simp [Instr.endRound,getLoop_run h',setObj,Sem.run,h',putR,lobj]
theorem endLoop_run {w:World} {l:Nat} {lp:Loop} {st:LoopState} {pend:Option Code} (h:w.heap[l]? = some (lobj lp st pend)) (hs:st ≠ .busy) :
  (Instr.endLoop l).run P w = .ok pend (putR w l (lobj lp .exhausted pend)):=by
 have h':=h;unfold lobj at h'
 cases st <;> first | exact absurd rfl hs | (simp [Instr.endLoop,getLoop_run h',setObj,Sem.run,h',putR,lobj]; done) | skip
 all_goals (simp only [Instr.endLoop,Sem.run_bind,getLoop_run h',Result.andThen_ok]; rfl)
theorem rep_false (k j:Nat):(Array.replicate k false).getD j false = false:=by
 rw [Array.getD_eq_getD_getElem?,Array.getElem?_replicate]
 split <;> rfl
theorem wpA_sound (hm:P.follows .mixedOrders = true):∀ (c:Code) (pn:Env->Option PnT) (rts:List Nat) (hpo:PnOK n pn rts) (ann:Ann) (ro:Option Nat) (Q:X->Env->World->Prop) (e:Env) (a:Act) (w:World),
  Agree n e a->wpA P n pn rts c ann ro Q e w->c.wpIn (FF ro) 0 P (liftQ n pn Q) a w:=by
 intro c
 induction c with
 | skip=>intro pn rts hpo ann ro Q e a w ha h; unfold wpA at h; exact wpIn_skip ⟨e,ha,h⟩
 | label=>intro pn rts hpo ann ro Q e a w ha h; unfold wpA at h; exact wpIn_label ⟨e,ha,h⟩
 | ret=>intro pn rts hpo ann ro Q e a w ha h; unfold wpA at h; exact wpIn_ret ⟨e,ha,h⟩
 | exit id=>intro pn rts hpo ann ro Q e a w ha h; unfold wpA at h; exact wpIn_exit ⟨e,ha,h⟩
 | goto=>intro pn rts hpo ann ro Q e a w ha h; unfold wpA at h; exact h.elim
 | refuse=>intro pn rts hpo ann ro Q e a w ha h; unfold wpA at h; exact h.elim
 | seq x y ihx ihy=>
  intro pn rts hpo ann ro Q e a w ha h
  cases ann <;> unfold wpA at h <;> first | exact h.elim | skip
  case seq p q=>
   refine wpIn_seq (wpIn_mono (ihx pn rts hpo p ro _ e a w ha h) fun en a' w' hq=>?_)
   cases en with
   | normal=>obtain ⟨e',ha',h1⟩:=hq; exact ihy pn rts hpo q ro Q e' a' w' ha' h1
   | ret=>exact hq
   | exit id=>exact hq
   | goto l=>exact hq
   | panic ch=>exact hq
   | outgrown=>exact hq
  case seqJ live ms p q=>
   cases hc:subB (mods n x) ms && (subB live ms && subB ms (mods n x)) with
   | false=>rw [hc] at h; exact h.elim
   | true=>
    rw [hc] at h;simp only [cond_true] at h;simp only [Bool.and_eq_true] at hc;have h0:=h (fun l w=>∀ g:Env,wpA P n pn rts y q ro Q (mix live l ms g e) w) (AllV.intro fun l _ w h=>h);have h1:=wpA_mods ms x pn rts p ro _ (fun en e' w'=>(∀ i,i ∉ ms->e' i = e i)/\thenX (fun e' w'=>∀ g:Env,wpA P n pn rts y q ro Q (mix live (live.map e') ms g e) w') Q en e' w') e w (subB_spec hc.1) (fun _ _ _ h2 h3=>⟨h2,h3⟩) h0;refine wpIn_seq (wpIn_mono (ihx pn rts hpo p ro _ e a w ha h1) fun en a' w' hq=>?_)
    cases en with
    | normal=>
     obtain ⟨e',ha',h2,h3⟩:=hq;have h4:=h3 e';rw [mix_of live ms e e' h2] at h4;exact ihy pn rts hpo q ro Q e' a' w' ha' h4
    | ret=>obtain ⟨e',ha',h2,h3⟩:=hq; exact ⟨e',ha',h3⟩
    | exit id=>obtain ⟨e',ha',h2,h3⟩:=hq; exact ⟨e',ha',h3⟩
    | goto l=>exact hq
    | panic ch=>exact hq
    | outgrown=>exact hq
 | cond c x y ihx ihy=>
  intro pn rts hpo ann ro Q e a w ha h
  cases ann <;> unfold wpA at h <;> first | exact h.elim | skip
  obtain ⟨t,ht,h1,h2⟩:=h;exact wpIn_cond_split (t:=t) (by rw [ha.ev]; exact ht) (fun hh=>ihx pn rts hpo _ ro Q e a w ha (h1 hh)) (fun hh=>ihy pn rts hpo _ ro Q e a w ha (h2 hh))
 | block id x ih=>
  intro pn rts hpo ann ro Q e a w ha h
  cases ann <;> unfold wpA at h <;> first | exact h.elim | skip
  refine wpIn_block (wpIn_mono (ih pn rts hpo _ ro _ e a w ha h) fun en a' w' hq=>?_)
  cases en with
  | normal=>exact hq
  | ret=>exact hq
  | exit i=>
   obtain ⟨e',ha',h1⟩:=hq;simp only [blockX] at h1;simp only [Exit.inBlock]
   cases hb:Nat.beq i id with
   | true=>rw [hb] at h1; rw [if_pos (Nat.beq_eq.mp hb)]; exact ⟨e',ha',h1⟩
   | false=>
    rw [hb] at h1;rw [if_neg (fun hh=>by rw [show Nat.beq i id = true from by rw [Nat.beq_eq]; exact hh] at hb; cases hb)];exact ⟨e',ha',h1⟩
  | goto l=>exact hq
  | panic ch=>exact hq
  | outgrown=>exact hq
 | scope x ih=>
  intro pn rts hpo ann ro Q e a w ha h
  cases ann <;> unfold wpA at h <;> first | exact h.elim | skip
  cases ro with
  | some l=>exact h.elim
  | none=>
   have h1:=ih pn rts hpo _ none Q e a w ha h;have h2:x.wp P (Exit.noGoto (liftQ n pn Q)) a w:=wp_mono ((wpIn_wide (n:=0)).1 h1) fun en a' w' hq=>by
    cases en <;> exact hq
   exact (wpIn_wide (n:=0)).2 (wp_scope_straight h2)
 | loop x ih=>
  intro pn rts hpo ann ro Q e a w ha h
  cases ann <;> unfold wpA at h <;> first | exact h.elim | skip
  rename_i live ms p
  cases hc:subB (mods n x) ms && (subB live ms && subB ms (mods n x)) with
  | false=>rw [hc] at h; exact h.elim
  | true=>
   rw [hc] at h;simp only [cond_true] at h;simp only [Bool.and_eq_true] at hc;obtain ⟨I,μ,h0,h1⟩:=h;refine wpIn_loopG (fun j a w=>∃ l g,l.length = live.length/\Agree n (mix live l ms g e) a/\I l w/\μ l w = j) (μ (live.map e) w)
    ⟨live.map e,e,by simp,by rw [mix_of live ms e e fun _ _=>rfl]; exact ha,h0,rfl⟩ ?_
   rintro j a1 w1 ⟨l,g,hl,ha1,hI,rfl⟩
   have h2:=(h1 g).elim l hl w1 hI _ rfl;have h3:=wpA_mods ms x pn rts p ro _ (fun en e' w'=>(∀ i,i ∉ ms->e' i = e i)/\loopX live I μ (μ l w1) Q en e' w') _ w1 (subB_spec hc.1)
    (fun en e' w' h4 h5=>⟨fun i hi=>by rw [h4 i hi,mix_out (fun hn=>hi (subB_spec hc.2.1 i hn)) hi],h5⟩) h2
   refine wpIn_mono (ih pn rts hpo p ro _ _ a1 w1 ha1 h3) fun en a' w' hq=>?_
   cases en with
   | normal=>
    obtain ⟨e',ha',h4,h5⟩:=hq;exact ⟨_,h5.2,live.map e',e',by simp,by rw [mix_of live ms e e' h4]; exact ha',h5.1,rfl⟩
   | ret=>obtain ⟨e',ha',h4,h5⟩:=hq; exact ⟨e',ha',h5⟩
   | exit id=>obtain ⟨e',ha',h4,h5⟩:=hq; exact ⟨e',ha',h5⟩
   | goto l=>exact hq
   | panic ch=>exact hq
   | outgrown=>exact hq
 | region id ops d=>
  intro pn rts hpo ann ro Q e a w ha h
  cases d with
  | false=>
   cases ann <;> unfold wpA at h <;> first | exact h.elim | skip
   case reg it=>
    refine region_sound (fun e a Pn c w h1 h2 h3=>⟨e,Pn,h1,h2,h3⟩) ha h fun l' e' w' a' h1 h2=>?_
    split at h1
    ·exact ⟨rfl,e',h2,h1⟩
    ·exact h1.elim
   case dfr it=>
    cases ro with
    | some l=>exact h.elim
    | none=>
     refine wpIn_region ?_;rw [show List.range ops.size = List.range' 0 ops.toList.length from by rw [List.range_eq_range',Array.length_toList]];refine opsA_sound (fun e a Pn c w h1 h2 h3=>⟨e,Pn,h1,h2,h3⟩) it 0 ops.toList e a w (by simp) ha h fun l' e' w' a' k' g1 g2 g3 g4=>?_
     obtain ⟨o,c,f,fn,first,cap,rfl,h1,h2,h3,h4,h5,h6,h7,h8,h9⟩:=deferA_spec g3;have hko:ops[k']? = some o:=by rw [<- Array.getElem?_toList,<- List.head?_drop,g1]; rfl
     rw [show List.range' k' [o].length = k' :: List.range' (k' + 1) 0 from rfl,wpOpsIn_cons];unfold wpOpIn;simp only [hko];rw [wanted_E g4,h4];simp only [if_true];refine ⟨fun _ _=>trivial,?_⟩;rw [show (FF none).round = none from rfl,Oper.semAt_none,g4.evf];have hx:(execOp (ev n e') o).run P w' = .ok (.defer { target:=.fn fn cap,args:=first }) w':=by
      unfold execOp;simp only [h1,resolve,h2,h3,h8,Deferred.ofValue];simp [Sem.run]
     rw [hx];rw [Oper.uponIn_defer,h5]
     show liftQ n pn Q .normal _ _
     refine ⟨upd e' (n + 1) (.func fn first cap),⟨g4.size,fun i hi=>by rw [upd_ne _ _ _ (by omega:i ≠ n + 1)]; exact g4.at_ i hi,?_⟩,h9⟩;rw [upd_same,upd_ne _ _ _ (by omega:n ≠ n + 1),h6]
     show _ :: a'.defers = _
     rw [g4.defers,h6,h7]; rfl
  | true=>
   cases ann <;> unfold wpA at h <;> first | exact h.elim | skip
   rename_i p
   cases hc:okP p && allPlain ops.toList with
   | false=>rw [hc] at h; exact h.elim
   | true=>
    rw [hc] at h;simp only [cond_true] at h;simp only [Bool.and_eq_true] at hc;refine wpIn_region_any hm (wpAnyD_any (H:=[]) _ _ [] _ _ ?_);rw [<- Array.length_toList];refine (drawA_sound (Qx:=liftQ n pn Q) (fun e a Pn c w h1 h2 h3=>⟨e,Pn,h1,h2,h3⟩) hpo.put hc.2 p).1 hc.1 _ [] [] [] _ e a _ _ ⟨by simp,fun j=>?_⟩ (fun j oj hj hl=>?_) (fun j hj=>by cases hj) ha (fun x hx=>by cases hx) (fun e' w' a' h1 h2=>⟨e',h2,h1⟩) h
    ·exact rep_false _ _
    ·rw [rep_false] at hl; cases hl
 | rangeFunc g ps asg body iha ihb=>
  intro pn rts hpo ann ro Q e a w ha h
  cases ann <;> unfold wpA at h <;> first | exact h.elim | skip
  cases ro with
  | some l=>exact h.elim
  | none=>
   rename_i ids p q
   cases hc:allLt n ps.toList with
   | false=>simp only [hc] at h; exact h.elim
   | true=>
    simp only [hc,cond_true] at h;refine wpIn_rangeFunc fun fn _=>?_
    obtain ⟨lp,hlp1,hlp2,hlp3,hlp4,hlp5,hrun⟩:=enterLoop_run (P:=P) w fn a.tmps ps asg body;have h1:=h lp w.heap.size (w.heap.size + 1) _ ⟨rfl,rfl,rfl⟩ fun w' K=>AllV.intro fun vs hvs h2 hw'=>by
     have hargs:vs.toArray.size = lp.params.size:=by rw [hlp3]; simpa using hvs
     unfold CallV;rw [yield_round hw' hargs];rw [hlp1,hlp2,hlp3,hlp4,hlp5];refine roundIn_of_wpIn (F:=Fence.wide) trivial ?_;have hag:Agree n (upd (upd e n undef) (n + 1) undef) { tmps:=a.tmps,defers:=[] }:=⟨ha.size,fun i hi=>by rw [upd_ne _ _ _ (by omega:i ≠ n + 1),upd_ne _ _ _ (by omega:i ≠ n)]; exact ha.at_ i hi,by rw [upd_same,upd_ne _ _ _ (by omega:n ≠ n + 1),upd_same]; rfl⟩
     have hag2:=hag.putE ps.toList vs (allLt_spec hc);have hz:(ps.zip vs.toArray).foldl (fun tmps (x:Nat × Value)=>tmps.setIfInBounds x.1 x.2) a.tmps = (ps.toList.zip vs).foldl (fun tmps (t,x)=>tmps.setIfInBounds t x) a.tmps:=by
      rw [<- Array.foldl_toList]; simp
     have h3:=iha (fun _=>none) [] (fun _ _ _ _ _=>rfl) p (some (w.heap.size + 1)) _ _ _ w' hag2 h2;have hz':({ tmps:=(ps.zip vs.toArray).foldl (fun tmps (x:Nat × Value)=>tmps.setIfInBounds x.1 x.2) a.tmps,defers:=[] }:Act) = { tmps:=(ps.toList.zip vs).foldl (fun tmps (t,x)=>tmps.setIfInBounds t x) a.tmps,defers:=[] }:=by rw [hz]
     show asg.wpIn _ 0 P _ { tmps:=(ps.zip vs.toArray).foldl (fun tmps (x:Nat × Value)=>tmps.setIfInBounds x.1 x.2) a.tmps,defers:=[] } w'
     rw [hz'];refine wpIn_mono h3 fun en a1 w1 hq=>?_
     cases en with
     | normal=>
      obtain ⟨e1,ha1,hb1,hb2⟩:=hq;refine ⟨_,beginRound_run hb1,?_⟩;refine wpIn_mono (ihb (fun _=>none) [] (fun _ _ _ _ _=>rfl) q (some (w.heap.size + 1)) _ e1 a1 _ ha1 hb2) fun en a2 w2 hq2=>?_
      cases en with
      | normal=>obtain ⟨e2,ha2,⟨st,pend,hst⟩,hK⟩:=hq2; exact ⟨_,_,endRound_run none hst,hK⟩
      | ret=>obtain ⟨e2,ha2,⟨st,pend,hst⟩,hK⟩:=hq2; exact ⟨_,_,endRound_run (some .ret) hst,hK⟩
      | exit id=>obtain ⟨e2,ha2,⟨st,pend,hst⟩,hK⟩:=hq2; exact ⟨_,_,endRound_run (some (.exit id)) hst,hK⟩
      | goto l=>exact hq2.elim
      | panic ch=>obtain ⟨_,_,_,h,_⟩:=hq2; cases h
      | outgrown=>exact hq2.elim
     | ret=>obtain ⟨e1,ha1,hb1⟩:=hq; exact hb1
     | exit id=>obtain ⟨e1,ha1,hb1⟩:=hq; exact hb1
     | goto l=>exact hq
     | panic ch=>obtain ⟨_,_,_,h,_⟩:=hq; cases h
     | outgrown=>exact hq
    unfold CallE callSem at h1;have hev:a.eval g = ev n e g:=ha.ev g
    cases hd:(Deferred.ofValue (ev n e g) #[.func (.yield (w.heap.size + 1)) #[] #[]]).run P { w with heap:=(w.heap.push (.deferred (some []))).push (lobj lp .ready none) } with
    | halt x w'=>simp [Sem.run_bind,hd,Result.andThen] at h1
    | ok d w1'=>
     simp only [Sem.run_bind,hd,Result.andThen_ok] at h1
     cases hi:(invoke d.target d.args).run P w1' with
     | halt x w'=>simp [hi] at h1
     | ok nx w2=>
      cases nx <;> simp only [hi] at h1 <;> first | exact h1.elim | skip
      rename_i f args;refine ⟨w.heap.size + 1,[markD w.heap.size],_,d,w1',f,args,w2,hrun,?_,fun _ _=>trivial,hi,FF_depth none,callsIn_FF (h1.mono fun en w3 hen=>?_)⟩
      ·have:resolve a.eval (rangeCall g (w.heap.size + 1)) 0 = Deferred.ofValue (ev n e g) #[.func (.yield (w.heap.size + 1)) #[] #[]]:=by
        simp only [resolve,hev,rangeCall]
        congr 1
        apply Array.toList_inj.1
        simp [Act.eval]
       rw [this];exact hd
      ·cases en with
       | panicked ch=>exact hen.elim
       | outgrown=>exact hen.elim
       | returned v=>
        obtain ⟨st,pend,hp1,hp2,hp3⟩:=hen;refine ⟨pend,_,endLoop_run hp1 hp2,?_⟩;have hag:Agree n (upd e n (.iface w.heap.size (e n))) { a with defers:=[markD w.heap.size] ++ a.defers }:=
         ⟨ha.size,fun i hi=>by rw [upd_ne _ _ _ (by omega:i ≠ n)]; exact ha.at_ i hi,by
          rw [upd_same,marks_iface,List.map_cons,upd_ne _ _ _ (by omega:n + 1 ≠ n)]
          show markD w.heap.size :: a.defers = markD w.heap.size :: (List.map markD (marks (e n)) ++ clo (e (n + 1)))
          rw [ha.defers]⟩
        unfold jumpK at hp3
        split at hp3
        ·exact ⟨_,hag,hp3⟩
        ·exact wpIn_ret ⟨_,hag,hp3⟩
        ·rename_i id
         exact wpIn_exit ⟨_,hag,lookK_mem (A:=fun id w3=>Q (.exit id) (upd e n (.iface w.heap.size (e n))) w3) hp3⟩
        ·exact hp3.elim
theorem TakeW_leaves {fn:Func} {R:Ending->World->Prop} {tmps:Array Value} {ds:List Deferred} {u:FrameMode} (hu:u ≠ .run):∀ (rs:List Nat) (w:World) (K:World->Prop),TakeW rs w K->(∀ w',K w'->LeavesInM (FF none) 0 P fn tmps R ds u w') ->
  LeavesInM (FF none) 0 P fn tmps R (rs.map markD ++ ds) u w
 | [],w,K,h,hk=>hk w h
 | r :: rs,w,K,h,hk=>by
  obtain ⟨h1,h2⟩:=h;refine ⟨hu,.inl ⟨r,putR w r (.deferred none),rfl,?_,TakeW_leaves hu rs _ K h2 hk⟩⟩;simp [Instr.takeDeferred,getObj,setObj,Sem.run,h1,putR]
theorem CloseW_leaves {fn:Func} {R:Ending->World->Prop} {tmps:Array Value} {v:Value} {u:FrameMode} {w:World} {K:World->Prop} (hu:u ≠ .run) (h:CloseW P v u w K) (hk:∀ w',K w'->LeavesInM (FF none) 0 P fn tmps R [] .returning w') :
  LeavesInM (FF none) 0 P fn tmps R (clo v) u w:=by
 unfold CloseW at h
 split at h
 ·rename_i g first cap
  obtain ⟨f,args,h1,h2⟩:=h;refine ⟨hu,.inr ⟨FF_depth none,g,cap,f,args,rfl,h1,fun _ _=>trivial,CallsDIn.mono h2 fun en u' w' he=>?_⟩⟩;obtain ⟨x,rfl,h3,h4⟩:=he
  show LeavesInM (FF none) 0 P fn tmps R [] (settle u') w'
  rw [h3];exact hk w' h4
 ·exact h.elim
theorem cloR_leaves {fn:Func} {R:Ending->World->Prop} {tmps:Array Value} {v:Value} {w:World} {K:World->Prop} (h:cloR P v w K) (hk:∀ w',K w'->LeavesInM (FF none) 0 P fn tmps R [] .returning w') :
  LeavesInM (FF none) 0 P fn tmps R (clo v) .returning w:=by
 unfold cloR at h
 split at h
 ·exact CloseW_leaves (by intro hh; cases hh) h hk
 ·rename_i hv
  have:clo v = []:=by
   unfold clo
   split
   ·exact absurd rfl (hv _ _ _)
   ·rfl
  rw [this];exact hk w h
def rvS (tmps:Array Value):ResultVar->Sem Value
 | .tmp t=>pure (tmps.getD t undef)
 | .cell a t=>do loadVar t (<- asAddr (tmps.getD a undef))
theorem results_eq (fn:Func) (tmps:Array Value):results fn tmps = (do let vs <- fn.results.mapM (rvS tmps); pure (if h:vs.size = 1 then vs[0] else .tuple vs)):=by
 unfold results
 congr 1
theorem resL_run {e:Env} {a:Act} (ha:Agree n e a):∀ (rs:List ResultVar) (acc:List Value) (w:World) (K:List Value->World->Prop),resL P n e rs acc w K ->
  ∃ vs,(rs.foldlM (fun (l:List Value) r=>do
    let v <- rvS a.tmps r
    pure (v :: l)) acc).run P w = .ok vs w/\K vs.reverse w
 | [],acc,w,K,h=>⟨acc,rfl,h⟩
 | .tmp t :: rs,acc,w,K,h=>by
  obtain ⟨vs,h1,h2⟩:=resL_run ha rs _ w K h;refine ⟨vs,?_,h2⟩;have:a.tmps.getD t undef = ev n e (.tmp t):=ha.ev (.tmp t);simp only [List.foldlM_cons,rvS,this,pure_bind];exact h1
 | .cell x t :: rs,acc,w,K,h=>by
  have hx:∃ ad,ev n e (.tmp x) = .pointer (some ad)/\Hv P (loadVar t ad) w fun v=>resL P n e rs (v :: acc) w K:=by
   unfold resL CellW at h
   split at h
   ·rename_i ad hh; exact ⟨ad,hh,h⟩
   ·exact h.elim
  obtain ⟨ad,h0,v,hv,h1⟩:=hx;obtain ⟨vs,h1,h2⟩:=resL_run ha rs _ w K h1;refine ⟨vs,?_,h2⟩;have:a.tmps.getD x undef = .pointer (some ad):=by rw [<- h0]; exact ha.ev (.tmp x)
  simp only [List.foldlM_cons,rvS,this,asAddr,pure_bind,Sem.run_bind,hv,Result.andThen_ok];exact h1
theorem foldlM_acc {α β:Type} (f:α->Sem β) (l:List α) (w w':World):∀ (acc vs:List β),(l.foldlM (fun (l:List β) r=>do let v <- f r; pure (v :: l)) acc).run P w = .ok vs w' ->
  (l.mapM f).run P w = .ok (vs.reverse.drop acc.length) w':=by
 induction l generalizing w with
 | nil=>
  intro acc vs h;simp only [List.foldlM_nil] at h
  cases h
  simp [List.mapM_nil,Sem.run]
 | cons x xs ih=>
  intro acc vs h;simp only [List.foldlM_cons,Sem.run_bind] at h
  cases hx:(f x).run P w with
  | halt y w1=>simp [hx,Result.andThen] at h
  | ok v w1=>
   simp only [hx,Result.andThen_ok] at h;have h2:(xs.foldlM (fun (l:List β) r=>do let v <- f r; pure (v :: l)) (v :: acc)).run P w1 = .ok vs w':=h;have h3:=ih w1 (v :: acc) vs h2;have hlen:∃ l',vs = l' ++ (v :: acc):=keep xs w1 (v :: acc) vs h2;obtain ⟨l',rfl⟩:=hlen;simp only [List.mapM_cons,Sem.run_bind,hx,Result.andThen_ok,h3];simp only [List.reverse_append,List.reverse_cons,List.append_assoc,List.length_cons]
   show Result.ok _ w' = Result.ok _ w'
   congr 1
   rw [show acc.length + 1 = (acc.reverse ++ [v]).length by simp];rw [<- List.append_assoc,List.drop_left];rw [List.append_assoc,show acc.length = acc.reverse.length by simp,List.drop_left]
   rfl
where
 keep:∀ (xs:List α) (w:World) (acc vs:List β),(xs.foldlM (fun (l:List β) r=>do let v <- f r; pure (v :: l)) acc).run P w = .ok vs w'->∃ l',vs = l' ++ acc
  | [],w,acc,vs,h=>by simp only [List.foldlM_nil] at h; cases h; exact ⟨[],rfl⟩
  | x :: xs,w,acc,vs,h=>by
   simp only [List.foldlM_cons,Sem.run_bind] at h
   cases hx:(f x).run P w with
   | halt y w1=>simp [hx,Result.andThen] at h
   | ok v w1=>
    simp only [hx,Result.andThen_ok] at h;obtain ⟨l',rfl⟩:=keep xs w1 (v :: acc) vs h;exact ⟨l' ++ [v],by simp⟩
theorem results_run {fn:Func} {e:Env} {a:Act} {w:World} {R:Value->World->Prop} (ha:Agree n e a) (h:resL P n e fn.results.toList [] w fun vs w=>R (resV vs) w) :
  ∃ v,(results fn a.tmps).run P w = .ok v w/\R v w:=by
 obtain ⟨vs,h1,h2⟩:=resL_run ha _ _ w _ h;have h3:=foldlM_acc _ _ w w [] vs h1;refine ⟨resV vs.reverse,?_,h2⟩;rw [results_eq,Array.mapM_eq_mapM_toList];simp only [List.length_nil,List.drop_zero] at h3;simp only [Sem.run_bind,Functor.map,Sem.run_bind',h3,Result.andThen_ok]
 cases vs.reverse with
 | nil=>rfl
 | cons x xs=>cases xs <;> rfl
theorem initE_at:∀ (k:Nat) (l:List Value) (i:Nat),initE k l i = if k <= i then (l[i - k]?).getD undef else undef
 | k,[],i=>by simp [initE]
 | k,v :: vs,i=>by
  unfold initE
  by_cases hik:i = k
  ·subst hik; rw [upd_same]; simp
  ·rw [upd_ne _ _ _ hik,initE_at (k + 1) vs i]
   by_cases hk:k + 1 <= i
   ·rw [if_pos hk,if_pos (by omega),show i - k = (i - (k + 1)) + 1 by omega,List.getElem?_cons_succ]
   ·rw [if_neg hk]
    by_cases hk2:k <= i
    ·omega
    ·rw [if_neg hk2]
theorem agree_init {fn:Func} {args:List Value} (hn:args.length <= fn.ntmps):Agree fn.ntmps (initE 0 args) { tmps:=args.toArray ++ Array.replicate (fn.ntmps - args.toArray.size) undef,defers:=[] }:=by
 refine ⟨by simp; omega,fun i hi=>?_,?_⟩
 ·rw [initE_at,if_pos (Nat.zero_le _)]
  simp only [Nat.sub_zero];rw [Array.getD_eq_getD_getElem?]
  by_cases hl:i < args.length
  ·rw [Array.getElem?_append_left (by simpa using hl)]; simp
  ·rw [Array.getElem?_append_right (by simpa using hl),List.getElem?_eq_none (by omega),Array.getElem?_replicate]
   split <;> rfl
 ·rw [initE_at,if_pos (Nat.zero_le _),Nat.sub_zero,List.getElem?_eq_none hn,initE_at,if_pos (Nat.zero_le _),Nat.sub_zero,List.getElem?_eq_none (by omega)]; rfl
theorem calls_gen {f:FuncId} {fn:Func} {c:Code} {ann:Ann} {args:List Value} {w:World} {R:Value->World->Prop} {R':Ending->World->Prop} {pn:Env->Option PnT} {rts:List Nat} (hm:P.follows .mixedOrders = true)
  (hf:P.funcs[f]? = some fn) (hb:fn.body = some c) (hn:args.length <= fn.ntmps) (hpo:PnOK fn.ntmps pn rts) (h:wpA P fn.ntmps pn rts c ann none (retQ P fn.ntmps fn.results.toList R) (initE 0 args) w) (hret:∀ v w,R v w->R' (.returned v) w)
  (hpan:∀ e a c w Pn,Agree fn.ntmps e a->pn e = some Pn->Pn c w->LeavesInM (FF none) 0 P fn a.tmps R' a.defers (.panicking c) w):Calls P f args.toArray w R':=by
 refine (callsIn_wide (n:=0)).1 (callsIn_of_wp_marks (F:=FF none) hf hb trivial ?_);refine wpIn_mono (wpA_sound hm c pn rts hpo ann none _ _ _ w (agree_init hn) h) fun en a' w' hq=>?_
 have fin:∀ e',Agree fn.ntmps e' a'->TakeW (marks (e' fn.ntmps)) w' (fun w=>cloR P (e' (fn.ntmps + 1)) w fun w=>resL P fn.ntmps e' fn.results.toList [] w fun vs w=>R (resV vs) w)->LeavesInM (FF none) 0 P fn a'.tmps R' a'.defers .returning w':=fun e' ha' ht=>by
  rw [ha'.defers];exact TakeW_leaves (by intro hh; cases hh) _ _ _ ht fun w'' hr=>cloR_leaves hr fun w3 h3=>
   let ⟨v,h4,h5⟩:=results_run ha' h3
   ⟨v,h4,hret _ _ h5⟩
 cases en with
 | normal=>obtain ⟨e',ha',h1⟩:=hq; exact fin e' ha' h1
 | ret=>obtain ⟨e',ha',h1⟩:=hq; exact fin e' ha' h1
 | exit id=>obtain ⟨e',ha',h1⟩:=hq; exact h1.elim
 | goto l=>exact hq.elim
 | panic ch=>obtain ⟨e',Pn,ha',h1,h2⟩:=hq; exact hpan e' a' ch w' Pn ha' h1 h2
 | outgrown=>exact hq.elim
theorem calls_of_enter {f:FuncId} {fn:Func} {ann:Ann} {args:List Value} {w:World} {R:Value->World->Prop} (hm:P.follows .mixedOrders = true)
  (hf:P.funcs[f]? = some fn) (hn0:Nat.ble args.length fn.ntmps = true) (h:enterW P fn ann args w R):Calls P f args.toArray w (retK R):=by
 unfold enterW at h
 split at h
 ·rename_i c hb
  exact calls_gen hm hf hb (Nat.le_of_ble_eq_true hn0) (fun _ _ _ _ _=>rfl) h (fun _ _ h=>h) fun e a c w Pn _ h1=>by cases h1
 ·exact h.elim
theorem calls_of_enterP {f:FuncId} {fn:Func} {ann:Ann} {args:List Value} {w:World} {R:Value->World->Prop} {Pn:PnT} (hm:P.follows .mixedOrders = true)
  (hf:P.funcs[f]? = some fn) (hn0:Nat.ble args.length fn.ntmps = true) (h:enterWP P fn ann args w R Pn):Calls P f args.toArray w (retKP R Pn):=by
 unfold enterWP at h
 split at h
 ·rename_i c hb
  refine calls_gen hm hf hb (Nat.le_of_ble_eq_true hn0) (fun e e' _ h1 h2=>by unfold pnF; rw [h1,h2]) h (fun _ _ h=>h) fun e a c w Pn' ha h1 h2=>?_
  unfold pnF at h1
  cases h1
  cases hc:(clo (e (fn.ntmps + 1))).isEmpty with
  | false=>rw [hc] at h2; exact h2.elim
  | true=>
   rw [hc] at h2;rw [ha.defers,List.isEmpty_iff.1 hc];exact TakeW_leaves (by intro hh; cases hh) _ _ _ h2 fun w' h3=>h3
 ·exact h.elim
theorem resL_congr {rs:List ResultVar} {e e':Env} (h:∀ t,memB t (resT rs) = true->e t = e' t):∀ (acc:List Value) (w:World) (K:List Value->World->Prop),resL P n e rs acc w K = resL P n e' rs acc w K:=by
 induction rs with
 | nil=>intro acc w K; rfl
 | cons r rs ih=>
  have hev:∀ t,e t = e' t->ev n e (.tmp t) = ev n e' (.tmp t):=fun t ht=>by
   show (bif Nat.blt t n then e t else undef) = (bif Nat.blt t n then e' t else undef)
   rw [ht]
  intro acc w K
  cases r with
  | tmp t=>
   have h0:e t = e' t:=h t (memB_iff.2 (by simp [resT]));unfold resL;rw [hev t h0];exact ih (fun t ht=>h t (memB_iff.2 (by simp [resT,memB_iff.1 ht]))) _ _ _
  | cell a ty=>
   have h0:e a = e' a:=h a (memB_iff.2 (by simp [resT]));unfold resL;rw [hev a h0]
   congr 1
   funext v
   exact ih (fun t ht=>h t (memB_iff.2 (by simp [resT,memB_iff.1 ht]))) _ _ _
theorem calls_of_enterD {f:FuncId} {fn:Func} {ann:Ann} {args:List Value} {w:World} {R:Value->World->Prop} (hm:P.follows .mixedOrders = true)
  (hf:P.funcs[f]? = some fn) (hn0:Nat.ble args.length fn.ntmps = true) (h:enterWD P fn ann args w R):Calls P f args.toArray w (retK R):=by
 unfold enterWD at h
 split at h
 ·rename_i c hb
  refine calls_gen hm hf hb (Nat.le_of_ble_eq_true hn0) (fun e e' h0 h1 h2=>?_) h (fun _ _ h=>h) fun e a c w Pn' ha h1 h2=>?_
  ·unfold pnD
   rw [h1,h2]
   congr 1
   funext c w
   congr 1
   funext w
   congr 1
   funext w
   exact resL_congr h0 _ _ _
  ·unfold pnD at h1
   cases h1
   rw [ha.defers];exact TakeW_leaves (by intro hh; cases hh) _ _ _ h2 fun w' h3=>CloseW_leaves (by intro hh; cases hh) h3 fun w3 h4=>results_run ha h4
 ·exact h.elim
end Go.Proofs.YtmideenmlhbdjaaGreatDoor.Q
end
section
namespace Go.Proofs.YtmideenmlhbdjaaGreatDoor
open Go Q
abbrev al (t:TypeId):Sem Value:=Instr.alloc t true (.tuple #[])
abbrev bx:=Instr.box
abbrev bd:=Instr.build
abbrev bs:=Instr.buildSlice
abbrev ld:=Instr.loadAt
abbrev st:=Instr.storeAt
abbrev bi:=Go.binOp
def eq (op:BinOp) (t:TypeId) (x y:Operand) (a b:Value):Sem Value:=do eqGuard op t x y a b; Go.binOp op t a b
abbrev un:=Op.unary
abbrev cv:=Go.convert
abbrev mi:=Instr.makeInterface
abbrev mm:=Instr.makeMap
abbrev ms:=Instr.makeSlice
abbrev sl:=Instr.sliceAt
abbrev fa:=Instr.fieldAt
abbrev fl:=Instr.field
abbrev ia:=Instr.indexAt
abbrev ix:=Instr.index
abbrev lk:=Instr.lookup
abbrev mu:=Instr.mapUpdate
abbrev nx:=Instr.next
abbrev en:=Instr.entry
abbrev ta:=Instr.typeAssert
abbrev ex:=Instr.extract
abbrev V:=Sv Tryz.prog
abbrev U:=Su Tryz.prog
abbrev CV:=CallV Tryz.prog
abbrev CE:=CallE Tryz.prog
abbrev CW:=CellW Tryz.prog
abbrev PV:=Pv Tryz.prog
abbrev HV:=Hv Tryz.prog
abbrev RunIs (s:Sem Value) (w:World) (v:Value):Prop:=s.run Tryz.prog w = .ok v w
abbrev Take1 (r:Nat) (w:World) (K:World->Prop):Prop:=w.heap[r]? = some (.deferred (some []))/\K (putR w r (.deferred none))
abbrev CVP (Pn:PnT) (f:Value) (args:Array Value) (w:World) (K:Value->World->Prop):Prop:=CallVP Tryz.prog Pn f args w K
abbrev ClW:=CloseW Tryz.prog
theorem mixed:Tryz.prog.follows .mixedOrders = true:=by kernel_rfl
end Go.Proofs.YtmideenmlhbdjaaGreatDoor
end
section
namespace Go.Proofs.YtmideenmlhbdjaaGreatDoor.Q
open Go
variable {P:Program} {n:Nat}
def isRec (o:Oper):Bool:=match o.op with
 | .call c=>(match c.callee with | .builtin .recover=>true | _=>false) && c.args.isEmpty && o.guard.isNone
 | _=>false
def isCopy (i:Nat) (o:Oper):Bool:=match o.op with
 | .assign (.tmp t)=>Nat.beq t i && o.guard.isNone
 | _=>false
def recBody (n:Nat) (c:Code):Option (Nat × Nat × Code):=match c with
 | .seq (.region _ ops false) c2=>match ops.toList with
  | [o1,o2]=>match o1.dst,o2.dst with
   | some i,some j=>bif isRec o1 && isCopy i o2 && Nat.blt i n && Nat.blt j n then some (i,j,c2) else none
   | _,_=>none
  | _=>none
 | _=>none
def closE (m c:Value) (K:Prop):Prop:=bif (marks m).isEmpty && (clo c).isEmpty then K else False
def closQ (n:Nat) (K:World->Prop):X->Env->World->Prop
 | .normal,e,w=>closE (e n) (e (n + 1)) (K w)
 | .ret,e,w=>closE (e n) (e (n + 1)) (K w)
 | _,_,_=>False
def enterC (P:Program) (fn:Func) (ann:Ann) (args:List Value) (x:Value) (w:World) (K:World->Prop):Prop:=
 match fn.body with
 | some c=>match recBody fn.ntmps c with
  | some (i,j,c2)=>wpA P fn.ntmps (fun _=>none) [] c2 ann none (closQ fn.ntmps K) (upd (upd (initE 0 args) i x) j x) w
  | none=>False
 | none=>False
theorem closE_iff {m c:Value} {K:Prop} (h:closE m c K):(marks m).isEmpty = true/\(clo c).isEmpty = true/\K:=by
 unfold closE at h
 cases h1:(marks m).isEmpty <;> cases h2:(clo c).isEmpty <;> rw [h1,h2] at h <;> first | exact h.elim | exact ⟨rfl,rfl,h⟩
theorem execRec {o:Oper} (h:isRec o = true) (ρ:Operand->Value) (w:World):(execOp ρ o).run P w = .ok .recover w/\o.guard = none:=by
 unfold isRec at h
 split at h
 ·rename_i c hc
  split at h
  ·rename_i hcal
   simp only [Bool.true_and,Bool.and_eq_true] at h;obtain ⟨h1,h2⟩:=h;refine ⟨?_,by simpa using h2⟩;have ha:c.args = #[]:=by simpa using h1
   unfold execOp;rw [hc];simp only [resolve,hcal,ha]
   rfl
  ·simp at h
 ·cases h
theorem execCopy {o:Oper} {i:Nat} (h:isCopy i o = true) (ρ:Operand->Value) (w:World):(execOp ρ o).run P w = .ok (.value (ρ (.tmp i))) w/\o.guard = none:=by
 unfold isCopy at h
 split at h
 ·rename_i t ht
  simp only [Bool.and_eq_true] at h;obtain ⟨h1,h2⟩:=h;have h1:=Nat.eq_of_beq_eq_true h1;subst h1;refine ⟨?_,by simpa using h2⟩;unfold execOp;rw [ht]
  rfl
 ·cases h
theorem closes_gen (hm:P.follows .mixedOrders = true) {f:FuncId} {fn:Func} {ann:Ann} {args:List Value} {x:Value} {u u':FrameMode} {w:World} {K:World->Prop}
  (hf:P.funcs[f]? = some fn) (hn0:Nat.ble args.length fn.ntmps = true) (hres:fn.results.isEmpty = true)
  (hrec:∀ (c₀:Frame) (cs:List Frame),c₀.mode = u->recoverD (c₀ :: cs) = some (x,{ c₀ with mode:=u' } :: cs) \/ (recoverD (c₀ :: cs) = none/\x = .nilIface/\u' = u))
  (h:enterC P fn ann args x w K):CallsDIn (FF none) 0 P f args.toArray u w fun en u2 w'=>∃ y,en = .returned y/\u2 = u'/\K w':=by
 unfold enterC at h
 split at h
 ·rename_i c hb
  split at h
  ·rename_i i j c2 hr
   unfold recBody at hr
   split at hr
   ·rename_i id ops c2'
    split at hr
    ·rename_i o1 o2 hops
     split at hr
     ·rename_i i' j' hd1 hd2
      cases hc:isRec o1 && isCopy i' o2 && Nat.blt i' fn.ntmps && Nat.blt j' fn.ntmps with
      | false=>rw [hc] at hr; cases hr
      | true=>
       rw [hc] at hr;simp only [cond_true,Option.some.injEq,Prod.mk.injEq] at hr;obtain ⟨rfl,rfl,rfl⟩:=hr;simp only [Bool.and_eq_true] at hc;obtain ⟨⟨⟨hc1,hc2⟩,hi⟩,hj⟩:=hc;have hi:=blt_iff.1 hi;have hj:=blt_iff.1 hj;have hopa:ops = #[o1,o2]:=Array.toList_inj.1 hops;subst hopa;refine callsDIn_of_wpSIn hf hb trivial fun c₀ cs hu=>wpSIn_seq (wpSIn_region ?_)
       have hag:=agree_init (fn:=fn) (args:=args) (Nat.le_of_ble_eq_true hn0);have hag1:=hag.put hi x;have hag2:=hag1.put hj x;have hev:Q.ev fn.ntmps (upd (initE 0 args) i' x) (.tmp i') = x:=by
        show (bif Nat.blt i' fn.ntmps then upd (initE 0 args) i' x i' else undef) = x
        rw [blt_true hi];simp [upd]
       have fin:∀ cs',cs' = { c₀ with mode:=u' } :: cs->Exit.thenS (c2'.wpSIn (FF none) 0 P (bodyPostS P fn c₀ cs fun en u2 w'=>∃ y,en = .returned y/\u2 = u'/\K w')) (bodyPostS P fn c₀ cs fun en u2 w'=>∃ y,en = .returned y/\u2 = u'/\K w') .normal (({ tmps:=args.toArray ++ Array.replicate (fn.ntmps - args.toArray.size) undef,defers:=[] }:Act).put (some i') x |>.put (some j') x) cs' w:=by
        rintro cs' rfl
        refine wpSIn_of_wpIn rfl (wpIn_mono (wpA_sound hm c2' (fun _=>none) [] (fun _ _ _ _ _=>rfl) ann none _ _ _ w hag2 h) fun ex a' w' hq=>?_);have done:∀ e',Agree fn.ntmps e' a'->closE (e' fn.ntmps) (e' (fn.ntmps + 1)) (K w')->a'.defers = []/\∃ u2,{ c₀ with mode:=u' } :: cs = { c₀ with mode:=u2 } :: cs/\∃ v,(results fn a'.tmps).run P w' = .ok v w'/\∃ y,Ending.returned v = .returned y/\u2 = u'/\K w':=by
         intro e' ha' hk;obtain ⟨h1,h2,h3⟩:=closE_iff hk;refine ⟨?_,u',rfl,.tuple #[],?_,_,rfl,rfl,h3⟩
         ·rw [ha'.defers,List.isEmpty_iff.1 h1,List.isEmpty_iff.1 h2]
          rfl
         ·have:fn.results = #[]:=by simpa using hres
          rw [results_eq,this];simp [Sem.run]
        cases ex with
        | normal=>obtain ⟨e',ha',h1⟩:=hq; exact done e' ha' h1
        | ret=>obtain ⟨e',ha',h1⟩:=hq; exact done e' ha' h1
        | exit id=>obtain ⟨e',ha',h1⟩:=hq; exact h1.elim
        | goto l=>exact hq.elim
        | panic ch=>obtain ⟨e',Pn,ha',h1,h2⟩:=hq; cases h1
        | outgrown=>exact hq.elim
       show wpOpsSIn (FF none) 0 P #[o1,o2] _ [0,1] _ (c₀ :: cs) w
       have hex1:=(execRec (P:=P) hc1 (Act.eval { tmps:=args.toArray ++ Array.replicate (fn.ntmps - args.toArray.size) undef,defers:=[] }) w)
       have hex2:=(execCopy (P:=P) hc2 (Act.eval (({ tmps:=args.toArray ++ Array.replicate (fn.ntmps - args.toArray.size) undef,defers:=[] }:Act).put (some i') x)) w)
       rw [hag1.ev,hev] at hex2;unfold wpOpsSIn;simp only [show (#[o1,o2]:Array Oper)[0]? = some o1 from rfl];refine ⟨fun _ _=>trivial,?_⟩;rw [if_pos (by unfold Region.wanted; rw [hex1.2])];rw [hex1.1];simp only;have two:∀ cs',cs' = { c₀ with mode:=u' } :: cs->wpOpsSIn (FF none) 0 P #[o1,o2] (Exit.thenS (c2'.wpSIn (FF none) 0 P (bodyPostS P fn c₀ cs fun en u2 w'=>∃ y,en = .returned y/\u2 = u'/\K w')) (bodyPostS P fn c₀ cs fun en u2 w'=>∃ y,en = .returned y/\u2 = u'/\K w')) [1] (({ tmps:=args.toArray ++ Array.replicate (fn.ntmps - args.toArray.size) undef,defers:=[] }:Act).put (some i') x) cs' w:=by
        intro cs' hcs;unfold wpOpsSIn;simp only [show (#[o1,o2]:Array Oper)[1]? = some o2 from rfl];refine ⟨fun _ _=>trivial,?_⟩;rw [if_pos (by unfold Region.wanted; rw [hex2.2])];rw [hex2.1];simp only;unfold wpOpsSIn;rw [hd2];exact fin cs' hcs
       rcases hrec c₀ cs hu with h1 | ⟨h1,rfl,rfl⟩
       ·rw [h1]
        simp only;rw [hd1];exact two _ rfl
       ·rw [h1]
        simp only;rw [hd1];exact two _ (by rw [<- hu])
     ·cases hr
    ·cases hr
   ·cases hr
  ·exact h.elim
 ·exact h.elim
theorem CloseW_pan (hm:P.follows .mixedOrders = true) {f:FuncId} {fn:Func} {ann:Ann} {args:List Value} {v:Value} {w:World} {K:World->Prop} {g:Fn} {first cap:Array Value}
  (hf:P.funcs[f]? = some fn) (hn0:Nat.ble args.length fn.ntmps = true) (hres:fn.results.isEmpty = true) (hinv:(invoke (.fn g cap) first).run P w = .ok (.enter f args.toArray) w)
  (h:enterC P fn ann args v w K):CloseW P (.func g first cap) (.panicking [{ v:=v,recovered:=false }]) w K:=by
 refine ⟨f,args.toArray,hinv,CallsDIn.mono (closes_gen hm hf hn0 hres (u':=.panicking [{ v:=v,recovered:=true }]) (fun c₀ cs hu=>.inl ?_) h) ?_⟩
 ·unfold recoverD
  simp only [hu]
 ·rintro en u2 w' ⟨y,rfl,rfl,hK⟩
  exact ⟨y,rfl,rfl,hK⟩
theorem CloseW_ret (hm:P.follows .mixedOrders = true) {f:FuncId} {fn:Func} {ann:Ann} {args:List Value} {w:World} {K:World->Prop} {g:Fn} {first cap:Array Value}
  (hf:P.funcs[f]? = some fn) (hn0:Nat.ble args.length fn.ntmps = true) (hres:fn.results.isEmpty = true) (hinv:(invoke (.fn g cap) first).run P w = .ok (.enter f args.toArray) w)
  (h:enterC P fn ann args .nilIface w K):CloseW P (.func g first cap) .returning w K:=by
 refine ⟨f,args.toArray,hinv,CallsDIn.mono (closes_gen hm hf hn0 hres (u':=.returning) (fun c₀ cs hu=>.inr ⟨?_,rfl,rfl⟩) h) ?_⟩
 ·unfold recoverD
  simp only [hu]
 ·rintro en u2 w' ⟨y,rfl,rfl,hK⟩
  exact ⟨y,rfl,rfl,hK⟩
end Go.Proofs.YtmideenmlhbdjaaGreatDoor.Q
end
