/- The engine: rules that walk a function of the program with its frame as a function of slots, its code as terms that the kernel unfolds, and its memory under named facts.
   No conditions: every rule holds over any program. -/
import Derived.Test.YtcginoabkicdiaaGreatDzzB0
import Derived.Calls
import Derived.Orders
import Derived.StillTail
import Derived.KernelRfl
import Derived.Below
import Derived.OwnWalk
import Derived.IntWalk
set_option linter.unusedVariables false
set_option linter.unusedSimpArgs false
namespace Go.Proofs.YtcginoabkicdiaaGreat
abbrev Env:=Nat→Value
def upd (e:Env) (d:Nat) (v:Value):Env:=fun t=>bif Nat.beq t d then v else e t
def Ag (e:Env):Option Nat→Value→Env
 | some d,v=>upd e d v
 | none,_=>e
def ev (e:Env):Operand→Value
 | .tmp t=>e t
 | .const v=>v
 | .global g=>.pointer (some ⟨g,0,none⟩)
 | .func f=>.func (.func f) #[] #[]
structure Sees (n:Nat) (a:Act) (e:Env):Prop where
 size:a.tmps.size=n
 dfr:a.defers=[]
 get:∀ t,a.tmps.getD t undef=e t
theorem Sees.eval {n:Nat}{a:Act}{e:Env}(h:Sees n a e):a.eval=ev e:=by
 funext x
 cases x with
 | tmp t=>exact h.get t
 | _=>rfl
theorem Sees.put {n:Nat}{a:Act}{e:Env}(h:Sees n a e){d:Nat}(hd:d< n) (v:Value):Sees n (a.put (some d) v) (upd e d v):=by
 refine ⟨by simp [Act.put,h.size],h.dfr,fun t=>?_⟩
 have hsz:=h.size
 by_cases htd:t=d
 ·subst htd
  have:Nat.beq t t=true:=Nat.beq_refl t
  simp [Act.put,upd,this,hsz,hd]
 ·have hb:Nat.beq t d=false:=by
   cases hb:Nat.beq t d with
   | false=>rfl
   | true=>exact absurd (Nat.eq_of_beq_eq_true hb) htd
  have:=h.get t
  simp only [upd,hb,cond_false]
  rw [← this]
  simp [Act.put,Array.getElem?_setIfInBounds_ne (Ne.symm htd)]
def okD (n:Nat) (d:Option Nat):Bool:=match d with | some d=>Nat.blt d n | none=>true
theorem Sees.Mt {n:Nat}{a:Act}{e:Env}(h:Sees n a e){d:Option Nat}(hd:okD n d=true) (v:Value):Sees n (a.put d v) (Ag e d v):=by
 cases d with
 | none=>exact h
 | some d =>
   have hlt:d< n:=by
    have h1:=Nat.le_of_ble_eq_true hd
    omega
   exact h.put hlt v
def prS {α:Type}(P:Program):Sem α→Option α
 | .pure a=>some a
 | .program k=>prS P (k P)
 | _=>none
theorem VR {α:Type}{P:Program}(s:Sem α){a:α}(h:prS P s=some a) (w:World):s.run P w=.ok a w:=by
 induction s with
 | pure x=>simp only [prS,Option.some.injEq] at h; subst h; rfl
 | program k ih=>simp only [prS] at h; simp only [Sem.run]; exact ih P h
 | _=>simp [prS] at h
def srS {α:Type}(P:Program):Sem α→Nat→Option (α × List Obj)
 | .pure a,_=>some (a,[])
 | .program k,s=>srS P (k P) s
 | .new o k, s => match srS P (k s) (s + 1) with
   | some (a,os)=>some (a,o::os)
   | none=>none
 | _,_=>none
theorem RA {α:Type}{P:Program}(s:Sem α):∀ {a:α}{os:List Obj}{w:World},srS P s w.heap.size=some (a,os) →
 s.run P w=.ok a { w with heap:=w.heap++os.toArray }:=by
 induction s with
 | pure x=>intro a os w h; simp only [srS,Option.some.injEq,Prod.mk.injEq] at h; obtain ⟨rfl,rfl⟩:=h; simp [Sem.run]
 | program k ih=>intro a os w h; simp only [srS] at h; simp only [Sem.run]; exact ih P h
 | new o k ih =>
   intro a os w h
   simp only [srS] at h
   split at h
   ·rename_i a' os' h'
    simp only [Option.some.injEq,Prod.mk.injEq] at h
    obtain ⟨rfl,rfl⟩:=h
    simp only [Sem.run]
    have:=ih w.heap.size (w:={ w with heap:=w.heap.push o }) (a:=a') (os:=os') (by simpa using h')
    rw [this]
    simp
   ·cases h
 | _=>intro a os w h; simp [srS] at h
section
variable {P:Program}
theorem AZ {α β:Type}{s:Sem α}{g:α→Sem β}{a:α}{w w':World}(h:s.run P w=.ok a w'):(s >>= g).run P w=(g a).run P w':=by
 show (s.bind g).run P w=_
 induction s generalizing w with
 | pure x=>simp only [Sem.run,Result.ok.injEq] at h; obtain ⟨rfl,rfl⟩:=h; rfl
 | load m ad k ih =>
   simp only [Sem.bind,Sem.run] at h ⊢
   split at h
   ·exact ih _ h
   ·split at h
    ·exact ih _ h
    ·cases h
 | store m ad v k ih =>
   cases v <;> simp only [Sem.bind,Sem.run] at h ⊢ <;> first
    | (cases h; done)
    | (split at h
       ·split at h
        ·cases h
        ·rename_i h1 h2; simp only [h2]; exact ih h
       ·split at h
        ·exact ih h
        ·cases h)
 | new o k ih=>simp only [Sem.bind,Sem.run] at h ⊢; exact ih _ h
 | shape r k ih=>simp only [Sem.bind,Sem.run] at h ⊢; exact ih _ h
 | freeze ad m k ih=>simp only [Sem.bind,Sem.run] at h ⊢; exact ih h
 | frozen ad k ih=>simp only [Sem.bind,Sem.run] at h ⊢; exact ih _ h
 | getObj r k ih =>
   simp only [Sem.bind,Sem.run] at h ⊢
   split at h
   ·cases h
   ·exact ih _ h
   ·cases h
 | setObj r o k ih =>
   simp only [Sem.bind,Sem.run] at h ⊢
   split at h
   ·cases h
   ·exact ih h
   ·cases h
 | choose q k ih =>
   simp only [Sem.bind,Sem.run] at h ⊢
   split at h
   ·rename_i hq; rw [if_pos hq]; exact ih _ h
   ·rename_i hq; rw [if_neg hq]; exact ih _ h
 | sys cc k ih=>simp only [Sem.bind,Sem.run] at h ⊢; exact ih _ h
 | program k ih=>simp only [Sem.bind,Sem.run] at h ⊢; exact ih _ h
 | mark m k ih=>simp only [Sem.bind,Sem.run] at h ⊢; exact ih h
 | halt x=>simp only [Sem.run] at h; cases h
end
theorem Xj {α:Type}(x:Sem α):x.bind Sem.pure=x:=by
 induction x with
 | frozen a k ih=>simp only [Sem.bind]; congr 1; funext b; exact ih b
 | _=>simp_all [Sem.bind]
theorem SB {α β γ:Type}(x:Sem α) (f:α→Sem β) (g:β→Sem γ):(x.bind f).bind g=x.bind (fun a=>(f a).bind g):=by
 induction x with
 | frozen a k ih=>simp only [Sem.bind]; congr 1; funext b; exact ih b
 | _=>simp_all [Sem.bind]
instance:LawfulMonad Sem:=LawfulMonad.mk' (m:=Sem)
 (id_map:=fun x=>Xj x)
 (pure_bind:=fun _ _=>rfl)
 (bind_assoc:=fun x f g=>SB x f g)
theorem Y8 (f:ResultVar→Sem Value) (r:ResultVar):(#[r]).mapM f=(do let v ← f r; pure #[v]):=by
 simp
theorem Y9 (f:ResultVar→Sem Value) (r r':ResultVar):(#[r,r']).mapM f=(do let v ← f r; let v' ← f r'; pure #[v,v']):=by
 simp
theorem ZA (f:ResultVar→Sem Value) (r r' r2:ResultVar):(#[r,r',r2]).mapM f=(do let v ← f r; let v' ← f r'; let v2 ← f r2; pure #[v,v',v2]):=by
 simp
def D9 (ops:Array Oper) (o:Oper) (e:Env):Bool :=
 match o.guard with
 | none=>true
 | some (j, want) =>
   match (ops[j]?).bind (·.dst) with
   | some t => match e t with
     | .bool b=>b==want
     | _=>false
   | none=>false
theorem Sees.want {n:Nat}{a:Act}{e:Env}(h:Sees n a e) (ops:Array Oper) (o:Oper) :
 Region.wanted o (yielded ops a.tmps)=D9 ops o e:=by
 unfold Region.wanted D9
 cases o.guard with
 | none=>rfl
 | some g =>
   obtain ⟨j,want⟩:=g
   simp only [yielded]
   cases hd:(ops[j]?).bind (·.dst) with
   | none=>simp
   | some t =>
     simp only [Option.bind_some]
     have hg:=h.get t
     cases ht:a.tmps[t]? with
     | none =>
       have:e t=undef:=by rw [← hg]; simp [ht]
       rw [this]; simp [undef]
     | some v =>
       have:e t=v:=by rw [← hg]; simp [ht]
       rw [this]
       cases v <;> simp
def Ad (ops:Array Oper) (j:Nat):Oper:=ops.toList.getD j default
def Ot (n:Nat) (ops:Array Oper) (j:Nat):Bool:=Nat.blt j ops.toList.length&&okD n (Ad ops j).dst
def CC (n:Nat) (ops:Array Oper) (j:Nat) (e:Env):Bool:=Ot n ops j&&D9 ops (Ad ops j) e
theorem RB {ops:Array Oper}{j:Nat}(h:j< ops.toList.length):ops.toList.drop j=Ad ops j::ops.toList.drop (j+1):=by
 rw [List.drop_eq_getElem_cons h]
 congr 1
 have h':j< ops.size:=by simpa using h
 simp [Ad,h']
theorem Hn {n:Nat}{ops:Array Oper}{j:Nat}(h:Ot n ops j=true):j< ops.toList.length∧okD n (Ad ops j).dst=true:=by
 simp only [Ot,AW] at h
 have:=Nat.le_of_ble_eq_true h.1
 exact ⟨by omega,h.2⟩
def RG (P:Program) (n:Nat) (K:Env→World→Prop) (ops:Array Oper) (j:Nat) (e:Env) (w:World):Prop :=
 ∀ a,Sees n a e→wpList P ops (fun x a' w'=>x=.normal∧∃ e',Sees n a' e'∧K e' w') (ops.toList.drop j) a w
section
variable {P:Program} {n:Nat} {K:Env→World→Prop} {ops:Array Oper} {j:Nat} {e:Env} {w:World}
theorem RG.done (h:Nat.beq ops.toList.length j=true) (H:K e w):RG P n K ops j e w:=by
 intro a ha
 have hj:ops.toList.length=j:=Nat.eq_of_beq_eq_true h
 rw [List.drop_of_length_le AB]
 exact wpList_nil ⟨rfl,e,ha,H⟩
theorem RG.upon (hk:CC n ops j e=true)
 (h:∀ a,Sees n a e→(Ad ops j).upon P a (fun a' w'=>∃ e',Sees n a' e'∧RG P n K ops (j+1) e' w') (fun _ _ _=>False) ((execOp (ev e) (Ad ops j)).run P w)):RG P n K ops j e w:=by
 intro a ha
 simp only [CC,AW] at hk
 obtain ⟨hlt,_⟩:=Hn hk.1
 rw [RB hlt]
 unfold wpList
 rw [ha.want,hk.2]
 simp only [if_true]
 refine .inl ?_
 have h1:=h a ha
 unfold Oper.wp
 rw [ha.eval]
 generalize (execOp (ev e) (Ad ops j)).run P w=r at *
 have hb:∀ a' w',(∃ e',Sees n a' e'∧RG P n K ops (j+1) e' w')→wpList P ops (fun x a' w'=>x=.normal∧∃ e',Sees n a' e'∧K e' w') (ops.toList.drop (j+1)) a' w':=fun a' w' ⟨e',hs,hr⟩=>hr a' hs
 cases r with
 | ok nx w' =>
   cases nx <;> simp only [Oper.upon] at h1 ⊢
   case value v=>exact hb _ _ h1
   case skip=>exact hb _ _ h1
   case defer d=>exact hb _ _ h1
   case enter f args =>
    refine h1.mono fun x w'' hx=>?_
    cases x with
    | returned v=>exact hb _ _ hx
    | panicked c=>exact hx.elim
    | outgrown=>obtain ⟨_,_,hf⟩:=hx; exact hf.elim
   case row r args=>exact h1.mono fun v w'' hx=>hb _ _ hx
 | halt x w' =>
   cases x <;> simp only [Oper.upon] at h1
theorem RG.val {v:Value}{w':World}(hk:CC n ops j e=true) (hr:(execOp (ev e) (Ad ops j)).run P w=.ok (.value v) w')
 (H:RG P n K ops (j+1) (Ag e (Ad ops j).dst v) w'):RG P n K ops j e w:=by
 refine RG.upon hk fun a ha=>?_
 rw [hr]
 simp only [CC,AW] at hk
 exact ⟨_,ha.Mt (Hn hk.1).2 v,H⟩
theorem RG.unit {w':World}(hk:CC n ops j e=true) (hr:(execOp (ev e) (Ad ops j)).run P w=.ok .skip w')
 (H:RG P n K ops (j+1) (Ag e (Ad ops j).dst undef) w'):RG P n K ops j e w:=by
 refine RG.upon hk fun a ha=>?_
 rw [hr]
 simp only [CC,AW] at hk
 exact ⟨_,ha.Mt (Hn hk.1).2 undef,H⟩
theorem RG.skip (hk:(Ot n ops j && !D9 ops (Ad ops j) e)=true)
 (H:RG P n K ops (j+1) (Ag e (Ad ops j).dst undef) w):RG P n K ops j e w:=by
 intro a ha
 simp only [AW,Bool.not_eq_true'] at hk
 obtain ⟨hlt,hd⟩:=Hn hk.1
 rw [RB hlt]
 unfold wpList
 rw [ha.want,hk.2]
 simp only [Bool.false_eq_true,if_false]
 exact H _ (ha.Mt hd undef)
def VT (P:Program) (o:Oper) (e:Env):Value :=
 match prS P (execOp (ev e) o) with
 | some (.value v)=>v
 | _=>undef
def NM (P:Program) (o:Oper) (e:Env):Bool :=
 match prS P (execOp (ev e) o) with
 | some (.value _)=>true
 | _=>false
def IH (P:Program) (ops:Array Oper) (j:Nat) (e:Env):Env :=
 Ag e (Ad ops j).dst (bif D9 ops (Ad ops j) e then VT P (Ad ops j) e else undef)
def G2 (P:Program) (n:Nat) (ops:Array Oper) (j:Nat) (e:Env):Bool :=
 Ot n ops j&&(bif D9 ops (Ad ops j) e then NM P (Ad ops j) e else true)
def Xk (P:Program) (ops:Array Oper):Nat→Nat→Env→Env
 | 0,_,e=>e
 | m+1,j,e=>Xk P ops m (j+1) (IH P ops j e)
def RC (P:Program) (n:Nat) (ops:Array Oper):Nat→Nat→Env→Bool
 | 0,_,_=>true
 | m+1,j,e=>G2 P n ops j e&&RC P n ops m (j+1) (IH P ops j e)
theorem F1 {o:Oper}(h:NM P o e=true) (w:World):(execOp (ev e) o).run P w=.ok (.value (VT P o e)) w:=by
 unfold NM VT at *
 cases hp:prS P (execOp (ev e) o) with
 | none=>simp [hp] at h
 | some x =>
   have hr:=VR _ hp w
   cases x <;> simp [hp] at h ⊢
   exact hr
theorem RG.step (h:G2 P n ops j e=true) (H:RG P n K ops (j+1) (IH P ops j e) w):RG P n K ops j e w:=by
 simp only [G2,AW] at h
 unfold IH at H
 cases hw:D9 ops (Ad ops j) e with
 | true =>
   simp only [hw,cond_true] at h H
   exact RG.val (by simp [CC,h.1,hw]) (F1 h.2 w) H
 | false =>
   simp only [hw,cond_false] at h H
   exact RG.skip (by simp [h.1,hw]) H
theorem RG.run (m:Nat) (h:RC P n ops m j e=true) (H:RG P n K ops (j+m) (Xk P ops m j e) w):RG P n K ops j e w:=by
 induction m generalizing j e with
 | zero=>exact H
 | succ m ih =>
   simp only [RC,AW] at h
   exact RG.step h.1 (ih h.2 (by rw [show j+1+m=j+(m+1) by omega]; exact H))
def Iy (P:Program) (n:Nat) (ops:Array Oper) (j:Nat) (e:Env):Option Value :=
 bif CC n ops j e then (bif NM P (Ad ops j) e then some (VT P (Ad ops j) e) else none) else none
theorem RG.eqv {v v':Value}(h:Iy P n ops j e=some v') (hv:v'=v) (H:RG P n K ops (j+1) (Ag e (Ad ops j).dst v) w):RG P n K ops j e w:=by
 subst hv
 unfold Iy at h
 cases hg:CC n ops j e with
 | false=>simp [hg] at h
 | true =>
   cases hi:NM P (Ad ops j) e with
   | false=>simp [hg,hi] at h
   | true =>
     simp only [hg,hi,cond_true,Option.some.injEq] at h
     exact RG.val hg (F1 hi w) (h▸H)
theorem RG.bool (b:Bool) (h:Iy P n ops j e=some (.bool b)) (ht:b=true→RG P n K ops (j+1) (Ag e (Ad ops j).dst (.bool true)) w)
 (hf:b=false→RG P n K ops (j+1) (Ag e (Ad ops j).dst (.bool false)) w):RG P n K ops j e w:=by
 refine RG.eqv h rfl ?_
 cases b with
 | true=>exact ht rfl
 | false=>exact hf rfl
theorem RG.Em (p:Prop) [Decidable p] (h:Iy P n ops j e=some (.bool (decide p))) (ht:p→RG P n K ops (j+1) (Ag e (Ad ops j).dst (.bool true)) w)
 (hf:¬ p→RG P n K ops (j+1) (Ag e (Ad ops j).dst (.bool false)) w):RG P n K ops j e w :=
 RG.bool _ h (fun hb=>ht (of_decide_eq_true hb)) (fun hb=>hf (of_decide_eq_false hb))
theorem RG.int (z:Int) (h:Iy P n ops j e=some (.int .i64 (IntKind.i64.wrap z))) (hz:-9223372036854775808≤z∧z≤9223372036854775807)
 (H:RG P n K ops (j+1) (Ag e (Ad ops j).dst (.int .i64 z)) w):RG P n K ops j e w :=
 RG.eqv h (by rw [IntWalk.i64_in z hz]) H
end
def loadAt (n:Nat) (ops:Array Oper) (j:Nat) (e:Env):Option (TypeId × Addr) :=
 bif CC n ops j e then
  match (Ad ops j).op with
  | .load t x => match ev e x with
    | .pointer (some a)=>some (t,a)
    | _=>none
  | _=>none
 else none
def storeAt (n:Nat) (ops:Array Oper) (j:Nat) (e:Env):Option (TypeId × Addr × Value) :=
 bif CC n ops j e then
  match (Ad ops j).op with
  | .store t x v => match ev e x with
    | .pointer (some a)=>some (t,a,ev e v)
    | _=>none
  | _=>none
 else none
def Bf (P:Program) (n:Nat) (ops:Array Oper) (j:Nat) (e:Env):Option (FuncId × List Value) :=
 bif CC n ops j e then
  match (Ad ops j).op with
  | .call c => match c.callee with
    | .value f => match ev e f with
      | .func (.func g) first cap => match P.funcs[g]? with
        | some fn=>bif fn.body.isSome && !(fn.name == "runtime.NumGoroutine") then some (g,first.toList++(c.args.toList.map (ev e))++cap.toList) else none
        | none=>none
      | _=>none
    | _=>none
  | _=>none
 else none
def Bk (n:Nat) (ops:Array Oper) (j:Nat) (e:Env):Option (Builtin × List TypeId × TypeId × List Value) :=
 bif CC n ops j e then
  match (Ad ops j).op with
  | .call c => match c.callee with
    | .builtin b=>some (b,c.argTypes.toList,(Ad ops j).type,c.args.toList.map (ev e))
    | _=>none
  | _=>none
 else none
section
variable {P:Program} {n:Nat} {K:Env→World→Prop} {ops:Array Oper} {j:Nat} {e:Env} {w:World}
theorem CG {α:Type}{x:Option α}{y:α}(h:(bif CC n ops j e then x else none)=some y):CC n ops j e=true∧x=some y:=by
 cases hg:CC n ops j e with
 | false=>simp [hg] at h
 | true=>simp [hg] at h; exact ⟨rfl,h⟩
theorem RG.load {t:TypeId}{a:Addr}{v:Value}(h:loadAt n ops j e=some (t,a)) (hv:(loadVar t a).run P w=.ok v w)
 (H:RG P n K ops (j+1) (Ag e (Ad ops j).dst v) w):RG P n K ops j e w:=by
 obtain ⟨hg,h⟩:=CG h
 refine RG.val (v:=v) hg ?_ H
 split at h
 ·rename_i t' x hop
  split at h
  ·rename_i a' hx
   simp only [Option.some.injEq,Prod.mk.injEq] at h
   obtain ⟨rfl,rfl⟩:=h
   simp only [execOp,hop,hx]
   exact AZ hv
  ·cases h
 ·cases h
theorem RG.store {t:TypeId}{a:Addr}{v:Value}{w':World}(h:storeAt n ops j e=some (t,a,v)) (hv:(storeVar t a v).run P w=.ok () w')
 (H:RG P n K ops (j+1) (Ag e (Ad ops j).dst undef) w'):RG P n K ops j e w:=by
 obtain ⟨hg,h⟩:=CG h
 refine RG.unit hg ?_ H
 split at h
 ·rename_i t' x v' hop
  split at h
  ·rename_i a' hx
   simp only [Option.some.injEq,Prod.mk.injEq] at h
   obtain ⟨rfl,rfl,rfl⟩:=h
   simp only [execOp,hop,hx]
   exact AZ hv
  ·cases h
 ·cases h
def Af (Q:Value→World→Prop):Ending→World→Prop:=fun x w'=>∃ v,x=.returned v∧Q v w'
theorem RG.call {f:FuncId}{args:List Value}{Q:Value→World→Prop}(h:Bf P n ops j e=some (f,args)) (hc:Calls P f args.toArray w (Af Q))
 (H:∀ v w',Q v w'→RG P n K ops (j+1) (Ag e (Ad ops j).dst v) w'):RG P n K ops j e w:=by
 obtain ⟨hg,h⟩:=CG h
 refine RG.upon hg fun a ha=>?_
 have hd:okD n (Ad ops j).dst=true:=by
  simp only [CC,AW] at hg
  exact (Hn hg.1).2
 split at h
 ·rename_i c hop
  split at h
  ·rename_i fo hcal
   split at h
   ·rename_i g first cap hf
    split at h
    ·rename_i fn hfn
     cases hb:fn.body.isSome && !(fn.name == "runtime.NumGoroutine") with
     | false=>simp [hb] at h
     | true =>
       simp only [hb,cond_true,Option.some.injEq,Prod.mk.injEq] at h
       obtain ⟨rfl,rfl⟩:=h
       simp only [AW,Bool.not_eq_true'] at hb
       have hbn:¬ fn.body=none:=by cases hx:fn.body <;> simp [hx] at hb ⊢
       have hargs:(first.toList++(c.args.toList.map (ev e))++cap.toList).toArray=(first++c.args.map (ev e))++cap:=by
        apply Array.toList_inj.1; simp
       have hrun:(execOp (ev e) (Ad ops j)).run P w=.ok (.enter g ((first++c.args.map (ev e))++cap)) w:=by
        have hne:fn.name ≠ "runtime.NumGoroutine" := by simpa using hb.2
        simp only [execOp,hop,resolve,hcal,hf,Deferred.ofValue]
        simp [invoke,callFunc,hfn,hne,hbn,go_sem]
       rw [hrun,Oper.upon_enter]
       rw [hargs] at hc
       refine hc.mono fun x w' ⟨v,hx,hq⟩=>?_
       subst hx
       exact ⟨_,ha.Mt hd v,H v w' hq⟩
    ·cases h
   ·cases h
  ·cases h
 ·cases h
theorem RG.append {ats:List TypeId}{ty:TypeId}{args:List Value}{v:Value}{w':World}(h:Bk n ops j e=some (.append,ats,ty,args))
 (hr:(Builtin.append_ ats.toArray ty args.toArray).run P w=.ok v w') (H:RG P n K ops (j+1) (Ag e (Ad ops j).dst v) w'):RG P n K ops j e w:=by
 obtain ⟨hg,h⟩:=CG h
 refine RG.val (v:=v) hg ?_ H
 split at h
 ·rename_i c hop
  split at h
  ·rename_i b hcal
   simp only [Option.some.injEq,Prod.mk.injEq] at h
   obtain ⟨rfl,rfl,rfl,rfl⟩:=h
   have ha:(c.args.toList.map (ev e)).toArray=c.args.map (ev e):=by apply Array.toList_inj.1; simp
   rw [ha,Array.toArray_toList] at hr
   simp only [execOp,hop,resolve,hcal]
   exact AZ hr
  ·cases h
 ·cases h
theorem RG.copy {ats:List TypeId}{ty:TypeId}{args:List Value}{v:Value}{w':World}(h:Bk n ops j e=some (.copy,ats,ty,args))
 (hr:(Builtin.copy_ ats.toArray ty args.toArray).run P w=.ok v w') (H:RG P n K ops (j+1) (Ag e (Ad ops j).dst v) w'):RG P n K ops j e w:=by
 obtain ⟨hg,h⟩:=CG h
 refine RG.val (v:=v) hg ?_ H
 split at h
 ·rename_i c hop
  split at h
  ·rename_i b hcal
   simp only [Option.some.injEq,Prod.mk.injEq] at h
   obtain ⟨rfl,rfl,rfl,rfl⟩:=h
   have ha:(c.args.toList.map (ev e)).toArray=c.args.map (ev e):=by apply Array.toList_inj.1; simp
   rw [ha,Array.toArray_toList] at hr
   simp only [execOp,hop,resolve,hcal]
   exact AZ hr
  ·cases h
 ·cases h
def newAt (P:Program) (n:Nat) (ops:Array Oper) (j:Nat) (e:Env) (s:Nat):Option (Value × Obj) :=
 bif CC n ops j e then
  match srS P (execOp (ev e) (Ad ops j)) s with
  | some (.value v,[o])=>some (v,o)
  | _=>none
 else none
theorem RG.VU {o:Obj}{v:Value}(h:newAt P n ops j e w.heap.size=some (v,o)) (H:RG P n K ops (j+1) (Ag e (Ad ops j).dst v) (w.alloc o)):RG P n K ops j e w:=by
 obtain ⟨hg,h⟩:=CG h
 refine RG.val (v:=v) hg ?_ H
 split at h
 ·rename_i v' o' hs
  simp only [Option.some.injEq,Prod.mk.injEq] at h
  obtain ⟨rfl,rfl⟩:=h
  rw [RA _ hs]
  have hp:w.heap++[o'].toArray=w.heap.push o':=by simp
  rw [hp]
  rfl
 ·cases h
end
def T (P:Program) (f:FuncId) (fn:Func) (R:Value→World→Prop) (todo:List Item) (e:Env) (w:World):Prop :=
 ∀ (b : Frame) (a : Act) (cs : List Frame), b.fn = f → b.kind = .normal → Sees fn.ntmps a e →
   ∃ v w' fr,R v w'∧Steps P (lone (b.at a todo) cs w) (lone fr cs w')∧fr.fn=f∧fr.leaving P w' (.returned v)
def TA:Code→Bool | .seq .. => true | _=>false
def lft:Code→Code | .seq a _=>a | c=>c
def rgt:Code→Code | .seq _ b=>b | c=>c
def thn:Code→Code | .cond _ a _=>a | c=>c
def els:Code→Code | .cond _ _ b=>b | c=>c
def bdy:Code→Code | .block _ b=>b | .loop b=>b | c=>c
def N9:Code→Bool | .loop _=>true | _=>false
def OA:Code→Nat→Bool | .block i _,k=>Nat.beq i k | _,_=>false
def QJ:Code→Nat→Bool | .exit i,k=>Nat.beq i k | _,_=>false
def Fb:Code→Bool | .ret=>true | _=>false
def QK:Code→Bool | .skip=>true | _=>false
def G3:Code→Bool→Bool | .region _ _ d,b=>d==b | _,_=>false
def FG:Code→Array Oper | .region _ ops _=>ops | _=>#[]
def Ho (e:Env):Code→Value | .cond c _ _=>ev e c | _=>undef
def TB (fn:Func):Code:=match fn.body with | some c=>c | none=>.skip
section
variable {P:Program} {f:FuncId} {fn:Func} {R:Value→World→Prop} {c:Code} {k:List Item} {e:Env} {w:World}
theorem T.steps {todo todo':List Item}(h:∀ (b:Frame) (a:Act) (cs:List Frame),step P (lone (b.at a todo) cs w)=.next (lone (b.at a todo') cs w))
 (H:T P f fn R todo' e w):T P f fn R todo e w:=fun b a cs h1 h2 h3 =>
 let ⟨v,w',fr,hR,hs,r⟩:=H b a cs h1 h2 h3
 ⟨v,w',fr,hR,.head (h b a cs) hs,r⟩
theorem T.seq (h:TA c=true) (H:T P f fn R (.code (lft c) :: .code (rgt c)::k) e w):T P f fn R (.code c::k) e w:=by
 cases c <;> simp [TA] at h
 exact T.steps (fun _ _ _=>step_seq) H
theorem T.skip (h:QK c=true) (H:T P f fn R k e w):T P f fn R (.code c::k) e w:=by
 cases c <;> simp [QK] at h
 exact T.steps (fun _ _ _=>step_skip) H
theorem T.block (i:Nat) (h:OA c i=true) (H:T P f fn R (.code (bdy c) :: .inBlock i::k) e w):T P f fn R (.code c::k) e w:=by
 cases c <;> simp [OA] at h
 rename_i id b
 have hid:=h
 subst hid
 exact T.steps (fun _ _ _=>step_block) H
theorem T.inBlock (i:Nat) (H:T P f fn R k e w):T P f fn R (.inBlock i::k) e w:=T.steps (fun _ _ _=>step_inBlock) H
theorem T.exit (i:Nat){k':List Item}(h:QJ c i=true) (hk:exitTo i k=some k') (H:T P f fn R k' e w):T P f fn R (.code c::k) e w:=by
 cases c <;> simp [QJ] at h
 rename_i id
 have hid:=h
 subst hid
 exact T.steps (fun _ _ _=>step_exit hk) H
theorem T.cond (b:Bool) (hc:Ho e c=.bool b) (ht:b=true→T P f fn R (.code (thn c)::k) e w) (hf:b=false→T P f fn R (.code (els c)::k) e w):T P f fn R (.code c::k) e w:=by
 cases c <;> simp [Ho,undef] at hc
 rename_i x y z
 intro bf a cs h1 h2 h3
 have hb:a.eval x=.bool b:=by rw [h3.eval]; exact hc
 cases b with
 | true =>
   obtain ⟨v,w',fr,hR,hs,r⟩:=ht rfl bf a cs h1 h2 h3
   exact ⟨v,w',fr,hR,.head (step_cond hb) hs,r⟩
 | false =>
   obtain ⟨v,w',fr,hR,hs,r⟩:=hf rfl bf a cs h1 h2 h3
   exact ⟨v,w',fr,hR,.head (step_cond hb) hs,r⟩
theorem T.ZB (hc:Ho e c=.bool true) (H:T P f fn R (.code (thn c)::k) e w):T P f fn R (.code c::k) e w :=
 T.cond true hc (fun _=>H) (fun h=>by cases h)
theorem T.ZC (hc:Ho e c=.bool false) (H:T P f fn R (.code (els c)::k) e w):T P f fn R (.code c::k) e w :=
 T.cond false hc (fun h=>by cases h) (fun _=>H)
theorem T.region (h:G3 c false=true) (H:RG P fn.ntmps (fun e' w'=>T P f fn R k e' w') (FG c) 0 e w):T P f fn R (.code c::k) e w:=by
 cases c <;> simp [G3] at h
 rename_i id ops d
 subst h
 intro b a cs h1 h2 h3
 have hwp:(Code.region id ops false).wp P (fun x a' w'=>x=.normal∧∃ e',Sees fn.ntmps a' e'∧T P f fn R k e' w') a w:=by
  refine wp_region_list ?_
  simpa [FG] using H a h3
 obtain ⟨x,a',w',⟨hx,e',hs',hT⟩,harr⟩:=hwp b k cs
 subst hx
 obtain ⟨v,w'',fr,hR,hst,r⟩:=hT b a' cs h1 h2 hs'
 exact ⟨v,w'',fr,hR,Steps.trans harr hst,r⟩
def GQ (e:Env):List (Nat × Value)→Prop
 | []=>True
 | p::r=>e p.1=p.2∧GQ e r
def Ou (e:Env):List (Nat × Value)→Env
 | []=>e
 | p::r=>upd (Ou e r) p.1 p.2
theorem Jh {S:List (Nat × Value)}(h:GQ e S):Ou e S=e:=by
 induction S with
 | nil=>rfl
 | cons p r ih =>
   obtain ⟨h1,h2⟩:=h
   funext t
   simp only [Ou,upd,ih h2]
   cases hb:Nat.beq t p.1 with
   | false=>rfl
   | true =>
     have:=Nat.eq_of_beq_eq_true hb
     subst this
     simp [h1]
theorem T.only (S:List (Nat × Value)){todo:List Item}(hs:GQ e S) (H:∀ e',T P f fn R todo (Ou e' S) w):T P f fn R todo e w:=by
 have:=H e
 rwa [Jh hs] at this
theorem T.loop {X:Type}(x0:X) (S:X→List (Nat × Value)) (I:X→World→Prop) (μ:X→Nat) (h:N9 c=true) (hs:GQ e (S x0)) (hI:I x0 w)
 (H:∀ x e w,I x w→(∀ x' e' w',GQ e' (S x')→I x' w'→μ x'< μ x→T P f fn R (.inLoop (bdy c)::k) e' w')→T P f fn R (.code (bdy c) :: .inLoop (bdy c)::k) (Ou e (S x)) w) :
 T P f fn R (.code c::k) e w:=by
 cases c <;> simp [N9] at h
 rename_i body
 have key:∀ m x e w,μ x=m→GQ e (S x)→I x w→T P f fn R (.code body :: .inLoop body::k) e w:=by
  intro m
  induction m using Nat.strongRecOn with
  | _ m ih =>
    intro x e w hm ha hI
    have h1:=H x e w hI (fun x' e' w' ha' hI' hlt=>T.steps (fun _ _ _=>step_inLoop) (ih (μ x') (hm▸hlt) x' e' w' rfl ha' hI'))
    rwa [Jh ha] at h1
 exact T.steps (fun _ _ _=>step_loop) (key _ x0 e w rfl hs hI)
theorem T.Ov {v:Value}(h:Fb c=true) (hr:∀ a,Sees fn.ntmps a e→(results fn a.tmps).run P w=.ok v w) (hf:P.funcs[f]? = some fn) (hR:R v w):T P f fn R (.code c::k) e w:=by
 cases c <;> simp [Fb] at h
 intro b a cs h1 h2 h3
 refine ⟨v,w,_,hR,.one step_ret,h1,rfl,h3.dfr,h2,fn,?_,hr a h3⟩
 show P.funcs[b.fn]? = some fn
 rw [h1]; exact hf
theorem T.VV {v:Value}(hr:∀ a,Sees fn.ntmps a e→(results fn a.tmps).run P w=.ok v w) (hf:P.funcs[f]? = some fn) (hR:R v w):T P f fn R [] e w:=by
 intro b a cs h1 h2 h3
 refine ⟨v,w,_,hR,.one step_end,h1,rfl,h3.dfr,h2,fn,?_,hr a h3⟩
 show P.funcs[b.fn]? = some fn
 rw [h1]; exact hf
def CK (P:Program) (w:World) (e:Env) (r:ResultVar) (v:Value):Prop :=
 match r with
 | .tmp t=>e t=v
 | .cell a t=>∃ ad,e a=.pointer (some ad)∧(loadVar t ad).run P w=.ok v w
theorem CK.tmp {t:Tmp}{v:Value}(h:e t=v):CK P w e (.tmp t) v:=h
theorem CK.cell {x t:Nat}{ad:Addr}{v:Value}(h:e x=.pointer (some ad)) (hv:(loadVar t ad).run P w=.ok v w):CK P w e (.cell x t) v:=⟨ad,h,hv⟩
def OB (tmps:Array Value):ResultVar→Sem Value
 | .tmp t=>pure (tmps.getD t undef)
 | .cell a t=>do loadVar t (← asAddr (tmps.getD a undef))
theorem GR (tmps:Array Value):results fn tmps=(do let vs ← fn.results.mapM (OB tmps); pure (if h:vs.size=1 then vs[0] else .tuple vs)):=by
 unfold results
 congr 1
theorem CK.run {n:Nat}{a:Act}{r:ResultVar}{v:Value}(hs:Sees n a e) (h:CK P w e r v):(OB a.tmps r).run P w=.ok v w:=by
 cases r with
 | tmp t =>
   simp only [CK] at h
   have hg:=hs.get t
   simp only [OB,hg,h]
   rfl
 | cell x t =>
   obtain ⟨ad,h1,h2⟩:=h
   have hg:=hs.get x
   simp only [OB,hg,h1,asAddr]
   exact h2
theorem OC {a:Act}{r:ResultVar}{v:Value}(hs:Sees fn.ntmps a e) (hr:fn.results = #[r]) (h:CK P w e r v):(results fn a.tmps).run P w=.ok v w:=by
 rw [GR,hr,Y8]
 exact AZ (a:=#[v]) (AZ (h.run hs))
theorem OD {a:Act}{r r':ResultVar}{v v':Value}(hs:Sees fn.ntmps a e) (hr:fn.results = #[r,r']) (h:CK P w e r v) (h':CK P w e r' v') :
 (results fn a.tmps).run P w=.ok (.tuple #[v,v']) w:=by
 rw [GR,hr,Y9]
 refine AZ (a:=#[v,v']) ?_
 rw [AZ (h.run hs),AZ (h'.run hs)]
 rfl
theorem OE {a:Act}{r r' r'':ResultVar}{v v' v'':Value}(hs:Sees fn.ntmps a e) (hr:fn.results = #[r,r',r'']) (h:CK P w e r v) (h':CK P w e r' v') (h'':CK P w e r'' v'') :
 (results fn a.tmps).run P w=.ok (.tuple #[v,v',v'']) w:=by
 rw [GR,hr,ZA]
 refine AZ (a:=#[v,v',v'']) ?_
 rw [AZ (h.run hs),AZ (h'.run hs),AZ (h''.run hs)]
 rfl
theorem Iz {a:Act}(hr:fn.results = #[]):(results fn a.tmps).run P w=.ok (.tuple #[]) w:=by
 simp [results,hr]
theorem T.Mu (h:Fb c=true) (hf:P.funcs[f]? = some fn) (hres:fn.results = #[]) (hR:R (.tuple #[]) w):T P f fn R (.code c::k) e w :=
 T.Ov h (fun _ _=>Iz hres) hf hR
theorem T.G4 (hf:P.funcs[f]? = some fn) (hres:fn.results = #[]) (hR:R (.tuple #[]) w):T P f fn R [] e w :=
 T.VV (fun _ _=>Iz hres) hf hR
theorem T.ZD {r:ResultVar}{v:Value}(h:Fb c=true) (hf:P.funcs[f]? = some fn) (hres:fn.results = #[r]) (h1:CK P w e r v) (hR:R v w):T P f fn R (.code c::k) e w :=
 T.Ov h (fun _ hs=>OC hs hres h1) hf hR
theorem T.lK {r r':ResultVar}{v v':Value}(h:Fb c=true) (hf:P.funcs[f]? = some fn) (hres:fn.results = #[r,r']) (h1:CK P w e r v) (h2:CK P w e r' v') (hR:R (.tuple #[v,v']) w):T P f fn R (.code c::k) e w :=
 T.Ov h (fun _ hs=>OD hs hres h1 h2) hf hR
theorem T.l5 {r r' r'':ResultVar}{v v' v'':Value}(h:Fb c=true) (hf:P.funcs[f]? = some fn) (hres:fn.results = #[r,r',r'']) (h1:CK P w e r v) (h2:CK P w e r' v') (h3:CK P w e r'' v'')
 (hR:R (.tuple #[v,v',v'']) w):T P f fn R (.code c::k) e w :=
 T.Ov h (fun _ hs=>OE hs hres h1 h2 h3) hf hR
def VW (args:List Value):Env:=fun t=>args.getD t undef
theorem VY {args:List Value}{body:Code}(hf:P.funcs[f]? = some fn) (hb:fn.body=some body) (hn:Nat.ble args.length fn.ntmps=true) (H:T P f fn R [.code body] (VW args) w) :
 Calls P f args.toArray w (Af R):=by
 intro cs
 let b:Frame:={ (default:Frame) with fn:=f,kind:=.normal }
 let a:Act:={ tmps:=args.toArray++Array.replicate (fn.ntmps - args.toArray.size) undef,defers:=[] }
 have henter:Frame.enter P f args.toArray .normal=b.at a [.code body]:=by
  simp [Frame.enter,Frame.at,hf,hb,b,a]
 have hle:args.length≤fn.ntmps:=Nat.le_of_ble_eq_true hn
 have hs:Sees fn.ntmps a (VW args):=by
  refine ⟨by simp [a]; omega,rfl,fun t=>?_⟩
  simp only [VW,a,Array.getD_eq_getD_getElem?,List.getD_eq_getElem?_getD,Array.getElem?_append]
  split
  ·simp
  ·rename_i hlt
   have h1:args[t]? = none:=by simp at hlt ⊢; exact hlt
   rw [h1]
   simp [Array.getElem?_replicate]
   split <;> rfl
 obtain ⟨v,w',fr,hR,hst,hfn,hl⟩:=H b a cs rfl rfl hs
 refine ⟨.returned v,w',fr,⟨v,rfl,hR⟩,?_,hfn,hl⟩
 rw [henter]
 exact hst
end
end Go.Proofs.YtcginoabkicdiaaGreat
namespace Go.Proofs.YtcginoabkicdiaaGreat
structure Chg (S:Nat→Prop) (w w':World):Prop where
 os:w'.os=w.os
 tape:w'.tape=w.tape
 output:w'.output=w.output
 size:w.heap.size≤w'.heap.size
 block:∀ k,k< w.heap.size→¬ S k→w'.heap[k]? = w.heap[k]?
def nil (_:Nat):Prop:=False
abbrev Ext (w w':World):Prop:=Chg nil w w'
def one (r k:Nat):Prop:=k=r
theorem Ext.block {w w':World}(h:Ext w w'){k:Nat}(hk:k< w.heap.size):w'.heap[k]? = w.heap[k]? := Chg.block h k hk (fun h=>h)
theorem Ext.refl (w:World):Ext w w:=⟨rfl,rfl,rfl,Nat.le_refl _,fun _ _ _=>rfl⟩
theorem Chg.refl (S:Nat→Prop) (w:World):Chg S w w:=⟨rfl,rfl,rfl,Nat.le_refl _,fun _ _ _=>rfl⟩
theorem Chg.Bj {S S':Nat→Prop}{w w':World}(h:Chg S w w') (hs:∀ k,k< w.heap.size→S k→S' k):Chg S' w w' :=
 ⟨h.os,h.tape,h.output,h.size,fun k hk hn=>h.block k hk (fun hk'=>hn (hs k hk hk'))⟩
theorem Ext.chg {S:Nat→Prop}{w w':World}(h:Ext w w'):Chg S w w':=h.Bj (fun _ _ h=>h.elim)
theorem Chg.trans {S:Nat→Prop}{a b c:World}(h:Chg S a b) (h':Chg S b c):Chg S a c :=
 ⟨h'.os.trans h.os,h'.tape.trans h.tape,h'.output.trans h.output,Nat.le_trans h.size h'.size,fun k hk hn=>(h'.block k (Nat.lt_of_lt_of_le hk h.size) hn).trans (h.block k hk hn)⟩
theorem Ext.trans {a b c:World}(h:Ext a b) (h':Ext b c):Ext a c:=Chg.trans h h'
theorem Ext.step {S:Nat→Prop}{a b c:World}(h:Ext a b) (h':Chg S b c) (hs:∀ k,S k→a.heap.size≤k):Ext a c :=
 ⟨h'.os.trans h.os,h'.tape.trans h.tape,h'.output.trans h.output,Nat.le_trans h.size h'.size,fun k hk _ =>
  (h'.block k (Nat.lt_of_lt_of_le hk h.size) (fun hk'=>by have:=hs k hk'; omega)).trans (h.block hk)⟩
theorem Chg.step {S S':Nat→Prop}{a b c:World}(h:Chg S a b) (h':Chg S' b c) (hs:∀ k,S' k→k< a.heap.size→S k):Chg S a c :=
 ⟨h'.os.trans h.os,h'.tape.trans h.tape,h'.output.trans h.output,Nat.le_trans h.size h'.size,fun k hk hn =>
  (h'.block k (Nat.lt_of_lt_of_le hk h.size) (fun hk'=>hn (hs k hk' hk))).trans (h.block k hk hn)⟩
theorem Ext.alloc (w:World) (o:Obj):Ext w (w.alloc o) :=
 ⟨rfl,rfl,rfl,by show w.heap.size≤(w.heap.push o).size; simp,fun k hk _=>by
  show (w.heap.push o)[k]? = _
  rw [Array.getElem?_push,if_neg AB]⟩
theorem Ext.drew (w:World):Ext w { w with drawn:=w.drawn+1 }:=⟨rfl,rfl,rfl,Nat.le_refl _,fun _ _ _=>rfl⟩
theorem Ext.below {w w':World}(h:Ext w w'):Go.RowKit.Below w.heap.size w w':=⟨h.os,h.tape,h.output,h.size,fun _ hk=>h.block hk⟩
def Cy:Value→Bool
 | .agg _=>false
 | .tuple _=>false
 | _=>true
def Box (w:World) (b:Nat) (t:TypeId) (cs:List Value):Prop:=w.heap[b]? = some (.cells cs.toArray t (0,0))
theorem Box.lt {w:World}{b:Nat}{t:TypeId}{cs:List Value}(h:Box w b t cs):b< w.heap.size:=(Array.getElem?_eq_some_iff.1 h).1
theorem Box.chg {S:Nat→Prop}{w w':World}{b:Nat}{t:TypeId}{cs:List Value}(h:Box w b t cs) (hx:Chg S w w') (hb:¬ S b):Box w' b t cs:=(hx.block b h.lt hb).trans h
theorem Box.ext {w w':World}{b:Nat}{t:TypeId}{cs:List Value}(h:Box w b t cs) (hx:Ext w w'):Box w' b t cs:=h.chg hx (fun h=>h)
theorem Box.new (w:World) (t:TypeId) (cs:List Value):Box (w.alloc (.cells cs.toArray t)) w.heap.size t cs:=by
 show (w.heap.push _)[w.heap.size]? = _
 simp
def Has (w:World) (a:Addr) (cs:List Value):Prop:=∀ i u,cs[i]? = some u→w.cell? (a.add i)=some u
theorem add_lit (b o i:Nat):(⟨b,o,none⟩:Addr).add i=⟨b,o+i,none⟩:=by
 unfold Addr.add; split <;> simp_all
theorem Has.chg {S:Nat→Prop}{w w':World}{a:Addr}{cs:List Value}(h:Has w a cs) (hx:Chg S w w') (hb:¬ S a.block):Has w' a cs:=fun i u hu=>by
 have h1:=h i u hu
 have hbk:(a.add i).block=a.block:=by unfold Addr.add; split <;> rfl
 have hlt:a.block< w.heap.size:=by rw [← hbk]; exact World.block_lt_of_cell? w _ h1
 rw [← h1]
 exact World.cell?_of_block (by rw [hbk]; exact hx.block _ hlt hb)
theorem Has.ext {w w':World}{a:Addr}{cs:List Value}(h:Has w a cs) (hx:Ext w w'):Has w' a cs:=h.chg hx (fun h=>h)
theorem Box.has {w:World}{b:Nat}{t:TypeId}{cs:List Value}(h:Box w b t cs) (o:Nat) (vs:List Value) (hv:(cs.drop o).take vs.length=vs):Has w ⟨b,o,none⟩ vs:=by
 intro i u hu
 have h1:cs[o+i]? = some u:=by
  rw [← hv] at hu
  rw [List.getElem?_take] at hu
  split at hu
  ·rw [List.getElem?_drop] at hu; exact hu
  ·cases hu
 rw [add_lit]
 unfold Box at h
 simp [World.cell?,h,h1]
def Bp (P:Program) (t:TypeId):Bool:=match P.underlying t with | some (.struct _)=>false | some (.array ..)=>false | some _=>true | none=>false
def F3 (P:Program) (t:TypeId) (n:Nat):Bool:=(match P.underlying t with | some (.struct _)=>true | some (.array ..)=>true | _=>false)&&(match P.info? t with | some i=>Nat.beq i.size n | none=>false)
def Da (P:Program) (t:TypeId) (n:Nat):Bool:=match P.info? t with | some i=>Nat.beq i.size n | none=>false
section
variable {P:Program} {w:World}
theorem Dg {t:TypeId}(h:Bp P t=true) (w:World):(isAgg t).run P w=.ok false w:=by
 unfold Bp at h
 unfold isAgg underlying
 split at h
 ·cases h
 ·cases h
 ·rename_i d hn1 hn2 hd
  cases d <;> simp_all [go_sem]
 ·cases h
theorem run_sizeOf {t:TypeId}{n:Nat}(h:Da P t n=true) (w:World):(sizeOf t).run P w=.ok n w:=by
 unfold Da at h
 split at h
 ·rename_i i hi
  have:=Nat.eq_of_beq_eq_true h
  subst this
  simp [sizeOf,typeInfo,hi,go_sem]
 ·cases h
theorem Has.XC {t:TypeId}{a:Addr}{v:Value}{cs:List Value}(h:Has w a cs) (ht:Bp P t=true) (hv:cs[0]? = some v):(loadVar t a).run P w=.ok v w:=by
 have h1:=h 0 v hv
 have h0:a.add 0=a:=by simp [Addr.add]
 rw [h0] at h1
 unfold loadVar
 rw [AZ (Dg ht w)]
 simp [load,Sem.run,h1]
theorem run_loadCellsFrom (a:Addr) (cs:List Value):∀ (i:Nat) (acc:Array Value) (vs:List Value),cs.drop i=vs→Has w a cs→(loadCellsFrom a i vs.length acc).run P w=.ok (acc++vs.toArray) w:=by
 intro i acc vs
 induction vs generalizing i acc with
 | nil=>intro _ _; simp [loadCellsFrom,go_sem]
 | cons v vs ih =>
   intro hd h
   have hv:cs[i]? = some v:=by
    have:(cs.drop i)[0]? = some v:=by rw [hd]; rfl
    simpa [List.getElem?_drop] using this
   have hd':cs.drop (i+1)=vs:=by
    rw [← List.drop_drop,hd]; rfl
   simp only [List.length_cons,loadCellsFrom]
   have hl:(load (a.add i)).run P w=.ok v w:=by simp [load,Sem.run,h i v hv]
   rw [AZ hl,ih (i+1) (acc.push v) hd' h]
   simp
theorem Has.RD {t:TypeId}{a:Addr}{cs:List Value}(h:Has w a cs) (ht:F3 P t cs.length=true):(loadVar t a).run P w=.ok (.agg cs.toArray) w:=by
 simp only [F3,AW] at ht
 unfold loadVar
 have h1:(isAgg t).run P w=.ok true w:=by
  unfold isAgg underlying
  have:=ht.1
  split at this
  ·rename_i d hd; simp [run_program,hd,go_sem]
  ·rename_i d hd; simp [run_program,hd,go_sem]
  ·cases this
 rw [AZ h1]
 simp only [if_true]
 rw [AZ (run_sizeOf (n:=cs.length) ht.2 w)]
 have h2:=run_loadCellsFrom (P:=P) a cs 0 #[] cs AD h
 rw [AZ (show (loadCells a cs.length).run P w=_ from h2)]
 simp [go_sem]
end
def Ay (cs:List Value) (o:Nat) (vs:List Value):List Value:=cs.take o++vs++cs.drop (o+vs.length)
section
variable {P:Program} {w:World}
theorem Box.Xl {b o:Nat}{t:TypeId}{cs:List Value}{v u:Value}(h:Box w b t cs) (ho:cs[o]? = some u) (hv:Cy v=true) :
 (Go.store ⟨b,o,none⟩ v).run P w=.ok () (w.setCell ⟨b,o,none⟩ v):=by
 unfold Box at h
 have hc:w.cell? ⟨b,o,none⟩=some u:=by simp [World.cell?,h,ho]
 have hf:w.frozen? ⟨b,o,none⟩=false:=by simp [World.frozen?,h]
 cases v <;> simp [Cy] at hv <;> simp [Go.store,Sem.run,hc,hf]
theorem Box.setCell {b o:Nat}{t:TypeId}{cs:List Value}{v:Value}(h:Box w b t cs) (ho:o< cs.length) :
 Box (w.setCell ⟨b,o,none⟩ v) b t (cs.set o v)∧Chg (one b) w (w.setCell ⟨b,o,none⟩ v)∧(w.setCell ⟨b,o,none⟩ v).heap.size=w.heap.size:=by
 unfold Box at *
 refine ⟨?_,⟨rfl,rfl,rfl,by simp [World.setCell],fun k hk hn=>?_⟩,by simp [World.setCell]⟩
 ·simp only [World.setCell,Array.getElem?_modify,if_true,h]
  simp
 ·exact Go.RowKit.Below.heap_setCell w _ v k (fun hb=>hn hb)
theorem Box.OF {b:Nat}{t:TypeId}(vs:List Value):∀ {w:World}{cs:List Value}{o i:Nat},Box w b t cs→o+i+vs.length≤cs.length→(∀ v∈vs,Cy v=true) →
 ∃ w',(storeCells ⟨b,o,none⟩ vs i).run P w=.ok () w'∧Box w' b t (Ay cs (o+i) vs)∧Chg (one b) w w'∧w'.heap.size=w.heap.size:=by
 induction vs with
 | nil =>
   intro w cs o i h _ _
   exact ⟨w,by simp [storeCells,go_sem],by simpa [Ay] using h,Chg.refl _ _,rfl⟩
 | cons v vs ih =>
   intro w cs o i h hle h1
   simp only [List.length_cons] at hle
   have hlt:o+i< cs.length:=by omega
   have hs:=h.Xl (P:=P) (o:=o+i) (v:=v) (u:=cs[o+i]) (by simp [hlt]) (h1 v AD)
   obtain ⟨hb',hx,hsz⟩:=h.setCell (o:=o+i) (v:=v) hlt
   obtain ⟨w',hr,hb2,hx2,hsz2⟩:=ih (o:=o) (i:=i+1) hb' (by simp; omega) (fun u hu=>h1 u (by simp [hu]))
   refine ⟨w',?_,?_,hx.trans hx2,by rw [hsz2,hsz]⟩
   ·simp only [storeCells,add_lit]
    rw [AZ hs]
    exact hr
   ·have:Ay (cs.set (o+i) v) (o+(i+1)) vs=Ay cs (o+i) (v::vs):=by
     unfold Ay
     rw [show o+(i+1)=o+i+1 by omega,List.drop_set]
     rw [if_pos AB]
     rw [List.take_set,List.take_succ_eq_append_getElem AB]
     simp only [List.length_cons]
     rw [show o+i+1+vs.length=o+i+(vs.length+1) by omega]
     rw [List.set_append]
     have hm:min (o+i) cs.length=o+i:=by omega
     simp [hm]
    rw [this] at hb2
    exact hb2
theorem Box.store {b o:Nat}{t t':TypeId}{cs:List Value}{v:Value}(h:Box w b t cs) (hsz:Da P t' v.cells.size=true) (hle:o+v.cells.size≤cs.length)
 (h1:v.cells.toList.all Cy=true) :
 ∃ w',(storeVar t' ⟨b,o,none⟩ v).run P w=.ok () w'∧Box w' b t (Ay cs o v.cells.toList)∧Chg (one b) w w'∧w'.heap.size=w.heap.size:=by
 obtain ⟨w',hr,hb,hx,hs⟩:=h.OF (P:=P) v.cells.toList (o:=o) (i:=0) (by simpa using hle) (fun u hu=>List.all_eq_true.1 h1 u hu)
 refine ⟨w',?_,hb,hx,hs⟩
 unfold storeVar
 rw [AZ (run_sizeOf hsz w)]
 simp only [ne_eq,not_true_eq_false,if_false]
 exact hr
end
section
variable {P:Program} {n:Nat} {K:Env→World→Prop} {ops:Array Oper} {j:Nat} {e:Env} {w:World}
def Bl (P:Program) (n:Nat) (ops:Array Oper) (j:Nat) (e:Env) (b:Nat):Option (Value × TypeId × List Value) :=
 match newAt P n ops j e b with
 | some (v,.cells cs t (0,0))=>some (v,t,cs.toList)
 | _=>none
theorem RG.new {v:Nat→Value}{t:TypeId}{cs:List Value}(h:∀ b,Bl P n ops j e b=some (v b,t,cs))
 (H:∀ b w',b=w.heap.size→Ext w w'→Box w' b t cs→w'.heap.size=b+1→RG P n K ops (j+1) (Ag e (Ad ops j).dst (v b)) w'):RG P n K ops j e w:=by
 have h1:=h w.heap.size
 unfold Bl at h1
 split at h1
 ·rename_i v' cs' t' hn
  simp only [Option.some.injEq,Prod.mk.injEq] at h1
  obtain ⟨rfl,rfl,rfl⟩:=h1
  refine RG.VU hn (H _ _ rfl (Ext.alloc _ _) ?_ (by show (w.heap.push _).size=_; simp))
  have:=Box.new w t' cs'.toList
  simpa using this
 ·cases h1
theorem RG.KY {t t':TypeId}{b o:Nat}{cs:List Value}{v:Value}(hb:Box w b t cs) (h:loadAt n ops j e=some (t',⟨b,o,none⟩)) (hs:Bp P t'=true) (hv:cs[o]? = some v)
 (H:RG P n K ops (j+1) (Ag e (Ad ops j).dst v) w):RG P n K ops j e w :=
 RG.load h ((hb.has o [v] (by
  have:(cs.drop o)[0]? = some v:=by simpa [List.getElem?_drop] using hv
  cases hd:cs.drop o with
  | nil=>rw [hd] at this; cases this
  | cons x r=>rw [hd] at this; simp at this; subst this; simp)).XC hs rfl) H
theorem RG.QL {t t':TypeId}{b o:Nat}{cs:List Value}(vs:List Value) (hb:Box w b t cs) (h:loadAt n ops j e=some (t',⟨b,o,none⟩)) (hs:F3 P t' vs.length=true) (hv:(cs.drop o).take vs.length=vs)
 (H:RG P n K ops (j+1) (Ag e (Ad ops j).dst (.agg vs.toArray)) w):RG P n K ops j e w :=
 RG.load h ((hb.has o vs hv).RD hs) H
theorem RG.LY {t t':TypeId}{b o:Nat}{cs:List Value}{v:Value}(cs':List Value) (hb:Box w b t cs) (h:storeAt n ops j e=some (t',⟨b,o,none⟩,v))
 (hs:(Da P t' v.cells.size&&Nat.ble (o+v.cells.size) cs.length&&v.cells.toList.all Cy)=true) (hc:Ay cs o v.cells.toList=cs')
 (H:∀ w',Chg (one b) w w'→Box w' b t cs'→w'.heap.size=w.heap.size→RG P n K ops (j+1) (Ag e (Ad ops j).dst undef) w'):RG P n K ops j e w:=by
 simp only [AW] at hs
 obtain ⟨w',hr,hb',hx,hsz⟩:=hb.store (P:=P) (t':=t') (o:=o) (v:=v) hs.1.1 (Nat.le_of_ble_eq_true hs.1.2) hs.2
 rw [hc] at hb'
 exact RG.store h hr (H w' hx hb' hsz)
end
def I0 (P:Program) (n:Nat) (ops:Array Oper) (j:Nat) (e:Env):Option (Option Addr × Nat × Int × Nat) :=
 bif CC n ops j e then
  match (Ad ops j).op with
  | .indexAddr t x ix => match P.underlying t, ev e x, ev e ix with
    | some (.slice el), .slice a len _, .int _ i => match P.info? el with
      | some inf=>some (a,len,i,inf.size)
      | none=>none
    | _,_,_=>none
  | _=>none
 else none
section
variable {P:Program} {n:Nat} {K:Env→World→Prop} {ops:Array Oper} {j:Nat} {e:Env} {w:World}
theorem OG {a:Option Addr}{len:Nat}{i:Int}{sz b o i':Nat}(h:I0 P n ops j e=some (a,len,i,sz)) (hi:i=(i':Int)) (hlt:i'< len) (ha:a=some ⟨b,o,none⟩) (w:World) :
 CC n ops j e=true∧(execOp (ev e) (Ad ops j)).run P w=.ok (.value (.pointer (some ⟨b,o+i' * sz,none⟩))) w:=by
 obtain ⟨hg,h⟩:=CG h
 refine ⟨hg,?_⟩
 split at h
 ·rename_i t x ix hop
  split at h
  ·rename_i el a' len' c' k i0 hu hx hix
   split at h
   ·rename_i inf hinf
    simp only [Option.some.injEq,Prod.mk.injEq] at h
    obtain ⟨rfl,rfl,rfl,rfl⟩:=h
    subst ha hi
    simp only [execOp,hop,hx,hix]
    refine AZ (a:=Value.pointer (some ⟨b,o+i' * inf.size,none⟩)) ?_
    unfold Instr.indexAt
    have h1:(0:Int)≤(i':Int)∧(i':Int)< (len':Int):=by omega
    have hs:(sizeOf el).run P w=.ok inf.size w:=by simp [sizeOf,typeInfo,hinf,go_sem]
    have hun:(underlying t).run P w=.ok (.slice el) w:=by simp [underlying,hu,go_sem]
    rw [AZ (a:=(k,(i':Int))) (w':=w) AF]
    simp only []
    rw [AZ hun]
    simp only [pure_bind]
    rw [AZ hun]
    simp only [h1,and_self,if_true]
    rw [AZ hs]
    rw [add_lit]
    simp [go_sem]
   ·cases h
  ·cases h
 ·cases h
theorem RG.idx {a:Option Addr}{len:Nat}{i:Int}{sz b o:Nat}(i':Nat) (h:I0 P n ops j e=some (a,len,i,sz)) (hi:i=(i':Int)) (hlt:i'< len) (ha:a=some ⟨b,o,none⟩)
 (H:RG P n K ops (j+1) (Ag e (Ad ops j).dst (.pointer (some ⟨b,o+i' * sz,none⟩))) w):RG P n K ops j e w :=
 have h1:=OG h hi hlt ha w
 RG.val h1.1 h1.2 H
theorem Has.loadAt {t':TypeId}{b o:Nat}{cs:List Value}(k:Nat){v:Value}(hc:Has w ⟨b,o,none⟩ cs) (hs:Bp P t'=true) (hv:cs[k]? = some v):(loadVar t' ⟨b,o+k,none⟩).run P w=.ok v w:=by
 have h1:=hc k v hv
 rw [add_lit] at h1
 unfold loadVar
 rw [AZ (Dg hs w)]
 simp [Go.load,Sem.run,h1]
theorem Has.sub {b o:Nat}{cs:List Value}(k:Nat) (vs:List Value) (hc:Has w ⟨b,o,none⟩ cs) (hv:(cs.drop k).take vs.length=vs):Has w ⟨b,o+k,none⟩ vs:=by
 intro i u hu
 have h1:cs[k+i]? = some u:=by
  rw [← hv] at hu
  rw [List.getElem?_take] at hu
  split at hu
  ·rw [List.getElem?_drop] at hu; exact hu
  ·cases hu
 have h2:=hc (k+i) u h1
 rw [add_lit] at h2 ⊢
 rw [show o+k+i=o+(k+i) by omega]
 exact h2
theorem Has.OH {t':TypeId}{b o:Nat}{cs:List Value}(k:Nat) (vs:List Value) (hc:Has w ⟨b,o,none⟩ cs) (hs:F3 P t' vs.length=true) (hv:(cs.drop k).take vs.length=vs) :
 (loadVar t' ⟨b,o+k,none⟩).run P w=.ok (.agg vs.toArray) w:=(hc.sub k vs hv).RD hs
theorem RG.TC {t':TypeId}{b o:Nat}{cs:List Value}(k:Nat){v:Value}(hc:Has w ⟨b,o,none⟩ cs) (h:loadAt n ops j e=some (t',⟨b,o+k,none⟩)) (hs:Bp P t'=true) (hv:cs[k]? = some v)
 (H:RG P n K ops (j+1) (Ag e (Ad ops j).dst v) w):RG P n K ops j e w :=
 RG.load h (hc.loadAt k hs hv) H
theorem RG.OI {t':TypeId}{b o:Nat}{cs:List Value}(k:Nat) (vs:List Value) (hc:Has w ⟨b,o,none⟩ cs) (h:loadAt n ops j e=some (t',⟨b,o+k,none⟩)) (hs:F3 P t' vs.length=true) (hv:(cs.drop k).take vs.length=vs)
 (H:RG P n K ops (j+1) (Ag e (Ad ops j).dst (.agg vs.toArray)) w):RG P n K ops j e w :=
 RG.load h (hc.OH k vs hs hv) H
theorem RG.eqI {a b:Int}(h:Iy P n ops j e=some (.bool (a==b))) (ht:a=b→RG P n K ops (j+1) (Ag e (Ad ops j).dst (.bool true)) w)
 (hf:a≠b→RG P n K ops (j+1) (Ag e (Ad ops j).dst (.bool false)) w):RG P n K ops j e w :=
 RG.bool _ h (fun hb=>ht (by simpa using hb)) (fun hb=>hf (by simpa using hb))
theorem RG.neI {a b:Int}(h:Iy P n ops j e=some (.bool (a != b))) (ht:a≠b→RG P n K ops (j+1) (Ag e (Ad ops j).dst (.bool true)) w)
 (hf:a=b→RG P n K ops (j+1) (Ag e (Ad ops j).dst (.bool false)) w):RG P n K ops j e w :=
 RG.bool _ h (fun hb=>ht (by simpa using hb)) (fun hb=>hf (by simpa using hb))
end
class Rep (α:Type) where
 sz:Nat
 rep:World→(Nat→Prop)→α→List Value→Prop
 len:∀ {w F x cs},rep w F x cs→cs.length=sz
 pos:0< sz
 flat:∀ {w F x cs},rep w F x cs→∀ v∈cs,Cy v=true
 frame:∀ {w w':World} {F F':Nat→Prop} {x cs},rep w F x cs→(∀ b,b< w.heap.size→F b→F' b∧w'.heap[b]? = w.heap[b]?)→rep w' F' x cs
def blk:Option Addr→Nat | some a=>a.block | none=>0
def off:Option Addr→Nat | some a=>a.off | none=>0
section
variable {α:Type} [Rep α]
structure RepS (w:World) (F:Nat→Prop) (a:Option Addr) (n c:Nat) (xs:List α):Prop where
 len:n=xs.length
 le:n≤c
 cap:c≤maxLen
 addr:0< n→a=some ⟨blk a,off a,none⟩
 inF:0< n→F (blk a)
 elem:∀ i x,xs[i]? = some x→∃ cs,Rep.rep w F x cs∧Has w ⟨blk a,off a+i * Rep.sz α,none⟩ cs
theorem RepS.frame {w w':World}{F F':Nat→Prop}{a:Option Addr}{n c:Nat}{xs:List α}(h:RepS w F a n c xs) (hf:∀ b,b< w.heap.size→F b→F' b∧w'.heap[b]? = w.heap[b]?):RepS w' F' a n c xs:=by
 have hblk:0< n→blk a< w.heap.size:=fun hn=>by
  have hx:0< xs.length:=by have:=h.len; omega
  obtain ⟨cs,hr,hc⟩:=h.elem 0 xs[0] (by simp [hx])
  have hl:=Rep.len hr
  have hp:=Rep.pos (α:=α)
  have h0:=hc 0 cs[0] AD
  rw [add_lit] at h0
  exact World.block_lt_of_cell? w _ h0
 refine ⟨h.len,h.le,h.cap,h.addr,fun hn=>(hf _ (hblk hn) (h.inF hn)).1,fun i x hx=>?_⟩
 have hn:0< n:=by
  have:=(List.getElem?_eq_some_iff.1 hx).1
  have:=h.len
  omega
 obtain ⟨cs,hr,hc⟩:=h.elem i x hx
 refine ⟨cs,Rep.frame hr hf,fun k u hu=>?_⟩
 have h1:=hc k u hu
 rw [← h1,add_lit]
 exact World.cell?_of_block (hf _ (hblk hn) (h.inF hn)).2
variable {w:World} {F:Nat→Prop}
theorem RepS.max {a:Option Addr}{n c:Nat}{xs:List α}(h:RepS w F a n c xs):n≤9223372036854775807:=by
 have h1:=h.le
 have h2:=h.cap
 unfold maxLen at h2
 omega
theorem RepS.chg {S F:Nat→Prop}{w w':World}{a:Option Addr}{n c:Nat}{xs:List α}(h:RepS w F a n c xs) (hx:Chg S w w') (hs:∀ b,F b→¬ S b):RepS w' F a n c xs :=
 h.frame fun b hb hF=>⟨hF,hx.block b hb (hs b hF)⟩
theorem RepS.ext {F:Nat→Prop}{w w':World}{a:Option Addr}{n c:Nat}{xs:List α}(h:RepS w F a n c xs) (hx:Ext w w'):RepS w' F a n c xs :=
 h.chg hx fun _ _ h=>h
theorem RepS.Bj {F F':Nat→Prop}{w:World}{a:Option Addr}{n c:Nat}{xs:List α}(h:RepS w F a n c xs) (hf:∀ b,b< w.heap.size→F b→F' b):RepS w F' a n c xs :=
 h.frame fun b hb hF=>⟨hf b hb hF,rfl⟩
def lo (s b:Nat):Prop:=b< s
theorem RepS.Bv (w:World) (F:Nat→Prop) (a:Option Addr) (c:Nat) (hc:c≤maxLen):RepS w F a 0 c ([]:List α) :=
 ⟨rfl,Nat.zero_le _,hc,fun h=>absurd h AB,fun h=>absurd h AB,fun i x hx=>by simp at hx⟩
instance:Rep (List α) where
 sz:=1
 rep w F xs cs:=∃ a n c,cs=[.slice a n c]∧RepS w F a n c xs
 len:=by rintro w F x cs ⟨a,n,c,rfl,_⟩; rfl
 pos:=by decide
 flat:=by rintro w F x cs ⟨a,n,c,rfl,_⟩ v hv; simp at hv; subst hv; rfl
 frame:=by rintro w w' F F' x cs ⟨a,n,c,rfl,h⟩ hf; exact ⟨a,n,c,rfl,h.frame hf⟩
end
instance:Rep Int where
 sz:=1
 rep _ _ x cs:=cs=[.int .i64 x]
 len:=by rintro w F x cs rfl; rfl
 pos:=by decide
 flat:=by rintro w F x cs rfl v hv; simp at hv; subst hv; rfl
 frame:=by rintro w w' F F' x cs rfl _; rfl
instance:Rep UInt8 where
 sz:=1
 rep _ _ x cs:=cs=[.int .u8 x.toNat]
 len:=by rintro w F x cs rfl; rfl
 pos:=by decide
 flat:=by rintro w F x cs rfl v hv; simp at hv; subst hv; rfl
 frame:=by rintro w w' F F' x cs rfl _; rfl
def VL {α:Type}[Rep α] (F:Nat→Prop) (w:World) (y:List α) (v:Value):Prop:=∃ a c,v=.slice a y.length c∧RepS w F a y.length c y
def VS {α:Type}[Rep α] (F:Nat→Prop) (w:World) (y:α) (v:Value):Prop:=∃ cs,v=.agg cs.toArray∧Rep.rep w F y cs
theorem RepS.vl {α:Type}[Rep α] {F F':Nat→Prop}{w:World}{a:Option Addr}{n c:Nat}{xs y:List α}(h:RepS w F a n c xs) (hy:xs=y) (hf:∀ b,b< w.heap.size→F b→F' b):VL F' w y (.slice a n c):=by
 subst hy
 have hl:=h.len
 subst hl
 exact ⟨a,c,rfl,h.Bj hf⟩
abbrev Str:=List UInt8
def bs (s:Str):ByteArray:=⟨s.toArray⟩
end Go.Proofs.YtcginoabkicdiaaGreat
namespace Go.Proofs.YtcginoabkicdiaaGreat
structure Row where
 t:Int
 v:Int
 deriving DecidableEq,Inhabited
structure Tag where
 key:Str
 val:Str
 deriving DecidableEq,Inhabited
structure Cnd where
 tag:Tag
 no:Bool
 deriving DecidableEq,Inhabited
structure Pst where
 tag:Tag
 ids:List Int
 deriving DecidableEq,Inhabited
structure Idx where
 names:List (List Tag)
 AX:List Pst
 deriving DecidableEq,Inhabited
structure Prt where
 ids:List Int
 blocks:List (List Row)
 deriving DecidableEq,Inhabited
structure Smp where
 id:Int
 row:Row
 deriving DecidableEq,Inhabited
structure Sto where
 idx:Idx
 parts:List Prt
 mem:List Smp
 deriving DecidableEq,Inhabited
structure Fil where
 num:Int
 part:Prt
 deriving DecidableEq,Inhabited
structure Dsk where
 files:List Fil
 list:List Int
 names:List (List Tag)
 next:Int
 deriving DecidableEq,Inhabited
structure Stp where
 kind:Int
 num:Int
 part:Prt
 list:List Int
 names:List (List Tag)
 deriving DecidableEq,Inhabited
structure Wld where
 store:Sto
 disk:Dsk
 deriving DecidableEq,Inhabited
structure Evt where
 kind:Int
 at_:Int
 cut:Int
 name:List Tag
 row:Row
 deriving DecidableEq,Inhabited
instance:Rep Row where
 sz:=2
 rep _ _ x cs:=cs=[.int .i64 x.t,.int .i64 x.v]
 len:=by rintro w F x cs rfl; rfl
 pos:=by decide
 flat:=by rintro w F x cs rfl v hv; simp at hv; rcases hv with rfl | rfl <;> rfl
 frame:=by rintro w w' F F' x cs rfl _; rfl
instance:Rep Tag where
 sz:=2
 rep _ _ x cs:=cs=[.string (bs x.key),.string (bs x.val)]
 len:=by rintro w F x cs rfl; rfl
 pos:=by decide
 flat:=by rintro w F x cs rfl v hv; simp at hv; rcases hv with rfl | rfl <;> rfl
 frame:=by rintro w w' F F' x cs rfl _; rfl
instance:Rep Cnd where
 sz:=3
 rep _ _ x cs:=cs=[.string (bs x.tag.key),.string (bs x.tag.val),.bool x.no]
 len:=by rintro w F x cs rfl; rfl
 pos:=by decide
 flat:=by rintro w F x cs rfl v hv; simp at hv; rcases hv with rfl | rfl | rfl <;> rfl
 frame:=by rintro w w' F F' x cs rfl _; rfl
instance:Rep Smp where
 sz:=3
 rep _ _ x cs:=cs=[.int .i64 x.id,.int .i64 x.row.t,.int .i64 x.row.v]
 len:=by rintro w F x cs rfl; rfl
 pos:=by decide
 flat:=by rintro w F x cs rfl v hv; simp at hv; rcases hv with rfl | rfl | rfl <;> rfl
 frame:=by rintro w w' F F' x cs rfl _; rfl
instance:Rep Pst where
 sz:=3
 rep w F x cs:=∃ a n c,cs=[.string (bs x.tag.key),.string (bs x.tag.val),.slice a n c]∧RepS w F a n c x.ids
 len:=by rintro w F x cs ⟨a,n,c,rfl,_⟩; rfl
 pos:=by decide
 flat:=by rintro w F x cs ⟨a,n,c,rfl,_⟩ v hv; simp at hv; rcases hv with rfl | rfl | rfl <;> rfl
 frame:=by rintro w w' F F' x cs ⟨a,n,c,rfl,h⟩ hf; exact ⟨a,n,c,rfl,h.frame hf⟩
instance:Rep Prt where
 sz:=2
 rep w F x cs:=∃ a n c a' n' c',cs=[.slice a n c,.slice a' n' c']∧RepS w F a n c x.ids∧RepS w F a' n' c' x.blocks
 len:=by rintro w F x cs ⟨a,n,c,a',n',c',rfl,_⟩; rfl
 pos:=by decide
 flat:=by rintro w F x cs ⟨a,n,c,a',n',c',rfl,_⟩ v hv; simp at hv; rcases hv with rfl | rfl <;> rfl
 frame:=by rintro w w' F F' x cs ⟨a,n,c,a',n',c',rfl,h,h'⟩ hf; exact ⟨a,n,c,a',n',c',rfl,h.frame hf,h'.frame hf⟩
instance:Rep Fil where
 sz:=3
 rep w F x cs:=∃ a n c a' n' c',cs=[.int .i64 x.num,.slice a n c,.slice a' n' c']∧RepS w F a n c x.part.ids∧RepS w F a' n' c' x.part.blocks
 len:=by rintro w F x cs ⟨a,n,c,a',n',c',rfl,_⟩; rfl
 pos:=by decide
 flat:=by rintro w F x cs ⟨a,n,c,a',n',c',rfl,_⟩ v hv; simp at hv; rcases hv with rfl | rfl | rfl <;> rfl
 frame:=by rintro w w' F F' x cs ⟨a,n,c,a',n',c',rfl,h,h'⟩ hf; exact ⟨a,n,c,a',n',c',rfl,h.frame hf,h'.frame hf⟩
instance:Rep Stp where
 sz:=6
 rep w F x cs:=∃ a n c a' n' c' a2 n2 c2 a3 n3 c3,cs=[.int .i64 x.kind,.int .i64 x.num,.slice a n c,.slice a' n' c',.slice a2 n2 c2,.slice a3 n3 c3] ∧
  RepS w F a n c x.part.ids∧RepS w F a' n' c' x.part.blocks∧RepS w F a2 n2 c2 x.list∧RepS w F a3 n3 c3 x.names
 len:=by rintro w F x cs ⟨a,n,c,a',n',c',a2,n2,c2,a3,n3,c3,rfl,_⟩; rfl
 pos:=by decide
 flat:=by rintro w F x cs ⟨a,n,c,a',n',c',a2,n2,c2,a3,n3,c3,rfl,_⟩ v hv; simp at hv; rcases hv with rfl | rfl | rfl | rfl | rfl | rfl <;> rfl
 frame:=by
  rintro w w' F F' x cs ⟨a,n,c,a',n',c',a2,n2,c2,a3,n3,c3,rfl,h,h',h2,h3⟩ hf
  exact ⟨a,n,c,a',n',c',a2,n2,c2,a3,n3,c3,rfl,h.frame hf,h'.frame hf,h2.frame hf,h3.frame hf⟩
instance:Rep Evt where
 sz:=6
 rep w F x cs:=∃ a n c,cs=[.int .i64 x.kind,.int .i64 x.at_,.int .i64 x.cut,.slice a n c,.int .i64 x.row.t,.int .i64 x.row.v]∧RepS w F a n c x.name
 len:=by rintro w F x cs ⟨a,n,c,rfl,_⟩; rfl
 pos:=by decide
 flat:=by rintro w F x cs ⟨a,n,c,rfl,_⟩ v hv; simp at hv; rcases hv with rfl | rfl | rfl | rfl | rfl | rfl <;> rfl
 frame:=by rintro w w' F F' x cs ⟨a,n,c,rfl,h⟩ hf; exact ⟨a,n,c,rfl,h.frame hf⟩
instance:Rep Idx where
 sz:=2
 rep w F x cs:=∃ a0 n0 c0 a1 n1 c1,cs=[.slice a0 n0 c0,.slice a1 n1 c1]∧RepS w F a0 n0 c0 x.names∧RepS w F a1 n1 c1 x.AX
 len:=by rintro w F x cs ⟨a0,n0,c0,a1,n1,c1,rfl,_⟩; rfl
 pos:=by decide
 flat:=by rintro w F x cs ⟨a0,n0,c0,a1,n1,c1,rfl,_⟩ v hv; simp at hv; rcases hv with rfl | rfl <;> rfl
 frame:=by rintro w w' F F' x cs ⟨a0,n0,c0,a1,n1,c1,rfl,h0,h1⟩ hf; exact ⟨a0,n0,c0,a1,n1,c1,rfl,h0.frame hf,h1.frame hf⟩
instance:Rep Sto where
 sz:=4
 rep w F x cs:=∃ a0 n0 c0 a1 n1 c1 a2 n2 c2 a3 n3 c3,cs=[.slice a0 n0 c0,.slice a1 n1 c1,.slice a2 n2 c2,.slice a3 n3 c3]∧RepS w F a0 n0 c0 x.idx.names∧RepS w F a1 n1 c1 x.idx.AX∧RepS w F a2 n2 c2 x.parts∧RepS w F a3 n3 c3 x.mem
 len:=by rintro w F x cs ⟨a0,n0,c0,a1,n1,c1,a2,n2,c2,a3,n3,c3,rfl,_⟩; rfl
 pos:=by decide
 flat:=by rintro w F x cs ⟨a0,n0,c0,a1,n1,c1,a2,n2,c2,a3,n3,c3,rfl,_⟩ v hv; simp at hv; rcases hv with rfl | rfl | rfl | rfl <;> rfl
 frame:=by rintro w w' F F' x cs ⟨a0,n0,c0,a1,n1,c1,a2,n2,c2,a3,n3,c3,rfl,h0,h1,h2,h3⟩ hf; exact ⟨a0,n0,c0,a1,n1,c1,a2,n2,c2,a3,n3,c3,rfl,h0.frame hf,h1.frame hf,h2.frame hf,h3.frame hf⟩
instance:Rep Dsk where
 sz:=4
 rep w F x cs:=∃ a0 n0 c0 a1 n1 c1 a2 n2 c2,cs=[.slice a0 n0 c0,.slice a1 n1 c1,.slice a2 n2 c2,.int .i64 x.next]∧RepS w F a0 n0 c0 x.files∧RepS w F a1 n1 c1 x.list∧RepS w F a2 n2 c2 x.names
 len:=by rintro w F x cs ⟨a0,n0,c0,a1,n1,c1,a2,n2,c2,rfl,_⟩; rfl
 pos:=by decide
 flat:=by rintro w F x cs ⟨a0,n0,c0,a1,n1,c1,a2,n2,c2,rfl,_⟩ v hv; simp at hv; rcases hv with rfl | rfl | rfl | rfl <;> rfl
 frame:=by rintro w w' F F' x cs ⟨a0,n0,c0,a1,n1,c1,a2,n2,c2,rfl,h0,h1,h2⟩ hf; exact ⟨a0,n0,c0,a1,n1,c1,a2,n2,c2,rfl,h0.frame hf,h1.frame hf,h2.frame hf⟩
instance:Rep Wld where
 sz:=8
 rep w F x cs:=∃ a0 n0 c0 a1 n1 c1 a2 n2 c2 a3 n3 c3 a4 n4 c4 a5 n5 c5 a6 n6 c6,cs=[.slice a0 n0 c0,.slice a1 n1 c1,.slice a2 n2 c2,.slice a3 n3 c3,.slice a4 n4 c4,.slice a5 n5 c5,.slice a6 n6 c6,.int .i64 x.disk.next]∧RepS w F a0 n0 c0 x.store.idx.names∧RepS w F a1 n1 c1 x.store.idx.AX∧RepS w F a2 n2 c2 x.store.parts∧RepS w F a3 n3 c3 x.store.mem∧RepS w F a4 n4 c4 x.disk.files∧RepS w F a5 n5 c5 x.disk.list∧RepS w F a6 n6 c6 x.disk.names
 len:=by rintro w F x cs ⟨a0,n0,c0,a1,n1,c1,a2,n2,c2,a3,n3,c3,a4,n4,c4,a5,n5,c5,a6,n6,c6,rfl,_⟩; rfl
 pos:=by decide
 flat:=by rintro w F x cs ⟨a0,n0,c0,a1,n1,c1,a2,n2,c2,a3,n3,c3,a4,n4,c4,a5,n5,c5,a6,n6,c6,rfl,_⟩ v hv; simp at hv; rcases hv with rfl | rfl | rfl | rfl | rfl | rfl | rfl | rfl <;> rfl
 frame:=by rintro w w' F F' x cs ⟨a0,n0,c0,a1,n1,c1,a2,n2,c2,a3,n3,c3,a4,n4,c4,a5,n5,c5,a6,n6,c6,rfl,h0,h1,h2,h3,h4,h5,h6⟩ hf; exact ⟨a0,n0,c0,a1,n1,c1,a2,n2,c2,a3,n3,c3,a4,n4,c4,a5,n5,c5,a6,n6,c6,rfl,h0.frame hf,h1.frame hf,h2.frame hf,h3.frame hf,h4.frame hf,h5.frame hf,h6.frame hf⟩
end Go.Proofs.YtcginoabkicdiaaGreat
namespace Go.Proofs.YtcginoabkicdiaaGreat
section
variable {P:Program} {S:Nat→Prop} {ops:Array Oper}
def Gk (P:Program) (S:Nat→Prop) (r:Result Next) (w:World) (K:Value→World→Prop):Prop :=
 match r with
 | .ok (.value v) w'=>Chg S w w'∧K v w'
 | .ok .skip w'=>Chg S w w'∧K undef w'
 | .ok (.enter f args) w'=>Chg S w w'∧Calls P f args w' (fun x w''=>∃ v,x=.returned v∧Chg S w' w''∧K v w'')
 | _=>False
theorem Ea {r:Result Next}{w:World}{K K':Value→World→Prop}(h:∀ v w',Chg S w w'→K v w'→K' v w') (hh:Gk P S r w K):Gk P S r w K':=by
 unfold Gk at *
 cases r with
 | ok nx w' =>
   cases nx <;> simp only [] at hh ⊢
   case value v=>exact ⟨hh.1,h _ _ hh.1 hh.2⟩
   case skip=>exact ⟨hh.1,h _ _ hh.1 hh.2⟩
   case enter f args=>exact ⟨hh.1,hh.2.mono fun x w'' ⟨v,hx,he,hk⟩=>⟨v,hx,he,h _ _ (hh.1.trans he) hk⟩⟩
 | halt x w'=>exact hh
def gOp (P:Program) (S:Nat→Prop) (ops:Array Oper) (i:Nat) (K:Act→World→Prop) (a:Act) (w:World):Prop :=
 match ops[i]? with
 | none=>K a w
 | some o=>if Region.wanted o (yielded ops a.tmps) then Gk P S ((execOp a.eval o).run P w) w (fun v w'=>K (a.put o.dst v) w') else K (a.put o.dst undef) w
theorem Ow {i:Nat}{a:Act}{w:World}{K K':Act→World→Prop}(h:∀ a' w',Chg S w w'→K a' w'→K' a' w') (hh:gOp P S ops i K a w):gOp P S ops i K' a w:=by
 unfold gOp at *
 split
 ·rename_i ho; simp only [ho] at hh; exact h _ _ (Chg.refl S _) hh
 ·rename_i o ho
  simp only [ho] at hh
  split
  ·rename_i hw; simp only [hw,if_true] at hh; exact Ea (fun v w' hx hk=>h _ _ hx hk) hh
  ·rename_i hw; simp only [hw] at hh; exact h _ _ (Chg.refl S _) hh
theorem SC {r:Result Next}{w:World}{K:Value→World→Prop}(hh:Gk P nil r w K):Gk P S r w K:=by
 unfold Gk at *
 cases r with
 | ok nx w' =>
   cases nx <;> simp only [] at hh ⊢
   case value v=>exact ⟨Ext.chg hh.1,hh.2⟩
   case skip=>exact ⟨Ext.chg hh.1,hh.2⟩
   case enter f args=>exact ⟨Ext.chg hh.1,hh.2.mono fun x w'' ⟨v,hx,he,hk⟩=>⟨v,hx,Ext.chg he,hk⟩⟩
 | halt x w'=>exact hh
def Kk (P:Program) (S:Nat→Prop) (ops:Array Oper) (m:Nat) (L:Array Bool→Act→World→Prop):Nat→Array Bool→Act→World→Prop
 | 0,listed,a,w=>∀ w1,Ext w w1→L listed a w1
 | f + 1, listed, a, w =>
   Region.ready .any ops listed≠[]∧∀ w1,Ext w w1→∀ i∈Region.ready .any ops listed,i< m∧gOp P S ops i (Kk P S ops m L f (listed.setIfInBounds i true)) a w1
theorem Ox {m f:Nat}{L:Array Bool→Act→World→Prop}{listed:Array Bool}{a:Act}{w w1:World}(hx:Ext w w1) (h:Kk P S ops m L f listed a w):Kk P S ops m L f listed a w1:=by
 cases f with
 | zero=>exact fun w2 h2=>h w2 (hx.trans h2)
 | succ f=>exact ⟨h.1,fun w2 h2=>h.2 w2 (hx.trans h2)⟩
def DC (P:Program) (S:Nat→Prop) (ops:Array Oper) (w:World) (o:Oper) (v:Value) (a:Act):Prop :=
 (Region.wanted o (yielded ops a.tmps)=true∧∀ w1,Chg S w w1→Gk P nil ((execOp a.eval o).run P w1) w1 (fun u _=>u=v)) ∨
 (Region.wanted o (yielded ops a.tmps)=false∧v=undef)
theorem DC.ext {w w1:World}{o:Oper}{v:Value}{a:Act}(hx:Chg S w w1) (h:DC P S ops w o v a):DC P S ops w1 o v a :=
 h.imp (fun h=>⟨h.1,fun w2 h2=>h.2 w2 (hx.trans h2)⟩) id
theorem DC.of_same {w:World}{o:Oper}{v:Value}{a a':Act}(hy:DC P S ops w o v a) (he:execOp a'.eval o=execOp a.eval o)
 (hw:Region.wanted o (yielded ops a'.tmps)=Region.wanted o (yielded ops a.tmps)):DC P S ops w o v a':=by
 unfold DC at *
 rw [he,hw]
 exact hy
theorem DC.op {i:Nat}{o:Oper}{v:Value}{a:Act}{w:World}(hi:ops[i]? = some o) (hy:DC P S ops w o v a){K:Act→World→Prop}
 (h:∀ w',Ext w w'→K (a.put o.dst v) w'):gOp P S ops i K a w:=by
 unfold gOp
 simp only [hi]
 rcases hy with ⟨hw,hv⟩ | ⟨hw,rfl⟩
 ·simp only [hw,if_true]; exact SC (Ea (fun u w' hx ha=>by rw [ha]; exact h w' hx) (hv w (Chg.refl S _)))
 ·simp only [hw,Bool.false_eq_true,if_false]; exact h w (Ext.refl _)
theorem VZ {j:Nat}{oi oj:Oper}{v:Value}{w:World}(hj:ops[j]? = some oj) (hap:oi.apart ops oj=true)
 (hsi:∀ cs b,oi.op≠.select cs b) (hsj:∀ cs b,oj.op≠.select cs b) {K:Act→World→Prop} {a:Act}
 (hy:DC P S ops w oi v a) (h:gOp P S ops j K (a.put oi.dst v) w) :
 gOp P S ops j (fun a' w'=>DC P S ops w' oi v a'∧K (a'.put oi.dst v) w') a w:=by
 obtain ⟨h1,h2,h3⟩:=Oper.apart_spec hap
 have keep:∀ (w':World) (u:Value),Chg S w w'→DC P S ops w' oi v (a.put oj.dst u):=fun w' u hx =>
  (hy.ext hx).of_same (execOp_put oi hsi a oj.dst u h3) (wanted_put oi a oj.dst u h3)
 unfold gOp at *
 simp only [hj] at *
 rw [wanted_put oj a oi.dst v h1,execOp_put oj hsj a oi.dst v h1] at h
 split
 ·rename_i hw
  simp only [hw,if_true] at h
  exact Ea (fun u w' hx hk=>⟨keep w' u hx,by rw [← Act.put_comm a v u h2]; exact hk⟩) h
 ·rename_i hw
  simp only [hw] at h
  exact ⟨keep w undef (Chg.refl S _),by rw [← Act.put_comm a v undef h2]; exact h⟩
theorem QM {m i:Nat}{oi:Oper}{v:Value}{L:Array Bool→Act→World→Prop}(hi:ops[i]? = some oi) (hsel:∀ (j:Nat) (o:Oper) cs b,ops[j]? = some o→o.op≠.select cs b)
 (him:i< m) (htail:∀ listed,HeadInv .any ops m listed→listed.getD i true=false→∀ t,m≤t→t∉Region.ready .any ops listed)
 (hdone:∀ listed a w,L listed a w→∀ j∈Region.ready .any ops listed,m≤j) :
 ∀ (f : Nat) (listed : Array Bool) (a : Act) (w : World), HeadInv .any ops m listed →
   (∀ j oj,ops[j]? = some oj→j≠i→listed.getD j true=false→(∀ e∈oj.after,Region.binds .any e=true→e.on≠i)→oi.apart ops oj=true) →
   i∈Region.ready .any ops listed→DC P S ops w oi v a →
   Kk P S ops m L f (listed.setIfInBounds i true) (a.put oi.dst v) w→Kk P S ops m L (f+1) listed a w:=by
 intro f
 induction f with
 | zero =>
   intro listed a w inv _ hr hy H
   have hun:=(mem_ready.1 hr).1
   refine ⟨fun h=>(by rw [h] at hr; cases hr),fun w1 hx j hj=>?_⟩
   have hjm:j< m:=by
    rcases Nat.lt_or_ge j m with h | h
    ·exact h
    ·exact absurd hj (htail listed inv hun j h)
   refine ⟨hjm,?_⟩
   by_cases hji:j=i
   ·subst hji; exact (hy.ext (Ext.chg hx)).op hi fun w' hx'=>Ox (hx.trans hx') H
   ·have:=hdone _ _ _ (H w (Ext.refl _)) j (ready_mono hj hji)
    omega
 | succ f ih =>
   intro listed a w inv hfree hr hy H
   have hun:=(mem_ready.1 hr).1
   refine ⟨fun h=>(by rw [h] at hr; cases hr),fun w1 hx j hj=>?_⟩
   have hjm:j< m:=by
    rcases Nat.lt_or_ge j m with h | h
    ·exact h
    ·exact absurd hj (htail listed inv hun j h)
   refine ⟨hjm,?_⟩
   by_cases hji:j=i
   ·subst hji; exact (hy.ext (Ext.chg hx)).op hi fun w' hx'=>Ox (hx.trans hx') H
   ·have h1:=(H.2 w1 hx j (ready_mono hj hji)).2
    obtain ⟨hjun,oj,hoj,hall⟩:=mem_ready.1 hj
    have hnot:∀ e∈oj.after,Region.binds .any e=true→e.on≠i:=fun e he hb heq=>by
     have h1:=hall e he hb
     rw [heq,getD_both hun] at h1
     cases h1
    have h2:=VZ hoj (hfree j oj hoj hji hjun hnot) (fun cs b=>hsel i oi cs b hi) (fun cs b=>hsel j oj cs b hoj) (hy.ext (Ext.chg hx)) h1
    have hfree':∀ k ok,ops[k]? = some ok→k≠i→(listed.setIfInBounds j true).getD k true=false →
     (∀ e∈ok.after,Region.binds .any e=true→e.on≠i)→oi.apart ops ok=true:=fun k ok hk hki hun hno=>by
     refine hfree k ok hk hki ?_ hno
     by_cases hjk:j=k
     ·subst hjk; exact hjun
     ·rw [getD_set_ne true hjk] at hun; exact hun
    refine Ow (fun a' w' _ h3=>ih (listed.setIfInBounds j true) a' w' (inv.set hj hjm) hfree' (ready_mono hr (Ne.symm hji)) h3.1 ?_) h2
    rw [Array.setIfInBounds_comm _ _ hji]
    exact h3.2
theorem Oy {Q:Exit→Act→World→Prop}{i:Nat}{a:Act}{w:World}{K K':Act→World→Prop}(h:∀ a' w',K a' w'→K' a' w') (hh:gOp P S ops i K a w):wpOp P ops Q i K' a w:=by
 unfold gOp at hh
 unfold wpOp
 split
 ·rename_i ho; simp only [ho] at hh; exact h _ _ hh
 ·rename_i o ho
  simp only [ho] at hh
  split
  ·rename_i hw
   simp only [hw,if_true] at hh
   refine .inl ?_
   unfold Oper.wp
   unfold Gk at hh
   generalize (execOp a.eval o).run P w=r at *
   cases r with
   | ok nx w' =>
     cases nx <;> simp only [] at hh <;> simp only [Oper.upon]
     case value v=>exact h _ _ hh.2
     case skip=>exact h _ _ hh.2
     case enter f args =>
      refine hh.2.mono fun x w'' ⟨v,hx,_,hk⟩=>?_
      subst hx
      exact h _ _ hk
   | halt x w'=>exact hh.elim
  ·rename_i hw; simp only [hw] at hh; exact h _ _ hh
theorem II {m g:Nat}{L:Array Bool→Act→World→Prop}{Q:Exit→Act→World→Prop}(hL:∀ listed a w,L listed a w→wpAny P .any ops Q g listed a w) :
 ∀ (f:Nat) (listed:Array Bool) (a:Act) (w:World),Kk P S ops m L f listed a w→wpAny P .any ops Q (f+g) listed a w
 | 0,listed,a,w,h=>by rw [Nat.zero_add]; exact hL _ _ _ (h w (Ext.refl _))
 | f + 1, listed, a, w, h => by
   rw [show f+1+g=(f+g)+1 by omega]
   exact ⟨fun h0=>absurd h0 h.1,fun i hi=>Oy (fun a' w' h'=>II hL f _ a' w' h') (h.2 w (Ext.refl _) i hi).2⟩
def lst (n:Nat) (l:List Nat):Array Bool:=l.foldr (fun i a=>a.setIfInBounds i true) (Array.replicate n false)
def fin (ops:Array Oper) (m:Nat):Array Bool:=lst ops.size (List.range m).reverse
def Oz (D j:Nat):Bool:=Nat.beq (Nat.land (Nat.shiftRight D j) 1) 1
def DI:List Nat→Nat
 | []=>0
 | i::l=>Nat.lor (Nat.shiftLeft 1 i) (DI l)
theorem Va (D j:Nat):Oz D j=D.testBit j:=by
 unfold Oz
 have e:Nat.land (Nat.shiftRight D j) 1=D / 2 ^ j % 2:=by
  show (D >>> j) &&& 1=_
  rw [Nat.and_one_is_mod,Nat.shiftRight_eq_div_pow]
 rw [e,Nat.testBit_eq_decide_div_mod_eq,Bool.eq_iff_iff]
 simp
theorem F4 (l:List Nat) (j:Nat):Oz (DI l) j=decide (j∈l):=by
 rw [Va]
 induction l with
 | nil=>simp [DI]
 | cons i l ih =>
   show ((1 <<< i) ||| DI l).testBit j=_
   rw [Nat.testBit_or,ih,Nat.one_shiftLeft,Nat.testBit_two_pow]
   by_cases h:i=j
   ·subst h; simp
   ·have:¬ j=i:=fun e=>h e.symm
    simp [h,this]
def IZ (N D:Nat) (o:Oper) (i:Nat):Bool:=!(Oz D i)&&o.after.toList.all (fun g=>!(Region.binds .any g) || (Nat.blt g.on N&&Oz D g.on))
def I1 (N D:Nat):List Oper→Nat→List Nat
 | [],_=>[]
 | o::r,i=>bif IZ N D o i then i::I1 N D r (i+1) else I1 N D r (i+1)
def LZ (ops:Array Oper) (l:List Nat):List Nat:=I1 ops.toList.length (DI l) ops.toList 0
theorem F5 (n:Nat) (l:List Nat):(lst n l).size=n:=by
 induction l with
 | nil=>simp [lst]
 | cons y ys ihy =>
   show ((lst n ys).setIfInBounds y true).size=n
   simp [ihy]
theorem E1 {n:Nat}(l:List Nat){i:Nat}(hi:i< n):(lst n l)[i]? = some (decide (i∈l)):=by
 induction l with
 | nil=>simp [lst,hi]
 | cons x xs ih =>
   show ((lst n xs).setIfInBounds x true)[i]? = _
   rw [Array.getElem?_setIfInBounds]
   by_cases h:x=i
   ·subst h; simp [F5,hi]
   ·rw [if_neg h,ih]
    have:¬ i=x:=fun e=>h e.symm
    simp [this]
theorem I2 {n:Nat}(l:List Nat){i:Nat}(hi:i< n) (b:Bool):(lst n l).getD i b=decide (i∈l):=by
 rw [Array.getD_eq_getD_getElem?,E1 l hi]
 rfl
theorem TD {n:Nat}(l:List Nat) (i:Nat):(lst n l).getD i false=(Nat.blt i n&&Oz (DI l) i):=by
 by_cases hi:i< n
 ·rw [I2 l hi,F4,show Nat.blt i n=true from Nat.ble_eq_true_of_le hi]
  rfl
 ·rw [Array.getD_eq_getD_getElem?,Array.getElem?_eq_none (by rw [F5]; omega)]
  have:Nat.blt i n=false:=by
   cases hb:Nat.blt i n with
   | false=>rfl
   | true=>exact absurd (Nat.le_of_ble_eq_true hb) hi
  rw [this]
  rfl
theorem NN {ops:Array Oper}(l:List Nat){o:Oper}{i:Nat}(hi:ops[i]? = some o) :
 (!(lst ops.size l).getD i true&&((ops[i]?).map (·.after.all fun e=>!Region.binds .any e || (lst ops.size l).getD e.on false)).getD false)=IZ ops.toList.length (DI l) o i:=by
 have his:i< ops.size:=(Array.getElem?_eq_some_iff.1 hi).1
 unfold IZ
 rw [I2 l his,hi,F4]
 congr 1
 simp only [Option.map_some,Option.getD_some]
 rw [Array.all_toList.symm]
 congr 1
 funext g
 rw [TD]
 rfl
theorem QN (N D:Nat) (p:Nat→Bool):∀ (r:List Oper) (k:Nat),(∀ j o,r[j]? = some o→p (k+j)=IZ N D o (k+j))→I1 N D r k=(List.range' k r.length).filter p:=by
 intro r
 induction r with
 | nil=>intro k _; rfl
 | cons o r ih =>
   intro k h
   have h0:=h 0 o rfl
   have h1:=ih (k+1) (fun j o' hj=>by
    have:=h (j+1) o' (by simpa using hj)
    rwa [show k+(j+1)=k+1+j by omega] at this)
   rw [Nat.add_zero] at h0
   simp only [I1,List.length_cons,List.range'_succ,List.filter_cons,h0,h1]
   cases IZ N D o k <;> rfl
theorem Ji (ops:Array Oper) (l:List Nat):LZ ops l=Region.ready .any ops (lst ops.size l):=by
 unfold LZ Region.ready
 rw [List.range_eq_range',QN ops.toList.length (DI l) _ ops.toList 0 (fun j o hj=>?_)]
 ·rfl
 ·have hj2:ops[j]? = some o:=by simpa using hj
  rw [Nat.zero_add]
  exact NN l hj2
theorem QO {ops:Array Oper}{l:List Nat}{o:Oper}{i:Nat}(hi:ops[i]? = some o) (h:IZ ops.toList.length (DI l) o i=true):i∈Region.ready .any ops (lst ops.size l):=by
 unfold Region.ready
 rw [List.mem_filter,List.mem_range]
 exact ⟨(Array.getElem?_eq_some_iff.1 hi).1,by rw [NN l hi]; exact h⟩
def OJ (ops:Array Oper) (D:Nat) (oi:Oper) (i:Nat):List Oper→Nat→Bool
 | [],_=>true
 | oj::r,j=>(Nat.beq j i || Oz D j || oj.after.toList.any (fun g=>Region.binds .any g&&Nat.beq g.on i) || oi.apart ops oj)&&OJ ops D oi i r (j+1)
def EA (ops:Array Oper) (l:List Nat) (i:Nat):Bool:=OJ ops (DI l) (Ad ops i) i ops.toList 0
theorem O0 {ops:Array Oper}{D:Nat}{oi:Oper}{i:Nat}:∀ (r:List Oper) (k:Nat),OJ ops D oi i r k=true→∀ j oj,r[j]? = some oj→(Nat.beq (k+j) i || Oz D (k+j) || oj.after.toList.any (fun g=>Region.binds .any g&&Nat.beq g.on i) || oi.apart ops oj)=true:=by
 intro r
 induction r with
 | nil=>intro k _ j oj hj; simp at hj
 | cons o r ih =>
   intro k h j oj hj
   rw [OJ,AW] at h
   cases j with
   | zero =>
     simp only [List.getElem?_cons_zero,Option.some.injEq] at hj
     subst hj
     exact h.1
   | succ j =>
     have:=ih (k+1) h.2 j oj (by simpa using hj)
     rwa [show k+1+j=k+(j+1) by omega] at this
theorem La {ops:Array Oper}{l:List Nat}{i:Nat}(hi:ops[i]? = some (Ad ops i)) (h:EA ops l i=true):Region.free .any ops (lst ops.size l) i=true:=by
 unfold Region.free
 simp only [hi,List.all_eq_true,List.mem_range]
 intro j hj
 have hoj:ops[j]? = some ops[j]:=Array.getElem?_eq_getElem hj
 have h1:=O0 ops.toList 0 h j ops[j] AD
 rw [Nat.zero_add] at h1
 simp only [Bool.or_eq_true] at h1
 rw [hoj,I2 l hj]
 simp only [Bool.or_eq_true,decide_eq_true_eq,beq_iff_eq]
 rcases h1 with ((h1 | h1) | h1) | h1
 ·exact .inl (.inl (Nat.eq_of_beq_eq_true h1))
 ·rw [F4] at h1; exact .inl (.inr (by simpa using h1))
 ·refine .inr (.inl ?_)
  rw [List.any_eq_true] at h1
  obtain ⟨g,hg,hb⟩:=h1
  rw [Array.any_eq_true']
  refine ⟨g,by simpa using hg,?_⟩
  simp only [AW] at hb ⊢
  exact ⟨hb.1,by have:=Nat.eq_of_beq_eq_true hb.2; simp [this]⟩
 ·exact .inr (.inr h1)
def RE (ops:Array Oper) (m:Nat):Bool :=
 Nat.beq m ops.size || (Nat.blt m ops.size&&Region.sinkB .any ops m&&Region.chainB .any ops m)
def IJ (ops:Array Oper) (m:Nat):Bool :=
 Nat.ble m ops.size&&Region.noSelect ops&&RE ops m&&Region.seqB .any ops (ops.size - m) m (fin ops m)
def GA (P:Program) (S:Nat→Prop) (n m:Nat) (L:Env→World→Prop) (ops:Array Oper) (l:List Nat) (e:Env) (w:World):Prop :=
 IJ ops m=true→∀ f a,f+l.length=m→Sees n a e→HeadInv .any ops m (lst ops.size l) →
  Kk P S ops m (fun listed a' w'=>listed=fin ops m∧∃ e',Sees n a' e'∧L e' w') f (lst ops.size l) a w
def Cr (n m:Nat) (ops:Array Oper) (l:List Nat) (i:Nat):Bool :=
 Nat.blt l.length m&&Nat.blt i m&&Ot n ops i&&IZ ops.toList.length (DI l) (Ad ops i) i
end
section
variable {P:Program} {S:Nat→Prop} {n m:Nat} {L:Env→World→Prop} {ops:Array Oper} {l:List Nat} {e:Env} {w:World}
theorem FH (h:IJ ops m=true):m≤ops.size∧Region.noSelect ops=true∧RE ops m=true∧Region.seqB .any ops (ops.size - m) m (fin ops m)=true:=by
 simp only [IJ,AW] at h
 exact ⟨Nat.le_of_ble_eq_true h.1.1.1,h.1.1.2,h.1.2,h.2⟩
theorem Ia (h:RE ops m=true) (listed:Array Bool) (inv:HeadInv .any ops m listed){i:Nat}(him:i< m) (hun:listed.getD i true=false):∀ t,m≤t→t∉Region.ready .any ops listed:=by
 intro t ht hr
 simp only [RE,Bool.or_eq_true,AW] at h
 rcases h with h | ⟨⟨h1,h2⟩,h3⟩
 ·have:=Nat.eq_of_beq_eq_true h
  obtain ⟨_,ot,hot,_⟩:=mem_ready.1 hr
  have:=(Array.getElem?_eq_some_iff.1 hot).1
  omega
 ·have hn:=Nat.le_of_ble_eq_true h1
  exact tail_waits h2 h3 AB inv _ i rfl him hun t ht hr
theorem Dl {i:Nat}(h:Cr n m ops l i=true):l.length< m∧i< m∧okD n (Ad ops i).dst=true∧ops[i]? = some (Ad ops i)∧i∈Region.ready .any ops (lst ops.size l):=by
 simp only [Cr,AW] at h
 obtain ⟨⟨⟨h1,h2⟩,h3⟩,h4⟩:=h
 have h1':=Nat.le_of_ble_eq_true h1
 have h2':=Nat.le_of_ble_eq_true h2
 obtain ⟨hlt,hd⟩:=Hn h3
 have h5:ops[i]? = some (Ad ops i):=by
  have:i< ops.size:=by simpa using hlt
  simp [Ad,this]
 exact ⟨by omega,by omega,hd,h5,QO h5 h4⟩
theorem Cz (i:Nat):lst n (i::l)=(lst n l).setIfInBounds i true:=rfl
theorem GA.first {i:Nat}{v:Value}(h:Cr n m ops l i=true) (hfree:EA ops l i=true)
 (hy:(D9 ops (Ad ops i) e=true∧∀ w1,Chg S w w1→Gk P nil ((execOp (ev e) (Ad ops i)).run P w1) w1 (fun u _=>u=v))∨(D9 ops (Ad ops i) e=false∧v=undef))
 (H:GA P S n m L ops (i::l) (Ag e (Ad ops i).dst v) w):GA P S n m L ops l e w:=by
 intro hB f a hf ha inv
 obtain ⟨hlm,him,hd,hi,hr⟩:=Dl h
 obtain ⟨hm,hsel,htl,hseq⟩:=FH hB
 obtain ⟨f,rfl⟩:∃ g,f=g+1:=⟨f - 1,by omega⟩
 refine QM (i:=i) (oi:=Ad ops i) (v:=v) hi (Region.noSelect_spec hsel) him (fun listed hinv hun=>Ia htl listed hinv him hun) ?_ f _ a w inv (Region.free_spec hi (La hi hfree)) hr ?_ ?_
 ·rintro listed a' w' ⟨rfl,_⟩ j hj
  exact seqB_ready hseq j hj
 ·unfold DC
  rw [ha.want,ha.eval]
  exact hy
 ·have:=H hB f (a.put (Ad ops i).dst v) (by simp only [List.length_cons]; omega) (ha.Mt hd v) (by rw [Cz]; exact inv.set hr him)
  rwa [Cz] at this
theorem GA.pure {i:Nat}(h:(Cr n m ops l i&&EA ops l i&&G2 P n ops i e)=true) (H:GA P S n m L ops (i::l) (IH P ops i e) w):GA P S n m L ops l e w:=by
 simp only [AW] at h
 obtain ⟨⟨h1,h2⟩,h3⟩:=h
 simp only [G2,AW] at h3
 unfold IH at H
 cases hw:D9 ops (Ad ops i) e with
 | true =>
   simp only [hw,cond_true] at h3 H
   refine GA.first h1 h2 (.inl ⟨hw,fun w1 _=>?_⟩) H
   rw [F1 h3.2 w1]
   exact ⟨Ext.refl _,rfl⟩
 | false =>
   simp only [hw,cond_false] at h3 H
   exact GA.first h1 h2 (.inr ⟨hw,rfl⟩) H
def NO (P:Program) (ops:Array Oper):List Nat→Env→Env
 | [],e=>e
 | i::is,e=>NO P ops is (IH P ops i e)
def Jj (P:Program) (n m:Nat) (ops:Array Oper):List Nat→List Nat→Env→Bool
 | [],_,_=>true
 | i::is,l,e=>Cr n m ops l i&&EA ops l i&&G2 P n ops i e&&Jj P n m ops is (i::l) (IH P ops i e)
theorem GA.run (is:List Nat) (h:Jj P n m ops is l e=true) (H:GA P S n m L ops (is.reverse++l) (NO P ops is e) w):GA P S n m L ops l e w:=by
 induction is generalizing l e with
 | nil=>exact H
 | cons i is ih =>
   simp only [Jj,AW] at h
   refine GA.pure (by simp only [AW]; exact h.1) (ih h.2 ?_)
   simpa [NO] using H
def gPv (P:Program) (n m:Nat) (ops:Array Oper) (l:List Nat) (i:Nat) (e:Env):Option Value :=
 bif Cr n m ops l i&&EA ops l i then Iy P n ops i e else none
theorem GA.eqv {i:Nat}{v v':Value}(h:gPv P n m ops l i e=some v') (hv:v'=v) (H:GA P S n m L ops (i::l) (Ag e (Ad ops i).dst v) w):GA P S n m L ops l e w:=by
 subst hv
 unfold gPv at h
 cases hs:Cr n m ops l i&&EA ops l i with
 | false=>simp [hs] at h
 | true =>
   simp only [hs,cond_true] at h
   simp only [AW] at hs
   unfold Iy at h
   cases hg:CC n ops i e with
   | false=>simp [hg] at h
   | true =>
     cases hi:NM P (Ad ops i) e with
     | false=>simp [hg,hi] at h
     | true =>
       simp only [hg,hi,cond_true,Option.some.injEq] at h
       simp only [CC,AW] at hg
       refine GA.first hs.1 hs.2 (.inl ⟨hg.2,fun w1 _=>?_⟩) H
       rw [F1 hi w1]
       exact ⟨Ext.refl _,h⟩
theorem GA.bool {i:Nat}(b:Bool) (h:gPv P n m ops l i e=some (.bool b)) (ht:b=true→GA P S n m L ops (i::l) (Ag e (Ad ops i).dst (.bool true)) w)
 (hf:b=false→GA P S n m L ops (i::l) (Ag e (Ad ops i).dst (.bool false)) w):GA P S n m L ops l e w:=by
 refine GA.eqv h rfl ?_
 cases b with
 | true=>exact ht rfl
 | false=>exact hf rfl
theorem GA.Em {i:Nat}(p:Prop) [Decidable p] (h:gPv P n m ops l i e=some (.bool (decide p))) (ht:p→GA P S n m L ops (i::l) (Ag e (Ad ops i).dst (.bool true)) w)
 (hf:¬ p→GA P S n m L ops (i::l) (Ag e (Ad ops i).dst (.bool false)) w):GA P S n m L ops l e w :=
 GA.bool _ h (fun hb=>ht (of_decide_eq_true hb)) (fun hb=>hf (of_decide_eq_false hb))
theorem GA.int {i:Nat}(z:Int) (h:gPv P n m ops l i e=some (.int .i64 (IntKind.i64.wrap z))) (hz:-9223372036854775808≤z∧z≤9223372036854775807)
 (H:GA P S n m L ops (i::l) (Ag e (Ad ops i).dst (.int .i64 z)) w):GA P S n m L ops l e w :=
 GA.eqv h (by rw [IntWalk.i64_in z hz]) H
theorem GA.det {i:Nat}{v:Value}(h:(Cr n m ops l i&&EA ops l i&&CC n ops i e)=true)
 (hy:∀ w1,Chg S w w1→(execOp (ev e) (Ad ops i)).run P w1=.ok (.value v) w1) (H:GA P S n m L ops (i::l) (Ag e (Ad ops i).dst v) w):GA P S n m L ops l e w:=by
 simp only [AW,CC] at h
 refine GA.first h.1.1 h.1.2 (.inl ⟨h.2.2,fun w1 hx=>?_⟩) H
 rw [hy w1 hx]
 exact ⟨Ext.refl _,rfl⟩
def BR (n m:Nat) (ops:Array Oper) (l:List Nat) (i:Nat) (e:Env):Option (TypeId × Addr) :=
 bif Cr n m ops l i&&EA ops l i then loadAt n ops i e else none
theorem run_load {P:Program}{j:Nat}{t:TypeId}{a:Addr}{v:Value}{w':World}(h:loadAt n ops j e=some (t,a)) (hv:(loadVar t a).run P w=.ok v w'):CC n ops j e=true∧(execOp (ev e) (Ad ops j)).run P w=.ok (.value v) w':=by
 obtain ⟨hg,h⟩:=CG h
 refine ⟨hg,?_⟩
 split at h
 ·rename_i t' x hop
  split at h
  ·rename_i a' hx
   simp only [Option.some.injEq,Prod.mk.injEq] at h
   obtain ⟨rfl,rfl⟩:=h
   simp only [execOp,hop,hx]
   exact AZ hv
  ·cases h
 ·cases h
theorem GA.load {i:Nat}{t:TypeId}{a:Addr}{v:Value}(h:BR n m ops l i e=some (t,a)) (hv:∀ w1,Chg S w w1→(loadVar t a).run P w1=.ok v w1)
 (H:GA P S n m L ops (i::l) (Ag e (Ad ops i).dst v) w):GA P S n m L ops l e w:=by
 unfold BR at h
 cases hs:Cr n m ops l i&&EA ops l i with
 | false=>simp [hs] at h
 | true =>
   simp only [hs,cond_true] at h
   have hg:=(run_load h (hv w (Chg.refl S _))).1
   exact GA.det (by rw [hs,hg]; rfl) (fun w1 hx=>(run_load h (hv w1 hx)).2) H
theorem GA.TC {i:Nat}{t':TypeId}{b o:Nat}{cs:List Value}(k:Nat){v:Value}(hc:Has w ⟨b,o,none⟩ cs) (hS:¬ S b) (h:BR n m ops l i e=some (t',⟨b,o+k,none⟩)) (hs:Bp P t'=true) (hv:cs[k]? = some v)
 (H:GA P S n m L ops (i::l) (Ag e (Ad ops i).dst v) w):GA P S n m L ops l e w :=
 GA.load h (fun _ hx=>(hc.chg hx hS).loadAt k hs hv) H
theorem GA.OI {i:Nat}{t':TypeId}{b o:Nat}{cs:List Value}(k:Nat) (vs:List Value) (hc:Has w ⟨b,o,none⟩ cs) (hS:¬ S b) (h:BR n m ops l i e=some (t',⟨b,o+k,none⟩)) (hs:F3 P t' vs.length=true) (hv:(cs.drop k).take vs.length=vs)
 (H:GA P S n m L ops (i::l) (Ag e (Ad ops i).dst (.agg vs.toArray)) w):GA P S n m L ops l e w :=
 GA.load h (fun _ hx=>(hc.chg hx hS).OH k vs hs hv) H
theorem GA.KY {i:Nat}{t t':TypeId}{b o:Nat}{cs:List Value}{v:Value}(hb:Box w b t cs) (hS:¬ S b) (h:BR n m ops l i e=some (t',⟨b,o,none⟩)) (hs:Bp P t'=true) (hv:cs[o]? = some v)
 (H:GA P S n m L ops (i::l) (Ag e (Ad ops i).dst v) w):GA P S n m L ops l e w :=
 GA.load h (fun _ hx=>by
  have:=((hb.chg hx hS).has 0 cs AD).loadAt (P:=P) o hs hv
  rwa [Nat.zero_add] at this) H
theorem GA.QL {i:Nat}{t t':TypeId}{b o:Nat}{cs:List Value}(vs:List Value) (hb:Box w b t cs) (hS:¬ S b) (h:BR n m ops l i e=some (t',⟨b,o,none⟩)) (hs:F3 P t' vs.length=true) (hv:(cs.drop o).take vs.length=vs)
 (H:GA P S n m L ops (i::l) (Ag e (Ad ops i).dst (.agg vs.toArray)) w):GA P S n m L ops l e w :=
 GA.load h (fun _ hx=>((hb.chg hx hS).has o vs hv).RD hs) H
def QP (P:Program) (n m:Nat) (ops:Array Oper) (l:List Nat) (i:Nat) (e:Env):Option (Option Addr × Nat × Int × Nat) :=
 bif Cr n m ops l i&&EA ops l i then I0 P n ops i e else none
theorem GA.idx {i:Nat}{a:Option Addr}{len:Nat}{z:Int}{sz b o:Nat}(i':Nat) (h:QP P n m ops l i e=some (a,len,z,sz)) (hi:z=(i':Int)) (hlt:i'< len) (ha:a=some ⟨b,o,none⟩)
 (H:GA P S n m L ops (i::l) (Ag e (Ad ops i).dst (.pointer (some ⟨b,o+i' * sz,none⟩))) w):GA P S n m L ops l e w:=by
 unfold QP at h
 cases hs:Cr n m ops l i&&EA ops l i with
 | false=>simp [hs] at h
 | true =>
   simp only [hs,cond_true] at h
   exact GA.det (by rw [hs,(OG h hi hlt ha w).1]; rfl) (fun w1 _=>(OG h hi hlt ha w1).2) H
theorem GA.eqI {i:Nat}{a b:Int}(h:gPv P n m ops l i e=some (.bool (a==b))) (ht:a=b→GA P S n m L ops (i::l) (Ag e (Ad ops i).dst (.bool true)) w)
 (hf:a≠b→GA P S n m L ops (i::l) (Ag e (Ad ops i).dst (.bool false)) w):GA P S n m L ops l e w :=
 GA.bool _ h (fun hb=>ht (by simpa using hb)) (fun hb=>hf (by simpa using hb))
theorem GA.neI {i:Nat}{a b:Int}(h:gPv P n m ops l i e=some (.bool (a != b))) (ht:a≠b→GA P S n m L ops (i::l) (Ag e (Ad ops i).dst (.bool true)) w)
 (hf:a=b→GA P S n m L ops (i::l) (Ag e (Ad ops i).dst (.bool false)) w):GA P S n m L ops l e w :=
 GA.bool _ h (fun hb=>ht (by simpa using hb)) (fun hb=>hf (by simpa using hb))
def NP (P:Program) (n m:Nat) (ops:Array Oper) (l:List Nat) (i:Nat) (e:Env):Option (FuncId × List Value) :=
 bif Cr n m ops l i&&EA ops l i then Bf P n ops i e else none
theorem G5 {j:Nat}{f:FuncId}{args:List Value}(h:Bf P n ops j e=some (f,args)) (w:World):CC n ops j e=true∧(execOp (ev e) (Ad ops j)).run P w=.ok (.enter f args.toArray) w:=by
 obtain ⟨hg,h⟩:=CG h
 refine ⟨hg,?_⟩
 split at h
 ·rename_i c hop
  split at h
  ·rename_i fo hcal
   split at h
   ·rename_i g first cap hf
    split at h
    ·rename_i fn hfn
     cases hb:fn.body.isSome && !(fn.name == "runtime.NumGoroutine") with
     | false=>simp [hb] at h
     | true =>
       simp only [hb,cond_true,Option.some.injEq,Prod.mk.injEq] at h
       obtain ⟨rfl,rfl⟩:=h
       simp only [AW,Bool.not_eq_true'] at hb
       have hbn:¬ fn.body=none:=by cases hx:fn.body <;> simp [hx] at hb ⊢
       have hargs:(first.toList++(c.args.toList.map (ev e))++cap.toList).toArray=(first++c.args.map (ev e))++cap:=by
        apply Array.toList_inj.1; simp
       rw [hargs]
       have hne:fn.name ≠ "runtime.NumGoroutine" := by simpa using hb.2
       simp only [execOp,hop,resolve,hcal,hf,Deferred.ofValue]
       simp [invoke,callFunc,hfn,hne,hbn,go_sem]
    ·cases h
   ·cases h
  ·cases h
 ·cases h
theorem GA.NQ {i:Nat}{f:FuncId}{args:List Value}{v:Value}(h:NP P n m ops l i e=some (f,args))
 (hc:∀ w1,Chg S w w1→Calls P f args.toArray w1 (Af fun u w2=>u=v∧Ext w1 w2)) (H:GA P S n m L ops (i::l) (Ag e (Ad ops i).dst v) w):GA P S n m L ops l e w:=by
 unfold NP at h
 cases hs:Cr n m ops l i&&EA ops l i with
 | false=>simp [hs] at h
 | true =>
   simp only [hs,cond_true] at h
   simp only [AW] at hs
   have hg:=(G5 h w).1
   simp only [CC,AW] at hg
   refine GA.first hs.1 hs.2 (.inl ⟨hg.2,fun w1 hx=>?_⟩) H
   rw [(G5 h w1).2]
   exact ⟨Ext.refl _,(hc w1 hx).mono fun x w2 ⟨u,hxu,hu,hx2⟩=>⟨u,hxu,hx2,hu⟩⟩
def Vb (n m:Nat) (ops:Array Oper) (l:List Nat) (i:Nat) (e:Env):Bool :=
 Cr n m ops l i&&CC n ops i e&&(match LZ ops l with | [j]=>Nat.beq j i | _=>false)
theorem GA.one {i:Nat}(h:Vb n m ops l i e=true) (H:∀ w1,Ext w w1→Gk P S ((execOp (ev e) (Ad ops i)).run P w1) w1 (fun v w2=>GA P S n m L ops (i::l) (Ag e (Ad ops i).dst v) w2)):GA P S n m L ops l e w:=by
 intro hB f a hf ha inv
 simp only [Vb,AW] at h
 obtain ⟨⟨h1,h2⟩,h3⟩:=h
 obtain ⟨hlm,him,hd,hi,hr⟩:=Dl h1
 obtain ⟨f,rfl⟩:∃ g,f=g+1:=⟨f - 1,by omega⟩
 have hready:Region.ready .any ops (lst ops.size l)=[i]:=by
  split at h3
  ·rename_i j hj
   rw [← Ji,hj,Nat.eq_of_beq_eq_true h3]
  ·cases h3
 refine ⟨by rw [hready]; simp,fun w1 hx j hj=>?_⟩
 have hji:j=i:=by rw [hready] at hj; simpa using hj
 subst hji
 refine ⟨him,?_⟩
 simp only [CC,AW] at h2
 unfold gOp
 simp only [hi]
 rw [ha.want,h2.2,if_pos rfl,ha.eval]
 refine Ea (fun v w2 _ hk=>?_) (H w1 hx)
 have:=hk hB f (a.put (Ad ops j).dst v) (by simp only [List.length_cons]; omega) (ha.Mt hd v) (by rw [Cz]; exact inv.set hr him)
 rwa [Cz] at this
theorem RF {N:Nat}{l:List Nat}(h:Nat.beq (DI l) (DI (List.range m))=true):lst N l=lst N (List.range m).reverse:=by
 have h:=Nat.eq_of_beq_eq_true h
 refine Array.ext_getElem? (fun i=>?_)
 by_cases hi:i< N
 ·rw [E1 _ hi,E1 _ hi,← F4,h,F4]
  simp
 ·rw [Array.getElem?_eq_none (by rw [F5]; omega),Array.getElem?_eq_none (by rw [F5]; omega)]
theorem GA.done (h:(Nat.beq l.length m&&Nat.beq (DI l) (DI (List.range m)))=true) (H:∀ w1,Ext w w1→L e w1):GA P S n m L ops l e w:=by
 intro hB f a hf ha inv
 simp only [AW] at h
 have:=Nat.eq_of_beq_eq_true h.1
 obtain rfl:f=0:=by omega
 exact fun w1 hx=>⟨RF h.2,e,ha,H w1 hx⟩
end
section
variable {P:Program} {f:FuncId} {fn:Func} {R:Value→World→Prop} {c:Code} {k:List Item} {e:Env} {w:World}
theorem T.RH (S:Nat→Prop) (m:Nat) (h:(G3 c true&&P.follows .mixedOrders&&IJ (FG c) m)=true)
 (H:∀ w1,Ext w w1→GA P S fn.ntmps m (fun e' w'=>RG P fn.ntmps (fun e'' w''=>T P f fn R k e'' w'') (FG c) m e' w') (FG c) [] e w1):T P f fn R (.code c::k) e w:=by
 simp only [AW] at h
 obtain ⟨⟨hc,hm⟩,hB⟩:=h
 cases c <;> simp [G3] at hc
 rename_i id ops d
 subst hc
 simp only [FG] at hB H
 obtain ⟨hle,hsel,htl,hseq⟩:=FH hB
 intro b a cs h1 h2 h3
 have hwp:(Code.region id ops true).wp P (fun x a' w'=>x=.normal∧∃ e',Sees fn.ntmps a' e'∧T P f fn R k e' w') a w:=by
  refine wp_region_any hm ?_
  have hinv:HeadInv .any ops m (lst ops.size []) :=
   ⟨by simp [lst],fun j oj _ hl=>(by simp only [lst,List.foldr_nil] at hl; rw [getD_replicate_false] at hl; cases hl),fun t _ ht=>getD_in (by simpa [lst] using ht) (getD_replicate_false _ _)⟩
  have hg:=H { w with drawn:=w.drawn+1 } (Ext.drew w) hB m a AD h3 hinv
  have:=II (g:=ops.size - m) (Q:=fun x a' w'=>x=.normal∧∃ e',Sees fn.ntmps a' e'∧T P f fn R k e' w') (fun listed a' w' ⟨hl,e',hs',hr⟩=>by
   subst hl
   have hlen:(ops.toList.drop m).length=ops.size - m:=by simp
   have:=wpAny_of_seq (md:=.any) (ops.toList.drop m) m (fin ops m) a' w' (fun j=>by simp [List.getElem?_drop]) (by rw [hlen]; exact hseq) (hr a' hs')
   rwa [hlen] at this) _ _ _ _ hg
  rwa [show m+(ops.size - m)=ops.size by omega] at this
 obtain ⟨x,a',w',⟨hx,e',hs',hT⟩,harr⟩:=hwp b k cs
 subst hx
 obtain ⟨v,w'',fr,hR,hst,r⟩:=hT b a' cs h1 h2 hs'
 exact ⟨v,w'',fr,hR,Steps.trans harr hst,r⟩
end
end Go.Proofs.YtcginoabkicdiaaGreat
namespace Go.Proofs.YtcginoabkicdiaaGreat
structure Own {α:Type}[Rep α] (w:World) (r:Nat) (t:TypeId) (F:Nat→Prop) (n c:Nat) (xs:List α):Prop where
 len:n=xs.length
 le:n≤c
 cap:c≤maxLen
 row:∃ cur,w.heap[r]? = some (.cells cur t (0,0))∧cur.size=c * Rep.sz α
 elem:∀ i x,xs[i]? = some x→∃ cs,Rep.rep w (fun b=>F b∧b≠r) x cs∧Has w ⟨r,i * Rep.sz α,none⟩ cs
section
variable {α:Type} [Rep α] {w w':World} {r:Nat} {t:TypeId} {F:Nat→Prop} {n c:Nat} {xs:List α}
theorem Own.lt (h:Own w r t F n c xs):r< w.heap.size:=by
 obtain ⟨cur,h1,_⟩:=h.row
 exact (Array.getElem?_eq_some_iff.1 h1).1
theorem Own.max (h:Own w r t F n c xs):n≤9223372036854775807:=by
 have h1:=h.le
 have h2:=h.cap
 unfold maxLen at h2
 omega
theorem Own.chg {S:Nat→Prop}(h:Own w r t F n c xs) (hx:Chg S w w') (hr:¬ S r) (hs:∀ b,F b→b≠r→¬ S b):Own w' r t F n c xs:=by
 refine ⟨h.len,h.le,h.cap,?_,fun i x hi=>?_⟩
 ·obtain ⟨cur,h1,h2⟩:=h.row
  exact ⟨cur,(hx.block r h.lt hr).trans h1,h2⟩
 ·obtain ⟨cs,h1,h2⟩:=h.elem i x hi
  exact ⟨cs,Rep.frame h1 (fun b hb hF=>⟨hF,hx.block b hb (hs b hF.1 hF.2)⟩),h2.chg hx hr⟩
theorem Own.ext (h:Own w r t F n c xs) (hx:Ext w w'):Own w' r t F n c xs:=h.chg hx (fun h=>h) (fun _ _ _ h=>h)
theorem Own.Bj {F':Nat→Prop}(h:Own w r t F n c xs) (hf:∀ b,b< w.heap.size→F b→F' b):Own w r t F' n c xs :=
 ⟨h.len,h.le,h.cap,h.row,fun i x hi=>by
  obtain ⟨cs,h1,h2⟩:=h.elem i x hi
  exact ⟨cs,Rep.frame h1 (fun b hb hF=>⟨⟨hf b hb hF.1,hF.2⟩,rfl⟩),h2⟩⟩
theorem Own.QQ {F':Nat→Prop}(h:Own w r t F n c xs) (hf:∀ b,b< w.heap.size→F b→F' b) (hr:F' r):RepS w F' (some ⟨r,0,none⟩) n c xs :=
 ⟨h.len,h.le,h.cap,fun _=>rfl,fun _=>hr,fun i x hi=>by
  obtain ⟨cs,h1,h2⟩:=h.elem i x hi
  refine ⟨cs,Rep.frame h1 (fun b hb hF=>⟨hf b hb hF.1,rfl⟩),?_⟩
  simpa [blk,off] using h2⟩
def all (_:Nat):Prop:=True
def ge (l b:Nat):Prop:=l≤b
theorem Own.rep (h:Own w r t F n c xs):RepS w all (some ⟨r,0,none⟩) n c xs:=h.QQ (fun _ _ _=>trivial) trivial
theorem Own.nil (h:Box w r t []) (F:Nat→Prop):Own w r t F 0 0 ([]:List α) :=
 ⟨rfl,Nat.le_refl _,by decide,⟨#[],h,by simp⟩,fun i x hi=>by simp at hi⟩
theorem RepS.flatten {a:Option Addr}(h:RepS w F a n c xs):∃ cs:List Value,cs.length=n * Rep.sz α∧(∀ v∈cs,Cy v=true) ∧
 (∀ j u,cs[j]? = some u→w.cell? ⟨blk a,off a+j,none⟩=some u)∧(∀ i x,xs[i]? = some x→Rep.rep w F x ((cs.drop (i * Rep.sz α)).take (Rep.sz α))):=by
 have key:∀ k,k≤n→∃ cs:List Value,cs.length=k * Rep.sz α∧(∀ v∈cs,Cy v=true) ∧
  (∀ j u,cs[j]? = some u→w.cell? ⟨blk a,off a+j,none⟩=some u)∧(∀ i x,i< k→xs[i]? = some x→Rep.rep w F x ((cs.drop (i * Rep.sz α)).take (Rep.sz α))):=by
  intro k
  induction k with
  | zero=>exact fun _=>⟨[],by simp,by simp,by simp,fun i x hi=>absurd hi AB⟩
  | succ k ih =>
    intro hk
    obtain ⟨cs,h1,h2,h3,h4⟩:=ih AB
    have hlt:k< xs.length:=by have:=h.len; omega
    obtain ⟨ds,hr,hd⟩:=h.elem k xs[k] (by simp [hlt])
    have hl:=Rep.len hr
    refine ⟨cs++ds,by rw [List.length_append,h1,hl,Nat.succ_mul],?_,?_,?_⟩
    ·intro v hv
     rcases List.mem_append.1 hv with hv | hv
     ·exact h2 v hv
     ·exact Rep.flat hr v hv
    ·intro j u hu
     rw [List.getElem?_append] at hu
     split at hu
     ·exact h3 j u hu
     ·rename_i hj
      have:=hd (j - cs.length) u hu
      rw [add_lit] at this
      rw [← this]
      congr 2
      rw [h1] at hj ⊢
      omega
    ·intro i x hi hx
     by_cases hik:i=k
     ·subst hik
      have hxe:xs[i]=x:=by
       have:=AU hlt
       rw [this] at hx
       exact Option.some.inj hx
      rw [← h1,List.drop_left,← hl,List.take_length,← hxe]
      exact hr
     ·have hi':i< k:=by omega
      have:=h4 i x hi' hx
      have hle:(i+1) * Rep.sz α≤cs.length:=by rw [h1]; exact Nat.mul_le_mul_right _ AB
      rw [Nat.succ_mul] at hle
      rw [List.drop_append_of_le_length AB,List.take_append_of_le_length (by rw [List.length_drop]; omega)]
      exact this
 obtain ⟨cs,h1,h2,h3,h4⟩:=key n (Nat.le_refl _)
 exact ⟨cs,h1,h2,h3,fun i x hx=>h4 i x (by have:=(List.getElem?_eq_some_iff.1 hx).1; have:=h.len; omega) hx⟩
def E2 (P:Program) (T t:TypeId) (sz:Nat):Bool :=
 (match P.underlying T with | some (.slice e)=>Nat.beq e t | _=>false) &&
 (match P.info? t with
  | some i=>Nat.beq i.size sz&&Nat.ble i.bytes 1000&&(match i.zero with | some z=>Nat.beq z.cells.size sz | none=>false)
  | none=>false)
theorem FB {P:Program}{T:TypeId}{sz:Nat}(h:E2 P T t sz=true):P.underlying T=some (.slice t)∧∃ i z,P.info? t=some i∧i.size=sz∧i.bytes≤1000∧i.zero=some z∧z.cells.size=sz:=by
 simp only [E2,AW] at h
 obtain ⟨h1,h2⟩:=h
 constructor
 ·split at h1
  ·rename_i e he; rw [he,Nat.eq_of_beq_eq_true h1]
  ·cases h1
 ·split at h2
  ·rename_i i hi
   simp only [AW] at h2
   obtain ⟨⟨h3,h4⟩,h5⟩:=h2
   split at h5
   ·rename_i z hz
    exact ⟨i,z,hi,Nat.eq_of_beq_eq_true h3,Nat.le_of_ble_eq_true h4,hz,Nat.eq_of_beq_eq_true h5⟩
   ·cases h5
  ·cases h2
theorem O1 {v:Value}(h:Cy v=true):v.oneCell'=true:=by cases v <;> simp_all [Cy,Value.oneCell']
theorem Gl {P:Program}{T ty:TypeId}{i:TypeInfo}(ht:P.underlying T=some (.slice t)) (hi:P.info? t=some i) (b a:Option Addr) (n c c':Nat) (hc:n≤c) (w:World) :
 (Builtin.append_ #[T,T] ty #[.slice b n c,.slice a 0 c']).run P w=.ok (.slice b n c) w:=by
 have hf:(Builtin.firstCells i.size 0 (.slice a 0 c')).run P w=.ok #[] w:=by
  cases a <;> simp [Builtin.firstCells,loadCells,loadCellsFrom]
 cases b <;> simp [Builtin.append_,run_underlying ht,sizeOf,typeInfo,hi,Builtin.lenOf,hc,hf,storeCells]
theorem Own.append {P:Program}{T ty:TypeId}{F2:Nat→Prop}{a:Option Addr}{m c':Nat}{ys:List α}(ho:Own w r t F n c xs) (hT:E2 P T t (Rep.sz α)=true)
 (hn:RepS w F2 a m c' ys) (h2:∀ b,b< w.heap.size→F2 b→F b∧b≠r) (hs:n+m≤100000000000) :
 ∃ r' c2 w', (Builtin.append_ #[T, T] ty #[.slice (some ⟨r, 0, none⟩) n c, .slice a m c']).run P w = .ok (.slice (some ⟨r', 0, none⟩) (n + m) c2) w' ∧
   Own w' r' t F (n+m) c2 (xs++ys)∧(r'=r∨r'=w.heap.size)∧Chg (one r) w w'∧w'.heap.size≤w.heap.size+1:=by
 obtain ⟨ht,i,z,hi,hsz,hby,hz,hzs⟩:=FB hT
 have hpos:=Rep.pos (α:=α)
 by_cases hm:m=0
 ·subst hm
  have hy:ys=[]:=List.eq_nil_of_length_eq_zero hn.len.symm
  subst hy
  exact ⟨r,c,w,Gl ht hi _ _ _ _ _ ho.le w,by simpa using ho,.inl rfl,Chg.refl _ _,by omega⟩
 ·have haddr:=hn.addr AB
  obtain ⟨ncs,hl,h1,hc2,hrep⟩:=hn.flatten
  rw [haddr]
  have hnews:∀ j u,ncs[j]? = some u→w.cell? ((⟨blk a,off a,none⟩:Addr).add j)=some u:=fun j u hu=>by rw [add_lit]; exact hc2 j u hu
  have hold1:∀ u∈ncs,u.oneCell'=true:=fun u hu=>O1 (h1 u hu)
  obtain ⟨cur,hcur,hcs⟩:=ho.row
  by_cases hroom:n+m≤c
  ·have hfit:n * Rep.sz α+ncs.length≤cur.size:=by rw [hl,hcs,← Nat.add_mul]; exact Nat.mul_le_mul_right _ hroom
   have hr:=run_append_room (P:=P) w T ty t i ht hi r n c cur hcur ⟨blk a,off a,none⟩ m c' ncs (by rw [hsz]; exact hl) hnews hold1 hroom (by rw [hsz]; exact hfit)
   rw [hsz] at hr
   generalize hcur':(cur.toList.take (n * Rep.sz α)++ncs++cur.toList.drop (n * Rep.sz α+ncs.length))=cur' at hr
   have hlen':cur'.length=cur.size:=by
    rw [← hcur']
    simp only [List.length_append,List.length_take,List.length_drop,Array.length_toList]
    omega
   have hset:(w.setRow r cur'.toArray).heap[r]? = some (.cells cur'.toArray t (0,0)):=setRow_heap w r cur _ t _ hcur
   have hoth:∀ k,k≠r→(w.setRow r cur'.toArray).heap[k]? = w.heap[k]? := fun k hk=>setRow_other w r k _ hk
   have hsize:(w.setRow r cur'.toArray).heap.size=w.heap.size:=by simp [World.setRow]
   refine ⟨r,c,_,hr,⟨?_,hroom,ho.cap,⟨_,hset,by simp [hlen',hcs]⟩,?_⟩,.inl rfl,⟨rfl,rfl,rfl,by omega,fun k hk hn=>hoth k hn⟩,by omega⟩
   ·rw [List.length_append,← ho.len,← hn.len]
   ·intro j x hx
    have hcell:∀ k u,cur'[k]? = some u→(w.setRow r cur'.toArray).cell? ⟨r,k,none⟩=some u:=fun k u hu=>by simp [World.cell?,hset,hu]
    rw [List.getElem?_append] at hx
    split at hx
    ·rename_i hj
     obtain ⟨cs,hr1,hr2⟩:=ho.elem j x hx
     refine ⟨cs,Rep.frame hr1 (fun b hb hF=>⟨hF,hoth b hF.2⟩),fun k u hu=>?_⟩
     have h5:=hr2 k u hu
     rw [add_lit] at h5 ⊢
     apply hcell
     have hk:k< Rep.sz α:=by
      have:=(List.getElem?_eq_some_iff.1 hu).1
      rw [Rep.len hr1] at this
      exact this
     have hjn:j< n:=by have:=ho.len; omega
     have hlt:j * Rep.sz α+k< n * Rep.sz α:=by
      have:(j+1) * Rep.sz α≤n * Rep.sz α:=Nat.mul_le_mul_right _ hjn
      rw [Nat.succ_mul] at this
      omega
     have hlen:n * Rep.sz α≤cur.toList.length:=by simp only [Array.length_toList]; omega
     rw [← hcur',List.append_assoc,List.getElem?_append_left (by rw [List.length_take]; omega),List.getElem?_take,if_pos hlt]
     simp only [World.cell?,hcur] at h5
     simpa using h5
    ·rename_i hj
     have hxl:xs.length=n:=ho.len.symm
     rw [hxl] at hx hj
     have hrp:=hrep (j - n) x hx
     have hjm:j - n< m:=by
      have:=(List.getElem?_eq_some_iff.1 hx).1
      have:=hn.len
      omega
     refine ⟨_,Rep.frame hrp (fun b hb hF=>⟨h2 b hb hF,hoth b (h2 b hb hF).2⟩),fun k u hu=>?_⟩
     rw [add_lit]
     apply hcell
     rw [List.getElem?_take] at hu
     split at hu
     ·rename_i hk
      rw [List.getElem?_drop] at hu
      have hlen:n * Rep.sz α≤cur.toList.length:=by simp only [Array.length_toList]; omega
      have hidx:(j - n) * Rep.sz α+k< ncs.length:=(List.getElem?_eq_some_iff.1 hu).1
      have hjm2:j * Rep.sz α=n * Rep.sz α+(j - n) * Rep.sz α:=by rw [← Nat.add_mul]; congr 1; omega
      rw [← hcur',List.append_assoc,List.getElem?_append_right (by rw [List.length_take]; omega),List.length_take,Nat.min_eq_left hlen]
      rw [show j * Rep.sz α+k - n * Rep.sz α=(j - n) * Rep.sz α+k by omega]
      rw [List.getElem?_append_left hidx]
      exact hu
     ·cases hu
  ·have hcl:cur.toList.length=c * Rep.sz α:=by simp [hcs]
   have hole:(cur.toList.take (n * Rep.sz α)).length=n * i.size:=by
    rw [List.length_take,hcl,hsz]
    have:=Nat.mul_le_mul_right (Rep.sz α) ho.le
    omega
   have holds:∀ j v,(cur.toList.take (n * Rep.sz α))[j]? = some v→w.cell? ((⟨r,0,none⟩:Addr).add j)=some v:=by
    intro j v hv
    rw [List.getElem?_take] at hv
    split at hv
    ·rw [add_lit]; simp only [Nat.zero_add,World.cell?,hcur]; simpa using hv
    ·cases hv
   have hr:=run_append_grow (P:=P) w T ty t i z ht hi hz ⟨r,0,none⟩ n c (cur.toList.take (n * Rep.sz α)) hole holds ⟨blk a,off a,none⟩ m c' ncs (by rw [hsz]; exact hl) hnews AB AB
    (growslice_fits AB (Nat.le_trans (Nat.mul_le_mul hs hby) AB))
   generalize hg:grownCap w (n+m) c t=gc at hr
   have hge:n+m≤gc:=by rw [← hg]; exact grownCap_ge _ _ _ _
   have hgm:gc≤maxLen:=by rw [← hg]; exact grownCap_le_maxLen _ _ _ _ (by unfold maxLen; omega)
   generalize hob:((cur.toList.take (n * Rep.sz α)).toArray++ncs.toArray++Builtin.zeroCells z.cells (gc - (n+m)))=ob at hr
   have hnew:(w.drew.alloc (.cells ob t)).heap[w.heap.size]? = some (.cells ob t (0,0)):=heap_alloc_new w.drew _
   have hoth:∀ k,k< w.heap.size→(w.drew.alloc (.cells ob t)).heap[k]? = w.heap[k]? := fun k hk=>heap_alloc_old w.drew _ k hk
   have hcell:∀ k u,ob[k]? = some u→(w.drew.alloc (.cells ob t)).cell? ⟨w.heap.size,k,none⟩=some u:=fun k u hu=>by simp only [World.cell?,hnew]; simpa using hu
   refine ⟨w.heap.size,gc,_,hr,⟨?_,hge,hgm,⟨ob,hnew,?_⟩,?_⟩,.inr rfl,⟨rfl,rfl,rfl,by simp,fun k hk _=>hoth k hk⟩,by simp⟩
   ·rw [List.length_append,← ho.len,← hn.len]
   ·rw [← hob]
    simp only [Array.size_append,List.size_toArray,hole,hsz,hl,size_zeroCells,hzs,← Nat.add_mul]
    congr 1
    omega
   ·intro j x hx
    rw [List.getElem?_append] at hx
    split at hx
    ·rename_i hj
     obtain ⟨cs,hr1,hr2⟩:=ho.elem j x hx
     refine ⟨cs,Rep.frame hr1 (fun b hb hF=>⟨⟨hF.1,by omega⟩,hoth b hb⟩),fun k u hu=>?_⟩
     have h5:=hr2 k u hu
     rw [add_lit] at h5 ⊢
     apply hcell
     have hk:k< Rep.sz α:=by
      have:=(List.getElem?_eq_some_iff.1 hu).1
      rw [Rep.len hr1] at this
      exact this
     have hjn:j< n:=by have:=ho.len; omega
     have hlt:j * Rep.sz α+k< n * Rep.sz α:=by
      have:(j+1) * Rep.sz α≤n * Rep.sz α:=Nat.mul_le_mul_right _ hjn
      rw [Nat.succ_mul] at this
      omega
     rw [← hob,Array.append_assoc,Array.getElem?_append_left (by rw [List.size_toArray,hole,hsz]; omega)]
     simp only [List.getElem?_toArray,List.getElem?_take,if_pos hlt]
     simp only [World.cell?,hcur] at h5
     simpa using h5
    ·rename_i hj
     have hxl:xs.length=n:=ho.len.symm
     rw [hxl] at hx hj
     have hrp:=hrep (j - n) x hx
     refine ⟨_,Rep.frame hrp (fun b hb hF=>⟨⟨(h2 b hb hF).1,by omega⟩,hoth b hb⟩),fun k u hu=>?_⟩
     rw [add_lit]
     apply hcell
     rw [List.getElem?_take] at hu
     split at hu
     ·rename_i hk
      rw [List.getElem?_drop] at hu
      have hidx:(j - n) * Rep.sz α+k< ncs.length:=(List.getElem?_eq_some_iff.1 hu).1
      have hjm2:j * Rep.sz α=n * Rep.sz α+(j - n) * Rep.sz α:=by rw [← Nat.add_mul]; congr 1; omega
      rw [← hob,Array.append_assoc,Array.getElem?_append_right (by rw [List.size_toArray,hole,hsz]; omega),List.size_toArray,hole,hsz]
      rw [show j * Rep.sz α+k - n * Rep.sz α=(j - n) * Rep.sz α+k by omega]
      rw [Array.getElem?_append_left (by simpa using hidx)]
      simpa using hu
     ·cases hu
theorem Own.E3 {P:Program}{T ty:TypeId}{b:Nat}{cs:List Value}{y:α}(ho:Own w r t F n c xs) (hT:E2 P T t (Rep.sz α)=true)
 (hB:Box w b t cs) (hr:Rep.rep w (fun b=>F b∧b≠r) y cs) (hb:F b∧b≠r) (hs:n+1≤100000000000) :
 ∃ r' c2 w', (Builtin.append_ #[T, T] ty #[.slice (some ⟨r, 0, none⟩) n c, .slice (some ⟨b, 0, none⟩) 1 1]).run P w = .ok (.slice (some ⟨r', 0, none⟩) (n + 1) c2) w' ∧
   Own w' r' t F (n+1) c2 (xs++[y])∧(r'=r∨r'=w.heap.size)∧Chg (one r) w w'∧w'.heap.size≤w.heap.size+1:=by
 refine ho.append hT (F2:=fun b=>F b∧b≠r) (ys:=[y]) ⟨rfl,Nat.le_refl _,by decide,fun _=>rfl,fun _=>hb,fun i x hi=>?_⟩ (fun _ _ h=>h) hs
 cases i with
 | zero =>
   simp at hi
   subst hi
   exact ⟨cs,hr,by simpa [blk,off] using hB.has 0 cs AD⟩
 | succ i=>simp at hi
theorem RG.E3 {P:Program}{nn:Nat}{K:Env→World→Prop}{ops:Array Oper}{j:Nat}{e:Env}{T ty:TypeId}{b:Nat}{cs:List Value}{y:α}(ho:Own w r t F n c xs) (hB:Box w b t cs)
 (h:Bk nn ops j e=some (.append,[T,T],ty,[.slice (some ⟨r,0,none⟩) n c,.slice (some ⟨b,0,none⟩) 1 1])) (hT:E2 P T t (Rep.sz α)=true)
 (hr:Rep.rep w (fun b=>F b∧b≠r) y cs) (hb:F b∧b≠r) (hs:n+1≤100000000000)
 (H:∀ r' c2 w',Own w' r' t F (n+1) c2 (xs++[y])→(r'=r∨r'=w.heap.size)→Chg (one r) w w'→RG P nn K ops (j+1) (Ag e (Ad ops j).dst (.slice (some ⟨r',0,none⟩) (n+1) c2)) w'):RG P nn K ops j e w:=by
 obtain ⟨r',c2,w',hrun,ho',hor,hx,_⟩:=ho.E3 (P:=P) (T:=T) (ty:=ty) hT hB hr hb hs
 exact RG.append h hrun (H r' c2 w' ho' hor hx)
theorem TE {cur:Array Value}{o:Nat}{cs:List Value}(hc:w.heap[r]? = some (.cells cur t (0,0))) (h:Has w ⟨r,o,none⟩ cs):∀ k u,cs[k]? = some u→cur[o+k]? = some u:=fun k u hu=>by
 have:=h k u hu
 rw [add_lit] at this
 simp only [World.cell?,hc] at this
 simpa using this
theorem Own.store {P:Program}{t':TypeId}{i k:Nat}{x x':α}{cs:List Value}{v:Value}(ho:Own w r t F n c xs) (hx:xs[i]? = some x) (hh:Has w ⟨r,i * Rep.sz α,none⟩ cs) (hl:cs.length=Rep.sz α)
 (hs:(Da P t' v.cells.size&&Nat.ble (k+v.cells.size) cs.length&&v.cells.toList.all Cy)=true) (hr:Rep.rep w (fun b=>F b∧b≠r) x' (Ay cs k v.cells.toList)) :
 ∃ w',(storeVar t' ⟨r,i * Rep.sz α+k,none⟩ v).run P w=.ok () w'∧Own w' r t F n c (xs.set i x')∧Chg (one r) w w'∧w'.heap.size=w.heap.size:=by
 simp only [AW] at hs
 obtain ⟨cur,hcur,hcs⟩:=ho.row
 have hin:i< xs.length:=(List.getElem?_eq_some_iff.1 hx).1
 have hkb:k+v.cells.size≤cs.length:=Nat.le_of_ble_eq_true hs.1.2
 have hlt:i * Rep.sz α+Rep.sz α≤c * Rep.sz α:=by
  have h1:(i+1) * Rep.sz α≤c * Rep.sz α:=Nat.mul_le_mul_right _ (by have:=ho.len; have:=ho.le; omega)
  rw [Nat.succ_mul] at h1
  exact h1
 have hbox:Box w r t cur.toList:=by unfold Box; rw [hcur]
 obtain ⟨w',hrun,hb',hx',hsz⟩:=hbox.store (P:=P) (t':=t') (o:=i * Rep.sz α+k) (v:=v) hs.1.1 (by simp only [Array.length_toList]; omega) hs.2
 refine ⟨w',hrun,⟨by simpa using ho.len,ho.le,ho.cap,⟨_,hb',?_⟩,?_⟩,hx',hsz⟩
 ·simp only [Ay,List.size_toArray,List.length_append,List.length_take,List.length_drop,Array.length_toList]
  omega
 ·have hoth:∀ b,b≠r→b< w.heap.size→w'.heap[b]? = w.heap[b]? := fun b hb hbl=>hx'.block b hbl hb
  have hcell:∀ q u,(Ay cur.toList (i * Rep.sz α+k) v.cells.toList)[q]? = some u→w'.cell? ⟨r,q,none⟩=some u:=fun q u hu=>by
   have hb2:=hb'
   unfold Box at hb2
   simp only [World.cell?,hb2]
   simpa using hu
  have hclen:cur.toList.length=c * Rep.sz α:=by simp [hcs]
  have hvl:v.cells.toList.length=v.cells.size:=by simp
  intro j y hy
  by_cases hji:j=i
  ·subst hji
   have hxy:x'=y:=by
    rw [List.getElem?_set_self hin] at hy
    exact Option.some.inj hy
   subst hxy
   refine ⟨_,Rep.frame hr (fun b hb hF=>⟨hF,hoth b hF.2 hb⟩),fun q u hu=>?_⟩
   rw [add_lit]
   apply hcell
   have hcw:=TE hcur hh
   unfold Ay at hu ⊢
   rw [List.append_assoc,List.getElem?_append] at hu
   rw [List.append_assoc,List.getElem?_append]
   simp only [List.length_take,hclen] at hu ⊢
   split at hu
   ·rename_i hq
    rw [if_pos AB]
    rw [List.getElem?_take] at hu ⊢
    split at hu
    ·rename_i hq2
     rw [if_pos AB]
     have:=hcw q u hu
     simpa using this
    ·cases hu
   ·rename_i hq
    have hmin:min k cs.length=k:=by omega
    have hmin2:min (j * Rep.sz α+k) (c * Rep.sz α)=j * Rep.sz α+k:=by omega
    rw [hmin] at hu hq
    rw [hmin2,if_neg AB]
    rw [show j * Rep.sz α+q - (j * Rep.sz α+k)=q - k by omega]
    rw [List.getElem?_append] at hu ⊢
    split at hu
    ·rename_i hq2
     rw [if_pos hq2]
     exact hu
    ·rename_i hq2
     rw [if_neg hq2]
     rw [List.getElem?_drop] at hu ⊢
     have:=hcw _ u hu
     rw [show j * Rep.sz α+k+v.cells.toList.length+(q - k - v.cells.toList.length)=j * Rep.sz α+(k+v.cells.toList.length+(q - k - v.cells.toList.length)) by omega]
     simpa using this
  ·rw [List.getElem?_set_ne (Ne.symm hji)] at hy
   obtain ⟨ds,hr1,hr2⟩:=ho.elem j y hy
   refine ⟨ds,Rep.frame hr1 (fun b hb hF=>⟨hF,hoth b hF.2 hb⟩),fun q u hu=>?_⟩
   rw [add_lit]
   apply hcell
   have hq:q< Rep.sz α:=by
    have:=(List.getElem?_eq_some_iff.1 hu).1
    rw [Rep.len hr1] at this
    exact this
   have hcu:=TE hcur hr2 q u hu
   have hqc:j * Rep.sz α+q< cur.toList.length:=by
    have:=(Array.getElem?_eq_some_iff.1 hcu).1
    simpa using this
   unfold Ay
   rw [List.append_assoc,List.getElem?_append,List.length_take]
   rcases Nat.lt_or_gt_of_ne hji with hlt2 | hgt
   ·have:j * Rep.sz α+Rep.sz α≤i * Rep.sz α:=by
     have h1:(j+1) * Rep.sz α≤i * Rep.sz α:=Nat.mul_le_mul_right _ hlt2
     rw [Nat.succ_mul] at h1
     exact h1
    rw [if_pos AB,List.getElem?_take,if_pos AB]
    simpa using hcu
   ·have:i * Rep.sz α+Rep.sz α≤j * Rep.sz α:=by
     have h1:(i+1) * Rep.sz α≤j * Rep.sz α:=Nat.mul_le_mul_right _ hgt
     rw [Nat.succ_mul] at h1
     exact h1
    rw [if_neg AB,List.getElem?_append,if_neg AB,List.getElem?_drop]
    rw [show i * Rep.sz α+k+v.cells.toList.length+(j * Rep.sz α+q - min (i * Rep.sz α+k) cur.toList.length - v.cells.toList.length)=j * Rep.sz α+q by omega]
    simpa using hcu
theorem RG.G6 {P:Program}{nn:Nat}{K:Env→World→Prop}{ops:Array Oper}{j:Nat}{e:Env}{t':TypeId}{i k:Nat}{x:α}{cs:List Value}{v:Value}(x':α) (ho:Own w r t F n c xs) (hx:xs[i]? = some x)
 (hh:Has w ⟨r,0+i * Rep.sz α,none⟩ cs) (h:storeAt nn ops j e=some (t',⟨r,0+i * Rep.sz α+k,none⟩,v)) (hl:Nat.beq cs.length (Rep.sz α)=true)
 (hs:(Da P t' v.cells.size&&Nat.ble (k+v.cells.size) cs.length&&v.cells.toList.all Cy)=true) (hr:Rep.rep w (fun b=>F b∧b≠r) x' (Ay cs k v.cells.toList))
 (H:∀ w',Own w' r t F n c (xs.set i x')→Chg (one r) w w'→w'.heap.size=w.heap.size→RG P nn K ops (j+1) (Ag e (Ad ops j).dst undef) w'):RG P nn K ops j e w:=by
 rw [Nat.zero_add] at hh h
 obtain ⟨w',hrun,ho',hx',hsz⟩:=ho.store (P:=P) (t':=t') (k:=k) hx hh (Nat.eq_of_beq_eq_true hl) hs hr
 exact RG.store h hrun (H w' ho' hx' hsz)
end
end Go.Proofs.YtcginoabkicdiaaGreat
