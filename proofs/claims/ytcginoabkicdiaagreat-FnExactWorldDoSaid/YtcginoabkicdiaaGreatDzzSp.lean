/- A law's memory: things that are apart from each other, all made since the law began. No conditions. -/
import Derived.Test.YtcginoabkicdiaaGreatDzzMr
import Derived.Test.YtcginoabkicdiaaGreatDzzDt
set_option linter.unusedVariables false
set_option linter.unusedSimpArgs false
namespace Go.Proofs.YtcginoabkicdiaaGreat
structure Th where
 p:World→(Nat→Prop)→Prop
 fr:∀ {w w':World} {D D':Nat→Prop},p w D→(∀ b,b< w.heap.size→D b→D' b∧w'.heap[b]? = w.heap[b]?)→p w' D'
def thB (b t:Nat) (cs:List Value):Th:=⟨fun w D=>Box w b t cs∧D b,fun h hf=>⟨(hf b h.1.lt h.2).2.trans h.1,(hf b h.1.lt h.2).1⟩⟩
def thR {α:Type}[Rep α] (x:α) (cs:List Value):Th:=⟨fun w D=>Rep.rep w D x cs,fun h hf=>Rep.frame h hf⟩
def thI (its:List It):Th:=⟨fun w D=>BK w D its,fun h hf=>Cj h hf⟩
structure SP (W:World) (ths:List Th) (w:World):Prop where
 x:Ext W w
 s:∃ E:Nat→Nat→Prop,(∀ i j b,E i b→E j b→i=j)∧(∀ i b,E i b→W.heap.size≤b)∧∀ (i:Nat) (t:Th),ths[i]? = some t→t.p w (E i)
section
variable {W w w':World} {ths:List Th} {t:Th} {i:Nat}
theorem SP.init (W:World):SP W [] W:=⟨Ext.refl W,fun _ _=>False,fun _ _ _ h=>h.elim,fun _ _ h=>h.elim,fun i t h=>by simp at h⟩
theorem SP.ext (h:SP W ths w) (hx:Ext w w'):SP W ths w':=by
 obtain ⟨E,h1,h2,h3⟩:=h.s
 exact ⟨h.x.trans hx,fun i b=>E i b∧b< w.heap.size,fun i j b p q=>h1 i j b p.1 q.1,fun i b p=>h2 i b p.1,fun i t ht=>t.fr (h3 i t ht) fun b hb hd=>⟨⟨hd,hb⟩,hx.block hb⟩⟩
theorem SP.new (h:SP W ths w) (hx:Ext w w'){D:Nat→Prop}(hD:∀ b,D b→w.heap.size≤b) (ht:t.p w' D):SP W (t::ths) w':=by
 obtain ⟨E,h1,h2,h3⟩:=h.s
 have hs:=h.x.size
 refine ⟨h.x.trans hx,fun i b=>(i=0∧D b)∨(∃ k,i=k+1∧E k b∧b< w.heap.size),?_,?_,fun i q hq=>?_⟩
 ·rintro i j b (⟨rfl,p⟩ | ⟨k,rfl,p,p'⟩) (⟨rfl,q⟩ | ⟨k',rfl,q,q'⟩)
  ·rfl
  ·have:=hD b p; omega
  ·have:=hD b q; omega
  ·rw [h1 k k' b p q]
 ·rintro i b (⟨rfl,p⟩ | ⟨k,rfl,p,p'⟩)
  ·have:=hD b p; omega
  ·exact h2 k b p
 ·cases i with
  | zero =>
    cases hq
    exact t.fr ht fun b _ hd=>⟨.inl ⟨rfl,hd⟩,rfl⟩
  | succ k=>exact q.fr (h3 k q hq) fun b hb hd=>⟨.inr ⟨k,rfl,hd,hb⟩,hx.block hb⟩
theorem SP.upd (h:SP W ths w) (hi:ths[i]? = some t):∃ D:Nat→Prop,t.p w D∧∀ w' (q:Th),Chg D w w'→q.p w' D→SP W (ths.set i q) w':=by
 obtain ⟨E,h1,h2,h3⟩:=h.s
 refine ⟨E i,h3 i t hi,fun w' q hx hq=>⟨Ext.step h.x hx (h2 i),E,h1,h2,fun j r hr=>?_⟩⟩
 rw [List.getElem?_set] at hr
 by_cases hj:i=j
 ·subst hj
  rw [if_pos rfl] at hr
  split at hr
  ·cases hr; exact hq
  ·cases hr
 ·rw [if_neg hj] at hr
  exact r.fr (h3 j r hr) fun b hb hd=>⟨hd,hx.block b hb fun e=>hj (h1 i j b e hd)⟩
theorem SP.bx (h:SP W ths w) (i b ty:Nat) (cs:List Value) (hi:ths[i]? = some (thB b ty cs):=by kernel_rfl):Box w b ty cs:=by
 obtain ⟨D,h1,_⟩:=h.upd hi
 exact h1.1
theorem SP.rp (h:SP W ths w) (i:Nat){α:Type}[Rep α] (x:α) (cs:List Value) (hi:ths[i]? = some (thR x cs):=by kernel_rfl):Rep.rep w all x cs:=by
 obtain ⟨D,h1,_⟩:=h.upd hi
 exact Rep.frame (show Rep.rep w D x cs from h1) fun _ _ _=>⟨trivial,rfl⟩
theorem SP.it (h:SP W ths w) (i:Nat) (its:List It) (hi:ths[i]? = some (thI its):=by kernel_rfl):BK w all its:=by
 obtain ⟨D,h1,_⟩:=h.upd hi
 exact CU (show BK w D its from h1) fun _ _ _=>trivial
theorem SP.re (h:SP W ths w){ths':List Th}(s:Nat→Nat) (hs:∀ i j,s i=s j→i=j) (hm:∀ (i:Nat) (t:Th),ths'[i]? = some t→ths[s i]? = some t):SP W ths' w:=by
 obtain ⟨E,h1,h2,h3⟩:=h.s
 exact ⟨h.x,fun i=>E (s i),fun i j b p q=>hs i j (h1 _ _ b p q),fun i b p=>h2 _ b p,fun i t ht=>h3 _ t (hm i t ht)⟩
theorem SP.sw {u:Th}(h:SP W (t::u::ths) w):SP W (u::t::ths) w:=h.re (fun i=>match i with | 0=>1 | 1=>0 | k+2=>k+2)
 (fun i j e=>by
  match i,j,e with
  | 0,0,_=>rfl
  | 0,1,e=>simp at e
  | 0,k+2,e=>simp at e
  | 1,0,e=>simp at e
  | 1,1,_=>rfl
  | 1,k+2,e=>simp at e
  | k+2,0,e=>simp at e
  | k+2,1,e=>simp at e
  | k+2,k'+2,e=>simpa using e)
 (fun i q hq=>by
  match i,hq with
  | 0,hq=>exact hq
  | 1,hq=>exact hq
  | k+2,hq=>exact hq)
theorem SP.dr (h:SP W (t::ths) w):SP W ths w:=h.re (fun i=>i+1) (fun i j e=>by omega) (fun i q hq=>hq)
theorem SP.sw1 {u v:Th}(h:SP W (t::u::v::ths) w):SP W (t::v::u::ths) w:=h.re (fun i=>match i with | 0=>0 | 1=>2 | 2=>1 | k+3=>k+3)
 (fun i j e=>by
  match i,j,e with
  | 0,0,_=>rfl
  | 0,1,e=>simp at e
  | 0,2,e=>simp at e
  | 0,k+3,e=>simp at e
  | 1,0,e=>simp at e
  | 1,1,_=>rfl
  | 1,2,e=>simp at e
  | 1,k+3,e=>simp at e
  | 2,0,e=>simp at e
  | 2,1,e=>simp at e
  | 2,2,_=>rfl
  | 2,k+3,e=>simp at e
  | k+3,0,e=>simp at e
  | k+3,1,e=>simp at e
  | k+3,2,e=>simp at e
  | k+3,k'+3,e=>simpa using e)
 (fun i q hq=>by
  match i,hq with
  | 0,hq=>exact hq
  | 1,hq=>exact hq
  | 2,hq=>exact hq
  | k+3,hq=>exact hq)
theorem SP.d1 {u:Th}(h:SP W (t::u::ths) w):SP W (t::ths) w:=h.sw.dr
theorem SP.d2 {u v:Th}(h:SP W (t::u::v::ths) w):SP W (t::u::ths) w:=h.sw1.sw.dr
theorem SP.cv {ths':List Th}(h:SP W ths w) (e:ths=ths'):SP W ths' w:=e▸h
theorem ag_ {e:Env}{V:List (Nat × Value)}(h:V.map (fun p=>e p.1)=V.map (fun p=>p.2)):GQ e V:=Jo h
theorem SP.pH {u:Th}(h:SP W (t::u::ths) w):∃ F:Nat→Prop,t.p w F∧u.p w F∧∀ w' (q:Th),Ext w w'→q.p w' (fo F w.heap.size)→SP W (q::ths) w':=by
 obtain ⟨E,h1,h2,h3⟩:=h.s
 have hs:=h.x.size
 refine ⟨fun b=>E 0 b∨E 1 b,t.fr (h3 0 t rfl) fun b _ hd=>⟨.inl hd,rfl⟩,u.fr (h3 1 u rfl) fun b _ hd=>⟨.inr hd,rfl⟩,fun w' q hx hq=>?_⟩
 refine ⟨h.x.trans hx,fun i b=>(i=0∧((E 0 b∨E 1 b)∨w.heap.size≤b))∨(∃ k,i=k+1∧E (k+2) b∧b< w.heap.size),?_,?_,fun i r hr=>?_⟩
 ·rintro i j b (⟨rfl,p⟩ | ⟨k,rfl,p,p'⟩) (⟨rfl,q⟩ | ⟨k',rfl,q,q'⟩)
  ·rfl
  ·rcases p with (p | p) | p
   ·have:=h1 _ _ b p q; omega
   ·have:=h1 _ _ b p q; omega
   ·omega
  ·rcases q with (q | q) | q
   ·have:=h1 _ _ b p q; omega
   ·have:=h1 _ _ b p q; omega
   ·omega
  ·have:=h1 _ _ b p q; omega
 ·rintro i b (⟨rfl,p⟩ | ⟨k,rfl,p,p'⟩)
  ·rcases p with (p | p) | p
   ·exact h2 _ b p
   ·exact h2 _ b p
   ·omega
  ·exact h2 _ b p
 ·cases i with
  | zero =>
    cases hr
    exact q.fr hq fun b _ hd=>⟨.inl ⟨rfl,hd⟩,rfl⟩
  | succ k=>exact r.fr (h3 (k+2) r hr) fun b hb hd=>⟨.inr ⟨k,rfl,hd,hb⟩,hx.block hb⟩
def th0:Th:=⟨fun _ _=>True,fun _ _=>trivial⟩
theorem SP.z (h:SP W ths w):SP W (th0::ths) w:=h.new (D:=fun _=>False) (Ext.refl w) (fun _ h=>h.elim) trivial
end
section
variable {P:Program} {n:Nat} {K:Env→World→Prop} {ops:Array Oper} {j:Nat} {e:Env} {W w:World} {ths:List Th}
theorem RG.qB (h:SP W ths w) (H:∀ b w',SP W (thB b (nbT P n ops j e) (nbC P n ops j e)::ths) w'→RG P n K ops (j+1) (Ag e (Ad ops j).dst (.pointer (some ⟨b,0,none⟩))) w')
 (hn:∀ b,Bl P n ops j e b=some (.pointer (some ⟨b,0,none⟩),nbT P n ops j e,nbC P n ops j e):=by intro _; kernel_rfl):RG P n K ops j e w :=
 RG.new hn fun b w' h1 h2 h3 _=>H b w' (h.new (D:=fun q=>q=b) h2 (fun q hq=>by omega) ⟨h3,rfl⟩)
theorem RG.qS (h:SP W ths w) (i b ty:Nat) (cs vs:List Value) (H:∀ w',SP W (ths.set i (thB b ty vs)) w'→RG P n K ops (j+1) (Ag e (Ad ops j).dst undef) w') (hi:ths[i]? = some (thB b ty cs):=by kernel_rfl)
 (hst:storeAt n ops j e=some (stT (storeAt n ops j e),⟨b,0,none⟩,.agg vs.toArray):=by kernel_rfl)
 (hs:(Da P (stT (storeAt n ops j e)) (Value.agg vs.toArray).cells.size&&Nat.ble (0+(Value.agg vs.toArray).cells.size) cs.length&&(Value.agg vs.toArray).cells.toList.all Cy)=true:=by kernel_rfl)
 (hc:Ay cs 0 (Value.agg vs.toArray).cells.toList=vs:=by kernel_rfl):RG P n K ops j e w:=by
 obtain ⟨D,⟨h1,h1'⟩,h2⟩:=h.upd hi
 exact RG.sc vs h1 (fun w' h3 h4 _=>H w' (h2 w' _ (h3.Bj fun q _ hq=>by cases hq; exact h1') ⟨h4,h1'⟩)) hst hs hc
theorem RG.qV (h:SP W ths w){f:FuncId}{args:List Value}{v:Value}(hc:Calls P f args.toArray w (Af fun rv w'=>rv=v∧Ext w w')) (H:∀ w',SP W ths w'→RG P n K ops (j+1) (Ag e (Ad ops j).dst v) w')
 (hcall:Bf P n ops j e=some (f,args):=by kernel_rfl):RG P n K ops j e w:=RG.cl hc (fun _ w' ⟨h1,h2⟩=>h1▸H w' (h.ext h2)) hcall
theorem RG.qD {α:Type}[Rep α] [Shp α] [Dp α] [Lf α] (y:α) (h:SP W ths w){f:FuncId}{args:List Value}(hc:Calls P f args.toArray w (Af fun rv w'=>VD w.heap.size w' y rv∧Ext w w'))
 (H:Fa (Shp.k α) fun l=>∀ w',SP W (thI (Lf.its y l)::ths) w'→RG P n K ops (j+1) (Ag e (Ad ops j).dst (.agg (Shp.cells y l).toArray)) w') (hcall:Bf P n ops j e=some (f,args):=by kernel_rfl):RG P n K ops j e w :=
 RG.cl hc (fun _ w' ⟨⟨l,h1,h2,h3⟩,h4⟩=>h2▸Fe _ H h1 w' (h.new (t:=thI (Lf.its y l)) h4 (fun _ hb=>hb) h3)) hcall
theorem RG.qW {β:Type}[Rep β] [Shp β] [Dp β] [Lf β] {f:FuncId}{M:β→Int→Prop}{z:β→Int}(h:SP W ths w) (i:Nat) (hf:MkV P f M z) (u:β) (lu:List (Option Addr × Nat)) (k:Int) (hlu:lu.length=Shp.k β) (hk:1≤k) (hb:k+z u≤4611686018427387904)
 (H:∀ w' v,SP W (ths.set i (thI (Lf.its v lu))) w'→Shp.cells v lu=Shp.cells u lu→M v k→z v=z u→RG P n K ops (j+1) (Ag e (Ad ops j).dst (vI (k+z u))) w')
 (hi:ths[i]? = some (thI (Lf.its u lu)):=by kernel_rfl) (hcall:Bf P n ops j e=some (f,[.agg (Shp.cells u lu).toArray,vI k]):=by kernel_rfl):RG P n K ops j e w:=by
 obtain ⟨D,h1,h2⟩:=h.upd hi
 refine RG.cl (hf hlu h1 hk hb) (fun v w' ⟨e0,e2,y,e3,e4,e5,e6⟩=>?_) hcall
 subst e0
 exact H w' y (h2 w' (thI (Lf.its y lu)) e2 e3) e4 e5 e6
end
section
variable {P:Program} {S:Nat→Prop} {n m q:Nat} {L:Env→World→Prop} {ops:Array Oper} {l:List Nat} {e:Env} {W w:World} {ths:List Th}
theorem GE.qB (h:SP W ths w) (H:∀ b w',SP W (thB b (nbT P n ops q e) (nbC P n ops q e)::ths) w'→GA P S n m L ops (q::l) (Ag e (Ad ops q).dst (.pointer (some ⟨b,0,none⟩))) w')
 (hn:∀ b,Bl P n ops q e b=some (.pointer (some ⟨b,0,none⟩),nbT P n ops q e,nbC P n ops q e):=by intro _; kernel_rfl):GE P S n m L ops l q e w :=
 GE.new hn fun w1 hx b w2 h1 h2 h3 _=>H b w2 ((h.ext hx).new (D:=fun q=>q=b) h2 (fun q hq=>by omega) ⟨h3,rfl⟩)
theorem GE.qV (h:SP W ths w){f:FuncId}{args:List Value}{v:Value}(hc:∀ w1,SP W ths w1→Calls P f args.toArray w1 (Af fun rv w'=>rv=v∧Ext w1 w')) (H:∀ w',SP W ths w'→GA P S n m L ops (q::l) (Ag e (Ad ops q).dst v) w')
 (hcall:Bf P n ops q e=some (f,args):=by kernel_rfl):GE P S n m L ops l q e w:=GE.cl (fun w1 hx=>hc w1 (h.ext hx)) (fun w1 hx _ w' ⟨h1,h2⟩=>⟨Ext.chg h2,h1▸H w' ((h.ext hx).ext h2)⟩) hcall
theorem GE.qD {α:Type}[Rep α] [Shp α] [Dp α] [Lf α] (y:α) (h:SP W ths w){f:FuncId}{args:List Value}(hc:∀ w1,SP W ths w1→Calls P f args.toArray w1 (Af fun rv w'=>VD w1.heap.size w' y rv∧Ext w1 w'))
 (H:Fa (Shp.k α) fun a=>∀ w',SP W (thI (Lf.its y a)::ths) w'→GA P S n m L ops (q::l) (Ag e (Ad ops q).dst (.agg (Shp.cells y a).toArray)) w') (hcall:Bf P n ops q e=some (f,args):=by kernel_rfl):GE P S n m L ops l q e w :=
 GE.cl (fun w1 hx=>hc w1 (h.ext hx)) (fun w1 hx _ w' ⟨⟨a,h1,h2,h3⟩,h4⟩=>⟨Ext.chg h4,h2▸Fe _ H h1 w' ((h.ext hx).new (t:=thI (Lf.its y a)) h4 (fun _ hb=>hb) h3)⟩) hcall
theorem GE.qF {α:Type}[Rep α] (y:α){t u:Th}(h:SP W (t::u::ths) w){f:FuncId}{args:List Value}
 (hc:∀ w1 (F:Nat→Prop),t.p w1 F→u.p w1 F→Calls P f args.toArray w1 (Af fun rv w'=>VS (fo F w1.heap.size) w' y rv∧Ext w1 w'))
 (H:∀ (cs:List Value) w',Rep.rep w' all y cs→SP W (thR y cs::ths) w'→GA P S n m L ops (q::l) (Ag e (Ad ops q).dst (.agg cs.toArray)) w') (hcall:Bf P n ops q e=some (f,args):=by kernel_rfl):GE P S n m L ops l q e w:=by
 refine GE.cl (Q:=fun w1 v w2=>∃ F:Nat→Prop,(∀ w' (q:Th),Ext w1 w'→q.p w' (fo F w1.heap.size)→SP W (q::ths) w')∧VS (fo F w1.heap.size) w2 y v∧Ext w1 w2) (fun w1 hx=>?_) (fun w1 hx v w2 ⟨F,f3,⟨cs,hv,hr⟩,h4⟩=>?_) hcall
 ·obtain ⟨F,f1,f2,f3⟩:=(h.ext hx).pH
  exact (hc w1 F f1 f2).mono fun x w' ⟨v,e1,e2,e3⟩=>⟨v,e1,F,f3,e2,e3⟩
 ·subst hv
  exact ⟨Ext.chg h4,H cs w2 (Rep.frame hr fun _ _ _=>⟨trivial,rfl⟩) (f3 w2 (thR y cs) h4 hr)⟩
end
theorem Cl {α:Type}[Rep α] [Shp α] [Dp α] [Lf α] {w:World}{D:Nat→Prop}{x:α}{l:List (Option Addr × Nat)}(hl:l.length=Shp.k α) (h:BK w D (Lf.its x l)):Rep.rep w D x (Shp.cells x l):=Dp.rp (Lf.mk_ l hl h)
theorem tv {P:Program}{f:FuncId}{a:Array Value}{w:World}{v u:Value}(h:v=u) (q:Calls P f a w (Af fun rv w'=>rv=v∧Ext w w')):Calls P f a w (Af fun rv w'=>rv=u∧Ext w w'):=h▸q
theorem XQ {α:Type}[Rep α] {w:World}{D:Nat→Prop}{x:α}{cs cs':List Value}(h:Rep.rep w D x cs) (e:cs=cs'):Rep.rep w D x cs':=e▸h
theorem Ts {w:World}{D:Nat→Prop}{x:Wld}{cs:List Value}(h:Rep.rep w D x cs):∃ a0 n0 c0 a1 n1 c1 a2 n2 c2 a3 n3 c3 a4 n4 c4 a5 n5 c5 a6 n6 c6,cs=[.slice a0 n0 c0,.slice a1 n1 c1,.slice a2 n2 c2,.slice a3 n3 c3,.slice a4 n4 c4,.slice a5 n5 c5,.slice a6 n6 c6,.int .i64 x.disk.next]:=by
 obtain ⟨a0,n0,c0,a1,n1,c1,a2,n2,c2,a3,n3,c3,a4,n4,c4,a5,n5,c5,a6,n6,c6,e,_⟩:=h
 exact ⟨a0,n0,c0,a1,n1,c1,a2,n2,c2,a3,n3,c3,a4,n4,c4,a5,n5,c5,a6,n6,c6,e⟩
end Go.Proofs.YtcginoabkicdiaaGreat
