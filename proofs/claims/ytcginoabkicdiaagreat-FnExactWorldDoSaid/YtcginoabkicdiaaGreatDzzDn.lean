/- Regions that draw their order and only read, in worlds that differ by draws alone; what makes memory comes behind, in order. No conditions: over any program that follows the mixed orders. -/
import Derived.Test.YtcginoabkicdiaaGreatDzzMem
import Derived.Deep.Draws
set_option linter.unusedVariables false
set_option linter.unusedSimpArgs false
namespace Go.Proofs.YtcginoabkicdiaaGreat
def Dr (w w1:World):Prop:=∃ q,w1=w.drewN q
theorem Dr.refl (w:World):Dr w w:=⟨0,rfl⟩
theorem Dr.trans {w w1 w2:World}(h:Dr w w1) (h2:Dr w1 w2):Dr w w2:=by
 obtain ⟨q,rfl⟩:=h
 obtain ⟨r,rfl⟩:=h2
 exact ⟨q+r,by simp [World.drewN,Nat.add_assoc]⟩
theorem Dr.ext {w w1:World}(h:Dr w w1):Ext w w1:=by
 obtain ⟨q,rfl⟩:=h
 exact ⟨rfl,rfl,rfl,Nat.le_refl _,fun _ _ _=>rfl⟩
theorem Dr.drew (w:World):Dr w { w with drawn:=w.drawn+1 }:=⟨1,rfl⟩
section
variable {P:Program} {ops:Array Oper}
def L6 (P:Program) (r:Result Next) (w:World) (K:Value→World→Prop):Prop :=
 match r with
 | .ok (.value v) w'=>Dr w w'∧K v w'
 | .ok .skip w'=>Dr w w'∧K undef w'
 | .ok (.enter f args) w'=>Dr w w'∧Calls P f args w' (fun x w''=>∃ v,x=.returned v∧Dr w' w''∧K v w'')
 | _=>False
theorem Io {r:Result Next}{w:World}{K K':Value→World→Prop}(h:∀ v w',Dr w w'→K v w'→K' v w') (hh:L6 P r w K):L6 P r w K':=by
 unfold L6 at *
 cases r with
 | ok nx w' =>
   cases nx <;> simp only [] at hh ⊢
   case value v=>exact ⟨hh.1,h _ _ hh.1 hh.2⟩
   case skip=>exact ⟨hh.1,h _ _ hh.1 hh.2⟩
   case enter f args=>exact ⟨hh.1,hh.2.mono fun x w'' ⟨v,hx,he,hk⟩=>⟨v,hx,he,h _ _ (hh.1.trans he) hk⟩⟩
 | halt x w'=>exact hh
def L7 (P:Program) (ops:Array Oper) (i:Nat) (K:Act→World→Prop) (a:Act) (w:World):Prop :=
 match ops[i]? with
 | none=>K a w
 | some o=>if Region.wanted o (yielded ops a.tmps) then L6 P ((execOp a.eval o).run P w) w (fun v w'=>K (a.put o.dst v) w') else K (a.put o.dst undef) w
theorem SY {i:Nat}{a:Act}{w:World}{K K':Act→World→Prop}(h:∀ a' w',Dr w w'→K a' w'→K' a' w') (hh:L7 P ops i K a w):L7 P ops i K' a w:=by
 unfold L7 at *
 split
 ·rename_i ho; simp only [ho] at hh; exact h _ _ (Dr.refl _) hh
 ·rename_i o ho
  simp only [ho] at hh
  split
  ·rename_i hw; simp only [hw,if_true] at hh; exact Io (fun v w' hx hk=>h _ _ hx hk) hh
  ·rename_i hw; simp only [hw] at hh; exact h _ _ (Dr.refl _) hh
def L8 (P:Program) (ops:Array Oper) (m:Nat) (L:Array Bool→Act→World→Prop):Nat→Array Bool→Act→World→Prop
 | 0,listed,a,w=>∀ w1,Dr w w1→L listed a w1
 | f + 1, listed, a, w =>
   Region.ready .any ops listed≠[]∧∀ w1,Dr w w1→∀ i∈Region.ready .any ops listed,i< m∧L7 P ops i (L8 P ops m L f (listed.setIfInBounds i true)) a w1
theorem Nn {m f:Nat}{L:Array Bool→Act→World→Prop}{listed:Array Bool}{a:Act}{w w1:World}(hx:Dr w w1) (h:L8 P ops m L f listed a w):L8 P ops m L f listed a w1:=by
 cases f with
 | zero=>exact fun w2 h2=>h w2 (hx.trans h2)
 | succ f=>exact ⟨h.1,fun w2 h2=>h.2 w2 (hx.trans h2)⟩
def DF (P:Program) (ops:Array Oper) (w:World) (o:Oper) (v:Value) (a:Act):Prop :=
 (Region.wanted o (yielded ops a.tmps)=true∧∀ w1,Dr w w1→L6 P ((execOp a.eval o).run P w1) w1 (fun u _=>u=v)) ∨
 (Region.wanted o (yielded ops a.tmps)=false∧v=undef)
theorem DF.ext {w w1:World}{o:Oper}{v:Value}{a:Act}(hx:Dr w w1) (h:DF P ops w o v a):DF P ops w1 o v a :=
 h.imp (fun h=>⟨h.1,fun w2 h2=>h.2 w2 (hx.trans h2)⟩) id
theorem DF.of_same {w:World}{o:Oper}{v:Value}{a a':Act}(hy:DF P ops w o v a) (he:execOp a'.eval o=execOp a.eval o)
 (hw:Region.wanted o (yielded ops a'.tmps)=Region.wanted o (yielded ops a.tmps)):DF P ops w o v a':=by
 unfold DF at *
 rw [he,hw]
 exact hy
theorem DF.op {i:Nat}{o:Oper}{v:Value}{a:Act}{w:World}(hi:ops[i]? = some o) (hy:DF P ops w o v a){K:Act→World→Prop}
 (h:∀ w',Dr w w'→K (a.put o.dst v) w'):L7 P ops i K a w:=by
 unfold L7
 simp only [hi]
 rcases hy with ⟨hw,hv⟩ | ⟨hw,rfl⟩
 ·simp only [hw,if_true]; exact (Io (fun u w' hx ha=>by rw [ha]; exact h w' hx) (hv w (Dr.refl _)))
 ·simp only [hw,Bool.false_eq_true,if_false]; exact h w (Dr.refl _)
theorem Tu {j:Nat}{oi oj:Oper}{v:Value}{w:World}(hj:ops[j]? = some oj) (hap:oi.apart ops oj=true)
 (hsi:∀ cs b,oi.op≠.select cs b) (hsj:∀ cs b,oj.op≠.select cs b) {K:Act→World→Prop} {a:Act}
 (hy:DF P ops w oi v a) (h:L7 P ops j K (a.put oi.dst v) w) :
 L7 P ops j (fun a' w'=>DF P ops w' oi v a'∧K (a'.put oi.dst v) w') a w:=by
 obtain ⟨h1,h2,h3⟩:=Oper.apart_spec hap
 have keep:∀ (w':World) (u:Value),Dr w w'→DF P ops w' oi v (a.put oj.dst u):=fun w' u hx =>
  (hy.ext hx).of_same (execOp_put oi hsi a oj.dst u h3) (wanted_put oi a oj.dst u h3)
 unfold L7 at *
 simp only [hj] at *
 rw [wanted_put oj a oi.dst v h1,execOp_put oj hsj a oi.dst v h1] at h
 split
 ·rename_i hw
  simp only [hw,if_true] at h
  exact Io (fun u w' hx hk=>⟨keep w' u hx,by rw [← Act.put_comm a v u h2]; exact hk⟩) h
 ·rename_i hw
  simp only [hw] at h
  exact ⟨keep w undef (Dr.refl _),by rw [← Act.put_comm a v undef h2]; exact h⟩
theorem PX {m i:Nat}{oi:Oper}{v:Value}{L:Array Bool→Act→World→Prop}(hi:ops[i]? = some oi) (hsel:∀ (j:Nat) (o:Oper) cs b,ops[j]? = some o→o.op≠.select cs b)
 (him:i< m) (htail:∀ listed,HeadInv .any ops m listed→listed.getD i true=false→∀ t,m≤t→t∉Region.ready .any ops listed)
 (hdone:∀ listed a w,L listed a w→∀ j∈Region.ready .any ops listed,m≤j) :
 ∀ (f : Nat) (listed : Array Bool) (a : Act) (w : World), HeadInv .any ops m listed →
   (∀ j oj,ops[j]? = some oj→j≠i→listed.getD j true=false→(∀ e∈oj.after,Region.binds .any e=true→e.on≠i)→oi.apart ops oj=true) →
   i∈Region.ready .any ops listed→DF P ops w oi v a →
   L8 P ops m L f (listed.setIfInBounds i true) (a.put oi.dst v) w→L8 P ops m L (f+1) listed a w:=by
 intro f
 induction f with
 | zero =>
   intro listed a w inv _ hr hy H
   have hun:=(mem_ready.1 hr).1
   refine ⟨fun h=>(by rw [h] at hr; cases hr),fun w1 hx j hj=>?_⟩
   have hjm:j< m:=by
    rcases Nat.lt_or_ge j m with h | h
    ·exact h
    ·exact absurd hj (htail listed inv hun j h)
   refine ⟨hjm,?_⟩
   by_cases hji:j=i
   ·subst hji; exact (hy.ext hx).op hi fun w' hx'=>Nn (hx.trans hx') H
   ·have:=hdone _ _ _ (H w (Dr.refl _)) j (ready_mono hj hji)
    omega
 | succ f ih =>
   intro listed a w inv hfree hr hy H
   have hun:=(mem_ready.1 hr).1
   refine ⟨fun h=>(by rw [h] at hr; cases hr),fun w1 hx j hj=>?_⟩
   have hjm:j< m:=by
    rcases Nat.lt_or_ge j m with h | h
    ·exact h
    ·exact absurd hj (htail listed inv hun j h)
   refine ⟨hjm,?_⟩
   by_cases hji:j=i
   ·subst hji; exact (hy.ext hx).op hi fun w' hx'=>Nn (hx.trans hx') H
   ·have h1:=(H.2 w1 hx j (ready_mono hj hji)).2
    obtain ⟨hjun,oj,hoj,hall⟩:=mem_ready.1 hj
    have hnot:∀ e∈oj.after,Region.binds .any e=true→e.on≠i:=fun e he hb heq=>by
     have h1:=hall e he hb
     rw [heq,getD_both hun] at h1
     cases h1
    have h2:=Tu hoj (hfree j oj hoj hji hjun hnot) (fun cs b=>hsel i oi cs b hi) (fun cs b=>hsel j oj cs b hoj) (hy.ext hx) h1
    have hfree':∀ k ok,ops[k]? = some ok→k≠i→(listed.setIfInBounds j true).getD k true=false →
     (∀ e∈ok.after,Region.binds .any e=true→e.on≠i)→oi.apart ops ok=true:=fun k ok hk hki hun hno=>by
     refine hfree k ok hk hki ?_ hno
     by_cases hjk:j=k
     ·subst hjk; exact hjun
     ·rw [getD_set_ne true hjk] at hun; exact hun
    refine SY (fun a' w' _ h3=>ih (listed.setIfInBounds j true) a' w' (inv.set hj hjm) hfree' (ready_mono hr (Ne.symm hji)) h3.1 ?_) h2
    rw [Array.setIfInBounds_comm _ _ hji]
    exact h3.2
theorem Oc {Q:Exit→Act→World→Prop}{i:Nat}{a:Act}{w:World}{K K':Act→World→Prop}(h:∀ a' w',K a' w'→K' a' w') (hh:L7 P ops i K a w):wpOp P ops Q i K' a w:=by
 unfold L7 at hh
 unfold wpOp
 split
 ·rename_i ho; simp only [ho] at hh; exact h _ _ hh
 ·rename_i o ho
  simp only [ho] at hh
  split
  ·rename_i hw
   simp only [hw,if_true] at hh
   refine .inl ?_
   unfold Oper.wp
   unfold L6 at hh
   generalize (execOp a.eval o).run P w=r at *
   cases r with
   | ok nx w' =>
     cases nx <;> simp only [] at hh <;> simp only [Oper.upon]
     case value v=>exact h _ _ hh.2
     case skip=>exact h _ _ hh.2
     case enter f args =>
      refine hh.2.mono fun x w'' ⟨v,hx,_,hk⟩=>?_
      subst hx
      exact h _ _ hk
   | halt x w'=>exact hh.elim
  ·rename_i hw; simp only [hw] at hh; exact h _ _ hh
theorem HU {m g:Nat}{L:Array Bool→Act→World→Prop}{Q:Exit→Act→World→Prop}(hL:∀ listed a w,L listed a w→wpAny P .any ops Q g listed a w) :
 ∀ (f:Nat) (listed:Array Bool) (a:Act) (w:World),L8 P ops m L f listed a w→wpAny P .any ops Q (f+g) listed a w
 | 0,listed,a,w,h=>by rw [Nat.zero_add]; exact hL _ _ _ (h w (Dr.refl _))
 | f + 1, listed, a, w, h => by
   rw [show f+1+g=(f+g)+1 by omega]
   exact ⟨fun h0=>absurd h0 h.1,fun i hi=>Oc (fun a' w' h'=>HU hL f _ a' w' h') (h.2 w (Dr.refl _) i hi).2⟩
def GD (P:Program) (n m:Nat) (L:Env→World→Prop) (ops:Array Oper) (l:List Nat) (e:Env) (w:World):Prop :=
 IJ ops m=true→∀ f a,f+l.length=m→Sees n a e→HeadInv .any ops m (lst ops.size l) →
  L8 P ops m (fun listed a' w'=>listed=fin ops m∧∃ e',Sees n a' e'∧L e' w') f (lst ops.size l) a w
end
section
variable {P:Program} {n m:Nat} {L:Env→World→Prop} {ops:Array Oper} {l:List Nat} {e:Env} {w:World}
theorem GD.first {i:Nat}{v:Value}(h:Cr n m ops l i=true) (hfree:EA ops l i=true)
 (hy:(D9 ops (Ad ops i) e=true∧∀ w1,Dr w w1→L6 P ((execOp (ev e) (Ad ops i)).run P w1) w1 (fun u _=>u=v))∨(D9 ops (Ad ops i) e=false∧v=undef))
 (H:GD P n m L ops (i::l) (Ag e (Ad ops i).dst v) w):GD P n m L ops l e w:=by
 intro hB f a hf ha inv
 obtain ⟨hlm,him,hd,hi,hr⟩:=Dl h
 obtain ⟨hm,hsel,htl,hseq⟩:=FH hB
 obtain ⟨f,rfl⟩:∃ g,f=g+1:=⟨f - 1,by omega⟩
 refine PX (i:=i) (oi:=Ad ops i) (v:=v) hi (Region.noSelect_spec hsel) him (fun listed hinv hun=>Ia htl listed hinv him hun) ?_ f _ a w inv (Region.free_spec hi (La hi hfree)) hr ?_ ?_
 ·rintro listed a' w' ⟨rfl,_⟩ j hj
  exact seqB_ready hseq j hj
 ·unfold DF
  rw [ha.want,ha.eval]
  exact hy
 ·have:=H hB f (a.put (Ad ops i).dst v) (by simp only [List.length_cons]; omega) (ha.Mt hd v) (by rw [Cz]; exact inv.set hr him)
  rwa [Cz] at this
theorem GD.pure {i:Nat}(h:(Cr n m ops l i&&EA ops l i&&G2 P n ops i e)=true) (H:GD P n m L ops (i::l) (IH P ops i e) w):GD P n m L ops l e w:=by
 simp only [AW] at h
 obtain ⟨⟨h1,h2⟩,h3⟩:=h
 simp only [G2,AW] at h3
 unfold IH at H
 cases hw:D9 ops (Ad ops i) e with
 | true =>
   simp only [hw,cond_true] at h3 H
   refine GD.first h1 h2 (.inl ⟨hw,fun w1 _=>?_⟩) H
   rw [F1 h3.2 w1]
   exact ⟨Dr.refl _,rfl⟩
 | false =>
   simp only [hw,cond_false] at h3 H
   exact GD.first h1 h2 (.inr ⟨hw,rfl⟩) H
theorem GD.run (is:List Nat) (h:Jj P n m ops is l e=true) (H:GD P n m L ops (is.reverse++l) (NO P ops is e) w):GD P n m L ops l e w:=by
 induction is generalizing l e with
 | nil=>exact H
 | cons i is ih =>
   simp only [Jj,AW] at h
   refine GD.pure (by simp only [AW]; exact h.1) (ih h.2 ?_)
   simpa [NO] using H
theorem GD.det {i:Nat}{v:Value}(h:(Cr n m ops l i&&EA ops l i&&CC n ops i e)=true)
 (hy:∀ w1,Dr w w1→(execOp (ev e) (Ad ops i)).run P w1=.ok (.value v) w1) (H:GD P n m L ops (i::l) (Ag e (Ad ops i).dst v) w):GD P n m L ops l e w:=by
 simp only [AW,CC] at h
 refine GD.first h.1.1 h.1.2 (.inl ⟨h.2.2,fun w1 hx=>?_⟩) H
 rw [hy w1 hx]
 exact ⟨Dr.refl _,rfl⟩
theorem GD.load {i:Nat}{t:TypeId}{a:Addr}{v:Value}(h:BR n m ops l i e=some (t,a)) (hv:∀ w1,Dr w w1→(loadVar t a).run P w1=.ok v w1)
 (H:GD P n m L ops (i::l) (Ag e (Ad ops i).dst v) w):GD P n m L ops l e w:=by
 unfold BR at h
 cases hs:Cr n m ops l i&&EA ops l i with
 | false=>simp [hs] at h
 | true =>
   simp only [hs,cond_true] at h
   have hg:=(run_load h (hv w (Dr.refl _))).1
   exact GD.det (by rw [hs,hg]; rfl) (fun w1 hx=>(run_load h (hv w1 hx)).2) H
theorem GD.NQ {i:Nat}{f:FuncId}{args:List Value}{v:Value}(h:NP P n m ops l i e=some (f,args))
 (hc:∀ w1,Dr w w1→Calls P f args.toArray w1 (Af fun u w2=>u=v∧Dr w1 w2)) (H:GD P n m L ops (i::l) (Ag e (Ad ops i).dst v) w):GD P n m L ops l e w:=by
 unfold NP at h
 cases hs:Cr n m ops l i&&EA ops l i with
 | false=>simp [hs] at h
 | true =>
   simp only [hs,cond_true] at h
   simp only [AW] at hs
   have hg:=(G5 h w).1
   simp only [CC,AW] at hg
   refine GD.first hs.1 hs.2 (.inl ⟨hg.2,fun w1 hx=>?_⟩) H
   rw [(G5 h w1).2]
   exact ⟨Dr.refl _,(hc w1 hx).mono fun x w2 ⟨u,hxu,hu,hx2⟩=>⟨u,hxu,hx2,hu⟩⟩
theorem GD.done (h:(Nat.beq l.length m&&Nat.beq (DI l) (DI (List.range m)))=true) (H:∀ w1,Dr w w1→L e w1):GD P n m L ops l e w:=by
 intro hB f a hf ha inv
 simp only [AW] at h
 have:=Nat.eq_of_beq_eq_true h.1
 obtain rfl:f=0:=by omega
 exact fun w1 hx=>⟨RF h.2,e,ha,H w1 hx⟩
theorem GD.KY {i:Nat}{t t':TypeId}{b o:Nat}{cs:List Value}{v:Value}(hb:Box w b t cs) (h:BR n m ops l i e=some (t',⟨b,o,none⟩)) (hs:Bp P t'=true) (hv:cs[o]? = some v)
 (H:GD P n m L ops (i::l) (Ag e (Ad ops i).dst v) w):GD P n m L ops l e w :=
 GD.load h (fun _ hx=>by
  have:=((hb.ext hx.ext).has 0 cs AD).loadAt (P:=P) o hs hv
  rwa [Nat.zero_add] at this) H
end
section
variable {P:Program} {f:FuncId} {fn:Func} {R:Value→World→Prop} {c:Code} {k:List Item} {e:Env} {w:World}
theorem T.WE (m:Nat) (h:(G3 c true&&P.follows .mixedOrders&&IJ (FG c) m)=true)
 (H:∀ w1,Dr w w1→GD P fn.ntmps m (fun e' w'=>RG P fn.ntmps (fun e'' w''=>T P f fn R k e'' w'') (FG c) m e' w') (FG c) [] e w1):T P f fn R (.code c::k) e w:=by
 simp only [AW] at h
 obtain ⟨⟨hc,hm⟩,hB⟩:=h
 cases c <;> simp [G3] at hc
 rename_i id ops d
 subst hc
 simp only [FG] at hB H
 obtain ⟨hle,hsel,htl,hseq⟩:=FH hB
 intro b a cs h1 h2 h3
 have hwp:(Code.region id ops true).wp P (fun x a' w'=>x=.normal∧∃ e',Sees fn.ntmps a' e'∧T P f fn R k e' w') a w:=by
  refine wp_region_any hm ?_
  have hinv:HeadInv .any ops m (lst ops.size []) :=
   ⟨by simp [lst],fun j oj _ hl=>(by simp only [lst,List.foldr_nil] at hl; rw [getD_replicate_false] at hl; cases hl),fun t _ ht=>getD_in (by simpa [lst] using ht) (getD_replicate_false _ _)⟩
  have hg:=H { w with drawn:=w.drawn+1 } (Dr.drew w) hB m a AD h3 hinv
  have:=HU (g:=ops.size - m) (Q:=fun x a' w'=>x=.normal∧∃ e',Sees fn.ntmps a' e'∧T P f fn R k e' w') (fun listed a' w' ⟨hl,e',hs',hr⟩=>by
   subst hl
   have hlen:(ops.toList.drop m).length=ops.size - m:=by simp
   have:=wpAny_of_seq (md:=.any) (ops.toList.drop m) m (fin ops m) a' w' (fun j=>by simp [List.getElem?_drop]) (by rw [hlen]; exact hseq) (hr a' hs')
   rwa [hlen] at this) _ _ _ _ hg
  rwa [show m+(ops.size - m)=ops.size by omega] at this
 obtain ⟨x,a',w',⟨hx,e',hs',hT⟩,harr⟩:=hwp b k cs
 subst hx
 obtain ⟨v,w'',fr,hR,hst,r⟩:=hT b a' cs h1 h2 hs'
 exact ⟨v,w'',fr,hR,Steps.trans harr hst,r⟩
end
end Go.Proofs.YtcginoabkicdiaaGreat
