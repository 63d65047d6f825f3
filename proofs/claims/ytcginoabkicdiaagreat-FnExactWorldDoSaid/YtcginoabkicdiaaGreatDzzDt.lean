/- Rules for memory that is shared with nothing, third part: made rows, stores, calls, several rows handed on. No conditions. -/
import Derived.Test.YtcginoabkicdiaaGreatDzzDs
import Derived.Test.YtcginoabkicdiaaGreatDzzMk
set_option linter.unusedVariables false
set_option linter.unusedSimpArgs false
namespace Go.Proofs.YtcginoabkicdiaaGreat
def frI:List It→List Fr
 | []=>[]
 | @It.s _ _ _ a c xs::r=>.rep a c xs::frI r
 | @It.e _ _ _ _ _ _::r=>frI r
theorem Oa {w:World}:∀ {its:List It}{X:Nat→Prop},BK w X its→∀ f∈frI its,f.ok w X
 | [],_,_,f,hf=>by cases hf
 | @It.s _ _ _ a c xs :: r, X, ⟨D, D', g1, g2, g3, g4⟩, f, hf => by
   rcases List.mem_cons.1 hf with rfl | hf
   ·exact Fr.fr (J1 g1) (fun b _ hb=>⟨(g3 b hb).1,rfl⟩) (Nat.le_refl _)
   ·exact Fr.fr (Oa g2 f hf) (fun b _ hb=>⟨g4 b hb,rfl⟩) (Nat.le_refl _)
 | @It.e _ _ _ _ _ _::r,X,⟨D,D',g1,g2,g3,g4⟩,f,hf=>Fr.fr (Oa g2 f hf) (fun b _ hb=>⟨g4 b hb,rfl⟩) (Nat.le_refl _)
def ObN (s:Nat) (M:List Nat) (w:World):Ob→Prop
 | .box _ _ _=>False
 | @Ob.own _ _ g b t c xs=>g=0∧Own w b t (nin (ge s) M) xs.length c xs∧s≤b
 | @Ob.raw _ _ _ g b t c xs hs=>g=0∧Own w b t (nin (ge s) M) xs.length c hs∧s≤b
structure VX (s:Nat) (w:World) (os:List Ob) (its:List It):Prop where
 nd:(bl os).Nodup
 ob:∀ o∈os,ObN s (bl os) w o
 it:BK w (nin (ge s) (bl os)) its
theorem Za {α:Type}[Rep α] [Dp α] [Fl α] {t s:Nat}{w:World}{ys:List α}{v:Value}(h:VO t s w ys v):VA s w ys v:=by
 obtain ⟨r,n,c,rfl,h,hr⟩:=h
 have hl:=h.len
 subst hl
 exact ⟨_,c,rfl,Qm (h.dps hr)⟩
theorem itN {w:World}{D:Nat→Prop}{its:List It}{α:Type}[Rep α] [Dp α] (h:BK w D its):BK w D (.s none 0 ([]:List α)::its):=⟨fun _=>False,D,DpS.nil _ _ none 0 AE,h,fun _ h=>h.elim,fun _ h=>h⟩
section
variable {P:Program} {S:Nat→Prop} {n m:Nat} {K L:Env→World→Prop} {ops:Array Oper} {j:Nat} {l:List Nat} {e:Env}
variable {κ:Cx} {ρ:Option Rg} {Φ Φ':List Ob} {Ψ Ψ':List Fz} {Θ:List (Nat × Nat × List Value)} {w w':World} {α:Type} [Rep α] {xs ys:List α} {y:α} {o:Ob} {g i r k:Nat} {hs:List (Hd k)} {hd:Hd k}
theorem ObN.ok {s:Nat}{M:List Nat}{o:Ob}(h:ObN s M w o){κ:Cx}{M':List Nat}(hs:κ.w.heap.size≤s) (hM:∀ b,s≤b→b< w.heap.size→b∉M→b∉M'):o.ok κ M' w:=by
 cases o with
 | box _ _ _=>exact h.elim
 | own g b t c xs =>
   obtain ⟨rfl,h1,h2⟩:=h
   exact ⟨h1.Bj fun q hq hb=>⟨Nat.le_trans hs hb.1,hM q hb.1 hq hb.2⟩,Nat.le_trans hs h2⟩
 | raw g b t c xs hs' =>
   obtain ⟨rfl,h1,h2⟩:=h
   exact ⟨h1.Bj fun q hq hb=>⟨Nat.le_trans hs hb.1,hM q hb.1 hq hb.2⟩,Nat.le_trans hs h2⟩
theorem ObN.ge {s:Nat}{M:List Nat}{o:Ob}(h:ObN s M w o):s≤o.b∧o.b< w.heap.size:=by
 cases o with
 | box _ _ _=>exact h.elim
 | own g b t c xs=>exact ⟨h.2.2,h.2.1.lt⟩
 | raw g b t c xs hs'=>exact ⟨h.2.2,h.2.1.lt⟩
omit [Rep α] in
theorem St.mr (Z:St κ ρ Φ Ψ Θ w) (i:Nat) (xs:List α) (hs:List (Hd k)) (h:Φ[i]? = some (.raw (owG Φ i) (obB Φ i) (owT Φ i) (owC Φ i) xs hs):=by kernel_rfl):xs.length≤9223372036854775807:=(Z.rw i xs hs h).1.max
theorem St.vX (Z:St κ ρ Φ Ψ Θ w) (p:Nat){os:List Ob}{its:List It}(h:VX w.heap.size w' os its) (hx:Ext w w') (hp:isS Ψ p 0=true:=by kernel_rfl) :
 St κ ρ (os++Φ) (⟨0,none,.sep (its++seI Ψ p)⟩ :: (tg 0 none (frI its)++Ψ)) Θ w':=by
 have hge:∀ b∈bl os,w.heap.size≤b∧b< w'.heap.size:=fun b hb=>by
  obtain ⟨o,h1,rfl⟩:=List.mem_map.1 hb
  exact (h.ob o h1).ge
 have hm:Mv (bl Φ) (bl (os++Φ)) w w':=Mv.mk hx (fun k hk hn=>⟨fun h=>by
  rw [Ed] at h
  rcases List.mem_append.1 h with h | h
  ·have:=(hge k h).1; omega
  ·exact hn h,fun h=>h⟩)
 have hnew:∀ b,w.heap.size≤b→b∉bl os→nin (κ.g 0) (bl (os++Φ)) b:=fun b hb hn=>⟨Nat.le_trans Z.ch.size hb,fun hq=>by
  rw [Ed] at hq
  exact (List.mem_append.1 hq).elim hn (fun hq=>Nat.lt_irrefl _ (Nat.lt_of_lt_of_le (Z.lt b hq) hb))⟩
 have Z2:=Z.e hx
 have Z3:St κ ρ (os++Φ) Ψ Θ w':=by
  refine ⟨?_,fun b hb=>?_,fun b hb=>?_,fun o ho=>?_,fun f hf=>Fz.mv (Z.fz f hf) hm hx.size,Z2.th,Z2.ch,?_⟩
  ·rw [Ed]
   exact List.nodup_append.2 ⟨h.nd,Z.nd,fun a ha b hb e=>by have:=(hge a ha).1; have:=Z.lt b hb; omega⟩
  ·rw [Ed] at hb
   exact (List.mem_append.1 hb).elim (fun h=>(hge b h).2) (Z2.lt b)
  ·rw [Ed] at hb
   exact (List.mem_append.1 hb).elim (fun h=>.inr (Nat.le_trans Z.ch.size (hge b h).1)) (Z2.cv b)
  ·rcases List.mem_append.1 ho with ho | ho
   ·exact (h.ob o ho).ok Z.ch.size fun b hb _ hn=>(hnew b hb hn).2
   ·exact Ob.me (Z.ob o ho) hm hx
  ·have h1:=Z2.rg
   have h2:=Z.rg
   unfold rOk at *
   split at h1
   ·trivial
   ·refine ⟨h1.1,fun b hb=>?_⟩
    rw [Ed] at hb
    exact (List.mem_append.1 hb).elim (fun h=>.inr (Nat.le_trans h2.1 (hge b h).1)) (h1.2 b)
 have Z4:St κ ρ (os++Φ) (tg 0 none (frI its)++Ψ) Θ w':=Z3.add fun f hf=>by
  simp only [tg,List.mem_map] at hf
  obtain ⟨q,hq,rfl⟩:=hf
  exact Fr.fr (Oa h.it q hq) (fun b _ hb=>⟨hnew b hb.1 hb.2,rfl⟩) (Nat.le_refl _)
 refine Z4.sA 0 ?_
 have h1:=OZ (κ:=κ) (M:=[]) (Z.sp p 0 hp) hx
 refine Hr h.it h1 (fun b hb h=>by have:w.heap.size≤b:=hb.1; omega) (fun b hb=>hnew b hb.1 hb.2) (fun b hb=>⟨hb.1.1,fun hq=>?_⟩)
 rw [Ed] at hq
 exact (List.mem_append.1 hq).elim (fun hq=>by have:=(hge b hq).1; have:=hb.2; omega) hb.1.2
theorem St.rX (Z:St κ ρ Φ Ψ Θ w) (p:Nat) (js ps:List Nat) (os:List Ob) (its:List It) (hn:ps.Nodup) (ho:os.map some=ps.map (fun i=>Φ[i]?):=by kernel_rfl) (hN:os.all (fun o=>match o with | .box _ _ _=>false | @Ob.own _ _ g _ _ _ _=>Nat.beq g 0 | @Ob.raw _ _ _ g _ _ _ _ _=>Nat.beq g 0)=true:=by kernel_rfl)
 (hp:isS Ψ p 0=true:=by kernel_rfl) (hm:(mvs (seI Ψ p) js).take its.length=its:=by kernel_rfl):VX κ.w.heap.size w os its:=by
 have hin:∀ o∈os,o∈Φ:=fun o h=>by
  have:some o∈os.map some:=List.mem_map.2 ⟨o,h,rfl⟩
  rw [ho] at this
  obtain ⟨i,_,hi⟩:=List.mem_map.1 this
  exact AV hi
 have hsub:∀ b∈bl os,b∈bl Φ:=fun b hb=>by
  obtain ⟨o,h1,rfl⟩:=List.mem_map.1 hb
  exact List.mem_map.2 ⟨o,hin o h1,rfl⟩
 refine ⟨?_,fun o h=>?_,?_⟩
 ·have hat:∀ (a:Nat) (x:Nat),(bl os)[a]? = some x→∃ q,ps[a]? = some q∧(bl Φ)[q]? = some x:=fun a x hx=>by
   simp only [bl,List.getElem?_map] at hx
   cases hoa:os[a]? with
   | none=>rw [hoa] at hx; cases hx
   | some o =>
     rw [hoa] at hx
     have h1:(os.map some)[a]? = some (some o):=by rw [List.getElem?_map,hoa]; rfl
     rw [ho,List.getElem?_map] at h1
     cases hpa:ps[a]? with
     | none=>rw [hpa] at h1; cases h1
     | some q =>
       rw [hpa] at h1
       simp only [Option.map_some,Option.some.injEq] at h1 hx
       exact ⟨q,rfl,by rw [← hx]; exact D2 h1⟩
  refine XF fun a c x ha hc=>?_
  obtain ⟨q,h1,h2⟩:=hat a x ha
  obtain ⟨q',h3,h4⟩:=hat c x hc
  have hqq:q=q':=Classical.byContradiction fun hne=>HB Z.nd h2 h4 (fun e=>hne e.symm) rfl
  subst hqq
  exact Classical.byContradiction fun hne=>by
   obtain ⟨l1,e1⟩:=List.getElem?_eq_some_iff.1 h1
   obtain ⟨l2,e2⟩:=List.getElem?_eq_some_iff.1 h3
   exact hne ((List.getElem_inj hn).1 (e1.trans e2.symm))
 ·have h1:=Z.ob o (hin o h)
  have h2:=List.all_eq_true.1 hN o h
  cases o with
  | box _ _ _=>cases h2
  | own g b t c xs =>
    have:=Nat.eq_of_beq_eq_true h2
    subst this
    exact ⟨rfl,h1.1.Bj fun q _ hb=>⟨hb.1,fun hq=>hb.2 (hsub q hq)⟩,h1.2⟩
  | raw g b t c xs hs' =>
    have:=Nat.eq_of_beq_eq_true h2
    subst this
    exact ⟨rfl,h1.1.Bj fun q _ hb=>⟨hb.1,fun hq=>hb.2 (hsub q hq)⟩,h1.2⟩
 ·have h1:=LM js (Z.sp p 0 hp)
  rw [← List.take_append_drop its.length (mvs (seI Ψ p) js),hm] at h1
  exact CU (FJ h1) fun b _ hb=>⟨hb.1,fun hq=>hb.2 (hsub b hq)⟩
theorem St.sM (Z:St κ ρ Φ Ψ Θ w) (p g:Nat) (js:List Nat) (its:List It) (hp:isS Ψ p g=true:=by kernel_rfl) (hm:(mvs (seI Ψ p) js).take its.length=its:=by kernel_rfl):St κ ρ Φ (⟨g,none,.sep its⟩ :: Ψ) Θ w:=by
 refine Z.sA g ?_
 have h1:=LM js (Z.sp p g hp)
 rw [← List.take_append_drop its.length (mvs (seI Ψ p) js),hm] at h1
 exact FJ h1
theorem St.sZ (Z:St κ ρ Φ Ψ Θ w) (α:Type) [Rep α] [Dp α] (p g:Nat) (hp:isS Ψ p g=true:=by kernel_rfl):St κ ρ Φ (⟨g,none,.rep none 0 ([]:List α)⟩ :: ⟨g,none,.sep (.s none 0 ([]:List α)::seI Ψ p)⟩ :: Ψ) Θ w:=by
 have h1:BK w (nin (κ.g g) (bl Φ)) (.s none 0 ([]:List α)::seI Ψ p):=⟨fun _=>False,_,DpS.nil _ _ none 0 AE,Z.sp p g hp,fun _ h=>h.elim,fun _ h=>h⟩
 exact (Z.sA g h1).add (Ψ':=[_]) fun f hf=>by cases List.mem_singleton.1 hf; exact RepS.Bv _ _ none 0 AE
theorem St.o2r (Z:St κ ρ Φ Ψ Θ w) (i p:Nat) (α:Type) [Rep α] [Dp α] (k:Nat) (hi:Φ[i]? = some (.own (owG Φ i) (obB Φ i) (owT Φ i) (owC Φ i) ([]:List (Hd k))):=by kernel_rfl) (hp:isS Ψ p (owG Φ i)=true:=by kernel_rfl) :
 St κ ρ (Φ.set i (.raw (owG Φ i) (obB Φ i) (owT Φ i) (owC Φ i) ([]:List α) ([]:List (Hd k)))) (⟨owG Φ i,none,.sep (.e ([]:List α) ([]:List (Hd k))::seI Ψ p)⟩ :: Ψ) Θ w:=by
 have h0:(Ob.own (owG Φ i) (obB Φ i) (owT Φ i) (owC Φ i) ([]:List (Hd k))).ok κ (bl Φ) w:=Z.ob _ (AV hi)
 have Z1:=Z.eN α k p (owG Φ i) hp
 exact Z1.cnv (o':=.raw (owG Φ i) (obB Φ i) (owT Φ i) (owC Φ i) ([]:List α) ([]:List (Hd k))) hi rfl h0
theorem RG.Mr [Dp α] [Shp α] [Lf α] (g p k:Nat) (z:α) (m:Nat) (hf:∀ w F,∀ f∈Shp.facts z [],Fr.ok w F f) (hz0:∀ w D,Dp.dp w D z (Shp.cells z [])) (hok:(Nat.beq (Shp.cells z []).length (k+1)&&(Shp.cells z []).all Cy)=true) (Z:St κ ρ Φ Ψ Θ w)
 (H:∀ b w',St κ ρ (.raw g b (mkE (Ij P n ops j e)) m (List.replicate m z) (List.replicate m (⟨Shp.cells z [],hok⟩:Hd k))::Φ) (⟨g,none,.sep (.e (List.replicate m z) (List.replicate m (⟨Shp.cells z [],hok⟩:Hd k))::seI Ψ p)⟩ :: Ψ) Θ w'→RG P n K ops (j+1) (Ag e (Ad ops j).dst (.slice (some ⟨b,0,none⟩) m m)) w')
 (hb:m≤2000000:=by omega) (hp:isS Ψ p g=true:=by kernel_rfl)
 (h:Ij P n ops j e=some (mkE (Ij P n ops j e),(m:Int),(m:Int)):=by kernel_rfl) (hz:M4 P (mkE (Ij P n ops j e))=some (Shp.cells z [],k+1,zrB (M4 P (mkE (Ij P n ops j e)))):=by kernel_rfl) (hy:Nat.ble (zrB (M4 P (mkE (Ij P n ops j e)))) 1000=true:=by kernel_rfl):RG P n K ops j e w:=by
 generalize mkE (Ij P n ops j e)=el at *
 generalize zrB (M4 P el)=by_ at *
 have hy2:=Nat.le_of_ble_eq_true hy
 have hb2:by_ * m≤281474976710656:=Nat.le_trans (Nat.mul_le_mul hy2 hb) AE
 have hr:=run_mk h hz hb2 AB w
 refine RG.val hr.1 hr.2 (H w.heap.size _ ?_)
 have ho:Own (w.alloc (.cells (madeCells (Shp.cells z []).toArray (m * Rep.sz (Hd k))) el)) w.heap.size el (nin (κ.g g) (w.heap.size::bl Φ)) m m (List.replicate m (⟨Shp.cells z [],hok⟩:Hd k)):=Own.made (fun _ _=>rfl) (by unfold maxLen; omega)
 have hx:Ext w (w.alloc (.cells (madeCells (Shp.cells z []).toArray (m * Rep.sz (Hd k))) el)):=Ext.alloc _ _
 have Z2:St κ ρ (.raw g w.heap.size el m (List.replicate m z) (List.replicate m (⟨Shp.cells z [],hok⟩:Hd k))::Φ) Ψ Θ _:=Z.push (o:=.raw g w.heap.size el m (List.replicate m z) (List.replicate m (⟨Shp.cells z [],hok⟩:Hd k))) hx (Nat.le_refl _) ho.lt ⟨by
  show Own _ _ _ _ (List.replicate m z).length _ _
  rw [List.length_replicate]
  exact ho,Z.ch.size⟩
 refine Z2.sA g ⟨fun _=>False,_,⟨by simp,fun _ _=>False,fun _ _ _ h=>h.elim,fun _ _ h=>h.elim,fun i x h hx hh=>?_⟩,Z2.sp p g hp,fun _ h=>h.elim,fun _ h=>h⟩
 have hi:i< m:=by simpa using (List.getElem?_eq_some_iff.1 hx).1
 rw [List.getElem?_replicate,if_pos hi] at hx hh
 cases hx
 cases hh
 exact hz0 _ _
omit [Rep α] in
theorem St.srC (Z:St κ ρ Φ Ψ Θ w) (i d:Nat) (xs:List α) (y:α) (hs:List (Hd k)) (hd:Hd k){o:Option (TypeId × Addr × Value)}(hi:Φ[i]? = some (.raw (owG Φ i) (obB Φ i) (owT Φ i) (owC Φ i) xs hs)) (hlt:d< xs.length)
 (hv:(stV o).cells.toList=hd.cs) (hsz:Da P (stT o) (k+1)=true) :
 ∃ w',(storeVar (stT o) ⟨obB Φ i,0+d * (k+1),none⟩ (stV o)).run P w=.ok () w'∧St κ ρ (Φ.set i (.raw (owG Φ i) (obB Φ i) (owT Φ i) (owC Φ i) (xs.set d y) (hs.set d hd))) Ψ [] w'∧Chg (one (obB Φ i)) w w':=by
 obtain ⟨ho,hs0⟩:=Z.rw i xs hs hi
 have hl:=ho.len
 have hd0:hs[d]? = some hs[d]:=AU AB
 obtain ⟨cs,hcs,hh⟩:=ho.elem d _ hd0
 have ecs:cs=hs[d].cs:=hcs
 have hcl:cs.length=k+1:=Rep.len hcs
 have hdl:hd.cs.length=k+1:=by have:=hd.ok; rw [AW] at this; exact Nat.eq_of_beq_eq_true this.1
 have hda:hd.cs.all Cy=true:=by have:=hd.ok; rw [AW] at this; exact this.2
 have hvl:(stV o).cells.size=k+1:=by rw [← hdl,← hv,Array.length_toList]
 have hsp:Ay cs 0 (stV o).cells.toList=hd.cs:=by
  rw [hv]
  unfold Ay
  simp [hcl,hdl]
 obtain ⟨w',h1,h2,h3,_⟩:=ho.store (P:=P) (t':=stT o) (k:=0) (v:=stV o) (x':=hd) hd0 hh hcl (by
  rw [hvl,hv,hda,hsz]
  simp [hcl]) (by rw [hsp]; rfl)
 have h1':(storeVar (stT o) ⟨obB Φ i,d * (k+1)+0,none⟩ (stV o)).run P w=.ok () w':=h1
 rw [Nat.add_zero] at h1'
 refine ⟨w',by rw [Nat.zero_add]; exact h1',Z.put hi h3 (.inl rfl) h2.lt ⟨?_,hs0⟩,h3⟩
 rw [List.length_set,OP (o':=.raw (owG Φ i) (obB Φ i) (owT Φ i) (owC Φ i) (xs.set d y) (hs.set d hd)) hi rfl]
 exact h2
omit [Rep α] in
theorem RG.Sr (i d:Nat) (xs:List α) (y:α) (hs:List (Hd k)) (hd:Hd k) (Z:St κ ρ Φ Ψ Θ w)
 (H:∀ w',St κ ρ (Φ.set i (.raw (owG Φ i) (obB Φ i) (owT Φ i) (owC Φ i) (xs.set d y) (hs.set d hd))) Ψ [] w'→RG P n K ops (j+1) (Ag e (Ad ops j).dst undef) w') (hlt:d< xs.length:=by omega)
 (hi:Φ[i]? = some (.raw (owG Φ i) (obB Φ i) (owT Φ i) (owC Φ i) xs hs):=by kernel_rfl) (hv:(stV (storeAt n ops j e)).cells.toList=hd.cs:=by kernel_rfl) (hsz:Da P (stT (storeAt n ops j e)) (k+1)=true:=by kernel_rfl)
 (h:storeAt n ops j e=some (stT (storeAt n ops j e),⟨obB Φ i,0+d * (k+1),none⟩,stV (storeAt n ops j e)):=by kernel_rfl):RG P n K ops j e w :=
 let ⟨w',hr,hz,_⟩:=Z.srC (P:=P) i d xs y hs hd hi hlt hv hsz
 RG.store h hr (H w' hz)
theorem RG.Kr (i nn d:Nat) (z:Int) (_:St κ ρ Φ Ψ Θ w) (H:RG P n K ops (j+1) (Ag e (Ad ops j).dst (.pointer (some ⟨obB Φ i,0+d * (k+1),none⟩))) w) (hz:z=(d:Int):=by omega) (hn:d< nn:=by omega)
 (hi:I0 P n ops j e=some (some ⟨obB Φ i,0,none⟩,nn,z,k+1):=by kernel_rfl):RG P n K ops j e w:=RG.idx d hi hz hn rfl H
section
variable {f:FuncId} {args:List Value}
theorem RG.DD [Shp α] [Dp α] [Lf α] (p g:Nat) (hc:Calls P f args.toArray w (Af fun rv w'=>VD w.heap.size w' y rv∧Ext w w')) (Z:St κ ρ Φ Ψ Θ w)
 (H:Fa (Shp.k α) fun q=>∀ w',St κ ρ Φ (⟨g,none,.sep (Lf.its y q++seI Ψ p)⟩ :: (tg g none (Shp.facts y q)++Ψ)) Θ w'→RG P n K ops (j+1) (Ag e (Ad ops j).dst (.agg (Shp.cells y q).toArray)) w') (hp:isS Ψ p g=true:=by kernel_rfl) (h:Bf P n ops j e=some (f,args):=by kernel_rfl):RG P n K ops j e w :=
 RG.cl hc (fun v w' ⟨h1,h2⟩=>Z.vD p g h1 h2 (Q:=fun v=>RG P n K ops (j+1) (Ag e (Ad ops j).dst v) w') (Eo _ (fun l h=>h w') H) hp) h
theorem RG.DT [Shp α] [Dp α] [Lf α] (p g:Nat){us:List Value}(hc:Calls P f args.toArray w (Af fun rv w'=>(∃ v0,rv=.tuple (v0::us).toArray∧VD w.heap.size w' y v0)∧Ext w w')) (Z:St κ ρ Φ Ψ Θ w)
 (H:Fa (Shp.k α) fun q=>∀ w',St κ ρ Φ (⟨g,none,.sep (Lf.its y q++seI Ψ p)⟩ :: (tg g none (Shp.facts y q)++Ψ)) Θ w'→RG P n K ops (j+1) (Ag e (Ad ops j).dst (.tuple (.agg (Shp.cells y q).toArray::us).toArray)) w') (hp:isS Ψ p g=true:=by kernel_rfl) (h:Bf P n ops j e=some (f,args):=by kernel_rfl):RG P n K ops j e w :=
 RG.cl hc (fun v w' ⟨⟨v0,h0,h1⟩,h2⟩=>h0▸Z.vD p g h1 h2 (Q:=fun v=>RG P n K ops (j+1) (Ag e (Ad ops j).dst (.tuple (v::us).toArray)) w') (Eo _ (fun l h=>h w') H) hp) h
theorem RG.DA [Dp α] (p g:Nat) (hc:Calls P f args.toArray w (Af fun rv w'=>VA w.heap.size w' ys rv∧Ext w w')) (Z:St κ ρ Φ Ψ Θ w)
 (H:∀ a c w',St κ ρ Φ (⟨g,none,.sep (.s a c ys::seI Ψ p)⟩ :: ⟨g,none,.rep a c ys⟩ :: Ψ) Θ w'→RG P n K ops (j+1) (Ag e (Ad ops j).dst (.slice a ys.length c)) w') (hp:isS Ψ p g=true:=by kernel_rfl) (h:Bf P n ops j e=some (f,args):=by kernel_rfl):RG P n K ops j e w :=
 RG.cl hc (fun v w' ⟨h1,h2⟩=>Z.vA p g h1 h2 (Q:=fun v=>RG P n K ops (j+1) (Ag e (Ad ops j).dst v) w') (fun a c hz=>H a c w' hz) hp) h
theorem RG.DB [Dp α] (p g:Nat){t:Nat}(hc:Calls P f args.toArray w (Af fun rv w'=>VB k t w.heap.size w' ys rv∧Ext w w')) (Z:St κ ρ Φ Ψ Θ w)
 (H:∀ r c (hs:List (Hd k)) w',St κ ρ (.raw g r t c ys hs::Φ) (⟨g,none,.sep (.e ys hs::seI Ψ p)⟩ :: Ψ) Θ w'→RG P n K ops (j+1) (Ag e (Ad ops j).dst (.slice (some ⟨r,0,none⟩) ys.length c)) w') (hp:isS Ψ p g=true:=by kernel_rfl) (h:Bf P n ops j e=some (f,args):=by kernel_rfl):RG P n K ops j e w :=
 RG.cl hc (fun v w' ⟨h1,h2⟩=>Z.vB p g h1 h2 (Q:=fun v=>RG P n K ops (j+1) (Ag e (Ad ops j).dst v) w') (fun r c hs hz=>H r c hs w' hz) hp) h
theorem RG.DU [Dp α] (p g:Nat){us:List Value}(hc:Calls P f args.toArray w (Af fun rv w'=>(∃ v0,rv=.tuple (v0::us).toArray∧VA w.heap.size w' ys v0)∧Ext w w')) (Z:St κ ρ Φ Ψ Θ w)
 (H:∀ a c w',St κ ρ Φ (⟨g,none,.sep (.s a c ys::seI Ψ p)⟩ :: ⟨g,none,.rep a c ys⟩ :: Ψ) Θ w'→RG P n K ops (j+1) (Ag e (Ad ops j).dst (.tuple (.slice a ys.length c::us).toArray)) w') (hp:isS Ψ p g=true:=by kernel_rfl) (h:Bf P n ops j e=some (f,args):=by kernel_rfl):RG P n K ops j e w :=
 RG.cl hc (fun v w' ⟨⟨v0,h0,h1⟩,h2⟩=>h0▸Z.vA p g h1 h2 (Q:=fun v=>RG P n K ops (j+1) (Ag e (Ad ops j).dst (.tuple (v::us).toArray)) w') (fun a c hz=>H a c w' hz) hp) h
theorem GE.DU {q:Nat}[Dp α] (p g:Nat){us:List Value}(hc:∀ w1,St κ ρ Φ Ψ Θ w1→Calls P f args.toArray w1 (Af fun rv w'=>(∃ v0,rv=.tuple (v0::us).toArray∧VA w1.heap.size w' ys v0)∧Ext w1 w')) (Z:St κ ρ Φ Ψ Θ w)
 (H:∀ a c w',St κ ρ Φ (⟨g,none,.sep (.s a c ys::seI Ψ p)⟩ :: ⟨g,none,.rep a c ys⟩ :: Ψ) Θ w'→GA P S n m L ops (q::l) (Ag e (Ad ops q).dst (.tuple (.slice a ys.length c::us).toArray)) w') (hp:isS Ψ p g=true:=by kernel_rfl) (h:Bf P n ops q e=some (f,args):=by kernel_rfl):GE P S n m L ops l q e w :=
 GE.cl (fun w1 hx=>hc w1 (Z.e hx)) (fun w1 hx v w' ⟨⟨v0,h0,h1⟩,h2⟩=>⟨Ext.chg h2,h0▸(Z.e hx).vA p g h1 h2 (Q:=fun v=>GA P S n m L ops (q::l) (Ag e (Ad ops q).dst (.tuple (v::us).toArray)) w') (fun a c hz=>H a c w' hz) hp⟩) h
theorem GE.DD {q:Nat}[Shp α] [Dp α] [Lf α] (p g:Nat) (hc:∀ w1,St κ ρ Φ Ψ Θ w1→Calls P f args.toArray w1 (Af fun rv w'=>VD w1.heap.size w' y rv∧Ext w1 w')) (Z:St κ ρ Φ Ψ Θ w)
 (H:Fa (Shp.k α) fun z=>∀ w',St κ ρ Φ (⟨g,none,.sep (Lf.its y z++seI Ψ p)⟩ :: (tg g none (Shp.facts y z)++Ψ)) Θ w'→GA P S n m L ops (q::l) (Ag e (Ad ops q).dst (.agg (Shp.cells y z).toArray)) w') (hp:isS Ψ p g=true:=by kernel_rfl) (h:Bf P n ops q e=some (f,args):=by kernel_rfl):GE P S n m L ops l q e w :=
 GE.cl (fun w1 hx=>hc w1 (Z.e hx)) (fun w1 hx v w' ⟨h1,h2⟩=>⟨Ext.chg h2,(Z.e hx).vD p g h1 h2 (Q:=fun v=>GA P S n m L ops (q::l) (Ag e (Ad ops q).dst v) w') (Eo _ (fun l h=>h w') H) hp⟩) h
theorem GE.DT {q:Nat}[Shp α] [Dp α] [Lf α] (p g:Nat){us:List Value}(hc:∀ w1,St κ ρ Φ Ψ Θ w1→Calls P f args.toArray w1 (Af fun rv w'=>(∃ v0,rv=.tuple (v0::us).toArray∧VD w1.heap.size w' y v0)∧Ext w1 w')) (Z:St κ ρ Φ Ψ Θ w)
 (H:Fa (Shp.k α) fun z=>∀ w',St κ ρ Φ (⟨g,none,.sep (Lf.its y z++seI Ψ p)⟩ :: (tg g none (Shp.facts y z)++Ψ)) Θ w'→GA P S n m L ops (q::l) (Ag e (Ad ops q).dst (.tuple (.agg (Shp.cells y z).toArray::us).toArray)) w') (hp:isS Ψ p g=true:=by kernel_rfl) (h:Bf P n ops q e=some (f,args):=by kernel_rfl):GE P S n m L ops l q e w :=
 GE.cl (fun w1 hx=>hc w1 (Z.e hx)) (fun w1 hx v w' ⟨⟨v0,h0,h1⟩,h2⟩=>⟨Ext.chg h2,h0▸(Z.e hx).vD p g h1 h2 (Q:=fun v=>GA P S n m L ops (q::l) (Ag e (Ad ops q).dst (.tuple (v::us).toArray)) w') (Eo _ (fun l h=>h w') H) hp⟩) h
theorem GE.DA {q:Nat}[Dp α] (p g:Nat) (hc:∀ w1,St κ ρ Φ Ψ Θ w1→Calls P f args.toArray w1 (Af fun rv w'=>VA w1.heap.size w' ys rv∧Ext w1 w')) (Z:St κ ρ Φ Ψ Θ w)
 (H:∀ a c w',St κ ρ Φ (⟨g,none,.sep (.s a c ys::seI Ψ p)⟩ :: ⟨g,none,.rep a c ys⟩ :: Ψ) Θ w'→GA P S n m L ops (q::l) (Ag e (Ad ops q).dst (.slice a ys.length c)) w') (hp:isS Ψ p g=true:=by kernel_rfl) (h:Bf P n ops q e=some (f,args):=by kernel_rfl):GE P S n m L ops l q e w :=
 GE.cl (fun w1 hx=>hc w1 (Z.e hx)) (fun w1 hx v w' ⟨h1,h2⟩=>⟨Ext.chg h2,(Z.e hx).vA p g h1 h2 (Q:=fun v=>GA P S n m L ops (q::l) (Ag e (Ad ops q).dst v) w') (fun a c hz=>H a c w' hz) hp⟩) h
theorem GE.DB {q:Nat}[Dp α] (p g:Nat){t:Nat}(hc:∀ w1,St κ ρ Φ Ψ Θ w1→Calls P f args.toArray w1 (Af fun rv w'=>VB k t w1.heap.size w' ys rv∧Ext w1 w')) (Z:St κ ρ Φ Ψ Θ w)
 (H:∀ r c (hs:List (Hd k)) w',St κ ρ (.raw g r t c ys hs::Φ) (⟨g,none,.sep (.e ys hs::seI Ψ p)⟩ :: Ψ) Θ w'→GA P S n m L ops (q::l) (Ag e (Ad ops q).dst (.slice (some ⟨r,0,none⟩) ys.length c)) w') (hp:isS Ψ p g=true:=by kernel_rfl) (h:Bf P n ops q e=some (f,args):=by kernel_rfl):GE P S n m L ops l q e w :=
 GE.cl (fun w1 hx=>hc w1 (Z.e hx)) (fun w1 hx v w' ⟨h1,h2⟩=>⟨Ext.chg h2,(Z.e hx).vB p g h1 h2 (Q:=fun v=>GA P S n m L ops (q::l) (Ag e (Ad ops q).dst v) w') (fun r c hs hz=>H r c hs w' hz) hp⟩) h
end
end
end Go.Proofs.YtcginoabkicdiaaGreat
