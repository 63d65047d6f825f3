/- An index whose postings and names are shared with nothing: what sorting leaves. No conditions. -/
import Derived.Test.YtcginoabkicdiaaGreatDzzW20
import Derived.Test.YtcginoabkicdiaaGreatDzzDt
set_option linter.unusedVariables false
set_option linter.unusedSimpArgs false
namespace Go.Proofs.YtcginoabkicdiaaGreat
theorem Sw {α β:Type}{f:α→β}{l' m:List β}(h:l'.Perm m):∀ {l:List α},l.map f=m→∃ l0:List α,l0.Perm l∧l0.map f=l':=by
 induction h with
 | nil=>intro l hm; exact ⟨l,List.Perm.refl _,hm⟩
 | cons x _ ih =>
   intro l hm
   cases l with
   | nil=>cases hm
   | cons a l =>
     simp only [List.map_cons,List.cons.injEq] at hm
     obtain ⟨l0,h1,h2⟩:=ih hm.2
     exact ⟨a::l0,h1.cons a,by simp [hm.1,h2]⟩
 | swap x y r =>
   intro l hm
   match l,hm with
   | a :: b :: l, hm =>
     simp only [List.map_cons,List.cons.injEq] at hm
     exact ⟨b::a::l,List.Perm.swap a b l,by simp [hm.1,hm.2.1,hm.2.2]⟩
 | trans _ _ ih1 ih2 =>
   intro l hm
   obtain ⟨l0,h1,h2⟩:=ih2 hm
   obtain ⟨l1,h3,h4⟩:=ih1 h2
   exact ⟨l1,h3.trans h1,h4⟩
def P6 (tI:TypeId) (w:World) (y:SX) (ri:Nat):Prop :=
 (y.a=none∧y.n=0∧y.c=0∧y.p.ids=[])∨(y.a=some ⟨ri,0,none⟩∧Own w ri tI all y.n y.c y.p.ids)
theorem P6.chg {tI:TypeId}{w w':World}{y:SX}{ri:Nat}{S:Nat→Prop}(h:P6 tI w y ri) (hx:Chg S w w') (hr:¬ S ri):P6 tI w' y ri:=by
 rcases h with h | ⟨h1,h2⟩
 ·exact .inl h
 ·exact .inr ⟨h1,PS Av h2 hx hr⟩
theorem IX.sx {tX tP tI s0 s1:Nat}{G F:Nat→Prop}{w:World}{b3 r c n:Nat}{an:Option Addr}{nn cn:Nat}{nms:List (List Tag)}{ys:List RP}{xs:List Pst}{rs:List Nat}(h:IX tX tP tI s0 s1 G w b3 r c an nn cn nms ys xs rs) (ho:Own w r tP F n c xs) :
 ∃ L:List (SX × Nat),(L.map Prod.fst).map SX.p=xs∧L.map Prod.snd=rs∧(∀ (i:Nat) y,(L.map Prod.fst)[i]? = some y→Rep.rep w (fun b=>F b∧b≠r) y.p (DV y)∧Has w ⟨r,i * 3,none⟩ (DV y))∧∀ q∈L,P6 tI w q.1 q.2:=by
 obtain ⟨zs,h1,h2⟩:=Zd ho
 have hl:zs.length=rs.length:=by rw [h.lr,← h1,List.length_map]
 refine ⟨zs.zip rs,?_,?_,fun i y hy=>?_,fun q hq=>?_⟩
 ·rw [List.map_fst_zip AB]; exact h1
 ·rw [List.map_snd_zip AB]
 ·rw [List.map_fst_zip AB] at hy; exact h2 i y hy
 ·obtain ⟨i,hi⟩:=List.mem_iff_getElem?.1 hq
  obtain ⟨y,ri⟩:=q
  rw [List.getElem?_zip_eq_some] at hi
  obtain ⟨hy,hri⟩:=hi
  have hil:i< zs.length:=(List.getElem?_eq_some_iff.1 hy).1
  have hx:xs[i]? = some y.p:=by rw [← h1,List.getElem?_map,hy]; rfl
  have hyl:i< ys.length:=by rw [h.lx,← h1,List.length_map]; exact hil
  have hyi:ys[i]? = some ys[i]:=AU hyl
  obtain ⟨e1,e2,e3⟩:=h.el i y.p ys[i] ri hx hyi hri
  obtain ⟨cs,g1,g2⟩:=h.own.elem i _ hyi
  have g1':cs=[.string (bs ys[i].key),.string (bs ys[i].val),.slice ys[i].a ys[i].n ys[i].c]:=g1
  subst g1'
  have g3:=g2 2 _ rfl
  have g4:=(h2 i y hy).2 2 (.slice y.a y.n y.c) rfl
  have g5:w.cell? ((⟨r,i * 3,none⟩:Addr).add 2)=some (.slice ys[i].a ys[i].n ys[i].c):=g3
  rw [g4] at g5
  simp only [Option.some.injEq,Value.slice.injEq] at g5
  obtain ⟨q1,q2,q3⟩:=g5
  unfold P6
  rw [q1,q2,q3]
  exact e3
variable {w:World} {F:Nat→Prop}
theorem Um {tP tI:TypeId}{r n c:Nat}{L:List (SX × Nat)}(hnd:(r::L.map Prod.snd).Nodup) (ho:Own w r tP F n c ((L.map Prod.fst).map SX.p)) (hh:∀ (i:Nat) y,(L.map Prod.fst)[i]? = some y→Has w ⟨r,i * 3,none⟩ (DV y)) (hi:∀ q∈L,P6 tI w q.1 q.2) :
 DpS w (fun b=>b=r∨b∈L.map Prod.snd) (some ⟨r,0,none⟩) n c ((L.map Prod.fst).map SX.p):=by
 rw [List.nodup_cons] at hnd
 refine ⟨ho.len,ho.le,ho.cap,fun _=>rfl,fun _=>.inl rfl,fun _=>let ⟨cur,g,_⟩:=ho.row; ⟨cur,tP,g⟩,fun i b=>∃ q,L[i]? = some q∧b=q.2,?_,?_,fun i x hx=>?_⟩
 ·rintro i j b ⟨q,h1,rfl⟩ ⟨q',h2,e⟩
  refine Classical.byContradiction fun hne=>?_
  have a1:(L.map Prod.snd)[i]? = some q.2:=by rw [List.getElem?_map,h1]; rfl
  have a2:(L.map Prod.snd)[j]? = some q'.2:=by rw [List.getElem?_map,h2]; rfl
  exact HB hnd.2 a1 a2 (fun e2=>hne e2.symm) e.symm
 ·rintro i b ⟨q,h1,rfl⟩
  have hm:q.2∈L.map Prod.snd:=List.mem_map.2 ⟨q,AV h1,rfl⟩
  exact ⟨.inr hm,fun e=>hnd.1 (by have e':q.2=r:=e; rw [← e']; exact hm)⟩
 ·rw [List.map_map,List.getElem?_map] at hx
  cases hq:L[i]? with
  | none=>rw [hq] at hx; cases hx
  | some q =>
    rw [hq] at hx
    simp only [Option.map_some,Function.comp,Option.some.injEq] at hx
    subst hx
    have hy:(L.map Prod.fst)[i]? = some q.1:=by rw [List.getElem?_map,hq]; rfl
    have hI:=hi q (AV hq)
    have hn:q.1.n=q.1.p.ids.length:=by
     rcases hI with ⟨_,h2,_,h4⟩ | ⟨_,h2⟩
     ·rw [h2,h4]; rfl
     ·exact h2.len
    refine ⟨DV q.1,⟨[(q.1.a,q.1.c)],rfl,by unfold DV; rw [hn]; rfl,Qm ?_⟩,by show Has w ⟨r,0+i * 3,none⟩ _; rw [Nat.zero_add]; exact hh i q.1 hy⟩
    show DpS w _ q.1.a q.1.p.ids.length q.1.c q.1.p.ids
    rcases hI with ⟨h1,h2,h3,h4⟩ | ⟨h1,h2⟩
    ·rw [h1,h3,h4]; exact DpS.nil _ _ _ _ AE
    ·rw [h1,← hn]; exact h2.dps ⟨q,hq,rfl⟩
def VE (t s:Nat) (w:World) (ys:List (List Tag)) (v:Value):Prop :=
 ∃ r n c,v=.slice (some ⟨r,0,none⟩) n c∧Own w r t (nin (ge s) []) n c ys∧s≤r∧n=ys.length∧BK w (ge s) [.s (some ⟨r,0,none⟩) c ys]
theorem Zv {t s:Nat}{w:World}{ys:List (List Tag)}{v:Value}(h:VB 0 t s w ys v):VE t s w ys v:=by
 obtain ⟨r,c,hs,rfl,ho,hr,hi⟩:=h
 obtain ⟨D,D',⟨hl,E,h1,h2,h3⟩,_,h4,_⟩:=hi
 have hd:DpS w (fun b=>D b∨b=r) (some ⟨r,0,none⟩) ys.length c ys:=ElS.WC ⟨hl,E,h1,h2,h3⟩ ho (fun hD=>(h4 r hD).1.2 AI) rfl
 have hX:∀ b,(D b∨b=r)→ge s b:=fun b hb=>hb.elim (fun hD=>(h4 b hD).1.1) (fun e=>by subst e; exact hr)
 refine ⟨r,ys.length,c,rfl,⟨rfl,ho.le,ho.cap,ho.row,fun i x hx=>?_⟩,hr,rfl,CU (Qm (it:=.s (some ⟨r,0,none⟩) c ys) hd) fun b _ hb=>hX b hb⟩
 have hi:i< hs.length:=by rw [hl]; exact (List.getElem?_eq_some_iff.1 hx).1
 obtain ⟨cs,g1,g2⟩:=ho.elem i hs[i] (AU hi)
 have e:cs=hs[i].cs:=g1
 subst e
 refine ⟨_,Rep.frame (Dp.rp (h3 i x hs[i] hx (AU hi))) (fun b _ hb=>⟨⟨⟨(h4 b (h2 i b hb)).1.1,fun hm=>by cases hm⟩,fun e=>(h4 b (h2 i b hb)).1.2 (by rw [e]; exact .head _)⟩,rfl⟩),g2⟩
theorem Ym {tX tP tI s0:Nat}{G F:Nat→Prop}{w w1 w2 w3 w4 w5:World}{b3 r c:Nat}{an:Option Addr}{nn cn:Nat}{names:List (List Tag)}{ys:List RP}{xs:List Pst}{rs:List Nat}{q m d b:Nat}{L L0:List (SX × Nat)}{y:Idx}
 (hix:IX tX tP tI s0 w2.heap.size G w3 b3 r c an nn cn names ys xs rs) (hN:m=names.length∧BK w2 (ge w1.heap.size) [.s (some ⟨q,0,none⟩) d names]) (hE:Ext w2 w3) (hw:w.heap.size≤w1.heap.size) (h12:w1.heap.size≤w2.heap.size) (hb:b< w1.heap.size)
 (hs:L.map Prod.snd=rs) (hI:∀ z∈L,P6 tI w3 z.1 z.2) (hp:L0.Perm L) (ho:Own w4 r tP F ys.length c ((L0.map Prod.fst).map SX.p)) (hh:∀ (i:Nat) z,(L0.map Prod.fst)[i]? = some z→Has w4 ⟨r,i * 3,none⟩ (DV z)) (hx:Chg (one r) w3 w4) (hx2:Chg (one b) w4 w5)
 (hy:(⟨names,(L0.map Prod.fst).map SX.p⟩:Idx)=y):VD w.heap.size w5 y (.agg #[.slice (some ⟨q,0,none⟩) m d,.slice (some ⟨r,0,none⟩) ys.length c]):=by
 subst hy
 have hnd:=hix.nd
 have hnew:=hix.new
 simp only [List.nodup_cons,List.mem_cons,not_or] at hnd
 have hrn:w2.heap.size≤r:=hnew r AD
 have hsnd:(L0.map Prod.snd).Perm rs:=hs▸hp.map Prod.snd
 have hnd2:(r::L0.map Prod.snd).Nodup:=List.nodup_cons.2 ⟨fun hm=>hnd.2.1 (hsnd.mem_iff.1 hm),hsnd.nodup_iff.2 hnd.2.2⟩
 have hI4:∀ z∈L0,P6 tI w4 z.1 z.2:=fun z hz=>(hI z (hp.mem_iff.1 hz)).chg hx (fun e=>hnd.2.1 (by
  have e':z.2=r:=e
  rw [← e',← hs]
  exact List.mem_map.2 ⟨z,hp.mem_iff.1 hz,rfl⟩))
 have hd4:=Um hnd2 ho hh hI4
 have hD:∀ k,(k=r∨k∈L0.map Prod.snd)→w2.heap.size≤k:=fun k hk=>hk.elim (fun e=>by omega) (fun hm=>hnew k (by simp [hsnd.mem_iff.1 hm]))
 have hd5:DpS w5 (fun b=>b=r∨b∈L0.map Prod.snd) (some ⟨r,0,none⟩) ys.length c ((L0.map Prod.fst).map SX.p):=hd4.fr fun k hk hkD=>⟨hkD,hx2.block k hk (fun e=>by have e':k=b:=e; have:=hD k hkD; omega)⟩
 have hn5:BK w5 (fun k=>w1.heap.size≤k∧k< w2.heap.size) [.s (some ⟨q,0,none⟩) d names]:=Cj hN.2 fun k hk hkD=>by
  have hkD':w1.heap.size≤k:=hkD
  refine ⟨⟨hkD',hk⟩,?_⟩
  have e3:w3.heap.size≤w4.heap.size:=hx.size
  have e2:w2.heap.size≤w3.heap.size:=hE.size
  rw [hx2.block k AB (fun e=>by have e':k=b:=e; omega),hx.block k AB (fun e=>by have e':k=r:=e; omega),hE.block hk]
 have hl:=ho.len
 refine ⟨[(some ⟨q,0,none⟩,d),(some ⟨r,0,none⟩,c)],rfl,?_,Hr (l:=[.s (some ⟨q,0,none⟩) d names]) (r:=[.s (some ⟨r,0,none⟩) c ((L0.map Prod.fst).map SX.p)]) hn5 (Qm (it:=.s (some ⟨r,0,none⟩) c ((L0.map Prod.fst).map SX.p)) (by have h9:=hd5; rw [hl] at h9; exact h9)) (fun k hk hk2=>by have:=hD k hk2; omega) (fun k hk=>Nat.le_trans hw hk.1) (fun k hk=>Nat.le_trans hw (Nat.le_trans h12 (hD k hk)))⟩
 rw [hN.1,hl]
 rfl
end Go.Proofs.YtcginoabkicdiaaGreat
