/- walks; squeezed -/
import Derived.Test.YtfnpaglcnmcnbaaGreatFluzMod9
set_option linter.unusedVariables false
set_option linter.unusedSimpArgs false
namespace Go.Proofs.YtfnpaglcnmcnbaaGreat
set_option maxRecDepth 100000
set_option maxHeartbeats 4000000
theorem c_spec_l22Copy (w_ : Wld) {w : World} {F : Nat → Prop} {a1 : Option Addr} {n1 c1 : Nat} (h1 : RepS w F a1 n1 c1 w_.store.idx.names) {a2 : Option Addr} {n2 c2 : Nat} (h2 : RepS w F a2 n2 c2 w_.store.idx.posts) {a3 : Option Addr} {n3 c3 : Nat} (h3 : RepS w F a3 n3 c3 w_.store.parts) {a4 : Option Addr} {n4 c4 : Nat} (h4 : RepS w F a4 n4 c4 w_.store.mem) {a5 : Option Addr} {n5 c5 : Nat} (h5 : RepS w F a5 n5 c5 w_.disk.files) {a6 : Option Addr} {n6 c6 : Nat} (h6 : RepS w F a6 n6 c6 w_.disk.list) {a7 : Option Addr} {n7 c7 : Nat} (h7 : RepS w F a7 n7 c7 w_.disk.names) (p0 : WI w_) : Calls Tryz.prog 155 [.agg #[.slice a1 n1 c1, .slice a2 n2 c2, .slice a3 n3 c3, .slice a4 n4 c4, .slice a5 n5 c5, .slice a6 n6 c6, .slice a7 n7 c7, .int .i64 w_.disk.next]].toArray w (rets fun rv w' => (∃ (a0 : Option Addr) (n0 c0 : Nat) (a1 : Option Addr) (n1 c1 : Nat) (a2 : Option Addr) (n2 c2 : Nat) (r3 n3 c3 : Nat) (r4 n4 c4 : Nat) (r5 n5 c5 : Nat) (r6 n6 c6 : Nat), rv = .agg #[.slice a0 n0 c0, .slice a1 n1 c1, .slice a2 n2 c2, .slice (some ⟨r3, 0, none⟩) n3 c3, .slice (some ⟨r4, 0, none⟩) n4 c4, .slice (some ⟨r5, 0, none⟩) n5 c5, .slice (some ⟨r6, 0, none⟩) n6 c6, .int .i64 ((((copyW w_)).disk).next)] ∧ RepS w' (nin (ge w.heap.size) [r3, r4, r5, r6]) a0 n0 c0 (((((copyW w_)).store).idx).names) ∧ RepS w' (nin (ge w.heap.size) [r3, r4, r5, r6]) a1 n1 c1 (((((copyW w_)).store).idx).posts) ∧ RepS w' (nin (ge w.heap.size) [r3, r4, r5, r6]) a2 n2 c2 ((((copyW w_)).store).parts) ∧ Own w' r3 51 (nin (ge w.heap.size) [r3, r4, r5, r6]) n3 c3 ((((copyW w_)).store).mem) ∧ w.heap.size ≤ r3 ∧ Own w' r4 88 (nin (ge w.heap.size) [r3, r4, r5, r6]) n4 c4 ((((copyW w_)).disk).files) ∧ w.heap.size ≤ r4 ∧ Nb r4 r3 ∧ Own w' r5 3 (nin (ge w.heap.size) [r3, r4, r5, r6]) n5 c5 ((((copyW w_)).disk).list) ∧ w.heap.size ≤ r5 ∧ Nb r5 r3 ∧ Nb r5 r4 ∧ Own w' r6 31 (nin (ge w.heap.size) [r3, r4, r5, r6]) n6 c6 ((((copyW w_)).disk).names) ∧ w.heap.size ≤ r6 ∧ Nb r6 r3 ∧ Nb r6 r4 ∧ Nb r6 r5) ∧ Ext w w') := by
 refine goT Tryz.func155 ?_
 obtain ⟨rfl, bH, h1⟩ := h1.tp
 obtain ⟨rfl, bI, h2⟩ := h2.tp
 obtain ⟨rfl, bJ, h3⟩ := h3.tp
 obtain ⟨rfl, bK, h4⟩ := h4.tp
 obtain ⟨rfl, bL, h5⟩ := h5.tp
 obtain ⟨rfl, bM, h6⟩ := h6.tp
 obtain ⟨rfl, bN, h7⟩ := h7.tp
 refine .s <| .g <| .np 100 [.slice a1 w_.store.idx.names.length c1, .slice a2 w_.store.idx.posts.length c2, .slice a3 w_.store.parts.length c3, .slice a4 w_.store.mem.length c4, .slice a5 w_.disk.files.length c5, .slice a6 w_.disk.list.length c6, .slice a7 w_.disk.names.length c7, vI w_.disk.next] fun O bW aF ax V ba => ?_
 replace ⟨h1, h2, h3, h4, h5, h6, h7⟩ := (sn [] ax aF).g7 h1 h2 h3 h4 h5 h6 h7
 have C := ax
 clear ax ba aF
 refine .np 100 [.slice none 0 0, .slice none 0 0, .slice none 0 0, .slice none 0 0, .slice none 0 0, .slice none 0 0, .slice none 0 0, vI 0] fun W bX ay aG E bc => ?_
 have bO := C.cn ay
 replace ⟨h1, h2, h3, h4, h5, h6, h7, V, C⟩ := (sn [O] aG ay).g9 h1 h2 h3 h4 h5 h6 h7 V C
 clear aG bc ay
 refine .d <| .s <| .gd nil 5 fun bY aH => ?_
 replace ⟨h1, h2, h3, h4, h5, h6, h7, V, E, C⟩ := (se [W, O] aH).g10 h1 h2 h3 h4 h5 h6 h7 V E C
 clear aH
 refine .r [0] <| .ln 1 V id <| .r [3] <| .ln 4 V id <| .go 2 <| .cl (fun aN aj => c_spec_l13Copy w_.store (h1.ta.ext aj) (h2.ta.ext aj) (h3.ta.ext aj) (h4.ta.ext aj) p0.sto.sz (w := aN) (F := all)) ?_
 intro aN aj
 replace ⟨h5, h6, h7, V, E, C⟩ := (se [W, O] aj).g6 h5 h6 h7 V E C
 rintro bZ aD ⟨⟨bd, b0, bg, bh, b6, bi, bj, b7, bk, Z, bm, bn, rfl, ac, ae, af, J, av⟩, az⟩
 have al := al2 E.lt V.lt
 have aw : Gb w.heap.size aN.heap.size := C.size
 have hkeep_ := az
 have bP := nb_ge av E.lt
 have bo := gb_ge av C.size
 replace ⟨h5, h6, h7, V, E, C⟩ := (sz [W, O] az av).g6 h5 h6 h7 V E C
 clear az av
 refine ⟨Ext.chg hkeep_, ?_⟩
 replace ac : RepS aD (nin (ge w.heap.size) [Z, W, O]) _ _ _ _ := RepS.takeM (s0 := w.heap.size) (M := [W, O]) ac al aw
 have bQ := ac.max
 replace ae : RepS aD (nin (ge w.heap.size) [Z, W, O]) _ _ _ _ := RepS.takeM (s0 := w.heap.size) (M := [W, O]) ae al aw
 have bR := ae.max
 replace af : RepS aD (nin (ge w.heap.size) [Z, W, O]) _ _ _ _ := RepS.takeM (s0 := w.heap.size) (M := [W, O]) af al aw
 have bS := af.max
 replace J : Own aD Z 51 (nin (ge w.heap.size) [Z, W, O]) _ _ _ := Own.takeM (s0 := w.heap.size) (M := [W, O]) J al aw
 have bT := J.max
 have bU := J.len
 clear al
 have bq := ac.len
 subst bq
 have br := ae.len
 subst br
 have bt := af.len
 subst bt
 refine .d fun aO aI => ?_
 replace ⟨h5, h6, h7, V, E, ac, ae, af, J, C⟩ := (se [Z, W, O] aI).g10 h5 h6 h7 V E ac ae af J C
 clear aI
 refine .cl (c_spec_l21Copy w_.disk h5.ta h6.ta h7.ta (by have := p0.dsk.nm.len; omega) (fun n hn => by have := (p0.dsk.nm.sz n hn).1; omega) (by have := p0.dsk.nl; omega) (by have := p0.dsk.nf; omega) (fun f hf => (p0.dsk.file f hf).sz) (w := aO) (F := all)) ?_
 rintro b8 aE ⟨⟨am, bu, bv, ao, aJ, aK, aq, aL, aM, rfl, ag, ar, aa, ah, aP, ab, ai, aQ, aR⟩, aA⟩
 have ak := al3 J.lt E.lt V.lt
 have au : Gb w.heap.size aO.heap.size := C.size
 have bw := nb_ge ar E.lt
 have aS := nb_ge ar J.lt
 have aT := gb_ge ar C.size
 have bz := nb_ge ah E.lt
 have aU := nb_ge ah J.lt
 have aV := gb_ge ah C.size
 have bA := nb_ge ai E.lt
 have aW := nb_ge ai J.lt
 have aX := gb_ge ai C.size
 have aB : Mv [Z, W, O] [am, ao, aq, Z, W, O] aO aE := Mv.cons (Mv.cons (Mv.cons (Mv.ext aA) ai) ah) ar
 replace ⟨E, ac, ae, af, J, C⟩ := (sp aB aA).g6 E ac ae af J C
 clear aB aA ar ah ai
 replace ag : Own aE am 88 (nin (ge w.heap.size) [am, ao, aq, Z, W, O]) _ _ _ := Own.takeM (s0 := w.heap.size) (M := [Z, W, O]) ag ak au
 have bB := ag.max
 have bC := ag.len
 replace aa : Own aE ao 3 (nin (ge w.heap.size) [am, ao, aq, Z, W, O]) _ _ _ := Own.takeM (s0 := w.heap.size) (M := [Z, W, O]) aa ak au
 have bD := aa.max
 have bE := aa.len
 replace ab : Own aE aq 31 (nin (ge w.heap.size) [am, ao, aq, Z, W, O]) _ _ _ := Own.takeM (s0 := w.heap.size) (M := [Z, W, O]) ab ak au
 have bF := ab.max
 have bG := ab.len
 clear ak
 refine .r 1 <| .sc [.slice bd (((((copyS w_.store)).idx).names).length) bg, .slice bh (((((copyS w_.store)).idx).posts).length) bi, .slice bj ((((copyS w_.store)).parts).length) bk, vS Z bm bn, vS am bu bv, vS ao aJ aK, vS aq aL aM, vI (((copyD w_.disk)).next)] E fun bV aC aY aZ => ?_
 replace ⟨ac, ae, af, J, ag, aa, ab, C⟩ := (so [am, ao, aq, Z, W, O] aC).g8 ac ae af J ag aa ab C
 clear aC aZ
 exact .d <| .rb Tryz.func155 Tryz.results155 aY ⟨⟨bd, ((((copyS w_.store)).idx).names).length, bg, bh, ((((copyS w_.store)).idx).posts).length, bi, bj, (((copyS w_.store)).parts).length, bk, Z, bm, bn, am, bu, bv, ao, aJ, aK, aq, aL, aM, rfl, ((RepS.lessM ac (all_cons (.tail _ (.tail _ (.tail _ (.head _)))) (all_cons (.head _) (all_cons (.tail _ (.head _)) (all_cons (.tail _ (.tail _ (.head _))) all_nil))))).eqx (by rfl)), ((RepS.lessM ae (all_cons (.tail _ (.tail _ (.tail _ (.head _)))) (all_cons (.head _) (all_cons (.tail _ (.head _)) (all_cons (.tail _ (.tail _ (.head _))) all_nil))))).eqx (by rfl)), ((RepS.lessM af (all_cons (.tail _ (.tail _ (.tail _ (.head _)))) (all_cons (.head _) (all_cons (.tail _ (.head _)) (all_cons (.tail _ (.tail _ (.head _))) all_nil))))).eqx (by rfl)), ((Own.lessM J (all_cons (.tail _ (.tail _ (.tail _ (.head _)))) (all_cons (.head _) (all_cons (.tail _ (.head _)) (all_cons (.tail _ (.tail _ (.head _))) all_nil))))).eqx (by rfl)), bo, ((Own.lessM ag (all_cons (.tail _ (.tail _ (.tail _ (.head _)))) (all_cons (.head _) (all_cons (.tail _ (.head _)) (all_cons (.tail _ (.tail _ (.head _))) all_nil))))).eqx (by rfl)), aT, aS, ((Own.lessM aa (all_cons (.tail _ (.tail _ (.tail _ (.head _)))) (all_cons (.head _) (all_cons (.tail _ (.head _)) (all_cons (.tail _ (.tail _ (.head _))) all_nil))))).eqx (by rfl)), aV, aU, aP, ((Own.lessM ab (all_cons (.tail _ (.tail _ (.tail _ (.head _)))) (all_cons (.head _) (all_cons (.tail _ (.head _)) (all_cons (.tail _ (.tail _ (.head _))) all_nil))))).eqx (by rfl)), aX, aW, aQ, aR⟩, C⟩
theorem c_spec_l22Fall (w_ : Wld) {w : World} {F : Nat → Prop} {a1 : Option Addr} {n1 c1 : Nat} (h1 : RepS w F a1 n1 c1 w_.store.idx.names) {a2 : Option Addr} {n2 c2 : Nat} (h2 : RepS w F a2 n2 c2 w_.store.idx.posts) {a3 : Option Addr} {n3 c3 : Nat} (h3 : RepS w F a3 n3 c3 w_.store.parts) {a4 : Option Addr} {n4 c4 : Nat} (h4 : RepS w F a4 n4 c4 w_.store.mem) {a5 : Option Addr} {n5 c5 : Nat} (h5 : RepS w F a5 n5 c5 w_.disk.files) {a6 : Option Addr} {n6 c6 : Nat} (h6 : RepS w F a6 n6 c6 w_.disk.list) {a7 : Option Addr} {n7 c7 : Nat} (h7 : RepS w F a7 n7 c7 w_.disk.names) (p0 : DskI w_.disk) : Calls Tryz.prog 181 [.agg #[.slice a1 n1 c1, .slice a2 n2 c2, .slice a3 n3 c3, .slice a4 n4 c4, .slice a5 n5 c5, .slice a6 n6 c6, .slice a7 n7 c7, .int .i64 w_.disk.next]].toArray w (rets fun rv w' => VS (ge w.heap.size) w' (fallW w_ : Wld) rv ∧ Ext w w') := by
 refine goT Tryz.func181 ?_
 obtain ⟨rfl, cq, h1⟩ := h1.tp
 obtain ⟨rfl, cr, h2⟩ := h2.tp
 obtain ⟨rfl, cu, h3⟩ := h3.tp
 obtain ⟨rfl, cv, h4⟩ := h4.tp
 obtain ⟨rfl, cw, h5⟩ := h5.tp
 obtain ⟨rfl, cx, h6⟩ := h6.tp
 obtain ⟨rfl, cy, h7⟩ := h7.tp
 refine .s <| .g <| .np 100 [.slice a1 w_.store.idx.names.length c1, .slice a2 w_.store.idx.posts.length c2, .slice a3 w_.store.parts.length c3, .slice a4 w_.store.mem.length c4, .slice a5 w_.disk.files.length c5, .slice a6 w_.disk.list.length c6, .slice a7 w_.disk.names.length c7, vI w_.disk.next] fun E dd aJ aK W bL => ?_
 have cz : Cov nil w E := cov_new aJ (Nat.le_refl _)
 replace ⟨h5, h6, h7⟩ := (sn [] aK aJ).g3 h5 h6 h7
 have C := aK
 clear aK bL aJ
 refine .np 100 [.slice none 0 0, .slice none 0 0, .slice none 0 0, .slice none 0 0, .slice none 0 0, .slice none 0 0, .slice none 0 0, vI 0] fun J bM aC bn O bN => ?_
 have cA := nb_new aC W.lt
 have cB := C.cn aC
 replace ⟨h5, h6, h7, W, C⟩ := (sn [E] bn aC).g5 h5 h6 h7 W C
 clear bn bN aC
 refine .d <| .s <| .g <| .r 1 <| .ln W <| .cl (c_spec_l21Tidy w_.disk h5 h6 h7 (by have := p0.nf; omega) (w := bM) (F := nin (fo F w.heap.size) [J, E])) ?_
 rintro de bO ⟨⟨_, rfl, ⟨df, dg, dh, di, dj, dk, dm, dp, dq, rfl, aL, aM, aN⟩⟩, bo⟩
 have aD := al2 O.lt W.lt
 have aO : Gb w.heap.size bM.heap.size := C.size
 replace ⟨W, O, C⟩ := (se [] bo).g3 W O C
 clear bo
 replace aL := RepS.mixed' (M := [J, E]) aL aD aO
 have cC := aL.max
 replace aM := RepS.mixed' (M := [J, E]) aM aD aO
 have cD := aM.max
 replace aN := RepS.mixed' (M := [J, E]) aN aD aO
 have cE := aN.max
 clear aD
 have bP := aL.len
 subst bP
 have bQ := aM.len
 subst bQ
 have bR := aN.len
 subst bR
 refine .cl (c_spec_l21Copy (tidyD w_.disk) aL.ta aM.ta aN.ta (by have := p0.tidy.nm.len; omega) (fun n hn => by have := (p0.tidy.nm.sz n hn).1; omega) (by have := p0.tidy.nl; omega) (by have := p0.tidy.nf; omega) (fun f hf => (p0.tidy.file f hf).sz) (w := bO) (F := all)) ?_
 rintro dr bt ⟨⟨am, bg, bh, al, bi, bj, ak, bk, bm, rfl, ao, aE, aj, aF, cF, af, aG, cG, cH⟩, bq⟩
 have aH := al2 O.lt W.lt
 have aP : Gb w.heap.size bO.heap.size := C.size
 have cI := nb_ge aE W.lt
 have cJ := nb_ge aE O.lt
 have bS := gb_ge aE C.size
 have cK := nb_ge aF W.lt
 have cL := nb_ge aF O.lt
 have bu := gb_ge aF C.size
 have bV := nb_ge aG W.lt
 have bW := nb_ge aG O.lt
 have bv := gb_ge aG C.size
 replace ⟨W, O, C⟩ := (se [] bq).g3 W O C
 clear bq aE aF aG
 replace ao : Own bt am 88 (nin (ge w.heap.size) [am, al, ak, J, E]) _ _ _ := Own.takeM (s0 := w.heap.size) (M := [J, E]) ao aH aP
 have bX := ao.max
 have bY := ao.len
 replace aj : Own bt al 3 (nin (ge w.heap.size) [am, al, ak, J, E]) _ _ _ := Own.takeM (s0 := w.heap.size) (M := [J, E]) aj aH aP
 have bZ := aj.max
 have b0 := aj.len
 replace af : Own bt ak 31 (nin (ge w.heap.size) [am, al, ak, J, E]) _ _ _ := Own.takeM (s0 := w.heap.size) (M := [J, E]) af aH aP
 have b6 := af.max
 have b7 := af.len
 clear aH
 refine .r 1 <| .sb 4 (.agg #[vS am bg bh, vS al bi bj, vS ak bk bm, vI (((copyD (tidyD w_.disk))).next)]) [.slice a1 w_.store.idx.names.length c1, .slice a2 w_.store.idx.posts.length c2, .slice a3 w_.store.parts.length c3, .slice a4 w_.store.mem.length c4, vS am bg bh, vS al bi bj, vS ak bk bm, vI (((copyD (tidyD w_.disk))).next)] W fun ax aQ aa bw => ?_
 replace ⟨O, ao, aj, af, C⟩ := (so [am, al, ak, J, E] aQ).g5 O ao aj af C
 clear aQ bw
 refine .d <| .s <| .g <| .r 1 <| .ln aa ?_
 have V := ao.sl bS
 replace ⟨aj, af⟩ := (sd ax [am, al, ak, J, E] am).g2 aj af
 have Z := aj.sl bu
 replace ⟨V, af⟩ := (sd ax [al, ak, J, E] al).g2 V af
 have ac := af.sl bv
 replace ⟨V, Z⟩ := (sd ax [ak, J, E] ak).g2 V Z
 refine .cl (c_spec_l21Open ((copyD (tidyD w_.disk))) (V.base (fun _ _ h => .inr h)) (Z.base (fun _ _ h => .inr h)) (ac.base (fun _ _ h => .inr h)) (by have := p0.tidy.copy.nm.len; omega) p0.tidy.copy.nm.sz (by have := p0.tidy.copy.nl; omega) p0.tidy.copy.at (w := ax) (F := nin (fo F w.heap.size) [J, E])) ?_
 rintro cM br ⟨⟨_, rfl, ⟨cN, cO, cP, cQ, cR, cS, cT, cU, cV, cW, cX, cY, rfl, ay, az, aA, aB⟩⟩, aR⟩
 have aq := al2 O.lt aa.lt
 have av : Gb w.heap.size ax.heap.size := C.size
 replace ⟨aa, O, V, Z, ac, C⟩ := (se [J, E] aR).g6 aa O V Z ac C
 clear aR
 replace ay := RepS.mixed' (M := [J, E]) ay aq av
 have b8 := ay.max
 replace az := RepS.mixed' (M := [J, E]) az aq av
 have b9 := az.max
 replace aA := RepS.mixed' (M := [J, E]) aA aq av
 have cd := aA.max
 replace aB := RepS.mixed' (M := [J, E]) aB aq av
 have ce := aB.max
 clear aq
 have bz := ay.len
 subst bz
 have bA := az.len
 subst bA
 have bB := aA.len
 subst bB
 have bC := aB.len
 subst bC
 refine .cl (c_spec_l13Copy (⟨(⟨((openS ((copyD (tidyD w_.disk)))).idx).names, ((openS ((copyD (tidyD w_.disk)))).idx).posts⟩ : Idx), (openS ((copyD (tidyD w_.disk)))).parts, (openS ((copyD (tidyD w_.disk)))).mem⟩ : Sto) ay.ta az.ta aA.ta aB.ta p0.tidy.copy.open.sz (w := br) (F := all)) ?_
 rintro cZ aI ⟨⟨aS, c8, aT, aU, c9, aV, aW, da, aX, ae, aY, aZ, rfl, ag, ah, ai, ab, ar⟩, ba⟩
 have au := al2 O.lt aa.lt
 have aw : Gb w.heap.size br.heap.size := C.size
 have cg := nb_ge ar aa.lt
 have ci := nb_ge ar O.lt
 have bD := gb_ge ar C.size
 replace ⟨aa, O, V, Z, ac, C⟩ := (sz [J, E] ba ar).g6 aa O V Z ac C
 clear ba ar
 replace ag : RepS aI (nin (ge w.heap.size) [ae, J, E]) _ _ _ _ := RepS.takeM (s0 := w.heap.size) (M := [J, E]) ag au aw
 have cj := ag.max
 replace ah : RepS aI (nin (ge w.heap.size) [ae, J, E]) _ _ _ _ := RepS.takeM (s0 := w.heap.size) (M := [J, E]) ah au aw
 have ck := ah.max
 replace ai : RepS aI (nin (ge w.heap.size) [ae, J, E]) _ _ _ _ := RepS.takeM (s0 := w.heap.size) (M := [J, E]) ai au aw
 have cm := ai.max
 replace ab : Own aI ae 51 (nin (ge w.heap.size) [ae, J, E]) _ _ _ := Own.takeM (s0 := w.heap.size) (M := [J, E]) ab au aw
 have co := ab.max
 have cp := ab.len
 clear au
 have bE := ag.len
 subst bE
 have bF := ah.len
 subst bF
 have bG := ai.len
 subst bG
 refine .r 1 <| .sb 0 (.agg #[.slice aS (((((copyS (⟨(⟨((openS ((copyD (tidyD w_.disk)))).idx).names, ((openS ((copyD (tidyD w_.disk)))).idx).posts⟩ : Idx), (openS ((copyD (tidyD w_.disk)))).parts, (openS ((copyD (tidyD w_.disk)))).mem⟩ : Sto))).idx).names).length) aT, .slice aU (((((copyS (⟨(⟨((openS ((copyD (tidyD w_.disk)))).idx).names, ((openS ((copyD (tidyD w_.disk)))).idx).posts⟩ : Idx), (openS ((copyD (tidyD w_.disk)))).parts, (openS ((copyD (tidyD w_.disk)))).mem⟩ : Sto))).idx).posts).length) aV, .slice aW ((((copyS (⟨(⟨((openS ((copyD (tidyD w_.disk)))).idx).names, ((openS ((copyD (tidyD w_.disk)))).idx).posts⟩ : Idx), (openS ((copyD (tidyD w_.disk)))).parts, (openS ((copyD (tidyD w_.disk)))).mem⟩ : Sto))).parts).length) aX, vS ae aY aZ]) [.slice aS (((((copyS (⟨(⟨((openS ((copyD (tidyD w_.disk)))).idx).names, ((openS ((copyD (tidyD w_.disk)))).idx).posts⟩ : Idx), (openS ((copyD (tidyD w_.disk)))).parts, (openS ((copyD (tidyD w_.disk)))).mem⟩ : Sto))).idx).names).length) aT, .slice aU (((((copyS (⟨(⟨((openS ((copyD (tidyD w_.disk)))).idx).names, ((openS ((copyD (tidyD w_.disk)))).idx).posts⟩ : Idx), (openS ((copyD (tidyD w_.disk)))).parts, (openS ((copyD (tidyD w_.disk)))).mem⟩ : Sto))).idx).posts).length) aV, .slice aW ((((copyS (⟨(⟨((openS ((copyD (tidyD w_.disk)))).idx).names, ((openS ((copyD (tidyD w_.disk)))).idx).posts⟩ : Idx), (openS ((copyD (tidyD w_.disk)))).parts, (openS ((copyD (tidyD w_.disk)))).mem⟩ : Sto))).parts).length) aX, vS ae aY aZ, vS am bg bh, vS al bi bj, vS ak bk bm, vI (((copyD (tidyD w_.disk))).next)] aa fun db bc bH bI => ?_
 replace ⟨O, V, Z, ac, ag, ah, ai, ab, C⟩ := (so [ae, J, E] bc).g9 O V Z ac ag ah ai ab C
 clear bc bI
 refine .d <| .s <| .g <| .ln bH <| .sc [.slice aS (((((copyS (⟨(⟨((openS ((copyD (tidyD w_.disk)))).idx).names, ((openS ((copyD (tidyD w_.disk)))).idx).posts⟩ : Idx), (openS ((copyD (tidyD w_.disk)))).parts, (openS ((copyD (tidyD w_.disk)))).mem⟩ : Sto))).idx).names).length) aT, .slice aU (((((copyS (⟨(⟨((openS ((copyD (tidyD w_.disk)))).idx).names, ((openS ((copyD (tidyD w_.disk)))).idx).posts⟩ : Idx), (openS ((copyD (tidyD w_.disk)))).parts, (openS ((copyD (tidyD w_.disk)))).mem⟩ : Sto))).idx).posts).length) aV, .slice aW ((((copyS (⟨(⟨((openS ((copyD (tidyD w_.disk)))).idx).names, ((openS ((copyD (tidyD w_.disk)))).idx).posts⟩ : Idx), (openS ((copyD (tidyD w_.disk)))).parts, (openS ((copyD (tidyD w_.disk)))).mem⟩ : Sto))).parts).length) aX, vS ae aY aZ, vS am bg bh, vS al bi bj, vS ak bk bm, vI (((copyD (tidyD w_.disk))).next)] O fun bT bd bJ bK => ?_
 replace ⟨V, Z, ac, ag, ah, ai, ab, C⟩ := (so [ae, J, E] bd).g8 V Z ac ag ah ai ab C
 clear bd bK
 refine .d ?_
 have bU := ab.sl bD
 replace ⟨V, Z, ac, ag, ah, ai⟩ := (sd bT [ae, J, E] ae).g6 V Z ac ag ah ai
 exact .rb Tryz.func181 Tryz.results181 bJ ⟨(VS.of (y := (⟨(⟨(⟨(((copyS (⟨(⟨((openS ((copyD (tidyD w_.disk)))).idx).names, ((openS ((copyD (tidyD w_.disk)))).idx).posts⟩ : Idx), (openS ((copyD (tidyD w_.disk)))).parts, (openS ((copyD (tidyD w_.disk)))).mem⟩ : Sto))).idx).names, (((copyS (⟨(⟨((openS ((copyD (tidyD w_.disk)))).idx).names, ((openS ((copyD (tidyD w_.disk)))).idx).posts⟩ : Idx), (openS ((copyD (tidyD w_.disk)))).parts, (openS ((copyD (tidyD w_.disk)))).mem⟩ : Sto))).idx).posts⟩ : Idx), ((copyS (⟨(⟨((openS ((copyD (tidyD w_.disk)))).idx).names, ((openS ((copyD (tidyD w_.disk)))).idx).posts⟩ : Idx), (openS ((copyD (tidyD w_.disk)))).parts, (openS ((copyD (tidyD w_.disk)))).mem⟩ : Sto))).parts, ((copyS (⟨(⟨((openS ((copyD (tidyD w_.disk)))).idx).names, ((openS ((copyD (tidyD w_.disk)))).idx).posts⟩ : Idx), (openS ((copyD (tidyD w_.disk)))).parts, (openS ((copyD (tidyD w_.disk)))).mem⟩ : Sto))).mem⟩ : Sto), (⟨((copyD (tidyD w_.disk))).files, ((copyD (tidyD w_.disk))).list, ((copyD (tidyD w_.disk))).names, ((copyD (tidyD w_.disk))).next⟩ : Dsk)⟩ : Wld)) ⟨_, rfl, ⟨_, _, _, _, _, _, _, _, _, _, _, _, _, _, _, _, _, _, _, _, _, rfl, ag.w1, ah.w1, ai.w1, bU.w1, V.w1, Z.w1, ac.w1⟩⟩ (by rfl)), C⟩
theorem c_spec_l22Steps (w_ : Wld) (steps : List Stp) (cut : Int) (s : Sto) {w : World} {F : Nat → Prop} {a1 : Option Addr} {n1 c1 : Nat} (h1 : RepS w F a1 n1 c1 w_.store.idx.names) {a2 : Option Addr} {n2 c2 : Nat} (h2 : RepS w F a2 n2 c2 w_.store.idx.posts) {a3 : Option Addr} {n3 c3 : Nat} (h3 : RepS w F a3 n3 c3 w_.store.parts) {a4 : Option Addr} {n4 c4 : Nat} (h4 : RepS w F a4 n4 c4 w_.store.mem) {a5 : Option Addr} {n5 c5 : Nat} (h5 : RepS w F a5 n5 c5 w_.disk.files) {a6 : Option Addr} {n6 c6 : Nat} (h6 : RepS w F a6 n6 c6 w_.disk.list) {a7 : Option Addr} {n7 c7 : Nat} (h7 : RepS w F a7 n7 c7 w_.disk.names) {a8 : Option Addr} {n8 c8 : Nat} (h8 : RepS w F a8 n8 c8 steps) {a9 : Option Addr} {n9 c9 : Nat} (h9 : RepS w F a9 n9 c9 s.idx.names) {a10 : Option Addr} {n10 c10 : Nat} (h10 : RepS w F a10 n10 c10 s.idx.posts) {a11 : Option Addr} {n11 c11 : Nat} (h11 : RepS w F a11 n11 c11 s.parts) {a12 : Option Addr} {n12 c12 : Nat} (h12 : RepS w F a12 n12 c12 s.mem) (p0 : WI w_) (p1 : StI w_.disk steps) (p2 : StoI s) : Calls Tryz.prog 180 [.agg #[.slice a1 n1 c1, .slice a2 n2 c2, .slice a3 n3 c3, .slice a4 n4 c4, .slice a5 n5 c5, .slice a6 n6 c6, .slice a7 n7 c7, .int .i64 w_.disk.next], .slice a8 n8 c8, .int .i64 cut, .agg #[.slice a9 n9 c9, .slice a10 n10 c10, .slice a11 n11 c11, .slice a12 n12 c12]].toArray w (rets fun rv w' => VS (fo F w.heap.size) w' (stepsW w_ steps cut s : Wld) rv ∧ Ext w w') := by
 refine goT Tryz.func180 ?_
 obtain ⟨rfl, bU, h1⟩ := h1.tp
 obtain ⟨rfl, bV, h2⟩ := h2.tp
 obtain ⟨rfl, bW, h3⟩ := h3.tp
 obtain ⟨rfl, bX, h4⟩ := h4.tp
 obtain ⟨rfl, bY, h5⟩ := h5.tp
 obtain ⟨rfl, bZ, h6⟩ := h6.tp
 obtain ⟨rfl, b0, h7⟩ := h7.tp
 obtain ⟨rfl, b6, h8⟩ := h8.tp
 obtain ⟨rfl, b7, h9⟩ := h9.tp
 obtain ⟨rfl, b8, h10⟩ := h10.tp
 obtain ⟨rfl, b9, h11⟩ := h11.tp
 obtain ⟨rfl, cd, h12⟩ := h12.tp
 refine .s <| .g <| .np 100 [.slice a1 w_.store.idx.names.length c1, .slice a2 w_.store.idx.posts.length c2, .slice a3 w_.store.parts.length c3, .slice a4 w_.store.mem.length c4, .slice a5 w_.disk.files.length c5, .slice a6 w_.disk.list.length c6, .slice a7 w_.disk.names.length c7, vI w_.disk.next] fun V cE ax ay J bk => ?_
 have ce : Cov nil w V := cov_new ax (Nat.le_refl _)
 replace ⟨h1, h2, h3, h4, h5, h6, h7, h8, h9, h10, h11, h12⟩ := (sn [] ay ax).g12 h1 h2 h3 h4 h5 h6 h7 h8 h9 h10 h11 h12
 have C := ay
 clear ay bk ax
 refine .np 30 [.slice a9 s.idx.names.length c9, .slice a10 s.idx.posts.length c10, .slice a11 s.parts.length c11, .slice a12 s.mem.length c12] fun W cF av az E bm => ?_
 have cg := nb_new av J.lt
 replace ⟨h1, h2, h3, h4, h5, h6, h7, h8, h9, h10, h11, h12⟩ := (sn [V] az av).g12 h1 h2 h3 h4 h5 h6 h7 h8 h9 h10 h11 h12
 replace ⟨J, C⟩ := (sn [V] az av).g2 J C
 clear az bm av
 refine .np 100 [.slice none 0 0, .slice none 0 0, .slice none 0 0, .slice none 0 0, .slice none 0 0, .slice none 0 0, .slice none 0 0, vI 0] fun aa bn aq aA O bo => ?_
 have ci := nb_new aq J.lt
 have cj := nb_new aq E.lt
 have ck := C.cn aq
 replace ⟨h1, h2, h3, h4, h5, h6, h7, h8, h9, h10, h11, h12⟩ := (sn [W, V] aA aq).g12 h1 h2 h3 h4 h5 h6 h7 h8 h9 h10 h11 h12
 replace ⟨J, E, C⟩ := (sn [W, V] aA aq).g3 J E C
 clear aA bo aq
 refine .d <| .s <| .s <| .g <| .r 2 <| .eq (steps.length : Int) 0 (fun bq => ?_) (fun bq => ?_)
 · refine .r 4 <| .d <| .ct <| .s <| .g <| .ln J <| .sc [.slice a1 w_.store.idx.names.length c1, .slice a2 w_.store.idx.posts.length c2, .slice a3 w_.store.parts.length c3, .slice a4 w_.store.mem.length c4, .slice a5 w_.disk.files.length c5, .slice a6 w_.disk.list.length c6, .slice a7 w_.disk.names.length c7, vI w_.disk.next] O fun cG aB br bt => ?_
   replace ⟨h1, h2, h3, h4, h5, h6, h7, h8, h9, h10, h11, h12⟩ := (so [aa, W, V] aB).g12 h1 h2 h3 h4 h5 h6 h7 h8 h9 h10 h11 h12
   replace ⟨J, E, C⟩ := (so [aa, W, V] aB).g3 J E C
   clear aB bt
   exact .d <| .rb Tryz.func180 Tryz.results180 br ⟨(VS.of (y := w_) ⟨_, rfl, ⟨_, _, _, _, _, _, _, _, _, _, _, _, _, _, _, _, _, _, _, _, _, rfl, h1.w1, h2.w1, h3.w1, h4.w1, h5.w1, h6.w1, h7.w1⟩⟩ (by first | rw [stepsW_0 (by omega)] | rw [stepsW_1 (by omega) (by omega) (by omega)] | rw [stepsW_2 (by omega) (by omega) (by omega)])), C⟩
 refine .r 2 <| .bp (cut < 0) (fun bu => ?_) (fun bu => ?_)
 · refine .r 1 <| .d <| .ct <| .s <| .g <| .ln J <| .sc [.slice a1 w_.store.idx.names.length c1, .slice a2 w_.store.idx.posts.length c2, .slice a3 w_.store.parts.length c3, .slice a4 w_.store.mem.length c4, .slice a5 w_.disk.files.length c5, .slice a6 w_.disk.list.length c6, .slice a7 w_.disk.names.length c7, vI w_.disk.next] O fun cH aC bv bw => ?_
   replace ⟨h1, h2, h3, h4, h5, h6, h7, h8, h9, h10, h11, h12⟩ := (so [aa, W, V] aC).g12 h1 h2 h3 h4 h5 h6 h7 h8 h9 h10 h11 h12
   replace ⟨J, E, C⟩ := (so [aa, W, V] aC).g3 J E C
   clear aC bw
   exact .d <| .rb Tryz.func180 Tryz.results180 bv ⟨(VS.of (y := w_) ⟨_, rfl, ⟨_, _, _, _, _, _, _, _, _, _, _, _, _, _, _, _, _, _, _, _, _, rfl, h1.w1, h2.w1, h3.w1, h4.w1, h5.w1, h6.w1, h7.w1⟩⟩ (by first | rw [stepsW_0 (by omega)] | rw [stepsW_1 (by omega) (by omega) (by omega)] | rw [stepsW_2 (by omega) (by omega) (by omega)])), C⟩
 refine .r 1 <| .d <| .cf <| .sk <| .s <| .g <| .r 1 <| .ln J <| .r 2 <| .cl (c_spec_l21To w_.disk steps cut h5 h6 h7 h8 (by have := p0.dsk.nf; omega) (by have := p1.len; omega) (by have := p0.dsk.nl; omega) p1.sz (w := bn) (F := nin (fo F w.heap.size) [aa, W, V])) ?_
 rintro cI cJ ⟨⟨_, rfl, ⟨aH, cK, aI, aJ, cL, aK, aL, cM, aM, rfl, ab, ac, ae⟩⟩, aN⟩
 have aw := al3 O.lt E.lt J.lt
 have aD : Gb w.heap.size bn.heap.size := C.size
 replace ⟨h1, h2, h3, h4, h9, h10, h11, h12, J, E, O, C⟩ := (se [aa, W, V] aN).g12 h1 h2 h3 h4 h9 h10 h11 h12 J E O C
 clear aN
 replace ab := RepS.mixed' (M := [aa, W, V]) ab aw aD
 have cm := ab.max
 replace ac := RepS.mixed' (M := [aa, W, V]) ac aw aD
 have co := ac.max
 replace ae := RepS.mixed' (M := [aa, W, V]) ae aw aD
 have cp := ae.max
 clear aw
 have aP := ab.len
 subst aP
 have aQ := ac.len
 subst aQ
 have aR := ae.len
 subst aR
 refine .r 1 <| .sb 4 (.agg #[.slice aH (((toD w_.disk steps cut).files).length) aI, .slice aJ (((toD w_.disk steps cut).list).length) aK, .slice aL (((toD w_.disk steps cut).names).length) aM, vI ((toD w_.disk steps cut).next)]) [.slice a1 w_.store.idx.names.length c1, .slice a2 w_.store.idx.posts.length c2, .slice a3 w_.store.parts.length c3, .slice a4 w_.store.mem.length c4, .slice aH (((toD w_.disk steps cut).files).length) aI, .slice aJ (((toD w_.disk steps cut).list).length) aK, .slice aL (((toD w_.disk steps cut).names).length) aM, vI ((toD w_.disk steps cut).next)] J fun aO ar af aS => ?_
 replace ⟨h1, h2, h3, h4, h9, h10, h11, h12, E, O, ab, ac⟩ := (so [aa, W, V] ar).g12 h1 h2 h3 h4 h9 h10 h11 h12 E O ab ac
 replace ⟨ae, C⟩ := (so [aa, W, V] ar).g2 ae C
 clear ar aS
 refine .d <| .s <| .s <| .g <| .r 3 <| .bp (cut < (steps.length : Int)) (fun aT => ?_) (fun aT => ?_)
 · refine .d <| .ct <| .s <| .g <| .ln af <| .cl (c_spec_l22Fall (⟨(⟨(⟨w_.store.idx.names, w_.store.idx.posts⟩ : Idx), w_.store.parts, w_.store.mem⟩ : Sto), (⟨(toD w_.disk steps cut).files, (toD w_.disk steps cut).list, (toD w_.disk steps cut).names, (toD w_.disk steps cut).next⟩ : Dsk)⟩ : Wld) h1.ta h2.ta h3.ta h4.ta ab.ta ac.ta ae.ta (p1.ok _) (w := aO) (F := all)) ?_
   rintro cq cr ⟨⟨_, rfl, ⟨bz, cu, bA, bB, cv, bC, bD, cw, bE, bF, cx, bG, bH, cy, bI, bJ, cz, bK, bL, cA, bM, rfl, ah, ai, aj, ak, al, am, ao⟩⟩, aE⟩
   have Z := al3 O.lt E.lt af.lt
   have ag : Gb w.heap.size aO.heap.size := C.size
   replace ⟨h9, h10, h11, h12, af, E, O, ab, ac, ae, C⟩ := (se [aa, W, V] aE).g11 h9 h10 h11 h12 af E O ab ac ae C
   clear aE
   have ah := ah.fr Z ag
   replace ah := ah.base (G' := fo F w.heap.size) (fun _ _ h => .inr h)
   have bN := ah.max
   have ai := ai.fr Z ag
   replace ai := ai.base (G' := fo F w.heap.size) (fun _ _ h => .inr h)
   have bO := ai.max
   have aj := aj.fr Z ag
   replace aj := aj.base (G' := fo F w.heap.size) (fun _ _ h => .inr h)
   have bP := aj.max
   have ak := ak.fr Z ag
   replace ak := ak.base (G' := fo F w.heap.size) (fun _ _ h => .inr h)
   have bQ := ak.max
   have al := al.fr Z ag
   replace al := al.base (G' := fo F w.heap.size) (fun _ _ h => .inr h)
   have bR := al.max
   have am := am.fr Z ag
   replace am := am.base (G' := fo F w.heap.size) (fun _ _ h => .inr h)
   have bS := am.max
   have ao := ao.fr Z ag
   replace ao := ao.base (G' := fo F w.heap.size) (fun _ _ h => .inr h)
   have bT := ao.max
   clear Z
   have aU := ah.len
   subst aU
   have aV := ai.len
   subst aV
   have aW := aj.len
   subst aW
   have aX := ak.len
   subst aX
   have aY := al.len
   subst aY
   have aZ := am.len
   subst aZ
   have ba := ao.len
   subst ba
   refine .sc [.slice bz (((((fallW (⟨(⟨(⟨w_.store.idx.names, w_.store.idx.posts⟩ : Idx), w_.store.parts, w_.store.mem⟩ : Sto), (⟨(toD w_.disk steps cut).files, (toD w_.disk steps cut).list, (toD w_.disk steps cut).names, (toD w_.disk steps cut).next⟩ : Dsk)⟩ : Wld)).store).idx).names).length) bA, .slice bB (((((fallW (⟨(⟨(⟨w_.store.idx.names, w_.store.idx.posts⟩ : Idx), w_.store.parts, w_.store.mem⟩ : Sto), (⟨(toD w_.disk steps cut).files, (toD w_.disk steps cut).list, (toD w_.disk steps cut).names, (toD w_.disk steps cut).next⟩ : Dsk)⟩ : Wld)).store).idx).posts).length) bC, .slice bD ((((fallW (⟨(⟨(⟨w_.store.idx.names, w_.store.idx.posts⟩ : Idx), w_.store.parts, w_.store.mem⟩ : Sto), (⟨(toD w_.disk steps cut).files, (toD w_.disk steps cut).list, (toD w_.disk steps cut).names, (toD w_.disk steps cut).next⟩ : Dsk)⟩ : Wld)).store).parts).length) bE, .slice bF ((((fallW (⟨(⟨(⟨w_.store.idx.names, w_.store.idx.posts⟩ : Idx), w_.store.parts, w_.store.mem⟩ : Sto), (⟨(toD w_.disk steps cut).files, (toD w_.disk steps cut).list, (toD w_.disk steps cut).names, (toD w_.disk steps cut).next⟩ : Dsk)⟩ : Wld)).store).mem).length) bG, .slice bH ((((fallW (⟨(⟨(⟨w_.store.idx.names, w_.store.idx.posts⟩ : Idx), w_.store.parts, w_.store.mem⟩ : Sto), (⟨(toD w_.disk steps cut).files, (toD w_.disk steps cut).list, (toD w_.disk steps cut).names, (toD w_.disk steps cut).next⟩ : Dsk)⟩ : Wld)).disk).files).length) bI, .slice bJ ((((fallW (⟨(⟨(⟨w_.store.idx.names, w_.store.idx.posts⟩ : Idx), w_.store.parts, w_.store.mem⟩ : Sto), (⟨(toD w_.disk steps cut).files, (toD w_.disk steps cut).list, (toD w_.disk steps cut).names, (toD w_.disk steps cut).next⟩ : Dsk)⟩ : Wld)).disk).list).length) bK, .slice bL ((((fallW (⟨(⟨(⟨w_.store.idx.names, w_.store.idx.posts⟩ : Idx), w_.store.parts, w_.store.mem⟩ : Sto), (⟨(toD w_.disk steps cut).files, (toD w_.disk steps cut).list, (toD w_.disk steps cut).names, (toD w_.disk steps cut).next⟩ : Dsk)⟩ : Wld)).disk).names).length) bM, vI (((fallW (⟨(⟨(⟨w_.store.idx.names, w_.store.idx.posts⟩ : Idx), w_.store.parts, w_.store.mem⟩ : Sto), (⟨(toD w_.disk steps cut).files, (toD w_.disk steps cut).list, (toD w_.disk steps cut).names, (toD w_.disk steps cut).next⟩ : Dsk)⟩ : Wld)).disk).next)] O fun cB au bc bd => ?_
   replace ⟨h9, h10, h11, h12, af, E, ab, ac, ae, ah, ai, aj⟩ := (so [aa, W, V] au).g12 h9 h10 h11 h12 af E ab ac ae ah ai aj
   replace ⟨ak, al, am, ao, C⟩ := (so [aa, W, V] au).g5 ak al am ao C
   clear au bd
   exact .d <| .rb Tryz.func180 Tryz.results180 bc ⟨(VS.of (y := (⟨(⟨(⟨(((fallW (⟨(⟨(⟨w_.store.idx.names, w_.store.idx.posts⟩ : Idx), w_.store.parts, w_.store.mem⟩ : Sto), (⟨(toD w_.disk steps cut).files, (toD w_.disk steps cut).list, (toD w_.disk steps cut).names, (toD w_.disk steps cut).next⟩ : Dsk)⟩ : Wld)).store).idx).names, (((fallW (⟨(⟨(⟨w_.store.idx.names, w_.store.idx.posts⟩ : Idx), w_.store.parts, w_.store.mem⟩ : Sto), (⟨(toD w_.disk steps cut).files, (toD w_.disk steps cut).list, (toD w_.disk steps cut).names, (toD w_.disk steps cut).next⟩ : Dsk)⟩ : Wld)).store).idx).posts⟩ : Idx), ((fallW (⟨(⟨(⟨w_.store.idx.names, w_.store.idx.posts⟩ : Idx), w_.store.parts, w_.store.mem⟩ : Sto), (⟨(toD w_.disk steps cut).files, (toD w_.disk steps cut).list, (toD w_.disk steps cut).names, (toD w_.disk steps cut).next⟩ : Dsk)⟩ : Wld)).store).parts, ((fallW (⟨(⟨(⟨w_.store.idx.names, w_.store.idx.posts⟩ : Idx), w_.store.parts, w_.store.mem⟩ : Sto), (⟨(toD w_.disk steps cut).files, (toD w_.disk steps cut).list, (toD w_.disk steps cut).names, (toD w_.disk steps cut).next⟩ : Dsk)⟩ : Wld)).store).mem⟩ : Sto), (⟨((fallW (⟨(⟨(⟨w_.store.idx.names, w_.store.idx.posts⟩ : Idx), w_.store.parts, w_.store.mem⟩ : Sto), (⟨(toD w_.disk steps cut).files, (toD w_.disk steps cut).list, (toD w_.disk steps cut).names, (toD w_.disk steps cut).next⟩ : Dsk)⟩ : Wld)).disk).files, ((fallW (⟨(⟨(⟨w_.store.idx.names, w_.store.idx.posts⟩ : Idx), w_.store.parts, w_.store.mem⟩ : Sto), (⟨(toD w_.disk steps cut).files, (toD w_.disk steps cut).list, (toD w_.disk steps cut).names, (toD w_.disk steps cut).next⟩ : Dsk)⟩ : Wld)).disk).list, ((fallW (⟨(⟨(⟨w_.store.idx.names, w_.store.idx.posts⟩ : Idx), w_.store.parts, w_.store.mem⟩ : Sto), (⟨(toD w_.disk steps cut).files, (toD w_.disk steps cut).list, (toD w_.disk steps cut).names, (toD w_.disk steps cut).next⟩ : Dsk)⟩ : Wld)).disk).names, ((fallW (⟨(⟨(⟨w_.store.idx.names, w_.store.idx.posts⟩ : Idx), w_.store.parts, w_.store.mem⟩ : Sto), (⟨(toD w_.disk steps cut).files, (toD w_.disk steps cut).list, (toD w_.disk steps cut).names, (toD w_.disk steps cut).next⟩ : Dsk)⟩ : Wld)).disk).next⟩ : Dsk)⟩ : Wld)) ⟨_, rfl, ⟨_, _, _, _, _, _, _, _, _, _, _, _, _, _, _, _, _, _, _, _, _, rfl, ah.w1, ai.w1, aj.w1, ak.w1, al.w1, am.w1, ao.w1⟩⟩ (by first | rw [stepsW_0 (by omega)] | rw [stepsW_1 (by omega) (by omega) (by omega)] | rw [stepsW_2 (by omega) (by omega) (by omega)])), C⟩
 refine .d <| .cf <| .sk <| .s <| .g <| .ln E <| .r 1 <| .sb 0 (.agg #[.slice a9 s.idx.names.length c9, .slice a10 s.idx.posts.length c10, .slice a11 s.parts.length c11, .slice a12 s.mem.length c12]) [.slice a9 s.idx.names.length c9, .slice a10 s.idx.posts.length c10, .slice a11 s.parts.length c11, .slice a12 s.mem.length c12, .slice aH (((toD w_.disk steps cut).files).length) aI, .slice aJ (((toD w_.disk steps cut).list).length) aK, .slice aL (((toD w_.disk steps cut).names).length) aM, vI ((toD w_.disk steps cut).next)] af fun cC aF bg bh => ?_
 replace ⟨h9, h10, h11, h12, O, ab, ac, ae, C⟩ := (so [aa, W, V] aF).g9 h9 h10 h11 h12 O ab ac ae C
 clear aF bh
 refine .d <| .s <| .g <| .ln bg <| .sc [.slice a9 s.idx.names.length c9, .slice a10 s.idx.posts.length c10, .slice a11 s.parts.length c11, .slice a12 s.mem.length c12, .slice aH (((toD w_.disk steps cut).files).length) aI, .slice aJ (((toD w_.disk steps cut).list).length) aK, .slice aL (((toD w_.disk steps cut).names).length) aM, vI ((toD w_.disk steps cut).next)] O fun cD aG bi bj => ?_
 replace ⟨h9, h10, h11, h12, ab, ac, ae, C⟩ := (so [aa, W, V] aG).g8 h9 h10 h11 h12 ab ac ae C
 clear aG bj
 exact .d <| .rb Tryz.func180 Tryz.results180 bi ⟨(VS.of (y := (⟨(⟨(⟨s.idx.names, s.idx.posts⟩ : Idx), s.parts, s.mem⟩ : Sto), (⟨(toD w_.disk steps cut).files, (toD w_.disk steps cut).list, (toD w_.disk steps cut).names, (toD w_.disk steps cut).next⟩ : Dsk)⟩ : Wld)) ⟨_, rfl, ⟨_, _, _, _, _, _, _, _, _, _, _, _, _, _, _, _, _, _, _, _, _, rfl, h9.w1, h10.w1, h11.w1, h12.w1, ab.w1, ac.w1, ae.w1⟩⟩ (by first | rw [stepsW_0 (by omega)] | rw [stepsW_1 (by omega) (by omega) (by omega)] | rw [stepsW_2 (by omega) (by omega) (by omega)])), C⟩
theorem c_spec_l22Do (w_ : Wld) (e : Evt) {w : World} {F : Nat → Prop} {a1 : Option Addr} {n1 c1 : Nat} (h1 : RepS w F a1 n1 c1 w_.store.idx.names) {a2 : Option Addr} {n2 c2 : Nat} (h2 : RepS w F a2 n2 c2 w_.store.idx.posts) {a3 : Option Addr} {n3 c3 : Nat} (h3 : RepS w F a3 n3 c3 w_.store.parts) {a4 : Option Addr} {n4 c4 : Nat} (h4 : RepS w F a4 n4 c4 w_.store.mem) {a5 : Option Addr} {n5 c5 : Nat} (h5 : RepS w F a5 n5 c5 w_.disk.files) {a6 : Option Addr} {n6 c6 : Nat} (h6 : RepS w F a6 n6 c6 w_.disk.list) {a7 : Option Addr} {n7 c7 : Nat} (h7 : RepS w F a7 n7 c7 w_.disk.names) {a8 : Option Addr} {n8 c8 : Nat} (h8 : RepS w F a8 n8 c8 e.name) (p0 : WI w_) (p1 : NmSz e.name) : Calls Tryz.prog 154 [.agg #[.slice a1 n1 c1, .slice a2 n2 c2, .slice a3 n3 c3, .slice a4 n4 c4, .slice a5 n5 c5, .slice a6 n6 c6, .slice a7 n7 c7, .int .i64 w_.disk.next], .agg #[.int .i64 e.kind, .int .i64 e.at_, .int .i64 e.cut, .slice a8 n8 c8, .int .i64 e.row.t, .int .i64 e.row.v]].toArray w (rets fun rv w' => VS (fo F w.heap.size) w' (doW w_ e : Wld) rv ∧ Ext w w') := by
 refine goT Tryz.func154 ?_
 obtain ⟨rfl, fE, h1⟩ := h1.tp
 obtain ⟨rfl, fF, h2⟩ := h2.tp
 obtain ⟨rfl, fG, h3⟩ := h3.tp
 obtain ⟨rfl, fH, h4⟩ := h4.tp
 obtain ⟨rfl, fI, h5⟩ := h5.tp
 obtain ⟨rfl, fJ, h6⟩ := h6.tp
 obtain ⟨rfl, fK, h7⟩ := h7.tp
 obtain ⟨rfl, fL, h8⟩ := h8.tp
 refine .s <| .g <| .np 100 [.slice a1 w_.store.idx.names.length c1, .slice a2 w_.store.idx.posts.length c2, .slice a3 w_.store.parts.length c3, .slice a4 w_.store.mem.length c4, .slice a5 w_.disk.files.length c5, .slice a6 w_.disk.list.length c6, .slice a7 w_.disk.names.length c7, vI w_.disk.next] fun V hH bL bM C dA => ?_
 have fM : Cov nil w V := cov_new bL (Nat.le_refl _)
 replace ⟨h1, h2, h3, h4, h5, h6, h7, h8⟩ := (sn [] bM bL).g8 h1 h2 h3 h4 h5 h6 h7 h8
 have E := bM
 clear bM dA bL
 refine .np 185 [vI e.kind, vI e.at_, vI e.cut, .slice a8 e.name.length c8, vI e.row.t, vI e.row.v] fun W hJ bN ce J dB => ?_
 have fN := nb_new bN C.lt
 replace ⟨h1, h2, h3, h4, h5, h6, h7, h8, C, E⟩ := (sn [V] ce bN).g10 h1 h2 h3 h4 h5 h6 h7 h8 C E
 clear ce dB bN
 refine .np 100 [.slice none 0 0, .slice none 0 0, .slice none 0 0, .slice none 0 0, .slice none 0 0, .slice none 0 0, .slice none 0 0, vI 0] fun Z br bo cg O dC => ?_
 have fO := nb_new bo C.lt
 have fP := nb_new bo J.lt
 have fQ := E.cn bo
 replace ⟨h1, h2, h3, h4, h5, h6, h7, h8, C, J, E⟩ := (sn [W, V] cg bo).g11 h1 h2 h3 h4 h5 h6 h7 h8 C J E
 clear cg dC bo
 refine .d <| .s <| .s <| .g <| .r 1 <| .lb J <| .d <| .b 0 <| .s <| .g <| .eq e.kind 1 (fun dD => ?_) (fun dD => ?_)
 · refine .r 1 <| .d <| .ct <| .s <| .g <| .r 1 <| .lb J <| .cl (c_spec_NameOk e.name h8.ta (w := br) (F := all)) ?_
   rintro hN dE ⟨rfl, ci⟩
   replace ⟨h1, h2, h3, h4, h5, h6, h7, h8, C, J, O, E⟩ := (se [Z, W, V] ci).g12 h1 h2 h3 h4 h5 h6 h7 h8 C J O E
   clear ci
   cases fR : (nameOk e.name)
   · refine .d <| .cf <| .sk <| .ib 0 <| .s <| .g <| .ln C <| .sc [.slice a1 w_.store.idx.names.length c1, .slice a2 w_.store.idx.posts.length c2, .slice a3 w_.store.parts.length c3, .slice a4 w_.store.mem.length c4, .slice a5 w_.disk.files.length c5, .slice a6 w_.disk.list.length c6, .slice a7 w_.disk.names.length c7, vI w_.disk.next] O fun hO cj dF dG => ?_
     replace ⟨h1, h2, h3, h4, h5, h6, h7, h8, C, J, E⟩ := (so [Z, W, V] cj).g11 h1 h2 h3 h4 h5 h6 h7 h8 C J E
     clear cj dG
     exact .d <| .rb Tryz.func154 Tryz.results154 dF ⟨(VS.of (y := w_) ⟨_, rfl, ⟨_, _, _, _, _, _, _, _, _, _, _, _, _, _, _, _, _, _, _, _, _, rfl, h1.w1, h2.w1, h3.w1, h4.w1, h5.w1, h6.w1, h7.w1⟩⟩ (by first | (rw [doW_1 (by assumption) (by assumption)]) | (rw [doW_1f (by assumption) (by assumption)]) | (rw [doW_2 (by assumption)]) | (rw [doW_3 (by assumption)]) | (rw [doW_4 (by assumption)]) | (rw [doW_0 (by assumption) (by assumption) (by assumption) (by assumption)]))), E⟩
   refine .d <| .ct <| .s <| .g <| .r 1 <| .ln C <| .r 1 <| .lb J <| .r 1 <| .ln J <| .cl (c_spec_l13Add w_.store e.name e.row h1 h2 h3 h4 h8 p0.sto.sz p1 (w := dE) (F := nin (fo F w.heap.size) [Z, W, V])) ?_
   rintro hP hQ ⟨⟨hV, rfl, ⟨_, rfl, ⟨bY, hW, bZ, b0, hX, b6, b7, hY, b8, b9, hZ, cd, rfl, aI, aJ, aK, aL⟩⟩⟩, ck⟩
   have bq := al3 O.lt J.lt C.lt
   have bK : Gb w.heap.size dE.heap.size := E.size
   replace ⟨h1, h2, h3, h4, h5, h6, h7, C, J, O, E⟩ := (se [Z, W, V] ck).g11 h1 h2 h3 h4 h5 h6 h7 C J O E
   clear ck
   replace aI := RepS.mixed' (M := [Z, W, V]) aI bq bK
   have fS := aI.max
   replace aJ := RepS.mixed' (M := [Z, W, V]) aJ bq bK
   have fT := aJ.max
   replace aK := RepS.mixed' (M := [Z, W, V]) aK bq bK
   have fU := aK.max
   replace aL := RepS.mixed' (M := [Z, W, V]) aL bq bK
   have fV := aL.max
   clear bq
   have dH := aI.len
   subst dH
   have dI := aJ.len
   subst dI
   have dJ := aK.len
   subst dJ
   have cp := aL.len
   subst cp
   refine .r 3 <| .np 30 [.slice none 0 0, .slice none 0 0, .slice none 0 0, .slice none 0 0] fun bi fW av bt cq cr => ?_
   have eN := nb_new av C.lt
   have eO := nb_new av J.lt
   have eP := nb_new av O.lt
   have eQ := E.cn av
   replace ⟨h1, h2, h3, h4, h5, h6, h7, C, J, O, aI, aJ⟩ := (sn [Z, W, V] bt av).g12 h1 h2 h3 h4 h5 h6 h7 C J O aI aJ
   replace ⟨aK, aL, E⟩ := (sn [Z, W, V] bt av).g3 aK aL E
   clear bt cr av
   refine .sc [.slice bY (((((addS w_.store e.name e.row).1).idx).names).length) bZ, .slice b0 (((((addS w_.store e.name e.row).1).idx).posts).length) b6, .slice b7 ((((addS w_.store e.name e.row).1).parts).length) b8, .slice b9 ((((addS w_.store e.name e.row).1).mem).length) cd] cq fun fX bu cu cv => ?_
   replace ⟨h1, h2, h3, h4, h5, h6, h7, C, J, O, aI, aJ⟩ := (so [bi, Z, W, V] bu).g12 h1 h2 h3 h4 h5 h6 h7 C J O aI aJ
   replace ⟨aK, aL, E⟩ := (so [bi, Z, W, V] bu).g3 aK aL E
   clear bu cv
   refine .r 1 <| .d <| .g <| .ln cu <| .r 1 <| .sb 0 (.agg #[.slice bY (((((addS w_.store e.name e.row).1).idx).names).length) bZ, .slice b0 (((((addS w_.store e.name e.row).1).idx).posts).length) b6, .slice b7 ((((addS w_.store e.name e.row).1).parts).length) b8, .slice b9 ((((addS w_.store e.name e.row).1).mem).length) cd]) [.slice bY (((((addS w_.store e.name e.row).1).idx).names).length) bZ, .slice b0 (((((addS w_.store e.name e.row).1).idx).posts).length) b6, .slice b7 ((((addS w_.store e.name e.row).1).parts).length) b8, .slice b9 ((((addS w_.store e.name e.row).1).mem).length) cd, .slice a5 w_.disk.files.length c5, .slice a6 w_.disk.list.length c6, .slice a7 w_.disk.names.length c7, vI w_.disk.next] C fun fY bv cw cx => ?_
   replace ⟨h1, h2, h3, h4, h5, h6, h7, J, O, aI, aJ, aK⟩ := (so [bi, Z, W, V] bv).g12 h1 h2 h3 h4 h5 h6 h7 J O aI aJ aK
   replace ⟨aL, E⟩ := (so [bi, Z, W, V] bv).g2 aL E
   clear bv cx
   refine .d <| .ib 0 <| .s <| .g <| .ln cw <| .sc [.slice bY (((((addS w_.store e.name e.row).1).idx).names).length) bZ, .slice b0 (((((addS w_.store e.name e.row).1).idx).posts).length) b6, .slice b7 ((((addS w_.store e.name e.row).1).parts).length) b8, .slice b9 ((((addS w_.store e.name e.row).1).mem).length) cd, .slice a5 w_.disk.files.length c5, .slice a6 w_.disk.list.length c6, .slice a7 w_.disk.names.length c7, vI w_.disk.next] O fun fZ bw cy cz => ?_
   replace ⟨h1, h2, h3, h4, h5, h6, h7, J, aI, aJ, aK, aL⟩ := (so [bi, Z, W, V] bw).g12 h1 h2 h3 h4 h5 h6 h7 J aI aJ aK aL
   replace E := (so [bi, Z, W, V] bw).g1 E
   clear bw cz
   exact .d <| .rb Tryz.func154 Tryz.results154 cy ⟨(VS.of (y := (⟨(⟨(⟨(((addS w_.store e.name e.row).1).idx).names, (((addS w_.store e.name e.row).1).idx).posts⟩ : Idx), ((addS w_.store e.name e.row).1).parts, ((addS w_.store e.name e.row).1).mem⟩ : Sto), (⟨w_.disk.files, w_.disk.list, w_.disk.names, w_.disk.next⟩ : Dsk)⟩ : Wld)) ⟨_, rfl, ⟨_, _, _, _, _, _, _, _, _, _, _, _, _, _, _, _, _, _, _, _, _, rfl, aI.w1, aJ.w1, aK.w1, aL.w1, h5.w1, h6.w1, h7.w1⟩⟩ (by first | (rw [doW_1 (by assumption) (by assumption)]) | (rw [doW_1f (by assumption) (by assumption)]) | (rw [doW_2 (by assumption)]) | (rw [doW_3 (by assumption)]) | (rw [doW_4 (by assumption)]) | (rw [doW_0 (by assumption) (by assumption) (by assumption) (by assumption)]))), E⟩
 refine .r 1 <| .d <| .cf <| .s <| .g <| .eq e.kind 2 (fun cA => ?_) (fun cA => ?_)
 · refine .r 1 <| .d <| .ct <| .s <| .g <| .r 1 <| .ln C <| .cl (c_spec_l13Flush w_.store h1 h2 h3 h4 (by have := p0.sto.nm2; omega) p0.sto.mem6 (w := br) (F := nin (fo F w.heap.size) [Z, W, V])) ?_
   rintro f0 f3 ⟨⟨f4, rfl, ⟨_, rfl, ⟨dK, f5, dL, dM, f6, dN, dO, f7, dP, dQ, f8, dR, rfl, ac, ae, af, ag⟩⟩⟩, bO⟩
   have aP := al3 O.lt J.lt C.lt
   have bj : Gb w.heap.size br.heap.size := E.size
   replace ⟨h1, h2, h3, h4, h5, h6, h7, C, J, O, E⟩ := (se [Z, W, V] bO).g11 h1 h2 h3 h4 h5 h6 h7 C J O E
   clear bO
   replace ac := RepS.mixed' (M := [Z, W, V]) ac aP bj
   have eR := ac.max
   replace ae := RepS.mixed' (M := [Z, W, V]) ae aP bj
   have eS := ae.max
   replace af := RepS.mixed' (M := [Z, W, V]) af aP bj
   have eT := af.max
   replace ag := RepS.mixed' (M := [Z, W, V]) ag aP bj
   have eU := ag.max
   clear aP
   have cB := ac.len
   subst cB
   have cC := ae.len
   subst cC
   have cD := af.len
   subst cD
   have cE := ag.len
   subst cE
   refine .r 3 <| .np 30 [.slice none 0 0, .slice none 0 0, .slice none 0 0, .slice none 0 0] fun aa f9 aw bz cF cG => ?_
   have eV := nb_new aw C.lt
   have eW := nb_new aw J.lt
   have eX := nb_new aw O.lt
   have eY := E.cn aw
   replace ⟨h1, h2, h3, h4, h5, h6, h7, C, J, O, ac, ae⟩ := (sn [Z, W, V] bz aw).g12 h1 h2 h3 h4 h5 h6 h7 C J O ac ae
   replace ⟨af, ag, E⟩ := (sn [Z, W, V] bz aw).g3 af ag E
   clear bz cG aw
   refine .sc [.slice dK (((((flushR w_.store).1).idx).names).length) dL, .slice dM (((((flushR w_.store).1).idx).posts).length) dN, .slice dO ((((flushR w_.store).1).parts).length) dP, .slice dQ ((((flushR w_.store).1).mem).length) dR] cF fun ga bA al cH => ?_
   replace ⟨h1, h2, h3, h4, h5, h6, h7, C, J, O, ac, ae⟩ := (so [aa, Z, W, V] bA).g12 h1 h2 h3 h4 h5 h6 h7 C J O ac ae
   replace ⟨af, ag, E⟩ := (so [aa, Z, W, V] bA).g3 af ag E
   clear bA cH
   refine .r 1 <| .d <| .s <| .gd nil 9 fun gb bB => ?_
   replace ⟨h1, h2, h3, h4, h5, h6, h7, C, J, O, ac, ae⟩ := (se [aa, Z, W, V] bB).g12 h1 h2 h3 h4 h5 h6 h7 C J O ac ae
   replace ⟨af, ag, al, E⟩ := (se [aa, Z, W, V] bB).g4 af ag al E
   clear bB
   refine .ln 0 C id <| .r [1] <| .ln 2 C id <| .r [3] <| .ln 4 C id <| .r [6] <| .lb 7 J id <| .ln 8 al id <| .go 5 <| .cl (fun bP ao => c_spec_l21Flush w_.disk w_.store (h5.ta.ext ao) (h6.ta.ext ao) (h7.ta.ext ao) (h1.ta.ext ao) (h2.ta.ext ao) (h3.ta.ext ao) (h4.ta.ext ao) (by have := p0.sto.nm2; omega) p0.sto.mem6 (by have := p0.dsk.nl; omega) (by have := p0.sto.nm.len; omega) (fun n hn => (p0.sto.nm.sz n hn).1) (w := bP) (F := all)) ?_
   intro bP ao
   replace ⟨h1, h2, h3, h4, h5, h6, h7, C, J, O, ac, ae⟩ := (se [aa, Z, W, V] ao).g12 h1 h2 h3 h4 h5 h6 h7 C J O ac ae
   replace ⟨af, ag, al, E⟩ := (se [aa, Z, W, V] ao).g4 af ag al E
   rintro gf gg ⟨⟨gh, gi, rfl, aN⟩, bk⟩
   have bQ := al4 al.lt O.lt J.lt C.lt
   have cI : Gb w.heap.size bP.heap.size := E.size
   have hkeep_ := bk
   replace ⟨h1, h2, h3, h4, h5, h6, h7, C, J, O, ac, ae⟩ := (se [aa, Z, W, V] bk).g12 h1 h2 h3 h4 h5 h6 h7 C J O ac ae
   replace ⟨af, ag, al, E⟩ := (se [aa, Z, W, V] bk).g4 af ag al E
   clear bk
   refine ⟨Ext.chg hkeep_, ?_⟩
   have aN := aN.fr bQ cI
   replace aN := aN.base (G' := fo F w.heap.size) (fun _ _ h => .inr h)
   have eZ := aN.max
   clear bQ
   refine .d fun cm bC => ?_
   replace ⟨h1, h2, h3, h4, h5, h6, h7, C, J, O, ac, ae⟩ := (se [aa, Z, W, V] bC).g12 h1 h2 h3 h4 h5 h6 h7 C J O ac ae
   replace ⟨af, ag, al, aN, E⟩ := (se [aa, Z, W, V] bC).g5 af ag al aN E
   clear bC
   refine .cl (c_spec_l22Steps w_ (flushSt w_.disk w_.store) e.cut (⟨(⟨(((flushR w_.store).1).idx).names, (((flushR w_.store).1).idx).posts⟩ : Idx), ((flushR w_.store).1).parts, ((flushR w_.store).1).mem⟩ : Sto) h1 h2 h3 h4 h5 h6 h7 aN ac ae af ag p0 (by first | exact StI.flush p0 | exact StI.merge p0.dsk _) (by first | exact p0.sto.flush | exact p0.sto.merge _) (w := cm) (F := nin (fo F w.heap.size) [aa, Z, W, V])) ?_
   rintro gj gk ⟨⟨_, rfl, ⟨dS, gl, dT, dU, gm, dV, dW, gn, dX, dY, gp, dZ, d0, gq, d3, d4, gr, d5, d6, gs, d7, rfl, aQ, aR, aS, aT, aU, aV, aW⟩⟩, bR⟩
   have aq := al4 al.lt O.lt J.lt C.lt
   have ax : Gb w.heap.size cm.heap.size := E.size
   replace ⟨h1, h2, h3, h4, h5, h6, h7, C, J, O, E⟩ := (se [aa, Z, W, V] bR).g11 h1 h2 h3 h4 h5 h6 h7 C J O E
   clear bR
   replace aQ := RepS.mixed' (M := [aa, Z, W, V]) aQ aq ax
   have e0 := aQ.max
   replace aR := RepS.mixed' (M := [aa, Z, W, V]) aR aq ax
   have e7 := aR.max
   replace aS := RepS.mixed' (M := [aa, Z, W, V]) aS aq ax
   have e8 := aS.max
   replace aT := RepS.mixed' (M := [aa, Z, W, V]) aT aq ax
   have e9 := aT.max
   replace aU := RepS.mixed' (M := [aa, Z, W, V]) aU aq ax
   have fa := aU.max
   replace aV := RepS.mixed' (M := [aa, Z, W, V]) aV aq ax
   have fb := aV.max
   replace aW := RepS.mixed' (M := [aa, Z, W, V]) aW aq ax
   have fc := aW.max
   clear aq
   have cJ := aQ.len
   subst cJ
   have cK := aR.len
   subst cK
   have cL := aS.len
   subst cL
   have cM := aT.len
   subst cM
   have cN := aU.len
   subst cN
   have cO := aV.len
   subst cO
   have cP := aW.len
   subst cP
   refine .sc [.slice dS (((((stepsW w_ (flushSt w_.disk w_.store) e.cut (⟨(⟨(((flushR w_.store).1).idx).names, (((flushR w_.store).1).idx).posts⟩ : Idx), ((flushR w_.store).1).parts, ((flushR w_.store).1).mem⟩ : Sto)).store).idx).names).length) dT, .slice dU (((((stepsW w_ (flushSt w_.disk w_.store) e.cut (⟨(⟨(((flushR w_.store).1).idx).names, (((flushR w_.store).1).idx).posts⟩ : Idx), ((flushR w_.store).1).parts, ((flushR w_.store).1).mem⟩ : Sto)).store).idx).posts).length) dV, .slice dW ((((stepsW w_ (flushSt w_.disk w_.store) e.cut (⟨(⟨(((flushR w_.store).1).idx).names, (((flushR w_.store).1).idx).posts⟩ : Idx), ((flushR w_.store).1).parts, ((flushR w_.store).1).mem⟩ : Sto)).store).parts).length) dX, .slice dY ((((stepsW w_ (flushSt w_.disk w_.store) e.cut (⟨(⟨(((flushR w_.store).1).idx).names, (((flushR w_.store).1).idx).posts⟩ : Idx), ((flushR w_.store).1).parts, ((flushR w_.store).1).mem⟩ : Sto)).store).mem).length) dZ, .slice d0 ((((stepsW w_ (flushSt w_.disk w_.store) e.cut (⟨(⟨(((flushR w_.store).1).idx).names, (((flushR w_.store).1).idx).posts⟩ : Idx), ((flushR w_.store).1).parts, ((flushR w_.store).1).mem⟩ : Sto)).disk).files).length) d3, .slice d4 ((((stepsW w_ (flushSt w_.disk w_.store) e.cut (⟨(⟨(((flushR w_.store).1).idx).names, (((flushR w_.store).1).idx).posts⟩ : Idx), ((flushR w_.store).1).parts, ((flushR w_.store).1).mem⟩ : Sto)).disk).list).length) d5, .slice d6 ((((stepsW w_ (flushSt w_.disk w_.store) e.cut (⟨(⟨(((flushR w_.store).1).idx).names, (((flushR w_.store).1).idx).posts⟩ : Idx), ((flushR w_.store).1).parts, ((flushR w_.store).1).mem⟩ : Sto)).disk).names).length) d7, vI (((stepsW w_ (flushSt w_.disk w_.store) e.cut (⟨(⟨(((flushR w_.store).1).idx).names, (((flushR w_.store).1).idx).posts⟩ : Idx), ((flushR w_.store).1).parts, ((flushR w_.store).1).mem⟩ : Sto)).disk).next)] O fun gt bD cQ cR => ?_
   replace ⟨h1, h2, h3, h4, h5, h6, h7, C, J, aQ, aR, aS⟩ := (so [aa, Z, W, V] bD).g12 h1 h2 h3 h4 h5 h6 h7 C J aQ aR aS
   replace ⟨aT, aU, aV, aW, E⟩ := (so [aa, Z, W, V] bD).g5 aT aU aV aW E
   clear bD cR
   exact .d <| .rb Tryz.func154 Tryz.results154 cQ ⟨(VS.of (y := (⟨(⟨(⟨(((stepsW w_ (flushSt w_.disk w_.store) e.cut (⟨(⟨(((flushR w_.store).1).idx).names, (((flushR w_.store).1).idx).posts⟩ : Idx), ((flushR w_.store).1).parts, ((flushR w_.store).1).mem⟩ : Sto)).store).idx).names, (((stepsW w_ (flushSt w_.disk w_.store) e.cut (⟨(⟨(((flushR w_.store).1).idx).names, (((flushR w_.store).1).idx).posts⟩ : Idx), ((flushR w_.store).1).parts, ((flushR w_.store).1).mem⟩ : Sto)).store).idx).posts⟩ : Idx), ((stepsW w_ (flushSt w_.disk w_.store) e.cut (⟨(⟨(((flushR w_.store).1).idx).names, (((flushR w_.store).1).idx).posts⟩ : Idx), ((flushR w_.store).1).parts, ((flushR w_.store).1).mem⟩ : Sto)).store).parts, ((stepsW w_ (flushSt w_.disk w_.store) e.cut (⟨(⟨(((flushR w_.store).1).idx).names, (((flushR w_.store).1).idx).posts⟩ : Idx), ((flushR w_.store).1).parts, ((flushR w_.store).1).mem⟩ : Sto)).store).mem⟩ : Sto), (⟨((stepsW w_ (flushSt w_.disk w_.store) e.cut (⟨(⟨(((flushR w_.store).1).idx).names, (((flushR w_.store).1).idx).posts⟩ : Idx), ((flushR w_.store).1).parts, ((flushR w_.store).1).mem⟩ : Sto)).disk).files, ((stepsW w_ (flushSt w_.disk w_.store) e.cut (⟨(⟨(((flushR w_.store).1).idx).names, (((flushR w_.store).1).idx).posts⟩ : Idx), ((flushR w_.store).1).parts, ((flushR w_.store).1).mem⟩ : Sto)).disk).list, ((stepsW w_ (flushSt w_.disk w_.store) e.cut (⟨(⟨(((flushR w_.store).1).idx).names, (((flushR w_.store).1).idx).posts⟩ : Idx), ((flushR w_.store).1).parts, ((flushR w_.store).1).mem⟩ : Sto)).disk).names, ((stepsW w_ (flushSt w_.disk w_.store) e.cut (⟨(⟨(((flushR w_.store).1).idx).names, (((flushR w_.store).1).idx).posts⟩ : Idx), ((flushR w_.store).1).parts, ((flushR w_.store).1).mem⟩ : Sto)).disk).next⟩ : Dsk)⟩ : Wld)) ⟨_, rfl, ⟨_, _, _, _, _, _, _, _, _, _, _, _, _, _, _, _, _, _, _, _, _, rfl, aQ.w1, aR.w1, aS.w1, aT.w1, aU.w1, aV.w1, aW.w1⟩⟩ (by first | (rw [doW_1 (by assumption) (by assumption)]) | (rw [doW_1f (by assumption) (by assumption)]) | (rw [doW_2 (by assumption)]) | (rw [doW_3 (by assumption)]) | (rw [doW_4 (by assumption)]) | (rw [doW_0 (by assumption) (by assumption) (by assumption) (by assumption)]))), E⟩
 refine .r 1 <| .d <| .cf <| .s <| .g <| .eq e.kind 3 (fun cS => ?_) (fun cS => ?_)
 · refine .r 1 <| .d <| .ct <| .s <| .g <| .r 1 <| .ln C <| .r 1 <| .lb J <| .cl (c_spec_l13Merge w_.store e.at_ h1 h2 h3 h4 (by have := p0.sto.np; omega) (fun p hp => (p0.sto.part p hp).sz) (w := br) (F := nin (fo F w.heap.size) [Z, W, V])) ?_
   rintro gu gv ⟨⟨gw, rfl, ⟨_, rfl, ⟨d8, gx, d9, ea, gy, eb, ec, gz, ed, ee, gA, ef, rfl, ah, ai, aj, ak⟩⟩⟩, bS⟩
   have aX := al3 O.lt J.lt C.lt
   have bm : Gb w.heap.size br.heap.size := E.size
   replace ⟨h1, h2, h3, h4, h5, h6, h7, C, J, O, E⟩ := (se [Z, W, V] bS).g11 h1 h2 h3 h4 h5 h6 h7 C J O E
   clear bS
   replace ah := RepS.mixed' (M := [Z, W, V]) ah aX bm
   have fd := ah.max
   replace ai := RepS.mixed' (M := [Z, W, V]) ai aX bm
   have fe := ai.max
   replace aj := RepS.mixed' (M := [Z, W, V]) aj aX bm
   have ff := aj.max
   replace ak := RepS.mixed' (M := [Z, W, V]) ak aX bm
   have fg := ak.max
   clear aX
   have cT := ah.len
   subst cT
   have cU := ai.len
   subst cU
   have cV := aj.len
   subst cV
   have cW := ak.len
   subst cW
   refine .r 3 <| .np 30 [.slice none 0 0, .slice none 0 0, .slice none 0 0, .slice none 0 0] fun ab gC ay bE cX cY => ?_
   have fh := nb_new ay C.lt
   have fi := nb_new ay J.lt
   have fj := nb_new ay O.lt
   have fk := E.cn ay
   replace ⟨h1, h2, h3, h4, h5, h6, h7, C, J, O, ah, ai⟩ := (sn [Z, W, V] bE ay).g12 h1 h2 h3 h4 h5 h6 h7 C J O ah ai
   replace ⟨aj, ak, E⟩ := (sn [Z, W, V] bE ay).g3 aj ak E
   clear bE cY ay
   refine .sc [.slice d8 (((((mergeR w_.store e.at_).1).idx).names).length) d9, .slice ea (((((mergeR w_.store e.at_).1).idx).posts).length) eb, .slice ec ((((mergeR w_.store e.at_).1).parts).length) ed, .slice ee ((((mergeR w_.store e.at_).1).mem).length) ef] cX fun gD bF am cZ => ?_
   replace ⟨h1, h2, h3, h4, h5, h6, h7, C, J, O, ah, ai⟩ := (so [ab, Z, W, V] bF).g12 h1 h2 h3 h4 h5 h6 h7 C J O ah ai
   replace ⟨aj, ak, E⟩ := (so [ab, Z, W, V] bF).g3 aj ak E
   clear bF cZ
   refine .r 1 <| .d <| .s <| .gd nil 9 fun gE bG => ?_
   replace ⟨h1, h2, h3, h4, h5, h6, h7, C, J, O, ah, ai⟩ := (se [ab, Z, W, V] bG).g12 h1 h2 h3 h4 h5 h6 h7 C J O ah ai
   replace ⟨aj, ak, am, E⟩ := (se [ab, Z, W, V] bG).g4 aj ak am E
   clear bG
   refine .ln 0 C id <| .r [1] <| .ln 2 C id <| .r [3] <| .lb 4 J id <| .r [6] <| .lb 7 J id <| .ln 8 am id <| .go 5 <| .cl (fun bT aM => c_spec_l21Merge w_.disk e.at_ (h5.ta.ext aM) (h6.ta.ext aM) (h7.ta.ext aM) (by have := p0.dsk.nm.len; omega) (fun n hn => (p0.dsk.nm.sz n hn).1) (by have := p0.dsk.nl; omega) p0.dsk.at (fun f hf => (p0.dsk.file f hf).sz) (w := bT) (F := all)) ?_
   intro bT aM
   replace ⟨h1, h2, h3, h4, h5, h6, h7, C, J, O, ah, ai⟩ := (se [ab, Z, W, V] aM).g12 h1 h2 h3 h4 h5 h6 h7 C J O ah ai
   replace ⟨aj, ak, am, E⟩ := (se [ab, Z, W, V] aM).g4 aj ak am E
   rintro gF gG ⟨⟨gH, gI, rfl, aO⟩, bn⟩
   have bU := al4 am.lt O.lt J.lt C.lt
   have c9 : Gb w.heap.size bT.heap.size := E.size
   have hkeep_ := bn
   replace ⟨h1, h2, h3, h4, h5, h6, h7, C, J, O, ah, ai⟩ := (se [ab, Z, W, V] bn).g12 h1 h2 h3 h4 h5 h6 h7 C J O ah ai
   replace ⟨aj, ak, am, E⟩ := (se [ab, Z, W, V] bn).g4 aj ak am E
   clear bn
   refine ⟨Ext.chg hkeep_, ?_⟩
   have aO := aO.fr bU c9
   replace aO := aO.base (G' := fo F w.heap.size) (fun _ _ h => .inr h)
   have fl := aO.max
   clear bU
   refine .d fun co bH => ?_
   replace ⟨h1, h2, h3, h4, h5, h6, h7, C, J, O, ah, ai⟩ := (se [ab, Z, W, V] bH).g12 h1 h2 h3 h4 h5 h6 h7 C J O ah ai
   replace ⟨aj, ak, am, aO, E⟩ := (se [ab, Z, W, V] bH).g5 aj ak am aO E
   clear bH
   refine .cl (c_spec_l22Steps w_ (mergeSt w_.disk e.at_) e.cut (⟨(⟨(((mergeR w_.store e.at_).1).idx).names, (((mergeR w_.store e.at_).1).idx).posts⟩ : Idx), ((mergeR w_.store e.at_).1).parts, ((mergeR w_.store e.at_).1).mem⟩ : Sto) h1 h2 h3 h4 h5 h6 h7 aO ah ai aj ak p0 (by first | exact StI.flush p0 | exact StI.merge p0.dsk _) (by first | exact p0.sto.flush | exact p0.sto.merge _) (w := co) (F := nin (fo F w.heap.size) [ab, Z, W, V])) ?_
   rintro gJ gK ⟨⟨_, rfl, ⟨eg, gL, eh, ei, gM, ej, ek, gN, em, en, gO, eo, ep, gP, es, et, gQ, ew, ex, gR, ey, rfl, aY, aZ, ba, bc, bd, bg, bh⟩⟩, bV⟩
   have ar := al4 am.lt O.lt J.lt C.lt
   have az : Gb w.heap.size co.heap.size := E.size
   replace ⟨h1, h2, h3, h4, h5, h6, h7, C, J, O, E⟩ := (se [ab, Z, W, V] bV).g11 h1 h2 h3 h4 h5 h6 h7 C J O E
   clear bV
   replace aY := RepS.mixed' (M := [ab, Z, W, V]) aY ar az
   have fm := aY.max
   replace aZ := RepS.mixed' (M := [ab, Z, W, V]) aZ ar az
   have fp := aZ.max
   replace ba := RepS.mixed' (M := [ab, Z, W, V]) ba ar az
   have fq := ba.max
   replace bc := RepS.mixed' (M := [ab, Z, W, V]) bc ar az
   have ft := bc.max
   replace bd := RepS.mixed' (M := [ab, Z, W, V]) bd ar az
   have fu := bd.max
   replace bg := RepS.mixed' (M := [ab, Z, W, V]) bg ar az
   have fv := bg.max
   replace bh := RepS.mixed' (M := [ab, Z, W, V]) bh ar az
   have fw := bh.max
   clear ar
   have da := aY.len
   subst da
   have db := aZ.len
   subst db
   have dd := ba.len
   subst dd
   have de := bc.len
   subst de
   have df := bd.len
   subst df
   have dg := bg.len
   subst dg
   have dh := bh.len
   subst dh
   refine .sc [.slice eg (((((stepsW w_ (mergeSt w_.disk e.at_) e.cut (⟨(⟨(((mergeR w_.store e.at_).1).idx).names, (((mergeR w_.store e.at_).1).idx).posts⟩ : Idx), ((mergeR w_.store e.at_).1).parts, ((mergeR w_.store e.at_).1).mem⟩ : Sto)).store).idx).names).length) eh, .slice ei (((((stepsW w_ (mergeSt w_.disk e.at_) e.cut (⟨(⟨(((mergeR w_.store e.at_).1).idx).names, (((mergeR w_.store e.at_).1).idx).posts⟩ : Idx), ((mergeR w_.store e.at_).1).parts, ((mergeR w_.store e.at_).1).mem⟩ : Sto)).store).idx).posts).length) ej, .slice ek ((((stepsW w_ (mergeSt w_.disk e.at_) e.cut (⟨(⟨(((mergeR w_.store e.at_).1).idx).names, (((mergeR w_.store e.at_).1).idx).posts⟩ : Idx), ((mergeR w_.store e.at_).1).parts, ((mergeR w_.store e.at_).1).mem⟩ : Sto)).store).parts).length) em, .slice en ((((stepsW w_ (mergeSt w_.disk e.at_) e.cut (⟨(⟨(((mergeR w_.store e.at_).1).idx).names, (((mergeR w_.store e.at_).1).idx).posts⟩ : Idx), ((mergeR w_.store e.at_).1).parts, ((mergeR w_.store e.at_).1).mem⟩ : Sto)).store).mem).length) eo, .slice ep ((((stepsW w_ (mergeSt w_.disk e.at_) e.cut (⟨(⟨(((mergeR w_.store e.at_).1).idx).names, (((mergeR w_.store e.at_).1).idx).posts⟩ : Idx), ((mergeR w_.store e.at_).1).parts, ((mergeR w_.store e.at_).1).mem⟩ : Sto)).disk).files).length) es, .slice et ((((stepsW w_ (mergeSt w_.disk e.at_) e.cut (⟨(⟨(((mergeR w_.store e.at_).1).idx).names, (((mergeR w_.store e.at_).1).idx).posts⟩ : Idx), ((mergeR w_.store e.at_).1).parts, ((mergeR w_.store e.at_).1).mem⟩ : Sto)).disk).list).length) ew, .slice ex ((((stepsW w_ (mergeSt w_.disk e.at_) e.cut (⟨(⟨(((mergeR w_.store e.at_).1).idx).names, (((mergeR w_.store e.at_).1).idx).posts⟩ : Idx), ((mergeR w_.store e.at_).1).parts, ((mergeR w_.store e.at_).1).mem⟩ : Sto)).disk).names).length) ey, vI (((stepsW w_ (mergeSt w_.disk e.at_) e.cut (⟨(⟨(((mergeR w_.store e.at_).1).idx).names, (((mergeR w_.store e.at_).1).idx).posts⟩ : Idx), ((mergeR w_.store e.at_).1).parts, ((mergeR w_.store e.at_).1).mem⟩ : Sto)).disk).next)] O fun gS bI di dj => ?_
   replace ⟨h1, h2, h3, h4, h5, h6, h7, C, J, aY, aZ, ba⟩ := (so [ab, Z, W, V] bI).g12 h1 h2 h3 h4 h5 h6 h7 C J aY aZ ba
   replace ⟨bc, bd, bg, bh, E⟩ := (so [ab, Z, W, V] bI).g5 bc bd bg bh E
   clear bI dj
   exact .d <| .rb Tryz.func154 Tryz.results154 di ⟨(VS.of (y := (⟨(⟨(⟨(((stepsW w_ (mergeSt w_.disk e.at_) e.cut (⟨(⟨(((mergeR w_.store e.at_).1).idx).names, (((mergeR w_.store e.at_).1).idx).posts⟩ : Idx), ((mergeR w_.store e.at_).1).parts, ((mergeR w_.store e.at_).1).mem⟩ : Sto)).store).idx).names, (((stepsW w_ (mergeSt w_.disk e.at_) e.cut (⟨(⟨(((mergeR w_.store e.at_).1).idx).names, (((mergeR w_.store e.at_).1).idx).posts⟩ : Idx), ((mergeR w_.store e.at_).1).parts, ((mergeR w_.store e.at_).1).mem⟩ : Sto)).store).idx).posts⟩ : Idx), ((stepsW w_ (mergeSt w_.disk e.at_) e.cut (⟨(⟨(((mergeR w_.store e.at_).1).idx).names, (((mergeR w_.store e.at_).1).idx).posts⟩ : Idx), ((mergeR w_.store e.at_).1).parts, ((mergeR w_.store e.at_).1).mem⟩ : Sto)).store).parts, ((stepsW w_ (mergeSt w_.disk e.at_) e.cut (⟨(⟨(((mergeR w_.store e.at_).1).idx).names, (((mergeR w_.store e.at_).1).idx).posts⟩ : Idx), ((mergeR w_.store e.at_).1).parts, ((mergeR w_.store e.at_).1).mem⟩ : Sto)).store).mem⟩ : Sto), (⟨((stepsW w_ (mergeSt w_.disk e.at_) e.cut (⟨(⟨(((mergeR w_.store e.at_).1).idx).names, (((mergeR w_.store e.at_).1).idx).posts⟩ : Idx), ((mergeR w_.store e.at_).1).parts, ((mergeR w_.store e.at_).1).mem⟩ : Sto)).disk).files, ((stepsW w_ (mergeSt w_.disk e.at_) e.cut (⟨(⟨(((mergeR w_.store e.at_).1).idx).names, (((mergeR w_.store e.at_).1).idx).posts⟩ : Idx), ((mergeR w_.store e.at_).1).parts, ((mergeR w_.store e.at_).1).mem⟩ : Sto)).disk).list, ((stepsW w_ (mergeSt w_.disk e.at_) e.cut (⟨(⟨(((mergeR w_.store e.at_).1).idx).names, (((mergeR w_.store e.at_).1).idx).posts⟩ : Idx), ((mergeR w_.store e.at_).1).parts, ((mergeR w_.store e.at_).1).mem⟩ : Sto)).disk).names, ((stepsW w_ (mergeSt w_.disk e.at_) e.cut (⟨(⟨(((mergeR w_.store e.at_).1).idx).names, (((mergeR w_.store e.at_).1).idx).posts⟩ : Idx), ((mergeR w_.store e.at_).1).parts, ((mergeR w_.store e.at_).1).mem⟩ : Sto)).disk).next⟩ : Dsk)⟩ : Wld)) ⟨_, rfl, ⟨_, _, _, _, _, _, _, _, _, _, _, _, _, _, _, _, _, _, _, _, _, rfl, aY.w1, aZ.w1, ba.w1, bc.w1, bd.w1, bg.w1, bh.w1⟩⟩ (by first | (rw [doW_1 (by assumption) (by assumption)]) | (rw [doW_1f (by assumption) (by assumption)]) | (rw [doW_2 (by assumption)]) | (rw [doW_3 (by assumption)]) | (rw [doW_4 (by assumption)]) | (rw [doW_0 (by assumption) (by assumption) (by assumption) (by assumption)]))), E⟩
 refine .r 1 <| .d <| .cf <| .s <| .g <| .eq e.kind 4 (fun dk => ?_) (fun dk => ?_)
 · refine .r 1 <| .d <| .ct <| .s <| .g <| .ln C <| .cl (c_spec_l22Fall w_ h1.ta h2.ta h3.ta h4.ta h5.ta h6.ta h7.ta p0.dsk (w := br) (F := all)) ?_
   rintro gT gU ⟨⟨_, rfl, ⟨ez, gV, eA, eB, gW, eC, eD, gX, eE, eF, gY, eG, eH, gZ, eI, eJ, g0, eK, eL, hC, eM, rfl, aB, aC, aD, aE, aF, aG, aH⟩⟩, bW⟩
   have au := al3 O.lt J.lt C.lt
   have aA : Gb w.heap.size br.heap.size := E.size
   replace ⟨h1, h2, h3, h4, h5, h6, h7, C, O, E⟩ := (se [Z, W, V] bW).g10 h1 h2 h3 h4 h5 h6 h7 C O E
   clear bW
   have aB := aB.fr au aA
   replace aB := aB.base (G' := fo F w.heap.size) (fun _ _ h => .inr h)
   have fx := aB.max
   have aC := aC.fr au aA
   replace aC := aC.base (G' := fo F w.heap.size) (fun _ _ h => .inr h)
   have fy := aC.max
   have aD := aD.fr au aA
   replace aD := aD.base (G' := fo F w.heap.size) (fun _ _ h => .inr h)
   have fz := aD.max
   have aE := aE.fr au aA
   replace aE := aE.base (G' := fo F w.heap.size) (fun _ _ h => .inr h)
   have fA := aE.max
   have aF := aF.fr au aA
   replace aF := aF.base (G' := fo F w.heap.size) (fun _ _ h => .inr h)
   have fB := aF.max
   have aG := aG.fr au aA
   replace aG := aG.base (G' := fo F w.heap.size) (fun _ _ h => .inr h)
   have fC := aG.max
   have aH := aH.fr au aA
   replace aH := aH.base (G' := fo F w.heap.size) (fun _ _ h => .inr h)
   have fD := aH.max
   clear au
   have dm := aB.len
   subst dm
   have dp := aC.len
   subst dp
   have dq := aD.len
   subst dq
   have dr := aE.len
   subst dr
   have dt := aF.len
   subst dt
   have du := aG.len
   subst du
   have dv := aH.len
   subst dv
   refine .sc [.slice ez (((((fallW w_).store).idx).names).length) eA, .slice eB (((((fallW w_).store).idx).posts).length) eC, .slice eD ((((fallW w_).store).parts).length) eE, .slice eF ((((fallW w_).store).mem).length) eG, .slice eH ((((fallW w_).disk).files).length) eI, .slice eJ ((((fallW w_).disk).list).length) eK, .slice eL ((((fallW w_).disk).names).length) eM, vI (((fallW w_).disk).next)] O fun hD bJ dw dx => ?_
   replace ⟨h1, h2, h3, h4, h5, h6, h7, C, aB, aC, aD, aE⟩ := (so [Z, W, V] bJ).g12 h1 h2 h3 h4 h5 h6 h7 C aB aC aD aE
   replace ⟨aF, aG, aH, E⟩ := (so [Z, W, V] bJ).g4 aF aG aH E
   clear bJ dx
   exact .d <| .rb Tryz.func154 Tryz.results154 dw ⟨(VS.of (y := (⟨(⟨(⟨(((fallW w_).store).idx).names, (((fallW w_).store).idx).posts⟩ : Idx), ((fallW w_).store).parts, ((fallW w_).store).mem⟩ : Sto), (⟨((fallW w_).disk).files, ((fallW w_).disk).list, ((fallW w_).disk).names, ((fallW w_).disk).next⟩ : Dsk)⟩ : Wld)) ⟨_, rfl, ⟨_, _, _, _, _, _, _, _, _, _, _, _, _, _, _, _, _, _, _, _, _, rfl, aB.w1, aC.w1, aD.w1, aE.w1, aF.w1, aG.w1, aH.w1⟩⟩ (by first | (rw [doW_1 (by assumption) (by assumption)]) | (rw [doW_1f (by assumption) (by assumption)]) | (rw [doW_2 (by assumption)]) | (rw [doW_3 (by assumption)]) | (rw [doW_4 (by assumption)]) | (rw [doW_0 (by assumption) (by assumption) (by assumption) (by assumption)]))), E⟩
 refine .r 1 <| .d <| .cf <| .sk <| .ib 0 <| .s <| .g <| .ln C <| .sc [.slice a1 w_.store.idx.names.length c1, .slice a2 w_.store.idx.posts.length c2, .slice a3 w_.store.parts.length c3, .slice a4 w_.store.mem.length c4, .slice a5 w_.disk.files.length c5, .slice a6 w_.disk.list.length c6, .slice a7 w_.disk.names.length c7, vI w_.disk.next] O fun hE bX dy dz => ?_
 replace ⟨h1, h2, h3, h4, h5, h6, h7, E⟩ := (so [Z, W, V] bX).g8 h1 h2 h3 h4 h5 h6 h7 E
 clear bX dz
 exact .d <| .rb Tryz.func154 Tryz.results154 dy ⟨(VS.of (y := w_) ⟨_, rfl, ⟨_, _, _, _, _, _, _, _, _, _, _, _, _, _, _, _, _, _, _, _, _, rfl, h1.w1, h2.w1, h3.w1, h4.w1, h5.w1, h6.w1, h7.w1⟩⟩ (by first | (rw [doW_1 (by assumption) (by assumption)]) | (rw [doW_1f (by assumption) (by assumption)]) | (rw [doW_2 (by assumption)]) | (rw [doW_3 (by assumption)]) | (rw [doW_4 (by assumption)]) | (rw [doW_0 (by assumption) (by assumption) (by assumption) (by assumption)]))), E⟩
end Go.Proofs.YtfnpaglcnmcnbaaGreat
