/- walks; hints pruned; squeezed -/
import Derived.Test.YtganlmloonielaaGreatFlszW7
import Derived.IntWalk
set_option linter.unusedVariables false
set_option linter.unusedSimpArgs false
namespace Go.Proofs.YtganlmloonielaaGreat
set_option maxRecDepth 100000
set_option maxHeartbeats 4000000
theorem c_spec_l22Copy (w_ : Wld) {w : World} {F : Nat → Prop} {a1 : Option Addr} {n1 c1 : Nat} (h1 : RepS w F a1 n1 c1 w_.store.idx.names) {a2 : Option Addr} {n2 c2 : Nat} (h2 : RepS w F a2 n2 c2 w_.store.idx.posts) {a3 : Option Addr} {n3 c3 : Nat} (h3 : RepS w F a3 n3 c3 w_.store.parts) {a4 : Option Addr} {n4 c4 : Nat} (h4 : RepS w F a4 n4 c4 w_.store.mem) {a5 : Option Addr} {n5 c5 : Nat} (h5 : RepS w F a5 n5 c5 w_.disk.files) {a6 : Option Addr} {n6 c6 : Nat} (h6 : RepS w F a6 n6 c6 w_.disk.list) {a7 : Option Addr} {n7 c7 : Nat} (h7 : RepS w F a7 n7 c7 w_.disk.names) (p0 : WI w_) : Calls Tryz.prog 90 [.agg #[.slice a1 n1 c1, .slice a2 n2 c2, .slice a3 n3 c3, .slice a4 n4 c4, .slice a5 n5 c5, .slice a6 n6 c6, .slice a7 n7 c7, .int .i64 w_.disk.next]].toArray w (rets fun rv w' => (∃ (a0 : Option Addr) (n0 c0 : Nat) (a1 : Option Addr) (n1 c1 : Nat) (a2 : Option Addr) (n2 c2 : Nat) (r3 n3 c3 : Nat) (r4 n4 c4 : Nat) (r5 n5 c5 : Nat) (r6 n6 c6 : Nat), rv = .agg #[.slice a0 n0 c0, .slice a1 n1 c1, .slice a2 n2 c2, .slice (some ⟨r3, 0, none⟩) n3 c3, .slice (some ⟨r4, 0, none⟩) n4 c4, .slice (some ⟨r5, 0, none⟩) n5 c5, .slice (some ⟨r6, 0, none⟩) n6 c6, .int .i64 ((((copyW w_)).disk).next)] ∧ RepS w' (nin (ge w.heap.size) [r3, r4, r5, r6]) a0 n0 c0 (((((copyW w_)).store).idx).names) ∧ RepS w' (nin (ge w.heap.size) [r3, r4, r5, r6]) a1 n1 c1 (((((copyW w_)).store).idx).posts) ∧ RepS w' (nin (ge w.heap.size) [r3, r4, r5, r6]) a2 n2 c2 ((((copyW w_)).store).parts) ∧ Own w' r3 107 (nin (ge w.heap.size) [r3, r4, r5, r6]) n3 c3 ((((copyW w_)).store).mem) ∧ w.heap.size ≤ r3 ∧ Own w' r4 66 (nin (ge w.heap.size) [r3, r4, r5, r6]) n4 c4 ((((copyW w_)).disk).files) ∧ w.heap.size ≤ r4 ∧ Nb r4 r3 ∧ Own w' r5 3 (nin (ge w.heap.size) [r3, r4, r5, r6]) n5 c5 ((((copyW w_)).disk).list) ∧ w.heap.size ≤ r5 ∧ Nb r5 r3 ∧ Nb r5 r4 ∧ Own w' r6 77 (nin (ge w.heap.size) [r3, r4, r5, r6]) n6 c6 ((((copyW w_)).disk).names) ∧ w.heap.size ≤ r6 ∧ Nb r6 r3 ∧ Nb r6 r4 ∧ Nb r6 r5) ∧ Ext w w') := by
 refine goT Tryz.func90 ?_
 obtain ⟨rfl, bJ, h1⟩ := h1.tp
 obtain ⟨rfl, bK, h2⟩ := h2.tp
 obtain ⟨rfl, bL, h3⟩ := h3.tp
 obtain ⟨rfl, bM, h4⟩ := h4.tp
 obtain ⟨rfl, bN, h5⟩ := h5.tp
 obtain ⟨rfl, bO, h6⟩ := h6.tp
 obtain ⟨rfl, bP, h7⟩ := h7.tp
 refine .s <| .g <| .np 70 [.slice a1 w_.store.idx.names.length c1, .slice a2 w_.store.idx.posts.length c2, .slice a3 w_.store.parts.length c3, .slice a4 w_.store.mem.length c4, .slice a5 w_.disk.files.length c5, .slice a6 w_.disk.list.length c6, .slice a7 w_.disk.names.length c7, vI w_.disk.next] fun O bY aH az W bd => ?_
 replace ⟨h1, h2, h3, h4, h5, h6, h7⟩ := (sn [] az aH).g7 h1 h2 h3 h4 h5 h6 h7
 have C := az
 refine .np 70 [.slice none 0 0, .slice none 0 0, .slice none 0 0, .slice none 0 0, .slice none 0 0, .slice none 0 0, .slice none 0 0, vI 0] fun aa bZ aA aI E bg => ?_
 have bQ := C.cn aA
 replace ⟨h1, h2, h3, h4, h5, h6, h7, W, C⟩ := (sn [O] aI aA).g9 h1 h2 h3 h4 h5 h6 h7 W C
 refine .d <| .s <| .gd nil 5 fun b0 aJ => ?_
 replace ⟨h1, h2, h3, h4, h5, h6, h7, W, E, C⟩ := (se [aa, O] aJ).g10 h1 h2 h3 h4 h5 h6 h7 W E C
 refine .r [0] <| .ln 1 W id <| .r [3] <| .ln 4 W id <| .go 2 <| .cl (fun aP al => c_spec_l13Copy w_.store (h1.ta.ext al) (h2.ta.ext al) (h3.ta.ext al) (h4.ta.ext al) p0.sto.sz (w := aP) (F := all)) ?_
 intro aP al
 replace ⟨h5, h6, h7, W, E, C⟩ := (se [aa, O] al).g6 h5 h6 h7 W E C
 rintro b6 aF ⟨⟨bh, b7, bi, bj, b8, bk, bm, b9, bn, ab, bo, bq, rfl, af, ag, ah, J, ax⟩, aB⟩
 have ao := al2 E.lt W.lt
 have ay : Gb w.heap.size aP.heap.size := C.size
 have hkeep_ := aB
 have bR := nb_ge ax E.lt
 have br := gb_ge ax C.size
 replace ⟨h5, h6, h7, W, E, C⟩ := (sz [aa, O] aB ax).g6 h5 h6 h7 W E C
 refine ⟨Ext.chg hkeep_, ?_⟩
 replace af : RepS aF (nin (ge w.heap.size) [ab, aa, O]) _ _ _ _ := RepS.takeM (s0 := w.heap.size) (M := [aa, O]) af ao ay
 have bS := af.max
 replace ag : RepS aF (nin (ge w.heap.size) [ab, aa, O]) _ _ _ _ := RepS.takeM (s0 := w.heap.size) (M := [aa, O]) ag ao ay
 have bT := ag.max
 replace ah : RepS aF (nin (ge w.heap.size) [ab, aa, O]) _ _ _ _ := RepS.takeM (s0 := w.heap.size) (M := [aa, O]) ah ao ay
 have bU := ah.max
 replace J : Own aF ab 107 (nin (ge w.heap.size) [ab, aa, O]) _ _ _ := Own.takeM (s0 := w.heap.size) (M := [aa, O]) J ao ay
 have bV := J.max
 have bW := J.len
 have bt := af.len
 subst bt
 have bu := ag.len
 subst bu
 have bv := ah.len
 subst bv
 refine .d fun aQ aK => ?_
 replace ⟨h5, h6, h7, W, E, af, ag, ah, J, C⟩ := (se [ab, aa, O] aK).g10 h5 h6 h7 W E af ag ah J C
 refine .cl (c_spec_l21Copy w_.disk h5.ta h6.ta h7.ta (by have := p0.dsk.nm.len; omega) (fun n hn => by have := (p0.dsk.nm.sz n hn).1; omega) (by have := p0.dsk.nl; omega) (by have := p0.dsk.nf; omega) (fun f hf => (p0.dsk.file f hf).sz) (w := aQ) (F := all)) ?_
 rintro cd aG ⟨⟨aq, bw, bz, ar, aL, aM, au, aN, aO, rfl, ai, av, ac, aj, aR, ae, ak, aS, aT⟩, aC⟩
 have am := al3 J.lt E.lt W.lt
 have aw : Gb w.heap.size aQ.heap.size := C.size
 have bA := nb_ge av E.lt
 have aU := nb_ge av J.lt
 have aV := gb_ge av C.size
 have bB := nb_ge aj E.lt
 have aW := nb_ge aj J.lt
 have aX := gb_ge aj C.size
 have bC := nb_ge ak E.lt
 have aY := nb_ge ak J.lt
 have aZ := gb_ge ak C.size
 have aD : Mv [ab, aa, O] [aq, ar, au, ab, aa, O] aQ aG := Mv.cons (Mv.cons (Mv.cons (Mv.ext aC) ak) aj) av
 replace ⟨E, af, ag, ah, J, C⟩ := (sp aD aC).g6 E af ag ah J C
 replace ai : Own aG aq 66 (nin (ge w.heap.size) [aq, ar, au, ab, aa, O]) _ _ _ := Own.takeM (s0 := w.heap.size) (M := [ab, aa, O]) ai am aw
 have bD := ai.max
 have bE := ai.len
 replace ac : Own aG ar 3 (nin (ge w.heap.size) [aq, ar, au, ab, aa, O]) _ _ _ := Own.takeM (s0 := w.heap.size) (M := [ab, aa, O]) ac am aw
 have bF := ac.max
 have bG := ac.len
 replace ae : Own aG au 77 (nin (ge w.heap.size) [aq, ar, au, ab, aa, O]) _ _ _ := Own.takeM (s0 := w.heap.size) (M := [ab, aa, O]) ae am aw
 have bH := ae.max
 have bI := ae.len
 refine .r 1 <| .sc [.slice bh (((((copyS w_.store)).idx).names).length) bi, .slice bj (((((copyS w_.store)).idx).posts).length) bk, .slice bm ((((copyS w_.store)).parts).length) bn, vS ab bo bq, vS aq bw bz, vS ar aL aM, vS au aN aO, vI (((copyD w_.disk)).next)] E fun bX aE ba bc => ?_
 replace ⟨af, ag, ah, J, ai, ac, ae, C⟩ := (so [aq, ar, au, ab, aa, O] aE).g8 af ag ah J ai ac ae C
 exact .d <| .rb Tryz.func90 Tryz.results90 ba ⟨⟨bh, ((((copyS w_.store)).idx).names).length, bi, bj, ((((copyS w_.store)).idx).posts).length, bk, bm, (((copyS w_.store)).parts).length, bn, ab, bo, bq, aq, bw, bz, ar, aL, aM, au, aN, aO, (by rw [show (((copyD w_.disk)).next) = ((((copyW w_)).disk).next) from by rfl]), ((RepS.lessM af (all_cons (.tail _ (.tail _ (.tail _ (.head _)))) (all_cons (.head _) (all_cons (.tail _ (.head _)) (all_cons (.tail _ (.tail _ (.head _))) all_nil))))).eqx (by rfl)), ((RepS.lessM ag (all_cons (.tail _ (.tail _ (.tail _ (.head _)))) (all_cons (.head _) (all_cons (.tail _ (.head _)) (all_cons (.tail _ (.tail _ (.head _))) all_nil))))).eqx (by rfl)), ((RepS.lessM ah (all_cons (.tail _ (.tail _ (.tail _ (.head _)))) (all_cons (.head _) (all_cons (.tail _ (.head _)) (all_cons (.tail _ (.tail _ (.head _))) all_nil))))).eqx (by rfl)), ((Own.lessM J (all_cons (.tail _ (.tail _ (.tail _ (.head _)))) (all_cons (.head _) (all_cons (.tail _ (.head _)) (all_cons (.tail _ (.tail _ (.head _))) all_nil))))).eqx (by rfl)), br, ((Own.lessM ai (all_cons (.tail _ (.tail _ (.tail _ (.head _)))) (all_cons (.head _) (all_cons (.tail _ (.head _)) (all_cons (.tail _ (.tail _ (.head _))) all_nil))))).eqx (by rfl)), aV, aU, ((Own.lessM ac (all_cons (.tail _ (.tail _ (.tail _ (.head _)))) (all_cons (.head _) (all_cons (.tail _ (.head _)) (all_cons (.tail _ (.tail _ (.head _))) all_nil))))).eqx (by rfl)), aX, aW, aR, ((Own.lessM ae (all_cons (.tail _ (.tail _ (.tail _ (.head _)))) (all_cons (.head _) (all_cons (.tail _ (.head _)) (all_cons (.tail _ (.tail _ (.head _))) all_nil))))).eqx (by rfl)), aZ, aY, aS, aT⟩, C⟩
theorem c_spec_l22Fall (w_ : Wld) {w : World} {F : Nat → Prop} {a1 : Option Addr} {n1 c1 : Nat} (h1 : RepS w F a1 n1 c1 w_.store.idx.names) {a2 : Option Addr} {n2 c2 : Nat} (h2 : RepS w F a2 n2 c2 w_.store.idx.posts) {a3 : Option Addr} {n3 c3 : Nat} (h3 : RepS w F a3 n3 c3 w_.store.parts) {a4 : Option Addr} {n4 c4 : Nat} (h4 : RepS w F a4 n4 c4 w_.store.mem) {a5 : Option Addr} {n5 c5 : Nat} (h5 : RepS w F a5 n5 c5 w_.disk.files) {a6 : Option Addr} {n6 c6 : Nat} (h6 : RepS w F a6 n6 c6 w_.disk.list) {a7 : Option Addr} {n7 c7 : Nat} (h7 : RepS w F a7 n7 c7 w_.disk.names) (p0 : DskI w_.disk) : Calls Tryz.prog 139 [.agg #[.slice a1 n1 c1, .slice a2 n2 c2, .slice a3 n3 c3, .slice a4 n4 c4, .slice a5 n5 c5, .slice a6 n6 c6, .slice a7 n7 c7, .int .i64 w_.disk.next]].toArray w (rets fun rv w' => VS (ge w.heap.size) w' (fallW w_ : Wld) rv ∧ Ext w w') := by
 refine goT Tryz.func139 ?_
 obtain ⟨rfl, cu, h1⟩ := h1.tp
 obtain ⟨rfl, cv, h2⟩ := h2.tp
 obtain ⟨rfl, cw, h3⟩ := h3.tp
 obtain ⟨rfl, cx, h4⟩ := h4.tp
 obtain ⟨rfl, cy, h5⟩ := h5.tp
 obtain ⟨rfl, cz, h6⟩ := h6.tp
 obtain ⟨rfl, cA, h7⟩ := h7.tp
 refine .s <| .g <| .np 70 [.slice a1 w_.store.idx.names.length c1, .slice a2 w_.store.idx.posts.length c2, .slice a3 w_.store.parts.length c3, .slice a4 w_.store.mem.length c4, .slice a5 w_.disk.files.length c5, .slice a6 w_.disk.list.length c6, .slice a7 w_.disk.names.length c7, vI w_.disk.next] fun E dg aL aM aa bN => ?_
 have cB : Cov nil w E := cov_new aL (Nat.le_refl _)
 replace ⟨h5, h6, h7⟩ := (sn [] aM aL).g3 h5 h6 h7
 have C := aM
 refine .np 70 [.slice none 0 0, .slice none 0 0, .slice none 0 0, .slice none 0 0, .slice none 0 0, .slice none 0 0, .slice none 0 0, vI 0] fun J bO aE bq O bP => ?_
 have cC := nb_new aE aa.lt
 have cD := C.cn aE
 replace ⟨h5, h6, h7, aa, C⟩ := (sn [E] bq aE).g5 h5 h6 h7 aa C
 refine .d <| .s <| .g <| .r 1 <| .ln aa <| .cl (c_spec_l21Tidy w_.disk h5 h6 h7 (by have := p0.nf; omega) (w := bO) (F := nin (fo F w.heap.size) [J, E])) ?_
 rintro dh bQ ⟨⟨_, rfl, ⟨dj, dm, dp, dq, dr, dt, du, dv, dw, rfl, aN, aO, aP⟩⟩, br⟩
 have aF := al2 O.lt aa.lt
 have aQ : Gb w.heap.size bO.heap.size := C.size
 replace ⟨aa, O, C⟩ := (se [] br).g3 aa O C
 replace aN := RepS.mixed' (M := [J, E]) aN aF aQ
 have cE := aN.max
 replace aO := RepS.mixed' (M := [J, E]) aO aF aQ
 have cF := aO.max
 replace aP := RepS.mixed' (M := [J, E]) aP aF aQ
 have cG := aP.max
 have bR := aN.len
 subst bR
 have bS := aO.len
 subst bS
 have bT := aP.len
 subst bT
 refine .cl (c_spec_l21Copy (tidyD w_.disk) aN.ta aO.ta aP.ta (by have := p0.tidy.nm.len; omega) (fun n hn => by have := (p0.tidy.nm.sz n hn).1; omega) (by have := p0.tidy.nl; omega) (by have := p0.tidy.nf; omega) (fun f hf => (p0.tidy.file f hf).sz) (w := bQ) (F := all)) ?_
 rintro dx bv ⟨⟨aq, bi, bj, ao, bk, bm, am, bn, bo, rfl, ar, aG, al, aH, cH, ah, aI, cI, cJ⟩, bt⟩
 have aJ := al2 O.lt aa.lt
 have aR : Gb w.heap.size bQ.heap.size := C.size
 have cK := nb_ge aG aa.lt
 have cL := nb_ge aG O.lt
 have bU := gb_ge aG C.size
 have cM := nb_ge aH aa.lt
 have cN := nb_ge aH O.lt
 have bw := gb_ge aH C.size
 have bX := nb_ge aI aa.lt
 have bY := nb_ge aI O.lt
 have bz := gb_ge aI C.size
 replace ⟨aa, O, C⟩ := (se [] bt).g3 aa O C
 replace ar : Own bv aq 66 (nin (ge w.heap.size) [aq, ao, am, J, E]) _ _ _ := Own.takeM (s0 := w.heap.size) (M := [J, E]) ar aJ aR
 have bZ := ar.max
 have b0 := ar.len
 replace al : Own bv ao 3 (nin (ge w.heap.size) [aq, ao, am, J, E]) _ _ _ := Own.takeM (s0 := w.heap.size) (M := [J, E]) al aJ aR
 have b6 := al.max
 have b7 := al.len
 replace ah : Own bv am 77 (nin (ge w.heap.size) [aq, ao, am, J, E]) _ _ _ := Own.takeM (s0 := w.heap.size) (M := [J, E]) ah aJ aR
 have b8 := ah.max
 have b9 := ah.len
 refine .r 1 <| .sb 4 (.agg #[vS aq bi bj, vS ao bk bm, vS am bn bo, vI (((copyD (tidyD w_.disk))).next)]) [.slice a1 w_.store.idx.names.length c1, .slice a2 w_.store.idx.posts.length c2, .slice a3 w_.store.parts.length c3, .slice a4 w_.store.mem.length c4, vS aq bi bj, vS ao bk bm, vS am bn bo, vI (((copyD (tidyD w_.disk))).next)] aa fun az aS ac bA => ?_
 replace ⟨O, ar, al, ah, C⟩ := (so [aq, ao, am, J, E] aS).g5 O ar al ah C
 refine .d <| .s <| .g <| .r 1 <| .ln ac ?_
 have W := ar.sl bU
 replace ⟨al, ah⟩ := (sd az [aq, ao, am, J, E] aq).g2 al ah
 have ab := al.sl bw
 replace ⟨W, ah⟩ := (sd az [ao, am, J, E] ao).g2 W ah
 have af := ah.sl bz
 replace ⟨W, ab⟩ := (sd az [am, J, E] am).g2 W ab
 refine .cl (c_spec_l21Open ((copyD (tidyD w_.disk))) (W.base (fun _ _ h => .inr h)) (ab.base (fun _ _ h => .inr h)) (af.base (fun _ _ h => .inr h)) (by have := p0.tidy.copy.nm.len; omega) p0.tidy.copy.nm.sz (by have := p0.tidy.copy.nl; omega) p0.tidy.copy.at (w := az) (F := nin (fo F w.heap.size) [J, E])) ?_
 rintro cO bu ⟨⟨_, rfl, ⟨cP, cQ, cR, cS, cT, cU, cV, cW, cX, cY, cZ, c8, rfl, aA, aB, aC, aD⟩⟩, aT⟩
 have au := al2 O.lt ac.lt
 have ax : Gb w.heap.size az.heap.size := C.size
 replace ⟨ac, O, W, ab, af, C⟩ := (se [J, E] aT).g6 ac O W ab af C
 replace aA := RepS.mixed' (M := [J, E]) aA au ax
 have cd := aA.max
 replace aB := RepS.mixed' (M := [J, E]) aB au ax
 have ce := aB.max
 replace aC := RepS.mixed' (M := [J, E]) aC au ax
 have cg := aC.max
 replace aD := RepS.mixed' (M := [J, E]) aD au ax
 have ci := aD.max
 have bB := aA.len
 subst bB
 have bC := aB.len
 subst bC
 have bD := aC.len
 subst bD
 have bE := aD.len
 subst bE
 refine .cl (c_spec_l13Copy (⟨(⟨((openS ((copyD (tidyD w_.disk)))).idx).names, ((openS ((copyD (tidyD w_.disk)))).idx).posts⟩ : Idx), (openS ((copyD (tidyD w_.disk)))).parts, (openS ((copyD (tidyD w_.disk)))).mem⟩ : Sto) aA.ta aB.ta aC.ta aD.ta p0.tidy.copy.open.sz (w := bu) (F := all)) ?_
 rintro c9 aK ⟨⟨aU, da, aV, aW, db, aX, aY, de, aZ, ag, ba, bc, rfl, ai, aj, ak, ae, av⟩, bd⟩
 have aw := al2 O.lt ac.lt
 have ay : Gb w.heap.size bu.heap.size := C.size
 have cj := nb_ge av ac.lt
 have ck := nb_ge av O.lt
 have bF := gb_ge av C.size
 replace ⟨ac, O, W, ab, af, C⟩ := (sz [J, E] bd av).g6 ac O W ab af C
 replace ai : RepS aK (nin (ge w.heap.size) [ag, J, E]) _ _ _ _ := RepS.takeM (s0 := w.heap.size) (M := [J, E]) ai aw ay
 have cm := ai.max
 replace aj : RepS aK (nin (ge w.heap.size) [ag, J, E]) _ _ _ _ := RepS.takeM (s0 := w.heap.size) (M := [J, E]) aj aw ay
 have co := aj.max
 replace ak : RepS aK (nin (ge w.heap.size) [ag, J, E]) _ _ _ _ := RepS.takeM (s0 := w.heap.size) (M := [J, E]) ak aw ay
 have cp := ak.max
 replace ae : Own aK ag 107 (nin (ge w.heap.size) [ag, J, E]) _ _ _ := Own.takeM (s0 := w.heap.size) (M := [J, E]) ae aw ay
 have cq := ae.max
 have cr := ae.len
 have bG := ai.len
 subst bG
 have bH := aj.len
 subst bH
 have bI := ak.len
 subst bI
 refine .r 1 <| .sb 0 (.agg #[.slice aU (((((copyS (⟨(⟨((openS ((copyD (tidyD w_.disk)))).idx).names, ((openS ((copyD (tidyD w_.disk)))).idx).posts⟩ : Idx), (openS ((copyD (tidyD w_.disk)))).parts, (openS ((copyD (tidyD w_.disk)))).mem⟩ : Sto))).idx).names).length) aV, .slice aW (((((copyS (⟨(⟨((openS ((copyD (tidyD w_.disk)))).idx).names, ((openS ((copyD (tidyD w_.disk)))).idx).posts⟩ : Idx), (openS ((copyD (tidyD w_.disk)))).parts, (openS ((copyD (tidyD w_.disk)))).mem⟩ : Sto))).idx).posts).length) aX, .slice aY ((((copyS (⟨(⟨((openS ((copyD (tidyD w_.disk)))).idx).names, ((openS ((copyD (tidyD w_.disk)))).idx).posts⟩ : Idx), (openS ((copyD (tidyD w_.disk)))).parts, (openS ((copyD (tidyD w_.disk)))).mem⟩ : Sto))).parts).length) aZ, vS ag ba bc]) [.slice aU (((((copyS (⟨(⟨((openS ((copyD (tidyD w_.disk)))).idx).names, ((openS ((copyD (tidyD w_.disk)))).idx).posts⟩ : Idx), (openS ((copyD (tidyD w_.disk)))).parts, (openS ((copyD (tidyD w_.disk)))).mem⟩ : Sto))).idx).names).length) aV, .slice aW (((((copyS (⟨(⟨((openS ((copyD (tidyD w_.disk)))).idx).names, ((openS ((copyD (tidyD w_.disk)))).idx).posts⟩ : Idx), (openS ((copyD (tidyD w_.disk)))).parts, (openS ((copyD (tidyD w_.disk)))).mem⟩ : Sto))).idx).posts).length) aX, .slice aY ((((copyS (⟨(⟨((openS ((copyD (tidyD w_.disk)))).idx).names, ((openS ((copyD (tidyD w_.disk)))).idx).posts⟩ : Idx), (openS ((copyD (tidyD w_.disk)))).parts, (openS ((copyD (tidyD w_.disk)))).mem⟩ : Sto))).parts).length) aZ, vS ag ba bc, vS aq bi bj, vS ao bk bm, vS am bn bo, vI (((copyD (tidyD w_.disk))).next)] ac fun df bg bJ bK => ?_
 replace ⟨O, W, ab, af, ai, aj, ak, ae, C⟩ := (so [ag, J, E] bg).g9 O W ab af ai aj ak ae C
 refine .d <| .s <| .g <| .ln bJ <| .sc [.slice aU (((((copyS (⟨(⟨((openS ((copyD (tidyD w_.disk)))).idx).names, ((openS ((copyD (tidyD w_.disk)))).idx).posts⟩ : Idx), (openS ((copyD (tidyD w_.disk)))).parts, (openS ((copyD (tidyD w_.disk)))).mem⟩ : Sto))).idx).names).length) aV, .slice aW (((((copyS (⟨(⟨((openS ((copyD (tidyD w_.disk)))).idx).names, ((openS ((copyD (tidyD w_.disk)))).idx).posts⟩ : Idx), (openS ((copyD (tidyD w_.disk)))).parts, (openS ((copyD (tidyD w_.disk)))).mem⟩ : Sto))).idx).posts).length) aX, .slice aY ((((copyS (⟨(⟨((openS ((copyD (tidyD w_.disk)))).idx).names, ((openS ((copyD (tidyD w_.disk)))).idx).posts⟩ : Idx), (openS ((copyD (tidyD w_.disk)))).parts, (openS ((copyD (tidyD w_.disk)))).mem⟩ : Sto))).parts).length) aZ, vS ag ba bc, vS aq bi bj, vS ao bk bm, vS am bn bo, vI (((copyD (tidyD w_.disk))).next)] O fun bV bh bL bM => ?_
 replace ⟨W, ab, af, ai, aj, ak, ae, C⟩ := (so [ag, J, E] bh).g8 W ab af ai aj ak ae C
 refine .d ?_
 have bW := ae.sl bF
 replace ⟨W, ab, af, ai, aj, ak⟩ := (sd bV [ag, J, E] ag).g6 W ab af ai aj ak
 exact .rb Tryz.func139 Tryz.results139 bL ⟨(VS.of (y := (⟨(⟨(⟨(((copyS (⟨(⟨((openS ((copyD (tidyD w_.disk)))).idx).names, ((openS ((copyD (tidyD w_.disk)))).idx).posts⟩ : Idx), (openS ((copyD (tidyD w_.disk)))).parts, (openS ((copyD (tidyD w_.disk)))).mem⟩ : Sto))).idx).names, (((copyS (⟨(⟨((openS ((copyD (tidyD w_.disk)))).idx).names, ((openS ((copyD (tidyD w_.disk)))).idx).posts⟩ : Idx), (openS ((copyD (tidyD w_.disk)))).parts, (openS ((copyD (tidyD w_.disk)))).mem⟩ : Sto))).idx).posts⟩ : Idx), ((copyS (⟨(⟨((openS ((copyD (tidyD w_.disk)))).idx).names, ((openS ((copyD (tidyD w_.disk)))).idx).posts⟩ : Idx), (openS ((copyD (tidyD w_.disk)))).parts, (openS ((copyD (tidyD w_.disk)))).mem⟩ : Sto))).parts, ((copyS (⟨(⟨((openS ((copyD (tidyD w_.disk)))).idx).names, ((openS ((copyD (tidyD w_.disk)))).idx).posts⟩ : Idx), (openS ((copyD (tidyD w_.disk)))).parts, (openS ((copyD (tidyD w_.disk)))).mem⟩ : Sto))).mem⟩ : Sto), (⟨((copyD (tidyD w_.disk))).files, ((copyD (tidyD w_.disk))).list, ((copyD (tidyD w_.disk))).names, ((copyD (tidyD w_.disk))).next⟩ : Dsk)⟩ : Wld)) ⟨_, rfl, ⟨_, _, _, _, _, _, _, _, _, _, _, _, _, _, _, _, _, _, _, _, _, rfl, ai.w1, aj.w1, ak.w1, bW.w1, W.w1, ab.w1, af.w1⟩⟩ (by rfl)), C⟩
theorem c_spec_l22Steps (w_ : Wld) (steps : List Stp) (cut : Int) (s : Sto) {w : World} {F : Nat → Prop} {a1 : Option Addr} {n1 c1 : Nat} (h1 : RepS w F a1 n1 c1 w_.store.idx.names) {a2 : Option Addr} {n2 c2 : Nat} (h2 : RepS w F a2 n2 c2 w_.store.idx.posts) {a3 : Option Addr} {n3 c3 : Nat} (h3 : RepS w F a3 n3 c3 w_.store.parts) {a4 : Option Addr} {n4 c4 : Nat} (h4 : RepS w F a4 n4 c4 w_.store.mem) {a5 : Option Addr} {n5 c5 : Nat} (h5 : RepS w F a5 n5 c5 w_.disk.files) {a6 : Option Addr} {n6 c6 : Nat} (h6 : RepS w F a6 n6 c6 w_.disk.list) {a7 : Option Addr} {n7 c7 : Nat} (h7 : RepS w F a7 n7 c7 w_.disk.names) {a8 : Option Addr} {n8 c8 : Nat} (h8 : RepS w F a8 n8 c8 steps) {a9 : Option Addr} {n9 c9 : Nat} (h9 : RepS w F a9 n9 c9 s.idx.names) {a10 : Option Addr} {n10 c10 : Nat} (h10 : RepS w F a10 n10 c10 s.idx.posts) {a11 : Option Addr} {n11 c11 : Nat} (h11 : RepS w F a11 n11 c11 s.parts) {a12 : Option Addr} {n12 c12 : Nat} (h12 : RepS w F a12 n12 c12 s.mem) (p0 : WI w_) (p1 : StI w_.disk steps) (p2 : StoI s) : Calls Tryz.prog 137 [.agg #[.slice a1 n1 c1, .slice a2 n2 c2, .slice a3 n3 c3, .slice a4 n4 c4, .slice a5 n5 c5, .slice a6 n6 c6, .slice a7 n7 c7, .int .i64 w_.disk.next], .slice a8 n8 c8, .int .i64 cut, .agg #[.slice a9 n9 c9, .slice a10 n10 c10, .slice a11 n11 c11, .slice a12 n12 c12]].toArray w (rets fun rv w' => VS (fo F w.heap.size) w' (stepsW w_ steps cut s : Wld) rv ∧ Ext w w') := by
 refine goT Tryz.func137 ?_
 obtain ⟨rfl, bW, h1⟩ := h1.tp
 obtain ⟨rfl, bX, h2⟩ := h2.tp
 obtain ⟨rfl, bY, h3⟩ := h3.tp
 obtain ⟨rfl, bZ, h4⟩ := h4.tp
 obtain ⟨rfl, b0, h5⟩ := h5.tp
 obtain ⟨rfl, b6, h6⟩ := h6.tp
 obtain ⟨rfl, b7, h7⟩ := h7.tp
 obtain ⟨rfl, b8, h8⟩ := h8.tp
 obtain ⟨rfl, b9, h9⟩ := h9.tp
 obtain ⟨rfl, cd, h10⟩ := h10.tp
 obtain ⟨rfl, ce, h11⟩ := h11.tp
 obtain ⟨rfl, cg, h12⟩ := h12.tp
 refine .s <| .g <| .np 70 [.slice a1 w_.store.idx.names.length c1, .slice a2 w_.store.idx.posts.length c2, .slice a3 w_.store.parts.length c3, .slice a4 w_.store.mem.length c4, .slice a5 w_.disk.files.length c5, .slice a6 w_.disk.list.length c6, .slice a7 w_.disk.names.length c7, vI w_.disk.next] fun W cG az aA J bn => ?_
 have ci : Cov nil w W := cov_new az (Nat.le_refl _)
 replace ⟨h1, h2, h3, h4, h5, h6, h7, h8, h9, h10, h11, h12⟩ := (sn [] aA az).g12 h1 h2 h3 h4 h5 h6 h7 h8 h9 h10 h11 h12
 have C := aA
 refine .np 34 [.slice a9 s.idx.names.length c9, .slice a10 s.idx.posts.length c10, .slice a11 s.parts.length c11, .slice a12 s.mem.length c12] fun aa cH ax aB E bo => ?_
 have cj := nb_new ax J.lt
 replace ⟨h1, h2, h3, h4, h5, h6, h7, h8, h9, h10, h11, h12⟩ := (sn [W] aB ax).g12 h1 h2 h3 h4 h5 h6 h7 h8 h9 h10 h11 h12
 replace ⟨J, C⟩ := (sn [W] aB ax).g2 J C
 refine .np 70 [.slice none 0 0, .slice none 0 0, .slice none 0 0, .slice none 0 0, .slice none 0 0, .slice none 0 0, .slice none 0 0, vI 0] fun ac bq au aC O br => ?_
 have ck := nb_new au J.lt
 have cm := nb_new au E.lt
 have co := C.cn au
 replace ⟨h1, h2, h3, h4, h5, h6, h7, h8, h9, h10, h11, h12⟩ := (sn [aa, W] aC au).g12 h1 h2 h3 h4 h5 h6 h7 h8 h9 h10 h11 h12
 replace ⟨J, E, C⟩ := (sn [aa, W] aC au).g3 J E C
 refine .d <| .s <| .s <| .g <| .r 2 <| .eq (steps.length : Int) 0 (fun bt => ?_) (fun bt => ?_)
 ·refine .r 4 <| .d <| .ct <| .s <| .g <| .ln J <| .sc [.slice a1 w_.store.idx.names.length c1, .slice a2 w_.store.idx.posts.length c2, .slice a3 w_.store.parts.length c3, .slice a4 w_.store.mem.length c4, .slice a5 w_.disk.files.length c5, .slice a6 w_.disk.list.length c6, .slice a7 w_.disk.names.length c7, vI w_.disk.next] O fun cI aD bu bv => ?_
  replace ⟨h1, h2, h3, h4, h5, h6, h7, h8, h9, h10, h11, h12⟩ := (so [ac, aa, W] aD).g12 h1 h2 h3 h4 h5 h6 h7 h8 h9 h10 h11 h12
  replace ⟨J, E, C⟩ := (so [ac, aa, W] aD).g3 J E C
  exact .d <| .rb Tryz.func137 Tryz.results137 bu ⟨(VS.of (y := w_) ⟨_, rfl, ⟨_, _, _, _, _, _, _, _, _, _, _, _, _, _, _, _, _, _, _, _, _, rfl, h1.w1, h2.w1, h3.w1, h4.w1, h5.w1, h6.w1, h7.w1⟩⟩ (by rw [stepsW_0 (by omega)])), C⟩
 refine .r 2 <| .bp (cut < 0) (fun bw => ?_) (fun bw => ?_)
 ·refine .r 1 <| .d <| .ct <| .s <| .g <| .ln J <| .sc [.slice a1 w_.store.idx.names.length c1, .slice a2 w_.store.idx.posts.length c2, .slice a3 w_.store.parts.length c3, .slice a4 w_.store.mem.length c4, .slice a5 w_.disk.files.length c5, .slice a6 w_.disk.list.length c6, .slice a7 w_.disk.names.length c7, vI w_.disk.next] O fun cJ aE bz bA => ?_
  replace ⟨h1, h2, h3, h4, h5, h6, h7, h8, h9, h10, h11, h12⟩ := (so [ac, aa, W] aE).g12 h1 h2 h3 h4 h5 h6 h7 h8 h9 h10 h11 h12
  replace ⟨J, E, C⟩ := (so [ac, aa, W] aE).g3 J E C
  exact .d <| .rb Tryz.func137 Tryz.results137 bz ⟨(VS.of (y := w_) ⟨_, rfl, ⟨_, _, _, _, _, _, _, _, _, _, _, _, _, _, _, _, _, _, _, _, _, rfl, h1.w1, h2.w1, h3.w1, h4.w1, h5.w1, h6.w1, h7.w1⟩⟩ (by rw [stepsW_0 (by omega)])), C⟩
 refine .r 1 <| .d <| .cf <| .sk <| .s <| .g <| .r 1 <| .ln J <| .r 2 <| .cl (c_spec_l21To w_.disk steps cut h5 h6 h7 h8 (by have := p0.dsk.nf; omega) (by have := p1.len; omega) (by have := p0.dsk.nl; omega) p1.sz (w := bq) (F := nin (fo F w.heap.size) [ac, aa, W])) ?_
 rintro cK cL ⟨⟨_, rfl, ⟨aJ, cM, aK, aL, cN, aM, aN, cO, aO, rfl, ae, af, ag⟩⟩, aP⟩
 have ay := al3 O.lt E.lt J.lt
 have aF : Gb w.heap.size bq.heap.size := C.size
 replace ⟨h1, h2, h3, h4, h9, h10, h11, h12, J, E, O, C⟩ := (se [ac, aa, W] aP).g12 h1 h2 h3 h4 h9 h10 h11 h12 J E O C
 replace ae := RepS.mixed' (M := [ac, aa, W]) ae ay aF
 have cp := ae.max
 replace af := RepS.mixed' (M := [ac, aa, W]) af ay aF
 have cq := af.max
 replace ag := RepS.mixed' (M := [ac, aa, W]) ag ay aF
 have cr := ag.max
 have aR := ae.len
 subst aR
 have aS := af.len
 subst aS
 have aT := ag.len
 subst aT
 refine .r 1 <| .sb 4 (.agg #[.slice aJ (((toD w_.disk steps cut).files).length) aK, .slice aL (((toD w_.disk steps cut).list).length) aM, .slice aN (((toD w_.disk steps cut).names).length) aO, vI ((toD w_.disk steps cut).next)]) [.slice a1 w_.store.idx.names.length c1, .slice a2 w_.store.idx.posts.length c2, .slice a3 w_.store.parts.length c3, .slice a4 w_.store.mem.length c4, .slice aJ (((toD w_.disk steps cut).files).length) aK, .slice aL (((toD w_.disk steps cut).list).length) aM, .slice aN (((toD w_.disk steps cut).names).length) aO, vI ((toD w_.disk steps cut).next)] J fun aQ av ah aU => ?_
 replace ⟨h1, h2, h3, h4, h9, h10, h11, h12, E, O, ae, af⟩ := (so [ac, aa, W] av).g12 h1 h2 h3 h4 h9 h10 h11 h12 E O ae af
 replace ⟨ag, C⟩ := (so [ac, aa, W] av).g2 ag C
 refine .d <| .s <| .s <| .g <| .r 3 <| .bp (cut < (steps.length : Int)) (fun aV => ?_) (fun aV => ?_)
 ·refine .d <| .ct <| .s <| .g <| .ln ah <| .cl (c_spec_l22Fall (⟨(⟨(⟨w_.store.idx.names, w_.store.idx.posts⟩ : Idx), w_.store.parts, w_.store.mem⟩ : Sto), (⟨(toD w_.disk steps cut).files, (toD w_.disk steps cut).list, (toD w_.disk steps cut).names, (toD w_.disk steps cut).next⟩ : Dsk)⟩ : Wld) h1.ta h2.ta h3.ta h4.ta ae.ta af.ta ag.ta (p1.ok _) (w := aQ) (F := all)) ?_
  rintro cu cv ⟨⟨_, rfl, ⟨bB, cw, bC, bD, cx, bE, bF, cy, bG, bH, cz, bI, bJ, cA, bK, bL, cB, bM, bN, cC, bO, rfl, aj, ak, al, am, ao, aq, ar⟩⟩, aG⟩
  have ab := al3 O.lt E.lt ah.lt
  have ai : Gb w.heap.size aQ.heap.size := C.size
  replace ⟨h9, h10, h11, h12, ah, E, O, ae, af, ag, C⟩ := (se [ac, aa, W] aG).g11 h9 h10 h11 h12 ah E O ae af ag C
  have aj := aj.fr ab ai
  replace aj := aj.base (G' := fo F w.heap.size) (fun _ _ h => .inr h)
  have bP := aj.max
  have ak := ak.fr ab ai
  replace ak := ak.base (G' := fo F w.heap.size) (fun _ _ h => .inr h)
  have bQ := ak.max
  have al := al.fr ab ai
  replace al := al.base (G' := fo F w.heap.size) (fun _ _ h => .inr h)
  have bR := al.max
  have am := am.fr ab ai
  replace am := am.base (G' := fo F w.heap.size) (fun _ _ h => .inr h)
  have bS := am.max
  have ao := ao.fr ab ai
  replace ao := ao.base (G' := fo F w.heap.size) (fun _ _ h => .inr h)
  have bT := ao.max
  have aq := aq.fr ab ai
  replace aq := aq.base (G' := fo F w.heap.size) (fun _ _ h => .inr h)
  have bU := aq.max
  have ar := ar.fr ab ai
  replace ar := ar.base (G' := fo F w.heap.size) (fun _ _ h => .inr h)
  have bV := ar.max
  have aW := aj.len
  subst aW
  have aX := ak.len
  subst aX
  have aY := al.len
  subst aY
  have aZ := am.len
  subst aZ
  have ba := ao.len
  subst ba
  have bc := aq.len
  subst bc
  have bd := ar.len
  subst bd
  refine .sc [.slice bB (((((fallW (⟨(⟨(⟨w_.store.idx.names, w_.store.idx.posts⟩ : Idx), w_.store.parts, w_.store.mem⟩ : Sto), (⟨(toD w_.disk steps cut).files, (toD w_.disk steps cut).list, (toD w_.disk steps cut).names, (toD w_.disk steps cut).next⟩ : Dsk)⟩ : Wld)).store).idx).names).length) bC, .slice bD (((((fallW (⟨(⟨(⟨w_.store.idx.names, w_.store.idx.posts⟩ : Idx), w_.store.parts, w_.store.mem⟩ : Sto), (⟨(toD w_.disk steps cut).files, (toD w_.disk steps cut).list, (toD w_.disk steps cut).names, (toD w_.disk steps cut).next⟩ : Dsk)⟩ : Wld)).store).idx).posts).length) bE, .slice bF ((((fallW (⟨(⟨(⟨w_.store.idx.names, w_.store.idx.posts⟩ : Idx), w_.store.parts, w_.store.mem⟩ : Sto), (⟨(toD w_.disk steps cut).files, (toD w_.disk steps cut).list, (toD w_.disk steps cut).names, (toD w_.disk steps cut).next⟩ : Dsk)⟩ : Wld)).store).parts).length) bG, .slice bH ((((fallW (⟨(⟨(⟨w_.store.idx.names, w_.store.idx.posts⟩ : Idx), w_.store.parts, w_.store.mem⟩ : Sto), (⟨(toD w_.disk steps cut).files, (toD w_.disk steps cut).list, (toD w_.disk steps cut).names, (toD w_.disk steps cut).next⟩ : Dsk)⟩ : Wld)).store).mem).length) bI, .slice bJ ((((fallW (⟨(⟨(⟨w_.store.idx.names, w_.store.idx.posts⟩ : Idx), w_.store.parts, w_.store.mem⟩ : Sto), (⟨(toD w_.disk steps cut).files, (toD w_.disk steps cut).list, (toD w_.disk steps cut).names, (toD w_.disk steps cut).next⟩ : Dsk)⟩ : Wld)).disk).files).length) bK, .slice bL ((((fallW (⟨(⟨(⟨w_.store.idx.names, w_.store.idx.posts⟩ : Idx), w_.store.parts, w_.store.mem⟩ : Sto), (⟨(toD w_.disk steps cut).files, (toD w_.disk steps cut).list, (toD w_.disk steps cut).names, (toD w_.disk steps cut).next⟩ : Dsk)⟩ : Wld)).disk).list).length) bM, .slice bN ((((fallW (⟨(⟨(⟨w_.store.idx.names, w_.store.idx.posts⟩ : Idx), w_.store.parts, w_.store.mem⟩ : Sto), (⟨(toD w_.disk steps cut).files, (toD w_.disk steps cut).list, (toD w_.disk steps cut).names, (toD w_.disk steps cut).next⟩ : Dsk)⟩ : Wld)).disk).names).length) bO, vI (((fallW (⟨(⟨(⟨w_.store.idx.names, w_.store.idx.posts⟩ : Idx), w_.store.parts, w_.store.mem⟩ : Sto), (⟨(toD w_.disk steps cut).files, (toD w_.disk steps cut).list, (toD w_.disk steps cut).names, (toD w_.disk steps cut).next⟩ : Dsk)⟩ : Wld)).disk).next)] O fun cD aw bg bh => ?_
  replace ⟨h9, h10, h11, h12, ah, E, ae, af, ag, aj, ak, al⟩ := (so [ac, aa, W] aw).g12 h9 h10 h11 h12 ah E ae af ag aj ak al
  replace ⟨am, ao, aq, ar, C⟩ := (so [ac, aa, W] aw).g5 am ao aq ar C
  exact .d <| .rb Tryz.func137 Tryz.results137 bg ⟨(VS.of (y := (⟨(⟨(⟨(((fallW (⟨(⟨(⟨w_.store.idx.names, w_.store.idx.posts⟩ : Idx), w_.store.parts, w_.store.mem⟩ : Sto), (⟨(toD w_.disk steps cut).files, (toD w_.disk steps cut).list, (toD w_.disk steps cut).names, (toD w_.disk steps cut).next⟩ : Dsk)⟩ : Wld)).store).idx).names, (((fallW (⟨(⟨(⟨w_.store.idx.names, w_.store.idx.posts⟩ : Idx), w_.store.parts, w_.store.mem⟩ : Sto), (⟨(toD w_.disk steps cut).files, (toD w_.disk steps cut).list, (toD w_.disk steps cut).names, (toD w_.disk steps cut).next⟩ : Dsk)⟩ : Wld)).store).idx).posts⟩ : Idx), ((fallW (⟨(⟨(⟨w_.store.idx.names, w_.store.idx.posts⟩ : Idx), w_.store.parts, w_.store.mem⟩ : Sto), (⟨(toD w_.disk steps cut).files, (toD w_.disk steps cut).list, (toD w_.disk steps cut).names, (toD w_.disk steps cut).next⟩ : Dsk)⟩ : Wld)).store).parts, ((fallW (⟨(⟨(⟨w_.store.idx.names, w_.store.idx.posts⟩ : Idx), w_.store.parts, w_.store.mem⟩ : Sto), (⟨(toD w_.disk steps cut).files, (toD w_.disk steps cut).list, (toD w_.disk steps cut).names, (toD w_.disk steps cut).next⟩ : Dsk)⟩ : Wld)).store).mem⟩ : Sto), (⟨((fallW (⟨(⟨(⟨w_.store.idx.names, w_.store.idx.posts⟩ : Idx), w_.store.parts, w_.store.mem⟩ : Sto), (⟨(toD w_.disk steps cut).files, (toD w_.disk steps cut).list, (toD w_.disk steps cut).names, (toD w_.disk steps cut).next⟩ : Dsk)⟩ : Wld)).disk).files, ((fallW (⟨(⟨(⟨w_.store.idx.names, w_.store.idx.posts⟩ : Idx), w_.store.parts, w_.store.mem⟩ : Sto), (⟨(toD w_.disk steps cut).files, (toD w_.disk steps cut).list, (toD w_.disk steps cut).names, (toD w_.disk steps cut).next⟩ : Dsk)⟩ : Wld)).disk).list, ((fallW (⟨(⟨(⟨w_.store.idx.names, w_.store.idx.posts⟩ : Idx), w_.store.parts, w_.store.mem⟩ : Sto), (⟨(toD w_.disk steps cut).files, (toD w_.disk steps cut).list, (toD w_.disk steps cut).names, (toD w_.disk steps cut).next⟩ : Dsk)⟩ : Wld)).disk).names, ((fallW (⟨(⟨(⟨w_.store.idx.names, w_.store.idx.posts⟩ : Idx), w_.store.parts, w_.store.mem⟩ : Sto), (⟨(toD w_.disk steps cut).files, (toD w_.disk steps cut).list, (toD w_.disk steps cut).names, (toD w_.disk steps cut).next⟩ : Dsk)⟩ : Wld)).disk).next⟩ : Dsk)⟩ : Wld)) ⟨_, rfl, ⟨_, _, _, _, _, _, _, _, _, _, _, _, _, _, _, _, _, _, _, _, _, rfl, aj.w1, ak.w1, al.w1, am.w1, ao.w1, aq.w1, ar.w1⟩⟩ (by rw [stepsW_1 (by omega) (by omega) (by omega)])), C⟩
 refine .d <| .cf <| .sk <| .s <| .g <| .ln E <| .r 1 <| .sb 0 (.agg #[.slice a9 s.idx.names.length c9, .slice a10 s.idx.posts.length c10, .slice a11 s.parts.length c11, .slice a12 s.mem.length c12]) [.slice a9 s.idx.names.length c9, .slice a10 s.idx.posts.length c10, .slice a11 s.parts.length c11, .slice a12 s.mem.length c12, .slice aJ (((toD w_.disk steps cut).files).length) aK, .slice aL (((toD w_.disk steps cut).list).length) aM, .slice aN (((toD w_.disk steps cut).names).length) aO, vI ((toD w_.disk steps cut).next)] ah fun cE aH bi bj => ?_
 replace ⟨h9, h10, h11, h12, O, ae, af, ag, C⟩ := (so [ac, aa, W] aH).g9 h9 h10 h11 h12 O ae af ag C
 refine .d <| .s <| .g <| .ln bi <| .sc [.slice a9 s.idx.names.length c9, .slice a10 s.idx.posts.length c10, .slice a11 s.parts.length c11, .slice a12 s.mem.length c12, .slice aJ (((toD w_.disk steps cut).files).length) aK, .slice aL (((toD w_.disk steps cut).list).length) aM, .slice aN (((toD w_.disk steps cut).names).length) aO, vI ((toD w_.disk steps cut).next)] O fun cF aI bk bm => ?_
 replace ⟨h9, h10, h11, h12, ae, af, ag, C⟩ := (so [ac, aa, W] aI).g8 h9 h10 h11 h12 ae af ag C
 exact .d <| .rb Tryz.func137 Tryz.results137 bk ⟨(VS.of (y := (⟨(⟨(⟨s.idx.names, s.idx.posts⟩ : Idx), s.parts, s.mem⟩ : Sto), (⟨(toD w_.disk steps cut).files, (toD w_.disk steps cut).list, (toD w_.disk steps cut).names, (toD w_.disk steps cut).next⟩ : Dsk)⟩ : Wld)) ⟨_, rfl, ⟨_, _, _, _, _, _, _, _, _, _, _, _, _, _, _, _, _, _, _, _, _, rfl, h9.w1, h10.w1, h11.w1, h12.w1, ae.w1, af.w1, ag.w1⟩⟩ (by rw [stepsW_2 (by omega) (by omega) (by omega)])), C⟩
theorem c_spec_l22Do (w_ : Wld) (e : Evt) {w : World} {F : Nat → Prop} {a1 : Option Addr} {n1 c1 : Nat} (h1 : RepS w F a1 n1 c1 w_.store.idx.names) {a2 : Option Addr} {n2 c2 : Nat} (h2 : RepS w F a2 n2 c2 w_.store.idx.posts) {a3 : Option Addr} {n3 c3 : Nat} (h3 : RepS w F a3 n3 c3 w_.store.parts) {a4 : Option Addr} {n4 c4 : Nat} (h4 : RepS w F a4 n4 c4 w_.store.mem) {a5 : Option Addr} {n5 c5 : Nat} (h5 : RepS w F a5 n5 c5 w_.disk.files) {a6 : Option Addr} {n6 c6 : Nat} (h6 : RepS w F a6 n6 c6 w_.disk.list) {a7 : Option Addr} {n7 c7 : Nat} (h7 : RepS w F a7 n7 c7 w_.disk.names) {a8 : Option Addr} {n8 c8 : Nat} (h8 : RepS w F a8 n8 c8 e.name) (p0 : WI w_) (p1 : NmSz e.name) : Calls Tryz.prog 89 [.agg #[.slice a1 n1 c1, .slice a2 n2 c2, .slice a3 n3 c3, .slice a4 n4 c4, .slice a5 n5 c5, .slice a6 n6 c6, .slice a7 n7 c7, .int .i64 w_.disk.next], .agg #[.int .i64 e.kind, .int .i64 e.at_, .int .i64 e.cut, .slice a8 n8 c8, .int .i64 e.row.t, .int .i64 e.row.v]].toArray w (rets fun rv w' => VS (fo F w.heap.size) w' (doW w_ e : Wld) rv ∧ Ext w w') := by
 refine goT Tryz.func89 ?_
 obtain ⟨rfl, fX, h1⟩ := h1.tp
 obtain ⟨rfl, fY, h2⟩ := h2.tp
 obtain ⟨rfl, fZ, h3⟩ := h3.tp
 obtain ⟨rfl, f0, h4⟩ := h4.tp
 obtain ⟨rfl, f5, h5⟩ := h5.tp
 obtain ⟨rfl, f6, h6⟩ := h6.tp
 obtain ⟨rfl, f7, h7⟩ := h7.tp
 obtain ⟨rfl, f8, h8⟩ := h8.tp
 refine .s <| .g <| .np 70 [.slice a1 w_.store.idx.names.length c1, .slice a2 w_.store.idx.posts.length c2, .slice a3 w_.store.parts.length c3, .slice a4 w_.store.mem.length c4, .slice a5 w_.disk.files.length c5, .slice a6 w_.disk.list.length c6, .slice a7 w_.disk.names.length c7, vI w_.disk.next] fun W iy bN bO C dF => ?_
 have f9 : Cov nil w W := cov_new bN (Nat.le_refl _)
 replace ⟨h1, h2, h3, h4, h5, h6, h7, h8⟩ := (sn [] bO bN).g8 h1 h2 h3 h4 h5 h6 h7 h8
 have E := bO
 refine .np 114 [vI e.kind, vI e.at_, vI e.cut, .slice a8 e.name.length c8, vI e.row.t, vI e.row.v] fun aa iz bP ci J dG => ?_
 have ga := nb_new bP C.lt
 replace ⟨h1, h2, h3, h4, h5, h6, h7, h8, C, E⟩ := (sn [W] ci bP).g10 h1 h2 h3 h4 h5 h6 h7 h8 C E
 refine .np 70 [.slice none 0 0, .slice none 0 0, .slice none 0 0, .slice none 0 0, .slice none 0 0, .slice none 0 0, .slice none 0 0, vI 0] fun ab bu br cj O dH => ?_
 have gb := nb_new br C.lt
 have gf := nb_new br J.lt
 have gh := E.cn br
 replace ⟨h1, h2, h3, h4, h5, h6, h7, h8, C, J, E⟩ := (sn [aa, W] cj br).g11 h1 h2 h3 h4 h5 h6 h7 h8 C J E
 refine .d <| .s <| .s <| .g <| .r 1 <| .lb J <| .d <| .b 0 <| .s <| .g <| .eq e.kind 1 (fun dI => ?_) (fun dI => ?_)
 ·refine .r 1 <| .d <| .ct <| .s <| .g <| .r 1 <| .lb J <| .cl (c_spec_NameOk e.name h8.ta (w := bu) (F := all)) ?_
  rintro iA dJ ⟨rfl, ck⟩
  replace ⟨h1, h2, h3, h4, h5, h6, h7, h8, C, J, O, E⟩ := (se [ab, aa, W] ck).g12 h1 h2 h3 h4 h5 h6 h7 h8 C J O E
  cases gi : (nameOk e.name)
  ·refine .d <| .cf <| .sk <| .ib 0 <| .s <| .g <| .ln C <| .sc [.slice a1 w_.store.idx.names.length c1, .slice a2 w_.store.idx.posts.length c2, .slice a3 w_.store.parts.length c3, .slice a4 w_.store.mem.length c4, .slice a5 w_.disk.files.length c5, .slice a6 w_.disk.list.length c6, .slice a7 w_.disk.names.length c7, vI w_.disk.next] O fun iB cm dK dL => ?_
   replace ⟨h1, h2, h3, h4, h5, h6, h7, h8, C, J, E⟩ := (so [ab, aa, W] cm).g11 h1 h2 h3 h4 h5 h6 h7 h8 C J E
   exact .d <| .rb Tryz.func89 Tryz.results89 dK ⟨(VS.of (y := w_) ⟨_, rfl, ⟨_, _, _, _, _, _, _, _, _, _, _, _, _, _, _, _, _, _, _, _, _, rfl, h1.w1, h2.w1, h3.w1, h4.w1, h5.w1, h6.w1, h7.w1⟩⟩ (by (rw [doW_1f ‹_› ‹_›]))), E⟩
  refine .d <| .ct <| .s <| .g <| .r 1 <| .ln C <| .r 1 <| .lb J <| .r 1 <| .ln J <| .cl (c_spec_l13Add w_.store e.name e.row h1 h2 h3 h4 h8 p0.sto.sz p1 (w := dJ) (F := nin (fo F w.heap.size) [ab, aa, W])) ?_
  rintro iC iD ⟨⟨iE, rfl, ⟨_, rfl, ⟨b0, iF, b6, b7, iG, b8, b9, iH, cd, ce, iI, cg, rfl, aK, aL, aM, aN⟩⟩⟩, co⟩
  have bt := al3 O.lt J.lt C.lt
  have bM : Gb w.heap.size dJ.heap.size := E.size
  replace ⟨h1, h2, h3, h4, h5, h6, h7, C, J, O, E⟩ := (se [ab, aa, W] co).g11 h1 h2 h3 h4 h5 h6 h7 C J O E
  replace aK := RepS.mixed' (M := [ab, aa, W]) aK bt bM
  have gj := aK.max
  replace aL := RepS.mixed' (M := [ab, aa, W]) aL bt bM
  have gk := aL.max
  replace aM := RepS.mixed' (M := [ab, aa, W]) aM bt bM
  have gl := aM.max
  replace aN := RepS.mixed' (M := [ab, aa, W]) aN bt bM
  have gm := aN.max
  have dM := aK.len
  subst dM
  have dN := aL.len
  subst dN
  have dO := aM.len
  subst dO
  have cr := aN.len
  subst cr
  refine .r 3 <| .np 34 [.slice none 0 0, .slice none 0 0, .slice none 0 0, .slice none 0 0] fun bk gn ax bv cu cv => ?_
  have e8 := nb_new ax C.lt
  have fa := nb_new ax J.lt
  have fb := nb_new ax O.lt
  have fc := E.cn ax
  replace ⟨h1, h2, h3, h4, h5, h6, h7, C, J, O, aK, aL⟩ := (sn [ab, aa, W] bv ax).g12 h1 h2 h3 h4 h5 h6 h7 C J O aK aL
  replace ⟨aM, aN, E⟩ := (sn [ab, aa, W] bv ax).g3 aM aN E
  refine .sc [.slice b0 (((((addS w_.store e.name e.row).1).idx).names).length) b6, .slice b7 (((((addS w_.store e.name e.row).1).idx).posts).length) b8, .slice b9 ((((addS w_.store e.name e.row).1).parts).length) cd, .slice ce ((((addS w_.store e.name e.row).1).mem).length) cg] cu fun gp bw cw cx => ?_
  replace ⟨h1, h2, h3, h4, h5, h6, h7, C, J, O, aK, aL⟩ := (so [bk, ab, aa, W] bw).g12 h1 h2 h3 h4 h5 h6 h7 C J O aK aL
  replace ⟨aM, aN, E⟩ := (so [bk, ab, aa, W] bw).g3 aM aN E
  refine .r 1 <| .d <| .g <| .ln cw <| .r 1 <| .sb 0 (.agg #[.slice b0 (((((addS w_.store e.name e.row).1).idx).names).length) b6, .slice b7 (((((addS w_.store e.name e.row).1).idx).posts).length) b8, .slice b9 ((((addS w_.store e.name e.row).1).parts).length) cd, .slice ce ((((addS w_.store e.name e.row).1).mem).length) cg]) [.slice b0 (((((addS w_.store e.name e.row).1).idx).names).length) b6, .slice b7 (((((addS w_.store e.name e.row).1).idx).posts).length) b8, .slice b9 ((((addS w_.store e.name e.row).1).parts).length) cd, .slice ce ((((addS w_.store e.name e.row).1).mem).length) cg, .slice a5 w_.disk.files.length c5, .slice a6 w_.disk.list.length c6, .slice a7 w_.disk.names.length c7, vI w_.disk.next] C fun gq bz cy cz => ?_
  replace ⟨h1, h2, h3, h4, h5, h6, h7, J, O, aK, aL, aM⟩ := (so [bk, ab, aa, W] bz).g12 h1 h2 h3 h4 h5 h6 h7 J O aK aL aM
  replace ⟨aN, E⟩ := (so [bk, ab, aa, W] bz).g2 aN E
  refine .d <| .ib 0 <| .s <| .g <| .ln cy <| .sc [.slice b0 (((((addS w_.store e.name e.row).1).idx).names).length) b6, .slice b7 (((((addS w_.store e.name e.row).1).idx).posts).length) b8, .slice b9 ((((addS w_.store e.name e.row).1).parts).length) cd, .slice ce ((((addS w_.store e.name e.row).1).mem).length) cg, .slice a5 w_.disk.files.length c5, .slice a6 w_.disk.list.length c6, .slice a7 w_.disk.names.length c7, vI w_.disk.next] O fun gr bA cA cB => ?_
  replace ⟨h1, h2, h3, h4, h5, h6, h7, J, aK, aL, aM, aN⟩ := (so [bk, ab, aa, W] bA).g12 h1 h2 h3 h4 h5 h6 h7 J aK aL aM aN
  replace E := (so [bk, ab, aa, W] bA).g1 E
  exact .d <| .rb Tryz.func89 Tryz.results89 cA ⟨(VS.of (y := (⟨(⟨(⟨(((addS w_.store e.name e.row).1).idx).names, (((addS w_.store e.name e.row).1).idx).posts⟩ : Idx), ((addS w_.store e.name e.row).1).parts, ((addS w_.store e.name e.row).1).mem⟩ : Sto), (⟨w_.disk.files, w_.disk.list, w_.disk.names, w_.disk.next⟩ : Dsk)⟩ : Wld)) ⟨_, rfl, ⟨_, _, _, _, _, _, _, _, _, _, _, _, _, _, _, _, _, _, _, _, _, rfl, aK.w1, aL.w1, aM.w1, aN.w1, h5.w1, h6.w1, h7.w1⟩⟩ (by (rw [doW_1 ‹_› ‹_›]))), E⟩
 refine .r 1 <| .d <| .cf <| .s <| .g <| .eq e.kind 2 (fun cC => ?_) (fun cC => ?_)
 ·refine .r 1 <| .d <| .ct <| .s <| .g <| .r 1 <| .ln C <| .cl (c_spec_l13Flush w_.store h1 h2 h3 h4 (by have := p0.sto.nm2; omega) p0.sto.mem6 (w := bu) (F := nin (fo F w.heap.size) [ab, aa, W])) ?_
  rintro gs gt ⟨⟨gu, rfl, ⟨_, rfl, ⟨dP, gv, dQ, dR, gw, dS, dT, gx, dU, dV, gy, dW, rfl, af, ag, ah, ai⟩⟩⟩, bQ⟩
  have aR := al3 O.lt J.lt C.lt
  have bm : Gb w.heap.size bu.heap.size := E.size
  replace ⟨h1, h2, h3, h4, h5, h6, h7, C, J, O, E⟩ := (se [ab, aa, W] bQ).g11 h1 h2 h3 h4 h5 h6 h7 C J O E
  replace af := RepS.mixed' (M := [ab, aa, W]) af aR bm
  have fd := af.max
  replace ag := RepS.mixed' (M := [ab, aa, W]) ag aR bm
  have fe := ag.max
  replace ah := RepS.mixed' (M := [ab, aa, W]) ah aR bm
  have ff := ah.max
  replace ai := RepS.mixed' (M := [ab, aa, W]) ai aR bm
  have fg := ai.max
  have cD := af.len
  subst cD
  have cE := ag.len
  subst cE
  have cF := ah.len
  subst cF
  have cG := ai.len
  subst cG
  refine .r 3 <| .np 34 [.slice none 0 0, .slice none 0 0, .slice none 0 0, .slice none 0 0] fun ac gz ay bB cH cI => ?_
  have fh := nb_new ay C.lt
  have fi := nb_new ay J.lt
  have fj := nb_new ay O.lt
  have fk := E.cn ay
  replace ⟨h1, h2, h3, h4, h5, h6, h7, C, J, O, af, ag⟩ := (sn [ab, aa, W] bB ay).g12 h1 h2 h3 h4 h5 h6 h7 C J O af ag
  replace ⟨ah, ai, E⟩ := (sn [ab, aa, W] bB ay).g3 ah ai E
  refine .sc [.slice dP (((((flushR w_.store).1).idx).names).length) dQ, .slice dR (((((flushR w_.store).1).idx).posts).length) dS, .slice dT ((((flushR w_.store).1).parts).length) dU, .slice dV ((((flushR w_.store).1).mem).length) dW] cH fun gA bC ao cJ => ?_
  replace ⟨h1, h2, h3, h4, h5, h6, h7, C, J, O, af, ag⟩ := (so [ac, ab, aa, W] bC).g12 h1 h2 h3 h4 h5 h6 h7 C J O af ag
  replace ⟨ah, ai, E⟩ := (so [ac, ab, aa, W] bC).g3 ah ai E
  refine .r 1 <| .d <| .s <| .gd nil 9 fun gC bD => ?_
  replace ⟨h1, h2, h3, h4, h5, h6, h7, C, J, O, af, ag⟩ := (se [ac, ab, aa, W] bD).g12 h1 h2 h3 h4 h5 h6 h7 C J O af ag
  replace ⟨ah, ai, ao, E⟩ := (se [ac, ab, aa, W] bD).g4 ah ai ao E
  refine .ln 0 C id <| .r [1] <| .ln 2 C id <| .r [3] <| .ln 4 C id <| .r [6] <| .lb 7 J id <| .ln 8 ao id <| .go 5 <| .cl (fun bR ar => c_spec_l21Flush w_.disk w_.store (h5.ta.ext ar) (h6.ta.ext ar) (h7.ta.ext ar) (h1.ta.ext ar) (h2.ta.ext ar) (h3.ta.ext ar) (h4.ta.ext ar) (by have := p0.sto.nm2; omega) p0.sto.mem6 (by have := p0.dsk.nl; omega) (by have := p0.sto.nm.len; omega) (fun n hn => (p0.sto.nm.sz n hn).1) (w := bR) (F := all)) ?_
  intro bR ar
  replace ⟨h1, h2, h3, h4, h5, h6, h7, C, J, O, af, ag⟩ := (se [ac, ab, aa, W] ar).g12 h1 h2 h3 h4 h5 h6 h7 C J O af ag
  replace ⟨ah, ai, ao, E⟩ := (se [ac, ab, aa, W] ar).g4 ah ai ao E
  rintro gD gE ⟨⟨gF, gG, rfl, aP⟩, bn⟩
  have bS := al4 ao.lt O.lt J.lt C.lt
  have cK : Gb w.heap.size bR.heap.size := E.size
  have hkeep_ := bn
  replace ⟨h1, h2, h3, h4, h5, h6, h7, C, J, O, af, ag⟩ := (se [ac, ab, aa, W] bn).g12 h1 h2 h3 h4 h5 h6 h7 C J O af ag
  replace ⟨ah, ai, ao, E⟩ := (se [ac, ab, aa, W] bn).g4 ah ai ao E
  refine ⟨Ext.chg hkeep_, ?_⟩
  have aP := aP.fr bS cK
  replace aP := aP.base (G' := fo F w.heap.size) (fun _ _ h => .inr h)
  have fm := aP.max
  refine .d fun cp bE => ?_
  replace ⟨h1, h2, h3, h4, h5, h6, h7, C, J, O, af, ag⟩ := (se [ac, ab, aa, W] bE).g12 h1 h2 h3 h4 h5 h6 h7 C J O af ag
  replace ⟨ah, ai, ao, aP, E⟩ := (se [ac, ab, aa, W] bE).g5 ah ai ao aP E
  refine .cl (c_spec_l22Steps w_ (flushSt w_.disk w_.store) e.cut (⟨(⟨(((flushR w_.store).1).idx).names, (((flushR w_.store).1).idx).posts⟩ : Idx), ((flushR w_.store).1).parts, ((flushR w_.store).1).mem⟩ : Sto) h1 h2 h3 h4 h5 h6 h7 aP af ag ah ai p0 (by exact StI.flush p0) (by exact p0.sto.flush) (w := cp) (F := nin (fo F w.heap.size) [ac, ab, aa, W])) ?_
  rintro gH gI ⟨⟨_, rfl, ⟨dX, gJ, dY, dZ, gK, d0, d3, gL, d4, d5, gM, d6, d7, gN, d8, d9, gO, ec, ed, gP, ee, rfl, aS, aT, aU, aV, aW, aX, aY⟩⟩, bT⟩
  have au := al4 ao.lt O.lt J.lt C.lt
  have az : Gb w.heap.size cp.heap.size := E.size
  replace ⟨h1, h2, h3, h4, h5, h6, h7, C, J, O, E⟩ := (se [ac, ab, aa, W] bT).g11 h1 h2 h3 h4 h5 h6 h7 C J O E
  replace aS := RepS.mixed' (M := [ac, ab, aa, W]) aS au az
  have fp := aS.max
  replace aT := RepS.mixed' (M := [ac, ab, aa, W]) aT au az
  have fq := aT.max
  replace aU := RepS.mixed' (M := [ac, ab, aa, W]) aU au az
  have ft := aU.max
  replace aV := RepS.mixed' (M := [ac, ab, aa, W]) aV au az
  have fu := aV.max
  replace aW := RepS.mixed' (M := [ac, ab, aa, W]) aW au az
  have fv := aW.max
  replace aX := RepS.mixed' (M := [ac, ab, aa, W]) aX au az
  have fw := aX.max
  replace aY := RepS.mixed' (M := [ac, ab, aa, W]) aY au az
  have fz := aY.max
  have cL := aS.len
  subst cL
  have cM := aT.len
  subst cM
  have cN := aU.len
  subst cN
  have cO := aV.len
  subst cO
  have cP := aW.len
  subst cP
  have cQ := aX.len
  subst cQ
  have cR := aY.len
  subst cR
  refine .sc [.slice dX (((((stepsW w_ (flushSt w_.disk w_.store) e.cut (⟨(⟨(((flushR w_.store).1).idx).names, (((flushR w_.store).1).idx).posts⟩ : Idx), ((flushR w_.store).1).parts, ((flushR w_.store).1).mem⟩ : Sto)).store).idx).names).length) dY, .slice dZ (((((stepsW w_ (flushSt w_.disk w_.store) e.cut (⟨(⟨(((flushR w_.store).1).idx).names, (((flushR w_.store).1).idx).posts⟩ : Idx), ((flushR w_.store).1).parts, ((flushR w_.store).1).mem⟩ : Sto)).store).idx).posts).length) d0, .slice d3 ((((stepsW w_ (flushSt w_.disk w_.store) e.cut (⟨(⟨(((flushR w_.store).1).idx).names, (((flushR w_.store).1).idx).posts⟩ : Idx), ((flushR w_.store).1).parts, ((flushR w_.store).1).mem⟩ : Sto)).store).parts).length) d4, .slice d5 ((((stepsW w_ (flushSt w_.disk w_.store) e.cut (⟨(⟨(((flushR w_.store).1).idx).names, (((flushR w_.store).1).idx).posts⟩ : Idx), ((flushR w_.store).1).parts, ((flushR w_.store).1).mem⟩ : Sto)).store).mem).length) d6, .slice d7 ((((stepsW w_ (flushSt w_.disk w_.store) e.cut (⟨(⟨(((flushR w_.store).1).idx).names, (((flushR w_.store).1).idx).posts⟩ : Idx), ((flushR w_.store).1).parts, ((flushR w_.store).1).mem⟩ : Sto)).disk).files).length) d8, .slice d9 ((((stepsW w_ (flushSt w_.disk w_.store) e.cut (⟨(⟨(((flushR w_.store).1).idx).names, (((flushR w_.store).1).idx).posts⟩ : Idx), ((flushR w_.store).1).parts, ((flushR w_.store).1).mem⟩ : Sto)).disk).list).length) ec, .slice ed ((((stepsW w_ (flushSt w_.disk w_.store) e.cut (⟨(⟨(((flushR w_.store).1).idx).names, (((flushR w_.store).1).idx).posts⟩ : Idx), ((flushR w_.store).1).parts, ((flushR w_.store).1).mem⟩ : Sto)).disk).names).length) ee, vI (((stepsW w_ (flushSt w_.disk w_.store) e.cut (⟨(⟨(((flushR w_.store).1).idx).names, (((flushR w_.store).1).idx).posts⟩ : Idx), ((flushR w_.store).1).parts, ((flushR w_.store).1).mem⟩ : Sto)).disk).next)] O fun gQ bF cS cT => ?_
  replace ⟨h1, h2, h3, h4, h5, h6, h7, C, J, aS, aT, aU⟩ := (so [ac, ab, aa, W] bF).g12 h1 h2 h3 h4 h5 h6 h7 C J aS aT aU
  replace ⟨aV, aW, aX, aY, E⟩ := (so [ac, ab, aa, W] bF).g5 aV aW aX aY E
  exact .d <| .rb Tryz.func89 Tryz.results89 cS ⟨(VS.of (y := (⟨(⟨(⟨(((stepsW w_ (flushSt w_.disk w_.store) e.cut (⟨(⟨(((flushR w_.store).1).idx).names, (((flushR w_.store).1).idx).posts⟩ : Idx), ((flushR w_.store).1).parts, ((flushR w_.store).1).mem⟩ : Sto)).store).idx).names, (((stepsW w_ (flushSt w_.disk w_.store) e.cut (⟨(⟨(((flushR w_.store).1).idx).names, (((flushR w_.store).1).idx).posts⟩ : Idx), ((flushR w_.store).1).parts, ((flushR w_.store).1).mem⟩ : Sto)).store).idx).posts⟩ : Idx), ((stepsW w_ (flushSt w_.disk w_.store) e.cut (⟨(⟨(((flushR w_.store).1).idx).names, (((flushR w_.store).1).idx).posts⟩ : Idx), ((flushR w_.store).1).parts, ((flushR w_.store).1).mem⟩ : Sto)).store).parts, ((stepsW w_ (flushSt w_.disk w_.store) e.cut (⟨(⟨(((flushR w_.store).1).idx).names, (((flushR w_.store).1).idx).posts⟩ : Idx), ((flushR w_.store).1).parts, ((flushR w_.store).1).mem⟩ : Sto)).store).mem⟩ : Sto), (⟨((stepsW w_ (flushSt w_.disk w_.store) e.cut (⟨(⟨(((flushR w_.store).1).idx).names, (((flushR w_.store).1).idx).posts⟩ : Idx), ((flushR w_.store).1).parts, ((flushR w_.store).1).mem⟩ : Sto)).disk).files, ((stepsW w_ (flushSt w_.disk w_.store) e.cut (⟨(⟨(((flushR w_.store).1).idx).names, (((flushR w_.store).1).idx).posts⟩ : Idx), ((flushR w_.store).1).parts, ((flushR w_.store).1).mem⟩ : Sto)).disk).list, ((stepsW w_ (flushSt w_.disk w_.store) e.cut (⟨(⟨(((flushR w_.store).1).idx).names, (((flushR w_.store).1).idx).posts⟩ : Idx), ((flushR w_.store).1).parts, ((flushR w_.store).1).mem⟩ : Sto)).disk).names, ((stepsW w_ (flushSt w_.disk w_.store) e.cut (⟨(⟨(((flushR w_.store).1).idx).names, (((flushR w_.store).1).idx).posts⟩ : Idx), ((flushR w_.store).1).parts, ((flushR w_.store).1).mem⟩ : Sto)).disk).next⟩ : Dsk)⟩ : Wld)) ⟨_, rfl, ⟨_, _, _, _, _, _, _, _, _, _, _, _, _, _, _, _, _, _, _, _, _, rfl, aS.w1, aT.w1, aU.w1, aV.w1, aW.w1, aX.w1, aY.w1⟩⟩ (by (rw [doW_2 ‹_›]))), E⟩
 refine .r 1 <| .d <| .cf <| .s <| .g <| .eq e.kind 3 (fun cU => ?_) (fun cU => ?_)
 ·refine .r 1 <| .d <| .ct <| .s <| .g <| .r 1 <| .ln C <| .r 1 <| .lb J <| .cl (c_spec_l13Merge w_.store e.at_ h1 h2 h3 h4 (by have := p0.sto.np; omega) (fun p hp => (p0.sto.part p hp).sz) (w := bu) (F := nin (fo F w.heap.size) [ab, aa, W])) ?_
  rintro gR gS ⟨⟨gT, rfl, ⟨_, rfl, ⟨ef, gU, eg, eh, gV, ej, ek, gW, en, et, gX, ey, rfl, aj, ak, al, am⟩⟩⟩, bU⟩
  have aZ := al3 O.lt J.lt C.lt
  have bo : Gb w.heap.size bu.heap.size := E.size
  replace ⟨h1, h2, h3, h4, h5, h6, h7, C, J, O, E⟩ := (se [ab, aa, W] bU).g11 h1 h2 h3 h4 h5 h6 h7 C J O E
  replace aj := RepS.mixed' (M := [ab, aa, W]) aj aZ bo
  have fA := aj.max
  replace ak := RepS.mixed' (M := [ab, aa, W]) ak aZ bo
  have fB := ak.max
  replace al := RepS.mixed' (M := [ab, aa, W]) al aZ bo
  have fC := al.max
  replace am := RepS.mixed' (M := [ab, aa, W]) am aZ bo
  have fD := am.max
  have cV := aj.len
  subst cV
  have cW := ak.len
  subst cW
  have cX := al.len
  subst cX
  have cY := am.len
  subst cY
  refine .r 3 <| .np 34 [.slice none 0 0, .slice none 0 0, .slice none 0 0, .slice none 0 0] fun ae gY aA bG cZ c9 => ?_
  have fE := nb_new aA C.lt
  have fF := nb_new aA J.lt
  have fG := nb_new aA O.lt
  have fH := E.cn aA
  replace ⟨h1, h2, h3, h4, h5, h6, h7, C, J, O, aj, ak⟩ := (sn [ab, aa, W] bG aA).g12 h1 h2 h3 h4 h5 h6 h7 C J O aj ak
  replace ⟨al, am, E⟩ := (sn [ab, aa, W] bG aA).g3 al am E
  refine .sc [.slice ef (((((mergeR w_.store e.at_).1).idx).names).length) eg, .slice eh (((((mergeR w_.store e.at_).1).idx).posts).length) ej, .slice ek ((((mergeR w_.store e.at_).1).parts).length) en, .slice et ((((mergeR w_.store e.at_).1).mem).length) ey] cZ fun gZ bH aq da => ?_
  replace ⟨h1, h2, h3, h4, h5, h6, h7, C, J, O, aj, ak⟩ := (so [ae, ab, aa, W] bH).g12 h1 h2 h3 h4 h5 h6 h7 C J O aj ak
  replace ⟨al, am, E⟩ := (so [ae, ab, aa, W] bH).g3 al am E
  refine .r 1 <| .d <| .s <| .gd nil 9 fun g0 bI => ?_
  replace ⟨h1, h2, h3, h4, h5, h6, h7, C, J, O, aj, ak⟩ := (se [ae, ab, aa, W] bI).g12 h1 h2 h3 h4 h5 h6 h7 C J O aj ak
  replace ⟨al, am, aq, E⟩ := (se [ae, ab, aa, W] bI).g4 al am aq E
  refine .ln 0 C id <| .r [1] <| .ln 2 C id <| .r [3] <| .lb 4 J id <| .r [6] <| .lb 7 J id <| .ln 8 aq id <| .go 5 <| .cl (fun bV aO => c_spec_l21Merge w_.disk e.at_ (h5.ta.ext aO) (h6.ta.ext aO) (h7.ta.ext aO) (by have := p0.dsk.nm.len; omega) (fun n hn => (p0.dsk.nm.sz n hn).1) (by have := p0.dsk.nl; omega) p0.dsk.at (fun f hf => (p0.dsk.file f hf).sz) (w := bV) (F := all)) ?_
  intro bV aO
  replace ⟨h1, h2, h3, h4, h5, h6, h7, C, J, O, aj, ak⟩ := (se [ae, ab, aa, W] aO).g12 h1 h2 h3 h4 h5 h6 h7 C J O aj ak
  replace ⟨al, am, aq, E⟩ := (se [ae, ab, aa, W] aO).g4 al am aq E
  rintro hC hD ⟨⟨hE, hH, rfl, aQ⟩, bq⟩
  have bW := al4 aq.lt O.lt J.lt C.lt
  have db : Gb w.heap.size bV.heap.size := E.size
  have hkeep_ := bq
  replace ⟨h1, h2, h3, h4, h5, h6, h7, C, J, O, aj, ak⟩ := (se [ae, ab, aa, W] bq).g12 h1 h2 h3 h4 h5 h6 h7 C J O aj ak
  replace ⟨al, am, aq, E⟩ := (se [ae, ab, aa, W] bq).g4 al am aq E
  refine ⟨Ext.chg hkeep_, ?_⟩
  have aQ := aQ.fr bW db
  replace aQ := aQ.base (G' := fo F w.heap.size) (fun _ _ h => .inr h)
  have fI := aQ.max
  refine .d fun cq bJ => ?_
  replace ⟨h1, h2, h3, h4, h5, h6, h7, C, J, O, aj, ak⟩ := (se [ae, ab, aa, W] bJ).g12 h1 h2 h3 h4 h5 h6 h7 C J O aj ak
  replace ⟨al, am, aq, aQ, E⟩ := (se [ae, ab, aa, W] bJ).g5 al am aq aQ E
  refine .cl (c_spec_l22Steps w_ (mergeSt w_.disk e.at_) e.cut (⟨(⟨(((mergeR w_.store e.at_).1).idx).names, (((mergeR w_.store e.at_).1).idx).posts⟩ : Idx), ((mergeR w_.store e.at_).1).parts, ((mergeR w_.store e.at_).1).mem⟩ : Sto) h1 h2 h3 h4 h5 h6 h7 aQ aj ak al am p0 (by exact StI.merge p0.dsk _) (by exact p0.sto.merge _) (w := cq) (F := nin (fo F w.heap.size) [ae, ab, aa, W])) ?_
  rintro hJ hN ⟨⟨_, rfl, ⟨ez, hO, eA, eB, hQ, eC, eD, hV, eE, eF, hW, eG, eH, ia, eI, eJ, ic, eK, eL, ie, eM, rfl, ba, bc, bd, bg, bh, bi, bj⟩⟩, bX⟩
  have av := al4 aq.lt O.lt J.lt C.lt
  have aB : Gb w.heap.size cq.heap.size := E.size
  replace ⟨h1, h2, h3, h4, h5, h6, h7, C, J, O, E⟩ := (se [ae, ab, aa, W] bX).g11 h1 h2 h3 h4 h5 h6 h7 C J O E
  replace ba := RepS.mixed' (M := [ae, ab, aa, W]) ba av aB
  have fJ := ba.max
  replace bc := RepS.mixed' (M := [ae, ab, aa, W]) bc av aB
  have fK := bc.max
  replace bd := RepS.mixed' (M := [ae, ab, aa, W]) bd av aB
  have fL := bd.max
  replace bg := RepS.mixed' (M := [ae, ab, aa, W]) bg av aB
  have fM := bg.max
  replace bh := RepS.mixed' (M := [ae, ab, aa, W]) bh av aB
  have fN := bh.max
  replace bi := RepS.mixed' (M := [ae, ab, aa, W]) bi av aB
  have fO := bi.max
  replace bj := RepS.mixed' (M := [ae, ab, aa, W]) bj av aB
  have fP := bj.max
  have de := ba.len
  subst de
  have df := bc.len
  subst df
  have dg := bd.len
  subst dg
  have dh := bg.len
  subst dh
  have dj := bh.len
  subst dj
  have dm := bi.len
  subst dm
  have dp := bj.len
  subst dp
  refine .sc [.slice ez (((((stepsW w_ (mergeSt w_.disk e.at_) e.cut (⟨(⟨(((mergeR w_.store e.at_).1).idx).names, (((mergeR w_.store e.at_).1).idx).posts⟩ : Idx), ((mergeR w_.store e.at_).1).parts, ((mergeR w_.store e.at_).1).mem⟩ : Sto)).store).idx).names).length) eA, .slice eB (((((stepsW w_ (mergeSt w_.disk e.at_) e.cut (⟨(⟨(((mergeR w_.store e.at_).1).idx).names, (((mergeR w_.store e.at_).1).idx).posts⟩ : Idx), ((mergeR w_.store e.at_).1).parts, ((mergeR w_.store e.at_).1).mem⟩ : Sto)).store).idx).posts).length) eC, .slice eD ((((stepsW w_ (mergeSt w_.disk e.at_) e.cut (⟨(⟨(((mergeR w_.store e.at_).1).idx).names, (((mergeR w_.store e.at_).1).idx).posts⟩ : Idx), ((mergeR w_.store e.at_).1).parts, ((mergeR w_.store e.at_).1).mem⟩ : Sto)).store).parts).length) eE, .slice eF ((((stepsW w_ (mergeSt w_.disk e.at_) e.cut (⟨(⟨(((mergeR w_.store e.at_).1).idx).names, (((mergeR w_.store e.at_).1).idx).posts⟩ : Idx), ((mergeR w_.store e.at_).1).parts, ((mergeR w_.store e.at_).1).mem⟩ : Sto)).store).mem).length) eG, .slice eH ((((stepsW w_ (mergeSt w_.disk e.at_) e.cut (⟨(⟨(((mergeR w_.store e.at_).1).idx).names, (((mergeR w_.store e.at_).1).idx).posts⟩ : Idx), ((mergeR w_.store e.at_).1).parts, ((mergeR w_.store e.at_).1).mem⟩ : Sto)).disk).files).length) eI, .slice eJ ((((stepsW w_ (mergeSt w_.disk e.at_) e.cut (⟨(⟨(((mergeR w_.store e.at_).1).idx).names, (((mergeR w_.store e.at_).1).idx).posts⟩ : Idx), ((mergeR w_.store e.at_).1).parts, ((mergeR w_.store e.at_).1).mem⟩ : Sto)).disk).list).length) eK, .slice eL ((((stepsW w_ (mergeSt w_.disk e.at_) e.cut (⟨(⟨(((mergeR w_.store e.at_).1).idx).names, (((mergeR w_.store e.at_).1).idx).posts⟩ : Idx), ((mergeR w_.store e.at_).1).parts, ((mergeR w_.store e.at_).1).mem⟩ : Sto)).disk).names).length) eM, vI (((stepsW w_ (mergeSt w_.disk e.at_) e.cut (⟨(⟨(((mergeR w_.store e.at_).1).idx).names, (((mergeR w_.store e.at_).1).idx).posts⟩ : Idx), ((mergeR w_.store e.at_).1).parts, ((mergeR w_.store e.at_).1).mem⟩ : Sto)).disk).next)] O fun ig bK dq dr => ?_
  replace ⟨h1, h2, h3, h4, h5, h6, h7, C, J, ba, bc, bd⟩ := (so [ae, ab, aa, W] bK).g12 h1 h2 h3 h4 h5 h6 h7 C J ba bc bd
  replace ⟨bg, bh, bi, bj, E⟩ := (so [ae, ab, aa, W] bK).g5 bg bh bi bj E
  exact .d <| .rb Tryz.func89 Tryz.results89 dq ⟨(VS.of (y := (⟨(⟨(⟨(((stepsW w_ (mergeSt w_.disk e.at_) e.cut (⟨(⟨(((mergeR w_.store e.at_).1).idx).names, (((mergeR w_.store e.at_).1).idx).posts⟩ : Idx), ((mergeR w_.store e.at_).1).parts, ((mergeR w_.store e.at_).1).mem⟩ : Sto)).store).idx).names, (((stepsW w_ (mergeSt w_.disk e.at_) e.cut (⟨(⟨(((mergeR w_.store e.at_).1).idx).names, (((mergeR w_.store e.at_).1).idx).posts⟩ : Idx), ((mergeR w_.store e.at_).1).parts, ((mergeR w_.store e.at_).1).mem⟩ : Sto)).store).idx).posts⟩ : Idx), ((stepsW w_ (mergeSt w_.disk e.at_) e.cut (⟨(⟨(((mergeR w_.store e.at_).1).idx).names, (((mergeR w_.store e.at_).1).idx).posts⟩ : Idx), ((mergeR w_.store e.at_).1).parts, ((mergeR w_.store e.at_).1).mem⟩ : Sto)).store).parts, ((stepsW w_ (mergeSt w_.disk e.at_) e.cut (⟨(⟨(((mergeR w_.store e.at_).1).idx).names, (((mergeR w_.store e.at_).1).idx).posts⟩ : Idx), ((mergeR w_.store e.at_).1).parts, ((mergeR w_.store e.at_).1).mem⟩ : Sto)).store).mem⟩ : Sto), (⟨((stepsW w_ (mergeSt w_.disk e.at_) e.cut (⟨(⟨(((mergeR w_.store e.at_).1).idx).names, (((mergeR w_.store e.at_).1).idx).posts⟩ : Idx), ((mergeR w_.store e.at_).1).parts, ((mergeR w_.store e.at_).1).mem⟩ : Sto)).disk).files, ((stepsW w_ (mergeSt w_.disk e.at_) e.cut (⟨(⟨(((mergeR w_.store e.at_).1).idx).names, (((mergeR w_.store e.at_).1).idx).posts⟩ : Idx), ((mergeR w_.store e.at_).1).parts, ((mergeR w_.store e.at_).1).mem⟩ : Sto)).disk).list, ((stepsW w_ (mergeSt w_.disk e.at_) e.cut (⟨(⟨(((mergeR w_.store e.at_).1).idx).names, (((mergeR w_.store e.at_).1).idx).posts⟩ : Idx), ((mergeR w_.store e.at_).1).parts, ((mergeR w_.store e.at_).1).mem⟩ : Sto)).disk).names, ((stepsW w_ (mergeSt w_.disk e.at_) e.cut (⟨(⟨(((mergeR w_.store e.at_).1).idx).names, (((mergeR w_.store e.at_).1).idx).posts⟩ : Idx), ((mergeR w_.store e.at_).1).parts, ((mergeR w_.store e.at_).1).mem⟩ : Sto)).disk).next⟩ : Dsk)⟩ : Wld)) ⟨_, rfl, ⟨_, _, _, _, _, _, _, _, _, _, _, _, _, _, _, _, _, _, _, _, _, rfl, ba.w1, bc.w1, bd.w1, bg.w1, bh.w1, bi.w1, bj.w1⟩⟩ (by (rw [doW_3 ‹_›]))), E⟩
 refine .r 1 <| .d <| .cf <| .s <| .g <| .eq e.kind 4 (fun dt => ?_) (fun dt => ?_)
 ·refine .r 1 <| .d <| .ct <| .s <| .g <| .ln C <| .cl (c_spec_l22Fall w_ h1.ta h2.ta h3.ta h4.ta h5.ta h6.ta h7.ta p0.dsk (w := bu) (F := all)) ?_
  rintro ii ij ⟨⟨_, rfl, ⟨eN, ik, eO, eP, il, eQ, eR, im, eS, eT, io, eU, eV, ip, eW, eX, iq, eY, eZ, ir, e7, rfl, aD, aE, aF, aG, aH, aI, aJ⟩⟩, bY⟩
  have aw := al3 O.lt J.lt C.lt
  have aC : Gb w.heap.size bu.heap.size := E.size
  replace ⟨h1, h2, h3, h4, h5, h6, h7, C, O, E⟩ := (se [ab, aa, W] bY).g10 h1 h2 h3 h4 h5 h6 h7 C O E
  have aD := aD.fr aw aC
  replace aD := aD.base (G' := fo F w.heap.size) (fun _ _ h => .inr h)
  have fQ := aD.max
  have aE := aE.fr aw aC
  replace aE := aE.base (G' := fo F w.heap.size) (fun _ _ h => .inr h)
  have fR := aE.max
  have aF := aF.fr aw aC
  replace aF := aF.base (G' := fo F w.heap.size) (fun _ _ h => .inr h)
  have fS := aF.max
  have aG := aG.fr aw aC
  replace aG := aG.base (G' := fo F w.heap.size) (fun _ _ h => .inr h)
  have fT := aG.max
  have aH := aH.fr aw aC
  replace aH := aH.base (G' := fo F w.heap.size) (fun _ _ h => .inr h)
  have fU := aH.max
  have aI := aI.fr aw aC
  replace aI := aI.base (G' := fo F w.heap.size) (fun _ _ h => .inr h)
  have fV := aI.max
  have aJ := aJ.fr aw aC
  replace aJ := aJ.base (G' := fo F w.heap.size) (fun _ _ h => .inr h)
  have fW := aJ.max
  have du := aD.len
  subst du
  have dv := aE.len
  subst dv
  have dw := aF.len
  subst dw
  have dx := aG.len
  subst dx
  have dy := aH.len
  subst dy
  have dz := aI.len
  subst dz
  have dA := aJ.len
  subst dA
  refine .sc [.slice eN (((((fallW w_).store).idx).names).length) eO, .slice eP (((((fallW w_).store).idx).posts).length) eQ, .slice eR ((((fallW w_).store).parts).length) eS, .slice eT ((((fallW w_).store).mem).length) eU, .slice eV ((((fallW w_).disk).files).length) eW, .slice eX ((((fallW w_).disk).list).length) eY, .slice eZ ((((fallW w_).disk).names).length) e7, vI (((fallW w_).disk).next)] O fun iu bL dB dC => ?_
  replace ⟨h1, h2, h3, h4, h5, h6, h7, C, aD, aE, aF, aG⟩ := (so [ab, aa, W] bL).g12 h1 h2 h3 h4 h5 h6 h7 C aD aE aF aG
  replace ⟨aH, aI, aJ, E⟩ := (so [ab, aa, W] bL).g4 aH aI aJ E
  exact .d <| .rb Tryz.func89 Tryz.results89 dB ⟨(VS.of (y := (⟨(⟨(⟨(((fallW w_).store).idx).names, (((fallW w_).store).idx).posts⟩ : Idx), ((fallW w_).store).parts, ((fallW w_).store).mem⟩ : Sto), (⟨((fallW w_).disk).files, ((fallW w_).disk).list, ((fallW w_).disk).names, ((fallW w_).disk).next⟩ : Dsk)⟩ : Wld)) ⟨_, rfl, ⟨_, _, _, _, _, _, _, _, _, _, _, _, _, _, _, _, _, _, _, _, _, rfl, aD.w1, aE.w1, aF.w1, aG.w1, aH.w1, aI.w1, aJ.w1⟩⟩ (by (rw [doW_4 ‹_›]))), E⟩
 refine .r 1 <| .d <| .cf <| .sk <| .ib 0 <| .s <| .g <| .ln C <| .sc [.slice a1 w_.store.idx.names.length c1, .slice a2 w_.store.idx.posts.length c2, .slice a3 w_.store.parts.length c3, .slice a4 w_.store.mem.length c4, .slice a5 w_.disk.files.length c5, .slice a6 w_.disk.list.length c6, .slice a7 w_.disk.names.length c7, vI w_.disk.next] O fun iw bZ dD dE => ?_
 replace ⟨h1, h2, h3, h4, h5, h6, h7, E⟩ := (so [ab, aa, W] bZ).g8 h1 h2 h3 h4 h5 h6 h7 E
 exact .d <| .rb Tryz.func89 Tryz.results89 dD ⟨(VS.of (y := w_) ⟨_, rfl, ⟨_, _, _, _, _, _, _, _, _, _, _, _, _, _, _, _, _, _, _, _, _, rfl, h1.w1, h2.w1, h3.w1, h4.w1, h5.w1, h6.w1, h7.w1⟩⟩ (by (rw [doW_0 ‹_› ‹_› ‹_› ‹_›]))), E⟩
end Go.Proofs.YtganlmloonielaaGreat
namespace Go.Proofs.YtganlmloonielaaGreat
def manyB (n m : Nat) (ops : Array Oper) (l is : List Nat) (e : Env) : Bool :=
 is.all (fun i => stepB n m ops l i && goAt n ops i e) && decide (readyL ops l = is) && !is.isEmpty
section
variable {P : Program} {S : Nat → Prop} {n m : Nat} {L : Env → World → Prop} {ops : Array Oper} {l : List Nat} {e : Env} {w : World}
theorem GE.many (is : List Nat) (h : manyB n m ops l is e = true) (H : ∀ i ∈ is, GE P S n m L ops l i e w) : GA P S n m L ops l e w := by
 intro hB f a hf ha inv
 simp only [manyB, Bool.and_eq_true, decide_eq_true_eq, List.all_eq_true] at h
 obtain ⟨⟨h1, hready⟩, hne⟩ := h
 rw [readyL_eq] at hready
 have hne : is ≠ [] := by rintro rfl; simp at hne
 obtain ⟨i0, hi0⟩ := List.exists_mem_of_ne_nil is hne
 have hlm := (stepB_spec (h1 i0 hi0).1).1
 obtain ⟨f, rfl⟩ : ∃ g, f = g + 1 := ⟨f - 1, by omega⟩
 have key : ∀ k, stepB n m ops l k = true → goAt n ops k e = true → GE P S n m L ops l k e w → ∀ w1, Ext w w1 → k < m ∧ gOp P S ops k (gAny P S ops m (fun listed a' w' => listed = fin ops m ∧ ∃ e', Sees n a' e' ∧ L e' w') f ((lst ops.size l).setIfInBounds k true)) a w1 := by
  intro k hk1 hk2 HK w1 hx
  obtain ⟨_, him, hd, hi, hr⟩ := stepB_spec hk1
  refine ⟨him, ?_⟩
  simp only [goAt, Bool.and_eq_true] at hk2
  unfold gOp
  simp only [hi]
  rw [ha.want, hk2.2, if_pos rfl, ha.eval]
  refine emitV_mono (fun v w2 _ hq => ?_) (HK w1 hx)
  have := hq hB f (a.put (opAt ops k).dst v) (by simp only [List.length_cons]; omega) (ha.putO hd v) (by rw [lst_cons]; exact inv.set hr him)
  rwa [lst_cons] at this
 refine ⟨by rw [hready]; exact hne, fun w1 hx k hk => ?_⟩
 rw [hready] at hk
 exact key k (h1 k hk).1 (h1 k hk).2 (H k hk) w1 hx
end
theorem xor_nat {a b : Int} (ha : 0 ≤ a ∧ a < 4611686018427387904) (hb : 0 ≤ b ∧ b < 4611686018427387904) :
 IntKind.i64.wrap ((BitVec.ofInt 64 a ^^^ BitVec.ofInt 64 b).toNat : Int) = ((a.toNat ^^^ b.toNat : Nat) : Int) ∧ a.toNat ^^^ b.toNat < 4611686018427387904 := by
 have h1 : (BitVec.ofInt 64 a).toNat = a.toNat := by rw [BitVec.toNat_ofInt]; omega
 have h2 : (BitVec.ofInt 64 b).toNat = b.toNat := by rw [BitVec.toNat_ofInt]; omega
 have h3 : a.toNat ^^^ b.toNat < 2 ^ 62 := Nat.xor_lt_two_pow (by omega) (by omega)
 rw [BitVec.toNat_xor, h1, h2]
 exact ⟨IntWalk.i64_in _ (by omega), by omega⟩
theorem run_xor {P : Program} {t : TypeId} {x y : Operand} {a b : Int} (ha : 0 ≤ a ∧ a < 4611686018427387904) (hb : 0 ≤ b ∧ b < 4611686018427387904) (w : World) :
 (do eqGuard .xor t x y (.int .i64 a) (.int .i64 b); binOp .xor t (.int .i64 a) (.int .i64 b)).run P w = .ok (.int .i64 ((a.toNat ^^^ b.toNat : Nat) : Int)) w := by
 have h1 : (eqGuard .xor t x y (.int .i64 a) (.int .i64 b)).run P w = .ok () w := rfl
 rw [run_bind_ok h1, ← (xor_nat ha hb).1]
 rfl
section
variable {P : Program} {n : Nat} {K : Env → World → Prop} {ops : Array Oper} {j : Nat} {e : Env} {w : World}
theorem RG.xor {t : TypeId} {a b : Int} (h : binAt n ops j e = some (.xor, t, .int .i64 a, .int .i64 b)) (ha : 0 ≤ a ∧ a < 4611686018427387904) (hb : 0 ≤ b ∧ b < 4611686018427387904)
 (H : RG P n K ops (j + 1) (putE e (opAt ops j).dst (.int .i64 ((a.toNat ^^^ b.toNat : Nat) : Int))) w) : RG P n K ops j e w :=
 have h1 := run_bin (P := P) (w := w) h (fun _ _ => run_xor ha hb w)
 RG.val h1.1 h1.2 H
end
theorem GA.quo {P : Program} {S : Nat → Prop} {n m : Nat} {L : Env → World → Prop} {ops : Array Oper} {l : List Nat} {e : Env} {w : World} {i : Nat} {t : TypeId} {a b : Int} (hb : gB n m ops l i = true) (h : binAt n ops i e = some (.quo, t, .int .i64 a, .int .i64 b)) (hb0 : b ≠ 0) (hr : -9223372036854775808 ≤ a.tdiv b ∧ a.tdiv b ≤ 9223372036854775807)
 (H : GA P S n m L ops (i :: l) (putE e (opAt ops i).dst (.int .i64 (a.tdiv b))) w) : GA P S n m L ops l e w :=
 GA.det' hb (fun w => run_bin h (fun _ _ => run_quo hb0 hr w)) H
section
variable {α : Type} [Rep α] {w : World} {G F : Nat → Prop} {M : List Nat} {o : Option Addr} {n c r b s : Nat} {t : TypeId} {xs : List α}
theorem RepS.toAll (h : RepS w (nin G M) o n c xs) (hb : b ∈ M) : RepS w (nin all [b]) o n c xs := h.weak fun k _ hk => ⟨trivial, fun e => hk.2 (by simp at e; exact e ▸ hb)⟩
theorem Own.toAll (h : Own w r t (nin G M) n c xs) (hb : b ∈ M) (hr : Nb r b) : RepS w (nin all [b]) (some ⟨r, 0, none⟩) n c xs :=
 h.rep' (fun k _ hk => ⟨trivial, fun e => hk.2 (by simp at e; exact e ▸ hb)⟩) ⟨trivial, fun e => hr.ne (by simpa using e)⟩
theorem RepS.toRd (h : RepS w (nin G M) o n c xs) (hb : b ∈ M) : RepS w (nin G [b]) o n c xs := h.weak fun k _ hk => ⟨hk.1, fun e => hk.2 (by simp at e; exact e ▸ hb)⟩
theorem RepS.topR (h : RepS w (nin F [b]) o n c xs) : RepS w (nin (fo F s) [b]) o n c xs := h.weak fun _ _ hF => ⟨.inl hF.1, hF.2⟩
end
theorem Cov.mk1 (w : World) (b : Nat) : Cov (Go.Proofs.YtganlmloonielaaGreat.one b) w b := ⟨.inl rfl⟩
instance {w : World} {b : Nat} : Cov (Go.Proofs.YtganlmloonielaaGreat.one b) w b := ⟨.inl rfl⟩
theorem RepS.mixedR {α : Type} [Rep α] {w : World} {F : Nat → Prop} {M : List Nat} {b s s' n c : Nat} {o : Option Addr} {xs : List α} (h : RepS w (nin (fo (nin (fo F s') M) s) [b]) o n c xs) (hM : ∀ k ∈ M, k < s) (hs : s' ≤ s) : RepS w (nin (fo F s') (b :: M)) o n c xs :=
 h.weak fun k _ hF => by
  have hb : k ≠ b := fun e => hF.2 (by simp [e])
  rcases hF.1 with h1 | h1
  ·exact ⟨h1.1, by simp [hb]; exact h1.2⟩
  ·exact ⟨.inr (by omega), by
    intro hm
    rcases List.mem_cons.1 hm with hm | hm
    ·exact hb hm
    ·have := hM k hm; omega⟩
theorem tm_idx {a : Int} {n : Nat} (ha : 0 ≤ a) (hn : (n : Int) ≠ 0) : (Int.tmod a n).toNat < n := by
 have h1 := Int.tmod_nonneg (n : Int) ha
 have h2 := Int.tmod_lt_of_pos a (show (0 : Int) < n by omega)
 omega
theorem tm_nat {a : Int} {n : Nat} (ha : 0 ≤ a) : Int.tmod a n = ((Int.tmod a n).toNat : Int) := by
 have h1 := Int.tmod_nonneg (n : Int) ha
 omega
theorem tm_lt {a n : Int} (ha : 0 ≤ a) (hn : ¬ n < 1) : 0 ≤ Int.tmod a n ∧ (Int.tmod a n < n ∨ Int.tmod a n = 0) := by
 have h1 := Int.tmod_nonneg n ha
 have h2 := Int.tmod_lt_of_pos a (show (0 : Int) < n by omega)
 omega
theorem td_le {a n : Int} (ha : 0 ≤ a) (hn : 0 ≤ n) : 0 ≤ Int.tdiv a n ∧ Int.tdiv a n ≤ a := by
 refine ⟨Int.tdiv_nonneg ha hn, ?_⟩
 rw [Int.tdiv_eq_ediv_of_nonneg ha]
 exact Int.ediv_le_self n ha
section
variable {α : Type} [Rep α] {w : World} {G : Nat → Prop} {M rs : List Nat} {o : Option Addr} {n c r s : Nat} {t : TypeId} {xs : List α}
theorem nin_mixedG {k : Nat} (h : nin (fo (nin G M) s) rs k) (hM : ∀ b ∈ M, b < s) (hG : ∀ b, s ≤ b → G b) : nin G (rs ++ M) k := by
 refine ⟨?_, fun hm => ?_⟩
 ·rcases h.1 with h1 | h1
  ·exact h1.1
  ·exact hG _ h1
 ·rcases List.mem_append.1 hm with hm | hm
  ·exact h.2 hm
  ·rcases h.1 with h1 | h1
   ·exact h1.2 hm
   ·have h2 := hM k hm
    omega
theorem RepS.mixedG (h : RepS w (fo (nin G M) s) o n c xs) (hM : ∀ b ∈ M, b < s) (hG : ∀ b, s ≤ b → G b) : RepS w (nin G M) o n c xs := h.weak fun k _ hk => nin_mixedG (rs := []) ⟨hk, by simp⟩ hM hG
end
def TagD (t : Tag) : Prop := t.key ∈ [[97], [98], [99]] ∧ t.val ∈ [[112], [113], [122], [], [111], [112, 112]]
def NmD (n : List Tag) : Prop := n.length ≤ 5 ∧ ∀ t ∈ n, TagD t
def RowSm (r : Row) : Prop := -1 ≤ r.t ∧ r.t ≤ 100 ∧ -100 ≤ r.v ∧ r.v ≤ 100
def badN (n : List Tag) : Nat := (n.filter (fun t => !tagOk t)).length
def NmX (n : List Tag) : Prop := NmD n ∧ badN n ≤ 1
theorem bad_all {n : List Tag} (h : ∀ t ∈ n, tagOk t = true) : badN n = 0 := by
 unfold badN
 rw [List.length_eq_zero_iff, List.filter_eq_nil_iff]
 intro t ht
 rw [h t ht]
 simp
theorem nmx_all {n : List Tag} (hl : n.length ≤ 5) (hd : ∀ t ∈ n, TagD t) (h : ∀ t ∈ n, tagOk t = true) : NmX n := ⟨⟨hl, hd⟩, by rw [bad_all h]; omega⟩
theorem nmx_set {n : List Tag} {i : Nat} {u : Tag} (hl : n.length ≤ 5) (hd : ∀ t ∈ n.set i u, TagD t) (h : ∀ t ∈ n, tagOk t = true) : NmX (n.set i u) := by
 refine ⟨⟨by rw [List.length_set]; exact hl, hd⟩, ?_⟩
 by_cases hi : i < n.length
 ·rw [List.set_eq_take_append_cons_drop, if_pos hi]
  unfold badN
  rw [List.filter_append, List.filter_cons]
  have h1 : ((n.take i).filter (fun t => !tagOk t)) = [] := List.filter_eq_nil_iff.2 (fun t ht => by rw [h t (List.mem_of_mem_take ht)]; simp)
  have h2 : ((n.drop (i + 1)).filter (fun t => !tagOk t)) = [] := List.filter_eq_nil_iff.2 (fun t ht => by rw [h t (List.mem_of_mem_drop ht)]; simp)
  rw [h1, h2]
  split <;> simp
 ·rw [List.set_eq_of_length_le (by omega), bad_all h]
  omega
theorem tag_ok9 {k v : Str} (hk : k ∈ [[97], [98], [99]]) (hv : v ∈ [[112], [113], [122]]) : tagOk ⟨k, v⟩ = true := by
 simp only [List.mem_cons, List.not_mem_nil, or_false] at hk hv
 rcases hk with rfl | rfl | rfl <;> rcases hv with rfl | rfl | rfl <;> decide
theorem tag_x9 {k v : Str} (hk : (⟨k⟩ : Txt) ∈ ([⟨[97]⟩, ⟨[98]⟩, ⟨[99]⟩] : List Txt)) (hv : (⟨v⟩ : Txt) ∈ ([⟨[112]⟩, ⟨[113]⟩, ⟨[122]⟩] : List Txt)) : TagD ⟨k, v⟩ ∧ tagOk ⟨k, v⟩ = true := by
 simp only [List.mem_cons, List.not_mem_nil, or_false, Txt.mk.injEq] at hk hv
 refine ⟨⟨?_, ?_⟩, tag_ok9 (by simpa using hk) (by simpa using hv)⟩
 ·simpa using hk
 ·rcases hv with rfl | rfl | rfl <;> simp
theorem tag_y9 {b : Txt} {v : Str} (hk : b = ⟨[97]⟩ ∨ b = ⟨[98]⟩ ∨ b = ⟨[99]⟩) (hv : (⟨v⟩ : Txt) ∈ ([⟨[112]⟩, ⟨[113]⟩, ⟨[122]⟩] : List Txt)) : TagD ⟨b.s, v⟩ ∧ tagOk ⟨b.s, v⟩ = true := tag_x9 (by rcases hk with rfl | rfl | rfl <;> simp) hv
theorem all_snoc {α : Type} {P : α → Prop} {l : List α} {x : α} (h : ∀ t ∈ l, P t) (hx : P x) : ∀ t ∈ l ++ [x], P t := fun t ht => by
 rcases List.mem_append.1 ht with ht | ht
 ·exact h t ht
 ·simp at ht
  subst ht
  exact hx
end Go.Proofs.YtganlmloonielaaGreat
namespace Go.Proofs.YtganlmloonielaaGreat
set_option maxRecDepth 100000
set_option maxHeartbeats 4000000
theorem c_spec_l6Open (code : List UInt8) {w : World} {F : Nat → Prop} {a1 : Option Addr} {n1 c1 : Nat} (h1 : RepS w F a1 n1 c1 code)  : Calls Tryz.prog 48 [.slice a1 n1 c1].toArray w (rets fun rv w' => (∃ (D : List UInt8) (b : Nat) (a : Option Addr) (c : Nat), rv = .pointer (some ⟨b, 0, none⟩) ∧ w.heap.size ≤ b ∧ Box w' b 122 [.slice a D.length c, .int .i64 ((0 : Nat) : Int)] ∧ RepS w' (nin (fo F w.heap.size) [b]) a D.length c D) ∧ Ext w w') := by
 refine goT Tryz.func48 ?_
 obtain ⟨rfl, ar, h1⟩ := h1.tp
 refine .s <| .g <| .r 1 <| .d <| .s <| .s <| .g <| .r 2 <| .bp ((code.length : Int) > 2000) (fun ab => ?_) (fun ab => ?_)
 ·refine .d <| .ct <| .g <| .r 1 <| RG.sub (t := 22) (lo := none) (hi := some (vI 2000)) h1 0 2000 (by kernel_rfl) (by kernel_rfl) (.inl ⟨rfl, rfl⟩) (.inr ⟨_, _, rfl, by omega⟩) (by omega) (by omega) fun al am C => ?_
  have au := C.len; have av := C.max
  refine .r 1 <| .d <| .s <| .g <| .r 2 <| .np 122 [.slice al (2000 - 0) am, vI 0] fun ao aw E J aa ac => ?_
  have ae := gb_new E (Nat.le_refl _)
  replace ⟨h1, C⟩ := (sn [] J E).g2 h1 C
  have af := J
  refine .r 1 <| .d ?_
  have ag := C.len; rw [ag] at C aa
  exact .rt Tryz.func48 Tryz.results48 (.pointer (some ⟨ao, 0, none⟩)) ⟨⟨_, _, _, _, rfl, ae, aa, (RepS.toRd C (.head _))⟩, af⟩
 refine .d <| .cf <| .sk <| .s <| .g <| .r 2 <| .np 122 [.slice a1 code.length c1, vI 0] fun aq ax O W ah ai => ?_
 have aj := gb_new O (Nat.le_refl _)
 replace h1 := (sn [] W O).g1 h1
 have ak := W
 exact .r 1 <| .d <| .rt Tryz.func48 Tryz.results48 (.pointer (some ⟨aq, 0, none⟩)) ⟨⟨_, _, _, _, rfl, aj, ah, (RepS.toRd h1 (.head _))⟩, ak⟩
theorem c_spec_l6Rd_pick (n : Int) {w : World} {F : Nat → Prop} {b : Nat} {ad : Option Addr} {cd p : Nat} {D : List UInt8} (hr : Box w b 122 [.slice ad D.length cd, .int .i64 (p : Int)]) (hD : RepS w (nin all [b]) ad D.length cd D) (hp : p + 1 ≤ 1000000000)  : Calls Tryz.prog 50 [.pointer (some ⟨b, 0, none⟩), .int .i64 n].toArray w (rets fun rv w' => (∃ (y : Int), rv = .int .i64 (y) ∧ (0 ≤ y ∧ (y < n ∨ y = 0))) ∧ ∃ p' : Nat, p' ≤ p + 1 ∧ Box w' b 122 [.slice ad D.length cd, .int .i64 (p' : Int)] ∧ Chg (one b) w w') := by
 refine goT Tryz.func50 ?_
 have aA := hD.max
 refine .s <| .g <| .r 1 <| .d <| .s <| .g <| .r 4 <| .lb hr <| .it ((p : Int) + 1) <| .r 2 <| .ss 1 (vI ((p : Int) + 1)) hr fun az aa C al => ?_
 replace hD := (so [b] aa).g1 hD
 have O : Chg (one b) w az := Chg.stepO (Chg.refl (one b) w) aa (Cov.mk1 w b)
 refine .d <| .s <| .s <| .g <| .r 1 <| .bp (n < 1) (fun am => .r 8 <| .d <| .ct <| .s <| .g <| .r 1 <| .d <| .rt Tryz.func50 Tryz.results50 (vI 0) ⟨⟨(0 : Int), (congrArg (Value.int .i64) (by rfl)), (by omega)⟩, p + 1, by omega, C, O⟩) fun am => .r 4 <| .lb C <| .r 1 <| .eq (D.length : Int) 0 (fun ao => .r 1 <| .d <| .ct <| .s <| .g <| .r 1 <| .d <| .rt Tryz.func50 Tryz.results50 (vI 0) ⟨⟨(0 : Int), (congrArg (Value.int .i64) (by rfl)), (by omega)⟩, p + 1, by omega, C, O⟩) fun ao => .r 1 <| .d <| .cf <| .sk <| .s <| .g <| .r 3 <| .lb C <| .it (((p : Int) + 1) - 1) <| .r 1 <| .d <| .s <| .s <| .g <| .r 4 <| .lb C <| .r 1 <| .bp (((p : Int) + 1) - 1 < (D.length : Int)) (fun aq => ?_) (fun aq => ?_)
 ·refine .d <| .ct <| .s <| .g <| .r 3 <| .lb C <| .r 1 ?_
  have af : (((p : Int) + 1) - 1).toNat < D.length := (by omega)
  refine RG.idx ((((p : Int) + 1) - 1).toNat) (len := D.length) (i := ((p : Int) + 1) - 1) (sz := 1) (by kernel_rfl) (by omega) af (hD.addr (Nat.zero_lt_of_lt af)) ?_
  obtain ⟨W, ab⟩ : ∃ y, D[(((p : Int) + 1) - 1).toNat]? = some y := ⟨_, List.getElem?_eq_getElem (by omega)⟩
  have aB := drop_at ab; have aw := List.mem_of_getElem? ab
  have aC := UInt8.toNat_lt W
  obtain ⟨_, rfl, ar⟩ := hD.elem ((((p : Int) + 1) - 1).toNat) W ab
  exact .lh 0 ar <| .it ((W.toNat : Int)) <| .r 1 <| RG.rem (t := 3) (k := .i64) (a := (W.toNat : Int)) (b := n) (by kernel_rfl) (by omega) <| .r 1 <| .d <| .rt Tryz.func50 Tryz.results50 (vI (Int.tmod (W.toNat : Int) n)) ⟨⟨((Int.tmod (W.toNat : Int) n) : Int), (congrArg (Value.int .i64) (by rfl)), (by exact tm_lt (by omega) ‹_›)⟩, p + 1, by omega, C, O⟩
 refine .d <| .cf <| .sk <| .s <| .gd nil 44 fun aK ag => ?_
 replace ⟨hD, C, O⟩ := (se [b] ag).g3 hD C O
 refine .r [0, 1, 2] <| .lb 3 C id <| .r [4, 5, 6, 7] <| .lb 8 C id <| .r [9] <| GA.rem (i := 10) (t := 3) (k := .i64) (a := ((p : Int) + 1) - 1) (b := (D.length : Int)) (by kernel_rfl) (by kernel_rfl) (by omega) ?_
 have ah : ((Int.tmod (((p : Int) + 1) - 1) (D.length : Int))).toNat < D.length := (by exact tm_idx (by omega) (by omega))
 refine GA.idx (i := 11) (((Int.tmod (((p : Int) + 1) - 1) (D.length : Int))).toNat) (len := D.length) (z := (Int.tmod (((p : Int) + 1) - 1) (D.length : Int))) (sz := 1) (by kernel_rfl) (by exact tm_nat (by omega)) ah (hD.addr (Nat.zero_lt_of_lt ah)) ?_
 obtain ⟨E, ac⟩ : ∃ y, D[((Int.tmod (((p : Int) + 1) - 1) (D.length : Int))).toNat]? = some y := ⟨_, List.getElem?_eq_getElem (by omega)⟩
 have aD := drop_at ac; have ax := List.mem_of_getElem? ac
 have aE := UInt8.toNat_lt E
 obtain ⟨_, rfl, au⟩ := hD.elem (((Int.tmod (((p : Int) + 1) - 1) (D.length : Int))).toNat) E ac
 refine .lh 12 0 au id <| GA.int (i := 13) ((E.toNat : Int)) (by kernel_rfl) (by omega) <| GA.int (i := 14) ((E.toNat : Int) * 131) (by kernel_rfl) (by omega) <| .r [15, 16, 17] <| .lb 18 C id <| .r [19] <| GA.int (i := 20) ((((p : Int) + 1) - 1) * 7) (by kernel_rfl) (by omega) <| GA.int (i := 21) ((((p : Int) + 1) - 1) * 7 + 3) (by kernel_rfl) (by omega) <| .r [22, 23, 24] <| .lb 25 C id <| .r [26] <| GA.rem (i := 27) (t := 3) (k := .i64) (a := (((p : Int) + 1) - 1) * 7 + 3) (b := (D.length : Int)) (by kernel_rfl) (by kernel_rfl) (by omega) ?_
 have ai : ((Int.tmod ((((p : Int) + 1) - 1) * 7 + 3) (D.length : Int))).toNat < D.length := (by exact tm_idx (by omega) (by omega))
 refine GA.idx (i := 28) (((Int.tmod ((((p : Int) + 1) - 1) * 7 + 3) (D.length : Int))).toNat) (len := D.length) (z := (Int.tmod ((((p : Int) + 1) - 1) * 7 + 3) (D.length : Int))) (sz := 1) (by kernel_rfl) (by exact tm_nat (by omega)) ai (hD.addr (Nat.zero_lt_of_lt ai)) ?_
 obtain ⟨J, ae⟩ : ∃ y, D[((Int.tmod ((((p : Int) + 1) - 1) * 7 + 3) (D.length : Int))).toNat]? = some y := ⟨_, List.getElem?_eq_getElem (by omega)⟩
 have aF := drop_at ae; have ay := List.mem_of_getElem? ae
 have aG := UInt8.toNat_lt J
 obtain ⟨_, rfl, av⟩ := hD.elem (((Int.tmod ((((p : Int) + 1) - 1) * 7 + 3) (D.length : Int))).toNat) J ae
 refine .lh 29 0 av id <| GA.int (i := 30) ((J.toNat : Int)) (by kernel_rfl) (by omega) <| GA.int (i := 31) ((J.toNat : Int) * 1117) (by kernel_rfl) (by omega) <| GA.int (i := 32) ((E.toNat : Int) * 131 + ((J.toNat : Int) * 1117)) (by kernel_rfl) (by omega) <| .r [33] <| GA.int (i := 34) ((((p : Int) + 1) - 1) * 29) (by kernel_rfl) (by omega) <| GA.int (i := 35) ((E.toNat : Int) * 131 + ((J.toNat : Int) * 1117) + ((((p : Int) + 1) - 1) * 29)) (by kernel_rfl) (by omega) <| .r [36, 37, 38, 39] <| .lb 40 C id <| .r [41] ?_
 have aH := td_le (a := ((p : Int) + 1) - 1) (n := (D.length : Int)) (by omega) (by omega)
 refine GA.quo (i := 42) (t := 3) (a := ((p : Int) + 1) - 1) (b := (D.length : Int)) (by kernel_rfl) (by kernel_rfl) (by omega) (by omega) <| GA.int (i := 43) ((Int.tdiv (((p : Int) + 1) - 1) (D.length : Int)) * 53) (by kernel_rfl) (by omega) <| .d fun aL aj => ?_
 replace ⟨hD, C, O⟩ := (se [b] aj).g3 hD C O
 refine .it ((E.toNat : Int) * 131 + ((J.toNat : Int) * 1117) + ((((p : Int) + 1) - 1) * 29) + ((Int.tdiv (((p : Int) + 1) - 1) (D.length : Int)) * 53)) <| .r 1 <| .d <| .s <| .g <| .r 2 ?_
 have aI := td_le (a := (E.toNat : Int) * 131 + ((J.toNat : Int) * 1117) + ((((p : Int) + 1) - 1) * 29) + ((Int.tdiv (((p : Int) + 1) - 1) (D.length : Int)) * 53)) (n := 64) (by omega) (by omega)
 refine RG.quo (t := 3) (a := (E.toNat : Int) * 131 + ((J.toNat : Int) * 1117) + ((((p : Int) + 1) - 1) * 29) + ((Int.tdiv (((p : Int) + 1) - 1) (D.length : Int)) * 53)) (b := 64) (by kernel_rfl) (by omega) (by omega) <| RG.xor (t := 3) (a := (E.toNat : Int) * 131 + ((J.toNat : Int) * 1117) + ((((p : Int) + 1) - 1) * 29) + ((Int.tdiv (((p : Int) + 1) - 1) (D.length : Int)) * 53)) (b := (Int.tdiv ((E.toNat : Int) * 131 + ((J.toNat : Int) * 1117) + ((((p : Int) + 1) - 1) * 29) + ((Int.tdiv (((p : Int) + 1) - 1) (D.length : Int)) * 53)) 64)) (by kernel_rfl) (by omega) (by omega) ?_
 obtain ⟨ak, aJ, hz51e⟩ : ∃ z : Nat, z < 4611686018427387904 ∧ ((((E.toNat : Int) * 131 + ((J.toNat : Int) * 1117) + ((((p : Int) + 1) - 1) * 29) + ((Int.tdiv (((p : Int) + 1) - 1) (D.length : Int)) * 53)).toNat ^^^ ((Int.tdiv ((E.toNat : Int) * 131 + ((J.toNat : Int) * 1117) + ((((p : Int) + 1) - 1) * 29) + ((Int.tdiv (((p : Int) + 1) - 1) (D.length : Int)) * 53)) 64)).toNat : Nat) : Int) = (z : Int) := ⟨_, (xor_nat (by omega) (by omega)).2, rfl⟩
 rw [hz51e]
 exact .r 1 <| .d <| .s <| .g <| .r 2 <| RG.rem (t := 3) (k := .i64) (a := (ak : Int)) (b := n) (by kernel_rfl) (by omega) <| .r 1 <| .d <| .rt Tryz.func50 Tryz.results50 (vI (Int.tmod (ak : Int) n)) ⟨⟨((Int.tmod (ak : Int) n) : Int), (congrArg (Value.int .i64) (by rfl)), (by exact tm_lt (by omega) ‹_›)⟩, p + 1, by omega, C, O⟩
theorem c_spec_l6Rd_of (list : List Txt) {w : World} {F : Nat → Prop} {b : Nat} {ad : Option Addr} {cd p : Nat} {D : List UInt8} (hr : Box w b 122 [.slice ad D.length cd, .int .i64 (p : Int)]) (hD : RepS w (nin all [b]) ad D.length cd D) (hp : p + 1 ≤ 1000000000) {a1 : Option Addr} {n1 c1 : Nat} (h1 : RepS w (nin F [b]) a1 n1 c1 list) (p0 : 0 < list.length) : Calls Tryz.prog 140 [.pointer (some ⟨b, 0, none⟩), .slice a1 n1 c1].toArray w (rets fun rv w' => (∃ (y : Str), rv = .string (bs (y)) ∧ ((⟨y⟩ : Txt) ∈ list)) ∧ ∃ p' : Nat, p' ≤ p + 1 ∧ Box w' b 122 [.slice ad D.length cd, .int .i64 (p' : Int)] ∧ Chg (one b) w w') := by
 refine goT Tryz.func140 ?_
 have ah := hD.max
 obtain rfl := h1.len
 replace h1 := h1.topR (s := w.heap.size)
 have ai := h1.max
 refine .s <| .g <| .r 1 <| .d <| .s <| .g <| .r 4 <| .cl (c_spec_l6Rd_pick (list.length : Int) hr (hD.toAll (.head _)) (by omega) (w := w) (F := all)) ?_
 rintro am af ⟨⟨C, rfl, aj⟩, ag, ak, aa, E⟩
 replace ⟨hD, h1⟩ := (so [b] E).g2 hD h1
 have ab : Chg (one b) w af := Chg.stepO (Chg.refl (one b) w) E (Cov.mk1 w b)
 have O : (C).toNat < list.length := (by omega)
 refine RG.idx ((C).toNat) (len := list.length) (i := C) (sz := 1) (by kernel_rfl) (by omega) O (h1.addr (Nat.zero_lt_of_lt O)) ?_
 obtain ⟨W, J⟩ : ∃ y, list[(C).toNat]? = some y := ⟨_, List.getElem?_eq_getElem (by omega)⟩
 have al := drop_at J; have ae := List.mem_of_getElem? J
 obtain ⟨_, rfl, ac⟩ := h1.elem ((C).toNat) W J
 exact .lh 0 ac <| .r 1 <| .d <| .rt Tryz.func140 Tryz.results140 (vT W.s) ⟨⟨(W.s : Str), (congrArg (fun s => Value.string (bs s)) (by rfl)), ‹_›⟩, ag, by omega, aa, ab⟩
theorem c_spec_l71Row  {w : World} {F : Nat → Prop} {b : Nat} {ad : Option Addr} {cd p : Nat} {D : List UInt8} (hr : Box w b 122 [.slice ad D.length cd, .int .i64 (p : Int)]) (hD : RepS w (nin all [b]) ad D.length cd D) (hp : p + 4 ≤ 1000000000)  : Calls Tryz.prog 91 [.pointer (some ⟨b, 0, none⟩)].toArray w (rets fun rv w' => (∃ (y : Row), VS (ge w.heap.size) w' (y : Row) rv ∧ (RowSm y)) ∧ ∃ p' : Nat, p' ≤ p + 4 ∧ Box w' b 122 [.slice ad D.length cd, .int .i64 (p' : Int)] ∧ Chg (one b) w w') := by
 refine goT Tryz.func91 ?_
 have bM := hD.max
 refine .s <| .g <| .np 105 [vI 0, vI 0] fun O bi aq av E bj => ?_
 have bN := nb_new aq hr.lt
 have bO : Cov (one b) w O := cov_new aq (Nat.le_refl _)
 replace ⟨hD, hr⟩ := (sn [b] av aq).g2 hD hr
 have C : Chg (one b) w bi := Chg.stepN (Chg.refl (one b) w) av
 refine .d <| .s <| .g <| .r 1 <| .cl (c_spec_l6Rd_pick 40 hr (hD.toAll (.tail _ (.head _))) (by omega) (w := bi) (F := all)) ?_
 rintro ci bD ⟨⟨aw, rfl, bP⟩, cj, bQ, bk, aK⟩
 replace ⟨hD, E, C⟩ := (so [O, b] aK).g3 hD E C
 refine .r 1 <| .cl (c_spec_l6Rd_pick 20 bk (hD.toAll (.tail _ (.head _))) (by omega) (w := bD) (F := all)) ?_
 rintro ck cm ⟨⟨ar, rfl, bR⟩, co, bS, ae, aL⟩
 replace ⟨hD, E, C⟩ := (so [O, b] aL).g3 hD E C
 refine .it (ar - 6) <| .r 1 <| .np 105 [vI 0, vI 0] fun aa cp ag aM bm bn => ?_
 have bT := nb_new ag ae.lt
 have bU := nb_new ag E.lt
 have bV := C.cn ag
 replace ⟨hD, ae, E, C⟩ := (sn [O, b] aM ag).g4 hD ae E C
 refine .sc [vI aw, vI (ar - 6)] bm fun bE aN J bo => ?_
 replace ⟨hD, ae, E, C⟩ := (so [aa, O, b] aN).g4 hD ae E C
 refine .d <| .s <| .s <| .g <| .r 1 <| .cl (c_spec_l6Rd_pick 40 ae (hD.toAll (.tail _ (.tail _ (.head _)))) (by omega) (w := bE) (F := all)) ?_
 rintro cq cr ⟨⟨bq, rfl, bW⟩, bF, bX, W, aO⟩
 replace ⟨hD, E, J, C⟩ := (so [aa, O, b] aO).g4 hD E J C
 refine .d <| .b 0 <| .s <| .g <| .eq bq 0 (fun br => ?_) (fun br => ?_)
 ·refine .r 1 <| .d <| .ct <| .g <| .ns 3 3 [vI (-1), vI 99, vI 100] fun aj bt ax aP bu bv => ?_
  have bY := nb_new ax W.lt
  replace ⟨hD, W, E, J, C⟩ := (sn [aa, O, b] aP ax).g5 hD W E J C
  have ay : Own (α := Int) bt aj 3 (nin (ge w.heap.size) [aj, aa, O, b]) 3 3 [(-1), 99, 100] := Own.lit bu rfl (by decide) ⟨rfl, rfl, rfl, rfl⟩
  refine .r 1 <| .cl (c_spec_l6Rd_pick 3 W (hD.toAll (.tail _ (.tail _ (.tail _ (.head _))))) (by omega) (w := bt) (F := all)) ?_
  rintro cu bG ⟨⟨au, rfl, bZ⟩, bH, b0, ah, aQ⟩
  replace ⟨hD, E, J, ay, C⟩ := (so [aj, aa, O, b] aQ).g5 hD E J ay C
  have bw : (au).toNat < 3 := (by omega)
  refine RG.idx (b := aj) (o := 0) ((au).toNat) (len := 3) (i := au) (sz := 1) (by kernel_rfl) (by omega) bw rfl ?_
  obtain ⟨az, aA⟩ : ∃ y, ([(-1), 99, 100] : List Int)[(au).toNat]? = some y := ⟨_, List.getElem?_eq_getElem (by omega)⟩
  have b6 := drop_at aA; have aJ := List.mem_of_getElem? aA
  simp only [List.mem_cons, List.not_mem_nil, or_false] at aJ
  obtain ⟨_, rfl, aB⟩ := ay.elem ((au).toNat) az aA
  replace aB : Has bG ⟨aj, 0 + ((au).toNat) * Rep.sz Int, none⟩ [vI az] := by rw [Nat.zero_add]; exact aB
  refine .lh 0 aB <| .r 1 <| .ss 0 (vI az) J fun cv aR bz bA => ?_
  replace ⟨hD, ah, E, C⟩ := (so [aj, aa, O, b] aR).g4 hD ah E C
  refine .d <| .ib 0 <| .s <| .g <| .ln bz <| .sc [vI az, vI (ar - 6)] E fun b7 aC aT aU => ?_
  replace ⟨hD, ah, C⟩ := (so [aj, aa, O, b] aC).g3 hD ah C
  exact .d <| .rb Tryz.func91 Tryz.results91 aT ⟨⟨((⟨az, ar - 6⟩ : Row) : Row), ⟨_, rfl, rfl⟩, (by (unfold RowSm; dsimp only; omega))⟩, bH, by omega, ah, C⟩
 refine .r 1 <| .d <| .cf <| .s <| .g <| .eq bq 1 (fun aV => ?_) (fun aV => ?_)
 ·refine .r 1 <| .d <| .ct <| .g <| .ns 3 3 [vI (-99), vI 99, vI 100] fun ab aS ak aD aW aX => ?_
  have bI := nb_new ak W.lt
  replace ⟨hD, W, E, J, C⟩ := (sn [aa, O, b] aD ak).g5 hD W E J C
  have al : Own (α := Int) aS ab 3 (nin (ge w.heap.size) [ab, aa, O, b]) 3 3 [(-99), 99, 100] := Own.lit aW rfl (by decide) ⟨rfl, rfl, rfl, rfl⟩
  refine .r 1 <| .cl (c_spec_l6Rd_pick 3 W (hD.toAll (.tail _ (.tail _ (.tail _ (.head _))))) (by omega) (w := aS) (F := all)) ?_
  rintro b8 bB ⟨⟨af, rfl, bJ⟩, bC, bK, ac, aE⟩
  replace ⟨hD, E, J, al, C⟩ := (so [ab, aa, O, b] aE).g5 hD E J al C
  have aY : (af).toNat < 3 := (by omega)
  refine RG.idx (b := ab) (o := 0) ((af).toNat) (len := 3) (i := af) (sz := 1) (by kernel_rfl) (by omega) aY rfl ?_
  obtain ⟨ai, am⟩ : ∃ y, ([(-99), 99, 100] : List Int)[(af).toNat]? = some y := ⟨_, List.getElem?_eq_getElem (by omega)⟩
  have bL := drop_at am; have aF := List.mem_of_getElem? am
  simp only [List.mem_cons, List.not_mem_nil, or_false] at aF
  obtain ⟨_, rfl, ao⟩ := al.elem ((af).toNat) ai am
  replace ao : Has bB ⟨ab, 0 + ((af).toNat) * Rep.sz Int, none⟩ [vI ai] := by rw [Nat.zero_add]; exact ao
  refine .lh 0 ao <| .r 1 <| .ss 1 (vI ai) J fun b9 aG aZ ba => ?_
  replace ⟨hD, ac, E, C⟩ := (so [ab, aa, O, b] aG).g4 hD ac E C
  refine .d <| .ib 0 <| .s <| .g <| .ln aZ <| .sc [vI aw, vI ai] E fun ce aH bc bd => ?_
  replace ⟨hD, ac, C⟩ := (so [ab, aa, O, b] aH).g3 hD ac C
  exact .d <| .rb Tryz.func91 Tryz.results91 bc ⟨⟨((⟨aw, ai⟩ : Row) : Row), ⟨_, rfl, rfl⟩, (by (unfold RowSm; dsimp only; omega))⟩, bC, by omega, ac, C⟩
 refine .r 1 <| .d <| .cf <| .sk <| .ib 0 <| .s <| .g <| .ln J <| .sc [vI aw, vI (ar - 6)] E fun cg aI bg bh => ?_
 replace ⟨hD, W, C⟩ := (so [aa, O, b] aI).g3 hD W C
 exact .d <| .rb Tryz.func91 Tryz.results91 bg ⟨⟨((⟨aw, ar - 6⟩ : Row) : Row), ⟨_, rfl, rfl⟩, (by (unfold RowSm; dsimp only; omega))⟩, bF, by omega, W, C⟩
theorem c_spec_l71Tag  {w : World} {F : Nat → Prop} {b : Nat} {ad : Option Addr} {cd p : Nat} {D : List UInt8} (hr : Box w b 122 [.slice ad D.length cd, .int .i64 (p : Int)]) (hD : RepS w (nin all [b]) ad D.length cd D) (hp : p + 2 ≤ 1000000000)  : Calls Tryz.prog 141 [.pointer (some ⟨b, 0, none⟩)].toArray w (rets fun rv w' => (∃ (y : Tag), VS (ge w.heap.size) w' (y : Tag) rv ∧ (TagD y ∧ tagOk y = true)) ∧ ∃ p' : Nat, p' ≤ p + 2 ∧ Box w' b 122 [.slice ad D.length cd, .int .i64 (p' : Int)] ∧ Chg (one b) w w') := by
 refine goT Tryz.func141 ?_
 have aH := hD.max
 refine .s <| .g <| .np 120 [.string (bs []), .string (bs [])] fun J aF W ab E am => ?_
 have aI := nb_new W hr.lt
 have aJ : Cov (one b) w J := cov_new W (Nat.le_refl _)
 replace ⟨hD, hr⟩ := (sn [b] ab W).g2 hD hr
 have C : Chg (one b) w aF := Chg.stepN (Chg.refl (one b) w) ab
 refine .d <| .s <| .g <| .r 1 <| .ns 3 9 [.string (bs [97]), .string (bs [98]), .string (bs [99])] fun O ao ac ah aq ar => ?_
 have au := nb_new ac hr.lt
 replace ⟨hD, hr, E, C⟩ := (sn [J, b] ah ac).g4 hD hr E C
 have av : Own (α := Txt) ao O 9 (nin (ge w.heap.size) [O, J, b]) 3 3 [(⟨[97]⟩ : Txt), (⟨[98]⟩ : Txt), (⟨[99]⟩ : Txt)] := Own.lit aq rfl (by decide) ⟨rfl, rfl, rfl, rfl⟩
 refine .cl (c_spec_l6Rd_of ([(⟨[97]⟩ : Txt), (⟨[98]⟩ : Txt), (⟨[99]⟩ : Txt)] : List Txt) hr (hD.toAll (.tail _ (.tail _ (.head _)))) (by omega) (av.toAll (.tail _ (.tail _ (.head _))) au) (by simp) (w := ao) (F := all)) ?_
 rintro aO aP ⟨⟨aw, rfl, aK⟩, aQ, aL, aa, ai⟩
 replace ⟨hD, E, C⟩ := (so [O, J, b] ai).g3 hD E C
 refine .r 1 <| .ns 3 9 [.string (bs [112]), .string (bs [113]), .string (bs [122])] fun ag ax ae aj ay az => ?_
 have aA := nb_new ae aa.lt
 replace ⟨hD, aa, E, C⟩ := (sn [O, J, b] aj ae).g4 hD aa E C
 have aB : Own (α := Txt) ax ag 9 (nin (ge w.heap.size) [ag, O, J, b]) 3 3 [(⟨[112]⟩ : Txt), (⟨[113]⟩ : Txt), (⟨[122]⟩ : Txt)] := Own.lit ay rfl (by decide) ⟨rfl, rfl, rfl, rfl⟩
 refine .cl (c_spec_l6Rd_of ([(⟨[112]⟩ : Txt), (⟨[113]⟩ : Txt), (⟨[122]⟩ : Txt)] : List Txt) aa (hD.toAll (.tail _ (.tail _ (.tail _ (.head _))))) (by omega) (aB.toAll (.tail _ (.tail _ (.tail _ (.head _)))) aA) (by simp) (w := ax) (F := all)) ?_
 rintro aR aS ⟨⟨aC, rfl, aM⟩, aG, aN, af, ak⟩
 replace ⟨hD, E, C⟩ := (so [ag, O, J, b] ak).g3 hD E C
 refine .r 1 <| .sc [vT aw, vT aC] E fun aT al aD aE => ?_
 replace ⟨hD, af, C⟩ := (so [ag, O, J, b] al).g3 hD af C
 exact .d <| .rb Tryz.func141 Tryz.results141 aD ⟨⟨((⟨aw, aC⟩ : Tag) : Tag), ⟨_, rfl, rfl⟩, (by exact tag_x9 ‹_› ‹_›)⟩, aG, by omega, af, C⟩
theorem c_spec_l71Name  {w : World} {F : Nat → Prop} {b : Nat} {ad : Option Addr} {cd p : Nat} {D : List UInt8} (hr : Box w b 122 [.slice ad D.length cd, .int .i64 (p : Int)]) (hD : RepS w (nin all [b]) ad D.length cd D) (hp : p + 20 ≤ 1000000000)  : Calls Tryz.prog 92 [.pointer (some ⟨b, 0, none⟩)].toArray w (rets fun rv w' => (∃ (y : List Tag), VL (ge w.heap.size) w' (y : List Tag) rv ∧ (NmX y)) ∧ ∃ p' : Nat, p' ≤ p + 20 ∧ Box w' b 122 [.slice ad D.length cd, .int .i64 (p' : Int)] ∧ Chg (one b) w w') := by
 refine goT Tryz.func92 ?_
 have eX := hD.max
 refine .s <| .g <| .r 1 <| .d <| .s <| .g <| .ns 0 120 [] fun aq dr aI bh dt du => ?_
 have dv := nb_new aI hr.lt
 have dw := gb_new aI (Nat.le_refl _)
 have dx : Cov (one b) w aq := cov_new aI (Nat.le_refl _)
 replace ⟨hD, hr⟩ := (sn [b] bh aI).g2 hD hr
 have C : Chg (one b) w dr := Chg.stepN (Chg.refl (one b) w) bh
 have aT : Own (α := Tag) dr aq 120 (nin (ge w.heap.size) [aq, b]) 0 0 [] := Own.nil' dt
 refine .r 1 <| .d <| .s <| .s <| .g <| .ns 3 9 [.string (bs [97]), .string (bs [98]), .string (bs [99])] fun O aZ aU bV dy dz => ?_
 have eY := nb_new aU hr.lt
 have dA := nb_new aU aT.lt
 replace ⟨hD, hr, aT, C⟩ := (sn [aq, b] bV aU).g4 hD hr aT C
 have E : Own (α := Txt) aZ O 9 (nin (ge w.heap.size) [O, aq, b]) 3 3 [(⟨[97]⟩ : Txt), (⟨[98]⟩ : Txt), (⟨[99]⟩ : Txt)] := Own.lit dy rfl (by decide) ⟨rfl, rfl, rfl, rfl⟩
 refine .r 2 <| .d <| .b 0 <| T.loop (X := (List Tag) × Nat × Nat × Nat × Nat × Nat) (([] : List Tag), aq, 0, 0, 0, p) (fun (out, r_out, n_out, c_out, k, p_) => [(0, .pointer (some ⟨b, 0, none⟩)), (3, vS r_out n_out c_out), (7, vS O 3 3), (8, vI 3), (9, vI (k : Int))]) (fun (out, r_out, n_out, c_out, k, p_) aC => Chg (ins [aq, b]) aZ aC ∧ Own aC r_out 120 (nin (ge w.heap.size) [O, r_out, b]) n_out c_out out ∧ OrB r_out aq aZ.heap.size ∧ Box aC b 122 [.slice ad D.length cd, vI (p_ : Int)] ∧ (k ≤ 3) ∧ (out.length ≤ k) ∧ (∀ t ∈ out, TagD t) ∧ (∀ t ∈ out, tagOk t = true) ∧ (p_ ≤ p + 2 * k)) (fun (out, r_out, n_out, c_out, k, p_) => 3 - k) (by kernel_rfl) ⟨by kernel_rfl, by kernel_rfl, by kernel_rfl, by kernel_rfl, by kernel_rfl, trivial⟩ ⟨Chg.refl _ _, aT, orb_refl, hr, (by simp), (by simp), (by simp), (by simp), (by simp)⟩ ?_
 rintro ⟨out, r_out, n_out, c_out, k, p_⟩ fG aC ⟨ab, J, ao, bi, eZ, e7, e8, fa, fb⟩ aJ
 have bW := nb_or' ao dv hr.lt
 have bX := nb_or' ao (Nb.symm dA) E.lt
 have aV := gb_or' ao dw C.size
 have dB := cov_or' ao dx C.size
 have dC : Cov (ins [aq, b]) aZ aq := ⟨.inl (.head _)⟩
 have fc : Cov (ins [aq, b]) aZ b := ⟨.inl (.tail _ (.head _))⟩
 have fd := cov_or' ao dC (Nat.le_refl _)
 have bY : Mv [O, aq, b] [O, r_out, b] aZ aC := Mv.inl ab (all_cons (.tail _ (.head _)) (all_cons (.tail _ (.tail _ (.head _))) all_nil)) (all_cons (.inl (.head _)) (all_cons (orb_mem ao (.tail _ (.head _))) (all_cons (.inl (.tail _ (.tail _ (.head _)))) all_nil)))
 replace ⟨hD, E, C⟩ := (sp bY ab).g3 hD E C
 have fe := J.len; have ff := J.max
 refine .s <| .g <| .bp ((k : Int) < 3) (fun dD => ?_) (fun dD => ?_)
 ·refine .d <| .s <| .ct <| .sk <| .s <| .b 1 <| .s <| .g ?_
  have dE : k < 3 := (by omega)
  refine RG.idx (b := O) (o := 0) k (len := 3) (i := (k : Int)) (sz := 1) (by kernel_rfl) (by omega) dE rfl ?_
  obtain ⟨bj, bk⟩ : ∃ y, ([(⟨[97]⟩ : Txt), (⟨[98]⟩ : Txt), (⟨[99]⟩ : Txt)] : List Txt)[k]? = some y := ⟨_, List.getElem?_eq_getElem (by omega)⟩
  have fg := drop_at bk; have bU := List.mem_of_getElem? bk
  simp only [List.mem_cons, List.not_mem_nil, or_false] at bU
  obtain ⟨_, rfl, bm⟩ := E.elem k bj bk
  replace bm : Has aC ⟨O, 0 + k * Rep.sz Txt, none⟩ [vT bj.s] := by rw [Nat.zero_add]; exact bm
  refine .lh 0 bm <| .r 1 <| .d <| .s <| .g <| .r 1 <| .cl (c_spec_l6Rd_pick 2 bi (hD.toAll (.tail _ (.tail _ (.head _)))) (by omega) (w := aC) (F := all)) ?_
  rintro fH fI ⟨⟨ed, rfl, fh⟩, ee, fi, aK, bZ⟩
  replace ⟨hD, J, E, C, ab⟩ := (so [O, r_out, b] bZ).g5 hD J E C ab
  refine .eq ed 0 (fun dF => ?_) (fun dF => .d <| .cf <| .sk <| .ib 1 <| .g <| .it ((k : Int) + 1) <| .r 1 <| .d <| aJ (out, r_out, n_out, c_out, k + 1, ee) _ _ ⟨by kernel_rfl, by kernel_rfl, by kernel_rfl, by kernel_rfl, by kernel_rfl, trivial⟩ ⟨ab, J, ao, aK, (by omega), (by omega), ‹_›, ‹_›, (by omega)⟩ (by (simp only []; omega)))
  refine .d <| .ct <| .g <| .r 3 <| .ns 3 9 [.string (bs [112]), .string (bs [113]), .string (bs [122])] fun aN dG bn b0 dH dI => ?_
  have dJ := nb_new bn aK.lt
  replace ⟨hD, aK, J, E, C, ab⟩ := (sn [O, r_out, b] b0 bn).g6 hD aK J E C ab
  have aW : Own (α := Txt) dG aN 9 (nin (ge w.heap.size) [aN, O, r_out, b]) 3 3 [(⟨[112]⟩ : Txt), (⟨[113]⟩ : Txt), (⟨[122]⟩ : Txt)] := Own.lit dH rfl (by decide) ⟨rfl, rfl, rfl, rfl⟩
  refine .cl (c_spec_l6Rd_of ([(⟨[112]⟩ : Txt), (⟨[113]⟩ : Txt), (⟨[122]⟩ : Txt)] : List Txt) aK (hD.toAll (.tail _ (.tail _ (.tail _ (.head _))))) (by omega) (aW.toAll (.tail _ (.tail _ (.tail _ (.head _)))) dJ) (by simp) (w := dG) (F := all)) ?_
  rintro fJ fK ⟨⟨cq, rfl, fj⟩, ef, fk, aB, b6⟩
  replace ⟨hD, J, E, aW, C, ab⟩ := (so [aN, O, r_out, b] b6).g6 hD J E aW C ab
  refine .r 1 <| .ns 1 120 [vT bj.s, vT cq] fun dK fL ak bo cr cu => ?_
  have cv := nb_new ak aB.lt
  have bq := nb_new ak J.lt
  have cw := nb_new ak E.lt
  have cx := nb_new ak aW.lt
  have cy := gb_new ak C.size
  replace ⟨hD, aB, J, E, C, ab⟩ := (se [aN, O, r_out, b] bo).g6 hD aB J E C ab
  have ba : nin (ge w.heap.size) [aN, O, r_out, b] dK ∧ dK ≠ r_out := hap_mk cy (all_cons cx (all_cons cw (all_cons bq (all_cons cv all_nil)))) bq
  refine RG.append1 (T := 77) (ty := 77) (y := (⟨bj.s, cq⟩ : Tag)) J cr (by kernel_rfl) (by kernel_rfl) rfl ba (by omega) fun br dL b7 ae aD bt => ?_
  have cz := orb_or aD ao ab.size
  replace ⟨hD, aB, E, C, ab⟩ := (sa [aN, O, r_out, b] bt aD).g5 hD aB E C ab
  replace ae := ae.rn r_out
  have eg := ae.len; have eh := ae.max
  refine .r 1 <| .d <| .ib 1 <| .g <| .it ((k : Int) + 1) <| .r 1 <| .d ?_
  have cA : Mv [aN, O, br, b] [O, br, b] b7 b7 := Mv.less (all_cons (.tail _ (.head _)) (all_cons (.tail _ (.tail _ (.head _))) (all_cons (.tail _ (.tail _ (.tail _ (.head _)))) all_nil)))
  replace ⟨hD, ae, E⟩ := (sp cA (Chg.refl nil _)).g3 hD ae E
  exact aJ ((out ++ [(⟨bj.s, cq⟩ : Tag)]), br, n_out + 1, dL, k + 1, ef) _ _ ⟨by kernel_rfl, by kernel_rfl, by kernel_rfl, by kernel_rfl, by kernel_rfl, trivial⟩ ⟨ab, ae, cz, aB, (by omega), (by omega), (by exact all_snoc ‹_› (tag_y9 ‹_› ‹_›).1), (by exact all_snoc ‹_› (tag_y9 ‹_› ‹_›).2), (by omega)⟩ (by (simp only []; omega))
 refine .d <| .s <| .cf <| .x 0 rfl <| .s <| .s <| .g <| .r 2 <| .eq (n_out : Int) 0 (fun cB => ?_) (fun cB => ?_)
 ·refine .d <| .ct <| .g <| .r 2 <| .cl (c_spec_l71Tag bi (hD.toAll (.tail _ (.tail _ (.head _)))) (by omega) (w := aC) (F := all)) ?_
  rintro fm fp ⟨⟨ar, ⟨_, rfl, rfl⟩, ej⟩, fq, ek, af, bu⟩
  replace ⟨hD, J, E, C⟩ := (so [O, r_out, b] bu).g4 hD J E C
  refine .ns 1 120 [vT ar.key, vT ar.val] fun b8 ft au bv cC cD => ?_
  have cE := nb_new au af.lt
  have bw := nb_new au J.lt
  have cF := nb_new au E.lt
  have cG := gb_new au C.size
  replace ⟨hD, af, J, E, C⟩ := (se [O, r_out, b] bv).g5 hD af J E C
  have bc : nin (ge w.heap.size) [O, r_out, b] b8 ∧ b8 ≠ r_out := hap_mk cG (all_cons cF (all_cons bw (all_cons cE all_nil))) bw
  refine RG.append1 (T := 77) (ty := 77) (y := ar) J cC (by kernel_rfl) (by kernel_rfl) rfl bc (by omega) fun aa b9 dM W ac bz => ?_
  have cH := nb_or ac bW af.lt
  have cI := nb_or ac bX E.lt
  have aO := gb_or ac aV C.size
  have en := cov_or ac dB C.size
  replace ⟨hD, af, E, C⟩ := (sa [O, r_out, b] bz ac).g4 hD af E C
  replace W := W.rn r_out
  have et := W.len; have ey := W.max
  refine .r 1 <| .d <| .s <| .s <| .g <| .r 1 <| .cl (c_spec_l6Rd_pick 40 af (hD.toAll (.tail _ (.tail _ (.head _)))) (by omega) (w := dM) (F := all)) ?_
  rintro fu ce ⟨⟨cg, rfl, ez⟩, dN, eA, al, bA⟩
  replace ⟨hD, W, E, C⟩ := (so [O, aa, b] bA).g4 hD W E C
  refine .d <| .b 2 <| .s <| .g <| .eq cg 0 (fun cJ => ?_) (fun cJ => ?_)
  ·refine .r 1 <| .d <| .ct <| .s <| .g <| .r 2 <| .cl (c_spec_l71Tag al (hD.toAll (.tail _ (.tail _ (.head _)))) (by omega) (w := ce) (F := all)) ?_
   rintro fv fw ⟨⟨aX, ⟨_, rfl, rfl⟩, eB⟩, dO, eC, ag, bB⟩
   replace ⟨hD, W, E, C⟩ := (so [O, aa, b] bB).g4 hD W E C
   refine .ns 1 120 [vT aX.key, vT aX.val] fun ci fz av bC cK cL => ?_
   have cM := nb_new av ag.lt
   have bD := nb_new av W.lt
   have cN := nb_new av E.lt
   have cO := gb_new av C.size
   replace ⟨hD, ag, W, E, C⟩ := (se [O, aa, b] bC).g5 hD ag W E C
   have bd : nin (ge w.heap.size) [O, aa, b] ci ∧ ci ≠ aa := hap_mk cO (all_cons cN (all_cons bD (all_cons cM all_nil))) bD
   refine RG.append1 (T := 77) (ty := 77) (y := aX) W cK (by kernel_rfl) (by kernel_rfl) rfl bd (by omega) fun bE dP dQ aw ai bF => ?_
   have eD := nb_or ai cH ag.lt
   have eE := nb_or ai cI E.lt
   have cP := gb_or ai aO C.size
   replace ⟨hD, ag, E, C⟩ := (sa [O, aa, b] bF ai).g4 hD ag E C
   replace aw := aw.rn aa
   have eF := aw.len; have eG := aw.max
   refine .r 1 <| .d ?_
   have dR := aw.sl cP
   replace ⟨hD, E⟩ := (sd dQ [O, bE, b] bE).g2 hD E
   exact .rt Tryz.func92 Tryz.results92 (vS bE (n_out + 1 + 1) dP) ⟨⟨(((out ++ [ar]) ++ [aX]) : List Tag), (dR.vl (by rfl) (fun _ _ h => h.1)), (by exact nmx_all (by omega) (by grind [TagD]) (by grind))⟩, dO, by omega, ag, C⟩
  refine .r 1 <| .d <| .cf <| .s <| .g <| .eq cg 1 (fun cQ => ?_) (fun cQ => ?_)
  ·refine .r 1 <| .d <| .ct <| .g <| .r 2 <| .ns 3 9 [.string (bs []), .string (bs [111]), .string (bs [112, 112])] fun aL cj aE bG cR cS => ?_
   have cT := nb_new aE al.lt
   have eH := nb_new aE W.lt
   replace ⟨hD, al, W, E, C⟩ := (sn [O, aa, b] bG aE).g5 hD al W E C
   have cU : Own (α := Txt) cj aL 9 (nin (ge w.heap.size) [aL, O, aa, b]) 3 3 [(⟨[]⟩ : Txt), (⟨[111]⟩ : Txt), (⟨[112, 112]⟩ : Txt)] := Own.lit cR rfl (by decide) ⟨rfl, rfl, rfl, rfl⟩
   refine .cl (c_spec_l6Rd_of ([(⟨[]⟩ : Txt), (⟨[111]⟩ : Txt), (⟨[112, 112]⟩ : Txt)] : List Txt) al (hD.toAll (.tail _ (.tail _ (.tail _ (.head _))))) (by omega) (cU.toAll (.tail _ (.tail _ (.tail _ (.head _)))) cT) (by simp) (w := cj) (F := all)) ?_
   rintro fA dS ⟨⟨bH, rfl, eI⟩, dT, eJ, aP, bI⟩
   replace ⟨hD, W, E, C⟩ := (so [aL, O, aa, b] bI).g4 hD W E C
   have cV : 0 < n_out + 1 := (by omega)
   refine RG.idx (b := aa) (o := 0) 0 (len := n_out + 1) (i := 0) (sz := 2) (by kernel_rfl) (by omega) cV rfl <| .r 1 ?_
   obtain ⟨ax, aF⟩ : ∃ y, (out ++ [ar])[0]? = some y := ⟨_, List.getElem?_eq_getElem (by omega)⟩
   have eK := drop_at aF; have dU := List.mem_of_getElem? aF
   obtain ⟨_, rfl, aQ⟩ := W.elem 0 ax aF
   replace aQ : Has dS ⟨aa, 0 + 0 * Rep.sz Tag, none⟩ [vT ax.key, vT ax.val] := by rw [Nat.zero_add]; exact aQ
   refine RG.storeO (t' := 9) (i := 0) (k := 1) (v := vT bH) (cs := [vT ax.key, vT ax.val]) (⟨ax.key, bH⟩ : Tag) W aF aQ (by kernel_rfl) (by kernel_rfl) (by kernel_rfl) rfl fun dV cW bJ cX => ?_
   replace ⟨hD, aP, E, C⟩ := (so [aL, O, aa, b] bJ).g4 hD aP E C
   refine .d <| .ib 2 <| .s <| .g <| .r 2 <| .d ?_
   have dW := cW.sl aO
   replace ⟨hD, E⟩ := (sd dV [aL, O, aa, b] aa).g2 hD E
   exact .rt Tryz.func92 Tryz.results92 (vS aa (n_out + 1) b9) ⟨⟨(((out ++ [ar]).set 0 (⟨ax.key, bH⟩ : Tag)) : List Tag), (dW.vl (by rfl) (fun _ _ h => h.1)), (by exact nmx_set (by omega) (by grind [TagD]) (by grind))⟩, dT, by omega, aP, C⟩
  refine .r 1 <| .d <| .cf <| .sk <| .ib 2 <| .s <| .g <| .r 2 <| .d ?_
  have dX := W.sl aO
  replace ⟨hD, E⟩ := (sd ce [O, aa, b] aa).g2 hD E
  exact .rt Tryz.func92 Tryz.results92 (vS aa (n_out + 1) b9) ⟨⟨((out ++ [ar]) : List Tag), (dX.vl (by rfl) (fun _ _ h => h.1)), (by exact nmx_all (by omega) (by grind [TagD]) (by grind))⟩, dN, by omega, al, C⟩
 refine .d <| .cf <| .sk <| .s <| .s <| .g <| .r 1 <| .cl (c_spec_l6Rd_pick 40 bi (hD.toAll (.tail _ (.tail _ (.head _)))) (by omega) (w := aC) (F := all)) ?_
 rintro fB ck ⟨⟨cm, rfl, eL⟩, dY, eM, am, bK⟩
 replace ⟨hD, J, E, C⟩ := (so [O, r_out, b] bK).g4 hD J E C
 refine .d <| .b 2 <| .s <| .g <| .eq cm 0 (fun cY => ?_) (fun cY => ?_)
 ·refine .r 1 <| .d <| .ct <| .s <| .g <| .r 2 <| .cl (c_spec_l71Tag am (hD.toAll (.tail _ (.tail _ (.head _)))) (by omega) (w := ck) (F := all)) ?_
  rintro fC fD ⟨⟨aY, ⟨_, rfl, rfl⟩, eN⟩, dZ, eO, ah, bL⟩
  replace ⟨hD, J, E, C⟩ := (so [O, r_out, b] bL).g4 hD J E C
  refine .ns 1 120 [vT aY.key, vT aY.val] fun co fE ay bM cZ c7 => ?_
  have c8 := nb_new ay ah.lt
  have bN := nb_new ay J.lt
  have c9 := nb_new ay E.lt
  have da := gb_new ay C.size
  replace ⟨hD, ah, J, E, C⟩ := (se [O, r_out, b] bM).g5 hD ah J E C
  have bg : nin (ge w.heap.size) [O, r_out, b] co ∧ co ≠ r_out := hap_mk da (all_cons c9 (all_cons bN (all_cons c8 all_nil))) bN
  refine RG.append1 (T := 77) (ty := 77) (y := aY) J cZ (by kernel_rfl) (by kernel_rfl) rfl bg (by omega) fun bO d0 d3 az aj bP => ?_
  have eP := nb_or aj bW ah.lt
  have eQ := nb_or aj bX E.lt
  have db := gb_or aj aV C.size
  replace ⟨hD, ah, C⟩ := (sa [O, r_out, b] bP aj).g3 hD ah C
  replace az := az.rn r_out
  have eR := az.len; have eS := az.max
  refine .r 1 <| .d ?_
  have d4 := az.sl db
  replace hD := (sd d3 [O, bO, b] bO).g1 hD
  exact .rt Tryz.func92 Tryz.results92 (vS bO (n_out + 1) d0) ⟨⟨((out ++ [aY]) : List Tag), (d4.vl (by rfl) (fun _ _ h => h.1)), (by exact nmx_all (by omega) (by grind [TagD]) (by grind))⟩, dZ, by omega, ah, C⟩
 refine .r 1 <| .d <| .cf <| .s <| .g <| .eq cm 1 (fun de => ?_) (fun de => ?_)
 ·refine .r 1 <| .d <| .ct <| .g <| .r 2 <| .ns 3 9 [.string (bs []), .string (bs [111]), .string (bs [112, 112])] fun aM cp aG bQ df dg => ?_
  have dh := nb_new aG am.lt
  have eT := nb_new aG J.lt
  replace ⟨hD, am, J, C⟩ := (sn [O, r_out, b] bQ aG).g4 hD am J C
  have dj : Own (α := Txt) cp aM 9 (nin (ge w.heap.size) [aM, O, r_out, b]) 3 3 [(⟨[]⟩ : Txt), (⟨[111]⟩ : Txt), (⟨[112, 112]⟩ : Txt)] := Own.lit df rfl (by decide) ⟨rfl, rfl, rfl, rfl⟩
  refine .cl (c_spec_l6Rd_of ([(⟨[]⟩ : Txt), (⟨[111]⟩ : Txt), (⟨[112, 112]⟩ : Txt)] : List Txt) am (hD.toAll (.tail _ (.tail _ (.tail _ (.head _))))) (by omega) (dj.toAll (.tail _ (.tail _ (.tail _ (.head _)))) dh) (by simp) (w := cp) (F := all)) ?_
  rintro fF d5 ⟨⟨bR, rfl, eU⟩, d6, eV, aR, bS⟩
  replace ⟨hD, J, C⟩ := (so [aM, O, r_out, b] bS).g3 hD J C
  have dm : 0 < n_out := (by omega)
  refine RG.idx (b := r_out) (o := 0) 0 (len := n_out) (i := 0) (sz := 2) (by kernel_rfl) (by omega) dm rfl <| .r 1 ?_
  obtain ⟨aA, aH⟩ : ∃ y, out[0]? = some y := ⟨_, List.getElem?_eq_getElem (by omega)⟩
  have eW := drop_at aH; have d7 := List.mem_of_getElem? aH
  obtain ⟨_, rfl, aS⟩ := J.elem 0 aA aH
  replace aS : Has d5 ⟨r_out, 0 + 0 * Rep.sz Tag, none⟩ [vT aA.key, vT aA.val] := by rw [Nat.zero_add]; exact aS
  refine RG.storeO (t' := 9) (i := 0) (k := 1) (v := vT bR) (cs := [vT aA.key, vT aA.val]) (⟨aA.key, bR⟩ : Tag) J aH aS (by kernel_rfl) (by kernel_rfl) (by kernel_rfl) rfl fun d8 dp bT dq => ?_
  replace ⟨hD, aR, C⟩ := (so [aM, O, r_out, b] bT).g3 hD aR C
  refine .d <| .ib 2 <| .s <| .g <| .r 2 <| .d ?_
  have d9 := dp.sl aV
  replace hD := (sd d8 [aM, O, r_out, b] r_out).g1 hD
  exact .rt Tryz.func92 Tryz.results92 (vS r_out n_out c_out) ⟨⟨((out.set 0 (⟨aA.key, bR⟩ : Tag)) : List Tag), (d9.vl (by rfl) (fun _ _ h => h.1)), (by exact nmx_set (by omega) (by grind [TagD]) ‹_›)⟩, d6, by omega, aR, C⟩
 refine .r 1 <| .d <| .cf <| .sk <| .ib 2 <| .s <| .g <| .r 2 <| .d ?_
 have ec := J.sl aV
 replace hD := (sd ck [O, r_out, b] r_out).g1 hD
 exact .rt Tryz.func92 Tryz.results92 (vS r_out n_out c_out) ⟨⟨(out : List Tag), (ec.vl (by rfl) (fun _ _ h => h.1)), (by exact nmx_all (by omega) ‹_› ‹_›)⟩, dY, by omega, am, C⟩
end Go.Proofs.YtganlmloonielaaGreat
namespace Go.Proofs.YtganlmloonielaaGreat
def b2sB (P : Program) (s d : TypeId) : Bool :=
 match P.underlying s, P.underlying d with
 | some (.slice e), some .string => (match P.underlying e with | some (.int .u8) => true | _ => false)
 | _, _ => false
theorem run_b2s1 {P : Program} {w : World} {r : Nat} {src dst : TypeId} {y : UInt8} {c : Nat} (h : Has w ⟨r, 0, none⟩ [.int .u8 (y.toNat : Int)]) (hb : b2sB P src dst = true) :
 (convert src dst (.slice (some ⟨r, 0, none⟩) 1 c)).run P w = .ok (.string (bs [y])) w := by
 unfold b2sB at hb
 split at hb
 ·rename_i e h1 h2
  split at hb
  ·rename_i h3
   have h4 := run_loadCellsFrom (P := P) ⟨r, 0, none⟩ [.int .u8 (y.toNat : Int)] 0 #[] _ rfl h
   have h5 : (loadCells ⟨r, 0, none⟩ 1).run P w = .ok #[.int .u8 (y.toNat : Int)] w := h4
   have h6 : (Conv.bytesToString (.slice (some ⟨r, 0, none⟩) 1 c)).run P w = .ok (.string (bs [y])) w := by
    unfold Conv.bytesToString
    simp only []
    rw [run_bind_ok h5]
    simp [go_sem]
    rfl
   unfold convert
   rw [run_bind_ok (run_underlying h1 w), run_bind_ok (run_underlying h2 w)]
   simp only []
   rw [run_bind_ok (run_underlying h3 w)]
   exact h6
  ·cases hb
 ·cases hb
def cvtAt (n : Nat) (ops : Array Oper) (j : Nat) (e : Env) : Option (TypeId × TypeId × Value) :=
 bif goAt n ops j e then
  match (opAt ops j).op with
  | .convert s d x => some (s, d, ev e x)
  | _ => none
 else none
theorem run_cvtAt {P : Program} {n : Nat} {ops : Array Oper} {j : Nat} {e : Env} {s d : TypeId} {a v : Value} {w : World} (h : cvtAt n ops j e = some (s, d, a))
 (hr : (convert s d a).run P w = .ok v w) : goAt n ops j e = true ∧ (execOp (ev e) (opAt ops j)).run P w = .ok (.value v) w := by
 obtain ⟨hg, h⟩ := goAt_of h
 refine ⟨hg, ?_⟩
 split at h
 ·rename_i s' d' x hop
  simp only [Option.some.injEq, Prod.mk.injEq] at h
  obtain ⟨rfl, rfl, rfl⟩ := h
  simp only [execOp, hop]
  exact run_bind_ok hr
 ·cases h
theorem GA.b2s {P : Program} {n m : Nat} {L : Env → World → Prop} {ops : Array Oper} {l : List Nat} {e : Env} {w : World} {i : Nat} {s d : TypeId} {r c : Nat} {y : UInt8} {t : TypeId} {F : Nat → Prop}
 (hb : gB n m ops l i = true) (ho : Own w r t F 1 c [y]) (h : cvtAt n ops i e = some (s, d, .slice (some ⟨r, 0, none⟩) 1 c)) (ht : b2sB P s d = true)
 (H : GA P nil n m L ops (i :: l) (putE e (opAt ops i).dst (.string (bs [y]))) w) : GA P nil n m L ops l e w := by
 obtain ⟨cs, h1, h2⟩ := ho.elem 0 y rfl
 cases h1
 have h3 : Has w ⟨r, 0, none⟩ [.int .u8 (y.toNat : Int)] := by simpa using h2
 have h4 := run_cvtAt (P := P) (w := w) h (run_b2s1 h3 ht)
 refine GA.det (by unfold gB at hb; rw [hb, h4.1]; rfl) (fun w1 hx => ?_) H
 exact (run_cvtAt (P := P) (w := w1) h (run_b2s1 (h3.ext hx) ht)).2
def cutL (at_ : UInt8) (out : List Txt) : List UInt8 → List Txt
 | [] => out
 | x :: xs => if x = at_ then cutL at_ (out ++ [⟨[]⟩]) xs else cutL at_ (out.set (out.length - 1) ⟨(out.getD (out.length - 1) ⟨[]⟩).s ++ [x]⟩) xs
def cutT (s : List UInt8) (at_ : UInt8) : List Txt := cutL at_ [⟨[]⟩] s
theorem cutStep1 {at_ : UInt8} {s : List UInt8} {i : Nat} {out : List Txt} {x : UInt8} {Y : List Txt} (h : cutL at_ out (s.drop i) = Y) (hd : s.drop i = x :: s.drop (i + 1)) (he : (x.toNat : Int) = (at_.toNat : Int)) : cutL at_ (out ++ [⟨[]⟩]) (s.drop (i + 1)) = Y := by
 have : x = at_ := UInt8.toNat_inj.1 (by omega)
 rw [hd] at h
 unfold cutL at h
 rw [if_pos this] at h
 exact h
theorem cutStep2 {at_ : UInt8} {s : List UInt8} {i : Nat} {out : List Txt} {x : UInt8} {Y : List Txt} {t : Txt} {k : Nat} (h : cutL at_ out (s.drop i) = Y) (hd : s.drop i = x :: s.drop (i + 1)) (he : (x.toNat : Int) ≠ (at_.toNat : Int)) (hk : k = out.length - 1) (ht : out[k]? = some t) : cutL at_ (out.set k ⟨t.s ++ [x]⟩) (s.drop (i + 1)) = Y := by
 have : x ≠ at_ := fun e => he (by rw [e])
 rw [hd] at h
 unfold cutL at h
 rw [if_neg this, List.getD_eq_getElem?_getD, ← hk, ht] at h
 exact h
theorem cutEnd {at_ : UInt8} {s : List UInt8} {i : Nat} {out : List Txt} {Y : List Txt} (h : cutL at_ out (s.drop i) = Y) (hi : s.length ≤ i) : out = Y := by
 rw [drop_end hi] at h
 exact h
def notW (s : Str) : Bool := decide (s.length = 4) && decide (s[1]? = some 33)
def restW (s : Str) : Str := if notW s then s.take 1 ++ s.drop 2 else s
def condR (s : Str) : Cnd × Bool :=
 if (restW s).length = 3 ∧ (restW s)[1]? = some 61 then (⟨⟨(restW s).take 1, (restW s).drop 2⟩, notW s⟩, tagOk ⟨(restW s).take 1, (restW s).drop 2⟩) else (⟨⟨[], []⟩, notW s⟩, false)
def filtF : List Cnd → List Txt → List Cnd × Bool
 | out, [] => (out, true)
 | out, t :: ts => if (condR t.s).2 = false ∨ out.length ≥ 3 then ([], false) else filtF (out ++ [(condR t.s).1]) ts
def filtR (s : Str) : List Cnd × Bool := if s = [42] then ([], true) else filtF [] (cutT s 44)
def nameL : List Tag → List Cnd → Option (List Tag)
 | out, [] => some out
 | out, c :: cs => if c.no then none else nameL (out ++ [c.tag]) cs
def nameR (s : Str) : List Tag := match nameL [] (filtR s).1 with
 | some out => if (filtR s).2 = true ∧ nameOk out = true then out else []
 | none => []
theorem notW_1 {w : Str} (h : (w.length : Int) ≠ 4) : notW w = false ∧ restW w = w := by
 have : notW w = false := by unfold notW; rw [decide_eq_false (by omega)]; rfl
 exact ⟨this, by unfold restW; rw [this]; rfl⟩
theorem notW_2 {w : Str} {y : UInt8} (h : (w.length : Int) = 4) (hy : w[1]? = some y) (h2 : (y.toNat : Int) ≠ 33) : notW w = false ∧ restW w = w := by
 have : notW w = false := by
  unfold notW
  rw [hy, decide_eq_false (p := some y = some 33), Bool.and_false]
  intro e
  cases e
  exact h2 rfl
 exact ⟨this, by unfold restW; rw [this]; rfl⟩
theorem notW_3 {w : Str} {y : UInt8} (h : (w.length : Int) = 4) (hy : w[1]? = some y) (h2 : (y.toNat : Int) = 33) : notW w = true ∧ restW w = ((w.take 1).drop 0) ++ ((w.take w.length).drop 2) := by
 have hy2 : y = 33 := UInt8.toNat_inj.1 (by show y.toNat = 33; omega)
 have : notW w = true := by
  unfold notW
  rw [hy, hy2, decide_eq_true (by omega)]
  rfl
 exact ⟨this, by unfold restW; rw [this]; simp⟩
theorem condR_no {w u : Str} {b : Bool} (h : notW w = b ∧ restW w = u) (h2 : (u.length : Int) ≠ 3 ∨ (∃ z, u[1]? = some z ∧ (z.toNat : Int) ≠ 61)) : condR w = (⟨⟨[], []⟩, b⟩, false) := by
 obtain ⟨rfl, rfl⟩ := h
 unfold condR
 rw [if_neg]
 rintro ⟨h3, h4⟩
 rcases h2 with h2 | ⟨z, h2, h5⟩
 ·omega
 ·rw [h2] at h4
  cases h4
  exact h5 rfl
theorem condR_yes {w u : Str} {b : Bool} {z : UInt8} (h : notW w = b ∧ restW w = u) (h1 : (u.length : Int) = 3) (h2 : u[1]? = some z) (h3 : (z.toNat : Int) = 61) :
 condR w = (⟨⟨(u.take 1).drop 0, (u.take u.length).drop 2⟩, b⟩, tagOk ⟨(u.take 1).drop 0, (u.take u.length).drop 2⟩) := by
 obtain ⟨rfl, rfl⟩ := h
 have hz : z = 61 := UInt8.toNat_inj.1 (by show z.toNat = 61; omega)
 unfold condR
 rw [if_pos ⟨by omega, by rw [h2, hz]⟩]
 simp
theorem cutLen {out : List Txt} {i k : Nat} {t : Txt} {y : UInt8} (h : ∀ t ∈ out, t.s.length ≤ i) (ht : out[k]? = some t) : ∀ t' ∈ out.set k ⟨t.s ++ [y]⟩, t'.s.length ≤ i + 1 := by
 intro t' ht'
 rcases List.mem_or_eq_of_mem_set ht' with ht' | rfl
 ·have := h t' ht'; omega
 ·have := h t (List.mem_of_getElem? ht)
  simp only [List.length_append, List.length_cons, List.length_nil]; omega
theorem cutLen1 {out : List Txt} {i : Nat} (h : ∀ t ∈ out, t.s.length ≤ i) : ∀ t' ∈ out ++ [⟨[]⟩], t'.s.length ≤ i + 1 := by
 intro t' ht'
 rcases List.mem_append.1 ht' with ht' | ht'
 ·have := h t' ht'; omega
 ·simp at ht'; subst ht'; simp
theorem cutL_len (a : UInt8) : ∀ (s : List UInt8) (out : List Txt) (i : Nat), (∀ t ∈ out, t.s.length ≤ i) → (∀ t ∈ cutL a out s, t.s.length ≤ i + s.length) ∧ (cutL a out s).length ≤ out.length + s.length := by
 intro s
 induction s with
 | nil => intro out i h; exact ⟨fun t ht => by have := h t ht; simpa using this, by unfold cutL; simp⟩
 | cons x xs ih =>
   intro out i h
   unfold cutL
   split
   ·obtain ⟨h1, h2⟩ := ih (out ++ [⟨[]⟩]) (i + 1) (cutLen1 h)
    refine ⟨fun t ht => ?_, ?_⟩
    ·have := h1 t ht; simp only [List.length_cons]; omega
    ·simp only [List.length_append, List.length_cons, List.length_nil] at h2 ⊢; omega
   ·have h3 : ∀ t ∈ out.set (out.length - 1) ⟨(out.getD (out.length - 1) ⟨[]⟩).s ++ [x]⟩, t.s.length ≤ i + 1 := by
     intro t ht
     rcases List.mem_or_eq_of_mem_set ht with ht | rfl
     ·have := h t ht; omega
     ·rw [List.getD_eq_getElem?_getD]
      cases hq : out[out.length - 1]? with
      | none => simp
      | some q => have := h q (List.mem_of_getElem? hq); simp; omega
    obtain ⟨h1, h2⟩ := ih _ (i + 1) h3
    refine ⟨fun t ht => ?_, ?_⟩
    ·have := h1 t ht; simp only [List.length_cons]; omega
    ·simp only [List.length_set, List.length_cons] at h2 ⊢; omega
theorem cutT_len (s : List UInt8) (a : UInt8) : (∀ t ∈ cutT s a, t.s.length ≤ s.length) ∧ (cutT s a).length ≤ s.length + 1 := by
 obtain ⟨h1, h2⟩ := cutL_len a s [⟨[]⟩] 0 (by simp)
 refine ⟨fun t ht => by have := h1 t ht; omega, ?_⟩
 unfold cutT
 simp only [List.length_cons, List.length_nil] at h2; omega
theorem filt_no {out : List Cnd} {ts : List Txt} {i : Nat} {t : Txt} {Y : List Cnd × Bool} (h : filtF out (ts.drop i) = Y) (hd : ts.drop i = t :: ts.drop (i + 1)) (h2 : (condR t.s).2 = false ∨ (out.length : Int) ≥ 3) : Y = ([], false) := by
 rw [hd] at h
 unfold filtF at h
 rw [if_pos (by rcases h2 with h2 | h2; exact .inl h2; exact .inr (by omega))] at h
 exact h.symm
theorem filtStep {out : List Cnd} {ts : List Txt} {i : Nat} {t : Txt} {Y : List Cnd × Bool} (h : filtF out (ts.drop i) = Y) (hd : ts.drop i = t :: ts.drop (i + 1)) (h2 : (condR t.s).2 = true) (h3 : ¬ (out.length : Int) ≥ 3) : filtF (out ++ [(condR t.s).1]) (ts.drop (i + 1)) = Y := by
 rw [hd] at h
 unfold filtF at h
 rw [if_neg (by rw [h2]; simp; omega)] at h
 exact h
theorem filtEnd {out : List Cnd} {ts : List Txt} {i : Nat} {Y : List Cnd × Bool} (h : filtF out (ts.drop i) = Y) (hi : ts.length ≤ i) : Y = (out, true) := by
 rw [drop_end hi] at h
 exact h.symm
theorem filtF_len : ∀ (ts : List Txt) (out : List Cnd), out.length ≤ 3 → (filtF out ts).1.length ≤ 3 := by
 intro ts
 induction ts with
 | nil => intro out h; exact h
 | cons t ts ih =>
   intro out h
   unfold filtF
   split
   ·simp
   ·rename_i h2
    refine ih _ ?_
    simp only [not_or] at h2
    simp only [List.length_append, List.length_cons, List.length_nil]; omega
theorem filtR_len (s : Str) : (filtR s).1.length ≤ 3 := by
 unfold filtR
 split
 ·simp
 ·exact filtF_len _ _ (by simp)
theorem filtR_star {s : Str} (h : (s == [42]) = true) : filtR s = ([], true) := by unfold filtR; rw [if_pos (by simpa using h)]
theorem filtR_rest {s : Str} (h : (s == [42]) = false) : filtF [] (cutT s 44) = filtR s := by unfold filtR; rw [if_neg (by simpa using h)]
theorem nameL_no {out : List Tag} {cs : List Cnd} {i : Nat} {c : Cnd} {Y : Option (List Tag)} (h : nameL out (cs.drop i) = Y) (hd : cs.drop i = c :: cs.drop (i + 1)) (h2 : c.no = true) : Y = none := by
 rw [hd] at h
 unfold nameL at h
 rw [if_pos h2] at h
 exact h.symm
theorem nameStep {out : List Tag} {cs : List Cnd} {i : Nat} {c : Cnd} {Y : Option (List Tag)} (h : nameL out (cs.drop i) = Y) (hd : cs.drop i = c :: cs.drop (i + 1)) (h2 : c.no = false) : nameL (out ++ [c.tag]) (cs.drop (i + 1)) = Y := by
 rw [hd] at h
 unfold nameL at h
 rw [if_neg (by rw [h2]; simp)] at h
 exact h
theorem nameR_no {s : Str} (h : nameL [] (filtR s).1 = none) : nameR s = [] := by unfold nameR; rw [h]
theorem nameR_end {s : Str} {out : List Tag} {i : Nat} (h : nameL out ((filtR s).1.drop i) = nameL [] (filtR s).1) (hi : (filtR s).1.length ≤ i) : nameR s = if (filtR s).2 = true ∧ nameOk out = true then out else [] := by
 rw [drop_end hi] at h
 unfold nameR
 rw [← h]
 rfl
theorem nameR_e1 {s : Str} {out : List Tag} {i : Nat} (h : nameL out ((filtR s).1.drop i) = nameL [] (filtR s).1) (hi : (filtR s).1.length ≤ i) (h2 : (filtR s).2 = false ∨ nameOk out = false) : nameR s = [] := by
 rw [nameR_end h hi, if_neg]
 rintro ⟨h3, h4⟩
 rcases h2 with h2 | h2
 ·rw [h2] at h3; cases h3
 ·rw [h2] at h4; cases h4
theorem nameR_e2 {s : Str} {out : List Tag} {i : Nat} (h : nameL out ((filtR s).1.drop i) = nameL [] (filtR s).1) (hi : (filtR s).1.length ≤ i) (h2 : (filtR s).2 = true) (h3 : nameOk out = true) : nameR s = out := by
 rw [nameR_end h hi, if_pos ⟨h2, h3⟩]
end Go.Proofs.YtganlmloonielaaGreat
namespace Go.Proofs.YtganlmloonielaaGreat
set_option maxRecDepth 100000
set_option maxHeartbeats 4000000
theorem c_spec_l3Cut (text_ : Str) (by_ : UInt8) {w : World} {F : Nat → Prop}  (p0 : text_.length ≤ 1000) : Calls Tryz.prog 214 [.string (bs text_), .int .u8 (by_.toNat : Int)].toArray w (rets fun rv w' => VL (ge w.heap.size) w' (cutT text_ by_ : List Txt) rv ∧ Ext w w') := by
 refine goT Tryz.func214 <| .s <| .g <| .r 1 <| .d <| .s <| .g <| .ns 1 9 [.string (bs [])] fun aa ar ah av aI aJ => ?_
 have aK := gb_new ah (Nat.le_refl _)
 have aL : Cov nil w aa := cov_new ah (Nat.le_refl _)
 have C := av
 have aM : Own (α := Txt) ar aa 9 (nin (ge w.heap.size) [aa]) 1 1 [(⟨[]⟩ : Txt)] := Own.lit aI rfl (by decide) ⟨rfl, rfl⟩
 refine .r 1 <| .d <| .s <| .s <| .g <| .r 1 <| .d <| .b 0 <| T.loop (X := (List Txt) × Nat × Nat × Nat × Nat) ((([(⟨[]⟩ : Txt)] : List Txt) : List Txt), aa, 1, 1, 0) (fun (out, r_out, n_out, c_out, i) => [(0, vT text_), (1, .int .u8 (by_.toNat : Int)), (5, vS r_out n_out c_out), (6, vI (i : Int))]) (fun (out, r_out, n_out, c_out, i) aF => Chg (ins [aa]) ar aF ∧ Own aF r_out 9 (nin (ge w.heap.size) [r_out]) n_out c_out out ∧ OrB r_out aa ar.heap.size ∧ (i ≤ text_.length) ∧ (0 < out.length) ∧ (out.length ≤ i + 1) ∧ (∀ t ∈ out, t.s.length ≤ i) ∧ (cutL by_ out (text_.drop i) = cutT text_ by_)) (fun (out, r_out, n_out, c_out, i) => text_.length - i) (by kernel_rfl) ⟨by kernel_rfl, by kernel_rfl, by kernel_rfl, by kernel_rfl, trivial⟩ ⟨Chg.refl _ _, aM, orb_refl, (by simp), (by simp), (by simp), (by simp), (by rfl)⟩ ?_
 rintro ⟨out, r_out, n_out, c_out, i⟩ bE aF ⟨E, J, ab, bm, bn, bo, bq, br⟩ ac
 have aN := gb_or' ab aK C.size
 have bt := cov_or' ab aL C.size
 have aO : Cov (ins [aa]) ar aa := ⟨.inl (.head _)⟩
 have bu := cov_or' ab aO (Nat.le_refl _)
 replace C := (si E).g1 C
 have bv := J.len; have bw := J.max
 refine .s <| .s <| .g <| .r 2 <| RG.eqv (v := vI (text_.length : Int)) (by kernel_rfl) (s_len text_) <| .bp ((i : Int) < (text_.length : Int)) (fun aP => ?_) (fun aP => ?_)
 ·refine .d <| .ct <| .sk <| .s <| .b 1 <| .s <| .g <| .r 2 ?_
  obtain ⟨O, ai⟩ : ∃ y, text_[i]? = some y := ⟨_, List.getElem?_eq_getElem (by omega)⟩
  have bz := UInt8.toNat_lt O; have bA := drop_at ai
  refine RG.sidx (t := 9) (s := text_) (k := .i64) (i := (i : Int)) i (by kernel_rfl) (by kernel_rfl) (by omega) ai <| .r 1 <| .eq (O.toNat : Int) (by_.toNat : Int) (fun aQ => ?_) (fun aQ => ?_)
  ·refine .d <| .ct <| .g <| .r 1 <| .ns 1 9 [.string (bs [])] fun aR bF aj aw aS aT => ?_
   have ax := nb_new aj J.lt
   have aU := gb_new aj C.size
   replace ⟨J, C, E⟩ := (se [r_out] aw).g3 J C E
   have ak : nin (ge w.heap.size) [r_out] aR ∧ aR ≠ r_out := hap_mk aU (all_cons ax all_nil) ax
   refine RG.append1 (T := 162) (ty := 162) (y := (⟨[]⟩ : Txt)) J aS (by kernel_rfl) (by kernel_rfl) rfl ak (by omega) fun bg bh bG ae al ay => ?_
   have aV := orb_or al ab E.size
   replace ⟨C, E⟩ := (s1 ay).g2 C E
   replace ae := ae.rn r_out
   have bB := ae.len; have bC := ae.max
   exact .r 1 <| .d <| .ib 1 <| .g <| .r 1 <| .it ((i : Int) + 1) <| .r 1 <| .d <| ac ((out ++ [(⟨[]⟩ : Txt)]), bg, n_out + 1, bh, i + 1) _ _ ⟨by kernel_rfl, by kernel_rfl, by kernel_rfl, by kernel_rfl, trivial⟩ ⟨E, ae, aV, (by omega), (by simp <;> omega), (by (simp <;> omega)), (by exact cutLen1 ‹_›), (by exact cutStep1 ‹_› ‹_› ‹_›)⟩ (by (simp only []; omega))
  refine .d <| .cf <| .gd nil 16 fun bi az => ?_
  replace ⟨J, C, E⟩ := (se [r_out] az).g3 J C E
  refine .r [0, 1, 2] <| GA.int (i := 3) ((n_out : Int) - 1) (by kernel_rfl) (by omega) <| .r [4, 5, 6] <| GA.int (i := 7) ((n_out : Int) - 1) (by kernel_rfl) (by omega) ?_
  have aW : n_out - 1 < n_out := (by omega)
  refine GA.idx (i := 8) (b := r_out) (o := 0) (n_out - 1) (len := n_out) (z := (n_out : Int) - 1) (sz := 1) (by kernel_rfl) (by omega) aW rfl ?_
  obtain ⟨W, af⟩ : ∃ y, out[n_out - 1]? = some y := ⟨_, List.getElem?_eq_getElem (by omega)⟩
  have bD := drop_at af; have bd := List.mem_of_getElem? af
  obtain ⟨_, rfl, am⟩ := J.elem (n_out - 1) W af
  replace am : Has bi ⟨r_out, 0 + (n_out - 1) * Rep.sz Txt, none⟩ [vT W.s] := by rw [Nat.zero_add]; exact am
  refine .lh 9 0 am id <| .r [10, 11] <| GA.sidx (i := 12) (t := 9) (s := text_) (k := .i64) (z := (i : Int)) (by kernel_rfl) i (by kernel_rfl) (by kernel_rfl) (by omega) ai <| .go 13 <| .ns 1 5 [.int .u8 (O.toNat : Int)] fun bH aA => ?_
  replace ⟨J, C, E⟩ := (se [r_out] aA).g3 J C E
  intro au bj aB aC aX aY
  replace ⟨J, C, E⟩ := (sn [r_out] aC aB).g3 J C E
  have aZ : Own (α := UInt8) bj au 5 (nin (ge w.heap.size) [au, r_out]) 1 1 [O] := Own.lit aX rfl (by decide) ⟨rfl, rfl⟩
  refine GA.b2s (i := 14) (s := 22) (d := 9) (y := O) (by kernel_rfl) aZ (by kernel_rfl) (by kernel_rfl) <| GA.cat (i := 15) (t := 9) (s := W.s) (u := [O]) (by kernel_rfl) (by kernel_rfl) (by have q1 : ∀ t ∈ out, t.s.length ≤ i := ‹_›; have q2 := q1 _ ‹_›; simp only [List.length_cons, List.length_nil]; omega) <| .d fun bk aD => ?_
  replace ⟨J, C, E⟩ := (se [au, r_out] aD).g3 J C E
  have ba : n_out - 1 < n_out := (by omega)
  refine RG.idx (b := r_out) (o := 0) (n_out - 1) (len := n_out) (i := (n_out : Int) - 1) (sz := 1) (by kernel_rfl) (by omega) ba rfl ?_
  obtain ⟨_, rfl, ao⟩ := J.elem (n_out - 1) W af
  replace ao : Has bk ⟨r_out, 0 + (n_out - 1) * Rep.sz Txt, none⟩ [vT W.s] := by rw [Nat.zero_add]; exact ao
  refine RG.storeO (t' := 9) (i := (n_out - 1)) (k := 0) (v := .string (bs (W.s ++ [O]))) (cs := [vT W.s]) (⟨(W.s ++ [O])⟩ : Txt) J af ao (by kernel_rfl) (by kernel_rfl) (by kernel_rfl) rfl fun aE ag aq aG => ?_
  replace ⟨C, E⟩ := (s1 aq).g2 C E
  refine .d <| .ib 1 <| .g <| .r 1 <| .it ((i : Int) + 1) <| .r 1 <| .d ?_
  have aH : Mv [au, r_out] [r_out] aE aE := Mv.less (all_cons (.tail _ (.head _)) all_nil)
  replace ag := (sp aH (Chg.refl nil _)).g1 ag
  exact ac ((out.set (n_out - 1) (⟨(W.s ++ [O])⟩ : Txt)), r_out, n_out, c_out, i + 1) _ _ ⟨by kernel_rfl, by kernel_rfl, by kernel_rfl, by kernel_rfl, trivial⟩ ⟨E, ag, ab, (by omega), (by simp <;> omega), (by (simp <;> omega)), (by exact cutLen ‹_› ‹_›), (by exact cutStep2 ‹_› ‹_› ‹_› (by omega) ‹_›)⟩ (by (simp only []; omega))
 refine .d <| .cf <| .x 0 rfl <| .s <| .g <| .r 2 <| .d ?_
 have bc := J.sl aN
 exact .rt Tryz.func214 Tryz.results214 (vS r_out n_out c_out) ⟨(bc.vl (by exact cutEnd ‹_› (by omega)) (fun _ _ h => h.1)), C⟩
theorem c_spec_l3Cond (w_ : Str) {w : World} {F : Nat → Prop}  (p0 : w_.length ≤ 1000) : Calls Tryz.prog 215 [.string (bs w_)].toArray w (rets fun rv w' => (∃ v0, rv = .tuple #[v0, .bool ((condR w_).2)] ∧ VS (ge w.heap.size) w' ((condR w_).1 : Cnd) v0) ∧ Ext w w') := by
 refine goT Tryz.func215 <| .s <| .g <| .np 198 [.string (bs []), .string (bs []), .bool false] fun bL cq az aA E bj => ?_
 have bR : Cov nil w bL := cov_new az (Nat.le_refl _)
 have C := aA
 refine .r 1 <| .d <| .s <| .g <| .r 1 <| .np 198 [.string (bs []), .string (bs []), .bool false] fun cr cu ac aB bk bm => ?_
 have bS := nb_new ac E.lt
 have bT := C.cn ac
 replace ⟨E, C⟩ := (se [] aB).g2 E C
 refine .sc [.string (bs []), .string (bs []), .bool false] bk fun cv aC J bn => ?_
 replace ⟨E, C⟩ := (s1 aC).g2 E C
 refine .d <| .s <| .s <| .g <| .r 1 <| RG.eqv (v := vI (w_.length : Int)) (by kernel_rfl) (s_len w_) <| .eq (w_.length : Int) 4 (fun bo => ?_) (fun bo => ?_)
 ·refine .r 2 ?_
  obtain ⟨aR, ae⟩ : ∃ y, w_[1]? = some y := ⟨_, List.getElem?_eq_getElem (by omega)⟩
  have bU := UInt8.toNat_lt aR; have bV := drop_at ae
  refine RG.sidx (t := 9) (s := w_) (k := .i64) (i := 1) 1 (by kernel_rfl) (by kernel_rfl) (by omega) ae <| .eq (aR.toNat : Int) 33 (fun bq => ?_) (fun bq => ?_)
  ·refine .r 1 <| .d <| .ct <| .s <| .g <| .r 1 <| .ss 2 (.bool true) J fun cw aD O br => ?_
   replace ⟨E, C⟩ := (s1 aD).g2 E C
   refine .d <| .gd nil 4 fun cx aE => ?_
   replace ⟨E, O, C⟩ := (se [] aE).g3 E O C
   refine .r [0] <| GA.ssub (i := 1) (t := 9) (lo := none) (hi := some (vI 1)) (s := w_) (by kernel_rfl) 0 1 (by kernel_rfl) (by kernel_rfl) (.inl ⟨rfl, rfl⟩) (.inr ⟨_, _, rfl, by omega⟩) (by omega) (by omega) <| .r [2] <| GA.ssub (i := 3) (t := 9) (lo := some (vI 2)) (hi := none) (s := w_) (by kernel_rfl) 2 w_.length (by kernel_rfl) (by kernel_rfl) (.inr ⟨_, _, rfl, by omega⟩) (.inl ⟨rfl, rfl⟩) (by omega) (by omega) <| .d fun cy aF => ?_
   replace ⟨E, O, C⟩ := (se [] aF).g3 E O C
   refine RG.cat (t := 9) (s := ((w_.take 1).drop 0)) (u := ((w_.take w_.length).drop 2)) (by kernel_rfl) (by simp; omega) <| .r 1 <| .d <| .s <| .s <| .g <| .r 1 <| RG.eqv (v := vI ((((w_.take 1).drop 0) ++ ((w_.take w_.length).drop 2)).length : Int)) (by kernel_rfl) (s_len (((w_.take 1).drop 0) ++ ((w_.take w_.length).drop 2))) <| .ne ((((w_.take 1).drop 0) ++ ((w_.take w_.length).drop 2)).length : Int) 3 (fun bt => ?_) (fun bt => ?_)
   ·refine .r 5 <| .d <| .ct <| .s <| .g <| .ln O <| .sc [.string (bs []), .string (bs []), .bool true] E fun cz aG bu bv => ?_
    replace ⟨O, C⟩ := (s1 aG).g2 O C
    exact .r 1 <| .d <| .r2 Tryz.func215 Tryz.results215 (.bx bu) (.t (.bool false)) ⟨⟨_, (tup2 rfl (congrArg Value.bool (by rw [condR_no (notW_3 ‹_› ‹_› ‹_›) (.inl ‹_›)]))), (VS.of (y := (⟨(⟨[], []⟩ : Tag), true⟩ : Cnd)) ⟨_, rfl, rfl⟩ (by rw [condR_no (notW_3 ‹_› ‹_› ‹_›) (.inl ‹_›)]))⟩, C⟩
   refine .r 2 ?_
   obtain ⟨bw, aH⟩ : ∃ y, (((w_.take 1).drop 0) ++ ((w_.take w_.length).drop 2))[1]? = some y := ⟨_, List.getElem?_eq_getElem (by omega)⟩
   have bW := UInt8.toNat_lt bw; have bX := drop_at aH
   refine RG.sidx (t := 9) (s := (((w_.take 1).drop 0) ++ ((w_.take w_.length).drop 2))) (k := .i64) (i := 1) 1 (by kernel_rfl) (by kernel_rfl) (by omega) aH <| .ne (bw.toNat : Int) 61 (fun bz => ?_) (fun bz => ?_)
   ·refine .r 1 <| .d <| .ct <| .s <| .g <| .ln O <| .sc [.string (bs []), .string (bs []), .bool true] E fun cA aI bA bB => ?_
    replace ⟨O, C⟩ := (s1 aI).g2 O C
    exact .r 1 <| .d <| .r2 Tryz.func215 Tryz.results215 (.bx bA) (.t (.bool false)) ⟨⟨_, (tup2 rfl (congrArg Value.bool (by rw [condR_no (notW_3 ‹_› ‹_› ‹_›) (.inr ⟨_, by assumption, by assumption⟩)]))), (VS.of (y := (⟨(⟨[], []⟩ : Tag), true⟩ : Cnd)) ⟨_, rfl, rfl⟩ (by rw [condR_no (notW_3 ‹_› ‹_› ‹_›) (.inr ⟨_, by assumption, by assumption⟩)]))⟩, C⟩
   refine .r 1 <| .d <| .cf <| .sk <| .s <| .gd nil 4 fun cB aJ => ?_
   replace ⟨E, O, C⟩ := (se [] aJ).g3 E O C
   refine .r [0] <| GA.ssub (i := 1) (t := 9) (lo := none) (hi := some (vI 1)) (s := (((w_.take 1).drop 0) ++ ((w_.take w_.length).drop 2))) (by kernel_rfl) 0 1 (by kernel_rfl) (by kernel_rfl) (.inl ⟨rfl, rfl⟩) (.inr ⟨_, _, rfl, by omega⟩) (by omega) (by omega) <| .r [2] <| GA.ssub (i := 3) (t := 9) (lo := some (vI 2)) (hi := none) (s := (((w_.take 1).drop 0) ++ ((w_.take w_.length).drop 2))) (by kernel_rfl) 2 ((((w_.take 1).drop 0) ++ ((w_.take w_.length).drop 2)).length) (by kernel_rfl) (by kernel_rfl) (.inr ⟨_, _, rfl, by omega⟩) (.inl ⟨rfl, rfl⟩) (by omega) (by omega) <| .d fun cC aK => ?_
   replace ⟨E, O, C⟩ := (se [] aK).g3 E O C
   refine .r 2 <| .sb 0 (.agg #[.string (bs (((((w_.take 1).drop 0) ++ ((w_.take w_.length).drop 2)).take 1).drop 0)), .string (bs (((((w_.take 1).drop 0) ++ ((w_.take w_.length).drop 2)).take ((((w_.take 1).drop 0) ++ ((w_.take w_.length).drop 2)).length)).drop 2))]) [.string (bs (((((w_.take 1).drop 0) ++ ((w_.take w_.length).drop 2)).take 1).drop 0)), .string (bs (((((w_.take 1).drop 0) ++ ((w_.take w_.length).drop 2)).take ((((w_.take 1).drop 0) ++ ((w_.take w_.length).drop 2)).length)).drop 2)), .bool true] O fun cD aL ab bC => ?_
   replace ⟨E, C⟩ := (s1 aL).g2 E C
   refine .d <| .s <| .gd nil 4 fun cE aM => ?_
   replace ⟨E, ab, C⟩ := (se [] aM).g3 E ab C
   refine .ln 0 ab id <| .r [1] <| .ln 2 ab id <| GA.call1 (i := 3) (by kernel_rfl) (fun bM bY => c_spec_l3Tag (⟨(((((w_.take 1).drop 0) ++ ((w_.take w_.length).drop 2)).take 1).drop 0), (((((w_.take 1).drop 0) ++ ((w_.take w_.length).drop 2)).take ((((w_.take 1).drop 0) ++ ((w_.take w_.length).drop 2)).length)).drop 2)⟩ : Tag) (w := bM) (F := all)) <| .d fun cF aN => ?_
   replace ⟨E, C⟩ := (se [] aN).g2 E C
   refine .sc [.string (bs (((((w_.take 1).drop 0) ++ ((w_.take w_.length).drop 2)).take 1).drop 0)), .string (bs (((((w_.take 1).drop 0) ++ ((w_.take w_.length).drop 2)).take ((((w_.take 1).drop 0) ++ ((w_.take w_.length).drop 2)).length)).drop 2)), .bool true] E fun cG aO bD bE => ?_
   replace C := (s1 aO).g1 C
   exact .r 1 <| .d <| .r2 Tryz.func215 Tryz.results215 (.bx bD) (.t (.bool (tagOk (⟨(((((w_.take 1).drop 0) ++ ((w_.take w_.length).drop 2)).take 1).drop 0), (((((w_.take 1).drop 0) ++ ((w_.take w_.length).drop 2)).take ((((w_.take 1).drop 0) ++ ((w_.take w_.length).drop 2)).length)).drop 2)⟩ : Tag)))) ⟨⟨_, (tup2 rfl (congrArg Value.bool (by rw [condR_yes (notW_3 ‹_› ‹_› ‹_›) ‹_› ‹_› ‹_›]))), (VS.of (y := (⟨(⟨(((((w_.take 1).drop 0) ++ ((w_.take w_.length).drop 2)).take 1).drop 0), (((((w_.take 1).drop 0) ++ ((w_.take w_.length).drop 2)).take ((((w_.take 1).drop 0) ++ ((w_.take w_.length).drop 2)).length)).drop 2)⟩ : Tag), true⟩ : Cnd)) ⟨_, rfl, rfl⟩ (by rw [condR_yes (notW_3 ‹_› ‹_› ‹_›) ‹_› ‹_› ‹_›]))⟩, C⟩
  refine .r 1 <| .d <| .cf <| .sk <| .s <| .s <| .g <| .r 1 <| RG.eqv (v := vI (w_.length : Int)) (by kernel_rfl) (s_len w_) <| .ne (w_.length : Int) 3 (fun bF => ?_) (fun bF => ?_)
  ·refine .r 5 <| .d <| .ct <| .s <| .g <| .ln J <| .sc [.string (bs []), .string (bs []), .bool false] E fun cH aP bG bH => ?_
   replace ⟨J, C⟩ := (s1 aP).g2 J C
   exact .r 1 <| .d <| .r2 Tryz.func215 Tryz.results215 (.bx bG) (.t (.bool false)) ⟨⟨_, (tup2 rfl (congrArg Value.bool (by rw [condR_no (notW_2 ‹_› ‹_› ‹_›) (.inl ‹_›)]))), (VS.of (y := (⟨(⟨[], []⟩ : Tag), false⟩ : Cnd)) ⟨_, rfl, rfl⟩ (by rw [condR_no (notW_2 ‹_› ‹_› ‹_›) (.inl ‹_›)]))⟩, C⟩
  refine .r 2 <| RG.sidx (t := 9) (s := w_) (k := .i64) (i := 1) 1 (by kernel_rfl) (by kernel_rfl) (by omega) ae <| .ne (aR.toNat : Int) 61 (fun bI => ?_) (fun bI => ?_)
  ·refine .r 1 <| .d <| .ct <| .s <| .g <| .ln J <| .sc [.string (bs []), .string (bs []), .bool false] E fun bZ af aS aT => ?_
   replace ⟨J, C⟩ := (s1 af).g2 J C
   exact .r 1 <| .d <| .r2 Tryz.func215 Tryz.results215 (.bx aS) (.t (.bool false)) ⟨⟨_, (tup2 rfl (congrArg Value.bool (by rw [condR_no (notW_2 ‹_› ‹_› ‹_›) (.inr ⟨_, by assumption, by assumption⟩)]))), (VS.of (y := (⟨(⟨[], []⟩ : Tag), false⟩ : Cnd)) ⟨_, rfl, rfl⟩ (by rw [condR_no (notW_2 ‹_› ‹_› ‹_›) (.inr ⟨_, by assumption, by assumption⟩)]))⟩, C⟩
  refine .r 1 <| .d <| .cf <| .sk <| .s <| .gd nil 4 fun b0 ag => ?_
  replace ⟨E, J, C⟩ := (se [] ag).g3 E J C
  refine .r [0] <| GA.ssub (i := 1) (t := 9) (lo := none) (hi := some (vI 1)) (s := w_) (by kernel_rfl) 0 1 (by kernel_rfl) (by kernel_rfl) (.inl ⟨rfl, rfl⟩) (.inr ⟨_, _, rfl, by omega⟩) (by omega) (by omega) <| .r [2] <| GA.ssub (i := 3) (t := 9) (lo := some (vI 2)) (hi := none) (s := w_) (by kernel_rfl) 2 w_.length (by kernel_rfl) (by kernel_rfl) (.inr ⟨_, _, rfl, by omega⟩) (.inl ⟨rfl, rfl⟩) (by omega) (by omega) <| .d fun b6 ah => ?_
  replace ⟨E, J, C⟩ := (se [] ah).g3 E J C
  refine .r 2 <| .sb 0 (.agg #[.string (bs ((w_.take 1).drop 0)), .string (bs ((w_.take w_.length).drop 2))]) [.string (bs ((w_.take 1).drop 0)), .string (bs ((w_.take w_.length).drop 2)), .bool false] J fun b7 ai W aU => ?_
  replace ⟨E, C⟩ := (s1 ai).g2 E C
  refine .d <| .s <| .gd nil 4 fun b8 aj => ?_
  replace ⟨E, W, C⟩ := (se [] aj).g3 E W C
  refine .ln 0 W id <| .r [1] <| .ln 2 W id <| GA.call1 (i := 3) (by kernel_rfl) (fun bJ bN => c_spec_l3Tag (⟨((w_.take 1).drop 0), ((w_.take w_.length).drop 2)⟩ : Tag) (w := bJ) (F := all)) <| .d fun b9 ak => ?_
  replace ⟨E, C⟩ := (se [] ak).g2 E C
  refine .sc [.string (bs ((w_.take 1).drop 0)), .string (bs ((w_.take w_.length).drop 2)), .bool false] E fun cd al aV aW => ?_
  replace C := (s1 al).g1 C
  exact .r 1 <| .d <| .r2 Tryz.func215 Tryz.results215 (.bx aV) (.t (.bool (tagOk (⟨((w_.take 1).drop 0), ((w_.take w_.length).drop 2)⟩ : Tag)))) ⟨⟨_, (tup2 rfl (congrArg Value.bool (by rw [condR_yes (notW_2 ‹_› ‹_› ‹_›) ‹_› ‹_› ‹_›]))), (VS.of (y := (⟨(⟨((w_.take 1).drop 0), ((w_.take w_.length).drop 2)⟩ : Tag), false⟩ : Cnd)) ⟨_, rfl, rfl⟩ (by rw [condR_yes (notW_2 ‹_› ‹_› ‹_›) ‹_› ‹_› ‹_›]))⟩, C⟩
 refine .r 5 <| .d <| .cf <| .sk <| .s <| .s <| .g <| .r 1 <| RG.eqv (v := vI (w_.length : Int)) (by kernel_rfl) (s_len w_) <| .ne (w_.length : Int) 3 (fun aX => ?_) (fun aX => ?_)
 ·refine .r 5 <| .d <| .ct <| .s <| .g <| .ln J <| .sc [.string (bs []), .string (bs []), .bool false] E fun ce am aY aZ => ?_
  replace ⟨J, C⟩ := (s1 am).g2 J C
  exact .r 1 <| .d <| .r2 Tryz.func215 Tryz.results215 (.bx aY) (.t (.bool false)) ⟨⟨_, (tup2 rfl (congrArg Value.bool (by rw [condR_no (notW_1 ‹_›) (.inl ‹_›)]))), (VS.of (y := (⟨(⟨[], []⟩ : Tag), false⟩ : Cnd)) ⟨_, rfl, rfl⟩ (by rw [condR_no (notW_1 ‹_›) (.inl ‹_›)]))⟩, C⟩
 refine .r 2 ?_
 obtain ⟨aQ, ao⟩ : ∃ y, w_[1]? = some y := ⟨_, List.getElem?_eq_getElem (by omega)⟩
 have bO := UInt8.toNat_lt aQ; have bP := drop_at ao
 refine RG.sidx (t := 9) (s := w_) (k := .i64) (i := 1) 1 (by kernel_rfl) (by kernel_rfl) (by omega) ao <| .ne (aQ.toNat : Int) 61 (fun ba => ?_) (fun ba => ?_)
 ·refine .r 1 <| .d <| .ct <| .s <| .g <| .ln J <| .sc [.string (bs []), .string (bs []), .bool false] E fun cg aq bc bd => ?_
  replace ⟨J, C⟩ := (s1 aq).g2 J C
  exact .r 1 <| .d <| .r2 Tryz.func215 Tryz.results215 (.bx bc) (.t (.bool false)) ⟨⟨_, (tup2 rfl (congrArg Value.bool (by rw [condR_no (notW_1 ‹_›) (.inr ⟨_, by assumption, by assumption⟩)]))), (VS.of (y := (⟨(⟨[], []⟩ : Tag), false⟩ : Cnd)) ⟨_, rfl, rfl⟩ (by rw [condR_no (notW_1 ‹_›) (.inr ⟨_, by assumption, by assumption⟩)]))⟩, C⟩
 refine .r 1 <| .d <| .cf <| .sk <| .s <| .gd nil 4 fun ci ar => ?_
 replace ⟨E, J, C⟩ := (se [] ar).g3 E J C
 refine .r [0] <| GA.ssub (i := 1) (t := 9) (lo := none) (hi := some (vI 1)) (s := w_) (by kernel_rfl) 0 1 (by kernel_rfl) (by kernel_rfl) (.inl ⟨rfl, rfl⟩) (.inr ⟨_, _, rfl, by omega⟩) (by omega) (by omega) <| .r [2] <| GA.ssub (i := 3) (t := 9) (lo := some (vI 2)) (hi := none) (s := w_) (by kernel_rfl) 2 w_.length (by kernel_rfl) (by kernel_rfl) (.inr ⟨_, _, rfl, by omega⟩) (.inl ⟨rfl, rfl⟩) (by omega) (by omega) <| .d fun cj au => ?_
 replace ⟨E, J, C⟩ := (se [] au).g3 E J C
 refine .r 2 <| .sb 0 (.agg #[.string (bs ((w_.take 1).drop 0)), .string (bs ((w_.take w_.length).drop 2))]) [.string (bs ((w_.take 1).drop 0)), .string (bs ((w_.take w_.length).drop 2)), .bool false] J fun ck av aa bg => ?_
 replace ⟨E, C⟩ := (s1 av).g2 E C
 refine .d <| .s <| .gd nil 4 fun cm aw => ?_
 replace ⟨E, aa, C⟩ := (se [] aw).g3 E aa C
 refine .ln 0 aa id <| .r [1] <| .ln 2 aa id <| GA.call1 (i := 3) (by kernel_rfl) (fun bK bQ => c_spec_l3Tag (⟨((w_.take 1).drop 0), ((w_.take w_.length).drop 2)⟩ : Tag) (w := bK) (F := all)) <| .d fun co ax => ?_
 replace ⟨E, C⟩ := (se [] ax).g2 E C
 refine .sc [.string (bs ((w_.take 1).drop 0)), .string (bs ((w_.take w_.length).drop 2)), .bool false] E fun cp ay bh bi => ?_
 replace C := (s1 ay).g1 C
 exact .r 1 <| .d <| .r2 Tryz.func215 Tryz.results215 (.bx bh) (.t (.bool (tagOk (⟨((w_.take 1).drop 0), ((w_.take w_.length).drop 2)⟩ : Tag)))) ⟨⟨_, (tup2 rfl (congrArg Value.bool (by rw [condR_yes (notW_1 ‹_›) ‹_› ‹_› ‹_›]))), (VS.of (y := (⟨(⟨((w_.take 1).drop 0), ((w_.take w_.length).drop 2)⟩ : Tag), false⟩ : Cnd)) ⟨_, rfl, rfl⟩ (by rw [condR_yes (notW_1 ‹_›) ‹_› ‹_› ‹_›]))⟩, C⟩
theorem c_spec_FilterRead (text_ : Str) {w : World} {F : Nat → Prop}  (p0 : text_.length ≤ 1000) : Calls Tryz.prog 205 [.string (bs text_)].toArray w (rets fun rv w' => (∃ v0, rv = .tuple #[v0, .bool ((filtR text_).2)] ∧ VL (ge w.heap.size) w' ((filtR text_).1 : List Cnd) v0) ∧ Ext w w') := by
 refine goT Tryz.func205 <| .s <| .g <| .r 2 <| .d <| .s <| .g <| .ns 0 198 [] fun aa aT ar aG bj bk => ?_
 have aH := gb_new ar (Nat.le_refl _)
 have bm : Cov nil w aa := cov_new ar (Nat.le_refl _)
 have C := aG
 have af : Own (α := Cnd) aT aa 198 (nin (ge w.heap.size) [aa]) 0 0 [] := Own.nil' bj
 refine .r 1 <| .d <| .s <| .s <| .g <| .r 1 <| RG.eqv (v := .bool ((text_ == [42]))) (by kernel_rfl) (s_eq text_ [42]) ?_
 cases bX : (text_ == [42])
 ·refine .d <| .cf <| .sk <| .s <| .g <| .r 1 <| .cl (c_spec_l3Cut text_ (44 : UInt8) (by omega) (w := aT) (F := all)) ?_
  rintro cr aE ⟨⟨bN, bO, rfl, al⟩, aI⟩
  have aJ := al1 af.lt
  have bn : Gb w.heap.size aT.heap.size := C.size
  replace ⟨af, C⟩ := (se [aa] aI).g2 af C
  have al := al.fr aJ bn
  have bY := al.max
  refine .r 1 <| .d <| .s <| .s <| .g <| .r 1 <| .d <| .b 0 <| T.loop (X := (List Cnd) × Nat × Nat × Nat × Nat) (([] : List Cnd), aa, 0, 0, 0) (fun (out, r_out, n_out, c_out, i) => [(4, vS r_out n_out c_out), (5, .slice bN ((cutT text_ (44 : UInt8)).length) bO), (6, vI (i : Int))]) (fun (out, r_out, n_out, c_out, i) au => Chg (ins [aa]) aE au ∧ Own au r_out 198 (nin (ge w.heap.size) [r_out]) n_out c_out out ∧ OrB r_out aa aE.heap.size ∧ (i ≤ (cutT text_ 44).length) ∧ (out.length ≤ i) ∧ (filtF out ((cutT text_ 44).drop i) = filtR text_)) (fun (out, r_out, n_out, c_out, i) => (cutT text_ 44).length - i) (by kernel_rfl) ⟨by kernel_rfl, by kernel_rfl, by kernel_rfl, trivial⟩ ⟨Chg.refl _ _, af, orb_refl, (by (simp; done)), (by (simp; done)), (by exact filtR_rest ‹_›)⟩ ?_
  rintro ⟨out, r_out, n_out, c_out, i⟩ cu au ⟨J, E, ag, bZ, b0, b6⟩ av
  have bo := gb_or' ag aH C.size
  have b7 := cov_or' ag bm C.size
  have bq : Cov (ins [aa]) aE aa := ⟨.inl (.head _)⟩
  have b8 := cov_or' ag bq (Nat.le_refl _)
  have aK : Mv [aa] [r_out] aE au := Mv.inl J (all_cons (.head _) all_nil) (all_cons (orb_mem ag (.head _)) all_nil)
  replace ⟨al, C⟩ := (sp aK J).g2 al C
  have b9 := E.len; have cd := E.max
  refine .s <| .s <| .g <| .r 3 <| .bp ((i : Int) < (((cutT text_ (44 : UInt8)).length) : Int)) (fun br => ?_) (fun br => ?_)
  ·refine .d <| .ct <| .sk <| .s <| .b 1 <| .s <| .g <| .r 2 ?_
   have bt : i < (cutT text_ (44 : UInt8)).length := (by omega)
   refine .ix i 1 al bt ?_
   obtain ⟨O, aw⟩ : ∃ y, (cutT text_ (44 : UInt8))[i]? = some y := ⟨_, List.getElem?_eq_getElem (by omega)⟩
   have ce := drop_at aw; have bM := List.mem_of_getElem? aw
   obtain ⟨_, rfl, bu⟩ := al.elem i O aw
   refine .lh 0 bu <| .cl (c_spec_l3Cond O.s (by have q1 := (cutT_len text_ 44).1 _ ‹_›; omega) (w := au) (F := all)) ?_
   rintro cw cx ⟨⟨cy, rfl, ⟨_, rfl, rfl⟩⟩, aL⟩
   replace ⟨E, C, J⟩ := (se [r_out] aL).g3 E C J
   refine .r 2 ?_
   cases cg : (condR O.s).2
   ·refine .r 1 <| .np 198 [.string (bs []), .string (bs []), .bool false] fun aF cz ah aM bv bw => ?_
    have ci := nb_new ah E.lt
    have cj := C.cn ah
    have ck := J.cn ah
    replace ⟨E, C, J⟩ := (sn [r_out] aM ah).g3 E C J
    refine .sc [.string (bs ((((condR O.s).1).tag).key)), .string (bs ((((condR O.s).1).tag).val)), .bool (((condR O.s).1).no)] bv fun cA aN bz bA => ?_
    replace ⟨E, C, J⟩ := (so [aF, r_out] aN).g3 E C J
    refine .r 1 <| .d <| .s <| .s <| .g <| .r 7 <| .d <| .ct <| .s <| .g <| .ns 0 198 [] fun ax bB ai aO bC bD => ?_
    have cm := nb_new ai E.lt
    have co := nb_new ai bz.lt
    have bE := gb_new ai C.size
    replace ⟨E, C, J⟩ := (sn [aF, r_out] aO ai).g3 E C J
    have bF : Own (α := Cnd) bB ax 198 (nin (ge w.heap.size) [ax, aF, r_out]) 0 0 [] := Own.nil' bC
    refine .r 2 <| .d ?_
    have bP := bF.sl bE
    replace E := (sd bB [ax, aF, r_out] ax).g1 E
    exact .r2 Tryz.func205 Tryz.results205 (.t (vS ax 0 0)) (.t (.bool false)) ⟨⟨_, (tup2 rfl (congrArg Value.bool (by rw [filt_no (Y := filtR text_) ‹_› ‹_› (.inl ‹_›)]))), (bP.vl (by rw [filt_no (Y := filtR text_) ‹_› ‹_› (.inl ‹_›)]) (fun _ _ h => h.1))⟩, C⟩
   refine .r 1 <| .np 198 [.string (bs []), .string (bs []), .bool false] fun am cB aj aP bG bH => ?_
   have bQ := nb_new aj E.lt
   have bR := C.cn aj
   have bS := J.cn aj
   replace ⟨E, C, J⟩ := (sn [r_out] aP aj).g3 E C J
   refine .sc [.string (bs ((((condR O.s).1).tag).key)), .string (bs ((((condR O.s).1).tag).val)), .bool (((condR O.s).1).no)] bG fun cp ay ab aU => ?_
   replace ⟨E, C, J⟩ := (so [am, r_out] ay).g3 E C J
   refine .r 1 <| .d <| .s <| .s <| .g <| .r 5 <| .bp ((n_out : Int) ≥ 3) (fun aV => ?_) (fun aV => ?_)
   ·refine .r 1 <| .d <| .ct <| .s <| .g <| .ns 0 198 [] fun ak aQ ac az aW aX => ?_
    have bT := nb_new ac E.lt
    have bU := nb_new ac ab.lt
    have aY := gb_new ac C.size
    replace ⟨E, ab, C, J⟩ := (sn [am, r_out] az ac).g4 E ab C J
    have aZ : Own (α := Cnd) aQ ak 198 (nin (ge w.heap.size) [ak, am, r_out]) 0 0 [] := Own.nil' aW
    refine .r 2 <| .d ?_
    have bI := aZ.sl aY
    replace E := (sd aQ [ak, am, r_out] ak).g1 E
    exact .r2 Tryz.func205 Tryz.results205 (.t (vS ak 0 0)) (.t (.bool false)) ⟨⟨_, (tup2 rfl (congrArg Value.bool (by rw [filt_no (Y := filtR text_) ‹_› ‹_› (.inr (by omega))]))), (bI.vl (by rw [filt_no (Y := filtR text_) ‹_› ‹_› (.inr (by omega))]) (fun _ _ h => h.1))⟩, C⟩
   refine .r 1 <| .d <| .cf <| .sk <| .g <| .r 1 <| .ln ab <| .ns 1 198 [.string (bs ((((condR O.s).1).tag).key)), .string (bs ((((condR O.s).1).tag).val)), .bool (((condR O.s).1).no)] fun aR cq ae aA ba bc => ?_
   have aB := nb_new ae E.lt
   have bd := nb_new ae ab.lt
   have bg := gb_new ae C.size
   replace ⟨E, C, J⟩ := (se [am, r_out] aA).g3 E C J
   have aq : nin (ge w.heap.size) [am, r_out] aR ∧ aR ≠ r_out := hap_mk bg (all_cons bd (all_cons aB all_nil)) aB
   refine RG.append1 (T := 152) (ty := 152) (y := (⟨(⟨(((condR O.s).1).tag).key, (((condR O.s).1).tag).val⟩ : Tag), ((condR O.s).1).no⟩ : Cnd)) E ba (by kernel_rfl) (by kernel_rfl) rfl aq (by have q1 := (cutT_len text_ 44).2; omega) fun aC bJ aS W ao aD => ?_
   have bh := orb_or ao ag J.size
   replace ⟨C, J⟩ := (s1 aD).g2 C J
   replace W := W.rn r_out
   have bV := W.len; have bW := W.max
   refine .r 1 <| .d <| .ib 1 <| .g <| .r 1 <| .it ((i : Int) + 1) <| .r 1 <| .d ?_
   have bi : Mv [am, aC] [aC] aS aS := Mv.less (all_cons (.tail _ (.head _)) all_nil)
   replace W := (sp bi (Chg.refl nil _)).g1 W
   exact av ((out ++ [(⟨(⟨(((condR O.s).1).tag).key, (((condR O.s).1).tag).val⟩ : Tag), ((condR O.s).1).no⟩ : Cnd)]), aC, n_out + 1, bJ, i + 1) _ _ ⟨by kernel_rfl, by kernel_rfl, by kernel_rfl, trivial⟩ ⟨J, W, bh, (by omega), (by simp; omega), (by exact filtStep ‹_› ‹_› ‹_› (by omega))⟩ (by (simp only []; omega))
  refine .d <| .cf <| .x 0 rfl <| .s <| .g <| .r 3 <| .d ?_
  have bK := E.sl bo
  exact .r2 Tryz.func205 Tryz.results205 (.t (vS r_out n_out c_out)) (.t (.bool true)) ⟨⟨_, (tup2 rfl (congrArg Value.bool (by rw [filtEnd (Y := filtR text_) ‹_› (by omega)]))), (bK.vl (by rw [filtEnd (Y := filtR text_) ‹_› (by omega)]) (fun _ _ h => h.1))⟩, C⟩
 refine .d <| .ct <| .s <| .g <| .r 3 <| .d ?_
 have bL := af.sl aH
 exact .r2 Tryz.func205 Tryz.results205 (.t (vS aa 0 0)) (.t (.bool true)) ⟨⟨_, (tup2 rfl (congrArg Value.bool (by rw [filtR_star ‹_›]))), (bL.vl (by rw [filtR_star ‹_›]) (fun _ _ h => h.1))⟩, C⟩
theorem c_spec_NameRead (text_ : Str) {w : World} {F : Nat → Prop}  (p0 : text_.length ≤ 1000) : Calls Tryz.prog 187 [.string (bs text_)].toArray w (rets fun rv w' => (∃ (y : Bool), (∃ v0, rv = .tuple #[v0, .bool (y)] ∧ VL (ge w.heap.size) w' (nameR text_ : List Tag) v0) ∧ (True)) ∧ Ext w w') := by
 refine goT Tryz.func187 <| .s <| .g <| .r 2 <| .d <| .s <| .g <| .r 1 <| .cl (c_spec_FilterRead text_ (by omega) (w := w) (F := all)) ?_
 rintro dm dp ⟨⟨dq, rfl, ⟨bR, bS, rfl, J⟩⟩, aW⟩
 have aX : ∀ q_ ∈ ([] : List Nat), q_ < w.heap.size := all_nil
 have bT : Gb w.heap.size w.heap.size := (Nat.le_refl _)
 have C := aW
 have J := J.fr aX bT
 have cR := J.max
 refine .r 2 ?_
 cases cS : (filtR text_).2
 ·refine .r 3 <| .d <| .s <| .g <| .ns 0 120 [] fun ak aD aE aY bU bV => ?_
  have bW := C.cn aE
  replace ⟨J, C⟩ := (sn [] aY aE).g2 J C
  have bX : Own (α := Tag) aD ak 120 (nin (ge w.heap.size) [ak]) 0 0 [] := Own.nil' bU
  refine .r 1 <| .d <| .s <| .s <| .g <| .r 1 <| .d <| .b 0 <| T.loop (X := (List Tag) × Nat × Nat × Nat × Nat) (([] : List Tag), ak, 0, 0, 0) (fun (out, r_out, n_out, c_out, i) => [(4, .slice bR (((filtR text_).1).length) bS), (5, .bool false), (6, vS r_out n_out c_out), (7, vI (i : Int))]) (fun (out, r_out, n_out, c_out, i) aV => Chg (ins [ak]) aD aV ∧ Own aV r_out 120 (nin (ge w.heap.size) [r_out]) n_out c_out out ∧ OrB r_out ak aD.heap.size ∧ (i ≤ (filtR text_).1.length) ∧ (out.length ≤ i) ∧ (nameL out ((filtR text_).1.drop i) = nameL [] (filtR text_).1)) (fun (out, r_out, n_out, c_out, i) => (filtR text_).1.length - i) (by kernel_rfl) ⟨by kernel_rfl, by kernel_rfl, by kernel_rfl, by kernel_rfl, trivial⟩ ⟨Chg.refl _ _, bX, orb_refl, (by simp), (by simp), (by simp)⟩ ?_
  rintro ⟨out, r_out, n_out, c_out, i⟩ dr aV ⟨aa, O, ax, cT, cU, cV⟩ aF
  have cW := cov_or' ax bW C.size
  have bY : Cov (ins [ak]) aD ak := ⟨.inl (.head _)⟩
  have cX := cov_or' ax bY (Nat.le_refl _)
  have aZ : Mv [ak] [r_out] aD aV := Mv.inl aa (all_cons (.head _) all_nil) (all_cons (orb_mem ax (.head _)) all_nil)
  replace ⟨J, C⟩ := (sp aZ aa).g2 J C
  have cY := O.len; have cZ := O.max
  refine .s <| .s <| .g <| .r 3 <| .bp ((i : Int) < ((((filtR text_).1).length) : Int)) (fun bZ => ?_) (fun bZ => ?_)
  ·refine .d <| .ct <| .sk <| .s <| .b 1 <| .s <| .s <| .g <| .r 2 ?_
   have b0 : i < ((filtR text_).1).length := (by omega)
   refine .ix i 3 J b0 <| .r 1 ?_
   obtain ⟨aA, aG⟩ : ∃ y, ((filtR text_).1)[i]? = some y := ⟨_, List.getElem?_eq_getElem (by omega)⟩
   have c7 := drop_at aG; have cx := List.mem_of_getElem? aG
   obtain ⟨_, rfl, ba⟩ := J.elem i aA aG
   refine .lh 2 ba <| .d ?_
   cases c8 : aA.no
   ·refine .cf <| .sk <| .g <| .r 3 ?_
    have b6 : i < ((filtR text_).1).length := (by omega)
    refine .ix i 3 J b6 <| .r 1 <| .lg 0 ba <| .ns 1 120 [vT aA.tag.key, vT aA.tag.val] fun b7 dt aH bc b8 b9 => ?_
    have bd := nb_new aH O.lt
    have cd := gb_new aH C.size
    replace ⟨J, O, C, aa⟩ := (se [r_out] bc).g4 J O C aa
    have aI : nin (ge w.heap.size) [r_out] b7 ∧ b7 ≠ r_out := hap_mk cd (all_cons bd all_nil) bd
    refine RG.append1 (T := 77) (ty := 77) (y := aA.tag) O b8 (by kernel_rfl) (by kernel_rfl) rfl aI (by have q1 := filtR_len text_; omega) fun cz cA du al au bg => ?_
    have ce := orb_or au ax aa.size
    replace ⟨J, C, aa⟩ := (sa [r_out] bg au).g3 J C aa
    replace al := al.rn r_out
    have c9 := al.len; have da := al.max
    exact .r 1 <| .d <| .ib 1 <| .g <| .r 1 <| RG.int ((i : Int) + 1) (by kernel_rfl) (by have q1 := filtR_len text_; omega) <| .r 1 <| .d <| aF ((out ++ [aA.tag]), cz, n_out + 1, cA, i + 1) _ _ ⟨by kernel_rfl, by kernel_rfl, by kernel_rfl, by kernel_rfl, trivial⟩ ⟨aa, al, ce, (by omega), (by simp; omega), (by exact nameStep ‹_› ‹_› ‹_›)⟩ (by (simp only []; omega))
   refine .ct <| .s <| .g <| .ns 0 120 [] fun aJ cg ay bh ci cj => ?_
   have db := nb_new ay O.lt
   have ck := gb_new ay C.size
   replace ⟨J, O, C⟩ := (sn [r_out] bh ay).g3 J O C
   have cm : Own (α := Tag) cg aJ 120 (nin (ge w.heap.size) [aJ, r_out]) 0 0 [] := Own.nil' ci
   refine .r 2 <| .d ?_
   have cB := cm.sl ck
   replace ⟨J, O⟩ := (sd cg [aJ, r_out] aJ).g2 J O
   exact .r2 Tryz.func187 Tryz.results187 (.t (vS aJ 0 0)) (.t (.bool false)) ⟨⟨(false : Bool), ⟨_, (tup2 rfl (congrArg Value.bool (by rfl))), (cB.vl (by rw [nameR_no (nameL_no (Y := nameL [] (filtR text_).1) ‹_› ‹_› ‹_›)]) (fun _ _ h => h.1))⟩, (by trivial)⟩, C⟩
  refine .d <| .cf <| .x 0 rfl <| .s <| .s <| .g <| .r 7 <| .d <| .ct <| .s <| .g <| .ns 0 120 [] fun aK bi ag aL bn bo => ?_
  have cC := nb_new ag O.lt
  have bq := gb_new ag C.size
  replace ⟨J, C⟩ := (sn [r_out] aL ag).g2 J C
  have br : Own (α := Tag) bi aK 120 (nin (ge w.heap.size) [aK, r_out]) 0 0 [] := Own.nil' bn
  refine .r 2 <| .d ?_
  have co := br.sl bq
  replace J := (sd bi [aK, r_out] aK).g1 J
  exact .r2 Tryz.func187 Tryz.results187 (.t (vS aK 0 0)) (.t (.bool false)) ⟨⟨(false : Bool), ⟨_, (tup2 rfl (congrArg Value.bool (by rfl))), (co.vl (by rw [nameR_e1 ‹_› (by omega) (.inl ‹_›)]) (fun _ _ h => h.1))⟩, (by trivial)⟩, C⟩
 refine .r 3 <| .d <| .s <| .g <| .ns 0 120 [] fun ab am ah aM bt bu => ?_
 have bv := gb_new ah C.size
 have bw := C.cn ah
 replace ⟨J, C⟩ := (sn [] aM ah).g2 J C
 have bz : Own (α := Tag) am ab 120 (nin (ge w.heap.size) [ab]) 0 0 [] := Own.nil' bt
 refine .r 1 <| .d <| .s <| .s <| .g <| .r 1 <| .d <| .b 0 <| T.loop (X := (List Tag) × Nat × Nat × Nat × Nat) (([] : List Tag), ab, 0, 0, 0) (fun (out, r_out, n_out, c_out, i) => [(4, .slice bR (((filtR text_).1).length) bS), (5, .bool true), (6, vS r_out n_out c_out), (7, vI (i : Int))]) (fun (out, r_out, n_out, c_out, i) ao => Chg (ins [ab]) am ao ∧ Own ao r_out 120 (nin (ge w.heap.size) [r_out]) n_out c_out out ∧ OrB r_out ab am.heap.size ∧ (i ≤ (filtR text_).1.length) ∧ (out.length ≤ i) ∧ (nameL out ((filtR text_).1.drop i) = nameL [] (filtR text_).1)) (fun (out, r_out, n_out, c_out, i) => (filtR text_).1.length - i) (by kernel_rfl) ⟨by kernel_rfl, by kernel_rfl, by kernel_rfl, by kernel_rfl, trivial⟩ ⟨Chg.refl _ _, bz, orb_refl, (by simp), (by simp), (by simp)⟩ ?_
 rintro ⟨out, r_out, n_out, c_out, i⟩ de ao ⟨W, E, ac, cD, cE, cF⟩ aB
 have bA := gb_or' ac bv C.size
 have cG := cov_or' ac bw C.size
 have bB : Cov (ins [ab]) am ab := ⟨.inl (.head _)⟩
 have cH := cov_or' ac bB (Nat.le_refl _)
 have aN : Mv [ab] [r_out] am ao := Mv.inl W (all_cons (.head _) all_nil) (all_cons (orb_mem ac (.head _)) all_nil)
 replace ⟨J, C⟩ := (sp aN W).g2 J C
 have cI := E.len; have cJ := E.max
 refine .s <| .s <| .g <| .r 3 <| .bp ((i : Int) < ((((filtR text_).1).length) : Int)) (fun bC => ?_) (fun bC => ?_)
 ·refine .d <| .ct <| .sk <| .s <| .b 1 <| .s <| .s <| .g <| .r 2 ?_
  have bD : i < ((filtR text_).1).length := (by omega)
  refine .ix i 3 J bD <| .r 1 ?_
  obtain ⟨af, av⟩ : ∃ y, ((filtR text_).1)[i]? = some y := ⟨_, List.getElem?_eq_getElem (by omega)⟩
  have cK := drop_at av; have cp := List.mem_of_getElem? av
  obtain ⟨_, rfl, aO⟩ := J.elem i af av
  refine .lh 2 aO <| .d ?_
  cases cL : af.no
  ·refine .cf <| .sk <| .g <| .r 3 ?_
   have bE : i < ((filtR text_).1).length := (by omega)
   refine .ix i 3 J bE <| .r 1 <| .lg 0 aO <| .ns 1 120 [vT af.tag.key, vT af.tag.val] fun bj df aw aP bF bG => ?_
   have aQ := nb_new aw E.lt
   have bH := gb_new aw C.size
   replace ⟨E, C, W⟩ := (se [r_out] aP).g3 E C W
   have aC : nin (ge w.heap.size) [r_out] bj ∧ bj ≠ r_out := hap_mk bH (all_cons aQ all_nil) aQ
   refine RG.append1 (T := 77) (ty := 77) (y := af.tag) E bF (by kernel_rfl) (by kernel_rfl) rfl aC (by have q1 := filtR_len text_; omega) fun cq cr dg ae az aR => ?_
   have bI := orb_or az ac W.size
   replace ⟨C, W⟩ := (s1 aR).g2 C W
   replace ae := ae.rn r_out
   have cM := ae.len; have cN := ae.max
   exact .r 1 <| .d <| .ib 1 <| .g <| .r 1 <| RG.int ((i : Int) + 1) (by kernel_rfl) (by have q1 := filtR_len text_; omega) <| .r 1 <| .d <| aB ((out ++ [af.tag]), cq, n_out + 1, cr, i + 1) _ _ ⟨by kernel_rfl, by kernel_rfl, by kernel_rfl, by kernel_rfl, trivial⟩ ⟨W, ae, bI, (by omega), (by simp; omega), (by exact nameStep ‹_› ‹_› ‹_›)⟩ (by (simp only []; omega))
  refine .ct <| .s <| .g <| .ns 0 120 [] fun aq bk ai aS bJ bK => ?_
  have cO := nb_new ai E.lt
  have bL := gb_new ai C.size
  replace ⟨E, C⟩ := (sn [r_out] aS ai).g2 E C
  have bM : Own (α := Tag) bk aq 120 (nin (ge w.heap.size) [aq, r_out]) 0 0 [] := Own.nil' bJ
  refine .r 2 <| .d ?_
  have cu := bM.sl bL
  replace E := (sd bk [aq, r_out] aq).g1 E
  exact .r2 Tryz.func187 Tryz.results187 (.t (vS aq 0 0)) (.t (.bool false)) ⟨⟨(false : Bool), ⟨_, (tup2 rfl (congrArg Value.bool (by rfl))), (cu.vl (by rw [nameR_no (nameL_no (Y := nameL [] (filtR text_).1) ‹_› ‹_› ‹_›)]) (fun _ _ h => h.1))⟩, (by trivial)⟩, C⟩
 refine .d <| .cf <| .x 0 rfl <| .s <| .s <| .g <| .r 4 <| .cl (c_spec_NameOk out (E.rep) (w := ao) (F := all)) ?_
 rintro dh dj ⟨rfl, aT⟩
 replace ⟨E, C⟩ := (se [r_out] aT).g2 E C
 cases cP : (nameOk out)
 ·refine .r 2 <| .d <| .ct <| .s <| .g <| .ns 0 120 [] fun ar bm aj aU bN bO => ?_
  have cQ := nb_new aj E.lt
  have bP := gb_new aj C.size
  replace ⟨E, C⟩ := (sn [r_out] aU aj).g2 E C
  have bQ : Own (α := Tag) bm ar 120 (nin (ge w.heap.size) [ar, r_out]) 0 0 [] := Own.nil' bN
  refine .r 2 <| .d ?_
  have cv := bQ.sl bP
  replace E := (sd bm [ar, r_out] ar).g1 E
  exact .r2 Tryz.func187 Tryz.results187 (.t (vS ar 0 0)) (.t (.bool false)) ⟨⟨(false : Bool), ⟨_, (tup2 rfl (congrArg Value.bool (by rfl))), (cv.vl (by rw [nameR_e1 ‹_› (by omega) (.inr ‹_›)]) (fun _ _ h => h.1))⟩, (by trivial)⟩, C⟩
 refine .r 2 <| .d <| .cf <| .sk <| .s <| .g <| .r 3 <| .d ?_
 have cw := E.sl bA
 exact .r2 Tryz.func187 Tryz.results187 (.t (vS r_out n_out c_out)) (.t (.bool true)) ⟨⟨(true : Bool), ⟨_, (tup2 rfl (congrArg Value.bool (by rfl))), (cw.vl (by rw [nameR_e2 ‹_› (by omega) ‹_› ‹_›]) (fun _ _ h => h.1))⟩, (by trivial)⟩, C⟩
end Go.Proofs.YtganlmloonielaaGreat
namespace Go.Proofs.YtganlmloonielaaGreat
theorem NmD.sz {n : List Tag} (h : NmD n) : NmSz n := ⟨by have := h.1; omega, fun t ht => by
 obtain ⟨h1, h2⟩ := h.2 t ht
 simp only [List.mem_cons, List.not_mem_nil, or_false] at h1 h2
 constructor
 ·rcases h1 with h1 | h1 | h1 <;> rw [h1] <;> simp
 ·rcases h2 with h2 | h2 | h2 | h2 | h2 | h2 <;> rw [h2] <;> simp⟩
theorem NmD.nil : NmD [] := ⟨by simp, by simp⟩
theorem known_D {y : Str} (h : (⟨y⟩ : Txt) ∈ ([(⟨[97, 61, 112]⟩ : Txt), (⟨[97, 61, 113, 44, 98, 61, 112]⟩ : Txt), (⟨[98, 61, 122, 44, 99, 61, 113]⟩ : Txt)] : List Txt)) : NmD (nameR y) ∧ y.length ≤ 1000 := by
 simp only [List.mem_cons, List.not_mem_nil, or_false, Txt.mk.injEq] at h
 rcases h with rfl | rfl | rfl
 ·have : nameR [97, 61, 112] = [⟨[97], [112]⟩] := by decide +kernel
  rw [this]
  exact ⟨⟨by simp, by simp [TagD]⟩, by simp⟩
 ·have : nameR [97, 61, 113, 44, 98, 61, 112] = [⟨[97], [113]⟩, ⟨[98], [112]⟩] := by decide +kernel
  rw [this]
  exact ⟨⟨by simp, by simp [TagD]⟩, by simp⟩
 ·have : nameR [98, 61, 122, 44, 99, 61, 113] = [⟨[98], [122]⟩, ⟨[99], [113]⟩] := by decide +kernel
  rw [this]
  exact ⟨⟨by simp, by simp [TagD]⟩, by simp⟩
def NsD (ns : List (List Tag)) : Prop := ∀ n ∈ ns, NmD n
structure WD (w : Wld) : Prop where
 wi : WI w
 sn : NsD w.store.idx.names
 dn : NsD w.disk.names
theorem NsD.nil : NsD [] := by intro n hn; cases hn
theorem WD.new : WD ⟨⟨⟨[], []⟩, [], []⟩, ⟨[], [], [], 1⟩⟩ := ⟨WI.new, NsD.nil, NsD.nil⟩
theorem toD_names (Q : List (List Tag) → Prop) : ∀ (st : List Stp) (d : Dsk), Q d.names → (∀ x ∈ st, x.kind = 2 → Q x.names) → Q (st.foldl doD d).names := by
 intro st
 induction st with
 | nil => intro d h _; exact h
 | cons x xs ih =>
   intro d h hs
   refine ih (doD d x) ?_ (fun y hy => hs y (by simp [hy]))
   unfold doD
   split
   ·exact h
   ·split
    ·exact hs x (by simp) ‹_›
    ·split
     ·exact h
     ·exact h
theorem WD.steps {w : Wld} (h : WD w) {st : List Stp} (hs : ∀ x ∈ st, x.kind = 2 → NsD x.names) (cut : Int) {s : Sto} (h2 : NsD s.idx.names) : NsD (stepsW w st cut s).store.idx.names ∧ NsD (stepsW w st cut s).disk.names := by
 have h3 : NsD (toD w.disk st cut).names := toD_names NsD _ _ h.dn (fun x hx hk => hs x (List.mem_of_mem_take hx) hk)
 unfold stepsW
 split
 ·exact ⟨h.sn, h.dn⟩
 ·split
  ·exact ⟨h3, h3⟩
  ·exact ⟨h2, h3⟩
theorem addS_names {s : Sto} {n : List Tag} {r : Row} (h : NsD s.idx.names) (hn : NmD n) : NsD (addS s n r).1.idx.names := by
 have h1 : NsD (addR s.idx n).1.names := by
  unfold addR
  split
  ·exact h
  ·split
   ·exact h
   ·intro m hm
    rcases List.mem_append.1 hm with hm | hm
    ·exact h m hm
    ·simp at hm; rw [hm]; exact hn
 unfold addS
 split
 ·exact h
 ·split
  ·exact h
  ·exact h1
theorem flushR_idx (s : Sto) : (flushR s).1.idx = s.idx := by unfold flushR; split <;> rfl
theorem mergeR_idx (s : Sto) (a : Int) : (mergeR s a).1.idx = s.idx := by unfold mergeR; split <;> rfl
theorem flushSt_n {w : Wld} (h : WD w) : ∀ x ∈ flushSt w.disk w.store, x.kind = 2 → NsD x.names := by
 unfold flushSt
 split
 ·intro x hx; cases hx
 ·intro x hx _
  simp only [List.mem_cons, List.not_mem_nil, or_false] at hx
  rcases hx with rfl | rfl
  ·exact NsD.nil
  ·exact h.sn
theorem mergeSt_n {d : Dsk} (h : NsD d.names) (a : Int) : ∀ x ∈ mergeSt d a, x.kind = 2 → NsD x.names := by
 unfold mergeSt
 split
 ·intro x hx; cases hx
 ·intro x hx _
  simp only [List.mem_cons, List.not_mem_nil, or_false] at hx
  rcases hx with rfl | rfl | rfl | rfl
  ·exact NsD.nil
  ·exact h
  ·exact NsD.nil
  ·exact NsD.nil
theorem WD.do {w : Wld} (h : WD w) {e : Evt} (he : NmD e.name) : WD (doW w e) := by
 have key : NsD (doW w e).store.idx.names ∧ NsD (doW w e).disk.names := by
  unfold doW
  split
  ·split
   ·exact ⟨addS_names h.sn he, h.dn⟩
   ·exact ⟨h.sn, h.dn⟩
  ·split
   ·exact h.steps (flushSt_n h) _ (by rw [flushR_idx]; exact h.sn)
   ·split
    ·exact h.steps (mergeSt_n h.dn _) _ (by rw [mergeR_idx]; exact h.sn)
    ·split
     ·exact ⟨h.dn, h.dn⟩
     ·exact ⟨h.sn, h.dn⟩
 exact ⟨h.wi.do e, key.1, key.2⟩
theorem WD.copy {w : Wld} (h : WD w) : WD (copyW w) := ⟨h.wi.copy, h.sn, h.dn⟩
def EvD (e : Evt) : Prop := NmD e.name ∧ RowSm e.row
structure SD (s : Sto) : Prop where
 idx : s.idx = idxOf s.idx.names
 nm : NmI s.idx.names
 nd : NsD s.idx.names
 np : s.parts.length ≤ 6
 part : ∀ p ∈ s.parts, PrtI p
 nm2 : s.mem.length ≤ 21
 mem : ∀ m ∈ s.mem, 0 ≤ m.id ∧ m.id ≤ 7 ∧ RowSm m.row
theorem rowOk_sm {r : Row} (h : rowOk r = true) : RowSm r := by
 have h1 := rowOk_t h
 have h2 := rowOk_v h
 unfold RowSm
 omega
theorem WD.sd {w : Wld} (h : WD w) : SD w.store := ⟨h.wi.sto.idx, h.wi.sto.nm, h.sn, h.wi.sto.np, h.wi.sto.part, by have := h.wi.sto.nm2; omega, fun m hm => by
 have h1 := h.wi.sto.mem6 m hm
 exact ⟨by omega, by omega, rowOk_sm (h.wi.sto.mem m hm).2.2⟩⟩
theorem WD.spoil {w : Wld} (h : WD w) {y : Int} {r : Row} (hy : 0 ≤ y ∧ y ≤ 7) (hr : RowSm r) : SD ⟨⟨w.store.idx.names, w.store.idx.posts⟩, w.store.parts, w.store.mem ++ [⟨y, r⟩]⟩ := by
 have h1 := h.sd
 refine ⟨h1.idx, h1.nm, h1.nd, h1.np, h1.part, by have := h.wi.sto.nm2; simp; omega, fun m hm => ?_⟩
 rcases List.mem_append.1 hm with hm | hm
 ·exact h1.mem m hm
 ·simp at hm; subst hm; exact ⟨hy.1, hy.2, hr⟩
end Go.Proofs.YtganlmloonielaaGreat
