/- walks; squeezed -/
import Derived.Test.YtfnpaglcnmcnbaaGreatFluzMod6
set_option linter.unusedVariables false
set_option linter.unusedSimpArgs false
namespace Go.Proofs.YtfnpaglcnmcnbaaGreat
set_option maxRecDepth 100000
set_option maxHeartbeats 4000000
theorem c_spec_l11Add (ix : Idx) (n : List Tag) {w : World} {F : Nat → Prop} {a1 : Option Addr} {n1 c1 : Nat} (h1 : RepS w F a1 n1 c1 ix.names) {a2 : Option Addr} {n2 c2 : Nat} (h2 : RepS w F a2 n2 c2 ix.posts) {a3 : Option Addr} {n3 c3 : Nat} (h3 : RepS w F a3 n3 c3 n) (p0 : IdxSz ix) (p1 : NmSz n) : Calls Tryz.prog 105 [.agg #[.slice a1 n1 c1, .slice a2 n2 c2], .slice a3 n3 c3].toArray w (rets fun rv w' => (∃ v0, rv = .tuple #[v0, .int .i64 ((addR ix n).2.1), .bool ((addR ix n).2.2)] ∧ VS (fo F w.heap.size) w' ((addR ix n).1 : Idx) v0) ∧ Ext w w') := by
 refine goT Tryz.func105 ?_
 obtain ⟨rfl, cj, h1⟩ := h1.tp
 obtain ⟨rfl, ck, h2⟩ := h2.tp
 obtain ⟨rfl, cm, h3⟩ := h3.tp
 refine .s <| .g <| .np 26 [.slice a1 ix.names.length c1, .slice a2 ix.posts.length c2] fun aa cJ aS aB E bA => ?_
 replace ⟨h1, h2, h3⟩ := (sn [] aB aS).g3 h1 h2 h3
 have C := aB
 clear aB bA aS
 refine .np 26 [.slice none 0 0, .slice none 0 0] fun Z bV ay aT J bB => ?_
 have co := nb_new ay E.lt
 have cp := C.cn ay
 replace ⟨h1, h2, h3, E, C⟩ := (sn [aa] aT ay).g5 h1 h2 h3 E C
 clear aT bB ay
 refine .r 2 <| .d <| .s <| .g <| .ln E <| .r 1 <| .cl (c_spec_l11At ix n h1.ta h2.ta h3.ta p0.1 p0.2 p1 (w := bV) (F := all)) ?_
 rintro cK bW ⟨rfl, aU⟩
 replace ⟨h1, h2, h3, E, J, C⟩ := (se [Z, aa] aU).g6 h1 h2 h3 E J C
 clear aU
 refine .r 1 <| .d <| .s <| .s <| .g <| .r 1 <| .bp (nmAt ix n > 0) (fun bC => ?_) (fun bC => ?_)
 · refine .d <| .ct <| .s <| .g <| .ln E <| .r 1 <| .sc [.slice a1 ix.names.length c1, .slice a2 ix.posts.length c2] J fun cL aV bD bE => ?_
   replace ⟨h1, h2, h3, E, C⟩ := (so [Z, aa] aV).g5 h1 h2 h3 E C
   clear aV bE
   exact .r 2 <| .d <| T.ret3 (v := .agg #[.slice a1 ix.names.length c1, .slice a2 ix.posts.length c2]) (v' := vI (nmAt ix n)) (v'' := .bool true) (by kernel_rfl) Tryz.func105 Tryz.results105 (Res1.cell (ad := ⟨Z, 0, none⟩) (by kernel_rfl) ((bD.has 0 [.slice a1 ix.names.length c1, .slice a2 ix.posts.length c2] (by kernel_rfl)).loadN (by kernel_rfl))) (Res1.tmp (by kernel_rfl)) (Res1.tmp (by kernel_rfl)) ⟨⟨_, (tup3 rfl (congrArg (Value.int .i64) (by first | (rw [addR_hit (by assumption)]) | (rw [addR_no (by assumption) (.inl (by assumption))]) | (rw [addR_no (by assumption) (.inr (by assumption))]) | (rw [addR_new (by assumption) (by assumption) (by assumption)] <;> simp [idxOf]))) (congrArg Value.bool (by first | (rw [addR_hit (by assumption)]) | (rw [addR_no (by assumption) (.inl (by assumption))]) | (rw [addR_no (by assumption) (.inr (by assumption))]) | (rw [addR_new (by assumption) (by assumption) (by assumption)] <;> simp [idxOf])))), (VS.of (y := ix) ⟨_, rfl, ⟨_, _, _, _, _, _, rfl, h1.w1, h2.w1⟩⟩ (by first | (rw [addR_hit (by assumption)]) | (rw [addR_no (by assumption) (.inl (by assumption))]) | (rw [addR_no (by assumption) (.inr (by assumption))]) | (rw [addR_new (by assumption) (by assumption) (by assumption)] <;> simp [idxOf])))⟩, C⟩
 refine .d <| .cf <| .sk <| .s <| .s <| .g <| .r 1 <| .cl (c_spec_NameOk n h3.ta (w := bW) (F := all)) ?_
 rintro cM bF ⟨rfl, aW⟩
 replace ⟨h1, h2, h3, E, J, C⟩ := (se [Z, aa] aW).g6 h1 h2 h3 E J C
 clear aW
 cases cq : (nameOk n)
 · refine .r 7 <| .d <| .ct <| .s <| .g <| .ln E <| .sc [.slice a1 ix.names.length c1, .slice a2 ix.posts.length c2] J fun cN aX bG bH => ?_
   replace ⟨h1, h2, h3, E, C⟩ := (so [Z, aa] aX).g5 h1 h2 h3 E C
   clear aX bH
   exact .r 2 <| .d <| T.ret3 (v := .agg #[.slice a1 ix.names.length c1, .slice a2 ix.posts.length c2]) (v' := vI 0) (v'' := .bool false) (by kernel_rfl) Tryz.func105 Tryz.results105 (Res1.cell (ad := ⟨Z, 0, none⟩) (by kernel_rfl) ((bG.has 0 [.slice a1 ix.names.length c1, .slice a2 ix.posts.length c2] (by kernel_rfl)).loadN (by kernel_rfl))) (Res1.tmp (by kernel_rfl)) (Res1.tmp (by kernel_rfl)) ⟨⟨_, (tup3 rfl (congrArg (Value.int .i64) (by first | (rw [addR_hit (by assumption)]) | (rw [addR_no (by assumption) (.inl (by assumption))]) | (rw [addR_no (by assumption) (.inr (by assumption))]) | (rw [addR_new (by assumption) (by assumption) (by assumption)] <;> simp [idxOf]))) (congrArg Value.bool (by first | (rw [addR_hit (by assumption)]) | (rw [addR_no (by assumption) (.inl (by assumption))]) | (rw [addR_no (by assumption) (.inr (by assumption))]) | (rw [addR_new (by assumption) (by assumption) (by assumption)] <;> simp [idxOf])))), (VS.of (y := ix) ⟨_, rfl, ⟨_, _, _, _, _, _, rfl, h1.w1, h2.w1⟩⟩ (by first | (rw [addR_hit (by assumption)]) | (rw [addR_no (by assumption) (.inl (by assumption))]) | (rw [addR_no (by assumption) (.inr (by assumption))]) | (rw [addR_new (by assumption) (by assumption) (by assumption)] <;> simp [idxOf])))⟩, C⟩
 refine .r 3 <| .lb E <| .r 1 <| .bp ((ix.names.length : Int) ≥ 6) (fun bI => ?_) (fun bI => ?_)
 · refine .r 1 <| .d <| .ct <| .s <| .g <| .ln E <| .sc [.slice a1 ix.names.length c1, .slice a2 ix.posts.length c2] J fun cO aY bJ bK => ?_
   replace ⟨h1, h2, h3, E, C⟩ := (so [Z, aa] aY).g5 h1 h2 h3 E C
   clear aY bK
   exact .r 2 <| .d <| T.ret3 (v := .agg #[.slice a1 ix.names.length c1, .slice a2 ix.posts.length c2]) (v' := vI 0) (v'' := .bool false) (by kernel_rfl) Tryz.func105 Tryz.results105 (Res1.cell (ad := ⟨Z, 0, none⟩) (by kernel_rfl) ((bJ.has 0 [.slice a1 ix.names.length c1, .slice a2 ix.posts.length c2] (by kernel_rfl)).loadN (by kernel_rfl))) (Res1.tmp (by kernel_rfl)) (Res1.tmp (by kernel_rfl)) ⟨⟨_, (tup3 rfl (congrArg (Value.int .i64) (by first | (rw [addR_hit (by assumption)]) | (rw [addR_no (by assumption) (.inl (by assumption))]) | (rw [addR_no (by assumption) (.inr (by assumption))]) | (rw [addR_new (by assumption) (by assumption) (by assumption)] <;> simp [idxOf]))) (congrArg Value.bool (by first | (rw [addR_hit (by assumption)]) | (rw [addR_no (by assumption) (.inl (by assumption))]) | (rw [addR_no (by assumption) (.inr (by assumption))]) | (rw [addR_new (by assumption) (by assumption) (by assumption)] <;> simp [idxOf])))), (VS.of (y := ix) ⟨_, rfl, ⟨_, _, _, _, _, _, rfl, h1.w1, h2.w1⟩⟩ (by first | (rw [addR_hit (by assumption)]) | (rw [addR_no (by assumption) (.inl (by assumption))]) | (rw [addR_no (by assumption) (.inr (by assumption))]) | (rw [addR_new (by assumption) (by assumption) (by assumption)] <;> simp [idxOf])))⟩, C⟩
 refine .r 1 <| .d <| .cf <| .sk <| .s <| .g <| .r 1 <| .lb E <| .cl (c_spec_l11Names ix.names h1.ta (by have := p0.1; omega) (by intro n hn; have := (p0.2 n hn).1; omega) (w := bF) (F := all)) ?_
 rintro cP cQ ⟨⟨al, cR, cS, rfl, W, am⟩, aZ⟩
 have ba := al2 J.lt E.lt
 have bL : Gb w.heap.size bF.heap.size := C.size
 have cr := nb_ge am E.lt
 have cu := nb_ge am J.lt
 have cv : Cov nil w al := cov_ge am C.size
 replace ⟨h3, E, J, C⟩ := (sz [Z, aa] aZ am).g4 h3 E J C
 clear aZ am
 replace W := Own.take (s0 := w.heap.size) (M := [Z, aa]) W ba bL
 replace W := W.base (G' := fo F w.heap.size) (fun _ _ h => .inr h)
 have cw := W.len; have cx := W.max
 clear ba
 refine .ns 0 112 [] fun aP bX af bc bM bN => ?_
 have bO := nb_new af E.lt
 have bP := nb_new af J.lt
 have bQ := nb_new af W.lt
 have bR := gb_new af C.size
 have cy := C.cn af
 replace ⟨h3, E, J, W, C⟩ := (sn [al, Z, aa] bc af).g5 h3 E J W C
 clear bc bN af
 have bS : Own (α := Tag) bX aP 112 (nin (fo F w.heap.size) [aP, al, Z, aa]) 0 0 [] := Own.nil' bM
 refine .r 1 <| RG.appendF (T := 31) (ty := 31) flat_tag bS h3 (by kernel_rfl) (by kernel_rfl) (fun b h e => h.2 (e ▸ (.head _))) (by have := p0.1; have := p1.1; omega) fun aQ bY cT ag ae bd => ?_
 have bZ := nb_or ae bO E.lt
 have b0 := nb_or ae bP J.lt
 have b6 := nb_or ae bQ W.lt
 have bi := gb_or ae bR C.size
 replace ⟨E, J, W, C⟩ := (sa [aP, al, Z, aa] bd ae).g4 E J W C
 clear bd
 replace ag := ag.rn aP
 clear ae
 have b7 := ag.len; have b8 := ag.max
 refine .ns 1 31 [vS aQ (0 + n.length) bY] fun bg bT ah aC bj bk => ?_
 have bm := nb_new ah E.lt
 have bn := nb_new ah J.lt
 have aD := nb_new ah W.lt
 have bo := gb_new ah C.size
 replace ⟨E, J, W, ag, C⟩ := (se [aQ, al, Z, aa] aC).g5 E J W ag C
 clear aC bk ah
 have bU := ag.sl (.inr bi)
 replace W := (sd bT [aQ, al, Z, aa] aQ).g1 W
 have aA : nin (fo F w.heap.size) [al, Z, aa] bg ∧ bg ≠ al := hap_mk (.inr bo) (all_cons aD (all_cons bn (all_cons bm all_nil))) aD
 refine RG.append1 (T := 23) (ty := 23) (y := ([] ++ n)) W bj (by kernel_rfl) (by kernel_rfl) ⟨_, _, _, rfl, bU.oi⟩ aA (by have := p0.1; have := p1.1; omega) fun ac cz bh ab aR aE => ?_
 replace ⟨E, J, C⟩ := (s1 aE).g3 E J C
 clear aE
 replace ab := ab.rn al
 clear aR
 have b9 := ab.len; have cd := ab.max
 refine .cl (c_spec_l11Of (ix.names ++ [([] ++ n)]) (ab.rep) (by have := p0.1; simp; omega) (by intro m hm; simp at hm; rcases hm with hm | rfl; exact p0.2 m hm; exact p1) (w := bh) (F := all)) ?_
 rintro cA cB ⟨⟨_, rfl, ⟨ao, cC, aq, ar, cD, au, rfl, O, V⟩⟩, aF⟩
 have av := al3 ab.lt J.lt E.lt
 have aG : Gb w.heap.size bh.heap.size := C.size
 replace ⟨J, ab, C⟩ := (se [ac, Z, aa] aF).g3 J ab C
 clear aF
 have O := O.fr av aG
 replace O := O.base (G' := fo F w.heap.size) (fun _ _ h => .inr h)
 have ce := O.max
 have V := V.fr av aG
 replace V := V.base (G' := fo F w.heap.size) (fun _ _ h => .inr h)
 have cg := V.max
 clear av
 have bq := O.len
 subst bq
 have br := V.len
 subst br
 refine .np 26 [.slice none 0 0, .slice none 0 0] fun ak cE ai aH bt bu => ?_
 have aI := nb_new ai J.lt
 have aJ := nb_new ai ab.lt
 have ci := C.cn ai
 replace ⟨J, O, V, C⟩ := (sn [ac, Z, aa] aH ai).g4 J O V C
 clear aH bu ai
 refine .sc [.slice ao (((idxOf (ix.names ++ [([] ++ n)])).names).length) aq, .slice ar (((idxOf (ix.names ++ [([] ++ n)])).posts).length) au] bt fun az aK aj bv => ?_
 replace ⟨J, O, V, C⟩ := (so [ak, ac, Z, aa] aK).g4 J O V C
 clear aK bv
 refine .d <| .s ?_
 replace O := O.into
 replace V := V.into
 have bw : Cov (mtb [ac, Z] az.heap.size) az Z := ⟨.inl (.inl (.tail _ (.head _)))⟩
 have aL : Gb (ak + 1) az.heap.size := aj.lt
 refine .gd (mtb [ac, Z] az.heap.size) 5 fun cF aM => ?_
 replace ⟨J, O, V, aj, C⟩ := (se [ak, ac, Z, aa] aM).g5 J O V aj C
 clear aM
 refine .ln 0 aj (nS_of (all_cons aJ (all_cons aI all_nil)) aL) <| .r [1] <| .lb 2 aj (nS_of (all_cons aJ (all_cons aI all_nil)) aL) <| .r [3] <| .go 4 <| GE.storeB (t' := 26) (o := 0) (v := .agg #[.slice ao (((idxOf (ix.names ++ [([] ++ n)])).names).length) aq, .slice ar (((idxOf (ix.names ++ [([] ++ n)])).posts).length) au]) [.slice ao (((idxOf (ix.names ++ [([] ++ n)])).names).length) aq, .slice ar (((idxOf (ix.names ++ [([] ++ n)])).posts).length) au] J (by kernel_rfl) (by kernel_rfl) (by kernel_rfl) fun cG aN => ?_
 replace ⟨O, V, C⟩ := (se [ak, ac, Z, aa] aN).g3 O V C
 clear aN
 intro cH aw ax bz
 have hkeep_ := Chg.toS aw (Cov.toS bw)
 clear bz
 replace ⟨O, V, C⟩ := (so [ak, ac, Z, aa] aw).g3 O V C
 clear aw
 refine ⟨hkeep_, ?_⟩
 refine .d fun cI aO => ?_
 replace ⟨ax, O, V, C⟩ := (se [ak, ac, Z, aa] aO).g4 ax O V C
 clear aO
 replace O := O.outof
 replace V := V.outof
 exact .r 2 <| .d <| T.ret3 (v := .agg #[.slice ao (((idxOf (ix.names ++ [([] ++ n)])).names).length) aq, .slice ar (((idxOf (ix.names ++ [([] ++ n)])).posts).length) au]) (v' := vI ((((idxOf (ix.names ++ [([] ++ n)])).names).length) : Int)) (v'' := .bool true) (by kernel_rfl) Tryz.func105 Tryz.results105 (Res1.cell (ad := ⟨Z, 0, none⟩) (by kernel_rfl) ((ax.has 0 [.slice ao (((idxOf (ix.names ++ [([] ++ n)])).names).length) aq, .slice ar (((idxOf (ix.names ++ [([] ++ n)])).posts).length) au] (by kernel_rfl)).loadN (by kernel_rfl))) (Res1.tmp (by kernel_rfl)) (Res1.tmp (by kernel_rfl)) ⟨⟨_, (tup3 rfl (congrArg (Value.int .i64) (by first | (rw [addR_hit (by assumption)]) | (rw [addR_no (by assumption) (.inl (by assumption))]) | (rw [addR_no (by assumption) (.inr (by assumption))]) | (rw [addR_new (by assumption) (by assumption) (by assumption)] <;> simp [idxOf]))) (congrArg Value.bool (by first | (rw [addR_hit (by assumption)]) | (rw [addR_no (by assumption) (.inl (by assumption))]) | (rw [addR_no (by assumption) (.inr (by assumption))]) | (rw [addR_new (by assumption) (by assumption) (by assumption)] <;> simp [idxOf])))), (VS.of (y := (idxOf (ix.names ++ [([] ++ n)]))) ⟨_, rfl, ⟨_, _, _, _, _, _, rfl, O.w1, V.w1⟩⟩ (by first | (rw [addR_hit (by assumption)]) | (rw [addR_no (by assumption) (.inl (by assumption))]) | (rw [addR_no (by assumption) (.inr (by assumption))]) | (rw [addR_new (by assumption) (by assumption) (by assumption)] <;> simp [idxOf])))⟩, C⟩
theorem c_spec_l13Flush (s : Sto) {w : World} {F : Nat → Prop} {a1 : Option Addr} {n1 c1 : Nat} (h1 : RepS w F a1 n1 c1 s.idx.names) {a2 : Option Addr} {n2 c2 : Nat} (h2 : RepS w F a2 n2 c2 s.idx.posts) {a3 : Option Addr} {n3 c3 : Nat} (h3 : RepS w F a3 n3 c3 s.parts) {a4 : Option Addr} {n4 c4 : Nat} (h4 : RepS w F a4 n4 c4 s.mem) (p0 : s.mem.length ≤ 1000) (p1 : ∀ m ∈ s.mem, 1 ≤ m.id ∧ m.id ≤ 6) : Calls Tryz.prog 80 [.agg #[.slice a1 n1 c1, .slice a2 n2 c2, .slice a3 n3 c3, .slice a4 n4 c4]].toArray w (rets fun rv w' => (∃ v0, rv = .tuple #[v0, .bool ((flushR s).2)] ∧ VS (fo F w.heap.size) w' ((flushR s).1 : Sto) v0) ∧ Ext w w') := by
 refine goT Tryz.func80 ?_
 obtain ⟨rfl, cg, h1⟩ := h1.tp
 obtain ⟨rfl, ci, h2⟩ := h2.tp
 obtain ⟨rfl, cj, h3⟩ := h3.tp
 obtain ⟨rfl, ck, h4⟩ := h4.tp
 refine .s <| .g <| .np 30 [.slice a1 s.idx.names.length c1, .slice a2 s.idx.posts.length c2, .slice a3 s.parts.length c3, .slice a4 s.mem.length c4] fun V cA aw ax E bu => ?_
 have cm : Cov nil w V := cov_new aw (Nat.le_refl _)
 replace ⟨h1, h2, h3, h4⟩ := (sn [] ax aw).g4 h1 h2 h3 h4
 have C := ax
 clear ax bu aw
 refine .np 30 [.slice none 0 0, .slice none 0 0, .slice none 0 0, .slice none 0 0] fun W ar aq aM J bv => ?_
 have co := nb_new aq E.lt
 have cp := C.cn aq
 replace ⟨h1, h2, h3, h4, E, C⟩ := (sn [V] aM aq).g6 h1 h2 h3 h4 E C
 clear aM bv aq
 refine .r 1 <| .d <| .s <| .s <| .g <| .r 1 <| .lb E <| .r 1 <| .eq (s.mem.length : Int) 0 (fun bw => ?_) (fun bw => ?_)
 · refine .r 6 <| .d <| .ct <| .s <| .g <| .ln E <| .sc [.slice a1 s.idx.names.length c1, .slice a2 s.idx.posts.length c2, .slice a3 s.parts.length c3, .slice a4 s.mem.length c4] J fun cB aN bz bA => ?_
   replace ⟨h1, h2, h3, h4, E, C⟩ := (so [W, V] aN).g6 h1 h2 h3 h4 E C
   clear aN bA
   exact .r 1 <| .d <| .r2 Tryz.func80 Tryz.results80 (.bx bz) (.t (.bool false)) ⟨⟨_, (tup2 rfl (congrArg Value.bool (by (unfold flushR; first | (rw [if_pos (by omega)]) | (rw [if_neg (by omega)] <;> simp))))), (VS.of (y := s) ⟨_, rfl, ⟨_, _, _, _, _, _, _, _, _, _, _, _, rfl, h1.w1, h2.w1, h3.w1, h4.w1⟩⟩ (by (unfold flushR; first | (rw [if_pos (by omega)]) | (rw [if_neg (by omega)] <;> simp))))⟩, C⟩
 refine .r 2 <| .lb E <| .r 1 <| .bp ((s.parts.length : Int) ≥ 6) (fun bB => ?_) (fun bB => ?_)
 · refine .r 1 <| .d <| .ct <| .s <| .g <| .ln E <| .sc [.slice a1 s.idx.names.length c1, .slice a2 s.idx.posts.length c2, .slice a3 s.parts.length c3, .slice a4 s.mem.length c4] J fun cC aO bC bD => ?_
   replace ⟨h1, h2, h3, h4, E, C⟩ := (so [W, V] aO).g6 h1 h2 h3 h4 E C
   clear aO bD
   exact .r 1 <| .d <| .r2 Tryz.func80 Tryz.results80 (.bx bC) (.t (.bool false)) ⟨⟨_, (tup2 rfl (congrArg Value.bool (by (unfold flushR; first | (rw [if_pos (by omega)]) | (rw [if_neg (by omega)] <;> simp))))), (VS.of (y := s) ⟨_, rfl, ⟨_, _, _, _, _, _, _, _, _, _, _, _, rfl, h1.w1, h2.w1, h3.w1, h4.w1⟩⟩ (by (unfold flushR; first | (rw [if_pos (by omega)]) | (rw [if_neg (by omega)] <;> simp))))⟩, C⟩
 refine .r 1 <| .d <| .cf <| .sk <| .s ?_
 replace h1 := h1.into
 replace h2 := h2.into
 replace h3 := h3.into
 replace h4 := h4.into
 have aP : Gb (V + 1) ar.heap.size := E.lt
 refine .gd (mtb [] ar.heap.size) 5 fun bV ay => ?_
 replace ⟨h1, h2, h3, h4, E, J, C⟩ := (se [W, V] ay).g7 h1 h2 h3 h4 E J C
 have az : Chg (mtb [] ar.heap.size) ar bV := Chg.stepN (Chg.refl (mtb [] ar.heap.size) ar) ay
 clear ay
 refine .r [1] <| .lb 2 E (nS_of all_nil aP) <| .ln 4 E (nS_of all_nil aP) <| .go 0 <| .ns 0 75 [] fun cD aQ => ?_
 replace ⟨h1, h2, h3, h4, E, J, C, az⟩ := (se [W, V] aQ).g8 h1 h2 h3 h4 E J C az
 clear aQ
 intro au bW aj aR bE bF
 have bG := nb_new aj E.lt
 have bH := nb_new aj J.lt
 have bI := gb_new aj C.size
 have bJ := C.cn aj
 have bK := az.cn aj
 replace ⟨h1, h2, h3, h4, E, J, C⟩ := (sn [W, V] aR aj).g7 h1 h2 h3 h4 E J C
 clear aR bF aj
 have aA : Own (α := Prt) bW au 75 (nin (fo F w.heap.size) [au, W, V]) 0 0 [] := Own.nil' bE
 refine .go 3 <| GE.append (T := 27) (ty := 27) (args := [vS au 0 0, .slice a3 s.parts.length c3]) (by kernel_rfl) fun cE aS => ?_
 replace ⟨h1, h2, h3, h4, E, J, aA, C⟩ := (se [au, W, V] aS).g8 h1 h2 h3 h4 E J aA C
 clear aS
 obtain ⟨am, cF, cG, aL, Z, ah, aB, bL⟩ := aA.append (P := Tryz.prog) (T := 27) (ty := 27) (by kernel_rfl) (h3.base (fun _ _ h => h.1)) (fun b _ h => own_in (.head _) h) (by omega)
 refine ⟨_, _, aL, Chg.toS aB (Cov.toS bK), ?_⟩
 clear bL
 have bM := nb_or ah bG E.lt
 have bN := nb_or ah bH J.lt
 have bO := gb_or ah bI C.size
 have cq := cov_or ah bJ C.size
 replace ⟨h1, h2, h3, h4, E, J, C⟩ := (sa [au, W, V] aB ah).g7 h1 h2 h3 h4 E J C
 clear aB
 replace Z := Z.rn au
 clear ah
 have cr := Z.len; have cu := Z.max
 refine .d fun bP aT => ?_
 replace ⟨h1, h2, h3, h4, E, J, Z, C⟩ := (se [am, W, V] aT).g8 h1 h2 h3 h4 E J Z C
 clear aT
 replace h1 := h1.outof
 replace h2 := h2.outof
 replace h3 := h3.outof
 replace h4 := h4.outof
 refine .cl (c_spec_l13Mem s h1.ta h2.ta h3.ta h4.ta p0 p1 (w := bP) (F := all)) ?_
 rintro cH cI ⟨⟨_, rfl, ⟨bX, cJ, bQ, bR, cv, bS, rfl, ab, ac⟩⟩, aU⟩
 have ao := al3 Z.lt J.lt E.lt
 have aC : Gb w.heap.size bP.heap.size := C.size
 replace ⟨h1, h2, E, J, Z, C⟩ := (se [am, W, V] aU).g6 h1 h2 E J Z C
 clear aU
 have ab := ab.fr ao aC
 replace ab := ab.base (G' := fo F w.heap.size) (fun _ _ h => .inr h)
 have bY := ab.max
 have ac := ac.fr ao aC
 replace ac := ac.base (G' := fo F w.heap.size) (fun _ _ h => .inr h)
 have bZ := ac.max
 clear ao
 have aY := ab.len
 subst aY
 have aZ := ac.len
 subst aZ
 refine .ns 1 75 [.slice bX (((memPart s.mem).ids).length) bQ, .slice bR (((memPart s.mem).blocks).length) bS] fun aV cw ak aD ba bc => ?_
 have bd := nb_new ak E.lt
 have bg := nb_new ak J.lt
 have aE := nb_new ak Z.lt
 have bh := gb_new ak C.size
 replace ⟨h1, h2, E, J, Z, ab, ac, C⟩ := (se [am, W, V] aD).g8 h1 h2 E J Z ab ac C
 clear aD bc ak
 have av : nin (fo F w.heap.size) [am, W, V] aV ∧ aV ≠ am := hap_mk (.inr bh) (all_cons aE (all_cons bg (all_cons bd all_nil))) aE
 refine RG.append1 (T := 27) (ty := 27) (y := (memPart s.mem)) Z ba (by kernel_rfl) (by kernel_rfl) ⟨_, _, _, _, _, _, rfl, ab.oi, ac.oi⟩ av (by omega) fun ae aW cx O af aF => ?_
 have b0 := nb_or af bM E.lt
 have b6 := nb_or af bN J.lt
 have bi := gb_or af bO C.size
 replace ⟨h1, h2, E, J, C⟩ := (sa [am, W, V] aF af).g5 h1 h2 E J C
 clear aF
 replace O := O.rn am
 clear af
 have b7 := O.len; have b8 := O.max
 refine .r 1 <| .ss 2 (vS ae (0 + s.parts.length + 1) aW) E fun cy aG al bj => ?_
 replace ⟨h1, h2, J, O, C⟩ := (so [ae, W, V] aG).g5 h1 h2 J O C
 clear aG bj
 refine .d <| .s <| .g <| .ns 0 51 [] fun ag bT ai aH bk bm => ?_
 have b9 := nb_new ai al.lt
 have cd := nb_new ai J.lt
 have ce := nb_new ai O.lt
 have bn := gb_new ai C.size
 replace ⟨h1, h2, al, J, O, C⟩ := (sn [ae, W, V] aH ai).g6 h1 h2 al J O C
 clear aH bm ai
 have aa : Own (α := Smp) bT ag 51 (nin (fo F w.heap.size) [ag, ae, W, V]) 0 0 [] := Own.nil' bk
 refine .r 1 <| .ss 3 (vS ag 0 0) al fun cz aI bo bq => ?_
 replace ⟨h1, h2, J, O, aa, C⟩ := (so [ag, ae, W, V] aI).g6 h1 h2 J O aa C
 clear aI bq
 refine .d <| .s <| .g <| .ln bo <| .sc [.slice a1 s.idx.names.length c1, .slice a2 s.idx.posts.length c2, vS ae (0 + s.parts.length + 1) aW, vS ag 0 0] J fun aX aJ br bt => ?_
 replace ⟨h1, h2, O, aa, C⟩ := (so [ag, ae, W, V] aJ).g5 h1 h2 O aa C
 clear aJ bt
 refine .r 1 <| .d ?_
 have aK := O.sl (.inr bi)
 replace ⟨h1, h2, aa⟩ := (sd aX [ag, ae, W, V] ae).g3 h1 h2 aa
 have bU := aa.sl (.inr bn)
 replace ⟨h1, h2, aK⟩ := (sd aX [ag, W, V] ag).g3 h1 h2 aK
 exact .r2 Tryz.func80 Tryz.results80 (.bx br) (.t (.bool true)) ⟨⟨_, (tup2 rfl (congrArg Value.bool (by (unfold flushR; first | (rw [if_pos (by omega)]) | (rw [if_neg (by omega)] <;> simp))))), (VS.of (y := (⟨(⟨s.idx.names, s.idx.posts⟩ : Idx), (([] ++ s.parts) ++ [(memPart s.mem)]), []⟩ : Sto)) ⟨_, rfl, ⟨_, _, _, _, _, _, _, _, _, _, _, _, rfl, h1.w1, h2.w1, aK.w1, bU.w1⟩⟩ (by (unfold flushR; first | (rw [if_pos (by omega)]) | (rw [if_neg (by omega)] <;> simp))))⟩, C⟩
theorem c_spec_l13Merge (s : Sto) (at_ : Int) {w : World} {F : Nat → Prop} {a1 : Option Addr} {n1 c1 : Nat} (h1 : RepS w F a1 n1 c1 s.idx.names) {a2 : Option Addr} {n2 c2 : Nat} (h2 : RepS w F a2 n2 c2 s.idx.posts) {a3 : Option Addr} {n3 c3 : Nat} (h3 : RepS w F a3 n3 c3 s.parts) {a4 : Option Addr} {n4 c4 : Nat} (h4 : RepS w F a4 n4 c4 s.mem) (p0 : s.parts.length ≤ 100) (p1 : ∀ p ∈ s.parts, PrtSz p) : Calls Tryz.prog 88 [.agg #[.slice a1 n1 c1, .slice a2 n2 c2, .slice a3 n3 c3, .slice a4 n4 c4], .int .i64 at_].toArray w (rets fun rv w' => (∃ v0, rv = .tuple #[v0, .bool ((mergeR s at_).2)] ∧ VS (fo F w.heap.size) w' ((mergeR s at_).1 : Sto) v0) ∧ Ext w w') := by
 refine goT Tryz.func88 ?_
 obtain ⟨rfl, cB, h1⟩ := h1.tp
 obtain ⟨rfl, cC, h2⟩ := h2.tp
 obtain ⟨rfl, cD, h3⟩ := h3.tp
 obtain ⟨rfl, cE, h4⟩ := h4.tp
 refine .s <| .g <| .np 30 [.slice a1 s.idx.names.length c1, .slice a2 s.idx.posts.length c2, .slice a3 s.parts.length c3, .slice a4 s.mem.length c4] fun V di az aA E bH => ?_
 have cF : Cov nil w V := cov_new az (Nat.le_refl _)
 replace ⟨h1, h2, h3, h4⟩ := (sn [] aA az).g4 h1 h2 h3 h4
 have C := aA
 clear aA bH az
 refine .np 30 [.slice none 0 0, .slice none 0 0, .slice none 0 0, .slice none 0 0] fun ab cd av aS J bI => ?_
 have cG := nb_new av E.lt
 have cH := C.cn av
 replace ⟨h1, h2, h3, h4, E, C⟩ := (sn [V] aS av).g6 h1 h2 h3 h4 E C
 clear aS bI av
 refine .r 1 <| .d <| .s <| .s <| .g <| .r 2 <| .lb E <| .r 1 <| RG.int ((s.parts.length : Int) - 2) (by kernel_rfl) (by grind [inR]) <| .cl (c_spec_l6In at_ 0 ((s.parts.length : Int) - 2) (w := cd) (F := all)) ?_
 rintro dj dk ⟨rfl, aT⟩
 replace ⟨h1, h2, h3, h4, E, J, C⟩ := (se [ab, V] aT).g7 h1 h2 h3 h4 E J C
 clear aT
 cases aU : (inR at_ 0 ((s.parts.length : Int) - 2))
 · have cI := inR_f aU
   refine .r 1 <| .d <| .ct <| .s <| .g <| .ln E <| .sc [.slice a1 s.idx.names.length c1, .slice a2 s.idx.posts.length c2, .slice a3 s.parts.length c3, .slice a4 s.mem.length c4] J fun dm aV bJ bK => ?_
   replace ⟨h1, h2, h3, h4, E, C⟩ := (so [ab, V] aV).g6 h1 h2 h3 h4 E C
   clear aV bK
   exact .r 1 <| .d <| .r2 Tryz.func88 Tryz.results88 (.bx bJ) (.t (.bool false)) ⟨⟨_, (tup2 rfl (congrArg Value.bool (by first | rw [mergeR_f (by assumption)] | rw [mergeR_t (by assumption) (by assumption) (by assumption)]))), (VS.of (y := s) ⟨_, rfl, ⟨_, _, _, _, _, _, _, _, _, _, _, _, rfl, h1.w1, h2.w1, h3.w1, h4.w1⟩⟩ (by first | rw [mergeR_f (by assumption)] | rw [mergeR_t (by assumption) (by assumption) (by assumption)]))⟩, C⟩
 have cJ := inR_t aU
 refine .r 1 <| .d <| .cf <| .sk <| .s <| .g <| .ns 0 75 [] fun aR ce ak aW bL bM => ?_
 have bN := nb_new ak E.lt
 have bO := nb_new ak J.lt
 have bP := gb_new ak C.size
 have bQ := C.cn ak
 replace ⟨h1, h2, h3, h4, E, J, C⟩ := (sn [ab, V] aW ak).g7 h1 h2 h3 h4 E J C
 clear aW bM ak
 have bR : Own (α := Prt) ce aR 75 (nin (fo F w.heap.size) [aR, ab, V]) 0 0 [] := Own.nil' bL
 refine .r 1 <| .lb E <| .r 1 <| RG.sub (t := 27) (lo := none) (hi := some (vI at_)) h3 0 ((at_).toNat) (by kernel_rfl) (by kernel_rfl) (.inl ⟨rfl, rfl⟩) (.inr ⟨_, _, rfl, by omega⟩) (by grind [inR]) (by grind [inR]) fun dp dq bh => ?_
 have cK := bh.len; have cL := bh.max
 refine RG.appendN (T := 27) (ty := 27) bR bh (by kernel_rfl) (by kernel_rfl) (fun b _ h => own_in (.head _) h) (by omega) fun ah dr bS O af aX => ?_
 have aB := nb_or af bN E.lt
 have bT := nb_or af bO J.lt
 have bU := gb_or af bP C.size
 have bV := cov_or af bQ C.size
 replace ⟨h1, h2, h3, h4, E, J, C⟩ := (sa [aR, ab, V] aX af).g7 h1 h2 h3 h4 E J C
 clear aX
 replace O := O.rn aR
 clear af
 have cM := O.len; have cN := O.max
 refine .r 1 <| .d <| .s ?_
 replace h1 := h1.into
 replace h2 := h2.into
 replace h3 := h3.into
 replace h4 := h4.into
 have aY : Gb (V + 1) bS.heap.size := E.lt
 refine .gd (mtb [ah] bS.heap.size) 14 fun dt aZ => ?_
 replace ⟨h1, h2, h3, h4, E, J, O, C⟩ := (se [ah, ab, V] aZ).g8 h1 h2 h3 h4 E J O C
 clear aZ
 refine .r [0, 1] <| .lb 2 E (nS_of (all_cons (Nb.symm aB) all_nil) aY) <| .r [3] ?_
 have ba : (at_).toNat < s.parts.length := (by grind [inR])
 refine GA.idx (i := 4) ((at_).toNat) (len := s.parts.length) (z := at_) (sz := 2) (by kernel_rfl) (by grind [inR]) ba (h3.addr (Nat.zero_lt_of_lt ba)) ?_
 obtain ⟨ax, aw⟩ : ∃ y, s.parts[(at_).toNat]? = some y := ⟨_, List.getElem?_eq_getElem (by grind [inR])⟩
 have cO := drop_at aw; have b9 := List.mem_of_getElem? aw
 obtain ⟨_, ⟨du, dv, dw, dx, cP, cQ, rfl, bi, aC⟩, bW⟩ := h3.elem ((at_).toNat) ax aw
 have bj := bi.len
 subst bj
 have cg := bi.max
 have bk := aC.len
 subst bk
 have ci := aC.max
 refine .lg 5 0 bW (h3.nS (pos_of aw) (all_cons (.head _) all_nil)) <| .r [6] <| .lb 7 E (nS_of (all_cons (Nb.symm aB) all_nil) aY) <| .r [8] <| GA.int (i := 9) (at_ + 1) (by kernel_rfl) (by grind [inR]) ?_
 have aD : (at_ + 1).toNat < s.parts.length := (by grind [inR])
 refine GA.idx (i := 10) ((at_ + 1).toNat) (len := s.parts.length) (z := at_ + 1) (sz := 2) (by kernel_rfl) (by grind [inR]) aD (h3.addr (Nat.zero_lt_of_lt aD)) ?_
 obtain ⟨al, ao⟩ : ∃ y, s.parts[(at_ + 1).toNat]? = some y := ⟨_, List.getElem?_eq_getElem (by grind [inR])⟩
 have cj := drop_at ao; have bX := List.mem_of_getElem? ao
 obtain ⟨_, ⟨cR, cS, cT, cU, cV, cW, rfl, aE, aF⟩, bm⟩ := h3.elem ((at_ + 1).toNat) al ao
 have bn := aE.len
 subst bn
 have ck := aE.max
 have bo := aF.len
 subst bo
 have cm := aF.max
 refine .lg 11 0 bm (h3.nS (pos_of ao) (all_cons (.head _) all_nil)) <| .go 12 <| .cl (fun aG ag => c_spec_l12Merge ax al (bi.ta.ext ag) (aC.ta.ext ag) (aE.ta.ext ag) (aF.ta.ext ag) (by grind) (by grind) (w := aG) (F := all)) ?_
 intro aG ag
 replace ⟨h1, h2, h3, h4, E, J, O, C⟩ := (se [ah, ab, V] ag).g8 h1 h2 h3 h4 E J O C
 rintro cX cY ⟨⟨_, rfl, ⟨bY, cZ, bZ, b0, c7, b6, rfl, W, Z⟩⟩, aq⟩
 have ar := al3 O.lt J.lt E.lt
 have aH : Gb w.heap.size aG.heap.size := C.size
 have hkeep_ := aq
 replace ⟨h1, h2, h3, h4, E, J, O, C⟩ := (se [ah, ab, V] aq).g8 h1 h2 h3 h4 E J O C
 clear aq
 refine ⟨Ext.chg hkeep_, ?_⟩
 have W := W.fr ar aH
 replace W := W.base (G' := fo F w.heap.size) (fun _ _ h => .inr h)
 have co := W.max
 have Z := Z.fr ar aH
 replace Z := Z.base (G' := fo F w.heap.size) (fun _ _ h => .inr h)
 have cp := Z.max
 clear ar
 have bq := W.len
 subst bq
 have br := Z.len
 subst br
 refine .go 13 <| .ns 1 75 [.slice bY (((pMerge ax al).ids).length) bZ, .slice b0 (((pMerge ax al).blocks).length) b6] fun c8 aI => ?_
 replace ⟨h1, h2, h3, h4, E, J, O, W, Z, C⟩ := (se [ah, ab, V] aI).g10 h1 h2 h3 h4 E J O W Z C
 clear aI
 intro bc c9 ai aJ au bt
 have bu := nb_new ai E.lt
 have bv := nb_new ai J.lt
 have aK := nb_new ai O.lt
 have bw := gb_new ai C.size
 replace ⟨h1, h2, h3, h4, E, J, O, W, Z, C⟩ := (se [ah, ab, V] aJ).g10 h1 h2 h3 h4 E J O W Z C
 clear aJ bt ai
 refine .d fun da aL => ?_
 replace ⟨h1, h2, h3, h4, E, J, O, W, Z, au, C⟩ := (se [ah, ab, V] aL).g11 h1 h2 h3 h4 E J O W Z au C
 clear aL
 replace h1 := h1.outof
 replace h2 := h2.outof
 replace h3 := h3.outof
 replace h4 := h4.outof
 have ay : nin (fo F w.heap.size) [ah, ab, V] bc ∧ bc ≠ ah := hap_mk (.inr bw) (all_cons aK (all_cons bv (all_cons bu all_nil))) aK
 refine RG.append1 (T := 27) (ty := 27) (y := (pMerge ax al)) O au (by kernel_rfl) (by kernel_rfl) ⟨_, _, _, _, _, _, rfl, W.oi, Z.oi⟩ ay (by omega) fun bd db dd aj ac aM => ?_
 have bz := nb_or ac aB E.lt
 have bA := nb_or ac bT J.lt
 have bB := gb_or ac bU C.size
 have cq := cov_or ac bV C.size
 replace ⟨h1, h2, h3, h4, E, J, C⟩ := (sa [ah, ab, V] aM ac).g7 h1 h2 h3 h4 E J C
 clear aM
 replace aj := aj.rn ah
 clear ac
 have cr := aj.len; have cu := aj.max
 refine .r 1 <| .d <| .s <| .g <| .r 2 <| .lb E <| .r 1 <| RG.int (at_ + 2) (by kernel_rfl) (by grind [inR]) <| RG.sub (t := 27) (lo := some (vI (at_ + 2))) (hi := none) h3 ((at_ + 2).toNat) s.parts.length (by kernel_rfl) (by kernel_rfl) (.inr ⟨_, _, rfl, by omega⟩) (.inl ⟨rfl, rfl⟩) (by grind [inR]) (by grind [inR]) fun de df aN => ?_
 have cv := aN.len; have cw := aN.max
 refine RG.appendN (T := 27) (ty := 27) aj aN (by kernel_rfl) (by kernel_rfl) (fun b _ h => own_in (.head _) h) (by omega) fun am bg dg aa ae aO => ?_
 have cx := nb_or ae bz E.lt
 have cy := nb_or ae bA J.lt
 have bC := gb_or ae bB C.size
 replace ⟨h1, h2, h4, E, J, C⟩ := (sa [bd, ab, V] aO ae).g6 h1 h2 h4 E J C
 clear aO
 replace aa := aa.rn bd
 clear ae
 have cz := aa.len; have cA := aa.max
 refine .r 1 <| .ss 2 (vS am (0 + ((at_).toNat - 0) + 1 + (s.parts.length - (at_ + 2).toNat)) bg) E fun dh aP bD bE => ?_
 replace ⟨h1, h2, h4, J, aa, C⟩ := (so [am, ab, V] aP).g6 h1 h2 h4 J aa C
 clear aP bE
 refine .d <| .s <| .g <| .ln bD <| .sc [.slice a1 s.idx.names.length c1, .slice a2 s.idx.posts.length c2, vS am (0 + ((at_).toNat - 0) + 1 + (s.parts.length - (at_ + 2).toNat)) bg, .slice a4 s.mem.length c4] J fun b7 aQ bF bG => ?_
 replace ⟨h1, h2, h4, aa, C⟩ := (so [am, ab, V] aQ).g5 h1 h2 h4 aa C
 clear aQ bG
 refine .r 1 <| .d ?_
 have b8 := aa.sl (.inr bC)
 replace ⟨h1, h2, h4⟩ := (sd b7 [am, ab, V] am).g3 h1 h2 h4
 exact .r2 Tryz.func88 Tryz.results88 (.bx bF) (.t (.bool true)) ⟨⟨_, (tup2 rfl (congrArg Value.bool (by first | rw [mergeR_f (by assumption)] | rw [mergeR_t (by assumption) (by assumption) (by assumption)]))), (VS.of (y := (⟨(⟨s.idx.names, s.idx.posts⟩ : Idx), ((([] ++ ((s.parts.take ((at_).toNat)).drop 0)) ++ [(pMerge ax al)]) ++ ((s.parts.take s.parts.length).drop ((at_ + 2).toNat))), s.mem⟩ : Sto)) ⟨_, rfl, ⟨_, _, _, _, _, _, _, _, _, _, _, _, rfl, h1.w1, h2.w1, b8.w1, h4.w1⟩⟩ (by first | rw [mergeR_f (by assumption)] | rw [mergeR_t (by assumption) (by assumption) (by assumption)]))⟩, C⟩
theorem c_spec_l13Add (s : Sto) (n : List Tag) (r : Row) {w : World} {F : Nat → Prop} {a1 : Option Addr} {n1 c1 : Nat} (h1 : RepS w F a1 n1 c1 s.idx.names) {a2 : Option Addr} {n2 c2 : Nat} (h2 : RepS w F a2 n2 c2 s.idx.posts) {a3 : Option Addr} {n3 c3 : Nat} (h3 : RepS w F a3 n3 c3 s.parts) {a4 : Option Addr} {n4 c4 : Nat} (h4 : RepS w F a4 n4 c4 s.mem) {a5 : Option Addr} {n5 c5 : Nat} (h5 : RepS w F a5 n5 c5 n) (p0 : StoSz s) (p1 : NmSz n) : Calls Tryz.prog 59 [.agg #[.slice a1 n1 c1, .slice a2 n2 c2, .slice a3 n3 c3, .slice a4 n4 c4], .slice a5 n5 c5, .agg #[.int .i64 r.t, .int .i64 r.v]].toArray w (rets fun rv w' => (∃ v0, rv = .tuple #[v0, .bool ((addS s n r).2)] ∧ VS (fo F w.heap.size) w' ((addS s n r).1 : Sto) v0) ∧ Ext w w') := by
 refine goT Tryz.func59 ?_
 obtain ⟨rfl, fZ, h1⟩ := h1.tp
 obtain ⟨rfl, f0, h2⟩ := h2.tp
 obtain ⟨rfl, f3, h3⟩ := h3.tp
 obtain ⟨rfl, f4, h4⟩ := h4.tp
 obtain ⟨rfl, f5, h5⟩ := h5.tp
 refine .s <| .g <| .np 30 [.slice a1 s.idx.names.length c1, .slice a2 s.idx.posts.length c2, .slice a3 s.parts.length c3, .slice a4 s.mem.length c4] fun ac hH cD bM E eL => ?_
 replace ⟨h1, h2, h3, h4, h5⟩ := (sn [] bM cD).g5 h1 h2 h3 h4 h5
 have C := bM
 clear bM eL cD
 refine .np 33 [vI r.t, vI r.v] fun ae hJ cE cF O eM => ?_
 replace ⟨h1, h2, h3, h4, h5, E, C⟩ := (sn [ac] cF cE).g7 h1 h2 h3 h4 h5 E C
 clear cF eM cE
 refine .np 30 [.slice none 0 0, .slice none 0 0, .slice none 0 0, .slice none 0 0] fun af eN aY cG V eO => ?_
 have f6 := nb_new aY E.lt
 have f7 := nb_new aY O.lt
 have f8 := C.cn aY
 replace ⟨h1, h2, h3, h4, h5, E, O, C⟩ := (sn [ae, ac] cG aY).g8 h1 h2 h3 h4 h5 E O C
 clear cG eO aY
 refine .r 1 <| .d <| .s <| .g <| .r 1 <| .ln E <| .r 1 <| .cl (c_spec_l11Add s.idx n h1 h2 h5 p0.1 p1 (w := eN) (F := nin (fo F w.heap.size) [af, ae, ac])) ?_
 rintro hN hO ⟨⟨hP, rfl, ⟨_, rfl, ⟨bd, hQ, bg, bh, hV, bi, rfl, Z, aa⟩⟩⟩, cH⟩
 have bN := al3 V.lt O.lt E.lt
 have cI : Gb w.heap.size eN.heap.size := C.size
 replace ⟨h1, h2, h3, h4, E, O, V, C⟩ := (se [af, ae, ac] cH).g8 h1 h2 h3 h4 E O V C
 clear cH
 replace Z := RepS.mixed' (M := [af, ae, ac]) Z bN cI
 have f9 := Z.max
 replace aa := RepS.mixed' (M := [af, ae, ac]) aa bN cI
 have ga := aa.max
 clear bN
 have eP := Z.len
 subst eP
 have eQ := aa.len
 subst eQ
 refine .r 3 ?_
 cases gb : (addR s.idx n).2.2
 · refine .r 1 <| .np 26 [.slice none 0 0, .slice none 0 0] fun eR hW aR cJ eS eT => ?_
   have gf := nb_new aR E.lt
   have gg := nb_new aR O.lt
   have gh := nb_new aR V.lt
   have gi := C.cn aR
   replace ⟨h1, h2, h3, h4, E, O, V, Z, aa, C⟩ := (sn [af, ae, ac] cJ aR).g10 h1 h2 h3 h4 E O V Z aa C
   clear cJ eT aR
   refine .sc [.slice bd ((((addR s.idx n).1).names).length) bg, .slice bh ((((addR s.idx n).1).posts).length) bi] eS fun hX cK gj eU => ?_
   replace ⟨h1, h2, h3, h4, E, O, V, Z, aa, C⟩ := (so [eR, af, ae, ac] cK).g10 h1 h2 h3 h4 E O V Z aa C
   clear cK eU
   refine .r 2 <| .d <| .s <| .s <| .g <| .r 13 <| .d <| .ct <| .s <| .g <| .ln E <| .sc [.slice a1 s.idx.names.length c1, .slice a2 s.idx.posts.length c2, .slice a3 s.parts.length c3, .slice a4 s.mem.length c4] V fun hY cL eV eW => ?_
   replace ⟨h1, h2, h3, h4, E, O, Z, aa, C⟩ := (so [eR, af, ae, ac] cL).g9 h1 h2 h3 h4 E O Z aa C
   clear cL eW
   exact .r 1 <| .d <| .r2 Tryz.func59 Tryz.results59 (.bx eV) (.t (.bool false)) ⟨⟨_, (tup2 rfl (congrArg Value.bool (by first | rw [addS_1 (by assumption)] | rw [addS_2 (by assumption)] | rw [addS_3 (by assumption)] | rw [addS_4 (by assumption) (by assumption) (by assumption) (by assumption)] | (rw [addS_5 (by assumption) (by assumption) (by assumption) (by assumption)] <;> rfl)))), (VS.of (y := s) ⟨_, rfl, ⟨_, _, _, _, _, _, _, _, _, _, _, _, rfl, h1.w1, h2.w1, h3.w1, h4.w1⟩⟩ (by first | rw [addS_1 (by assumption)] | rw [addS_2 (by assumption)] | rw [addS_3 (by assumption)] | rw [addS_4 (by assumption) (by assumption) (by assumption) (by assumption)] | (rw [addS_5 (by assumption) (by assumption) (by assumption) (by assumption)] <;> rfl)))⟩, C⟩
 refine .r 1 <| .np 26 [.slice none 0 0, .slice none 0 0] fun ag hZ aS cM eX cW => ?_
 have fe := nb_new aS E.lt
 have ff := nb_new aS O.lt
 have fg := nb_new aS V.lt
 have fh := C.cn aS
 replace ⟨h1, h2, h3, h4, E, O, V, Z, aa, C⟩ := (sn [af, ae, ac] cM aS).g10 h1 h2 h3 h4 E O V Z aa C
 clear cM cW aS
 refine .sc [.slice bd ((((addR s.idx n).1).names).length) bg, .slice bh ((((addR s.idx n).1).posts).length) bi] eX fun eY bO J cX => ?_
 replace ⟨h1, h2, h3, h4, E, O, V, Z, aa, C⟩ := (so [ag, af, ae, ac] bO).g10 h1 h2 h3 h4 E O V Z aa C
 clear bO cX
 refine .r 2 <| .d <| .s <| .s <| .g <| .r 3 <| .ln O <| .cl (c_spec_l2Row r (w := eY) (F := all)) ?_
 rintro gk gl ⟨rfl, bP⟩
 replace ⟨h1, h2, h3, h4, E, O, V, Z, aa, J, C⟩ := (se [ag, af, ae, ac] bP).g11 h1 h2 h3 h4 E O V Z aa J C
 clear bP
 cases fi : (rowOk r)
 · refine .r 8 <| .d <| .ct <| .s <| .g <| .ln E <| .sc [.slice a1 s.idx.names.length c1, .slice a2 s.idx.posts.length c2, .slice a3 s.parts.length c3, .slice a4 s.mem.length c4] V fun gm bQ cY cZ => ?_
   replace ⟨h1, h2, h3, h4, E, O, Z, aa, J, C⟩ := (so [ag, af, ae, ac] bQ).g10 h1 h2 h3 h4 E O Z aa J C
   clear bQ cZ
   exact .r 1 <| .d <| .r2 Tryz.func59 Tryz.results59 (.bx cY) (.t (.bool false)) ⟨⟨_, (tup2 rfl (congrArg Value.bool (by first | rw [addS_1 (by assumption)] | rw [addS_2 (by assumption)] | rw [addS_3 (by assumption)] | rw [addS_4 (by assumption) (by assumption) (by assumption) (by assumption)] | (rw [addS_5 (by assumption) (by assumption) (by assumption) (by assumption)] <;> rfl)))), (VS.of (y := s) ⟨_, rfl, ⟨_, _, _, _, _, _, _, _, _, _, _, _, rfl, h1.w1, h2.w1, h3.w1, h4.w1⟩⟩ (by first | rw [addS_1 (by assumption)] | rw [addS_2 (by assumption)] | rw [addS_3 (by assumption)] | rw [addS_4 (by assumption) (by assumption) (by assumption) (by assumption)] | (rw [addS_5 (by assumption) (by assumption) (by assumption) (by assumption)] <;> rfl)))⟩, C⟩
 refine .r 4 <| .lb E <| .r 1 <| .bp ((s.mem.length : Int) ≥ 20) (fun c7 => ?_) (fun c7 => ?_)
 · refine .r 1 <| .d <| .ct <| .s <| .g <| .ln E <| .sc [.slice a1 s.idx.names.length c1, .slice a2 s.idx.posts.length c2, .slice a3 s.parts.length c3, .slice a4 s.mem.length c4] V fun gn bR c8 c9 => ?_
   replace ⟨h1, h2, h3, h4, E, O, Z, aa, J, C⟩ := (so [ag, af, ae, ac] bR).g10 h1 h2 h3 h4 E O Z aa J C
   clear bR c9
   exact .r 1 <| .d <| .r2 Tryz.func59 Tryz.results59 (.bx c8) (.t (.bool false)) ⟨⟨_, (tup2 rfl (congrArg Value.bool (by first | rw [addS_1 (by assumption)] | rw [addS_2 (by assumption)] | rw [addS_3 (by assumption)] | rw [addS_4 (by assumption) (by assumption) (by assumption) (by assumption)] | (rw [addS_5 (by assumption) (by assumption) (by assumption) (by assumption)] <;> rfl)))), (VS.of (y := s) ⟨_, rfl, ⟨_, _, _, _, _, _, _, _, _, _, _, _, rfl, h1.w1, h2.w1, h3.w1, h4.w1⟩⟩ (by first | rw [addS_1 (by assumption)] | rw [addS_2 (by assumption)] | rw [addS_3 (by assumption)] | rw [addS_4 (by assumption) (by assumption) (by assumption) (by assumption)] | (rw [addS_5 (by assumption) (by assumption) (by assumption) (by assumption)] <;> rfl)))⟩, C⟩
 refine .r 1 <| .d <| .cf <| .sk <| .s <| .g <| .ln E <| .np 30 [.slice none 0 0, .slice none 0 0, .slice none 0 0, .slice none 0 0] fun ab gp aF bS da db => ?_
 have fj := nb_new aF E.lt
 have fk := nb_new aF O.lt
 have fl := nb_new aF V.lt
 have fm := nb_new aF J.lt
 have fp := C.cn aF
 replace ⟨h1, h2, h3, h4, E, O, V, Z, aa, J, C⟩ := (sn [ag, af, ae, ac] bS aF).g11 h1 h2 h3 h4 E O V Z aa J C
 clear bS db aF
 refine .sc [.slice a1 s.idx.names.length c1, .slice a2 s.idx.posts.length c2, .slice a3 s.parts.length c3, .slice a4 s.mem.length c4] da fun gq bT dd de => ?_
 replace ⟨h1, h2, h3, h4, E, O, V, Z, aa, J, C⟩ := (so [ab, ag, af, ae, ac] bT).g11 h1 h2 h3 h4 E O V Z aa J C
 clear bT de
 refine .d <| .s <| .g <| .ln J <| .r 1 <| .sb 0 (.agg #[.slice bd ((((addR s.idx n).1).names).length) bg, .slice bh ((((addR s.idx n).1).posts).length) bi]) [.slice bd ((((addR s.idx n).1).names).length) bg, .slice bh ((((addR s.idx n).1).posts).length) bi, .slice a3 s.parts.length c3, .slice a4 s.mem.length c4] dd fun aQ bU W df => ?_
 replace ⟨h1, h2, h3, h4, E, O, V, Z, aa, J, C⟩ := (so [ab, ag, af, ae, ac] bU).g11 h1 h2 h3 h4 E O V Z aa J C
 clear bU df
 refine .d <| .s ?_
 replace h1 := h1.into
 replace h2 := h2.into
 replace h3 := h3.into
 replace h4 := h4.into
 replace Z := Z.into
 replace aa := aa.into
 have dg : Gb (ac + 1) aQ.heap.size := E.lt
 have dh : Gb (ae + 1) aQ.heap.size := O.lt
 refine .gd (mtb [] aQ.heap.size) 8 fun eZ bj => ?_
 replace ⟨h1, h2, h3, h4, E, O, V, Z, aa, J, W, C⟩ := (se [ab, ag, af, ae, ac] bj).g12 h1 h2 h3 h4 E O V Z aa J W C
 have ah : Chg (mtb [] aQ.heap.size) aQ eZ := Chg.stepN (Chg.refl (mtb [] aQ.heap.size) aQ) bj
 clear bj
 refine .r [1] <| .lb 2 E (nS_of all_nil dg) <| .r [4] <| .ln 5 O (nS_of all_nil dh) <| .r [6] <| .tw 0 7 ?_ ?_
 · refine .ns 0 51 [] fun gr bk => ?_
   replace ⟨h1, h2, h3, h4, E, O, V, Z, aa, J, W, C⟩ := (se [ab, ag, af, ae, ac] bk).g12 h1 h2 h3 h4 E O V Z aa J W C
   replace ah := (se [ab, ag, af, ae, ac] bk).g1 ah
   clear bk
   intro ao e0 aw bm di dj
   have bV := nb_new aw E.lt
   have bW := nb_new aw O.lt
   have bX := nb_new aw V.lt
   have bY := nb_new aw J.lt
   have bZ := nb_new aw W.lt
   have b0 := gb_new aw C.size
   have b6 := C.cn aw
   have b7 := ah.cn aw
   replace ⟨h1, h2, h3, h4, E, O, V, Z, aa, J, W, C⟩ := (sn [ab, ag, af, ae, ac] bm aw).g12 h1 h2 h3 h4 E O V Z aa J W C
   replace ah := (sn [ab, ag, af, ae, ac] bm aw).g1 ah
   clear bm dj aw
   have ax : Own (α := Smp) e0 ao 51 (nin (fo F w.heap.size) [ao, ab, ag, af, ae, ac]) 0 0 [] := Own.nil' di
   refine .tw 3 7 ?_ ?_
   · refine GE.append (T := 28) (ty := 28) (args := [vS ao 0 0, .slice a4 s.mem.length c4]) (by kernel_rfl) fun gs bn => ?_
     replace ⟨h1, h2, h3, h4, E, O, V, Z, aa, J, W, ax⟩ := (se [ao, ab, ag, af, ae, ac] bn).g12 h1 h2 h3 h4 E O V Z aa J W ax
     replace ⟨C, ah⟩ := (se [ao, ab, ag, af, ae, ac] bn).g2 C ah
     clear bn
     obtain ⟨aE, gt, gu, b8, au, ar, aV, dk⟩ := Own.appendF (P := Tryz.prog) (T := 28) (ty := 28) flat_smp ax (by kernel_rfl) h4 (fun b h e => h.2 (e ▸ (.head _))) (by have := p0.2.2.2; omega)
     refine ⟨_, _, b8, Chg.toS aV (Cov.toS b7), ?_⟩
     clear dk
     have dm := nb_or ar bV E.lt
     have dp := nb_or ar bW O.lt
     have dq := nb_or ar bX V.lt
     have dr := nb_or ar bY J.lt
     have dt := nb_or ar bZ W.lt
     have du := gb_or ar b0 C.size
     have fq := cov_or ar b6 C.size
     replace ⟨h1, h2, h3, h4, E, O, V, Z, aa, J, W, C⟩ := (sa [ao, ab, ag, af, ae, ac] aV ar).g12 h1 h2 h3 h4 E O V Z aa J W C
     replace ah := (sa [ao, ab, ag, af, ae, ac] aV ar).g1 ah
     clear aV
     replace au := au.rn ao
     clear ar
     have ft := au.len; have fu := au.max
     refine .go 7 <| .ns 1 51 [vI ((addR s.idx n).2.1), vI r.t, vI r.v] fun gv bo => ?_
     replace ⟨h1, h2, h3, h4, E, O, V, Z, aa, J, W, au⟩ := (se [aE, ab, ag, af, ae, ac] bo).g12 h1 h2 h3 h4 E O V Z aa J W au
     replace ⟨C, ah⟩ := (se [aE, ab, ag, af, ae, ac] bo).g2 C ah
     clear bo
     intro cN gw aB bq br dv
     have dw := nb_new aB E.lt
     have dx := nb_new aB O.lt
     have dy := nb_new aB V.lt
     have dz := nb_new aB J.lt
     have dA := nb_new aB W.lt
     have b9 := nb_new aB au.lt
     have dB := gb_new aB C.size
     replace ⟨h1, h2, h3, h4, E, O, V, Z, aa, J, W, au⟩ := (se [aE, ab, ag, af, ae, ac] bq).g12 h1 h2 h3 h4 E O V Z aa J W au
     replace ⟨C, ah⟩ := (se [aE, ab, ag, af, ae, ac] bq).g2 C ah
     clear bq dv aB
     refine .d fun gx bt => ?_
     replace ⟨h1, h2, h3, h4, E, O, V, Z, aa, J, W, au⟩ := (se [aE, ab, ag, af, ae, ac] bt).g12 h1 h2 h3 h4 E O V Z aa J W au
     replace ⟨br, C, ah⟩ := (se [aE, ab, ag, af, ae, ac] bt).g3 br C ah
     clear bt
     replace h1 := h1.outof
     replace h2 := h2.outof
     replace h3 := h3.outof
     replace h4 := h4.outof
     replace Z := Z.outof
     replace aa := aa.outof
     have bJ : nin (fo F w.heap.size) [aE, ab, ag, af, ae, ac] cN ∧ cN ≠ aE := hap_mk (.inr dB) (all_cons b9 (all_cons dA (all_cons dz (all_cons dy (all_cons dx (all_cons dw all_nil)))))) b9
     refine RG.append1 (T := 28) (ty := 28) (y := (⟨(addR s.idx n).2.1, (⟨r.t, r.v⟩ : Row)⟩ : Smp)) au br (by kernel_rfl) (by kernel_rfl) rfl bJ (by have := p0.2.2.2; omega) fun aM cO gy ai ay cd => ?_
     have fv := nb_or ay dm E.lt
     have fw := nb_or ay dp O.lt
     have fx := nb_or ay dq V.lt
     have fy := nb_or ay dr J.lt
     have fz := nb_or ay dt W.lt
     have dC := gb_or ay du C.size
     replace ⟨h1, h2, h3, h4, E, O, V, Z, aa, J, W, C⟩ := (sa [aE, ab, ag, af, ae, ac] cd ay).g12 h1 h2 h3 h4 E O V Z aa J W C
     clear cd
     replace ai := ai.rn aE
     clear ay
     have fA := ai.len; have fB := ai.max
     refine .r 1 <| .ss 3 (vS aM (0 + s.mem.length + 1) cO) W fun cP ce aG dD => ?_
     replace ⟨h1, h2, h3, h4, E, O, V, Z, aa, J, ai, C⟩ := (so [aM, ab, ag, af, ae, ac] ce).g12 h1 h2 h3 h4 E O V Z aa J ai C
     clear ce dD
     refine .d <| .s <| .s <| .g <| .ln aG <| .r 1 <| .cl (c_spec_l13Rows (⟨(⟨((addR s.idx n).1).names, ((addR s.idx n).1).posts⟩ : Idx), s.parts, (([] ++ s.mem) ++ [(⟨(addR s.idx n).2.1, (⟨r.t, r.v⟩ : Row)⟩ : Smp)])⟩ : Sto) ((addR s.idx n).2.1) Z.ta aa.ta h3.ta (ai.rep) p0.2.1 p0.2.2.1 (by have := p0.2.2.2; simp; omega) (w := cP) (F := all)) ?_
     rintro gz gA ⟨⟨gC, gD, rfl, aZ⟩, bu⟩
     have cg := al6 ai.lt aG.lt J.lt V.lt O.lt E.lt
     have dE : Gb w.heap.size cP.heap.size := C.size
     replace ⟨h1, h2, h3, h4, E, O, V, Z, aa, J, aG, ai⟩ := (se [aM, ab, ag, af, ae, ac] bu).g12 h1 h2 h3 h4 E O V Z aa J aG ai
     replace C := (se [aM, ab, ag, af, ae, ac] bu).g1 C
     clear bu
     have aZ := aZ.fr cg dE
     replace aZ := aZ.base (G' := fo F w.heap.size) (fun _ _ h => .inr h)
     have fC := aZ.max
     clear cg
     refine .r 1 <| .bp ((((rowsOf (⟨(⟨((addR s.idx n).1).names, ((addR s.idx n).1).posts⟩ : Idx), s.parts, (([] ++ s.mem) ++ [(⟨(addR s.idx n).2.1, (⟨r.t, r.v⟩ : Row)⟩ : Smp)])⟩ : Sto) ((addR s.idx n).2.1)).length) : Int) > 24) (fun dF => ?_) (fun dF => ?_)
     · refine .d <| .ct <| .s <| .g <| .ln E <| .sc [.slice a1 s.idx.names.length c1, .slice a2 s.idx.posts.length c2, .slice a3 s.parts.length c3, .slice a4 s.mem.length c4] V fun gE ci dG dH => ?_
       replace ⟨h1, h2, h3, h4, E, O, Z, aa, J, aG, ai, C⟩ := (so [aM, ab, ag, af, ae, ac] ci).g12 h1 h2 h3 h4 E O Z aa J aG ai C
       clear ci dH
       exact .r 1 <| .d <| .r2 Tryz.func59 Tryz.results59 (.bx dG) (.t (.bool false)) ⟨⟨_, (tup2 rfl (congrArg Value.bool (by first | rw [addS_1 (by assumption)] | rw [addS_2 (by assumption)] | rw [addS_3 (by assumption)] | rw [addS_4 (by assumption) (by assumption) (by assumption) (by assumption)] | (rw [addS_5 (by assumption) (by assumption) (by assumption) (by assumption)] <;> rfl)))), (VS.of (y := s) ⟨_, rfl, ⟨_, _, _, _, _, _, _, _, _, _, _, _, rfl, h1.w1, h2.w1, h3.w1, h4.w1⟩⟩ (by first | rw [addS_1 (by assumption)] | rw [addS_2 (by assumption)] | rw [addS_3 (by assumption)] | rw [addS_4 (by assumption) (by assumption) (by assumption) (by assumption)] | (rw [addS_5 (by assumption) (by assumption) (by assumption) (by assumption)] <;> rfl)))⟩, C⟩
     refine .d <| .cf <| .sk <| .s <| .g <| .ln aG <| .sc [.slice bd ((((addR s.idx n).1).names).length) bg, .slice bh ((((addR s.idx n).1).posts).length) bi, .slice a3 s.parts.length c3, vS aM (0 + s.mem.length + 1) cO] V fun e7 cj dI dJ => ?_
     replace ⟨h1, h2, h3, h4, E, O, Z, aa, J, ai, C⟩ := (so [aM, ab, ag, af, ae, ac] cj).g11 h1 h2 h3 h4 E O Z aa J ai C
     clear cj dJ
     refine .r 1 <| .d ?_
     have e8 := ai.sl (.inr dC)
     replace ⟨h1, h2, h3, h4, Z, aa⟩ := (sd e7 [aM, ab, ag, af, ae, ac] aM).g6 h1 h2 h3 h4 Z aa
     exact .r2 Tryz.func59 Tryz.results59 (.bx dI) (.t (.bool true)) ⟨⟨_, (tup2 rfl (congrArg Value.bool (by first | rw [addS_1 (by assumption)] | rw [addS_2 (by assumption)] | rw [addS_3 (by assumption)] | rw [addS_4 (by assumption) (by assumption) (by assumption) (by assumption)] | (rw [addS_5 (by assumption) (by assumption) (by assumption) (by assumption)] <;> rfl)))), (VS.of (y := (⟨(⟨((addR s.idx n).1).names, ((addR s.idx n).1).posts⟩ : Idx), s.parts, (([] ++ s.mem) ++ [(⟨(addR s.idx n).2.1, (⟨r.t, r.v⟩ : Row)⟩ : Smp)])⟩ : Sto)) ⟨_, rfl, ⟨_, _, _, _, _, _, _, _, _, _, _, _, rfl, Z.w1, aa.w1, h3.w1, e8.w1⟩⟩ (by first | rw [addS_1 (by assumption)] | rw [addS_2 (by assumption)] | rw [addS_3 (by assumption)] | rw [addS_4 (by assumption) (by assumption) (by assumption) (by assumption)] | (rw [addS_5 (by assumption) (by assumption) (by assumption) (by assumption)] <;> rfl)))⟩, C⟩
   refine .ns 1 51 [vI ((addR s.idx n).2.1), vI r.t, vI r.v] fun gF bv => ?_
   replace ⟨h1, h2, h3, h4, E, O, V, Z, aa, J, W, ax⟩ := (se [ao, ab, ag, af, ae, ac] bv).g12 h1 h2 h3 h4 E O V Z aa J W ax
   replace ⟨C, ah⟩ := (se [ao, ab, ag, af, ae, ac] bv).g2 C ah
   clear bv
   intro cQ gG aC bw aD dK
   have dL := nb_new aC E.lt
   have dM := nb_new aC O.lt
   have dN := nb_new aC V.lt
   have dO := nb_new aC J.lt
   have dP := nb_new aC W.lt
   have dQ := nb_new aC ax.lt
   have dR := gb_new aC C.size
   replace ⟨h1, h2, h3, h4, E, O, V, Z, aa, J, W, ax⟩ := (se [ao, ab, ag, af, ae, ac] bw).g12 h1 h2 h3 h4 E O V Z aa J W ax
   replace ⟨C, ah⟩ := (se [ao, ab, ag, af, ae, ac] bw).g2 C ah
   clear bw dK aC
   refine .go 3 <| GE.append (T := 28) (ty := 28) (args := [vS ao 0 0, .slice a4 s.mem.length c4]) (by kernel_rfl) fun gH bz => ?_
   replace ⟨h1, h2, h3, h4, E, O, V, Z, aa, J, W, ax⟩ := (se [ao, ab, ag, af, ae, ac] bz).g12 h1 h2 h3 h4 E O V Z aa J W ax
   replace ⟨aD, C, ah⟩ := (se [ao, ab, ag, af, ae, ac] bz).g3 aD C ah
   clear bz
   obtain ⟨aT, gI, gJ, ck, aH, al, aW, dS⟩ := Own.appendF (P := Tryz.prog) (T := 28) (ty := 28) flat_smp ax (by kernel_rfl) h4 (fun b h e => h.2 (e ▸ (.head _))) (by have := p0.2.2.2; omega)
   refine ⟨_, _, ck, Chg.toS aW (Cov.toS b7), ?_⟩
   clear dS
   have dT := nb_or al bV E.lt
   have dU := nb_or al bW O.lt
   have dV := nb_or al bX V.lt
   have dW := nb_or al bY J.lt
   have dX := nb_or al bZ W.lt
   have cm := nb_or al (Nb.symm dQ) aD.lt
   have dY := gb_or al b0 C.size
   have fD := cov_or al b6 C.size
   replace ⟨h1, h2, h3, h4, E, O, V, Z, aa, J, W, aD⟩ := (sa [ao, ab, ag, af, ae, ac] aW al).g12 h1 h2 h3 h4 E O V Z aa J W aD
   replace ⟨C, ah⟩ := (sa [ao, ab, ag, af, ae, ac] aW al).g2 C ah
   clear aW
   replace aH := aH.rn ao
   clear al
   have fE := aH.len; have fF := aH.max
   refine .d fun gK bA => ?_
   replace ⟨h1, h2, h3, h4, E, O, V, Z, aa, J, W, aH⟩ := (se [aT, ab, ag, af, ae, ac] bA).g12 h1 h2 h3 h4 E O V Z aa J W aH
   replace ⟨aD, C, ah⟩ := (se [aT, ab, ag, af, ae, ac] bA).g3 aD C ah
   clear bA
   replace h1 := h1.outof
   replace h2 := h2.outof
   replace h3 := h3.outof
   replace h4 := h4.outof
   replace Z := Z.outof
   replace aa := aa.outof
   have bK : nin (fo F w.heap.size) [aT, ab, ag, af, ae, ac] cQ ∧ cQ ≠ aT := hap_mk (.inr dR) (all_cons (Nb.symm cm) (all_cons dP (all_cons dO (all_cons dN (all_cons dM (all_cons dL all_nil)))))) (Nb.symm cm)
   refine RG.append1 (T := 28) (ty := 28) (y := (⟨(addR s.idx n).2.1, (⟨r.t, r.v⟩ : Row)⟩ : Smp)) aH aD (by kernel_rfl) (by kernel_rfl) rfl bK (by have := p0.2.2.2; omega) fun aN cR gL aj az co => ?_
   have fG := nb_or az dT E.lt
   have fH := nb_or az dU O.lt
   have fI := nb_or az dV V.lt
   have fJ := nb_or az dW J.lt
   have fK := nb_or az dX W.lt
   have dZ := gb_or az dY C.size
   replace ⟨h1, h2, h3, h4, E, O, V, Z, aa, J, W, C⟩ := (sa [aT, ab, ag, af, ae, ac] co az).g12 h1 h2 h3 h4 E O V Z aa J W C
   clear co
   replace aj := aj.rn aT
   clear az
   have fL := aj.len; have fM := aj.max
   refine .r 1 <| .ss 3 (vS aN (0 + s.mem.length + 1) cR) W fun cS cp aI d0 => ?_
   replace ⟨h1, h2, h3, h4, E, O, V, Z, aa, J, aj, C⟩ := (so [aN, ab, ag, af, ae, ac] cp).g12 h1 h2 h3 h4 E O V Z aa J aj C
   clear cp d0
   refine .d <| .s <| .s <| .g <| .ln aI <| .r 1 <| .cl (c_spec_l13Rows (⟨(⟨((addR s.idx n).1).names, ((addR s.idx n).1).posts⟩ : Idx), s.parts, (([] ++ s.mem) ++ [(⟨(addR s.idx n).2.1, (⟨r.t, r.v⟩ : Row)⟩ : Smp)])⟩ : Sto) ((addR s.idx n).2.1) Z.ta aa.ta h3.ta (aj.rep) p0.2.1 p0.2.2.1 (by have := p0.2.2.2; simp; omega) (w := cS) (F := all)) ?_
   rintro gM gN ⟨⟨gO, gP, rfl, ba⟩, bB⟩
   have cq := al6 aj.lt aI.lt J.lt V.lt O.lt E.lt
   have d3 : Gb w.heap.size cS.heap.size := C.size
   replace ⟨h1, h2, h3, h4, E, O, V, Z, aa, J, aI, aj⟩ := (se [aN, ab, ag, af, ae, ac] bB).g12 h1 h2 h3 h4 E O V Z aa J aI aj
   replace C := (se [aN, ab, ag, af, ae, ac] bB).g1 C
   clear bB
   have ba := ba.fr cq d3
   replace ba := ba.base (G' := fo F w.heap.size) (fun _ _ h => .inr h)
   have fN := ba.max
   clear cq
   refine .r 1 <| .bp ((((rowsOf (⟨(⟨((addR s.idx n).1).names, ((addR s.idx n).1).posts⟩ : Idx), s.parts, (([] ++ s.mem) ++ [(⟨(addR s.idx n).2.1, (⟨r.t, r.v⟩ : Row)⟩ : Smp)])⟩ : Sto) ((addR s.idx n).2.1)).length) : Int) > 24) (fun d4 => ?_) (fun d4 => ?_)
   · refine .d <| .ct <| .s <| .g <| .ln E <| .sc [.slice a1 s.idx.names.length c1, .slice a2 s.idx.posts.length c2, .slice a3 s.parts.length c3, .slice a4 s.mem.length c4] V fun gQ cr d5 d6 => ?_
     replace ⟨h1, h2, h3, h4, E, O, Z, aa, J, aI, aj, C⟩ := (so [aN, ab, ag, af, ae, ac] cr).g12 h1 h2 h3 h4 E O Z aa J aI aj C
     clear cr d6
     exact .r 1 <| .d <| .r2 Tryz.func59 Tryz.results59 (.bx d5) (.t (.bool false)) ⟨⟨_, (tup2 rfl (congrArg Value.bool (by first | rw [addS_1 (by assumption)] | rw [addS_2 (by assumption)] | rw [addS_3 (by assumption)] | rw [addS_4 (by assumption) (by assumption) (by assumption) (by assumption)] | (rw [addS_5 (by assumption) (by assumption) (by assumption) (by assumption)] <;> rfl)))), (VS.of (y := s) ⟨_, rfl, ⟨_, _, _, _, _, _, _, _, _, _, _, _, rfl, h1.w1, h2.w1, h3.w1, h4.w1⟩⟩ (by first | rw [addS_1 (by assumption)] | rw [addS_2 (by assumption)] | rw [addS_3 (by assumption)] | rw [addS_4 (by assumption) (by assumption) (by assumption) (by assumption)] | (rw [addS_5 (by assumption) (by assumption) (by assumption) (by assumption)] <;> rfl)))⟩, C⟩
   refine .d <| .cf <| .sk <| .s <| .g <| .ln aI <| .sc [.slice bd ((((addR s.idx n).1).names).length) bg, .slice bh ((((addR s.idx n).1).posts).length) bi, .slice a3 s.parts.length c3, vS aN (0 + s.mem.length + 1) cR] V fun e9 cu d7 d8 => ?_
   replace ⟨h1, h2, h3, h4, E, O, Z, aa, J, aj, C⟩ := (so [aN, ab, ag, af, ae, ac] cu).g11 h1 h2 h3 h4 E O Z aa J aj C
   clear cu d8
   refine .r 1 <| .d ?_
   have fa := aj.sl (.inr dZ)
   replace ⟨h1, h2, h3, h4, Z, aa⟩ := (sd e9 [aN, ab, ag, af, ae, ac] aN).g6 h1 h2 h3 h4 Z aa
   exact .r2 Tryz.func59 Tryz.results59 (.bx d7) (.t (.bool true)) ⟨⟨_, (tup2 rfl (congrArg Value.bool (by first | rw [addS_1 (by assumption)] | rw [addS_2 (by assumption)] | rw [addS_3 (by assumption)] | rw [addS_4 (by assumption) (by assumption) (by assumption) (by assumption)] | (rw [addS_5 (by assumption) (by assumption) (by assumption) (by assumption)] <;> rfl)))), (VS.of (y := (⟨(⟨((addR s.idx n).1).names, ((addR s.idx n).1).posts⟩ : Idx), s.parts, (([] ++ s.mem) ++ [(⟨(addR s.idx n).2.1, (⟨r.t, r.v⟩ : Row)⟩ : Smp)])⟩ : Sto)) ⟨_, rfl, ⟨_, _, _, _, _, _, _, _, _, _, _, _, rfl, Z.w1, aa.w1, h3.w1, fa.w1⟩⟩ (by first | rw [addS_1 (by assumption)] | rw [addS_2 (by assumption)] | rw [addS_3 (by assumption)] | rw [addS_4 (by assumption) (by assumption) (by assumption) (by assumption)] | (rw [addS_5 (by assumption) (by assumption) (by assumption) (by assumption)] <;> rfl)))⟩, C⟩
 refine .ns 1 51 [vI ((addR s.idx n).2.1), vI r.t, vI r.v] fun gR bC => ?_
 replace ⟨h1, h2, h3, h4, E, O, V, Z, aa, J, W, C⟩ := (se [ab, ag, af, ae, ac] bC).g12 h1 h2 h3 h4 E O V Z aa J W C
 replace ah := (se [ab, ag, af, ae, ac] bC).g1 ah
 clear bC
 intro cT gS aJ bD aq d9
 have ea := nb_new aJ E.lt
 have eb := nb_new aJ O.lt
 have ec := nb_new aJ V.lt
 have ed := nb_new aJ J.lt
 have ee := nb_new aJ W.lt
 have ef := gb_new aJ C.size
 replace ⟨h1, h2, h3, h4, E, O, V, Z, aa, J, W, C⟩ := (se [ab, ag, af, ae, ac] bD).g12 h1 h2 h3 h4 E O V Z aa J W C
 replace ah := (se [ab, ag, af, ae, ac] bD).g1 ah
 clear bD d9 aJ
 refine .go 0 <| .ns 0 51 [] fun gT bE => ?_
 replace ⟨h1, h2, h3, h4, E, O, V, Z, aa, J, W, aq⟩ := (se [ab, ag, af, ae, ac] bE).g12 h1 h2 h3 h4 E O V Z aa J W aq
 replace ⟨C, ah⟩ := (se [ab, ag, af, ae, ac] bE).g2 C ah
 clear bE
 intro aO fb av bF eg eh
 have ei := nb_new av E.lt
 have ej := nb_new av O.lt
 have ek := nb_new av V.lt
 have em := nb_new av J.lt
 have en := nb_new av W.lt
 have eo := nb_new av aq.lt
 have ep := gb_new av C.size
 have es := C.cn av
 have et := ah.cn av
 replace ⟨h1, h2, h3, h4, E, O, V, Z, aa, J, W, aq⟩ := (sn [ab, ag, af, ae, ac] bF av).g12 h1 h2 h3 h4 E O V Z aa J W aq
 replace C := (sn [ab, ag, af, ae, ac] bF av).g1 C
 clear bF eh av
 have bG : Own (α := Smp) fb aO 51 (nin (fo F w.heap.size) [aO, ab, ag, af, ae, ac]) 0 0 [] := Own.nil' eg
 refine .go 3 <| GE.append (T := 28) (ty := 28) (args := [vS aO 0 0, .slice a4 s.mem.length c4]) (by kernel_rfl) fun gU bH => ?_
 replace ⟨h1, h2, h3, h4, E, O, V, Z, aa, J, W, aq⟩ := (se [aO, ab, ag, af, ae, ac] bH).g12 h1 h2 h3 h4 E O V Z aa J W aq
 replace ⟨bG, C⟩ := (se [aO, ab, ag, af, ae, ac] bH).g2 bG C
 clear bH
 obtain ⟨aU, gV, gW, cv, aK, am, aX, ew⟩ := Own.appendF (P := Tryz.prog) (T := 28) (ty := 28) flat_smp bG (by kernel_rfl) h4 (fun b h e => h.2 (e ▸ (.head _))) (by have := p0.2.2.2; omega)
 refine ⟨_, _, cv, Chg.toS aX (Cov.toS et), ?_⟩
 clear ew
 have ex := nb_or am ei E.lt
 have ey := nb_or am ej O.lt
 have ez := nb_or am ek V.lt
 have eA := nb_or am em J.lt
 have eB := nb_or am en W.lt
 have cw := nb_or am eo aq.lt
 have eC := gb_or am ep C.size
 have fO := cov_or am es C.size
 replace ⟨h1, h2, h3, h4, E, O, V, Z, aa, J, W, aq⟩ := (sa [aO, ab, ag, af, ae, ac] aX am).g12 h1 h2 h3 h4 E O V Z aa J W aq
 replace C := (sa [aO, ab, ag, af, ae, ac] aX am).g1 C
 clear aX
 replace aK := aK.rn aO
 clear am
 have fP := aK.len; have fQ := aK.max
 refine .d fun gX bI => ?_
 replace ⟨h1, h2, h3, h4, E, O, V, Z, aa, J, W, aq⟩ := (se [aU, ab, ag, af, ae, ac] bI).g12 h1 h2 h3 h4 E O V Z aa J W aq
 replace ⟨aK, C⟩ := (se [aU, ab, ag, af, ae, ac] bI).g2 aK C
 clear bI
 replace h1 := h1.outof
 replace h2 := h2.outof
 replace h3 := h3.outof
 replace h4 := h4.outof
 replace Z := Z.outof
 replace aa := aa.outof
 have bL : nin (fo F w.heap.size) [aU, ab, ag, af, ae, ac] cT ∧ cT ≠ aU := hap_mk (.inr ef) (all_cons (Nb.symm cw) (all_cons ee (all_cons ed (all_cons ec (all_cons eb (all_cons ea all_nil)))))) (Nb.symm cw)
 refine RG.append1 (T := 28) (ty := 28) (y := (⟨(addR s.idx n).2.1, (⟨r.t, r.v⟩ : Row)⟩ : Smp)) aK aq (by kernel_rfl) (by kernel_rfl) rfl bL (by have := p0.2.2.2; omega) fun aP cU gY ak aA cx => ?_
 have fR := nb_or aA ex E.lt
 have fS := nb_or aA ey O.lt
 have fT := nb_or aA ez V.lt
 have fU := nb_or aA eA J.lt
 have fV := nb_or aA eB W.lt
 have eD := gb_or aA eC C.size
 replace ⟨h1, h2, h3, h4, E, O, V, Z, aa, J, W, C⟩ := (sa [aU, ab, ag, af, ae, ac] cx aA).g12 h1 h2 h3 h4 E O V Z aa J W C
 clear cx
 replace ak := ak.rn aU
 clear aA
 have fW := ak.len; have fX := ak.max
 refine .r 1 <| .ss 3 (vS aP (0 + s.mem.length + 1) cU) W fun cV cy aL eE => ?_
 replace ⟨h1, h2, h3, h4, E, O, V, Z, aa, J, ak, C⟩ := (so [aP, ab, ag, af, ae, ac] cy).g12 h1 h2 h3 h4 E O V Z aa J ak C
 clear cy eE
 refine .d <| .s <| .s <| .g <| .ln aL <| .r 1 <| .cl (c_spec_l13Rows (⟨(⟨((addR s.idx n).1).names, ((addR s.idx n).1).posts⟩ : Idx), s.parts, (([] ++ s.mem) ++ [(⟨(addR s.idx n).2.1, (⟨r.t, r.v⟩ : Row)⟩ : Smp)])⟩ : Sto) ((addR s.idx n).2.1) Z.ta aa.ta h3.ta (ak.rep) p0.2.1 p0.2.2.1 (by have := p0.2.2.2; simp; omega) (w := cV) (F := all)) ?_
 rintro gZ g0 ⟨⟨hC, hD, rfl, bc⟩, cz⟩
 have cA := al6 ak.lt aL.lt J.lt V.lt O.lt E.lt
 have eF : Gb w.heap.size cV.heap.size := C.size
 replace ⟨h1, h2, h3, h4, E, V, Z, aa, aL, ak, C⟩ := (se [aP, ab, ag, af, ae, ac] cz).g11 h1 h2 h3 h4 E V Z aa aL ak C
 clear cz
 have bc := bc.fr cA eF
 replace bc := bc.base (G' := fo F w.heap.size) (fun _ _ h => .inr h)
 have fY := bc.max
 clear cA
 refine .r 1 <| .bp ((((rowsOf (⟨(⟨((addR s.idx n).1).names, ((addR s.idx n).1).posts⟩ : Idx), s.parts, (([] ++ s.mem) ++ [(⟨(addR s.idx n).2.1, (⟨r.t, r.v⟩ : Row)⟩ : Smp)])⟩ : Sto) ((addR s.idx n).2.1)).length) : Int) > 24) (fun eG => ?_) (fun eG => ?_)
 · refine .d <| .ct <| .s <| .g <| .ln E <| .sc [.slice a1 s.idx.names.length c1, .slice a2 s.idx.posts.length c2, .slice a3 s.parts.length c3, .slice a4 s.mem.length c4] V fun hE cB eH eI => ?_
   replace ⟨h1, h2, h3, h4, Z, aa, aL, ak, C⟩ := (so [aP, ab, ag, af, ae, ac] cB).g9 h1 h2 h3 h4 Z aa aL ak C
   clear cB eI
   exact .r 1 <| .d <| .r2 Tryz.func59 Tryz.results59 (.bx eH) (.t (.bool false)) ⟨⟨_, (tup2 rfl (congrArg Value.bool (by first | rw [addS_1 (by assumption)] | rw [addS_2 (by assumption)] | rw [addS_3 (by assumption)] | rw [addS_4 (by assumption) (by assumption) (by assumption) (by assumption)] | (rw [addS_5 (by assumption) (by assumption) (by assumption) (by assumption)] <;> rfl)))), (VS.of (y := s) ⟨_, rfl, ⟨_, _, _, _, _, _, _, _, _, _, _, _, rfl, h1.w1, h2.w1, h3.w1, h4.w1⟩⟩ (by first | rw [addS_1 (by assumption)] | rw [addS_2 (by assumption)] | rw [addS_3 (by assumption)] | rw [addS_4 (by assumption) (by assumption) (by assumption) (by assumption)] | (rw [addS_5 (by assumption) (by assumption) (by assumption) (by assumption)] <;> rfl)))⟩, C⟩
 refine .d <| .cf <| .sk <| .s <| .g <| .ln aL <| .sc [.slice bd ((((addR s.idx n).1).names).length) bg, .slice bh ((((addR s.idx n).1).posts).length) bi, .slice a3 s.parts.length c3, vS aP (0 + s.mem.length + 1) cU] V fun fc cC eJ eK => ?_
 replace ⟨h3, Z, aa, ak, C⟩ := (so [aP, ab, ag, af, ae, ac] cC).g5 h3 Z aa ak C
 clear cC eK
 refine .r 1 <| .d ?_
 have fd := ak.sl (.inr eD)
 replace ⟨h3, Z, aa⟩ := (sd fc [aP, ab, ag, af, ae, ac] aP).g3 h3 Z aa
 exact .r2 Tryz.func59 Tryz.results59 (.bx eJ) (.t (.bool true)) ⟨⟨_, (tup2 rfl (congrArg Value.bool (by first | rw [addS_1 (by assumption)] | rw [addS_2 (by assumption)] | rw [addS_3 (by assumption)] | rw [addS_4 (by assumption) (by assumption) (by assumption) (by assumption)] | (rw [addS_5 (by assumption) (by assumption) (by assumption) (by assumption)] <;> rfl)))), (VS.of (y := (⟨(⟨((addR s.idx n).1).names, ((addR s.idx n).1).posts⟩ : Idx), s.parts, (([] ++ s.mem) ++ [(⟨(addR s.idx n).2.1, (⟨r.t, r.v⟩ : Row)⟩ : Smp)])⟩ : Sto)) ⟨_, rfl, ⟨_, _, _, _, _, _, _, _, _, _, _, _, rfl, Z.w1, aa.w1, h3.w1, fd.w1⟩⟩ (by first | rw [addS_1 (by assumption)] | rw [addS_2 (by assumption)] | rw [addS_3 (by assumption)] | rw [addS_4 (by assumption) (by assumption) (by assumption) (by assumption)] | (rw [addS_5 (by assumption) (by assumption) (by assumption) (by assumption)] <;> rfl)))⟩, C⟩
end Go.Proofs.YtfnpaglcnmcnbaaGreat
