/- walks; squeezed -/
import Derived.Test.YtndljnhfkdhggaaGreatMod6
set_option linter.unusedVariables false
set_option linter.unusedSimpArgs false
namespace Go.Proofs.YtndljnhfkdhggaaGreat
set_option maxRecDepth 100000
set_option maxHeartbeats 4000000
theorem c_spec_l11Add (ix : Idx) (n : List Tag) {w : World} {F : Nat → Prop} {a1 : Option Addr} {n1 c1 : Nat} (h1 : RepS w F a1 n1 c1 ix.names) {a2 : Option Addr} {n2 c2 : Nat} (h2 : RepS w F a2 n2 c2 ix.posts) {a3 : Option Addr} {n3 c3 : Nat} (h3 : RepS w F a3 n3 c3 n) (p0 : IdxSz ix) (p1 : NmSz n) : Calls Tryz.prog 42 [.agg #[.slice a1 n1 c1, .slice a2 n2 c2], .slice a3 n3 c3].toArray w (rets fun rv w' => (∃ v0, rv = .tuple #[v0, .int .i64 ((addR ix n).2.1), .bool ((addR ix n).2.2)] ∧ VS (fo F w.heap.size) w' ((addR ix n).1 : Idx) v0) ∧ Ext w w') := by
 refine goT Tryz.func42 ?_
 obtain ⟨rfl, ci, h1⟩ := h1.tp
 obtain ⟨rfl, cj, h2⟩ := h2.tp
 obtain ⟨rfl, ck, h3⟩ := h3.tp
 refine .s <| .g <| .np 26 [.slice a1 ix.names.length c1, .slice a2 ix.posts.length c2] fun aa cI aS aB E bz => ?_
 replace ⟨h1, h2, h3⟩ := (sn [] aB aS).g3 h1 h2 h3
 have C := aB
 clear aB bz aS
 refine .np 26 [.slice none 0 0, .slice none 0 0] fun Z bU ay aT J bA => ?_
 have cm := nb_new ay E.lt
 have co := C.cn ay
 replace ⟨h1, h2, h3, E, C⟩ := (sn [aa] aT ay).g5 h1 h2 h3 E C
 clear aT bA ay
 refine .r 2 <| .d <| .s <| .g <| .ln E <| .r 1 <| .cl (c_spec_l11At ix n h1.ta h2.ta h3.ta p0.1 p0.2 p1 (w := bU) (F := all)) ?_
 rintro cJ bV ⟨rfl, aU⟩
 replace ⟨h1, h2, h3, E, J, C⟩ := (se [Z, aa] aU).g6 h1 h2 h3 E J C
 clear aU
 refine .r 1 <| .d <| .s <| .s <| .g <| .r 1 <| .bp (nmAt ix n > 0) (fun bB => ?_) (fun bB => ?_)
 · refine .d <| .ct <| .s <| .g <| .ln E <| .r 1 <| .sc [.slice a1 ix.names.length c1, .slice a2 ix.posts.length c2] J fun cK aV bC bD => ?_
   replace ⟨h1, h2, h3, E, C⟩ := (so [Z, aa] aV).g5 h1 h2 h3 E C
   clear aV bD
   exact .r 2 <| .d <| T.ret3 (v := .agg #[.slice a1 ix.names.length c1, .slice a2 ix.posts.length c2]) (v' := vI (nmAt ix n)) (v'' := .bool true) (by kernel_rfl) Tryz.func42 Tryz.results42 (Res1.cell (ad := ⟨Z, 0, none⟩) (by kernel_rfl) ((bC.has 0 [.slice a1 ix.names.length c1, .slice a2 ix.posts.length c2] (by kernel_rfl)).loadN (by kernel_rfl))) (Res1.tmp (by kernel_rfl)) (Res1.tmp (by kernel_rfl)) ⟨⟨_, (tup3 rfl (congrArg (Value.int .i64) (by first | (rw [addR_hit (by assumption)]) | (rw [addR_no (by assumption) (.inl (by assumption))]) | (rw [addR_no (by assumption) (.inr (by assumption))]) | (rw [addR_new (by assumption) (by assumption) (by assumption)] <;> simp [idxOf]))) (congrArg Value.bool (by first | (rw [addR_hit (by assumption)]) | (rw [addR_no (by assumption) (.inl (by assumption))]) | (rw [addR_no (by assumption) (.inr (by assumption))]) | (rw [addR_new (by assumption) (by assumption) (by assumption)] <;> simp [idxOf])))), (VS.of (y := ix) ⟨_, rfl, ⟨_, _, _, _, _, _, rfl, h1.w1, h2.w1⟩⟩ (by first | (rw [addR_hit (by assumption)]) | (rw [addR_no (by assumption) (.inl (by assumption))]) | (rw [addR_no (by assumption) (.inr (by assumption))]) | (rw [addR_new (by assumption) (by assumption) (by assumption)] <;> simp [idxOf])))⟩, C⟩
 refine .d <| .cf <| .sk <| .s <| .s <| .g <| .r 1 <| .cl (c_spec_NameOk n h3.ta (w := bV) (F := all)) ?_
 rintro cL bE ⟨rfl, aW⟩
 replace ⟨h1, h2, h3, E, J, C⟩ := (se [Z, aa] aW).g6 h1 h2 h3 E J C
 clear aW
 cases cp : (nameOk n)
 · refine .r 7 <| .d <| .ct <| .s <| .g <| .ln E <| .sc [.slice a1 ix.names.length c1, .slice a2 ix.posts.length c2] J fun cM aX bF bG => ?_
   replace ⟨h1, h2, h3, E, C⟩ := (so [Z, aa] aX).g5 h1 h2 h3 E C
   clear aX bG
   exact .r 2 <| .d <| T.ret3 (v := .agg #[.slice a1 ix.names.length c1, .slice a2 ix.posts.length c2]) (v' := vI 0) (v'' := .bool false) (by kernel_rfl) Tryz.func42 Tryz.results42 (Res1.cell (ad := ⟨Z, 0, none⟩) (by kernel_rfl) ((bF.has 0 [.slice a1 ix.names.length c1, .slice a2 ix.posts.length c2] (by kernel_rfl)).loadN (by kernel_rfl))) (Res1.tmp (by kernel_rfl)) (Res1.tmp (by kernel_rfl)) ⟨⟨_, (tup3 rfl (congrArg (Value.int .i64) (by first | (rw [addR_hit (by assumption)]) | (rw [addR_no (by assumption) (.inl (by assumption))]) | (rw [addR_no (by assumption) (.inr (by assumption))]) | (rw [addR_new (by assumption) (by assumption) (by assumption)] <;> simp [idxOf]))) (congrArg Value.bool (by first | (rw [addR_hit (by assumption)]) | (rw [addR_no (by assumption) (.inl (by assumption))]) | (rw [addR_no (by assumption) (.inr (by assumption))]) | (rw [addR_new (by assumption) (by assumption) (by assumption)] <;> simp [idxOf])))), (VS.of (y := ix) ⟨_, rfl, ⟨_, _, _, _, _, _, rfl, h1.w1, h2.w1⟩⟩ (by first | (rw [addR_hit (by assumption)]) | (rw [addR_no (by assumption) (.inl (by assumption))]) | (rw [addR_no (by assumption) (.inr (by assumption))]) | (rw [addR_new (by assumption) (by assumption) (by assumption)] <;> simp [idxOf])))⟩, C⟩
 refine .r 3 <| .lb E <| .r 1 <| .bp ((ix.names.length : Int) ≥ 6) (fun bH => ?_) (fun bH => ?_)
 · refine .r 1 <| .d <| .ct <| .s <| .g <| .ln E <| .sc [.slice a1 ix.names.length c1, .slice a2 ix.posts.length c2] J fun cN aY bI bJ => ?_
   replace ⟨h1, h2, h3, E, C⟩ := (so [Z, aa] aY).g5 h1 h2 h3 E C
   clear aY bJ
   exact .r 2 <| .d <| T.ret3 (v := .agg #[.slice a1 ix.names.length c1, .slice a2 ix.posts.length c2]) (v' := vI 0) (v'' := .bool false) (by kernel_rfl) Tryz.func42 Tryz.results42 (Res1.cell (ad := ⟨Z, 0, none⟩) (by kernel_rfl) ((bI.has 0 [.slice a1 ix.names.length c1, .slice a2 ix.posts.length c2] (by kernel_rfl)).loadN (by kernel_rfl))) (Res1.tmp (by kernel_rfl)) (Res1.tmp (by kernel_rfl)) ⟨⟨_, (tup3 rfl (congrArg (Value.int .i64) (by first | (rw [addR_hit (by assumption)]) | (rw [addR_no (by assumption) (.inl (by assumption))]) | (rw [addR_no (by assumption) (.inr (by assumption))]) | (rw [addR_new (by assumption) (by assumption) (by assumption)] <;> simp [idxOf]))) (congrArg Value.bool (by first | (rw [addR_hit (by assumption)]) | (rw [addR_no (by assumption) (.inl (by assumption))]) | (rw [addR_no (by assumption) (.inr (by assumption))]) | (rw [addR_new (by assumption) (by assumption) (by assumption)] <;> simp [idxOf])))), (VS.of (y := ix) ⟨_, rfl, ⟨_, _, _, _, _, _, rfl, h1.w1, h2.w1⟩⟩ (by first | (rw [addR_hit (by assumption)]) | (rw [addR_no (by assumption) (.inl (by assumption))]) | (rw [addR_no (by assumption) (.inr (by assumption))]) | (rw [addR_new (by assumption) (by assumption) (by assumption)] <;> simp [idxOf])))⟩, C⟩
 refine .r 1 <| .d <| .cf <| .sk <| .s <| .g <| .r 1 <| .lb E <| .cl (c_spec_l11Names ix.names h1.ta (by have := p0.1; omega) (by intro n hn; have := (p0.2 n hn).1; omega) (w := bE) (F := all)) ?_
 rintro cO cP ⟨⟨al, cQ, cR, rfl, W, am⟩, aZ⟩
 have ba := al2 J.lt E.lt
 have bK : Gb w.heap.size bE.heap.size := C.size
 have cq := nb_ge am E.lt
 have cr := nb_ge am J.lt
 have cu : Cov nil w al := cov_ge am C.size
 replace ⟨h3, E, J, C⟩ := (sz [Z, aa] aZ am).g4 h3 E J C
 clear aZ am
 replace W := Own.take (s0 := w.heap.size) (M := [Z, aa]) W ba bK
 replace W := W.base (G' := fo F w.heap.size) (fun _ _ h => .inr h)
 have cv := W.len; have cw := W.max
 clear ba
 refine .ns 0 87 [] fun aP bW af bb bL bM => ?_
 have bN := nb_new af E.lt
 have bO := nb_new af J.lt
 have bP := nb_new af W.lt
 have bQ := gb_new af C.size
 have cx := C.cn af
 replace ⟨h3, E, J, W, C⟩ := (sn [al, Z, aa] bb af).g5 h3 E J W C
 clear bb bM af
 have bR : Own (α := Tag) bW aP 87 (nin (fo F w.heap.size) [aP, al, Z, aa]) 0 0 [] := Own.nil' bL
 refine .r 1 <| RG.appendF (T := 31) (ty := 31) flat_tag bR h3 (by kernel_rfl) (by kernel_rfl) (fun b h e => h.2 (e ▸ (.head _))) (by have := p0.1; have := p1.1; omega) fun aQ bX cS ag ae bc => ?_
 have bY := nb_or ae bN E.lt
 have bZ := nb_or ae bO J.lt
 have b0 := nb_or ae bP W.lt
 have bh := gb_or ae bQ C.size
 replace ⟨E, J, W, C⟩ := (sa [aP, al, Z, aa] bc ae).g4 E J W C
 clear bc
 replace ag := ag.rn aP
 clear ae
 have b6 := ag.len; have b7 := ag.max
 refine .ns 1 31 [vS aQ (0 + n.length) bX] fun bd bS ah aC bi bj => ?_
 have bk := nb_new ah E.lt
 have bm := nb_new ah J.lt
 have aD := nb_new ah W.lt
 have bn := gb_new ah C.size
 replace ⟨E, J, W, ag, C⟩ := (se [aQ, al, Z, aa] aC).g5 E J W ag C
 clear aC bj ah
 have bT := ag.sl (.inr bh)
 replace W := (sd bS [aQ, al, Z, aa] aQ).g1 W
 have aA : nin (fo F w.heap.size) [al, Z, aa] bd ∧ bd ≠ al := hap_mk (.inr bn) (all_cons aD (all_cons bm (all_cons bk all_nil))) aD
 refine RG.append1 (T := 23) (ty := 23) (y := ([] ++ n)) W bi (by kernel_rfl) (by kernel_rfl) ⟨_, _, _, rfl, bT.oi⟩ aA (by have := p0.1; have := p1.1; omega) fun ac cy bg ab aR aE => ?_
 replace ⟨E, J, C⟩ := (s1 aE).g3 E J C
 clear aE
 replace ab := ab.rn al
 clear aR
 have b8 := ab.len; have b9 := ab.max
 refine .cl (c_spec_l11Of (ix.names ++ [([] ++ n)]) (ab.rep) (by have := p0.1; simp; omega) (by intro m hm; simp at hm; rcases hm with hm | rfl; exact p0.2 m hm; exact p1) (w := bg) (F := all)) ?_
 rintro cz cA ⟨⟨_, rfl, ⟨ao, cB, aq, ar, cC, au, rfl, O, V⟩⟩, aF⟩
 have av := al3 ab.lt J.lt E.lt
 have aG : Gb w.heap.size bg.heap.size := C.size
 replace ⟨J, ab, C⟩ := (se [ac, Z, aa] aF).g3 J ab C
 clear aF
 have O := O.fr av aG
 replace O := O.base (G' := fo F w.heap.size) (fun _ _ h => .inr h)
 have cd := O.max
 have V := V.fr av aG
 replace V := V.base (G' := fo F w.heap.size) (fun _ _ h => .inr h)
 have ce := V.max
 clear av
 have bo := O.len
 subst bo
 have bq := V.len
 subst bq
 refine .np 26 [.slice none 0 0, .slice none 0 0] fun ak cD ai aH br bt => ?_
 have aI := nb_new ai J.lt
 have aJ := nb_new ai ab.lt
 have cg := C.cn ai
 replace ⟨J, O, V, C⟩ := (sn [ac, Z, aa] aH ai).g4 J O V C
 clear aH bt ai
 refine .sc [.slice ao (((idxOf (ix.names ++ [([] ++ n)])).names).length) aq, .slice ar (((idxOf (ix.names ++ [([] ++ n)])).posts).length) au] br fun az aK aj bu => ?_
 replace ⟨J, O, V, C⟩ := (so [ak, ac, Z, aa] aK).g4 J O V C
 clear aK bu
 refine .d <| .s ?_
 replace O := O.into
 replace V := V.into
 have bv : Cov (mtb [ac, Z] az.heap.size) az Z := ⟨.inl (.inl (.tail _ (.head _)))⟩
 have aL : Gb (ak + 1) az.heap.size := aj.lt
 refine .gd (mtb [ac, Z] az.heap.size) 5 fun cE aM => ?_
 replace ⟨J, O, V, aj, C⟩ := (se [ak, ac, Z, aa] aM).g5 J O V aj C
 clear aM
 refine .ln 0 aj (nS_of (all_cons aJ (all_cons aI all_nil)) aL) <| .r [1] <| .lb 2 aj (nS_of (all_cons aJ (all_cons aI all_nil)) aL) <| .r [3] <| .go 4 <| GE.storeB (t' := 26) (o := 0) (v := .agg #[.slice ao (((idxOf (ix.names ++ [([] ++ n)])).names).length) aq, .slice ar (((idxOf (ix.names ++ [([] ++ n)])).posts).length) au]) [.slice ao (((idxOf (ix.names ++ [([] ++ n)])).names).length) aq, .slice ar (((idxOf (ix.names ++ [([] ++ n)])).posts).length) au] J (by kernel_rfl) (by kernel_rfl) (by kernel_rfl) fun cF aN => ?_
 replace ⟨O, V, C⟩ := (se [ak, ac, Z, aa] aN).g3 O V C
 clear aN
 intro cG aw ax bw
 have hkeep_ := Chg.toS aw (Cov.toS bv)
 clear bw
 replace ⟨O, V, C⟩ := (so [ak, ac, Z, aa] aw).g3 O V C
 clear aw
 refine ⟨hkeep_, ?_⟩
 refine .d fun cH aO => ?_
 replace ⟨ax, O, V, C⟩ := (se [ak, ac, Z, aa] aO).g4 ax O V C
 clear aO
 replace O := O.outof
 replace V := V.outof
 exact .r 2 <| .d <| T.ret3 (v := .agg #[.slice ao (((idxOf (ix.names ++ [([] ++ n)])).names).length) aq, .slice ar (((idxOf (ix.names ++ [([] ++ n)])).posts).length) au]) (v' := vI ((((idxOf (ix.names ++ [([] ++ n)])).names).length) : Int)) (v'' := .bool true) (by kernel_rfl) Tryz.func42 Tryz.results42 (Res1.cell (ad := ⟨Z, 0, none⟩) (by kernel_rfl) ((ax.has 0 [.slice ao (((idxOf (ix.names ++ [([] ++ n)])).names).length) aq, .slice ar (((idxOf (ix.names ++ [([] ++ n)])).posts).length) au] (by kernel_rfl)).loadN (by kernel_rfl))) (Res1.tmp (by kernel_rfl)) (Res1.tmp (by kernel_rfl)) ⟨⟨_, (tup3 rfl (congrArg (Value.int .i64) (by first | (rw [addR_hit (by assumption)]) | (rw [addR_no (by assumption) (.inl (by assumption))]) | (rw [addR_no (by assumption) (.inr (by assumption))]) | (rw [addR_new (by assumption) (by assumption) (by assumption)] <;> simp [idxOf]))) (congrArg Value.bool (by first | (rw [addR_hit (by assumption)]) | (rw [addR_no (by assumption) (.inl (by assumption))]) | (rw [addR_no (by assumption) (.inr (by assumption))]) | (rw [addR_new (by assumption) (by assumption) (by assumption)] <;> simp [idxOf])))), (VS.of (y := (idxOf (ix.names ++ [([] ++ n)]))) ⟨_, rfl, ⟨_, _, _, _, _, _, rfl, O.w1, V.w1⟩⟩ (by first | (rw [addR_hit (by assumption)]) | (rw [addR_no (by assumption) (.inl (by assumption))]) | (rw [addR_no (by assumption) (.inr (by assumption))]) | (rw [addR_new (by assumption) (by assumption) (by assumption)] <;> simp [idxOf])))⟩, C⟩
theorem c_spec_l13Flush (s : Sto) {w : World} {F : Nat → Prop} {a1 : Option Addr} {n1 c1 : Nat} (h1 : RepS w F a1 n1 c1 s.idx.names) {a2 : Option Addr} {n2 c2 : Nat} (h2 : RepS w F a2 n2 c2 s.idx.posts) {a3 : Option Addr} {n3 c3 : Nat} (h3 : RepS w F a3 n3 c3 s.parts) {a4 : Option Addr} {n4 c4 : Nat} (h4 : RepS w F a4 n4 c4 s.mem) (p0 : s.mem.length ≤ 1000) (p1 : ∀ m ∈ s.mem, 1 ≤ m.id ∧ m.id ≤ 6) : Calls Tryz.prog 91 [.agg #[.slice a1 n1 c1, .slice a2 n2 c2, .slice a3 n3 c3, .slice a4 n4 c4]].toArray w (rets fun rv w' => (∃ v0, rv = .tuple #[v0, .bool ((flushR s).2)] ∧ VS (fo F w.heap.size) w' ((flushR s).1 : Sto) v0) ∧ Ext w w') := by
 refine goT Tryz.func91 ?_
 obtain ⟨rfl, ce, h1⟩ := h1.tp
 obtain ⟨rfl, cg, h2⟩ := h2.tp
 obtain ⟨rfl, ci, h3⟩ := h3.tp
 obtain ⟨rfl, cj, h4⟩ := h4.tp
 refine .s <| .g <| .np 30 [.slice a1 s.idx.names.length c1, .slice a2 s.idx.posts.length c2, .slice a3 s.parts.length c3, .slice a4 s.mem.length c4] fun V cz aw ax E bt => ?_
 have ck : Cov nil w V := cov_new aw (Nat.le_refl _)
 replace ⟨h1, h2, h3, h4⟩ := (sn [] ax aw).g4 h1 h2 h3 h4
 have C := ax
 clear ax bt aw
 refine .np 30 [.slice none 0 0, .slice none 0 0, .slice none 0 0, .slice none 0 0] fun W ar aq aM J bu => ?_
 have cm := nb_new aq E.lt
 have co := C.cn aq
 replace ⟨h1, h2, h3, h4, E, C⟩ := (sn [V] aM aq).g6 h1 h2 h3 h4 E C
 clear aM bu aq
 refine .r 1 <| .d <| .s <| .s <| .g <| .r 1 <| .lb E <| .r 1 <| .eq (s.mem.length : Int) 0 (fun bv => ?_) (fun bv => ?_)
 · refine .r 6 <| .d <| .ct <| .s <| .g <| .ln E <| .sc [.slice a1 s.idx.names.length c1, .slice a2 s.idx.posts.length c2, .slice a3 s.parts.length c3, .slice a4 s.mem.length c4] J fun cA aN bw bz => ?_
   replace ⟨h1, h2, h3, h4, E, C⟩ := (so [W, V] aN).g6 h1 h2 h3 h4 E C
   clear aN bz
   exact .r 1 <| .d <| .r2 Tryz.func91 Tryz.results91 (.bx bw) (.t (.bool false)) ⟨⟨_, (tup2 rfl (congrArg Value.bool (by (unfold flushR; first | (rw [if_pos (by omega)]) | (rw [if_neg (by omega)] <;> simp))))), (VS.of (y := s) ⟨_, rfl, ⟨_, _, _, _, _, _, _, _, _, _, _, _, rfl, h1.w1, h2.w1, h3.w1, h4.w1⟩⟩ (by (unfold flushR; first | (rw [if_pos (by omega)]) | (rw [if_neg (by omega)] <;> simp))))⟩, C⟩
 refine .r 2 <| .lb E <| .r 1 <| .bp ((s.parts.length : Int) ≥ 6) (fun bA => ?_) (fun bA => ?_)
 · refine .r 1 <| .d <| .ct <| .s <| .g <| .ln E <| .sc [.slice a1 s.idx.names.length c1, .slice a2 s.idx.posts.length c2, .slice a3 s.parts.length c3, .slice a4 s.mem.length c4] J fun cB aO bB bC => ?_
   replace ⟨h1, h2, h3, h4, E, C⟩ := (so [W, V] aO).g6 h1 h2 h3 h4 E C
   clear aO bC
   exact .r 1 <| .d <| .r2 Tryz.func91 Tryz.results91 (.bx bB) (.t (.bool false)) ⟨⟨_, (tup2 rfl (congrArg Value.bool (by (unfold flushR; first | (rw [if_pos (by omega)]) | (rw [if_neg (by omega)] <;> simp))))), (VS.of (y := s) ⟨_, rfl, ⟨_, _, _, _, _, _, _, _, _, _, _, _, rfl, h1.w1, h2.w1, h3.w1, h4.w1⟩⟩ (by (unfold flushR; first | (rw [if_pos (by omega)]) | (rw [if_neg (by omega)] <;> simp))))⟩, C⟩
 refine .r 1 <| .d <| .cf <| .sk <| .s ?_
 replace h1 := h1.into
 replace h2 := h2.into
 replace h3 := h3.into
 replace h4 := h4.into
 have aP : Gb (V + 1) ar.heap.size := E.lt
 refine .gd (mtb [] ar.heap.size) 5 fun bU ay => ?_
 replace ⟨h1, h2, h3, h4, E, J, C⟩ := (se [W, V] ay).g7 h1 h2 h3 h4 E J C
 have az : Chg (mtb [] ar.heap.size) ar bU := Chg.stepN (Chg.refl (mtb [] ar.heap.size) ar) ay
 clear ay
 refine .r [1] <| .lb 2 E (nS_of all_nil aP) <| .ln 4 E (nS_of all_nil aP) <| .go 0 <| .ns 0 68 [] fun cC aQ => ?_
 replace ⟨h1, h2, h3, h4, E, J, C, az⟩ := (se [W, V] aQ).g8 h1 h2 h3 h4 E J C az
 clear aQ
 intro au bV aj aR bD bE
 have bF := nb_new aj E.lt
 have bG := nb_new aj J.lt
 have bH := gb_new aj C.size
 have bI := C.cn aj
 have bJ := az.cn aj
 replace ⟨h1, h2, h3, h4, E, J, C⟩ := (sn [W, V] aR aj).g7 h1 h2 h3 h4 E J C
 clear aR bE aj
 have aA : Own (α := Prt) bV au 68 (nin (fo F w.heap.size) [au, W, V]) 0 0 [] := Own.nil' bD
 refine .go 3 <| GE.append (T := 27) (ty := 27) (args := [vS au 0 0, .slice a3 s.parts.length c3]) (by kernel_rfl) fun cD aS => ?_
 replace ⟨h1, h2, h3, h4, E, J, aA, C⟩ := (se [au, W, V] aS).g8 h1 h2 h3 h4 E J aA C
 clear aS
 obtain ⟨am, cE, cF, aL, Z, ah, aB, bK⟩ := aA.append (P := Tryz.prog) (T := 27) (ty := 27) (by kernel_rfl) (h3.base (fun _ _ h => h.1)) (fun b _ h => own_in (.head _) h) (by omega)
 refine ⟨_, _, aL, Chg.toS aB (Cov.toS bJ), ?_⟩
 clear bK
 have bL := nb_or ah bF E.lt
 have bM := nb_or ah bG J.lt
 have bN := gb_or ah bH C.size
 have cp := cov_or ah bI C.size
 replace ⟨h1, h2, h3, h4, E, J, C⟩ := (sa [au, W, V] aB ah).g7 h1 h2 h3 h4 E J C
 clear aB
 replace Z := Z.rn au
 clear ah
 have cq := Z.len; have cr := Z.max
 refine .d fun bO aT => ?_
 replace ⟨h1, h2, h3, h4, E, J, Z, C⟩ := (se [am, W, V] aT).g8 h1 h2 h3 h4 E J Z C
 clear aT
 replace h1 := h1.outof
 replace h2 := h2.outof
 replace h3 := h3.outof
 replace h4 := h4.outof
 refine .cl (c_spec_l13Mem s h1.ta h2.ta h3.ta h4.ta p0 p1 (w := bO) (F := all)) ?_
 rintro cG cH ⟨⟨_, rfl, ⟨bW, cI, bP, bQ, cu, bR, rfl, ab, ac⟩⟩, aU⟩
 have ao := al3 Z.lt J.lt E.lt
 have aC : Gb w.heap.size bO.heap.size := C.size
 replace ⟨h1, h2, E, J, Z, C⟩ := (se [am, W, V] aU).g6 h1 h2 E J Z C
 clear aU
 have ab := ab.fr ao aC
 replace ab := ab.base (G' := fo F w.heap.size) (fun _ _ h => .inr h)
 have bX := ab.max
 have ac := ac.fr ao aC
 replace ac := ac.base (G' := fo F w.heap.size) (fun _ _ h => .inr h)
 have bY := ac.max
 clear ao
 have aY := ab.len
 subst aY
 have aZ := ac.len
 subst aZ
 refine .ns 1 68 [.slice bW (((memPart s.mem).ids).length) bP, .slice bQ (((memPart s.mem).blocks).length) bR] fun aV cv ak aD ba bb => ?_
 have bc := nb_new ak E.lt
 have bd := nb_new ak J.lt
 have aE := nb_new ak Z.lt
 have bg := gb_new ak C.size
 replace ⟨h1, h2, E, J, Z, ab, ac, C⟩ := (se [am, W, V] aD).g8 h1 h2 E J Z ab ac C
 clear aD bb ak
 have av : nin (fo F w.heap.size) [am, W, V] aV ∧ aV ≠ am := hap_mk (.inr bg) (all_cons aE (all_cons bd (all_cons bc all_nil))) aE
 refine RG.append1 (T := 27) (ty := 27) (y := (memPart s.mem)) Z ba (by kernel_rfl) (by kernel_rfl) ⟨_, _, _, _, _, _, rfl, ab.oi, ac.oi⟩ av (by omega) fun ae aW cw O af aF => ?_
 have bZ := nb_or af bL E.lt
 have b0 := nb_or af bM J.lt
 have bh := gb_or af bN C.size
 replace ⟨h1, h2, E, J, C⟩ := (sa [am, W, V] aF af).g5 h1 h2 E J C
 clear aF
 replace O := O.rn am
 clear af
 have b6 := O.len; have b7 := O.max
 refine .r 1 <| .ss 2 (vS ae (0 + s.parts.length + 1) aW) E fun cx aG al bi => ?_
 replace ⟨h1, h2, J, O, C⟩ := (so [ae, W, V] aG).g5 h1 h2 J O C
 clear aG bi
 refine .d <| .s <| .g <| .ns 0 62 [] fun ag bS ai aH bj bk => ?_
 have b8 := nb_new ai al.lt
 have b9 := nb_new ai J.lt
 have cd := nb_new ai O.lt
 have bm := gb_new ai C.size
 replace ⟨h1, h2, al, J, O, C⟩ := (sn [ae, W, V] aH ai).g6 h1 h2 al J O C
 clear aH bk ai
 have aa : Own (α := Smp) bS ag 62 (nin (fo F w.heap.size) [ag, ae, W, V]) 0 0 [] := Own.nil' bj
 refine .r 1 <| .ss 3 (vS ag 0 0) al fun cy aI bn bo => ?_
 replace ⟨h1, h2, J, O, aa, C⟩ := (so [ag, ae, W, V] aI).g6 h1 h2 J O aa C
 clear aI bo
 refine .d <| .s <| .g <| .ln bn <| .sc [.slice a1 s.idx.names.length c1, .slice a2 s.idx.posts.length c2, vS ae (0 + s.parts.length + 1) aW, vS ag 0 0] J fun aX aJ bq br => ?_
 replace ⟨h1, h2, O, aa, C⟩ := (so [ag, ae, W, V] aJ).g5 h1 h2 O aa C
 clear aJ br
 refine .r 1 <| .d ?_
 have aK := O.sl (.inr bh)
 replace ⟨h1, h2, aa⟩ := (sd aX [ag, ae, W, V] ae).g3 h1 h2 aa
 have bT := aa.sl (.inr bm)
 replace ⟨h1, h2, aK⟩ := (sd aX [ag, W, V] ag).g3 h1 h2 aK
 exact .r2 Tryz.func91 Tryz.results91 (.bx bq) (.t (.bool true)) ⟨⟨_, (tup2 rfl (congrArg Value.bool (by (unfold flushR; first | (rw [if_pos (by omega)]) | (rw [if_neg (by omega)] <;> simp))))), (VS.of (y := (⟨(⟨s.idx.names, s.idx.posts⟩ : Idx), (([] ++ s.parts) ++ [(memPart s.mem)]), []⟩ : Sto)) ⟨_, rfl, ⟨_, _, _, _, _, _, _, _, _, _, _, _, rfl, h1.w1, h2.w1, aK.w1, bT.w1⟩⟩ (by (unfold flushR; first | (rw [if_pos (by omega)]) | (rw [if_neg (by omega)] <;> simp))))⟩, C⟩
theorem c_spec_l13Merge (s : Sto) (at_ : Int) {w : World} {F : Nat → Prop} {a1 : Option Addr} {n1 c1 : Nat} (h1 : RepS w F a1 n1 c1 s.idx.names) {a2 : Option Addr} {n2 c2 : Nat} (h2 : RepS w F a2 n2 c2 s.idx.posts) {a3 : Option Addr} {n3 c3 : Nat} (h3 : RepS w F a3 n3 c3 s.parts) {a4 : Option Addr} {n4 c4 : Nat} (h4 : RepS w F a4 n4 c4 s.mem) (p0 : s.parts.length ≤ 100) (p1 : ∀ p ∈ s.parts, PrtSz p) : Calls Tryz.prog 94 [.agg #[.slice a1 n1 c1, .slice a2 n2 c2, .slice a3 n3 c3, .slice a4 n4 c4], .int .i64 at_].toArray w (rets fun rv w' => (∃ v0, rv = .tuple #[v0, .bool ((mergeR s at_).2)] ∧ VS (fo F w.heap.size) w' ((mergeR s at_).1 : Sto) v0) ∧ Ext w w') := by
 refine goT Tryz.func94 ?_
 obtain ⟨rfl, cA, h1⟩ := h1.tp
 obtain ⟨rfl, cB, h2⟩ := h2.tp
 obtain ⟨rfl, cC, h3⟩ := h3.tp
 obtain ⟨rfl, cD, h4⟩ := h4.tp
 refine .s <| .g <| .np 30 [.slice a1 s.idx.names.length c1, .slice a2 s.idx.posts.length c2, .slice a3 s.parts.length c3, .slice a4 s.mem.length c4] fun V dh az aA E bG => ?_
 have cE : Cov nil w V := cov_new az (Nat.le_refl _)
 replace ⟨h1, h2, h3, h4⟩ := (sn [] aA az).g4 h1 h2 h3 h4
 have C := aA
 clear aA bG az
 refine .np 30 [.slice none 0 0, .slice none 0 0, .slice none 0 0, .slice none 0 0] fun ab b9 av aS J bH => ?_
 have cF := nb_new av E.lt
 have cG := C.cn av
 replace ⟨h1, h2, h3, h4, E, C⟩ := (sn [V] aS av).g6 h1 h2 h3 h4 E C
 clear aS bH av
 refine .r 1 <| .d <| .s <| .s <| .g <| .r 2 <| .lb E <| .r 1 <| RG.int ((s.parts.length : Int) - 2) (by kernel_rfl) (by grind [inR]) <| .cl (c_spec_l6In at_ 0 ((s.parts.length : Int) - 2) (w := b9) (F := all)) ?_
 rintro di dj ⟨rfl, aT⟩
 replace ⟨h1, h2, h3, h4, E, J, C⟩ := (se [ab, V] aT).g7 h1 h2 h3 h4 E J C
 clear aT
 cases aU : (inR at_ 0 ((s.parts.length : Int) - 2))
 · have cH := inR_f aU
   refine .r 1 <| .d <| .ct <| .s <| .g <| .ln E <| .sc [.slice a1 s.idx.names.length c1, .slice a2 s.idx.posts.length c2, .slice a3 s.parts.length c3, .slice a4 s.mem.length c4] J fun dk aV bI bJ => ?_
   replace ⟨h1, h2, h3, h4, E, C⟩ := (so [ab, V] aV).g6 h1 h2 h3 h4 E C
   clear aV bJ
   exact .r 1 <| .d <| .r2 Tryz.func94 Tryz.results94 (.bx bI) (.t (.bool false)) ⟨⟨_, (tup2 rfl (congrArg Value.bool (by first | rw [mergeR_f (by assumption)] | rw [mergeR_t (by assumption) (by assumption) (by assumption)]))), (VS.of (y := s) ⟨_, rfl, ⟨_, _, _, _, _, _, _, _, _, _, _, _, rfl, h1.w1, h2.w1, h3.w1, h4.w1⟩⟩ (by first | rw [mergeR_f (by assumption)] | rw [mergeR_t (by assumption) (by assumption) (by assumption)]))⟩, C⟩
 have cI := inR_t aU
 refine .r 1 <| .d <| .cf <| .sk <| .s <| .g <| .ns 0 68 [] fun aR cd ak aW bK bL => ?_
 have bM := nb_new ak E.lt
 have bN := nb_new ak J.lt
 have bO := gb_new ak C.size
 have bP := C.cn ak
 replace ⟨h1, h2, h3, h4, E, J, C⟩ := (sn [ab, V] aW ak).g7 h1 h2 h3 h4 E J C
 clear aW bL ak
 have bQ : Own (α := Prt) cd aR 68 (nin (fo F w.heap.size) [aR, ab, V]) 0 0 [] := Own.nil' bK
 refine .r 1 <| .lb E <| .r 1 <| RG.sub (t := 27) (lo := none) (hi := some (vI at_)) h3 0 ((at_).toNat) (by kernel_rfl) (by kernel_rfl) (.inl ⟨rfl, rfl⟩) (.inr ⟨_, _, rfl, by omega⟩) (by grind [inR]) (by grind [inR]) fun dm dp bg => ?_
 have cJ := bg.len; have cK := bg.max
 refine RG.appendN (T := 27) (ty := 27) bQ bg (by kernel_rfl) (by kernel_rfl) (fun b _ h => own_in (.head _) h) (by omega) fun ah dq bR O af aX => ?_
 have aB := nb_or af bM E.lt
 have bS := nb_or af bN J.lt
 have bT := gb_or af bO C.size
 have bU := cov_or af bP C.size
 replace ⟨h1, h2, h3, h4, E, J, C⟩ := (sa [aR, ab, V] aX af).g7 h1 h2 h3 h4 E J C
 clear aX
 replace O := O.rn aR
 clear af
 have cL := O.len; have cM := O.max
 refine .r 1 <| .d <| .s ?_
 replace h1 := h1.into
 replace h2 := h2.into
 replace h3 := h3.into
 replace h4 := h4.into
 have aY : Gb (V + 1) bR.heap.size := E.lt
 refine .gd (mtb [ah] bR.heap.size) 14 fun dr aZ => ?_
 replace ⟨h1, h2, h3, h4, E, J, O, C⟩ := (se [ah, ab, V] aZ).g8 h1 h2 h3 h4 E J O C
 clear aZ
 refine .r [0, 1] <| .lb 2 E (nS_of (all_cons (Nb.symm aB) all_nil) aY) <| .r [3] ?_
 have ba : (at_).toNat < s.parts.length := (by grind [inR])
 refine GA.idx (i := 4) ((at_).toNat) (len := s.parts.length) (z := at_) (sz := 2) (by kernel_rfl) (by grind [inR]) ba (h3.addr (Nat.zero_lt_of_lt ba)) ?_
 obtain ⟨ax, aw⟩ : ∃ y, s.parts[(at_).toNat]? = some y := ⟨_, List.getElem?_eq_getElem (by grind [inR])⟩
 have cN := drop_at aw; have b8 := List.mem_of_getElem? aw
 obtain ⟨_, ⟨dt, du, dv, dw, cO, cP, rfl, bh, aC⟩, bV⟩ := h3.elem ((at_).toNat) ax aw
 have bi := bh.len
 subst bi
 have ce := bh.max
 have bj := aC.len
 subst bj
 have cg := aC.max
 refine .lg 5 0 bV (h3.nS (pos_of aw) (all_cons (.head _) all_nil)) <| .r [6] <| .lb 7 E (nS_of (all_cons (Nb.symm aB) all_nil) aY) <| .r [8] <| GA.int (i := 9) (at_ + 1) (by kernel_rfl) (by grind [inR]) ?_
 have aD : (at_ + 1).toNat < s.parts.length := (by grind [inR])
 refine GA.idx (i := 10) ((at_ + 1).toNat) (len := s.parts.length) (z := at_ + 1) (sz := 2) (by kernel_rfl) (by grind [inR]) aD (h3.addr (Nat.zero_lt_of_lt aD)) ?_
 obtain ⟨al, ao⟩ : ∃ y, s.parts[(at_ + 1).toNat]? = some y := ⟨_, List.getElem?_eq_getElem (by grind [inR])⟩
 have ci := drop_at ao; have bW := List.mem_of_getElem? ao
 obtain ⟨_, ⟨cQ, cR, cS, cT, cU, cV, rfl, aE, aF⟩, bk⟩ := h3.elem ((at_ + 1).toNat) al ao
 have bm := aE.len
 subst bm
 have cj := aE.max
 have bn := aF.len
 subst bn
 have ck := aF.max
 refine .lg 11 0 bk (h3.nS (pos_of ao) (all_cons (.head _) all_nil)) <| .go 12 <| .cl (fun aG ag => c_spec_l12Merge ax al (bh.ta.ext ag) (aC.ta.ext ag) (aE.ta.ext ag) (aF.ta.ext ag) (by grind) (by grind) (w := aG) (F := all)) ?_
 intro aG ag
 replace ⟨h1, h2, h3, h4, E, J, O, C⟩ := (se [ah, ab, V] ag).g8 h1 h2 h3 h4 E J O C
 rintro cW cX ⟨⟨_, rfl, ⟨bX, cY, bY, bZ, cZ, b0, rfl, W, Z⟩⟩, aq⟩
 have ar := al3 O.lt J.lt E.lt
 have aH : Gb w.heap.size aG.heap.size := C.size
 have hkeep_ := aq
 replace ⟨h1, h2, h3, h4, E, J, O, C⟩ := (se [ah, ab, V] aq).g8 h1 h2 h3 h4 E J O C
 clear aq
 refine ⟨Ext.chg hkeep_, ?_⟩
 have W := W.fr ar aH
 replace W := W.base (G' := fo F w.heap.size) (fun _ _ h => .inr h)
 have cm := W.max
 have Z := Z.fr ar aH
 replace Z := Z.base (G' := fo F w.heap.size) (fun _ _ h => .inr h)
 have co := Z.max
 clear ar
 have bo := W.len
 subst bo
 have bq := Z.len
 subst bq
 refine .go 13 <| .ns 1 68 [.slice bX (((pMerge ax al).ids).length) bY, .slice bZ (((pMerge ax al).blocks).length) b0] fun c7 aI => ?_
 replace ⟨h1, h2, h3, h4, E, J, O, W, Z, C⟩ := (se [ah, ab, V] aI).g10 h1 h2 h3 h4 E J O W Z C
 clear aI
 intro bb c8 ai aJ au br
 have bt := nb_new ai E.lt
 have bu := nb_new ai J.lt
 have aK := nb_new ai O.lt
 have bv := gb_new ai C.size
 replace ⟨h1, h2, h3, h4, E, J, O, W, Z, C⟩ := (se [ah, ab, V] aJ).g10 h1 h2 h3 h4 E J O W Z C
 clear aJ br ai
 refine .d fun c9 aL => ?_
 replace ⟨h1, h2, h3, h4, E, J, O, W, Z, au, C⟩ := (se [ah, ab, V] aL).g11 h1 h2 h3 h4 E J O W Z au C
 clear aL
 replace h1 := h1.outof
 replace h2 := h2.outof
 replace h3 := h3.outof
 replace h4 := h4.outof
 have ay : nin (fo F w.heap.size) [ah, ab, V] bb ∧ bb ≠ ah := hap_mk (.inr bv) (all_cons aK (all_cons bu (all_cons bt all_nil))) aK
 refine RG.append1 (T := 27) (ty := 27) (y := (pMerge ax al)) O au (by kernel_rfl) (by kernel_rfl) ⟨_, _, _, _, _, _, rfl, W.oi, Z.oi⟩ ay (by omega) fun bc da db aj ac aM => ?_
 have bw := nb_or ac aB E.lt
 have bz := nb_or ac bS J.lt
 have bA := gb_or ac bT C.size
 have cp := cov_or ac bU C.size
 replace ⟨h1, h2, h3, h4, E, J, C⟩ := (sa [ah, ab, V] aM ac).g7 h1 h2 h3 h4 E J C
 clear aM
 replace aj := aj.rn ah
 clear ac
 have cq := aj.len; have cr := aj.max
 refine .r 1 <| .d <| .s <| .g <| .r 2 <| .lb E <| .r 1 <| RG.int (at_ + 2) (by kernel_rfl) (by grind [inR]) <| RG.sub (t := 27) (lo := some (vI (at_ + 2))) (hi := none) h3 ((at_ + 2).toNat) s.parts.length (by kernel_rfl) (by kernel_rfl) (.inr ⟨_, _, rfl, by omega⟩) (.inl ⟨rfl, rfl⟩) (by grind [inR]) (by grind [inR]) fun dd de aN => ?_
 have cu := aN.len; have cv := aN.max
 refine RG.appendN (T := 27) (ty := 27) aj aN (by kernel_rfl) (by kernel_rfl) (fun b _ h => own_in (.head _) h) (by omega) fun am bd df aa ae aO => ?_
 have cw := nb_or ae bw E.lt
 have cx := nb_or ae bz J.lt
 have bB := gb_or ae bA C.size
 replace ⟨h1, h2, h4, E, J, C⟩ := (sa [bc, ab, V] aO ae).g6 h1 h2 h4 E J C
 clear aO
 replace aa := aa.rn bc
 clear ae
 have cy := aa.len; have cz := aa.max
 refine .r 1 <| .ss 2 (vS am (0 + ((at_).toNat - 0) + 1 + (s.parts.length - (at_ + 2).toNat)) bd) E fun dg aP bC bD => ?_
 replace ⟨h1, h2, h4, J, aa, C⟩ := (so [am, ab, V] aP).g6 h1 h2 h4 J aa C
 clear aP bD
 refine .d <| .s <| .g <| .ln bC <| .sc [.slice a1 s.idx.names.length c1, .slice a2 s.idx.posts.length c2, vS am (0 + ((at_).toNat - 0) + 1 + (s.parts.length - (at_ + 2).toNat)) bd, .slice a4 s.mem.length c4] J fun b6 aQ bE bF => ?_
 replace ⟨h1, h2, h4, aa, C⟩ := (so [am, ab, V] aQ).g5 h1 h2 h4 aa C
 clear aQ bF
 refine .r 1 <| .d ?_
 have b7 := aa.sl (.inr bB)
 replace ⟨h1, h2, h4⟩ := (sd b6 [am, ab, V] am).g3 h1 h2 h4
 exact .r2 Tryz.func94 Tryz.results94 (.bx bE) (.t (.bool true)) ⟨⟨_, (tup2 rfl (congrArg Value.bool (by first | rw [mergeR_f (by assumption)] | rw [mergeR_t (by assumption) (by assumption) (by assumption)]))), (VS.of (y := (⟨(⟨s.idx.names, s.idx.posts⟩ : Idx), ((([] ++ ((s.parts.take ((at_).toNat)).drop 0)) ++ [(pMerge ax al)]) ++ ((s.parts.take s.parts.length).drop ((at_ + 2).toNat))), s.mem⟩ : Sto)) ⟨_, rfl, ⟨_, _, _, _, _, _, _, _, _, _, _, _, rfl, h1.w1, h2.w1, b7.w1, h4.w1⟩⟩ (by first | rw [mergeR_f (by assumption)] | rw [mergeR_t (by assumption) (by assumption) (by assumption)]))⟩, C⟩
theorem c_spec_l13Add (s : Sto) (n : List Tag) (r : Row) {w : World} {F : Nat → Prop} {a1 : Option Addr} {n1 c1 : Nat} (h1 : RepS w F a1 n1 c1 s.idx.names) {a2 : Option Addr} {n2 c2 : Nat} (h2 : RepS w F a2 n2 c2 s.idx.posts) {a3 : Option Addr} {n3 c3 : Nat} (h3 : RepS w F a3 n3 c3 s.parts) {a4 : Option Addr} {n4 c4 : Nat} (h4 : RepS w F a4 n4 c4 s.mem) {a5 : Option Addr} {n5 c5 : Nat} (h5 : RepS w F a5 n5 c5 n) (p0 : StoSz s) (p1 : NmSz n) : Calls Tryz.prog 17 [.agg #[.slice a1 n1 c1, .slice a2 n2 c2, .slice a3 n3 c3, .slice a4 n4 c4], .slice a5 n5 c5, .agg #[.int .i64 r.t, .int .i64 r.v]].toArray w (rets fun rv w' => (∃ v0, rv = .tuple #[v0, .bool ((addS s n r).2)] ∧ VS (fo F w.heap.size) w' ((addS s n r).1 : Sto) v0) ∧ Ext w w') := by
 refine goT Tryz.func17 ?_
 obtain ⟨rfl, fY, h1⟩ := h1.tp
 obtain ⟨rfl, fZ, h2⟩ := h2.tp
 obtain ⟨rfl, f0, h3⟩ := h3.tp
 obtain ⟨rfl, f3, h4⟩ := h4.tp
 obtain ⟨rfl, f4, h5⟩ := h5.tp
 refine .s <| .g <| .np 30 [.slice a1 s.idx.names.length c1, .slice a2 s.idx.posts.length c2, .slice a3 s.parts.length c3, .slice a4 s.mem.length c4] fun ac hE cC bL E eK => ?_
 replace ⟨h1, h2, h3, h4, h5⟩ := (sn [] bL cC).g5 h1 h2 h3 h4 h5
 have C := bL
 clear bL eK cC
 refine .np 33 [vI r.t, vI r.v] fun ae hH cD cE O eL => ?_
 replace ⟨h1, h2, h3, h4, h5, E, C⟩ := (sn [ac] cE cD).g7 h1 h2 h3 h4 h5 E C
 clear cE eL cD
 refine .np 30 [.slice none 0 0, .slice none 0 0, .slice none 0 0, .slice none 0 0] fun af eM aY cF V eN => ?_
 have f5 := nb_new aY E.lt
 have f6 := nb_new aY O.lt
 have f7 := C.cn aY
 replace ⟨h1, h2, h3, h4, h5, E, O, C⟩ := (sn [ae, ac] cF aY).g8 h1 h2 h3 h4 h5 E O C
 clear cF eN aY
 refine .r 1 <| .d <| .s <| .g <| .r 1 <| .ln E <| .r 1 <| .cl (c_spec_l11Add s.idx n h1 h2 h5 p0.1 p1 (w := eM) (F := nin (fo F w.heap.size) [af, ae, ac])) ?_
 rintro hJ hN ⟨⟨hO, rfl, ⟨_, rfl, ⟨bc, hP, bd, bg, hQ, bh, rfl, Z, aa⟩⟩⟩, cG⟩
 have bM := al3 V.lt O.lt E.lt
 have cH : Gb w.heap.size eM.heap.size := C.size
 replace ⟨h1, h2, h3, h4, E, O, V, C⟩ := (se [af, ae, ac] cG).g8 h1 h2 h3 h4 E O V C
 clear cG
 replace Z := RepS.mixed' (M := [af, ae, ac]) Z bM cH
 have f8 := Z.max
 replace aa := RepS.mixed' (M := [af, ae, ac]) aa bM cH
 have f9 := aa.max
 clear bM
 have eO := Z.len
 subst eO
 have eP := aa.len
 subst eP
 refine .r 3 ?_
 cases ga : (addR s.idx n).2.2
 · refine .r 1 <| .np 26 [.slice none 0 0, .slice none 0 0] fun eQ hV aR cI eR eS => ?_
   have gb := nb_new aR E.lt
   have gf := nb_new aR O.lt
   have gg := nb_new aR V.lt
   have gh := C.cn aR
   replace ⟨h1, h2, h3, h4, E, O, V, Z, aa, C⟩ := (sn [af, ae, ac] cI aR).g10 h1 h2 h3 h4 E O V Z aa C
   clear cI eS aR
   refine .sc [.slice bc ((((addR s.idx n).1).names).length) bd, .slice bg ((((addR s.idx n).1).posts).length) bh] eR fun hW cJ gi eT => ?_
   replace ⟨h1, h2, h3, h4, E, O, V, Z, aa, C⟩ := (so [eQ, af, ae, ac] cJ).g10 h1 h2 h3 h4 E O V Z aa C
   clear cJ eT
   refine .r 2 <| .d <| .s <| .s <| .g <| .r 13 <| .d <| .ct <| .s <| .g <| .ln E <| .sc [.slice a1 s.idx.names.length c1, .slice a2 s.idx.posts.length c2, .slice a3 s.parts.length c3, .slice a4 s.mem.length c4] V fun hX cK eU eV => ?_
   replace ⟨h1, h2, h3, h4, E, O, Z, aa, C⟩ := (so [eQ, af, ae, ac] cK).g9 h1 h2 h3 h4 E O Z aa C
   clear cK eV
   exact .r 1 <| .d <| .r2 Tryz.func17 Tryz.results17 (.bx eU) (.t (.bool false)) ⟨⟨_, (tup2 rfl (congrArg Value.bool (by first | rw [addS_1 (by assumption)] | rw [addS_2 (by assumption)] | rw [addS_3 (by assumption)] | rw [addS_4 (by assumption) (by assumption) (by assumption) (by assumption)] | (rw [addS_5 (by assumption) (by assumption) (by assumption) (by assumption)] <;> rfl)))), (VS.of (y := s) ⟨_, rfl, ⟨_, _, _, _, _, _, _, _, _, _, _, _, rfl, h1.w1, h2.w1, h3.w1, h4.w1⟩⟩ (by first | rw [addS_1 (by assumption)] | rw [addS_2 (by assumption)] | rw [addS_3 (by assumption)] | rw [addS_4 (by assumption) (by assumption) (by assumption) (by assumption)] | (rw [addS_5 (by assumption) (by assumption) (by assumption) (by assumption)] <;> rfl)))⟩, C⟩
 refine .r 1 <| .np 26 [.slice none 0 0, .slice none 0 0] fun ag hY aS cL eW cV => ?_
 have fd := nb_new aS E.lt
 have fe := nb_new aS O.lt
 have ff := nb_new aS V.lt
 have fg := C.cn aS
 replace ⟨h1, h2, h3, h4, E, O, V, Z, aa, C⟩ := (sn [af, ae, ac] cL aS).g10 h1 h2 h3 h4 E O V Z aa C
 clear cL cV aS
 refine .sc [.slice bc ((((addR s.idx n).1).names).length) bd, .slice bg ((((addR s.idx n).1).posts).length) bh] eW fun eX bN J cW => ?_
 replace ⟨h1, h2, h3, h4, E, O, V, Z, aa, C⟩ := (so [ag, af, ae, ac] bN).g10 h1 h2 h3 h4 E O V Z aa C
 clear bN cW
 refine .r 2 <| .d <| .s <| .s <| .g <| .r 3 <| .ln O <| .cl (c_spec_l2Row r (w := eX) (F := all)) ?_
 rintro gj gk ⟨rfl, bO⟩
 replace ⟨h1, h2, h3, h4, E, O, V, Z, aa, J, C⟩ := (se [ag, af, ae, ac] bO).g11 h1 h2 h3 h4 E O V Z aa J C
 clear bO
 cases fh : (rowOk r)
 · refine .r 8 <| .d <| .ct <| .s <| .g <| .ln E <| .sc [.slice a1 s.idx.names.length c1, .slice a2 s.idx.posts.length c2, .slice a3 s.parts.length c3, .slice a4 s.mem.length c4] V fun gl bP cX cY => ?_
   replace ⟨h1, h2, h3, h4, E, O, Z, aa, J, C⟩ := (so [ag, af, ae, ac] bP).g10 h1 h2 h3 h4 E O Z aa J C
   clear bP cY
   exact .r 1 <| .d <| .r2 Tryz.func17 Tryz.results17 (.bx cX) (.t (.bool false)) ⟨⟨_, (tup2 rfl (congrArg Value.bool (by first | rw [addS_1 (by assumption)] | rw [addS_2 (by assumption)] | rw [addS_3 (by assumption)] | rw [addS_4 (by assumption) (by assumption) (by assumption) (by assumption)] | (rw [addS_5 (by assumption) (by assumption) (by assumption) (by assumption)] <;> rfl)))), (VS.of (y := s) ⟨_, rfl, ⟨_, _, _, _, _, _, _, _, _, _, _, _, rfl, h1.w1, h2.w1, h3.w1, h4.w1⟩⟩ (by first | rw [addS_1 (by assumption)] | rw [addS_2 (by assumption)] | rw [addS_3 (by assumption)] | rw [addS_4 (by assumption) (by assumption) (by assumption) (by assumption)] | (rw [addS_5 (by assumption) (by assumption) (by assumption) (by assumption)] <;> rfl)))⟩, C⟩
 refine .r 4 <| .lb E <| .r 1 <| .bp ((s.mem.length : Int) ≥ 20) (fun cZ => ?_) (fun cZ => ?_)
 · refine .r 1 <| .d <| .ct <| .s <| .g <| .ln E <| .sc [.slice a1 s.idx.names.length c1, .slice a2 s.idx.posts.length c2, .slice a3 s.parts.length c3, .slice a4 s.mem.length c4] V fun gm bQ c7 c8 => ?_
   replace ⟨h1, h2, h3, h4, E, O, Z, aa, J, C⟩ := (so [ag, af, ae, ac] bQ).g10 h1 h2 h3 h4 E O Z aa J C
   clear bQ c8
   exact .r 1 <| .d <| .r2 Tryz.func17 Tryz.results17 (.bx c7) (.t (.bool false)) ⟨⟨_, (tup2 rfl (congrArg Value.bool (by first | rw [addS_1 (by assumption)] | rw [addS_2 (by assumption)] | rw [addS_3 (by assumption)] | rw [addS_4 (by assumption) (by assumption) (by assumption) (by assumption)] | (rw [addS_5 (by assumption) (by assumption) (by assumption) (by assumption)] <;> rfl)))), (VS.of (y := s) ⟨_, rfl, ⟨_, _, _, _, _, _, _, _, _, _, _, _, rfl, h1.w1, h2.w1, h3.w1, h4.w1⟩⟩ (by first | rw [addS_1 (by assumption)] | rw [addS_2 (by assumption)] | rw [addS_3 (by assumption)] | rw [addS_4 (by assumption) (by assumption) (by assumption) (by assumption)] | (rw [addS_5 (by assumption) (by assumption) (by assumption) (by assumption)] <;> rfl)))⟩, C⟩
 refine .r 1 <| .d <| .cf <| .sk <| .s <| .g <| .ln E <| .np 30 [.slice none 0 0, .slice none 0 0, .slice none 0 0, .slice none 0 0] fun ab gn aF bR c9 da => ?_
 have fi := nb_new aF E.lt
 have fj := nb_new aF O.lt
 have fk := nb_new aF V.lt
 have fl := nb_new aF J.lt
 have fm := C.cn aF
 replace ⟨h1, h2, h3, h4, E, O, V, Z, aa, J, C⟩ := (sn [ag, af, ae, ac] bR aF).g11 h1 h2 h3 h4 E O V Z aa J C
 clear bR da aF
 refine .sc [.slice a1 s.idx.names.length c1, .slice a2 s.idx.posts.length c2, .slice a3 s.parts.length c3, .slice a4 s.mem.length c4] c9 fun gp bS db dd => ?_
 replace ⟨h1, h2, h3, h4, E, O, V, Z, aa, J, C⟩ := (so [ab, ag, af, ae, ac] bS).g11 h1 h2 h3 h4 E O V Z aa J C
 clear bS dd
 refine .d <| .s <| .g <| .ln J <| .r 1 <| .sb 0 (.agg #[.slice bc ((((addR s.idx n).1).names).length) bd, .slice bg ((((addR s.idx n).1).posts).length) bh]) [.slice bc ((((addR s.idx n).1).names).length) bd, .slice bg ((((addR s.idx n).1).posts).length) bh, .slice a3 s.parts.length c3, .slice a4 s.mem.length c4] db fun aQ bT W de => ?_
 replace ⟨h1, h2, h3, h4, E, O, V, Z, aa, J, C⟩ := (so [ab, ag, af, ae, ac] bT).g11 h1 h2 h3 h4 E O V Z aa J C
 clear bT de
 refine .d <| .s ?_
 replace h1 := h1.into
 replace h2 := h2.into
 replace h3 := h3.into
 replace h4 := h4.into
 replace Z := Z.into
 replace aa := aa.into
 have df : Gb (ac + 1) aQ.heap.size := E.lt
 have dg : Gb (ae + 1) aQ.heap.size := O.lt
 refine .gd (mtb [] aQ.heap.size) 8 fun eY bi => ?_
 replace ⟨h1, h2, h3, h4, E, O, V, Z, aa, J, W, C⟩ := (se [ab, ag, af, ae, ac] bi).g12 h1 h2 h3 h4 E O V Z aa J W C
 have ah : Chg (mtb [] aQ.heap.size) aQ eY := Chg.stepN (Chg.refl (mtb [] aQ.heap.size) aQ) bi
 clear bi
 refine .r [1] <| .lb 2 E (nS_of all_nil df) <| .r [4] <| .ln 5 O (nS_of all_nil dg) <| .r [6] <| .tw 0 7 ?_ ?_
 · refine .ns 0 62 [] fun gq bj => ?_
   replace ⟨h1, h2, h3, h4, E, O, V, Z, aa, J, W, C⟩ := (se [ab, ag, af, ae, ac] bj).g12 h1 h2 h3 h4 E O V Z aa J W C
   replace ah := (se [ab, ag, af, ae, ac] bj).g1 ah
   clear bj
   intro ao eZ aw bk dh di
   have bU := nb_new aw E.lt
   have bV := nb_new aw O.lt
   have bW := nb_new aw V.lt
   have bX := nb_new aw J.lt
   have bY := nb_new aw W.lt
   have bZ := gb_new aw C.size
   have b0 := C.cn aw
   have b6 := ah.cn aw
   replace ⟨h1, h2, h3, h4, E, O, V, Z, aa, J, W, C⟩ := (sn [ab, ag, af, ae, ac] bk aw).g12 h1 h2 h3 h4 E O V Z aa J W C
   replace ah := (sn [ab, ag, af, ae, ac] bk aw).g1 ah
   clear bk di aw
   have ax : Own (α := Smp) eZ ao 62 (nin (fo F w.heap.size) [ao, ab, ag, af, ae, ac]) 0 0 [] := Own.nil' dh
   refine .tw 3 7 ?_ ?_
   · refine GE.append (T := 28) (ty := 28) (args := [vS ao 0 0, .slice a4 s.mem.length c4]) (by kernel_rfl) fun gr bm => ?_
     replace ⟨h1, h2, h3, h4, E, O, V, Z, aa, J, W, ax⟩ := (se [ao, ab, ag, af, ae, ac] bm).g12 h1 h2 h3 h4 E O V Z aa J W ax
     replace ⟨C, ah⟩ := (se [ao, ab, ag, af, ae, ac] bm).g2 C ah
     clear bm
     obtain ⟨aE, gs, gt, b7, au, ar, aV, dj⟩ := Own.appendF (P := Tryz.prog) (T := 28) (ty := 28) flat_smp ax (by kernel_rfl) h4 (fun b h e => h.2 (e ▸ (.head _))) (by have := p0.2.2.2; omega)
     refine ⟨_, _, b7, Chg.toS aV (Cov.toS b6), ?_⟩
     clear dj
     have dk := nb_or ar bU E.lt
     have dm := nb_or ar bV O.lt
     have dp := nb_or ar bW V.lt
     have dq := nb_or ar bX J.lt
     have dr := nb_or ar bY W.lt
     have dt := gb_or ar bZ C.size
     have fp := cov_or ar b0 C.size
     replace ⟨h1, h2, h3, h4, E, O, V, Z, aa, J, W, C⟩ := (sa [ao, ab, ag, af, ae, ac] aV ar).g12 h1 h2 h3 h4 E O V Z aa J W C
     replace ah := (sa [ao, ab, ag, af, ae, ac] aV ar).g1 ah
     clear aV
     replace au := au.rn ao
     clear ar
     have fq := au.len; have ft := au.max
     refine .go 7 <| .ns 1 62 [vI ((addR s.idx n).2.1), vI r.t, vI r.v] fun gu bn => ?_
     replace ⟨h1, h2, h3, h4, E, O, V, Z, aa, J, W, au⟩ := (se [aE, ab, ag, af, ae, ac] bn).g12 h1 h2 h3 h4 E O V Z aa J W au
     replace ⟨C, ah⟩ := (se [aE, ab, ag, af, ae, ac] bn).g2 C ah
     clear bn
     intro cM gv aB bo bq du
     have dv := nb_new aB E.lt
     have dw := nb_new aB O.lt
     have dx := nb_new aB V.lt
     have dy := nb_new aB J.lt
     have dz := nb_new aB W.lt
     have b8 := nb_new aB au.lt
     have dA := gb_new aB C.size
     replace ⟨h1, h2, h3, h4, E, O, V, Z, aa, J, W, au⟩ := (se [aE, ab, ag, af, ae, ac] bo).g12 h1 h2 h3 h4 E O V Z aa J W au
     replace ⟨C, ah⟩ := (se [aE, ab, ag, af, ae, ac] bo).g2 C ah
     clear bo du aB
     refine .d fun gw br => ?_
     replace ⟨h1, h2, h3, h4, E, O, V, Z, aa, J, W, au⟩ := (se [aE, ab, ag, af, ae, ac] br).g12 h1 h2 h3 h4 E O V Z aa J W au
     replace ⟨bq, C, ah⟩ := (se [aE, ab, ag, af, ae, ac] br).g3 bq C ah
     clear br
     replace h1 := h1.outof
     replace h2 := h2.outof
     replace h3 := h3.outof
     replace h4 := h4.outof
     replace Z := Z.outof
     replace aa := aa.outof
     have bI : nin (fo F w.heap.size) [aE, ab, ag, af, ae, ac] cM ∧ cM ≠ aE := hap_mk (.inr dA) (all_cons b8 (all_cons dz (all_cons dy (all_cons dx (all_cons dw (all_cons dv all_nil)))))) b8
     refine RG.append1 (T := 28) (ty := 28) (y := (⟨(addR s.idx n).2.1, (⟨r.t, r.v⟩ : Row)⟩ : Smp)) au bq (by kernel_rfl) (by kernel_rfl) rfl bI (by have := p0.2.2.2; omega) fun aM cN gx ai ay b9 => ?_
     have fu := nb_or ay dk E.lt
     have fv := nb_or ay dm O.lt
     have fw := nb_or ay dp V.lt
     have fx := nb_or ay dq J.lt
     have fy := nb_or ay dr W.lt
     have dB := gb_or ay dt C.size
     replace ⟨h1, h2, h3, h4, E, O, V, Z, aa, J, W, C⟩ := (sa [aE, ab, ag, af, ae, ac] b9 ay).g12 h1 h2 h3 h4 E O V Z aa J W C
     clear b9
     replace ai := ai.rn aE
     clear ay
     have fz := ai.len; have fA := ai.max
     refine .r 1 <| .ss 3 (vS aM (0 + s.mem.length + 1) cN) W fun cO cd aG dC => ?_
     replace ⟨h1, h2, h3, h4, E, O, V, Z, aa, J, ai, C⟩ := (so [aM, ab, ag, af, ae, ac] cd).g12 h1 h2 h3 h4 E O V Z aa J ai C
     clear cd dC
     refine .d <| .s <| .s <| .g <| .ln aG <| .r 1 <| .cl (c_spec_l13Rows (⟨(⟨((addR s.idx n).1).names, ((addR s.idx n).1).posts⟩ : Idx), s.parts, (([] ++ s.mem) ++ [(⟨(addR s.idx n).2.1, (⟨r.t, r.v⟩ : Row)⟩ : Smp)])⟩ : Sto) ((addR s.idx n).2.1) Z.ta aa.ta h3.ta (ai.rep) p0.2.1 p0.2.2.1 (by have := p0.2.2.2; simp; omega) (w := cO) (F := all)) ?_
     rintro gy gz ⟨⟨gA, gC, rfl, aZ⟩, bt⟩
     have ce := al6 ai.lt aG.lt J.lt V.lt O.lt E.lt
     have dD : Gb w.heap.size cO.heap.size := C.size
     replace ⟨h1, h2, h3, h4, E, O, V, Z, aa, J, aG, ai⟩ := (se [aM, ab, ag, af, ae, ac] bt).g12 h1 h2 h3 h4 E O V Z aa J aG ai
     replace C := (se [aM, ab, ag, af, ae, ac] bt).g1 C
     clear bt
     have aZ := aZ.fr ce dD
     replace aZ := aZ.base (G' := fo F w.heap.size) (fun _ _ h => .inr h)
     have fB := aZ.max
     clear ce
     refine .r 1 <| .bp ((((rowsOf (⟨(⟨((addR s.idx n).1).names, ((addR s.idx n).1).posts⟩ : Idx), s.parts, (([] ++ s.mem) ++ [(⟨(addR s.idx n).2.1, (⟨r.t, r.v⟩ : Row)⟩ : Smp)])⟩ : Sto) ((addR s.idx n).2.1)).length) : Int) > 24) (fun dE => ?_) (fun dE => ?_)
     · refine .d <| .ct <| .s <| .g <| .ln E <| .sc [.slice a1 s.idx.names.length c1, .slice a2 s.idx.posts.length c2, .slice a3 s.parts.length c3, .slice a4 s.mem.length c4] V fun gD cg dF dG => ?_
       replace ⟨h1, h2, h3, h4, E, O, Z, aa, J, aG, ai, C⟩ := (so [aM, ab, ag, af, ae, ac] cg).g12 h1 h2 h3 h4 E O Z aa J aG ai C
       clear cg dG
       exact .r 1 <| .d <| .r2 Tryz.func17 Tryz.results17 (.bx dF) (.t (.bool false)) ⟨⟨_, (tup2 rfl (congrArg Value.bool (by first | rw [addS_1 (by assumption)] | rw [addS_2 (by assumption)] | rw [addS_3 (by assumption)] | rw [addS_4 (by assumption) (by assumption) (by assumption) (by assumption)] | (rw [addS_5 (by assumption) (by assumption) (by assumption) (by assumption)] <;> rfl)))), (VS.of (y := s) ⟨_, rfl, ⟨_, _, _, _, _, _, _, _, _, _, _, _, rfl, h1.w1, h2.w1, h3.w1, h4.w1⟩⟩ (by first | rw [addS_1 (by assumption)] | rw [addS_2 (by assumption)] | rw [addS_3 (by assumption)] | rw [addS_4 (by assumption) (by assumption) (by assumption) (by assumption)] | (rw [addS_5 (by assumption) (by assumption) (by assumption) (by assumption)] <;> rfl)))⟩, C⟩
     refine .d <| .cf <| .sk <| .s <| .g <| .ln aG <| .sc [.slice bc ((((addR s.idx n).1).names).length) bd, .slice bg ((((addR s.idx n).1).posts).length) bh, .slice a3 s.parts.length c3, vS aM (0 + s.mem.length + 1) cN] V fun e0 ci dH dI => ?_
     replace ⟨h1, h2, h3, h4, E, O, Z, aa, J, ai, C⟩ := (so [aM, ab, ag, af, ae, ac] ci).g11 h1 h2 h3 h4 E O Z aa J ai C
     clear ci dI
     refine .r 1 <| .d ?_
     have e7 := ai.sl (.inr dB)
     replace ⟨h1, h2, h3, h4, Z, aa⟩ := (sd e0 [aM, ab, ag, af, ae, ac] aM).g6 h1 h2 h3 h4 Z aa
     exact .r2 Tryz.func17 Tryz.results17 (.bx dH) (.t (.bool true)) ⟨⟨_, (tup2 rfl (congrArg Value.bool (by first | rw [addS_1 (by assumption)] | rw [addS_2 (by assumption)] | rw [addS_3 (by assumption)] | rw [addS_4 (by assumption) (by assumption) (by assumption) (by assumption)] | (rw [addS_5 (by assumption) (by assumption) (by assumption) (by assumption)] <;> rfl)))), (VS.of (y := (⟨(⟨((addR s.idx n).1).names, ((addR s.idx n).1).posts⟩ : Idx), s.parts, (([] ++ s.mem) ++ [(⟨(addR s.idx n).2.1, (⟨r.t, r.v⟩ : Row)⟩ : Smp)])⟩ : Sto)) ⟨_, rfl, ⟨_, _, _, _, _, _, _, _, _, _, _, _, rfl, Z.w1, aa.w1, h3.w1, e7.w1⟩⟩ (by first | rw [addS_1 (by assumption)] | rw [addS_2 (by assumption)] | rw [addS_3 (by assumption)] | rw [addS_4 (by assumption) (by assumption) (by assumption) (by assumption)] | (rw [addS_5 (by assumption) (by assumption) (by assumption) (by assumption)] <;> rfl)))⟩, C⟩
   refine .ns 1 62 [vI ((addR s.idx n).2.1), vI r.t, vI r.v] fun gE bu => ?_
   replace ⟨h1, h2, h3, h4, E, O, V, Z, aa, J, W, ax⟩ := (se [ao, ab, ag, af, ae, ac] bu).g12 h1 h2 h3 h4 E O V Z aa J W ax
   replace ⟨C, ah⟩ := (se [ao, ab, ag, af, ae, ac] bu).g2 C ah
   clear bu
   intro cP gF aC bv aD dJ
   have dK := nb_new aC E.lt
   have dL := nb_new aC O.lt
   have dM := nb_new aC V.lt
   have dN := nb_new aC J.lt
   have dO := nb_new aC W.lt
   have dP := nb_new aC ax.lt
   have dQ := gb_new aC C.size
   replace ⟨h1, h2, h3, h4, E, O, V, Z, aa, J, W, ax⟩ := (se [ao, ab, ag, af, ae, ac] bv).g12 h1 h2 h3 h4 E O V Z aa J W ax
   replace ⟨C, ah⟩ := (se [ao, ab, ag, af, ae, ac] bv).g2 C ah
   clear bv dJ aC
   refine .go 3 <| GE.append (T := 28) (ty := 28) (args := [vS ao 0 0, .slice a4 s.mem.length c4]) (by kernel_rfl) fun gG bw => ?_
   replace ⟨h1, h2, h3, h4, E, O, V, Z, aa, J, W, ax⟩ := (se [ao, ab, ag, af, ae, ac] bw).g12 h1 h2 h3 h4 E O V Z aa J W ax
   replace ⟨aD, C, ah⟩ := (se [ao, ab, ag, af, ae, ac] bw).g3 aD C ah
   clear bw
   obtain ⟨aT, gH, gI, cj, aH, al, aW, dR⟩ := Own.appendF (P := Tryz.prog) (T := 28) (ty := 28) flat_smp ax (by kernel_rfl) h4 (fun b h e => h.2 (e ▸ (.head _))) (by have := p0.2.2.2; omega)
   refine ⟨_, _, cj, Chg.toS aW (Cov.toS b6), ?_⟩
   clear dR
   have dS := nb_or al bU E.lt
   have dT := nb_or al bV O.lt
   have dU := nb_or al bW V.lt
   have dV := nb_or al bX J.lt
   have dW := nb_or al bY W.lt
   have ck := nb_or al (Nb.symm dP) aD.lt
   have dX := gb_or al bZ C.size
   have fC := cov_or al b0 C.size
   replace ⟨h1, h2, h3, h4, E, O, V, Z, aa, J, W, aD⟩ := (sa [ao, ab, ag, af, ae, ac] aW al).g12 h1 h2 h3 h4 E O V Z aa J W aD
   replace ⟨C, ah⟩ := (sa [ao, ab, ag, af, ae, ac] aW al).g2 C ah
   clear aW
   replace aH := aH.rn ao
   clear al
   have fD := aH.len; have fE := aH.max
   refine .d fun gJ bz => ?_
   replace ⟨h1, h2, h3, h4, E, O, V, Z, aa, J, W, aH⟩ := (se [aT, ab, ag, af, ae, ac] bz).g12 h1 h2 h3 h4 E O V Z aa J W aH
   replace ⟨aD, C, ah⟩ := (se [aT, ab, ag, af, ae, ac] bz).g3 aD C ah
   clear bz
   replace h1 := h1.outof
   replace h2 := h2.outof
   replace h3 := h3.outof
   replace h4 := h4.outof
   replace Z := Z.outof
   replace aa := aa.outof
   have bJ : nin (fo F w.heap.size) [aT, ab, ag, af, ae, ac] cP ∧ cP ≠ aT := hap_mk (.inr dQ) (all_cons (Nb.symm ck) (all_cons dO (all_cons dN (all_cons dM (all_cons dL (all_cons dK all_nil)))))) (Nb.symm ck)
   refine RG.append1 (T := 28) (ty := 28) (y := (⟨(addR s.idx n).2.1, (⟨r.t, r.v⟩ : Row)⟩ : Smp)) aH aD (by kernel_rfl) (by kernel_rfl) rfl bJ (by have := p0.2.2.2; omega) fun aN cQ gK aj az cm => ?_
   have fF := nb_or az dS E.lt
   have fG := nb_or az dT O.lt
   have fH := nb_or az dU V.lt
   have fI := nb_or az dV J.lt
   have fJ := nb_or az dW W.lt
   have dY := gb_or az dX C.size
   replace ⟨h1, h2, h3, h4, E, O, V, Z, aa, J, W, C⟩ := (sa [aT, ab, ag, af, ae, ac] cm az).g12 h1 h2 h3 h4 E O V Z aa J W C
   clear cm
   replace aj := aj.rn aT
   clear az
   have fK := aj.len; have fL := aj.max
   refine .r 1 <| .ss 3 (vS aN (0 + s.mem.length + 1) cQ) W fun cR co aI dZ => ?_
   replace ⟨h1, h2, h3, h4, E, O, V, Z, aa, J, aj, C⟩ := (so [aN, ab, ag, af, ae, ac] co).g12 h1 h2 h3 h4 E O V Z aa J aj C
   clear co dZ
   refine .d <| .s <| .s <| .g <| .ln aI <| .r 1 <| .cl (c_spec_l13Rows (⟨(⟨((addR s.idx n).1).names, ((addR s.idx n).1).posts⟩ : Idx), s.parts, (([] ++ s.mem) ++ [(⟨(addR s.idx n).2.1, (⟨r.t, r.v⟩ : Row)⟩ : Smp)])⟩ : Sto) ((addR s.idx n).2.1) Z.ta aa.ta h3.ta (aj.rep) p0.2.1 p0.2.2.1 (by have := p0.2.2.2; simp; omega) (w := cR) (F := all)) ?_
   rintro gL gM ⟨⟨gN, gO, rfl, ba⟩, bA⟩
   have cp := al6 aj.lt aI.lt J.lt V.lt O.lt E.lt
   have d0 : Gb w.heap.size cR.heap.size := C.size
   replace ⟨h1, h2, h3, h4, E, O, V, Z, aa, J, aI, aj⟩ := (se [aN, ab, ag, af, ae, ac] bA).g12 h1 h2 h3 h4 E O V Z aa J aI aj
   replace C := (se [aN, ab, ag, af, ae, ac] bA).g1 C
   clear bA
   have ba := ba.fr cp d0
   replace ba := ba.base (G' := fo F w.heap.size) (fun _ _ h => .inr h)
   have fM := ba.max
   clear cp
   refine .r 1 <| .bp ((((rowsOf (⟨(⟨((addR s.idx n).1).names, ((addR s.idx n).1).posts⟩ : Idx), s.parts, (([] ++ s.mem) ++ [(⟨(addR s.idx n).2.1, (⟨r.t, r.v⟩ : Row)⟩ : Smp)])⟩ : Sto) ((addR s.idx n).2.1)).length) : Int) > 24) (fun d3 => ?_) (fun d3 => ?_)
   · refine .d <| .ct <| .s <| .g <| .ln E <| .sc [.slice a1 s.idx.names.length c1, .slice a2 s.idx.posts.length c2, .slice a3 s.parts.length c3, .slice a4 s.mem.length c4] V fun gP cq d4 d5 => ?_
     replace ⟨h1, h2, h3, h4, E, O, Z, aa, J, aI, aj, C⟩ := (so [aN, ab, ag, af, ae, ac] cq).g12 h1 h2 h3 h4 E O Z aa J aI aj C
     clear cq d5
     exact .r 1 <| .d <| .r2 Tryz.func17 Tryz.results17 (.bx d4) (.t (.bool false)) ⟨⟨_, (tup2 rfl (congrArg Value.bool (by first | rw [addS_1 (by assumption)] | rw [addS_2 (by assumption)] | rw [addS_3 (by assumption)] | rw [addS_4 (by assumption) (by assumption) (by assumption) (by assumption)] | (rw [addS_5 (by assumption) (by assumption) (by assumption) (by assumption)] <;> rfl)))), (VS.of (y := s) ⟨_, rfl, ⟨_, _, _, _, _, _, _, _, _, _, _, _, rfl, h1.w1, h2.w1, h3.w1, h4.w1⟩⟩ (by first | rw [addS_1 (by assumption)] | rw [addS_2 (by assumption)] | rw [addS_3 (by assumption)] | rw [addS_4 (by assumption) (by assumption) (by assumption) (by assumption)] | (rw [addS_5 (by assumption) (by assumption) (by assumption) (by assumption)] <;> rfl)))⟩, C⟩
   refine .d <| .cf <| .sk <| .s <| .g <| .ln aI <| .sc [.slice bc ((((addR s.idx n).1).names).length) bd, .slice bg ((((addR s.idx n).1).posts).length) bh, .slice a3 s.parts.length c3, vS aN (0 + s.mem.length + 1) cQ] V fun e8 cr d6 d7 => ?_
   replace ⟨h1, h2, h3, h4, E, O, Z, aa, J, aj, C⟩ := (so [aN, ab, ag, af, ae, ac] cr).g11 h1 h2 h3 h4 E O Z aa J aj C
   clear cr d7
   refine .r 1 <| .d ?_
   have e9 := aj.sl (.inr dY)
   replace ⟨h1, h2, h3, h4, Z, aa⟩ := (sd e8 [aN, ab, ag, af, ae, ac] aN).g6 h1 h2 h3 h4 Z aa
   exact .r2 Tryz.func17 Tryz.results17 (.bx d6) (.t (.bool true)) ⟨⟨_, (tup2 rfl (congrArg Value.bool (by first | rw [addS_1 (by assumption)] | rw [addS_2 (by assumption)] | rw [addS_3 (by assumption)] | rw [addS_4 (by assumption) (by assumption) (by assumption) (by assumption)] | (rw [addS_5 (by assumption) (by assumption) (by assumption) (by assumption)] <;> rfl)))), (VS.of (y := (⟨(⟨((addR s.idx n).1).names, ((addR s.idx n).1).posts⟩ : Idx), s.parts, (([] ++ s.mem) ++ [(⟨(addR s.idx n).2.1, (⟨r.t, r.v⟩ : Row)⟩ : Smp)])⟩ : Sto)) ⟨_, rfl, ⟨_, _, _, _, _, _, _, _, _, _, _, _, rfl, Z.w1, aa.w1, h3.w1, e9.w1⟩⟩ (by first | rw [addS_1 (by assumption)] | rw [addS_2 (by assumption)] | rw [addS_3 (by assumption)] | rw [addS_4 (by assumption) (by assumption) (by assumption) (by assumption)] | (rw [addS_5 (by assumption) (by assumption) (by assumption) (by assumption)] <;> rfl)))⟩, C⟩
 refine .ns 1 62 [vI ((addR s.idx n).2.1), vI r.t, vI r.v] fun gQ bB => ?_
 replace ⟨h1, h2, h3, h4, E, O, V, Z, aa, J, W, C⟩ := (se [ab, ag, af, ae, ac] bB).g12 h1 h2 h3 h4 E O V Z aa J W C
 replace ah := (se [ab, ag, af, ae, ac] bB).g1 ah
 clear bB
 intro cS gR aJ bC aq d8
 have d9 := nb_new aJ E.lt
 have ea := nb_new aJ O.lt
 have eb := nb_new aJ V.lt
 have ec := nb_new aJ J.lt
 have ed := nb_new aJ W.lt
 have ee := gb_new aJ C.size
 replace ⟨h1, h2, h3, h4, E, O, V, Z, aa, J, W, C⟩ := (se [ab, ag, af, ae, ac] bC).g12 h1 h2 h3 h4 E O V Z aa J W C
 replace ah := (se [ab, ag, af, ae, ac] bC).g1 ah
 clear bC d8 aJ
 refine .go 0 <| .ns 0 62 [] fun gS bD => ?_
 replace ⟨h1, h2, h3, h4, E, O, V, Z, aa, J, W, aq⟩ := (se [ab, ag, af, ae, ac] bD).g12 h1 h2 h3 h4 E O V Z aa J W aq
 replace ⟨C, ah⟩ := (se [ab, ag, af, ae, ac] bD).g2 C ah
 clear bD
 intro aO fa av bE ef eg
 have eh := nb_new av E.lt
 have ei := nb_new av O.lt
 have ej := nb_new av V.lt
 have ek := nb_new av J.lt
 have em := nb_new av W.lt
 have en := nb_new av aq.lt
 have eo := gb_new av C.size
 have ep := C.cn av
 have es := ah.cn av
 replace ⟨h1, h2, h3, h4, E, O, V, Z, aa, J, W, aq⟩ := (sn [ab, ag, af, ae, ac] bE av).g12 h1 h2 h3 h4 E O V Z aa J W aq
 replace C := (sn [ab, ag, af, ae, ac] bE av).g1 C
 clear bE eg av
 have bF : Own (α := Smp) fa aO 62 (nin (fo F w.heap.size) [aO, ab, ag, af, ae, ac]) 0 0 [] := Own.nil' ef
 refine .go 3 <| GE.append (T := 28) (ty := 28) (args := [vS aO 0 0, .slice a4 s.mem.length c4]) (by kernel_rfl) fun gT bG => ?_
 replace ⟨h1, h2, h3, h4, E, O, V, Z, aa, J, W, aq⟩ := (se [aO, ab, ag, af, ae, ac] bG).g12 h1 h2 h3 h4 E O V Z aa J W aq
 replace ⟨bF, C⟩ := (se [aO, ab, ag, af, ae, ac] bG).g2 bF C
 clear bG
 obtain ⟨aU, gU, gV, cu, aK, am, aX, et⟩ := Own.appendF (P := Tryz.prog) (T := 28) (ty := 28) flat_smp bF (by kernel_rfl) h4 (fun b h e => h.2 (e ▸ (.head _))) (by have := p0.2.2.2; omega)
 refine ⟨_, _, cu, Chg.toS aX (Cov.toS es), ?_⟩
 clear et
 have ew := nb_or am eh E.lt
 have ex := nb_or am ei O.lt
 have ey := nb_or am ej V.lt
 have ez := nb_or am ek J.lt
 have eA := nb_or am em W.lt
 have cv := nb_or am en aq.lt
 have eB := gb_or am eo C.size
 have fN := cov_or am ep C.size
 replace ⟨h1, h2, h3, h4, E, O, V, Z, aa, J, W, aq⟩ := (sa [aO, ab, ag, af, ae, ac] aX am).g12 h1 h2 h3 h4 E O V Z aa J W aq
 replace C := (sa [aO, ab, ag, af, ae, ac] aX am).g1 C
 clear aX
 replace aK := aK.rn aO
 clear am
 have fO := aK.len; have fP := aK.max
 refine .d fun gW bH => ?_
 replace ⟨h1, h2, h3, h4, E, O, V, Z, aa, J, W, aq⟩ := (se [aU, ab, ag, af, ae, ac] bH).g12 h1 h2 h3 h4 E O V Z aa J W aq
 replace ⟨aK, C⟩ := (se [aU, ab, ag, af, ae, ac] bH).g2 aK C
 clear bH
 replace h1 := h1.outof
 replace h2 := h2.outof
 replace h3 := h3.outof
 replace h4 := h4.outof
 replace Z := Z.outof
 replace aa := aa.outof
 have bK : nin (fo F w.heap.size) [aU, ab, ag, af, ae, ac] cS ∧ cS ≠ aU := hap_mk (.inr ee) (all_cons (Nb.symm cv) (all_cons ed (all_cons ec (all_cons eb (all_cons ea (all_cons d9 all_nil)))))) (Nb.symm cv)
 refine RG.append1 (T := 28) (ty := 28) (y := (⟨(addR s.idx n).2.1, (⟨r.t, r.v⟩ : Row)⟩ : Smp)) aK aq (by kernel_rfl) (by kernel_rfl) rfl bK (by have := p0.2.2.2; omega) fun aP cT gX ak aA cw => ?_
 have fQ := nb_or aA ew E.lt
 have fR := nb_or aA ex O.lt
 have fS := nb_or aA ey V.lt
 have fT := nb_or aA ez J.lt
 have fU := nb_or aA eA W.lt
 have eC := gb_or aA eB C.size
 replace ⟨h1, h2, h3, h4, E, O, V, Z, aa, J, W, C⟩ := (sa [aU, ab, ag, af, ae, ac] cw aA).g12 h1 h2 h3 h4 E O V Z aa J W C
 clear cw
 replace ak := ak.rn aU
 clear aA
 have fV := ak.len; have fW := ak.max
 refine .r 1 <| .ss 3 (vS aP (0 + s.mem.length + 1) cT) W fun cU cx aL eD => ?_
 replace ⟨h1, h2, h3, h4, E, O, V, Z, aa, J, ak, C⟩ := (so [aP, ab, ag, af, ae, ac] cx).g12 h1 h2 h3 h4 E O V Z aa J ak C
 clear cx eD
 refine .d <| .s <| .s <| .g <| .ln aL <| .r 1 <| .cl (c_spec_l13Rows (⟨(⟨((addR s.idx n).1).names, ((addR s.idx n).1).posts⟩ : Idx), s.parts, (([] ++ s.mem) ++ [(⟨(addR s.idx n).2.1, (⟨r.t, r.v⟩ : Row)⟩ : Smp)])⟩ : Sto) ((addR s.idx n).2.1) Z.ta aa.ta h3.ta (ak.rep) p0.2.1 p0.2.2.1 (by have := p0.2.2.2; simp; omega) (w := cU) (F := all)) ?_
 rintro gY gZ ⟨⟨g0, hC, rfl, bb⟩, cy⟩
 have cz := al6 ak.lt aL.lt J.lt V.lt O.lt E.lt
 have eE : Gb w.heap.size cU.heap.size := C.size
 replace ⟨h1, h2, h3, h4, E, V, Z, aa, aL, ak, C⟩ := (se [aP, ab, ag, af, ae, ac] cy).g11 h1 h2 h3 h4 E V Z aa aL ak C
 clear cy
 have bb := bb.fr cz eE
 replace bb := bb.base (G' := fo F w.heap.size) (fun _ _ h => .inr h)
 have fX := bb.max
 clear cz
 refine .r 1 <| .bp ((((rowsOf (⟨(⟨((addR s.idx n).1).names, ((addR s.idx n).1).posts⟩ : Idx), s.parts, (([] ++ s.mem) ++ [(⟨(addR s.idx n).2.1, (⟨r.t, r.v⟩ : Row)⟩ : Smp)])⟩ : Sto) ((addR s.idx n).2.1)).length) : Int) > 24) (fun eF => ?_) (fun eF => ?_)
 · refine .d <| .ct <| .s <| .g <| .ln E <| .sc [.slice a1 s.idx.names.length c1, .slice a2 s.idx.posts.length c2, .slice a3 s.parts.length c3, .slice a4 s.mem.length c4] V fun hD cA eG eH => ?_
   replace ⟨h1, h2, h3, h4, Z, aa, aL, ak, C⟩ := (so [aP, ab, ag, af, ae, ac] cA).g9 h1 h2 h3 h4 Z aa aL ak C
   clear cA eH
   exact .r 1 <| .d <| .r2 Tryz.func17 Tryz.results17 (.bx eG) (.t (.bool false)) ⟨⟨_, (tup2 rfl (congrArg Value.bool (by first | rw [addS_1 (by assumption)] | rw [addS_2 (by assumption)] | rw [addS_3 (by assumption)] | rw [addS_4 (by assumption) (by assumption) (by assumption) (by assumption)] | (rw [addS_5 (by assumption) (by assumption) (by assumption) (by assumption)] <;> rfl)))), (VS.of (y := s) ⟨_, rfl, ⟨_, _, _, _, _, _, _, _, _, _, _, _, rfl, h1.w1, h2.w1, h3.w1, h4.w1⟩⟩ (by first | rw [addS_1 (by assumption)] | rw [addS_2 (by assumption)] | rw [addS_3 (by assumption)] | rw [addS_4 (by assumption) (by assumption) (by assumption) (by assumption)] | (rw [addS_5 (by assumption) (by assumption) (by assumption) (by assumption)] <;> rfl)))⟩, C⟩
 refine .d <| .cf <| .sk <| .s <| .g <| .ln aL <| .sc [.slice bc ((((addR s.idx n).1).names).length) bd, .slice bg ((((addR s.idx n).1).posts).length) bh, .slice a3 s.parts.length c3, vS aP (0 + s.mem.length + 1) cT] V fun fb cB eI eJ => ?_
 replace ⟨h3, Z, aa, ak, C⟩ := (so [aP, ab, ag, af, ae, ac] cB).g5 h3 Z aa ak C
 clear cB eJ
 refine .r 1 <| .d ?_
 have fc := ak.sl (.inr eC)
 replace ⟨h3, Z, aa⟩ := (sd fb [aP, ab, ag, af, ae, ac] aP).g3 h3 Z aa
 exact .r2 Tryz.func17 Tryz.results17 (.bx eI) (.t (.bool true)) ⟨⟨_, (tup2 rfl (congrArg Value.bool (by first | rw [addS_1 (by assumption)] | rw [addS_2 (by assumption)] | rw [addS_3 (by assumption)] | rw [addS_4 (by assumption) (by assumption) (by assumption) (by assumption)] | (rw [addS_5 (by assumption) (by assumption) (by assumption) (by assumption)] <;> rfl)))), (VS.of (y := (⟨(⟨((addR s.idx n).1).names, ((addR s.idx n).1).posts⟩ : Idx), s.parts, (([] ++ s.mem) ++ [(⟨(addR s.idx n).2.1, (⟨r.t, r.v⟩ : Row)⟩ : Smp)])⟩ : Sto)) ⟨_, rfl, ⟨_, _, _, _, _, _, _, _, _, _, _, _, rfl, Z.w1, aa.w1, h3.w1, fc.w1⟩⟩ (by first | rw [addS_1 (by assumption)] | rw [addS_2 (by assumption)] | rw [addS_3 (by assumption)] | rw [addS_4 (by assumption) (by assumption) (by assumption) (by assumption)] | (rw [addS_5 (by assumption) (by assumption) (by assumption) (by assumption)] <;> rfl)))⟩, C⟩
end Go.Proofs.YtndljnhfkdhggaaGreat