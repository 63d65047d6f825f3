/- walks; squeezed -/
import Derived.Test.YtndljnhfkdhggaaGreatMod15
set_option linter.unusedVariables false
set_option linter.unusedSimpArgs false
namespace Go.Proofs.YtndljnhfkdhggaaGreat
set_option maxRecDepth 100000
set_option maxHeartbeats 4000000
theorem c_spec_IndexOk (ix : Idx) {w : World} {F : Nat → Prop} {a1 : Option Addr} {n1 c1 : Nat} (h1 : RepS w F a1 n1 c1 ix.names) {a2 : Option Addr} {n2 c2 : Nat} (h2 : RepS w F a2 n2 c2 ix.posts) (p0 : IxI ix) : Calls Tryz.prog 36 [.agg #[.slice a1 n1 c1, .slice a2 n2 c2]].toArray w (rets fun rv w' => rv = .bool (true) ∧ Ext w w') := by
 refine goT Tryz.func36 ?_
 obtain ⟨rfl, cr, h1⟩ := h1.tp
 obtain ⟨rfl, cu, h2⟩ := h2.tp
 refine .s <| .g <| .np 26 [.slice a1 ix.names.length c1, .slice a2 ix.posts.length c2] fun ab bu aS ax J bv => ?_
 replace ⟨h1, h2⟩ := (sn [] ax aS).g2 h1 h2
 have E := ax
 clear ax bv aS
 refine .r 1 <| .d <| .s <| .s <| .g <| .r 1 <| .lb J <| .r 1 <| .bp ((ix.names.length : Int) > 6) (fun bw => .d <| .ct <| .s <| .g <| .r 1 <| .d <| .rt Tryz.func36 Tryz.results36 (.bool false) ⟨(congrArg Value.bool (by first | (exfalso; first | (have Z := p0.nm.len; omega) | exact absurd (p0.nm.ok _ (by assumption)) (by rw [(by assumption : nameOk NOEL = false)]; simp) | exact nodup_at p0.nm.nodup (i := W) (k := k2) (by assumption) (by assumption) (by omega) (eq_of_beq (by assumption))) | (exfalso; have Z := posts_mem (p0.posts ▸ (by assumption : NOEL ∈ ix.posts)); first | (have q2 := Z.2.1; omega) | exact absurd (by rw [← Z.1]; simp : (NOEL.ids == ids ix.names NOEL.tag) = true) (by rw [(by assumption : (NOEL.ids == ids ix.names NOEL.tag) = false)]; simp) | exact absurd (posts_prev (names := ix.names) (i := W) (by rw [← p0.posts]; assumption) (by rw [← p0.posts]; assumption) (by omega)) (by simp [*])))), E⟩) fun bw => .d <| .cf <| .sk <| .s <| .g <| .r 1 <| .d <| .s <| .s <| .g <| .r 1 <| .d <| .b 0 <| T.loop (X := Int × Nat) (0, 0) (fun (k, W) => [(1, .pointer (some ⟨ab, 0, none⟩)), (3, vI k), (4, vI (W : Int))]) (fun (k, W) aw => Chg (ins []) bu aw ∧ (W ≤ ix.names.length) ∧ (k = (((ix.names.take W).map List.length).sum : Nat)) ∧ (0 ≤ k) ∧ (k ≤ 1000 * W)) (fun (k, W) => ix.names.length - W) (by kernel_rfl) ⟨by kernel_rfl, by kernel_rfl, by kernel_rfl, trivial⟩ ⟨Chg.refl _ _, (by simp), (by simp), (by simp), (by simp)⟩ ?_
 rintro ⟨k, W⟩ cX aw ⟨ac, cv, cw, cx, cy⟩ ay
 have aT : Mv [ab] [ab] bu aw := Mv.inl ac all_nil (all_cons (.inl (.head _)) all_nil)
 replace ⟨h1, h2, J, E⟩ := (sp aT ac).g4 h1 h2 J E
 clear aT
 refine .s <| .s <| .g <| .r 2 <| .lb J <| .r 1 <| .bp ((W : Int) < (ix.names.length : Int)) (fun bz => ?_) (fun bz => ?_)
 · refine .d <| .ct <| .sk <| .s <| .b 1 <| .s <| .s <| .g <| .r 1 <| .lb J <| .r 1 ?_
   have bA : W < ix.names.length := (by omega)
   refine .ix W 1 h1 bA ?_
   obtain ⟨ae, am⟩ : ∃ y, ix.names[W]? = some y := ⟨_, List.getElem?_eq_getElem (by omega)⟩
   have cz := drop_at am; have bW := List.mem_of_getElem? am
   obtain ⟨_, ⟨cY, cZ, c7, rfl, ba⟩, bB⟩ := h1.elem W ae am
   have bC := ba.len
   subst bC
   have cA := ba.max
   refine .lh 0 bB <| .cl (c_spec_NameOk ae ba.ta (w := aw) (F := all)) ?_
   rintro c8 bD ⟨rfl, aU⟩
   replace ⟨h1, h2, J, E, ac⟩ := (se [ab] aU).g5 h1 h2 J E ac
   clear aU
   cases cB : (nameOk ae)
   · exact .r 1 <| .d <| .ct <| .s <| .g <| .r 1 <| .d <| .rt Tryz.func36 Tryz.results36 (.bool false) ⟨(congrArg Value.bool (by first | (exfalso; first | (have Z := p0.nm.len; omega) | exact absurd (p0.nm.ok _ (by assumption)) (by rw [(by assumption : nameOk ae = false)]; simp) | exact nodup_at p0.nm.nodup (i := W) (k := k2) (by assumption) (by assumption) (by omega) (eq_of_beq (by assumption))) | (exfalso; have Z := posts_mem (p0.posts ▸ (by assumption : NOEL ∈ ix.posts)); first | (have q2 := Z.2.1; omega) | exact absurd (by rw [← Z.1]; simp : (NOEL.ids == ids ix.names NOEL.tag) = true) (by rw [(by assumption : (NOEL.ids == ids ix.names NOEL.tag) = false)]; simp) | exact absurd (posts_prev (names := ix.names) (i := W) (by rw [← p0.posts]; assumption) (by rw [← p0.posts]; assumption) (by omega)) (by simp [*])))), E⟩
   refine .r 1 <| .d <| .cf <| .sk <| .s <| .s <| .g <| .r 1 <| .d <| .b 2 <| T.loop (X := Nat) 0 (fun k2 => [(1, .pointer (some ⟨ab, 0, none⟩)), (3, vI k), (4, vI (W : Int)), (5, vI (k2 : Int))]) (fun k2 bb => Chg (ins []) bD bb ∧ (k2 ≤ W)) (fun k2 => W - k2) (by kernel_rfl) ⟨by kernel_rfl, by kernel_rfl, by kernel_rfl, by kernel_rfl, trivial⟩ ⟨Chg.refl _ _, (by omega)⟩ ?_
   rintro k2 c9 bb ⟨ag, cC⟩ az
   have aV : Mv [ab] [ab] bD bb := Mv.inl ag all_nil (all_cons (.inl (.head _)) all_nil)
   replace ⟨h1, h2, J, E, ac⟩ := (sp aV ag).g5 h1 h2 J E ac
   clear aV
   refine .s <| .s <| .g <| .r 2 <| .bp ((k2 : Int) < (W : Int)) (fun bE => ?_) (fun bE => ?_)
   · refine .d <| .ct <| .sk <| .s <| .b 3 <| .s <| .gd nil 11 fun da aW => ?_
     replace ⟨h1, h2, J, E, ac, ag⟩ := (se [ab] aW).g6 h1 h2 J E ac ag
     clear aW
     refine .r [0] <| .lb 1 J id <| .r [2] ?_
     have bF : W < ix.names.length := (by omega)
     refine .ix 3 W 1 h1 bF ?_
     obtain ⟨_, ⟨db, dd, de, rfl, bG⟩, bH⟩ := h1.elem W ae am
     have bI := bG.len
     subst bI
     refine .lh 4 0 bH id <| GA.call1 (i := 5) (by kernel_rfl) (fun bY bJ => c_spec_l3Text ae (bG.ta.ext bJ) (by have Z := p0.nm.sz _ (by assumption); grind [NmSz]) (by have Z := p0.nm.sz _ (by assumption); grind [NmSz]) (w := bY) (F := all)) <| .r [6] <| .lb 7 J id <| .r [8] ?_
     have bK : k2 < ix.names.length := (by omega)
     refine .ix 9 k2 1 h1 bK ?_
     obtain ⟨aA, aB⟩ : ∃ y, ix.names[k2]? = some y := ⟨_, List.getElem?_eq_getElem (by omega)⟩
     have cD := drop_at aB; have bX := List.mem_of_getElem? aB
     obtain ⟨_, ⟨df, dg, dh, rfl, aC⟩, bL⟩ := h1.elem k2 aA aB
     have bM := aC.len
     subst bM
     have cE := aC.max
     refine .lh 10 0 bL id <| .d fun bZ aX => ?_
     replace ⟨h1, h2, J, aC, E, ac, ag⟩ := (se [ab] aX).g7 h1 h2 J aC E ac ag
     clear aX
     refine .cl (c_spec_l3Text aA aC.ta (by have Z := p0.nm.sz _ (by assumption); grind [NmSz]) (by have Z := p0.nm.sz _ (by assumption); grind [NmSz]) (w := bZ) (F := all)) ?_
     rintro di dj ⟨rfl, aY⟩
     replace ⟨h1, h2, J, E, ac, ag⟩ := (se [ab] aY).g6 h1 h2 J E ac ag
     clear aY
     refine RG.eqv (v := .bool ((text ae == text aA))) (by kernel_rfl) (s_eq (text ae) (text aA)) ?_
     cases cF : (text ae == text aA)
     · exact .d <| .cf <| .sk <| .ib 3 <| .g <| .r 1 <| RG.int ((k2 : Int) + 1) (by kernel_rfl) (by have q0 := p0.nm.len; first | omega | (have Z := (p0.nm.sz _ (by assumption)).1; omega) | (have Z := posts_mem (p0.posts ▸ (by assumption : NOEL ∈ ix.posts)); have q2 := ids_len ix.names NOEL.tag; rw [← Z.1] at q2; have q3 := posts_len ix.names; rw [← p0.posts] at q3; omega)) <| .r 1 <| .d <| az (k2 + 1) _ _ ⟨by kernel_rfl, by kernel_rfl, by kernel_rfl, by kernel_rfl, trivial⟩ ⟨ag, (by omega)⟩ (by first | omega | (simp only []; omega))
     exact .d <| .ct <| .s <| .g <| .r 1 <| .d <| .rt Tryz.func36 Tryz.results36 (.bool false) ⟨(congrArg Value.bool (by first | (exfalso; first | (have Z := p0.nm.len; omega) | exact absurd (p0.nm.ok _ (by assumption)) (by rw [(by assumption : nameOk ae = false)]; simp) | exact nodup_at p0.nm.nodup (i := W) (k := k2) (by assumption) (by assumption) (by omega) (eq_of_beq (by assumption))) | (exfalso; have Z := posts_mem (p0.posts ▸ (by assumption : NOEL ∈ ix.posts)); first | (have q2 := Z.2.1; omega) | exact absurd (by rw [← Z.1]; simp : (NOEL.ids == ids ix.names NOEL.tag) = true) (by rw [(by assumption : (NOEL.ids == ids ix.names NOEL.tag) = false)]; simp) | exact absurd (posts_prev (names := ix.names) (i := W) (by rw [← p0.posts]; assumption) (by rw [← p0.posts]; assumption) (by omega)) (by simp [*])))), E⟩
   refine .d <| .cf <| .x 2 rfl <| .g <| .r 2 <| .lb J <| .r 1 ?_
   have bN : W < ix.names.length := (by omega)
   refine .ix W 1 h1 bN ?_
   obtain ⟨_, ⟨dk, dm, dp, rfl, b0⟩, bO⟩ := h1.elem W ae am
   have bP := b0.len
   subst bP
   exact .lh 0 bO <| .r 1 <| RG.int (k + (ae.length : Int)) (by kernel_rfl) (by have q0 := p0.nm.len; first | omega | (have Z := (p0.nm.sz _ (by assumption)).1; omega) | (have Z := posts_mem (p0.posts ▸ (by assumption : NOEL ∈ ix.posts)); have q2 := ids_len ix.names NOEL.tag; rw [← Z.1] at q2; have q3 := posts_len ix.names; rw [← p0.posts] at q3; omega)) <| .r 1 <| .d <| .ib 1 <| .g <| .r 1 <| RG.int ((W : Int) + 1) (by kernel_rfl) (by have q0 := p0.nm.len; first | omega | (have Z := (p0.nm.sz _ (by assumption)).1; omega) | (have Z := posts_mem (p0.posts ▸ (by assumption : NOEL ∈ ix.posts)); have q2 := ids_len ix.names NOEL.tag; rw [← Z.1] at q2; have q3 := posts_len ix.names; rw [← p0.posts] at q3; omega)) <| .r 1 <| .d <| ay (k + (ae.length : Int), W + 1) _ _ ⟨by kernel_rfl, by kernel_rfl, by kernel_rfl, trivial⟩ ⟨ac, (by omega), (by rw [lenStep (f := List.length) (by assumption)]; omega), (by omega), (by have Z := (p0.nm.sz ae (by assumption)).1; omega)⟩ (by first | omega | (simp only []; omega))
 refine .d <| .cf <| .x 0 rfl <| .s <| .s <| .g <| .r 1 <| .d <| .b 4 <| T.loop (X := Int × Nat) (k, 0) (fun (k, W) => [(1, .pointer (some ⟨ab, 0, none⟩)), (3, vI k), (6, vI (W : Int))]) (fun (k, W) bc => Chg (ins []) aw bc ∧ (W ≤ ix.posts.length) ∧ (k = (lenSum ix.names : Int) - (((ix.posts.take W).map (fun p => p.ids.length)).sum : Nat)) ∧ (k ≤ 6000) ∧ (k ≥ - (1000 * W : Int))) (fun (k, W) => ix.posts.length - W) (by kernel_rfl) ⟨by kernel_rfl, by kernel_rfl, by kernel_rfl, trivial⟩ ⟨Chg.refl _ _, (by omega), (by have Z : ix.names.take W = ix.names := List.take_of_length_le (by omega); have q2 : k = (((ix.names.take W).map List.length).sum : Nat) := (by assumption); rw [Z] at q2; simp [q2, lenSum]), (by have q0 := p0.nm.len; omega), (by omega)⟩ ?_
 rintro ⟨k, W⟩ cG bc ⟨O, b6, b7, b8, b9⟩ ai
 have aD : Mv [ab] [ab] aw bc := Mv.inl O all_nil (all_cons (.inl (.head _)) all_nil)
 replace ⟨h1, h2, J, E⟩ := (sp aD O).g4 h1 h2 J E
 clear aD
 refine .s <| .s <| .g <| .r 2 <| .lb J <| .r 1 <| .bp ((W : Int) < (ix.posts.length : Int)) (fun bd => ?_) (fun bd => .d <| .cf <| .x 4 rfl <| .s <| .g <| .r 3 <| .d <| .rt Tryz.func36 Tryz.results36 (.bool (k == 0)) ⟨(congrArg Value.bool (by have Z : ix.posts.take W = ix.posts := List.take_of_length_le (by omega); have q2 : k = (lenSum ix.names : Int) - (((ix.posts.take W).map (fun p => p.ids.length)).sum : Nat) := (by assumption); have q3 := ix_sum p0; unfold idSum at q3; rw [Z] at q2; simp; omega)), E⟩)
 refine .d <| .ct <| .sk <| .s <| .b 5 <| .s <| .g <| .r 1 <| .lb J <| .r 1 ?_
 have bg : W < ix.posts.length := (by omega)
 refine .ix W 3 h2 bg ?_
 obtain ⟨C, ao⟩ : ∃ y, ix.posts[W]? = some y := ⟨_, List.getElem?_eq_getElem (by omega)⟩
 have cd := drop_at ao; have bQ := List.mem_of_getElem? ao
 obtain ⟨_, ⟨bR, cH, bS, rfl, aa⟩, bh⟩ := h2.elem W C ao
 have bi := aa.len
 subst bi
 have ce := aa.max
 refine .lg 0 bh <| .np 95 [.string (bs []), .string (bs []), .slice none 0 0] fun aj cI ah aE bj bk => ?_
 have cg := nb_new ah J.lt
 have ci := E.cn ah
 have cj := O.cn ah
 replace ⟨h1, h2, J, aa, E, O⟩ := (sn [ab] aE ah).g6 h1 h2 J aa E O
 clear aE bk ah
 refine .sc [vT C.tag.key, vT C.tag.val, .slice bR C.ids.length bS] bj fun cJ aF V bm => ?_
 replace ⟨h1, h2, J, aa, E, O⟩ := (so [aj, ab] aF).g6 h1 h2 J aa E O
 clear aF bm
 refine .d <| .s <| .s <| .gd nil 28 fun cK aG => ?_
 replace ⟨h1, h2, J, aa, V, E, O⟩ := (se [aj, ab] aG).g7 h1 h2 J aa V E O
 clear aG
 refine .r [0] <| .lb 1 V id <| .r [2] <| GA.eqI (i := 3) (a := (C.ids.length : Int)) (b := 0) (by kernel_rfl) (fun bn => ?_) (fun bn => ?_)
 · refine .r [4, 5, 6, 7, 8, 9, 10, 11, 12, 13, 14, 15, 16, 17, 18, 19, 20, 21, 22, 23, 24, 25, 26, 27] <| .d fun cL aH => ?_
   replace ⟨h1, h2, J, aa, V, E, O⟩ := (se [aj, ab] aH).g7 h1 h2 J aa V E O
   clear aH
   exact .r 4 <| .d <| .ct <| .s <| .g <| .r 1 <| .d <| .rt Tryz.func36 Tryz.results36 (.bool false) ⟨(congrArg Value.bool (by first | (exfalso; first | (have Z := p0.nm.len; omega) | exact absurd (p0.nm.ok _ (by assumption)) (by rw [(by assumption : nameOk ae = false)]; simp) | exact nodup_at p0.nm.nodup (i := W) (k := k2) (by assumption) (by assumption) (by omega) (eq_of_beq (by assumption))) | (exfalso; have Z := posts_mem (p0.posts ▸ (by assumption : C ∈ ix.posts)); first | (have q2 := Z.2.1; omega) | exact absurd (by rw [← Z.1]; simp : (C.ids == ids ix.names C.tag) = true) (by rw [(by assumption : (C.ids == ids ix.names C.tag) = false)]; simp) | exact absurd (posts_prev (names := ix.names) (i := W) (by rw [← p0.posts]; assumption) (by rw [← p0.posts]; assumption) (by omega)) (by simp [*])))), E⟩
 refine .r [4, 5] <| .lb 6 V id <| .r [7] <| .lb 8 J id <| .r [9] <| .ln 10 V id <| .go 11 <| .cl (fun aI aq => c_spec_l11Ids ix.names C.tag (h1.ta.ext aq) (by have q0 := p0.nm.len; omega) (w := aI) (F := all)) ?_
 intro aI aq
 replace ⟨h2, J, aa, V, E, O⟩ := (se [aj, ab] aq).g6 h2 J aa V E O
 rintro cM cN ⟨⟨cO, cP, rfl, av⟩, ar⟩
 have aJ := al2 V.lt J.lt
 have bo : Gb w.heap.size aI.heap.size := E.size
 have hkeep_ := ar
 replace ⟨h2, J, aa, V, E, O⟩ := (se [aj, ab] ar).g6 h2 J aa V E O
 clear ar
 refine ⟨Ext.chg hkeep_, ?_⟩
 have av := av.fr aJ bo
 have ck := av.max
 clear aJ
 refine GA.call1 (i := 12) (by kernel_rfl) (fun bT aK => c_spec_l11Same C.ids (ids ix.names C.tag) (aa.ta.ext aK) (av.ta.ext aK) (w := bT) (F := all)) ?_
 cases cm : (C.ids == (ids ix.names C.tag))
 · refine .r [13, 14, 15, 16, 17, 18, 19, 20, 21, 22, 23, 24, 25, 26, 27] <| .d fun cQ aL => ?_
   replace ⟨h2, J, V, E, O⟩ := (se [aj, ab] aL).g5 h2 J V E O
   clear aL
   exact .r 4 <| .d <| .ct <| .s <| .g <| .r 1 <| .d <| .rt Tryz.func36 Tryz.results36 (.bool false) ⟨(congrArg Value.bool (by first | (exfalso; first | (have Z := p0.nm.len; omega) | exact absurd (p0.nm.ok _ (by assumption)) (by rw [(by assumption : nameOk ae = false)]; simp) | exact nodup_at p0.nm.nodup (i := W) (k := k2) (by assumption) (by assumption) (by omega) (eq_of_beq (by assumption))) | (exfalso; have Z := posts_mem (p0.posts ▸ (by assumption : C ∈ ix.posts)); first | (have q2 := Z.2.1; omega) | exact absurd (by rw [← Z.1]; simp : (C.ids == ids ix.names C.tag) = true) (by rw [(by assumption : (C.ids == ids ix.names C.tag) = false)]; simp) | exact absurd (posts_prev (names := ix.names) (i := W) (by rw [← p0.posts]; assumption) (by rw [← p0.posts]; assumption) (by omega)) (by simp [*])))), E⟩
 refine .r [13, 14, 15, 16] <| GA.boolP (i := 17) ((W : Int) > 0) (by kernel_rfl) (fun bq => ?_) (fun bq => ?_)
 · refine .r [18, 19] <| .lb 20 J id <| .r [21] <| GA.int (i := 22) ((W : Int) - 1) (by kernel_rfl) (by have q0 := p0.nm.len; first | omega | (have Z := (p0.nm.sz _ (by assumption)).1; omega) | (have Z := posts_mem (p0.posts ▸ (by assumption : C ∈ ix.posts)); have q2 := ids_len ix.names C.tag; rw [← Z.1] at q2; have q3 := posts_len ix.names; rw [← p0.posts] at q3; omega)) ?_
   have aM : W - 1 < ix.posts.length := (by omega)
   refine GA.idx (i := 23) (W - 1) (len := ix.posts.length) (z := (W : Int) - 1) (sz := 3) (by kernel_rfl) (by omega) aM (h2.addr (Nat.zero_lt_of_lt aM)) <| .r [24] ?_
   obtain ⟨aN, au⟩ : ∃ y, ix.posts[W - 1]? = some y := ⟨_, List.getElem?_eq_getElem (by omega)⟩
   have co := drop_at au; have bU := List.mem_of_getElem? au
   obtain ⟨_, ⟨cR, cS, cT, rfl, aZ⟩, br⟩ := h2.elem (W - 1) aN au
   have bt := aZ.len
   subst bt
   have cp := aZ.max
   refine .lg 25 0 br id <| .r [26] <| .ln 27 V id <| .d fun bV aO => ?_
   replace ⟨V, E, O⟩ := (se [] aO).g3 V E O
   clear aO
   refine .cl (c_spec_l11Less aN.tag C.tag (w := bV) (F := all)) ?_
   rintro cU cV ⟨rfl, aP⟩
   replace ⟨V, E, O⟩ := (se [] aP).g3 V E O
   clear aP
   cases cq : (tagLt aN.tag C.tag)
   · exact .r 3 <| .d <| .ct <| .s <| .g <| .r 1 <| .d <| .rt Tryz.func36 Tryz.results36 (.bool false) ⟨(congrArg Value.bool (by first | (exfalso; first | (have Z := p0.nm.len; omega) | exact absurd (p0.nm.ok _ (by assumption)) (by rw [(by assumption : nameOk ae = false)]; simp) | exact nodup_at p0.nm.nodup (i := W) (k := k2) (by assumption) (by assumption) (by omega) (eq_of_beq (by assumption))) | (exfalso; have Z := posts_mem (p0.posts ▸ (by assumption : C ∈ ix.posts)); first | (have q2 := Z.2.1; omega) | exact absurd (by rw [← Z.1]; simp : (C.ids == ids ix.names C.tag) = true) (by rw [(by assumption : (C.ids == ids ix.names C.tag) = false)]; simp) | exact absurd (posts_prev (names := ix.names) (i := W) (by rw [← p0.posts]; assumption) (by rw [← p0.posts]; assumption) (by omega)) (by simp [*])))), E⟩
   exact .r 3 <| .d <| .cf <| .sk <| .g <| .r 2 <| .lb V <| .r 1 <| RG.int (k - (C.ids.length : Int)) (by kernel_rfl) (by have q0 := p0.nm.len; first | omega | (have Z := (p0.nm.sz _ (by assumption)).1; omega) | (have Z := posts_mem (p0.posts ▸ (by assumption : C ∈ ix.posts)); have q2 := ids_len ix.names C.tag; rw [← Z.1] at q2; have q3 := posts_len ix.names; rw [← p0.posts] at q3; omega)) <| .r 1 <| .d <| .ib 5 <| .g <| .r 1 <| RG.int ((W : Int) + 1) (by kernel_rfl) (by have q0 := p0.nm.len; first | omega | (have Z := (p0.nm.sz _ (by assumption)).1; omega) | (have Z := posts_mem (p0.posts ▸ (by assumption : C ∈ ix.posts)); have q2 := ids_len ix.names C.tag; rw [← Z.1] at q2; have q3 := posts_len ix.names; rw [← p0.posts] at q3; omega)) <| .r 1 <| .d <| ai (k - (C.ids.length : Int), W + 1) _ _ ⟨by kernel_rfl, by kernel_rfl, by kernel_rfl, trivial⟩ ⟨O, (by omega), (by rw [lenStep (f := fun p => p.ids.length) (l := ix.posts) (i := W) (x := C) (by assumption)]; omega), (by omega), (by have Z := posts_mem (p0.posts ▸ (by assumption : C ∈ ix.posts)); have q2 := ids_len ix.names C.tag; rw [← Z.1] at q2; have q3 := p0.nm.len; omega)⟩ (by first | omega | (simp only []; omega))
 refine .r [18, 19, 20, 21, 22, 23, 24, 25, 26, 27] <| .d fun cW aQ => ?_
 replace ⟨V, E, O⟩ := (se [] aQ).g3 V E O
 clear aQ
 exact .r 4 <| .d <| .cf <| .sk <| .g <| .r 2 <| .lb V <| .r 1 <| RG.int (k - (C.ids.length : Int)) (by kernel_rfl) (by have q0 := p0.nm.len; first | omega | (have Z := (p0.nm.sz _ (by assumption)).1; omega) | (have Z := posts_mem (p0.posts ▸ (by assumption : C ∈ ix.posts)); have q2 := ids_len ix.names C.tag; rw [← Z.1] at q2; have q3 := posts_len ix.names; rw [← p0.posts] at q3; omega)) <| .r 1 <| .d <| .ib 5 <| .g <| .r 1 <| RG.int ((W : Int) + 1) (by kernel_rfl) (by have q0 := p0.nm.len; first | omega | (have Z := (p0.nm.sz _ (by assumption)).1; omega) | (have Z := posts_mem (p0.posts ▸ (by assumption : C ∈ ix.posts)); have q2 := ids_len ix.names C.tag; rw [← Z.1] at q2; have q3 := posts_len ix.names; rw [← p0.posts] at q3; omega)) <| .r 1 <| .d <| ai (k - (C.ids.length : Int), W + 1) _ _ ⟨by kernel_rfl, by kernel_rfl, by kernel_rfl, trivial⟩ ⟨O, (by omega), (by rw [lenStep (f := fun p => p.ids.length) (l := ix.posts) (i := W) (x := C) (by assumption)]; omega), (by omega), (by have Z := posts_mem (p0.posts ▸ (by assumption : C ∈ ix.posts)); have q2 := ids_len ix.names C.tag; rw [← Z.1] at q2; have q3 := p0.nm.len; omega)⟩ (by first | omega | (simp only []; omega))
theorem c_spec_StoreOk (s : Sto) {w : World} {F : Nat → Prop} {a1 : Option Addr} {n1 c1 : Nat} (h1 : RepS w F a1 n1 c1 s.idx.names) {a2 : Option Addr} {n2 c2 : Nat} (h2 : RepS w F a2 n2 c2 s.idx.posts) {a3 : Option Addr} {n3 c3 : Nat} (h3 : RepS w F a3 n3 c3 s.parts) {a4 : Option Addr} {n4 c4 : Nat} (h4 : RepS w F a4 n4 c4 s.mem) (p0 : SD s) : Calls Tryz.prog 15 [.agg #[.slice a1 n1 c1, .slice a2 n2 c2, .slice a3 n3 c3, .slice a4 n4 c4]].toArray w (rets fun rv w' => rv = .bool (storeOk s) ∧ Ext w w') := by
 refine goT Tryz.func15 ?_
 obtain ⟨rfl, ba, h1⟩ := h1.tp
 obtain ⟨rfl, bb, h2⟩ := h2.tp
 obtain ⟨rfl, bc, h3⟩ := h3.tp
 obtain ⟨rfl, bd, h4⟩ := h4.tp
 refine .s <| .g <| .np 30 [.slice a1 s.idx.names.length c1, .slice a2 s.idx.posts.length c2, .slice a3 s.parts.length c3, .slice a4 s.mem.length c4] fun J aW aq af C aG => ?_
 replace ⟨h1, h2, h3, h4⟩ := (sn [] af aq).g4 h1 h2 h3 h4
 have E := af
 clear af aG aq
 refine .r 1 <| .d <| .s <| .g <| .r 2 <| .lb C <| .r 2 <| .d <| .s <| .s <| .g <| .r 1 <| .ln C <| .cl (c_spec_IndexOk s.idx h1.ta h2.ta p0.ix (w := aW) (F := all)) ?_
 rintro bH aH ⟨rfl, ar⟩
 replace ⟨h1, h2, h3, h4, C, E⟩ := (se [J] ar).g6 h1 h2 h3 h4 C E
 clear ar
 refine .r 3 <| .lb C <| .r 1 <| .bp ((s.parts.length : Int) > 6) (fun aI => .r 7 <| .d <| .ct <| .s <| .g <| .r 1 <| .d <| .rt Tryz.func15 Tryz.results15 (.bool false) ⟨(congrArg Value.bool (by symm; first | exact storeOk_1 (by omega) | exact storeOk_2 (allNo (by assumption) (by assumption) (by assumption)) | exact storeOk_3 (allNo (by assumption) (by assumption) (by simp [memOk, *])) | exact storeOk_4 (cntNo (by assumption) (by omega) (by omega) (by omega)))), E⟩) fun aI => .r 3 <| .lb C <| .r 1 <| .bp ((s.mem.length : Int) > 20) (fun aJ => .r 1 <| .d <| .ct <| .s <| .g <| .r 1 <| .d <| .rt Tryz.func15 Tryz.results15 (.bool false) ⟨(congrArg Value.bool (by symm; first | exact storeOk_1 (by omega) | exact storeOk_2 (allNo (by assumption) (by assumption) (by assumption)) | exact storeOk_3 (allNo (by assumption) (by assumption) (by simp [memOk, *])) | exact storeOk_4 (cntNo (by assumption) (by omega) (by omega) (by omega)))), E⟩) fun aJ => .r 1 <| .d <| .cf <| .sk <| .s <| .s <| .g <| .r 1 <| .d <| .b 0 <| T.loop (X := Nat) 0 (fun k => [(1, .pointer (some ⟨J, 0, none⟩)), (3, vI (s.idx.names.length : Int)), (4, vI (k : Int))]) (fun k aa => Chg (ins []) aH aa ∧ (k ≤ s.parts.length) ∧ ((s.parts.drop k).all (fun p => partIn p s.idx.names.length) = s.parts.all (fun p => partIn p s.idx.names.length))) (fun k => s.parts.length - k) (by kernel_rfl) ⟨by kernel_rfl, by kernel_rfl, by kernel_rfl, trivial⟩ ⟨Chg.refl _ _, (by simp), (by simp)⟩ ?_
 rintro k bI aa ⟨W, bg, bh⟩ ag
 have au : Mv [J] [J] aH aa := Mv.inl W all_nil (all_cons (.inl (.head _)) all_nil)
 replace ⟨h1, h2, h3, h4, C, E⟩ := (sp au W).g6 h1 h2 h3 h4 C E
 clear au
 refine .s <| .s <| .g <| .r 2 <| .lb C <| .r 1 <| .bp ((k : Int) < (s.parts.length : Int)) (fun aK => ?_) (fun aK => ?_)
 · refine .d <| .ct <| .sk <| .s <| .b 1 <| .s <| .g <| .r 1 <| .lb C <| .r 1 ?_
   have aL : k < s.parts.length := (by omega)
   refine .ix k 2 h3 aL ?_
   obtain ⟨aA, ah⟩ : ∃ y, s.parts[k]? = some y := ⟨_, List.getElem?_eq_getElem (by omega)⟩
   have bi := drop_at ah; have aU := List.mem_of_getElem? ah
   obtain ⟨_, ⟨bJ, bK, bL, bM, bN, bO, rfl, aB, aC⟩, aM⟩ := h3.elem k aA ah
   have aN := aB.len
   subst aN
   have bj := aB.max
   have aO := aC.len
   subst aO
   have bk := aC.max
   refine .lg 0 aM <| .r 1 <| .cl (c_spec_l13Part aA (s.idx.names.length : Int) aB.ta aC.ta (w := aa) (F := all)) ?_
   rintro bP bQ ⟨rfl, av⟩
   replace ⟨h1, h2, h3, h4, C, E, W⟩ := (se [J] av).g7 h1 h2 h3 h4 C E W
   clear av
   cases bm : (partIn aA (s.idx.names.length : Int))
   · exact .r 1 <| .d <| .ct <| .s <| .g <| .r 1 <| .d <| .rt Tryz.func15 Tryz.results15 (.bool false) ⟨(congrArg Value.bool (by symm; first | exact storeOk_1 (by omega) | exact storeOk_2 (allNo (by assumption) (by assumption) (by assumption)) | exact storeOk_3 (allNo (by assumption) (by assumption) (by simp [memOk, *])) | exact storeOk_4 (cntNo (by assumption) (by omega) (by omega) (by omega)))), E⟩
   exact .r 1 <| .d <| .cf <| .sk <| .ib 1 <| .g <| .r 1 <| RG.int ((k : Int) + 1) (by kernel_rfl) (by have := p0.nm.len; omega) <| .r 1 <| .d <| ag (k + 1) _ _ ⟨by kernel_rfl, by kernel_rfl, by kernel_rfl, trivial⟩ ⟨W, (by omega), (by exact allStep (by assumption) (by assumption) (by assumption))⟩ (by first | omega | (simp only []; omega))
 refine .d <| .cf <| .x 0 rfl <| .s <| .s <| .g <| .r 1 <| .d <| .b 2 <| T.loop (X := Nat) 0 (fun k => [(1, .pointer (some ⟨J, 0, none⟩)), (3, vI (s.idx.names.length : Int)), (5, vI (k : Int))]) (fun k ab => Chg (ins []) aa ab ∧ (k ≤ s.mem.length) ∧ (s.parts.all (fun p => partIn p s.idx.names.length) = true) ∧ ((s.mem.drop k).all (memOk s.idx.names.length) = s.mem.all (memOk s.idx.names.length))) (fun k => s.mem.length - k) (by kernel_rfl) ⟨by kernel_rfl, by kernel_rfl, by kernel_rfl, trivial⟩ ⟨Chg.refl _ _, (by simp), (by exact allEnd (by assumption) (by omega)), (by simp)⟩ ?_
 rintro k bR ab ⟨O, bn, bo, bq⟩ ai
 have aw : Mv [J] [J] aa ab := Mv.inl O all_nil (all_cons (.inl (.head _)) all_nil)
 replace ⟨h1, h2, h3, h4, C, E⟩ := (sp aw O).g6 h1 h2 h3 h4 C E
 clear aw
 refine .s <| .s <| .g <| .r 2 <| .lb C <| .r 1 <| .bp ((k : Int) < (s.mem.length : Int)) (fun aP => ?_) (fun aP => ?_)
 · refine .d <| .ct <| .sk <| .s <| .b 3 <| .s <| .g <| .r 1 <| .lb C <| .r 1 ?_
   have aQ : k < s.mem.length := (by omega)
   refine .ix k 3 h4 aQ <| .r 1 ?_
   obtain ⟨ac, Z⟩ : ∃ y, s.mem[k]? = some y := ⟨_, List.getElem?_eq_getElem (by omega)⟩
   have br := drop_at Z; have aV := List.mem_of_getElem? Z
   obtain ⟨_, rfl, aR⟩ := h4.elem k ac Z
   refine .lh 0 aR <| .r 1 <| .cl (c_spec_l6In ac.id 1 (s.idx.names.length : Int) (w := ab) (F := all)) ?_
   rintro bS aX ⟨rfl, ax⟩
   replace ⟨h1, h2, h3, h4, C, E, O⟩ := (se [J] ax).g7 h1 h2 h3 h4 C E O
   clear ax
   cases ay : (inR ac.id 1 (s.idx.names.length : Int))
   · have bt := inR_f ay
     exact .r 11 <| .d <| .ct <| .s <| .g <| .r 1 <| .d <| .rt Tryz.func15 Tryz.results15 (.bool false) ⟨(congrArg Value.bool (by symm; first | exact storeOk_1 (by omega) | exact storeOk_2 (allNo (by assumption) (by assumption) (by assumption)) | exact storeOk_3 (allNo (by assumption) (by assumption) (by simp [memOk, *])) | exact storeOk_4 (cntNo (by assumption) (by omega) (by omega) (by omega)))), E⟩
   have bu := inR_t ay
   refine .r 3 <| .lb C <| .r 1 ?_
   have aS : k < s.mem.length := (by omega)
   refine .ix k 3 h4 aS <| .r 1 ?_
   obtain ⟨_, rfl, aT⟩ := h4.elem k ac Z
   refine .lg 1 aT <| .cl (c_spec_l2Row ac.row (w := aX) (F := all)) ?_
   rintro bT bU ⟨rfl, az⟩
   replace ⟨h1, h2, h3, h4, C, E, O⟩ := (se [J] az).g7 h1 h2 h3 h4 C E O
   clear az
   cases bv : (rowOk ac.row)
   · exact .r 2 <| .d <| .ct <| .s <| .g <| .r 1 <| .d <| .rt Tryz.func15 Tryz.results15 (.bool false) ⟨(congrArg Value.bool (by symm; first | exact storeOk_1 (by omega) | exact storeOk_2 (allNo (by assumption) (by assumption) (by assumption)) | exact storeOk_3 (allNo (by assumption) (by assumption) (by simp [memOk, *])) | exact storeOk_4 (cntNo (by assumption) (by omega) (by omega) (by omega)))), E⟩
   exact .r 2 <| .d <| .cf <| .sk <| .ib 3 <| .g <| .r 1 <| RG.int ((k : Int) + 1) (by kernel_rfl) (by have := p0.nm.len; omega) <| .r 1 <| .d <| ai (k + 1) _ _ ⟨by kernel_rfl, by kernel_rfl, by kernel_rfl, trivial⟩ ⟨O, (by omega), (by assumption), (by exact allStep (by assumption) (by assumption) (by simp only [memOk, *]; rfl))⟩ (by first | omega | (simp only []; omega))
 refine .d <| .cf <| .x 2 rfl <| .s <| .s <| .g <| .r 1 <| .d <| .b 4 <| T.loop (X := Nat) 1 (fun k => [(1, .pointer (some ⟨J, 0, none⟩)), (3, vI (s.idx.names.length : Int)), (6, vI (k : Int))]) (fun k aj => Chg (ins []) ab aj ∧ (1 ≤ k) ∧ (k ≤ s.idx.names.length + 1) ∧ (s.parts.all (fun p => partIn p s.idx.names.length) = true) ∧ (s.mem.all (memOk s.idx.names.length) = true) ∧ (((List.range s.idx.names.length).drop (k - 1)).all (cntOk s) = (List.range s.idx.names.length).all (cntOk s))) (fun k => s.idx.names.length + 1 - k) (by kernel_rfl) ⟨by kernel_rfl, by kernel_rfl, by kernel_rfl, trivial⟩ ⟨Chg.refl _ _, (by omega), (by omega), (by assumption), (by exact allEnd (by assumption) (by omega)), (by rfl)⟩ ?_
 rintro k bw aj ⟨V, bz, bA, bB, bC, aY⟩ ae
 have ak : Mv [J] [J] ab aj := Mv.inl V all_nil (all_cons (.inl (.head _)) all_nil)
 replace ⟨h1, h2, h3, h4, C, E⟩ := (sp ak V).g6 h1 h2 h3 h4 C E
 clear ak
 refine .s <| .s <| .g <| .r 2 <| .bp ((k : Int) ≤ (s.idx.names.length : Int)) (fun aD => ?_) (fun aD => .d <| .cf <| .x 4 rfl <| .s <| .g <| .r 1 <| .d <| .rt Tryz.func15 Tryz.results15 (.bool true) ⟨(congrArg Value.bool (by symm; exact storeOk_5 (by omega) (by omega) (by assumption) (by assumption) (cntEnd (by assumption) (by omega)))), E⟩)
 refine .d <| .ct <| .sk <| .s <| .b 5 <| .s <| .g <| .ln C <| .r 1 <| .cl (c_spec_l13Rows s (k : Int) h1.ta h2.ta h3.ta h4.ta (by have := p0.np; omega) (fun p hp => (p0.part p hp).sz) (by have := p0.nm2; omega) (w := aj) (F := all)) ?_
 rintro bD bE ⟨⟨bF, bG, rfl, al⟩, am⟩
 have ao := al1 C.lt
 have aE : Gb w.heap.size aj.heap.size := E.size
 replace ⟨E, V⟩ := (se [] am).g2 E V
 clear am
 have al := al.fr ao aE
 have aZ := al.max
 clear ao
 exact .r 1 <| .bp ((((rowsOf s (k : Int)).length) : Int) > 24) (fun aF => .d <| .ct <| .s <| .g <| .r 1 <| .d <| .rt Tryz.func15 Tryz.results15 (.bool false) ⟨(congrArg Value.bool (by symm; first | exact storeOk_1 (by omega) | exact storeOk_2 (allNo (by assumption) (by assumption) (by assumption)) | exact storeOk_3 (allNo (by assumption) (by assumption) (by simp [memOk, *])) | exact storeOk_4 (cntNo (by assumption) (by omega) (by omega) (by omega)))), E⟩) fun aF => .d <| .cf <| .sk <| .ib 5 <| .g <| .r 1 <| RG.int ((k : Int) + 1) (by kernel_rfl) (by have := p0.nm.len; omega) <| .r 1 <| .d <| ae (k + 1) _ _ ⟨by kernel_rfl, by kernel_rfl, by kernel_rfl, trivial⟩ ⟨V, (by omega), (by omega), (by assumption), (by assumption), (by exact cntStep (by assumption) (by omega) (by omega) (by omega))⟩ (by first | omega | (simp only []; omega))
theorem c_spec_StoreAdd (s : Sto) (n : List Tag) (r : Row) {w : World} {F : Nat → Prop} {a1 : Option Addr} {n1 c1 : Nat} (h1 : RepS w F a1 n1 c1 s.idx.names) {a2 : Option Addr} {n2 c2 : Nat} (h2 : RepS w F a2 n2 c2 s.idx.posts) {a3 : Option Addr} {n3 c3 : Nat} (h3 : RepS w F a3 n3 c3 s.parts) {a4 : Option Addr} {n4 c4 : Nat} (h4 : RepS w F a4 n4 c4 s.mem) {a5 : Option Addr} {n5 c5 : Nat} (h5 : RepS w F a5 n5 c5 n) (p0 : SD s) (p1 : NmSz n) : Calls Tryz.prog 5 [.agg #[.slice a1 n1 c1, .slice a2 n2 c2, .slice a3 n3 c3, .slice a4 n4 c4], .slice a5 n5 c5, .agg #[.int .i64 r.t, .int .i64 r.v]].toArray w (rets fun rv w' => (∃ v0, rv = .tuple #[v0, .bool ((addP s n r).2)] ∧ VS (fo F w.heap.size) w' ((addP s n r).1 : Sto) v0) ∧ Ext w w') := by
 refine goT Tryz.func5 ?_
 obtain ⟨rfl, bI, h1⟩ := h1.tp
 obtain ⟨rfl, bJ, h2⟩ := h2.tp
 obtain ⟨rfl, bK, h3⟩ := h3.tp
 obtain ⟨rfl, bL, h4⟩ := h4.tp
 obtain ⟨rfl, bM, h5⟩ := h5.tp
 refine .s <| .g <| .np 30 [.slice a1 s.idx.names.length c1, .slice a2 s.idx.posts.length c2, .slice a3 s.parts.length c3, .slice a4 s.mem.length c4] fun V b6 aD ax E aX => ?_
 replace ⟨h1, h2, h3, h4, h5⟩ := (sn [] ax aD).g5 h1 h2 h3 h4 h5
 have C := ax
 clear ax aX aD
 refine .np 33 [vI r.t, vI r.v] fun W b7 aE aF J aY => ?_
 replace ⟨h1, h2, h3, h4, h5, E, C⟩ := (sn [V] aF aE).g7 h1 h2 h3 h4 h5 E C
 clear aF aY aE
 refine .np 30 [.slice none 0 0, .slice none 0 0, .slice none 0 0, .slice none 0 0] fun Z br ar aG O aZ => ?_
 have bN := nb_new ar E.lt
 have bO := nb_new ar J.lt
 have bP := C.cn ar
 replace ⟨h1, h2, h3, h4, h5, E, J, C⟩ := (sn [W, V] aG ar).g8 h1 h2 h3 h4 h5 E J C
 clear aG aZ ar
 refine .r 1 <| .d <| .s <| .s <| .g <| .ln E <| .cl (c_spec_StoreOk s h1.ta h2.ta h3.ta h4.ta p0 (w := br) (F := all)) ?_
 rintro b8 bt ⟨rfl, aH⟩
 replace ⟨h1, h2, h3, h4, h5, E, J, O, C⟩ := (se [Z, W, V] aH).g9 h1 h2 h3 h4 h5 E J O C
 clear aH
 cases bQ : (storeOk s)
 · refine .r 6 <| .d <| .ct <| .s <| .g <| .r 1 <| .sc [.slice none 0 0, .slice none 0 0, .slice none 0 0, .slice none 0 0] O fun b9 aI ba bb => ?_
   replace ⟨h1, h2, h3, h4, h5, E, J, C⟩ := (so [Z, W, V] aI).g8 h1 h2 h3 h4 h5 E J C
   clear aI bb
   exact .r 1 <| .d <| .r2 Tryz.func5 Tryz.results5 (.bx ba) (.t (.bool false)) ⟨⟨_, (tup2 rfl (congrArg Value.bool (by first | rw [addP_no (.inl (by assumption))] | rw [addP_no (.inr (by assumption))] | rw [addP_yes (by assumption) (by assumption)]))), (VS.of (y := (⟨(⟨([] : List (List Tag)), ([] : List Pst)⟩ : Idx), ([] : List Prt), ([] : List Smp)⟩ : Sto)) ⟨_, rfl, ⟨_, _, _, _, _, _, _, _, _, _, _, _, rfl, (RepS.nil' _ _ none 0 (by decide)), (RepS.nil' _ _ none 0 (by decide)), (RepS.nil' _ _ none 0 (by decide)), (RepS.nil' _ _ none 0 (by decide))⟩⟩ (by first | rw [addP_no (.inl (by assumption))] | rw [addP_no (.inr (by assumption))] | rw [addP_yes (by assumption) (by assumption)]))⟩, C⟩
 refine .r 3 <| .cl (c_spec_NameOk n h5.ta (w := bt) (F := all)) ?_
 rintro cd ce ⟨rfl, aJ⟩
 replace ⟨h1, h2, h3, h4, h5, E, J, O, C⟩ := (se [Z, W, V] aJ).g9 h1 h2 h3 h4 h5 E J O C
 clear aJ
 cases bR : (nameOk n)
 · refine .r 2 <| .d <| .ct <| .s <| .g <| .r 1 <| .sc [.slice none 0 0, .slice none 0 0, .slice none 0 0, .slice none 0 0] O fun cg aK bc bd => ?_
   replace ⟨h1, h2, h3, h4, h5, E, J, C⟩ := (so [Z, W, V] aK).g8 h1 h2 h3 h4 h5 E J C
   clear aK bd
   exact .r 1 <| .d <| .r2 Tryz.func5 Tryz.results5 (.bx bc) (.t (.bool false)) ⟨⟨_, (tup2 rfl (congrArg Value.bool (by first | rw [addP_no (.inl (by assumption))] | rw [addP_no (.inr (by assumption))] | rw [addP_yes (by assumption) (by assumption)]))), (VS.of (y := (⟨(⟨([] : List (List Tag)), ([] : List Pst)⟩ : Idx), ([] : List Prt), ([] : List Smp)⟩ : Sto)) ⟨_, rfl, ⟨_, _, _, _, _, _, _, _, _, _, _, _, rfl, (RepS.nil' _ _ none 0 (by decide)), (RepS.nil' _ _ none 0 (by decide)), (RepS.nil' _ _ none 0 (by decide)), (RepS.nil' _ _ none 0 (by decide))⟩⟩ (by first | rw [addP_no (.inl (by assumption))] | rw [addP_no (.inr (by assumption))] | rw [addP_yes (by assumption) (by assumption)]))⟩, C⟩
 refine .r 2 <| .d <| .cf <| .sk <| .s <| .gd nil 7 fun ci aL => ?_
 replace ⟨h1, h2, h3, h4, h5, E, J, O, C⟩ := (se [Z, W, V] aL).g9 h1 h2 h3 h4 h5 E J O C
 clear aL
 refine .ln 0 E id <| .r [2] <| .ln 3 J id <| .go 1 <| .cl (fun aM ai => c_spec_l13Copy s (h1.ta.ext ai) (h2.ta.ext ai) (h3.ta.ext ai) (h4.ta.ext ai) p0.sz (w := aM) (F := all)) ?_
 intro aM ai
 replace ⟨h5, E, J, O, C⟩ := (se [Z, W, V] ai).g5 h5 E J O C
 rintro cj ay ⟨⟨ck, cm, co, cp, cq, cr, cu, cv, cw, av, cx, cy, rfl, ak, al, am, ag, aj⟩, az⟩
 have au := al3 O.lt J.lt E.lt
 have ao : Gb w.heap.size aM.heap.size := C.size
 have hkeep_ := az
 have bu := nb_ge aj E.lt
 have bv := nb_ge aj J.lt
 have bw := nb_ge aj O.lt
 have aN := gb_ge aj C.size
 replace ⟨h5, E, J, O, C⟩ := (sz [Z, W, V] az aj).g5 h5 E J O C
 clear az aj
 refine ⟨Ext.chg hkeep_, ?_⟩
 replace ak : RepS ay (nin (ge w.heap.size) [av, Z, W, V]) _ _ _ _ := RepS.takeM (s0 := w.heap.size) (M := [Z, W, V]) ak au ao
 replace ak := ak.base (G' := fo F w.heap.size) (fun _ _ h => .inr h)
 have bz := ak.max
 replace al : RepS ay (nin (ge w.heap.size) [av, Z, W, V]) _ _ _ _ := RepS.takeM (s0 := w.heap.size) (M := [Z, W, V]) al au ao
 replace al := al.base (G' := fo F w.heap.size) (fun _ _ h => .inr h)
 have bA := al.max
 replace am : RepS ay (nin (ge w.heap.size) [av, Z, W, V]) _ _ _ _ := RepS.takeM (s0 := w.heap.size) (M := [Z, W, V]) am au ao
 replace am := am.base (G' := fo F w.heap.size) (fun _ _ h => .inr h)
 have bB := am.max
 replace ag : Own ay av 62 (nin (ge w.heap.size) [av, Z, W, V]) _ _ _ := Own.takeM (s0 := w.heap.size) (M := [Z, W, V]) ag au ao
 replace ag := ag.base (G' := fo F w.heap.size) (fun _ _ h => .inr h)
 have bC := ag.max
 have bD := ag.len
 clear au
 have aO := ak.len
 subst aO
 have aP := al.len
 subst aP
 have aQ := am.len
 subst aQ
 refine .go 4 ?_
 have bg := ag.sl (.inr aN)
 replace ⟨h5, ak, al, am⟩ := (sd ay [av, Z, W, V] av).g4 h5 ak al am
 refine .cl (fun aA aa => c_spec_l13Add (⟨(⟨(((copyS s)).idx).names, (((copyS s)).idx).posts⟩ : Idx), ((copyS s)).parts, ((copyS s)).mem⟩ : Sto) n r (ak.ext aa) (al.ext aa) (am.ext aa) (bg.ext aa) (h5.ext aa) (by rw [p0.copy]; exact p0.sz) p1 (w := aA) (F := nin (fo F w.heap.size) [Z, W, V])) ?_
 intro aA aa
 replace ⟨E, J, O, C⟩ := (se [] aa).g4 E J O C
 rintro bS bT ⟨⟨bU, rfl, ⟨_, rfl, ⟨bh, bV, bi, bj, bW, bk, bm, bX, bn, bo, bY, bq, rfl, ab, ac, ae, af⟩⟩⟩, aw⟩
 have ah := al3 O.lt J.lt E.lt
 have aq : Gb w.heap.size aA.heap.size := C.size
 have hkeep_ := aw
 replace ⟨O, C⟩ := (se [] aw).g2 O C
 clear aw
 refine ⟨Ext.chg hkeep_, ?_⟩
 replace ab := RepS.mixed' (M := [Z, W, V]) ab ah aq
 have bE := ab.max
 replace ac := RepS.mixed' (M := [Z, W, V]) ac ah aq
 have bF := ac.max
 replace ae := RepS.mixed' (M := [Z, W, V]) ae ah aq
 have bG := ae.max
 replace af := RepS.mixed' (M := [Z, W, V]) af ah aq
 have bH := af.max
 clear ah
 have aR := ab.len
 subst aR
 have aS := ac.len
 subst aS
 have aT := ae.len
 subst aT
 have aU := af.len
 subst aU
 refine .r [5, 6] <| .d fun bZ aB => ?_
 replace ⟨O, ab, ac, ae, af, C⟩ := (se [Z, W, V] aB).g6 O ab ac ae af C
 clear aB
 refine .sc [.slice bh (((((addS (⟨(⟨(((copyS s)).idx).names, (((copyS s)).idx).posts⟩ : Idx), ((copyS s)).parts, ((copyS s)).mem⟩ : Sto) n r).1).idx).names).length) bi, .slice bj (((((addS (⟨(⟨(((copyS s)).idx).names, (((copyS s)).idx).posts⟩ : Idx), ((copyS s)).parts, ((copyS s)).mem⟩ : Sto) n r).1).idx).posts).length) bk, .slice bm ((((addS (⟨(⟨(((copyS s)).idx).names, (((copyS s)).idx).posts⟩ : Idx), ((copyS s)).parts, ((copyS s)).mem⟩ : Sto) n r).1).parts).length) bn, .slice bo ((((addS (⟨(⟨(((copyS s)).idx).names, (((copyS s)).idx).posts⟩ : Idx), ((copyS s)).parts, ((copyS s)).mem⟩ : Sto) n r).1).mem).length) bq] O fun b0 aC aV aW => ?_
 replace ⟨ab, ac, ae, af, C⟩ := (so [Z, W, V] aC).g5 ab ac ae af C
 clear aC aW
 exact .r 1 <| .d <| .r2 Tryz.func5 Tryz.results5 (.bx aV) (.t (.bool ((addS (⟨(⟨(((copyS s)).idx).names, (((copyS s)).idx).posts⟩ : Idx), ((copyS s)).parts, ((copyS s)).mem⟩ : Sto) n r).2))) ⟨⟨_, (tup2 rfl (congrArg Value.bool (by first | rw [addP_no (.inl (by assumption))] | rw [addP_no (.inr (by assumption))] | rw [addP_yes (by assumption) (by assumption)]))), (VS.of (y := (⟨(⟨(((addS (⟨(⟨(((copyS s)).idx).names, (((copyS s)).idx).posts⟩ : Idx), ((copyS s)).parts, ((copyS s)).mem⟩ : Sto) n r).1).idx).names, (((addS (⟨(⟨(((copyS s)).idx).names, (((copyS s)).idx).posts⟩ : Idx), ((copyS s)).parts, ((copyS s)).mem⟩ : Sto) n r).1).idx).posts⟩ : Idx), ((addS (⟨(⟨(((copyS s)).idx).names, (((copyS s)).idx).posts⟩ : Idx), ((copyS s)).parts, ((copyS s)).mem⟩ : Sto) n r).1).parts, ((addS (⟨(⟨(((copyS s)).idx).names, (((copyS s)).idx).posts⟩ : Idx), ((copyS s)).parts, ((copyS s)).mem⟩ : Sto) n r).1).mem⟩ : Sto)) ⟨_, rfl, ⟨_, _, _, _, _, _, _, _, _, _, _, _, rfl, ab.w1, ac.w1, ae.w1, af.w1⟩⟩ (by first | rw [addP_no (.inl (by assumption))] | rw [addP_no (.inr (by assumption))] | rw [addP_yes (by assumption) (by assumption)]))⟩, C⟩
end Go.Proofs.YtndljnhfkdhggaaGreat