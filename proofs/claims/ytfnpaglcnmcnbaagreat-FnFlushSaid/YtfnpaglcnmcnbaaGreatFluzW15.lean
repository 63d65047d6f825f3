/- walks; squeezed -/
import Derived.Test.YtfnpaglcnmcnbaaGreatFluzMod15
set_option linter.unusedVariables false
set_option linter.unusedSimpArgs false
namespace Go.Proofs.YtfnpaglcnmcnbaaGreat
set_option maxRecDepth 100000
set_option maxHeartbeats 4000000
theorem c_spec_IndexOk (ix : Idx) {w : World} {F : Nat → Prop} {a1 : Option Addr} {n1 c1 : Nat} (h1 : RepS w F a1 n1 c1 ix.names) {a2 : Option Addr} {n2 c2 : Nat} (h2 : RepS w F a2 n2 c2 ix.posts) (p0 : IxI ix) : Calls Tryz.prog 65 [.agg #[.slice a1 n1 c1, .slice a2 n2 c2]].toArray w (rets fun rv w' => rv = .bool (true) ∧ Ext w w') := by
 refine goT Tryz.func65 ?_
 obtain ⟨rfl, cu, h1⟩ := h1.tp
 obtain ⟨rfl, cv, h2⟩ := h2.tp
 refine .s <| .g <| .np 26 [.slice a1 ix.names.length c1, .slice a2 ix.posts.length c2] fun ab bv aS ax J bw => ?_
 replace ⟨h1, h2⟩ := (sn [] ax aS).g2 h1 h2
 have E := ax
 clear ax bw aS
 refine .r 1 <| .d <| .s <| .s <| .g <| .r 1 <| .lb J <| .r 1 <| .bp ((ix.names.length : Int) > 6) (fun bz => .d <| .ct <| .s <| .g <| .r 1 <| .d <| .rt Tryz.func65 Tryz.results65 (.bool false) ⟨(congrArg Value.bool (by first | (exfalso; first | (have Z := p0.nm.len; omega) | exact absurd (p0.nm.ok _ (by assumption)) (by rw [(by assumption : nameOk NOEL = false)]; simp) | exact nodup_at p0.nm.nodup (i := W) (k := k2) (by assumption) (by assumption) (by omega) (eq_of_beq (by assumption))) | (exfalso; have Z := posts_mem (p0.posts ▸ (by assumption : NOEL ∈ ix.posts)); first | (have q2 := Z.2.1; omega) | exact absurd (by rw [← Z.1]; simp : (NOEL.ids == ids ix.names NOEL.tag) = true) (by rw [(by assumption : (NOEL.ids == ids ix.names NOEL.tag) = false)]; simp) | exact absurd (posts_prev (names := ix.names) (i := W) (by rw [← p0.posts]; assumption) (by rw [← p0.posts]; assumption) (by omega)) (by simp [*])))), E⟩) fun bz => .d <| .cf <| .sk <| .s <| .g <| .r 1 <| .d <| .s <| .s <| .g <| .r 1 <| .d <| .b 0 <| T.loop (X := Int × Nat) (0, 0) (fun (k, W) => [(1, .pointer (some ⟨ab, 0, none⟩)), (3, vI k), (4, vI (W : Int))]) (fun (k, W) aw => Chg (ins []) bv aw ∧ (W ≤ ix.names.length) ∧ (k = (((ix.names.take W).map List.length).sum : Nat)) ∧ (0 ≤ k) ∧ (k ≤ 1000 * W)) (fun (k, W) => ix.names.length - W) (by kernel_rfl) ⟨by kernel_rfl, by kernel_rfl, by kernel_rfl, trivial⟩ ⟨Chg.refl _ _, (by simp), (by simp), (by simp), (by simp)⟩ ?_
 rintro ⟨k, W⟩ cY aw ⟨ac, cw, cx, cy, cz⟩ ay
 have aT : Mv [ab] [ab] bv aw := Mv.inl ac all_nil (all_cons (.inl (.head _)) all_nil)
 replace ⟨h1, h2, J, E⟩ := (sp aT ac).g4 h1 h2 J E
 clear aT
 refine .s <| .s <| .g <| .r 2 <| .lb J <| .r 1 <| .bp ((W : Int) < (ix.names.length : Int)) (fun bA => ?_) (fun bA => ?_)
 · refine .d <| .ct <| .sk <| .s <| .b 1 <| .s <| .s <| .g <| .r 1 <| .lb J <| .r 1 ?_
   have bB : W < ix.names.length := (by omega)
   refine .ix W 1 h1 bB ?_
   obtain ⟨ae, am⟩ : ∃ y, ix.names[W]? = some y := ⟨_, List.getElem?_eq_getElem (by omega)⟩
   have cA := drop_at am; have bX := List.mem_of_getElem? am
   obtain ⟨_, ⟨cZ, c7, c8, rfl, ba⟩, bC⟩ := h1.elem W ae am
   have bD := ba.len
   subst bD
   have cB := ba.max
   refine .lh 0 bC <| .cl (c_spec_NameOk ae ba.ta (w := aw) (F := all)) ?_
   rintro c9 bE ⟨rfl, aU⟩
   replace ⟨h1, h2, J, E, ac⟩ := (se [ab] aU).g5 h1 h2 J E ac
   clear aU
   cases cC : (nameOk ae)
   · exact .r 1 <| .d <| .ct <| .s <| .g <| .r 1 <| .d <| .rt Tryz.func65 Tryz.results65 (.bool false) ⟨(congrArg Value.bool (by first | (exfalso; first | (have Z := p0.nm.len; omega) | exact absurd (p0.nm.ok _ (by assumption)) (by rw [(by assumption : nameOk ae = false)]; simp) | exact nodup_at p0.nm.nodup (i := W) (k := k2) (by assumption) (by assumption) (by omega) (eq_of_beq (by assumption))) | (exfalso; have Z := posts_mem (p0.posts ▸ (by assumption : NOEL ∈ ix.posts)); first | (have q2 := Z.2.1; omega) | exact absurd (by rw [← Z.1]; simp : (NOEL.ids == ids ix.names NOEL.tag) = true) (by rw [(by assumption : (NOEL.ids == ids ix.names NOEL.tag) = false)]; simp) | exact absurd (posts_prev (names := ix.names) (i := W) (by rw [← p0.posts]; assumption) (by rw [← p0.posts]; assumption) (by omega)) (by simp [*])))), E⟩
   refine .r 1 <| .d <| .cf <| .sk <| .s <| .s <| .g <| .r 1 <| .d <| .b 2 <| T.loop (X := Nat) 0 (fun k2 => [(1, .pointer (some ⟨ab, 0, none⟩)), (3, vI k), (4, vI (W : Int)), (5, vI (k2 : Int))]) (fun k2 bc => Chg (ins []) bE bc ∧ (k2 ≤ W)) (fun k2 => W - k2) (by kernel_rfl) ⟨by kernel_rfl, by kernel_rfl, by kernel_rfl, by kernel_rfl, trivial⟩ ⟨Chg.refl _ _, (by omega)⟩ ?_
   rintro k2 da bc ⟨ag, cD⟩ az
   have aV : Mv [ab] [ab] bE bc := Mv.inl ag all_nil (all_cons (.inl (.head _)) all_nil)
   replace ⟨h1, h2, J, E, ac⟩ := (sp aV ag).g5 h1 h2 J E ac
   clear aV
   refine .s <| .s <| .g <| .r 2 <| .bp ((k2 : Int) < (W : Int)) (fun bF => ?_) (fun bF => ?_)
   · refine .d <| .ct <| .sk <| .s <| .b 3 <| .s <| .gd nil 11 fun db aW => ?_
     replace ⟨h1, h2, J, E, ac, ag⟩ := (se [ab] aW).g6 h1 h2 J E ac ag
     clear aW
     refine .r [0] <| .lb 1 J id <| .r [2] ?_
     have bG : W < ix.names.length := (by omega)
     refine .ix 3 W 1 h1 bG ?_
     obtain ⟨_, ⟨dd, de, df, rfl, bH⟩, bI⟩ := h1.elem W ae am
     have bJ := bH.len
     subst bJ
     refine .lh 4 0 bI id <| GA.call1 (i := 5) (by kernel_rfl) (fun bZ bK => c_spec_l3Text ae (bH.ta.ext bK) (by have Z := p0.nm.sz _ (by assumption); grind [NmSz]) (by have Z := p0.nm.sz _ (by assumption); grind [NmSz]) (w := bZ) (F := all)) <| .r [6] <| .lb 7 J id <| .r [8] ?_
     have bL : k2 < ix.names.length := (by omega)
     refine .ix 9 k2 1 h1 bL ?_
     obtain ⟨aA, aB⟩ : ∃ y, ix.names[k2]? = some y := ⟨_, List.getElem?_eq_getElem (by omega)⟩
     have cE := drop_at aB; have bY := List.mem_of_getElem? aB
     obtain ⟨_, ⟨dg, dh, di, rfl, aC⟩, bM⟩ := h1.elem k2 aA aB
     have bN := aC.len
     subst bN
     have cF := aC.max
     refine .lh 10 0 bM id <| .d fun b0 aX => ?_
     replace ⟨h1, h2, J, aC, E, ac, ag⟩ := (se [ab] aX).g7 h1 h2 J aC E ac ag
     clear aX
     refine .cl (c_spec_l3Text aA aC.ta (by have Z := p0.nm.sz _ (by assumption); grind [NmSz]) (by have Z := p0.nm.sz _ (by assumption); grind [NmSz]) (w := b0) (F := all)) ?_
     rintro dj dk ⟨rfl, aY⟩
     replace ⟨h1, h2, J, E, ac, ag⟩ := (se [ab] aY).g6 h1 h2 J E ac ag
     clear aY
     refine RG.eqv (v := .bool ((text ae == text aA))) (by kernel_rfl) (s_eq (text ae) (text aA)) ?_
     cases cG : (text ae == text aA)
     · exact .d <| .cf <| .sk <| .ib 3 <| .g <| .r 1 <| RG.int ((k2 : Int) + 1) (by kernel_rfl) (by have q0 := p0.nm.len; first | omega | (have Z := (p0.nm.sz _ (by assumption)).1; omega) | (have Z := posts_mem (p0.posts ▸ (by assumption : NOEL ∈ ix.posts)); have q2 := ids_len ix.names NOEL.tag; rw [← Z.1] at q2; have q3 := posts_len ix.names; rw [← p0.posts] at q3; omega)) <| .r 1 <| .d <| az (k2 + 1) _ _ ⟨by kernel_rfl, by kernel_rfl, by kernel_rfl, by kernel_rfl, trivial⟩ ⟨ag, (by omega)⟩ (by first | omega | (simp only []; omega))
     exact .d <| .ct <| .s <| .g <| .r 1 <| .d <| .rt Tryz.func65 Tryz.results65 (.bool false) ⟨(congrArg Value.bool (by first | (exfalso; first | (have Z := p0.nm.len; omega) | exact absurd (p0.nm.ok _ (by assumption)) (by rw [(by assumption : nameOk ae = false)]; simp) | exact nodup_at p0.nm.nodup (i := W) (k := k2) (by assumption) (by assumption) (by omega) (eq_of_beq (by assumption))) | (exfalso; have Z := posts_mem (p0.posts ▸ (by assumption : NOEL ∈ ix.posts)); first | (have q2 := Z.2.1; omega) | exact absurd (by rw [← Z.1]; simp : (NOEL.ids == ids ix.names NOEL.tag) = true) (by rw [(by assumption : (NOEL.ids == ids ix.names NOEL.tag) = false)]; simp) | exact absurd (posts_prev (names := ix.names) (i := W) (by rw [← p0.posts]; assumption) (by rw [← p0.posts]; assumption) (by omega)) (by simp [*])))), E⟩
   refine .d <| .cf <| .x 2 rfl <| .g <| .r 2 <| .lb J <| .r 1 ?_
   have bO : W < ix.names.length := (by omega)
   refine .ix W 1 h1 bO ?_
   obtain ⟨_, ⟨dm, dp, dq, rfl, b6⟩, bP⟩ := h1.elem W ae am
   have bQ := b6.len
   subst bQ
   exact .lh 0 bP <| .r 1 <| RG.int (k + (ae.length : Int)) (by kernel_rfl) (by have q0 := p0.nm.len; first | omega | (have Z := (p0.nm.sz _ (by assumption)).1; omega) | (have Z := posts_mem (p0.posts ▸ (by assumption : NOEL ∈ ix.posts)); have q2 := ids_len ix.names NOEL.tag; rw [← Z.1] at q2; have q3 := posts_len ix.names; rw [← p0.posts] at q3; omega)) <| .r 1 <| .d <| .ib 1 <| .g <| .r 1 <| RG.int ((W : Int) + 1) (by kernel_rfl) (by have q0 := p0.nm.len; first | omega | (have Z := (p0.nm.sz _ (by assumption)).1; omega) | (have Z := posts_mem (p0.posts ▸ (by assumption : NOEL ∈ ix.posts)); have q2 := ids_len ix.names NOEL.tag; rw [← Z.1] at q2; have q3 := posts_len ix.names; rw [← p0.posts] at q3; omega)) <| .r 1 <| .d <| ay (k + (ae.length : Int), W + 1) _ _ ⟨by kernel_rfl, by kernel_rfl, by kernel_rfl, trivial⟩ ⟨ac, (by omega), (by rw [lenStep (f := List.length) (by assumption)]; omega), (by omega), (by have Z := (p0.nm.sz ae (by assumption)).1; omega)⟩ (by first | omega | (simp only []; omega))
 refine .d <| .cf <| .x 0 rfl <| .s <| .s <| .g <| .r 1 <| .d <| .b 4 <| T.loop (X := Int × Nat) (k, 0) (fun (k, W) => [(1, .pointer (some ⟨ab, 0, none⟩)), (3, vI k), (6, vI (W : Int))]) (fun (k, W) bd => Chg (ins []) aw bd ∧ (W ≤ ix.posts.length) ∧ (k = (lenSum ix.names : Int) - (((ix.posts.take W).map (fun p => p.ids.length)).sum : Nat)) ∧ (k ≤ 6000) ∧ (k ≥ - (1000 * W : Int))) (fun (k, W) => ix.posts.length - W) (by kernel_rfl) ⟨by kernel_rfl, by kernel_rfl, by kernel_rfl, trivial⟩ ⟨Chg.refl _ _, (by omega), (by have Z : ix.names.take W = ix.names := List.take_of_length_le (by omega); have q2 : k = (((ix.names.take W).map List.length).sum : Nat) := (by assumption); rw [Z] at q2; simp [q2, lenSum]), (by have q0 := p0.nm.len; omega), (by omega)⟩ ?_
 rintro ⟨k, W⟩ cH bd ⟨O, b7, b8, b9, cd⟩ ai
 have aD : Mv [ab] [ab] aw bd := Mv.inl O all_nil (all_cons (.inl (.head _)) all_nil)
 replace ⟨h1, h2, J, E⟩ := (sp aD O).g4 h1 h2 J E
 clear aD
 refine .s <| .s <| .g <| .r 2 <| .lb J <| .r 1 <| .bp ((W : Int) < (ix.posts.length : Int)) (fun bg => ?_) (fun bg => .d <| .cf <| .x 4 rfl <| .s <| .g <| .r 3 <| .d <| .rt Tryz.func65 Tryz.results65 (.bool (k == 0)) ⟨(congrArg Value.bool (by have Z : ix.posts.take W = ix.posts := List.take_of_length_le (by omega); have q2 : k = (lenSum ix.names : Int) - (((ix.posts.take W).map (fun p => p.ids.length)).sum : Nat) := (by assumption); have q3 := ix_sum p0; unfold idSum at q3; rw [Z] at q2; simp; omega)), E⟩)
 refine .d <| .ct <| .sk <| .s <| .b 5 <| .s <| .g <| .r 1 <| .lb J <| .r 1 ?_
 have bh : W < ix.posts.length := (by omega)
 refine .ix W 3 h2 bh ?_
 obtain ⟨C, ao⟩ : ∃ y, ix.posts[W]? = some y := ⟨_, List.getElem?_eq_getElem (by omega)⟩
 have ce := drop_at ao; have bR := List.mem_of_getElem? ao
 obtain ⟨_, ⟨bS, cI, bT, rfl, aa⟩, bi⟩ := h2.elem W C ao
 have bj := aa.len
 subst bj
 have cg := aa.max
 refine .lg 0 bi <| .np 130 [.string (bs []), .string (bs []), .slice none 0 0] fun aj cJ ah aE bk bm => ?_
 have ci := nb_new ah J.lt
 have cj := E.cn ah
 have ck := O.cn ah
 replace ⟨h1, h2, J, aa, E, O⟩ := (sn [ab] aE ah).g6 h1 h2 J aa E O
 clear aE bm ah
 refine .sc [vT C.tag.key, vT C.tag.val, .slice bS C.ids.length bT] bk fun cK aF V bn => ?_
 replace ⟨h1, h2, J, aa, E, O⟩ := (so [aj, ab] aF).g6 h1 h2 J aa E O
 clear aF bn
 refine .d <| .s <| .s <| .gd nil 28 fun cL aG => ?_
 replace ⟨h1, h2, J, aa, V, E, O⟩ := (se [aj, ab] aG).g7 h1 h2 J aa V E O
 clear aG
 refine .r [0] <| .lb 1 V id <| .r [2] <| GA.eqI (i := 3) (a := (C.ids.length : Int)) (b := 0) (by kernel_rfl) (fun bo => ?_) (fun bo => ?_)
 · refine .r [4, 5, 6, 7, 8, 9, 10, 11, 12, 13, 14, 15, 16, 17, 18, 19, 20, 21, 22, 23, 24, 25, 26, 27] <| .d fun cM aH => ?_
   replace ⟨h1, h2, J, aa, V, E, O⟩ := (se [aj, ab] aH).g7 h1 h2 J aa V E O
   clear aH
   exact .r 4 <| .d <| .ct <| .s <| .g <| .r 1 <| .d <| .rt Tryz.func65 Tryz.results65 (.bool false) ⟨(congrArg Value.bool (by first | (exfalso; first | (have Z := p0.nm.len; omega) | exact absurd (p0.nm.ok _ (by assumption)) (by rw [(by assumption : nameOk ae = false)]; simp) | exact nodup_at p0.nm.nodup (i := W) (k := k2) (by assumption) (by assumption) (by omega) (eq_of_beq (by assumption))) | (exfalso; have Z := posts_mem (p0.posts ▸ (by assumption : C ∈ ix.posts)); first | (have q2 := Z.2.1; omega) | exact absurd (by rw [← Z.1]; simp : (C.ids == ids ix.names C.tag) = true) (by rw [(by assumption : (C.ids == ids ix.names C.tag) = false)]; simp) | exact absurd (posts_prev (names := ix.names) (i := W) (by rw [← p0.posts]; assumption) (by rw [← p0.posts]; assumption) (by omega)) (by simp [*])))), E⟩
 refine .r [4, 5] <| .lb 6 V id <| .r [7] <| .lb 8 J id <| .r [9] <| .ln 10 V id <| .go 11 <| .cl (fun aI aq => c_spec_l11Ids ix.names C.tag (h1.ta.ext aq) (by have q0 := p0.nm.len; omega) (w := aI) (F := all)) ?_
 intro aI aq
 replace ⟨h2, J, aa, V, E, O⟩ := (se [aj, ab] aq).g6 h2 J aa V E O
 rintro cN cO ⟨⟨cP, cQ, rfl, av⟩, ar⟩
 have aJ := al2 V.lt J.lt
 have bq : Gb w.heap.size aI.heap.size := E.size
 have hkeep_ := ar
 replace ⟨h2, J, aa, V, E, O⟩ := (se [aj, ab] ar).g6 h2 J aa V E O
 clear ar
 refine ⟨Ext.chg hkeep_, ?_⟩
 have av := av.fr aJ bq
 have cm := av.max
 clear aJ
 refine GA.call1 (i := 12) (by kernel_rfl) (fun bU aK => c_spec_l11Same C.ids (ids ix.names C.tag) (aa.ta.ext aK) (av.ta.ext aK) (w := bU) (F := all)) ?_
 cases co : (C.ids == (ids ix.names C.tag))
 · refine .r [13, 14, 15, 16, 17, 18, 19, 20, 21, 22, 23, 24, 25, 26, 27] <| .d fun cR aL => ?_
   replace ⟨h2, J, V, E, O⟩ := (se [aj, ab] aL).g5 h2 J V E O
   clear aL
   exact .r 4 <| .d <| .ct <| .s <| .g <| .r 1 <| .d <| .rt Tryz.func65 Tryz.results65 (.bool false) ⟨(congrArg Value.bool (by first | (exfalso; first | (have Z := p0.nm.len; omega) | exact absurd (p0.nm.ok _ (by assumption)) (by rw [(by assumption : nameOk ae = false)]; simp) | exact nodup_at p0.nm.nodup (i := W) (k := k2) (by assumption) (by assumption) (by omega) (eq_of_beq (by assumption))) | (exfalso; have Z := posts_mem (p0.posts ▸ (by assumption : C ∈ ix.posts)); first | (have q2 := Z.2.1; omega) | exact absurd (by rw [← Z.1]; simp : (C.ids == ids ix.names C.tag) = true) (by rw [(by assumption : (C.ids == ids ix.names C.tag) = false)]; simp) | exact absurd (posts_prev (names := ix.names) (i := W) (by rw [← p0.posts]; assumption) (by rw [← p0.posts]; assumption) (by omega)) (by simp [*])))), E⟩
 refine .r [13, 14, 15, 16] <| GA.boolP (i := 17) ((W : Int) > 0) (by kernel_rfl) (fun br => ?_) (fun br => ?_)
 · refine .r [18, 19] <| .lb 20 J id <| .r [21] <| GA.int (i := 22) ((W : Int) - 1) (by kernel_rfl) (by have q0 := p0.nm.len; first | omega | (have Z := (p0.nm.sz _ (by assumption)).1; omega) | (have Z := posts_mem (p0.posts ▸ (by assumption : C ∈ ix.posts)); have q2 := ids_len ix.names C.tag; rw [← Z.1] at q2; have q3 := posts_len ix.names; rw [← p0.posts] at q3; omega)) ?_
   have aM : W - 1 < ix.posts.length := (by omega)
   refine GA.idx (i := 23) (W - 1) (len := ix.posts.length) (z := (W : Int) - 1) (sz := 3) (by kernel_rfl) (by omega) aM (h2.addr (Nat.zero_lt_of_lt aM)) <| .r [24] ?_
   obtain ⟨aN, au⟩ : ∃ y, ix.posts[W - 1]? = some y := ⟨_, List.getElem?_eq_getElem (by omega)⟩
   have cp := drop_at au; have bV := List.mem_of_getElem? au
   obtain ⟨_, ⟨cS, cT, cU, rfl, aZ⟩, bt⟩ := h2.elem (W - 1) aN au
   have bu := aZ.len
   subst bu
   have cq := aZ.max
   refine .lg 25 0 bt id <| .r [26] <| .ln 27 V id <| .d fun bW aO => ?_
   replace ⟨V, E, O⟩ := (se [] aO).g3 V E O
   clear aO
   refine .cl (c_spec_l11Less aN.tag C.tag (w := bW) (F := all)) ?_
   rintro cV cW ⟨rfl, aP⟩
   replace ⟨V, E, O⟩ := (se [] aP).g3 V E O
   clear aP
   cases cr : (tagLt aN.tag C.tag)
   · exact .r 3 <| .d <| .ct <| .s <| .g <| .r 1 <| .d <| .rt Tryz.func65 Tryz.results65 (.bool false) ⟨(congrArg Value.bool (by first | (exfalso; first | (have Z := p0.nm.len; omega) | exact absurd (p0.nm.ok _ (by assumption)) (by rw [(by assumption : nameOk ae = false)]; simp) | exact nodup_at p0.nm.nodup (i := W) (k := k2) (by assumption) (by assumption) (by omega) (eq_of_beq (by assumption))) | (exfalso; have Z := posts_mem (p0.posts ▸ (by assumption : C ∈ ix.posts)); first | (have q2 := Z.2.1; omega) | exact absurd (by rw [← Z.1]; simp : (C.ids == ids ix.names C.tag) = true) (by rw [(by assumption : (C.ids == ids ix.names C.tag) = false)]; simp) | exact absurd (posts_prev (names := ix.names) (i := W) (by rw [← p0.posts]; assumption) (by rw [← p0.posts]; assumption) (by omega)) (by simp [*])))), E⟩
   exact .r 3 <| .d <| .cf <| .sk <| .g <| .r 2 <| .lb V <| .r 1 <| RG.int (k - (C.ids.length : Int)) (by kernel_rfl) (by have q0 := p0.nm.len; first | omega | (have Z := (p0.nm.sz _ (by assumption)).1; omega) | (have Z := posts_mem (p0.posts ▸ (by assumption : C ∈ ix.posts)); have q2 := ids_len ix.names C.tag; rw [← Z.1] at q2; have q3 := posts_len ix.names; rw [← p0.posts] at q3; omega)) <| .r 1 <| .d <| .ib 5 <| .g <| .r 1 <| RG.int ((W : Int) + 1) (by kernel_rfl) (by have q0 := p0.nm.len; first | omega | (have Z := (p0.nm.sz _ (by assumption)).1; omega) | (have Z := posts_mem (p0.posts ▸ (by assumption : C ∈ ix.posts)); have q2 := ids_len ix.names C.tag; rw [← Z.1] at q2; have q3 := posts_len ix.names; rw [← p0.posts] at q3; omega)) <| .r 1 <| .d <| ai (k - (C.ids.length : Int), W + 1) _ _ ⟨by kernel_rfl, by kernel_rfl, by kernel_rfl, trivial⟩ ⟨O, (by omega), (by rw [lenStep (f := fun p => p.ids.length) (l := ix.posts) (i := W) (x := C) (by assumption)]; omega), (by omega), (by have Z := posts_mem (p0.posts ▸ (by assumption : C ∈ ix.posts)); have q2 := ids_len ix.names C.tag; rw [← Z.1] at q2; have q3 := p0.nm.len; omega)⟩ (by first | omega | (simp only []; omega))
 refine .r [18, 19, 20, 21, 22, 23, 24, 25, 26, 27] <| .d fun cX aQ => ?_
 replace ⟨V, E, O⟩ := (se [] aQ).g3 V E O
 clear aQ
 exact .r 4 <| .d <| .cf <| .sk <| .g <| .r 2 <| .lb V <| .r 1 <| RG.int (k - (C.ids.length : Int)) (by kernel_rfl) (by have q0 := p0.nm.len; first | omega | (have Z := (p0.nm.sz _ (by assumption)).1; omega) | (have Z := posts_mem (p0.posts ▸ (by assumption : C ∈ ix.posts)); have q2 := ids_len ix.names C.tag; rw [← Z.1] at q2; have q3 := posts_len ix.names; rw [← p0.posts] at q3; omega)) <| .r 1 <| .d <| .ib 5 <| .g <| .r 1 <| RG.int ((W : Int) + 1) (by kernel_rfl) (by have q0 := p0.nm.len; first | omega | (have Z := (p0.nm.sz _ (by assumption)).1; omega) | (have Z := posts_mem (p0.posts ▸ (by assumption : C ∈ ix.posts)); have q2 := ids_len ix.names C.tag; rw [← Z.1] at q2; have q3 := posts_len ix.names; rw [← p0.posts] at q3; omega)) <| .r 1 <| .d <| ai (k - (C.ids.length : Int), W + 1) _ _ ⟨by kernel_rfl, by kernel_rfl, by kernel_rfl, trivial⟩ ⟨O, (by omega), (by rw [lenStep (f := fun p => p.ids.length) (l := ix.posts) (i := W) (x := C) (by assumption)]; omega), (by omega), (by have Z := posts_mem (p0.posts ▸ (by assumption : C ∈ ix.posts)); have q2 := ids_len ix.names C.tag; rw [← Z.1] at q2; have q3 := p0.nm.len; omega)⟩ (by first | omega | (simp only []; omega))
theorem c_spec_StoreOk (s : Sto) {w : World} {F : Nat → Prop} {a1 : Option Addr} {n1 c1 : Nat} (h1 : RepS w F a1 n1 c1 s.idx.names) {a2 : Option Addr} {n2 c2 : Nat} (h2 : RepS w F a2 n2 c2 s.idx.posts) {a3 : Option Addr} {n3 c3 : Nat} (h3 : RepS w F a3 n3 c3 s.parts) {a4 : Option Addr} {n4 c4 : Nat} (h4 : RepS w F a4 n4 c4 s.mem) (p0 : SD s) : Calls Tryz.prog 19 [.agg #[.slice a1 n1 c1, .slice a2 n2 c2, .slice a3 n3 c3, .slice a4 n4 c4]].toArray w (rets fun rv w' => rv = .bool (storeOk s) ∧ Ext w w') := by
 refine goT Tryz.func19 ?_
 obtain ⟨rfl, ba, h1⟩ := h1.tp
 obtain ⟨rfl, bc, h2⟩ := h2.tp
 obtain ⟨rfl, bd, h3⟩ := h3.tp
 obtain ⟨rfl, bg, h4⟩ := h4.tp
 refine .s <| .g <| .np 30 [.slice a1 s.idx.names.length c1, .slice a2 s.idx.posts.length c2, .slice a3 s.parts.length c3, .slice a4 s.mem.length c4] fun J aW aq af C aG => ?_
 replace ⟨h1, h2, h3, h4⟩ := (sn [] af aq).g4 h1 h2 h3 h4
 have E := af
 clear af aG aq
 refine .r 1 <| .d <| .s <| .g <| .r 2 <| .lb C <| .r 2 <| .d <| .s <| .s <| .g <| .r 1 <| .ln C <| .cl (c_spec_IndexOk s.idx h1.ta h2.ta p0.ix (w := aW) (F := all)) ?_
 rintro bI aH ⟨rfl, ar⟩
 replace ⟨h1, h2, h3, h4, C, E⟩ := (se [J] ar).g6 h1 h2 h3 h4 C E
 clear ar
 refine .r 3 <| .lb C <| .r 1 <| .bp ((s.parts.length : Int) > 6) (fun aI => .r 7 <| .d <| .ct <| .s <| .g <| .r 1 <| .d <| .rt Tryz.func19 Tryz.results19 (.bool false) ⟨(congrArg Value.bool (by symm; first | exact storeOk_1 (by omega) | exact storeOk_2 (allNo (by assumption) (by assumption) (by assumption)) | exact storeOk_3 (allNo (by assumption) (by assumption) (by simp [memOk, *])) | exact storeOk_4 (cntNo (by assumption) (by omega) (by omega) (by omega)))), E⟩) fun aI => .r 3 <| .lb C <| .r 1 <| .bp ((s.mem.length : Int) > 20) (fun aJ => .r 1 <| .d <| .ct <| .s <| .g <| .r 1 <| .d <| .rt Tryz.func19 Tryz.results19 (.bool false) ⟨(congrArg Value.bool (by symm; first | exact storeOk_1 (by omega) | exact storeOk_2 (allNo (by assumption) (by assumption) (by assumption)) | exact storeOk_3 (allNo (by assumption) (by assumption) (by simp [memOk, *])) | exact storeOk_4 (cntNo (by assumption) (by omega) (by omega) (by omega)))), E⟩) fun aJ => .r 1 <| .d <| .cf <| .sk <| .s <| .s <| .g <| .r 1 <| .d <| .b 0 <| T.loop (X := Nat) 0 (fun k => [(1, .pointer (some ⟨J, 0, none⟩)), (3, vI (s.idx.names.length : Int)), (4, vI (k : Int))]) (fun k aa => Chg (ins []) aH aa ∧ (k ≤ s.parts.length) ∧ ((s.parts.drop k).all (fun p => partIn p s.idx.names.length) = s.parts.all (fun p => partIn p s.idx.names.length))) (fun k => s.parts.length - k) (by kernel_rfl) ⟨by kernel_rfl, by kernel_rfl, by kernel_rfl, trivial⟩ ⟨Chg.refl _ _, (by simp), (by simp)⟩ ?_
 rintro k bJ aa ⟨W, bh, bi⟩ ag
 have au : Mv [J] [J] aH aa := Mv.inl W all_nil (all_cons (.inl (.head _)) all_nil)
 replace ⟨h1, h2, h3, h4, C, E⟩ := (sp au W).g6 h1 h2 h3 h4 C E
 clear au
 refine .s <| .s <| .g <| .r 2 <| .lb C <| .r 1 <| .bp ((k : Int) < (s.parts.length : Int)) (fun aK => ?_) (fun aK => ?_)
 · refine .d <| .ct <| .sk <| .s <| .b 1 <| .s <| .g <| .r 1 <| .lb C <| .r 1 ?_
   have aL : k < s.parts.length := (by omega)
   refine .ix k 2 h3 aL ?_
   obtain ⟨aA, ah⟩ : ∃ y, s.parts[k]? = some y := ⟨_, List.getElem?_eq_getElem (by omega)⟩
   have bj := drop_at ah; have aU := List.mem_of_getElem? ah
   obtain ⟨_, ⟨bK, bL, bM, bN, bO, bP, rfl, aB, aC⟩, aM⟩ := h3.elem k aA ah
   have aN := aB.len
   subst aN
   have bk := aB.max
   have aO := aC.len
   subst aO
   have bm := aC.max
   refine .lg 0 aM <| .r 1 <| .cl (c_spec_l13Part aA (s.idx.names.length : Int) aB.ta aC.ta (w := aa) (F := all)) ?_
   rintro bQ bR ⟨rfl, av⟩
   replace ⟨h1, h2, h3, h4, C, E, W⟩ := (se [J] av).g7 h1 h2 h3 h4 C E W
   clear av
   cases bn : (partIn aA (s.idx.names.length : Int))
   · exact .r 1 <| .d <| .ct <| .s <| .g <| .r 1 <| .d <| .rt Tryz.func19 Tryz.results19 (.bool false) ⟨(congrArg Value.bool (by symm; first | exact storeOk_1 (by omega) | exact storeOk_2 (allNo (by assumption) (by assumption) (by assumption)) | exact storeOk_3 (allNo (by assumption) (by assumption) (by simp [memOk, *])) | exact storeOk_4 (cntNo (by assumption) (by omega) (by omega) (by omega)))), E⟩
   exact .r 1 <| .d <| .cf <| .sk <| .ib 1 <| .g <| .r 1 <| RG.int ((k : Int) + 1) (by kernel_rfl) (by have := p0.nm.len; omega) <| .r 1 <| .d <| ag (k + 1) _ _ ⟨by kernel_rfl, by kernel_rfl, by kernel_rfl, trivial⟩ ⟨W, (by omega), (by exact allStep (by assumption) (by assumption) (by assumption))⟩ (by first | omega | (simp only []; omega))
 refine .d <| .cf <| .x 0 rfl <| .s <| .s <| .g <| .r 1 <| .d <| .b 2 <| T.loop (X := Nat) 0 (fun k => [(1, .pointer (some ⟨J, 0, none⟩)), (3, vI (s.idx.names.length : Int)), (5, vI (k : Int))]) (fun k ab => Chg (ins []) aa ab ∧ (k ≤ s.mem.length) ∧ (s.parts.all (fun p => partIn p s.idx.names.length) = true) ∧ ((s.mem.drop k).all (memOk s.idx.names.length) = s.mem.all (memOk s.idx.names.length))) (fun k => s.mem.length - k) (by kernel_rfl) ⟨by kernel_rfl, by kernel_rfl, by kernel_rfl, trivial⟩ ⟨Chg.refl _ _, (by simp), (by exact allEnd (by assumption) (by omega)), (by simp)⟩ ?_
 rintro k bS ab ⟨O, bo, bq, br⟩ ai
 have aw : Mv [J] [J] aa ab := Mv.inl O all_nil (all_cons (.inl (.head _)) all_nil)
 replace ⟨h1, h2, h3, h4, C, E⟩ := (sp aw O).g6 h1 h2 h3 h4 C E
 clear aw
 refine .s <| .s <| .g <| .r 2 <| .lb C <| .r 1 <| .bp ((k : Int) < (s.mem.length : Int)) (fun aP => ?_) (fun aP => ?_)
 · refine .d <| .ct <| .sk <| .s <| .b 3 <| .s <| .g <| .r 1 <| .lb C <| .r 1 ?_
   have aQ : k < s.mem.length := (by omega)
   refine .ix k 3 h4 aQ <| .r 1 ?_
   obtain ⟨ac, Z⟩ : ∃ y, s.mem[k]? = some y := ⟨_, List.getElem?_eq_getElem (by omega)⟩
   have bt := drop_at Z; have aV := List.mem_of_getElem? Z
   obtain ⟨_, rfl, aR⟩ := h4.elem k ac Z
   refine .lh 0 aR <| .r 1 <| .cl (c_spec_l6In ac.id 1 (s.idx.names.length : Int) (w := ab) (F := all)) ?_
   rintro bT aX ⟨rfl, ax⟩
   replace ⟨h1, h2, h3, h4, C, E, O⟩ := (se [J] ax).g7 h1 h2 h3 h4 C E O
   clear ax
   cases ay : (inR ac.id 1 (s.idx.names.length : Int))
   · have bu := inR_f ay
     exact .r 11 <| .d <| .ct <| .s <| .g <| .r 1 <| .d <| .rt Tryz.func19 Tryz.results19 (.bool false) ⟨(congrArg Value.bool (by symm; first | exact storeOk_1 (by omega) | exact storeOk_2 (allNo (by assumption) (by assumption) (by assumption)) | exact storeOk_3 (allNo (by assumption) (by assumption) (by simp [memOk, *])) | exact storeOk_4 (cntNo (by assumption) (by omega) (by omega) (by omega)))), E⟩
   have bv := inR_t ay
   refine .r 3 <| .lb C <| .r 1 ?_
   have aS : k < s.mem.length := (by omega)
   refine .ix k 3 h4 aS <| .r 1 ?_
   obtain ⟨_, rfl, aT⟩ := h4.elem k ac Z
   refine .lg 1 aT <| .cl (c_spec_l2Row ac.row (w := aX) (F := all)) ?_
   rintro bU bV ⟨rfl, az⟩
   replace ⟨h1, h2, h3, h4, C, E, O⟩ := (se [J] az).g7 h1 h2 h3 h4 C E O
   clear az
   cases bw : (rowOk ac.row)
   · exact .r 2 <| .d <| .ct <| .s <| .g <| .r 1 <| .d <| .rt Tryz.func19 Tryz.results19 (.bool false) ⟨(congrArg Value.bool (by symm; first | exact storeOk_1 (by omega) | exact storeOk_2 (allNo (by assumption) (by assumption) (by assumption)) | exact storeOk_3 (allNo (by assumption) (by assumption) (by simp [memOk, *])) | exact storeOk_4 (cntNo (by assumption) (by omega) (by omega) (by omega)))), E⟩
   exact .r 2 <| .d <| .cf <| .sk <| .ib 3 <| .g <| .r 1 <| RG.int ((k : Int) + 1) (by kernel_rfl) (by have := p0.nm.len; omega) <| .r 1 <| .d <| ai (k + 1) _ _ ⟨by kernel_rfl, by kernel_rfl, by kernel_rfl, trivial⟩ ⟨O, (by omega), (by assumption), (by exact allStep (by assumption) (by assumption) (by simp only [memOk, *]; rfl))⟩ (by first | omega | (simp only []; omega))
 refine .d <| .cf <| .x 2 rfl <| .s <| .s <| .g <| .r 1 <| .d <| .b 4 <| T.loop (X := Nat) 1 (fun k => [(1, .pointer (some ⟨J, 0, none⟩)), (3, vI (s.idx.names.length : Int)), (6, vI (k : Int))]) (fun k aj => Chg (ins []) ab aj ∧ (1 ≤ k) ∧ (k ≤ s.idx.names.length + 1) ∧ (s.parts.all (fun p => partIn p s.idx.names.length) = true) ∧ (s.mem.all (memOk s.idx.names.length) = true) ∧ (((List.range s.idx.names.length).drop (k - 1)).all (cntOk s) = (List.range s.idx.names.length).all (cntOk s))) (fun k => s.idx.names.length + 1 - k) (by kernel_rfl) ⟨by kernel_rfl, by kernel_rfl, by kernel_rfl, trivial⟩ ⟨Chg.refl _ _, (by omega), (by omega), (by assumption), (by exact allEnd (by assumption) (by omega)), (by rfl)⟩ ?_
 rintro k bz aj ⟨V, bA, bB, bC, bD, aY⟩ ae
 have ak : Mv [J] [J] ab aj := Mv.inl V all_nil (all_cons (.inl (.head _)) all_nil)
 replace ⟨h1, h2, h3, h4, C, E⟩ := (sp ak V).g6 h1 h2 h3 h4 C E
 clear ak
 refine .s <| .s <| .g <| .r 2 <| .bp ((k : Int) ≤ (s.idx.names.length : Int)) (fun aD => ?_) (fun aD => .d <| .cf <| .x 4 rfl <| .s <| .g <| .r 1 <| .d <| .rt Tryz.func19 Tryz.results19 (.bool true) ⟨(congrArg Value.bool (by symm; exact storeOk_5 (by omega) (by omega) (by assumption) (by assumption) (cntEnd (by assumption) (by omega)))), E⟩)
 refine .d <| .ct <| .sk <| .s <| .b 5 <| .s <| .g <| .ln C <| .r 1 <| .cl (c_spec_l13Rows s (k : Int) h1.ta h2.ta h3.ta h4.ta (by have := p0.np; omega) (fun p hp => (p0.part p hp).sz) (by have := p0.nm2; omega) (w := aj) (F := all)) ?_
 rintro bE bF ⟨⟨bG, bH, rfl, al⟩, am⟩
 have ao := al1 C.lt
 have aE : Gb w.heap.size aj.heap.size := E.size
 replace ⟨E, V⟩ := (se [] am).g2 E V
 clear am
 have al := al.fr ao aE
 have aZ := al.max
 clear ao
 exact .r 1 <| .bp ((((rowsOf s (k : Int)).length) : Int) > 24) (fun aF => .d <| .ct <| .s <| .g <| .r 1 <| .d <| .rt Tryz.func19 Tryz.results19 (.bool false) ⟨(congrArg Value.bool (by symm; first | exact storeOk_1 (by omega) | exact storeOk_2 (allNo (by assumption) (by assumption) (by assumption)) | exact storeOk_3 (allNo (by assumption) (by assumption) (by simp [memOk, *])) | exact storeOk_4 (cntNo (by assumption) (by omega) (by omega) (by omega)))), E⟩) fun aF => .d <| .cf <| .sk <| .ib 5 <| .g <| .r 1 <| RG.int ((k : Int) + 1) (by kernel_rfl) (by have := p0.nm.len; omega) <| .r 1 <| .d <| ae (k + 1) _ _ ⟨by kernel_rfl, by kernel_rfl, by kernel_rfl, trivial⟩ ⟨V, (by omega), (by omega), (by assumption), (by assumption), (by exact cntStep (by assumption) (by omega) (by omega) (by omega))⟩ (by first | omega | (simp only []; omega))
end Go.Proofs.YtfnpaglcnmcnbaaGreat
