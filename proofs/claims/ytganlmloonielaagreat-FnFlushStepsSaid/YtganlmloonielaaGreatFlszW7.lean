/- walks; hints pruned; squeezed -/
import Derived.Test.YtganlmloonielaaGreatFlszW3
set_option linter.unusedVariables false
set_option linter.unusedSimpArgs false
namespace Go.Proofs.YtganlmloonielaaGreat
set_option maxRecDepth 100000
set_option maxHeartbeats 4000000
theorem c_spec_l21Tidy (d : Dsk) {w : World} {F : Nat → Prop} {a1 : Option Addr} {n1 c1 : Nat} (h1 : RepS w F a1 n1 c1 d.files) {a2 : Option Addr} {n2 c2 : Nat} (h2 : RepS w F a2 n2 c2 d.list) {a3 : Option Addr} {n3 c3 : Nat} (h3 : RepS w F a3 n3 c3 d.names) (p0 : d.files.length ≤ 1000) : Calls Tryz.prog 80 [.agg #[.slice a1 n1 c1, .slice a2 n2 c2, .slice a3 n3 c3, .int .i64 d.next]].toArray w (rets fun rv w' => VS (fo F w.heap.size) w' (tidyD d : Dsk) rv ∧ Ext w w') := by
 refine goT Tryz.func80 ?_
 obtain ⟨rfl, bK, h1⟩ := h1.tp
 obtain ⟨rfl, bL, h2⟩ := h2.tp
 obtain ⟨rfl, bM, h3⟩ := h3.tp
 refine .s <| .g <| .np 27 [.slice a1 d.files.length c1, .slice a2 d.list.length c2, .slice a3 d.names.length c3, vI d.next] fun aa ci au av E aW => ?_
 have bN : Cov nil w aa := cov_new au (Nat.le_refl _)
 replace ⟨h1, h2, h3⟩ := (sn [] av au).g3 h1 h2 h3
 have C := av
 refine .np 27 [.slice none 0 0, .slice none 0 0, .slice none 0 0, vI 0] fun ab cj al aD J aX => ?_
 have bO := nb_new al E.lt
 have bP := C.cn al
 replace ⟨h1, h2, h3, E, C⟩ := (sn [aa] aD al).g5 h1 h2 h3 E C
 refine .d <| .s <| .g <| .ns 0 66 [] fun aj aw ag aE aY aZ => ?_
 have ba := nb_new ag E.lt
 have bc := nb_new ag J.lt
 have bd := gb_new ag C.size
 have bg := C.cn ag
 replace ⟨h1, h2, h3, E, J, C⟩ := (sn [ab, aa] aE ag).g6 h1 h2 h3 E J C
 have bh : Own (α := Fil) aw aj 66 (nin (fo F w.heap.size) [aj, ab, aa]) 0 0 [] := Own.nil' aY
 refine .r 1 <| .d <| .s <| .s <| .g <| .r 1 <| .d <| .b 0 <| T.loop (X := (List Fil) × Nat × Nat × Nat × Nat) (([] : List Fil), aj, 0, 0, 0) (fun (files, r_files, n_files, c_files, i) => [(1, .pointer (some ⟨aa, 0, none⟩)), (2, .pointer (some ⟨ab, 0, none⟩)), (3, vS r_files n_files c_files), (4, vI (i : Int))]) (fun (files, r_files, n_files, c_files, i) aC => Chg (ins [aj]) aw aC ∧ Own aC r_files 66 (nin (fo F w.heap.size) [r_files, ab, aa]) n_files c_files files ∧ OrB r_files aj aw.heap.size ∧ (i ≤ d.files.length) ∧ (files.length ≤ i) ∧ (files ++ (d.files.drop i).filter (fun f => d.list.contains f.num) = d.files.filter (fun f => d.list.contains f.num))) (fun (files, r_files, n_files, c_files, i) => d.files.length - i) (by kernel_rfl) ⟨by kernel_rfl, by kernel_rfl, by kernel_rfl, by kernel_rfl, trivial⟩ ⟨Chg.refl _ _, bh, orb_refl, (by simp), (by simp), (by simp)⟩ ?_
 rintro ⟨files, r_files, n_files, c_files, i⟩ ck aC ⟨W, O, ac, bQ, bR, bS⟩ ak
 have bT := nb_or' ac ba E.lt
 have bU := nb_or' ac bc J.lt
 have bi := gb_or' ac bd C.size
 have bV := cov_or' ac bg C.size
 have bj : Cov (ins [aj]) aw aj := ⟨.inl (.head _)⟩
 have bW := cov_or' ac bj (Nat.le_refl _)
 have aF : Mv [aj, ab, aa] [r_files, ab, aa] aw aC := Mv.inl W (all_cons (.head _) all_nil) (all_cons (orb_mem ac (.head _)) (all_cons (.inl (.tail _ (.head _))) (all_cons (.inl (.tail _ (.tail _ (.head _)))) all_nil)))
 replace ⟨h1, h2, h3, E, J, C⟩ := (sp aF W).g6 h1 h2 h3 E J C
 have bX := O.len; have bY := O.max
 refine .s <| .s <| .g <| .r 2 <| .lb E <| .r 1 <| .bp ((i : Int) < (d.files.length : Int)) (fun bk => ?_) (fun bk => ?_)
 ·refine .d <| .ct <| .sk <| .s <| .b 1 <| .s <| .gd nil 7 fun cm aG => ?_
  replace ⟨h1, h2, h3, E, J, O, C, W⟩ := (se [r_files, ab, aa] aG).g8 h1 h2 h3 E J O C W
  refine .ln 0 E id <| .r [1] <| .lb 2 E id <| .r [3] ?_
  have bm : i < d.files.length := (by omega)
  refine .ix 4 i 3 h1 bm <| .r [5] ?_
  obtain ⟨ah, am⟩ : ∃ y, d.files[i]? = some y := ⟨_, List.getElem?_eq_getElem (by omega)⟩
  have bZ := drop_at am; have bF := List.mem_of_getElem? am
  obtain ⟨_, ⟨co, cp, cq, cr, cu, cv, rfl, bn, bo⟩, bq⟩ := h1.elem i ah am
  have br := bn.len
  subst br
  have b0 := bn.max
  have bt := bo.len
  subst bt
  have b6 := bo.max
  refine .lh 6 0 bq id <| .d fun bG aH => ?_
  replace ⟨h1, h2, h3, E, J, O, C, W⟩ := (se [r_files, ab, aa] aH).g8 h1 h2 h3 E J O C W
  refine .cl (c_spec_l21Counts d ah.num h1.ta h2.ta h3.ta (w := bG) (F := all)) ?_
  rintro cw cx ⟨rfl, aI⟩
  replace ⟨h1, h2, h3, E, J, O, C, W⟩ := (se [r_files, ab, aa] aI).g8 h1 h2 h3 E J O C W
  cases b7 : (d.list.contains ah.num)
  ·exact .d <| .cf <| .sk <| .ib 1 <| .g <| .r 1 <| .it ((i : Int) + 1) <| .r 1 <| .d <| ak (files, r_files, n_files, c_files, i + 1) _ _ ⟨by kernel_rfl, by kernel_rfl, by kernel_rfl, by kernel_rfl, trivial⟩ ⟨W, O, ac, (by omega), (by omega), (by grind)⟩ (by (simp only []; omega))
  refine .d <| .ct <| .g <| .r 2 <| .lb E <| .r 1 ?_
  have bu : i < d.files.length := (by omega)
  refine .ix i 3 h1 bu ?_
  obtain ⟨_, ⟨bH, b8, bv, bw, b9, bz, rfl, ao, aq⟩, bA⟩ := h1.elem i ah am
  have aK := ao.len
  subst aK
  have aL := aq.len
  subst aL
  refine .lg 0 bA <| .ns 1 66 [vI ah.num, .slice bH ah.part.ids.length bv, .slice bw ah.part.blocks.length bz] fun aJ cd ae ax aM aN => ?_
  have aO := nb_new ae E.lt
  have aP := nb_new ae J.lt
  have ay := nb_new ae O.lt
  have aQ := gb_new ae C.size
  replace ⟨h2, h3, E, J, O, ao, aq, C, W⟩ := (se [r_files, ab, aa] ax).g9 h2 h3 E J O ao aq C W
  have ar : nin (fo F w.heap.size) [r_files, ab, aa] aJ ∧ aJ ≠ r_files := hap_mk (.inr aQ) (all_cons ay (all_cons aP (all_cons aO all_nil))) ay
  refine RG.append1 (T := 23) (ty := 23) (y := ah) O aM (by kernel_rfl) (by kernel_rfl) ⟨_, _, _, _, _, _, rfl, ao.oi, aq.oi⟩ ar (by omega) fun bB bC ce af ai az => ?_
  have aR := orb_or ai ac W.size
  replace ⟨h2, h3, E, J, C, W⟩ := (sa [r_files, ab, aa] az ai).g6 h2 h3 E J C W
  replace af := af.rn r_files
  have bI := af.len; have bJ := af.max
  exact .r 1 <| .d <| .ib 1 <| .g <| .r 1 <| .it ((i : Int) + 1) <| .r 1 <| .d <| ak ((files ++ [ah]), bB, n_files + 1, bC, i + 1) _ _ ⟨by kernel_rfl, by kernel_rfl, by kernel_rfl, by kernel_rfl, trivial⟩ ⟨W, af, aR, (by omega), (by omega), (by grind)⟩ (by (simp only []; omega))
 refine .d <| .cf <| .x 0 rfl <| .s <| .g <| .r 2 <| .ss 0 (vS r_files n_files c_files) E fun cg aA aS aT => ?_
 replace ⟨h2, h3, J, O, C⟩ := (so [r_files, ab, aa] aA).g5 h2 h3 J O C
 refine .d <| .s <| .g <| .ln aS <| .sc [vS r_files n_files c_files, .slice a2 d.list.length c2, .slice a3 d.names.length c3, vI d.next] J fun bD aB aU aV => ?_
 replace ⟨h2, h3, O, C⟩ := (so [r_files, ab, aa] aB).g4 h2 h3 O C
 refine .d ?_
 have bE := O.sl (.inr bi)
 replace ⟨h2, h3⟩ := (sd bD [r_files, ab, aa] r_files).g2 h2 h3
 exact .rb Tryz.func80 Tryz.results80 aU ⟨(VS.of (y := (⟨files, d.list, d.names, d.next⟩ : Dsk)) ⟨_, rfl, ⟨_, _, _, _, _, _, _, _, _, rfl, bE.w1, h2.w1, h3.w1⟩⟩ (by grind [tidyD, drop_end])), C⟩
theorem c_spec_l21Flush (d : Dsk) (s : Sto) {w : World} {F : Nat → Prop} {a1 : Option Addr} {n1 c1 : Nat} (h1 : RepS w F a1 n1 c1 d.files) {a2 : Option Addr} {n2 c2 : Nat} (h2 : RepS w F a2 n2 c2 d.list) {a3 : Option Addr} {n3 c3 : Nat} (h3 : RepS w F a3 n3 c3 d.names) {a4 : Option Addr} {n4 c4 : Nat} (h4 : RepS w F a4 n4 c4 s.idx.names) {a5 : Option Addr} {n5 c5 : Nat} (h5 : RepS w F a5 n5 c5 s.idx.posts) {a6 : Option Addr} {n6 c6 : Nat} (h6 : RepS w F a6 n6 c6 s.parts) {a7 : Option Addr} {n7 c7 : Nat} (h7 : RepS w F a7 n7 c7 s.mem) (p0 : s.mem.length ≤ 1000) (p1 : ∀ m ∈ s.mem, 1 ≤ m.id ∧ m.id ≤ 6) (p2 : d.list.length ≤ 1000) (p3 : s.idx.names.length ≤ 1000) (p4 : ∀ n ∈ s.idx.names, n.length ≤ 1000) : Calls Tryz.prog 56 [.agg #[.slice a1 n1 c1, .slice a2 n2 c2, .slice a3 n3 c3, .int .i64 d.next], .agg #[.slice a4 n4 c4, .slice a5 n5 c5, .slice a6 n6 c6, .slice a7 n7 c7]].toArray w (rets fun rv w' => VL (ge w.heap.size) w' (flushSt d s : List Stp) rv ∧ Ext w w') := by
 refine goT Tryz.func56 ?_
 obtain ⟨rfl, eN, h1⟩ := h1.tp
 obtain ⟨rfl, eO, h2⟩ := h2.tp
 obtain ⟨rfl, eP, h3⟩ := h3.tp
 obtain ⟨rfl, eQ, h4⟩ := h4.tp
 obtain ⟨rfl, eR, h5⟩ := h5.tp
 obtain ⟨rfl, eS, h6⟩ := h6.tp
 obtain ⟨rfl, eT, h7⟩ := h7.tp
 refine .s <| .g <| .np 27 [.slice a1 d.files.length c1, .slice a2 d.list.length c2, .slice a3 d.names.length c3, vI d.next] fun aa fI b6 bh E c9 => ?_
 replace ⟨h2, h4, h5, h6, h7⟩ := (sn [] bh b6).g5 h2 h4 h5 h6 h7
 have C := bh
 refine .np 34 [.slice a4 s.idx.names.length c4, .slice a5 s.idx.posts.length c5, .slice a6 s.parts.length c6, .slice a7 s.mem.length c7] fun ab aG b7 b8 J da => ?_
 replace ⟨h2, h4, h5, h6, h7, E, C⟩ := (sn [aa] b8 b7).g7 h2 h4 h5 h6 h7 E C
 refine .r 1 <| .d <| .s <| .s <| .g <| .r 1 <| .lb J <| .r 1 <| .eq (s.mem.length : Int) 0 (fun db => ?_) (fun db => ?_)
 ·refine .r 17 <| .d <| .ct <| .s <| .g <| .ns 0 44 [] fun bi de aK b9 df dg => ?_
  have eU := nb_new aK E.lt
  have eV := nb_new aK J.lt
  have dh := gb_new aK C.size
  replace ⟨h2, h4, h5, h6, h7, E, J, C⟩ := (sn [ab, aa] b9 aK).g8 h2 h4 h5 h6 h7 E J C
  have dj : Own (α := Stp) de bi 44 (nin (ge w.heap.size) [bi, ab, aa]) 0 0 [] := Own.nil' df
  refine .r 1 <| .d ?_
  have d0 := dj.sl dh
  replace ⟨h2, h4, h5, h6, h7⟩ := (sd de [bi, ab, aa] bi).g5 h2 h4 h5 h6 h7
  exact .rt Tryz.func56 Tryz.results56 (vS bi 0 0) ⟨(d0.vl (by rw [flushSt_no (by omega)]) (fun _ _ h => h.1)), C⟩
 refine .r 2 <| .lb E <| .r 1 <| .bp ((d.list.length : Int) ≥ 6) (fun dm => ?_) (fun dm => ?_)
 ·refine .r 12 <| .d <| .ct <| .s <| .g <| .ns 0 44 [] fun bj dp aL cd dq dr => ?_
  have eW := nb_new aL E.lt
  have eX := nb_new aL J.lt
  have dt := gb_new aL C.size
  replace ⟨h2, h4, h5, h6, h7, E, J, C⟩ := (sn [ab, aa] cd aL).g8 h2 h4 h5 h6 h7 E J C
  have du : Own (α := Stp) dp bj 44 (nin (ge w.heap.size) [bj, ab, aa]) 0 0 [] := Own.nil' dq
  refine .r 1 <| .d ?_
  have d3 := du.sl dt
  replace ⟨h2, h4, h5, h6, h7⟩ := (sd dp [bj, ab, aa] bj).g5 h2 h4 h5 h6 h7
  exact .rt Tryz.func56 Tryz.results56 (vS bj 0 0) ⟨(d3.vl (by rw [flushSt_no (by omega)]) (fun _ _ h => h.1)), C⟩
 refine .r 3 <| .lb E <| .bp (d.next ≥ 999) (fun dv => ?_) (fun dv => ?_)
 ·refine .r 7 <| .d <| .ct <| .s <| .g <| .ns 0 44 [] fun bk dw aM ce dx dy => ?_
  have eY := nb_new aM E.lt
  have eZ := nb_new aM J.lt
  have dz := gb_new aM C.size
  replace ⟨h2, h4, h5, h6, h7, E, J, C⟩ := (sn [ab, aa] ce aM).g8 h2 h4 h5 h6 h7 E J C
  have dA : Own (α := Stp) dw bk 44 (nin (ge w.heap.size) [bk, ab, aa]) 0 0 [] := Own.nil' dx
  refine .r 1 <| .d ?_
  have d4 := dA.sl dz
  replace ⟨h2, h4, h5, h6, h7⟩ := (sd dw [bk, ab, aa] bk).g5 h2 h4 h5 h6 h7
  exact .rt Tryz.func56 Tryz.results56 (vS bk 0 0) ⟨(d4.vl (by rw [flushSt_no (by omega)]) (fun _ _ h => h.1)), C⟩
 refine .r 3 <| .lb E <| .r 1 <| .bp ((d.files.length : Int) ≥ 20) (fun dB => ?_) (fun dB => ?_)
 ·refine .r 1 <| .d <| .ct <| .s <| .g <| .ns 0 44 [] fun bm dC aN cg dD dE => ?_
  have e7 := nb_new aN E.lt
  have e8 := nb_new aN J.lt
  have dF := gb_new aN C.size
  replace ⟨h2, h4, h5, h6, h7, E, J, C⟩ := (sn [ab, aa] cg aN).g8 h2 h4 h5 h6 h7 E J C
  have ck : Own (α := Stp) dC bm 44 (nin (ge w.heap.size) [bm, ab, aa]) 0 0 [] := Own.nil' dD
  refine .r 1 <| .d ?_
  have dG := ck.sl dF
  replace ⟨h2, h4, h5, h6, h7⟩ := (sd dC [bm, ab, aa] bm).g5 h2 h4 h5 h6 h7
  exact .rt Tryz.func56 Tryz.results56 (vS bm 0 0) ⟨(dG.vl (by rw [flushSt_no (by omega)]) (fun _ _ h => h.1)), C⟩
 refine .r 1 <| .d <| .cf <| .sk <| .s <| T.regionJ (X := Nat × Nat × Nat) (mtb [] aG.heap.size) 7 (fun (ak, ba, aB) => [(2, .pointer (some ⟨aa, 0, none⟩)), (3, .pointer (some ⟨ab, 0, none⟩)), (31, vS ak (0 + d.list.length) ba), (34, vS aB 1 1)]) (fun (ak, ba, aB) bc => Ext aG bc ∧ aG.heap.size ≤ ak ∧ aG.heap.size ≤ aB ∧ Nb aB ak ∧ Own bc ak 3 (nin (ge w.heap.size) [ak, ab, aa]) (0 + d.list.length) ba (([] ++ d.list) : List Int) ∧ Box bc aB 3 [vI d.next]) (by kernel_rfl) (fun dH aH => ?_) ?_
 ·replace h2 := h2.into
  replace h4 := h4.into
  replace h5 := h5.into
  replace h6 := h6.into
  replace h7 := h7.into
  have bn : Gb (aa + 1) aG.heap.size := E.lt
  replace ⟨h2, h4, h5, h6, h7, E, J, C⟩ := (se [ab, aa] aH).g8 h2 h4 h5 h6 h7 E J C
  have O := aH
  have W : Chg (mtb [] aG.heap.size) aG dH := Chg.stepN (Chg.refl (mtb [] aG.heap.size) aG) aH
  refine .r [1] <| .lb 2 E (nS_of all_nil bn) <| .r [4] <| .lb 5 E (nS_of all_nil bn) <| .tw 0 6 ?_ ?_
  ·refine .ns 0 3 [] fun fa bo => ?_
   replace ⟨h2, h4, h5, h6, h7, E, J, C, O, W⟩ := (se [ab, aa] bo).g10 h2 h4 h5 h6 h7 E J C O W
   intro al dI ar bq cm co
   have d5 := nb_new ar E.lt
   have d6 := nb_new ar J.lt
   have d7 := C.cn ar
   have br := O.cn ar
   have bt := W.cn ar
   replace ⟨h2, h4, h5, h6, h7, E, J, C, O, W⟩ := (sn [ab, aa] bq ar).g10 h2 h4 h5 h6 h7 E J C O W
   have aj : Own (α := Int) dI al 3 (nin (ge w.heap.size) [al, ab, aa]) 0 0 [] := Own.nil' cm
   refine .tw 3 6 ?_ ?_
   ·refine GE.append (T := 24) (ty := 24) (args := [vS al 0 0, .slice a2 d.list.length c2]) (by kernel_rfl) fun fb bu => ?_
    replace ⟨h2, h4, h5, h6, h7, E, J, aj, C, O, W⟩ := (se [al, ab, aa] bu).g11 h2 h4 h5 h6 h7 E J aj C O W
    obtain ⟨bd, dJ, fc, bv, ah, aI, aP, cp⟩ := Own.appendF (P := Tryz.prog) (T := 24) (ty := 24) flat_int aj (by kernel_rfl) h2 (fun b h e => h.2 (e ▸ (.head _))) (by omega)
    refine ⟨_, _, bv, Chg.toS aP (Cov.toS bt), ?_⟩
    have cq := cov_or aI br O.size
    replace ⟨h2, h4, h5, h6, h7, E, J, C, O, W⟩ := (sa [al, ab, aa] aP aI).g10 h2 h4 h5 h6 h7 E J C O W
    replace ah := ah.rn al
    have d8 := ah.len; have d9 := ah.max
    refine .go 6 <| .ns 1 3 [vI d.next] fun fd bw => ?_
    replace ⟨h2, h4, h5, h6, h7, E, J, ah, C, O, W⟩ := (se [bd, ab, aa] bw).g11 h2 h4 h5 h6 h7 E J ah C O W
    intro dK fe aQ bz aR cr
    have cu := nb_new aQ ah.lt
    have cv := O.cn aQ
    replace ⟨h2, h4, h5, h6, h7, E, J, ah, C, O, W⟩ := (se [bd, ab, aa] bz).g11 h2 h4 h5 h6 h7 E J ah C O W
    refine .d fun ff bA => ?_
    replace ⟨h2, h4, h5, h6, h7, E, J, ah, aR, C, O, W⟩ := (se [bd, ab, aa] bA).g12 h2 h4 h5 h6 h7 E J ah aR C O W
    replace h2 := h2.outof
    replace h4 := h4.outof
    replace h5 := h5.outof
    replace h6 := h6.outof
    replace h7 := h7.outof
    exact ⟨(bd, dJ, dK), ⟨by kernel_rfl, by kernel_rfl, by kernel_rfl, by kernel_rfl, trivial⟩, ⟨O, (cov_ge0 cq), (cov_ge0 cv), cu, ah, aR⟩⟩
   refine .ns 1 3 [vI d.next] fun fg bB => ?_
   replace ⟨h2, h4, h5, h6, h7, E, J, aj, C, O, W⟩ := (se [al, ab, aa] bB).g11 h2 h4 h5 h6 h7 E J aj C O W
   intro dL fh aS bC am cw
   have cx := nb_new aS aj.lt
   have cy := O.cn aS
   replace ⟨h2, h4, h5, h6, h7, E, J, aj, C, O, W⟩ := (se [al, ab, aa] bC).g11 h2 h4 h5 h6 h7 E J aj C O W
   refine .go 3 <| GE.append (T := 24) (ty := 24) (args := [vS al 0 0, .slice a2 d.list.length c2]) (by kernel_rfl) fun fi bD => ?_
   replace ⟨h2, h4, h5, h6, h7, E, J, aj, am, C, O, W⟩ := (se [al, ab, aa] bD).g12 h2 h4 h5 h6 h7 E J aj am C O W
   obtain ⟨ci, dM, fj, bE, au, aC, aT, cz⟩ := Own.appendF (P := Tryz.prog) (T := 24) (ty := 24) flat_int aj (by kernel_rfl) h2 (fun b h e => h.2 (e ▸ (.head _))) (by omega)
   refine ⟨_, _, bE, Chg.toS aT (Cov.toS bt), ?_⟩
   have cA := nb_or aC (Nb.symm cx) am.lt
   have cB := cov_or aC br O.size
   replace ⟨h2, h4, h5, h6, h7, E, J, am, C, O, W⟩ := (sa [al, ab, aa] aT aC).g11 h2 h4 h5 h6 h7 E J am C O W
   replace au := au.rn al
   have ec := au.len; have ed := au.max
   refine .d fun fk bF => ?_
   replace ⟨h2, h4, h5, h6, h7, E, J, au, am, C, O, W⟩ := (se [ci, ab, aa] bF).g12 h2 h4 h5 h6 h7 E J au am C O W
   replace h2 := h2.outof
   replace h4 := h4.outof
   replace h5 := h5.outof
   replace h6 := h6.outof
   replace h7 := h7.outof
   exact ⟨(ci, dM, dL), ⟨by kernel_rfl, by kernel_rfl, by kernel_rfl, by kernel_rfl, trivial⟩, ⟨O, (cov_ge0 cB), (cov_ge0 cy), (Nb.symm cA), au, am⟩⟩
  refine .ns 1 3 [vI d.next] fun fm bG => ?_
  replace ⟨h2, h4, h5, h6, h7, E, J, C, O, W⟩ := (se [ab, aa] bG).g10 h2 h4 h5 h6 h7 E J C O W
  intro dN fp bH bI ae cC
  have cD := O.cn bH
  replace ⟨h2, h4, h5, h6, h7, E, J, C, O, W⟩ := (se [ab, aa] bI).g10 h2 h4 h5 h6 h7 E J C O W
  refine .go 0 <| .ns 0 3 [] fun fq bJ => ?_
  replace ⟨h2, h4, h5, h6, h7, E, J, ae, C, O, W⟩ := (se [ab, aa] bJ).g11 h2 h4 h5 h6 h7 E J ae C O W
  intro aE dO ao bK cE cF
  have ee := nb_new ao E.lt
  have ef := nb_new ao J.lt
  have cG := nb_new ao ae.lt
  have eg := C.cn ao
  have cH := O.cn ao
  have cI := W.cn ao
  replace ⟨h2, h4, h5, h6, h7, E, J, ae, C, O⟩ := (sn [ab, aa] bK ao).g10 h2 h4 h5 h6 h7 E J ae C O
  have aU : Own (α := Int) dO aE 3 (nin (ge w.heap.size) [aE, ab, aa]) 0 0 [] := Own.nil' cE
  refine .go 3 <| GE.append (T := 24) (ty := 24) (args := [vS aE 0 0, .slice a2 d.list.length c2]) (by kernel_rfl) fun ft bL => ?_
  replace ⟨h2, h4, h5, h6, h7, E, J, ae, aU, C, O⟩ := (se [aE, ab, aa] bL).g11 h2 h4 h5 h6 h7 E J ae aU C O
  obtain ⟨cj, dP, fu, bM, av, aD, aV, cJ⟩ := Own.appendF (P := Tryz.prog) (T := 24) (ty := 24) flat_int aU (by kernel_rfl) h2 (fun b h e => h.2 (e ▸ (.head _))) (by omega)
  refine ⟨_, _, bM, Chg.toS aV (Cov.toS cI), ?_⟩
  have cK := nb_or aD cG ae.lt
  have cL := cov_or aD cH O.size
  replace ⟨h4, h5, h6, h7, E, J, ae, C, O⟩ := (sa [aE, ab, aa] aV aD).g9 h4 h5 h6 h7 E J ae C O
  replace av := av.rn aE
  have eh := av.len; have ej := av.max
  refine .d fun fv bN => ?_
  replace ⟨h4, h5, h6, h7, E, J, ae, av, C, O⟩ := (se [cj, ab, aa] bN).g10 h4 h5 h6 h7 E J ae av C O
  replace h4 := h4.outof
  replace h5 := h5.outof
  replace h6 := h6.outof
  replace h7 := h7.outof
  exact ⟨(cj, dP, dN), ⟨by kernel_rfl, by kernel_rfl, by kernel_rfl, by kernel_rfl, trivial⟩, ⟨O, (cov_ge0 cL), (cov_ge0 cD), (Nb.symm cK), av, ae⟩⟩
 rintro ⟨ak, ba, aB⟩ fw bc ⟨bO, ay, aJ, bP, bQ, dQ⟩
 have cM := nb_ge ay E.lt
 have cN := nb_ge ay J.lt
 have cO := gb_ge ay C.size
 have ek : Cov nil w ak := cov_ge ay C.size
 have cP := nb_ge aJ E.lt
 have cQ := nb_ge aJ J.lt
 have cR := gb_ge aJ C.size
 replace ⟨h4, h5, h6, h7, E, J, C⟩ := (sz [ab, aa] bO ay).g7 h4 h5 h6 h7 E J C
 have en := bQ.len; have et := bQ.max
 have bg : nin (ge w.heap.size) [ak, ab, aa] aB ∧ aB ≠ ak := hap_mk cR (all_cons bP (all_cons cQ (all_cons cP all_nil))) bP
 refine RG.append1 (T := 24) (ty := 24) (y := d.next) bQ dQ (by kernel_rfl) (by kernel_rfl) rfl bg (by omega) fun aq dR fz ac ax bR => ?_
 have ey := nb_or ax cM E.lt
 have ez := nb_or ax cN J.lt
 have cS := gb_or ax cO C.size
 replace ⟨h4, h5, h6, h7, E, J, C⟩ := (sa [ak, ab, aa] bR ax).g7 h4 h5 h6 h7 E J C
 replace ac := ac.rn ak
 have eA := ac.len; have eB := ac.max
 refine .r 1 <| .d <| .s <| .gd nil 11 fun fA bS => ?_
 replace ⟨h4, h5, h6, h7, E, J, ac, C⟩ := (se [aq, ab, aa] bS).g8 h4 h5 h6 h7 E J ac C
 refine .r [0] <| .lb 1 E id <| .ln 2 J id <| .r [5, 6, 7] <| .lb 8 J id <| .go 3 <| .cl (fun bT az => c_spec_l13Mem s (h4.ta.ext az) (h5.ta.ext az) (h6.ta.ext az) (h7.ta.ext az) p0 p1 (w := bT) (F := all)) ?_
 intro bT az
 replace ⟨h4, E, J, ac, C⟩ := (se [aq, ab, aa] az).g5 h4 E J ac C
 rintro fB fC ⟨⟨_, rfl, ⟨dS, fD, dT, dU, fE, dV, rfl, af, ag⟩⟩, aW⟩
 have aX := al3 ac.lt J.lt E.lt
 have bU : Gb w.heap.size bT.heap.size := C.size
 have hkeep_ := aW
 replace ⟨h4, E, J, ac, C⟩ := (se [aq, ab, aa] aW).g5 h4 E J ac C
 refine ⟨Ext.chg hkeep_, ?_⟩
 have af := af.fr aX bU
 have eC := af.max
 have ag := ag.fr aX bU
 have eD := ag.max
 have cT := af.len
 subst cT
 have cU := ag.len
 subst cU
 refine .r [4] <| .go 9 <| .cl (fun bV aY => c_spec_l11Names s.idx.names (h4.ta.ext aY) (by omega) (by intro n hn; have := p4 n hn; omega) (w := bV) (F := all)) ?_
 intro bV aY
 replace ⟨E, J, ac, af, ag, C⟩ := (se [aq, ab, aa] aY).g6 E J ac af ag C
 rintro fF fG ⟨⟨aF, dW, dX, rfl, ai, aA⟩, aZ⟩
 have bW := al3 ac.lt J.lt E.lt
 have cV : Gb w.heap.size bV.heap.size := C.size
 have hkeep_ := aZ
 have eE := nb_ge aA E.lt
 have eF := nb_ge aA J.lt
 have eG := nb_ge aA ac.lt
 have cW := gb_ge aA C.size
 replace ⟨E, J, ac, af, ag, C⟩ := (sz [aq, ab, aa] aZ aA).g6 E J ac af ag C
 refine ⟨Ext.chg hkeep_, ?_⟩
 replace ai := Own.take (s0 := w.heap.size) (M := [aq, ab, aa]) ai bW cV
 have eH := ai.len; have eI := ai.max
 refine .r [10] <| .d fun fH bX => ?_
 replace ⟨E, J, ac, af, ag, ai, C⟩ := (se [aF, aq, ab, aa] bX).g7 E J ac af ag ai C
 refine .ns 2 44 [vI 1, vI d.next, .slice dS (((memPart s.mem).ids).length) dT, .slice dU (((memPart s.mem).blocks).length) dV, .slice none 0 0, .slice none 0 0, vI 2, vI 0, .slice none 0 0, .slice none 0 0, vS aq (0 + d.list.length + 1) dR, vS aF dW dX] fun aO bY aw bZ cX cY => ?_
 have eJ := nb_new aw E.lt
 have eK := nb_new aw J.lt
 have eL := nb_new aw ac.lt
 have eM := nb_new aw ai.lt
 have cZ := gb_new aw C.size
 replace ⟨ac, af, ag, ai, C⟩ := (sn [aF, aq, ab, aa] bZ aw).g5 ac af ag ai C
 have b0 := ac.sl cS
 replace ⟨af, ag, ai⟩ := (sd bY [aO, aF, aq, ab, aa] aq).g3 af ag ai
 have dY := ai.sl cW
 replace ⟨b0, af, ag⟩ := (sd bY [aO, aF, ab, aa] aF).g3 b0 af ag
 have c8 : Own (α := Stp) bY aO 44 (nin (ge w.heap.size) [aO, ab, aa]) 2 2 [(⟨1, d.next, (⟨(memPart s.mem).ids, (memPart s.mem).blocks⟩ : Prt), ([] : List Int), ([] : List (List Tag))⟩ : Stp), (⟨2, 0, (⟨([] : List Int), ([] : List (List Row))⟩ : Prt), (([] ++ d.list) ++ [d.next]), s.idx.names⟩ : Stp)] := Own.lit cX rfl (by decide) ⟨⟨_, _, _, _, _, _, _, _, _, _, _, _, rfl, af.oi, ag.oi, (RepS.nil' _ _ none 0 (by decide)), (RepS.nil' _ _ none 0 (by decide))⟩, ⟨_, _, _, _, _, _, _, _, _, _, _, _, rfl, (RepS.nil' _ _ none 0 (by decide)), (RepS.nil' _ _ none 0 (by decide)), b0.oi, dY.oi⟩, rfl⟩
 refine .r 1 <| .d ?_
 have dZ := c8.sl cZ
 exact .rt Tryz.func56 Tryz.results56 (vS aO 2 2) ⟨(dZ.vl (by (rw [flushSt_yes ‹_› ‹_› ‹_› ‹_›] <;> simp)) (fun _ _ h => h.1)), C⟩
theorem c_spec_l13Copy (s : Sto) {w : World} {F : Nat → Prop} {a1 : Option Addr} {n1 c1 : Nat} (h1 : RepS w F a1 n1 c1 s.idx.names) {a2 : Option Addr} {n2 c2 : Nat} (h2 : RepS w F a2 n2 c2 s.idx.posts) {a3 : Option Addr} {n3 c3 : Nat} (h3 : RepS w F a3 n3 c3 s.parts) {a4 : Option Addr} {n4 c4 : Nat} (h4 : RepS w F a4 n4 c4 s.mem) (p0 : StoSz s) : Calls Tryz.prog 82 [.agg #[.slice a1 n1 c1, .slice a2 n2 c2, .slice a3 n3 c3, .slice a4 n4 c4]].toArray w (rets fun rv w' => (∃ (a0 : Option Addr) (n0 c0 : Nat) (a1 : Option Addr) (n1 c1 : Nat) (a2 : Option Addr) (n2 c2 : Nat) (r3 n3 c3 : Nat), rv = .agg #[.slice a0 n0 c0, .slice a1 n1 c1, .slice a2 n2 c2, .slice (some ⟨r3, 0, none⟩) n3 c3] ∧ RepS w' (nin (ge w.heap.size) [r3]) a0 n0 c0 ((((copyS s)).idx).names) ∧ RepS w' (nin (ge w.heap.size) [r3]) a1 n1 c1 ((((copyS s)).idx).posts) ∧ RepS w' (nin (ge w.heap.size) [r3]) a2 n2 c2 (((copyS s)).parts) ∧ Own w' r3 107 (nin (ge w.heap.size) [r3]) n3 c3 (((copyS s)).mem) ∧ w.heap.size ≤ r3) ∧ Ext w w') := by
 refine goT Tryz.func82 ?_
 obtain ⟨rfl, iI, h1⟩ := h1.tp
 obtain ⟨rfl, iJ, h2⟩ := h2.tp
 obtain ⟨rfl, iK, h3⟩ := h3.tp
 obtain ⟨rfl, iL, h4⟩ := h4.tp
 refine .s <| .g <| .np 34 [.slice a1 s.idx.names.length c1, .slice a2 s.idx.posts.length c2, .slice a3 s.parts.length c3, .slice a4 s.mem.length c4] fun ab jL cY b7 O fi => ?_
 replace ⟨h1, h3, h4⟩ := (sn [] b7 cY).g3 h1 h3 h4
 have C := b7
 refine .np 34 [.slice none 0 0, .slice none 0 0, .slice none 0 0, .slice none 0 0] fun ac jM b8 cZ J fj => ?_
 have iM := C.cn b8
 replace ⟨h1, h3, h4, O, C⟩ := (sn [ab] cZ b8).g5 h1 h3 h4 O C
 refine .d <| .s <| .g <| .ns 0 42 [] fun bB b9 bi c7 fk fm => ?_
 have fp := nb_new bi O.lt
 have fq := nb_new bi J.lt
 have ft := gb_new bi C.size
 have fu := C.cn bi
 replace ⟨h1, h3, h4, O, J, C⟩ := (sn [ac, ab] c7 bi).g6 h1 h3 h4 O J C
 have fv : Own (α := Prt) b9 bB 42 (nin (ge w.heap.size) [bB, ac, ab]) 0 0 [] := Own.nil' fk
 refine .r 1 <| .d <| .s <| .s <| .g <| .r 1 <| .d <| .b 0 <| T.loop (X := (List Prt) × Nat × Nat × Nat × Nat) (([] : List Prt), bB, 0, 0, 0) (fun (k, r_k, n_k, c_k, k1) => [(1, .pointer (some ⟨ab, 0, none⟩)), (2, .pointer (some ⟨ac, 0, none⟩)), (3, vS r_k n_k c_k), (4, vI (k1 : Int))]) (fun (k, r_k, n_k, c_k, k1) aU => Chg (ins [bB]) b9 aU ∧ Own aU r_k 42 (nin (ge w.heap.size) [r_k, ac, ab]) n_k c_k k ∧ OrB r_k bB b9.heap.size ∧ (k1 ≤ s.parts.length) ∧ (k.length ≤ k1) ∧ (k ++ s.parts.drop k1 = s.parts)) (fun (k, r_k, n_k, c_k, k1) => s.parts.length - k1) (by kernel_rfl) ⟨by kernel_rfl, by kernel_rfl, by kernel_rfl, by kernel_rfl, trivial⟩ ⟨Chg.refl _ _, fv, orb_refl, (by simp), (by simp), (by simp)⟩ ?_
 rintro ⟨k, r_k, n_k, c_k, k1⟩ jN aU ⟨W, E, aW, iN, iO, iP⟩ cd
 have ce := nb_or' aW fp O.lt
 have iQ := nb_or' aW fq J.lt
 have fw := gb_or' aW ft C.size
 have iR := cov_or' aW fu C.size
 have fz : Cov (ins [bB]) b9 bB := ⟨.inl (.head _)⟩
 have iS := cov_or' aW fz (Nat.le_refl _)
 have c8 : Mv [bB, ac, ab] [r_k, ac, ab] b9 aU := Mv.inl W (all_cons (.head _) all_nil) (all_cons (orb_mem aW (.head _)) (all_cons (.inl (.tail _ (.head _))) (all_cons (.inl (.tail _ (.tail _ (.head _)))) all_nil)))
 replace ⟨h1, h3, h4, O, J, C⟩ := (sp c8 W).g6 h1 h3 h4 O J C
 have iT := E.len; have iU := E.max
 refine .s <| .s <| .g <| .r 2 <| .lb O <| .r 1 <| .bp ((k1 : Int) < (s.parts.length : Int)) (fun fA => ?_) (fun fA => ?_)
 ·refine .d <| .ct <| .sk <| .s <| .b 1 <| .s <| .g <| .ns 0 3 [] fun cW gu aS c9 fB fC => ?_
  have fD := nb_new aS O.lt
  have fE := nb_new aS J.lt
  have fF := nb_new aS E.lt
  have fG := gb_new aS C.size
  have fH := C.cn aS
  have fI := W.cn aS
  replace ⟨h1, h3, h4, O, J, E, C, W⟩ := (sn [r_k, ac, ab] c9 aS).g8 h1 h3 h4 O J E C W
  have fJ : Own (α := Int) gu cW 3 (nin (ge w.heap.size) [cW, r_k, ac, ab]) 0 0 [] := Own.nil' fB
  refine .r 1 <| .lb O <| .r 1 ?_
  have fK : k1 < s.parts.length := (by omega)
  refine .ix k1 2 h3 fK <| .r 1 ?_
  obtain ⟨aB, bj⟩ : ∃ y, s.parts[k1]? = some y := ⟨_, List.getElem?_eq_getElem (by omega)⟩
  have iV := drop_at bj; have gt := List.mem_of_getElem? bj
  obtain ⟨_, ⟨jO, jP, jQ, jR, jS, jT, rfl, dp, fL⟩, fM⟩ := h3.elem k1 aB bj
  have fN := dp.len
  subst fN
  have iW := dp.max
  have dq := fL.len
  subst dq
  have gv := fL.max
  refine .lh 0 fM <| RG.appendF (T := 24) (ty := 24) flat_int fJ dp (by kernel_rfl) (by kernel_rfl) (fun b h e => h.2 (e ▸ (.head _))) (by have q1 := p0.2.1; have q2 := p0.2.2.2; (have q3 := p0.2.2.1 _ ‹_›; have q4 := q3.1; have q5 := q3.2.1; omega)) fun aC da iX ak au ci => ?_
  have dr := nb_or au fD O.lt
  have dt := nb_or au fE J.lt
  have du := nb_or au fF E.lt
  have dv := gb_or au fG C.size
  have gw := cov_or au fH C.size
  have gx := cov_or au fI W.size
  replace ⟨h1, h3, h4, O, J, E, C, W⟩ := (sa [cW, r_k, ac, ab] ci au).g8 h1 h3 h4 O J E C W
  replace ak := ak.rn cW
  have gy := ak.len; have gz := ak.max
  refine .ns 0 91 [] fun az fR ax cj dw dx => ?_
  have dy := nb_new ax O.lt
  have dz := nb_new ax J.lt
  have dA := nb_new ax E.lt
  have dB := nb_new ax ak.lt
  have dC := gb_new ax C.size
  have dD := C.cn ax
  have dE := W.cn ax
  replace ⟨h1, h3, h4, O, J, E, ak, C, W⟩ := (sn [aC, r_k, ac, ab] cj ax).g9 h1 h3 h4 O J E ak C W
  have aQ : Own (α := List Row) fR az 91 (nin (ge w.heap.size) [az, aC, r_k, ac, ab]) 0 0 [] := Own.nil' dw
  refine .r 1 <| .np 42 [.slice none 0 0, .slice none 0 0] fun ah iY ay ck dF dG => ?_
  have gA := nb_new ay O.lt
  have gC := nb_new ay J.lt
  have dH := nb_new ay E.lt
  have dI := nb_new ay ak.lt
  have dJ := nb_new ay aQ.lt
  have gD := C.cn ay
  have gE := W.cn ay
  replace ⟨h1, h3, h4, O, J, E, ak, aQ, C, W⟩ := (sn [az, aC, r_k, ac, ab] ck ay).g10 h1 h3 h4 O J E ak aQ C W
  refine .sc [vS aC (0 + aB.ids.length) da, vS az 0 0] dF fun bk cm bG dK => ?_
  replace ⟨h1, h3, h4, O, J, E, ak, aQ, C, W⟩ := (so [ah, az, aC, r_k, ac, ab] cm).g10 h1 h3 h4 O J E ak aQ C W
  refine .d <| .s <| .s <| .g <| .r 1 <| .d <| .b 2 <| T.loop (X := Nat × (List Int) × Nat × Nat × Nat × (List (List Row)) × Nat × Nat × Nat) (0, (([] ++ aB.ids) : List Int), aC, 0 + aB.ids.length, da, ([] : List (List Row)), az, 0, 0) (fun (k2, bD, r_k_0, n_k_0, c_k_0, bh, r_k_1, n_k_1, c_k_1) => [(1, .pointer (some ⟨ab, 0, none⟩)), (2, .pointer (some ⟨ac, 0, none⟩)), (3, vS r_k n_k c_k), (4, vI (k1 : Int)), (5, .pointer (some ⟨ah, 0, none⟩)), (6, vI (k2 : Int))]) (fun (k2, bD, r_k_0, n_k_0, c_k_0, bh, r_k_1, n_k_1, c_k_1) aw => Chg (ins [aC, az, ah]) bk aw ∧ Own aw r_k_0 3 (nin (ge w.heap.size) [ah, r_k_1, r_k_0, r_k, ac, ab]) n_k_0 c_k_0 bD ∧ OrB r_k_0 aC bk.heap.size ∧ Own aw r_k_1 91 (nin (ge w.heap.size) [ah, r_k_1, r_k_0, r_k, ac, ab]) n_k_1 c_k_1 bh ∧ OrB r_k_1 az bk.heap.size ∧ Nb r_k_1 r_k_0 ∧ Box aw ah 42 [vS r_k_0 n_k_0 c_k_0, vS r_k_1 n_k_1 c_k_1] ∧ (k2 ≤ aB.blocks.length) ∧ (bD = aB.ids) ∧ (bh.length ≤ k2) ∧ (bh ++ aB.blocks.drop k2 = aB.blocks)) (fun (k2, bD, r_k_0, n_k_0, c_k_0, bh, r_k_1, n_k_1, c_k_1) => aB.blocks.length - k2) (by kernel_rfl) ⟨by kernel_rfl, by kernel_rfl, by kernel_rfl, by kernel_rfl, by kernel_rfl, by kernel_rfl, trivial⟩ ⟨Chg.refl _ _, ak, orb_refl, aQ, orb_refl, dB, bG, (by simp), (by simp), (by simp), (by simp)⟩ ?_
  rintro ⟨k2, bD, r_k_0, n_k_0, c_k_0, bh, r_k_1, n_k_1, c_k_1⟩ iZ aw ⟨ai, ae, aI, af, av, dL, ag, gF, gG, gH, gI⟩ bZ
  have dM := nb_or' aI dr O.lt
  have gJ := nb_or' aI dt J.lt
  have gK := nb_or' aI du E.lt
  have dN := nb_or' aI (Nb.symm dI) bG.lt
  have dO := gb_or' aI dv C.size
  have dP := nb_or' av dy O.lt
  have gL := nb_or' av dz J.lt
  have gM := nb_or' av dA E.lt
  have co := nb_or' av (Nb.symm dJ) bG.lt
  have dQ := gb_or' av dC C.size
  have gN := cov_or' av dD C.size
  have gO := cov_or' av dE W.size
  have dR : Cov (ins [aC, az, ah]) bk az := ⟨.inl (.tail _ (.head _))⟩
  have gP : Cov (ins [aC, az, ah]) bk ah := ⟨.inl (.tail _ (.tail _ (.head _)))⟩
  have gQ := cov_or' av dR (Nat.le_refl _)
  have cp : Mv [ah, az, aC, r_k, ac, ab] [ah, r_k_1, r_k_0, r_k, ac, ab] bk aw := Mv.inl ai (all_cons (.tail _ (.tail _ (.head _))) (all_cons (.tail _ (.head _)) (all_cons (.head _) all_nil))) (all_cons (.inl (.head _)) (all_cons (orb_mem av (.tail _ (.head _))) (all_cons (orb_mem aI (.tail _ (.tail _ (.head _)))) (all_cons (.inl (.tail _ (.tail _ (.tail _ (.head _))))) (all_cons (.inl (.tail _ (.tail _ (.tail _ (.tail _ (.head _)))))) (all_cons (.inl (.tail _ (.tail _ (.tail _ (.tail _ (.tail _ (.head _))))))) all_nil))))))
  replace ⟨h1, h3, h4, O, J, E, C, W⟩ := (sp cp ai).g8 h1 h3 h4 O J E C W
  have gR := ae.len; have gS := ae.max
  have gT := af.len; have gU := af.max
  refine .s <| .s <| .g <| .r 2 <| .lb O <| .r 1 ?_
  have dS : k1 < s.parts.length := (by omega)
  refine .ix k1 2 h3 dS <| .r 1 ?_
  obtain ⟨_, ⟨ja, jb, jc, jd, je, jf, rfl, fS, fT⟩, dT⟩ := h3.elem k1 aB bj
  have dU := fS.len
  subst dU
  have dV := fT.len
  subst dV
  refine .lh 1 dT <| .r 1 <| .bp ((k2 : Int) < (aB.blocks.length : Int)) (fun dW => ?_) (fun dW => ?_)
  ·refine .d <| .ct <| .sk <| .s <| .b 3 ?_
   replace h1 := h1.into
   replace h3 := h3.into
   replace h4 := h4.into
   have dX : Gb (ab + 1) aw.heap.size := O.lt
   have dY : Gb (ah + 1) aw.heap.size := ag.lt
   refine .gd (mtb [r_k, r_k_0, r_k_1] aw.heap.size) 14 fun fU bH => ?_
   replace ⟨h1, h3, h4, O, J, E, ae, af, ag, C, W, ai⟩ := (se [ah, r_k_1, r_k_0, r_k, ac, ab] bH).g12 h1 h3 h4 O J E ae af ag C W ai
   have bI : Chg (mtb [r_k, r_k_0, r_k_1] aw.heap.size) aw fU := Chg.stepN (Chg.refl (mtb [r_k, r_k_0, r_k_1] aw.heap.size) aw) bH
   refine .r [0] <| .lb 1 ag (nS_of (all_cons dH (all_cons (Nb.symm dN) (all_cons (Nb.symm co) all_nil))) dY) <| .r [3] <| .lb 4 O (nS_of (all_cons (Nb.symm ce) (all_cons (Nb.symm dM) (all_cons (Nb.symm dP) all_nil))) dX) <| .r [5] ?_
   have dZ : k1 < s.parts.length := (by omega)
   refine .ix 6 k1 2 h3 dZ <| .r [7] ?_
   obtain ⟨_, ⟨jg, jh, ji, jj, jk, jl, rfl, fV, bY⟩, d0⟩ := h3.elem k1 aB bj
   have d3 := fV.len
   subst d3
   have d4 := bY.len
   subst d4
   refine .lh 8 1 d0 (h3.nS (pos_of bj) (all_cons (.tail _ (.tail _ (.tail _ (.head _)))) (all_cons (.tail _ (.tail _ (.head _))) (all_cons (.tail _ (.head _)) all_nil)))) <| .r [9] ?_
   have d5 : k2 < aB.blocks.length := (by omega)
   refine .ix 10 k2 1 bY d5 ?_
   obtain ⟨bE, bu⟩ : ∃ y, aB.blocks[k2]? = some y := ⟨_, List.getElem?_eq_getElem (by omega)⟩
   have gV := drop_at bu; have fW := List.mem_of_getElem? bu
   obtain ⟨_, ⟨fX, jm, fY, rfl, aO⟩, d6⟩ := bY.elem k2 bE bu
   have d7 := aO.len
   subst d7
   have gW := aO.max
   refine .lh 11 0 d6 (bY.nS (pos_of bu) (all_cons (.tail _ (.tail _ (.tail _ (.head _)))) (all_cons (.tail _ (.tail _ (.head _))) (all_cons (.tail _ (.head _)) all_nil)))) <| .go 2 <| .ns 0 105 [] fun jn bJ => ?_
   replace ⟨h1, h4, O, J, E, ae, af, ag, aO, C, W, ai⟩ := (se [ah, r_k_1, r_k_0, r_k, ac, ab] bJ).g12 h1 h4 O J E ae af ag aO C W ai
   replace bI := (se [ah, r_k_1, r_k_0, r_k, ac, ab] bJ).g1 bI
   intro aY fZ al cq d8 d9
   have ec := nb_new al O.lt
   have ed := nb_new al J.lt
   have ee := nb_new al E.lt
   have ef := nb_new al ae.lt
   have eg := nb_new al af.lt
   have eh := nb_new al ag.lt
   have ej := gb_new al C.size
   have gX := C.cn al
   have gY := W.cn al
   have gZ := ai.cn al
   have ek := bI.cn al
   replace ⟨h1, h4, O, J, E, ae, af, ag, aO, C, W, ai⟩ := (sn [ah, r_k_1, r_k_0, r_k, ac, ab] cq al).g12 h1 h4 O J E ae af ag aO C W ai
   have bK : Own (α := Row) fZ aY 105 (nin (ge w.heap.size) [aY, ah, r_k_1, r_k_0, r_k, ac, ab]) 0 0 [] := Own.nil' d8
   refine .go 12 <| GE.append (T := 91) (ty := 91) (args := [vS aY 0 0, .slice fX bE.length fY]) (by kernel_rfl) fun jo bL => ?_
   replace ⟨h1, h4, O, J, E, ae, af, ag, aO, bK, C, W⟩ := (se [aY, ah, r_k_1, r_k_0, r_k, ac, ab] bL).g12 h1 h4 O J E ae af ag aO bK C W
   replace ai := (se [aY, ah, r_k_1, r_k_0, r_k, ac, ab] bL).g1 ai
   obtain ⟨aZ, f0, jp, cr, ao, am, bM, en⟩ := Own.appendF (P := Tryz.prog) (T := 91) (ty := 91) flat_row bK (by kernel_rfl) aO (fun b h e => h.2 (e ▸ (.head _))) (by have q1 := p0.2.1; have q2 := p0.2.2.2; (have q3 := p0.2.2.1 _ ‹_›; have q4 := q3.1; have q5 := q3.2.1; (have q6 := q3.2.2 _ ‹_›; omega)))
   refine ⟨_, _, cr, Chg.toS bM (Cov.toS ek), ?_⟩
   have g0 := nb_or am ec O.lt
   have hC := nb_or am ed J.lt
   have hD := nb_or am ee E.lt
   have hE := nb_or am ef ae.lt
   have hH := nb_or am eg af.lt
   have hJ := nb_or am eh ag.lt
   have et := gb_or am ej C.size
   replace ⟨h1, h4, O, J, E, ae, af, ag, C, W, ai⟩ := (sa [aY, ah, r_k_1, r_k_0, r_k, ac, ab] bM am).g11 h1 h4 O J E ae af ag C W ai
   replace ao := ao.rn aY
   have hN := ao.len; have hO := ao.max
   refine .go 13 <| .ns 1 91 [vS aZ (0 + bE.length) f0] fun jq cu => ?_
   replace ⟨h1, h4, O, J, E, ae, af, ag, ao, C, W, ai⟩ := (se [aZ, ah, r_k_1, r_k_0, r_k, ac, ab] cu).g12 h1 h4 O J E ae af ag ao C W ai
   intro db jr aD cv bN ey
   have ez := nb_new aD O.lt
   have eA := nb_new aD J.lt
   have eB := nb_new aD E.lt
   have eC := nb_new aD ae.lt
   have cw := nb_new aD af.lt
   have eD := nb_new aD ag.lt
   have eE := gb_new aD C.size
   replace ⟨h1, h4, O, J, E, ae, af, ag, ao, C, W, ai⟩ := (se [aZ, ah, r_k_1, r_k_0, r_k, ac, ab] cv).g12 h1 h4 O J E ae af ag ao C W ai
   refine .d fun f5 bO => ?_
   replace ⟨h1, h4, O, J, E, ae, af, ag, ao, bN, C, W⟩ := (se [aZ, ah, r_k_1, r_k_0, r_k, ac, ab] bO).g12 h1 h4 O J E ae af ag ao bN C W
   replace ai := (se [aZ, ah, r_k_1, r_k_0, r_k, ac, ab] bO).g1 ai
   replace h1 := h1.outof
   replace h4 := h4.outof
   have f6 := ao.sl et
   replace ⟨h1, h4, E, ae, af⟩ := (sd f5 [aZ, ah, r_k_1, r_k_0, r_k, ac, ab] aZ).g5 h1 h4 E ae af
   have b0 : nin (ge w.heap.size) [ah, r_k_1, r_k_0, r_k, ac, ab] db ∧ db ≠ r_k_1 := hap_mk eE (all_cons eD (all_cons cw (all_cons eC (all_cons eB (all_cons eA (all_cons ez all_nil)))))) cw
   refine RG.append1 (T := 40) (ty := 40) (y := ([] ++ bE)) af bN (by kernel_rfl) (by kernel_rfl) ⟨_, _, _, rfl, f6.oi⟩ b0 (by have q1 := p0.2.1; have q2 := p0.2.2.2; (have q3 := p0.2.2.1 _ ‹_›; have q4 := q3.1; have q5 := q3.2.1; omega)) fun cx de js aJ aP cy => ?_
   have eF := nb_or aP dL ae.lt
   have hQ := nb_or aP co ag.lt
   have eG := orb_or aP av ai.size
   replace ⟨h1, h4, O, J, E, ae, ag, C, W, ai⟩ := (sa [ah, r_k_1, r_k_0, r_k, ac, ab] cy aP).g10 h1 h4 O J E ae ag C W ai
   replace aJ := aJ.rn r_k_1
   have hV := aJ.len; have hW := aJ.max
   refine .r 1 <| .ss 1 (vS cx (n_k_1 + 1) de) ag fun jt cz eH eI => ?_
   replace ⟨h1, h4, O, J, E, ae, aJ, C, W, ai⟩ := (so [ah, cx, r_k_0, r_k, ac, ab] cz).g10 h1 h4 O J E ae aJ C W ai
   exact .d <| .ib 3 <| .g <| .r 1 <| .it ((k2 : Int) + 1) <| .r 1 <| .d <| bZ (k2 + 1, bD, r_k_0, n_k_0, c_k_0, (bh ++ [([] ++ bE)]), cx, n_k_1 + 1, de) _ _ ⟨by kernel_rfl, by kernel_rfl, by kernel_rfl, by kernel_rfl, by kernel_rfl, by kernel_rfl, trivial⟩ ⟨ai, ae, aI, aJ, eG, eF, eH, (by omega), ‹_›, (by simp; omega), (by exact appStep ‹_› ‹_›)⟩ (by (simp only []; omega))
  refine .d <| .cf <| .x 2 rfl <| .g <| .r 1 <| .ln ag <| .ns 1 42 [vS r_k_0 n_k_0 c_k_0, vS r_k_1 n_k_1 c_k_1] fun df dg aR cA eJ eK => ?_
  have eL := nb_new aR O.lt
  have eM := nb_new aR J.lt
  have cB := nb_new aR E.lt
  have eN := nb_new aR ag.lt
  have eO := gb_new aR C.size
  replace ⟨h1, h4, O, J, E, ae, af, C, W⟩ := (se [ah, r_k_1, r_k_0, r_k, ac, ab] cA).g9 h1 h4 O J E ae af C W
  have cC := ae.sl dO
  replace ⟨h1, h4, E, af⟩ := (sd dg [ah, r_k_1, r_k_0, r_k, ac, ab] r_k_0).g4 h1 h4 E af
  have f7 := af.sl dQ
  replace ⟨h1, h4, E, cC⟩ := (sd dg [ah, r_k_1, r_k, ac, ab] r_k_1).g4 h1 h4 E cC
  have b6 : nin (ge w.heap.size) [ah, r_k, ac, ab] df ∧ df ≠ r_k := hap_mk eO (all_cons eN (all_cons cB (all_cons eM (all_cons eL all_nil)))) cB
  refine RG.append1 (T := 31) (ty := 31) (y := (⟨bD, bh⟩ : Prt)) E eJ (by kernel_rfl) (by kernel_rfl) ⟨_, _, _, _, _, _, rfl, cC.oi, f7.oi⟩ b6 (by have q1 := p0.2.1; have q2 := p0.2.2.2; omega) fun cD f8 dh aK bv cE => ?_
  have eP := orb_or bv aW W.size
  replace ⟨h1, h4, O, J, C, W⟩ := (sa [ah, r_k, ac, ab] cE bv).g6 h1 h4 O J C W
  replace aK := aK.rn r_k
  have ia := aK.len; have ic := aK.max
  refine .r 1 <| .d <| .ib 1 <| .g <| .r 1 <| .it ((k1 : Int) + 1) <| .r 1 <| .d ?_
  have eQ : Mv [ah, cD, ac, ab] [cD, ac, ab] dh dh := Mv.less (all_cons (.tail _ (.head _)) (all_cons (.tail _ (.tail _ (.head _))) (all_cons (.tail _ (.tail _ (.tail _ (.head _)))) all_nil)))
  replace ⟨h1, h4, aK⟩ := (sp eQ (Chg.refl nil _)).g3 h1 h4 aK
  exact cd ((k ++ [(⟨bD, bh⟩ : Prt)]), cD, n_k + 1, f8, k1 + 1) _ _ ⟨by kernel_rfl, by kernel_rfl, by kernel_rfl, by kernel_rfl, trivial⟩ ⟨W, aK, eP, (by omega), (by simp; omega), (by exact copyStep ‹_› ‹_› ‹_› (by have q1 := drop_end (xs := aB.blocks) (k := k2) (by omega); have q2 : bh ++ aB.blocks.drop k2 = aB.blocks := ‹_›; rw [q1, List.append_nil] at q2; exact q2))⟩ (by (simp only []; omega))
 refine .d <| .cf <| .x 0 rfl <| .s <| T.regionJ (X := (Option Addr) × Nat × (Option Addr) × Nat × Nat × Nat) (mtb [r_k] aU.heap.size) 9 (fun (bm, bn, bo, bq, aA, br) => [(2, .pointer (some ⟨ac, 0, none⟩)), (59, .agg #[.slice bm (((idxOf s.idx.names).names).length) bn, .slice bo (((idxOf s.idx.names).posts).length) bq]), (60, vS r_k n_k c_k), (64, vS aA (0 + s.mem.length) br)]) (fun (bm, bn, bo, bq, aA, br) bF => Ext aU bF ∧ aU.heap.size ≤ aA ∧ RepS bF (nin (ge w.heap.size) [aA, r_k, ac, ab]) bm (((idxOf s.idx.names).names).length) bn ((idxOf s.idx.names).names : List (List Tag)) ∧ RepS bF (nin (ge w.heap.size) [aA, r_k, ac, ab]) bo (((idxOf s.idx.names).posts).length) bq ((idxOf s.idx.names).posts : List Pst) ∧ Own bF aA 107 (nin (ge w.heap.size) [aA, r_k, ac, ab]) (0 + s.mem.length) br (([] ++ s.mem) : List Smp)) (by kernel_rfl) (fun f9 bw => ?_) ?_
 ·replace h1 := h1.into
  replace h4 := h4.into
  have cF : Gb (ab + 1) aU.heap.size := O.lt
  replace ⟨h1, h4, O, J, E, C⟩ := (se [r_k, ac, ab] bw).g6 h1 h4 O J E C
  have aa := bw
  have aj : Chg (mtb [r_k] aU.heap.size) aU f9 := Chg.stepN (Chg.refl (mtb [r_k] aU.heap.size) aU) bw
  refine .r [0, 1] <| .lb 2 O (nS_of (all_cons (Nb.symm ce) all_nil) cF) <| .r [4, 6] <| .lb 7 O (nS_of (all_cons (Nb.symm ce) all_nil) cF) <| .tw 3 5 ?_ ?_
  ·refine .cl (fun cG bP => c_spec_l11Of s.idx.names (h1.ta.ext bP) p0.1.1 p0.1.2 (w := cG) (F := all)) ?_
   intro cG bP
   replace ⟨h1, h4, O, J, E, C, aa, aj⟩ := (se [r_k, ac, ab] bP).g8 h1 h4 O J E C aa aj
   rintro ju jv ⟨⟨_, rfl, ⟨ga, jw, gb, gf, jx, gh, rfl, aq, ar⟩⟩, bQ⟩
   have bR := al3 E.lt J.lt O.lt
   have cH : Gb w.heap.size cG.heap.size := C.size
   have hkeep_ := bQ
   replace ⟨h1, h4, O, J, E, C, aa, aj⟩ := (se [r_k, ac, ab] bQ).g8 h1 h4 O J E C aa aj
   refine ⟨Ext.chg hkeep_, ?_⟩
   have aq := aq.fr bR cH
   have ie := aq.max
   have ar := ar.fr bR cH
   have ig := ar.max
   have eR := aq.len
   subst eR
   have eS := ar.len
   subst eS
   refine .go 5 <| .ns 0 107 [] fun jy cI => ?_
   replace ⟨h1, h4, O, J, E, aq, ar, C, aa, aj⟩ := (se [r_k, ac, ab] cI).g10 h1 h4 O J E aq ar C aa aj
   intro bt gi aE cJ eT eU
   have ii := nb_new aE O.lt
   have ij := nb_new aE J.lt
   have ik := nb_new aE E.lt
   have il := C.cn aE
   have eV := aa.cn aE
   have eW := aj.cn aE
   replace ⟨h1, h4, O, J, E, aq, ar, C, aa, aj⟩ := (sn [r_k, ac, ab] cJ aE).g10 h1 h4 O J E aq ar C aa aj
   have bS : Own (α := Smp) gi bt 107 (nin (ge w.heap.size) [bt, r_k, ac, ab]) 0 0 [] := Own.nil' eT
   refine .go 8 <| GE.append (T := 32) (ty := 32) (args := [vS bt 0 0, .slice a4 s.mem.length c4]) (by kernel_rfl) fun jz cK => ?_
   replace ⟨h1, h4, O, J, E, aq, ar, bS, C, aa, aj⟩ := (se [bt, r_k, ac, ab] cK).g11 h1 h4 O J E aq ar bS C aa aj
   obtain ⟨dj, gj, jA, cL, aL, bz, bT, eX⟩ := Own.appendF (P := Tryz.prog) (T := 32) (ty := 32) flat_smp bS (by kernel_rfl) h4 (fun b h e => h.2 (e ▸ (.head _))) (by have q1 := p0.2.1; have q2 := p0.2.2.2; omega)
   refine ⟨_, _, cL, Chg.toS bT (Cov.toS eW), ?_⟩
   have eY := cov_or bz eV aa.size
   replace ⟨h1, h4, O, J, E, aq, ar, C, aa, aj⟩ := (sa [bt, r_k, ac, ab] bT bz).g10 h1 h4 O J E aq ar C aa aj
   replace aL := aL.rn bt
   have im := aL.len; have io := aL.max
   refine .d fun jB cM => ?_
   replace ⟨h1, h4, O, J, E, aq, ar, aL, C, aa, aj⟩ := (se [dj, r_k, ac, ab] cM).g11 h1 h4 O J E aq ar aL C aa aj
   replace h1 := h1.outof
   replace h4 := h4.outof
   exact ⟨(ga, gb, gf, gh, dj, gj), ⟨by kernel_rfl, by kernel_rfl, by kernel_rfl, by kernel_rfl, trivial⟩, ⟨aa, (cov_ge0 eY), aq, ar, aL⟩⟩
  refine .ns 0 107 [] fun jC cN => ?_
  replace ⟨h1, h4, O, J, E, C, aa, aj⟩ := (se [r_k, ac, ab] cN).g8 h1 h4 O J E C aa aj
  intro aT gk aM cO eZ e7
  have ip := nb_new aM J.lt
  have iq := nb_new aM E.lt
  have ir := C.cn aM
  have e8 := aa.cn aM
  have fa := aj.cn aM
  replace ⟨h1, h4, O, J, E, C, aa⟩ := (sn [r_k, ac, ab] cO aM).g7 h1 h4 O J E C aa
  have aF : Own (α := Smp) gk aT 107 (nin (ge w.heap.size) [aT, r_k, ac, ab]) 0 0 [] := Own.nil' eZ
  refine .go 3 <| .cl (fun cP bU => c_spec_l11Of s.idx.names (h1.ta.ext bU) p0.1.1 p0.1.2 (w := cP) (F := all)) ?_
  intro cP bU
  replace ⟨h4, O, J, E, aF, C, aa⟩ := (se [aT, r_k, ac, ab] bU).g7 h4 O J E aF C aa
  rintro jD jE ⟨⟨_, rfl, ⟨gl, jF, gm, gn, jG, gp, rfl, aG, aH⟩⟩, bV⟩
  have bW := al4 aF.lt E.lt J.lt O.lt
  have cQ : Gb w.heap.size cP.heap.size := C.size
  have hkeep_ := bV
  replace ⟨h4, J, E, aF, C, aa⟩ := (se [aT, r_k, ac, ab] bV).g6 h4 J E aF C aa
  refine ⟨Ext.chg hkeep_, ?_⟩
  have aG := aG.fr bW cQ
  have iu := aG.max
  have aH := aH.fr bW cQ
  have iw := aH.max
  have fb := aG.len
  subst fb
  have fc := aH.len
  subst fc
  refine .go 8 <| GE.append (T := 32) (ty := 32) (args := [vS aT 0 0, .slice a4 s.mem.length c4]) (by kernel_rfl) fun jH cR => ?_
  replace ⟨h4, J, E, aF, aG, aH, C, aa⟩ := (se [aT, r_k, ac, ab] cR).g8 h4 J E aF aG aH C aa
  obtain ⟨dm, gq, jI, cS, aN, bA, bX, fd⟩ := Own.appendF (P := Tryz.prog) (T := 32) (ty := 32) flat_smp aF (by kernel_rfl) h4 (fun b h e => h.2 (e ▸ (.head _))) (by have q1 := p0.2.1; have q2 := p0.2.2.2; omega)
  refine ⟨_, _, cS, Chg.toS bX (Cov.toS fa), ?_⟩
  have fe := cov_or bA e8 aa.size
  replace ⟨J, E, aG, aH, C, aa⟩ := (sa [aT, r_k, ac, ab] bX bA).g6 J E aG aH C aa
  replace aN := aN.rn aT
  have iy := aN.len; have iz := aN.max
  refine .d fun jJ cT => ?_
  replace ⟨J, E, aN, aG, aH, C, aa⟩ := (se [dm, r_k, ac, ab] cT).g7 J E aN aG aH C aa
  exact ⟨(gl, gm, gn, gp, dm, gq), ⟨by kernel_rfl, by kernel_rfl, by kernel_rfl, by kernel_rfl, trivial⟩, ⟨aa, (cov_ge0 fe), aG, aH, aN⟩⟩
 rintro ⟨bm, bn, bo, bq, aA, br⟩ jK bF ⟨cU, ba, bc, bd, bg⟩
 have iA := nb_ge ba J.lt
 have iB := nb_ge ba E.lt
 have ff := gb_ge ba C.size
 replace ⟨J, E, C⟩ := (sz [r_k, ac, ab] cU ba).g3 J E C
 have iC := bc.len; have iD := bc.max
 have iE := bd.len; have iF := bd.max
 have iG := bg.len; have iH := bg.max
 refine .r 1 <| .sc [.slice bm (((idxOf s.idx.names).names).length) bn, .slice bo (((idxOf s.idx.names).posts).length) bq, vS r_k n_k c_k, vS aA (0 + s.mem.length) br] J fun gr cV fg fh => ?_
 replace ⟨E, bc, bd, bg, C⟩ := (so [aA, r_k, ac, ab] cV).g5 E bc bd bg C
 refine .d ?_
 have gs := E.sl fw
 replace ⟨bc, bd, bg⟩ := (sd gr [aA, r_k, ac, ab] r_k).g3 bc bd bg
 exact .rb Tryz.func82 Tryz.results82 fg ⟨⟨bm, ((idxOf s.idx.names).names).length, bn, bo, ((idxOf s.idx.names).posts).length, bq, (some ⟨r_k, 0, none⟩), n_k, c_k, aA, (0 + s.mem.length), br, rfl, ((RepS.lessM bc (all_cons (.head _) all_nil)).eqx (by rfl)), ((RepS.lessM bd (all_cons (.head _) all_nil)).eqx (by rfl)), ((RepS.lessM gs (all_cons (.head _) all_nil)).eqx (by have q1 := drop_end (xs := s.parts) (k := k1) (by omega); have q2 : k ++ s.parts.drop k1 = s.parts := ‹_›; rw [q1, List.append_nil] at q2; exact q2)), ((Own.lessM bg (all_cons (.head _) all_nil)).eqx (by rfl)), ff⟩, C⟩
end Go.Proofs.YtganlmloonielaaGreat
namespace Go.Proofs.YtganlmloonielaaGreat
def partNo (d : Dsk) (n : Int) : Prt := (d.files.getD (numAt d n).toNat default).part
def openS (d : Dsk) : Sto := ⟨idxOf d.names, d.list.map (partNo d), []⟩
def copyF (f : Fil) : Fil := ⟨f.num, pMerge f.part ⟨[], []⟩⟩
def copyD (d : Dsk) : Dsk := ⟨d.files.map copyF, d.list, d.names, d.next⟩
def goneF (d : Dsk) (n : Int) : List Fil := if numAt d n ≥ 0 ∧ d.list.contains n = false then d.files.take (numAt d n).toNat ++ d.files.drop ((numAt d n).toNat + 1) else d.files
def doD (d : Dsk) (x : Stp) : Dsk :=
 if x.kind = 1 then ⟨d.files ++ [⟨x.num, x.part⟩], d.list, d.names, x.num + 1⟩
 else if x.kind = 2 then ⟨d.files, x.list, x.names, d.next⟩
 else if x.kind = 3 then ⟨goneF d x.num, d.list, d.names, d.next⟩
 else d
def toD (d : Dsk) (steps : List Stp) (cut : Int) : Dsk := (steps.take cut.toNat).foldl doD d
def mergeSt (d : Dsk) (at_ : Int) : List Stp :=
 if !(inR at_ 0 ((d.list.length : Int) - 2)) || decide (d.next ≥ 999) || decide (d.files.length ≥ 20) then []
 else
  let a := d.list.getD at_.toNat 0
  let b := d.list.getD (at_.toNat + 1) 0
  [⟨1, d.next, pMerge (partNo d a) (partNo d b), [], []⟩, ⟨2, 0, ⟨[], []⟩, d.list.take at_.toNat ++ [d.next] ++ d.list.drop (at_.toNat + 2), d.names⟩, ⟨3, a, ⟨[], []⟩, [], []⟩, ⟨3, b, ⟨[], []⟩, [], []⟩]
def fallW (w : Wld) : Wld := ⟨copyS (openS (copyD (tidyD w.disk))), copyD (tidyD w.disk)⟩
def stepsW (w : Wld) (steps : List Stp) (cut : Int) (s : Sto) : Wld :=
 if steps.length = 0 ∨ cut < 0 then w
 else if cut < steps.length then fallW ⟨w.store, toD w.disk steps cut⟩ else ⟨s, toD w.disk steps cut⟩
def doW (w : Wld) (e : Evt) : Wld :=
 if e.kind = 1 then (if nameOk e.name then ⟨(addS w.store e.name e.row).1, w.disk⟩ else w)
 else if e.kind = 2 then stepsW w (flushSt w.disk w.store) e.cut (flushR w.store).1
 else if e.kind = 3 then stepsW w (mergeSt w.disk e.at_) e.cut (mergeR w.store e.at_).1
 else if e.kind = 4 then fallW w
 else w
def copyW (w : Wld) : Wld := ⟨copyS w.store, copyD w.disk⟩
theorem numF_lt (n : Int) : ∀ (fs : List Fil) (i : Nat), numF n i fs < (i : Int) + fs.length ∧ (numF n i fs = -1 ∨ (i : Int) ≤ numF n i fs) := by
 intro fs
 induction fs with
 | nil => intro i; simp [numF]; omega
 | cons f fs ih =>
   intro i
   have h := ih (i + 1)
   simp only [numF, List.length_cons]
   split <;> omega
theorem numAt_lt (d : Dsk) (n : Int) : numAt d n < d.files.length := by have := numF_lt n d.files 0; unfold numAt; omega
theorem numAt_idx {d : Dsk} {n : Int} (h : ∀ n ∈ d.list, 0 ≤ numAt d n) (hm : n ∈ d.list) : (numAt d n).toNat < d.files.length := by
 have h1 := h n hm
 have h2 := numAt_lt d n
 omega
theorem numAt_nat {d : Dsk} {n : Int} (h : ∀ n ∈ d.list, 0 ≤ numAt d n) (hm : n ∈ d.list) : numAt d n = ((numAt d n).toNat : Int) := by
 have h1 := h n hm
 omega
theorem partNo_at {d : Dsk} {n : Int} {f : Fil} (h : d.files[(numAt d n).toNat]? = some f) : partNo d n = f.part := by
 unfold partNo; rw [List.getD_eq_getElem?_getD, h]; rfl
theorem mapStep {α β : Type} {l : List α} {f : α → β} {i : Nat} {k : List β} {q : α} {y : β} (h : k ++ (l.drop i).map f = l.map f) (hd : l.drop i = q :: l.drop (i + 1)) (hy : y = f q) : (k ++ [y]) ++ (l.drop (i + 1)).map f = l.map f := by
 subst hy
 rw [hd] at h
 simpa using h
theorem mapEnd {α β : Type} {l : List α} {f : α → β} {i : Nat} {k : List β} (h : k ++ (l.drop i).map f = l.map f) (hi : l.length ≤ i) : k = l.map f := by
 rw [drop_end hi] at h
 simpa using h
theorem toStep {l : List Stp} {c : Nat} {i : Nat} {d : Dsk} {q : Stp} {Y : Dsk} (h : ((l.take c).drop i).foldl doD d = Y) (hd : l.drop i = q :: l.drop (i + 1)) (hc : i < c) : ((l.take c).drop (i + 1)).foldl doD (doD d q) = Y := by
 have h1 : (l.take c).drop i = q :: (l.take c).drop (i + 1) := by
  rw [List.drop_take, List.drop_take, hd, show c - i = (c - (i + 1)) + 1 by omega]
  rfl
 rw [h1] at h
 exact h
theorem toEnd {l : List Stp} {c : Nat} {i : Nat} {d : Dsk} {Y : Dsk} (h : ((l.take c).drop i).foldl doD d = Y) (hc : l.length ≤ i ∨ c ≤ i) : d = Y := by
 rw [List.drop_of_length_le (by rw [List.length_take]; omega)] at h
 exact h
theorem doD_1 {d : Dsk} {x : Stp} (h : x.kind = 1) : doD d x = ⟨d.files ++ [⟨x.num, x.part⟩], d.list, d.names, x.num + 1⟩ := by unfold doD; rw [if_pos h]
theorem doD_2 {d : Dsk} {x : Stp} (h : x.kind = 2) : doD d x = ⟨d.files, x.list, x.names, d.next⟩ := by unfold doD; rw [if_neg (by omega), if_pos h]
theorem doD_3 {d : Dsk} {x : Stp} (h : x.kind = 3) : doD d x = ⟨goneF d x.num, d.list, d.names, d.next⟩ := by unfold doD; rw [if_neg (by omega), if_neg (by omega), if_pos h]
theorem doD_0 {d : Dsk} {x : Stp} (h : x.kind ≠ 1) (h2 : x.kind ≠ 2) (h3 : x.kind ≠ 3) : doD d x = d := by unfold doD; rw [if_neg h, if_neg h2, if_neg h3]
theorem gone_t {d : Dsk} {n : Int} (h : numAt d n ≥ 0) (h2 : d.list.contains n = false) : goneF d n = d.files.take (numAt d n).toNat ++ d.files.drop ((numAt d n).toNat + 1) := by unfold goneF; rw [if_pos ⟨h, h2⟩]
theorem gone_f {d : Dsk} {n : Int} (h : ¬ numAt d n ≥ 0 ∨ d.list.contains n = true) : goneF d n = d.files := by unfold goneF; rw [if_neg]; rintro ⟨h1, h2⟩; rcases h with h | h; exact h h1; rw [h2] at h; cases h
theorem merge_no {d : Dsk} {a : Int} (h : inR a 0 ((d.list.length : Int) - 2) = false ∨ d.next ≥ 999 ∨ (d.files.length : Int) ≥ 20) : mergeSt d a = [] := by
 unfold mergeSt
 rw [if_pos]
 rcases h with h | h | h
 ·simp [h]
 ·simp [h]
 ·have h : d.files.length ≥ 20 := by omega
  simp [h]
theorem merge_yes {d : Dsk} {at_ a b : Int} {f g : Fil} (h : inR at_ 0 ((d.list.length : Int) - 2) = true) (h2 : ¬ d.next ≥ 999) (h3 : ¬ (d.files.length : Int) ≥ 20) (ha : d.list[at_.toNat]? = some a) (hb : d.list[(at_ + 1).toNat]? = some b)
 (hf : d.files[(numAt d a).toNat]? = some f) (hg : d.files[(numAt d b).toNat]? = some g) :
 mergeSt d at_ = [⟨1, d.next, pMerge f.part g.part, [], []⟩, ⟨2, 0, ⟨[], []⟩, (([] ++ (d.list.take at_.toNat).drop 0) ++ [d.next]) ++ (d.list.take d.list.length).drop (at_ + 2).toNat, d.names⟩, ⟨3, a, ⟨[], []⟩, [], []⟩, ⟨3, b, ⟨[], []⟩, [], []⟩] := by
 have h0 := inR_t h
 have e1 : (at_ + 1).toNat = at_.toNat + 1 := by omega
 have e2 : (at_ + 2).toNat = at_.toNat + 2 := by omega
 rw [e1] at hb
 have h4 : ¬ d.files.length ≥ 20 := by omega
 unfold mergeSt
 rw [if_neg (by simp [h]; omega), ← partNo_at hf, ← partNo_at hg, e2, List.getD_eq_getElem?_getD, List.getD_eq_getElem?_getD, ha, hb]
 simp
theorem doD_len {d : Dsk} {x : Stp} (h : x.list.length ≤ 1000) (hd : d.list.length ≤ 1000) : (doD d x).files.length ≤ d.files.length + 1 ∧ (doD d x).list.length ≤ 1000 := by
 unfold doD goneF
 split
 ·simp; exact hd
 ·split
  ·simp; exact h
  ·split
   ·simp only
    split <;> simp <;> omega
   ·omega
def StpSz (x : Stp) : Prop := x.list.length ≤ 1000 ∧ x.names.length ≤ 1000 ∧ (∀ n ∈ x.names, n.length ≤ 1000) ∧ -9000000 ≤ x.num ∧ x.num ≤ 9000000
end Go.Proofs.YtganlmloonielaaGreat
namespace Go.Proofs.YtganlmloonielaaGreat
set_option maxRecDepth 100000
set_option maxHeartbeats 4000000
theorem c_spec_l21Open (d : Dsk) {w : World} {F : Nat → Prop} {a1 : Option Addr} {n1 c1 : Nat} (h1 : RepS w F a1 n1 c1 d.files) {a2 : Option Addr} {n2 c2 : Nat} (h2 : RepS w F a2 n2 c2 d.list) {a3 : Option Addr} {n3 c3 : Nat} (h3 : RepS w F a3 n3 c3 d.names) (p0 : d.names.length ≤ 1000) (p1 : ∀ n ∈ d.names, NmSz n) (p2 : d.list.length ≤ 1000) (p3 : ∀ n ∈ d.list, 0 ≤ numAt d n) : Calls Tryz.prog 68 [.agg #[.slice a1 n1 c1, .slice a2 n2 c2, .slice a3 n3 c3, .int .i64 d.next]].toArray w (rets fun rv w' => VS (fo F w.heap.size) w' (openS d : Sto) rv ∧ Ext w w') := by
 refine goT Tryz.func68 ?_
 obtain ⟨rfl, du, h1⟩ := h1.tp
 obtain ⟨rfl, dv, h2⟩ := h2.tp
 obtain ⟨rfl, dw, h3⟩ := h3.tp
 refine .s <| .g <| .np 27 [.slice a1 d.files.length c1, .slice a2 d.list.length c2, .slice a3 d.names.length c3, vI d.next] fun af dN bq aT W b6 => ?_
 replace ⟨h1, h2, h3⟩ := (sn [] aT bq).g3 h1 h2 h3
 have C := aT
 refine .np 34 [.slice none 0 0, .slice none 0 0, .slice none 0 0, .slice none 0 0] fun ag b7 aU br O b8 => ?_
 have dx := C.cn aU
 replace ⟨h1, h2, h3, W, C⟩ := (sn [af] br aU).g5 h1 h2 h3 W C
 refine .d <| .s <| .g <| .r 1 <| .lb W <| .cl (c_spec_l11Of d.names h3.ta p0 p1 (w := b7) (F := all)) ?_
 rintro dO dP ⟨⟨_, rfl, ⟨b9, dQ, cd, ce, dR, cg, rfl, al, am⟩⟩, bt⟩
 have aV := al2 O.lt W.lt
 have bu : Gb w.heap.size b7.heap.size := C.size
 replace ⟨h1, h2, h3, W, O, C⟩ := (se [ag, af] bt).g6 h1 h2 h3 W O C
 have al := al.fr aV bu
 replace al := al.base (G' := fo F w.heap.size) (fun _ _ h => .inr h)
 have dy := al.max
 have am := am.fr aV bu
 replace am := am.base (G' := fo F w.heap.size) (fun _ _ h => .inr h)
 have dz := am.max
 have ci := al.len
 subst ci
 have cj := am.len
 subst cj
 refine .ns 0 42 [] fun ar cN aC bv ck cm => ?_
 have co := nb_new aC W.lt
 have cp := nb_new aC O.lt
 have cq := gb_new aC C.size
 have cr := C.cn aC
 replace ⟨h1, h2, h3, W, O, al, am, C⟩ := (sn [ag, af] bv aC).g8 h1 h2 h3 W O al am C
 have au : Own (α := Prt) cN ar 42 (nin (fo F w.heap.size) [ar, ag, af]) 0 0 [] := Own.nil' ck
 refine .ns 0 107 [] fun ax cO ay bw cu cv => ?_
 have cw := nb_new ay W.lt
 have cx := nb_new ay O.lt
 have cy := nb_new ay au.lt
 have cz := gb_new ay C.size
 have dA := C.cn ay
 replace ⟨h1, h2, h3, W, O, al, am, au, C⟩ := (sn [ar, ag, af] bw ay).g9 h1 h2 h3 W O al am au C
 have aD : Own (α := Smp) cO ax 107 (nin (fo F w.heap.size) [ax, ar, ag, af]) 0 0 [] := Own.nil' cu
 refine .r 1 <| .np 34 [.slice none 0 0, .slice none 0 0, .slice none 0 0, .slice none 0 0] fun ah dS az bz cA cB => ?_
 have dB := nb_new az W.lt
 have dC := nb_new az O.lt
 have cC := nb_new az au.lt
 have cD := nb_new az aD.lt
 have dD := C.cn az
 replace ⟨h1, h2, h3, W, O, al, am, au, aD, C⟩ := (sn [ax, ar, ag, af] bz az).g10 h1 h2 h3 W O al am au aD C
 refine .sc [.slice b9 (((idxOf d.names).names).length) cd, .slice ce (((idxOf d.names).posts).length) cg, vS ar 0 0, vS ax 0 0] cA fun aQ bA aW cE => ?_
 replace ⟨h1, h2, h3, W, O, al, am, au, aD, C⟩ := (so [ah, ax, ar, ag, af] bA).g10 h1 h2 h3 W O al am au aD C
 refine .d <| .s <| .s <| .g <| .r 1 <| .d <| .b 0 <| T.loop (X := Nat × (List (List Tag)) × (Option Addr) × Nat × Nat × (List Pst) × (Option Addr) × Nat × Nat × (List Prt) × Nat × Nat × Nat × (List Smp) × Nat × Nat × Nat) (0, ((idxOf d.names).names : List (List Tag)), b9, ((idxOf d.names).names).length, cd, ((idxOf d.names).posts : List Pst), ce, ((idxOf d.names).posts).length, cg, ([] : List Prt), ar, 0, 0, ([] : List Smp), ax, 0, 0) (fun (i, aI, a_s_0, n_s_0, c_s_0, aJ, a_s_1, n_s_1, c_s_1, aE, r_s_2, n_s_2, c_s_2, aK, r_s_3, n_s_3, c_s_3) => [(1, .pointer (some ⟨af, 0, none⟩)), (2, .pointer (some ⟨ag, 0, none⟩)), (3, .pointer (some ⟨ah, 0, none⟩)), (4, vI (i : Int))]) (fun (i, aI, a_s_0, n_s_0, c_s_0, aJ, a_s_1, n_s_1, c_s_1, aE, r_s_2, n_s_2, c_s_2, aK, r_s_3, n_s_3, c_s_3) aA => Chg (ins [ar, ax, ah]) aQ aA ∧ Own aA r_s_2 42 (nin (fo F w.heap.size) [ah, r_s_3, r_s_2, ag, af]) n_s_2 c_s_2 aE ∧ OrB r_s_2 ar aQ.heap.size ∧ Own aA r_s_3 107 (nin (fo F w.heap.size) [ah, r_s_3, r_s_2, ag, af]) n_s_3 c_s_3 aK ∧ OrB r_s_3 ax aQ.heap.size ∧ Nb r_s_3 r_s_2 ∧ RepS aA (nin (fo F w.heap.size) [ah, r_s_3, r_s_2, ag, af]) a_s_0 n_s_0 c_s_0 aI ∧ RepS aA (nin (fo F w.heap.size) [ah, r_s_3, r_s_2, ag, af]) a_s_1 n_s_1 c_s_1 aJ ∧ Box aA ah 34 [.slice a_s_0 n_s_0 c_s_0, .slice a_s_1 n_s_1 c_s_1, vS r_s_2 n_s_2 c_s_2, vS r_s_3 n_s_3 c_s_3] ∧ (i ≤ d.list.length) ∧ (aI = d.names) ∧ (aJ = postsOf d.names) ∧ (aK = []) ∧ (aE.length ≤ i) ∧ (aE ++ (d.list.drop i).map (partNo d) = d.list.map (partNo d))) (fun (i, aI, a_s_0, n_s_0, c_s_0, aJ, a_s_1, n_s_1, c_s_1, aE, r_s_2, n_s_2, c_s_2, aK, r_s_3, n_s_3, c_s_3) => d.list.length - i) (by kernel_rfl) ⟨by kernel_rfl, by kernel_rfl, by kernel_rfl, by kernel_rfl, trivial⟩ ⟨Chg.refl _ _, au, orb_refl, aD, orb_refl, cy, al, am, aW, (by simp), (by rfl), (by rfl), (by rfl), (by simp), (by rfl)⟩ ?_
 rintro ⟨i, aI, a_s_0, n_s_0, c_s_0, aJ, a_s_1, n_s_1, c_s_1, aE, r_s_2, n_s_2, c_s_2, aK, r_s_3, n_s_3, c_s_3⟩ dE aA ⟨ab, ae, ai, aa, aw, bE, E, J, ac, cP, cQ, cR, cS, cT, cU⟩ aR
 have aL := nb_or' ai co W.lt
 have cV := nb_or' ai cp O.lt
 have aX := nb_or' ai (Nb.symm cC) aW.lt
 have bF := gb_or' ai cq C.size
 have cW := cov_or' ai cr C.size
 have aM := nb_or' aw cw W.lt
 have cX := nb_or' aw cx O.lt
 have bG := nb_or' aw (Nb.symm cD) aW.lt
 have bH := gb_or' aw cz C.size
 have bI : Cov (ins [ar, ax, ah]) aQ ar := ⟨.inl (.head _)⟩
 have cY : Cov (ins [ar, ax, ah]) aQ ah := ⟨.inl (.tail _ (.tail _ (.head _)))⟩
 have cZ := cov_or' ai bI (Nat.le_refl _)
 have aY : Mv [ah, ax, ar, ag, af] [ah, r_s_3, r_s_2, ag, af] aQ aA := Mv.inl ab (all_cons (.tail _ (.tail _ (.head _))) (all_cons (.tail _ (.head _)) (all_cons (.head _) all_nil))) (all_cons (.inl (.head _)) (all_cons (orb_mem aw (.tail _ (.head _))) (all_cons (orb_mem ai (.tail _ (.tail _ (.head _)))) (all_cons (.inl (.tail _ (.tail _ (.tail _ (.head _))))) (all_cons (.inl (.tail _ (.tail _ (.tail _ (.tail _ (.head _)))))) all_nil)))))
 replace ⟨h1, h2, h3, W, O, C⟩ := (sp aY ab).g6 h1 h2 h3 W O C
 have c7 := ae.len; have c8 := ae.max
 have c9 := aa.len; have da := aa.max
 have db := E.len; have de := E.max
 have df := J.len; have dg := J.max
 refine .s <| .s <| .g <| .r 2 <| .lb W <| .r 1 <| .bp ((i : Int) < (d.list.length : Int)) (fun bJ => ?_) (fun bJ => ?_)
 ·refine .d <| .ct <| .sk <| .s <| .b 1 ?_
  replace h1 := h1.into
  replace h2 := h2.into
  replace h3 := h3.into
  replace E := E.into
  replace J := J.into
  have aN : Gb (af + 1) aA.heap.size := W.lt
  have bK : Gb (ah + 1) aA.heap.size := ac.lt
  refine .gd (mtb [r_s_2, r_s_3] aA.heap.size) 15 fun dF aZ => ?_
  replace ⟨h1, h2, h3, W, O, ae, aa, ac, E, J, C, ab⟩ := (se [ah, r_s_3, r_s_2, ag, af] aZ).g12 h1 h2 h3 W O ae aa ac E J C ab
  refine .r [0] <| .lb 1 ac (nS_of (all_cons (Nb.symm aX) (all_cons (Nb.symm bG) all_nil)) bK) <| .r [2] <| .lb 3 W (nS_of (all_cons (Nb.symm aL) (all_cons (Nb.symm aM) all_nil)) aN) <| .ln 4 W (nS_of (all_cons (Nb.symm aL) (all_cons (Nb.symm aM) all_nil)) aN) <| .r [5] <| .lb 6 W (nS_of (all_cons (Nb.symm aL) (all_cons (Nb.symm aM) all_nil)) aN) <| .r [7] ?_
  have ba : i < d.list.length := (by omega)
  refine GA.idx (i := 8) i (len := d.list.length) (z := (i : Int)) (sz := 1) (by kernel_rfl) (by omega) ba (h2.addr (Nat.zero_lt_of_lt ba)) ?_
  obtain ⟨aB, aF⟩ : ∃ y, d.list[i]? = some y := ⟨_, List.getElem?_eq_getElem (by omega)⟩
  have dh := drop_at aF; have cF := List.mem_of_getElem? aF
  obtain ⟨_, rfl, bL⟩ := h2.elem i aB aF
  refine .lh 9 0 bL (h2.nS (pos_of aF) (all_cons (.tail _ (.tail _ (.head _))) (all_cons (.tail _ (.head _)) all_nil))) <| GA.call1 (i := 10) (by kernel_rfl) (fun cG aO => c_spec_l21At d aB (h1.chgS aO (all_cons (.tail _ (.tail _ (.head _))) (all_cons (.tail _ (.head _)) all_nil))) (h2.chgS aO (all_cons (.tail _ (.tail _ (.head _))) (all_cons (.tail _ (.head _)) all_nil))) (h3.chgS aO (all_cons (.tail _ (.tail _ (.head _))) (all_cons (.tail _ (.head _)) all_nil))) (w := cG) (F := all)) ?_
  have bc : (numAt d aB).toNat < d.files.length := (by exact numAt_idx p3 ‹_›)
  refine GA.idx (i := 11) ((numAt d aB).toNat) (len := d.files.length) (z := numAt d aB) (sz := 3) (by kernel_rfl) (by exact numAt_nat p3 ‹_›) bc (h1.addr (Nat.zero_lt_of_lt bc)) <| .r [12] ?_
  obtain ⟨aH, aG⟩ : ∃ y, d.files[(numAt d aB).toNat]? = some y := ⟨_, List.getElem?_eq_getElem (by omega)⟩
  have dj := drop_at aG; have cH := List.mem_of_getElem? aG
  obtain ⟨_, ⟨cI, dG, cJ, cK, dH, cL, rfl, aj, ak⟩, bM⟩ := h1.elem ((numAt d aB).toNat) aH aG
  have bN := aj.len
  subst bN
  have dm := aj.max
  have bO := ak.len
  subst bO
  have dp := ak.max
  refine .lg 13 1 bM (h1.nS (pos_of aG) (all_cons (.tail _ (.tail _ (.head _))) (all_cons (.tail _ (.head _)) all_nil))) <| .go 14 <| .ns 1 42 [.slice cI aH.part.ids.length cJ, .slice cK aH.part.blocks.length cL] fun dI bd => ?_
  replace ⟨W, O, ae, aa, ac, E, J, aj, ak, C, ab⟩ := (se [ah, r_s_3, r_s_2, ag, af] bd).g11 W O ae aa ac E J aj ak C ab
  intro bB dJ ao bg aP bP
  have bQ := nb_new ao W.lt
  have bR := nb_new ao O.lt
  have bh := nb_new ao ae.lt
  have bS := nb_new ao aa.lt
  have bT := nb_new ao ac.lt
  have bU := gb_new ao C.size
  replace ⟨O, ae, aa, ac, E, J, aj, ak, C, ab⟩ := (se [ah, r_s_3, r_s_2, ag, af] bg).g10 O ae aa ac E J aj ak C ab
  refine .d fun dK bi => ?_
  replace ⟨O, ae, aa, ac, E, J, aj, ak, aP, C, ab⟩ := (se [ah, r_s_3, r_s_2, ag, af] bi).g11 O ae aa ac E J aj ak aP C ab
  replace E := E.outof
  replace J := J.outof
  replace aj := aj.outof
  replace ak := ak.outof
  have aS : nin (fo F w.heap.size) [ah, r_s_3, r_s_2, ag, af] bB ∧ bB ≠ r_s_2 := hap_mk (.inr bU) (all_cons bT (all_cons bS (all_cons bh (all_cons bR (all_cons bQ all_nil))))) bh
  refine RG.append1 (T := 31) (ty := 31) (y := aH.part) ae aP (by kernel_rfl) (by kernel_rfl) ⟨_, _, _, _, _, _, rfl, aj.oi, ak.oi⟩ aS (by omega) fun bj bC dL aq av bk => ?_
  have bV := nb_or av (Nb.symm bE) aa.lt
  have dq := nb_or av aX ac.lt
  have bW := orb_or av ai ab.size
  replace ⟨O, aa, ac, E, J, C, ab⟩ := (sa [ah, r_s_3, r_s_2, ag, af] bk av).g7 O aa ac E J C ab
  replace aq := aq.rn r_s_2
  have dr := aq.len; have dt := aq.max
  refine .r 1 <| .ss 2 (vS bj (n_s_2 + 1) bC) ac fun dM bm bX bY => ?_
  replace ⟨O, aq, aa, E, J, C, ab⟩ := (so [ah, r_s_3, bj, ag, af] bm).g7 O aq aa E J C ab
  exact .d <| .ib 1 <| .g <| .r 1 <| .it ((i : Int) + 1) <| .r 1 <| .d <| aR (i + 1, aI, a_s_0, n_s_0, c_s_0, aJ, a_s_1, n_s_1, c_s_1, (aE ++ [aH.part]), bj, n_s_2 + 1, bC, aK, r_s_3, n_s_3, c_s_3) _ _ ⟨by kernel_rfl, by kernel_rfl, by kernel_rfl, by kernel_rfl, trivial⟩ ⟨ab, aq, bW, aa, aw, (Nb.symm bV), E, J, bX, (by omega), ‹_›, ‹_›, ‹_›, (by simp; omega), (by exact mapStep ‹_› ‹_› (partNo_at ‹_›).symm)⟩ (by (simp only []; omega))
 refine .d <| .cf <| .x 0 rfl <| .s <| .g <| .ln ac <| .sc [.slice a_s_0 n_s_0 c_s_0, .slice a_s_1 n_s_1 c_s_1, vS r_s_2 n_s_2 c_s_2, vS r_s_3 n_s_3 c_s_3] O fun bD bn bZ b0 => ?_
 replace ⟨ae, aa, E, J, C⟩ := (so [ah, r_s_3, r_s_2, ag, af] bn).g5 ae aa E J C
 refine .d ?_
 have bo := ae.sl (.inr bF)
 replace ⟨aa, E, J⟩ := (sd bD [ah, r_s_3, r_s_2, ag, af] r_s_2).g3 aa E J
 have cM := aa.sl (.inr bH)
 replace ⟨bo, E, J⟩ := (sd bD [ah, r_s_3, ag, af] r_s_3).g3 bo E J
 exact .rb Tryz.func68 Tryz.results68 bZ ⟨(VS.of (y := (⟨(⟨aI, aJ⟩ : Idx), aE, aK⟩ : Sto)) ⟨_, rfl, ⟨_, _, _, _, _, _, _, _, _, _, _, _, rfl, E.w1, J.w1, bo.w1, cM.w1⟩⟩ (by have q1 : aE = _ := mapEnd ‹_› (by omega); subst_vars; rfl)), C⟩
theorem c_spec_l21Copy (d : Dsk) {w : World} {F : Nat → Prop} {a1 : Option Addr} {n1 c1 : Nat} (h1 : RepS w F a1 n1 c1 d.files) {a2 : Option Addr} {n2 c2 : Nat} (h2 : RepS w F a2 n2 c2 d.list) {a3 : Option Addr} {n3 c3 : Nat} (h3 : RepS w F a3 n3 c3 d.names) (p0 : d.names.length ≤ 1000) (p1 : ∀ n ∈ d.names, n.length ≤ 1000) (p2 : d.list.length ≤ 1000) (p3 : d.files.length ≤ 1000) (p4 : ∀ f ∈ d.files, PrtSz f.part) : Calls Tryz.prog 63 [.agg #[.slice a1 n1 c1, .slice a2 n2 c2, .slice a3 n3 c3, .int .i64 d.next]].toArray w (rets fun rv w' => (∃ (r0 n0 c0 : Nat) (r1 n1 c1 : Nat) (r2 n2 c2 : Nat), rv = .agg #[.slice (some ⟨r0, 0, none⟩) n0 c0, .slice (some ⟨r1, 0, none⟩) n1 c1, .slice (some ⟨r2, 0, none⟩) n2 c2, .int .i64 (((copyD d)).next)] ∧ Own w' r0 66 (nin (ge w.heap.size) [r0, r1, r2]) n0 c0 (((copyD d)).files) ∧ w.heap.size ≤ r0 ∧ Own w' r1 3 (nin (ge w.heap.size) [r0, r1, r2]) n1 c1 (((copyD d)).list) ∧ w.heap.size ≤ r1 ∧ Nb r1 r0 ∧ Own w' r2 77 (nin (ge w.heap.size) [r0, r1, r2]) n2 c2 (((copyD d)).names) ∧ w.heap.size ≤ r2 ∧ Nb r2 r0 ∧ Nb r2 r1) ∧ Ext w w') := by
 refine goT Tryz.func63 ?_
 obtain ⟨rfl, cP, h1⟩ := h1.tp
 obtain ⟨rfl, cQ, h2⟩ := h2.tp
 obtain ⟨rfl, cR, h3⟩ := h3.tp
 refine .s <| .g <| .np 27 [.slice a1 d.files.length c1, .slice a2 d.list.length c2, .slice a3 d.names.length c3, vI d.next] fun aa dC bq aN E b6 => ?_
 replace ⟨h1, h2, h3⟩ := (sn [] aN bq).g3 h1 h2 h3
 have C := aN
 refine .np 27 [.slice none 0 0, .slice none 0 0, .slice none 0 0, vI 0] fun ac dD aO br J b7 => ?_
 have cS := C.cn aO
 replace ⟨h1, h2, h3, E, C⟩ := (sn [aa] br aO).g5 h1 h2 h3 E C
 refine .d <| .s <| .g <| .ns 0 66 [] fun az aP aw bt b8 b9 => ?_
 have cd := nb_new aw E.lt
 have ce := nb_new aw J.lt
 have cg := gb_new aw C.size
 have ci := C.cn aw
 replace ⟨h1, h2, h3, E, J, C⟩ := (sn [ac, aa] bt aw).g6 h1 h2 h3 E J C
 have cj : Own (α := Fil) aP az 66 (nin (ge w.heap.size) [az, ac, aa]) 0 0 [] := Own.nil' b8
 refine .r 1 <| .d <| .s <| .s <| .g <| .r 1 <| .d <| .b 0 <| T.loop (X := (List Fil) × Nat × Nat × Nat × Nat) (([] : List Fil), az, 0, 0, 0) (fun (files, r_files, n_files, c_files, i) => [(1, .pointer (some ⟨aa, 0, none⟩)), (2, .pointer (some ⟨ac, 0, none⟩)), (3, vS r_files n_files c_files), (4, vI (i : Int))]) (fun (files, r_files, n_files, c_files, i) am => Chg (ins [az]) aP am ∧ Own am r_files 66 (nin (ge w.heap.size) [r_files, ac, aa]) n_files c_files files ∧ OrB r_files az aP.heap.size ∧ (i ≤ d.files.length) ∧ (files.length ≤ i) ∧ (files ++ (d.files.drop i).map copyF = d.files.map copyF)) (fun (files, r_files, n_files, c_files, i) => d.files.length - i) (by kernel_rfl) ⟨by kernel_rfl, by kernel_rfl, by kernel_rfl, by kernel_rfl, trivial⟩ ⟨Chg.refl _ _, cj, orb_refl, (by simp), (by simp), (by simp)⟩ ?_
 rintro ⟨files, r_files, n_files, c_files, i⟩ dE am ⟨ab, O, ao, cT, cU, cV⟩ aQ
 have aA := nb_or' ao cd E.lt
 have cW := nb_or' ao ce J.lt
 have ck := gb_or' ao cg C.size
 have cX := cov_or' ao ci C.size
 have cm : Cov (ins [az]) aP az := ⟨.inl (.head _)⟩
 have cY := cov_or' ao cm (Nat.le_refl _)
 have bu : Mv [az, ac, aa] [r_files, ac, aa] aP am := Mv.inl ab (all_cons (.head _) all_nil) (all_cons (orb_mem ao (.head _)) (all_cons (.inl (.tail _ (.head _))) (all_cons (.inl (.tail _ (.tail _ (.head _)))) all_nil)))
 replace ⟨h1, h2, h3, E, J, C⟩ := (sp bu ab).g6 h1 h2 h3 E J C
 have cZ := O.len; have c7 := O.max
 refine .s <| .s <| .g <| .r 2 <| .lb E <| .r 1 <| .bp ((i : Int) < (d.files.length : Int)) (fun co => ?_) (fun co => ?_)
 ·refine .d <| .ct <| .sk <| .s <| .b 1 ?_
  replace h1 := h1.into
  replace h2 := h2.into
  replace h3 := h3.into
  have aR : Gb (aa + 1) am.heap.size := E.lt
  refine .gd (mtb [r_files] am.heap.size) 17 fun c8 aS => ?_
  replace ⟨h1, h2, h3, E, J, O, C, ab⟩ := (se [r_files, ac, aa] aS).g8 h1 h2 h3 E J O C ab
  refine .r [0, 1] <| .lb 2 E (nS_of (all_cons (Nb.symm aA) all_nil) aR) <| .r [3] ?_
  have bB : i < d.files.length := (by omega)
  refine .ix 4 i 3 h1 bB <| .r [5] ?_
  obtain ⟨af, aq⟩ : ∃ y, d.files[i]? = some y := ⟨_, List.getElem?_eq_getElem (by omega)⟩
  have cA := drop_at aq; have cp := List.mem_of_getElem? aq
  obtain ⟨_, ⟨c9, da, db, de, df, dg, rfl, aT, aU⟩, aV⟩ := h1.elem i af aq
  have bC := aT.len
  subst bC
  have cB := aT.max
  have bD := aU.len
  subst bD
  have cC := aU.max
  refine .lh 6 0 aV (h1.nS (pos_of aq) (all_cons (.head _) all_nil)) <| .r [7] <| .lb 8 E (nS_of (all_cons (Nb.symm aA) all_nil) aR) <| .r [9] ?_
  have bE : i < d.files.length := (by omega)
  refine .ix 10 i 3 h1 bE <| .r [11] <| .lg 12 1 aV (h1.nS (pos_of aq) (all_cons (.head _) all_nil)) <| .r [13] <| .go 14 <| .cl (fun aW ak => c_spec_l12Merge af.part (⟨([] : List Int), ([] : List (List Row))⟩ : Prt) (aT.ta.ext ak) (aU.ta.ext ak) ((RepS.nil' _ all none 0 (by decide)).ext ak) ((RepS.nil' _ all none 0 (by decide)).ext ak) (p4 _ ‹_›) (by simp [PrtSz]) (w := aW) (F := all)) ?_
  intro aW ak
  replace ⟨h2, h3, E, J, O, C, ab⟩ := (se [r_files, ac, aa] ak).g7 h2 h3 E J O C ab
  rintro dh dj ⟨⟨_, rfl, ⟨cq, dm, cr, cu, dp, cv, rfl, ag, ah⟩⟩, aB⟩
  have aC := al3 O.lt J.lt E.lt
  have aX : Gb w.heap.size aW.heap.size := C.size
  have hkeep_ := aB
  replace ⟨h2, h3, E, J, O, C, ab⟩ := (se [r_files, ac, aa] aB).g7 h2 h3 E J O C ab
  refine ⟨Ext.chg hkeep_, ?_⟩
  have ag := ag.fr aC aX
  have cD := ag.max
  have ah := ah.fr aC aX
  have cE := ah.max
  have bF := ag.len
  subst bF
  have bG := ah.len
  subst bG
  refine .r [15] <| .go 16 <| .ns 1 66 [vI af.num, .slice cq (((pMerge af.part (⟨([] : List Int), ([] : List (List Row))⟩ : Prt)).ids).length) cr, .slice cu (((pMerge af.part (⟨([] : List Int), ([] : List (List Row))⟩ : Prt)).blocks).length) cv] fun dq aY => ?_
  replace ⟨h2, h3, E, J, O, ag, ah, C, ab⟩ := (se [r_files, ac, aa] aY).g9 h2 h3 E J O ag ah C ab
  intro bv dr ar aZ aD bH
  have bI := nb_new ar E.lt
  have bJ := nb_new ar J.lt
  have ba := nb_new ar O.lt
  have bK := gb_new ar C.size
  replace ⟨h2, h3, E, J, O, ag, ah, C, ab⟩ := (se [r_files, ac, aa] aZ).g9 h2 h3 E J O ag ah C ab
  refine .d fun dt bc => ?_
  replace ⟨h2, h3, E, J, O, ag, ah, aD, C, ab⟩ := (se [r_files, ac, aa] bc).g10 h2 h3 E J O ag ah aD C ab
  replace h2 := h2.outof
  replace h3 := h3.outof
  have aM : nin (ge w.heap.size) [r_files, ac, aa] bv ∧ bv ≠ r_files := hap_mk bK (all_cons ba (all_cons bJ (all_cons bI all_nil))) ba
  refine RG.append1 (T := 23) (ty := 23) (y := (⟨af.num, (⟨(pMerge af.part (⟨([] : List Int), ([] : List (List Row))⟩ : Prt)).ids, (pMerge af.part (⟨([] : List Int), ([] : List (List Row))⟩ : Prt)).blocks⟩ : Prt)⟩ : Fil)) O aD (by kernel_rfl) (by kernel_rfl) ⟨_, _, _, _, _, _, rfl, ag.oi, ah.oi⟩ aM (by omega) fun cw cx du au ay bd => ?_
  have bL := orb_or ay ao ab.size
  replace ⟨h2, h3, E, J, C, ab⟩ := (sa [r_files, ac, aa] bd ay).g6 h2 h3 E J C ab
  replace au := au.rn r_files
  have cF := au.len; have cG := au.max
  exact .r 1 <| .d <| .ib 1 <| .g <| .r 1 <| .it ((i : Int) + 1) <| .r 1 <| .d <| aQ ((files ++ [(⟨af.num, (⟨(pMerge af.part (⟨([] : List Int), ([] : List (List Row))⟩ : Prt)).ids, (pMerge af.part (⟨([] : List Int), ([] : List (List Row))⟩ : Prt)).blocks⟩ : Prt)⟩ : Fil)]), cw, n_files + 1, cx, i + 1) _ _ ⟨by kernel_rfl, by kernel_rfl, by kernel_rfl, by kernel_rfl, trivial⟩ ⟨ab, au, bL, (by omega), (by simp; omega), (by exact mapStep ‹_› ‹_› rfl)⟩ (by (simp only []; omega))
 refine .d <| .cf <| .x 0 rfl <| .s ?_
 replace h2 := h2.into
 replace h3 := h3.into
 have aE : Gb (aa + 1) am.heap.size := E.lt
 refine .gd (mtb [r_files] am.heap.size) 10 fun cy aF => ?_
 replace ⟨h2, h3, E, J, O, C⟩ := (se [r_files, ac, aa] aF).g6 h2 h3 E J O C
 have aG : Chg (mtb [r_files] am.heap.size) am cy := Chg.stepN (Chg.refl (mtb [r_files] am.heap.size) am) aF
 refine .r [0, 2] <| .lb 3 E (nS_of (all_cons (Nb.symm aA) all_nil) aE) <| .r [5] <| .lb 6 E (nS_of (all_cons (Nb.symm aA) all_nil) aE) <| .r [8] <| .lb 9 E (nS_of (all_cons (Nb.symm aA) all_nil) aE) <| .go 1 <| .ns 0 3 [] fun dv bg => ?_
 replace ⟨h2, h3, E, J, O, C, aG⟩ := (se [r_files, ac, aa] bg).g7 h2 h3 E J O C aG
 intro ax cz ai bh bM bN
 have cH := nb_new ai E.lt
 have bO := nb_new ai J.lt
 have bP := nb_new ai O.lt
 have bQ := gb_new ai C.size
 have cI := C.cn ai
 have bR := aG.cn ai
 replace ⟨h2, h3, E, J, O, C⟩ := (sn [r_files, ac, aa] bh ai).g6 h2 h3 E J O C
 have aH : Own (α := Int) cz ax 3 (nin (ge w.heap.size) [ax, r_files, ac, aa]) 0 0 [] := Own.nil' bM
 refine .go 4 <| GE.append (T := 24) (ty := 24) (args := [vS ax 0 0, .slice a2 d.list.length c2]) (by kernel_rfl) fun dw bi => ?_
 replace ⟨h2, h3, E, J, O, aH, C⟩ := (se [ax, r_files, ac, aa] bi).g7 h2 h3 E J O aH C
 obtain ⟨av, bw, dx, bj, W, aj, aI, bS⟩ := Own.appendF (P := Tryz.prog) (T := 24) (ty := 24) flat_int aH (by kernel_rfl) h2 (fun b h e => h.2 (e ▸ (.head _))) (by omega)
 refine ⟨_, _, bj, Chg.toS aI (Cov.toS bR), ?_⟩
 have cJ := nb_or aj bO J.lt
 have bT := nb_or aj bP O.lt
 have bU := gb_or aj bQ C.size
 replace ⟨h3, E, J, O, C⟩ := (sa [ax, r_files, ac, aa] aI aj).g5 h3 E J O C
 replace W := W.rn ax
 have cK := W.len; have cL := W.max
 refine .go 7 <| .cl (fun bk aJ => c_spec_l11Names d.names (h3.ta.ext aJ) (by omega) (by intro n hn; have := p1 n hn; omega) (w := bk) (F := all)) ?_
 intro bk aJ
 replace ⟨E, J, O, W, C⟩ := (se [av, r_files, ac, aa] aJ).g5 E J O W C
 rintro dy dz ⟨⟨aL, bz, bA, rfl, ae, al⟩, aK⟩
 have bm := al4 W.lt O.lt J.lt E.lt
 have bV : Gb w.heap.size bk.heap.size := C.size
 have hkeep_ := aK
 have cM := nb_ge al J.lt
 have bW := nb_ge al O.lt
 have bX := nb_ge al W.lt
 have bY := gb_ge al C.size
 replace ⟨J, O, W, C⟩ := (sz [av, r_files, ac, aa] aK al).g4 J O W C
 refine ⟨Ext.chg hkeep_, ?_⟩
 replace ae := Own.take (s0 := w.heap.size) (M := [av, r_files, ac, aa]) ae bm bV
 have cN := ae.len; have cO := ae.max
 refine .d fun dA bn => ?_
 replace ⟨J, O, W, ae, C⟩ := (se [aL, av, r_files, ac, aa] bn).g5 J O W ae C
 refine .r 1 <| .sc [vS r_files n_files c_files, vS av (0 + d.list.length) bw, vS aL bz bA, vI d.next] J fun dB bo bZ b0 => ?_
 replace ⟨O, W, ae, C⟩ := (so [aL, av, r_files, ac, aa] bo).g4 O W ae C
 exact .d <| .rb Tryz.func63 Tryz.results63 bZ ⟨⟨r_files, n_files, c_files, av, (0 + d.list.length), bw, aL, bz, bA, (by rw [show d.next = (((copyD d)).next) from by rfl]), ((Own.lessM O (all_cons (.tail _ (.tail _ (.head _))) (all_cons (.tail _ (.head _)) (all_cons (.head _) all_nil)))).eqx (by exact mapEnd ‹_› (by omega))), ck, ((Own.lessM W (all_cons (.tail _ (.tail _ (.head _))) (all_cons (.tail _ (.head _)) (all_cons (.head _) all_nil)))).eqx (by rfl)), bU, bT, ((Own.lessM ae (all_cons (.tail _ (.tail _ (.head _))) (all_cons (.tail _ (.head _)) (all_cons (.head _) all_nil)))).eqx (by rfl)), bY, bW, bX⟩, C⟩
theorem c_spec_l21Do (d : Dsk) (x : Stp) {w : World} {F : Nat → Prop} {a1 : Option Addr} {n1 c1 : Nat} (h1 : RepS w F a1 n1 c1 d.files) {a2 : Option Addr} {n2 c2 : Nat} (h2 : RepS w F a2 n2 c2 d.list) {a3 : Option Addr} {n3 c3 : Nat} (h3 : RepS w F a3 n3 c3 d.names) {a4 : Option Addr} {n4 c4 : Nat} (h4 : RepS w F a4 n4 c4 x.part.ids) {a5 : Option Addr} {n5 c5 : Nat} (h5 : RepS w F a5 n5 c5 x.part.blocks) {a6 : Option Addr} {n6 c6 : Nat} (h6 : RepS w F a6 n6 c6 x.list) {a7 : Option Addr} {n7 c7 : Nat} (h7 : RepS w F a7 n7 c7 x.names) (p0 : d.files.length ≤ 2000) (p1 : d.list.length ≤ 2000) (p2 : StpSz x) : Calls Tryz.prog 110 [.agg #[.slice a1 n1 c1, .slice a2 n2 c2, .slice a3 n3 c3, .int .i64 d.next], .agg #[.int .i64 x.kind, .int .i64 x.num, .slice a4 n4 c4, .slice a5 n5 c5, .slice a6 n6 c6, .slice a7 n7 c7]].toArray w (rets fun rv w' => VS (fo F w.heap.size) w' (doD d x : Dsk) rv ∧ Ext w w') := by
 refine goT Tryz.func110 ?_
 obtain ⟨rfl, f9, h1⟩ := h1.tp
 obtain ⟨rfl, ga, h2⟩ := h2.tp
 obtain ⟨rfl, gb, h3⟩ := h3.tp
 obtain ⟨rfl, gf, h4⟩ := h4.tp
 obtain ⟨rfl, gh, h5⟩ := h5.tp
 obtain ⟨rfl, gi, h6⟩ := h6.tp
 obtain ⟨rfl, gj, h7⟩ := h7.tp
 refine .s <| .g <| .np 27 [.slice a1 d.files.length c1, .slice a2 d.list.length c2, .slice a3 d.names.length c3, vI d.next] fun aa hH bM bN J eG => ?_
 have gk : Cov nil w aa := cov_new bM (Nat.le_refl _)
 replace ⟨h1, h2, h3, h4, h5, h6, h7⟩ := (sn [] bN bM).g7 h1 h2 h3 h4 h5 h6 h7
 have C := bN
 refine .np 44 [vI x.kind, vI x.num, .slice a4 x.part.ids.length c4, .slice a5 x.part.blocks.length c5, .slice a6 x.list.length c6, .slice a7 x.names.length c7] fun ab hJ bO cI E eH => ?_
 have gl := nb_new bO J.lt
 replace ⟨h1, h2, h3, h4, h5, h6, h7, J, C⟩ := (sn [aa] cI bO).g9 h1 h2 h3 h4 h5 h6 h7 J C
 refine .np 27 [.slice none 0 0, .slice none 0 0, .slice none 0 0, vI 0] fun ac aO bc cJ O eI => ?_
 have gm := nb_new bc J.lt
 have gn := nb_new bc E.lt
 have gp := C.cn bc
 replace ⟨h1, h2, h3, h4, h5, h6, h7, J, E, C⟩ := (sn [ab, aa] cJ bc).g10 h1 h2 h3 h4 h5 h6 h7 J E C
 refine .d <| .s <| .s <| .g <| .r 1 <| .lb E <| .d <| .b 0 <| .s <| .g <| .eq x.kind 1 (fun eJ => ?_) (fun eJ => ?_)
 ·refine .r 1 <| .d <| .ct <| .s <| T.regionJ (X := Nat × Nat × Nat) (mtb [] aO.heap.size) 10 (fun (aM, cH, aK) => [(2, .pointer (some ⟨aa, 0, none⟩)), (3, .pointer (some ⟨ab, 0, none⟩)), (4, .pointer (some ⟨ac, 0, none⟩)), (13, vS aM (0 + d.files.length) cH), (19, vS aK 1 1)]) (fun (aM, cH, aK) bI => Ext aO bI ∧ aO.heap.size ≤ aM ∧ aO.heap.size ≤ aK ∧ Nb aK aM ∧ Own bI aM 66 (nin (fo F w.heap.size) [aM, ac, ab, aa]) (0 + d.files.length) cH (([] ++ d.files) : List Fil) ∧ Box bI aK 66 [vI x.num, .slice a4 x.part.ids.length c4, .slice a5 x.part.blocks.length c5]) (by kernel_rfl) (fun eK aX => ?_) ?_
  ·replace h1 := h1.into
   replace h2 := h2.into
   replace h3 := h3.into
   replace h4 := h4.into
   replace h5 := h5.into
   replace h6 := h6.into
   replace h7 := h7.into
   have cR : Gb (aa + 1) aO.heap.size := J.lt
   have bP : Gb (ab + 1) aO.heap.size := E.lt
   replace ⟨h1, h2, h3, h4, h5, h6, h7, J, E, O, C⟩ := (se [ac, ab, aa] aX).g11 h1 h2 h3 h4 h5 h6 h7 J E O C
   have W := aX
   have ae : Chg (mtb [] aO.heap.size) aO eK := Chg.stepN (Chg.refl (mtb [] aO.heap.size) aO) aX
   refine .r [1] <| .lb 2 J (nS_of all_nil cR) <| .r [4] <| .lb 5 E (nS_of all_nil bP) <| .r [6] <| .ln 7 E (nS_of all_nil bP) <| .r [8] <| .tw 0 9 ?_ ?_
   ·refine .ns 0 66 [] fun gq bd => ?_
    replace ⟨h1, h2, h3, h4, h5, h6, h7, J, E, O, C, W⟩ := (se [ac, ab, aa] bd).g12 h1 h2 h3 h4 h5 h6 h7 J E O C W
    replace ae := (se [ac, ab, aa] bd).g1 ae
    intro ag eL aq bg cS cT
    have fd := nb_new aq J.lt
    have fe := nb_new aq E.lt
    have ff := nb_new aq O.lt
    have fg := C.cn aq
    have bQ := W.cn aq
    have bR := ae.cn aq
    replace ⟨h1, h2, h3, h4, h5, h6, h7, J, E, O, C, W⟩ := (sn [ac, ab, aa] bg aq).g12 h1 h2 h3 h4 h5 h6 h7 J E O C W
    replace ae := (sn [ac, ab, aa] bg aq).g1 ae
    have ak : Own (α := Fil) eL ag 66 (nin (fo F w.heap.size) [ag, ac, ab, aa]) 0 0 [] := Own.nil' cS
    refine .tw 3 9 ?_ ?_
    ·refine GE.append (T := 23) (ty := 23) (args := [vS ag 0 0, .slice a1 d.files.length c1]) (by kernel_rfl) fun gr bh => ?_
     replace ⟨h1, h2, h3, h4, h5, h6, h7, J, E, O, ak, C⟩ := (se [ag, ac, ab, aa] bh).g12 h1 h2 h3 h4 h5 h6 h7 J E O ak C
     replace ⟨W, ae⟩ := (se [ag, ac, ab, aa] bh).g2 W ae
     obtain ⟨aP, eM, gs, bS, aj, aN, aY, cU⟩ := ak.append (P := Tryz.prog) (T := 23) (ty := 23) (by kernel_rfl) (h1.base (fun _ _ h => h.1)) (fun b _ h => own_in (.head _) h) (by have := p2.1; have q1 := numAt_lt d x.num; omega)
     refine ⟨_, _, bS, Chg.toS aY (Cov.toS bR), ?_⟩
     have cV := cov_or aN bQ W.size
     replace ⟨h1, h2, h3, h4, h5, h6, h7, J, E, O, C, W⟩ := (sa [ag, ac, ab, aa] aY aN).g12 h1 h2 h3 h4 h5 h6 h7 J E O C W
     replace ae := (sa [ag, ac, ab, aa] aY aN).g1 ae
     replace aj := aj.rn ag
     have fh := aj.len; have fi := aj.max
     refine .go 9 <| .ns 1 66 [vI x.num, .slice a4 x.part.ids.length c4, .slice a5 x.part.blocks.length c5] fun gt bi => ?_
     replace ⟨h1, h2, h3, h4, h5, h6, h7, J, E, O, aj, C⟩ := (se [aP, ac, ab, aa] bi).g12 h1 h2 h3 h4 h5 h6 h7 J E O aj C
     replace ⟨W, ae⟩ := (se [aP, ac, ab, aa] bi).g2 W ae
     intro eN gu bj bk bm cW
     have cX := nb_new bj aj.lt
     have cY := W.cn bj
     replace ⟨h1, h2, h3, h4, h5, h6, h7, J, E, O, aj, C⟩ := (se [aP, ac, ab, aa] bk).g12 h1 h2 h3 h4 h5 h6 h7 J E O aj C
     replace ⟨W, ae⟩ := (se [aP, ac, ab, aa] bk).g2 W ae
     refine .d fun gv bn => ?_
     replace ⟨h1, h2, h3, h4, h5, h6, h7, J, E, O, aj, bm⟩ := (se [aP, ac, ab, aa] bn).g12 h1 h2 h3 h4 h5 h6 h7 J E O aj bm
     replace ⟨C, W, ae⟩ := (se [aP, ac, ab, aa] bn).g3 C W ae
     replace h1 := h1.outof
     replace h2 := h2.outof
     replace h3 := h3.outof
     replace h4 := h4.outof
     replace h5 := h5.outof
     replace h6 := h6.outof
     replace h7 := h7.outof
     exact ⟨(aP, eM, eN), ⟨by kernel_rfl, by kernel_rfl, by kernel_rfl, by kernel_rfl, by kernel_rfl, trivial⟩, ⟨W, (cov_ge0 cV), (cov_ge0 cY), cX, aj, bm⟩⟩
    refine .ns 1 66 [vI x.num, .slice a4 x.part.ids.length c4, .slice a5 x.part.blocks.length c5] fun gw bo => ?_
    replace ⟨h1, h2, h3, h4, h5, h6, h7, J, E, O, ak, C⟩ := (se [ag, ac, ab, aa] bo).g12 h1 h2 h3 h4 h5 h6 h7 J E O ak C
    replace ⟨W, ae⟩ := (se [ag, ac, ab, aa] bo).g2 W ae
    intro eO gx bq br av cZ
    have c8 := nb_new bq ak.lt
    have c9 := W.cn bq
    replace ⟨h1, h2, h3, h4, h5, h6, h7, J, E, O, ak, C⟩ := (se [ag, ac, ab, aa] br).g12 h1 h2 h3 h4 h5 h6 h7 J E O ak C
    replace ⟨W, ae⟩ := (se [ag, ac, ab, aa] br).g2 W ae
    refine .go 3 <| GE.append (T := 23) (ty := 23) (args := [vS ag 0 0, .slice a1 d.files.length c1]) (by kernel_rfl) fun gy bt => ?_
    replace ⟨h1, h2, h3, h4, h5, h6, h7, J, E, O, ak, av⟩ := (se [ag, ac, ab, aa] bt).g12 h1 h2 h3 h4 h5 h6 h7 J E O ak av
    replace ⟨C, W, ae⟩ := (se [ag, ac, ab, aa] bt).g3 C W ae
    obtain ⟨bT, eP, gz, bU, aA, aG, aZ, da⟩ := ak.append (P := Tryz.prog) (T := 23) (ty := 23) (by kernel_rfl) (h1.base (fun _ _ h => h.1)) (fun b _ h => own_in (.head _) h) (by have := p2.1; have q1 := numAt_lt d x.num; omega)
    refine ⟨_, _, bU, Chg.toS aZ (Cov.toS bR), ?_⟩
    have db := nb_or aG (Nb.symm c8) av.lt
    have de := cov_or aG bQ W.size
    replace ⟨h1, h2, h3, h4, h5, h6, h7, J, E, O, av, C⟩ := (sa [ag, ac, ab, aa] aZ aG).g12 h1 h2 h3 h4 h5 h6 h7 J E O av C
    replace ⟨W, ae⟩ := (sa [ag, ac, ab, aa] aZ aG).g2 W ae
    replace aA := aA.rn ag
    have fj := aA.len; have fk := aA.max
    refine .d fun gA bu => ?_
    replace ⟨h1, h2, h3, h4, h5, h6, h7, J, E, O, aA, av⟩ := (se [bT, ac, ab, aa] bu).g12 h1 h2 h3 h4 h5 h6 h7 J E O aA av
    replace ⟨C, W, ae⟩ := (se [bT, ac, ab, aa] bu).g3 C W ae
    replace h1 := h1.outof
    replace h2 := h2.outof
    replace h3 := h3.outof
    replace h4 := h4.outof
    replace h5 := h5.outof
    replace h6 := h6.outof
    replace h7 := h7.outof
    exact ⟨(bT, eP, eO), ⟨by kernel_rfl, by kernel_rfl, by kernel_rfl, by kernel_rfl, by kernel_rfl, trivial⟩, ⟨W, (cov_ge0 de), (cov_ge0 c9), (Nb.symm db), aA, av⟩⟩
   refine .ns 1 66 [vI x.num, .slice a4 x.part.ids.length c4, .slice a5 x.part.blocks.length c5] fun gC bv => ?_
   replace ⟨h1, h2, h3, h4, h5, h6, h7, J, E, O, C, W⟩ := (se [ac, ab, aa] bv).g12 h1 h2 h3 h4 h5 h6 h7 J E O C W
   replace ae := (se [ac, ab, aa] bv).g1 ae
   intro eQ gD bV bw ah df
   have dg := W.cn bV
   replace ⟨h1, h2, h3, h4, h5, h6, h7, J, E, O, C, W⟩ := (se [ac, ab, aa] bw).g12 h1 h2 h3 h4 h5 h6 h7 J E O C W
   replace ae := (se [ac, ab, aa] bw).g1 ae
   refine .go 0 <| .ns 0 66 [] fun gE bz => ?_
   replace ⟨h1, h2, h3, h4, h5, h6, h7, J, E, O, ah, C⟩ := (se [ac, ab, aa] bz).g12 h1 h2 h3 h4 h5 h6 h7 J E O ah C
   replace ⟨W, ae⟩ := (se [ac, ab, aa] bz).g2 W ae
   intro aL eR ao bA dh dj
   have fm := nb_new ao J.lt
   have fp := nb_new ao E.lt
   have fq := nb_new ao O.lt
   have dm := nb_new ao ah.lt
   have ft := C.cn ao
   have dp := W.cn ao
   have dq := ae.cn ao
   replace ⟨h1, h2, h3, h4, h5, h6, h7, J, E, O, ah, C⟩ := (sn [ac, ab, aa] bA ao).g12 h1 h2 h3 h4 h5 h6 h7 J E O ah C
   replace W := (sn [ac, ab, aa] bA ao).g1 W
   have bB : Own (α := Fil) eR aL 66 (nin (fo F w.heap.size) [aL, ac, ab, aa]) 0 0 [] := Own.nil' dh
   refine .go 3 <| GE.append (T := 23) (ty := 23) (args := [vS aL 0 0, .slice a1 d.files.length c1]) (by kernel_rfl) fun gF bC => ?_
   replace ⟨h1, h2, h3, h4, h5, h6, h7, J, E, O, ah, bB⟩ := (se [aL, ac, ab, aa] bC).g12 h1 h2 h3 h4 h5 h6 h7 J E O ah bB
   replace ⟨C, W⟩ := (se [aL, ac, ab, aa] bC).g2 C W
   obtain ⟨bW, eS, gG, bX, aB, aH, ba, dr⟩ := bB.append (P := Tryz.prog) (T := 23) (ty := 23) (by kernel_rfl) (h1.base (fun _ _ h => h.1)) (fun b _ h => own_in (.head _) h) (by have := p2.1; have q1 := numAt_lt d x.num; omega)
   refine ⟨_, _, bX, Chg.toS ba (Cov.toS dq), ?_⟩
   have dt := nb_or aH dm ah.lt
   have du := cov_or aH dp W.size
   replace ⟨h1, h2, h3, h4, h5, h6, h7, J, E, O, ah, C⟩ := (sa [aL, ac, ab, aa] ba aH).g12 h1 h2 h3 h4 h5 h6 h7 J E O ah C
   replace W := (sa [aL, ac, ab, aa] ba aH).g1 W
   replace aB := aB.rn aL
   have fu := aB.len; have fv := aB.max
   refine .d fun gH bD => ?_
   replace ⟨h1, h2, h3, h4, h5, h6, h7, J, E, O, ah, aB⟩ := (se [bW, ac, ab, aa] bD).g12 h1 h2 h3 h4 h5 h6 h7 J E O ah aB
   replace ⟨C, W⟩ := (se [bW, ac, ab, aa] bD).g2 C W
   replace h1 := h1.outof
   replace h2 := h2.outof
   replace h3 := h3.outof
   replace h4 := h4.outof
   replace h5 := h5.outof
   replace h6 := h6.outof
   replace h7 := h7.outof
   exact ⟨(bW, eS, eQ), ⟨by kernel_rfl, by kernel_rfl, by kernel_rfl, by kernel_rfl, by kernel_rfl, trivial⟩, ⟨W, (cov_ge0 du), (cov_ge0 dg), (Nb.symm dt), aB, ah⟩⟩
  rintro ⟨aM, cH, aK⟩ gI bI ⟨bY, aC, aQ, bZ, b0, eT⟩
  have dv := nb_ge aC J.lt
  have dw := nb_ge aC E.lt
  have dx := nb_ge aC O.lt
  have dy := gb_ge aC C.size
  have fw : Cov nil w aM := cov_ge aC C.size
  have dz := nb_ge aQ J.lt
  have dA := nb_ge aQ E.lt
  have dB := nb_ge aQ O.lt
  have dC := gb_ge aQ C.size
  replace ⟨h1, h2, h3, h4, h5, h6, h7, J, E, O, C⟩ := (sz [ac, ab, aa] bY aC).g11 h1 h2 h3 h4 h5 h6 h7 J E O C
  have fz := b0.len; have fA := b0.max
  have bK : nin (fo F w.heap.size) [aM, ac, ab, aa] aK ∧ aK ≠ aM := hap_mk (.inr dC) (all_cons bZ (all_cons dB (all_cons dA (all_cons dz all_nil)))) bZ
  refine RG.append1 (T := 23) (ty := 23) (y := (⟨x.num, (⟨x.part.ids, x.part.blocks⟩ : Prt)⟩ : Fil)) b0 eT (by kernel_rfl) (by kernel_rfl) ⟨_, _, _, _, _, _, rfl, h4.oi, h5.oi⟩ bK (by have := p2.1; have q1 := numAt_lt d x.num; omega) fun aR cK gJ al ax b6 => ?_
  have fB := nb_or ax dv J.lt
  have fC := nb_or ax dw E.lt
  have fD := nb_or ax dx O.lt
  have dD := gb_or ax dy C.size
  replace ⟨h1, h2, h3, h6, h7, J, E, O, C⟩ := (sa [aM, ac, ab, aa] b6 ax).g9 h1 h2 h3 h6 h7 J E O C
  replace al := al.rn aM
  have fE := al.len; have fF := al.max
  refine .r 1 <| .ss 0 (vS aR (0 + d.files.length + 1) cK) J fun gK b7 dE dF => ?_
  replace ⟨h1, h2, h3, h6, h7, E, O, al, C⟩ := (so [aR, ac, ab, aa] b7).g9 h1 h2 h3 h6 h7 E O al C
  refine .d <| .g <| .r 1 <| .lb E <| RG.int (x.num + 1) (by kernel_rfl) (by have q1 := numAt_lt d x.num; have q2 := p2.2.2.2; omega) <| .r 1 <| .ss 3 (vI (x.num + 1)) dE fun gL b8 dG dH => ?_
  replace ⟨h1, h2, h3, h6, h7, E, O, al, C⟩ := (so [aR, ac, ab, aa] b8).g9 h1 h2 h3 h6 h7 E O al C
  refine .d <| .ib 0 <| .s <| .g <| .ln dG <| .sc [vS aR (0 + d.files.length + 1) cK, .slice a2 d.list.length c2, .slice a3 d.names.length c3, vI (x.num + 1)] O fun eU b9 dI dJ => ?_
  replace ⟨h1, h2, h3, h6, h7, E, al, C⟩ := (so [aR, ac, ab, aa] b9).g8 h1 h2 h3 h6 h7 E al C
  refine .d ?_
  have eV := al.sl (.inr dD)
  replace ⟨h1, h2, h3, h6, h7⟩ := (sd eU [aR, ac, ab, aa] aR).g5 h1 h2 h3 h6 h7
  exact .rb Tryz.func110 Tryz.results110 dI ⟨(VS.of (y := (⟨(([] ++ d.files) ++ [(⟨x.num, (⟨x.part.ids, x.part.blocks⟩ : Prt)⟩ : Fil)]), d.list, d.names, x.num + 1⟩ : Dsk)) ⟨_, rfl, ⟨_, _, _, _, _, _, _, _, _, rfl, eV.w1, h2.w1, h3.w1⟩⟩ (by (rw [doD_1 ‹_›]; simp; done))), C⟩
 refine .r 1 <| .d <| .cf <| .s <| .g <| .eq x.kind 2 (fun dK => ?_) (fun dK => ?_)
 ·refine .r 1 <| .d <| .ct <| .s <| .g <| .ns 0 3 [] fun bJ eW aD ce dL dM => ?_
  have dN := nb_new aD J.lt
  have dO := nb_new aD E.lt
  have dP := nb_new aD O.lt
  have dQ := gb_new aD C.size
  have fG := C.cn aD
  replace ⟨h1, h2, h3, h6, h7, J, E, O, C⟩ := (sn [ac, ab, aa] ce aD).g9 h1 h2 h3 h6 h7 J E O C
  have dR : Own (α := Int) eW bJ 3 (nin (fo F w.heap.size) [bJ, ac, ab, aa]) 0 0 [] := Own.nil' dL
  refine .r 1 <| .lb E <| RG.appendF (T := 24) (ty := 24) flat_int dR h6 (by kernel_rfl) (by kernel_rfl) (fun b h e => h.2 (e ▸ (.head _))) (by have := p2.1; have q1 := numAt_lt d x.num; omega) fun aI cL gM af ay cg => ?_
  have fH := nb_or ay dN J.lt
  have fI := nb_or ay dO E.lt
  have fJ := nb_or ay dP O.lt
  have dS := gb_or ay dQ C.size
  replace ⟨h1, h2, h3, h7, J, E, O, C⟩ := (sa [bJ, ac, ab, aa] cg ay).g8 h1 h2 h3 h7 J E O C
  replace af := af.rn bJ
  have fK := af.len; have fL := af.max
  refine .r 1 <| .ss 1 (vS aI (0 + x.list.length) cL) J fun cM ci aS dT => ?_
  replace ⟨h1, h2, h3, h7, E, O, af, C⟩ := (so [aI, ac, ab, aa] ci).g8 h1 h2 h3 h7 E O af C
  refine .d <| .g <| .r 1 <| .lb E <| .cl (c_spec_l11Names x.names h7.ta (by have := p2.2.1; omega) (by intro n hn; have := p2.2.2.1 n hn; omega) (w := cM) (F := all)) ?_
  rintro gN gO ⟨⟨aT, cN, cO, rfl, ai, aE⟩, cj⟩
  have ck := al4 af.lt O.lt E.lt aS.lt
  have dU : Gb w.heap.size cM.heap.size := C.size
  have fM := nb_ge aE aS.lt
  have fN := nb_ge aE E.lt
  have fO := nb_ge aE O.lt
  have fP := nb_ge aE af.lt
  have dV := gb_ge aE C.size
  replace ⟨h1, h2, h3, aS, E, O, af, C⟩ := (sz [aI, ac, ab, aa] cj aE).g8 h1 h2 h3 aS E O af C
  replace ai := Own.take (s0 := w.heap.size) (M := [aI, ac, ab, aa]) ai ck dU
  replace ai := ai.base (G' := fo F w.heap.size) (fun _ _ h => .inr h)
  have fQ := ai.len; have fR := ai.max
  refine .r 1 <| .ss 2 (vS aT cN cO) aS fun gP cm dW dX => ?_
  replace ⟨h1, h2, h3, E, O, af, ai, C⟩ := (so [aT, aI, ac, ab, aa] cm).g8 h1 h2 h3 E O af ai C
  refine .d <| .ib 0 <| .s <| .g <| .ln dW <| .sc [.slice a1 d.files.length c1, vS aI (0 + x.list.length) cL, vS aT cN cO, vI d.next] O fun cP co dY dZ => ?_
  replace ⟨h1, h2, h3, E, af, ai, C⟩ := (so [aT, aI, ac, ab, aa] co).g7 h1 h2 h3 E af ai C
  refine .d ?_
  have cp := af.sl (.inr dS)
  replace ⟨h1, h2, h3, ai⟩ := (sd cP [aT, aI, ac, ab, aa] aI).g4 h1 h2 h3 ai
  have eX := ai.sl (.inr dV)
  replace ⟨h1, h2, h3, cp⟩ := (sd cP [aT, ac, ab, aa] aT).g4 h1 h2 h3 cp
  exact .rb Tryz.func110 Tryz.results110 dY ⟨(VS.of (y := (⟨d.files, ([] ++ x.list), x.names, d.next⟩ : Dsk)) ⟨_, rfl, ⟨_, _, _, _, _, _, _, _, _, rfl, h1.w1, cp.w1, eX.w1⟩⟩ (by (rw [doD_2 ‹_›]; simp; done))), C⟩
 refine .r 1 <| .d <| .cf <| .s <| .g <| .eq x.kind 3 (fun d0 => ?_) (fun d0 => ?_)
 ·refine .r 1 <| .d <| .ct <| .s <| .g <| .ln J <| .r 1 <| .lb E <| .cl (c_spec_l21At d x.num h1.ta h2.ta h3.ta (w := aO) (F := all)) ?_
  rintro gQ eY ⟨rfl, cq⟩
  replace ⟨h1, h2, h3, J, E, O, C⟩ := (se [ac, ab, aa] cq).g7 h1 h2 h3 J E O C
  refine .r 1 <| .d <| .s <| .g <| .r 1 <| .bp (numAt d x.num ≥ 0) (fun d3 => ?_) (fun d3 => ?_)
  ·refine .r 1 <| .ln J <| .r 1 <| .lb E <| .cl (c_spec_l21Counts d x.num h1.ta h2.ta h3.ta (w := eY) (F := all)) ?_
   rintro gR aU ⟨rfl, cr⟩
   replace ⟨h1, h2, h3, J, E, O, C⟩ := (se [ac, ab, aa] cr).g7 h1 h2 h3 J E O C
   cases fS : (d.list.contains x.num)
   ·refine .r 2 <| .d <| .ct ?_
    replace h1 := h1.into
    replace h2 := h2.into
    replace h3 := h3.into
    have cu : Gb (aa + 1) aU.heap.size := J.lt
    refine .gd (mtb [] aU.heap.size) 11 fun eZ bE => ?_
    replace ⟨h1, h2, h3, J, E, O, C⟩ := (se [ac, ab, aa] bE).g7 h1 h2 h3 J E O C
    have bF : Chg (mtb [] aU.heap.size) aU eZ := Chg.stepN (Chg.refl (mtb [] aU.heap.size) aU) bE
    refine .r [1] <| .lb 2 J (nS_of all_nil cu) <| .r [3] <| GA.sub (i := 4) (t := 23) (lo := none) (hi := some (vI (numAt d x.num))) (by kernel_rfl) h1 0 ((numAt d x.num).toNat) (by kernel_rfl) (by kernel_rfl) (.inl ⟨rfl, rfl⟩) (.inr ⟨_, _, rfl, by omega⟩) (by have q1 := numAt_lt d x.num; omega) (by have q1 := numAt_lt d x.num; omega) fun e7 e8 aJ => ?_
    have fT := aJ.len; have fU := aJ.max
    refine .r [6] <| .lb 7 J (nS_of all_nil cu) <| .r [8] <| GA.int (i := 9) (numAt d x.num + 1) (by kernel_rfl) (by have q1 := numAt_lt d x.num; have q2 := p2.2.2.2; omega) <| GA.sub (i := 10) (t := 23) (lo := some (vI (numAt d x.num + 1))) (hi := none) (by kernel_rfl) h1 ((numAt d x.num + 1).toNat) d.files.length (by kernel_rfl) (by kernel_rfl) (.inr ⟨_, _, rfl, by omega⟩) (.inl ⟨rfl, rfl⟩) (by have q1 := numAt_lt d x.num; omega) (by have q1 := numAt_lt d x.num; omega) fun gS gT am => ?_
    have fV := am.len; have fW := am.max
    refine .go 0 <| .ns 0 66 [] fun gU cv => ?_
    replace ⟨h1, h2, h3, J, E, O, aJ, am, C, bF⟩ := (se [ac, ab, aa] cv).g10 h1 h2 h3 J E O aJ am C bF
    intro aV fa aw cw d4 d5
    have d6 := nb_new aw J.lt
    have d7 := nb_new aw E.lt
    have d8 := nb_new aw O.lt
    have d9 := gb_new aw C.size
    have ec := C.cn aw
    have ed := bF.cn aw
    replace ⟨h1, h2, h3, J, E, O, aJ, am, C⟩ := (sn [ac, ab, aa] cw aw).g9 h1 h2 h3 J E O aJ am C
    have bG : Own (α := Fil) fa aV 66 (nin (fo F w.heap.size) [aV, ac, ab, aa]) 0 0 [] := Own.nil' d4
    refine .go 5 <| GE.append (T := 23) (ty := 23) (args := [vS aV 0 0, .slice e7 ((numAt d x.num).toNat - 0) e8]) (by kernel_rfl) fun gV cx => ?_
    replace ⟨h1, h2, h3, J, E, O, aJ, am, bG, C⟩ := (se [aV, ac, ab, aa] cx).g10 h1 h2 h3 J E O aJ am bG C
    obtain ⟨cy, gW, gX, cz, aF, ar, bH, ee⟩ := bG.append (P := Tryz.prog) (T := 23) (ty := 23) (by kernel_rfl) (aJ.base (fun _ _ h => h.1)) (fun b _ h => own_in (.head _) h) (by have := p2.1; have q1 := numAt_lt d x.num; omega)
    refine ⟨_, _, cz, Chg.toS bH (Cov.toS ed), ?_⟩
    have ef := nb_or ar d6 J.lt
    have eg := nb_or ar d7 E.lt
    have eh := nb_or ar d8 O.lt
    have ej := gb_or ar d9 C.size
    have fX := cov_or ar ec C.size
    replace ⟨h1, h2, h3, J, E, O, am, C⟩ := (sa [aV, ac, ab, aa] bH ar).g8 h1 h2 h3 J E O am C
    replace aF := aF.rn aV
    have fY := aF.len; have fZ := aF.max
    refine .d fun gY cA => ?_
    replace ⟨h1, h2, h3, J, E, O, am, aF, C⟩ := (se [cy, ac, ab, aa] cA).g9 h1 h2 h3 J E O am aF C
    replace h1 := h1.outof
    replace h2 := h2.outof
    replace h3 := h3.outof
    replace am := am.outof
    refine RG.appendN (T := 23) (ty := 23) aF am (by kernel_rfl) (by kernel_rfl) (fun b _ h => own_in (.head _) h) (by have := p2.1; have q1 := numAt_lt d x.num; omega) fun aW cQ gZ au az cB => ?_
    have f0 := nb_or az ef J.lt
    have f5 := nb_or az eg E.lt
    have f6 := nb_or az eh O.lt
    have ek := gb_or az ej C.size
    replace ⟨h1, h2, h3, J, O, C⟩ := (sa [cy, ac, ab, aa] cB az).g6 h1 h2 h3 J O C
    replace au := au.rn cy
    have f7 := au.len; have f8 := au.max
    refine .r 1 <| .ss 0 (vS aW (0 + ((numAt d x.num).toNat - 0) + (d.files.length - (numAt d x.num + 1).toNat)) cQ) J fun g0 cC en et => ?_
    replace ⟨h1, h2, h3, O, au, C⟩ := (so [aW, ac, ab, aa] cC).g6 h1 h2 h3 O au C
    refine .d <| .ib 0 <| .s <| .g <| .ln en <| .sc [vS aW (0 + ((numAt d x.num).toNat - 0) + (d.files.length - (numAt d x.num + 1).toNat)) cQ, .slice a2 d.list.length c2, .slice a3 d.names.length c3, vI d.next] O fun fb cD ey ez => ?_
    replace ⟨h1, h2, h3, au, C⟩ := (so [aW, ac, ab, aa] cD).g5 h1 h2 h3 au C
    refine .d ?_
    have fc := au.sl (.inr ek)
    replace ⟨h1, h2, h3⟩ := (sd fb [aW, ac, ab, aa] aW).g3 h1 h2 h3
    exact .rb Tryz.func110 Tryz.results110 ey ⟨(VS.of (y := (⟨(([] ++ ((d.files.take ((numAt d x.num).toNat)).drop 0)) ++ ((d.files.take d.files.length).drop ((numAt d x.num + 1).toNat))), d.list, d.names, d.next⟩ : Dsk)) ⟨_, rfl, ⟨_, _, _, _, _, _, _, _, _, rfl, fc.w1, h2.w1, h3.w1⟩⟩ (by (rw [doD_3 ‹_›, gone_t ‹_› ‹_›]; have e1 : (numAt d x.num + 1).toNat = (numAt d x.num).toNat + 1 := (by omega); simp [e1]; done))), C⟩
   refine .r 2 <| .d <| .cf <| .sk <| .ib 0 <| .s <| .g <| .ln J <| .sc [.slice a1 d.files.length c1, .slice a2 d.list.length c2, .slice a3 d.names.length c3, vI d.next] O fun hC cE eA eB => ?_
   replace ⟨h1, h2, h3, J, C⟩ := (so [ac, ab, aa] cE).g5 h1 h2 h3 J C
   exact .d <| .rb Tryz.func110 Tryz.results110 eA ⟨(VS.of (y := d) ⟨_, rfl, ⟨_, _, _, _, _, _, _, _, _, rfl, h1.w1, h2.w1, h3.w1⟩⟩ (by (rw [doD_3 ‹_›, gone_f (.inr ‹_›)]))), C⟩
  refine .r 7 <| .d <| .cf <| .sk <| .ib 0 <| .s <| .g <| .ln J <| .sc [.slice a1 d.files.length c1, .slice a2 d.list.length c2, .slice a3 d.names.length c3, vI d.next] O fun hD cF eC eD => ?_
  replace ⟨h1, h2, h3, J, C⟩ := (so [ac, ab, aa] cF).g5 h1 h2 h3 J C
  exact .d <| .rb Tryz.func110 Tryz.results110 eC ⟨(VS.of (y := d) ⟨_, rfl, ⟨_, _, _, _, _, _, _, _, _, rfl, h1.w1, h2.w1, h3.w1⟩⟩ (by (rw [doD_3 ‹_›, gone_f (.inl ‹_›)]))), C⟩
 refine .r 1 <| .d <| .cf <| .sk <| .ib 0 <| .s <| .g <| .ln J <| .sc [.slice a1 d.files.length c1, .slice a2 d.list.length c2, .slice a3 d.names.length c3, vI d.next] O fun hE cG eE eF => ?_
 replace ⟨h1, h2, h3, C⟩ := (so [ac, ab, aa] cG).g4 h1 h2 h3 C
 exact .d <| .rb Tryz.func110 Tryz.results110 eE ⟨(VS.of (y := d) ⟨_, rfl, ⟨_, _, _, _, _, _, _, _, _, rfl, h1.w1, h2.w1, h3.w1⟩⟩ (by rw [doD_0 ‹_› ‹_› ‹_›])), C⟩
theorem c_spec_l21To (d : Dsk) (steps : List Stp) (cut : Int) {w : World} {F : Nat → Prop} {a1 : Option Addr} {n1 c1 : Nat} (h1 : RepS w F a1 n1 c1 d.files) {a2 : Option Addr} {n2 c2 : Nat} (h2 : RepS w F a2 n2 c2 d.list) {a3 : Option Addr} {n3 c3 : Nat} (h3 : RepS w F a3 n3 c3 d.names) {a4 : Option Addr} {n4 c4 : Nat} (h4 : RepS w F a4 n4 c4 steps) (p0 : d.files.length ≤ 1000) (p1 : steps.length ≤ 1000) (p2 : d.list.length ≤ 1000) (p3 : ∀ x ∈ steps, StpSz x) : Calls Tryz.prog 62 [.agg #[.slice a1 n1 c1, .slice a2 n2 c2, .slice a3 n3 c3, .int .i64 d.next], .slice a4 n4 c4, .int .i64 cut].toArray w (rets fun rv w' => VS (fo F w.heap.size) w' (toD d steps cut : Dsk) rv ∧ Ext w w') := by
 refine goT Tryz.func62 ?_
 obtain ⟨rfl, bB, h1⟩ := h1.tp
 obtain ⟨rfl, bC, h2⟩ := h2.tp
 obtain ⟨rfl, bD, h3⟩ := h3.tp
 obtain ⟨rfl, bE, h4⟩ := h4.tp
 refine .s <| .g <| .np 27 [.slice a1 d.files.length c1, .slice a2 d.list.length c2, .slice a3 d.names.length c3, vI d.next] fun aa b9 aw ax au bd => ?_
 have bF : Cov nil w aa := cov_new aw (Nat.le_refl _)
 replace ⟨h1, h2, h3, h4⟩ := (sn [] ax aw).g4 h1 h2 h3 h4
 have C := ax
 refine .np 27 [.slice none 0 0, .slice none 0 0, .slice none 0 0, vI 0] fun ai aS av aH af bg => ?_
 have bG := nb_new av au.lt
 have bH := C.cn av
 replace ⟨h1, h2, h3, h4, au, C⟩ := (sn [aa] aH av).g6 h1 h2 h3 h4 au C
 refine .d <| .s <| .s <| .g <| .r 1 <| .d <| .b 0 <| T.loop (X := Nat × (List Fil) × (Option Addr) × Nat × Nat × (List Int) × (Option Addr) × Nat × Nat × (List (List Tag)) × (Option Addr) × Nat × Nat × Int) (0, (d.files : List Fil), a1, d.files.length, c1, (d.list : List Int), a2, d.list.length, c2, (d.names : List (List Tag)), a3, d.names.length, c3, d.next) (fun (i, ab, a_d_0, n_d_0, c_d_0, ac, a_d_1, n_d_1, c_d_1, ae, a_d_2, n_d_2, c_d_2, W) => [(1, .slice a4 steps.length c4), (2, vI cut), (3, .pointer (some ⟨aa, 0, none⟩)), (6, .pointer (some ⟨ai, 0, none⟩)), (7, vI (i : Int))]) (fun (i, ab, a_d_0, n_d_0, c_d_0, ac, a_d_1, n_d_1, c_d_1, ae, a_d_2, n_d_2, c_d_2, W) aq => Chg (ins [aa]) aS aq ∧ RepS aq (nin (fo F w.heap.size) [ai, aa]) a_d_0 n_d_0 c_d_0 ab ∧ RepS aq (nin (fo F w.heap.size) [ai, aa]) a_d_1 n_d_1 c_d_1 ac ∧ RepS aq (nin (fo F w.heap.size) [ai, aa]) a_d_2 n_d_2 c_d_2 ae ∧ Box aq aa 27 [.slice a_d_0 n_d_0 c_d_0, .slice a_d_1 n_d_1 c_d_1, .slice a_d_2 n_d_2 c_d_2, vI W] ∧ (i ≤ steps.length) ∧ (ab.length ≤ d.files.length + i) ∧ (ac.length ≤ 1000) ∧ (((steps.take cut.toNat).drop i).foldl doD ⟨ab, ac, ae, W⟩ = toD d steps cut)) (fun (i, ab, a_d_0, n_d_0, c_d_0, ac, a_d_1, n_d_1, c_d_1, ae, a_d_2, n_d_2, c_d_2, W) => steps.length - i) (by kernel_rfl) ⟨by kernel_rfl, by kernel_rfl, by kernel_rfl, by kernel_rfl, by kernel_rfl, trivial⟩ ⟨Chg.refl _ _, h1, h2, h3, au, (by omega), (by omega), (by omega), (by rfl)⟩ ?_
 rintro ⟨i, ab, a_d_0, n_d_0, c_d_0, ac, a_d_1, n_d_1, c_d_1, ae, a_d_2, n_d_2, c_d_2, W⟩ cd aq ⟨ah, E, J, O, ag, bI, bJ, bK, bL⟩ ay
 have bM : Cov (ins [aa]) aS aa := ⟨.inl (.head _)⟩
 have aI : Mv [ai, aa] [ai, aa] aS aq := Mv.inl ah (all_cons (.tail _ (.head _)) all_nil) (all_cons (.inl (.head _)) (all_cons (.inl (.tail _ (.head _))) all_nil))
 replace ⟨h4, af, C⟩ := (sp aI ah).g3 h4 af C
 have bN := E.len; have bO := E.max
 have bP := J.len; have bQ := J.max
 have bR := O.len; have bS := O.max
 refine .s <| .s <| .g <| .r 3 <| .bp ((i : Int) < (steps.length : Int)) (fun bh => ?_) (fun bh => ?_)
 ·refine .r 3 <| .bp ((i : Int) < cut) (fun bi => ?_) (fun bi => ?_)
  ·refine .r 1 <| .d <| .ct <| .sk <| .s <| .b 1 <| .gd nil 5 fun ce aJ => ?_
   replace ⟨h4, ag, af, E, J, O, C, ah⟩ := (se [ai, aa] aJ).g8 h4 ag af E J O C ah
   refine .ln 0 ag id <| .r [1, 2] ?_
   have bj : i < steps.length := (by omega)
   refine .ix 3 i 6 h4 bj ?_
   obtain ⟨aj, az⟩ : ∃ y, steps[i]? = some y := ⟨_, List.getElem?_eq_getElem (by omega)⟩
   have bT := drop_at az; have bt := List.mem_of_getElem? az
   obtain ⟨_, ⟨cg, ci, cj, ck, cm, co, cp, cq, cr, cu, cv, cw, rfl, aA, aB, aC, aD⟩, bk⟩ := h4.elem i aj az
   have bm := aA.len
   subst bm
   have bU := aA.max
   have bn := aB.len
   subst bn
   have bV := aB.max
   have bo := aC.len
   subst bo
   have bW := aC.max
   have bq := aD.len
   subst bq
   have bX := aD.max
   refine .lg 4 0 bk id <| .d fun br aK => ?_
   replace ⟨ag, af, E, J, O, aA, aB, aC, aD, C, ah⟩ := (se [ai, aa] aK).g11 ag af E J O aA aB aC aD C ah
   refine .cl (c_spec_l21Do (⟨ab, ac, ae, W⟩ : Dsk) aj E J O aA aB aC aD (by simp only; omega) (by simp only; omega) (p3 _ ‹_›) (w := br) (F := nin (fo F w.heap.size) [ai, aa])) ?_
   rintro cx cy ⟨⟨_, rfl, ⟨aL, bY, aM, aN, bZ, aO, aP, b0, aQ, rfl, ak, al, am⟩⟩, aR⟩
   have ao := al2 af.lt ag.lt
   have ar : Gb w.heap.size br.heap.size := C.size
   replace ⟨ag, af, E, J, O, C, ah⟩ := (se [ai, aa] aR).g7 ag af E J O C ah
   replace ak := RepS.mixed' (M := [ai, aa]) ak ao ar
   have bu := ak.max
   replace al := RepS.mixed' (M := [ai, aa]) al ao ar
   have bv := al.max
   replace am := RepS.mixed' (M := [ai, aa]) am ao ar
   have bw := am.max
   have aT := ak.len
   subst aT
   have aU := al.len
   subst aU
   have aV := am.len
   subst aV
   refine .sc [.slice aL (((doD (⟨ab, ac, ae, W⟩ : Dsk) aj).files).length) aM, .slice aN (((doD (⟨ab, ac, ae, W⟩ : Dsk) aj).list).length) aO, .slice aP (((doD (⟨ab, ac, ae, W⟩ : Dsk) aj).names).length) aQ, vI ((doD (⟨ab, ac, ae, W⟩ : Dsk) aj).next)] ag fun b6 aE aW aX => ?_
   replace ⟨af, E, J, O, ak, al, am, C, ah⟩ := (so [ai, aa] aE).g9 af E J O ak al am C ah
   exact .d <| .ib 1 <| .g <| .r 1 <| .it ((i : Int) + 1) <| .r 1 <| .d <| ay (i + 1, (doD (⟨ab, ac, ae, W⟩ : Dsk) aj).files, aL, ((doD (⟨ab, ac, ae, W⟩ : Dsk) aj).files).length, aM, (doD (⟨ab, ac, ae, W⟩ : Dsk) aj).list, aN, ((doD (⟨ab, ac, ae, W⟩ : Dsk) aj).list).length, aO, (doD (⟨ab, ac, ae, W⟩ : Dsk) aj).names, aP, ((doD (⟨ab, ac, ae, W⟩ : Dsk) aj).names).length, aQ, (doD (⟨ab, ac, ae, W⟩ : Dsk) aj).next) _ _ ⟨by kernel_rfl, by kernel_rfl, by kernel_rfl, by kernel_rfl, by kernel_rfl, trivial⟩ ⟨ah, ak, al, am, aW, (by omega), (by have q1 := p3 _ ‹_›; have q2 := doD_len (d := ⟨ab, ac, ae, W⟩) q1.1 ‹_›; dsimp only at q2; omega), (by have q1 := p3 _ ‹_›; have q2 := doD_len (d := ⟨ab, ac, ae, W⟩) q1.1 ‹_›; dsimp only at q2; omega), (by exact toStep ‹_› ‹_› (by omega))⟩ (by (simp only []; omega))
  refine .r 1 <| .d <| .cf <| .x 0 rfl <| .s <| .g <| .ln ag <| .sc [.slice a_d_0 n_d_0 c_d_0, .slice a_d_1 n_d_1 c_d_1, .slice a_d_2 n_d_2 c_d_2, vI W] af fun b7 aF aY aZ => ?_
  replace ⟨ag, E, J, O, C⟩ := (so [ai, aa] aF).g5 ag E J O C
  exact .d <| .rb Tryz.func62 Tryz.results62 aY ⟨(VS.of (y := (⟨ab, ac, ae, W⟩ : Dsk)) ⟨_, rfl, ⟨_, _, _, _, _, _, _, _, _, rfl, E.w1, J.w1, O.w1⟩⟩ (by exact toEnd ‹_› (by omega))), C⟩
 refine .r 5 <| .d <| .cf <| .x 0 rfl <| .s <| .g <| .ln ag <| .sc [.slice a_d_0 n_d_0 c_d_0, .slice a_d_1 n_d_1 c_d_1, .slice a_d_2 n_d_2 c_d_2, vI W] af fun b8 aG ba bc => ?_
 replace ⟨E, J, O, C⟩ := (so [ai, aa] aG).g4 E J O C
 exact .d <| .rb Tryz.func62 Tryz.results62 ba ⟨(VS.of (y := (⟨ab, ac, ae, W⟩ : Dsk)) ⟨_, rfl, ⟨_, _, _, _, _, _, _, _, _, rfl, E.w1, J.w1, O.w1⟩⟩ (by exact toEnd ‹_› (by omega))), C⟩
theorem c_spec_l21Merge (d : Dsk) (at_ : Int) {w : World} {F : Nat → Prop} {a1 : Option Addr} {n1 c1 : Nat} (h1 : RepS w F a1 n1 c1 d.files) {a2 : Option Addr} {n2 c2 : Nat} (h2 : RepS w F a2 n2 c2 d.list) {a3 : Option Addr} {n3 c3 : Nat} (h3 : RepS w F a3 n3 c3 d.names) (p0 : d.names.length ≤ 1000) (p1 : ∀ n ∈ d.names, n.length ≤ 1000) (p2 : d.list.length ≤ 1000) (p3 : ∀ n ∈ d.list, 0 ≤ numAt d n) (p4 : ∀ f ∈ d.files, PrtSz f.part) : Calls Tryz.prog 75 [.agg #[.slice a1 n1 c1, .slice a2 n2 c2, .slice a3 n3 c3, .int .i64 d.next], .int .i64 at_].toArray w (rets fun rv w' => VL (ge w.heap.size) w' (mergeSt d at_ : List Stp) rv ∧ Ext w w') := by
 refine goT Tryz.func75 ?_
 obtain ⟨rfl, iQ, h1⟩ := h1.tp
 obtain ⟨rfl, iR, h2⟩ := h2.tp
 obtain ⟨rfl, iS, h3⟩ := h3.tp
 refine .s <| .g <| .np 27 [.slice a1 d.files.length c1, .slice a2 d.list.length c2, .slice a3 d.names.length c3, vI d.next] fun ag gV d7 cF C fC => ?_
 replace ⟨h1, h2, h3⟩ := (sn [] cF d7).g3 h1 h2 h3
 have E := cF
 refine .r 1 <| .d <| .s <| .s <| .g <| .r 2 <| .lb C <| .r 1 <| .it ((d.list.length : Int) - 2) <| .cl (c_spec_l6In at_ 0 ((d.list.length : Int) - 2) (w := gV) (F := all)) ?_
 rintro jW fD ⟨rfl, d8⟩
 replace ⟨h1, h2, h3, C, E⟩ := (se [ag] d8).g5 h1 h2 h3 C E
 cases d9 : (inR at_ 0 ((d.list.length : Int) - 2))
 ·have iT := inR_f d9
  refine .r 12 <| .d <| .ct <| .s <| .g <| .ns 0 44 [] fun cG fE ce ec fF fG => ?_
  have iU := nb_new ce C.lt
  have fH := gb_new ce E.size
  replace ⟨h1, h2, h3, C, E⟩ := (sn [ag] ec ce).g5 h1 h2 h3 C E
  have fI : Own (α := Stp) fE cG 44 (nin (ge w.heap.size) [cG, ag]) 0 0 [] := Own.nil' fF
  refine .r 1 <| .d ?_
  have gW := fI.sl fH
  replace ⟨h1, h2, h3⟩ := (sd fE [cG, ag] cG).g3 h1 h2 h3
  exact .rt Tryz.func75 Tryz.results75 (vS cG 0 0) ⟨(gW.vl (by rw [merge_no (.inl ‹_›)]) (fun _ _ h => h.1)), E⟩
 have iV := inR_t d9
 refine .r 3 <| .lb C <| .bp (d.next ≥ 999) (fun fJ => ?_) (fun fJ => ?_)
 ·refine .r 7 <| .d <| .ct <| .s <| .g <| .ns 0 44 [] fun cH fK cg ed fL fM => ?_
  have iW := nb_new cg C.lt
  have fN := gb_new cg E.size
  replace ⟨h1, h2, h3, C, E⟩ := (sn [ag] ed cg).g5 h1 h2 h3 C E
  have fO : Own (α := Stp) fK cH 44 (nin (ge w.heap.size) [cH, ag]) 0 0 [] := Own.nil' fL
  refine .r 1 <| .d ?_
  have gX := fO.sl fN
  replace ⟨h1, h2, h3⟩ := (sd fK [cH, ag] cH).g3 h1 h2 h3
  exact .rt Tryz.func75 Tryz.results75 (vS cH 0 0) ⟨(gX.vl (by rw [merge_no (.inr (.inl ‹_›))]) (fun _ _ h => h.1)), E⟩
 refine .r 3 <| .lb C <| .r 1 <| .bp ((d.files.length : Int) ≥ 20) (fun fP => ?_) (fun fP => ?_)
 ·refine .r 1 <| .d <| .ct <| .s <| .g <| .ns 0 44 [] fun cI fQ ci ee fR fS => ?_
  have iX := nb_new ci C.lt
  have fT := gb_new ci E.size
  replace ⟨h1, h2, h3, C, E⟩ := (sn [ag] ee ci).g5 h1 h2 h3 C E
  have fU : Own (α := Stp) fQ cI 44 (nin (ge w.heap.size) [cI, ag]) 0 0 [] := Own.nil' fR
  refine .r 1 <| .d ?_
  have gY := fU.sl fT
  replace ⟨h1, h2, h3⟩ := (sd fQ [cI, ag] cI).g3 h1 h2 h3
  exact .rt Tryz.func75 Tryz.results75 (vS cI 0 0) ⟨(gY.vl (by rw [merge_no (.inr (.inr ‹_›))]) (fun _ _ h => h.1)), E⟩
 refine .r 1 <| .d <| .cf <| .sk <| .s <| .g <| .r 1 <| .lb C <| .r 1 ?_
 have ef : (at_).toNat < d.list.length := (by omega)
 refine RG.idx ((at_).toNat) (len := d.list.length) (i := at_) (sz := 1) (by kernel_rfl) (by omega) ef (h2.addr (Nat.zero_lt_of_lt ef)) ?_
 obtain ⟨aX, cJ⟩ : ∃ y, d.list[(at_).toNat]? = some y := ⟨_, List.getElem?_eq_getElem (by omega)⟩
 have iY := drop_at cJ; have gt := List.mem_of_getElem? cJ
 obtain ⟨_, rfl, fV⟩ := h2.elem ((at_).toNat) aX cJ
 refine .lh 0 fV <| .r 1 <| .d <| .s <| .g <| .r 1 <| .lb C <| .r 1 <| .it (at_ + 1) ?_
 have eg : (at_ + 1).toNat < d.list.length := (by omega)
 refine RG.idx ((at_ + 1).toNat) (len := d.list.length) (i := at_ + 1) (sz := 1) (by kernel_rfl) (by omega) eg (h2.addr (Nat.zero_lt_of_lt eg)) ?_
 obtain ⟨aY, cK⟩ : ∃ y, d.list[(at_ + 1).toNat]? = some y := ⟨_, List.getElem?_eq_getElem (by omega)⟩
 have iZ := drop_at cK; have gu := List.mem_of_getElem? cK
 obtain ⟨_, rfl, fW⟩ := h2.elem ((at_ + 1).toNat) aY cK
 refine .lh 0 fW <| .r 1 <| .d <| .s <| T.regionJ (X := Nat × (Option Addr) × Fil × Fil × Nat × (Option Addr) × Nat) nil 18 (fun (ae, bk, aM, av, bm, bn, bo) => [(1, vI at_), (2, .pointer (some ⟨ag, 0, none⟩)), (5, vI aX), (6, vI aY), (7, .pointer (some ⟨ae, 0, none⟩)), (55, .agg #[.slice bk (((pMerge aM.part av.part).ids).length) bm, .slice bn (((pMerge aM.part av.part).blocks).length) bo])]) (fun (ae, bk, aM, av, bm, bn, bo) bG => Ext fD bG ∧ fD.heap.size ≤ ae ∧ Box bG ae 42 [.slice none 0 0, .slice none 0 0] ∧ RepS bG (nin (ge w.heap.size) [ae, ag]) bk (((pMerge aM.part av.part).ids).length) bm ((pMerge aM.part av.part).ids : List Int) ∧ RepS bG (nin (ge w.heap.size) [ae, ag]) bn (((pMerge aM.part av.part).blocks).length) bo ((pMerge aM.part av.part).blocks : List (List Row)) ∧ d.files[(numAt d aX).toNat]? = some aM ∧ d.files[(numAt d aY).toNat]? = some av) (by kernel_rfl) (fun ja bJ => ?_) ?_
 ·replace ⟨h1, h2, h3, C, E⟩ := (se [ag] bJ).g5 h1 h2 h3 C E
  have ah := bJ
  refine .r [0] <| .lb 1 C id <| .ln 2 C id <| .r [3] <| GA.call1 (i := 4) (by kernel_rfl) (fun fX bK => c_spec_l21At d aX (h1.ta.ext bK) (h2.ta.ext bK) (h3.ta.ext bK) (w := fX) (F := all)) ?_
  have cL : (numAt d aX).toNat < d.files.length := (by exact numAt_idx p3 ‹_›)
  refine GA.idx (i := 5) ((numAt d aX).toNat) (len := d.files.length) (z := numAt d aX) (sz := 3) (by kernel_rfl) (by exact numAt_nat p3 ‹_›) cL (h1.addr (Nat.zero_lt_of_lt cL)) <| .r [6] ?_
  obtain ⟨bH, aZ⟩ : ∃ y, d.files[(numAt d aX).toNat]? = some y := ⟨_, List.getElem?_eq_getElem (by omega)⟩
  have gZ := drop_at aZ; have fY := List.mem_of_getElem? aZ
  obtain ⟨_, ⟨jb, jc, jd, je, jf, jg, rfl, ak, al⟩, en⟩ := h1.elem ((numAt d aX).toNat) bH aZ
  have et := ak.len
  subst et
  have g0 := ak.max
  have ey := al.len
  subst ey
  have hC := al.max
  refine .lg 7 1 en id <| .r [8] <| .lb 9 C id <| .ln 10 C id <| .r [11] <| GA.call1 (i := 12) (by kernel_rfl) (fun fZ bL => c_spec_l21At d aY (h1.ta.ext bL) (h2.ta.ext bL) (h3.ta.ext bL) (w := fZ) (F := all)) ?_
  have cM : (numAt d aY).toNat < d.files.length := (by exact numAt_idx p3 ‹_›)
  refine GA.idx (i := 13) ((numAt d aY).toNat) (len := d.files.length) (z := numAt d aY) (sz := 3) (by kernel_rfl) (by exact numAt_nat p3 ‹_›) cM (h1.addr (Nat.zero_lt_of_lt cM)) <| .r [14] ?_
  obtain ⟨bI, ba⟩ : ∃ y, d.files[(numAt d aY).toNat]? = some y := ⟨_, List.getElem?_eq_getElem (by omega)⟩
  have hD := drop_at ba; have f0 := List.mem_of_getElem? ba
  obtain ⟨_, ⟨jh, ji, jj, jk, jl, jm, rfl, am, ao⟩, ez⟩ := h1.elem ((numAt d aY).toNat) bI ba
  have eA := am.len
  subst eA
  have hE := am.max
  have eB := ao.len
  subst eB
  have hH := ao.max
  refine .lg 15 1 ez id <| .tw 16 17 ?_ ?_
  ·refine .cl (fun cN aS => c_spec_l12Merge bH.part bI.part (ak.ta.ext aS) (al.ta.ext aS) (am.ta.ext aS) (ao.ta.ext aS) (p4 _ ‹_›) (p4 _ ‹_›) (w := cN) (F := all)) ?_
   intro cN aS
   replace ⟨h2, h3, C, ak, al, am, ao, E, ah⟩ := (se [ag] aS).g9 h2 h3 C ak al am ao E ah
   rintro jn jo ⟨⟨_, rfl, ⟨f5, jp, f6, f7, jq, f8, rfl, aD, aE⟩⟩, bM⟩
   have bN := al1 C.lt
   have cO : Gb w.heap.size cN.heap.size := E.size
   have hkeep_ := bM
   replace ⟨h2, h3, C, ak, al, am, ao, E, ah⟩ := (se [ag] bM).g9 h2 h3 C ak al am ao E ah
   refine ⟨Ext.chg hkeep_, ?_⟩
   have aD := aD.fr bN cO
   have hJ := aD.max
   have aE := aE.fr bN cO
   have hN := aE.max
   have eC := aD.len
   subst eC
   have eD := aE.len
   subst eD
   refine .go 17 <| .nw (fun b => .pointer (some ⟨b, 0, none⟩)) 42 [.slice none 0 0, .slice none 0 0] fun jr cP => ?_
   replace ⟨h2, h3, C, ak, al, am, ao, aD, aE, E, ah⟩ := (se [ag] cP).g11 h2 h3 C ak al am ao aD aE E ah
   intro eh js bO cQ bP eE
   have eF := ah.cn bO
   replace ⟨h2, h3, C, ak, al, am, ao, aD, aE, E, ah⟩ := (sn [ag] cQ bO).g11 h2 h3 C ak al am ao aD aE E ah
   refine .d fun jt cR => ?_
   replace ⟨h2, h3, C, ak, al, am, ao, aD, aE, bP, E, ah⟩ := (se [eh, ag] cR).g12 h2 h3 C ak al am ao aD aE bP E ah
   exact ⟨(eh, f5, bH, bI, f6, f7, f8), ⟨by kernel_rfl, by kernel_rfl, by kernel_rfl, by kernel_rfl, by kernel_rfl, by kernel_rfl, trivial⟩, ⟨ah, (cov_ge0 eF), bP, aD, aE, aZ, ba⟩⟩
  refine .nw (fun b => .pointer (some ⟨b, 0, none⟩)) 42 [.slice none 0 0, .slice none 0 0] fun ju cS => ?_
  replace ⟨h2, h3, C, ak, al, am, ao, E, ah⟩ := (se [ag] cS).g9 h2 h3 C ak al am ao E ah
  intro cj jv bQ cT aF eG
  have eH := ah.cn bQ
  replace ⟨h2, h3, C, ak, al, am, ao, E, ah⟩ := (sn [ag] cT bQ).g9 h2 h3 C ak al am ao E ah
  refine .go 16 <| .cl (fun cU aT => c_spec_l12Merge bH.part bI.part (ak.ta.ext aT) (al.ta.ext aT) (am.ta.ext aT) (ao.ta.ext aT) (p4 _ ‹_›) (p4 _ ‹_›) (w := cU) (F := all)) ?_
  intro cU aT
  replace ⟨h2, h3, C, aF, E, ah⟩ := (se [cj, ag] aT).g6 h2 h3 C aF E ah
  rintro jw jx ⟨⟨_, rfl, ⟨f9, jy, ga, gb, jz, gf, rfl, bc, bd⟩⟩, bR⟩
  have bS := al2 aF.lt C.lt
  have cV : Gb w.heap.size cU.heap.size := E.size
  have hkeep_ := bR
  replace ⟨h2, h3, C, aF, E, ah⟩ := (se [cj, ag] bR).g6 h2 h3 C aF E ah
  refine ⟨Ext.chg hkeep_, ?_⟩
  have bc := bc.fr bS cV
  have hO := bc.max
  have bd := bd.fr bS cV
  have hQ := bd.max
  have eI := bc.len
  subst eI
  have eJ := bd.len
  subst eJ
  refine .d fun jA cW => ?_
  replace ⟨h2, h3, C, aF, bc, bd, E, ah⟩ := (se [cj, ag] cW).g8 h2 h3 C aF bc bd E ah
  exact ⟨(cj, f9, bH, bI, ga, gb, gf), ⟨by kernel_rfl, by kernel_rfl, by kernel_rfl, by kernel_rfl, by kernel_rfl, by kernel_rfl, trivial⟩, ⟨ah, (cov_ge0 eH), aF, bc, bd, aZ, ba⟩⟩
 rintro ⟨ae, bk, aM, av, bm, bn, bo⟩ jB bG ⟨cX, bu, gh, O, W, cY, cZ⟩
 have hV := nb_ge bu C.lt
 have hW : Cov nil w ae := cov_ge bu E.size
 replace ⟨h2, h3, C, E⟩ := (sz [ag] cX bu).g4 h2 h3 C E
 have ia := O.len; have ic := O.max
 have ie := W.len; have ig := W.max
 have ii := drop_at cY; have gi := List.mem_of_getElem? cY
 have ij := drop_at cZ; have gj := List.mem_of_getElem? cZ
 refine .sc [.slice bk (((pMerge aM.part av.part).ids).length) bm, .slice bn (((pMerge aM.part av.part).blocks).length) bo] gh fun aV c7 J eK => ?_
 replace ⟨h2, h3, C, O, W, E⟩ := (so [ae, ag] c7).g6 h2 h3 C O W E
 refine .d <| .s <| T.regionJ (X := Nat × Nat × (Option Addr) × Nat) (mtb [] aV.heap.size) 15 (fun (aL, ck, cm, co) => [(2, .pointer (some ⟨ag, 0, none⟩)), (5, vI aX), (6, vI aY), (7, .pointer (some ⟨ae, 0, none⟩)), (65, vS aL (0 + ((at_).toNat - 0) + 1) ck), (70, .slice cm (d.list.length - (at_ + 2).toNat) co)]) (fun (aL, ck, cm, co) cp => Ext aV cp ∧ aV.heap.size ≤ aL ∧ Own cp aL 3 (nin (ge w.heap.size) [aL, ae, ag]) (0 + ((at_).toNat - 0) + 1) ck ((([] ++ ((d.list.take ((at_).toNat)).drop 0)) ++ [d.next]) : List Int) ∧ RepS cp (nin (fo F w.heap.size) [aL, ae, ag]) cm (d.list.length - (at_ + 2).toNat) co (((d.list.take d.list.length).drop ((at_ + 2).toNat)) : List Int)) (by kernel_rfl) (fun gk bv => ?_) ?_
 ·replace h2 := h2.into
  replace h3 := h3.into
  replace O := O.into
  replace W := W.into
  have bT : Gb (ag + 1) aV.heap.size := C.lt
  replace ⟨h2, h3, C, J, O, W, E⟩ := (se [ae, ag] bv).g7 h2 h3 C J O W E
  have aa := bv
  have ab : Chg (mtb [] aV.heap.size) aV gk := Chg.stepN (Chg.refl (mtb [] aV.heap.size) aV) bv
  refine .r [1] <| .lb 2 C (nS_of all_nil bT) <| .r [3] <| GA.sub (i := 4) (t := 24) (lo := none) (hi := some (vI at_)) (by kernel_rfl) h2 0 ((at_).toNat) (by kernel_rfl) (by kernel_rfl) (.inl ⟨rfl, rfl⟩) (.inr ⟨_, _, rfl, by omega⟩) (by omega) (by omega) fun c8 c9 af => ?_
  have ik := af.len; have il := af.max
  refine .r [6] <| .lb 7 C (nS_of all_nil bT) <| .r [10] <| .lb 11 C (nS_of all_nil bT) <| .r [12] <| GA.int (i := 13) (at_ + 2) (by kernel_rfl) (by omega) <| GA.sub (i := 14) (t := 24) (lo := some (vI (at_ + 2))) (hi := none) (by kernel_rfl) h2 ((at_ + 2).toNat) d.list.length (by kernel_rfl) (by kernel_rfl) (.inr ⟨_, _, rfl, by omega⟩) (.inl ⟨rfl, rfl⟩) (by omega) (by omega) fun da db ac => ?_
  have im := ac.len; have io := ac.max
  refine .tw 0 8 ?_ ?_
  ·refine .ns 0 3 [] fun jC de => ?_
   replace ⟨h3, C, J, O, W, af, ac, E, aa, ab⟩ := (se [ae, ag] de).g10 h3 C J O W af ac E aa ab
   intro aC gl aN df eL eM
   have dg := nb_new aN C.lt
   have dh := nb_new aN J.lt
   have dj := E.cn aN
   have dm := aa.cn aN
   have bw := ab.cn aN
   replace ⟨h3, C, J, O, W, af, ac, E, aa, ab⟩ := (sn [ae, ag] df aN).g10 h3 C J O W af ac E aa ab
   have aw : Own (α := Int) gl aC 3 (nin (ge w.heap.size) [aC, ae, ag]) 0 0 [] := Own.nil' eL
   refine .tw 5 8 ?_ ?_
   ·refine GE.append (T := 24) (ty := 24) (args := [vS aC 0 0, .slice c8 ((at_).toNat - 0) c9]) (by kernel_rfl) fun jD dp => ?_
    replace ⟨h3, C, J, O, W, af, ac, aw, E, aa, ab⟩ := (se [aC, ae, ag] dp).g11 h3 C J O W af ac aw E aa ab
    obtain ⟨aW, gm, jE, dq, au, ay, bU, eN⟩ := Own.appendF (P := Tryz.prog) (T := 24) (ty := 24) flat_int aw (by kernel_rfl) af (fun b h e => h.2 (e ▸ (.head _))) (by omega)
    refine ⟨_, _, dq, Chg.toS bU (Cov.toS bw), ?_⟩
    have ip := nb_or ay dg C.lt
    have iq := nb_or ay dh J.lt
    have ir := cov_or ay dj E.size
    have eO := cov_or ay dm aa.size
    have eP := cov_or ay bw ab.size
    replace ⟨h3, C, J, O, W, af, ac, E, aa, ab⟩ := (sa [aC, ae, ag] bU ay).g10 h3 C J O W af ac E aa ab
    replace au := au.rn aC
    have iu := au.len; have iw := au.max
    refine .go 8 <| .ns 1 3 [vI d.next] fun jF dr => ?_
    replace ⟨h3, C, J, O, W, af, ac, au, E, aa, ab⟩ := (se [aW, ae, ag] dr).g11 h3 C J O W af ac au E aa ab
    intro dt jG bg du bV eQ
    have eR := nb_new bg C.lt
    have eS := nb_new bg J.lt
    have dv := nb_new bg au.lt
    have eT := gb_new bg E.size
    replace ⟨h3, C, J, O, W, af, ac, au, E, aa, ab⟩ := (se [aW, ae, ag] du).g11 h3 C J O W af ac au E aa ab
    refine .go 9 <| GE.append (T := 24) (ty := 24) (args := [vS aW (0 + ((at_).toNat - 0)) gm, vS dt 1 1]) (by kernel_rfl) fun jH dw => ?_
    replace ⟨h3, C, J, O, W, af, ac, au, bV, E, aa, ab⟩ := (se [aW, ae, ag] dw).g12 h3 C J O W af ac au bV E aa ab
    have cB : nin (ge w.heap.size) [aW, ae, ag] dt ∧ dt ≠ aW := hap_mk eT (all_cons dv (all_cons eS (all_cons eR all_nil))) dv
    obtain ⟨ej, gn, jI, dx, aO, bz, bW, eU⟩ := au.append1 (P := Tryz.prog) (T := 24) (ty := 24) (y := d.next) (by kernel_rfl) bV rfl cB (by omega)
    refine ⟨_, _, dx, Chg.toS bW (Cov.toS eP), ?_⟩
    have eV := cov_or bz eO aa.size
    replace ⟨h3, C, J, O, W, af, ac, E, aa, ab⟩ := (sa [aW, ae, ag] bW bz).g10 h3 C J O W af ac E aa ab
    replace aO := aO.rn aW
    have iy := aO.len; have iz := aO.max
    refine .d fun jJ dy => ?_
    replace ⟨h3, C, J, O, W, af, ac, aO, E, aa, ab⟩ := (se [ej, ae, ag] dy).g11 h3 C J O W af ac aO E aa ab
    replace h3 := h3.outof
    replace O := O.outof
    replace W := W.outof
    replace af := af.outof
    replace ac := ac.outof
    exact ⟨(ej, gn, da, db), ⟨by kernel_rfl, by kernel_rfl, by kernel_rfl, by kernel_rfl, by kernel_rfl, by kernel_rfl, trivial⟩, ⟨aa, (cov_ge0 eV), aO, ac⟩⟩
   refine .ns 1 3 [vI d.next] fun jK dz => ?_
   replace ⟨h3, C, J, O, W, af, ac, aw, E, aa, ab⟩ := (se [aC, ae, ag] dz).g11 h3 C J O W af ac aw E aa ab
   intro dA jL bh dB aG eW
   have eX := nb_new bh C.lt
   have eY := nb_new bh J.lt
   have eZ := nb_new bh aw.lt
   have e7 := gb_new bh E.size
   replace ⟨h3, C, J, O, W, af, ac, aw, E, aa, ab⟩ := (se [aC, ae, ag] dB).g11 h3 C J O W af ac aw E aa ab
   refine .go 5 <| GE.append (T := 24) (ty := 24) (args := [vS aC 0 0, .slice c8 ((at_).toNat - 0) c9]) (by kernel_rfl) fun jM dC => ?_
   replace ⟨h3, C, J, O, W, af, ac, aw, aG, E, aa, ab⟩ := (se [aC, ae, ag] dC).g12 h3 C J O W af ac aw aG E aa ab
   obtain ⟨bq, gp, jN, dD, aP, ax, bX, e8⟩ := Own.appendF (P := Tryz.prog) (T := 24) (ty := 24) flat_int aw (by kernel_rfl) af (fun b h e => h.2 (e ▸ (.head _))) (by omega)
   refine ⟨_, _, dD, Chg.toS bX (Cov.toS bw), ?_⟩
   have iA := nb_or ax dg C.lt
   have iB := nb_or ax dh J.lt
   have dE := nb_or ax (Nb.symm eZ) aG.lt
   have iC := cov_or ax dj E.size
   have fa := cov_or ax dm aa.size
   have fb := cov_or ax bw ab.size
   replace ⟨h3, C, J, O, W, af, ac, aG, E, aa, ab⟩ := (sa [aC, ae, ag] bX ax).g11 h3 C J O W af ac aG E aa ab
   replace aP := aP.rn aC
   have iD := aP.len; have iE := aP.max
   refine .go 9 <| GE.append (T := 24) (ty := 24) (args := [vS bq (0 + ((at_).toNat - 0)) gp, vS dA 1 1]) (by kernel_rfl) fun jO dF => ?_
   replace ⟨h3, C, J, O, W, af, ac, aP, aG, E, aa, ab⟩ := (se [bq, ae, ag] dF).g12 h3 C J O W af ac aP aG E aa ab
   have cC : nin (ge w.heap.size) [bq, ae, ag] dA ∧ dA ≠ bq := hap_mk e7 (all_cons (Nb.symm dE) (all_cons eY (all_cons eX all_nil))) (Nb.symm dE)
   obtain ⟨ek, gq, jP, dG, aQ, bA, bY, fc⟩ := aP.append1 (P := Tryz.prog) (T := 24) (ty := 24) (y := d.next) (by kernel_rfl) aG rfl cC (by omega)
   refine ⟨_, _, dG, Chg.toS bY (Cov.toS fb), ?_⟩
   have fd := cov_or bA fa aa.size
   replace ⟨h3, C, J, O, W, af, ac, E, aa, ab⟩ := (sa [bq, ae, ag] bY bA).g10 h3 C J O W af ac E aa ab
   replace aQ := aQ.rn bq
   have iF := aQ.len; have iG := aQ.max
   refine .d fun jQ dH => ?_
   replace ⟨h3, C, J, O, W, af, ac, aQ, E, aa, ab⟩ := (se [ek, ae, ag] dH).g11 h3 C J O W af ac aQ E aa ab
   replace h3 := h3.outof
   replace O := O.outof
   replace W := W.outof
   replace af := af.outof
   replace ac := ac.outof
   exact ⟨(ek, gq, da, db), ⟨by kernel_rfl, by kernel_rfl, by kernel_rfl, by kernel_rfl, by kernel_rfl, by kernel_rfl, trivial⟩, ⟨aa, (cov_ge0 fd), aQ, ac⟩⟩
  refine .ns 1 3 [vI d.next] fun jR dI => ?_
  replace ⟨h3, C, J, O, W, af, ac, E, aa, ab⟩ := (se [ae, ag] dI).g10 h3 C J O W af ac E aa ab
  intro dJ jS bB dK aq fe
  have ff := nb_new bB C.lt
  have fg := nb_new bB J.lt
  have fh := gb_new bB E.size
  replace ⟨h3, C, J, O, W, af, ac, E, aa, ab⟩ := (se [ae, ag] dK).g10 h3 C J O W af ac E aa ab
  refine .go 0 <| .ns 0 3 [] fun jT dL => ?_
  replace ⟨h3, C, J, O, W, af, ac, aq, E, aa, ab⟩ := (se [ae, ag] dL).g11 h3 C J O W af ac aq E aa ab
  intro br gr aH dM fi fj
  have fk := nb_new aH C.lt
  have fm := nb_new aH J.lt
  have fp := nb_new aH aq.lt
  have fq := E.cn aH
  have ft := aa.cn aH
  have dN := ab.cn aH
  replace ⟨h3, C, J, O, W, af, ac, aq, E, aa, ab⟩ := (sn [ae, ag] dM aH).g11 h3 C J O W af ac aq E aa ab
  have bZ : Own (α := Int) gr br 3 (nin (ge w.heap.size) [br, ae, ag]) 0 0 [] := Own.nil' fi
  refine .go 5 <| GE.append (T := 24) (ty := 24) (args := [vS br 0 0, .slice c8 ((at_).toNat - 0) c9]) (by kernel_rfl) fun jU dO => ?_
  replace ⟨h3, C, J, O, W, af, ac, aq, bZ, E, aa, ab⟩ := (se [br, ae, ag] dO).g12 h3 C J O W af ac aq bZ E aa ab
  obtain ⟨bt, gs, jV, cD, aR, ar, bC, dQ⟩ := Own.appendF (P := Tryz.prog) (T := 24) (ty := 24) flat_int bZ (by kernel_rfl) af (fun b h e => h.2 (e ▸ (.head _))) (by omega)
  refine ⟨_, _, cD, Chg.toS bC (Cov.toS dN), ?_⟩
  have gv := nb_or ar fk C.lt
  have gw := nb_or ar fm J.lt
  have cq := nb_or ar fp aq.lt
  have gx := cov_or ar fq E.size
  have dR := cov_or ar ft aa.size
  have dS := cov_or ar dN ab.size
  replace ⟨h3, C, J, O, W, ac, aq, E, aa⟩ := (sa [br, ae, ag] bC ar).g9 h3 C J O W ac aq E aa
  replace aR := aR.rn br
  have gy := aR.len; have gz := aR.max
  refine .go 9 <| GE.append (T := 24) (ty := 24) (args := [vS bt (0 + ((at_).toNat - 0)) gs, vS dJ 1 1]) (by kernel_rfl) fun iH cr => ?_
  replace ⟨h3, C, J, O, W, ac, aq, aR, E, aa⟩ := (se [bt, ae, ag] cr).g10 h3 C J O W ac aq aR E aa
  have b0 : nin (ge w.heap.size) [bt, ae, ag] dJ ∧ dJ ≠ bt := hap_mk fh (all_cons (Nb.symm cq) (all_cons fg (all_cons ff all_nil))) (Nb.symm cq)
  obtain ⟨dP, fu, iI, cE, az, bi, bD, dT⟩ := aR.append1 (P := Tryz.prog) (T := 24) (ty := 24) (y := d.next) (by kernel_rfl) aq rfl b0 (by omega)
  refine ⟨_, _, cE, Chg.toS bD (Cov.toS dS), ?_⟩
  have dU := cov_or bi dR aa.size
  replace ⟨h3, C, J, O, W, ac, E, aa⟩ := (sa [bt, ae, ag] bD bi).g8 h3 C J O W ac E aa
  replace az := az.rn bt
  have gA := az.len; have gC := az.max
  refine .d fun iJ cu => ?_
  replace ⟨h3, C, J, O, W, ac, az, E, aa⟩ := (se [dP, ae, ag] cu).g9 h3 C J O W ac az E aa
  replace h3 := h3.outof
  replace O := O.outof
  replace W := W.outof
  replace ac := ac.outof
  exact ⟨(dP, fu, da, db), ⟨by kernel_rfl, by kernel_rfl, by kernel_rfl, by kernel_rfl, by kernel_rfl, by kernel_rfl, trivial⟩, ⟨aa, (cov_ge0 dU), az, ac⟩⟩
 rintro ⟨aL, ck, cm, co⟩ iK cp ⟨cv, aJ, b6, b7⟩
 have dV := nb_ge aJ C.lt
 have dW := nb_ge aJ J.lt
 have dX := gb_ge aJ E.size
 have gD : Cov nil w aL := cov_ge aJ E.size
 replace ⟨h3, C, J, O, W, E⟩ := (sz [ae, ag] cv aJ).g6 h3 C J O W E
 have gE := b6.len; have gF := b6.max
 have gG := b7.len; have gH := b7.max
 refine RG.appendF (T := 24) (ty := 24) flat_int b6 b7 (by kernel_rfl) (by kernel_rfl) (fun b h e => h.2 (e ▸ (.head _))) (by omega) fun aA fv iL ai aI cw => ?_
 have gI := nb_or aI dV C.lt
 have gJ := nb_or aI dW J.lt
 have dY := gb_or aI dX E.size
 replace ⟨h3, C, J, O, W, E⟩ := (sa [aL, ae, ag] cw aI).g6 h3 C J O W E
 replace ai := ai.rn aL
 have gK := ai.len; have gL := ai.max
 refine .r 1 <| .d <| .s <| .gd nil 13 fun iM cx => ?_
 replace ⟨h3, C, J, O, W, ai, E⟩ := (se [aA, ae, ag] cx).g7 h3 C J O W ai E
 refine .r [0] <| .lb 1 C id <| .ln 2 J id <| .r [3, 4, 5] <| .lb 6 C id <| .r [9, 10, 11, 12] <| .go 7 <| .cl (fun b8 bE => c_spec_l11Names d.names (h3.ta.ext bE) (by omega) (by intro n hn; have := p1 n hn; omega) (w := b8) (F := all)) ?_
 intro b8 bE
 replace ⟨C, J, O, W, ai, E⟩ := (se [aA, ae, ag] bE).g6 C J O W ai E
 rintro iN iO ⟨⟨aU, fw, fz, rfl, aj, aK⟩, bF⟩
 have cy := al3 ai.lt J.lt C.lt
 have dZ : Gb w.heap.size b8.heap.size := E.size
 have hkeep_ := bF
 have gM := nb_ge aK C.lt
 have gN := nb_ge aK J.lt
 have gO := nb_ge aK ai.lt
 have d0 := gb_ge aK E.size
 replace ⟨C, J, O, W, ai, E⟩ := (sz [aA, ae, ag] bF aK).g6 C J O W ai E
 refine ⟨Ext.chg hkeep_, ?_⟩
 replace aj := Own.take (s0 := w.heap.size) (M := [aA, ae, ag]) aj cy dZ
 have gP := aj.len; have gQ := aj.max
 refine .r [8] <| .d fun iP cz => ?_
 replace ⟨C, J, O, W, ai, aj, E⟩ := (se [aU, aA, ae, ag] cz).g7 C J O W ai aj E
 refine .ns 4 44 [vI 1, vI d.next, .slice bk (((pMerge aM.part av.part).ids).length) bm, .slice bn (((pMerge aM.part av.part).blocks).length) bo, .slice none 0 0, .slice none 0 0, vI 2, vI 0, .slice none 0 0, .slice none 0 0, vS aA (0 + ((at_).toNat - 0) + 1 + (d.list.length - (at_ + 2).toNat)) fv, vS aU fw fz, vI 3, vI aX, .slice none 0 0, .slice none 0 0, .slice none 0 0, .slice none 0 0, vI 3, vI aY, .slice none 0 0, .slice none 0 0, .slice none 0 0, .slice none 0 0] fun bj b9 aB cA d3 d4 => ?_
 have gR := nb_new aB C.lt
 have gS := nb_new aB J.lt
 have gT := nb_new aB ai.lt
 have gU := nb_new aB aj.lt
 have d5 := gb_new aB E.size
 replace ⟨O, W, ai, aj, E⟩ := (sn [aU, aA, ae, ag] cA aB).g5 O W ai aj E
 have cd := ai.sl dY
 replace ⟨O, W, aj⟩ := (sd b9 [bj, aU, aA, ae, ag] aA).g3 O W aj
 have fA := aj.sl d0
 replace ⟨O, W, cd⟩ := (sd b9 [bj, aU, ae, ag] aU).g3 O W cd
 have d6 : Own (α := Stp) b9 bj 44 (nin (ge w.heap.size) [bj, ae, ag]) 4 4 [(⟨1, d.next, (⟨(pMerge aM.part av.part).ids, (pMerge aM.part av.part).blocks⟩ : Prt), ([] : List Int), ([] : List (List Tag))⟩ : Stp), (⟨2, 0, (⟨([] : List Int), ([] : List (List Row))⟩ : Prt), ((([] ++ ((d.list.take ((at_).toNat)).drop 0)) ++ [d.next]) ++ ((d.list.take d.list.length).drop ((at_ + 2).toNat))), d.names⟩ : Stp), (⟨3, aX, (⟨([] : List Int), ([] : List (List Row))⟩ : Prt), ([] : List Int), ([] : List (List Tag))⟩ : Stp), (⟨3, aY, (⟨([] : List Int), ([] : List (List Row))⟩ : Prt), ([] : List Int), ([] : List (List Tag))⟩ : Stp)] := Own.lit d3 rfl (by decide) ⟨⟨_, _, _, _, _, _, _, _, _, _, _, _, rfl, O.oi, W.oi, (RepS.nil' _ _ none 0 (by decide)), (RepS.nil' _ _ none 0 (by decide))⟩, ⟨_, _, _, _, _, _, _, _, _, _, _, _, rfl, (RepS.nil' _ _ none 0 (by decide)), (RepS.nil' _ _ none 0 (by decide)), cd.oi, fA.oi⟩, ⟨_, _, _, _, _, _, _, _, _, _, _, _, rfl, (RepS.nil' _ _ none 0 (by decide)), (RepS.nil' _ _ none 0 (by decide)), (RepS.nil' _ _ none 0 (by decide)), (RepS.nil' _ _ none 0 (by decide))⟩, ⟨_, _, _, _, _, _, _, _, _, _, _, _, rfl, (RepS.nil' _ _ none 0 (by decide)), (RepS.nil' _ _ none 0 (by decide)), (RepS.nil' _ _ none 0 (by decide)), (RepS.nil' _ _ none 0 (by decide))⟩, rfl⟩
 refine .r 1 <| .d ?_
 have fB := d6.sl d5
 exact .rt Tryz.func75 Tryz.results75 (vS bj 4 4) ⟨(fB.vl (by rw [merge_yes ‹_› ‹_› ‹_› ‹_› ‹_› ‹_› ‹_›]) (fun _ _ h => h.1)), E⟩
end Go.Proofs.YtganlmloonielaaGreat
namespace Go.Proofs.YtganlmloonielaaGreat
def Blk (b : List Row) : Prop := blockF none b = true
theorem blockF_cons {o : Option Row} {r : Row} {rs : List Row} : blockF o (r :: rs) = true ↔ rowOk r = true ∧ (∀ q, o = some q → q.t < r.t) ∧ blockF (some r) rs = true := by
 simp only [blockF, Bool.and_eq_true]
 cases o <;> simp [and_assoc]
theorem blockF_none {o : Option Row} {b : List Row} (h : blockF o b = true) : Blk b := by
 cases b with
 | nil => rfl
 | cons r rs => exact blockF_cons.2 ⟨(blockF_cons.1 h).1, by simp, (blockF_cons.1 h).2.2⟩
theorem rowOk_t {r : Row} (h : rowOk r = true) : 0 ≤ r.t ∧ r.t ≤ 99 := by
 simp only [rowOk, Bool.and_eq_true] at h
 exact inR_t h.1
theorem rowOk_v {r : Row} (h : rowOk r = true) : -99 ≤ r.v ∧ r.v ≤ 99 := by
 simp only [rowOk, Bool.and_eq_true] at h
 exact inR_t h.2
theorem blockF_len : ∀ (b : List Row) (q : Row), blockF (some q) b = true → q.t ≤ 99 → (b.length : Int) ≤ 99 - q.t := by
 intro b
 induction b with
 | nil => intro q _ h; simp; omega
 | cons r rs ih =>
   intro q h hq
   obtain ⟨h1, h2, h3⟩ := blockF_cons.1 h
   have h4 := h2 q rfl
   have h5 := rowOk_t h1
   have h6 := ih r h3 (by omega)
   simp only [List.length_cons]
   omega
theorem Blk.len {b : List Row} (h : Blk b) : b.length ≤ 100 := by
 cases b with
 | nil => simp
 | cons r rs =>
   obtain ⟨h1, _, h3⟩ := blockF_cons.1 h
   have h5 := rowOk_t h1
   have h6 := blockF_len rs r h3 (by omega)
   simp only [List.length_cons]
   omega
theorem blockF_rows : ∀ (b : List Row) (o : Option Row), blockF o b = true → ∀ r ∈ b, rowOk r = true := by
 intro b
 induction b with
 | nil => intro o _ r hr; cases hr
 | cons x xs ih =>
   intro o h r hr
   obtain ⟨h1, _, h3⟩ := blockF_cons.1 h
   rcases List.mem_cons.1 hr with rfl | hr
   ·exact h1
   ·exact ih _ h3 r hr
theorem Blk.rows {b : List Row} (h : Blk b) : ∀ r ∈ b, rowOk r = true := blockF_rows b none h
theorem blockF_gt : ∀ (b : List Row) (q : Row), blockF (some q) b = true → ∀ r ∈ b, q.t < r.t := by
 intro b
 induction b with
 | nil => intro q _ r hr; cases hr
 | cons x xs ih =>
   intro q h r hr
   obtain ⟨_, h2, h3⟩ := blockF_cons.1 h
   have h4 := h2 q rfl
   rcases List.mem_cons.1 hr with rfl | hr
   ·exact h4
   ·have := ih x h3 r hr; omega
def insR (r : Row) : List Row → List Row
 | [] => [r]
 | x :: xs => if r.t < x.t then r :: x :: xs else if r.t = x.t then r :: xs else x :: insR r xs
theorem put1_done (r : Row) : ∀ (b out : List Row), (∀ x ∈ b, r.t < x.t) → put1 out r true b = out ++ b := by
 intro b
 induction b with
 | nil => intro out _; simp [put1]
 | cons x xs ih =>
   intro out h
   have h1 := h x (by simp)
   have h2 : (x.t != r.t) = true := by simp; omega
   unfold put1
   simp only [Bool.not_true, Bool.false_and, if_neg, h2, if_true]
   rw [if_neg (by simp), ih _ (fun y hy => h y (by simp [hy]))]
   simp
theorem put1_ins (r : Row) : ∀ (b out : List Row) (o : Option Row), blockF o b = true → put1 out r false b = out ++ insR r b := by
 intro b
 induction b with
 | nil => intro out o _; simp [put1, insR]
 | cons x xs ih =>
   intro out o h
   obtain ⟨_, _, h3⟩ := blockF_cons.1 h
   have hg := blockF_gt xs x h3
   unfold put1 insR
   by_cases h1 : r.t < x.t
   ·have e1 : (x.t != r.t) = true := by simp; omega
    have e2 : (!false && decide (x.t ≥ r.t)) = true := by simp; omega
    rw [if_pos e2, if_pos e1, if_pos h1, put1_done r xs _ (fun y hy => by have := hg y hy; omega)]
    simp
   ·by_cases h2 : r.t = x.t
    ·have e1 : ¬ (x.t != r.t) = true := by simp; omega
     have e2 : (!false && decide (x.t ≥ r.t)) = true := by simp; omega
     rw [if_pos e2, if_neg e1, if_neg h1, if_pos h2, put1_done r xs _ (fun y hy => by have := hg y hy; omega)]
     simp
    ·have e1 : (x.t != r.t) = true := by simp; omega
     have e2 : ¬ (!false && decide (x.t ≥ r.t)) = true := by simp; omega
     rw [if_neg e2, if_pos e1, if_neg h1, if_neg h2, ih _ _ h3]
     simp
theorem sPut_ins {b : List Row} (h : Blk b) (r : Row) : sPut b r = insR r b := by
 unfold sPut
 rw [put1_ins r b [] none h]
 rfl
theorem insR_ok {r : Row} (hr : rowOk r = true) : ∀ (b : List Row) (o : Option Row), blockF o b = true → (∀ q, o = some q → q.t < r.t) → blockF o (insR r b) = true := by
 intro b
 induction b with
 | nil => intro o _ ho; exact blockF_cons.2 ⟨hr, ho, rfl⟩
 | cons x xs ih =>
   intro o h ho
   obtain ⟨h1, h2, h3⟩ := blockF_cons.1 h
   unfold insR
   split
   ·exact blockF_cons.2 ⟨hr, ho, blockF_cons.2 ⟨h1, fun q hq => by cases hq; assumption, h3⟩⟩
   ·split
    ·rename_i _ he
     refine blockF_cons.2 ⟨hr, ho, ?_⟩
     cases xs with
     | nil => rfl
     | cons y ys =>
       obtain ⟨g1, g2, g3⟩ := blockF_cons.1 h3
       exact blockF_cons.2 ⟨g1, fun q hq => by cases hq; have := g2 x rfl; omega, g3⟩
    ·exact blockF_cons.2 ⟨h1, h2, ih _ h3 (fun q hq => by cases hq; omega)⟩
theorem Blk.put {b : List Row} (h : Blk b) {r : Row} (hr : rowOk r = true) : Blk (sPut b r) := by
 rw [sPut_ins h]
 exact insR_ok hr b none h (by simp)
theorem Blk.nil : Blk [] := rfl
theorem Blk.foldl {b : List Row} : ∀ {a : List Row}, Blk a → (∀ r ∈ b, rowOk r = true) → Blk (b.foldl sPut a) := by
 induction b with
 | nil => intro a h _; exact h
 | cons x xs ih => intro a h hr; exact ih (h.put (hr x (by simp))) (fun r hr' => hr r (by simp [hr']))
theorem Blk.merge {a b : List Row} (ha : Blk a) (hb : Blk b) : Blk (sMerge a b) := Blk.foldl ha hb.rows
structure PrtI (p : Prt) : Prop where
 len : p.ids.length = p.blocks.length
 le : p.blocks.length ≤ 6
 blk : ∀ b ∈ p.blocks, Blk b
theorem PrtI.sz {p : Prt} (h : PrtI p) : PrtSz p := ⟨h.len, by have := h.le; omega, fun b hb => by have := (h.blk b hb).len; omega⟩
theorem PrtI.nil : PrtI ⟨[], []⟩ := ⟨rfl, by simp, by simp⟩
theorem PrtI.of {p : Prt} (h : PrtI p) (id : Int) : Blk (partOf p id) := by
 rcases partF_mem id p.ids p.blocks with h1 | h1
 ·unfold partOf; rw [h1]; exact Blk.nil
 ·exact h.blk _ h1
theorem makeF_len : ∀ (bs : List (List Row)) (i : Nat), (makeF i bs).1.length = (makeF i bs).2.length ∧ (makeF i bs).2.length ≤ bs.length ∧ ∀ b ∈ (makeF i bs).2, b ∈ bs := by
 intro bs
 induction bs with
 | nil => intro i; simp [makeF]
 | cons b bs ih =>
   intro i
   obtain ⟨h1, h2, h3⟩ := ih (i + 1)
   unfold makeF
   split
   ·refine ⟨by simp [h1], by simp; omega, fun x hx => ?_⟩
    rcases List.mem_cons.1 hx with rfl | hx
    ·simp
    ·exact List.mem_cons_of_mem _ (h3 x hx)
   ·exact ⟨h1, by simp; omega, fun x hx => List.mem_cons_of_mem _ (h3 x hx)⟩
theorem PrtI.make {bs : List (List Row)} (hl : bs.length ≤ 6) (h : ∀ b ∈ bs, Blk b) : PrtI (pMake bs) := by
 obtain ⟨h1, h2, h3⟩ := makeF_len bs 0
 exact ⟨h1, by unfold pMake; dsimp only; omega, fun b hb => h b (h3 b hb)⟩
theorem PrtI.merge {p q : Prt} (hp : PrtI p) (hq : PrtI q) : PrtI (pMerge p q) := by
 refine PrtI.make (by rw [pMergeL_len]; omega) (fun b hb => ?_)
 simp only [pMergeL, List.mem_map] at hb
 obtain ⟨i, _, rfl⟩ := hb
 exact (hp.of _).merge (hq.of _)
theorem memF_blk : ∀ (mem : List Smp) (bl : List (List Row)), bl.length = 6 → (∀ b ∈ bl, Blk b) → (∀ m ∈ mem, rowOk m.row = true) → (mem.foldl memF bl).length = 6 ∧ ∀ b ∈ mem.foldl memF bl, Blk b := by
 intro mem
 induction mem with
 | nil => intro bl h1 h2 _; exact ⟨h1, h2⟩
 | cons m ms ih =>
   intro bl h1 h2 h3
   refine ih (memF bl m) (by rw [memF_len, h1]) (fun b hb => ?_) (fun x hx => h3 x (by simp [hx]))
   unfold memF at hb
   rcases List.mem_or_eq_of_mem_set hb with hb | rfl
   ·exact h2 b hb
   ·refine Blk.put ?_ (h3 m (by simp))
    rw [List.getD_eq_getElem?_getD]
    cases hx : bl[(m.id - 1).toNat]? with
    | none => exact Blk.nil
    | some y => exact h2 y (List.mem_of_getElem? hx)
theorem PrtI.mem {mem : List Smp} (h : ∀ m ∈ mem, rowOk m.row = true) : PrtI (memPart mem) := by
 obtain ⟨h1, h2⟩ := memF_blk mem [[], [], [], [], [], []] rfl (by simp [Blk.nil]) h
 exact PrtI.make (by omega) h2
structure NmI (names : List (List Tag)) : Prop where
 len : names.length ≤ 6
 ok : ∀ n ∈ names, nameOk n = true
 nodup : (names.map text).Nodup
theorem one1_len {lo hi : Int} {s : Str} (h : one1 lo hi s = true) : s.length = 1 := by
 match s, h with
 | [x], _ => rfl
 | [], h => simp [one1] at h
 | x :: y :: r, h => simp [one1] at h
theorem nameF_tags : ∀ (n : List Tag) (o : Option Tag), nameF o n = true → ∀ t ∈ n, tagOk t = true := by
 intro n
 induction n with
 | nil => intro o _ t ht; cases ht
 | cons x xs ih =>
   intro o h t ht
   simp only [nameF, Bool.and_eq_true] at h
   rcases List.mem_cons.1 ht with rfl | ht
   ·exact h.1.1
   ·exact ih _ h.2 t ht
theorem nameOk_sz {n : List Tag} (h : nameOk n = true) : n.length ≤ 3 ∧ NmSz n := by
 simp only [nameOk, Bool.and_eq_true] at h
 have h1 := inR_t h.2
 refine ⟨by omega, by omega, fun t ht => ?_⟩
 have h2 := nameF_tags n none h.1 t ht
 simp only [tagOk, Bool.and_eq_true] at h2
 have h3 := one1_len h2.1
 have h4 := one1_len h2.2
 omega
theorem NmI.sz {names : List (List Tag)} (h : NmI names) : ∀ n ∈ names, NmSz n := fun n hn => (nameOk_sz (h.ok n hn)).2
theorem nmF_spec (t : Str) : ∀ (ns : List (List Tag)) (i : Nat), (nmF t i ns = 0 ∧ t ∉ ns.map text) ∨ ((i : Int) < nmF t i ns ∧ nmF t i ns ≤ i + ns.length ∧ t ∈ ns.map text) := by
 intro ns
 induction ns with
 | nil => intro i; simp [nmF]
 | cons x xs ih =>
   intro i
   unfold nmF
   by_cases h : text x = t
   ·right
    simp [h]
    omega
   ·have h1 : ¬ (text x == t) = true := by simpa using h
    rw [if_neg h1]
    rcases ih (i + 1) with ⟨h2, h3⟩ | ⟨h2, h3, h4⟩
    ·left
     refine ⟨h2, ?_⟩
     simp only [List.map_cons, List.mem_cons, not_or]
     exact ⟨fun e => h e.symm, h3⟩
    ·right
     refine ⟨by omega, by simp only [List.length_cons]; omega, ?_⟩
     simp only [List.map_cons, List.mem_cons]
     exact .inr h4
theorem NmI.add {names : List (List Tag)} {ps : List Pst} (h : NmI names) {n : List Tag} (hn : nameOk n = true) (h0 : ¬ nmAt ⟨names, ps⟩ n > 0) (hl : names.length < 6) : NmI (names ++ [n]) := by
 refine ⟨by simp; omega, fun m hm => ?_, ?_⟩
 ·rcases List.mem_append.1 hm with hm | hm
  ·exact h.ok m hm
  ·simp at hm; rw [hm]; exact hn
 ·rw [List.map_append]
  refine List.nodup_append.2 ⟨h.nodup, by simp, fun a ha b hb => ?_⟩
  simp at hb
  subst hb
  rintro rfl
  rcases nmF_spec (text n) names 0 with ⟨h2, h3⟩ | ⟨h2, _, _⟩
  ·exact h3 ha
  ·exact h0 (by unfold nmAt; simpa using h2)
structure StoI (s : Sto) : Prop where
 idx : s.idx = idxOf s.idx.names
 nm : NmI s.idx.names
 np : s.parts.length ≤ 6
 part : ∀ p ∈ s.parts, PrtI p
 nm2 : s.mem.length ≤ 20
 mem : ∀ m ∈ s.mem, 1 ≤ m.id ∧ m.id ≤ s.idx.names.length ∧ rowOk m.row = true
theorem StoI.sz {s : Sto} (h : StoI s) : StoSz s := ⟨⟨by have := h.nm.len; omega, h.nm.sz⟩, by have := h.np; omega, fun p hp => (h.part p hp).sz, by have := h.nm2; omega⟩
theorem StoI.copy {s : Sto} (h : StoI s) : copyS s = s := by
 have := h.idx
 unfold copyS
 rw [← this]
theorem StoI.mem6 {s : Sto} (h : StoI s) : ∀ m ∈ s.mem, 1 ≤ m.id ∧ m.id ≤ 6 := fun m hm => by
 have h1 := h.mem m hm
 have h2 := h.nm.len
 omega
theorem StoI.new : StoI ⟨⟨[], []⟩, [], []⟩ := ⟨by rfl, ⟨by simp, by simp, by simp⟩, by simp, by simp, by simp, by simp⟩
theorem addR_I {ix : Idx} (h : ix = idxOf ix.names) (hn : NmI ix.names) (n : List Tag) :
 (addR ix n).1 = idxOf (addR ix n).1.names ∧ NmI (addR ix n).1.names ∧ ix.names.length ≤ (addR ix n).1.names.length ∧ ((addR ix n).2.2 = true → 1 ≤ (addR ix n).2.1 ∧ (addR ix n).2.1 ≤ (addR ix n).1.names.length) := by
 by_cases h1 : nmAt ix n > 0
 ·rw [addR_hit h1]
  refine ⟨h, hn, Nat.le_refl _, fun _ => ?_⟩
  rcases nmF_spec (text n) ix.names 0 with ⟨h2, _⟩ | ⟨h2, h3, _⟩
  ·unfold nmAt at h1; omega
  ·unfold nmAt at h1 ⊢; simp only; omega
 ·by_cases h2 : nameOk n = false ∨ (ix.names.length : Int) ≥ 6
  ·rw [addR_no h1 h2]
   exact ⟨h, hn, Nat.le_refl _, by simp⟩
  ·have h3 : nameOk n = true := by
    cases h4 : nameOk n
    ·exact absurd (.inl h4) h2
    ·rfl
   have h4 : ¬ (ix.names.length : Int) ≥ 6 := fun h => h2 (.inr h)
   rw [addR_new h1 h3 h4]
   refine ⟨rfl, ?_, by simp [idxOf], fun _ => by simp [idxOf]; omega⟩
   exact NmI.add (ps := ix.posts) hn h3 h1 (by omega)
theorem StoI.add {s : Sto} (h : StoI s) (n : List Tag) (r : Row) : StoI (addS s n r).1 := by
 unfold addS
 split
 ·exact h
 ·rename_i h1
  split
  ·exact h
  ·simp only [Bool.or_eq_true, not_or] at h1
   obtain ⟨⟨h1, h2⟩, h3⟩ := h1
   obtain ⟨g1, g2, g3, g4⟩ := addR_I h.idx h.nm n
   have h5 := g4 (by simpa using h1)
   refine ⟨g1, g2, h.np, h.part, ?_, fun m hm => ?_⟩
   ·have : ¬ s.mem.length ≥ 20 := by simpa using h3
    simp only [addX, List.length_append, List.length_cons, List.length_nil]; omega
   ·rcases List.mem_append.1 hm with hm | hm
    ·have := h.mem m hm
     refine ⟨this.1, ?_, this.2.2⟩
     have h6 := this.2.1
     show m.id ≤ ((addR s.idx n).1.names.length : Int)
     omega
    ·simp at hm
     subst hm
     exact ⟨h5.1, h5.2, by simpa using h2⟩
theorem StoI.flush {s : Sto} (h : StoI s) : StoI (flushR s).1 := by
 unfold flushR
 split
 ·exact h
 ·rename_i h1
  refine ⟨h.idx, h.nm, by simp; omega, fun p hp => ?_, by simp, by simp⟩
  rcases List.mem_append.1 hp with hp | hp
  ·exact h.part p hp
  ·simp at hp; subst hp; exact PrtI.mem (fun m hm => (h.mem m hm).2.2)
theorem StoI.merge {s : Sto} (h : StoI s) (a : Int) : StoI (mergeR s a).1 := by
 unfold mergeR
 split
 ·rename_i h1
  have h2 := inR_t h1
  have h3 : a.toNat + 1 < s.parts.length := by omega
  refine ⟨h.idx, h.nm, ?_, fun p hp => ?_, h.nm2, h.mem⟩
  ·show (mergeP s.parts a.toNat).length ≤ 6
   rw [mergeP_at (List.getElem?_eq_getElem (by omega)) (List.getElem?_eq_getElem h3)]
   have := h.np
   simp only [List.length_append, List.length_take, List.length_drop, List.length_cons, List.length_nil]
   omega
  ·change p ∈ mergeP s.parts a.toNat at hp
   rw [mergeP_at (List.getElem?_eq_getElem (by omega)) (List.getElem?_eq_getElem h3)] at hp
   rcases List.mem_append.1 hp with hp | hp
   ·rcases List.mem_append.1 hp with hp | hp
    ·exact h.part p (List.mem_of_mem_take hp)
    ·simp at hp; subst hp
     exact (h.part _ (List.getElem_mem _)).merge (h.part _ (List.getElem_mem _))
   ·exact h.part p (List.mem_of_mem_drop hp)
 ·exact h
structure DskI (d : Dsk) : Prop where
 nm : NmI d.names
 nf : d.files.length ≤ 20
 file : ∀ f ∈ d.files, PrtI f.part
 nl : d.list.length ≤ 6
 there : ∀ n ∈ d.list, ∃ f ∈ d.files, f.num = n
 num : ∀ n ∈ d.list, 0 ≤ n ∧ n ≤ 999
 next : 1 ≤ d.next ∧ d.next ≤ 999
theorem numF_spec (n : Int) : ∀ (fs : List Fil) (i : Nat), 0 ≤ numF n i fs ↔ ∃ f ∈ fs, f.num = n := by
 intro fs
 induction fs with
 | nil => intro i; simp [numF]
 | cons f fs ih =>
   intro i
   unfold numF
   by_cases h : f.num = n
   ·simp [h]
   ·have h1 : ¬ (f.num == n) = true := by simpa using h
    rw [if_neg h1, ih]
    simp [h]
theorem numAt_spec (d : Dsk) (n : Int) : 0 ≤ numAt d n ↔ ∃ f ∈ d.files, f.num = n := numF_spec n d.files 0
theorem DskI.at {d : Dsk} (h : DskI d) : ∀ n ∈ d.list, 0 ≤ numAt d n := fun n hn => (numAt_spec d n).2 (h.there n hn)
theorem DskI.new : DskI ⟨[], [], [], 1⟩ := ⟨⟨by simp, by simp, by simp⟩, by simp, by simp, by simp, by simp, by simp, by simp⟩
theorem DskI.part {d : Dsk} (h : DskI d) (n : Int) : PrtI (partNo d n) := by
 unfold partNo
 rw [List.getD_eq_getElem?_getD]
 cases hx : d.files[(numAt d n).toNat]? with
 | none => exact PrtI.nil
 | some f => exact h.file f (List.mem_of_getElem? hx)
theorem DskI.copy {d : Dsk} (h : DskI d) : DskI (copyD d) := by
 refine ⟨h.nm, by simp [copyD]; exact h.nf, fun f hf => ?_, h.nl, fun n hn => ?_, h.num, h.next⟩
 ·simp only [copyD, List.mem_map] at hf
  obtain ⟨g, hg, rfl⟩ := hf
  exact (h.file g hg).merge PrtI.nil
 ·obtain ⟨f, hf, he⟩ := h.there n hn
  exact ⟨copyF f, by simp only [copyD, List.mem_map]; exact ⟨f, hf, rfl⟩, he⟩
theorem DskI.tidy {d : Dsk} (h : DskI d) : DskI (tidyD d) := by
 refine ⟨h.nm, Nat.le_trans (List.length_filter_le _ _) h.nf, fun f hf => h.file f (List.mem_filter.1 hf).1, h.nl, fun n hn => ?_, h.num, h.next⟩
 obtain ⟨f, hf, he⟩ := h.there n hn
 exact ⟨f, List.mem_filter.2 ⟨hf, by rw [he]; have h1 : n ∈ d.list := hn; simpa using h1⟩, he⟩
theorem DskI.open {d : Dsk} (h : DskI d) : StoI (openS d) := by
 refine ⟨rfl, h.nm, by simp [openS]; exact h.nl, fun p hp => ?_, by simp [openS], by simp [openS]⟩
 simp only [openS, List.mem_map] at hp
 obtain ⟨n, _, rfl⟩ := hp
 exact h.part n
theorem DskI.gone {d : Dsk} (h : DskI d) (n : Int) : DskI ⟨goneF d n, d.list, d.names, d.next⟩ := by
 unfold goneF
 split
 ·rename_i h1
  refine ⟨h.nm, ?_, fun f hf => ?_, h.nl, fun k hk => ?_, h.num, h.next⟩
  ·have := h.nf
   simp only [List.length_append, List.length_take, List.length_drop]; omega
  ·rcases List.mem_append.1 hf with hf | hf
   ·exact h.file f (List.mem_of_mem_take hf)
   ·exact h.file f (List.mem_of_mem_drop hf)
  ·obtain ⟨f, hf, he⟩ := h.there k hk
   obtain ⟨i, hi, hif⟩ := List.mem_iff_getElem.1 hf
   have hne : k ≠ n := by rintro rfl; have := h1.2; simp at this; exact this hk
   have hat : ∀ (fs : List Fil) (j : Nat) (g : Fil), 0 ≤ numF n j fs → fs[(numF n j fs).toNat - j]? = some g → g.num = n := by
    intro fs
    induction fs with
    | nil => intro j g hj; simp [numF] at hj
    | cons y ys ih =>
      intro j g hj hg
      unfold numF at hj hg
      by_cases hy : (y.num == n) = true
      ·rw [if_pos hy] at hg
       simp at hg
       subst hg
       simpa using hy
      ·rw [if_neg hy] at hj hg
       have h3 := numF_lt n ys (j + 1)
       have h4 : (numF n (j + 1) ys).toNat - j = ((numF n (j + 1) ys).toNat - (j + 1)) + 1 := by omega
       rw [h4, List.getElem?_cons_succ] at hg
       exact ih _ _ hj hg
   have hin : i ≠ (numAt d n).toNat := by
    rintro rfl
    have := hat d.files 0 f h1.1 (by show d.files[(numAt d n).toNat - 0]? = _; rw [Nat.sub_zero, List.getElem?_eq_getElem hi, hif])
    exact hne (he ▸ this)
   refine ⟨f, ?_, he⟩
   rcases Nat.lt_or_gt_of_ne hin with hlt | hgt
   ·refine List.mem_append.2 (.inl (List.mem_iff_getElem.2 ⟨i, by simp; omega, ?_⟩))
    rw [List.getElem_take]; exact hif
   ·refine List.mem_append.2 (.inr (List.mem_iff_getElem.2 ⟨i - ((numAt d n).toNat + 1), by simp; omega, ?_⟩))
    rw [List.getElem_drop]
    simp only [show (numAt d n).toNat + 1 + (i - ((numAt d n).toNat + 1)) = i by omega]
    exact hif
 ·exact h
theorem DskI.file1 {d : Dsk} (h : DskI d) {p : Prt} (hp : PrtI p) (hf : d.files.length < 20) (hn : d.next < 999) : DskI ⟨d.files ++ [⟨d.next, p⟩], d.list, d.names, d.next + 1⟩ := by
 refine ⟨h.nm, by simp; omega, fun f hf => ?_, h.nl, fun n hn => ?_, h.num, by have := h.next; simp only; omega⟩
 ·rcases List.mem_append.1 hf with hf | hf
  ·exact h.file f hf
  ·simp at hf; subst hf; exact hp
 ·obtain ⟨f, hf, he⟩ := h.there n hn
  exact ⟨f, List.mem_append.2 (.inl hf), he⟩
structure WI (w : Wld) : Prop where
 sto : StoI w.store
 dsk : DskI w.disk
theorem WI.new : WI ⟨⟨⟨[], []⟩, [], []⟩, ⟨[], [], [], 1⟩⟩ := ⟨StoI.new, DskI.new⟩
theorem WI.fall {w : Wld} (h : DskI w.disk) : WI (fallW w) := by
 have h1 := h.tidy.copy
 refine ⟨?_, h1⟩
 show StoI (copyS (openS (copyD (tidyD w.disk))))
 rw [h1.open.copy]
 exact h1.open
theorem WI.copy {w : Wld} (h : WI w) : WI (copyW w) := ⟨by show StoI (copyS w.store); rw [h.sto.copy]; exact h.sto, h.dsk.copy⟩
structure StI (d : Dsk) (st : List Stp) : Prop where
 len : st.length ≤ 4
 sz : ∀ x ∈ st, StpSz x
 ok : ∀ k : Nat, DskI ((st.take k).foldl doD d)
theorem StI.nil {d : Dsk} (h : DskI d) : StI d [] := ⟨by simp, by simp, by simpa using h⟩
theorem stp_pt {d : Dsk} {x : Stp} {xs : List Stp} (h0 : DskI d) (h : ∀ k : Nat, DskI ((xs.take k).foldl doD (doD d x))) : ∀ k : Nat, DskI (((x :: xs).take k).foldl doD d) := by
 intro k
 cases k with
 | zero => exact h0
 | succ k => exact h k
theorem stp_end {d : Dsk} (h0 : DskI d) : ∀ k : Nat, DskI ((([] : List Stp).take k).foldl doD d) := by intro k; simpa using h0
theorem StI.flush {w : Wld} (h : WI w) : StI w.disk (flushSt w.disk w.store) := by
 unfold flushSt
 split
 ·exact StI.nil h.dsk
 ·rename_i h1
  have hd := h.dsk
  have hs := h.sto
  have hp : PrtI (memPart w.store.mem) := PrtI.mem (fun m hm => (hs.mem m hm).2.2)
  have h2 := hd.file1 hp (by omega) (by omega)
  have hn := hd.next
  refine ⟨by simp, fun x hx => ?_, ?_⟩
  ·simp only [List.mem_cons, List.not_mem_nil, or_false] at hx
   rcases hx with rfl | rfl
   ·exact ⟨by simp, by simp, by simp, by simp only; omega, by simp only; omega⟩
   ·refine ⟨?_, ?_, fun n hn => ?_, by simp, by simp⟩
    ·have := hd.nl; simp; omega
    ·have := hs.nm.len; simp only; omega
    ·have := (hs.nm.sz n hn).1; omega
  ·refine stp_pt hd (stp_pt ?_ (stp_end ?_))
   ·rw [doD_1 rfl]; exact h2
   ·rw [doD_2 rfl, doD_1 rfl]
    refine ⟨hs.nm, h2.nf, h2.file, by simp only [List.length_append, List.length_cons, List.length_nil]; omega, fun n hn' => ?_, fun n hn' => ?_, h2.next⟩
    ·rcases List.mem_append.1 hn' with hn' | hn'
     ·exact h2.there n hn'
     ·simp at hn'; subst hn'
      exact ⟨⟨w.disk.next, memPart w.store.mem⟩, by simp, rfl⟩
    ·rcases List.mem_append.1 hn' with hn' | hn'
     ·exact h2.num n hn'
     ·simp at hn'; omega
theorem StI.merge {d : Dsk} (hd : DskI d) (at_ : Int) : StI d (mergeSt d at_) := by
 unfold mergeSt
 split
 ·exact StI.nil hd
 ·rename_i h1
  simp only [Bool.or_eq_true, not_or, Bool.not_eq_true, Bool.not_eq_false', decide_eq_true_eq] at h1
  obtain ⟨⟨h1, h3⟩, h4⟩ := h1
  have h0 := inR_t (by simpa using h1)
  have hl : at_.toNat + 1 < d.list.length := by omega
  have ha : d.list.getD at_.toNat 0 ∈ d.list := by rw [List.getD_eq_getElem?_getD, List.getElem?_eq_getElem (by omega)]; exact List.getElem_mem _
  have hb : d.list.getD (at_.toNat + 1) 0 ∈ d.list := by rw [List.getD_eq_getElem?_getD, List.getElem?_eq_getElem hl]; exact List.getElem_mem _
  have na := hd.num _ ha
  have nb := hd.num _ hb
  generalize d.list.getD at_.toNat 0 = a at *
  generalize d.list.getD (at_.toNat + 1) 0 = b at *
  have hp : PrtI (pMerge (partNo d a) (partNo d b)) := (hd.part a).merge (hd.part b)
  have h2 := hd.file1 hp (by omega) (by omega)
  have hn := hd.next
  have hlen : (d.list.take at_.toNat ++ [d.next] ++ d.list.drop (at_.toNat + 2)).length ≤ 6 := by
   have := hd.nl
   simp only [List.length_append, List.length_take, List.length_drop, List.length_cons, List.length_nil]; omega
  have hm : ∀ n ∈ d.list.take at_.toNat ++ [d.next] ++ d.list.drop (at_.toNat + 2), n ∈ d.list ∨ n = d.next := by
   intro n hn
   rcases List.mem_append.1 hn with hn | hn
   ·rcases List.mem_append.1 hn with hn | hn
    ·exact .inl (List.mem_of_mem_take hn)
    ·simp at hn; exact .inr hn
   ·exact .inl (List.mem_of_mem_drop hn)
  have h5 : DskI ⟨d.files ++ [⟨d.next, pMerge (partNo d a) (partNo d b)⟩], d.list.take at_.toNat ++ [d.next] ++ d.list.drop (at_.toNat + 2), d.names, d.next + 1⟩ := by
   refine ⟨h2.nm, h2.nf, h2.file, hlen, fun n hn' => ?_, fun n hn' => ?_, h2.next⟩
   ·rcases hm n hn' with hn' | rfl
    ·exact h2.there n hn'
    ·exact ⟨⟨d.next, pMerge (partNo d a) (partNo d b)⟩, by simp, rfl⟩
   ·rcases hm n hn' with hn' | rfl
    ·exact h2.num n hn'
    ·omega
  refine ⟨by simp, fun x hx => ?_, ?_⟩
  ·simp only [List.mem_cons, List.not_mem_nil, or_false] at hx
   rcases hx with rfl | rfl | rfl | rfl
   ·exact ⟨by simp, by simp, by simp, by simp only; omega, by simp only; omega⟩
   ·refine ⟨by simp only; omega, by have := hd.nm.len; simp only; omega, fun n hn => ?_, by simp, by simp⟩
    have := (hd.nm.sz n hn).1; omega
   ·exact ⟨by simp, by simp, by simp, by simp only; omega, by simp only; omega⟩
   ·exact ⟨by simp, by simp, by simp, by simp only; omega, by simp only; omega⟩
  ·refine stp_pt hd (stp_pt ?_ (stp_pt ?_ (stp_pt ?_ (stp_end ?_))))
   ·rw [doD_1 rfl]; exact h2
   ·rw [doD_2 rfl, doD_1 rfl]; exact h5
   ·rw [doD_3 rfl, doD_2 rfl, doD_1 rfl]; exact h5.gone a
   ·rw [doD_3 rfl, doD_3 rfl, doD_2 rfl, doD_1 rfl]; exact (h5.gone a).gone b
theorem WI.steps {w : Wld} (h : WI w) {st : List Stp} (hs : StI w.disk st) (cut : Int) {s : Sto} (h2 : StoI s) : WI (stepsW w st cut s) := by
 unfold stepsW
 split
 ·exact h
 ·split
  ·exact WI.fall (hs.ok _)
  ·exact ⟨h2, hs.ok _⟩
theorem WI.do {w : Wld} (h : WI w) (e : Evt) : WI (doW w e) := by
 unfold doW
 split
 ·split
  ·exact ⟨h.sto.add _ _, h.dsk⟩
  ·exact h
 ·split
  ·exact h.steps (StI.flush h) _ h.sto.flush
  ·split
   ·exact h.steps (StI.merge h.dsk _) _ (h.sto.merge _)
   ·split
    ·exact WI.fall h.dsk
    ·exact h
theorem stepsW_0 {w : Wld} {st : List Stp} {c : Int} {s : Sto} (h : (st.length : Int) = 0 ∨ c < 0) : stepsW w st c s = w := by unfold stepsW; rw [if_pos (by omega)]
theorem stepsW_1 {w : Wld} {st : List Stp} {c : Int} {s : Sto} (h : (st.length : Int) ≠ 0) (h2 : ¬ c < 0) (h3 : c < st.length) : stepsW w st c s = fallW ⟨w.store, toD w.disk st c⟩ := by unfold stepsW; rw [if_neg (by omega), if_pos h3]
theorem stepsW_2 {w : Wld} {st : List Stp} {c : Int} {s : Sto} (h : (st.length : Int) ≠ 0) (h2 : ¬ c < 0) (h3 : ¬ c < st.length) : stepsW w st c s = ⟨s, toD w.disk st c⟩ := by unfold stepsW; rw [if_neg (by omega), if_neg h3]
theorem doW_1 {w : Wld} {e : Evt} (h : e.kind = 1) (h2 : nameOk e.name = true) : doW w e = ⟨(addS w.store e.name e.row).1, w.disk⟩ := by unfold doW; rw [if_pos h, if_pos h2]
theorem doW_1f {w : Wld} {e : Evt} (h : e.kind = 1) (h2 : nameOk e.name = false) : doW w e = w := by unfold doW; rw [if_pos h, if_neg (by simp [h2])]
theorem doW_2 {w : Wld} {e : Evt} (h : e.kind = 2) : doW w e = stepsW w (flushSt w.disk w.store) e.cut (flushR w.store).1 := by unfold doW; rw [if_neg (by omega), if_pos h]
theorem doW_3 {w : Wld} {e : Evt} (h : e.kind = 3) : doW w e = stepsW w (mergeSt w.disk e.at_) e.cut (mergeR w.store e.at_).1 := by unfold doW; rw [if_neg (by omega), if_neg (by omega), if_pos h]
theorem doW_4 {w : Wld} {e : Evt} (h : e.kind = 4) : doW w e = fallW w := by unfold doW; rw [if_neg (by omega), if_neg (by omega), if_neg (by omega), if_pos h]
theorem doW_0 {w : Wld} {e : Evt} (h : e.kind ≠ 1) (h2 : e.kind ≠ 2) (h3 : e.kind ≠ 3) (h4 : e.kind ≠ 4) : doW w e = w := by unfold doW; rw [if_neg h, if_neg h2, if_neg h3, if_neg h4]
end Go.Proofs.YtganlmloonielaaGreat
