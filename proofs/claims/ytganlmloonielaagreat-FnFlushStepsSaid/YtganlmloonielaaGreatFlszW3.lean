/- walks; hints pruned; squeezed -/
import Derived.Test.YtganlmloonielaaGreatFlszMem
set_option linter.unusedVariables false
set_option linter.unusedSimpArgs false
namespace Go.Proofs.YtganlmloonielaaGreat
set_option maxRecDepth 100000
set_option maxHeartbeats 4000000
theorem c_spec_NameOk (n : List Tag) {w : World} {F : Nat → Prop} {a1 : Option Addr} {n1 c1 : Nat} (h1 : RepS w F a1 n1 c1 n)  : Calls Tryz.prog 134 [.slice a1 n1 c1].toArray w (rets fun rv w' => rv = .bool (nameOk n) ∧ Ext w w') := by
 refine goT Tryz.func134 ?_
 obtain ⟨rfl, ay, h1⟩ := h1.tp
 refine .s <| .g <| .r 1 <| .d <| .s <| .s <| .g <| .r 1 <| .d <| .b 0 <| T.loop (X := Nat) 0 (fun i => [(0, .slice a1 n.length c1), (3, vI (i : Int))]) (fun i W => Chg (ins []) w W ∧ (i ≤ n.length) ∧ (nameF (prev n i) (n.drop i) = nameF none n)) (fun i => n.length - i) (by kernel_rfl) ⟨by kernel_rfl, by kernel_rfl, trivial⟩ ⟨Chg.refl _ _, (by simp [prev]), (by simp [prev])⟩ ?_
 rintro i aG W ⟨C, az, aA⟩ J
 have ae : Mv [] [] w W := Mv.inl C all_nil all_nil
 replace h1 := (sp ae C).g1 h1
 have E : Chg nil w W := Chg.stepI (Chg.refl nil w) C all_nil
 refine .s <| .s <| .g <| .r 3 <| .bp ((i : Int) < (n.length : Int)) (fun am => ?_) (fun am => ?_)
 ·refine .d <| .ct <| .sk <| .s <| .b 1 <| .s <| .gd nil 21 fun aH af => ?_
  replace ⟨h1, E, C⟩ := (se [] af).g3 h1 E C
  refine .r [0, 1] ?_
  have ao : i < n.length := (by omega)
  refine .ix 2 i 2 h1 ao ?_
  obtain ⟨O, aa⟩ : ∃ y, n[i]? = some y := ⟨_, List.getElem?_eq_getElem (by omega)⟩
  have aB := drop_at aa; have av := List.mem_of_getElem? aa
  obtain ⟨_, rfl, ag⟩ := h1.elem i O aa
  refine .lg 3 0 ag id <| GA.call1 (i := 4) (by kernel_rfl) (fun ax aC => c_spec_l3Tag O (w := ax) (F := all)) ?_
  cases aD : (tagOk O)
  ·refine .r [5, 6] <| GA.skip (by kernel_rfl) fun aI ah => ?_
   replace ⟨h1, E, C⟩ := (se [] ah).g3 h1 E C
   exact .r 3 <| .d <| .ct <| .s <| .g <| .r 1 <| .d <| .rt Tryz.func134 Tryz.results134 (.bool false) ⟨(congrArg Value.bool (by grind [nameF, nameOk, prev, drop_end])), E⟩
  refine .r [5, 6, 7] <| GA.boolP (i := 8) ((i : Int) > 0) (by kernel_rfl) (fun aq => ?_) (fun aq => ?_)
  ·refine .r [9, 10, 11] <| GA.int (i := 12) ((i : Int) - 1) (by kernel_rfl) (by omega) ?_
   have ai : i - 1 < n.length := (by omega)
   refine GA.idx (i := 13) (i - 1) (len := n.length) (z := (i : Int) - 1) (sz := 2) (by kernel_rfl) (by omega) ai (h1.addr (Nat.zero_lt_of_lt ai)) <| .r [14] ?_
   obtain ⟨ac, ab⟩ : ∃ y, n[i - 1]? = some y := ⟨_, List.getElem?_eq_getElem (by omega)⟩
   have aE := drop_at ab; have aw := List.mem_of_getElem? ab
   obtain ⟨_, rfl, ar⟩ := h1.elem (i - 1) ac ab
   refine .lh 15 0 ar id <| .r [16, 17] ?_
   have au : i < n.length := (by omega)
   refine .ix 18 i 2 h1 au <| .r [19] <| .lh 20 0 ag id <| .d fun aJ aj => ?_
   replace ⟨E, C⟩ := (se [] aj).g2 E C
   refine RG.eqv (v := .bool (!(strLt ac.key O.key))) (by kernel_rfl) (s_ge ac.key O.key) ?_
   cases aF : (strLt ac.key O.key)
   ·exact .r 2 <| .d <| .ct <| .s <| .g <| .r 1 <| .d <| .rt Tryz.func134 Tryz.results134 (.bool false) ⟨(congrArg Value.bool (by grind [nameF, nameOk, prev, drop_end])), E⟩
   exact .r 2 <| .d <| .cf <| .sk <| .ib 1 <| .g <| .r 1 <| .it ((i : Int) + 1) <| .r 1 <| .d <| J (i + 1) _ _ ⟨by kernel_rfl, by kernel_rfl, trivial⟩ ⟨C, (by omega), (by grind [nameF, prev])⟩ (by omega)
  refine .r [9] <| GA.skip (by kernel_rfl) fun aK ak => ?_
  replace ⟨E, C⟩ := (se [] ak).g2 E C
  exact .r 3 <| .d <| .cf <| .sk <| .ib 1 <| .g <| .r 1 <| .it ((i : Int) + 1) <| .r 1 <| .d <| J (i + 1) _ _ ⟨by kernel_rfl, by kernel_rfl, trivial⟩ ⟨C, (by omega), (by grind [nameF, prev])⟩ (by omega)
 refine .d <| .cf <| .x 0 rfl <| .s <| .g <| .r 2 <| .cl (c_spec_l6In (n.length : Int) 1 3 (w := W) (F := all)) ?_
 rintro aL aM ⟨rfl, al⟩
 replace E := (se [] al).g1 E
 exact .r 1 <| .d <| .rt Tryz.func134 Tryz.results134 (.bool (inR (n.length : Int) 1 3)) ⟨(congrArg Value.bool (by grind [nameF, nameOk, prev, drop_end])), E⟩
theorem c_impl_NameOk (n : List Tag) {w : World} {F : Nat → Prop} {a1 : Option Addr} {n1 c1 : Nat} (h1 : RepS w F a1 n1 c1 n)  : Calls Tryz.prog 164 [.slice a1 n1 c1].toArray w (rets fun rv w' => rv = .bool (nameOk n) ∧ Ext w w') := by
 refine goT Tryz.func164 ?_
 obtain ⟨rfl, aF, h1⟩ := h1.tp
 refine .s <| .g <| .r 1 <| .d <| .s <| .s <| .g <| .r 3 <| .d <| .b 0 <| T.loop (X := Nat) 0 (fun k => [(0, .slice a1 n.length c1), (5, .slice a1 n.length c1), (6, vI (n.length : Int)), (7, vI (k : Int))]) (fun k ab => Chg (ins []) w ab ∧ (k ≤ n.length) ∧ (nameF (prev n k) (n.drop k) = nameF none n)) (fun k => n.length - k) (by kernel_rfl) ⟨by kernel_rfl, by kernel_rfl, by kernel_rfl, by kernel_rfl, trivial⟩ ⟨Chg.refl _ _, (by simp [prev]), (by simp [prev])⟩ ?_
 rintro k aP ab ⟨C, aG, aH⟩ O
 have ag : Mv [] [] w ab := Mv.inl C all_nil all_nil
 replace h1 := (sp ag C).g1 h1
 have E : Chg nil w ab := Chg.stepI (Chg.refl nil w) C all_nil
 refine .s <| .g <| .bp ((k : Int) < (n.length : Int)) (fun au => ?_) (fun au => ?_)
 ·refine .d <| .s <| .ct <| .sk <| .s <| .b 1 <| .s <| .g <| .r 1 ?_
  have av : k < n.length := (by omega)
  refine .ix k 2 h1 av ?_
  obtain ⟨W, ac⟩ : ∃ y, n[k]? = some y := ⟨_, List.getElem?_eq_getElem (by omega)⟩
  have aI := drop_at ac; have aC := List.mem_of_getElem? ac
  obtain ⟨_, rfl, aw⟩ := h1.elem k W ac
  refine .lg 0 aw <| .np 120 [.string (bs []), .string (bs [])] fun ar aQ aa ah ax ay => ?_
  have aJ := E.cn aa
  have aK := C.cn aa
  replace ⟨h1, E, C⟩ := (sn [] ah aa).g3 h1 E C
  refine .r 1 <| .sc [vT W.key, vT W.val] ax fun aR ai J az => ?_
  replace ⟨h1, E, C⟩ := (so [ar] ai).g3 h1 E C
  refine .d <| .s <| .gd nil 15 fun aS aj => ?_
  replace ⟨h1, J, E, C⟩ := (se [ar] aj).g4 h1 J E C
  refine .ln 0 J id <| GA.call1 (i := 1) (by kernel_rfl) (fun aE aL => c_impl_tagOk W (w := aE) (F := all)) ?_
  cases aM : (tagOk W)
  ·refine .r [2, 3] <| GA.skip (by kernel_rfl) fun aT ak => ?_
   replace ⟨h1, J, E, C⟩ := (se [ar] ak).g4 h1 J E C
   exact .r 3 <| .d <| .ct <| .s <| .g <| .r 1 <| .d <| .rt Tryz.func164 Tryz.results164 (.bool false) ⟨(congrArg Value.bool (by grind [nameF, nameOk, prev, drop_end])), E⟩
  refine .r [2, 3, 4] <| GA.boolP (i := 5) ((k : Int) > 0) (by kernel_rfl) (fun aA => ?_) (fun aA => ?_)
  ·refine .r [6, 7, 8] <| GA.int (i := 9) ((k : Int) - 1) (by kernel_rfl) (by omega) ?_
   have al : k - 1 < n.length := (by omega)
   refine GA.idx (i := 10) (k - 1) (len := n.length) (z := (k : Int) - 1) (sz := 2) (by kernel_rfl) (by omega) al (h1.addr (Nat.zero_lt_of_lt al)) <| .r [11] ?_
   obtain ⟨af, ae⟩ : ∃ y, n[k - 1]? = some y := ⟨_, List.getElem?_eq_getElem (by omega)⟩
   have aN := drop_at ae; have aD := List.mem_of_getElem? ae
   obtain ⟨_, rfl, aB⟩ := h1.elem (k - 1) af ae
   refine .lh 12 0 aB id <| .r [13] <| .lb 14 J id <| .d fun aU am => ?_
   replace ⟨E, C⟩ := (se [] am).g2 E C
   refine RG.eqv (v := .bool (!(strLt af.key W.key))) (by kernel_rfl) (s_ge af.key W.key) ?_
   cases aO : (strLt af.key W.key)
   ·exact .r 2 <| .d <| .ct <| .s <| .g <| .r 1 <| .d <| .rt Tryz.func164 Tryz.results164 (.bool false) ⟨(congrArg Value.bool (by grind [nameF, nameOk, prev, drop_end])), E⟩
   exact .r 2 <| .d <| .cf <| .sk <| .ib 1 <| .g <| .it ((k : Int) + 1) <| .r 1 <| .d <| O (k + 1) _ _ ⟨by kernel_rfl, by kernel_rfl, by kernel_rfl, by kernel_rfl, trivial⟩ ⟨C, (by omega), (by grind [nameF, prev])⟩ (by omega)
  refine .r [6] <| GA.skip (by kernel_rfl) fun aV ao => ?_
  replace ⟨E, C⟩ := (se [] ao).g2 E C
  exact .r 3 <| .d <| .cf <| .sk <| .ib 1 <| .g <| .it ((k : Int) + 1) <| .r 1 <| .d <| O (k + 1) _ _ ⟨by kernel_rfl, by kernel_rfl, by kernel_rfl, by kernel_rfl, trivial⟩ ⟨C, (by omega), (by grind [nameF, prev])⟩ (by omega)
 refine .d <| .s <| .cf <| .x 0 rfl <| .s <| .g <| .r 2 <| .cl (c_impl_within (n.length : Int) 1 3 (w := ab) (F := all)) ?_
 rintro aW aX ⟨rfl, aq⟩
 replace E := (se [] aq).g1 E
 exact .r 1 <| .d <| .rt Tryz.func164 Tryz.results164 (.bool (inR (n.length : Int) 1 3)) ⟨(congrArg Value.bool (by grind [nameF, nameOk, prev, drop_end])), E⟩
theorem c_spec_BlockOk (b : List Row) {w : World} {F : Nat → Prop} {a1 : Option Addr} {n1 c1 : Nat} (h1 : RepS w F a1 n1 c1 b)  : Calls Tryz.prog 112 [.slice a1 n1 c1].toArray w (rets fun rv w' => rv = .bool (blockOk b) ∧ Ext w w') := by
 refine goT Tryz.func112 ?_
 obtain ⟨rfl, ay, h1⟩ := h1.tp
 refine .s <| .g <| .r 1 <| .d <| .s <| .s <| .g <| .r 1 <| .d <| .b 0 <| T.loop (X := Nat) 0 (fun i => [(0, .slice a1 b.length c1), (3, vI (i : Int))]) (fun i aa => Chg (ins []) w aa ∧ (i ≤ b.length) ∧ (blockF (prev b i) (b.drop i) = blockF none b)) (fun i => b.length - i) (by kernel_rfl) ⟨by kernel_rfl, by kernel_rfl, trivial⟩ ⟨Chg.refl _ _, (by simp [prev]), (by simp [prev])⟩ ?_
 rintro i aF aa ⟨C, az, aA⟩ J
 have ac : Mv [] [] w aa := Mv.inl C all_nil all_nil
 replace h1 := (sp ac C).g1 h1
 have E : Chg nil w aa := Chg.stepI (Chg.refl nil w) C all_nil
 refine .s <| .s <| .g <| .r 3 <| .bp ((i : Int) < (b.length : Int)) (fun ak => ?_) (fun ak => .d <| .cf <| .x 0 rfl <| .s <| .g <| .r 4 <| .d <| .rt Tryz.func112 Tryz.results112 (.bool (decide ((b.length : Int) ≤ 24))) ⟨(congrArg Value.bool (by grind [blockF, blockOk, prev, drop_end])), E⟩)
 refine .d <| .ct <| .sk <| .s <| .b 1 <| .s <| .gd nil 21 fun aG ae => ?_
 replace ⟨h1, E, C⟩ := (se [] ae).g3 h1 E C
 refine .r [0, 1] ?_
 have al : i < b.length := (by omega)
 refine .ix 2 i 2 h1 al ?_
 obtain ⟨ab, O⟩ : ∃ y, b[i]? = some y := ⟨_, List.getElem?_eq_getElem (by omega)⟩
 have aB := drop_at O; have av := List.mem_of_getElem? O
 obtain ⟨_, rfl, af⟩ := h1.elem i ab O
 refine .lg 3 0 af id <| GA.call1 (i := 4) (by kernel_rfl) (fun ax aC => c_spec_l2Row ab (w := ax) (F := all)) ?_
 cases aD : (rowOk ab)
 ·refine .r [5, 6] <| GA.skip (by kernel_rfl) fun aH ag => ?_
  replace ⟨h1, E, C⟩ := (se [] ag).g3 h1 E C
  exact .r 3 <| .d <| .ct <| .s <| .g <| .r 1 <| .d <| .rt Tryz.func112 Tryz.results112 (.bool false) ⟨(congrArg Value.bool (by grind [blockF, blockOk, prev, drop_end])), E⟩
 refine .r [5, 6, 7] <| GA.boolP (i := 8) ((i : Int) > 0) (by kernel_rfl) (fun am => ?_) (fun am => ?_)
 ·refine .r [9, 10, 11] <| GA.int (i := 12) ((i : Int) - 1) (by kernel_rfl) (by omega) ?_
  have ah : i - 1 < b.length := (by omega)
  refine GA.idx (i := 13) (i - 1) (len := b.length) (z := (i : Int) - 1) (sz := 2) (by kernel_rfl) (by omega) ah (h1.addr (Nat.zero_lt_of_lt ah)) <| .r [14] ?_
  obtain ⟨ao, W⟩ : ∃ y, b[i - 1]? = some y := ⟨_, List.getElem?_eq_getElem (by omega)⟩
  have aE := drop_at W; have aw := List.mem_of_getElem? W
  obtain ⟨_, rfl, aq⟩ := h1.elem (i - 1) ao W
  refine .lh 15 0 aq id <| .r [16, 17] ?_
  have ar : i < b.length := (by omega)
  refine .ix 18 i 2 h1 ar <| .r [19] <| .lh 20 0 af id <| .d fun aI ai => ?_
  replace ⟨E, C⟩ := (se [] ai).g2 E C
  exact .bp (ao.t ≥ ab.t) (fun au => .r 2 <| .d <| .ct <| .s <| .g <| .r 1 <| .d <| .rt Tryz.func112 Tryz.results112 (.bool false) ⟨(congrArg Value.bool (by grind [blockF, blockOk, prev, drop_end])), E⟩) fun au => .r 2 <| .d <| .cf <| .sk <| .ib 1 <| .g <| .r 1 <| .it ((i : Int) + 1) <| .r 1 <| .d <| J (i + 1) _ _ ⟨by kernel_rfl, by kernel_rfl, trivial⟩ ⟨C, (by omega), (by grind [blockF, prev])⟩ (by omega)
 refine .r [9] <| GA.skip (by kernel_rfl) fun aJ aj => ?_
 replace ⟨E, C⟩ := (se [] aj).g2 E C
 exact .r 3 <| .d <| .cf <| .sk <| .ib 1 <| .g <| .r 1 <| .it ((i : Int) + 1) <| .r 1 <| .d <| J (i + 1) _ _ ⟨by kernel_rfl, by kernel_rfl, trivial⟩ ⟨C, (by omega), (by grind [blockF, prev])⟩ (by omega)
theorem c_impl_BlockOk (b : List Row) {w : World} {F : Nat → Prop} {a1 : Option Addr} {n1 c1 : Nat} (h1 : RepS w F a1 n1 c1 b)  : Calls Tryz.prog 118 [.slice a1 n1 c1].toArray w (rets fun rv w' => rv = .bool (blockOk b) ∧ Ext w w') := by
 refine goT Tryz.func118 ?_
 obtain ⟨rfl, aF, h1⟩ := h1.tp
 refine .s <| .g <| .r 1 <| .d <| .s <| .s <| .g <| .r 3 <| .d <| .b 0 <| T.loop (X := Nat) 0 (fun k => [(0, .slice a1 b.length c1), (5, .slice a1 b.length c1), (6, vI (b.length : Int)), (7, vI (k : Int))]) (fun k ae => Chg (ins []) w ae ∧ (k ≤ b.length) ∧ (blockF (prev b k) (b.drop k) = blockF none b)) (fun k => b.length - k) (by kernel_rfl) ⟨by kernel_rfl, by kernel_rfl, by kernel_rfl, by kernel_rfl, trivial⟩ ⟨Chg.refl _ _, (by simp [prev]), (by simp [prev])⟩ ?_
 rintro k aO ae ⟨C, aG, aH⟩ O
 have af : Mv [] [] w ae := Mv.inl C all_nil all_nil
 replace h1 := (sp af C).g1 h1
 have E : Chg nil w ae := Chg.stepI (Chg.refl nil w) C all_nil
 refine .s <| .g <| .bp ((k : Int) < (b.length : Int)) (fun aq => ?_) (fun aq => .d <| .s <| .cf <| .x 0 rfl <| .s <| .g <| .r 4 <| .d <| .rt Tryz.func118 Tryz.results118 (.bool (decide ((b.length : Int) ≤ 24))) ⟨(congrArg Value.bool (by grind [blockF, blockOk, prev, drop_end])), E⟩)
 refine .d <| .s <| .ct <| .sk <| .s <| .b 1 <| .s <| .g <| .r 1 ?_
 have ar : k < b.length := (by omega)
 refine .ix k 2 h1 ar ?_
 obtain ⟨aa, ab⟩ : ∃ y, b[k]? = some y := ⟨_, List.getElem?_eq_getElem (by omega)⟩
 have aI := drop_at ab; have aC := List.mem_of_getElem? ab
 obtain ⟨_, rfl, au⟩ := h1.elem k aa ab
 refine .lg 0 au <| .np 105 [vI 0, vI 0] fun ao aP W ag av aw => ?_
 have aJ := E.cn W
 have aK := C.cn W
 replace ⟨h1, E, C⟩ := (sn [] ag W).g3 h1 E C
 refine .r 1 <| .sc [vI aa.t, vI aa.v] av fun aQ ah J ax => ?_
 replace ⟨h1, E, C⟩ := (so [ao] ah).g3 h1 E C
 refine .d <| .s <| .gd nil 15 fun aR ai => ?_
 replace ⟨h1, J, E, C⟩ := (se [ao] ai).g4 h1 J E C
 refine .ln 0 J id <| GA.call1 (i := 1) (by kernel_rfl) (fun aE aL => c_impl_rowOk aa (w := aE) (F := all)) ?_
 cases aM : (rowOk aa)
 ·refine .r [2, 3] <| GA.skip (by kernel_rfl) fun aS aj => ?_
  replace ⟨h1, J, E, C⟩ := (se [ao] aj).g4 h1 J E C
  exact .r 3 <| .d <| .ct <| .s <| .g <| .r 1 <| .d <| .rt Tryz.func118 Tryz.results118 (.bool false) ⟨(congrArg Value.bool (by grind [blockF, blockOk, prev, drop_end])), E⟩
 refine .r [2, 3, 4] <| GA.boolP (i := 5) ((k : Int) > 0) (by kernel_rfl) (fun ay => ?_) (fun ay => ?_)
 ·refine .r [6, 7, 8] <| GA.int (i := 9) ((k : Int) - 1) (by kernel_rfl) (by omega) ?_
  have ak : k - 1 < b.length := (by omega)
  refine GA.idx (i := 10) (k - 1) (len := b.length) (z := (k : Int) - 1) (sz := 2) (by kernel_rfl) (by omega) ak (h1.addr (Nat.zero_lt_of_lt ak)) <| .r [11] ?_
  obtain ⟨az, ac⟩ : ∃ y, b[k - 1]? = some y := ⟨_, List.getElem?_eq_getElem (by omega)⟩
  have aN := drop_at ac; have aD := List.mem_of_getElem? ac
  obtain ⟨_, rfl, aA⟩ := h1.elem (k - 1) az ac
  refine .lh 12 0 aA id <| .r [13] <| .lb 14 J id <| .d fun aT al => ?_
  replace ⟨E, C⟩ := (se [] al).g2 E C
  exact .bp (az.t ≥ aa.t) (fun aB => .r 2 <| .d <| .ct <| .s <| .g <| .r 1 <| .d <| .rt Tryz.func118 Tryz.results118 (.bool false) ⟨(congrArg Value.bool (by grind [blockF, blockOk, prev, drop_end])), E⟩) fun aB => .r 2 <| .d <| .cf <| .sk <| .ib 1 <| .g <| .it ((k : Int) + 1) <| .r 1 <| .d <| O (k + 1) _ _ ⟨by kernel_rfl, by kernel_rfl, by kernel_rfl, by kernel_rfl, trivial⟩ ⟨C, (by omega), (by grind [blockF, prev])⟩ (by omega)
 refine .r [6] <| GA.skip (by kernel_rfl) fun aU am => ?_
 replace ⟨E, C⟩ := (se [] am).g2 E C
 exact .r 3 <| .d <| .cf <| .sk <| .ib 1 <| .g <| .it ((k : Int) + 1) <| .r 1 <| .d <| O (k + 1) _ _ ⟨by kernel_rfl, by kernel_rfl, by kernel_rfl, by kernel_rfl, trivial⟩ ⟨C, (by omega), (by grind [blockF, prev])⟩ (by omega)
theorem c_spec_PartOk (p : Prt) {w : World} {F : Nat → Prop} {a1 : Option Addr} {n1 c1 : Nat} (h1 : RepS w F a1 n1 c1 p.ids) {a2 : Option Addr} {n2 c2 : Nat} (h2 : RepS w F a2 n2 c2 p.blocks)  : Calls Tryz.prog 65 [.agg #[.slice a1 n1 c1, .slice a2 n2 c2]].toArray w (rets fun rv w' => rv = .bool (partOk p) ∧ Ext w w') := by
 refine goT Tryz.func65 ?_
 obtain ⟨rfl, bt, h1⟩ := h1.tp
 obtain ⟨rfl, bu, h2⟩ := h2.tp
 refine .s <| .g <| .np 42 [.slice a1 p.ids.length c1, .slice a2 p.blocks.length c2] fun O aJ am ac E aK => ?_
 replace ⟨h1, h2⟩ := (sn [] ac am).g2 h1 h2
 have C := ac
 refine .r 1 <| .d <| .s <| .s <| .g <| .r 1 <| .lb E <| .r 2 <| .lb E <| .r 1 <| .ne (p.ids.length : Int) (p.blocks.length : Int) (fun aL => .d <| .ct <| .s <| .g <| .r 1 <| .d <| .rt Tryz.func65 Tryz.results65 (.bool false) ⟨(congrArg Value.bool (by grind [partG, partOk, prev, drop_end])), C⟩) fun aL => .d <| .cf <| .sk <| .s <| .s <| .g <| .r 1 <| .d <| .b 0 <| T.loop (X := Nat) 0 (fun i => [(1, .pointer (some ⟨O, 0, none⟩)), (3, vI (i : Int))]) (fun i aD => Chg (ins []) aJ aD ∧ (i ≤ p.ids.length) ∧ (partG (prev p.ids i) (p.ids.drop i) (p.blocks.drop i) = partG none p.ids p.blocks)) (fun i => p.ids.length - i) (by kernel_rfl) ⟨by kernel_rfl, by kernel_rfl, trivial⟩ ⟨Chg.refl _ _, (by simp [prev]), (by simp [prev])⟩ ?_
 rintro i bR aD ⟨J, bv, bw⟩ W
 have ao : Mv [O] [O] aJ aD := Mv.inl J all_nil (all_cons (.inl (.head _)) all_nil)
 replace ⟨h1, h2, E, C⟩ := (sp ao J).g4 h1 h2 E C
 refine .s <| .s <| .g <| .r 2 <| .lb E <| .r 1 <| .bp ((i : Int) < (p.ids.length : Int)) (fun aM => ?_) (fun aM => .d <| .cf <| .x 0 rfl <| .s <| .g <| .r 1 <| .d <| .rt Tryz.func65 Tryz.results65 (.bool true) ⟨(congrArg Value.bool (by grind [partG, partOk, prev, drop_end])), C⟩)
 refine .d <| .ct <| .sk <| .s <| .b 1 <| .s <| .gd nil 38 fun bS aq => ?_
 replace ⟨h1, h2, E, C, J⟩ := (se [O] aq).g5 h1 h2 E C J
 refine .r [0] <| .lb 1 E id <| .r [2] ?_
 have aN : i < p.ids.length := (by omega)
 refine .ix 3 i 1 h1 aN ?_
 obtain ⟨al, ae⟩ : ∃ y, p.ids[i]? = some y := ⟨_, List.getElem?_eq_getElem (by omega)⟩
 have bz := drop_at ae; have bi := List.mem_of_getElem? ae
 obtain ⟨_, rfl, ar⟩ := h1.elem i al ae
 refine .lh 4 0 ar id <| GA.call1 (i := 5) (by kernel_rfl) (fun bn bA => c_spec_l6In al 1 6 (w := bn) (F := all)) ?_
 cases au : (inR al 1 6)
 ·have bB := inR_f au
  refine .r [6, 7, 8, 9, 10, 11, 12, 13, 14, 15, 16, 17, 18, 19, 20, 21, 22, 23, 24, 25, 26, 27, 28, 29, 30, 31, 32, 33, 34, 35, 36, 37] <| .d fun bT av => ?_
  replace ⟨h1, h2, E, C, J⟩ := (se [O] av).g5 h1 h2 E C J
  exact .r 5 <| .d <| .ct <| .s <| .g <| .r 1 <| .d <| .rt Tryz.func65 Tryz.results65 (.bool false) ⟨(congrArg Value.bool (by (have hdd := List.drop_eq_getElem_cons (l := p.blocks) (i := i) (by omega); grind [partG, partOk, prev, drop_end]))), C⟩
 have bC := inR_t au
 refine .r [6, 7, 8] <| GA.boolP (i := 9) ((i : Int) > 0) (by kernel_rfl) (fun aO => ?_) (fun aO => ?_)
 ·refine .r [10, 11] <| .lb 12 E id <| .r [13] <| GA.int (i := 14) ((i : Int) - 1) (by kernel_rfl) (by omega) ?_
  have aw : i - 1 < p.ids.length := (by omega)
  refine GA.idx (i := 15) (i - 1) (len := p.ids.length) (z := (i : Int) - 1) (sz := 1) (by kernel_rfl) (by omega) aw (h1.addr (Nat.zero_lt_of_lt aw)) ?_
  obtain ⟨aP, af⟩ : ∃ y, p.ids[i - 1]? = some y := ⟨_, List.getElem?_eq_getElem (by omega)⟩
  have bD := drop_at af; have bj := List.mem_of_getElem? af
  obtain ⟨_, rfl, aQ⟩ := h1.elem (i - 1) aP af
  refine .lh 16 0 aQ id <| .r [17] <| .lb 18 E id <| .r [19] ?_
  have aR : i < p.ids.length := (by omega)
  refine .ix 20 i 1 h1 aR <| .lh 21 0 ar id <| GA.boolP (i := 22) (aP ≥ al) (by kernel_rfl) (fun aS => ?_) (fun aS => ?_)
  ·refine .r [23, 24, 25, 26, 27, 28, 29, 30, 31, 32, 33, 34, 35, 36, 37] <| .d fun bU ax => ?_
   replace ⟨h2, E, C, J⟩ := (se [O] ax).g4 h2 E C J
   exact .r 5 <| .d <| .ct <| .s <| .g <| .r 1 <| .d <| .rt Tryz.func65 Tryz.results65 (.bool false) ⟨(congrArg Value.bool (by (have hdd := List.drop_eq_getElem_cons (l := p.blocks) (i := i) (by omega); grind [partG, partOk, prev, drop_end]))), C⟩
  refine .r [23, 24, 25, 26] <| .lb 27 E id <| .r [28] ?_
  have aT : i < p.blocks.length := (by omega)
  refine .ix 29 i 1 h2 aT ?_
  obtain ⟨ag, aa⟩ : ∃ y, p.blocks[i]? = some y := ⟨_, List.getElem?_eq_getElem (by omega)⟩
  have bE := drop_at aa; have bk := List.mem_of_getElem? aa
  obtain ⟨_, ⟨bV, bW, bX, rfl, aU⟩, aV⟩ := h2.elem i ag aa
  have aW := aU.len
  subst aW
  have bF := aU.max
  refine .lh 30 0 aV id <| .r [31] <| GA.eqI (i := 32) (a := (ag.length : Int)) (b := 0) (by kernel_rfl) (fun aX => ?_) (fun aX => ?_)
  ·refine .r [33, 34, 35, 36, 37] <| .d fun bY ay => ?_
   replace ⟨h2, E, C, J⟩ := (se [O] ay).g4 h2 E C J
   exact .r 5 <| .d <| .ct <| .s <| .g <| .r 1 <| .d <| .rt Tryz.func65 Tryz.results65 (.bool false) ⟨(congrArg Value.bool (by grind [partG, partOk, prev, drop_end])), C⟩
  refine .r [33, 34, 35] <| .lb 36 E id <| .r [37] <| .d fun bo az => ?_
  replace ⟨h2, E, C, J⟩ := (se [O] az).g4 h2 E C J
  have aY : i < p.blocks.length := (by omega)
  refine .ix i 1 h2 aY ?_
  obtain ⟨_, ⟨bZ, b0, b6, rfl, aZ⟩, ba⟩ := h2.elem i ag aa
  have bc := aZ.len
  subst bc
  refine .lh 0 ba <| .cl (c_spec_BlockOk ag aZ.ta (w := bo) (F := all)) ?_
  rintro b7 b8 ⟨rfl, aA⟩
  replace ⟨h2, E, C, J⟩ := (se [O] aA).g4 h2 E C J
  cases bG : (blockOk ag)
  ·exact .r 2 <| .d <| .ct <| .s <| .g <| .r 1 <| .d <| .rt Tryz.func65 Tryz.results65 (.bool false) ⟨(congrArg Value.bool (by grind [partG, partOk, prev, drop_end])), C⟩
  exact .r 2 <| .d <| .cf <| .sk <| .ib 1 <| .g <| .r 1 <| .it ((i : Int) + 1) <| .r 1 <| .d <| W (i + 1) _ _ ⟨by kernel_rfl, by kernel_rfl, trivial⟩ ⟨J, (by omega), (by grind [partG, prev])⟩ (by omega)
 refine .r [10, 11, 12, 13, 14, 15, 16, 17, 18, 19, 20, 21, 22, 23, 24, 25, 26] <| .lb 27 E id <| .r [28] ?_
 have bd : i < p.blocks.length := (by omega)
 refine .ix 29 i 1 h2 bd ?_
 obtain ⟨ah, ab⟩ : ∃ y, p.blocks[i]? = some y := ⟨_, List.getElem?_eq_getElem (by omega)⟩
 have bH := drop_at ab; have bm := List.mem_of_getElem? ab
 obtain ⟨_, ⟨bI, bJ, bK, rfl, aB⟩, bg⟩ := h2.elem i ah ab
 have aE := aB.len
 subst aE
 have bq := aB.max
 refine .lh 30 0 bg id <| .r [31] <| GA.eqI (i := 32) (a := (ah.length : Int)) (b := 0) (by kernel_rfl) (fun aF => ?_) (fun aF => ?_)
 ·refine .r [33, 34, 35, 36, 37] <| .d fun bL ai => ?_
  replace ⟨h2, E, C, J⟩ := (se [O] ai).g4 h2 E C J
  exact .r 5 <| .d <| .ct <| .s <| .g <| .r 1 <| .d <| .rt Tryz.func65 Tryz.results65 (.bool false) ⟨(congrArg Value.bool (by grind [partG, partOk, prev, drop_end])), C⟩
 refine .r [33, 34, 35] <| .lb 36 E id <| .r [37] <| .d fun bh aj => ?_
 replace ⟨h2, C, J⟩ := (se [O] aj).g3 h2 C J
 have aG : i < p.blocks.length := (by omega)
 refine .ix i 1 h2 aG ?_
 obtain ⟨_, ⟨bM, bN, bO, rfl, aC⟩, aH⟩ := h2.elem i ah ab
 have aI := aC.len
 subst aI
 refine .lh 0 aH <| .cl (c_spec_BlockOk ah aC.ta (w := bh) (F := all)) ?_
 rintro bP bQ ⟨rfl, ak⟩
 replace ⟨C, J⟩ := (se [] ak).g2 C J
 cases br : (blockOk ah)
 ·exact .r 2 <| .d <| .ct <| .s <| .g <| .r 1 <| .d <| .rt Tryz.func65 Tryz.results65 (.bool false) ⟨(congrArg Value.bool (by grind [partG, partOk, prev, drop_end])), C⟩
 exact .r 2 <| .d <| .cf <| .sk <| .ib 1 <| .g <| .r 1 <| .it ((i : Int) + 1) <| .r 1 <| .d <| W (i + 1) _ _ ⟨by kernel_rfl, by kernel_rfl, trivial⟩ ⟨J, (by omega), (by grind [partG, prev])⟩ (by omega)
theorem c_impl_PartOk (p : Prt) {w : World} {F : Nat → Prop} {a1 : Option Addr} {n1 c1 : Nat} (h1 : RepS w F a1 n1 c1 p.ids) {a2 : Option Addr} {n2 c2 : Nat} (h2 : RepS w F a2 n2 c2 p.blocks)  : Calls Tryz.prog 70 [.agg #[.slice a1 n1 c1, .slice a2 n2 c2]].toArray w (rets fun rv w' => rv = .bool (partOk p) ∧ Ext w w') := by
 refine goT Tryz.func70 ?_
 obtain ⟨rfl, bd, h1⟩ := h1.tp
 obtain ⟨rfl, bg, h2⟩ := h2.tp
 refine .s <| .g <| .np 42 [.slice a1 p.ids.length c1, .slice a2 p.blocks.length c2] fun ab az ak ac C aA => ?_
 replace ⟨h1, h2⟩ := (sn [] ac ak).g2 h1 h2
 have E := ac
 refine .r 1 <| .d <| .s <| .s <| .g <| .r 1 <| .lb C <| .r 2 <| .lb C <| .r 1 <| .ne (p.ids.length : Int) (p.blocks.length : Int) (fun aB => .d <| .ct <| .s <| .g <| .r 1 <| .d <| .rt Tryz.func70 Tryz.results70 (.bool false) ⟨(congrArg Value.bool (by grind [partG, partOk, prev, drop_end])), E⟩) fun aB => .d <| .cf <| .sk <| .s <| .s <| .g <| .r 1 <| .lb C <| .r 2 <| .d <| .b 0 <| T.loop (X := Nat) 0 (fun k => [(1, .pointer (some ⟨ab, 0, none⟩)), (13, .slice a1 p.ids.length c1), (14, vI (p.ids.length : Int)), (15, vI (k : Int))]) (fun k ai => Chg (ins []) az ai ∧ (k ≤ p.ids.length) ∧ (partG (prev p.ids k) (p.ids.drop k) (p.blocks.drop k) = partG none p.ids p.blocks)) (fun k => p.ids.length - k) (by kernel_rfl) ⟨by kernel_rfl, by kernel_rfl, by kernel_rfl, by kernel_rfl, trivial⟩ ⟨Chg.refl _ _, (by simp [prev]), (by simp [prev])⟩ ?_
 rintro k bA ai ⟨J, bh, bi⟩ O
 have al : Mv [ab] [ab] az ai := Mv.inl J all_nil (all_cons (.inl (.head _)) all_nil)
 replace ⟨h1, h2, C, E⟩ := (sp al J).g4 h1 h2 C E
 refine .s <| .g <| .bp ((k : Int) < (p.ids.length : Int)) (fun aC => ?_) (fun aC => .d <| .s <| .cf <| .x 0 rfl <| .s <| .g <| .r 1 <| .d <| .rt Tryz.func70 Tryz.results70 (.bool true) ⟨(congrArg Value.bool (by grind [partG, partOk, prev, drop_end])), E⟩)
 refine .d <| .s <| .ct <| .sk <| .s <| .b 1 <| .s <| .g <| .r 1 ?_
 have aD : k < p.ids.length := (by omega)
 refine .ix k 1 h1 aD ?_
 obtain ⟨aj, ae⟩ : ∃ y, p.ids[k]? = some y := ⟨_, List.getElem?_eq_getElem (by omega)⟩
 have bj := drop_at ae; have aX := List.mem_of_getElem? ae
 obtain ⟨_, rfl, aE⟩ := h1.elem k aj ae
 refine .lh 0 aE <| .r 2 <| .d <| .s <| .g <| .r 1 <| .cl (c_impl_within aj 1 6 (w := ai) (F := all)) ?_
 rintro bB aF ⟨rfl, am⟩
 replace ⟨h1, h2, C, E, J⟩ := (se [ab] am).g5 h1 h2 C E J
 cases ao : (inR aj 1 6)
 ·have bk := inR_f ao
  exact .r 33 <| .d <| .ct <| .s <| .g <| .r 1 <| .d <| .rt Tryz.func70 Tryz.results70 (.bool false) ⟨(congrArg Value.bool (by (have hdd := List.drop_eq_getElem_cons (l := p.blocks) (i := k) (by omega); grind [partG, partOk, prev, drop_end]))), E⟩
 have bm := inR_t ao
 refine .r 3 <| .bp ((k : Int) > 0) (fun aG => ?_) (fun aG => ?_)
 ·refine .r 2 <| .lb C <| .r 1 <| .it ((k : Int) - 1) ?_
  have aq : k - 1 < p.ids.length := (by omega)
  refine RG.idx (k - 1) (len := p.ids.length) (i := (k : Int) - 1) (sz := 1) (by kernel_rfl) (by omega) aq (h1.addr (Nat.zero_lt_of_lt aq)) ?_
  obtain ⟨aH, af⟩ : ∃ y, p.ids[k - 1]? = some y := ⟨_, List.getElem?_eq_getElem (by omega)⟩
  have bn := drop_at af; have aY := List.mem_of_getElem? af
  obtain ⟨_, rfl, aI⟩ := h1.elem (k - 1) aH af
  refine .lh 0 aI <| .r 1 <| .bp (aH ≥ aj) (fun aJ => .r 20 <| .d <| .ct <| .s <| .g <| .r 1 <| .d <| .rt Tryz.func70 Tryz.results70 (.bool false) ⟨(congrArg Value.bool (by (have hdd := List.drop_eq_getElem_cons (l := p.blocks) (i := k) (by omega); grind [partG, partOk, prev, drop_end]))), E⟩) fun aJ => .r 4 <| .lb C <| .r 1 ?_
  have aK : k < p.blocks.length := (by omega)
  refine .ix k 1 h2 aK ?_
  obtain ⟨ag, W⟩ : ∃ y, p.blocks[k]? = some y := ⟨_, List.getElem?_eq_getElem (by omega)⟩
  have bo := drop_at W; have aZ := List.mem_of_getElem? W
  obtain ⟨_, ⟨bC, bD, bE, rfl, av⟩, aL⟩ := h2.elem k ag W
  have aM := av.len
  subst aM
  have bq := av.max
  refine .lh 0 aL <| .cl (c_impl_BlockOk ag av.ta (w := aF) (F := all)) ?_
  rintro bF bG ⟨rfl, ar⟩
  replace ⟨h2, C, E, J⟩ := (se [ab] ar).g4 h2 C E J
  cases br : (blockOk ag)
  ·exact .r 11 <| .d <| .ct <| .s <| .g <| .r 1 <| .d <| .rt Tryz.func70 Tryz.results70 (.bool false) ⟨(congrArg Value.bool (by grind [partG, partOk, prev, drop_end])), E⟩
  refine .r 4 <| .lb C <| .r 1 ?_
  have aN : k < p.blocks.length := (by omega)
  refine .ix k 1 h2 aN ?_
  obtain ⟨_, ⟨bH, bI, bJ, rfl, bc⟩, aO⟩ := h2.elem k ag W
  have aP := bc.len
  subst aP
  exact .lh 0 aO <| .r 1 <| .eq (ag.length : Int) 0 (fun aQ => .r 1 <| .d <| .ct <| .s <| .g <| .r 1 <| .d <| .rt Tryz.func70 Tryz.results70 (.bool false) ⟨(congrArg Value.bool (by grind [partG, partOk, prev, drop_end])), E⟩) fun aQ => .r 1 <| .d <| .cf <| .sk <| .ib 1 <| .g <| .it ((k : Int) + 1) <| .r 1 <| .d <| O (k + 1) _ _ ⟨by kernel_rfl, by kernel_rfl, by kernel_rfl, by kernel_rfl, trivial⟩ ⟨J, (by omega), (by grind [partG, prev])⟩ (by omega)
 refine .r 13 <| .lb C <| .r 1 ?_
 have aR : k < p.blocks.length := (by omega)
 refine .ix k 1 h2 aR ?_
 obtain ⟨ah, aa⟩ : ∃ y, p.blocks[k]? = some y := ⟨_, List.getElem?_eq_getElem (by omega)⟩
 have bt := drop_at aa; have ba := List.mem_of_getElem? aa
 obtain ⟨_, ⟨bK, bL, bM, rfl, aw⟩, aS⟩ := h2.elem k ah aa
 have aT := aw.len
 subst aT
 have bu := aw.max
 refine .lh 0 aS <| .cl (c_impl_BlockOk ah aw.ta (w := aF) (F := all)) ?_
 rintro bN bO ⟨rfl, au⟩
 replace ⟨h2, C, E, J⟩ := (se [ab] au).g4 h2 C E J
 cases bv : (blockOk ah)
 ·exact .r 11 <| .d <| .ct <| .s <| .g <| .r 1 <| .d <| .rt Tryz.func70 Tryz.results70 (.bool false) ⟨(congrArg Value.bool (by grind [partG, partOk, prev, drop_end])), E⟩
 refine .r 4 <| .lb C <| .r 1 ?_
 have aU : k < p.blocks.length := (by omega)
 refine .ix k 1 h2 aU ?_
 obtain ⟨_, ⟨bP, bw, bz, rfl, aV⟩, aW⟩ := h2.elem k ah aa
 have ax := aV.len
 subst ax
 exact .lh 0 aW <| .r 1 <| .eq (ah.length : Int) 0 (fun ay => .r 1 <| .d <| .ct <| .s <| .g <| .r 1 <| .d <| .rt Tryz.func70 Tryz.results70 (.bool false) ⟨(congrArg Value.bool (by grind [partG, partOk, prev, drop_end])), E⟩) fun ay => .r 1 <| .d <| .cf <| .sk <| .ib 1 <| .g <| .it ((k : Int) + 1) <| .r 1 <| .d <| O (k + 1) _ _ ⟨by kernel_rfl, by kernel_rfl, by kernel_rfl, by kernel_rfl, trivial⟩ ⟨J, (by omega), (by grind [partG, prev])⟩ (by omega)
theorem c_spec_l13Part (p : Prt) (names : Int) {w : World} {F : Nat → Prop} {a1 : Option Addr} {n1 c1 : Nat} (h1 : RepS w F a1 n1 c1 p.ids) {a2 : Option Addr} {n2 c2 : Nat} (h2 : RepS w F a2 n2 c2 p.blocks)  : Calls Tryz.prog 114 [.agg #[.slice a1 n1 c1, .slice a2 n2 c2], .int .i64 names].toArray w (rets fun rv w' => rv = .bool (partIn p names) ∧ Ext w w') := by
 refine goT Tryz.func114 ?_
 obtain ⟨rfl, ak, h1⟩ := h1.tp
 obtain ⟨rfl, al, h2⟩ := h2.tp
 refine .s <| .g <| .np 42 [.slice a1 p.ids.length c1, .slice a2 p.blocks.length c2] fun ai aj W J C ac => ?_
 replace ⟨h1, h2⟩ := (sn [] J W).g2 h1 h2
 have E := J
 refine .r 1 <| .d <| .s <| .g <| .ln C <| .cl (c_spec_PartOk p h1.ta h2.ta (w := aj) (F := all)) ?_
 rintro aq ar ⟨rfl, aa⟩
 replace ⟨h1, C, E⟩ := (se [ai] aa).g3 h1 C E
 cases am : (partOk p)
 ·exact .r 19 <| .d <| .rt Tryz.func114 Tryz.results114 (.bool false) ⟨(congrArg Value.bool (by grind [partIn])), E⟩
 refine .r 2 <| .lb C <| .r 1 <| .bp ((p.ids.length : Int) > 0) (fun ae => ?_) (fun ae => .r 14 <| .d <| .rt Tryz.func114 Tryz.results114 (.bool false) ⟨(congrArg Value.bool (by grind [partIn])), E⟩)
 refine .r 3 <| .lb C <| .r 1 <| .lb C <| .r 1 <| .it ((p.ids.length : Int) - 1) ?_
 have ab : p.ids.length - 1 < p.ids.length := (by omega)
 refine RG.idx (p.ids.length - 1) (len := p.ids.length) (i := (p.ids.length : Int) - 1) (sz := 1) (by kernel_rfl) (by omega) ab (h1.addr (Nat.zero_lt_of_lt ab)) ?_
 obtain ⟨af, O⟩ : ∃ y, p.ids[p.ids.length - 1]? = some y := ⟨_, List.getElem?_eq_getElem (by omega)⟩
 have ao := drop_at O; have ah := List.mem_of_getElem? O
 obtain ⟨_, rfl, ag⟩ := h1.elem (p.ids.length - 1) af O
 exact .lh 0 ag <| .r 4 <| .d <| .rt Tryz.func114 Tryz.results114 (.bool (decide (af ≤ names))) ⟨(congrArg Value.bool (by grind [partIn])), E⟩
theorem c_slices_Index_int_int (s : List Int) (v : Int) {w : World} {F : Nat → Prop} {a1 : Option Addr} {n1 c1 : Nat} (h1 : RepS w F a1 n1 c1 s)  : Calls Tryz.prog 121 [.slice a1 n1 c1, .int .i64 v].toArray w (rets fun rv w' => rv = .int .i64 (idxF v 0 s) ∧ Ext w w') := by
 refine goT Tryz.func121 ?_
 obtain ⟨rfl, ai, h1⟩ := h1.tp
 refine .s <| .g <| .r 1 <| .d <| .s <| .s <| .g <| .r 3 <| .d <| .b 0 <| T.loop (X := Nat) 0 (fun k => [(0, .slice a1 s.length c1), (1, vI v), (7, vI (s.length : Int)), (8, vI (k : Int))]) (fun k O => Chg (ins []) w O ∧ (k ≤ s.length) ∧ (idxF v k (s.drop k) = idxF v 0 s)) (fun k => s.length - k) (by kernel_rfl) ⟨by kernel_rfl, by kernel_rfl, by kernel_rfl, by kernel_rfl, trivial⟩ ⟨Chg.refl _ _, (by simp), (by simp)⟩ ?_
 rintro k am O ⟨C, aj, ak⟩ E
 have W : Mv [] [] w O := Mv.inl C all_nil all_nil
 replace h1 := (sp W C).g1 h1
 have aa : Chg nil w O := Chg.stepI (Chg.refl nil w) C all_nil
 refine .s <| .g <| .bp ((k : Int) < (s.length : Int)) (fun ab => ?_) (fun ab => .d <| .s <| .cf <| .x 0 rfl <| .s <| .g <| .r 1 <| .d <| .rt Tryz.func121 Tryz.results121 (vI (-1)) ⟨(congrArg (Value.int .i64) (by grind [idxF, drop_end])), aa⟩)
 refine .d <| .s <| .ct <| .sk <| .s <| .b 1 <| .s <| .g <| .r 2 <| .d <| .s <| .g <| .r 3 ?_
 have ac : k < s.length := (by omega)
 refine .ix k 1 h1 ac ?_
 obtain ⟨ae, J⟩ : ∃ y, s[k]? = some y := ⟨_, List.getElem?_eq_getElem (by omega)⟩
 have al := drop_at J; have ah := List.mem_of_getElem? J
 obtain ⟨_, rfl, af⟩ := h1.elem k ae J
 exact .lh 0 af <| .eq v ae (fun ag => .d <| .ct <| .s <| .g <| .r 2 <| .d <| .rt Tryz.func121 Tryz.results121 (vI (k : Int)) ⟨(congrArg (Value.int .i64) (by grind [idxF, drop_end])), aa⟩) fun ag => .d <| .cf <| .sk <| .ib 1 <| .g <| .it ((k : Int) + 1) <| .r 1 <| .d <| E (k + 1) _ _ ⟨by kernel_rfl, by kernel_rfl, by kernel_rfl, by kernel_rfl, trivial⟩ ⟨C, (by omega), (by grind [idxF])⟩ (by omega)
theorem c_slices_Max_int_int (x : List Int) {w : World} {F : Nat → Prop} {a1 : Option Addr} {n1 c1 : Nat} (h1 : RepS w F a1 n1 c1 x) (p0 : 0 < x.length) : Calls Tryz.prog 104 [.slice a1 n1 c1].toArray w (rets fun rv w' => rv = .int .i64 (maxOf x) ∧ Ext w w') := by
 refine goT Tryz.func104 ?_
 obtain ⟨rfl, ao, h1⟩ := h1.tp
 refine .s <| .g <| .r 1 <| .d <| .s <| .s <| .g <| .r 2 <| .bp ((x.length : Int) < 1) (fun ae => .d <| .ct <| .g <| absurd (show False by omega) id) fun ae => .d <| .cf <| .sk <| .s <| .g <| .r 1 ?_
 have aa : 0 < x.length := (by omega)
 refine RG.idx 0 (len := x.length) (i := 0) (sz := 1) (by kernel_rfl) (by omega) aa (h1.addr (Nat.zero_lt_of_lt aa)) ?_
 obtain ⟨af, E⟩ : ∃ y, x[0]? = some y := ⟨_, List.getElem?_eq_getElem (by omega)⟩
 have aq := drop_at E; have al := List.mem_of_getElem? E
 obtain ⟨_, rfl, ag⟩ := h1.elem 0 af E
 refine .lh 0 ag <| .r 1 <| .d <| .s <| .s <| .g <| .r 1 <| .d <| .b 0 <| T.loop (X := Int × Nat) (af, 1) (fun (m, i) => [(0, .slice a1 x.length c1), (3, vI m), (4, vI (i : Int))]) (fun (m, i) W => Chg (ins []) w W ∧ (i ≤ x.length) ∧ (maxF m (x.drop i) = maxOf x)) (fun (m, i) => x.length - i) (by kernel_rfl) ⟨by kernel_rfl, by kernel_rfl, by kernel_rfl, trivial⟩ ⟨Chg.refl _ _, (by omega), (by grind [maxOf])⟩ ?_
 rintro ⟨m, i⟩ aw W ⟨C, ar, au⟩ J
 have ab : Mv [] [] w W := Mv.inl C all_nil all_nil
 replace h1 := (sp ab C).g1 h1
 have ah : Chg nil w W := Chg.stepI (Chg.refl nil w) C all_nil
 refine .s <| .s <| .g <| .r 3 <| .bp ((i : Int) < (x.length : Int)) (fun ai => ?_) (fun ai => .d <| .cf <| .x 0 rfl <| .s <| .g <| .r 2 <| .d <| .rt Tryz.func104 Tryz.results104 (vI m) ⟨(congrArg (Value.int .i64) (by grind [maxF, drop_end])), ah⟩)
 refine .d <| .ct <| .sk <| .s <| .b 1 <| .g <| .r 3 ?_
 have aj : i < x.length := (by omega)
 refine .ix i 1 h1 aj ?_
 obtain ⟨ac, O⟩ : ∃ y, x[i]? = some y := ⟨_, List.getElem?_eq_getElem (by omega)⟩
 have av := drop_at O; have am := List.mem_of_getElem? O
 obtain ⟨_, rfl, ak⟩ := h1.elem i ac O
 exact .lh 0 ak <| .r 2 <| .d <| .ib 1 <| .g <| .r 1 <| .it ((i : Int) + 1) <| .r 1 <| .d <| J ((if ac > m then ac else m), i + 1) _ _ ⟨by kernel_rfl, by kernel_rfl, by kernel_rfl, trivial⟩ ⟨C, (by omega), (by grind [maxF])⟩ (by (simp only []; omega))
theorem c_spec_l3Text (n : List Tag) {w : World} {F : Nat → Prop} {a1 : Option Addr} {n1 c1 : Nat} (h1 : RepS w F a1 n1 c1 n) (p0 : n.length ≤ 1000000) (p1 : ∀ t ∈ n, t.key.length ≤ 1000000 ∧ t.val.length ≤ 1000000) : Calls Tryz.prog 98 [.slice a1 n1 c1].toArray w (rets fun rv w' => rv = .string (bs (text n)) ∧ Ext w w') := by
 refine goT Tryz.func98 ?_
 obtain ⟨rfl, ax, h1⟩ := h1.tp
 refine .s <| .g <| .r 1 <| .d <| .s <| .g <| .r 1 <| .d <| .s <| .s <| .g <| .r 1 <| .d <| .b 0 <| T.loop (X := Str × Nat) ([], 0) (fun (out, i) => [(0, .slice a1 n.length c1), (3, vT out), (4, vI (i : Int))]) (fun (out, i) ac => Chg (ins []) w ac ∧ (i ≤ n.length) ∧ (out.length ≤ 3000000 * i) ∧ (out ++ textF i (n.drop i) = text n)) (fun (out, i) => n.length - i) (by kernel_rfl) ⟨by kernel_rfl, by kernel_rfl, by kernel_rfl, trivial⟩ ⟨Chg.refl _ _, (by simp [text]), (by simp [text]), (by simp [text])⟩ ?_
 rintro ⟨out, i⟩ aD ac ⟨C, ay, az, aA⟩ J
 have ae : Mv [] [] w ac := Mv.inl C all_nil all_nil
 replace h1 := (sp ae C).g1 h1
 have E : Chg nil w ac := Chg.stepI (Chg.refl nil w) C all_nil
 refine .s <| .s <| .g <| .r 3 <| .bp ((i : Int) < (n.length : Int)) (fun al => ?_) (fun al => .d <| .cf <| .x 0 rfl <| .s <| .g <| .r 2 <| .d <| .rt Tryz.func98 Tryz.results98 (vT out) ⟨(congrArg (fun s => Value.string (bs s)) (by grind [textF, drop_end])), E⟩)
 refine .d <| .ct <| .sk <| .s <| .b 1 <| .s <| .s <| .g <| .r 1 <| .bp ((i : Int) > 0) (fun am => ?_) (fun am => ?_)
 ·refine .d <| .ct <| .g <| .r 1 <| RG.cat (t := 9) (s := out) (u := [44]) (by kernel_rfl) (by grind) <| .r 1 <| .d <| .gd nil 13 fun aE af => ?_
  replace ⟨h1, E, C⟩ := (se [] af).g3 h1 E C
  refine .r [0, 1, 2] ?_
  have ao : i < n.length := (by omega)
  refine .ix 3 i 2 h1 ao <| .r [4] ?_
  obtain ⟨O, aa⟩ : ∃ y, n[i]? = some y := ⟨_, List.getElem?_eq_getElem (by omega)⟩
  have aB := drop_at aa; have av := List.mem_of_getElem? aa
  obtain ⟨_, rfl, ag⟩ := h1.elem i O aa
  refine .lh 5 0 ag id <| GA.cat (i := 6) (t := 9) (s := (out ++ [44])) (u := O.key) (by kernel_rfl) (by kernel_rfl) (by grind) <| GA.cat (i := 7) (t := 9) (s := ((out ++ [44]) ++ O.key)) (u := [61]) (by kernel_rfl) (by kernel_rfl) (by grind) <| .r [8, 9] ?_
  have aq : i < n.length := (by omega)
  refine .ix 10 i 2 h1 aq <| .r [11] <| .lh 12 1 ag id <| .d fun aF ah => ?_
  replace ⟨h1, E, C⟩ := (se [] ah).g3 h1 E C
  exact RG.cat (t := 9) (s := (((out ++ [44]) ++ O.key) ++ [61])) (u := O.val) (by kernel_rfl) (by grind) <| .r 1 <| .d <| .ib 1 <| .g <| .r 1 <| .it ((i : Int) + 1) <| .r 1 <| .d <| J (((((out ++ [44]) ++ O.key) ++ [61]) ++ O.val), i + 1) _ _ ⟨by kernel_rfl, by kernel_rfl, by kernel_rfl, trivial⟩ ⟨C, (by omega), (by grind), (by grind [textF, text1])⟩ (by (simp only []; omega))
 refine .d <| .cf <| .sk <| .gd nil 13 fun aG ai => ?_
 replace ⟨h1, E, C⟩ := (se [] ai).g3 h1 E C
 refine .r [0, 1, 2] ?_
 have ar : i < n.length := (by omega)
 refine .ix 3 i 2 h1 ar <| .r [4] ?_
 obtain ⟨W, ab⟩ : ∃ y, n[i]? = some y := ⟨_, List.getElem?_eq_getElem (by omega)⟩
 have aC := drop_at ab; have aw := List.mem_of_getElem? ab
 obtain ⟨_, rfl, aj⟩ := h1.elem i W ab
 refine .lh 5 0 aj id <| GA.cat (i := 6) (t := 9) (s := out) (u := W.key) (by kernel_rfl) (by kernel_rfl) (by grind) <| GA.cat (i := 7) (t := 9) (s := (out ++ W.key)) (u := [61]) (by kernel_rfl) (by kernel_rfl) (by grind) <| .r [8, 9] ?_
 have au : i < n.length := (by omega)
 refine .ix 10 i 2 h1 au <| .r [11] <| .lh 12 1 aj id <| .d fun aH ak => ?_
 replace ⟨E, C⟩ := (se [] ak).g2 E C
 exact RG.cat (t := 9) (s := ((out ++ W.key) ++ [61])) (u := W.val) (by kernel_rfl) (by grind) <| .r 1 <| .d <| .ib 1 <| .g <| .r 1 <| .it ((i : Int) + 1) <| .r 1 <| .d <| J ((((out ++ W.key) ++ [61]) ++ W.val), i + 1) _ _ ⟨by kernel_rfl, by kernel_rfl, by kernel_rfl, trivial⟩ ⟨C, (by omega), (by grind), (by grind [textF, text1])⟩ (by (simp only []; omega))
theorem c_spec_l11Less (a : Tag) (b : Tag) {w : World} {F : Nat → Prop}   : Calls Tryz.prog 161 [.agg #[.string (bs a.key), .string (bs a.val)], .agg #[.string (bs b.key), .string (bs b.val)]].toArray w (rets fun rv w' => rv = .bool (tagLt a b) ∧ Ext w w') := by
 refine goT Tryz.func161 <| .s <| .g <| .np 120 [vT a.key, vT a.val] fun ah ai aa O C ab => ?_
 have E := O
 refine .np 120 [vT b.key, vT b.val] fun aj ak ac W J ae => ?_
 replace ⟨C, E⟩ := (se [] W).g2 C E
 refine .r 1 <| .d <| .s <| .g <| .r 1 <| .lb C <| .r 1 <| .lb J <| RG.eqv (v := .bool ((strLt a.key b.key))) (by kernel_rfl) (s_lt a.key b.key) ?_
 cases af : (strLt a.key b.key)
 ·refine .r 2 <| .lb C <| .r 1 <| .lb J <| RG.eqv (v := .bool ((a.key == b.key))) (by kernel_rfl) (s_eq a.key b.key) ?_
  cases ag : (a.key == b.key)
  ·exact .r 9 <| .d <| .rt Tryz.func161 Tryz.results161 (.bool false) ⟨(congrArg Value.bool (by grind [tagLt])), E⟩
  exact .r 2 <| .lb C <| .r 1 <| .lb J <| RG.eqv (v := .bool ((strLt a.val b.val))) (by kernel_rfl) (s_lt a.val b.val) <| .r 3 <| .d <| .rt Tryz.func161 Tryz.results161 (.bool (strLt a.val b.val)) ⟨(congrArg Value.bool (by grind [tagLt])), E⟩
 exact .r 15 <| .d <| .rt Tryz.func161 Tryz.results161 (.bool true) ⟨(congrArg Value.bool (by grind [tagLt])), E⟩
end Go.Proofs.YtganlmloonielaaGreat
namespace Go.Proofs.YtganlmloonielaaGreat
set_option maxRecDepth 100000
set_option maxHeartbeats 4000000
theorem c_spec_l11New  {w : World} {F : Nat → Prop}   : Calls Tryz.prog 169 [].toArray w (rets fun rv w' => VS (ge w.heap.size) w' ((⟨[], []⟩ : Idx) : Idx) rv ∧ Ext w w') := by
 refine goT Tryz.func169 <| .s <| .g <| .np 30 [.slice none 0 0, .slice none 0 0] fun ab aG af ag E al => ?_
 have aC : Cov nil w ab := cov_new af (Nat.le_refl _)
 have C := ag
 refine .d <| .s <| .g <| .ns 0 77 [] fun O az ae ah am ao => ?_
 have aD := nb_new ae E.lt
 have aq := gb_new ae C.size
 replace ⟨E, C⟩ := (se [] ah).g2 E C
 have J : Own (α := List Tag) az O 77 (nin (ge w.heap.size) [O, ab]) 0 0 [] := Own.nil' am
 refine .ns 0 149 [] fun ac aA W ai ar au => ?_
 have aE := nb_new W E.lt
 have aF := nb_new W J.lt
 have av := gb_new W C.size
 replace ⟨E, J, C⟩ := (sn [O, ab] ai W).g3 E J C
 have aa : Own (α := Pst) aA ac 149 (nin (ge w.heap.size) [ac, O, ab]) 0 0 [] := Own.nil' ar
 refine .r 1 <| .sc [vS O 0 0, vS ac 0 0] E fun aw aj ax ay => ?_
 replace ⟨J, aa, C⟩ := (so [ac, O, ab] aj).g3 J aa C
 refine .d ?_
 have ak := J.sl aq
 replace aa := (sd aw [ac, O, ab] O).g1 aa
 have aB := aa.sl av
 replace ak := (sd aw [ac, ab] ac).g1 ak
 exact .rb Tryz.func169 Tryz.results169 ax ⟨⟨_, rfl, ⟨_, _, _, _, _, _, rfl, ak.w1, aB.w1⟩⟩, C⟩
theorem c_spec_l13New  {w : World} {F : Nat → Prop}   : Calls Tryz.prog 132 [].toArray w (rets fun rv w' => VS (ge w.heap.size) w' ((⟨⟨[], []⟩, [], []⟩ : Sto) : Sto) rv ∧ Ext w w') := by
 refine goT Tryz.func132 <| .s <| .g <| .np 34 [.slice none 0 0, .slice none 0 0, .slice none 0 0, .slice none 0 0] fun aa au ai aj E av => ?_
 have aO : Cov nil w aa := cov_new ai (Nat.le_refl _)
 have C := aj
 refine .d <| .s <| .g <| .cl (c_spec_l11New (w := au) (F := all)) ?_
 rintro aU aV ⟨⟨_, rfl, ⟨aH, aW, aI, aJ, aX, aK, rfl, J, O⟩⟩, ak⟩
 have ah := al1 E.lt
 have al : Gb w.heap.size au.heap.size := C.size
 replace ⟨E, C⟩ := (se [] ak).g2 E C
 have J := J.fr ah al
 have aP := J.max
 have O := O.fr ah al
 have aQ := O.max
 have aw := J.len
 subst aw
 have ax := O.len
 subst ax
 refine .ns 0 42 [] fun ab aL ag am ay az => ?_
 have aR := nb_new ag E.lt
 have aA := gb_new ag C.size
 replace ⟨E, J, O, C⟩ := (sn [aa] am ag).g4 E J O C
 have W : Own (α := Prt) aL ab 42 (nin (ge w.heap.size) [ab, aa]) 0 0 [] := Own.nil' ay
 refine .ns 0 107 [] fun af aM ac ao aB aC => ?_
 have aS := nb_new ac E.lt
 have aT := nb_new ac W.lt
 have aD := gb_new ac C.size
 replace ⟨E, J, O, W, C⟩ := (sn [ab, aa] ao ac).g5 E J O W C
 have ae : Own (α := Smp) aM af 107 (nin (ge w.heap.size) [af, ab, aa]) 0 0 [] := Own.nil' aB
 refine .r 1 <| .sc [.slice aH ((((⟨[], []⟩ : Idx)).names).length) aI, .slice aJ ((((⟨[], []⟩ : Idx)).posts).length) aK, vS ab 0 0, vS af 0 0] E fun aE aq aF aG => ?_
 replace ⟨J, O, W, ae, C⟩ := (so [af, ab, aa] aq).g5 J O W ae C
 refine .d ?_
 have ar := W.sl aA
 replace ⟨J, O, ae⟩ := (sd aE [af, ab, aa] ab).g3 J O ae
 have aN := ae.sl aD
 replace ⟨J, O, ar⟩ := (sd aE [af, aa] af).g3 J O ar
 exact .rb Tryz.func132 Tryz.results132 aF ⟨(VS.of (y := (⟨(⟨((⟨[], []⟩ : Idx)).names, ((⟨[], []⟩ : Idx)).posts⟩ : Idx), [], []⟩ : Sto)) ⟨_, rfl, ⟨_, _, _, _, _, _, _, _, _, _, _, _, rfl, J.w1, O.w1, ar.w1, aN.w1⟩⟩ (by rfl)), C⟩
theorem c_spec_DiskNew  {w : World} {F : Nat → Prop}   : Calls Tryz.prog 133 [].toArray w (rets fun rv w' => VS (ge w.heap.size) w' ((⟨[], [], [], 1⟩ : Dsk) : Dsk) rv ∧ Ext w w') := by
 refine goT Tryz.func133 <| .s <| .g <| .np 27 [.slice none 0 0, .slice none 0 0, .slice none 0 0, vI 0] fun aa aS aj ak E av => ?_
 have aL : Cov nil w aa := cov_new aj (Nat.le_refl _)
 have C := ak
 refine .d <| .s <| .g <| .ns 0 66 [] fun ab aH ah al aw ax => ?_
 have aM := nb_new ah E.lt
 have ay := gb_new ah C.size
 replace ⟨E, C⟩ := (se [] al).g2 E C
 have J : Own (α := Fil) aH ab 66 (nin (ge w.heap.size) [ab, aa]) 0 0 [] := Own.nil' aw
 refine .ns 0 3 [] fun ae aI af am az aA => ?_
 have aN := nb_new af E.lt
 have aO := nb_new af J.lt
 have aB := gb_new af C.size
 replace ⟨E, J, C⟩ := (sn [ab, aa] am af).g3 E J C
 have O : Own (α := Int) aI ae 3 (nin (ge w.heap.size) [ae, ab, aa]) 0 0 [] := Own.nil' az
 refine .ns 0 77 [] fun ag aJ ac ao aC aD => ?_
 have aP := nb_new ac E.lt
 have aQ := nb_new ac J.lt
 have aR := nb_new ac O.lt
 have aE := gb_new ac C.size
 replace ⟨E, J, O, C⟩ := (sn [ae, ab, aa] ao ac).g4 E J O C
 have W : Own (α := List Tag) aJ ag 77 (nin (ge w.heap.size) [ag, ae, ab, aa]) 0 0 [] := Own.nil' aC
 refine .r 1 <| .sc [vS ab 0 0, vS ae 0 0, vS ag 0 0, vI 1] E fun ar aq aF aG => ?_
 replace ⟨J, O, W, C⟩ := (so [ag, ae, ab, aa] aq).g4 J O W C
 refine .d ?_
 have ai := J.sl ay
 replace ⟨O, W⟩ := (sd ar [ag, ae, ab, aa] ab).g2 O W
 have au := O.sl aB
 replace ⟨ai, W⟩ := (sd ar [ag, ae, aa] ae).g2 ai W
 have aK := W.sl aE
 replace ⟨ai, au⟩ := (sd ar [ag, aa] ag).g2 ai au
 exact .rb Tryz.func133 Tryz.results133 aF ⟨⟨_, rfl, ⟨_, _, _, _, _, _, _, _, _, rfl, ai.w1, au.w1, aK.w1⟩⟩, C⟩
theorem c_spec_WorldNew  {w : World} {F : Nat → Prop}   : Calls Tryz.prog 88 [].toArray w (rets fun rv w' => VS (ge w.heap.size) w' ((⟨⟨⟨[], []⟩, [], []⟩, ⟨[], [], [], 1⟩⟩ : Wld) : Wld) rv ∧ Ext w w') := by
 refine goT Tryz.func88 <| .s <| .g <| .np 70 [.slice none 0 0, .slice none 0 0, .slice none 0 0, .slice none 0 0, .slice none 0 0, .slice none 0 0, .slice none 0 0, vI 0] fun aq ar aj ak E au => ?_
 have aT : Cov nil w aq := cov_new aj (Nat.le_refl _)
 have C := ak
 refine .d <| .s <| .g <| .cl (c_spec_l13New (w := ar) (F := all)) ?_
 rintro bc av ⟨⟨_, rfl, ⟨aF, bd, aG, aH, bg, aI, aJ, bh, aK, aL, bi, aM, rfl, J, O, W, aa⟩⟩, al⟩
 have ab := al1 E.lt
 have ag : Gb w.heap.size ar.heap.size := C.size
 replace ⟨E, C⟩ := (se [] al).g2 E C
 have J := J.fr ab ag
 have aU := J.max
 have O := O.fr ab ag
 have aV := O.max
 have W := W.fr ab ag
 have aW := W.max
 have aa := aa.fr ab ag
 have aX := aa.max
 have aw := J.len
 subst aw
 have ax := O.len
 subst ax
 have ay := W.len
 subst ay
 have az := aa.len
 subst az
 refine .cl (c_spec_DiskNew (w := av) (F := all)) ?_
 rintro bj bk ⟨⟨_, rfl, ⟨aN, bm, aO, aP, bn, aQ, aR, bo, aS, rfl, ac, ae, af⟩⟩, am⟩
 have ah := al1 E.lt
 have ai : Gb w.heap.size av.heap.size := C.size
 replace ⟨E, J, O, W, aa, C⟩ := (se [aq] am).g6 E J O W aa C
 have ac := ac.fr ah ai
 have aY := ac.max
 have ae := ae.fr ah ai
 have aZ := ae.max
 have af := af.fr ah ai
 have ba := af.max
 have aA := ac.len
 subst aA
 have aB := ae.len
 subst aB
 have aC := af.len
 subst aC
 refine .r 1 <| .sc [.slice aF (((((⟨⟨[], []⟩, [], []⟩ : Sto)).idx).names).length) aG, .slice aH (((((⟨⟨[], []⟩, [], []⟩ : Sto)).idx).posts).length) aI, .slice aJ ((((⟨⟨[], []⟩, [], []⟩ : Sto)).parts).length) aK, .slice aL ((((⟨⟨[], []⟩, [], []⟩ : Sto)).mem).length) aM, .slice aN ((((⟨[], [], [], 1⟩ : Dsk)).files).length) aO, .slice aP ((((⟨[], [], [], 1⟩ : Dsk)).list).length) aQ, .slice aR ((((⟨[], [], [], 1⟩ : Dsk)).names).length) aS, vI (((⟨[], [], [], 1⟩ : Dsk)).next)] E fun bq ao aD aE => ?_
 replace ⟨J, O, W, aa, ac, ae, af, C⟩ := (so [aq] ao).g8 J O W aa ac ae af C
 exact .d <| .rb Tryz.func88 Tryz.results88 aD ⟨(VS.of (y := (⟨(⟨(⟨(((⟨⟨[], []⟩, [], []⟩ : Sto)).idx).names, (((⟨⟨[], []⟩, [], []⟩ : Sto)).idx).posts⟩ : Idx), ((⟨⟨[], []⟩, [], []⟩ : Sto)).parts, ((⟨⟨[], []⟩, [], []⟩ : Sto)).mem⟩ : Sto), (⟨((⟨[], [], [], 1⟩ : Dsk)).files, ((⟨[], [], [], 1⟩ : Dsk)).list, ((⟨[], [], [], 1⟩ : Dsk)).names, ((⟨[], [], [], 1⟩ : Dsk)).next⟩ : Dsk)⟩ : Wld)) ⟨_, rfl, ⟨_, _, _, _, _, _, _, _, _, _, _, _, _, _, _, _, _, _, _, _, _, rfl, J.w1, O.w1, W.w1, aa.w1, ac.w1, ae.w1, af.w1⟩⟩ (by rfl)), C⟩
theorem c_laws_lyPart (a : Prt) (b : Prt) {w : World} {F : Nat → Prop} {a1 : Option Addr} {n1 c1 : Nat} (h1 : RepS w F a1 n1 c1 a.ids) {a2 : Option Addr} {n2 c2 : Nat} (h2 : RepS w F a2 n2 c2 a.blocks) {a3 : Option Addr} {n3 c3 : Nat} (h3 : RepS w F a3 n3 c3 b.ids) {a4 : Option Addr} {n4 c4 : Nat} (h4 : RepS w F a4 n4 c4 b.blocks)  : Calls Tryz.prog 20 [.agg #[.slice a1 n1 c1, .slice a2 n2 c2], .agg #[.slice a3 n3 c3, .slice a4 n4 c4]].toArray w (rets fun rv w' => rv = .bool ((a == b)) ∧ Ext w w') := by
 refine goT Tryz.func20 ?_
 obtain ⟨rfl, aM, h1⟩ := h1.tp
 obtain ⟨rfl, aN, h2⟩ := h2.tp
 obtain ⟨rfl, aO, h3⟩ := h3.tp
 obtain ⟨rfl, aP, h4⟩ := h4.tp
 refine .s <| .g <| .np 42 [.slice a1 a.ids.length c1, .slice a2 a.blocks.length c2] fun W aY ai ab E ax => ?_
 replace ⟨h1, h2, h3, h4⟩ := (sn [] ab ai).g4 h1 h2 h3 h4
 have C := ab
 refine .np 42 [.slice a3 b.ids.length c3, .slice a4 b.blocks.length c4] fun aa aK aj ak J ay => ?_
 replace ⟨h1, h2, h3, h4, E, C⟩ := (sn [W] ak aj).g6 h1 h2 h3 h4 E C
 refine .r 1 <| .d <| .s <| .s <| .g <| .r 1 <| .lb E <| .r 1 <| .lb J <| .cl (c_laws_lyInts a.ids b.ids h1.ta h3.ta (w := aK) (F := all)) ?_
 rintro aZ az ⟨rfl, al⟩
 replace ⟨h2, h4, E, J, C⟩ := (se [aa, W] al).g5 h2 h4 E J C
 cases aQ : (a.ids == b.ids)
 ·exact .r 10 <| .d <| .ct <| .s <| .g <| .r 1 <| .d <| .rt Tryz.func20 Tryz.results20 (.bool false) ⟨(congrArg Value.bool (by cases a; cases b; grind [drop_end])), C⟩
 refine .r 3 <| .lb E <| .r 2 <| .lb J <| .r 1 <| .ne (a.blocks.length : Int) (b.blocks.length : Int) (fun aA => .r 1 <| .d <| .ct <| .s <| .g <| .r 1 <| .d <| .rt Tryz.func20 Tryz.results20 (.bool false) ⟨(congrArg Value.bool (by cases a; cases b; grind [drop_end])), C⟩) fun aA => .r 1 <| .d <| .cf <| .sk <| .s <| .s <| .g <| .r 1 <| .d <| .b 0 <| T.loop (X := Nat) 0 (fun i => [(2, .pointer (some ⟨W, 0, none⟩)), (3, .pointer (some ⟨aa, 0, none⟩)), (5, vI (i : Int))]) (fun i au => Chg (ins []) az au ∧ (i ≤ a.blocks.length) ∧ (a.blocks.drop i = b.blocks.drop i ↔ a.blocks = b.blocks)) (fun i => a.blocks.length - i) (by kernel_rfl) ⟨by kernel_rfl, by kernel_rfl, by kernel_rfl, trivial⟩ ⟨Chg.refl _ _, (by simp), (by simp)⟩ ?_
 rintro i ba au ⟨O, aR, aS⟩ ac
 have am : Mv [aa, W] [aa, W] az au := Mv.inl O all_nil (all_cons (.inl (.head _)) (all_cons (.inl (.tail _ (.head _))) all_nil))
 replace ⟨h2, h4, E, J, C⟩ := (sp am O).g5 h2 h4 E J C
 refine .s <| .s <| .g <| .r 2 <| .lb E <| .r 1 <| .bp ((i : Int) < (a.blocks.length : Int)) (fun aB => ?_) (fun aB => .d <| .cf <| .x 0 rfl <| .s <| .g <| .r 1 <| .d <| .rt Tryz.func20 Tryz.results20 (.bool true) ⟨(congrArg Value.bool (by cases a; cases b; grind [drop_end])), C⟩)
 refine .d <| .ct <| .sk <| .s <| .b 1 <| .s <| .gd nil 10 fun bc ao => ?_
 replace ⟨h2, h4, E, J, C, O⟩ := (se [aa, W] ao).g6 h2 h4 E J C O
 refine .r [0] <| .lb 1 E id <| .r [2] ?_
 have aC : i < a.blocks.length := (by omega)
 refine .ix 3 i 1 h2 aC ?_
 obtain ⟨av, ae⟩ : ∃ y, a.blocks[i]? = some y := ⟨_, List.getElem?_eq_getElem (by omega)⟩
 have aT := drop_at ae; have aI := List.mem_of_getElem? ae
 obtain ⟨_, ⟨bd, bg, bh, rfl, af⟩, aD⟩ := h2.elem i av ae
 have aE := af.len
 subst aE
 have aU := af.max
 refine .lh 4 0 aD id <| .r [5] <| .lb 6 J id <| .r [7] ?_
 have aF : i < b.blocks.length := (by omega)
 refine .ix 8 i 1 h4 aF ?_
 obtain ⟨aw, ag⟩ : ∃ y, b.blocks[i]? = some y := ⟨_, List.getElem?_eq_getElem (by omega)⟩
 have aV := drop_at ag; have aJ := List.mem_of_getElem? ag
 obtain ⟨_, ⟨bi, bj, bk, rfl, ah⟩, aG⟩ := h4.elem i aw ag
 have aH := ah.len
 subst aH
 have aW := ah.max
 refine .lh 9 0 aG id <| .d fun aL aq => ?_
 replace ⟨af, ah, C, O⟩ := (se [aa, W] aq).g4 af ah C O
 refine .cl (c_laws_lyRows av aw af.ta ah.ta (w := aL) (F := all)) ?_
 rintro bm bn ⟨rfl, ar⟩
 replace ⟨C, O⟩ := (se [] ar).g2 C O
 cases aX : (av == aw)
 ·exact .r 1 <| .d <| .ct <| .s <| .g <| .r 1 <| .d <| .rt Tryz.func20 Tryz.results20 (.bool false) ⟨(congrArg Value.bool (by cases a; cases b; grind [drop_end])), C⟩
 exact .r 1 <| .d <| .cf <| .sk <| .ib 1 <| .g <| .r 1 <| .it ((i : Int) + 1) <| .r 1 <| .d <| ac (i + 1) _ _ ⟨by kernel_rfl, by kernel_rfl, by kernel_rfl, trivial⟩ ⟨O, (by omega), (by grind)⟩ (by omega)
theorem c_spec_l12Merge (a : Prt) (b : Prt) {w : World} {F : Nat → Prop} {a1 : Option Addr} {n1 c1 : Nat} (h1 : RepS w F a1 n1 c1 a.ids) {a2 : Option Addr} {n2 c2 : Nat} (h2 : RepS w F a2 n2 c2 a.blocks) {a3 : Option Addr} {n3 c3 : Nat} (h3 : RepS w F a3 n3 c3 b.ids) {a4 : Option Addr} {n4 c4 : Nat} (h4 : RepS w F a4 n4 c4 b.blocks) (p0 : PrtSz a) (p1 : PrtSz b) : Calls Tryz.prog 111 [.agg #[.slice a1 n1 c1, .slice a2 n2 c2], .agg #[.slice a3 n3 c3, .slice a4 n4 c4]].toArray w (rets fun rv w' => VS (ge w.heap.size) w' (pMerge a b : Prt) rv ∧ Ext w w') := by
 refine goT Tryz.func111 ?_
 obtain ⟨rfl, b9, h1⟩ := h1.tp
 obtain ⟨rfl, cd, h2⟩ := h2.tp
 obtain ⟨rfl, ce, h3⟩ := h3.tp
 obtain ⟨rfl, cg, h4⟩ := h4.tp
 refine .s <| .g <| .np 42 [.slice a1 a.ids.length c1, .slice a2 a.blocks.length c2] fun ab cP aX aE E bB => ?_
 replace ⟨h1, h2, h3, h4⟩ := (sn [] aE aX).g4 h1 h2 h3 h4
 have C := aE
 refine .np 42 [.slice a3 b.ids.length c3, .slice a4 b.blocks.length c4] fun ac cQ aY aZ J bC => ?_
 replace ⟨h1, h2, h3, h4, E, C⟩ := (sn [ab] aZ aY).g6 h1 h2 h3 h4 E C
 refine .np 42 [.slice none 0 0, .slice none 0 0] fun ae cR aF ba O bD => ?_
 have ci := C.cn aF
 replace ⟨h1, h2, h3, h4, E, J, C⟩ := (sn [ac, ab] ba aF).g7 h1 h2 h3 h4 E J C
 refine .d <| .s <| .g <| .ns 0 91 [] fun av aG am bc bE bF => ?_
 have bG := nb_new am E.lt
 have bH := nb_new am J.lt
 have bI := nb_new am O.lt
 have bJ := C.cn am
 replace ⟨h1, h2, h3, h4, E, J, O, C⟩ := (sn [ae, ac, ab] bc am).g8 h1 h2 h3 h4 E J O C
 have bK : Own (α := List Row) aG av 91 (nin (ge w.heap.size) [av, ae, ac, ab]) 0 0 [] := Own.nil' bE
 refine .r 1 <| .d <| .s <| .s <| .g <| .r 1 <| .d <| .b 0 <| T.loop (X := (List (List Row)) × Nat × Nat × Nat × Nat) (([] : List (List Row)), av, 0, 0, 1) (fun (blocks, r_blocks, n_blocks, c_blocks, id) => [(2, .pointer (some ⟨ab, 0, none⟩)), (3, .pointer (some ⟨ac, 0, none⟩)), (4, .pointer (some ⟨ae, 0, none⟩)), (5, vS r_blocks n_blocks c_blocks), (6, vI (id : Int))]) (fun (blocks, r_blocks, n_blocks, c_blocks, id) ao => Chg (ins [av]) aG ao ∧ Own ao r_blocks 91 (nin (ge w.heap.size) [r_blocks, ae, ac, ab]) n_blocks c_blocks blocks ∧ OrB r_blocks av aG.heap.size ∧ (1 ≤ id) ∧ (id ≤ 7) ∧ (blocks = pMergeL a b (id - 1))) (fun (blocks, r_blocks, n_blocks, c_blocks, id) => 7 - id) (by kernel_rfl) ⟨by kernel_rfl, by kernel_rfl, by kernel_rfl, by kernel_rfl, by kernel_rfl, trivial⟩ ⟨Chg.refl _ _, bK, orb_refl, (by simp [pMergeL]), (by simp [pMergeL]), (by simp [pMergeL])⟩ ?_
 rintro ⟨blocks, r_blocks, n_blocks, c_blocks, id⟩ cS ao ⟨aa, W, ai, cj, ck, cm⟩ aH
 have bL := nb_or' ai bG E.lt
 have bM := nb_or' ai bH J.lt
 have co := nb_or' ai bI O.lt
 have cp := cov_or' ai bJ C.size
 have bN : Cov (ins [av]) aG av := ⟨.inl (.head _)⟩
 have cq := cov_or' ai bN (Nat.le_refl _)
 have bd : Mv [av, ae, ac, ab] [r_blocks, ae, ac, ab] aG ao := Mv.inl aa (all_cons (.head _) all_nil) (all_cons (orb_mem ai (.head _)) (all_cons (.inl (.tail _ (.head _))) (all_cons (.inl (.tail _ (.tail _ (.head _)))) (all_cons (.inl (.tail _ (.tail _ (.tail _ (.head _))))) all_nil))))
 replace ⟨h1, h2, h3, h4, E, J, O, C⟩ := (sp bd aa).g8 h1 h2 h3 h4 E J O C
 have cr := W.len; have cu := W.max
 refine .s <| .s <| .g <| .r 1 <| .bp ((id : Int) ≤ 6) (fun bO => ?_) (fun bO => ?_)
 ·refine .d <| .ct <| .sk <| .s <| .b 1 ?_
  replace h1 := h1.into
  replace h2 := h2.into
  replace h3 := h3.into
  replace h4 := h4.into
  have bh : Gb (ab + 1) ao.heap.size := E.lt
  have bi : Gb (ac + 1) ao.heap.size := J.lt
  refine .gd (mtb [r_blocks] ao.heap.size) 9 fun cv aI => ?_
  replace ⟨h1, h2, h3, h4, E, J, O, W, C, aa⟩ := (se [r_blocks, ae, ac, ab] aI).g10 h1 h2 h3 h4 E J O W C aa
  refine .r [0] <| .ln 1 E (nS_of (all_cons (Nb.symm bL) all_nil) bh) <| .r [2] <| .ln 4 J (nS_of (all_cons (Nb.symm bM) all_nil) bi) <| .r [5] <| .go 3 <| .cl (fun aJ aq => c_spec_l12Of a (id : Int) ((h1.base (fun _ _ h => h.1)).ext aq) ((h2.base (fun _ _ h => h.1)).ext aq) (by grind [PrtSz]) (w := aJ) (F := nin (fo F w.heap.size) [r_blocks, ae, ac, ab])) ?_
  intro aJ aq
  replace ⟨h3, h4, E, J, O, W, C, aa⟩ := (se [r_blocks, ae, ac, ab] aq).g8 h3 h4 E J O W C aa
  rintro cw cx ⟨⟨cy, cz, rfl, ah⟩, aw⟩
  have aK := al4 W.lt O.lt J.lt E.lt
  have bj : Gb w.heap.size aJ.heap.size := C.size
  have hkeep_ := aw
  replace ⟨h3, h4, E, J, O, W, C, aa⟩ := (se [r_blocks, ae, ac, ab] aw).g8 h3 h4 E J O W C aa
  refine ⟨Ext.chg hkeep_, ?_⟩
  replace ah := RepS.mixed' (M := [r_blocks, ae, ac, ab]) ah aK bj
  have bX := ah.max
  refine .go 6 <| .cl (fun aL ar => c_spec_l12Of b (id : Int) ((h3.base (fun _ _ h => h.1)).ext ar) ((h4.base (fun _ _ h => h.1)).ext ar) (by grind [PrtSz]) (w := aL) (F := nin (fo F w.heap.size) [r_blocks, ae, ac, ab])) ?_
  intro aL ar
  replace ⟨E, J, O, W, ah, C, aa⟩ := (se [r_blocks, ae, ac, ab] ar).g7 E J O W ah C aa
  rintro cA cB ⟨⟨cC, cD, rfl, aB⟩, ax⟩
  have aM := al4 W.lt O.lt J.lt E.lt
  have bk : Gb w.heap.size aL.heap.size := C.size
  have hkeep_ := ax
  replace ⟨E, J, O, W, ah, C, aa⟩ := (se [r_blocks, ae, ac, ab] ax).g7 E J O W ah C aa
  refine ⟨Ext.chg hkeep_, ?_⟩
  replace aB := RepS.mixed' (M := [r_blocks, ae, ac, ab]) aB aM bk
  have bY := aB.max
  refine .go 7 <| .cl (fun aN au => c_spec_l2Merge (partOf a (id : Int)) (partOf b (id : Int)) (ah.ta.ext au) (aB.ta.ext au) (by have q1 := partOf_len p0 id; have q2 := partOf_len p1 id; omega) (w := aN) (F := all)) ?_
  intro aN au
  replace ⟨E, J, O, W, C, aa⟩ := (se [r_blocks, ae, ac, ab] au).g6 E J O W C aa
  rintro cE cF ⟨⟨bP, bQ, rfl, af⟩, ay⟩
  have aO := al4 W.lt O.lt J.lt E.lt
  have bm : Gb w.heap.size aN.heap.size := C.size
  have hkeep_ := ay
  replace ⟨E, J, O, W, C, aa⟩ := (se [r_blocks, ae, ac, ab] ay).g6 E J O W C aa
  refine ⟨Ext.chg hkeep_, ?_⟩
  have af := af.fr aO bm
  have bZ := af.max
  refine .go 8 <| .ns 1 91 [.slice bP ((sMerge (partOf a (id : Int)) (partOf b (id : Int))).length) bQ] fun cG aP => ?_
  replace ⟨E, J, O, W, af, C, aa⟩ := (se [r_blocks, ae, ac, ab] aP).g7 E J O W af C aa
  intro bg cH ag aQ az bn
  have bo := nb_new ag E.lt
  have bq := nb_new ag J.lt
  have br := nb_new ag O.lt
  have aR := nb_new ag W.lt
  have bt := gb_new ag C.size
  replace ⟨E, J, O, W, af, C, aa⟩ := (se [r_blocks, ae, ac, ab] aQ).g7 E J O W af C aa
  refine .d fun cI aS => ?_
  replace ⟨E, J, O, W, af, az, C, aa⟩ := (se [r_blocks, ae, ac, ab] aS).g8 E J O W af az C aa
  have aD : nin (ge w.heap.size) [r_blocks, ae, ac, ab] bg ∧ bg ≠ r_blocks := hap_mk bt (all_cons aR (all_cons br (all_cons bq (all_cons bo all_nil)))) aR
  refine RG.append1 (T := 40) (ty := 40) (y := sMerge (partOf a (id : Int)) (partOf b (id : Int))) W az (by kernel_rfl) (by kernel_rfl) ⟨_, _, _, rfl, af.oi⟩ aD (by grind [pMergeL_len]) fun bR bS cJ aj aC aT => ?_
  have bu := orb_or aC ai aa.size
  replace ⟨E, J, O, C, aa⟩ := (s1 aT).g5 E J O C aa
  replace aj := aj.rn r_blocks
  have b0 := aj.len; have b6 := aj.max
  exact .r 1 <| .d <| .ib 1 <| .g <| .r 1 <| .it ((id : Int) + 1) <| .r 1 <| .d <| aH ((blocks ++ [sMerge (partOf a (id : Int)) (partOf b (id : Int))]), bR, n_blocks + 1, bS, id + 1) _ _ ⟨by kernel_rfl, by kernel_rfl, by kernel_rfl, by kernel_rfl, by kernel_rfl, trivial⟩ ⟨aa, aj, bu, (by omega), (by omega), (by obtain ⟨q, rfl⟩ : ∃ q, id = q + 1 := ⟨id - 1, by omega⟩; have := pMergeL_succ a b q; grind)⟩ (by (simp only []; omega))
 refine .d <| .cf <| .x 0 rfl <| .s <| .g <| .r 1 <| .cl (c_spec_l12Make blocks (W.rep) (by grind [pMergeL_len]) (by have q := pMergeL_mem p0 p1 6; grind) (w := ao) (F := all)) ?_
 rintro cK cL ⟨⟨_, rfl, ⟨bT, cM, bU, bV, cN, bW, rfl, ak, al⟩⟩, aU⟩
 have aA := al4 W.lt O.lt J.lt E.lt
 have aV : Gb w.heap.size ao.heap.size := C.size
 replace ⟨O, C⟩ := (se [] aU).g2 O C
 have ak := ak.fr aA aV
 have b7 := ak.max
 have al := al.fr aA aV
 have b8 := al.max
 have bv := ak.len
 subst bv
 have bw := al.len
 subst bw
 refine .sc [.slice bT (((pMake blocks).ids).length) bU, .slice bV (((pMake blocks).blocks).length) bW] O fun cO aW bz bA => ?_
 replace ⟨ak, al, C⟩ := (so [r_blocks, ae, ac, ab] aW).g3 ak al C
 exact .d <| .rb Tryz.func111 Tryz.results111 bz ⟨(VS.of (y := (pMake blocks)) ⟨_, rfl, ⟨_, _, _, _, _, _, rfl, ak.w1, al.w1⟩⟩ (by grind [pMerge])), C⟩
theorem c_spec_l13Rows (s : Sto) (id : Int) {w : World} {F : Nat → Prop} {a1 : Option Addr} {n1 c1 : Nat} (h1 : RepS w F a1 n1 c1 s.idx.names) {a2 : Option Addr} {n2 c2 : Nat} (h2 : RepS w F a2 n2 c2 s.idx.posts) {a3 : Option Addr} {n3 c3 : Nat} (h3 : RepS w F a3 n3 c3 s.parts) {a4 : Option Addr} {n4 c4 : Nat} (h4 : RepS w F a4 n4 c4 s.mem) (p0 : s.parts.length ≤ 100) (p1 : ∀ p ∈ s.parts, PrtSz p) (p2 : s.mem.length ≤ 1000) : Calls Tryz.prog 116 [.agg #[.slice a1 n1 c1, .slice a2 n2 c2, .slice a3 n3 c3, .slice a4 n4 c4], .int .i64 id].toArray w (rets fun rv w' => VL (ge w.heap.size) w' (rowsOf s id : List Row) rv ∧ Ext w w') := by
 refine goT Tryz.func116 ?_
 obtain ⟨rfl, br, h1⟩ := h1.tp
 obtain ⟨rfl, bt, h2⟩ := h2.tp
 obtain ⟨rfl, bu, h3⟩ := h3.tp
 obtain ⟨rfl, bv, h4⟩ := h4.tp
 refine .s <| .g <| .np 34 [.slice a1 s.idx.names.length c1, .slice a2 s.idx.posts.length c2, .slice a3 s.parts.length c3, .slice a4 s.mem.length c4] fun J bP aA ak C aO => ?_
 replace ⟨h3, h4⟩ := (sn [] ak aA).g2 h3 h4
 have E := ak
 refine .r 1 <| .d <| .s <| .g <| .ns 0 105 [] fun al ax ah aB aP aQ => ?_
 have bw := nb_new ah C.lt
 have aR := gb_new ah E.size
 replace ⟨h3, h4, C, E⟩ := (sn [J] aB ah).g4 h3 h4 C E
 have aS : Own (α := Row) ax al 105 (nin (ge w.heap.size) [al, J]) 0 0 [] := Own.nil' aP
 refine .r 1 <| .d <| .s <| .s <| .g <| .r 1 <| .d <| .b 0 ?_
 have bi := aS.sl aR
 replace ⟨h3, h4⟩ := (sd ax [al, J] al).g2 h3 h4
 refine T.loop (X := (List Row) × (Option Addr) × Nat × Nat × Nat) (([] : List Row), some ⟨al, 0, none⟩, 0, 0, 0) (fun (out, a_out, n_out, c_out, i) => [(1, vI id), (2, .pointer (some ⟨J, 0, none⟩)), (5, .slice a_out n_out c_out), (6, vI (i : Int))]) (fun (out, a_out, n_out, c_out, i) ae => Chg (ins []) ax ae ∧ RepS ae (nin (ge w.heap.size) [J]) a_out n_out c_out out ∧ (i ≤ s.parts.length) ∧ (out.length ≤ 1000 * i) ∧ ((s.parts.drop i).foldl (rowsP id) out = s.parts.foldl (rowsP id) [])) (fun (out, a_out, n_out, c_out, i) => s.parts.length - i) (by kernel_rfl) ⟨by kernel_rfl, by kernel_rfl, by kernel_rfl, by kernel_rfl, trivial⟩ ⟨Chg.refl _ _, bi, (by simp), (by simp), (by simp)⟩ ?_
 rintro ⟨out, a_out, n_out, c_out, i⟩ bQ ae ⟨W, O, bz, bA, bB⟩ am
 have aC : Mv [J] [J] ax ae := Mv.inl W all_nil (all_cons (.inl (.head _)) all_nil)
 replace ⟨h3, h4, C, E⟩ := (sp aC W).g4 h3 h4 C E
 have bC := O.len; have bD := O.max
 refine .s <| .s <| .g <| .r 2 <| .lb C <| .r 1 <| .bp ((i : Int) < (s.parts.length : Int)) (fun aT => ?_) (fun aT => ?_)
 ·refine .d <| .ct <| .sk <| .s <| .b 1 <| .g <| .r 2 <| .lb C <| .r 1 ?_
  have aU : i < s.parts.length := (by omega)
  refine .ix i 2 h3 aU ?_
  obtain ⟨ao, aq⟩ : ∃ y, s.parts[i]? = some y := ⟨_, List.getElem?_eq_getElem (by omega)⟩
  have bE := drop_at aq; have bh := List.mem_of_getElem? aq
  obtain ⟨_, ⟨bR, bS, bT, bU, bV, bW, rfl, aH, aI⟩, aV⟩ := h3.elem i ao aq
  have aW := aH.len
  subst aW
  have bF := aH.max
  have aX := aI.len
  subst aX
  have bG := aI.max
  refine .lg 0 aV <| .r 1 <| .cl (c_spec_l12Of ao id aH aI (by grind [PrtSz]) (w := ae) (F := nin (fo F w.heap.size) [J])) ?_
  rintro bX aY ⟨⟨bY, bZ, rfl, ay⟩, aD⟩
  have aE := al1 C.lt
  have aZ : Gb w.heap.size ae.heap.size := E.size
  replace ⟨h4, C, O, E, W⟩ := (se [J] aD).g5 h4 C O E W
  replace ay := RepS.mixed' (M := [J]) ay aE aZ
  have bH := ay.max
  refine .cl (c_spec_l2Merge out (partOf ao id) O.ta ay.ta (by grind [partOf_len]) (w := aY) (F := all)) ?_
  rintro b0 b6 ⟨⟨bj, bk, rfl, az⟩, aF⟩
  have aG := al1 C.lt
  have ba : Gb w.heap.size aY.heap.size := E.size
  replace ⟨h4, C, O, E, W⟩ := (se [J] aF).g5 h4 C O E W
  have az := az.fr aG ba
  have bI := az.max
  exact .r 1 <| .d <| .ib 1 <| .g <| .r 1 <| .it ((i : Int) + 1) <| .r 1 <| .d <| am (sMerge out (partOf ao id), bj, (sMerge out (partOf ao id)).length, bk, i + 1) _ _ ⟨by kernel_rfl, by kernel_rfl, by kernel_rfl, by kernel_rfl, trivial⟩ ⟨W, az, (by omega), (by grind [sMerge_len, partOf_len]), (by grind [rowsP, sMerge_len, partOf_len])⟩ (by (simp only []; omega))
 refine .d <| .cf <| .x 0 rfl <| .s <| .s <| .g <| .r 1 <| .d <| .b 2 <| T.loop (X := (List Row) × (Option Addr) × Nat × Nat × Nat) ((out : List Row), a_out, n_out, c_out, 0) (fun (out, a_out, n_out, c_out, i) => [(1, vI id), (2, .pointer (some ⟨J, 0, none⟩)), (5, .slice a_out n_out c_out), (7, vI (i : Int))]) (fun (out, a_out, n_out, c_out, i) aj => Chg (ins []) ae aj ∧ RepS aj (nin (ge w.heap.size) [J]) a_out n_out c_out out ∧ (i ≤ s.mem.length) ∧ (out.length ≤ 100000 + i) ∧ ((s.mem.drop i).foldl (rowsM id) out = rowsOf s id)) (fun (out, a_out, n_out, c_out, i) => s.mem.length - i) (by kernel_rfl) ⟨by kernel_rfl, by kernel_rfl, by kernel_rfl, by kernel_rfl, trivial⟩ ⟨Chg.refl _ _, O, (by grind [rowsOf, drop_end]), (by grind [rowsOf, drop_end]), (by grind [rowsOf, drop_end])⟩ ?_
 rintro ⟨out, a_out, n_out, c_out, i⟩ bJ aj ⟨ab, aa, bK, bL, bM⟩ ac
 have ar : Mv [J] [J] ae aj := Mv.inl ab all_nil (all_cons (.inl (.head _)) all_nil)
 replace ⟨h4, C, E⟩ := (sp ar ab).g3 h4 C E
 have bm := aa.len; have bn := aa.max
 refine .s <| .s <| .g <| .r 2 <| .lb C <| .r 1 <| .bp ((i : Int) < (s.mem.length : Int)) (fun aJ => ?_) (fun aJ => .d <| .cf <| .x 2 rfl <| .s <| .g <| .r 2 <| .d <| .rt Tryz.func116 Tryz.results116 (.slice a_out n_out c_out) ⟨(aa.vl (by grind [drop_end]) (fun _ _ h => h.1)), E⟩)
 refine .d <| .ct <| .sk <| .s <| .b 3 <| .s <| .g <| .r 1 <| .lb C <| .r 1 ?_
 have aK : i < s.mem.length := (by omega)
 refine .ix i 3 h4 aK <| .r 1 ?_
 obtain ⟨af, ag⟩ : ∃ y, s.mem[i]? = some y := ⟨_, List.getElem?_eq_getElem (by omega)⟩
 have bo := drop_at ag; have bc := List.mem_of_getElem? ag
 obtain ⟨_, rfl, au⟩ := h4.elem i af ag
 refine .lh 0 au <| .r 1 <| .eq af.id id (fun aL => ?_) (fun aL => .d <| .cf <| .sk <| .ib 3 <| .g <| .r 1 <| .it ((i : Int) + 1) <| .r 1 <| .d <| ac (out, a_out, n_out, c_out, i + 1) _ _ ⟨by kernel_rfl, by kernel_rfl, by kernel_rfl, by kernel_rfl, trivial⟩ ⟨ab, aa, (by grind [rowsM, sPut_len]), (by grind [rowsM, sPut_len]), (by grind [rowsM, sPut_len])⟩ (by (simp only []; omega)))
 refine .d <| .ct <| .g <| .r 2 <| .lb C <| .r 1 ?_
 have aM : i < s.mem.length := (by omega)
 refine .ix i 3 h4 aM <| .r 1 <| .lg 1 au <| .cl (c_spec_l2Put out af.row aa.ta (by omega) (w := aj) (F := all)) ?_
 rintro bN bO ⟨⟨bd, bg, rfl, ai⟩, av⟩
 have aw := al1 C.lt
 have aN : Gb w.heap.size aj.heap.size := E.size
 replace ⟨aa, E, ab⟩ := (se [J] av).g3 aa E ab
 have ai := ai.fr aw aN
 have bq := ai.max
 exact .r 1 <| .d <| .ib 3 <| .g <| .r 1 <| .it ((i : Int) + 1) <| .r 1 <| .d <| ac (sPut out af.row, bd, (sPut out af.row).length, bg, i + 1) _ _ ⟨by kernel_rfl, by kernel_rfl, by kernel_rfl, by kernel_rfl, trivial⟩ ⟨ab, ai, (by grind [rowsM, sPut_len]), (by grind [rowsM, sPut_len]), (by grind [rowsM, sPut_len])⟩ (by (simp only []; omega))
theorem c_spec_l21At (d : Dsk) (num : Int) {w : World} {F : Nat → Prop} {a1 : Option Addr} {n1 c1 : Nat} (h1 : RepS w F a1 n1 c1 d.files) {a2 : Option Addr} {n2 c2 : Nat} (h2 : RepS w F a2 n2 c2 d.list) {a3 : Option Addr} {n3 c3 : Nat} (h3 : RepS w F a3 n3 c3 d.names)  : Calls Tryz.prog 66 [.agg #[.slice a1 n1 c1, .slice a2 n2 c2, .slice a3 n3 c3, .int .i64 d.next], .int .i64 num].toArray w (rets fun rv w' => rv = .int .i64 (numAt d num) ∧ Ext w w') := by
 refine goT Tryz.func66 ?_
 obtain ⟨rfl, aw, h1⟩ := h1.tp
 obtain ⟨rfl, ax, h2⟩ := h2.tp
 obtain ⟨rfl, ay, h3⟩ := h3.tp
 refine .s <| .g <| .np 27 [.slice a1 d.files.length c1, .slice a2 d.list.length c2, .slice a3 d.names.length c3, vI d.next] fun ae ag ab J C ah => ?_
 replace h1 := (sn [] J ab).g1 h1
 have E := J
 refine .r 1 <| .d <| .s <| .s <| .g <| .r 1 <| .d <| .b 0 <| T.loop (X := Nat) 0 (fun i => [(1, vI num), (2, .pointer (some ⟨ae, 0, none⟩)), (5, vI (i : Int))]) (fun i af => Chg (ins []) ag af ∧ (i ≤ d.files.length) ∧ (numF num i (d.files.drop i) = numAt d num)) (fun i => d.files.length - i) (by kernel_rfl) ⟨by kernel_rfl, by kernel_rfl, by kernel_rfl, trivial⟩ ⟨Chg.refl _ _, (by simp [numAt]), (by simp [numAt])⟩ ?_
 rintro i aE af ⟨O, az, aA⟩ W
 have ac : Mv [ae] [ae] ag af := Mv.inl O all_nil (all_cons (.inl (.head _)) all_nil)
 replace ⟨h1, C, E⟩ := (sp ac O).g3 h1 C E
 refine .s <| .s <| .g <| .r 2 <| .lb C <| .r 1 <| .bp ((i : Int) < (d.files.length : Int)) (fun ai => ?_) (fun ai => .d <| .cf <| .x 0 rfl <| .s <| .g <| .r 1 <| .d <| .rt Tryz.func66 Tryz.results66 (vI (-1)) ⟨(congrArg (Value.int .i64) (by grind [numF, drop_end])), E⟩)
 refine .d <| .ct <| .sk <| .s <| .b 1 <| .s <| .g <| .r 1 <| .lb C <| .r 1 ?_
 have aj : i < d.files.length := (by omega)
 refine .ix i 3 h1 aj <| .r 1 ?_
 obtain ⟨ak, aa⟩ : ∃ y, d.files[i]? = some y := ⟨_, List.getElem?_eq_getElem (by omega)⟩
 have aB := drop_at aa; have av := List.mem_of_getElem? aa
 obtain ⟨_, ⟨aF, aG, aH, aI, aJ, aK, rfl, al, am⟩, ao⟩ := h1.elem i ak aa
 have aq := al.len
 subst aq
 have aC := al.max
 have ar := am.len
 subst ar
 have aD := am.max
 exact .lh 0 ao <| .r 1 <| .eq ak.num num (fun au => .d <| .ct <| .s <| .g <| .r 2 <| .d <| .rt Tryz.func66 Tryz.results66 (vI (i : Int)) ⟨(congrArg (Value.int .i64) (by grind [numF, drop_end])), E⟩) fun au => .d <| .cf <| .sk <| .ib 1 <| .g <| .r 1 <| .it ((i : Int) + 1) <| .r 1 <| .d <| W (i + 1) _ _ ⟨by kernel_rfl, by kernel_rfl, by kernel_rfl, trivial⟩ ⟨O, (by omega), (by grind [numF])⟩ (by omega)
theorem c_spec_l11At (ix : Idx) (n : List Tag) {w : World} {F : Nat → Prop} {a1 : Option Addr} {n1 c1 : Nat} (h1 : RepS w F a1 n1 c1 ix.names) {a2 : Option Addr} {n2 c2 : Nat} (h2 : RepS w F a2 n2 c2 ix.posts) {a3 : Option Addr} {n3 c3 : Nat} (h3 : RepS w F a3 n3 c3 n) (p0 : ix.names.length ≤ 1000) (p1 : ∀ n ∈ ix.names, NmSz n) (p2 : NmSz n) : Calls Tryz.prog 188 [.agg #[.slice a1 n1 c1, .slice a2 n2 c2], .slice a3 n3 c3].toArray w (rets fun rv w' => rv = .int .i64 (nmAt ix n) ∧ Ext w w') := by
 refine goT Tryz.func188 ?_
 obtain ⟨rfl, aw, h1⟩ := h1.tp
 obtain ⟨rfl, ax, h2⟩ := h2.tp
 obtain ⟨rfl, ay, h3⟩ := h3.tp
 refine .s <| .g <| .np 30 [.slice a1 ix.names.length c1, .slice a2 ix.posts.length c2] fun ac ak af O J al => ?_
 replace ⟨h1, h3⟩ := (sn [] O af).g2 h1 h3
 have C := O
 refine .r 1 <| .d <| .s <| .s <| .g <| .r 1 <| .d <| .b 0 <| T.loop (X := Nat) 0 (fun i => [(1, .slice a3 n.length c3), (2, .pointer (some ⟨ac, 0, none⟩)), (5, vI (i : Int))]) (fun i ae => Chg (ins []) ak ae ∧ (i ≤ ix.names.length) ∧ (nmF (text n) i (ix.names.drop i) = nmAt ix n)) (fun i => ix.names.length - i) (by kernel_rfl) ⟨by kernel_rfl, by kernel_rfl, by kernel_rfl, trivial⟩ ⟨Chg.refl _ _, (by simp [nmAt]), (by simp [nmAt])⟩ ?_
 rintro i aE ae ⟨E, az, aA⟩ W
 have ag : Mv [ac] [ac] ak ae := Mv.inl E all_nil (all_cons (.inl (.head _)) all_nil)
 replace ⟨h1, h3, J, C⟩ := (sp ag E).g4 h1 h3 J C
 refine .s <| .s <| .g <| .r 2 <| .lb J <| .r 1 <| .bp ((i : Int) < (ix.names.length : Int)) (fun am => ?_) (fun am => .d <| .cf <| .x 0 rfl <| .s <| .g <| .r 1 <| .d <| .rt Tryz.func188 Tryz.results188 (vI 0) ⟨(congrArg (Value.int .i64) (by grind [nmF, drop_end])), C⟩)
 refine .d <| .ct <| .sk <| .s <| .b 1 <| .s <| .g <| .r 1 <| .lb J <| .r 1 ?_
 have ao : i < ix.names.length := (by omega)
 refine .ix i 1 h1 ao ?_
 obtain ⟨aa, ab⟩ : ∃ y, ix.names[i]? = some y := ⟨_, List.getElem?_eq_getElem (by omega)⟩
 have aB := drop_at ab; have au := List.mem_of_getElem? ab
 obtain ⟨_, ⟨aF, aG, aH, rfl, aj⟩, aq⟩ := h1.elem i aa ab
 have ar := aj.len
 subst ar
 have aC := aj.max
 refine .lh 0 aq <| .cl (c_spec_l3Text aa aj.ta (by grind [NmSz]) (by grind [NmSz]) (w := ae) (F := all)) ?_
 rintro aI av ⟨rfl, ah⟩
 replace ⟨h3, C, E⟩ := (se [ac] ah).g3 h3 C E
 refine .r 1 <| .cl (c_spec_l3Text n h3.ta (by grind [NmSz]) (by grind [NmSz]) (w := av) (F := all)) ?_
 rintro aJ aK ⟨rfl, ai⟩
 replace ⟨C, E⟩ := (se [] ai).g2 C E
 refine RG.eqv (v := .bool ((text aa == text n))) (by kernel_rfl) (s_eq (text aa) (text n)) ?_
 cases aD : (text aa == text n)
 ·exact .d <| .cf <| .sk <| .ib 1 <| .g <| .r 1 <| .it ((i : Int) + 1) <| .r 1 <| .d <| W (i + 1) _ _ ⟨by kernel_rfl, by kernel_rfl, by kernel_rfl, trivial⟩ ⟨E, (by omega), (by grind [nmF])⟩ (by omega)
 exact .d <| .ct <| .s <| .g <| .r 1 <| .it ((i : Int) + 1) <| .r 1 <| .d <| .rt Tryz.func188 Tryz.results188 (vI ((i : Int) + 1)) ⟨(congrArg (Value.int .i64) (by grind [nmF, drop_end])), C⟩
theorem c_spec_l21Counts (d : Dsk) (num : Int) {w : World} {F : Nat → Prop} {a1 : Option Addr} {n1 c1 : Nat} (h1 : RepS w F a1 n1 c1 d.files) {a2 : Option Addr} {n2 c2 : Nat} (h2 : RepS w F a2 n2 c2 d.list) {a3 : Option Addr} {n3 c3 : Nat} (h3 : RepS w F a3 n3 c3 d.names)  : Calls Tryz.prog 123 [.agg #[.slice a1 n1 c1, .slice a2 n2 c2, .slice a3 n3 c3, .int .i64 d.next], .int .i64 num].toArray w (rets fun rv w' => rv = .bool ((d.list.contains num)) ∧ Ext w w') := by
 refine goT Tryz.func123 ?_
 obtain ⟨rfl, aq, h1⟩ := h1.tp
 obtain ⟨rfl, ar, h2⟩ := h2.tp
 obtain ⟨rfl, au, h3⟩ := h3.tp
 refine .s <| .g <| .np 27 [.slice a1 d.files.length c1, .slice a2 d.list.length c2, .slice a3 d.names.length c3, vI d.next] fun ae ag ab J C ah => ?_
 replace h2 := (sn [] J ab).g1 h2
 have E := J
 refine .r 1 <| .d <| .s <| .s <| .g <| .r 1 <| .d <| .b 0 <| T.loop (X := Nat) 0 (fun i => [(1, vI num), (2, .pointer (some ⟨ae, 0, none⟩)), (5, vI (i : Int))]) (fun i af => Chg (ins []) ag af ∧ (i ≤ d.list.length) ∧ ((d.list.drop i).contains num = d.list.contains num)) (fun i => d.list.length - i) (by kernel_rfl) ⟨by kernel_rfl, by kernel_rfl, by kernel_rfl, trivial⟩ ⟨Chg.refl _ _, (by simp), (by simp)⟩ ?_
 rintro i ay af ⟨O, av, aw⟩ W
 have ac : Mv [ae] [ae] ag af := Mv.inl O all_nil (all_cons (.inl (.head _)) all_nil)
 replace ⟨h2, C, E⟩ := (sp ac O).g3 h2 C E
 refine .s <| .s <| .g <| .r 2 <| .lb C <| .r 1 <| .bp ((i : Int) < (d.list.length : Int)) (fun ai => ?_) (fun ai => .d <| .cf <| .x 0 rfl <| .s <| .g <| .r 1 <| .d <| .rt Tryz.func123 Tryz.results123 (.bool false) ⟨(congrArg Value.bool (by grind [drop_end])), E⟩)
 refine .d <| .ct <| .sk <| .s <| .b 1 <| .s <| .g <| .r 1 <| .lb C <| .r 1 ?_
 have aj : i < d.list.length := (by omega)
 refine .ix i 1 h2 aj ?_
 obtain ⟨ak, aa⟩ : ∃ y, d.list[i]? = some y := ⟨_, List.getElem?_eq_getElem (by omega)⟩
 have ax := drop_at aa; have ao := List.mem_of_getElem? aa
 obtain ⟨_, rfl, al⟩ := h2.elem i ak aa
 exact .lh 0 al <| .r 1 <| .eq ak num (fun am => .d <| .ct <| .s <| .g <| .r 1 <| .d <| .rt Tryz.func123 Tryz.results123 (.bool true) ⟨(congrArg Value.bool (by grind [drop_end])), E⟩) fun am => .d <| .cf <| .sk <| .ib 1 <| .g <| .r 1 <| .it ((i : Int) + 1) <| .r 1 <| .d <| W (i + 1) _ _ ⟨by kernel_rfl, by kernel_rfl, by kernel_rfl, trivial⟩ ⟨O, (by omega), (by grind)⟩ (by omega)
end Go.Proofs.YtganlmloonielaaGreat
namespace Go.Proofs.YtganlmloonielaaGreat
section
variable {α : Type} [Rep α]
def RepL (w : World) (F : Nat → Prop) : List α → List Value → Prop
 | [], cs => cs = []
 | x :: xs, cs => Rep.rep w F x (cs.take (Rep.sz α)) ∧ RepL w F xs (cs.drop (Rep.sz α))
theorem RepL.len {w : World} {F : Nat → Prop} : ∀ {xs : List α} {cs : List Value}, RepL w F xs cs → cs.length = xs.length * Rep.sz α
 | [], cs, h => by simp only [RepL] at h; subst h; simp
 | x :: xs, cs, h => by
   have h1 := Rep.len h.1
   have h2 := RepL.len h.2
   have hp := Rep.pos (α := α)
   simp only [List.length_take, List.length_drop, List.length_cons, Nat.succ_mul] at *
   omega
theorem RepL.at {w : World} {F : Nat → Prop} : ∀ {xs : List α} {cs : List Value}, RepL w F xs cs → ∀ i x, xs[i]? = some x → Rep.rep w F x ((cs.drop (i * Rep.sz α)).take (Rep.sz α))
 | [], cs, _ => fun i x hx => by simp at hx
 | y :: ys, cs, h => fun i x hx => by
   cases i with
   | zero => simp at hx; subst hx; simpa using h.1
   | succ i =>
     simp only [List.getElem?_cons_succ] at hx
     have := RepL.at h.2 i x hx
     rw [List.drop_drop] at this
     rwa [Nat.succ_mul, Nat.add_comm]
theorem Own.lit {w : World} {r : Nat} {t : TypeId} {F : Nat → Prop} {n : Nat} {xs : List α} {cs : List Value} (h : Box w r t cs) (hn : n = xs.length) (hc : n ≤ maxLen) (hl : RepL w (fun b => F b ∧ b ≠ r) xs cs) : Own w r t F n n xs := by
 have hlen := hl.len
 refine ⟨hn, Nat.le_refl _, hc, ⟨cs.toArray, h, by simp [hlen, hn]⟩, fun i x hi => ⟨_, hl.at i x hi, ?_⟩⟩
 have hlt : i < xs.length := (List.getElem?_eq_some_iff.1 hi).1
 refine h.has _ _ ?_
 rw [List.length_take, List.length_drop, hlen]
 have : (i + 1) * Rep.sz α ≤ xs.length * Rep.sz α := Nat.mul_le_mul_right _ hlt
 rw [Nat.succ_mul] at this
 rw [Nat.min_eq_left (by omega)]
end
section
variable {P : Program} {n : Nat} {K : Env → World → Prop} {ops : Array Oper} {j : Nat} {e : Env} {w : World}
theorem RG.int32 (z : Int) (h : pvAt P n ops j e = some (.int .i32 (IntKind.i32.wrap z))) (hz : -2147483648 ≤ z ∧ z ≤ 2147483647)
 (H : RG P n K ops (j + 1) (putE e (opAt ops j).dst (.int .i32 z)) w) : RG P n K ops j e w :=
 RG.eqv h (by rw [IntWalk.i32_in z hz]) H
end
theorem rune1 (k : Nat) (h : k < 128) : Value.string (Utf8.encode (k : Int)) = .string (bs [UInt8.ofNat k]) := by
 refine congrArg Value.string ?_
 unfold Utf8.encode
 have hv : Utf8.valid (k : Int) = true := by
  unfold Utf8.valid
  simp
  omega
 simp only [hv, if_true]
 simp [h, bs]
end Go.Proofs.YtganlmloonielaaGreat
namespace Go.Proofs.YtganlmloonielaaGreat
def tagAt (k v : Nat) : Tag := ⟨[UInt8.ofNat k], [UInt8.ofNat v]⟩
def post1 (names : List (List Tag)) (t : Tag) : List Pst := if (ids names t).length > 0 then [⟨t, ids names t⟩] else []
def postsV (names : List (List Tag)) (k : Nat) : Nat → Nat → List Pst
 | 0, _ => []
 | f + 1, v => post1 names (tagAt k v) ++ postsV names k f (v + 1)
def postsK (names : List (List Tag)) : Nat → Nat → List Pst
 | 0, _ => []
 | f + 1, k => postsV names k 11 112 ++ postsK names f (k + 1)
def postsOf (names : List (List Tag)) : List Pst := postsK names 4 97
def idxOf (names : List (List Tag)) : Idx := ⟨names, postsOf names⟩
def addR (ix : Idx) (n : List Tag) : Idx × Int × Bool :=
 if nmAt ix n > 0 then (ix, nmAt ix n, true)
 else if !nameOk n || decide (ix.names.length ≥ 6) then (ix, 0, false)
 else (idxOf (ix.names ++ [n]), (ix.names.length : Int) + 1, true)
def memF (bl : List (List Row)) (m : Smp) : List (List Row) := bl.set (m.id - 1).toNat (sPut (bl.getD (m.id - 1).toNat []) m.row)
def memPart (mem : List Smp) : Prt := pMake (mem.foldl memF [[], [], [], [], [], []])
theorem memF_len (bl : List (List Row)) (m : Smp) : (memF bl m).length = bl.length := by simp [memF]
theorem memStep {l : List Smp} {i : Nat} {xs : List (List Row)} {m : Smp} {x : List Row} {Y : List (List Row)} (hi : (l.drop i).foldl memF xs = Y) (hd : l.drop i = m :: l.drop (i + 1)) (hx : xs[(m.id - 1).toNat]? = some x) :
 (l.drop (i + 1)).foldl memF (xs.set (m.id - 1).toNat (sPut x m.row)) = Y := by
 rw [hd, List.foldl_cons] at hi
 have : memF xs m = xs.set (m.id - 1).toNat (sPut x m.row) := by unfold memF; rw [List.getD_eq_getElem?_getD, hx]; rfl
 rw [this] at hi
 exact hi
theorem memLen {xs : List (List Row)} {j i : Nat} {x : List Row} {r : Row} (h : ∀ b ∈ xs, b.length ≤ i) (hx : xs[j]? = some x) : ∀ b ∈ xs.set j (sPut x r), b.length ≤ i + 1 := by
 intro b hb
 rcases List.mem_or_eq_of_mem_set hb with hb | rfl
 ·have := h b hb; omega
 ·have h1 := h x (List.mem_of_getElem? hx)
  have h2 := sPut_len x r
  omega
theorem postsV_at (names : List (List Tag)) (k v : Nat) (h : v ≤ 122) : postsV names k (123 - v) v = post1 names (tagAt k v) ++ postsV names k (123 - (v + 1)) (v + 1) := by
 rw [show 123 - v = (123 - (v + 1)) + 1 by omega]
 rfl
theorem postsK_at (names : List (List Tag)) (k : Nat) (h : k ≤ 100) : postsK names (101 - k) k = postsV names k 11 112 ++ postsK names (101 - (k + 1)) (k + 1) := by
 rw [show 101 - k = (101 - (k + 1)) + 1 by omega]
 rfl
theorem postsV_end (names : List (List Tag)) (k v : Nat) (h : 123 ≤ v) : postsV names k (123 - v) v = [] := by
 rw [show 123 - v = 0 by omega]; rfl
theorem postsK_end (names : List (List Tag)) (k : Nat) (h : 101 ≤ k) : postsK names (101 - k) k = [] := by
 rw [show 101 - k = 0 by omega]; rfl
end Go.Proofs.YtganlmloonielaaGreat
namespace Go.Proofs.YtganlmloonielaaGreat
set_option maxRecDepth 100000
set_option maxHeartbeats 4000000
theorem c_spec_l11Of (names : List (List Tag)) {w : World} {F : Nat → Prop} {a1 : Option Addr} {n1 c1 : Nat} (h1 : RepS w F a1 n1 c1 names) (p0 : names.length ≤ 1000) (p1 : ∀ n ∈ names, NmSz n) : Calls Tryz.prog 117 [.slice a1 n1 c1].toArray w (rets fun rv w' => VS (ge w.heap.size) w' (idxOf names : Idx) rv ∧ Ext w w') := by
 refine goT Tryz.func117 ?_
 obtain ⟨rfl, b0, h1⟩ := h1.tp
 refine .s <| .g <| .np 30 [.slice none 0 0, .slice none 0 0] fun W cG az aA E bo => ?_
 have b6 : Cov nil w W := cov_new az (Nat.le_refl _)
 replace h1 := (sn [] aA az).g1 h1
 have C := aA
 refine .d <| .s <| .g <| .ns 0 149 [] fun aq aB ar aN bq br => ?_
 have bt := nb_new ar E.lt
 have bu := gb_new ar C.size
 have bv := C.cn ar
 replace ⟨h1, E, C⟩ := (sn [W] aN ar).g3 h1 E C
 have bw : Own (α := Pst) aB aq 149 (nin (ge w.heap.size) [aq, W]) 0 0 [] := Own.nil' bq
 refine .r 1 <| .d <| .s <| .s <| .g <| .r 1 <| .d <| .b 0 <| T.loop (X := (List Pst) × Nat × Nat × Nat × Nat) (([] : List Pst), aq, 0, 0, 97) (fun (posts, r_posts, n_posts, c_posts, k) => [(0, .slice a1 names.length c1), (2, .pointer (some ⟨W, 0, none⟩)), (3, vS r_posts n_posts c_posts), (4, .int .i32 (k : Int))]) (fun (posts, r_posts, n_posts, c_posts, k) ak => Chg (ins [aq]) aB ak ∧ Own ak r_posts 149 (nin (ge w.heap.size) [r_posts, W]) n_posts c_posts posts ∧ OrB r_posts aq aB.heap.size ∧ (97 ≤ k) ∧ (k ≤ 101) ∧ (posts.length ≤ 11 * (k - 97)) ∧ (posts ++ postsK names (101 - k) k = postsOf names)) (fun (posts, r_posts, n_posts, c_posts, k) => 101 - k) (by kernel_rfl) ⟨by kernel_rfl, by kernel_rfl, by kernel_rfl, by kernel_rfl, trivial⟩ ⟨Chg.refl _ _, bw, orb_refl, (by omega), (by omega), (by simp [postsOf]), (by simp [postsOf])⟩ ?_
 rintro ⟨posts, r_posts, n_posts, c_posts, k⟩ cH ak ⟨J, ac, al, b7, b8, b9, cd⟩ aC
 have bz := nb_or' al bt E.lt
 have bA := gb_or' al bu C.size
 have bB := cov_or' al bv C.size
 have bC : Cov (ins [aq]) aB aq := ⟨.inl (.head _)⟩
 have bD := cov_or' al bC (Nat.le_refl _)
 have aO : Mv [aq, W] [r_posts, W] aB ak := Mv.inl J (all_cons (.head _) all_nil) (all_cons (orb_mem al (.head _)) (all_cons (.inl (.tail _ (.head _))) all_nil))
 replace ⟨h1, E, C⟩ := (sp aO J).g3 h1 E C
 have ce := ac.len; have cg := ac.max
 refine .s <| .s <| .g <| .r 1 <| .bp ((k : Int) ≤ 100) (fun bE => ?_) (fun bE => ?_)
 ·refine .d <| .ct <| .sk <| .s <| .b 1 <| .s <| .g <| .r 1 <| .d <| .b 2 <| T.loop (X := (List Pst) × Nat × Nat × Nat × Nat) ((posts : List Pst), r_posts, n_posts, c_posts, 112) (fun (ab, r_posts1, n_posts1, c_posts1, v) => [(0, .slice a1 names.length c1), (2, .pointer (some ⟨W, 0, none⟩)), (3, vS r_posts1 n_posts1 c_posts1), (4, .int .i32 (k : Int)), (5, .int .i32 (v : Int))]) (fun (ab, r_posts1, n_posts1, c_posts1, v) aM => Chg (ins [r_posts]) ak aM ∧ Own aM r_posts1 149 (nin (ge w.heap.size) [r_posts1, W]) n_posts1 c_posts1 ab ∧ OrB r_posts1 r_posts ak.heap.size ∧ (112 ≤ v) ∧ (v ≤ 123) ∧ (97 ≤ k) ∧ (k ≤ 100) ∧ (ab.length ≤ 11 * (k - 97) + (v - 112)) ∧ (ab ++ postsV names k (123 - v) v ++ postsK names (101 - (k + 1)) (k + 1) = postsOf names)) (fun (ab, r_posts1, n_posts1, c_posts1, v) => 123 - v) (by kernel_rfl) ⟨by kernel_rfl, by kernel_rfl, by kernel_rfl, by kernel_rfl, by kernel_rfl, trivial⟩ ⟨Chg.refl _ _, ac, orb_refl, (by omega), (by omega), (by omega), (by omega), (by omega), (by grind [postsK_at])⟩ ?_
  rintro ⟨ab, r_posts1, n_posts1, c_posts1, v⟩ cI aM ⟨aa, O, ag, ci, cj, ck, cm, co, cp⟩ au
  have cq := nb_or' ag bz E.lt
  have cr := cov_or' ag bB C.size
  have cu := cov_or' ag bD J.size
  have bF := orb_or' ag al J.size
  have bG : Cov (ins [r_posts]) ak r_posts := ⟨.inl (.head _)⟩
  have cv := cov_or' ag bG (Nat.le_refl _)
  have aP : Mv [r_posts, W] [r_posts1, W] ak aM := Mv.inl aa (all_cons (.head _) all_nil) (all_cons (orb_mem ag (.head _)) (all_cons (.inl (.tail _ (.head _))) all_nil))
  replace ⟨h1, E, C, J⟩ := (sp aP aa).g4 h1 E C J
  have cw := O.len; have cx := O.max
  refine .s <| .s <| .g <| .r 1 <| .bp ((v : Int) ≤ 122) (fun bH => ?_) (fun bH => .d <| .cf <| .x 2 rfl <| .ib 1 <| .g <| .r 1 <| RG.int32 ((k : Int) + 1) (by kernel_rfl) (by omega) <| .r 1 <| .d <| aC (ab, r_posts1, n_posts1, c_posts1, k + 1) _ _ ⟨by kernel_rfl, by kernel_rfl, by kernel_rfl, by kernel_rfl, trivial⟩ ⟨J, O, bF, (by omega), (by omega), (by omega), (by grind [postsV_end])⟩ (by (simp only []; omega)))
  refine .d <| .ct <| .sk <| .s <| .b 3 <| .s <| .g <| .r 1 <| RG.eqv (v := .string (bs [UInt8.ofNat k])) (by kernel_rfl) (rune1 k (by omega)) <| .r 1 <| RG.eqv (v := .string (bs [UInt8.ofNat v])) (by kernel_rfl) (rune1 v (by omega)) <| .r 1 <| .np 120 [.string (bs []), .string (bs [])] fun av cJ ah aQ bI bJ => ?_
  have cy := nb_new ah E.lt
  have cz := nb_new ah O.lt
  have cA := C.cn ah
  have cB := J.cn ah
  have cC := aa.cn ah
  replace ⟨h1, E, O, C, J, aa⟩ := (sn [r_posts1, W] aQ ah).g6 h1 E O C J aa
  refine .sc [.string (bs [UInt8.ofNat k]), .string (bs [UInt8.ofNat v])] bI fun bK aR am bL => ?_
  replace ⟨h1, E, O, C, J, aa⟩ := (so [av, r_posts1, W] aR).g6 h1 E O C J aa
  refine .d <| .s <| .g <| .r 1 <| .ln am <| .cl (c_spec_l11Ids names (⟨[UInt8.ofNat k], [UInt8.ofNat v]⟩ : Tag) h1.ta (by omega) (w := bK) (F := all)) ?_
  rintro cK bM ⟨⟨bR, bS, rfl, ax⟩, aS⟩
  have aD := al3 am.lt O.lt E.lt
  have aW : Gb w.heap.size bK.heap.size := C.size
  replace ⟨h1, E, O, am, C, J, aa⟩ := (se [av, r_posts1, W] aS).g7 h1 E O am C J aa
  have ax := ax.fr aD aW
  have bT := ax.max
  refine .r 1 <| .d <| .s <| .g <| .r 2 <| .bp ((((ids names (⟨[UInt8.ofNat k], [UInt8.ofNat v]⟩ : Tag)).length) : Int) > 0) (fun aX => ?_) (fun aX => ?_)
  ·refine .d <| .ct <| .g <| .r 1 <| .ln am <| .r 2 <| .ns 1 149 [.string (bs [UInt8.ofNat k]), .string (bs [UInt8.ofNat v]), .slice bR ((ids names (⟨[UInt8.ofNat k], [UInt8.ofNat v]⟩ : Tag)).length) bS] fun aT cD ai aE aY aZ => ?_
   have ba := nb_new ai E.lt
   have aF := nb_new ai O.lt
   have bc := nb_new ai am.lt
   have bd := gb_new ai C.size
   replace ⟨h1, E, O, ax, C, J, aa⟩ := (se [av, r_posts1, W] aE).g7 h1 E O ax C J aa
   have ay : nin (ge w.heap.size) [av, r_posts1, W] aT ∧ aT ≠ r_posts1 := hap_mk bd (all_cons bc (all_cons aF (all_cons ba all_nil))) aF
   refine RG.append1 (T := 28) (ty := 28) (y := (⟨(⟨[UInt8.ofNat k], [UInt8.ofNat v]⟩ : Tag), ids names (⟨[UInt8.ofNat k], [UInt8.ofNat v]⟩ : Tag)⟩ : Pst)) O aY (by kernel_rfl) (by kernel_rfl) ⟨_, _, _, rfl, ax.oi⟩ ay (by omega) fun aG bN aU ae ao aH => ?_
   have bg := orb_or ao ag aa.size
   replace ⟨h1, E, C, J, aa⟩ := (sa [av, r_posts1, W] aH ao).g5 h1 E C J aa
   replace ae := ae.rn r_posts1
   have bU := ae.len; have bV := ae.max
   refine .r 1 <| .d <| .ib 3 <| .g <| .r 1 <| RG.int32 ((v : Int) + 1) (by kernel_rfl) (by omega) <| .r 1 <| .d ?_
   have bh : Mv [av, aG, W] [aG, W] aU aU := Mv.less (all_cons (.tail _ (.head _)) (all_cons (.tail _ (.tail _ (.head _))) all_nil))
   replace ⟨h1, ae⟩ := (sp bh (Chg.refl nil _)).g2 h1 ae
   exact au ((ab ++ [(⟨(⟨[UInt8.ofNat k], [UInt8.ofNat v]⟩ : Tag), ids names (⟨[UInt8.ofNat k], [UInt8.ofNat v]⟩ : Tag)⟩ : Pst)]), aG, n_posts1 + 1, bN, v + 1) _ _ ⟨by kernel_rfl, by kernel_rfl, by kernel_rfl, by kernel_rfl, by kernel_rfl, trivial⟩ ⟨aa, ae, bg, (by omega), (by omega), (by omega), (by omega), (by omega), (by grind [postsV_at, post1, tagAt])⟩ (by (simp only []; omega))
  refine .d <| .cf <| .sk <| .ib 3 <| .g <| .r 1 <| RG.int32 ((v : Int) + 1) (by kernel_rfl) (by omega) <| .r 1 <| .d ?_
  have bi : Mv [av, r_posts1, W] [r_posts1, W] bM bM := Mv.less (all_cons (.tail _ (.head _)) (all_cons (.tail _ (.tail _ (.head _))) all_nil))
  replace ⟨h1, O⟩ := (sp bi (Chg.refl nil _)).g2 h1 O
  exact au (ab, r_posts1, n_posts1, c_posts1, v + 1) _ _ ⟨by kernel_rfl, by kernel_rfl, by kernel_rfl, by kernel_rfl, by kernel_rfl, trivial⟩ ⟨aa, O, ag, (by omega), (by omega), (by omega), (by omega), (by omega), (by grind [postsV_at, post1, tagAt])⟩ (by (simp only []; omega))
 refine .d <| .cf <| .x 0 rfl <| .s <| .g <| .r 1 <| .cl (c_spec_l11Names names h1.ta (by grind [NmSz]) (by grind [NmSz]) (w := ak) (F := all)) ?_
 rintro cE cF ⟨⟨aw, bO, bP, rfl, af, aj⟩, aI⟩
 have aJ := al2 ac.lt E.lt
 have bj : Gb w.heap.size ak.heap.size := C.size
 have bW := nb_ge aj E.lt
 have bX := nb_ge aj ac.lt
 have bk := gb_ge aj C.size
 replace ⟨E, ac, C⟩ := (sz [r_posts, W] aI aj).g3 E ac C
 replace af := Own.take (s0 := w.heap.size) (M := [r_posts, W]) af aJ bj
 have bY := af.len; have bZ := af.max
 refine .r 2 <| .sc [vS aw bO bP, vS r_posts n_posts c_posts] E fun aV aK bm bn => ?_
 replace ⟨ac, af, C⟩ := (so [aw, r_posts, W] aK).g3 ac af C
 refine .d ?_
 have aL := af.sl bk
 replace ac := (sd aV [aw, r_posts, W] aw).g1 ac
 have bQ := ac.sl bA
 replace aL := (sd aV [r_posts, W] r_posts).g1 aL
 exact .rb Tryz.func117 Tryz.results117 bm ⟨(VS.of (y := (⟨names, posts⟩ : Idx)) ⟨_, rfl, ⟨_, _, _, _, _, _, rfl, aL.w1, bQ.w1⟩⟩ (by grind [idxOf, postsK_end])), C⟩
theorem c_spec_l13Mem (s : Sto) {w : World} {F : Nat → Prop} {a1 : Option Addr} {n1 c1 : Nat} (h1 : RepS w F a1 n1 c1 s.idx.names) {a2 : Option Addr} {n2 c2 : Nat} (h2 : RepS w F a2 n2 c2 s.idx.posts) {a3 : Option Addr} {n3 c3 : Nat} (h3 : RepS w F a3 n3 c3 s.parts) {a4 : Option Addr} {n4 c4 : Nat} (h4 : RepS w F a4 n4 c4 s.mem) (p0 : s.mem.length ≤ 1000) (p1 : ∀ m ∈ s.mem, 1 ≤ m.id ∧ m.id ≤ 6) : Calls Tryz.prog 101 [.agg #[.slice a1 n1 c1, .slice a2 n2 c2, .slice a3 n3 c3, .slice a4 n4 c4]].toArray w (rets fun rv w' => VS (ge w.heap.size) w' (memPart s.mem : Prt) rv ∧ Ext w w') := by
 refine goT Tryz.func101 ?_
 obtain ⟨rfl, bK, h1⟩ := h1.tp
 obtain ⟨rfl, bL, h2⟩ := h2.tp
 obtain ⟨rfl, bM, h3⟩ := h3.tp
 obtain ⟨rfl, bN, h4⟩ := h4.tp
 refine .s <| .g <| .np 34 [.slice a1 s.idx.names.length c1, .slice a2 s.idx.posts.length c2, .slice a3 s.parts.length c3, .slice a4 s.mem.length c4] fun ac cj aH ar E bc => ?_
 replace h4 := (sn [] ar aH).g1 h4
 have C := ar
 refine .np 42 [.slice none 0 0, .slice none 0 0] fun ae ck au aI J bd => ?_
 have bO := C.cn au
 replace ⟨h4, E, C⟩ := (sn [ac] aI au).g3 h4 E C
 refine .d <| .s <| .g <| .ns 6 91 [.slice none 0 0, .slice none 0 0, .slice none 0 0, .slice none 0 0, .slice none 0 0, .slice none 0 0] fun ab aG ai aJ bg bh => ?_
 have bP := nb_new ai E.lt
 have bQ := nb_new ai J.lt
 have bR := C.cn ai
 replace ⟨h4, E, J, C⟩ := (sn [ae, ac] aJ ai).g4 h4 E J C
 have bi : Own (α := List Row) aG ab 91 (nin (ge w.heap.size) [ab, ae, ac]) 6 6 [([] : List Row), ([] : List Row), ([] : List Row), ([] : List Row), ([] : List Row), ([] : List Row)] := Own.lit bg rfl (by decide) ⟨⟨_, _, _, rfl, (RepS.nil' _ _ none 0 (by decide))⟩, ⟨_, _, _, rfl, (RepS.nil' _ _ none 0 (by decide))⟩, ⟨_, _, _, rfl, (RepS.nil' _ _ none 0 (by decide))⟩, ⟨_, _, _, rfl, (RepS.nil' _ _ none 0 (by decide))⟩, ⟨_, _, _, rfl, (RepS.nil' _ _ none 0 (by decide))⟩, ⟨_, _, _, rfl, (RepS.nil' _ _ none 0 (by decide))⟩, rfl⟩
 refine .r 1 <| .d <| .s <| .s <| .g <| .r 1 <| .d <| .b 0 <| T.loop (X := Nat × (List (List Row))) (0, ([([] : List Row), ([] : List Row), ([] : List Row), ([] : List Row), ([] : List Row), ([] : List Row)] : List (List Row))) (fun (i, xs) => [(1, .pointer (some ⟨ac, 0, none⟩)), (2, .pointer (some ⟨ae, 0, none⟩)), (3, vS ab 6 6), (4, vI (i : Int))]) (fun (i, xs) ao => Chg (ins [ab]) aG ao ∧ Own ao ab 91 (nin (ge w.heap.size) [ab, ae, ac]) 6 6 xs ∧ (i ≤ s.mem.length) ∧ (xs.length = 6) ∧ (∀ b ∈ xs, b.length ≤ i) ∧ ((s.mem.drop i).foldl memF xs = s.mem.foldl memF [[], [], [], [], [], []])) (fun (i, xs) => s.mem.length - i) (by kernel_rfl) ⟨by kernel_rfl, by kernel_rfl, by kernel_rfl, by kernel_rfl, trivial⟩ ⟨Chg.refl _ _, bi, (by simp), (by simp), (by simp), (by simp)⟩ ?_
 rintro ⟨i, xs⟩ cm ao ⟨aa, O, bS, bT, bU, bV⟩ av
 have bW : Cov (ins [ab]) aG ab := ⟨.inl (.head _)⟩
 have aK : Mv [ab, ae, ac] [ab, ae, ac] aG ao := Mv.inl aa (all_cons (.head _) all_nil) (all_cons (.inl (.head _)) (all_cons (.inl (.tail _ (.head _))) (all_cons (.inl (.tail _ (.tail _ (.head _)))) all_nil)))
 replace ⟨h4, E, J, C⟩ := (sp aK aa).g4 h4 E J C
 have bX := O.len; have bY := O.max
 refine .s <| .s <| .g <| .r 2 <| .lb E <| .r 1 <| .bp ((i : Int) < (s.mem.length : Int)) (fun bj => ?_) (fun bj => ?_)
 ·refine .d <| .ct <| .sk <| .s <| .b 1 <| .s <| .g <| .r 1 <| .lb E <| .r 1 ?_
  have aL : i < s.mem.length := (by omega)
  refine RG.idx i (len := s.mem.length) (i := (i : Int)) (sz := 3) (by kernel_rfl) (by omega) aL (h4.addr (Nat.zero_lt_of_lt aL)) <| .r 1 ?_
  obtain ⟨W, am⟩ : ∃ y, s.mem[i]? = some y := ⟨_, List.getElem?_eq_getElem (by omega)⟩
  have bZ := drop_at am; have bA := List.mem_of_getElem? am
  obtain ⟨_, rfl, bk⟩ := h4.elem i W am
  refine .lh 0 bk <| .r 1 <| .d <| .gd nil 15 fun bC aM => ?_
  replace ⟨h4, E, J, O, C, aa⟩ := (se [ab, ae, ac] aM).g6 h4 E J O C aa
  refine .r [0, 1] <| GA.int (i := 2) (W.id - 1) (by kernel_rfl) (by (have := p1 _ ‹_›; omega)) <| .r [3, 4] <| GA.int (i := 5) (W.id - 1) (by kernel_rfl) (by (have := p1 _ ‹_›; omega)) ?_
  have bm : (W.id - 1).toNat < 6 := (by (have := p1 _ ‹_›; omega))
  refine GA.idx (i := 6) (b := ab) (o := 0) ((W.id - 1).toNat) (len := 6) (z := W.id - 1) (sz := 1) (by kernel_rfl) (by (have := p1 _ ‹_›; omega)) bm rfl ?_
  obtain ⟨ah, aj⟩ : ∃ y, xs[(W.id - 1).toNat]? = some y := ⟨_, List.getElem?_eq_getElem (by omega)⟩
  have b0 := drop_at aj; have bB := List.mem_of_getElem? aj
  obtain ⟨_, ⟨bD, co, bE, rfl, aw⟩, ax⟩ := O.elem ((W.id - 1).toNat) ah aj
  replace aw := aw.weak (fun _ _ h => h.1)
  have bn := aw.len
  subst bn
  have b6 := aw.max
  replace ax : Has bC ⟨ab, 0 + ((W.id - 1).toNat) * Rep.sz (List Row), none⟩ [.slice bD ah.length bE] := by rw [Nat.zero_add]; exact ax
  refine .lh 7 0 ax id <| .r [8] <| .lb 9 E id <| .r [10] ?_
  have aN : i < s.mem.length := (by omega)
  refine GA.idx (i := 11) i (len := s.mem.length) (z := (i : Int)) (sz := 3) (by kernel_rfl) (by omega) aN (h4.addr (Nat.zero_lt_of_lt aN)) <| .r [12] ?_
  obtain ⟨_, rfl, bo⟩ := h4.elem i W am
  refine .lg 13 1 bo id <| .go 14 <| .cl (fun aR ay => c_spec_l2Put ah W.row (aw.ta.ext ay) (by have aS := ‹∀ b ∈ xs, b.length ≤ i› _ ‹_›; omega) (w := aR) (F := all)) ?_
  intro aR ay
  replace ⟨E, J, O, C, aa⟩ := (se [ab, ae, ac] ay).g5 E J O C aa
  rintro cp cq ⟨⟨bF, bG, rfl, aq⟩, az⟩
  have aO := al3 O.lt J.lt E.lt
  have bq : Gb w.heap.size aR.heap.size := C.size
  have hkeep_ := az
  replace ⟨E, J, O, C, aa⟩ := (se [ab, ae, ac] az).g5 E J O C aa
  refine ⟨Ext.chg hkeep_, ?_⟩
  have aq := aq.fr aO bq
  have bH := aq.max
  refine .d fun br aA => ?_
  replace ⟨E, J, O, aq, C, aa⟩ := (se [ab, ae, ac] aA).g6 E J O aq C aa
  have aT : (W.id - 1).toNat < 6 := (by omega)
  refine RG.idx (b := ab) (o := 0) ((W.id - 1).toNat) (len := 6) (i := W.id - 1) (sz := 1) (by kernel_rfl) (by (have := p1 _ ‹_›; omega)) aT rfl ?_
  obtain ⟨_, ⟨aP, b7, aQ, rfl, aB⟩, ak⟩ := O.elem ((W.id - 1).toNat) ah aj
  replace aB := aB.weak (fun _ _ h => h.1)
  have aU := aB.len
  subst aU
  replace ak : Has br ⟨ab, 0 + ((W.id - 1).toNat) * Rep.sz (List Row), none⟩ [.slice aP ah.length aQ] := by rw [Nat.zero_add]; exact ak
  refine RG.storeO (t' := 91) (i := ((W.id - 1).toNat)) (k := 0) (v := .slice bF ((sPut ah W.row).length) bG) (cs := [.slice aP ah.length aQ]) (sPut ah W.row) O aj ak (by kernel_rfl) (by kernel_rfl) (by kernel_rfl) ⟨_, _, _, rfl, aq.oi⟩ fun b8 aV aC aW => ?_
  replace ⟨E, J, C, aa⟩ := (s1 aC).g4 E J C aa
  exact .d <| .ib 1 <| .g <| .r 1 <| RG.int ((i : Int) + 1) (by kernel_rfl) (by omega) <| .r 1 <| .d <| av (i + 1, (xs.set ((W.id - 1).toNat) (sPut ah W.row))) _ _ ⟨by kernel_rfl, by kernel_rfl, by kernel_rfl, by kernel_rfl, trivial⟩ ⟨aa, aV, (by omega), (by simp; omega), (by exact memLen ‹_› ‹_›), (by exact memStep ‹_› ‹_› ‹_›)⟩ (by (simp only []; omega))
 refine .d <| .cf <| .x 0 rfl <| .s <| .g <| .r 1 <| .cl (c_spec_l12Make xs (O.rep) (by omega) (by intro b hb; have aS := ‹∀ b ∈ xs, b.length ≤ i› _ hb; omega) (w := ao) (F := all)) ?_
 rintro b9 cd ⟨⟨_, rfl, ⟨bt, ce, bu, bv, cg, bw, rfl, af, ag⟩⟩, aD⟩
 have al := al3 O.lt J.lt E.lt
 have aE : Gb w.heap.size ao.heap.size := C.size
 replace ⟨J, C⟩ := (se [] aD).g2 J C
 have af := af.fr al aE
 have bI := af.max
 have ag := ag.fr al aE
 have bJ := ag.max
 have aX := af.len
 subst aX
 have aY := ag.len
 subst aY
 refine .sc [.slice bt (((pMake xs).ids).length) bu, .slice bv (((pMake xs).blocks).length) bw] J fun ci aF aZ ba => ?_
 replace ⟨af, ag, C⟩ := (so [ab, ae, ac] aF).g3 af ag C
 exact .d <| .rb Tryz.func101 Tryz.results101 aZ ⟨(VS.of (y := (pMake xs)) ⟨_, rfl, ⟨_, _, _, _, _, _, rfl, af.w1, ag.w1⟩⟩ (by have aS := drop_end (xs := s.mem) (k := i) (by omega); have bz : List.foldl memF xs (s.mem.drop i) = _ := ‹_›; rw [aS] at bz; unfold memPart; rw [← bz]; rfl)), C⟩
end Go.Proofs.YtganlmloonielaaGreat
namespace Go.Proofs.YtganlmloonielaaGreat
def IdxSz (x : Idx) : Prop := x.names.length ≤ 1000 ∧ ∀ n ∈ x.names, NmSz n
def StoSz (s : Sto) : Prop := IdxSz s.idx ∧ s.parts.length ≤ 100 ∧ (∀ p ∈ s.parts, PrtSz p) ∧ s.mem.length ≤ 900
def flushR (s : Sto) : Sto × Bool :=
 if s.mem.length = 0 ∨ s.parts.length ≥ 6 then (s, false) else (⟨s.idx, s.parts ++ [memPart s.mem], []⟩, true)
def mergeP (ps : List Prt) (at_ : Nat) : List Prt := match ps[at_]?, ps[at_ + 1]? with
 | some x, some y => ps.take at_ ++ [pMerge x y] ++ ps.drop (at_ + 2)
 | _, _ => ps
def mergeR (s : Sto) (at_ : Int) : Sto × Bool :=
 if inR at_ 0 ((s.parts.length : Int) - 2) then (⟨s.idx, mergeP s.parts at_.toNat, s.mem⟩, true) else (s, false)
def addX (s : Sto) (n : List Tag) (r : Row) : Sto := ⟨(addR s.idx n).1, s.parts, s.mem ++ [⟨(addR s.idx n).2.1, r⟩]⟩
def addS (s : Sto) (n : List Tag) (r : Row) : Sto × Bool :=
 if !(addR s.idx n).2.2 || !rowOk r || decide (s.mem.length ≥ 20) then (s, false)
 else if (rowsOf (addX s n r) (addR s.idx n).2.1).length > 24 then (s, false) else (addX s n r, true)
theorem addR_hit {ix : Idx} {n : List Tag} (h : nmAt ix n > 0) : addR ix n = (ix, nmAt ix n, true) := by unfold addR; rw [if_pos h]
theorem addR_no {ix : Idx} {n : List Tag} (h : ¬ nmAt ix n > 0) (h2 : nameOk n = false ∨ (ix.names.length : Int) ≥ 6) : addR ix n = (ix, 0, false) := by
 unfold addR
 rw [if_neg h, if_pos]
 rcases h2 with h2 | h2
 ·simp [h2]
 ·simp; omega
theorem addR_new {ix : Idx} {n : List Tag} (h : ¬ nmAt ix n > 0) (h2 : nameOk n = true) (h3 : ¬ (ix.names.length : Int) ≥ 6) : addR ix n = (idxOf (ix.names ++ [n]), (ix.names.length : Int) + 1, true) := by
 unfold addR
 rw [if_neg h, if_neg]
 simp [h2]
 omega
theorem mergeP_at {ps : List Prt} {i : Nat} {x y : Prt} (hx : ps[i]? = some x) (hy : ps[i + 1]? = some y) : mergeP ps i = ps.take i ++ [pMerge x y] ++ ps.drop (i + 2) := by
 simp [mergeP, hx, hy]
theorem addS_1 {s : Sto} {n : List Tag} {r : Row} (h : (addR s.idx n).2.2 = false) : addS s n r = (s, false) := by unfold addS; rw [if_pos (by simp [h])]
theorem addS_2 {s : Sto} {n : List Tag} {r : Row} (h : rowOk r = false) : addS s n r = (s, false) := by unfold addS; rw [if_pos (by simp [h])]
theorem addS_3 {s : Sto} {n : List Tag} {r : Row} (h : (s.mem.length : Int) ≥ 20) : addS s n r = (s, false) := by unfold addS; rw [if_pos (by simp; omega)]
theorem addS_4 {s : Sto} {n : List Tag} {r : Row} (h1 : (addR s.idx n).2.2 = true) (h2 : rowOk r = true) (h3 : ¬ (s.mem.length : Int) ≥ 20) (h : ((rowsOf (addX s n r) (addR s.idx n).2.1).length : Int) > 24) : addS s n r = (s, false) := by
 unfold addS; rw [if_neg (by simp [h1, h2]; omega), if_pos (by omega)]
theorem addS_5 {s : Sto} {n : List Tag} {r : Row} (h1 : (addR s.idx n).2.2 = true) (h2 : rowOk r = true) (h3 : ¬ (s.mem.length : Int) ≥ 20) (h : ¬ ((rowsOf (addX s n r) (addR s.idx n).2.1).length : Int) > 24) : addS s n r = (addX s n r, true) := by
 unfold addS; rw [if_neg (by simp [h1, h2]; omega), if_neg (by omega)]
theorem mergeR_f {s : Sto} {a : Int} (h : inR a 0 ((s.parts.length : Int) - 2) = false) : mergeR s a = (s, false) := by unfold mergeR; rw [if_neg (by simp [h])]
theorem mergeR_t {s : Sto} {a : Int} {x y : Prt} (h : inR a 0 ((s.parts.length : Int) - 2) = true) (hx : s.parts[a.toNat]? = some x) (hy : s.parts[(a + 1).toNat]? = some y) :
 mergeR s a = (⟨s.idx, (([] ++ (s.parts.take a.toNat).drop 0) ++ [pMerge x y]) ++ ((s.parts.take s.parts.length).drop (a + 2).toNat), s.mem⟩, true) := by
 have h1 := inR_t h
 have e1 : (a + 1).toNat = a.toNat + 1 := by omega
 have e2 : (a + 2).toNat = a.toNat + 2 := by omega
 rw [e1] at hy
 unfold mergeR
 rw [if_pos h, mergeP_at hx hy, e2]
 simp
end Go.Proofs.YtganlmloonielaaGreat
namespace Go.Proofs.YtganlmloonielaaGreat
set_option maxRecDepth 100000
set_option maxHeartbeats 4000000
theorem c_spec_l11Add (ix : Idx) (n : List Tag) {w : World} {F : Nat → Prop} {a1 : Option Addr} {n1 c1 : Nat} (h1 : RepS w F a1 n1 c1 ix.names) {a2 : Option Addr} {n2 c2 : Nat} (h2 : RepS w F a2 n2 c2 ix.posts) {a3 : Option Addr} {n3 c3 : Nat} (h3 : RepS w F a3 n3 c3 n) (p0 : IdxSz ix) (p1 : NmSz n) : Calls Tryz.prog 171 [.agg #[.slice a1 n1 c1, .slice a2 n2 c2], .slice a3 n3 c3].toArray w (rets fun rv w' => (∃ v0, rv = .tuple #[v0, .int .i64 ((addR ix n).2.1), .bool ((addR ix n).2.2)] ∧ VS (fo F w.heap.size) w' ((addR ix n).1 : Idx) v0) ∧ Ext w w') := by
 refine goT Tryz.func171 ?_
 obtain ⟨rfl, cm, h1⟩ := h1.tp
 obtain ⟨rfl, co, h2⟩ := h2.tp
 obtain ⟨rfl, cp, h3⟩ := h3.tp
 refine .s <| .g <| .np 30 [.slice a1 ix.names.length c1, .slice a2 ix.posts.length c2] fun ac cL aU aD E bC => ?_
 replace ⟨h1, h2, h3⟩ := (sn [] aD aU).g3 h1 h2 h3
 have C := aD
 refine .np 30 [.slice none 0 0, .slice none 0 0] fun ab bX aA aV J bD => ?_
 have cq := nb_new aA E.lt
 have cr := C.cn aA
 replace ⟨h1, h2, h3, E, C⟩ := (sn [ac] aV aA).g5 h1 h2 h3 E C
 refine .r 2 <| .d <| .s <| .g <| .ln E <| .r 1 <| .cl (c_spec_l11At ix n h1.ta h2.ta h3.ta p0.1 p0.2 p1 (w := bX) (F := all)) ?_
 rintro cM bY ⟨rfl, aW⟩
 replace ⟨h1, h2, h3, E, J, C⟩ := (se [ab, ac] aW).g6 h1 h2 h3 E J C
 refine .r 1 <| .d <| .s <| .s <| .g <| .r 1 <| .bp (nmAt ix n > 0) (fun bE => ?_) (fun bE => ?_)
 ·refine .d <| .ct <| .s <| .g <| .ln E <| .r 1 <| .sc [.slice a1 ix.names.length c1, .slice a2 ix.posts.length c2] J fun cN aX bF bG => ?_
  replace ⟨h1, h2, h3, E, C⟩ := (so [ab, ac] aX).g5 h1 h2 h3 E C
  exact .r 2 <| .d <| T.ret3 (v := .agg #[.slice a1 ix.names.length c1, .slice a2 ix.posts.length c2]) (v' := vI (nmAt ix n)) (v'' := .bool true) (by kernel_rfl) Tryz.func171 Tryz.results171 (Res1.cell (ad := ⟨ab, 0, none⟩) (by kernel_rfl) ((bF.has 0 [.slice a1 ix.names.length c1, .slice a2 ix.posts.length c2] (by kernel_rfl)).loadN (by kernel_rfl))) (Res1.tmp (by kernel_rfl)) (Res1.tmp (by kernel_rfl)) ⟨⟨_, (tup3 rfl (congrArg (Value.int .i64) (by (rw [addR_hit ‹_›]))) (congrArg Value.bool (by (rw [addR_hit ‹_›])))), (VS.of (y := ix) ⟨_, rfl, ⟨_, _, _, _, _, _, rfl, h1.w1, h2.w1⟩⟩ (by (rw [addR_hit ‹_›])))⟩, C⟩
 refine .d <| .cf <| .sk <| .s <| .s <| .g <| .r 1 <| .cl (c_spec_NameOk n h3.ta (w := bY) (F := all)) ?_
 rintro cO bH ⟨rfl, aY⟩
 replace ⟨h1, h2, h3, E, J, C⟩ := (se [ab, ac] aY).g6 h1 h2 h3 E J C
 cases cu : (nameOk n)
 ·refine .r 7 <| .d <| .ct <| .s <| .g <| .ln E <| .sc [.slice a1 ix.names.length c1, .slice a2 ix.posts.length c2] J fun cP aZ bI bJ => ?_
  replace ⟨h1, h2, h3, E, C⟩ := (so [ab, ac] aZ).g5 h1 h2 h3 E C
  exact .r 2 <| .d <| T.ret3 (v := .agg #[.slice a1 ix.names.length c1, .slice a2 ix.posts.length c2]) (v' := vI 0) (v'' := .bool false) (by kernel_rfl) Tryz.func171 Tryz.results171 (Res1.cell (ad := ⟨ab, 0, none⟩) (by kernel_rfl) ((bI.has 0 [.slice a1 ix.names.length c1, .slice a2 ix.posts.length c2] (by kernel_rfl)).loadN (by kernel_rfl))) (Res1.tmp (by kernel_rfl)) (Res1.tmp (by kernel_rfl)) ⟨⟨_, (tup3 rfl (congrArg (Value.int .i64) (by (rw [addR_no ‹_› (.inl ‹_›)]))) (congrArg Value.bool (by (rw [addR_no ‹_› (.inl ‹_›)])))), (VS.of (y := ix) ⟨_, rfl, ⟨_, _, _, _, _, _, rfl, h1.w1, h2.w1⟩⟩ (by (rw [addR_no ‹_› (.inl ‹_›)])))⟩, C⟩
 refine .r 3 <| .lb E <| .r 1 <| .bp ((ix.names.length : Int) ≥ 6) (fun bK => ?_) (fun bK => ?_)
 ·refine .r 1 <| .d <| .ct <| .s <| .g <| .ln E <| .sc [.slice a1 ix.names.length c1, .slice a2 ix.posts.length c2] J fun cQ ba bL bM => ?_
  replace ⟨h1, h2, h3, E, C⟩ := (so [ab, ac] ba).g5 h1 h2 h3 E C
  exact .r 2 <| .d <| T.ret3 (v := .agg #[.slice a1 ix.names.length c1, .slice a2 ix.posts.length c2]) (v' := vI 0) (v'' := .bool false) (by kernel_rfl) Tryz.func171 Tryz.results171 (Res1.cell (ad := ⟨ab, 0, none⟩) (by kernel_rfl) ((bL.has 0 [.slice a1 ix.names.length c1, .slice a2 ix.posts.length c2] (by kernel_rfl)).loadN (by kernel_rfl))) (Res1.tmp (by kernel_rfl)) (Res1.tmp (by kernel_rfl)) ⟨⟨_, (tup3 rfl (congrArg (Value.int .i64) (by (rw [addR_no ‹_› (.inr ‹_›)]))) (congrArg Value.bool (by (rw [addR_no ‹_› (.inr ‹_›)])))), (VS.of (y := ix) ⟨_, rfl, ⟨_, _, _, _, _, _, rfl, h1.w1, h2.w1⟩⟩ (by (rw [addR_no ‹_› (.inr ‹_›)])))⟩, C⟩
 refine .r 1 <| .d <| .cf <| .sk <| .s <| .g <| .r 1 <| .lb E <| .cl (c_spec_l11Names ix.names h1.ta (by have := p0.1; omega) (by intro n hn; have := (p0.2 n hn).1; omega) (w := bH) (F := all)) ?_
 rintro cR cS ⟨⟨ao, cT, cU, rfl, aa, aq⟩, bc⟩
 have bd := al2 J.lt E.lt
 have bN : Gb w.heap.size bH.heap.size := C.size
 have cv := nb_ge aq E.lt
 have cw := nb_ge aq J.lt
 have cx : Cov nil w ao := cov_ge aq C.size
 replace ⟨h3, E, J, C⟩ := (sz [ab, ac] bc aq).g4 h3 E J C
 replace aa := Own.take (s0 := w.heap.size) (M := [ab, ac]) aa bd bN
 replace aa := aa.base (G' := fo F w.heap.size) (fun _ _ h => .inr h)
 have cy := aa.len; have cz := aa.max
 refine .ns 0 120 [] fun aR bZ ah bg bO bP => ?_
 have bQ := nb_new ah E.lt
 have bR := nb_new ah J.lt
 have bS := nb_new ah aa.lt
 have bT := gb_new ah C.size
 have cA := C.cn ah
 replace ⟨h3, E, J, aa, C⟩ := (sn [ao, ab, ac] bg ah).g5 h3 E J aa C
 have bU : Own (α := Tag) bZ aR 120 (nin (fo F w.heap.size) [aR, ao, ab, ac]) 0 0 [] := Own.nil' bO
 refine .r 1 <| RG.appendF (T := 77) (ty := 77) flat_tag bU h3 (by kernel_rfl) (by kernel_rfl) (fun b h e => h.2 (e ▸ (.head _))) (by have := p0.1; have := p1.1; omega) fun aS b0 cV ai ag bh => ?_
 have b6 := nb_or ag bQ E.lt
 have b7 := nb_or ag bR J.lt
 have b8 := nb_or ag bS aa.lt
 have bk := gb_or ag bT C.size
 replace ⟨E, J, aa, C⟩ := (sa [aR, ao, ab, ac] bh ag).g4 E J aa C
 replace ai := ai.rn aR
 have b9 := ai.len; have cd := ai.max
 refine .ns 1 77 [vS aS (0 + n.length) b0] fun bi bV aj aE bm bn => ?_
 have bo := nb_new aj E.lt
 have bq := nb_new aj J.lt
 have aF := nb_new aj aa.lt
 have br := gb_new aj C.size
 replace ⟨E, J, aa, ai, C⟩ := (se [aS, ao, ab, ac] aE).g5 E J aa ai C
 have bW := ai.sl (.inr bk)
 replace aa := (sd bV [aS, ao, ab, ac] aS).g1 aa
 have aC : nin (fo F w.heap.size) [ao, ab, ac] bi ∧ bi ≠ ao := hap_mk (.inr br) (all_cons aF (all_cons bq (all_cons bo all_nil))) aF
 refine RG.append1 (T := 25) (ty := 25) (y := ([] ++ n)) aa bm (by kernel_rfl) (by kernel_rfl) ⟨_, _, _, rfl, bW.oi⟩ aC (by have := p0.1; have := p1.1; omega) fun af cB bj ae aT aG => ?_
 replace ⟨E, J, C⟩ := (s1 aG).g3 E J C
 replace ae := ae.rn ao
 have ce := ae.len; have cg := ae.max
 refine .cl (c_spec_l11Of (ix.names ++ [([] ++ n)]) (ae.rep) (by have := p0.1; simp; omega) (by intro m hm; simp at hm; rcases hm with hm | rfl; exact p0.2 m hm; exact p1) (w := bj) (F := all)) ?_
 rintro cC cD ⟨⟨_, rfl, ⟨ar, cE, au, av, cF, aw, rfl, O, W⟩⟩, aH⟩
 have ax := al3 ae.lt J.lt E.lt
 have aI : Gb w.heap.size bj.heap.size := C.size
 replace ⟨J, ae, C⟩ := (se [af, ab, ac] aH).g3 J ae C
 have O := O.fr ax aI
 replace O := O.base (G' := fo F w.heap.size) (fun _ _ h => .inr h)
 have ci := O.max
 have W := W.fr ax aI
 replace W := W.base (G' := fo F w.heap.size) (fun _ _ h => .inr h)
 have cj := W.max
 have bt := O.len
 subst bt
 have bu := W.len
 subst bu
 refine .np 30 [.slice none 0 0, .slice none 0 0] fun am cG ak aJ bv bw => ?_
 have aK := nb_new ak J.lt
 have aL := nb_new ak ae.lt
 have ck := C.cn ak
 replace ⟨J, O, W, C⟩ := (sn [af, ab, ac] aJ ak).g4 J O W C
 refine .sc [.slice ar (((idxOf (ix.names ++ [([] ++ n)])).names).length) au, .slice av (((idxOf (ix.names ++ [([] ++ n)])).posts).length) aw] bv fun aB aM al bz => ?_
 replace ⟨J, O, W, C⟩ := (so [am, af, ab, ac] aM).g4 J O W C
 refine .d <| .s ?_
 replace O := O.into
 replace W := W.into
 have bA : Cov (mtb [af, ab] aB.heap.size) aB ab := ⟨.inl (.inl (.tail _ (.head _)))⟩
 have aN : Gb (am + 1) aB.heap.size := al.lt
 refine .gd (mtb [af, ab] aB.heap.size) 5 fun cH aO => ?_
 replace ⟨J, O, W, al, C⟩ := (se [am, af, ab, ac] aO).g5 J O W al C
 refine .ln 0 al (nS_of (all_cons aL (all_cons aK all_nil)) aN) <| .r [1] <| .lb 2 al (nS_of (all_cons aL (all_cons aK all_nil)) aN) <| .r [3] <| .go 4 <| GE.storeB (t' := 30) (o := 0) (v := .agg #[.slice ar (((idxOf (ix.names ++ [([] ++ n)])).names).length) au, .slice av (((idxOf (ix.names ++ [([] ++ n)])).posts).length) aw]) [.slice ar (((idxOf (ix.names ++ [([] ++ n)])).names).length) au, .slice av (((idxOf (ix.names ++ [([] ++ n)])).posts).length) aw] J (by kernel_rfl) (by kernel_rfl) (by kernel_rfl) fun cI aP => ?_
 replace ⟨O, W, C⟩ := (se [am, af, ab, ac] aP).g3 O W C
 intro cJ ay az bB
 have hkeep_ := Chg.toS ay (Cov.toS bA)
 replace ⟨O, W, C⟩ := (so [am, af, ab, ac] ay).g3 O W C
 refine ⟨hkeep_, ?_⟩
 refine .d fun cK aQ => ?_
 replace ⟨az, O, W, C⟩ := (se [am, af, ab, ac] aQ).g4 az O W C
 replace O := O.outof
 replace W := W.outof
 exact .r 2 <| .d <| T.ret3 (v := .agg #[.slice ar (((idxOf (ix.names ++ [([] ++ n)])).names).length) au, .slice av (((idxOf (ix.names ++ [([] ++ n)])).posts).length) aw]) (v' := vI ((((idxOf (ix.names ++ [([] ++ n)])).names).length) : Int)) (v'' := .bool true) (by kernel_rfl) Tryz.func171 Tryz.results171 (Res1.cell (ad := ⟨ab, 0, none⟩) (by kernel_rfl) ((az.has 0 [.slice ar (((idxOf (ix.names ++ [([] ++ n)])).names).length) au, .slice av (((idxOf (ix.names ++ [([] ++ n)])).posts).length) aw] (by kernel_rfl)).loadN (by kernel_rfl))) (Res1.tmp (by kernel_rfl)) (Res1.tmp (by kernel_rfl)) ⟨⟨_, (tup3 rfl (congrArg (Value.int .i64) (by (rw [addR_new ‹_› ‹_› ‹_›] <;> simp [idxOf]))) (congrArg Value.bool (by (rw [addR_new ‹_› ‹_› ‹_›] <;> simp [idxOf])))), (VS.of (y := (idxOf (ix.names ++ [([] ++ n)]))) ⟨_, rfl, ⟨_, _, _, _, _, _, rfl, O.w1, W.w1⟩⟩ (by (rw [addR_new ‹_› ‹_› ‹_›] <;> simp [idxOf])))⟩, C⟩
theorem c_spec_l13Flush (s : Sto) {w : World} {F : Nat → Prop} {a1 : Option Addr} {n1 c1 : Nat} (h1 : RepS w F a1 n1 c1 s.idx.names) {a2 : Option Addr} {n2 c2 : Nat} (h2 : RepS w F a2 n2 c2 s.idx.posts) {a3 : Option Addr} {n3 c3 : Nat} (h3 : RepS w F a3 n3 c3 s.parts) {a4 : Option Addr} {n4 c4 : Nat} (h4 : RepS w F a4 n4 c4 s.mem) (p0 : s.mem.length ≤ 1000) (p1 : ∀ m ∈ s.mem, 1 ≤ m.id ∧ m.id ≤ 6) : Calls Tryz.prog 136 [.agg #[.slice a1 n1 c1, .slice a2 n2 c2, .slice a3 n3 c3, .slice a4 n4 c4]].toArray w (rets fun rv w' => (∃ v0, rv = .tuple #[v0, .bool ((flushR s).2)] ∧ VS (fo F w.heap.size) w' ((flushR s).1 : Sto) v0) ∧ Ext w w') := by
 refine goT Tryz.func136 ?_
 obtain ⟨rfl, co, h1⟩ := h1.tp
 obtain ⟨rfl, cp, h2⟩ := h2.tp
 obtain ⟨rfl, cq, h3⟩ := h3.tp
 obtain ⟨rfl, cr, h4⟩ := h4.tp
 refine .s <| .g <| .np 34 [.slice a1 s.idx.names.length c1, .slice a2 s.idx.posts.length c2, .slice a3 s.parts.length c3, .slice a4 s.mem.length c4] fun aa cJ aB aC E bK => ?_
 have cu : Cov nil w aa := cov_new aB (Nat.le_refl _)
 replace ⟨h1, h2, h3, h4⟩ := (sn [] aC aB).g4 h1 h2 h3 h4
 have C := aC
 refine .np 34 [.slice none 0 0, .slice none 0 0, .slice none 0 0, .slice none 0 0] fun ab az ay aT J bL => ?_
 have cv := nb_new ay E.lt
 have cw := C.cn ay
 replace ⟨h1, h2, h3, h4, E, C⟩ := (sn [aa] aT ay).g6 h1 h2 h3 h4 E C
 refine .r 1 <| .d <| .s <| .s <| .g <| .r 1 <| .lb E <| .r 1 <| .eq (s.mem.length : Int) 0 (fun bM => ?_) (fun bM => ?_)
 ·refine .r 6 <| .d <| .ct <| .s <| .g <| .ln E <| .sc [.slice a1 s.idx.names.length c1, .slice a2 s.idx.posts.length c2, .slice a3 s.parts.length c3, .slice a4 s.mem.length c4] J fun cK aU bN bO => ?_
  replace ⟨h1, h2, h3, h4, E, C⟩ := (so [ab, aa] aU).g6 h1 h2 h3 h4 E C
  exact .r 1 <| .d <| .r2 Tryz.func136 Tryz.results136 (.bx bN) (.t (.bool false)) ⟨⟨_, (tup2 rfl (congrArg Value.bool (by (unfold flushR; (rw [if_pos (by omega)]))))), (VS.of (y := s) ⟨_, rfl, ⟨_, _, _, _, _, _, _, _, _, _, _, _, rfl, h1.w1, h2.w1, h3.w1, h4.w1⟩⟩ (by (unfold flushR; (rw [if_pos (by omega)]))))⟩, C⟩
 refine .r 2 <| .lb E <| .r 1 <| .bp ((s.parts.length : Int) ≥ 6) (fun bP => ?_) (fun bP => ?_)
 ·refine .r 1 <| .d <| .ct <| .s <| .g <| .ln E <| .sc [.slice a1 s.idx.names.length c1, .slice a2 s.idx.posts.length c2, .slice a3 s.parts.length c3, .slice a4 s.mem.length c4] J fun cL aV bQ bR => ?_
  replace ⟨h1, h2, h3, h4, E, C⟩ := (so [ab, aa] aV).g6 h1 h2 h3 h4 E C
  exact .r 1 <| .d <| .r2 Tryz.func136 Tryz.results136 (.bx bQ) (.t (.bool false)) ⟨⟨_, (tup2 rfl (congrArg Value.bool (by (unfold flushR; (rw [if_pos (by omega)]))))), (VS.of (y := s) ⟨_, rfl, ⟨_, _, _, _, _, _, _, _, _, _, _, _, rfl, h1.w1, h2.w1, h3.w1, h4.w1⟩⟩ (by (unfold flushR; (rw [if_pos (by omega)]))))⟩, C⟩
 refine .r 1 <| .d <| .cf <| .sk <| .s ?_
 replace h1 := h1.into
 replace h2 := h2.into
 replace h3 := h3.into
 replace h4 := h4.into
 have aW : Gb (aa + 1) az.heap.size := E.lt
 refine .gd (mtb [] az.heap.size) 5 fun bZ aD => ?_
 replace ⟨h1, h2, h3, h4, E, J, C⟩ := (se [ab, aa] aD).g7 h1 h2 h3 h4 E J C
 have au : Chg (mtb [] az.heap.size) az bZ := Chg.stepN (Chg.refl (mtb [] az.heap.size) az) aD
 refine .r [1] <| .lb 2 E (nS_of all_nil aW) <| .ln 4 E (nS_of all_nil aW) <| .go 0 <| .ns 0 42 [] fun cx aE => ?_
 replace ⟨h1, h2, h3, h4, E, J, C, au⟩ := (se [ab, aa] aE).g8 h1 h2 h3 h4 E J C au
 intro aq bS ae aF bc bd
 have bg := nb_new ae E.lt
 have bh := nb_new ae J.lt
 have bi := gb_new ae C.size
 have bj := C.cn ae
 have bk := au.cn ae
 replace ⟨h1, h2, h3, h4, E, J, C⟩ := (sn [ab, aa] aF ae).g7 h1 h2 h3 h4 E J C
 have av : Own (α := Prt) bS aq 42 (nin (fo F w.heap.size) [aq, ab, aa]) 0 0 [] := Own.nil' bc
 refine .go 3 <| GE.append (T := 31) (ty := 31) (args := [vS aq 0 0, .slice a3 s.parts.length c3]) (by kernel_rfl) fun cy aG => ?_
 replace ⟨h1, h2, h3, h4, E, J, av, C⟩ := (se [aq, ab, aa] aG).g8 h1 h2 h3 h4 E J av C
 obtain ⟨am, cz, cA, aH, W, ac, aw, bm⟩ := av.append (P := Tryz.prog) (T := 31) (ty := 31) (by kernel_rfl) (h3.base (fun _ _ h => h.1)) (fun b _ h => own_in (.head _) h) (by omega)
 refine ⟨_, _, aH, Chg.toS aw (Cov.toS bk), ?_⟩
 have bn := nb_or ac bg E.lt
 have bo := nb_or ac bh J.lt
 have bq := gb_or ac bi C.size
 have b0 := cov_or ac bj C.size
 replace ⟨h1, h2, h3, h4, E, J, C⟩ := (sa [aq, ab, aa] aw ac).g7 h1 h2 h3 h4 E J C
 replace W := W.rn aq
 have b6 := W.len; have b7 := W.max
 refine .d fun aX aI => ?_
 replace ⟨h1, h2, h3, h4, E, J, W, C⟩ := (se [am, ab, aa] aI).g8 h1 h2 h3 h4 E J W C
 replace h1 := h1.outof
 replace h2 := h2.outof
 replace h3 := h3.outof
 replace h4 := h4.outof
 refine .cl (c_spec_l13Mem s h1.ta h2.ta h3.ta h4.ta p0 p1 (w := aX) (F := all)) ?_
 rintro cB cC ⟨⟨_, rfl, ⟨bT, cD, bU, bV, cE, bW, rfl, ag, ah⟩⟩, aJ⟩
 have ax := al3 W.lt J.lt E.lt
 have aK : Gb w.heap.size aX.heap.size := C.size
 replace ⟨h1, h2, E, J, W, C⟩ := (se [am, ab, aa] aJ).g6 h1 h2 E J W C
 have ag := ag.fr ax aK
 replace ag := ag.base (G' := fo F w.heap.size) (fun _ _ h => .inr h)
 have b8 := ag.max
 have ah := ah.fr ax aK
 replace ah := ah.base (G' := fo F w.heap.size) (fun _ _ h => .inr h)
 have b9 := ah.max
 have br := ag.len
 subst br
 have bt := ah.len
 subst bt
 refine .ns 1 42 [.slice bT (((memPart s.mem).ids).length) bU, .slice bV (((memPart s.mem).blocks).length) bW] fun aY cF ao aL bu bv => ?_
 have bw := nb_new ao E.lt
 have bz := nb_new ao J.lt
 have aM := nb_new ao W.lt
 have bA := gb_new ao C.size
 replace ⟨h1, h2, E, J, W, ag, ah, C⟩ := (se [am, ab, aa] aL).g8 h1 h2 E J W ag ah C
 have aA : nin (fo F w.heap.size) [am, ab, aa] aY ∧ aY ≠ am := hap_mk (.inr bA) (all_cons aM (all_cons bz (all_cons bw all_nil))) aM
 refine RG.append1 (T := 31) (ty := 31) (y := (memPart s.mem)) W bu (by kernel_rfl) (by kernel_rfl) ⟨_, _, _, _, _, _, rfl, ag.oi, ah.oi⟩ aA (by omega) fun ai aZ cG O aj aN => ?_
 have cd := nb_or aj bn E.lt
 have ce := nb_or aj bo J.lt
 have bB := gb_or aj bq C.size
 replace ⟨h1, h2, E, J, C⟩ := (sa [am, ab, aa] aN aj).g5 h1 h2 E J C
 replace O := O.rn am
 have cg := O.len; have ci := O.max
 refine .r 1 <| .ss 2 (vS ai (0 + s.parts.length + 1) aZ) E fun cH aO ar bC => ?_
 replace ⟨h1, h2, J, O, C⟩ := (so [ai, ab, aa] aO).g5 h1 h2 J O C
 refine .d <| .s <| .g <| .ns 0 107 [] fun ak bX al aP bD bE => ?_
 have cj := nb_new al ar.lt
 have ck := nb_new al J.lt
 have cm := nb_new al O.lt
 have bF := gb_new al C.size
 replace ⟨h1, h2, ar, J, O, C⟩ := (sn [ai, ab, aa] aP al).g6 h1 h2 ar J O C
 have af : Own (α := Smp) bX ak 107 (nin (fo F w.heap.size) [ak, ai, ab, aa]) 0 0 [] := Own.nil' bD
 refine .r 1 <| .ss 3 (vS ak 0 0) ar fun cI aQ bG bH => ?_
 replace ⟨h1, h2, J, O, af, C⟩ := (so [ak, ai, ab, aa] aQ).g6 h1 h2 J O af C
 refine .d <| .s <| .g <| .ln bG <| .sc [.slice a1 s.idx.names.length c1, .slice a2 s.idx.posts.length c2, vS ai (0 + s.parts.length + 1) aZ, vS ak 0 0] J fun ba aR bI bJ => ?_
 replace ⟨h1, h2, O, af, C⟩ := (so [ak, ai, ab, aa] aR).g5 h1 h2 O af C
 refine .r 1 <| .d ?_
 have aS := O.sl (.inr bB)
 replace ⟨h1, h2, af⟩ := (sd ba [ak, ai, ab, aa] ai).g3 h1 h2 af
 have bY := af.sl (.inr bF)
 replace ⟨h1, h2, aS⟩ := (sd ba [ak, ab, aa] ak).g3 h1 h2 aS
 exact .r2 Tryz.func136 Tryz.results136 (.bx bI) (.t (.bool true)) ⟨⟨_, (tup2 rfl (congrArg Value.bool (by (unfold flushR; (rw [if_neg (by omega)] <;> simp))))), (VS.of (y := (⟨(⟨s.idx.names, s.idx.posts⟩ : Idx), (([] ++ s.parts) ++ [(memPart s.mem)]), []⟩ : Sto)) ⟨_, rfl, ⟨_, _, _, _, _, _, _, _, _, _, _, _, rfl, h1.w1, h2.w1, aS.w1, bY.w1⟩⟩ (by (unfold flushR; (rw [if_neg (by omega)] <;> simp))))⟩, C⟩
theorem c_spec_l13Merge (s : Sto) (at_ : Int) {w : World} {F : Nat → Prop} {a1 : Option Addr} {n1 c1 : Nat} (h1 : RepS w F a1 n1 c1 s.idx.names) {a2 : Option Addr} {n2 c2 : Nat} (h2 : RepS w F a2 n2 c2 s.idx.posts) {a3 : Option Addr} {n3 c3 : Nat} (h3 : RepS w F a3 n3 c3 s.parts) {a4 : Option Addr} {n4 c4 : Nat} (h4 : RepS w F a4 n4 c4 s.mem) (p0 : s.parts.length ≤ 100) (p1 : ∀ p ∈ s.parts, PrtSz p) : Calls Tryz.prog 138 [.agg #[.slice a1 n1 c1, .slice a2 n2 c2, .slice a3 n3 c3, .slice a4 n4 c4], .int .i64 at_].toArray w (rets fun rv w' => (∃ v0, rv = .tuple #[v0, .bool ((mergeR s at_).2)] ∧ VS (fo F w.heap.size) w' ((mergeR s at_).1 : Sto) v0) ∧ Ext w w') := by
 refine goT Tryz.func138 ?_
 obtain ⟨rfl, cE, h1⟩ := h1.tp
 obtain ⟨rfl, cF, h2⟩ := h2.tp
 obtain ⟨rfl, cG, h3⟩ := h3.tp
 obtain ⟨rfl, cH, h4⟩ := h4.tp
 refine .s <| .g <| .np 34 [.slice a1 s.idx.names.length c1, .slice a2 s.idx.posts.length c2, .slice a3 s.parts.length c3, .slice a4 s.mem.length c4] fun W dw aB aC E bK => ?_
 have cI : Cov nil w W := cov_new aB (Nat.le_refl _)
 replace ⟨h1, h2, h3, h4⟩ := (sn [] aC aB).g4 h1 h2 h3 h4
 have C := aC
 refine .np 34 [.slice none 0 0, .slice none 0 0, .slice none 0 0, .slice none 0 0] fun ae cg az aY J bL => ?_
 have cJ := nb_new az E.lt
 have cK := C.cn az
 replace ⟨h1, h2, h3, h4, E, C⟩ := (sn [W] aY az).g6 h1 h2 h3 h4 E C
 refine .r 1 <| .d <| .s <| .s <| .g <| .r 2 <| .lb E <| .r 1 <| RG.int ((s.parts.length : Int) - 2) (by kernel_rfl) (by grind [inR]) <| .cl (c_spec_l6In at_ 0 ((s.parts.length : Int) - 2) (w := cg) (F := all)) ?_
 rintro dx dy ⟨rfl, aZ⟩
 replace ⟨h1, h2, h3, h4, E, J, C⟩ := (se [ae, W] aZ).g7 h1 h2 h3 h4 E J C
 cases ba : (inR at_ 0 ((s.parts.length : Int) - 2))
 ·have cL := inR_f ba
  refine .r 1 <| .d <| .ct <| .s <| .g <| .ln E <| .sc [.slice a1 s.idx.names.length c1, .slice a2 s.idx.posts.length c2, .slice a3 s.parts.length c3, .slice a4 s.mem.length c4] J fun dz bc bM bN => ?_
  replace ⟨h1, h2, h3, h4, E, C⟩ := (so [ae, W] bc).g6 h1 h2 h3 h4 E C
  exact .r 1 <| .d <| .r2 Tryz.func138 Tryz.results138 (.bx bM) (.t (.bool false)) ⟨⟨_, (tup2 rfl (congrArg Value.bool (by rw [mergeR_f ‹_›]))), (VS.of (y := s) ⟨_, rfl, ⟨_, _, _, _, _, _, _, _, _, _, _, _, rfl, h1.w1, h2.w1, h3.w1, h4.w1⟩⟩ (by rw [mergeR_f ‹_›]))⟩, C⟩
 have cM := inR_t ba
 refine .r 1 <| .d <| .cf <| .sk <| .s <| .g <| .ns 0 42 [] fun aX ci am bd bO bP => ?_
 have bQ := nb_new am E.lt
 have bR := nb_new am J.lt
 have bS := gb_new am C.size
 have bT := C.cn am
 replace ⟨h1, h2, h3, h4, E, J, C⟩ := (sn [ae, W] bd am).g7 h1 h2 h3 h4 E J C
 have bU : Own (α := Prt) ci aX 42 (nin (fo F w.heap.size) [aX, ae, W]) 0 0 [] := Own.nil' bO
 refine .r 1 <| .lb E <| .r 1 <| RG.sub (t := 31) (lo := none) (hi := some (vI at_)) h3 0 ((at_).toNat) (by kernel_rfl) (by kernel_rfl) (.inl ⟨rfl, rfl⟩) (.inr ⟨_, _, rfl, by omega⟩) (by grind [inR]) (by grind [inR]) fun dA dB bk => ?_
 have cN := bk.len; have cO := bk.max
 refine RG.appendN (T := 31) (ty := 31) bU bk (by kernel_rfl) (by kernel_rfl) (fun b _ h => own_in (.head _) h) (by omega) fun aj dC bV O ah bg => ?_
 have aD := nb_or ah bQ E.lt
 have bW := nb_or ah bR J.lt
 have bX := gb_or ah bS C.size
 have bY := cov_or ah bT C.size
 replace ⟨h1, h2, h3, h4, E, J, C⟩ := (sa [aX, ae, W] bg ah).g7 h1 h2 h3 h4 E J C
 replace O := O.rn aX
 have cP := O.len; have cQ := O.max
 refine .r 1 <| .d <| .s ?_
 replace h1 := h1.into
 replace h2 := h2.into
 replace h3 := h3.into
 replace h4 := h4.into
 have aE : Gb (W + 1) bV.heap.size := E.lt
 refine .gd (mtb [aj] bV.heap.size) 14 fun cR aF => ?_
 replace ⟨h1, h2, h3, h4, E, J, O, C⟩ := (se [aj, ae, W] aF).g8 h1 h2 h3 h4 E J O C
 refine .r [0, 1] <| .lb 2 E (nS_of (all_cons (Nb.symm aD) all_nil) aE) <| .r [3] ?_
 have aG : (at_).toNat < s.parts.length := (by grind [inR])
 refine GA.idx (i := 4) ((at_).toNat) (len := s.parts.length) (z := at_) (sz := 2) (by kernel_rfl) (by grind [inR]) aG (h3.addr (Nat.zero_lt_of_lt aG)) ?_
 obtain ⟨ao, au⟩ : ∃ y, s.parts[(at_).toNat]? = some y := ⟨_, List.getElem?_eq_getElem (by grind [inR])⟩
 have cj := drop_at au; have bZ := List.mem_of_getElem? au
 obtain ⟨_, ⟨cS, cT, cU, cV, cW, cX, rfl, aH, aI⟩, bm⟩ := h3.elem ((at_).toNat) ao au
 have bn := aH.len
 subst bn
 have ck := aH.max
 have bo := aI.len
 subst bo
 have cm := aI.max
 refine .lg 5 0 bm (h3.nS (pos_of au) (all_cons (.head _) all_nil)) <| .r [6] <| .lb 7 E (nS_of (all_cons (Nb.symm aD) all_nil) aE) <| .r [8] <| GA.int (i := 9) (at_ + 1) (by kernel_rfl) (by grind [inR]) ?_
 have aJ : (at_ + 1).toNat < s.parts.length := (by grind [inR])
 refine GA.idx (i := 10) ((at_ + 1).toNat) (len := s.parts.length) (z := at_ + 1) (sz := 2) (by kernel_rfl) (by grind [inR]) aJ (h3.addr (Nat.zero_lt_of_lt aJ)) ?_
 obtain ⟨aq, av⟩ : ∃ y, s.parts[(at_ + 1).toNat]? = some y := ⟨_, List.getElem?_eq_getElem (by grind [inR])⟩
 have co := drop_at av; have b0 := List.mem_of_getElem? av
 obtain ⟨_, ⟨cY, cZ, c7, c8, c9, da, rfl, aK, aL⟩, bq⟩ := h3.elem ((at_ + 1).toNat) aq av
 have br := aK.len
 subst br
 have cp := aK.max
 have bt := aL.len
 subst bt
 have cq := aL.max
 refine .lg 11 0 bq (h3.nS (pos_of av) (all_cons (.head _) all_nil)) <| .go 12 <| .cl (fun aM ai => c_spec_l12Merge ao aq (aH.ta.ext ai) (aI.ta.ext ai) (aK.ta.ext ai) (aL.ta.ext ai) (by grind) (by grind) (w := aM) (F := all)) ?_
 intro aM ai
 replace ⟨h1, h2, h3, h4, E, J, O, C⟩ := (se [aj, ae, W] ai).g8 h1 h2 h3 h4 E J O C
 rintro db de ⟨⟨_, rfl, ⟨b6, df, b7, b8, dg, b9, rfl, aa, ab⟩⟩, aw⟩
 have ax := al3 O.lt J.lt E.lt
 have aN : Gb w.heap.size aM.heap.size := C.size
 have hkeep_ := aw
 replace ⟨h1, h2, h3, h4, E, J, O, C⟩ := (se [aj, ae, W] aw).g8 h1 h2 h3 h4 E J O C
 refine ⟨Ext.chg hkeep_, ?_⟩
 have aa := aa.fr ax aN
 replace aa := aa.base (G' := fo F w.heap.size) (fun _ _ h => .inr h)
 have cr := aa.max
 have ab := ab.fr ax aN
 replace ab := ab.base (G' := fo F w.heap.size) (fun _ _ h => .inr h)
 have cu := ab.max
 have bu := aa.len
 subst bu
 have bv := ab.len
 subst bv
 refine .go 13 <| .ns 1 42 [.slice b6 (((pMerge ao aq).ids).length) b7, .slice b8 (((pMerge ao aq).blocks).length) b9] fun dh aO => ?_
 replace ⟨h1, h2, h3, h4, E, J, O, aa, ab, C⟩ := (se [aj, ae, W] aO).g10 h1 h2 h3 h4 E J O aa ab C
 intro bh dj ak aP ay bw
 have bz := nb_new ak E.lt
 have bA := nb_new ak J.lt
 have aQ := nb_new ak O.lt
 have bB := gb_new ak C.size
 replace ⟨h1, h2, h3, h4, E, J, O, aa, ab, C⟩ := (se [aj, ae, W] aP).g10 h1 h2 h3 h4 E J O aa ab C
 refine .d fun dm aR => ?_
 replace ⟨h1, h2, h3, h4, E, J, O, aa, ab, ay, C⟩ := (se [aj, ae, W] aR).g11 h1 h2 h3 h4 E J O aa ab ay C
 replace h1 := h1.outof
 replace h2 := h2.outof
 replace h3 := h3.outof
 replace h4 := h4.outof
 have aA : nin (fo F w.heap.size) [aj, ae, W] bh ∧ bh ≠ aj := hap_mk (.inr bB) (all_cons aQ (all_cons bA (all_cons bz all_nil))) aQ
 refine RG.append1 (T := 31) (ty := 31) (y := (pMerge ao aq)) O ay (by kernel_rfl) (by kernel_rfl) ⟨_, _, _, _, _, _, rfl, aa.oi, ab.oi⟩ aA (by omega) fun bi dp dq al af aS => ?_
 have bC := nb_or af aD E.lt
 have bD := nb_or af bW J.lt
 have bE := gb_or af bX C.size
 have cv := cov_or af bY C.size
 replace ⟨h1, h2, h3, h4, E, J, C⟩ := (sa [aj, ae, W] aS af).g7 h1 h2 h3 h4 E J C
 replace al := al.rn aj
 have cw := al.len; have cx := al.max
 refine .r 1 <| .d <| .s <| .g <| .r 2 <| .lb E <| .r 1 <| RG.int (at_ + 2) (by kernel_rfl) (by grind [inR]) <| RG.sub (t := 31) (lo := some (vI (at_ + 2))) (hi := none) h3 ((at_ + 2).toNat) s.parts.length (by kernel_rfl) (by kernel_rfl) (.inr ⟨_, _, rfl, by omega⟩) (.inl ⟨rfl, rfl⟩) (by grind [inR]) (by grind [inR]) fun dr dt aT => ?_
 have cy := aT.len; have cz := aT.max
 refine RG.appendN (T := 31) (ty := 31) al aT (by kernel_rfl) (by kernel_rfl) (fun b _ h => own_in (.head _) h) (by omega) fun ar bj du ac ag aU => ?_
 have cA := nb_or ag bC E.lt
 have cB := nb_or ag bD J.lt
 have bF := gb_or ag bE C.size
 replace ⟨h1, h2, h4, E, J, C⟩ := (sa [bi, ae, W] aU ag).g6 h1 h2 h4 E J C
 replace ac := ac.rn bi
 have cC := ac.len; have cD := ac.max
 refine .r 1 <| .ss 2 (vS ar (0 + ((at_).toNat - 0) + 1 + (s.parts.length - (at_ + 2).toNat)) bj) E fun dv aV bG bH => ?_
 replace ⟨h1, h2, h4, J, ac, C⟩ := (so [ar, ae, W] aV).g6 h1 h2 h4 J ac C
 refine .d <| .s <| .g <| .ln bG <| .sc [.slice a1 s.idx.names.length c1, .slice a2 s.idx.posts.length c2, vS ar (0 + ((at_).toNat - 0) + 1 + (s.parts.length - (at_ + 2).toNat)) bj, .slice a4 s.mem.length c4] J fun cd aW bI bJ => ?_
 replace ⟨h1, h2, h4, ac, C⟩ := (so [ar, ae, W] aW).g5 h1 h2 h4 ac C
 refine .r 1 <| .d ?_
 have ce := ac.sl (.inr bF)
 replace ⟨h1, h2, h4⟩ := (sd cd [ar, ae, W] ar).g3 h1 h2 h4
 exact .r2 Tryz.func138 Tryz.results138 (.bx bI) (.t (.bool true)) ⟨⟨_, (tup2 rfl (congrArg Value.bool (by rw [mergeR_t ‹_› ‹_› ‹_›]))), (VS.of (y := (⟨(⟨s.idx.names, s.idx.posts⟩ : Idx), ((([] ++ ((s.parts.take ((at_).toNat)).drop 0)) ++ [(pMerge ao aq)]) ++ ((s.parts.take s.parts.length).drop ((at_ + 2).toNat))), s.mem⟩ : Sto)) ⟨_, rfl, ⟨_, _, _, _, _, _, _, _, _, _, _, _, rfl, h1.w1, h2.w1, ce.w1, h4.w1⟩⟩ (by rw [mergeR_t ‹_› ‹_› ‹_›]))⟩, C⟩
theorem c_spec_l13Add (s : Sto) (n : List Tag) (r : Row) {w : World} {F : Nat → Prop} {a1 : Option Addr} {n1 c1 : Nat} (h1 : RepS w F a1 n1 c1 s.idx.names) {a2 : Option Addr} {n2 c2 : Nat} (h2 : RepS w F a2 n2 c2 s.idx.posts) {a3 : Option Addr} {n3 c3 : Nat} (h3 : RepS w F a3 n3 c3 s.parts) {a4 : Option Addr} {n4 c4 : Nat} (h4 : RepS w F a4 n4 c4 s.mem) {a5 : Option Addr} {n5 c5 : Nat} (h5 : RepS w F a5 n5 c5 n) (p0 : StoSz s) (p1 : NmSz n) : Calls Tryz.prog 135 [.agg #[.slice a1 n1 c1, .slice a2 n2 c2, .slice a3 n3 c3, .slice a4 n4 c4], .slice a5 n5 c5, .agg #[.int .i64 r.t, .int .i64 r.v]].toArray w (rets fun rv w' => (∃ v0, rv = .tuple #[v0, .bool ((addS s n r).2)] ∧ VS (fo F w.heap.size) w' ((addS s n r).1 : Sto) v0) ∧ Ext w w') := by
 refine goT Tryz.func135 ?_
 obtain ⟨rfl, eX, h1⟩ := h1.tp
 obtain ⟨rfl, eY, h2⟩ := h2.tp
 obtain ⟨rfl, eZ, h3⟩ := h3.tp
 obtain ⟨rfl, e7, h4⟩ := h4.tp
 obtain ⟨rfl, e8, h5⟩ := h5.tp
 refine .s <| .g <| .np 34 [.slice a1 s.idx.names.length c1, .slice a2 s.idx.posts.length c2, .slice a3 s.parts.length c3, .slice a4 s.mem.length c4] fun ag fW b9 bA E dE => ?_
 replace ⟨h1, h2, h3, h4, h5⟩ := (sn [] bA b9).g5 h1 h2 h3 h4 h5
 have C := bA
 refine .np 105 [vI r.t, vI r.v] fun ah fX cd ce O dF => ?_
 replace ⟨h1, h2, h3, h4, h5, E, C⟩ := (sn [ag] ce cd).g7 h1 h2 h3 h4 h5 E C
 refine .np 34 [.slice none 0 0, .slice none 0 0, .slice none 0 0, .slice none 0 0] fun ai dG aT cg W dH => ?_
 have fa := nb_new aT E.lt
 have fb := nb_new aT O.lt
 have fc := C.cn aT
 replace ⟨h1, h2, h3, h4, h5, E, O, C⟩ := (sn [ah, ag] cg aT).g8 h1 h2 h3 h4 h5 E O C
 refine .r 1 <| .d <| .s <| .g <| .r 1 <| .ln E <| .r 1 <| .cl (c_spec_l11Add s.idx n h1 h2 h5 p0.1 p1 (w := dG) (F := nin (fo F w.heap.size) [ai, ah, ag])) ?_
 rintro fY fZ ⟨⟨f0, rfl, ⟨_, rfl, ⟨bB, f5, bC, bD, f6, bE, rfl, ac, ae⟩⟩⟩, ci⟩
 have bF := al3 W.lt O.lt E.lt
 have cj : Gb w.heap.size dG.heap.size := C.size
 replace ⟨h1, h2, h3, h4, E, O, W, C⟩ := (se [ai, ah, ag] ci).g8 h1 h2 h3 h4 E O W C
 replace ac := RepS.mixed' (M := [ai, ah, ag]) ac bF cj
 have fd := ac.max
 replace ae := RepS.mixed' (M := [ai, ah, ag]) ae bF cj
 have fe := ae.max
 have dI := ac.len
 subst dI
 have dJ := ae.len
 subst dJ
 refine .r 3 ?_
 cases ff : (addR s.idx n).2.2
 ·refine .r 1 <| .np 30 [.slice none 0 0, .slice none 0 0] fun dK f7 aN ck dL dM => ?_
  have fg := nb_new aN E.lt
  have fh := nb_new aN O.lt
  have fi := nb_new aN W.lt
  have fj := C.cn aN
  replace ⟨h1, h2, h3, h4, E, O, W, ac, ae, C⟩ := (sn [ai, ah, ag] ck aN).g10 h1 h2 h3 h4 E O W ac ae C
  refine .sc [.slice bB ((((addR s.idx n).1).names).length) bC, .slice bD ((((addR s.idx n).1).posts).length) bE] dL fun f8 cm fk dN => ?_
  replace ⟨h1, h2, h3, h4, E, O, W, ac, ae, C⟩ := (so [dK, ai, ah, ag] cm).g10 h1 h2 h3 h4 E O W ac ae C
  refine .r 2 <| .d <| .s <| .s <| .g <| .r 13 <| .d <| .ct <| .s <| .g <| .ln E <| .sc [.slice a1 s.idx.names.length c1, .slice a2 s.idx.posts.length c2, .slice a3 s.parts.length c3, .slice a4 s.mem.length c4] W fun f9 co dO dP => ?_
  replace ⟨h1, h2, h3, h4, E, O, ac, ae, C⟩ := (so [dK, ai, ah, ag] co).g9 h1 h2 h3 h4 E O ac ae C
  exact .r 1 <| .d <| .r2 Tryz.func135 Tryz.results135 (.bx dO) (.t (.bool false)) ⟨⟨_, (tup2 rfl (congrArg Value.bool (by rw [addS_1 ‹_›]))), (VS.of (y := s) ⟨_, rfl, ⟨_, _, _, _, _, _, _, _, _, _, _, _, rfl, h1.w1, h2.w1, h3.w1, h4.w1⟩⟩ (by rw [addS_1 ‹_›]))⟩, C⟩
 refine .r 1 <| .np 30 [.slice none 0 0, .slice none 0 0] fun ak ga aO cp dQ cu => ?_
 have d6 := nb_new aO E.lt
 have d7 := nb_new aO O.lt
 have d8 := nb_new aO W.lt
 have d9 := C.cn aO
 replace ⟨h1, h2, h3, h4, E, O, W, ac, ae, C⟩ := (sn [ai, ah, ag] cp aO).g10 h1 h2 h3 h4 E O W ac ae C
 refine .sc [.slice bB ((((addR s.idx n).1).names).length) bC, .slice bD ((((addR s.idx n).1).posts).length) bE] dQ fun dR bG J cv => ?_
 replace ⟨h1, h2, h3, h4, E, O, W, ac, ae, C⟩ := (so [ak, ai, ah, ag] bG).g10 h1 h2 h3 h4 E O W ac ae C
 refine .r 2 <| .d <| .s <| .s <| .g <| .r 3 <| .ln O <| .cl (c_spec_l2Row r (w := dR) (F := all)) ?_
 rintro fm fp ⟨rfl, bH⟩
 replace ⟨h1, h2, h3, h4, E, O, W, ac, ae, J, C⟩ := (se [ak, ai, ah, ag] bH).g11 h1 h2 h3 h4 E O W ac ae J C
 cases ec : (rowOk r)
 ·refine .r 8 <| .d <| .ct <| .s <| .g <| .ln E <| .sc [.slice a1 s.idx.names.length c1, .slice a2 s.idx.posts.length c2, .slice a3 s.parts.length c3, .slice a4 s.mem.length c4] W fun fq bI cw cx => ?_
  replace ⟨h1, h2, h3, h4, E, O, ac, ae, J, C⟩ := (so [ak, ai, ah, ag] bI).g10 h1 h2 h3 h4 E O ac ae J C
  exact .r 1 <| .d <| .r2 Tryz.func135 Tryz.results135 (.bx cw) (.t (.bool false)) ⟨⟨_, (tup2 rfl (congrArg Value.bool (by rw [addS_2 ‹_›]))), (VS.of (y := s) ⟨_, rfl, ⟨_, _, _, _, _, _, _, _, _, _, _, _, rfl, h1.w1, h2.w1, h3.w1, h4.w1⟩⟩ (by rw [addS_2 ‹_›]))⟩, C⟩
 refine .r 4 <| .lb E <| .r 1 <| .bp ((s.mem.length : Int) ≥ 20) (fun cy => ?_) (fun cy => ?_)
 ·refine .r 1 <| .d <| .ct <| .s <| .g <| .ln E <| .sc [.slice a1 s.idx.names.length c1, .slice a2 s.idx.posts.length c2, .slice a3 s.parts.length c3, .slice a4 s.mem.length c4] W fun ft bJ cz cA => ?_
  replace ⟨h1, h2, h3, h4, E, O, ac, ae, J, C⟩ := (so [ak, ai, ah, ag] bJ).g10 h1 h2 h3 h4 E O ac ae J C
  exact .r 1 <| .d <| .r2 Tryz.func135 Tryz.results135 (.bx cz) (.t (.bool false)) ⟨⟨_, (tup2 rfl (congrArg Value.bool (by rw [addS_3 ‹_›]))), (VS.of (y := s) ⟨_, rfl, ⟨_, _, _, _, _, _, _, _, _, _, _, _, rfl, h1.w1, h2.w1, h3.w1, h4.w1⟩⟩ (by rw [addS_3 ‹_›]))⟩, C⟩
 refine .r 1 <| .d <| .cf <| .sk <| .s <| .g <| .ln E <| .np 34 [.slice none 0 0, .slice none 0 0, .slice none 0 0, .slice none 0 0] fun af fu aB bK cB cC => ?_
 have ed := nb_new aB E.lt
 have ee := nb_new aB O.lt
 have ef := nb_new aB W.lt
 have eg := nb_new aB J.lt
 have eh := C.cn aB
 replace ⟨h1, h2, h3, h4, E, O, W, ac, ae, J, C⟩ := (sn [ak, ai, ah, ag] bK aB).g11 h1 h2 h3 h4 E O W ac ae J C
 refine .sc [.slice a1 s.idx.names.length c1, .slice a2 s.idx.posts.length c2, .slice a3 s.parts.length c3, .slice a4 s.mem.length c4] cB fun fv bL cD cE => ?_
 replace ⟨h1, h2, h3, h4, E, O, W, ac, ae, J, C⟩ := (so [af, ak, ai, ah, ag] bL).g11 h1 h2 h3 h4 E O W ac ae J C
 refine .d <| .s <| .g <| .ln J <| .r 1 <| .sb 0 (.agg #[.slice bB ((((addR s.idx n).1).names).length) bC, .slice bD ((((addR s.idx n).1).posts).length) bE]) [.slice bB ((((addR s.idx n).1).names).length) bC, .slice bD ((((addR s.idx n).1).posts).length) bE, .slice a3 s.parts.length c3, .slice a4 s.mem.length c4] cD fun aA bM aa cF => ?_
 replace ⟨h1, h2, h3, h4, E, O, W, ac, ae, J, C⟩ := (so [af, ak, ai, ah, ag] bM).g11 h1 h2 h3 h4 E O W ac ae J C
 refine .d <| .s <| T.regionJ (X := Nat × Nat × Nat) (mtb [] aA.heap.size) 8 (fun (ay, bv, aI) => [(3, .pointer (some ⟨ag, 0, none⟩)), (6, .pointer (some ⟨ai, 0, none⟩)), (9, vI ((addR s.idx n).2.1)), (11, .pointer (some ⟨af, 0, none⟩)), (40, vS ay (0 + s.mem.length) bv), (44, vS aI 1 1)]) (fun (ay, bv, aI) bw => Ext aA bw ∧ aA.heap.size ≤ ay ∧ aA.heap.size ≤ aI ∧ Nb aI ay ∧ Own bw ay 107 (nin (fo F w.heap.size) [ay, af, ak, ai, ah, ag]) (0 + s.mem.length) bv (([] ++ s.mem) : List Smp) ∧ Box bw aI 107 [vI ((addR s.idx n).2.1), vI r.t, vI r.v]) (by kernel_rfl) (fun dS aP => ?_) ?_
 ·replace h1 := h1.into
  replace h2 := h2.into
  replace h3 := h3.into
  replace h4 := h4.into
  replace ac := ac.into
  replace ae := ae.into
  have cG : Gb (ag + 1) aA.heap.size := E.lt
  have cH : Gb (ah + 1) aA.heap.size := O.lt
  replace ⟨h1, h2, h3, h4, E, O, W, ac, ae, J, aa, C⟩ := (se [af, ak, ai, ah, ag] aP).g12 h1 h2 h3 h4 E O W ac ae J aa C
  have ab := aP
  have aj : Chg (mtb [] aA.heap.size) aA dS := Chg.stepN (Chg.refl (mtb [] aA.heap.size) aA) aP
  refine .r [1] <| .lb 2 E (nS_of all_nil cG) <| .r [4] <| .ln 5 O (nS_of all_nil cH) <| .r [6] <| .tw 0 7 ?_ ?_
  ·refine .ns 0 107 [] fun fw aV => ?_
   replace ⟨h1, h2, h3, h4, E, O, W, ac, ae, J, aa, C⟩ := (se [af, ak, ai, ah, ag] aV).g12 h1 h2 h3 h4 E O W ac ae J aa C
   replace ⟨ab, aj⟩ := (se [af, ak, ai, ah, ag] aV).g2 ab aj
   intro am dT au aW cI cJ
   have ej := nb_new au E.lt
   have ek := nb_new au O.lt
   have en := nb_new au W.lt
   have et := nb_new au J.lt
   have ey := nb_new au aa.lt
   have ez := C.cn au
   have bN := ab.cn au
   have bO := aj.cn au
   replace ⟨h1, h2, h3, h4, E, O, W, ac, ae, J, aa, C⟩ := (sn [af, ak, ai, ah, ag] aW au).g12 h1 h2 h3 h4 E O W ac ae J aa C
   replace ⟨ab, aj⟩ := (sn [af, ak, ai, ah, ag] aW au).g2 ab aj
   have av : Own (α := Smp) dT am 107 (nin (fo F w.heap.size) [am, af, ak, ai, ah, ag]) 0 0 [] := Own.nil' cI
   refine .tw 3 7 ?_ ?_
   ·refine GE.append (T := 32) (ty := 32) (args := [vS am 0 0, .slice a4 s.mem.length c4]) (by kernel_rfl) fun fz aX => ?_
    replace ⟨h1, h2, h3, h4, E, O, W, ac, ae, J, aa, av⟩ := (se [am, af, ak, ai, ah, ag] aX).g12 h1 h2 h3 h4 E O W ac ae J aa av
    replace ⟨C, ab, aj⟩ := (se [am, af, ak, ai, ah, ag] aX).g3 C ab aj
    obtain ⟨aM, dU, fA, bP, aq, aL, aQ, cK⟩ := Own.appendF (P := Tryz.prog) (T := 32) (ty := 32) flat_smp av (by kernel_rfl) h4 (fun b h e => h.2 (e ▸ (.head _))) (by have := p0.2.2.2; omega)
    refine ⟨_, _, bP, Chg.toS aQ (Cov.toS bO), ?_⟩
    have cL := cov_or aL bN ab.size
    replace ⟨h1, h2, h3, h4, E, O, W, ac, ae, J, aa, C⟩ := (sa [am, af, ak, ai, ah, ag] aQ aL).g12 h1 h2 h3 h4 E O W ac ae J aa C
    replace ⟨ab, aj⟩ := (sa [am, af, ak, ai, ah, ag] aQ aL).g2 ab aj
    replace aq := aq.rn am
    have eA := aq.len; have eB := aq.max
    refine .go 7 <| .ns 1 107 [vI ((addR s.idx n).2.1), vI r.t, vI r.v] fun fB aY => ?_
    replace ⟨h1, h2, h3, h4, E, O, W, ac, ae, J, aa, aq⟩ := (se [aM, af, ak, ai, ah, ag] aY).g12 h1 h2 h3 h4 E O W ac ae J aa aq
    replace ⟨C, ab, aj⟩ := (se [aM, af, ak, ai, ah, ag] aY).g3 C ab aj
    intro dV fC aZ ba bc cM
    have cN := nb_new aZ aq.lt
    have cO := ab.cn aZ
    replace ⟨h1, h2, h3, h4, E, O, W, ac, ae, J, aa, aq⟩ := (se [aM, af, ak, ai, ah, ag] ba).g12 h1 h2 h3 h4 E O W ac ae J aa aq
    replace ⟨C, ab, aj⟩ := (se [aM, af, ak, ai, ah, ag] ba).g3 C ab aj
    refine .d fun fD bd => ?_
    replace ⟨h1, h2, h3, h4, E, O, W, ac, ae, J, aa, aq⟩ := (se [aM, af, ak, ai, ah, ag] bd).g12 h1 h2 h3 h4 E O W ac ae J aa aq
    replace ⟨bc, C, ab, aj⟩ := (se [aM, af, ak, ai, ah, ag] bd).g4 bc C ab aj
    replace h1 := h1.outof
    replace h2 := h2.outof
    replace h3 := h3.outof
    replace h4 := h4.outof
    replace ac := ac.outof
    replace ae := ae.outof
    exact ⟨(aM, dU, dV), ⟨by kernel_rfl, by kernel_rfl, by kernel_rfl, by kernel_rfl, by kernel_rfl, by kernel_rfl, trivial⟩, ⟨ab, (cov_ge0 cL), (cov_ge0 cO), cN, aq, bc⟩⟩
   refine .ns 1 107 [vI ((addR s.idx n).2.1), vI r.t, vI r.v] fun fE bg => ?_
   replace ⟨h1, h2, h3, h4, E, O, W, ac, ae, J, aa, av⟩ := (se [am, af, ak, ai, ah, ag] bg).g12 h1 h2 h3 h4 E O W ac ae J aa av
   replace ⟨C, ab, aj⟩ := (se [am, af, ak, ai, ah, ag] bg).g3 C ab aj
   intro dW fF bh bi az cP
   have cQ := nb_new bh av.lt
   have cR := ab.cn bh
   replace ⟨h1, h2, h3, h4, E, O, W, ac, ae, J, aa, av⟩ := (se [am, af, ak, ai, ah, ag] bi).g12 h1 h2 h3 h4 E O W ac ae J aa av
   replace ⟨C, ab, aj⟩ := (se [am, af, ak, ai, ah, ag] bi).g3 C ab aj
   refine .go 3 <| GE.append (T := 32) (ty := 32) (args := [vS am 0 0, .slice a4 s.mem.length c4]) (by kernel_rfl) fun fG bj => ?_
   replace ⟨h1, h2, h3, h4, E, O, W, ac, ae, J, aa, av⟩ := (se [am, af, ak, ai, ah, ag] bj).g12 h1 h2 h3 h4 E O W ac ae J aa av
   replace ⟨az, C, ab, aj⟩ := (se [am, af, ak, ai, ah, ag] bj).g4 az C ab aj
   obtain ⟨bQ, dX, fH, bR, aC, aG, aR, cS⟩ := Own.appendF (P := Tryz.prog) (T := 32) (ty := 32) flat_smp av (by kernel_rfl) h4 (fun b h e => h.2 (e ▸ (.head _))) (by have := p0.2.2.2; omega)
   refine ⟨_, _, bR, Chg.toS aR (Cov.toS bO), ?_⟩
   have cT := nb_or aG (Nb.symm cQ) az.lt
   have cU := cov_or aG bN ab.size
   replace ⟨h1, h2, h3, h4, E, O, W, ac, ae, J, aa, az⟩ := (sa [am, af, ak, ai, ah, ag] aR aG).g12 h1 h2 h3 h4 E O W ac ae J aa az
   replace ⟨C, ab, aj⟩ := (sa [am, af, ak, ai, ah, ag] aR aG).g3 C ab aj
   replace aC := aC.rn am
   have eC := aC.len; have eD := aC.max
   refine .d fun fI bk => ?_
   replace ⟨h1, h2, h3, h4, E, O, W, ac, ae, J, aa, aC⟩ := (se [bQ, af, ak, ai, ah, ag] bk).g12 h1 h2 h3 h4 E O W ac ae J aa aC
   replace ⟨az, C, ab, aj⟩ := (se [bQ, af, ak, ai, ah, ag] bk).g4 az C ab aj
   replace h1 := h1.outof
   replace h2 := h2.outof
   replace h3 := h3.outof
   replace h4 := h4.outof
   replace ac := ac.outof
   replace ae := ae.outof
   exact ⟨(bQ, dX, dW), ⟨by kernel_rfl, by kernel_rfl, by kernel_rfl, by kernel_rfl, by kernel_rfl, by kernel_rfl, trivial⟩, ⟨ab, (cov_ge0 cU), (cov_ge0 cR), (Nb.symm cT), aC, az⟩⟩
  refine .ns 1 107 [vI ((addR s.idx n).2.1), vI r.t, vI r.v] fun fJ bm => ?_
  replace ⟨h1, h2, h3, h4, E, O, W, ac, ae, J, aa, C⟩ := (se [af, ak, ai, ah, ag] bm).g12 h1 h2 h3 h4 E O W ac ae J aa C
  replace ⟨ab, aj⟩ := (se [af, ak, ai, ah, ag] bm).g2 ab aj
  intro dY fK bS bn ao cV
  have cW := ab.cn bS
  replace ⟨h1, h2, h3, h4, E, O, W, ac, ae, J, aa, C⟩ := (se [af, ak, ai, ah, ag] bn).g12 h1 h2 h3 h4 E O W ac ae J aa C
  replace ⟨ab, aj⟩ := (se [af, ak, ai, ah, ag] bn).g2 ab aj
  refine .go 0 <| .ns 0 107 [] fun fL bo => ?_
  replace ⟨h1, h2, h3, h4, E, O, W, ac, ae, J, aa, ao⟩ := (se [af, ak, ai, ah, ag] bo).g12 h1 h2 h3 h4 E O W ac ae J aa ao
  replace ⟨C, ab, aj⟩ := (se [af, ak, ai, ah, ag] bo).g3 C ab aj
  intro aJ dZ ar bq cX cY
  have eE := nb_new ar E.lt
  have eF := nb_new ar O.lt
  have eG := nb_new ar W.lt
  have eH := nb_new ar J.lt
  have eI := nb_new ar aa.lt
  have cZ := nb_new ar ao.lt
  have eJ := C.cn ar
  have c7 := ab.cn ar
  have c8 := aj.cn ar
  replace ⟨h1, h2, h3, h4, E, O, W, ac, ae, J, aa, ao⟩ := (sn [af, ak, ai, ah, ag] bq ar).g12 h1 h2 h3 h4 E O W ac ae J aa ao
  replace ⟨C, ab⟩ := (sn [af, ak, ai, ah, ag] bq ar).g2 C ab
  have br : Own (α := Smp) dZ aJ 107 (nin (fo F w.heap.size) [aJ, af, ak, ai, ah, ag]) 0 0 [] := Own.nil' cX
  refine .go 3 <| GE.append (T := 32) (ty := 32) (args := [vS aJ 0 0, .slice a4 s.mem.length c4]) (by kernel_rfl) fun fM bt => ?_
  replace ⟨h1, h2, h3, h4, E, O, W, ac, ae, J, aa, ao⟩ := (se [aJ, af, ak, ai, ah, ag] bt).g12 h1 h2 h3 h4 E O W ac ae J aa ao
  replace ⟨br, C, ab⟩ := (se [aJ, af, ak, ai, ah, ag] bt).g3 br C ab
  obtain ⟨bT, d0, fN, bU, aD, aH, aS, c9⟩ := Own.appendF (P := Tryz.prog) (T := 32) (ty := 32) flat_smp br (by kernel_rfl) h4 (fun b h e => h.2 (e ▸ (.head _))) (by have := p0.2.2.2; omega)
  refine ⟨_, _, bU, Chg.toS aS (Cov.toS c8), ?_⟩
  have da := nb_or aH cZ ao.lt
  have db := cov_or aH c7 ab.size
  replace ⟨h1, h2, h3, h4, E, O, W, ac, ae, J, aa, ao⟩ := (sa [aJ, af, ak, ai, ah, ag] aS aH).g12 h1 h2 h3 h4 E O W ac ae J aa ao
  replace ⟨C, ab⟩ := (sa [aJ, af, ak, ai, ah, ag] aS aH).g2 C ab
  replace aD := aD.rn aJ
  have eK := aD.len; have eL := aD.max
  refine .d fun fO bu => ?_
  replace ⟨h1, h2, h3, h4, E, O, W, ac, ae, J, aa, ao⟩ := (se [bT, af, ak, ai, ah, ag] bu).g12 h1 h2 h3 h4 E O W ac ae J aa ao
  replace ⟨aD, C, ab⟩ := (se [bT, af, ak, ai, ah, ag] bu).g3 aD C ab
  replace h1 := h1.outof
  replace h2 := h2.outof
  replace h3 := h3.outof
  replace h4 := h4.outof
  replace ac := ac.outof
  replace ae := ae.outof
  exact ⟨(bT, d0, dY), ⟨by kernel_rfl, by kernel_rfl, by kernel_rfl, by kernel_rfl, by kernel_rfl, by kernel_rfl, trivial⟩, ⟨ab, (cov_ge0 db), (cov_ge0 cW), (Nb.symm da), aD, ao⟩⟩
 rintro ⟨ay, bv, aI⟩ fP bw ⟨bV, ax, aE, bW, bX, d3⟩
 have de := nb_ge ax E.lt
 have df := nb_ge ax O.lt
 have dg := nb_ge ax W.lt
 have dh := nb_ge ax J.lt
 have dj := nb_ge ax aa.lt
 have dm := gb_ge ax C.size
 have eM : Cov nil w ay := cov_ge ax C.size
 have dp := nb_ge aE E.lt
 have dq := nb_ge aE O.lt
 have dr := nb_ge aE W.lt
 have dt := nb_ge aE J.lt
 have du := nb_ge aE aa.lt
 have dv := gb_ge aE C.size
 replace ⟨h1, h2, h3, h4, E, O, W, ac, ae, J, aa, C⟩ := (sz [af, ak, ai, ah, ag] bV ax).g12 h1 h2 h3 h4 E O W ac ae J aa C
 have eN := bX.len; have eO := bX.max
 have bz : nin (fo F w.heap.size) [ay, af, ak, ai, ah, ag] aI ∧ aI ≠ ay := hap_mk (.inr dv) (all_cons bW (all_cons du (all_cons dt (all_cons dr (all_cons dq (all_cons dp all_nil)))))) bW
 refine RG.append1 (T := 32) (ty := 32) (y := (⟨(addR s.idx n).2.1, (⟨r.t, r.v⟩ : Row)⟩ : Smp)) bX d3 (by kernel_rfl) (by kernel_rfl) rfl bz (by have := p0.2.2.2; omega) fun aK cq fQ al aw bY => ?_
 have eP := nb_or aw de E.lt
 have eQ := nb_or aw df O.lt
 have eR := nb_or aw dg W.lt
 have eS := nb_or aw dh J.lt
 have eT := nb_or aw dj aa.lt
 have dw := gb_or aw dm C.size
 replace ⟨h1, h2, h3, h4, E, O, W, ac, ae, J, aa, C⟩ := (sa [ay, af, ak, ai, ah, ag] bY aw).g12 h1 h2 h3 h4 E O W ac ae J aa C
 replace al := al.rn ay
 have eU := al.len; have eV := al.max
 refine .r 1 <| .ss 3 (vS aK (0 + s.mem.length + 1) cq) aa fun cr bZ aF dx => ?_
 replace ⟨h1, h2, h3, h4, E, O, W, ac, ae, J, al, C⟩ := (so [aK, af, ak, ai, ah, ag] bZ).g12 h1 h2 h3 h4 E O W ac ae J al C
 refine .d <| .s <| .s <| .g <| .ln aF <| .r 1 <| .cl (c_spec_l13Rows (⟨(⟨((addR s.idx n).1).names, ((addR s.idx n).1).posts⟩ : Idx), s.parts, (([] ++ s.mem) ++ [(⟨(addR s.idx n).2.1, (⟨r.t, r.v⟩ : Row)⟩ : Smp)])⟩ : Sto) ((addR s.idx n).2.1) ac.ta ae.ta h3.ta (al.rep) p0.2.1 p0.2.2.1 (by have := p0.2.2.2; simp; omega) (w := cr) (F := all)) ?_
 rintro fR fS ⟨⟨fT, fU, rfl, aU⟩, b0⟩
 have b6 := al6 al.lt aF.lt J.lt W.lt O.lt E.lt
 have dy : Gb w.heap.size cr.heap.size := C.size
 replace ⟨h1, h2, h3, h4, E, W, ac, ae, aF, al, C⟩ := (se [aK, af, ak, ai, ah, ag] b0).g11 h1 h2 h3 h4 E W ac ae aF al C
 have aU := aU.fr b6 dy
 replace aU := aU.base (G' := fo F w.heap.size) (fun _ _ h => .inr h)
 have eW := aU.max
 refine .r 1 <| .bp ((((rowsOf (⟨(⟨((addR s.idx n).1).names, ((addR s.idx n).1).posts⟩ : Idx), s.parts, (([] ++ s.mem) ++ [(⟨(addR s.idx n).2.1, (⟨r.t, r.v⟩ : Row)⟩ : Smp)])⟩ : Sto) ((addR s.idx n).2.1)).length) : Int) > 24) (fun dz => ?_) (fun dz => ?_)
 ·refine .d <| .ct <| .s <| .g <| .ln E <| .sc [.slice a1 s.idx.names.length c1, .slice a2 s.idx.posts.length c2, .slice a3 s.parts.length c3, .slice a4 s.mem.length c4] W fun fV b7 dA dB => ?_
  replace ⟨h1, h2, h3, h4, ac, ae, aF, al, C⟩ := (so [aK, af, ak, ai, ah, ag] b7).g9 h1 h2 h3 h4 ac ae aF al C
  exact .r 1 <| .d <| .r2 Tryz.func135 Tryz.results135 (.bx dA) (.t (.bool false)) ⟨⟨_, (tup2 rfl (congrArg Value.bool (by rw [addS_4 ‹_› ‹_› ‹_› ‹_›]))), (VS.of (y := s) ⟨_, rfl, ⟨_, _, _, _, _, _, _, _, _, _, _, _, rfl, h1.w1, h2.w1, h3.w1, h4.w1⟩⟩ (by rw [addS_4 ‹_› ‹_› ‹_› ‹_›]))⟩, C⟩
 refine .d <| .cf <| .sk <| .s <| .g <| .ln aF <| .sc [.slice bB ((((addR s.idx n).1).names).length) bC, .slice bD ((((addR s.idx n).1).posts).length) bE, .slice a3 s.parts.length c3, vS aK (0 + s.mem.length + 1) cq] W fun d4 b8 dC dD => ?_
 replace ⟨h3, ac, ae, al, C⟩ := (so [aK, af, ak, ai, ah, ag] b8).g5 h3 ac ae al C
 refine .r 1 <| .d ?_
 have d5 := al.sl (.inr dw)
 replace ⟨h3, ac, ae⟩ := (sd d4 [aK, af, ak, ai, ah, ag] aK).g3 h3 ac ae
 exact .r2 Tryz.func135 Tryz.results135 (.bx dC) (.t (.bool true)) ⟨⟨_, (tup2 rfl (congrArg Value.bool (by (rw [addS_5 ‹_› ‹_› ‹_› ‹_›] <;> rfl)))), (VS.of (y := (⟨(⟨((addR s.idx n).1).names, ((addR s.idx n).1).posts⟩ : Idx), s.parts, (([] ++ s.mem) ++ [(⟨(addR s.idx n).2.1, (⟨r.t, r.v⟩ : Row)⟩ : Smp)])⟩ : Sto)) ⟨_, rfl, ⟨_, _, _, _, _, _, _, _, _, _, _, _, rfl, ac.w1, ae.w1, h3.w1, d5.w1⟩⟩ (by (rw [addS_5 ‹_› ‹_› ‹_› ‹_›] <;> rfl)))⟩, C⟩
end Go.Proofs.YtganlmloonielaaGreat
namespace Go.Proofs.YtganlmloonielaaGreat
def copyS (s : Sto) : Sto := ⟨idxOf s.idx.names, s.parts, s.mem⟩
def tidyD (d : Dsk) : Dsk := ⟨d.files.filter (fun f => d.list.contains f.num), d.list, d.names, d.next⟩
def flushSt (d : Dsk) (s : Sto) : List Stp :=
 if s.mem.length = 0 ∨ d.list.length ≥ 6 ∨ d.next ≥ 999 ∨ d.files.length ≥ 20 then []
 else [⟨1, d.next, memPart s.mem, [], []⟩, ⟨2, 0, ⟨[], []⟩, d.list ++ [d.next], s.idx.names⟩]
theorem flushSt_no {d : Dsk} {s : Sto} (h : (s.mem.length : Int) = 0 ∨ (d.list.length : Int) ≥ 6 ∨ d.next ≥ 999 ∨ (d.files.length : Int) ≥ 20) : flushSt d s = [] := by unfold flushSt; rw [if_pos (by omega)]
theorem flushSt_yes {d : Dsk} {s : Sto} (h1 : (s.mem.length : Int) ≠ 0) (h2 : ¬ (d.list.length : Int) ≥ 6) (h3 : ¬ d.next ≥ 999) (h4 : ¬ (d.files.length : Int) ≥ 20) :
 flushSt d s = [⟨1, d.next, memPart s.mem, [], []⟩, ⟨2, 0, ⟨[], []⟩, d.list ++ [d.next], s.idx.names⟩] := by unfold flushSt; rw [if_neg (by omega)]
theorem appStep {α : Type} {l : List (List α)} {i : Nat} {k : List (List α)} {q : List α} (h : k ++ l.drop i = l) (hd : l.drop i = q :: l.drop (i + 1)) : (k ++ [[] ++ q]) ++ l.drop (i + 1) = l := by
 rw [hd] at h
 simpa using h
theorem copyStep {l : List Prt} {i : Nat} {k : List Prt} {q : Prt} {a : List Int} {b : List (List Row)} (h : k ++ l.drop i = l) (hd : l.drop i = q :: l.drop (i + 1)) (ha : a = q.ids) (hb : b = q.blocks) : (k ++ [⟨a, b⟩]) ++ l.drop (i + 1) = l := by
 subst ha hb
 rw [hd] at h
 simpa using h
end Go.Proofs.YtganlmloonielaaGreat
