/- walks; hints pruned; squeezed -/
import Derived.Test.YtfnpaglcnmcnbaaGreatOpnzMem
set_option linter.unusedVariables false
set_option linter.unusedSimpArgs false
namespace Go.Proofs.YtfnpaglcnmcnbaaGreat
set_option maxRecDepth 100000
set_option maxHeartbeats 4000000
theorem c_spec_NameOk (n : List Tag) {w : World} {F : Nat → Prop} {a1 : Option Addr} {n1 c1 : Nat} (h1 : RepS w F a1 n1 c1 n)  : Calls Tryz.prog 20 [.slice a1 n1 c1].toArray w (rets fun rv w' => rv = .bool (nameOk n) ∧ Ext w w') := by
 refine goT Tryz.func20 ?_
 obtain ⟨rfl, aw, h1⟩ := h1.tp
 refine .s <| .g <| .r 1 <| .d <| .s <| .s <| .g <| .r 1 <| .d <| .b 0 <| T.loop (X := Nat) 0 (fun i => [(0, .slice a1 n.length c1), (3, vI (i : Int))]) (fun i V => Chg (ins []) w V ∧ (i ≤ n.length) ∧ (nameF (prev n i) (n.drop i) = nameF none n)) (fun i => n.length - i) (by kernel_rfl) ⟨by kernel_rfl, by kernel_rfl, trivial⟩ ⟨Chg.refl _ _, (by simp [prev]), (by simp [prev])⟩ ?_
 rintro i aE V ⟨C, ax, ay⟩ J
 have ab : Mv [] [] w V := Mv.inl C all_nil all_nil
 replace h1 := (sp ab C).g1 h1
 have E : Chg nil w V := Chg.stepI (Chg.refl nil w) C all_nil
 clear ab
 refine .s <| .s <| .g <| .r 3 <| .bp ((i : Int) < (n.length : Int)) (fun ak => ?_) (fun ak => ?_)
 ·refine .d <| .ct <| .sk <| .s <| .b 1 <| .s <| .gd nil 21 fun aF ac => ?_
  replace ⟨h1, E, C⟩ := (se [] ac).g3 h1 E C
  clear ac
  refine .r [0, 1] ?_
  have al : i < n.length := (by omega)
  refine .ix 2 i 2 h1 al ?_
  obtain ⟨O, W⟩ : ∃ y, n[i]? = some y := ⟨_, List.getElem?_eq_getElem (by omega)⟩
  have az := drop_at W; have ar := List.mem_of_getElem? W
  obtain ⟨_, rfl, ae⟩ := h1.elem i O W
  refine .lg 3 0 ae id <| GA.call1 (i := 4) (by kernel_rfl) (fun av aA => c_spec_l3Tag O (w := av) (F := all)) ?_
  cases aB : (tagOk O)
  ·refine .r [5, 6, 7, 8, 9, 10, 11, 12, 13, 14, 15, 16, 17, 18, 19, 20] <| .d fun aG af => ?_
   replace ⟨h1, E, C⟩ := (se [] af).g3 h1 E C
   clear af
   exact .r 3 <| .d <| .ct <| .s <| .g <| .r 1 <| .d <| .rt Tryz.func20 Tryz.results20 (.bool false) ⟨(congrArg Value.bool (by grind [nameF, nameOk, prev, drop_end])), E⟩
  refine .r [5, 6, 7] <| GA.boolP (i := 8) ((i : Int) > 0) (by kernel_rfl) (fun am => ?_) (fun am => ?_)
  ·refine .r [9, 10, 11] <| GA.int (i := 12) ((i : Int) - 1) (by kernel_rfl) (by omega) ?_
   have ag : i - 1 < n.length := (by omega)
   refine GA.idx (i := 13) (i - 1) (len := n.length) (z := (i : Int) - 1) (sz := 2) (by kernel_rfl) (by omega) ag (h1.addr (Nat.zero_lt_of_lt ag)) <| .r [14] ?_
   obtain ⟨aa, Z⟩ : ∃ y, n[i - 1]? = some y := ⟨_, List.getElem?_eq_getElem (by omega)⟩
   have aC := drop_at Z; have au := List.mem_of_getElem? Z
   obtain ⟨_, rfl, ao⟩ := h1.elem (i - 1) aa Z
   refine .lh 15 0 ao id <| .r [16, 17] ?_
   have aq : i < n.length := (by omega)
   refine .ix 18 i 2 h1 aq <| .r [19] <| .lh 20 0 ae id <| .d fun aH ah => ?_
   replace ⟨E, C⟩ := (se [] ah).g2 E C
   clear ah
   refine RG.eqv (v := .bool (!(strLt aa.key O.key))) (by kernel_rfl) (s_ge aa.key O.key) ?_
   cases aD : (strLt aa.key O.key)
   ·exact .r 2 <| .d <| .ct <| .s <| .g <| .r 1 <| .d <| .rt Tryz.func20 Tryz.results20 (.bool false) ⟨(congrArg Value.bool (by grind [nameF, nameOk, prev, drop_end])), E⟩
   exact .r 2 <| .d <| .cf <| .sk <| .ib 1 <| .g <| .r 1 <| .it ((i : Int) + 1) <| .r 1 <| .d <| J (i + 1) _ _ ⟨by kernel_rfl, by kernel_rfl, trivial⟩ ⟨C, (by omega), (by grind [nameF, prev])⟩ (by omega)
  refine .r [9, 10, 11, 12, 13, 14, 15, 16, 17, 18, 19, 20] <| .d fun aI ai => ?_
  replace ⟨E, C⟩ := (se [] ai).g2 E C
  clear ai
  exact .r 3 <| .d <| .cf <| .sk <| .ib 1 <| .g <| .r 1 <| .it ((i : Int) + 1) <| .r 1 <| .d <| J (i + 1) _ _ ⟨by kernel_rfl, by kernel_rfl, trivial⟩ ⟨C, (by omega), (by grind [nameF, prev])⟩ (by omega)
 refine .d <| .cf <| .x 0 rfl <| .s <| .g <| .r 2 <| .cl (c_spec_l6In (n.length : Int) 1 3 (w := V) (F := all)) ?_
 rintro aJ aK ⟨rfl, aj⟩
 replace E := (se [] aj).g1 E
 clear aj
 exact .r 1 <| .d <| .rt Tryz.func20 Tryz.results20 (.bool (inR (n.length : Int) 1 3)) ⟨(congrArg Value.bool (by grind [nameF, nameOk, prev, drop_end])), E⟩
theorem c_impl_NameOk (n : List Tag) {w : World} {F : Nat → Prop} {a1 : Option Addr} {n1 c1 : Nat} (h1 : RepS w F a1 n1 c1 n)  : Calls Tryz.prog 61 [.slice a1 n1 c1].toArray w (rets fun rv w' => rv = .bool (nameOk n) ∧ Ext w w') := by
 refine goT Tryz.func61 ?_
 obtain ⟨rfl, aD, h1⟩ := h1.tp
 refine .s <| .g <| .r 1 <| .d <| .s <| .s <| .g <| .r 3 <| .d <| .b 0 <| T.loop (X := Nat) 0 (fun k => [(0, .slice a1 n.length c1), (5, .slice a1 n.length c1), (6, vI (n.length : Int)), (7, vI (k : Int))]) (fun k Z => Chg (ins []) w Z ∧ (k ≤ n.length) ∧ (nameF (prev n k) (n.drop k) = nameF none n)) (fun k => n.length - k) (by kernel_rfl) ⟨by kernel_rfl, by kernel_rfl, by kernel_rfl, by kernel_rfl, trivial⟩ ⟨Chg.refl _ _, (by simp [prev]), (by simp [prev])⟩ ?_
 rintro k aN Z ⟨C, aE, aF⟩ O
 have ae : Mv [] [] w Z := Mv.inl C all_nil all_nil
 replace h1 := (sp ae C).g1 h1
 have E : Chg nil w Z := Chg.stepI (Chg.refl nil w) C all_nil
 clear ae
 refine .s <| .g <| .bp ((k : Int) < (n.length : Int)) (fun aq => ?_) (fun aq => ?_)
 ·refine .d <| .s <| .ct <| .sk <| .s <| .b 1 <| .s <| .g <| .r 1 ?_
  have ar : k < n.length := (by omega)
  refine .ix k 2 h1 ar ?_
  obtain ⟨V, aa⟩ : ∃ y, n[k]? = some y := ⟨_, List.getElem?_eq_getElem (by omega)⟩
  have aG := drop_at aa; have aA := List.mem_of_getElem? aa
  obtain ⟨_, rfl, au⟩ := h1.elem k V aa
  refine .lg 0 au <| .np 112 [.string (bs []), .string (bs [])] fun ao aO W af av aw => ?_
  have aH := E.cn W
  have aI := C.cn W
  replace ⟨h1, E, C⟩ := (sn [] af W).g3 h1 E C
  clear af aw W
  refine .r 1 <| .sc [vT V.key, vT V.val] av fun aP ag J ax => ?_
  replace ⟨h1, E, C⟩ := (so [ao] ag).g3 h1 E C
  clear ag ax
  refine .d <| .s <| .gd nil 15 fun aQ ah => ?_
  replace ⟨h1, J, E, C⟩ := (se [ao] ah).g4 h1 J E C
  clear ah
  refine .ln 0 J id <| GA.call1 (i := 1) (by kernel_rfl) (fun aC aJ => c_impl_tagOk V (w := aC) (F := all)) ?_
  cases aK : (tagOk V)
  ·refine .r [2, 3, 4, 5, 6, 7, 8, 9, 10, 11, 12, 13, 14] <| .d fun aR ai => ?_
   replace ⟨h1, J, E, C⟩ := (se [ao] ai).g4 h1 J E C
   clear ai
   exact .r 3 <| .d <| .ct <| .s <| .g <| .r 1 <| .d <| .rt Tryz.func61 Tryz.results61 (.bool false) ⟨(congrArg Value.bool (by grind [nameF, nameOk, prev, drop_end])), E⟩
  refine .r [2, 3, 4] <| GA.boolP (i := 5) ((k : Int) > 0) (by kernel_rfl) (fun ay => ?_) (fun ay => ?_)
  ·refine .r [6, 7, 8] <| GA.int (i := 9) ((k : Int) - 1) (by kernel_rfl) (by omega) ?_
   have aj : k - 1 < n.length := (by omega)
   refine GA.idx (i := 10) (k - 1) (len := n.length) (z := (k : Int) - 1) (sz := 2) (by kernel_rfl) (by omega) aj (h1.addr (Nat.zero_lt_of_lt aj)) <| .r [11] ?_
   obtain ⟨ac, ab⟩ : ∃ y, n[k - 1]? = some y := ⟨_, List.getElem?_eq_getElem (by omega)⟩
   have aL := drop_at ab; have aB := List.mem_of_getElem? ab
   obtain ⟨_, rfl, az⟩ := h1.elem (k - 1) ac ab
   refine .lh 12 0 az id <| .r [13] <| .lb 14 J id <| .d fun aS ak => ?_
   replace ⟨E, C⟩ := (se [] ak).g2 E C
   clear ak
   refine RG.eqv (v := .bool (!(strLt ac.key V.key))) (by kernel_rfl) (s_ge ac.key V.key) ?_
   cases aM : (strLt ac.key V.key)
   ·exact .r 2 <| .d <| .ct <| .s <| .g <| .r 1 <| .d <| .rt Tryz.func61 Tryz.results61 (.bool false) ⟨(congrArg Value.bool (by grind [nameF, nameOk, prev, drop_end])), E⟩
   exact .r 2 <| .d <| .cf <| .sk <| .ib 1 <| .g <| .it ((k : Int) + 1) <| .r 1 <| .d <| O (k + 1) _ _ ⟨by kernel_rfl, by kernel_rfl, by kernel_rfl, by kernel_rfl, trivial⟩ ⟨C, (by omega), (by grind [nameF, prev])⟩ (by omega)
  refine .r [6, 7, 8, 9, 10, 11, 12, 13, 14] <| .d fun aT al => ?_
  replace ⟨E, C⟩ := (se [] al).g2 E C
  clear al
  exact .r 3 <| .d <| .cf <| .sk <| .ib 1 <| .g <| .it ((k : Int) + 1) <| .r 1 <| .d <| O (k + 1) _ _ ⟨by kernel_rfl, by kernel_rfl, by kernel_rfl, by kernel_rfl, trivial⟩ ⟨C, (by omega), (by grind [nameF, prev])⟩ (by omega)
 refine .d <| .s <| .cf <| .x 0 rfl <| .s <| .g <| .r 2 <| .cl (c_impl_within (n.length : Int) 1 3 (w := Z) (F := all)) ?_
 rintro aU aV ⟨rfl, am⟩
 replace E := (se [] am).g1 E
 clear am
 exact .r 1 <| .d <| .rt Tryz.func61 Tryz.results61 (.bool (inR (n.length : Int) 1 3)) ⟨(congrArg Value.bool (by grind [nameF, nameOk, prev, drop_end])), E⟩
theorem c_spec_BlockOk (b : List Row) {w : World} {F : Nat → Prop} {a1 : Option Addr} {n1 c1 : Nat} (h1 : RepS w F a1 n1 c1 b)  : Calls Tryz.prog 146 [.slice a1 n1 c1].toArray w (rets fun rv w' => rv = .bool (blockOk b) ∧ Ext w w') := by
 refine goT Tryz.func146 ?_
 obtain ⟨rfl, aw, h1⟩ := h1.tp
 refine .s <| .g <| .r 1 <| .d <| .s <| .s <| .g <| .r 1 <| .d <| .b 0 <| T.loop (X := Nat) 0 (fun i => [(0, .slice a1 b.length c1), (3, vI (i : Int))]) (fun i W => Chg (ins []) w W ∧ (i ≤ b.length) ∧ (blockF (prev b i) (b.drop i) = blockF none b)) (fun i => b.length - i) (by kernel_rfl) ⟨by kernel_rfl, by kernel_rfl, trivial⟩ ⟨Chg.refl _ _, (by simp [prev]), (by simp [prev])⟩ ?_
 rintro i aD W ⟨C, ax, ay⟩ J
 have aa : Mv [] [] w W := Mv.inl C all_nil all_nil
 replace h1 := (sp aa C).g1 h1
 have E : Chg nil w W := Chg.stepI (Chg.refl nil w) C all_nil
 clear aa
 refine .s <| .s <| .g <| .r 3 <| .bp ((i : Int) < (b.length : Int)) (fun ai => ?_) (fun ai => .d <| .cf <| .x 0 rfl <| .s <| .g <| .r 4 <| .d <| .rt Tryz.func146 Tryz.results146 (.bool (decide ((b.length : Int) ≤ 24))) ⟨(congrArg Value.bool (by grind [blockF, blockOk, prev, drop_end])), E⟩)
 refine .d <| .ct <| .sk <| .s <| .b 1 <| .s <| .gd nil 21 fun aE ab => ?_
 replace ⟨h1, E, C⟩ := (se [] ab).g3 h1 E C
 clear ab
 refine .r [0, 1] ?_
 have aj : i < b.length := (by omega)
 refine .ix 2 i 2 h1 aj ?_
 obtain ⟨Z, O⟩ : ∃ y, b[i]? = some y := ⟨_, List.getElem?_eq_getElem (by omega)⟩
 have az := drop_at O; have ar := List.mem_of_getElem? O
 obtain ⟨_, rfl, ac⟩ := h1.elem i Z O
 refine .lg 3 0 ac id <| GA.call1 (i := 4) (by kernel_rfl) (fun av aA => c_spec_l2Row Z (w := av) (F := all)) ?_
 cases aB : (rowOk Z)
 ·refine .r [5, 6, 7, 8, 9, 10, 11, 12, 13, 14, 15, 16, 17, 18, 19, 20] <| .d fun aF ae => ?_
  replace ⟨h1, E, C⟩ := (se [] ae).g3 h1 E C
  clear ae
  exact .r 3 <| .d <| .ct <| .s <| .g <| .r 1 <| .d <| .rt Tryz.func146 Tryz.results146 (.bool false) ⟨(congrArg Value.bool (by grind [blockF, blockOk, prev, drop_end])), E⟩
 refine .r [5, 6, 7] <| GA.boolP (i := 8) ((i : Int) > 0) (by kernel_rfl) (fun ak => ?_) (fun ak => ?_)
 ·refine .r [9, 10, 11] <| GA.int (i := 12) ((i : Int) - 1) (by kernel_rfl) (by omega) ?_
  have af : i - 1 < b.length := (by omega)
  refine GA.idx (i := 13) (i - 1) (len := b.length) (z := (i : Int) - 1) (sz := 2) (by kernel_rfl) (by omega) af (h1.addr (Nat.zero_lt_of_lt af)) <| .r [14] ?_
  obtain ⟨al, V⟩ : ∃ y, b[i - 1]? = some y := ⟨_, List.getElem?_eq_getElem (by omega)⟩
  have aC := drop_at V; have au := List.mem_of_getElem? V
  obtain ⟨_, rfl, am⟩ := h1.elem (i - 1) al V
  refine .lh 15 0 am id <| .r [16, 17] ?_
  have ao : i < b.length := (by omega)
  refine .ix 18 i 2 h1 ao <| .r [19] <| .lh 20 0 ac id <| .d fun aG ag => ?_
  replace ⟨E, C⟩ := (se [] ag).g2 E C
  clear ag
  exact .bp (al.t ≥ Z.t) (fun aq => .r 2 <| .d <| .ct <| .s <| .g <| .r 1 <| .d <| .rt Tryz.func146 Tryz.results146 (.bool false) ⟨(congrArg Value.bool (by grind [blockF, blockOk, prev, drop_end])), E⟩) fun aq => .r 2 <| .d <| .cf <| .sk <| .ib 1 <| .g <| .r 1 <| .it ((i : Int) + 1) <| .r 1 <| .d <| J (i + 1) _ _ ⟨by kernel_rfl, by kernel_rfl, trivial⟩ ⟨C, (by omega), (by grind [blockF, prev])⟩ (by omega)
 refine .r [9, 10, 11, 12, 13, 14, 15, 16, 17, 18, 19, 20] <| .d fun aH ah => ?_
 replace ⟨E, C⟩ := (se [] ah).g2 E C
 clear ah
 exact .r 3 <| .d <| .cf <| .sk <| .ib 1 <| .g <| .r 1 <| .it ((i : Int) + 1) <| .r 1 <| .d <| J (i + 1) _ _ ⟨by kernel_rfl, by kernel_rfl, trivial⟩ ⟨C, (by omega), (by grind [blockF, prev])⟩ (by omega)
theorem c_impl_BlockOk (b : List Row) {w : World} {F : Nat → Prop} {a1 : Option Addr} {n1 c1 : Nat} (h1 : RepS w F a1 n1 c1 b)  : Calls Tryz.prog 21 [.slice a1 n1 c1].toArray w (rets fun rv w' => rv = .bool (blockOk b) ∧ Ext w w') := by
 refine goT Tryz.func21 ?_
 obtain ⟨rfl, aD, h1⟩ := h1.tp
 refine .s <| .g <| .r 1 <| .d <| .s <| .s <| .g <| .r 3 <| .d <| .b 0 <| T.loop (X := Nat) 0 (fun k => [(0, .slice a1 b.length c1), (5, .slice a1 b.length c1), (6, vI (b.length : Int)), (7, vI (k : Int))]) (fun k ab => Chg (ins []) w ab ∧ (k ≤ b.length) ∧ (blockF (prev b k) (b.drop k) = blockF none b)) (fun k => b.length - k) (by kernel_rfl) ⟨by kernel_rfl, by kernel_rfl, by kernel_rfl, by kernel_rfl, trivial⟩ ⟨Chg.refl _ _, (by simp [prev]), (by simp [prev])⟩ ?_
 rintro k aM ab ⟨C, aE, aF⟩ O
 have ac : Mv [] [] w ab := Mv.inl C all_nil all_nil
 replace h1 := (sp ac C).g1 h1
 have E : Chg nil w ab := Chg.stepI (Chg.refl nil w) C all_nil
 clear ac
 refine .s <| .g <| .bp ((k : Int) < (b.length : Int)) (fun am => ?_) (fun am => .d <| .s <| .cf <| .x 0 rfl <| .s <| .g <| .r 4 <| .d <| .rt Tryz.func21 Tryz.results21 (.bool (decide ((b.length : Int) ≤ 24))) ⟨(congrArg Value.bool (by grind [blockF, blockOk, prev, drop_end])), E⟩)
 refine .d <| .s <| .ct <| .sk <| .s <| .b 1 <| .s <| .g <| .r 1 ?_
 have ao : k < b.length := (by omega)
 refine .ix k 2 h1 ao ?_
 obtain ⟨W, Z⟩ : ∃ y, b[k]? = some y := ⟨_, List.getElem?_eq_getElem (by omega)⟩
 have aG := drop_at Z; have aA := List.mem_of_getElem? Z
 obtain ⟨_, rfl, aq⟩ := h1.elem k W Z
 refine .lg 0 aq <| .np 33 [vI 0, vI 0] fun al aN V ae ar au => ?_
 have aH := E.cn V
 have aI := C.cn V
 replace ⟨h1, E, C⟩ := (sn [] ae V).g3 h1 E C
 clear ae au V
 refine .r 1 <| .sc [vI W.t, vI W.v] ar fun aO af J av => ?_
 replace ⟨h1, E, C⟩ := (so [al] af).g3 h1 E C
 clear af av
 refine .d <| .s <| .gd nil 15 fun aP ag => ?_
 replace ⟨h1, J, E, C⟩ := (se [al] ag).g4 h1 J E C
 clear ag
 refine .ln 0 J id <| GA.call1 (i := 1) (by kernel_rfl) (fun aC aJ => c_impl_rowOk W (w := aC) (F := all)) ?_
 cases aK : (rowOk W)
 ·refine .r [2, 3, 4, 5, 6, 7, 8, 9, 10, 11, 12, 13, 14] <| .d fun aQ ah => ?_
  replace ⟨h1, J, E, C⟩ := (se [al] ah).g4 h1 J E C
  clear ah
  exact .r 3 <| .d <| .ct <| .s <| .g <| .r 1 <| .d <| .rt Tryz.func21 Tryz.results21 (.bool false) ⟨(congrArg Value.bool (by grind [blockF, blockOk, prev, drop_end])), E⟩
 refine .r [2, 3, 4] <| GA.boolP (i := 5) ((k : Int) > 0) (by kernel_rfl) (fun aw => ?_) (fun aw => ?_)
 ·refine .r [6, 7, 8] <| GA.int (i := 9) ((k : Int) - 1) (by kernel_rfl) (by omega) ?_
  have ai : k - 1 < b.length := (by omega)
  refine GA.idx (i := 10) (k - 1) (len := b.length) (z := (k : Int) - 1) (sz := 2) (by kernel_rfl) (by omega) ai (h1.addr (Nat.zero_lt_of_lt ai)) <| .r [11] ?_
  obtain ⟨ax, aa⟩ : ∃ y, b[k - 1]? = some y := ⟨_, List.getElem?_eq_getElem (by omega)⟩
  have aL := drop_at aa; have aB := List.mem_of_getElem? aa
  obtain ⟨_, rfl, ay⟩ := h1.elem (k - 1) ax aa
  refine .lh 12 0 ay id <| .r [13] <| .lb 14 J id <| .d fun aR aj => ?_
  replace ⟨E, C⟩ := (se [] aj).g2 E C
  clear aj
  exact .bp (ax.t ≥ W.t) (fun az => .r 2 <| .d <| .ct <| .s <| .g <| .r 1 <| .d <| .rt Tryz.func21 Tryz.results21 (.bool false) ⟨(congrArg Value.bool (by grind [blockF, blockOk, prev, drop_end])), E⟩) fun az => .r 2 <| .d <| .cf <| .sk <| .ib 1 <| .g <| .it ((k : Int) + 1) <| .r 1 <| .d <| O (k + 1) _ _ ⟨by kernel_rfl, by kernel_rfl, by kernel_rfl, by kernel_rfl, trivial⟩ ⟨C, (by omega), (by grind [blockF, prev])⟩ (by omega)
 refine .r [6, 7, 8, 9, 10, 11, 12, 13, 14] <| .d fun aS ak => ?_
 replace ⟨E, C⟩ := (se [] ak).g2 E C
 clear ak
 exact .r 3 <| .d <| .cf <| .sk <| .ib 1 <| .g <| .it ((k : Int) + 1) <| .r 1 <| .d <| O (k + 1) _ _ ⟨by kernel_rfl, by kernel_rfl, by kernel_rfl, by kernel_rfl, trivial⟩ ⟨C, (by omega), (by grind [blockF, prev])⟩ (by omega)
theorem c_spec_PartOk (p : Prt) {w : World} {F : Nat → Prop} {a1 : Option Addr} {n1 c1 : Nat} (h1 : RepS w F a1 n1 c1 p.ids) {a2 : Option Addr} {n2 c2 : Nat} (h2 : RepS w F a2 n2 c2 p.blocks)  : Calls Tryz.prog 95 [.agg #[.slice a1 n1 c1, .slice a2 n2 c2]].toArray w (rets fun rv w' => rv = .bool (partOk p) ∧ Ext w w') := by
 refine goT Tryz.func95 ?_
 obtain ⟨rfl, bq, h1⟩ := h1.tp
 obtain ⟨rfl, br, h2⟩ := h2.tp
 refine .s <| .g <| .np 75 [.slice a1 p.ids.length c1, .slice a2 p.blocks.length c2] fun O aH ak aa E aI => ?_
 replace ⟨h1, h2⟩ := (sn [] aa ak).g2 h1 h2
 have C := aa
 clear aa aI ak
 refine .r 1 <| .d <| .s <| .s <| .g <| .r 1 <| .lb E <| .r 2 <| .lb E <| .r 1 <| .ne (p.ids.length : Int) (p.blocks.length : Int) (fun aJ => .d <| .ct <| .s <| .g <| .r 1 <| .d <| .rt Tryz.func95 Tryz.results95 (.bool false) ⟨(congrArg Value.bool (by grind [partG, partOk, prev, drop_end])), C⟩) fun aJ => .d <| .cf <| .sk <| .s <| .s <| .g <| .r 1 <| .d <| .b 0 <| T.loop (X := Nat) 0 (fun i => [(1, .pointer (some ⟨O, 0, none⟩)), (3, vI (i : Int))]) (fun i aB => Chg (ins []) aH aB ∧ (i ≤ p.ids.length) ∧ (partG (prev p.ids i) (p.ids.drop i) (p.blocks.drop i) = partG none p.ids p.blocks)) (fun i => p.ids.length - i) (by kernel_rfl) ⟨by kernel_rfl, by kernel_rfl, trivial⟩ ⟨Chg.refl _ _, (by simp [prev]), (by simp [prev])⟩ ?_
 rintro i bP aB ⟨J, bt, bu⟩ V
 have al : Mv [O] [O] aH aB := Mv.inl J all_nil (all_cons (.inl (.head _)) all_nil)
 replace ⟨h1, h2, E, C⟩ := (sp al J).g4 h1 h2 E C
 clear al
 refine .s <| .s <| .g <| .r 2 <| .lb E <| .r 1 <| .bp ((i : Int) < (p.ids.length : Int)) (fun aK => ?_) (fun aK => .d <| .cf <| .x 0 rfl <| .s <| .g <| .r 1 <| .d <| .rt Tryz.func95 Tryz.results95 (.bool true) ⟨(congrArg Value.bool (by grind [partG, partOk, prev, drop_end])), C⟩)
 refine .d <| .ct <| .sk <| .s <| .b 1 <| .s <| .gd nil 38 fun bQ am => ?_
 replace ⟨h1, h2, E, C, J⟩ := (se [O] am).g5 h1 h2 E C J
 clear am
 refine .r [0] <| .lb 1 E id <| .r [2] ?_
 have aL : i < p.ids.length := (by omega)
 refine .ix 3 i 1 h1 aL ?_
 obtain ⟨aj, ab⟩ : ∃ y, p.ids[i]? = some y := ⟨_, List.getElem?_eq_getElem (by omega)⟩
 have bv := drop_at ab; have bg := List.mem_of_getElem? ab
 obtain ⟨_, rfl, ao⟩ := h1.elem i aj ab
 refine .lh 4 0 ao id <| GA.call1 (i := 5) (by kernel_rfl) (fun bk bw => c_spec_l6In aj 1 6 (w := bk) (F := all)) ?_
 cases aq : (inR aj 1 6)
 ·have bz := inR_f aq
  refine .r [6, 7, 8, 9, 10, 11, 12, 13, 14, 15, 16, 17, 18, 19, 20, 21, 22, 23, 24, 25, 26, 27, 28, 29, 30, 31, 32, 33, 34, 35, 36, 37] <| .d fun bR ar => ?_
  replace ⟨h1, h2, E, C, J⟩ := (se [O] ar).g5 h1 h2 E C J
  clear ar
  exact .r 5 <| .d <| .ct <| .s <| .g <| .r 1 <| .d <| .rt Tryz.func95 Tryz.results95 (.bool false) ⟨(congrArg Value.bool (by (have hdd := List.drop_eq_getElem_cons (l := p.blocks) (i := i) (by omega); grind [partG, partOk, prev, drop_end]))), C⟩
 have bA := inR_t aq
 refine .r [6, 7, 8] <| GA.boolP (i := 9) ((i : Int) > 0) (by kernel_rfl) (fun aM => ?_) (fun aM => ?_)
 ·refine .r [10, 11] <| .lb 12 E id <| .r [13] <| GA.int (i := 14) ((i : Int) - 1) (by kernel_rfl) (by omega) ?_
  have au : i - 1 < p.ids.length := (by omega)
  refine GA.idx (i := 15) (i - 1) (len := p.ids.length) (z := (i : Int) - 1) (sz := 1) (by kernel_rfl) (by omega) au (h1.addr (Nat.zero_lt_of_lt au)) ?_
  obtain ⟨aN, ac⟩ : ∃ y, p.ids[i - 1]? = some y := ⟨_, List.getElem?_eq_getElem (by omega)⟩
  have bB := drop_at ac; have bh := List.mem_of_getElem? ac
  obtain ⟨_, rfl, aO⟩ := h1.elem (i - 1) aN ac
  refine .lh 16 0 aO id <| .r [17] <| .lb 18 E id <| .r [19] ?_
  have aP : i < p.ids.length := (by omega)
  refine .ix 20 i 1 h1 aP <| .lh 21 0 ao id <| GA.boolP (i := 22) (aN ≥ aj) (by kernel_rfl) (fun aQ => ?_) (fun aQ => ?_)
  ·refine .r [23, 24, 25, 26, 27, 28, 29, 30, 31, 32, 33, 34, 35, 36, 37] <| .d fun bS av => ?_
   replace ⟨h2, E, C, J⟩ := (se [O] av).g4 h2 E C J
   clear av
   exact .r 5 <| .d <| .ct <| .s <| .g <| .r 1 <| .d <| .rt Tryz.func95 Tryz.results95 (.bool false) ⟨(congrArg Value.bool (by (have hdd := List.drop_eq_getElem_cons (l := p.blocks) (i := i) (by omega); grind [partG, partOk, prev, drop_end]))), C⟩
  refine .r [23, 24, 25, 26] <| .lb 27 E id <| .r [28] ?_
  have aR : i < p.blocks.length := (by omega)
  refine .ix 29 i 1 h2 aR ?_
  obtain ⟨ae, W⟩ : ∃ y, p.blocks[i]? = some y := ⟨_, List.getElem?_eq_getElem (by omega)⟩
  have bC := drop_at W; have bi := List.mem_of_getElem? W
  obtain ⟨_, ⟨bT, bU, bV, rfl, aS⟩, aT⟩ := h2.elem i ae W
  have aU := aS.len
  subst aU
  have bD := aS.max
  refine .lh 30 0 aT id <| .r [31] <| GA.eqI (i := 32) (a := (ae.length : Int)) (b := 0) (by kernel_rfl) (fun aV => ?_) (fun aV => ?_)
  ·refine .r [33, 34, 35, 36, 37] <| .d fun bW aw => ?_
   replace ⟨h2, E, C, J⟩ := (se [O] aw).g4 h2 E C J
   clear aw
   exact .r 5 <| .d <| .ct <| .s <| .g <| .r 1 <| .d <| .rt Tryz.func95 Tryz.results95 (.bool false) ⟨(congrArg Value.bool (by grind [partG, partOk, prev, drop_end])), C⟩
  refine .r [33, 34, 35] <| .lb 36 E id <| .r [37] <| .d fun bm ax => ?_
  replace ⟨h2, E, C, J⟩ := (se [O] ax).g4 h2 E C J
  clear ax
  have aW : i < p.blocks.length := (by omega)
  refine .ix i 1 h2 aW ?_
  obtain ⟨_, ⟨bX, bY, bZ, rfl, aX⟩, aY⟩ := h2.elem i ae W
  have aZ := aX.len
  subst aZ
  refine .lh 0 aY <| .cl (c_spec_BlockOk ae aX.ta (w := bm) (F := all)) ?_
  rintro b0 b6 ⟨rfl, ay⟩
  replace ⟨h2, E, C, J⟩ := (se [O] ay).g4 h2 E C J
  clear ay
  cases bE : (blockOk ae)
  ·exact .r 2 <| .d <| .ct <| .s <| .g <| .r 1 <| .d <| .rt Tryz.func95 Tryz.results95 (.bool false) ⟨(congrArg Value.bool (by grind [partG, partOk, prev, drop_end])), C⟩
  exact .r 2 <| .d <| .cf <| .sk <| .ib 1 <| .g <| .r 1 <| .it ((i : Int) + 1) <| .r 1 <| .d <| V (i + 1) _ _ ⟨by kernel_rfl, by kernel_rfl, trivial⟩ ⟨J, (by omega), (by grind [partG, prev])⟩ (by omega)
 refine .r [10, 11, 12, 13, 14, 15, 16, 17, 18, 19, 20, 21, 22, 23, 24, 25, 26] <| .lb 27 E id <| .r [28] ?_
 have ba : i < p.blocks.length := (by omega)
 refine .ix 29 i 1 h2 ba ?_
 obtain ⟨af, Z⟩ : ∃ y, p.blocks[i]? = some y := ⟨_, List.getElem?_eq_getElem (by omega)⟩
 have bF := drop_at Z; have bj := List.mem_of_getElem? Z
 obtain ⟨_, ⟨bG, bH, bI, rfl, az⟩, bc⟩ := h2.elem i af Z
 have aC := az.len
 subst aC
 have bn := az.max
 refine .lh 30 0 bc id <| .r [31] <| GA.eqI (i := 32) (a := (af.length : Int)) (b := 0) (by kernel_rfl) (fun aD => ?_) (fun aD => ?_)
 ·refine .r [33, 34, 35, 36, 37] <| .d fun bJ ag => ?_
  replace ⟨h2, E, C, J⟩ := (se [O] ag).g4 h2 E C J
  clear ag
  exact .r 5 <| .d <| .ct <| .s <| .g <| .r 1 <| .d <| .rt Tryz.func95 Tryz.results95 (.bool false) ⟨(congrArg Value.bool (by grind [partG, partOk, prev, drop_end])), C⟩
 refine .r [33, 34, 35] <| .lb 36 E id <| .r [37] <| .d fun bd ah => ?_
 replace ⟨h2, C, J⟩ := (se [O] ah).g3 h2 C J
 clear ah
 have aE : i < p.blocks.length := (by omega)
 refine .ix i 1 h2 aE ?_
 obtain ⟨_, ⟨bK, bL, bM, rfl, aA⟩, aF⟩ := h2.elem i af Z
 have aG := aA.len
 subst aG
 refine .lh 0 aF <| .cl (c_spec_BlockOk af aA.ta (w := bd) (F := all)) ?_
 rintro bN bO ⟨rfl, ai⟩
 replace ⟨C, J⟩ := (se [] ai).g2 C J
 clear ai
 cases bo : (blockOk af)
 ·exact .r 2 <| .d <| .ct <| .s <| .g <| .r 1 <| .d <| .rt Tryz.func95 Tryz.results95 (.bool false) ⟨(congrArg Value.bool (by grind [partG, partOk, prev, drop_end])), C⟩
 exact .r 2 <| .d <| .cf <| .sk <| .ib 1 <| .g <| .r 1 <| .it ((i : Int) + 1) <| .r 1 <| .d <| V (i + 1) _ _ ⟨by kernel_rfl, by kernel_rfl, trivial⟩ ⟨J, (by omega), (by grind [partG, prev])⟩ (by omega)
theorem c_impl_PartOk (p : Prt) {w : World} {F : Nat → Prop} {a1 : Option Addr} {n1 c1 : Nat} (h1 : RepS w F a1 n1 c1 p.ids) {a2 : Option Addr} {n2 c2 : Nat} (h2 : RepS w F a2 n2 c2 p.blocks)  : Calls Tryz.prog 77 [.agg #[.slice a1 n1 c1, .slice a2 n2 c2]].toArray w (rets fun rv w' => rv = .bool (partOk p) ∧ Ext w w') := by
 refine goT Tryz.func77 ?_
 obtain ⟨rfl, ba, h1⟩ := h1.tp
 obtain ⟨rfl, bc, h2⟩ := h2.tp
 refine .s <| .g <| .np 75 [.slice a1 p.ids.length c1, .slice a2 p.blocks.length c2] fun Z ax ai aa C ay => ?_
 replace ⟨h1, h2⟩ := (sn [] aa ai).g2 h1 h2
 have E := aa
 clear aa ay ai
 refine .r 1 <| .d <| .s <| .s <| .g <| .r 1 <| .lb C <| .r 2 <| .lb C <| .r 1 <| .ne (p.ids.length : Int) (p.blocks.length : Int) (fun az => .d <| .ct <| .s <| .g <| .r 1 <| .d <| .rt Tryz.func77 Tryz.results77 (.bool false) ⟨(congrArg Value.bool (by grind [partG, partOk, prev, drop_end])), E⟩) fun az => .d <| .cf <| .sk <| .s <| .s <| .g <| .r 1 <| .lb C <| .r 2 <| .d <| .b 0 <| T.loop (X := Nat) 0 (fun k => [(1, .pointer (some ⟨Z, 0, none⟩)), (13, .slice a1 p.ids.length c1), (14, vI (p.ids.length : Int)), (15, vI (k : Int))]) (fun k ag => Chg (ins []) ax ag ∧ (k ≤ p.ids.length) ∧ (partG (prev p.ids k) (p.ids.drop k) (p.blocks.drop k) = partG none p.ids p.blocks)) (fun k => p.ids.length - k) (by kernel_rfl) ⟨by kernel_rfl, by kernel_rfl, by kernel_rfl, by kernel_rfl, trivial⟩ ⟨Chg.refl _ _, (by simp [prev]), (by simp [prev])⟩ ?_
 rintro k bw ag ⟨J, bd, bg⟩ O
 have aj : Mv [Z] [Z] ax ag := Mv.inl J all_nil (all_cons (.inl (.head _)) all_nil)
 replace ⟨h1, h2, C, E⟩ := (sp aj J).g4 h1 h2 C E
 clear aj
 refine .s <| .g <| .bp ((k : Int) < (p.ids.length : Int)) (fun aA => ?_) (fun aA => .d <| .s <| .cf <| .x 0 rfl <| .s <| .g <| .r 1 <| .d <| .rt Tryz.func77 Tryz.results77 (.bool true) ⟨(congrArg Value.bool (by grind [partG, partOk, prev, drop_end])), E⟩)
 refine .d <| .s <| .ct <| .sk <| .s <| .b 1 <| .s <| .g <| .r 1 ?_
 have aB : k < p.ids.length := (by omega)
 refine .ix k 1 h1 aB ?_
 obtain ⟨ah, ab⟩ : ∃ y, p.ids[k]? = some y := ⟨_, List.getElem?_eq_getElem (by omega)⟩
 have bh := drop_at ab; have aV := List.mem_of_getElem? ab
 obtain ⟨_, rfl, aC⟩ := h1.elem k ah ab
 refine .lh 0 aC <| .r 2 <| .d <| .s <| .g <| .r 1 <| .cl (c_impl_within ah 1 6 (w := ag) (F := all)) ?_
 rintro bz aD ⟨rfl, ak⟩
 replace ⟨h1, h2, C, E, J⟩ := (se [Z] ak).g5 h1 h2 C E J
 clear ak
 cases al : (inR ah 1 6)
 ·have bi := inR_f al
  exact .r 33 <| .d <| .ct <| .s <| .g <| .r 1 <| .d <| .rt Tryz.func77 Tryz.results77 (.bool false) ⟨(congrArg Value.bool (by (have hdd := List.drop_eq_getElem_cons (l := p.blocks) (i := k) (by omega); grind [partG, partOk, prev, drop_end]))), E⟩
 have bj := inR_t al
 refine .r 3 <| .bp ((k : Int) > 0) (fun aE => ?_) (fun aE => ?_)
 ·refine .r 2 <| .lb C <| .r 1 <| .it ((k : Int) - 1) ?_
  have am : k - 1 < p.ids.length := (by omega)
  refine RG.idx (k - 1) (len := p.ids.length) (i := (k : Int) - 1) (sz := 1) (by kernel_rfl) (by omega) am (h1.addr (Nat.zero_lt_of_lt am)) ?_
  obtain ⟨aF, ac⟩ : ∃ y, p.ids[k - 1]? = some y := ⟨_, List.getElem?_eq_getElem (by omega)⟩
  have bk := drop_at ac; have aW := List.mem_of_getElem? ac
  obtain ⟨_, rfl, aG⟩ := h1.elem (k - 1) aF ac
  refine .lh 0 aG <| .r 1 <| .bp (aF ≥ ah) (fun aH => .r 20 <| .d <| .ct <| .s <| .g <| .r 1 <| .d <| .rt Tryz.func77 Tryz.results77 (.bool false) ⟨(congrArg Value.bool (by (have hdd := List.drop_eq_getElem_cons (l := p.blocks) (i := k) (by omega); grind [partG, partOk, prev, drop_end]))), E⟩) fun aH => .r 4 <| .lb C <| .r 1 ?_
  have aI : k < p.blocks.length := (by omega)
  refine .ix k 1 h2 aI ?_
  obtain ⟨ae, V⟩ : ∃ y, p.blocks[k]? = some y := ⟨_, List.getElem?_eq_getElem (by omega)⟩
  have bm := drop_at V; have aX := List.mem_of_getElem? V
  obtain ⟨_, ⟨bA, bB, bC, rfl, ar⟩, aJ⟩ := h2.elem k ae V
  have aK := ar.len
  subst aK
  have bn := ar.max
  refine .lh 0 aJ <| .cl (c_impl_BlockOk ae ar.ta (w := aD) (F := all)) ?_
  rintro bD bE ⟨rfl, ao⟩
  replace ⟨h2, C, E, J⟩ := (se [Z] ao).g4 h2 C E J
  clear ao
  cases bo : (blockOk ae)
  ·exact .r 11 <| .d <| .ct <| .s <| .g <| .r 1 <| .d <| .rt Tryz.func77 Tryz.results77 (.bool false) ⟨(congrArg Value.bool (by grind [partG, partOk, prev, drop_end])), E⟩
  refine .r 4 <| .lb C <| .r 1 ?_
  have aL : k < p.blocks.length := (by omega)
  refine .ix k 1 h2 aL ?_
  obtain ⟨_, ⟨bF, bG, bH, rfl, aZ⟩, aM⟩ := h2.elem k ae V
  have aN := aZ.len
  subst aN
  exact .lh 0 aM <| .r 1 <| .eq (ae.length : Int) 0 (fun aO => .r 1 <| .d <| .ct <| .s <| .g <| .r 1 <| .d <| .rt Tryz.func77 Tryz.results77 (.bool false) ⟨(congrArg Value.bool (by grind [partG, partOk, prev, drop_end])), E⟩) fun aO => .r 1 <| .d <| .cf <| .sk <| .ib 1 <| .g <| .it ((k : Int) + 1) <| .r 1 <| .d <| O (k + 1) _ _ ⟨by kernel_rfl, by kernel_rfl, by kernel_rfl, by kernel_rfl, trivial⟩ ⟨J, (by omega), (by grind [partG, prev])⟩ (by omega)
 refine .r 13 <| .lb C <| .r 1 ?_
 have aP : k < p.blocks.length := (by omega)
 refine .ix k 1 h2 aP ?_
 obtain ⟨af, W⟩ : ∃ y, p.blocks[k]? = some y := ⟨_, List.getElem?_eq_getElem (by omega)⟩
 have bq := drop_at W; have aY := List.mem_of_getElem? W
 obtain ⟨_, ⟨bI, bJ, bK, rfl, au⟩, aQ⟩ := h2.elem k af W
 have aR := au.len
 subst aR
 have br := au.max
 refine .lh 0 aQ <| .cl (c_impl_BlockOk af au.ta (w := aD) (F := all)) ?_
 rintro bL bM ⟨rfl, aq⟩
 replace ⟨h2, C, E, J⟩ := (se [Z] aq).g4 h2 C E J
 clear aq
 cases bt : (blockOk af)
 ·exact .r 11 <| .d <| .ct <| .s <| .g <| .r 1 <| .d <| .rt Tryz.func77 Tryz.results77 (.bool false) ⟨(congrArg Value.bool (by grind [partG, partOk, prev, drop_end])), E⟩
 refine .r 4 <| .lb C <| .r 1 ?_
 have aS : k < p.blocks.length := (by omega)
 refine .ix k 1 h2 aS ?_
 obtain ⟨_, ⟨bN, bu, bv, rfl, aT⟩, aU⟩ := h2.elem k af W
 have av := aT.len
 subst av
 exact .lh 0 aU <| .r 1 <| .eq (af.length : Int) 0 (fun aw => .r 1 <| .d <| .ct <| .s <| .g <| .r 1 <| .d <| .rt Tryz.func77 Tryz.results77 (.bool false) ⟨(congrArg Value.bool (by grind [partG, partOk, prev, drop_end])), E⟩) fun aw => .r 1 <| .d <| .cf <| .sk <| .ib 1 <| .g <| .it ((k : Int) + 1) <| .r 1 <| .d <| O (k + 1) _ _ ⟨by kernel_rfl, by kernel_rfl, by kernel_rfl, by kernel_rfl, trivial⟩ ⟨J, (by omega), (by grind [partG, prev])⟩ (by omega)
theorem c_spec_l13Part (p : Prt) (names : Int) {w : World} {F : Nat → Prop} {a1 : Option Addr} {n1 c1 : Nat} (h1 : RepS w F a1 n1 c1 p.ids) {a2 : Option Addr} {n2 c2 : Nat} (h2 : RepS w F a2 n2 c2 p.blocks)  : Calls Tryz.prog 66 [.agg #[.slice a1 n1 c1, .slice a2 n2 c2], .int .i64 names].toArray w (rets fun rv w' => rv = .bool (partIn p names) ∧ Ext w w') := by
 refine goT Tryz.func66 ?_
 obtain ⟨rfl, ai, h1⟩ := h1.tp
 obtain ⟨rfl, aj, h2⟩ := h2.tp
 refine .s <| .g <| .np 75 [.slice a1 p.ids.length c1, .slice a2 p.blocks.length c2] fun ag ah V J C aa => ?_
 replace ⟨h1, h2⟩ := (sn [] J V).g2 h1 h2
 have E := J
 clear J aa V
 refine .r 1 <| .d <| .s <| .g <| .ln C <| .cl (c_spec_PartOk p h1.ta h2.ta (w := ah) (F := all)) ?_
 rintro am ao ⟨rfl, W⟩
 replace ⟨h1, C, E⟩ := (se [ag] W).g3 h1 C E
 clear W
 cases ak : (partOk p)
 ·exact .r 19 <| .d <| .rt Tryz.func66 Tryz.results66 (.bool false) ⟨(congrArg Value.bool (by grind [partIn])), E⟩
 refine .r 2 <| .lb C <| .r 1 <| .bp ((p.ids.length : Int) > 0) (fun ab => ?_) (fun ab => .r 14 <| .d <| .rt Tryz.func66 Tryz.results66 (.bool false) ⟨(congrArg Value.bool (by grind [partIn])), E⟩)
 refine .r 3 <| .lb C <| .r 1 <| .lb C <| .r 1 <| .it ((p.ids.length : Int) - 1) ?_
 have Z : p.ids.length - 1 < p.ids.length := (by omega)
 refine RG.idx (p.ids.length - 1) (len := p.ids.length) (i := (p.ids.length : Int) - 1) (sz := 1) (by kernel_rfl) (by omega) Z (h1.addr (Nat.zero_lt_of_lt Z)) ?_
 obtain ⟨ac, O⟩ : ∃ y, p.ids[p.ids.length - 1]? = some y := ⟨_, List.getElem?_eq_getElem (by omega)⟩
 have al := drop_at O; have af := List.mem_of_getElem? O
 obtain ⟨_, rfl, ae⟩ := h1.elem (p.ids.length - 1) ac O
 exact .lh 0 ae <| .r 4 <| .d <| .rt Tryz.func66 Tryz.results66 (.bool (decide (ac ≤ names))) ⟨(congrArg Value.bool (by grind [partIn])), E⟩
theorem c_slices_Index_int_int (s : List Int) (v : Int) {w : World} {F : Nat → Prop} {a1 : Option Addr} {n1 c1 : Nat} (h1 : RepS w F a1 n1 c1 s)  : Calls Tryz.prog 140 [.slice a1 n1 c1, .int .i64 v].toArray w (rets fun rv w' => rv = .int .i64 (idxF v 0 s) ∧ Ext w w') := by
 refine goT Tryz.func140 ?_
 obtain ⟨rfl, ag, h1⟩ := h1.tp
 refine .s <| .g <| .r 1 <| .d <| .s <| .s <| .g <| .r 3 <| .d <| .b 0 <| T.loop (X := Nat) 0 (fun k => [(0, .slice a1 s.length c1), (1, vI v), (7, vI (s.length : Int)), (8, vI (k : Int))]) (fun k O => Chg (ins []) w O ∧ (k ≤ s.length) ∧ (idxF v k (s.drop k) = idxF v 0 s)) (fun k => s.length - k) (by kernel_rfl) ⟨by kernel_rfl, by kernel_rfl, by kernel_rfl, by kernel_rfl, trivial⟩ ⟨Chg.refl _ _, (by simp), (by simp)⟩ ?_
 rintro k ak O ⟨C, ah, ai⟩ E
 have V : Mv [] [] w O := Mv.inl C all_nil all_nil
 replace h1 := (sp V C).g1 h1
 have W : Chg nil w O := Chg.stepI (Chg.refl nil w) C all_nil
 clear V
 refine .s <| .g <| .bp ((k : Int) < (s.length : Int)) (fun Z => ?_) (fun Z => .d <| .s <| .cf <| .x 0 rfl <| .s <| .g <| .r 1 <| .d <| .rt Tryz.func140 Tryz.results140 (vI (-1)) ⟨(congrArg (Value.int .i64) (by grind [idxF, drop_end])), W⟩)
 refine .d <| .s <| .ct <| .sk <| .s <| .b 1 <| .s <| .g <| .r 2 <| .d <| .s <| .g <| .r 3 ?_
 have aa : k < s.length := (by omega)
 refine .ix k 1 h1 aa ?_
 obtain ⟨ab, J⟩ : ∃ y, s[k]? = some y := ⟨_, List.getElem?_eq_getElem (by omega)⟩
 have aj := drop_at J; have af := List.mem_of_getElem? J
 obtain ⟨_, rfl, ac⟩ := h1.elem k ab J
 exact .lh 0 ac <| .eq v ab (fun ae => .d <| .ct <| .s <| .g <| .r 2 <| .d <| .rt Tryz.func140 Tryz.results140 (vI (k : Int)) ⟨(congrArg (Value.int .i64) (by grind [idxF, drop_end])), W⟩) fun ae => .d <| .cf <| .sk <| .ib 1 <| .g <| .it ((k : Int) + 1) <| .r 1 <| .d <| E (k + 1) _ _ ⟨by kernel_rfl, by kernel_rfl, by kernel_rfl, by kernel_rfl, trivial⟩ ⟨C, (by omega), (by grind [idxF])⟩ (by omega)
theorem c_slices_Max_int_int (x : List Int) {w : World} {F : Nat → Prop} {a1 : Option Addr} {n1 c1 : Nat} (h1 : RepS w F a1 n1 c1 x) (p0 : 0 < x.length) : Calls Tryz.prog 78 [.slice a1 n1 c1].toArray w (rets fun rv w' => rv = .int .i64 (maxOf x) ∧ Ext w w') := by
 refine goT Tryz.func78 ?_
 obtain ⟨rfl, al, h1⟩ := h1.tp
 refine .s <| .g <| .r 1 <| .d <| .s <| .s <| .g <| .r 2 <| .bp ((x.length : Int) < 1) (fun ab => .d <| .ct <| .g <| absurd (show False by omega) id) fun ab => .d <| .cf <| .sk <| .s <| .g <| .r 1 ?_
 have W : 0 < x.length := (by omega)
 refine RG.idx 0 (len := x.length) (i := 0) (sz := 1) (by kernel_rfl) (by omega) W (h1.addr (Nat.zero_lt_of_lt W)) ?_
 obtain ⟨ac, E⟩ : ∃ y, x[0]? = some y := ⟨_, List.getElem?_eq_getElem (by omega)⟩
 have am := drop_at E; have aj := List.mem_of_getElem? E
 obtain ⟨_, rfl, ae⟩ := h1.elem 0 ac E
 refine .lh 0 ae <| .r 1 <| .d <| .s <| .s <| .g <| .r 1 <| .d <| .b 0 <| T.loop (X := Int × Nat) (ac, 1) (fun (m, i) => [(0, .slice a1 x.length c1), (3, vI m), (4, vI (i : Int))]) (fun (m, i) V => Chg (ins []) w V ∧ (i ≤ x.length) ∧ (maxF m (x.drop i) = maxOf x)) (fun (m, i) => x.length - i) (by kernel_rfl) ⟨by kernel_rfl, by kernel_rfl, by kernel_rfl, trivial⟩ ⟨Chg.refl _ _, (by omega), (by grind [maxOf])⟩ ?_
 rintro ⟨m, i⟩ au V ⟨C, ao, aq⟩ J
 have Z : Mv [] [] w V := Mv.inl C all_nil all_nil
 replace h1 := (sp Z C).g1 h1
 have af : Chg nil w V := Chg.stepI (Chg.refl nil w) C all_nil
 clear Z
 refine .s <| .s <| .g <| .r 3 <| .bp ((i : Int) < (x.length : Int)) (fun ag => ?_) (fun ag => .d <| .cf <| .x 0 rfl <| .s <| .g <| .r 2 <| .d <| .rt Tryz.func78 Tryz.results78 (vI m) ⟨(congrArg (Value.int .i64) (by grind [maxF, drop_end])), af⟩)
 refine .d <| .ct <| .sk <| .s <| .b 1 <| .g <| .r 3 ?_
 have ah : i < x.length := (by omega)
 refine .ix i 1 h1 ah ?_
 obtain ⟨aa, O⟩ : ∃ y, x[i]? = some y := ⟨_, List.getElem?_eq_getElem (by omega)⟩
 have ar := drop_at O; have ak := List.mem_of_getElem? O
 obtain ⟨_, rfl, ai⟩ := h1.elem i aa O
 exact .lh 0 ai <| .r 2 <| .d <| .ib 1 <| .g <| .r 1 <| .it ((i : Int) + 1) <| .r 1 <| .d <| J ((if aa > m then aa else m), i + 1) _ _ ⟨by kernel_rfl, by kernel_rfl, by kernel_rfl, trivial⟩ ⟨C, (by omega), (by grind [maxF])⟩ (by (simp only []; omega))
theorem c_spec_l3Text (n : List Tag) {w : World} {F : Nat → Prop} {a1 : Option Addr} {n1 c1 : Nat} (h1 : RepS w F a1 n1 c1 n) (p0 : n.length ≤ 1000000) (p1 : ∀ t ∈ n, t.key.length ≤ 1000000 ∧ t.val.length ≤ 1000000) : Calls Tryz.prog 109 [.slice a1 n1 c1].toArray w (rets fun rv w' => rv = .string (bs (text n)) ∧ Ext w w') := by
 refine goT Tryz.func109 ?_
 obtain ⟨rfl, av, h1⟩ := h1.tp
 refine .s <| .g <| .r 1 <| .d <| .s <| .g <| .r 1 <| .d <| .s <| .s <| .g <| .r 1 <| .d <| .b 0 <| T.loop (X := Str × Nat) ([], 0) (fun (out, i) => [(0, .slice a1 n.length c1), (3, vT out), (4, vI (i : Int))]) (fun (out, i) aa => Chg (ins []) w aa ∧ (i ≤ n.length) ∧ (out.length ≤ 3000000 * i) ∧ (out ++ textF i (n.drop i) = text n)) (fun (out, i) => n.length - i) (by kernel_rfl) ⟨by kernel_rfl, by kernel_rfl, by kernel_rfl, trivial⟩ ⟨Chg.refl _ _, (by simp [text]), (by simp [text]), (by simp [text])⟩ ?_
 rintro ⟨out, i⟩ aB aa ⟨C, aw, ax, ay⟩ J
 have ab : Mv [] [] w aa := Mv.inl C all_nil all_nil
 replace h1 := (sp ab C).g1 h1
 have E : Chg nil w aa := Chg.stepI (Chg.refl nil w) C all_nil
 clear ab
 refine .s <| .s <| .g <| .r 3 <| .bp ((i : Int) < (n.length : Int)) (fun aj => ?_) (fun aj => .d <| .cf <| .x 0 rfl <| .s <| .g <| .r 2 <| .d <| .rt Tryz.func109 Tryz.results109 (vT out) ⟨(congrArg (fun s => Value.string (bs s)) (by grind [textF, drop_end])), E⟩)
 refine .d <| .ct <| .sk <| .s <| .b 1 <| .s <| .s <| .g <| .r 1 <| .bp ((i : Int) > 0) (fun ak => ?_) (fun ak => ?_)
 ·refine .d <| .ct <| .g <| .r 1 <| RG.cat (t := 9) (s := out) (u := [44]) (by kernel_rfl) (by grind) <| .r 1 <| .d <| .gd nil 13 fun aC ac => ?_
  replace ⟨h1, E, C⟩ := (se [] ac).g3 h1 E C
  clear ac
  refine .r [0, 1, 2] ?_
  have al : i < n.length := (by omega)
  refine .ix 3 i 2 h1 al <| .r [4] ?_
  obtain ⟨O, W⟩ : ∃ y, n[i]? = some y := ⟨_, List.getElem?_eq_getElem (by omega)⟩
  have az := drop_at W; have ar := List.mem_of_getElem? W
  obtain ⟨_, rfl, ae⟩ := h1.elem i O W
  refine .lh 5 0 ae id <| GA.cat (i := 6) (t := 9) (s := (out ++ [44])) (u := O.key) (by kernel_rfl) (by kernel_rfl) (by grind) <| GA.cat (i := 7) (t := 9) (s := ((out ++ [44]) ++ O.key)) (u := [61]) (by kernel_rfl) (by kernel_rfl) (by grind) <| .r [8, 9] ?_
  have am : i < n.length := (by omega)
  refine .ix 10 i 2 h1 am <| .r [11] <| .lh 12 1 ae id <| .d fun aD af => ?_
  replace ⟨h1, E, C⟩ := (se [] af).g3 h1 E C
  clear af
  exact RG.cat (t := 9) (s := (((out ++ [44]) ++ O.key) ++ [61])) (u := O.val) (by kernel_rfl) (by grind) <| .r 1 <| .d <| .ib 1 <| .g <| .r 1 <| .it ((i : Int) + 1) <| .r 1 <| .d <| J (((((out ++ [44]) ++ O.key) ++ [61]) ++ O.val), i + 1) _ _ ⟨by kernel_rfl, by kernel_rfl, by kernel_rfl, trivial⟩ ⟨C, (by omega), (by grind), (by grind [textF, text1])⟩ (by (simp only []; omega))
 refine .d <| .cf <| .sk <| .gd nil 13 fun aE ag => ?_
 replace ⟨h1, E, C⟩ := (se [] ag).g3 h1 E C
 clear ag
 refine .r [0, 1, 2] ?_
 have ao : i < n.length := (by omega)
 refine .ix 3 i 2 h1 ao <| .r [4] ?_
 obtain ⟨V, Z⟩ : ∃ y, n[i]? = some y := ⟨_, List.getElem?_eq_getElem (by omega)⟩
 have aA := drop_at Z; have au := List.mem_of_getElem? Z
 obtain ⟨_, rfl, ah⟩ := h1.elem i V Z
 refine .lh 5 0 ah id <| GA.cat (i := 6) (t := 9) (s := out) (u := V.key) (by kernel_rfl) (by kernel_rfl) (by grind) <| GA.cat (i := 7) (t := 9) (s := (out ++ V.key)) (u := [61]) (by kernel_rfl) (by kernel_rfl) (by grind) <| .r [8, 9] ?_
 have aq : i < n.length := (by omega)
 refine .ix 10 i 2 h1 aq <| .r [11] <| .lh 12 1 ah id <| .d fun aF ai => ?_
 replace ⟨E, C⟩ := (se [] ai).g2 E C
 clear ai
 exact RG.cat (t := 9) (s := ((out ++ V.key) ++ [61])) (u := V.val) (by kernel_rfl) (by grind) <| .r 1 <| .d <| .ib 1 <| .g <| .r 1 <| .it ((i : Int) + 1) <| .r 1 <| .d <| J ((((out ++ V.key) ++ [61]) ++ V.val), i + 1) _ _ ⟨by kernel_rfl, by kernel_rfl, by kernel_rfl, trivial⟩ ⟨C, (by omega), (by grind), (by grind [textF, text1])⟩ (by (simp only []; omega))
theorem c_spec_l11Less (a : Tag) (b : Tag) {w : World} {F : Nat → Prop}   : Calls Tryz.prog 112 [.agg #[.string (bs a.key), .string (bs a.val)], .agg #[.string (bs b.key), .string (bs b.val)]].toArray w (rets fun rv w' => rv = .bool (tagLt a b) ∧ Ext w w') := by
 refine goT Tryz.func112 <| .s <| .g <| .np 112 [vT a.key, vT a.val] fun af ag W O C Z => ?_
 have E := O
 clear O Z W
 refine .np 112 [vT b.key, vT b.val] fun ah ai aa V J ab => ?_
 replace ⟨C, E⟩ := (se [] V).g2 C E
 clear V ab aa
 refine .r 1 <| .d <| .s <| .g <| .r 1 <| .lb C <| .r 1 <| .lb J <| RG.eqv (v := .bool ((strLt a.key b.key))) (by kernel_rfl) (s_lt a.key b.key) ?_
 cases ac : (strLt a.key b.key)
 ·refine .r 2 <| .lb C <| .r 1 <| .lb J <| RG.eqv (v := .bool ((a.key == b.key))) (by kernel_rfl) (s_eq a.key b.key) ?_
  cases ae : (a.key == b.key)
  ·exact .r 9 <| .d <| .rt Tryz.func112 Tryz.results112 (.bool false) ⟨(congrArg Value.bool (by grind [tagLt])), E⟩
  exact .r 2 <| .lb C <| .r 1 <| .lb J <| RG.eqv (v := .bool ((strLt a.val b.val))) (by kernel_rfl) (s_lt a.val b.val) <| .r 3 <| .d <| .rt Tryz.func112 Tryz.results112 (.bool (strLt a.val b.val)) ⟨(congrArg Value.bool (by grind [tagLt])), E⟩
 exact .r 15 <| .d <| .rt Tryz.func112 Tryz.results112 (.bool true) ⟨(congrArg Value.bool (by grind [tagLt])), E⟩
end Go.Proofs.YtfnpaglcnmcnbaaGreat
namespace Go.Proofs.YtfnpaglcnmcnbaaGreat
set_option maxRecDepth 100000
set_option maxHeartbeats 4000000
theorem c_spec_l11New  {w : World} {F : Nat → Prop}   : Calls Tryz.prog 200 [].toArray w (rets fun rv w' => VS (ge w.heap.size) w' ((⟨[], []⟩ : Idx) : Idx) rv ∧ Ext w w') := by
 refine goT Tryz.func200 <| .s <| .g <| .np 26 [.slice none 0 0, .slice none 0 0] fun Z aE ac ae E aj => ?_
 have aA : Cov nil w Z := cov_new ac (Nat.le_refl _)
 have C := ae
 clear ae aj ac
 refine .d <| .s <| .g <| .ns 0 31 [] fun O ax ab af ak al => ?_
 have aB := nb_new ab E.lt
 have am := gb_new ab C.size
 replace ⟨E, C⟩ := (se [] af).g2 E C
 clear af al ab
 have J : Own (α := List Tag) ax O 31 (nin (ge w.heap.size) [O, Z]) 0 0 [] := Own.nil' ak
 refine .ns 0 130 [] fun aa ay V ag ao aq => ?_
 have aC := nb_new V E.lt
 have aD := nb_new V J.lt
 have ar := gb_new V C.size
 replace ⟨E, J, C⟩ := (sn [O, Z] ag V).g3 E J C
 clear ag aq V
 have W : Own (α := Pst) ay aa 130 (nin (ge w.heap.size) [aa, O, Z]) 0 0 [] := Own.nil' ao
 refine .r 1 <| .sc [vS O 0 0, vS aa 0 0] E fun au ah av aw => ?_
 replace ⟨J, W, C⟩ := (so [aa, O, Z] ah).g3 J W C
 clear ah aw
 refine .d ?_
 have ai := J.sl am
 replace W := (sd au [aa, O, Z] O).g1 W
 have az := W.sl ar
 replace ai := (sd au [aa, Z] aa).g1 ai
 exact .rb Tryz.func200 Tryz.results200 av ⟨⟨_, rfl, ⟨_, _, _, _, _, _, rfl, ai.w1, az.w1⟩⟩, C⟩
theorem c_spec_l13New  {w : World} {F : Nat → Prop}   : Calls Tryz.prog 178 [].toArray w (rets fun rv w' => VS (ge w.heap.size) w' ((⟨⟨[], []⟩, [], []⟩ : Sto) : Sto) rv ∧ Ext w w') := by
 refine goT Tryz.func178 <| .s <| .g <| .np 30 [.slice none 0 0, .slice none 0 0, .slice none 0 0, .slice none 0 0] fun W aq ag ah E ar => ?_
 have aM : Cov nil w W := cov_new ag (Nat.le_refl _)
 have C := ah
 clear ah ar ag
 refine .d <| .s <| .g <| .cl (c_spec_l11New (w := aq) (F := all)) ?_
 rintro aS aT ⟨⟨_, rfl, ⟨aF, aU, aG, aH, aV, aI, rfl, J, O⟩⟩, ai⟩
 have af := al1 E.lt
 have aj : Gb w.heap.size aq.heap.size := C.size
 replace ⟨E, C⟩ := (se [] ai).g2 E C
 clear ai
 have J := J.fr af aj
 have aN := J.max
 have O := O.fr af aj
 have aO := O.max
 clear af
 have au := J.len
 subst au
 have av := O.len
 subst av
 refine .ns 0 75 [] fun Z aJ ae ak aw ax => ?_
 have aP := nb_new ae E.lt
 have ay := gb_new ae C.size
 replace ⟨E, J, O, C⟩ := (sn [W] ak ae).g4 E J O C
 clear ak ax ae
 have V : Own (α := Prt) aJ Z 75 (nin (ge w.heap.size) [Z, W]) 0 0 [] := Own.nil' aw
 refine .ns 0 51 [] fun ac aK aa al az aA => ?_
 have aQ := nb_new aa E.lt
 have aR := nb_new aa V.lt
 have aB := gb_new aa C.size
 replace ⟨E, J, O, V, C⟩ := (sn [Z, W] al aa).g5 E J O V C
 clear al aA aa
 have ab : Own (α := Smp) aK ac 51 (nin (ge w.heap.size) [ac, Z, W]) 0 0 [] := Own.nil' az
 refine .r 1 <| .sc [.slice aF ((((⟨[], []⟩ : Idx)).names).length) aG, .slice aH ((((⟨[], []⟩ : Idx)).posts).length) aI, vS Z 0 0, vS ac 0 0] E fun aC am aD aE => ?_
 replace ⟨J, O, V, ab, C⟩ := (so [ac, Z, W] am).g5 J O V ab C
 clear am aE
 refine .d ?_
 have ao := V.sl ay
 replace ⟨J, O, ab⟩ := (sd aC [ac, Z, W] Z).g3 J O ab
 have aL := ab.sl aB
 replace ⟨J, O, ao⟩ := (sd aC [ac, W] ac).g3 J O ao
 exact .rb Tryz.func178 Tryz.results178 aD ⟨(VS.of (y := (⟨(⟨((⟨[], []⟩ : Idx)).names, ((⟨[], []⟩ : Idx)).posts⟩ : Idx), [], []⟩ : Sto)) ⟨_, rfl, ⟨_, _, _, _, _, _, _, _, _, _, _, _, rfl, J.w1, O.w1, ao.w1, aL.w1⟩⟩ (by rfl)), C⟩
theorem c_spec_DiskNew  {w : World} {F : Nat → Prop}   : Calls Tryz.prog 179 [].toArray w (rets fun rv w' => VS (ge w.heap.size) w' ((⟨[], [], [], 1⟩ : Dsk) : Dsk) rv ∧ Ext w w') := by
 refine goT Tryz.func179 <| .s <| .g <| .np 83 [.slice none 0 0, .slice none 0 0, .slice none 0 0, vI 0] fun W aQ ah ai E ar => ?_
 have aJ : Cov nil w W := cov_new ah (Nat.le_refl _)
 have C := ai
 clear ai ar ah
 refine .d <| .s <| .g <| .ns 0 88 [] fun Z aF af aj au av => ?_
 have aK := nb_new af E.lt
 have aw := gb_new af C.size
 replace ⟨E, C⟩ := (se [] aj).g2 E C
 clear aj av af
 have J : Own (α := Fil) aF Z 88 (nin (ge w.heap.size) [Z, W]) 0 0 [] := Own.nil' au
 refine .ns 0 3 [] fun ab aG ac ak ax ay => ?_
 have aL := nb_new ac E.lt
 have aM := nb_new ac J.lt
 have az := gb_new ac C.size
 replace ⟨E, J, C⟩ := (sn [Z, W] ak ac).g3 E J C
 clear ak ay ac
 have O : Own (α := Int) aG ab 3 (nin (ge w.heap.size) [ab, Z, W]) 0 0 [] := Own.nil' ax
 refine .ns 0 31 [] fun ae aH aa al aA aB => ?_
 have aN := nb_new aa E.lt
 have aO := nb_new aa J.lt
 have aP := nb_new aa O.lt
 have aC := gb_new aa C.size
 replace ⟨E, J, O, C⟩ := (sn [ab, Z, W] al aa).g4 E J O C
 clear al aB aa
 have V : Own (α := List Tag) aH ae 31 (nin (ge w.heap.size) [ae, ab, Z, W]) 0 0 [] := Own.nil' aA
 refine .r 1 <| .sc [vS Z 0 0, vS ab 0 0, vS ae 0 0, vI 1] E fun ao am aD aE => ?_
 replace ⟨J, O, V, C⟩ := (so [ae, ab, Z, W] am).g4 J O V C
 clear am aE
 refine .d ?_
 have ag := J.sl aw
 replace ⟨O, V⟩ := (sd ao [ae, ab, Z, W] Z).g2 O V
 have aq := O.sl az
 replace ⟨ag, V⟩ := (sd ao [ae, ab, W] ab).g2 ag V
 have aI := V.sl aC
 replace ⟨ag, aq⟩ := (sd ao [ae, W] ae).g2 ag aq
 exact .rb Tryz.func179 Tryz.results179 aD ⟨⟨_, rfl, ⟨_, _, _, _, _, _, _, _, _, rfl, ag.w1, aq.w1, aI.w1⟩⟩, C⟩
theorem c_spec_WorldNew  {w : World} {F : Nat → Prop}   : Calls Tryz.prog 152 [].toArray w (rets fun rv w' => VS (ge w.heap.size) w' ((⟨⟨⟨[], []⟩, [], []⟩, ⟨[], [], [], 1⟩⟩ : Wld) : Wld) rv ∧ Ext w w') := by
 refine goT Tryz.func152 <| .s <| .g <| .np 100 [.slice none 0 0, .slice none 0 0, .slice none 0 0, .slice none 0 0, .slice none 0 0, .slice none 0 0, .slice none 0 0, vI 0] fun am ao ah ai E aq => ?_
 have aR : Cov nil w am := cov_new ah (Nat.le_refl _)
 have C := ai
 clear ai aq ah
 refine .d <| .s <| .g <| .cl (c_spec_l13New (w := ao) (F := all)) ?_
 rintro aZ ar ⟨⟨_, rfl, ⟨aD, ba, aE, aF, bc, aG, aH, bd, aI, aJ, bg, aK, rfl, J, O, V, W⟩⟩, aj⟩
 have Z := al1 E.lt
 have ae : Gb w.heap.size ao.heap.size := C.size
 replace ⟨E, C⟩ := (se [] aj).g2 E C
 clear aj
 have J := J.fr Z ae
 have aS := J.max
 have O := O.fr Z ae
 have aT := O.max
 have V := V.fr Z ae
 have aU := V.max
 have W := W.fr Z ae
 have aV := W.max
 clear Z
 have au := J.len
 subst au
 have av := O.len
 subst av
 have aw := V.len
 subst aw
 have ax := W.len
 subst ax
 refine .cl (c_spec_DiskNew (w := ar) (F := all)) ?_
 rintro bh bi ⟨⟨_, rfl, ⟨aL, bj, aM, aN, bk, aO, aP, bm, aQ, rfl, aa, ab, ac⟩⟩, ak⟩
 have af := al1 E.lt
 have ag : Gb w.heap.size ar.heap.size := C.size
 replace ⟨E, J, O, V, W, C⟩ := (se [am] ak).g6 E J O V W C
 clear ak
 have aa := aa.fr af ag
 have aW := aa.max
 have ab := ab.fr af ag
 have aX := ab.max
 have ac := ac.fr af ag
 have aY := ac.max
 clear af
 have ay := aa.len
 subst ay
 have az := ab.len
 subst az
 have aA := ac.len
 subst aA
 refine .r 1 <| .sc [.slice aD (((((⟨⟨[], []⟩, [], []⟩ : Sto)).idx).names).length) aE, .slice aF (((((⟨⟨[], []⟩, [], []⟩ : Sto)).idx).posts).length) aG, .slice aH ((((⟨⟨[], []⟩, [], []⟩ : Sto)).parts).length) aI, .slice aJ ((((⟨⟨[], []⟩, [], []⟩ : Sto)).mem).length) aK, .slice aL ((((⟨[], [], [], 1⟩ : Dsk)).files).length) aM, .slice aN ((((⟨[], [], [], 1⟩ : Dsk)).list).length) aO, .slice aP ((((⟨[], [], [], 1⟩ : Dsk)).names).length) aQ, vI (((⟨[], [], [], 1⟩ : Dsk)).next)] E fun bn al aB aC => ?_
 replace ⟨J, O, V, W, aa, ab, ac, C⟩ := (so [am] al).g8 J O V W aa ab ac C
 clear al aC
 exact .d <| .rb Tryz.func152 Tryz.results152 aB ⟨(VS.of (y := (⟨(⟨(⟨(((⟨⟨[], []⟩, [], []⟩ : Sto)).idx).names, (((⟨⟨[], []⟩, [], []⟩ : Sto)).idx).posts⟩ : Idx), ((⟨⟨[], []⟩, [], []⟩ : Sto)).parts, ((⟨⟨[], []⟩, [], []⟩ : Sto)).mem⟩ : Sto), (⟨((⟨[], [], [], 1⟩ : Dsk)).files, ((⟨[], [], [], 1⟩ : Dsk)).list, ((⟨[], [], [], 1⟩ : Dsk)).names, ((⟨[], [], [], 1⟩ : Dsk)).next⟩ : Dsk)⟩ : Wld)) ⟨_, rfl, ⟨_, _, _, _, _, _, _, _, _, _, _, _, _, _, _, _, _, _, _, _, _, rfl, J.w1, O.w1, V.w1, W.w1, aa.w1, ab.w1, ac.w1⟩⟩ (by rfl)), C⟩
theorem c_laws_lyPart (a : Prt) (b : Prt) {w : World} {F : Nat → Prop} {a1 : Option Addr} {n1 c1 : Nat} (h1 : RepS w F a1 n1 c1 a.ids) {a2 : Option Addr} {n2 c2 : Nat} (h2 : RepS w F a2 n2 c2 a.blocks) {a3 : Option Addr} {n3 c3 : Nat} (h3 : RepS w F a3 n3 c3 b.ids) {a4 : Option Addr} {n4 c4 : Nat} (h4 : RepS w F a4 n4 c4 b.blocks)  : Calls Tryz.prog 40 [.agg #[.slice a1 n1 c1, .slice a2 n2 c2], .agg #[.slice a3 n3 c3, .slice a4 n4 c4]].toArray w (rets fun rv w' => rv = .bool ((a == b)) ∧ Ext w w') := by
 refine goT Tryz.func40 ?_
 obtain ⟨rfl, aK, h1⟩ := h1.tp
 obtain ⟨rfl, aL, h2⟩ := h2.tp
 obtain ⟨rfl, aM, h3⟩ := h3.tp
 obtain ⟨rfl, aN, h4⟩ := h4.tp
 refine .s <| .g <| .np 75 [.slice a1 a.ids.length c1, .slice a2 a.blocks.length c2] fun V aW ag Z E av => ?_
 replace ⟨h1, h2, h3, h4⟩ := (sn [] Z ag).g4 h1 h2 h3 h4
 have C := Z
 clear Z av ag
 refine .np 75 [.slice a3 b.ids.length c3, .slice a4 b.blocks.length c4] fun W aI ah ai J aw => ?_
 replace ⟨h1, h2, h3, h4, E, C⟩ := (sn [V] ai ah).g6 h1 h2 h3 h4 E C
 clear ai aw ah
 refine .r 1 <| .d <| .s <| .s <| .g <| .r 1 <| .lb E <| .r 1 <| .lb J <| .cl (c_laws_lyInts a.ids b.ids h1.ta h3.ta (w := aI) (F := all)) ?_
 rintro aX ax ⟨rfl, aj⟩
 replace ⟨h2, h4, E, J, C⟩ := (se [W, V] aj).g5 h2 h4 E J C
 clear aj
 cases aO : (a.ids == b.ids)
 ·exact .r 10 <| .d <| .ct <| .s <| .g <| .r 1 <| .d <| .rt Tryz.func40 Tryz.results40 (.bool false) ⟨(congrArg Value.bool (by cases a; cases b; grind [drop_end])), C⟩
 refine .r 3 <| .lb E <| .r 2 <| .lb J <| .r 1 <| .ne (a.blocks.length : Int) (b.blocks.length : Int) (fun ay => .r 1 <| .d <| .ct <| .s <| .g <| .r 1 <| .d <| .rt Tryz.func40 Tryz.results40 (.bool false) ⟨(congrArg Value.bool (by cases a; cases b; grind [drop_end])), C⟩) fun ay => .r 1 <| .d <| .cf <| .sk <| .s <| .s <| .g <| .r 1 <| .d <| .b 0 <| T.loop (X := Nat) 0 (fun i => [(2, .pointer (some ⟨V, 0, none⟩)), (3, .pointer (some ⟨W, 0, none⟩)), (5, vI (i : Int))]) (fun i aq => Chg (ins []) ax aq ∧ (i ≤ a.blocks.length) ∧ (a.blocks.drop i = b.blocks.drop i ↔ a.blocks = b.blocks)) (fun i => a.blocks.length - i) (by kernel_rfl) ⟨by kernel_rfl, by kernel_rfl, by kernel_rfl, trivial⟩ ⟨Chg.refl _ _, (by simp), (by simp)⟩ ?_
 rintro i aY aq ⟨O, aP, aQ⟩ aa
 have ak : Mv [W, V] [W, V] ax aq := Mv.inl O all_nil (all_cons (.inl (.head _)) (all_cons (.inl (.tail _ (.head _))) all_nil))
 replace ⟨h2, h4, E, J, C⟩ := (sp ak O).g5 h2 h4 E J C
 clear ak
 refine .s <| .s <| .g <| .r 2 <| .lb E <| .r 1 <| .bp ((i : Int) < (a.blocks.length : Int)) (fun az => ?_) (fun az => .d <| .cf <| .x 0 rfl <| .s <| .g <| .r 1 <| .d <| .rt Tryz.func40 Tryz.results40 (.bool true) ⟨(congrArg Value.bool (by cases a; cases b; grind [drop_end])), C⟩)
 refine .d <| .ct <| .sk <| .s <| .b 1 <| .s <| .gd nil 10 fun aZ al => ?_
 replace ⟨h2, h4, E, J, C, O⟩ := (se [W, V] al).g6 h2 h4 E J C O
 clear al
 refine .r [0] <| .lb 1 E id <| .r [2] ?_
 have aA : i < a.blocks.length := (by omega)
 refine .ix 3 i 1 h2 aA ?_
 obtain ⟨ar, ab⟩ : ∃ y, a.blocks[i]? = some y := ⟨_, List.getElem?_eq_getElem (by omega)⟩
 have aR := drop_at ab; have aG := List.mem_of_getElem? ab
 obtain ⟨_, ⟨ba, bc, bd, rfl, ac⟩, aB⟩ := h2.elem i ar ab
 have aC := ac.len
 subst aC
 have aS := ac.max
 refine .lh 4 0 aB id <| .r [5] <| .lb 6 J id <| .r [7] ?_
 have aD : i < b.blocks.length := (by omega)
 refine .ix 8 i 1 h4 aD ?_
 obtain ⟨au, ae⟩ : ∃ y, b.blocks[i]? = some y := ⟨_, List.getElem?_eq_getElem (by omega)⟩
 have aT := drop_at ae; have aH := List.mem_of_getElem? ae
 obtain ⟨_, ⟨bg, bh, bi, rfl, af⟩, aE⟩ := h4.elem i au ae
 have aF := af.len
 subst aF
 have aU := af.max
 refine .lh 9 0 aE id <| .d fun aJ am => ?_
 replace ⟨ac, af, C, O⟩ := (se [W, V] am).g4 ac af C O
 clear am
 refine .cl (c_laws_lyRows ar au ac.ta af.ta (w := aJ) (F := all)) ?_
 rintro bj bk ⟨rfl, ao⟩
 replace ⟨C, O⟩ := (se [] ao).g2 C O
 clear ao
 cases aV : (ar == au)
 ·exact .r 1 <| .d <| .ct <| .s <| .g <| .r 1 <| .d <| .rt Tryz.func40 Tryz.results40 (.bool false) ⟨(congrArg Value.bool (by cases a; cases b; grind [drop_end])), C⟩
 exact .r 1 <| .d <| .cf <| .sk <| .ib 1 <| .g <| .r 1 <| .it ((i : Int) + 1) <| .r 1 <| .d <| aa (i + 1) _ _ ⟨by kernel_rfl, by kernel_rfl, by kernel_rfl, trivial⟩ ⟨O, (by omega), (by grind)⟩ (by omega)
theorem c_spec_l12Merge (a : Prt) (b : Prt) {w : World} {F : Nat → Prop} {a1 : Option Addr} {n1 c1 : Nat} (h1 : RepS w F a1 n1 c1 a.ids) {a2 : Option Addr} {n2 c2 : Nat} (h2 : RepS w F a2 n2 c2 a.blocks) {a3 : Option Addr} {n3 c3 : Nat} (h3 : RepS w F a3 n3 c3 b.ids) {a4 : Option Addr} {n4 c4 : Nat} (h4 : RepS w F a4 n4 c4 b.blocks) (p0 : PrtSz a) (p1 : PrtSz b) : Calls Tryz.prog 139 [.agg #[.slice a1 n1 c1, .slice a2 n2 c2], .agg #[.slice a3 n3 c3, .slice a4 n4 c4]].toArray w (rets fun rv w' => VS (ge w.heap.size) w' (pMerge a b : Prt) rv ∧ Ext w w') := by
 refine goT Tryz.func139 ?_
 obtain ⟨rfl, b7, h1⟩ := h1.tp
 obtain ⟨rfl, b8, h2⟩ := h2.tp
 obtain ⟨rfl, b9, h3⟩ := h3.tp
 obtain ⟨rfl, cd, h4⟩ := h4.tp
 refine .s <| .g <| .np 75 [.slice a1 a.ids.length c1, .slice a2 a.blocks.length c2] fun Z cI aT aB E bv => ?_
 replace ⟨h1, h2, h3, h4⟩ := (sn [] aB aT).g4 h1 h2 h3 h4
 have C := aB
 clear aB bv aT
 refine .np 75 [.slice a3 b.ids.length c3, .slice a4 b.blocks.length c4] fun aa cJ aU aV J bw => ?_
 replace ⟨h1, h2, h3, h4, E, C⟩ := (sn [Z] aV aU).g6 h1 h2 h3 h4 E C
 clear aV bw aU
 refine .np 75 [.slice none 0 0, .slice none 0 0] fun ab cK aC aW O bz => ?_
 have ce := C.cn aC
 replace ⟨h1, h2, h3, h4, E, J, C⟩ := (sn [aa, Z] aW aC).g7 h1 h2 h3 h4 E J C
 clear aW bz aC
 refine .d <| .s <| .g <| .ns 0 42 [] fun aq aD ak aX bA bB => ?_
 have bC := nb_new ak E.lt
 have bD := nb_new ak J.lt
 have bE := nb_new ak O.lt
 have bF := C.cn ak
 replace ⟨h1, h2, h3, h4, E, J, O, C⟩ := (sn [ab, aa, Z] aX ak).g8 h1 h2 h3 h4 E J O C
 clear aX bB ak
 have bG : Own (α := List Row) aD aq 42 (nin (ge w.heap.size) [aq, ab, aa, Z]) 0 0 [] := Own.nil' bA
 refine .r 1 <| .d <| .s <| .s <| .g <| .r 1 <| .d <| .b 0 <| T.loop (X := (List (List Row)) × Nat × Nat × Nat × Nat) (([] : List (List Row)), aq, 0, 0, 1) (fun (blocks, r_blocks, n_blocks, c_blocks, id) => [(2, .pointer (some ⟨Z, 0, none⟩)), (3, .pointer (some ⟨aa, 0, none⟩)), (4, .pointer (some ⟨ab, 0, none⟩)), (5, vS r_blocks n_blocks c_blocks), (6, vI (id : Int))]) (fun (blocks, r_blocks, n_blocks, c_blocks, id) al => Chg (ins [aq]) aD al ∧ Own al r_blocks 42 (nin (ge w.heap.size) [r_blocks, ab, aa, Z]) n_blocks c_blocks blocks ∧ OrB r_blocks aq aD.heap.size ∧ (1 ≤ id) ∧ (id ≤ 7) ∧ (blocks = pMergeL a b (id - 1))) (fun (blocks, r_blocks, n_blocks, c_blocks, id) => 7 - id) (by kernel_rfl) ⟨by kernel_rfl, by kernel_rfl, by kernel_rfl, by kernel_rfl, by kernel_rfl, trivial⟩ ⟨Chg.refl _ _, bG, orb_refl, (by simp [pMergeL]), (by simp [pMergeL]), (by simp [pMergeL])⟩ ?_
 rintro ⟨blocks, r_blocks, n_blocks, c_blocks, id⟩ cL al ⟨W, V, ag, cg, ci, cj⟩ aE
 have bH := nb_or' ag bC E.lt
 have bI := nb_or' ag bD J.lt
 have ck := nb_or' ag bE O.lt
 have cm := cov_or' ag bF C.size
 have bJ : Cov (ins [aq]) aD aq := ⟨.inl (.head _)⟩
 have co := cov_or' ag bJ (Nat.le_refl _)
 have aY : Mv [aq, ab, aa, Z] [r_blocks, ab, aa, Z] aD al := Mv.inl W (all_cons (.head _) all_nil) (all_cons (orb_mem ag (.head _)) (all_cons (.inl (.tail _ (.head _))) (all_cons (.inl (.tail _ (.tail _ (.head _)))) (all_cons (.inl (.tail _ (.tail _ (.tail _ (.head _))))) all_nil))))
 replace ⟨h1, h2, h3, h4, E, J, O, C⟩ := (sp aY W).g8 h1 h2 h3 h4 E J O C
 clear aY
 have cp := V.len; have cq := V.max
 refine .s <| .s <| .g <| .r 1 <| .bp ((id : Int) ≤ 6) (fun bK => ?_) (fun bK => ?_)
 ·refine .d <| .ct <| .sk <| .s <| .b 1 ?_
  replace h1 := h1.into
  replace h2 := h2.into
  replace h3 := h3.into
  replace h4 := h4.into
  have bL : Gb (Z + 1) al.heap.size := E.lt
  have bM : Gb (aa + 1) al.heap.size := J.lt
  refine .gd (mtb [r_blocks] al.heap.size) 9 fun cM aZ => ?_
  replace ⟨h1, h2, h3, h4, E, J, O, V, C, W⟩ := (se [r_blocks, ab, aa, Z] aZ).g10 h1 h2 h3 h4 E J O V C W
  clear aZ
  refine .r [0] <| .ln 1 E (nS_of (all_cons (Nb.symm bH) all_nil) bL) <| .r [2] <| .ln 4 J (nS_of (all_cons (Nb.symm bI) all_nil) bM) <| .r [5] <| .go 3 <| .cl (fun bc ax => c_spec_l12Of a (id : Int) ((h1.base (fun _ _ h => h.1)).ext ax) ((h2.base (fun _ _ h => h.1)).ext ax) (by grind [PrtSz]) (w := bc) (F := nin (fo F w.heap.size) [r_blocks, ab, aa, Z])) ?_
  intro bc ax
  replace ⟨h3, h4, E, J, O, V, C, W⟩ := (se [r_blocks, ab, aa, Z] ax).g8 h3 h4 E J O V C W
  rintro cN cO ⟨⟨cP, cQ, rfl, af⟩, aF⟩
  have aG := al4 V.lt O.lt J.lt E.lt
  have bd : Gb w.heap.size bc.heap.size := C.size
  have hkeep_ := aF
  replace ⟨h3, h4, E, J, O, V, C, W⟩ := (se [r_blocks, ab, aa, Z] aF).g8 h3 h4 E J O V C W
  clear aF
  refine ⟨Ext.chg hkeep_, ?_⟩
  replace af := RepS.mixed' (M := [r_blocks, ab, aa, Z]) af aG bd
  have bV := af.max
  clear aG
  refine .go 6 <| .cl (fun aH am => c_spec_l12Of b (id : Int) ((h3.base (fun _ _ h => h.1)).ext am) ((h4.base (fun _ _ h => h.1)).ext am) (by grind [PrtSz]) (w := aH) (F := nin (fo F w.heap.size) [r_blocks, ab, aa, Z])) ?_
  intro aH am
  replace ⟨E, J, O, V, af, C, W⟩ := (se [r_blocks, ab, aa, Z] am).g7 E J O V af C W
  rintro cr cu ⟨⟨cv, cw, rfl, ay⟩, ar⟩
  have aI := al4 V.lt O.lt J.lt E.lt
  have bg : Gb w.heap.size aH.heap.size := C.size
  have hkeep_ := ar
  replace ⟨E, J, O, V, af, C, W⟩ := (se [r_blocks, ab, aa, Z] ar).g7 E J O V af C W
  clear ar
  refine ⟨Ext.chg hkeep_, ?_⟩
  replace ay := RepS.mixed' (M := [r_blocks, ab, aa, Z]) ay aI bg
  have bW := ay.max
  clear aI
  refine .go 7 <| .cl (fun aJ ao => c_spec_l2Merge (partOf a (id : Int)) (partOf b (id : Int)) (af.ta.ext ao) (ay.ta.ext ao) (by have q1 := partOf_len p0 id; have q2 := partOf_len p1 id; omega) (w := aJ) (F := all)) ?_
  intro aJ ao
  replace ⟨E, J, O, V, C, W⟩ := (se [r_blocks, ab, aa, Z] ao).g6 E J O V C W
  rintro cx cy ⟨⟨bN, bO, rfl, ac⟩, au⟩
  have aK := al4 V.lt O.lt J.lt E.lt
  have bh : Gb w.heap.size aJ.heap.size := C.size
  have hkeep_ := au
  replace ⟨E, J, O, V, C, W⟩ := (se [r_blocks, ab, aa, Z] au).g6 E J O V C W
  clear au
  refine ⟨Ext.chg hkeep_, ?_⟩
  have ac := ac.fr aK bh
  have bX := ac.max
  clear aK
  refine .go 8 <| .ns 1 42 [.slice bN ((sMerge (partOf a (id : Int)) (partOf b (id : Int))).length) bO] fun cz aL => ?_
  replace ⟨E, J, O, V, ac, C, W⟩ := (se [r_blocks, ab, aa, Z] aL).g7 E J O V ac C W
  clear aL
  intro ba cA ae aM av bi
  have bj := nb_new ae E.lt
  have bk := nb_new ae J.lt
  have bm := nb_new ae O.lt
  have aN := nb_new ae V.lt
  have bn := gb_new ae C.size
  replace ⟨E, J, O, V, ac, C, W⟩ := (se [r_blocks, ab, aa, Z] aM).g7 E J O V ac C W
  clear aM bi ae
  refine .d fun cB aO => ?_
  replace ⟨E, J, O, V, ac, av, C, W⟩ := (se [r_blocks, ab, aa, Z] aO).g8 E J O V ac av C W
  clear aO
  have aA : nin (ge w.heap.size) [r_blocks, ab, aa, Z] ba ∧ ba ≠ r_blocks := hap_mk bn (all_cons aN (all_cons bm (all_cons bk (all_cons bj all_nil)))) aN
  refine RG.append1 (T := 73) (ty := 73) (y := sMerge (partOf a (id : Int)) (partOf b (id : Int))) V av (by kernel_rfl) (by kernel_rfl) ⟨_, _, _, rfl, ac.oi⟩ aA (by grind [pMergeL_len]) fun bP bQ cC ah az aP => ?_
  have bo := orb_or az ag W.size
  replace ⟨E, J, O, C, W⟩ := (s1 aP).g5 E J O C W
  clear aP
  replace ah := ah.rn r_blocks
  clear az
  have bY := ah.len; have bZ := ah.max
  exact .r 1 <| .d <| .ib 1 <| .g <| .r 1 <| .it ((id : Int) + 1) <| .r 1 <| .d <| aE ((blocks ++ [sMerge (partOf a (id : Int)) (partOf b (id : Int))]), bP, n_blocks + 1, bQ, id + 1) _ _ ⟨by kernel_rfl, by kernel_rfl, by kernel_rfl, by kernel_rfl, by kernel_rfl, trivial⟩ ⟨W, ah, bo, (by omega), (by omega), (by obtain ⟨q, rfl⟩ : ∃ q, id = q + 1 := ⟨id - 1, by omega⟩; have := pMergeL_succ a b q; grind)⟩ (by (simp only []; omega))
 refine .d <| .cf <| .x 0 rfl <| .s <| .g <| .r 1 <| .cl (c_spec_l12Make blocks (V.rep) (by grind [pMergeL_len]) (by have q := pMergeL_mem p0 p1 6; grind) (w := al) (F := all)) ?_
 rintro cD cE ⟨⟨_, rfl, ⟨bR, cF, bS, bT, cG, bU, rfl, ai, aj⟩⟩, aQ⟩
 have aw := al4 V.lt O.lt J.lt E.lt
 have aR : Gb w.heap.size al.heap.size := C.size
 replace ⟨O, C⟩ := (se [] aQ).g2 O C
 clear aQ
 have ai := ai.fr aw aR
 have b0 := ai.max
 have aj := aj.fr aw aR
 have b6 := aj.max
 clear aw
 have bq := ai.len
 subst bq
 have br := aj.len
 subst br
 refine .sc [.slice bR (((pMake blocks).ids).length) bS, .slice bT (((pMake blocks).blocks).length) bU] O fun cH aS bt bu => ?_
 replace ⟨ai, aj, C⟩ := (so [r_blocks, ab, aa, Z] aS).g3 ai aj C
 clear aS bu
 exact .d <| .rb Tryz.func139 Tryz.results139 bt ⟨(VS.of (y := (pMake blocks)) ⟨_, rfl, ⟨_, _, _, _, _, _, rfl, ai.w1, aj.w1⟩⟩ (by grind [pMerge])), C⟩
theorem c_spec_l13Rows (s : Sto) (id : Int) {w : World} {F : Nat → Prop} {a1 : Option Addr} {n1 c1 : Nat} (h1 : RepS w F a1 n1 c1 s.idx.names) {a2 : Option Addr} {n2 c2 : Nat} (h2 : RepS w F a2 n2 c2 s.idx.posts) {a3 : Option Addr} {n3 c3 : Nat} (h3 : RepS w F a3 n3 c3 s.parts) {a4 : Option Addr} {n4 c4 : Nat} (h4 : RepS w F a4 n4 c4 s.mem) (p0 : s.parts.length ≤ 100) (p1 : ∀ p ∈ s.parts, PrtSz p) (p2 : s.mem.length ≤ 1000) : Calls Tryz.prog 69 [.agg #[.slice a1 n1 c1, .slice a2 n2 c2, .slice a3 n3 c3, .slice a4 n4 c4], .int .i64 id].toArray w (rets fun rv w' => VL (ge w.heap.size) w' (rowsOf s id : List Row) rv ∧ Ext w w') := by
 refine goT Tryz.func69 ?_
 obtain ⟨rfl, bo, h1⟩ := h1.tp
 obtain ⟨rfl, bq, h2⟩ := h2.tp
 obtain ⟨rfl, br, h3⟩ := h3.tp
 obtain ⟨rfl, bt, h4⟩ := h4.tp
 refine .s <| .g <| .np 30 [.slice a1 s.idx.names.length c1, .slice a2 s.idx.posts.length c2, .slice a3 s.parts.length c3, .slice a4 s.mem.length c4] fun J bN ay ai C aM => ?_
 replace ⟨h3, h4⟩ := (sn [] ai ay).g2 h3 h4
 have E := ai
 clear ai aM ay
 refine .r 1 <| .d <| .s <| .g <| .ns 0 33 [] fun aj av af az aN aO => ?_
 have bu := nb_new af C.lt
 have aP := gb_new af E.size
 replace ⟨h3, h4, C, E⟩ := (sn [J] az af).g4 h3 h4 C E
 clear az aO af
 have aQ : Own (α := Row) av aj 33 (nin (ge w.heap.size) [aj, J]) 0 0 [] := Own.nil' aN
 refine .r 1 <| .d <| .s <| .s <| .g <| .r 1 <| .d <| .b 0 ?_
 have bg := aQ.sl aP
 replace ⟨h3, h4⟩ := (sd av [aj, J] aj).g2 h3 h4
 refine T.loop (X := (List Row) × (Option Addr) × Nat × Nat × Nat) (([] : List Row), some ⟨aj, 0, none⟩, 0, 0, 0) (fun (out, a_out, n_out, c_out, i) => [(1, vI id), (2, .pointer (some ⟨J, 0, none⟩)), (5, .slice a_out n_out c_out), (6, vI (i : Int))]) (fun (out, a_out, n_out, c_out, i) ab => Chg (ins []) av ab ∧ RepS ab (nin (ge w.heap.size) [J]) a_out n_out c_out out ∧ (i ≤ s.parts.length) ∧ (out.length ≤ 1000 * i) ∧ ((s.parts.drop i).foldl (rowsP id) out = s.parts.foldl (rowsP id) [])) (fun (out, a_out, n_out, c_out, i) => s.parts.length - i) (by kernel_rfl) ⟨by kernel_rfl, by kernel_rfl, by kernel_rfl, by kernel_rfl, trivial⟩ ⟨Chg.refl _ _, bg, (by simp), (by simp), (by simp)⟩ ?_
 rintro ⟨out, a_out, n_out, c_out, i⟩ bO ab ⟨V, O, bv, bw, bz⟩ ak
 have aA : Mv [J] [J] av ab := Mv.inl V all_nil (all_cons (.inl (.head _)) all_nil)
 replace ⟨h3, h4, C, E⟩ := (sp aA V).g4 h3 h4 C E
 clear aA
 have bA := O.len; have bB := O.max
 refine .s <| .s <| .g <| .r 2 <| .lb C <| .r 1 <| .bp ((i : Int) < (s.parts.length : Int)) (fun aR => ?_) (fun aR => ?_)
 ·refine .d <| .ct <| .sk <| .s <| .b 1 <| .g <| .r 2 <| .lb C <| .r 1 ?_
  have aS : i < s.parts.length := (by omega)
  refine .ix i 2 h3 aS ?_
  obtain ⟨al, am⟩ : ∃ y, s.parts[i]? = some y := ⟨_, List.getElem?_eq_getElem (by omega)⟩
  have bC := drop_at am; have bd := List.mem_of_getElem? am
  obtain ⟨_, ⟨bP, bQ, bR, bS, bT, bU, rfl, aF, aG⟩, aT⟩ := h3.elem i al am
  have aU := aF.len
  subst aU
  have bD := aF.max
  have aV := aG.len
  subst aV
  have bE := aG.max
  refine .lg 0 aT <| .r 1 <| .cl (c_spec_l12Of al id aF aG (by grind [PrtSz]) (w := ab) (F := nin (fo F w.heap.size) [J])) ?_
  rintro bV aW ⟨⟨bW, bX, rfl, aw⟩, aB⟩
  have aC := al1 C.lt
  have aX : Gb w.heap.size ab.heap.size := E.size
  replace ⟨h4, C, O, E, V⟩ := (se [J] aB).g5 h4 C O E V
  clear aB
  replace aw := RepS.mixed' (M := [J]) aw aC aX
  have bF := aw.max
  clear aC
  refine .cl (c_spec_l2Merge out (partOf al id) O.ta aw.ta (by grind [partOf_len]) (w := aW) (F := all)) ?_
  rintro bY bZ ⟨⟨bh, bi, rfl, ax⟩, aD⟩
  have aE := al1 C.lt
  have aY : Gb w.heap.size aW.heap.size := E.size
  replace ⟨h4, C, O, E, V⟩ := (se [J] aD).g5 h4 C O E V
  clear aD
  have ax := ax.fr aE aY
  have bG := ax.max
  clear aE
  exact .r 1 <| .d <| .ib 1 <| .g <| .r 1 <| .it ((i : Int) + 1) <| .r 1 <| .d <| ak (sMerge out (partOf al id), bh, (sMerge out (partOf al id)).length, bi, i + 1) _ _ ⟨by kernel_rfl, by kernel_rfl, by kernel_rfl, by kernel_rfl, trivial⟩ ⟨V, ax, (by omega), (by grind [sMerge_len, partOf_len]), (by grind [rowsP, sMerge_len, partOf_len])⟩ (by (simp only []; omega))
 refine .d <| .cf <| .x 0 rfl <| .s <| .s <| .g <| .r 1 <| .d <| .b 2 <| T.loop (X := (List Row) × (Option Addr) × Nat × Nat × Nat) ((out : List Row), a_out, n_out, c_out, 0) (fun (out, a_out, n_out, c_out, i) => [(1, vI id), (2, .pointer (some ⟨J, 0, none⟩)), (5, .slice a_out n_out c_out), (7, vI (i : Int))]) (fun (out, a_out, n_out, c_out, i) ah => Chg (ins []) ab ah ∧ RepS ah (nin (ge w.heap.size) [J]) a_out n_out c_out out ∧ (i ≤ s.mem.length) ∧ (out.length ≤ 100000 + i) ∧ ((s.mem.drop i).foldl (rowsM id) out = rowsOf s id)) (fun (out, a_out, n_out, c_out, i) => s.mem.length - i) (by kernel_rfl) ⟨by kernel_rfl, by kernel_rfl, by kernel_rfl, by kernel_rfl, trivial⟩ ⟨Chg.refl _ _, O, (by grind [rowsOf, drop_end]), (by grind [rowsOf, drop_end]), (by grind [rowsOf, drop_end])⟩ ?_
 rintro ⟨out, a_out, n_out, c_out, i⟩ bH ah ⟨Z, W, bI, bJ, bK⟩ aa
 have ao : Mv [J] [J] ab ah := Mv.inl Z all_nil (all_cons (.inl (.head _)) all_nil)
 replace ⟨h4, C, E⟩ := (sp ao Z).g3 h4 C E
 clear ao
 have bj := W.len; have bk := W.max
 refine .s <| .s <| .g <| .r 2 <| .lb C <| .r 1 <| .bp ((i : Int) < (s.mem.length : Int)) (fun aH => ?_) (fun aH => .d <| .cf <| .x 2 rfl <| .s <| .g <| .r 2 <| .d <| .rt Tryz.func69 Tryz.results69 (.slice a_out n_out c_out) ⟨(W.vl (by grind [drop_end]) (fun _ _ h => h.1)), E⟩)
 refine .d <| .ct <| .sk <| .s <| .b 3 <| .s <| .g <| .r 1 <| .lb C <| .r 1 ?_
 have aI : i < s.mem.length := (by omega)
 refine .ix i 3 h4 aI <| .r 1 ?_
 obtain ⟨ac, ae⟩ : ∃ y, s.mem[i]? = some y := ⟨_, List.getElem?_eq_getElem (by omega)⟩
 have bm := drop_at ae; have aZ := List.mem_of_getElem? ae
 obtain ⟨_, rfl, aq⟩ := h4.elem i ac ae
 refine .lh 0 aq <| .r 1 <| .eq ac.id id (fun aJ => ?_) (fun aJ => .d <| .cf <| .sk <| .ib 3 <| .g <| .r 1 <| .it ((i : Int) + 1) <| .r 1 <| .d <| aa (out, a_out, n_out, c_out, i + 1) _ _ ⟨by kernel_rfl, by kernel_rfl, by kernel_rfl, by kernel_rfl, trivial⟩ ⟨Z, W, (by grind [rowsM, sPut_len]), (by grind [rowsM, sPut_len]), (by grind [rowsM, sPut_len])⟩ (by (simp only []; omega)))
 refine .d <| .ct <| .g <| .r 2 <| .lb C <| .r 1 ?_
 have aK : i < s.mem.length := (by omega)
 refine .ix i 3 h4 aK <| .r 1 <| .lg 1 aq <| .cl (c_spec_l2Put out ac.row W.ta (by omega) (w := ah) (F := all)) ?_
 rintro bL bM ⟨⟨ba, bc, rfl, ag⟩, ar⟩
 have au := al1 C.lt
 have aL : Gb w.heap.size ah.heap.size := E.size
 replace ⟨W, E, Z⟩ := (se [J] ar).g3 W E Z
 clear ar
 have ag := ag.fr au aL
 have bn := ag.max
 clear au
 exact .r 1 <| .d <| .ib 3 <| .g <| .r 1 <| .it ((i : Int) + 1) <| .r 1 <| .d <| aa (sPut out ac.row, ba, (sPut out ac.row).length, bc, i + 1) _ _ ⟨by kernel_rfl, by kernel_rfl, by kernel_rfl, by kernel_rfl, trivial⟩ ⟨Z, ag, (by grind [rowsM, sPut_len]), (by grind [rowsM, sPut_len]), (by grind [rowsM, sPut_len])⟩ (by (simp only []; omega))
theorem c_spec_l21At (d : Dsk) (num : Int) {w : World} {F : Nat → Prop} {a1 : Option Addr} {n1 c1 : Nat} (h1 : RepS w F a1 n1 c1 d.files) {a2 : Option Addr} {n2 c2 : Nat} (h2 : RepS w F a2 n2 c2 d.list) {a3 : Option Addr} {n3 c3 : Nat} (h3 : RepS w F a3 n3 c3 d.names)  : Calls Tryz.prog 96 [.agg #[.slice a1 n1 c1, .slice a2 n2 c2, .slice a3 n3 c3, .int .i64 d.next], .int .i64 num].toArray w (rets fun rv w' => rv = .int .i64 (numAt d num) ∧ Ext w w') := by
 refine goT Tryz.func96 ?_
 obtain ⟨rfl, au, h1⟩ := h1.tp
 obtain ⟨rfl, av, h2⟩ := h2.tp
 obtain ⟨rfl, aw, h3⟩ := h3.tp
 refine .s <| .g <| .np 83 [.slice a1 d.files.length c1, .slice a2 d.list.length c2, .slice a3 d.names.length c3, vI d.next] fun ab ae Z J C af => ?_
 replace h1 := (sn [] J Z).g1 h1
 have E := J
 clear J af Z
 refine .r 1 <| .d <| .s <| .s <| .g <| .r 1 <| .d <| .b 0 <| T.loop (X := Nat) 0 (fun i => [(1, vI num), (2, .pointer (some ⟨ab, 0, none⟩)), (5, vI (i : Int))]) (fun i ac => Chg (ins []) ae ac ∧ (i ≤ d.files.length) ∧ (numF num i (d.files.drop i) = numAt d num)) (fun i => d.files.length - i) (by kernel_rfl) ⟨by kernel_rfl, by kernel_rfl, by kernel_rfl, trivial⟩ ⟨Chg.refl _ _, (by simp [numAt]), (by simp [numAt])⟩ ?_
 rintro i aC ac ⟨O, ax, ay⟩ V
 have aa : Mv [ab] [ab] ae ac := Mv.inl O all_nil (all_cons (.inl (.head _)) all_nil)
 replace ⟨h1, C, E⟩ := (sp aa O).g3 h1 C E
 clear aa
 refine .s <| .s <| .g <| .r 2 <| .lb C <| .r 1 <| .bp ((i : Int) < (d.files.length : Int)) (fun ag => ?_) (fun ag => .d <| .cf <| .x 0 rfl <| .s <| .g <| .r 1 <| .d <| .rt Tryz.func96 Tryz.results96 (vI (-1)) ⟨(congrArg (Value.int .i64) (by grind [numF, drop_end])), E⟩)
 refine .d <| .ct <| .sk <| .s <| .b 1 <| .s <| .g <| .r 1 <| .lb C <| .r 1 ?_
 have ah : i < d.files.length := (by omega)
 refine .ix i 3 h1 ah <| .r 1 ?_
 obtain ⟨ai, W⟩ : ∃ y, d.files[i]? = some y := ⟨_, List.getElem?_eq_getElem (by omega)⟩
 have az := drop_at W; have ar := List.mem_of_getElem? W
 obtain ⟨_, ⟨aD, aE, aF, aG, aH, aI, rfl, aj, ak⟩, al⟩ := h1.elem i ai W
 have am := aj.len
 subst am
 have aA := aj.max
 have ao := ak.len
 subst ao
 have aB := ak.max
 exact .lh 0 al <| .r 1 <| .eq ai.num num (fun aq => .d <| .ct <| .s <| .g <| .r 2 <| .d <| .rt Tryz.func96 Tryz.results96 (vI (i : Int)) ⟨(congrArg (Value.int .i64) (by grind [numF, drop_end])), E⟩) fun aq => .d <| .cf <| .sk <| .ib 1 <| .g <| .r 1 <| .it ((i : Int) + 1) <| .r 1 <| .d <| V (i + 1) _ _ ⟨by kernel_rfl, by kernel_rfl, by kernel_rfl, trivial⟩ ⟨O, (by omega), (by grind [numF])⟩ (by omega)
theorem c_spec_l11At (ix : Idx) (n : List Tag) {w : World} {F : Nat → Prop} {a1 : Option Addr} {n1 c1 : Nat} (h1 : RepS w F a1 n1 c1 ix.names) {a2 : Option Addr} {n2 c2 : Nat} (h2 : RepS w F a2 n2 c2 ix.posts) {a3 : Option Addr} {n3 c3 : Nat} (h3 : RepS w F a3 n3 c3 n) (p0 : ix.names.length ≤ 1000) (p1 : ∀ n ∈ ix.names, NmSz n) (p2 : NmSz n) : Calls Tryz.prog 157 [.agg #[.slice a1 n1 c1, .slice a2 n2 c2], .slice a3 n3 c3].toArray w (rets fun rv w' => rv = .int .i64 (nmAt ix n) ∧ Ext w w') := by
 refine goT Tryz.func157 ?_
 obtain ⟨rfl, au, h1⟩ := h1.tp
 obtain ⟨rfl, av, h2⟩ := h2.tp
 obtain ⟨rfl, aw, h3⟩ := h3.tp
 refine .s <| .g <| .np 26 [.slice a1 ix.names.length c1, .slice a2 ix.posts.length c2] fun aa ai ac O J aj => ?_
 replace ⟨h1, h3⟩ := (sn [] O ac).g2 h1 h3
 have C := O
 clear O aj ac
 refine .r 1 <| .d <| .s <| .s <| .g <| .r 1 <| .d <| .b 0 <| T.loop (X := Nat) 0 (fun i => [(1, .slice a3 n.length c3), (2, .pointer (some ⟨aa, 0, none⟩)), (5, vI (i : Int))]) (fun i ab => Chg (ins []) ai ab ∧ (i ≤ ix.names.length) ∧ (nmF (text n) i (ix.names.drop i) = nmAt ix n)) (fun i => ix.names.length - i) (by kernel_rfl) ⟨by kernel_rfl, by kernel_rfl, by kernel_rfl, trivial⟩ ⟨Chg.refl _ _, (by simp [nmAt]), (by simp [nmAt])⟩ ?_
 rintro i aC ab ⟨E, ax, ay⟩ V
 have ae : Mv [aa] [aa] ai ab := Mv.inl E all_nil (all_cons (.inl (.head _)) all_nil)
 replace ⟨h1, h3, J, C⟩ := (sp ae E).g4 h1 h3 J C
 clear ae
 refine .s <| .s <| .g <| .r 2 <| .lb J <| .r 1 <| .bp ((i : Int) < (ix.names.length : Int)) (fun ak => ?_) (fun ak => .d <| .cf <| .x 0 rfl <| .s <| .g <| .r 1 <| .d <| .rt Tryz.func157 Tryz.results157 (vI 0) ⟨(congrArg (Value.int .i64) (by grind [nmF, drop_end])), C⟩)
 refine .d <| .ct <| .sk <| .s <| .b 1 <| .s <| .g <| .r 1 <| .lb J <| .r 1 ?_
 have al : i < ix.names.length := (by omega)
 refine .ix i 1 h1 al ?_
 obtain ⟨W, Z⟩ : ∃ y, ix.names[i]? = some y := ⟨_, List.getElem?_eq_getElem (by omega)⟩
 have az := drop_at Z; have aq := List.mem_of_getElem? Z
 obtain ⟨_, ⟨aD, aE, aF, rfl, ah⟩, am⟩ := h1.elem i W Z
 have ao := ah.len
 subst ao
 have aA := ah.max
 refine .lh 0 am <| .cl (c_spec_l3Text W ah.ta (by grind [NmSz]) (by grind [NmSz]) (w := ab) (F := all)) ?_
 rintro aG ar ⟨rfl, af⟩
 replace ⟨h3, C, E⟩ := (se [aa] af).g3 h3 C E
 clear af
 refine .r 1 <| .cl (c_spec_l3Text n h3.ta (by grind [NmSz]) (by grind [NmSz]) (w := ar) (F := all)) ?_
 rintro aH aI ⟨rfl, ag⟩
 replace ⟨C, E⟩ := (se [] ag).g2 C E
 clear ag
 refine RG.eqv (v := .bool ((text W == text n))) (by kernel_rfl) (s_eq (text W) (text n)) ?_
 cases aB : (text W == text n)
 ·exact .d <| .cf <| .sk <| .ib 1 <| .g <| .r 1 <| .it ((i : Int) + 1) <| .r 1 <| .d <| V (i + 1) _ _ ⟨by kernel_rfl, by kernel_rfl, by kernel_rfl, trivial⟩ ⟨E, (by omega), (by grind [nmF])⟩ (by omega)
 exact .d <| .ct <| .s <| .g <| .r 1 <| .it ((i : Int) + 1) <| .r 1 <| .d <| .rt Tryz.func157 Tryz.results157 (vI ((i : Int) + 1)) ⟨(congrArg (Value.int .i64) (by grind [nmF, drop_end])), C⟩
theorem c_spec_l21Counts (d : Dsk) (num : Int) {w : World} {F : Nat → Prop} {a1 : Option Addr} {n1 c1 : Nat} (h1 : RepS w F a1 n1 c1 d.files) {a2 : Option Addr} {n2 c2 : Nat} (h2 : RepS w F a2 n2 c2 d.list) {a3 : Option Addr} {n3 c3 : Nat} (h3 : RepS w F a3 n3 c3 d.names)  : Calls Tryz.prog 208 [.agg #[.slice a1 n1 c1, .slice a2 n2 c2, .slice a3 n3 c3, .int .i64 d.next], .int .i64 num].toArray w (rets fun rv w' => rv = .bool ((d.list.contains num)) ∧ Ext w w') := by
 refine goT Tryz.func208 ?_
 obtain ⟨rfl, am, h1⟩ := h1.tp
 obtain ⟨rfl, ao, h2⟩ := h2.tp
 obtain ⟨rfl, aq, h3⟩ := h3.tp
 refine .s <| .g <| .np 83 [.slice a1 d.files.length c1, .slice a2 d.list.length c2, .slice a3 d.names.length c3, vI d.next] fun ab ae Z J C af => ?_
 replace h2 := (sn [] J Z).g1 h2
 have E := J
 clear J af Z
 refine .r 1 <| .d <| .s <| .s <| .g <| .r 1 <| .d <| .b 0 <| T.loop (X := Nat) 0 (fun i => [(1, vI num), (2, .pointer (some ⟨ab, 0, none⟩)), (5, vI (i : Int))]) (fun i ac => Chg (ins []) ae ac ∧ (i ≤ d.list.length) ∧ ((d.list.drop i).contains num = d.list.contains num)) (fun i => d.list.length - i) (by kernel_rfl) ⟨by kernel_rfl, by kernel_rfl, by kernel_rfl, trivial⟩ ⟨Chg.refl _ _, (by simp), (by simp)⟩ ?_
 rintro i aw ac ⟨O, ar, au⟩ V
 have aa : Mv [ab] [ab] ae ac := Mv.inl O all_nil (all_cons (.inl (.head _)) all_nil)
 replace ⟨h2, C, E⟩ := (sp aa O).g3 h2 C E
 clear aa
 refine .s <| .s <| .g <| .r 2 <| .lb C <| .r 1 <| .bp ((i : Int) < (d.list.length : Int)) (fun ag => ?_) (fun ag => .d <| .cf <| .x 0 rfl <| .s <| .g <| .r 1 <| .d <| .rt Tryz.func208 Tryz.results208 (.bool false) ⟨(congrArg Value.bool (by grind [drop_end])), E⟩)
 refine .d <| .ct <| .sk <| .s <| .b 1 <| .s <| .g <| .r 1 <| .lb C <| .r 1 ?_
 have ah : i < d.list.length := (by omega)
 refine .ix i 1 h2 ah ?_
 obtain ⟨ai, W⟩ : ∃ y, d.list[i]? = some y := ⟨_, List.getElem?_eq_getElem (by omega)⟩
 have av := drop_at W; have al := List.mem_of_getElem? W
 obtain ⟨_, rfl, aj⟩ := h2.elem i ai W
 exact .lh 0 aj <| .r 1 <| .eq ai num (fun ak => .d <| .ct <| .s <| .g <| .r 1 <| .d <| .rt Tryz.func208 Tryz.results208 (.bool true) ⟨(congrArg Value.bool (by grind [drop_end])), E⟩) fun ak => .d <| .cf <| .sk <| .ib 1 <| .g <| .r 1 <| .it ((i : Int) + 1) <| .r 1 <| .d <| V (i + 1) _ _ ⟨by kernel_rfl, by kernel_rfl, by kernel_rfl, trivial⟩ ⟨O, (by omega), (by grind)⟩ (by omega)
theorem c_laws_lyIndex (a : Idx) (b : Idx) {w : World} {F : Nat → Prop} {a1 : Option Addr} {n1 c1 : Nat} (h1 : RepS w F a1 n1 c1 a.names) {a2 : Option Addr} {n2 c2 : Nat} (h2 : RepS w F a2 n2 c2 a.posts) {a3 : Option Addr} {n3 c3 : Nat} (h3 : RepS w F a3 n3 c3 b.names) {a4 : Option Addr} {n4 c4 : Nat} (h4 : RepS w F a4 n4 c4 b.posts)  : Calls Tryz.prog 42 [.agg #[.slice a1 n1 c1, .slice a2 n2 c2], .agg #[.slice a3 n3 c3, .slice a4 n4 c4]].toArray w (rets fun rv w' => rv = .bool ((a == b)) ∧ Ext w w') := by
 refine goT Tryz.func42 ?_
 obtain ⟨rfl, bv, h1⟩ := h1.tp
 obtain ⟨rfl, bw, h2⟩ := h2.tp
 obtain ⟨rfl, bz, h3⟩ := h3.tp
 obtain ⟨rfl, bA, h4⟩ := h4.tp
 refine .s <| .g <| .np 26 [.slice a1 a.names.length c1, .slice a2 a.posts.length c2] fun W bU ay af E aP => ?_
 replace ⟨h1, h2, h3, h4⟩ := (sn [] af ay).g4 h1 h2 h3 h4
 have C := af
 clear af aP ay
 refine .np 26 [.slice a3 b.names.length c3, .slice a4 b.posts.length c4] fun Z aQ az aA J aR => ?_
 replace ⟨h1, h2, h3, h4, E, C⟩ := (sn [W] aA az).g6 h1 h2 h3 h4 E C
 clear aA aR az
 refine .r 1 <| .d <| .s <| .s <| .g <| .r 1 <| .lb E <| .r 2 <| .lb J <| .r 1 <| .ne (a.names.length : Int) (b.names.length : Int) (fun aS => .r 9 <| .d <| .ct <| .s <| .g <| .r 1 <| .d <| .rt Tryz.func42 Tryz.results42 (.bool false) ⟨(congrArg Value.bool (by cases a; cases b; grind [drop_end, pst_eq])), C⟩) fun aS => .r 2 <| .lb E <| .r 2 <| .lb J <| .r 1 <| .ne (a.posts.length : Int) (b.posts.length : Int) (fun aT => .r 1 <| .d <| .ct <| .s <| .g <| .r 1 <| .d <| .rt Tryz.func42 Tryz.results42 (.bool false) ⟨(congrArg Value.bool (by cases a; cases b; grind [drop_end, pst_eq])), C⟩) fun aT => .r 1 <| .d <| .cf <| .sk <| .s <| .s <| .g <| .r 1 <| .d <| .b 0 <| T.loop (X := Nat) 0 (fun k => [(2, .pointer (some ⟨W, 0, none⟩)), (3, .pointer (some ⟨Z, 0, none⟩)), (5, vI (k : Int))]) (fun k ag => Chg (ins []) aQ ag ∧ (k ≤ a.names.length) ∧ (a.names.drop k = b.names.drop k ↔ a.names = b.names)) (fun k => a.names.length - k) (by kernel_rfl) ⟨by kernel_rfl, by kernel_rfl, by kernel_rfl, trivial⟩ ⟨Chg.refl _ _, (by simp), (by simp)⟩ ?_
 rintro k bV ag ⟨V, bB, bC⟩ ah
 have aB : Mv [Z, W] [Z, W] aQ ag := Mv.inl V all_nil (all_cons (.inl (.head _)) (all_cons (.inl (.tail _ (.head _))) all_nil))
 replace ⟨h1, h2, h3, h4, E, J, C⟩ := (sp aB V).g7 h1 h2 h3 h4 E J C
 clear aB
 refine .s <| .s <| .g <| .r 2 <| .lb E <| .r 1 <| .bp ((k : Int) < (a.names.length : Int)) (fun aU => ?_) (fun aU => ?_)
 ·refine .d <| .ct <| .sk <| .s <| .b 1 <| .s <| .gd nil 10 fun bW aC => ?_
  replace ⟨h1, h2, h3, h4, E, J, C, V⟩ := (se [Z, W] aC).g8 h1 h2 h3 h4 E J C V
  clear aC
  refine .r [0] <| .lb 1 E id <| .r [2] ?_
  have aV : k < a.names.length := (by omega)
  refine .ix 3 k 1 h1 aV ?_
  obtain ⟨aH, ai⟩ : ∃ y, a.names[k]? = some y := ⟨_, List.getElem?_eq_getElem (by omega)⟩
  have bD := drop_at ai; have bi := List.mem_of_getElem? ai
  obtain ⟨_, ⟨bX, bY, bZ, rfl, aj⟩, aW⟩ := h1.elem k aH ai
  have aX := aj.len
  subst aX
  have bE := aj.max
  refine .lh 4 0 aW id <| .r [5] <| .lb 6 J id <| .r [7] ?_
  have aY : k < b.names.length := (by omega)
  refine .ix 8 k 1 h3 aY ?_
  obtain ⟨aI, ak⟩ : ∃ y, b.names[k]? = some y := ⟨_, List.getElem?_eq_getElem (by omega)⟩
  have bF := drop_at ak; have bj := List.mem_of_getElem? ak
  obtain ⟨_, ⟨b0, b6, b7, rfl, al⟩, aZ⟩ := h3.elem k aI ak
  have ba := al.len
  subst ba
  have bG := al.max
  refine .lh 9 0 aZ id <| .d fun bm aD => ?_
  replace ⟨h2, h4, E, J, aj, al, C, V⟩ := (se [Z, W] aD).g8 h2 h4 E J aj al C V
  clear aD
  refine .cl (c_laws_lyName aH aI aj.ta al.ta (w := bm) (F := all)) ?_
  rintro b8 b9 ⟨rfl, aE⟩
  replace ⟨h2, h4, E, J, C, V⟩ := (se [Z, W] aE).g6 h2 h4 E J C V
  clear aE
  cases bH : (aH == aI)
  ·exact .r 1 <| .d <| .ct <| .s <| .g <| .r 1 <| .d <| .rt Tryz.func42 Tryz.results42 (.bool false) ⟨(congrArg Value.bool (by cases a; cases b; grind [drop_end, pst_eq])), C⟩
  exact .r 1 <| .d <| .cf <| .sk <| .ib 1 <| .g <| .r 1 <| .it ((k : Int) + 1) <| .r 1 <| .d <| ah (k + 1) _ _ ⟨by kernel_rfl, by kernel_rfl, by kernel_rfl, trivial⟩ ⟨V, (by omega), (by grind)⟩ (by omega)
 refine .d <| .cf <| .x 0 rfl <| .s <| .s <| .g <| .r 1 <| .d <| .b 2 <| T.loop (X := Nat) 0 (fun k => [(2, .pointer (some ⟨W, 0, none⟩)), (3, .pointer (some ⟨Z, 0, none⟩)), (6, vI (k : Int))]) (fun k aJ => Chg (ins []) ag aJ ∧ (k ≤ a.posts.length) ∧ (a.names = b.names) ∧ (a.posts.drop k = b.posts.drop k ↔ a.posts = b.posts)) (fun k => a.posts.length - k) (by kernel_rfl) ⟨by kernel_rfl, by kernel_rfl, by kernel_rfl, trivial⟩ ⟨Chg.refl _ _, (by grind [drop_end]), (by grind [drop_end]), (by grind [drop_end])⟩ ?_
 rintro k cd aJ ⟨O, bI, bJ, bK⟩ am
 have aF : Mv [Z, W] [Z, W] ag aJ := Mv.inl O all_nil (all_cons (.inl (.head _)) (all_cons (.inl (.tail _ (.head _))) all_nil))
 replace ⟨h2, h4, E, J, C⟩ := (sp aF O).g5 h2 h4 E J C
 clear aF
 refine .s <| .s <| .g <| .r 2 <| .lb E <| .r 1 <| .bp ((k : Int) < (a.posts.length : Int)) (fun bc => ?_) (fun bc => .d <| .cf <| .x 2 rfl <| .s <| .g <| .r 1 <| .d <| .rt Tryz.func42 Tryz.results42 (.bool true) ⟨(congrArg Value.bool (by cases a; cases b; grind [drop_end, pst_eq])), C⟩)
 refine .d <| .ct <| .sk <| .s <| .b 3 <| .s <| .gd nil 26 fun ce aG => ?_
 replace ⟨h2, h4, E, J, C, O⟩ := (se [Z, W] aG).g6 h2 h4 E J C O
 clear aG
 refine .r [0] <| .lb 1 E id <| .r [2] ?_
 have bd : k < a.posts.length := (by omega)
 refine .ix 3 k 3 h2 bd <| .r [4] ?_
 obtain ⟨ao, aq⟩ : ∃ y, a.posts[k]? = some y := ⟨_, List.getElem?_eq_getElem (by omega)⟩
 have bn := drop_at aq; have bk := List.mem_of_getElem? aq
 obtain ⟨_, ⟨bL, bM, bN, rfl, aa⟩, ar⟩ := h2.elem k ao aq
 have aK := aa.len
 subst aK
 have bo := aa.max
 refine .lg 5 0 ar id <| .r [6] <| .lb 7 J id <| .r [8] ?_
 have aL : k < b.posts.length := (by omega)
 refine .ix 9 k 3 h4 aL <| .r [10] ?_
 obtain ⟨ac, ae⟩ : ∃ y, b.posts[k]? = some y := ⟨_, List.getElem?_eq_getElem (by omega)⟩
 have bq := drop_at ae; have bg := List.mem_of_getElem? ae
 obtain ⟨_, ⟨bO, bP, bQ, rfl, ab⟩, au⟩ := h4.elem k ac ae
 have aM := ab.len
 subst aM
 have br := ab.max
 refine .lg 11 0 au id <| GA.tagNe (i := 12) (t := 112) (x := ao.tag) (y := ac.tag) (by kernel_rfl) (by kernel_rfl) (by kernel_rfl) ?_
 cases bt : (ao.tag == ac.tag)
 ·refine .r [13, 14, 15, 16, 17, 18, 19, 20, 21, 22, 23, 24, 25] <| .d fun bR av => ?_
  replace ⟨h2, h4, E, J, aa, ab, C, O⟩ := (se [Z, W] av).g8 h2 h4 E J aa ab C O
  clear av
  exact .r 3 <| .d <| .ct <| .s <| .g <| .r 1 <| .d <| .rt Tryz.func42 Tryz.results42 (.bool false) ⟨(congrArg Value.bool (by cases a; cases b; grind [drop_end, pst_eq])), C⟩
 refine .r [13, 14] <| .lb 15 E id <| .r [16] ?_
 have aN : k < a.posts.length := (by omega)
 refine .ix 17 k 3 h2 aN <| .r [18] <| .lh 19 2 ar id <| .r [20] <| .lb 21 J id <| .r [22] ?_
 have aO : k < b.posts.length := (by omega)
 refine .ix 23 k 3 h4 aO <| .r [24] <| .lh 25 2 au id <| .d fun bh aw => ?_
 replace ⟨aa, ab, C, O⟩ := (se [Z, W] aw).g4 aa ab C O
 clear aw
 refine .cl (c_laws_lyInts ao.ids ac.ids aa.ta ab.ta (w := bh) (F := all)) ?_
 rintro bS bT ⟨rfl, ax⟩
 replace ⟨C, O⟩ := (se [] ax).g2 C O
 clear ax
 cases bu : (ao.ids == ac.ids)
 ·exact .r 2 <| .d <| .ct <| .s <| .g <| .r 1 <| .d <| .rt Tryz.func42 Tryz.results42 (.bool false) ⟨(congrArg Value.bool (by cases a; cases b; grind [drop_end, pst_eq])), C⟩
 exact .r 2 <| .d <| .cf <| .sk <| .ib 3 <| .g <| .r 1 <| .it ((k : Int) + 1) <| .r 1 <| .d <| am (k + 1) _ _ ⟨by kernel_rfl, by kernel_rfl, by kernel_rfl, trivial⟩ ⟨O, (by grind [pst_eq]), (by grind [pst_eq]), (by grind [pst_eq])⟩ (by omega)
theorem c_laws_lyStore (a : Sto) (b : Sto) {w : World} {F : Nat → Prop} {a1 : Option Addr} {n1 c1 : Nat} (h1 : RepS w F a1 n1 c1 a.idx.names) {a2 : Option Addr} {n2 c2 : Nat} (h2 : RepS w F a2 n2 c2 a.idx.posts) {a3 : Option Addr} {n3 c3 : Nat} (h3 : RepS w F a3 n3 c3 a.parts) {a4 : Option Addr} {n4 c4 : Nat} (h4 : RepS w F a4 n4 c4 a.mem) {a5 : Option Addr} {n5 c5 : Nat} (h5 : RepS w F a5 n5 c5 b.idx.names) {a6 : Option Addr} {n6 c6 : Nat} (h6 : RepS w F a6 n6 c6 b.idx.posts) {a7 : Option Addr} {n7 c7 : Nat} (h7 : RepS w F a7 n7 c7 b.parts) {a8 : Option Addr} {n8 c8 : Nat} (h8 : RepS w F a8 n8 c8 b.mem)  : Calls Tryz.prog 18 [.agg #[.slice a1 n1 c1, .slice a2 n2 c2, .slice a3 n3 c3, .slice a4 n4 c4], .agg #[.slice a5 n5 c5, .slice a6 n6 c6, .slice a7 n7 c7, .slice a8 n8 c8]].toArray w (rets fun rv w' => rv = .bool ((a == b)) ∧ Ext w w') := by
 refine goT Tryz.func18 ?_
 obtain ⟨rfl, bv, h1⟩ := h1.tp
 obtain ⟨rfl, bw, h2⟩ := h2.tp
 obtain ⟨rfl, bz, h3⟩ := h3.tp
 obtain ⟨rfl, bA, h4⟩ := h4.tp
 obtain ⟨rfl, bB, h5⟩ := h5.tp
 obtain ⟨rfl, bC, h6⟩ := h6.tp
 obtain ⟨rfl, bD, h7⟩ := h7.tp
 obtain ⟨rfl, bE, h8⟩ := h8.tp
 refine .s <| .g <| .np 30 [.slice a1 a.idx.names.length c1, .slice a2 a.idx.posts.length c2, .slice a3 a.parts.length c3, .slice a4 a.mem.length c4] fun W bT az ae E aN => ?_
 replace ⟨h1, h2, h3, h4, h5, h6, h7, h8⟩ := (sn [] ae az).g8 h1 h2 h3 h4 h5 h6 h7 h8
 have C := ae
 clear ae aN az
 refine .np 30 [.slice a5 b.idx.names.length c5, .slice a6 b.idx.posts.length c6, .slice a7 b.parts.length c7, .slice a8 b.mem.length c8] fun Z bi aA aB J aO => ?_
 replace ⟨h1, h2, h3, h4, h5, h6, h7, h8, E, C⟩ := (sn [W] aB aA).g10 h1 h2 h3 h4 h5 h6 h7 h8 E C
 clear aB aO aA
 refine .r 1 <| .d <| .s <| .s <| .g <| .r 1 <| .ln E <| .r 1 <| .ln J <| .cl (c_laws_lyIndex a.idx b.idx h1.ta h2.ta h5.ta h6.ta (w := bi) (F := all)) ?_
 rintro bU aP ⟨rfl, aC⟩
 replace ⟨h3, h4, h7, h8, E, J, C⟩ := (se [Z, W] aC).g7 h3 h4 h7 h8 E J C
 clear aC
 cases bF : (a.idx == b.idx)
 ·exact .r 19 <| .d <| .ct <| .s <| .g <| .r 1 <| .d <| .rt Tryz.func18 Tryz.results18 (.bool false) ⟨(congrArg Value.bool (by cases a; cases b; grind [drop_end])), C⟩
 refine .r 3 <| .lb E <| .r 2 <| .lb J <| .r 1 <| .ne (a.parts.length : Int) (b.parts.length : Int) (fun aQ => .r 10 <| .d <| .ct <| .s <| .g <| .r 1 <| .d <| .rt Tryz.func18 Tryz.results18 (.bool false) ⟨(congrArg Value.bool (by cases a; cases b; grind [drop_end])), C⟩) fun aQ => .r 3 <| .lb E <| .r 2 <| .lb J <| .r 1 <| .ne (a.mem.length : Int) (b.mem.length : Int) (fun aR => .r 1 <| .d <| .ct <| .s <| .g <| .r 1 <| .d <| .rt Tryz.func18 Tryz.results18 (.bool false) ⟨(congrArg Value.bool (by cases a; cases b; grind [drop_end])), C⟩) fun aR => .r 1 <| .d <| .cf <| .sk <| .s <| .s <| .g <| .r 1 <| .d <| .b 0 <| T.loop (X := Nat) 0 (fun k => [(2, .pointer (some ⟨W, 0, none⟩)), (3, .pointer (some ⟨Z, 0, none⟩)), (5, vI (k : Int))]) (fun k af => Chg (ins []) aP af ∧ (k ≤ a.parts.length) ∧ (a.idx = b.idx) ∧ (a.parts.drop k = b.parts.drop k ↔ a.parts = b.parts)) (fun k => a.parts.length - k) (by kernel_rfl) ⟨by kernel_rfl, by kernel_rfl, by kernel_rfl, trivial⟩ ⟨Chg.refl _ _, (by grind), (by grind), (by grind)⟩ ?_
 rintro k bV af ⟨V, bG, bH, bI⟩ ag
 have aD : Mv [Z, W] [Z, W] aP af := Mv.inl V all_nil (all_cons (.inl (.head _)) (all_cons (.inl (.tail _ (.head _))) all_nil))
 replace ⟨h3, h4, h7, h8, E, J, C⟩ := (sp aD V).g7 h3 h4 h7 h8 E J C
 clear aD
 refine .s <| .s <| .g <| .r 2 <| .lb E <| .r 1 <| .bp ((k : Int) < (a.parts.length : Int)) (fun aS => ?_) (fun aS => ?_)
 ·refine .d <| .ct <| .sk <| .s <| .b 1 <| .s <| .gd nil 10 fun bW aE => ?_
  replace ⟨h3, h4, h7, h8, E, J, C, V⟩ := (se [Z, W] aE).g8 h3 h4 h7 h8 E J C V
  clear aE
  refine .r [0] <| .lb 1 E id <| .r [2] ?_
  have aT : k < a.parts.length := (by omega)
  refine .ix 3 k 2 h3 aT ?_
  obtain ⟨aF, ah⟩ : ∃ y, a.parts[k]? = some y := ⟨_, List.getElem?_eq_getElem (by omega)⟩
  have bJ := drop_at ah; have bg := List.mem_of_getElem? ah
  obtain ⟨_, ⟨bX, bY, bZ, b0, b6, b7, rfl, ai, aj⟩, aU⟩ := h3.elem k aF ah
  have aV := ai.len
  subst aV
  have bK := ai.max
  have aW := aj.len
  subst aW
  have bL := aj.max
  refine .lg 4 0 aU id <| .r [5] <| .lb 6 J id <| .r [7] ?_
  have aX : k < b.parts.length := (by omega)
  refine .ix 8 k 2 h7 aX ?_
  obtain ⟨aG, ak⟩ : ∃ y, b.parts[k]? = some y := ⟨_, List.getElem?_eq_getElem (by omega)⟩
  have bM := drop_at ak; have bh := List.mem_of_getElem? ak
  obtain ⟨_, ⟨b8, b9, cd, ce, cg, ci, rfl, al, am⟩, aY⟩ := h7.elem k aG ak
  have aZ := al.len
  subst aZ
  have bN := al.max
  have aH := am.len
  subst aH
  have bj := am.max
  refine .lg 9 0 aY id <| .d fun ba ao => ?_
  replace ⟨h4, h8, E, J, ai, aj, al, am, C, V⟩ := (se [Z, W] ao).g10 h4 h8 E J ai aj al am C V
  clear ao
  refine .cl (c_laws_lyPart aF aG ai.ta aj.ta al.ta am.ta (w := ba) (F := all)) ?_
  rintro bO bP ⟨rfl, aq⟩
  replace ⟨h4, h8, E, J, C, V⟩ := (se [Z, W] aq).g6 h4 h8 E J C V
  clear aq
  cases bk : (aF == aG)
  ·exact .r 1 <| .d <| .ct <| .s <| .g <| .r 1 <| .d <| .rt Tryz.func18 Tryz.results18 (.bool false) ⟨(congrArg Value.bool (by cases a; cases b; grind [drop_end])), C⟩
  exact .r 1 <| .d <| .cf <| .sk <| .ib 1 <| .g <| .r 1 <| .it ((k : Int) + 1) <| .r 1 <| .d <| ag (k + 1) _ _ ⟨by kernel_rfl, by kernel_rfl, by kernel_rfl, trivial⟩ ⟨V, (by grind), (by grind), (by grind)⟩ (by omega)
 refine .d <| .cf <| .x 0 rfl <| .s <| .s <| .g <| .r 1 <| .d <| .b 2 <| T.loop (X := Nat) 0 (fun k => [(2, .pointer (some ⟨W, 0, none⟩)), (3, .pointer (some ⟨Z, 0, none⟩)), (6, vI (k : Int))]) (fun k ar => Chg (ins []) af ar ∧ (k ≤ a.mem.length) ∧ (a.idx = b.idx) ∧ (a.parts = b.parts) ∧ (a.mem.drop k = b.mem.drop k ↔ a.mem = b.mem)) (fun k => a.mem.length - k) (by kernel_rfl) ⟨by kernel_rfl, by kernel_rfl, by kernel_rfl, trivial⟩ ⟨Chg.refl _ _, (by grind [drop_end]), (by grind [drop_end]), (by grind [drop_end]), (by grind [drop_end])⟩ ?_
 rintro k bQ ar ⟨O, bm, bn, bo, bq⟩ ac
 have au : Mv [Z, W] [Z, W] af ar := Mv.inl O all_nil (all_cons (.inl (.head _)) (all_cons (.inl (.tail _ (.head _))) all_nil))
 replace ⟨h4, h8, E, J, C⟩ := (sp au O).g5 h4 h8 E J C
 clear au
 refine .s <| .s <| .g <| .r 2 <| .lb E <| .r 1 <| .bp ((k : Int) < (a.mem.length : Int)) (fun aI => ?_) (fun aI => .d <| .cf <| .x 2 rfl <| .s <| .g <| .r 1 <| .d <| .rt Tryz.func18 Tryz.results18 (.bool true) ⟨(congrArg Value.bool (by cases a; cases b; grind [drop_end])), C⟩)
 refine .d <| .ct <| .sk <| .s <| .b 3 <| .s <| .gd nil 10 fun bR av => ?_
 replace ⟨h4, h8, E, J, C, O⟩ := (se [Z, W] av).g6 h4 h8 E J C O
 clear av
 refine .r [0] <| .lb 1 E id <| .r [2] ?_
 have aJ : k < a.mem.length := (by omega)
 refine .ix 3 k 3 h4 aJ ?_
 obtain ⟨aw, aa⟩ : ∃ y, a.mem[k]? = some y := ⟨_, List.getElem?_eq_getElem (by omega)⟩
 have br := drop_at aa; have bc := List.mem_of_getElem? aa
 obtain ⟨_, rfl, aK⟩ := h4.elem k aw aa
 refine .lg 4 0 aK id <| .r [5] <| .lb 6 J id <| .r [7] ?_
 have aL : k < b.mem.length := (by omega)
 refine .ix 8 k 3 h8 aL ?_
 obtain ⟨ax, ab⟩ : ∃ y, b.mem[k]? = some y := ⟨_, List.getElem?_eq_getElem (by omega)⟩
 have bt := drop_at ab; have bd := List.mem_of_getElem? ab
 obtain ⟨_, rfl, aM⟩ := h8.elem k ax ab
 refine .lg 9 0 aM id <| .d fun bS ay => ?_
 replace ⟨C, O⟩ := (se [] ay).g2 C O
 clear ay
 refine RG.smpNe (t := 51) (x := aw) (y := ax) (by kernel_rfl) (by kernel_rfl) ?_
 cases bu : (aw == ax)
 ·exact .d <| .ct <| .s <| .g <| .r 1 <| .d <| .rt Tryz.func18 Tryz.results18 (.bool false) ⟨(congrArg Value.bool (by cases a; cases b; grind [drop_end])), C⟩
 exact .d <| .cf <| .sk <| .ib 3 <| .g <| .r 1 <| .it ((k : Int) + 1) <| .r 1 <| .d <| ac (k + 1) _ _ ⟨by kernel_rfl, by kernel_rfl, by kernel_rfl, trivial⟩ ⟨O, (by grind), (by grind), (by grind), (by grind)⟩ (by omega)
end Go.Proofs.YtfnpaglcnmcnbaaGreat
namespace Go.Proofs.YtfnpaglcnmcnbaaGreat
section
variable {α : Type} [Rep α]
def RepL (w : World) (F : Nat → Prop) : List α → List Value → Prop
 | [], cs => cs = []
 | x :: xs, cs => Rep.rep w F x (cs.take (Rep.sz α)) ∧ RepL w F xs (cs.drop (Rep.sz α))
theorem RepL.len {w : World} {F : Nat → Prop} : ∀ {xs : List α} {cs : List Value}, RepL w F xs cs → cs.length = xs.length * Rep.sz α
 | [], cs, h => by simp only [RepL] at h; subst h; simp
 | x :: xs, cs, h => by
   have h1 := Rep.len h.1
   have h2 := RepL.len h.2
   have hp := Rep.pos (α := α)
   simp only [List.length_take, List.length_drop, List.length_cons, Nat.succ_mul] at *
   omega
theorem RepL.at {w : World} {F : Nat → Prop} : ∀ {xs : List α} {cs : List Value}, RepL w F xs cs → ∀ i x, xs[i]? = some x → Rep.rep w F x ((cs.drop (i * Rep.sz α)).take (Rep.sz α))
 | [], cs, _ => fun i x hx => by simp at hx
 | y :: ys, cs, h => fun i x hx => by
   cases i with
   | zero => simp at hx; subst hx; simpa using h.1
   | succ i =>
     simp only [List.getElem?_cons_succ] at hx
     have := RepL.at h.2 i x hx
     rw [List.drop_drop] at this
     rwa [Nat.succ_mul, Nat.add_comm]
theorem Own.lit {w : World} {r : Nat} {t : TypeId} {F : Nat → Prop} {n : Nat} {xs : List α} {cs : List Value} (h : Box w r t cs) (hn : n = xs.length) (hc : n ≤ maxLen) (hl : RepL w (fun b => F b ∧ b ≠ r) xs cs) : Own w r t F n n xs := by
 have hlen := hl.len
 refine ⟨hn, Nat.le_refl _, hc, ⟨cs.toArray, h, by simp [hlen, hn]⟩, fun i x hi => ⟨_, hl.at i x hi, ?_⟩⟩
 have hlt : i < xs.length := (List.getElem?_eq_some_iff.1 hi).1
 refine h.has _ _ ?_
 rw [List.length_take, List.length_drop, hlen]
 have : (i + 1) * Rep.sz α ≤ xs.length * Rep.sz α := Nat.mul_le_mul_right _ hlt
 rw [Nat.succ_mul] at this
 rw [Nat.min_eq_left (by omega)]
end
section
variable {P : Program} {n : Nat} {K : Env → World → Prop} {ops : Array Oper} {j : Nat} {e : Env} {w : World}
theorem RG.int32 (z : Int) (h : pvAt P n ops j e = some (.int .i32 (IntKind.i32.wrap z))) (hz : -2147483648 ≤ z ∧ z ≤ 2147483647)
 (H : RG P n K ops (j + 1) (putE e (opAt ops j).dst (.int .i32 z)) w) : RG P n K ops j e w :=
 RG.eqv h (by rw [IntWalk.i32_in z hz]) H
end
theorem rune1 (k : Nat) (h : k < 128) : Value.string (Utf8.encode (k : Int)) = .string (bs [UInt8.ofNat k]) := by
 refine congrArg Value.string ?_
 unfold Utf8.encode
 have hv : Utf8.valid (k : Int) = true := by
  unfold Utf8.valid
  simp
  omega
 simp only [hv, if_true]
 simp [h, bs]
end Go.Proofs.YtfnpaglcnmcnbaaGreat
namespace Go.Proofs.YtfnpaglcnmcnbaaGreat
def tagAt (k v : Nat) : Tag := ⟨[UInt8.ofNat k], [UInt8.ofNat v]⟩
def post1 (names : List (List Tag)) (t : Tag) : List Pst := if (ids names t).length > 0 then [⟨t, ids names t⟩] else []
def postsV (names : List (List Tag)) (k : Nat) : Nat → Nat → List Pst
 | 0, _ => []
 | f + 1, v => post1 names (tagAt k v) ++ postsV names k f (v + 1)
def postsK (names : List (List Tag)) : Nat → Nat → List Pst
 | 0, _ => []
 | f + 1, k => postsV names k 11 112 ++ postsK names f (k + 1)
def postsOf (names : List (List Tag)) : List Pst := postsK names 4 97
def idxOf (names : List (List Tag)) : Idx := ⟨names, postsOf names⟩
def addR (ix : Idx) (n : List Tag) : Idx × Int × Bool :=
 if nmAt ix n > 0 then (ix, nmAt ix n, true)
 else if !nameOk n || decide (ix.names.length ≥ 6) then (ix, 0, false)
 else (idxOf (ix.names ++ [n]), (ix.names.length : Int) + 1, true)
def memF (bl : List (List Row)) (m : Smp) : List (List Row) := bl.set (m.id - 1).toNat (sPut (bl.getD (m.id - 1).toNat []) m.row)
def memPart (mem : List Smp) : Prt := pMake (mem.foldl memF [[], [], [], [], [], []])
theorem memF_len (bl : List (List Row)) (m : Smp) : (memF bl m).length = bl.length := by simp [memF]
theorem memStep {l : List Smp} {i : Nat} {xs : List (List Row)} {m : Smp} {x : List Row} {Y : List (List Row)} (hi : (l.drop i).foldl memF xs = Y) (hd : l.drop i = m :: l.drop (i + 1)) (hx : xs[(m.id - 1).toNat]? = some x) :
 (l.drop (i + 1)).foldl memF (xs.set (m.id - 1).toNat (sPut x m.row)) = Y := by
 rw [hd, List.foldl_cons] at hi
 have : memF xs m = xs.set (m.id - 1).toNat (sPut x m.row) := by unfold memF; rw [List.getD_eq_getElem?_getD, hx]; rfl
 rw [this] at hi
 exact hi
theorem memLen {xs : List (List Row)} {j i : Nat} {x : List Row} {r : Row} (h : ∀ b ∈ xs, b.length ≤ i) (hx : xs[j]? = some x) : ∀ b ∈ xs.set j (sPut x r), b.length ≤ i + 1 := by
 intro b hb
 rcases List.mem_or_eq_of_mem_set hb with hb | rfl
 ·have := h b hb; omega
 ·have h1 := h x (List.mem_of_getElem? hx)
  have h2 := sPut_len x r
  omega
theorem postsV_at (names : List (List Tag)) (k v : Nat) (h : v ≤ 122) : postsV names k (123 - v) v = post1 names (tagAt k v) ++ postsV names k (123 - (v + 1)) (v + 1) := by
 rw [show 123 - v = (123 - (v + 1)) + 1 by omega]
 rfl
theorem postsK_at (names : List (List Tag)) (k : Nat) (h : k ≤ 100) : postsK names (101 - k) k = postsV names k 11 112 ++ postsK names (101 - (k + 1)) (k + 1) := by
 rw [show 101 - k = (101 - (k + 1)) + 1 by omega]
 rfl
theorem postsV_end (names : List (List Tag)) (k v : Nat) (h : 123 ≤ v) : postsV names k (123 - v) v = [] := by
 rw [show 123 - v = 0 by omega]; rfl
theorem postsK_end (names : List (List Tag)) (k : Nat) (h : 101 ≤ k) : postsK names (101 - k) k = [] := by
 rw [show 101 - k = 0 by omega]; rfl
end Go.Proofs.YtfnpaglcnmcnbaaGreat
namespace Go.Proofs.YtfnpaglcnmcnbaaGreat
set_option maxRecDepth 100000
set_option maxHeartbeats 4000000
theorem c_spec_l11Of (names : List (List Tag)) {w : World} {F : Nat → Prop} {a1 : Option Addr} {n1 c1 : Nat} (h1 : RepS w F a1 n1 c1 names) (p0 : names.length ≤ 1000) (p1 : ∀ n ∈ names, NmSz n) : Calls Tryz.prog 106 [.slice a1 n1 c1].toArray w (rets fun rv w' => VS (ge w.heap.size) w' (idxOf names : Idx) rv ∧ Ext w w') := by
 refine goT Tryz.func106 ?_
 obtain ⟨rfl, bY, h1⟩ := h1.tp
 refine .s <| .g <| .np 26 [.slice none 0 0, .slice none 0 0] fun V cE ax ay E bm => ?_
 have bZ : Cov nil w V := cov_new ax (Nat.le_refl _)
 replace h1 := (sn [] ay ax).g1 h1
 have C := ay
 clear ay bm ax
 refine .d <| .s <| .g <| .ns 0 130 [] fun am az ao aL bn bo => ?_
 have bq := nb_new ao E.lt
 have br := gb_new ao C.size
 have bt := C.cn ao
 replace ⟨h1, E, C⟩ := (sn [V] aL ao).g3 h1 E C
 clear aL bo ao
 have bu : Own (α := Pst) az am 130 (nin (ge w.heap.size) [am, V]) 0 0 [] := Own.nil' bn
 refine .r 1 <| .d <| .s <| .s <| .g <| .r 1 <| .d <| .b 0 <| T.loop (X := (List Pst) × Nat × Nat × Nat × Nat) (([] : List Pst), am, 0, 0, 97) (fun (posts, r_posts, n_posts, c_posts, k) => [(0, .slice a1 names.length c1), (2, .pointer (some ⟨V, 0, none⟩)), (3, vS r_posts n_posts c_posts), (4, .int .i32 (k : Int))]) (fun (posts, r_posts, n_posts, c_posts, k) ai => Chg (ins [am]) az ai ∧ Own ai r_posts 130 (nin (ge w.heap.size) [r_posts, V]) n_posts c_posts posts ∧ OrB r_posts am az.heap.size ∧ (97 ≤ k) ∧ (k ≤ 101) ∧ (posts.length ≤ 11 * (k - 97)) ∧ (posts ++ postsK names (101 - k) k = postsOf names)) (fun (posts, r_posts, n_posts, c_posts, k) => 101 - k) (by kernel_rfl) ⟨by kernel_rfl, by kernel_rfl, by kernel_rfl, by kernel_rfl, trivial⟩ ⟨Chg.refl _ _, bu, orb_refl, (by omega), (by omega), (by simp [postsOf]), (by simp [postsOf])⟩ ?_
 rintro ⟨posts, r_posts, n_posts, c_posts, k⟩ cF ai ⟨J, aa, aj, b0, b6, b7, b8⟩ aA
 have bv := nb_or' aj bq E.lt
 have bw := gb_or' aj br C.size
 have bz := cov_or' aj bt C.size
 have bA : Cov (ins [am]) az am := ⟨.inl (.head _)⟩
 have bB := cov_or' aj bA (Nat.le_refl _)
 have aM : Mv [am, V] [r_posts, V] az ai := Mv.inl J (all_cons (.head _) all_nil) (all_cons (orb_mem aj (.head _)) (all_cons (.inl (.tail _ (.head _))) all_nil))
 replace ⟨h1, E, C⟩ := (sp aM J).g3 h1 E C
 clear aM
 have b9 := aa.len; have cd := aa.max
 refine .s <| .s <| .g <| .r 1 <| .bp ((k : Int) ≤ 100) (fun bC => ?_) (fun bC => ?_)
 ·refine .d <| .ct <| .sk <| .s <| .b 1 <| .s <| .g <| .r 1 <| .d <| .b 2 <| T.loop (X := (List Pst) × Nat × Nat × Nat × Nat) ((posts : List Pst), r_posts, n_posts, c_posts, 112) (fun (Z, r_posts1, n_posts1, c_posts1, v) => [(0, .slice a1 names.length c1), (2, .pointer (some ⟨V, 0, none⟩)), (3, vS r_posts1 n_posts1 c_posts1), (4, .int .i32 (k : Int)), (5, .int .i32 (v : Int))]) (fun (Z, r_posts1, n_posts1, c_posts1, v) aK => Chg (ins [r_posts]) ai aK ∧ Own aK r_posts1 130 (nin (ge w.heap.size) [r_posts1, V]) n_posts1 c_posts1 Z ∧ OrB r_posts1 r_posts ai.heap.size ∧ (112 ≤ v) ∧ (v ≤ 123) ∧ (97 ≤ k) ∧ (k ≤ 100) ∧ (Z.length ≤ 11 * (k - 97) + (v - 112)) ∧ (Z ++ postsV names k (123 - v) v ++ postsK names (101 - (k + 1)) (k + 1) = postsOf names)) (fun (Z, r_posts1, n_posts1, c_posts1, v) => 123 - v) (by kernel_rfl) ⟨by kernel_rfl, by kernel_rfl, by kernel_rfl, by kernel_rfl, by kernel_rfl, trivial⟩ ⟨Chg.refl _ _, aa, orb_refl, (by omega), (by omega), (by omega), (by omega), (by omega), (by grind [postsK_at])⟩ ?_
  rintro ⟨Z, r_posts1, n_posts1, c_posts1, v⟩ cG aK ⟨W, O, ae, ce, cg, ci, cj, ck, cm⟩ aq
  have co := nb_or' ae bv E.lt
  have cp := cov_or' ae bz C.size
  have cq := cov_or' ae bB J.size
  have bD := orb_or' ae aj J.size
  have bE : Cov (ins [r_posts]) ai r_posts := ⟨.inl (.head _)⟩
  have cr := cov_or' ae bE (Nat.le_refl _)
  have aN : Mv [r_posts, V] [r_posts1, V] ai aK := Mv.inl W (all_cons (.head _) all_nil) (all_cons (orb_mem ae (.head _)) (all_cons (.inl (.tail _ (.head _))) all_nil))
  replace ⟨h1, E, C, J⟩ := (sp aN W).g4 h1 E C J
  clear aN
  have cu := O.len; have cv := O.max
  refine .s <| .s <| .g <| .r 1 <| .bp ((v : Int) ≤ 122) (fun bF => ?_) (fun bF => .d <| .cf <| .x 2 rfl <| .ib 1 <| .g <| .r 1 <| RG.int32 ((k : Int) + 1) (by kernel_rfl) (by omega) <| .r 1 <| .d <| aA (Z, r_posts1, n_posts1, c_posts1, k + 1) _ _ ⟨by kernel_rfl, by kernel_rfl, by kernel_rfl, by kernel_rfl, trivial⟩ ⟨J, O, bD, (by omega), (by omega), (by omega), (by grind [postsV_end])⟩ (by (simp only []; omega)))
  refine .d <| .ct <| .sk <| .s <| .b 3 <| .s <| .g <| .r 1 <| RG.eqv (v := .string (bs [UInt8.ofNat k])) (by kernel_rfl) (rune1 k (by omega)) <| .r 1 <| RG.eqv (v := .string (bs [UInt8.ofNat v])) (by kernel_rfl) (rune1 v (by omega)) <| .r 1 <| .np 112 [.string (bs []), .string (bs [])] fun ar cH af aO bG bH => ?_
  have cw := nb_new af E.lt
  have cx := nb_new af O.lt
  have cy := C.cn af
  have cz := J.cn af
  have cA := W.cn af
  replace ⟨h1, E, O, C, J, W⟩ := (sn [r_posts1, V] aO af).g6 h1 E O C J W
  clear aO bH af
  refine .sc [.string (bs [UInt8.ofNat k]), .string (bs [UInt8.ofNat v])] bG fun bI aP ak bJ => ?_
  replace ⟨h1, E, O, C, J, W⟩ := (so [ar, r_posts1, V] aP).g6 h1 E O C J W
  clear aP bJ
  refine .d <| .s <| .g <| .r 1 <| .ln ak <| .cl (c_spec_l11Ids names (⟨[UInt8.ofNat k], [UInt8.ofNat v]⟩ : Tag) h1.ta (by omega) (w := bI) (F := all)) ?_
  rintro cI bK ⟨⟨bP, bQ, rfl, av⟩, aQ⟩
  have aB := al3 ak.lt O.lt E.lt
  have aU : Gb w.heap.size bI.heap.size := C.size
  replace ⟨h1, E, O, ak, C, J, W⟩ := (se [ar, r_posts1, V] aQ).g7 h1 E O ak C J W
  clear aQ
  have av := av.fr aB aU
  have bR := av.max
  clear aB
  refine .r 1 <| .d <| .s <| .g <| .r 2 <| .bp ((((ids names (⟨[UInt8.ofNat k], [UInt8.ofNat v]⟩ : Tag)).length) : Int) > 0) (fun aV => ?_) (fun aV => ?_)
  ·refine .d <| .ct <| .g <| .r 1 <| .ln ak <| .r 2 <| .ns 1 130 [.string (bs [UInt8.ofNat k]), .string (bs [UInt8.ofNat v]), .slice bP ((ids names (⟨[UInt8.ofNat k], [UInt8.ofNat v]⟩ : Tag)).length) bQ] fun aR cB ag aC aW aX => ?_
   have aY := nb_new ag E.lt
   have aD := nb_new ag O.lt
   have aZ := nb_new ag ak.lt
   have ba := gb_new ag C.size
   replace ⟨h1, E, O, av, C, J, W⟩ := (se [ar, r_posts1, V] aC).g7 h1 E O av C J W
   clear aC aX ag
   have aw : nin (ge w.heap.size) [ar, r_posts1, V] aR ∧ aR ≠ r_posts1 := hap_mk ba (all_cons aZ (all_cons aD (all_cons aY all_nil))) aD
   refine RG.append1 (T := 24) (ty := 24) (y := (⟨(⟨[UInt8.ofNat k], [UInt8.ofNat v]⟩ : Tag), ids names (⟨[UInt8.ofNat k], [UInt8.ofNat v]⟩ : Tag)⟩ : Pst)) O aW (by kernel_rfl) (by kernel_rfl) ⟨_, _, _, rfl, av.oi⟩ aw (by omega) fun aE bL aS ab al aF => ?_
   have bc := orb_or al ae W.size
   replace ⟨h1, E, C, J, W⟩ := (sa [ar, r_posts1, V] aF al).g5 h1 E C J W
   clear aF
   replace ab := ab.rn r_posts1
   clear al
   have bS := ab.len; have bT := ab.max
   refine .r 1 <| .d <| .ib 3 <| .g <| .r 1 <| RG.int32 ((v : Int) + 1) (by kernel_rfl) (by omega) <| .r 1 <| .d ?_
   have bd : Mv [ar, aE, V] [aE, V] aS aS := Mv.less (all_cons (.tail _ (.head _)) (all_cons (.tail _ (.tail _ (.head _))) all_nil))
   replace ⟨h1, ab⟩ := (sp bd (Chg.refl nil _)).g2 h1 ab
   exact aq ((Z ++ [(⟨(⟨[UInt8.ofNat k], [UInt8.ofNat v]⟩ : Tag), ids names (⟨[UInt8.ofNat k], [UInt8.ofNat v]⟩ : Tag)⟩ : Pst)]), aE, n_posts1 + 1, bL, v + 1) _ _ ⟨by kernel_rfl, by kernel_rfl, by kernel_rfl, by kernel_rfl, by kernel_rfl, trivial⟩ ⟨W, ab, bc, (by omega), (by omega), (by omega), (by omega), (by omega), (by grind [postsV_at, post1, tagAt])⟩ (by (simp only []; omega))
  refine .d <| .cf <| .sk <| .ib 3 <| .g <| .r 1 <| RG.int32 ((v : Int) + 1) (by kernel_rfl) (by omega) <| .r 1 <| .d ?_
  have bg : Mv [ar, r_posts1, V] [r_posts1, V] bK bK := Mv.less (all_cons (.tail _ (.head _)) (all_cons (.tail _ (.tail _ (.head _))) all_nil))
  replace ⟨h1, O⟩ := (sp bg (Chg.refl nil _)).g2 h1 O
  exact aq (Z, r_posts1, n_posts1, c_posts1, v + 1) _ _ ⟨by kernel_rfl, by kernel_rfl, by kernel_rfl, by kernel_rfl, by kernel_rfl, trivial⟩ ⟨W, O, ae, (by omega), (by omega), (by omega), (by omega), (by omega), (by grind [postsV_at, post1, tagAt])⟩ (by (simp only []; omega))
 refine .d <| .cf <| .x 0 rfl <| .s <| .g <| .r 1 <| .cl (c_spec_l11Names names h1.ta (by grind [NmSz]) (by grind [NmSz]) (w := ai) (F := all)) ?_
 rintro cC cD ⟨⟨au, bM, bN, rfl, ac, ah⟩, aG⟩
 have aH := al2 aa.lt E.lt
 have bh : Gb w.heap.size ai.heap.size := C.size
 have bU := nb_ge ah E.lt
 have bV := nb_ge ah aa.lt
 have bi := gb_ge ah C.size
 replace ⟨E, aa, C⟩ := (sz [r_posts, V] aG ah).g3 E aa C
 clear aG ah
 replace ac := Own.take (s0 := w.heap.size) (M := [r_posts, V]) ac aH bh
 have bW := ac.len; have bX := ac.max
 clear aH
 refine .r 2 <| .sc [vS au bM bN, vS r_posts n_posts c_posts] E fun aT aI bj bk => ?_
 replace ⟨aa, ac, C⟩ := (so [au, r_posts, V] aI).g3 aa ac C
 clear aI bk
 refine .d ?_
 have aJ := ac.sl bi
 replace aa := (sd aT [au, r_posts, V] au).g1 aa
 have bO := aa.sl bw
 replace aJ := (sd aT [r_posts, V] r_posts).g1 aJ
 exact .rb Tryz.func106 Tryz.results106 bj ⟨(VS.of (y := (⟨names, posts⟩ : Idx)) ⟨_, rfl, ⟨_, _, _, _, _, _, rfl, aJ.w1, bO.w1⟩⟩ (by grind [idxOf, postsK_end])), C⟩
theorem c_spec_l13Mem (s : Sto) {w : World} {F : Nat → Prop} {a1 : Option Addr} {n1 c1 : Nat} (h1 : RepS w F a1 n1 c1 s.idx.names) {a2 : Option Addr} {n2 c2 : Nat} (h2 : RepS w F a2 n2 c2 s.idx.posts) {a3 : Option Addr} {n3 c3 : Nat} (h3 : RepS w F a3 n3 c3 s.parts) {a4 : Option Addr} {n4 c4 : Nat} (h4 : RepS w F a4 n4 c4 s.mem) (p0 : s.mem.length ≤ 1000) (p1 : ∀ m ∈ s.mem, 1 ≤ m.id ∧ m.id ≤ 6) : Calls Tryz.prog 130 [.agg #[.slice a1 n1 c1, .slice a2 n2 c2, .slice a3 n3 c3, .slice a4 n4 c4]].toArray w (rets fun rv w' => VS (ge w.heap.size) w' (memPart s.mem : Prt) rv ∧ Ext w w') := by
 refine goT Tryz.func130 ?_
 obtain ⟨rfl, bI, h1⟩ := h1.tp
 obtain ⟨rfl, bJ, h2⟩ := h2.tp
 obtain ⟨rfl, bK, h3⟩ := h3.tp
 obtain ⟨rfl, bL, h4⟩ := h4.tp
 refine .s <| .g <| .np 30 [.slice a1 s.idx.names.length c1, .slice a2 s.idx.posts.length c2, .slice a3 s.parts.length c3, .slice a4 s.mem.length c4] fun aa cg aF ao E aZ => ?_
 replace h4 := (sn [] ao aF).g1 h4
 have C := ao
 clear ao aZ aF
 refine .np 75 [.slice none 0 0, .slice none 0 0] fun ab ci aq aG J ba => ?_
 have bM := C.cn aq
 replace ⟨h4, E, C⟩ := (sn [aa] aG aq).g3 h4 E C
 clear aG ba aq
 refine .d <| .s <| .g <| .ns 6 42 [.slice none 0 0, .slice none 0 0, .slice none 0 0, .slice none 0 0, .slice none 0 0, .slice none 0 0] fun Z aE ag aH bc bd => ?_
 have bN := nb_new ag E.lt
 have bO := nb_new ag J.lt
 have bP := C.cn ag
 replace ⟨h4, E, J, C⟩ := (sn [ab, aa] aH ag).g4 h4 E J C
 clear aH bd ag
 have bg : Own (α := List Row) aE Z 42 (nin (ge w.heap.size) [Z, ab, aa]) 6 6 [([] : List Row), ([] : List Row), ([] : List Row), ([] : List Row), ([] : List Row), ([] : List Row)] := Own.lit bc rfl (by decide) ⟨⟨_, _, _, rfl, (RepS.nil' _ _ none 0 (by decide))⟩, ⟨_, _, _, rfl, (RepS.nil' _ _ none 0 (by decide))⟩, ⟨_, _, _, rfl, (RepS.nil' _ _ none 0 (by decide))⟩, ⟨_, _, _, rfl, (RepS.nil' _ _ none 0 (by decide))⟩, ⟨_, _, _, rfl, (RepS.nil' _ _ none 0 (by decide))⟩, ⟨_, _, _, rfl, (RepS.nil' _ _ none 0 (by decide))⟩, rfl⟩
 refine .r 1 <| .d <| .s <| .s <| .g <| .r 1 <| .d <| .b 0 <| T.loop (X := Nat × (List (List Row))) (0, ([([] : List Row), ([] : List Row), ([] : List Row), ([] : List Row), ([] : List Row), ([] : List Row)] : List (List Row))) (fun (i, xs) => [(1, .pointer (some ⟨aa, 0, none⟩)), (2, .pointer (some ⟨ab, 0, none⟩)), (3, vS Z 6 6), (4, vI (i : Int))]) (fun (i, xs) al => Chg (ins [Z]) aE al ∧ Own al Z 42 (nin (ge w.heap.size) [Z, ab, aa]) 6 6 xs ∧ (i ≤ s.mem.length) ∧ (xs.length = 6) ∧ (∀ b ∈ xs, b.length ≤ i) ∧ ((s.mem.drop i).foldl memF xs = s.mem.foldl memF [[], [], [], [], [], []])) (fun (i, xs) => s.mem.length - i) (by kernel_rfl) ⟨by kernel_rfl, by kernel_rfl, by kernel_rfl, by kernel_rfl, trivial⟩ ⟨Chg.refl _ _, bg, (by simp), (by simp), (by simp), (by simp)⟩ ?_
 rintro ⟨i, xs⟩ cj al ⟨W, O, bQ, bR, bS, bT⟩ ar
 have bU : Cov (ins [Z]) aE Z := ⟨.inl (.head _)⟩
 have aI : Mv [Z, ab, aa] [Z, ab, aa] aE al := Mv.inl W (all_cons (.head _) all_nil) (all_cons (.inl (.head _)) (all_cons (.inl (.tail _ (.head _))) (all_cons (.inl (.tail _ (.tail _ (.head _)))) all_nil)))
 replace ⟨h4, E, J, C⟩ := (sp aI W).g4 h4 E J C
 clear aI
 have bV := O.len; have bW := O.max
 refine .s <| .s <| .g <| .r 2 <| .lb E <| .r 1 <| .bp ((i : Int) < (s.mem.length : Int)) (fun bh => ?_) (fun bh => ?_)
 ·refine .d <| .ct <| .sk <| .s <| .b 1 <| .s <| .g <| .r 1 <| .lb E <| .r 1 ?_
  have aJ : i < s.mem.length := (by omega)
  refine RG.idx i (len := s.mem.length) (i := (i : Int)) (sz := 3) (by kernel_rfl) (by omega) aJ (h4.addr (Nat.zero_lt_of_lt aJ)) <| .r 1 ?_
  obtain ⟨V, ak⟩ : ∃ y, s.mem[i]? = some y := ⟨_, List.getElem?_eq_getElem (by omega)⟩
  have bX := drop_at ak; have bw := List.mem_of_getElem? ak
  obtain ⟨_, rfl, bi⟩ := h4.elem i V ak
  refine .lh 0 bi <| .r 1 <| .d <| .gd nil 15 fun bA aK => ?_
  replace ⟨h4, E, J, O, C, W⟩ := (se [Z, ab, aa] aK).g6 h4 E J O C W
  clear aK
  refine .r [0, 1] <| GA.int (i := 2) (V.id - 1) (by kernel_rfl) (by (have := p1 _ (by assumption); omega)) <| .r [3, 4] <| GA.int (i := 5) (V.id - 1) (by kernel_rfl) (by (have := p1 _ (by assumption); omega)) ?_
  have bj : (V.id - 1).toNat < 6 := (by (have := p1 _ (by assumption); omega))
  refine GA.idx (i := 6) (b := Z) (o := 0) ((V.id - 1).toNat) (len := 6) (z := V.id - 1) (sz := 1) (by kernel_rfl) (by (have := p1 _ (by assumption); omega)) bj rfl ?_
  obtain ⟨af, ah⟩ : ∃ y, xs[(V.id - 1).toNat]? = some y := ⟨_, List.getElem?_eq_getElem (by omega)⟩
  have bY := drop_at ah; have bz := List.mem_of_getElem? ah
  obtain ⟨_, ⟨bB, ck, bC, rfl, au⟩, av⟩ := O.elem ((V.id - 1).toNat) af ah
  replace au := au.weak (fun _ _ h => h.1)
  have bk := au.len
  subst bk
  have bZ := au.max
  replace av : Has bA ⟨Z, 0 + ((V.id - 1).toNat) * Rep.sz (List Row), none⟩ [.slice bB af.length bC] := by rw [Nat.zero_add]; exact av
  refine .lh 7 0 av id <| .r [8] <| .lb 9 E id <| .r [10] ?_
  have aL : i < s.mem.length := (by omega)
  refine GA.idx (i := 11) i (len := s.mem.length) (z := (i : Int)) (sz := 3) (by kernel_rfl) (by omega) aL (h4.addr (Nat.zero_lt_of_lt aL)) <| .r [12] ?_
  obtain ⟨_, rfl, bm⟩ := h4.elem i V ak
  refine .lg 13 1 bm id <| .go 14 <| .cl (fun aP aw => c_spec_l2Put af V.row (au.ta.ext aw) (by have aQ := ‹∀ b ∈ xs, b.length ≤ i› _ (by assumption); omega) (w := aP) (F := all)) ?_
  intro aP aw
  replace ⟨E, J, O, C, W⟩ := (se [Z, ab, aa] aw).g5 E J O C W
  rintro cm co ⟨⟨bD, bE, rfl, am⟩, ax⟩
  have aM := al3 O.lt J.lt E.lt
  have bn : Gb w.heap.size aP.heap.size := C.size
  have hkeep_ := ax
  replace ⟨E, J, O, C, W⟩ := (se [Z, ab, aa] ax).g5 E J O C W
  clear ax
  refine ⟨Ext.chg hkeep_, ?_⟩
  have am := am.fr aM bn
  have bF := am.max
  clear aM
  refine .d fun bo ay => ?_
  replace ⟨E, J, O, am, C, W⟩ := (se [Z, ab, aa] ay).g6 E J O am C W
  clear ay
  have aR : (V.id - 1).toNat < 6 := (by omega)
  refine RG.idx (b := Z) (o := 0) ((V.id - 1).toNat) (len := 6) (i := V.id - 1) (sz := 1) (by kernel_rfl) (by (have := p1 _ (by assumption); omega)) aR rfl ?_
  obtain ⟨_, ⟨aN, b0, aO, rfl, az⟩, ai⟩ := O.elem ((V.id - 1).toNat) af ah
  replace az := az.weak (fun _ _ h => h.1)
  have aS := az.len
  subst aS
  replace ai : Has bo ⟨Z, 0 + ((V.id - 1).toNat) * Rep.sz (List Row), none⟩ [.slice aN af.length aO] := by rw [Nat.zero_add]; exact ai
  refine RG.storeO (t' := 42) (i := ((V.id - 1).toNat)) (k := 0) (v := .slice bD ((sPut af V.row).length) bE) (cs := [.slice aN af.length aO]) (sPut af V.row) O ah ai (by kernel_rfl) (by kernel_rfl) (by kernel_rfl) ⟨_, _, _, rfl, am.oi⟩ fun b6 aT aA aU => ?_
  replace ⟨E, J, C, W⟩ := (s1 aA).g4 E J C W
  clear aA aU
  exact .d <| .ib 1 <| .g <| .r 1 <| RG.int ((i : Int) + 1) (by kernel_rfl) (by omega) <| .r 1 <| .d <| ar (i + 1, (xs.set ((V.id - 1).toNat) (sPut af V.row))) _ _ ⟨by kernel_rfl, by kernel_rfl, by kernel_rfl, by kernel_rfl, trivial⟩ ⟨W, aT, (by omega), (by simp; omega), (by exact memLen (by assumption) (by assumption)), (by exact memStep (by assumption) (by assumption) (by assumption))⟩ (by (simp only []; omega))
 refine .d <| .cf <| .x 0 rfl <| .s <| .g <| .r 1 <| .cl (c_spec_l12Make xs (O.rep) (by omega) (by intro b hb; have aQ := ‹∀ b ∈ xs, b.length ≤ i› _ hb; omega) (w := al) (F := all)) ?_
 rintro b7 b8 ⟨⟨_, rfl, ⟨bq, b9, br, bt, cd, bu, rfl, ac, ae⟩⟩, aB⟩
 have aj := al3 O.lt J.lt E.lt
 have aC : Gb w.heap.size al.heap.size := C.size
 replace ⟨J, C⟩ := (se [] aB).g2 J C
 clear aB
 have ac := ac.fr aj aC
 have bG := ac.max
 have ae := ae.fr aj aC
 have bH := ae.max
 clear aj
 have aV := ac.len
 subst aV
 have aW := ae.len
 subst aW
 refine .sc [.slice bq (((pMake xs).ids).length) br, .slice bt (((pMake xs).blocks).length) bu] J fun ce aD aX aY => ?_
 replace ⟨ac, ae, C⟩ := (so [Z, ab, aa] aD).g3 ac ae C
 clear aD aY
 exact .d <| .rb Tryz.func130 Tryz.results130 aX ⟨(VS.of (y := (pMake xs)) ⟨_, rfl, ⟨_, _, _, _, _, _, rfl, ac.w1, ae.w1⟩⟩ (by have aQ := drop_end (xs := s.mem) (k := i) (by omega); have bv : List.foldl memF xs (s.mem.drop i) = _ := (by assumption); rw [aQ] at bv; unfold memPart; rw [← bv]; rfl)), C⟩
end Go.Proofs.YtfnpaglcnmcnbaaGreat
namespace Go.Proofs.YtfnpaglcnmcnbaaGreat
def IdxSz (x : Idx) : Prop := x.names.length ≤ 1000 ∧ ∀ n ∈ x.names, NmSz n
def StoSz (s : Sto) : Prop := IdxSz s.idx ∧ s.parts.length ≤ 100 ∧ (∀ p ∈ s.parts, PrtSz p) ∧ s.mem.length ≤ 900
def flushR (s : Sto) : Sto × Bool :=
 if s.mem.length = 0 ∨ s.parts.length ≥ 6 then (s, false) else (⟨s.idx, s.parts ++ [memPart s.mem], []⟩, true)
def mergeP (ps : List Prt) (at_ : Nat) : List Prt := match ps[at_]?, ps[at_ + 1]? with
 | some x, some y => ps.take at_ ++ [pMerge x y] ++ ps.drop (at_ + 2)
 | _, _ => ps
def mergeR (s : Sto) (at_ : Int) : Sto × Bool :=
 if inR at_ 0 ((s.parts.length : Int) - 2) then (⟨s.idx, mergeP s.parts at_.toNat, s.mem⟩, true) else (s, false)
def addX (s : Sto) (n : List Tag) (r : Row) : Sto := ⟨(addR s.idx n).1, s.parts, s.mem ++ [⟨(addR s.idx n).2.1, r⟩]⟩
def addS (s : Sto) (n : List Tag) (r : Row) : Sto × Bool :=
 if !(addR s.idx n).2.2 || !rowOk r || decide (s.mem.length ≥ 20) then (s, false)
 else if (rowsOf (addX s n r) (addR s.idx n).2.1).length > 24 then (s, false) else (addX s n r, true)
theorem addR_hit {ix : Idx} {n : List Tag} (h : nmAt ix n > 0) : addR ix n = (ix, nmAt ix n, true) := by unfold addR; rw [if_pos h]
theorem addR_no {ix : Idx} {n : List Tag} (h : ¬ nmAt ix n > 0) (h2 : nameOk n = false ∨ (ix.names.length : Int) ≥ 6) : addR ix n = (ix, 0, false) := by
 unfold addR
 rw [if_neg h, if_pos]
 rcases h2 with h2 | h2
 ·simp [h2]
 ·simp; omega
theorem addR_new {ix : Idx} {n : List Tag} (h : ¬ nmAt ix n > 0) (h2 : nameOk n = true) (h3 : ¬ (ix.names.length : Int) ≥ 6) : addR ix n = (idxOf (ix.names ++ [n]), (ix.names.length : Int) + 1, true) := by
 unfold addR
 rw [if_neg h, if_neg]
 simp [h2]
 omega
theorem mergeP_at {ps : List Prt} {i : Nat} {x y : Prt} (hx : ps[i]? = some x) (hy : ps[i + 1]? = some y) : mergeP ps i = ps.take i ++ [pMerge x y] ++ ps.drop (i + 2) := by
 simp [mergeP, hx, hy]
theorem addS_1 {s : Sto} {n : List Tag} {r : Row} (h : (addR s.idx n).2.2 = false) : addS s n r = (s, false) := by unfold addS; rw [if_pos (by simp [h])]
theorem addS_2 {s : Sto} {n : List Tag} {r : Row} (h : rowOk r = false) : addS s n r = (s, false) := by unfold addS; rw [if_pos (by simp [h])]
theorem addS_3 {s : Sto} {n : List Tag} {r : Row} (h : (s.mem.length : Int) ≥ 20) : addS s n r = (s, false) := by unfold addS; rw [if_pos (by simp; omega)]
theorem addS_4 {s : Sto} {n : List Tag} {r : Row} (h1 : (addR s.idx n).2.2 = true) (h2 : rowOk r = true) (h3 : ¬ (s.mem.length : Int) ≥ 20) (h : ((rowsOf (addX s n r) (addR s.idx n).2.1).length : Int) > 24) : addS s n r = (s, false) := by
 unfold addS; rw [if_neg (by simp [h1, h2]; omega), if_pos (by omega)]
theorem addS_5 {s : Sto} {n : List Tag} {r : Row} (h1 : (addR s.idx n).2.2 = true) (h2 : rowOk r = true) (h3 : ¬ (s.mem.length : Int) ≥ 20) (h : ¬ ((rowsOf (addX s n r) (addR s.idx n).2.1).length : Int) > 24) : addS s n r = (addX s n r, true) := by
 unfold addS; rw [if_neg (by simp [h1, h2]; omega), if_neg (by omega)]
theorem mergeR_f {s : Sto} {a : Int} (h : inR a 0 ((s.parts.length : Int) - 2) = false) : mergeR s a = (s, false) := by unfold mergeR; rw [if_neg (by simp [h])]
theorem mergeR_t {s : Sto} {a : Int} {x y : Prt} (h : inR a 0 ((s.parts.length : Int) - 2) = true) (hx : s.parts[a.toNat]? = some x) (hy : s.parts[(a + 1).toNat]? = some y) :
 mergeR s a = (⟨s.idx, (([] ++ (s.parts.take a.toNat).drop 0) ++ [pMerge x y]) ++ ((s.parts.take s.parts.length).drop (a + 2).toNat), s.mem⟩, true) := by
 have h1 := inR_t h
 have e1 : (a + 1).toNat = a.toNat + 1 := by omega
 have e2 : (a + 2).toNat = a.toNat + 2 := by omega
 rw [e1] at hy
 unfold mergeR
 rw [if_pos h, mergeP_at hx hy, e2]
 simp
end Go.Proofs.YtfnpaglcnmcnbaaGreat
namespace Go.Proofs.YtfnpaglcnmcnbaaGreat
set_option maxRecDepth 100000
set_option maxHeartbeats 4000000
theorem c_spec_l11Add (ix : Idx) (n : List Tag) {w : World} {F : Nat → Prop} {a1 : Option Addr} {n1 c1 : Nat} (h1 : RepS w F a1 n1 c1 ix.names) {a2 : Option Addr} {n2 c2 : Nat} (h2 : RepS w F a2 n2 c2 ix.posts) {a3 : Option Addr} {n3 c3 : Nat} (h3 : RepS w F a3 n3 c3 n) (p0 : IdxSz ix) (p1 : NmSz n) : Calls Tryz.prog 105 [.agg #[.slice a1 n1 c1, .slice a2 n2 c2], .slice a3 n3 c3].toArray w (rets fun rv w' => (∃ v0, rv = .tuple #[v0, .int .i64 ((addR ix n).2.1), .bool ((addR ix n).2.2)] ∧ VS (fo F w.heap.size) w' ((addR ix n).1 : Idx) v0) ∧ Ext w w') := by
 refine goT Tryz.func105 ?_
 obtain ⟨rfl, cj, h1⟩ := h1.tp
 obtain ⟨rfl, ck, h2⟩ := h2.tp
 obtain ⟨rfl, cm, h3⟩ := h3.tp
 refine .s <| .g <| .np 26 [.slice a1 ix.names.length c1, .slice a2 ix.posts.length c2] fun aa cJ aS aB E bA => ?_
 replace ⟨h1, h2, h3⟩ := (sn [] aB aS).g3 h1 h2 h3
 have C := aB
 clear aB bA aS
 refine .np 26 [.slice none 0 0, .slice none 0 0] fun Z bV ay aT J bB => ?_
 have co := nb_new ay E.lt
 have cp := C.cn ay
 replace ⟨h1, h2, h3, E, C⟩ := (sn [aa] aT ay).g5 h1 h2 h3 E C
 clear aT bB ay
 refine .r 2 <| .d <| .s <| .g <| .ln E <| .r 1 <| .cl (c_spec_l11At ix n h1.ta h2.ta h3.ta p0.1 p0.2 p1 (w := bV) (F := all)) ?_
 rintro cK bW ⟨rfl, aU⟩
 replace ⟨h1, h2, h3, E, J, C⟩ := (se [Z, aa] aU).g6 h1 h2 h3 E J C
 clear aU
 refine .r 1 <| .d <| .s <| .s <| .g <| .r 1 <| .bp (nmAt ix n > 0) (fun bC => ?_) (fun bC => ?_)
 ·refine .d <| .ct <| .s <| .g <| .ln E <| .r 1 <| .sc [.slice a1 ix.names.length c1, .slice a2 ix.posts.length c2] J fun cL aV bD bE => ?_
  replace ⟨h1, h2, h3, E, C⟩ := (so [Z, aa] aV).g5 h1 h2 h3 E C
  clear aV bE
  exact .r 2 <| .d <| T.ret3 (v := .agg #[.slice a1 ix.names.length c1, .slice a2 ix.posts.length c2]) (v' := vI (nmAt ix n)) (v'' := .bool true) (by kernel_rfl) Tryz.func105 Tryz.results105 (Res1.cell (ad := ⟨Z, 0, none⟩) (by kernel_rfl) ((bD.has 0 [.slice a1 ix.names.length c1, .slice a2 ix.posts.length c2] (by kernel_rfl)).loadN (by kernel_rfl))) (Res1.tmp (by kernel_rfl)) (Res1.tmp (by kernel_rfl)) ⟨⟨_, (tup3 rfl (congrArg (Value.int .i64) (by (rw [addR_hit (by assumption)]))) (congrArg Value.bool (by (rw [addR_hit (by assumption)])))), (VS.of (y := ix) ⟨_, rfl, ⟨_, _, _, _, _, _, rfl, h1.w1, h2.w1⟩⟩ (by (rw [addR_hit (by assumption)])))⟩, C⟩
 refine .d <| .cf <| .sk <| .s <| .s <| .g <| .r 1 <| .cl (c_spec_NameOk n h3.ta (w := bW) (F := all)) ?_
 rintro cM bF ⟨rfl, aW⟩
 replace ⟨h1, h2, h3, E, J, C⟩ := (se [Z, aa] aW).g6 h1 h2 h3 E J C
 clear aW
 cases cq : (nameOk n)
 ·refine .r 7 <| .d <| .ct <| .s <| .g <| .ln E <| .sc [.slice a1 ix.names.length c1, .slice a2 ix.posts.length c2] J fun cN aX bG bH => ?_
  replace ⟨h1, h2, h3, E, C⟩ := (so [Z, aa] aX).g5 h1 h2 h3 E C
  clear aX bH
  exact .r 2 <| .d <| T.ret3 (v := .agg #[.slice a1 ix.names.length c1, .slice a2 ix.posts.length c2]) (v' := vI 0) (v'' := .bool false) (by kernel_rfl) Tryz.func105 Tryz.results105 (Res1.cell (ad := ⟨Z, 0, none⟩) (by kernel_rfl) ((bG.has 0 [.slice a1 ix.names.length c1, .slice a2 ix.posts.length c2] (by kernel_rfl)).loadN (by kernel_rfl))) (Res1.tmp (by kernel_rfl)) (Res1.tmp (by kernel_rfl)) ⟨⟨_, (tup3 rfl (congrArg (Value.int .i64) (by (rw [addR_no (by assumption) (.inl (by assumption))]))) (congrArg Value.bool (by (rw [addR_no (by assumption) (.inl (by assumption))])))), (VS.of (y := ix) ⟨_, rfl, ⟨_, _, _, _, _, _, rfl, h1.w1, h2.w1⟩⟩ (by (rw [addR_no (by assumption) (.inl (by assumption))])))⟩, C⟩
 refine .r 3 <| .lb E <| .r 1 <| .bp ((ix.names.length : Int) ≥ 6) (fun bI => ?_) (fun bI => ?_)
 ·refine .r 1 <| .d <| .ct <| .s <| .g <| .ln E <| .sc [.slice a1 ix.names.length c1, .slice a2 ix.posts.length c2] J fun cO aY bJ bK => ?_
  replace ⟨h1, h2, h3, E, C⟩ := (so [Z, aa] aY).g5 h1 h2 h3 E C
  clear aY bK
  exact .r 2 <| .d <| T.ret3 (v := .agg #[.slice a1 ix.names.length c1, .slice a2 ix.posts.length c2]) (v' := vI 0) (v'' := .bool false) (by kernel_rfl) Tryz.func105 Tryz.results105 (Res1.cell (ad := ⟨Z, 0, none⟩) (by kernel_rfl) ((bJ.has 0 [.slice a1 ix.names.length c1, .slice a2 ix.posts.length c2] (by kernel_rfl)).loadN (by kernel_rfl))) (Res1.tmp (by kernel_rfl)) (Res1.tmp (by kernel_rfl)) ⟨⟨_, (tup3 rfl (congrArg (Value.int .i64) (by (rw [addR_no (by assumption) (.inr (by assumption))]))) (congrArg Value.bool (by (rw [addR_no (by assumption) (.inr (by assumption))])))), (VS.of (y := ix) ⟨_, rfl, ⟨_, _, _, _, _, _, rfl, h1.w1, h2.w1⟩⟩ (by (rw [addR_no (by assumption) (.inr (by assumption))])))⟩, C⟩
 refine .r 1 <| .d <| .cf <| .sk <| .s <| .g <| .r 1 <| .lb E <| .cl (c_spec_l11Names ix.names h1.ta (by have := p0.1; omega) (by intro n hn; have := (p0.2 n hn).1; omega) (w := bF) (F := all)) ?_
 rintro cP cQ ⟨⟨al, cR, cS, rfl, W, am⟩, aZ⟩
 have ba := al2 J.lt E.lt
 have bL : Gb w.heap.size bF.heap.size := C.size
 have cr := nb_ge am E.lt
 have cu := nb_ge am J.lt
 have cv : Cov nil w al := cov_ge am C.size
 replace ⟨h3, E, J, C⟩ := (sz [Z, aa] aZ am).g4 h3 E J C
 clear aZ am
 replace W := Own.take (s0 := w.heap.size) (M := [Z, aa]) W ba bL
 replace W := W.base (G' := fo F w.heap.size) (fun _ _ h => .inr h)
 have cw := W.len; have cx := W.max
 clear ba
 refine .ns 0 112 [] fun aP bX af bc bM bN => ?_
 have bO := nb_new af E.lt
 have bP := nb_new af J.lt
 have bQ := nb_new af W.lt
 have bR := gb_new af C.size
 have cy := C.cn af
 replace ⟨h3, E, J, W, C⟩ := (sn [al, Z, aa] bc af).g5 h3 E J W C
 clear bc bN af
 have bS : Own (α := Tag) bX aP 112 (nin (fo F w.heap.size) [aP, al, Z, aa]) 0 0 [] := Own.nil' bM
 refine .r 1 <| RG.appendF (T := 31) (ty := 31) flat_tag bS h3 (by kernel_rfl) (by kernel_rfl) (fun b h e => h.2 (e ▸ (.head _))) (by have := p0.1; have := p1.1; omega) fun aQ bY cT ag ae bd => ?_
 have bZ := nb_or ae bO E.lt
 have b0 := nb_or ae bP J.lt
 have b6 := nb_or ae bQ W.lt
 have bi := gb_or ae bR C.size
 replace ⟨E, J, W, C⟩ := (sa [aP, al, Z, aa] bd ae).g4 E J W C
 clear bd
 replace ag := ag.rn aP
 clear ae
 have b7 := ag.len; have b8 := ag.max
 refine .ns 1 31 [vS aQ (0 + n.length) bY] fun bg bT ah aC bj bk => ?_
 have bm := nb_new ah E.lt
 have bn := nb_new ah J.lt
 have aD := nb_new ah W.lt
 have bo := gb_new ah C.size
 replace ⟨E, J, W, ag, C⟩ := (se [aQ, al, Z, aa] aC).g5 E J W ag C
 clear aC bk ah
 have bU := ag.sl (.inr bi)
 replace W := (sd bT [aQ, al, Z, aa] aQ).g1 W
 have aA : nin (fo F w.heap.size) [al, Z, aa] bg ∧ bg ≠ al := hap_mk (.inr bo) (all_cons aD (all_cons bn (all_cons bm all_nil))) aD
 refine RG.append1 (T := 23) (ty := 23) (y := ([] ++ n)) W bj (by kernel_rfl) (by kernel_rfl) ⟨_, _, _, rfl, bU.oi⟩ aA (by have := p0.1; have := p1.1; omega) fun ac cz bh ab aR aE => ?_
 replace ⟨E, J, C⟩ := (s1 aE).g3 E J C
 clear aE
 replace ab := ab.rn al
 clear aR
 have b9 := ab.len; have cd := ab.max
 refine .cl (c_spec_l11Of (ix.names ++ [([] ++ n)]) (ab.rep) (by have := p0.1; simp; omega) (by intro m hm; simp at hm; rcases hm with hm | rfl; exact p0.2 m hm; exact p1) (w := bh) (F := all)) ?_
 rintro cA cB ⟨⟨_, rfl, ⟨ao, cC, aq, ar, cD, au, rfl, O, V⟩⟩, aF⟩
 have av := al3 ab.lt J.lt E.lt
 have aG : Gb w.heap.size bh.heap.size := C.size
 replace ⟨J, ab, C⟩ := (se [ac, Z, aa] aF).g3 J ab C
 clear aF
 have O := O.fr av aG
 replace O := O.base (G' := fo F w.heap.size) (fun _ _ h => .inr h)
 have ce := O.max
 have V := V.fr av aG
 replace V := V.base (G' := fo F w.heap.size) (fun _ _ h => .inr h)
 have cg := V.max
 clear av
 have bq := O.len
 subst bq
 have br := V.len
 subst br
 refine .np 26 [.slice none 0 0, .slice none 0 0] fun ak cE ai aH bt bu => ?_
 have aI := nb_new ai J.lt
 have aJ := nb_new ai ab.lt
 have ci := C.cn ai
 replace ⟨J, O, V, C⟩ := (sn [ac, Z, aa] aH ai).g4 J O V C
 clear aH bu ai
 refine .sc [.slice ao (((idxOf (ix.names ++ [([] ++ n)])).names).length) aq, .slice ar (((idxOf (ix.names ++ [([] ++ n)])).posts).length) au] bt fun az aK aj bv => ?_
 replace ⟨J, O, V, C⟩ := (so [ak, ac, Z, aa] aK).g4 J O V C
 clear aK bv
 refine .d <| .s ?_
 replace O := O.into
 replace V := V.into
 have bw : Cov (mtb [ac, Z] az.heap.size) az Z := ⟨.inl (.inl (.tail _ (.head _)))⟩
 have aL : Gb (ak + 1) az.heap.size := aj.lt
 refine .gd (mtb [ac, Z] az.heap.size) 5 fun cF aM => ?_
 replace ⟨J, O, V, aj, C⟩ := (se [ak, ac, Z, aa] aM).g5 J O V aj C
 clear aM
 refine .ln 0 aj (nS_of (all_cons aJ (all_cons aI all_nil)) aL) <| .r [1] <| .lb 2 aj (nS_of (all_cons aJ (all_cons aI all_nil)) aL) <| .r [3] <| .go 4 <| GE.storeB (t' := 26) (o := 0) (v := .agg #[.slice ao (((idxOf (ix.names ++ [([] ++ n)])).names).length) aq, .slice ar (((idxOf (ix.names ++ [([] ++ n)])).posts).length) au]) [.slice ao (((idxOf (ix.names ++ [([] ++ n)])).names).length) aq, .slice ar (((idxOf (ix.names ++ [([] ++ n)])).posts).length) au] J (by kernel_rfl) (by kernel_rfl) (by kernel_rfl) fun cG aN => ?_
 replace ⟨O, V, C⟩ := (se [ak, ac, Z, aa] aN).g3 O V C
 clear aN
 intro cH aw ax bz
 have hkeep_ := Chg.toS aw (Cov.toS bw)
 clear bz
 replace ⟨O, V, C⟩ := (so [ak, ac, Z, aa] aw).g3 O V C
 clear aw
 refine ⟨hkeep_, ?_⟩
 refine .d fun cI aO => ?_
 replace ⟨ax, O, V, C⟩ := (se [ak, ac, Z, aa] aO).g4 ax O V C
 clear aO
 replace O := O.outof
 replace V := V.outof
 exact .r 2 <| .d <| T.ret3 (v := .agg #[.slice ao (((idxOf (ix.names ++ [([] ++ n)])).names).length) aq, .slice ar (((idxOf (ix.names ++ [([] ++ n)])).posts).length) au]) (v' := vI ((((idxOf (ix.names ++ [([] ++ n)])).names).length) : Int)) (v'' := .bool true) (by kernel_rfl) Tryz.func105 Tryz.results105 (Res1.cell (ad := ⟨Z, 0, none⟩) (by kernel_rfl) ((ax.has 0 [.slice ao (((idxOf (ix.names ++ [([] ++ n)])).names).length) aq, .slice ar (((idxOf (ix.names ++ [([] ++ n)])).posts).length) au] (by kernel_rfl)).loadN (by kernel_rfl))) (Res1.tmp (by kernel_rfl)) (Res1.tmp (by kernel_rfl)) ⟨⟨_, (tup3 rfl (congrArg (Value.int .i64) (by (rw [addR_new (by assumption) (by assumption) (by assumption)] <;> simp [idxOf]))) (congrArg Value.bool (by (rw [addR_new (by assumption) (by assumption) (by assumption)] <;> simp [idxOf])))), (VS.of (y := (idxOf (ix.names ++ [([] ++ n)]))) ⟨_, rfl, ⟨_, _, _, _, _, _, rfl, O.w1, V.w1⟩⟩ (by (rw [addR_new (by assumption) (by assumption) (by assumption)] <;> simp [idxOf])))⟩, C⟩
theorem c_spec_l13Flush (s : Sto) {w : World} {F : Nat → Prop} {a1 : Option Addr} {n1 c1 : Nat} (h1 : RepS w F a1 n1 c1 s.idx.names) {a2 : Option Addr} {n2 c2 : Nat} (h2 : RepS w F a2 n2 c2 s.idx.posts) {a3 : Option Addr} {n3 c3 : Nat} (h3 : RepS w F a3 n3 c3 s.parts) {a4 : Option Addr} {n4 c4 : Nat} (h4 : RepS w F a4 n4 c4 s.mem) (p0 : s.mem.length ≤ 1000) (p1 : ∀ m ∈ s.mem, 1 ≤ m.id ∧ m.id ≤ 6) : Calls Tryz.prog 80 [.agg #[.slice a1 n1 c1, .slice a2 n2 c2, .slice a3 n3 c3, .slice a4 n4 c4]].toArray w (rets fun rv w' => (∃ v0, rv = .tuple #[v0, .bool ((flushR s).2)] ∧ VS (fo F w.heap.size) w' ((flushR s).1 : Sto) v0) ∧ Ext w w') := by
 refine goT Tryz.func80 ?_
 obtain ⟨rfl, cg, h1⟩ := h1.tp
 obtain ⟨rfl, ci, h2⟩ := h2.tp
 obtain ⟨rfl, cj, h3⟩ := h3.tp
 obtain ⟨rfl, ck, h4⟩ := h4.tp
 refine .s <| .g <| .np 30 [.slice a1 s.idx.names.length c1, .slice a2 s.idx.posts.length c2, .slice a3 s.parts.length c3, .slice a4 s.mem.length c4] fun V cA aw ax E bu => ?_
 have cm : Cov nil w V := cov_new aw (Nat.le_refl _)
 replace ⟨h1, h2, h3, h4⟩ := (sn [] ax aw).g4 h1 h2 h3 h4
 have C := ax
 clear ax bu aw
 refine .np 30 [.slice none 0 0, .slice none 0 0, .slice none 0 0, .slice none 0 0] fun W ar aq aM J bv => ?_
 have co := nb_new aq E.lt
 have cp := C.cn aq
 replace ⟨h1, h2, h3, h4, E, C⟩ := (sn [V] aM aq).g6 h1 h2 h3 h4 E C
 clear aM bv aq
 refine .r 1 <| .d <| .s <| .s <| .g <| .r 1 <| .lb E <| .r 1 <| .eq (s.mem.length : Int) 0 (fun bw => ?_) (fun bw => ?_)
 ·refine .r 6 <| .d <| .ct <| .s <| .g <| .ln E <| .sc [.slice a1 s.idx.names.length c1, .slice a2 s.idx.posts.length c2, .slice a3 s.parts.length c3, .slice a4 s.mem.length c4] J fun cB aN bz bA => ?_
  replace ⟨h1, h2, h3, h4, E, C⟩ := (so [W, V] aN).g6 h1 h2 h3 h4 E C
  clear aN bA
  exact .r 1 <| .d <| .r2 Tryz.func80 Tryz.results80 (.bx bz) (.t (.bool false)) ⟨⟨_, (tup2 rfl (congrArg Value.bool (by (unfold flushR; (rw [if_pos (by omega)]))))), (VS.of (y := s) ⟨_, rfl, ⟨_, _, _, _, _, _, _, _, _, _, _, _, rfl, h1.w1, h2.w1, h3.w1, h4.w1⟩⟩ (by (unfold flushR; (rw [if_pos (by omega)]))))⟩, C⟩
 refine .r 2 <| .lb E <| .r 1 <| .bp ((s.parts.length : Int) ≥ 6) (fun bB => ?_) (fun bB => ?_)
 ·refine .r 1 <| .d <| .ct <| .s <| .g <| .ln E <| .sc [.slice a1 s.idx.names.length c1, .slice a2 s.idx.posts.length c2, .slice a3 s.parts.length c3, .slice a4 s.mem.length c4] J fun cC aO bC bD => ?_
  replace ⟨h1, h2, h3, h4, E, C⟩ := (so [W, V] aO).g6 h1 h2 h3 h4 E C
  clear aO bD
  exact .r 1 <| .d <| .r2 Tryz.func80 Tryz.results80 (.bx bC) (.t (.bool false)) ⟨⟨_, (tup2 rfl (congrArg Value.bool (by (unfold flushR; (rw [if_pos (by omega)]))))), (VS.of (y := s) ⟨_, rfl, ⟨_, _, _, _, _, _, _, _, _, _, _, _, rfl, h1.w1, h2.w1, h3.w1, h4.w1⟩⟩ (by (unfold flushR; (rw [if_pos (by omega)]))))⟩, C⟩
 refine .r 1 <| .d <| .cf <| .sk <| .s ?_
 replace h1 := h1.into
 replace h2 := h2.into
 replace h3 := h3.into
 replace h4 := h4.into
 have aP : Gb (V + 1) ar.heap.size := E.lt
 refine .gd (mtb [] ar.heap.size) 5 fun bV ay => ?_
 replace ⟨h1, h2, h3, h4, E, J, C⟩ := (se [W, V] ay).g7 h1 h2 h3 h4 E J C
 have az : Chg (mtb [] ar.heap.size) ar bV := Chg.stepN (Chg.refl (mtb [] ar.heap.size) ar) ay
 clear ay
 refine .r [1] <| .lb 2 E (nS_of all_nil aP) <| .ln 4 E (nS_of all_nil aP) <| .go 0 <| .ns 0 75 [] fun cD aQ => ?_
 replace ⟨h1, h2, h3, h4, E, J, C, az⟩ := (se [W, V] aQ).g8 h1 h2 h3 h4 E J C az
 clear aQ
 intro au bW aj aR bE bF
 have bG := nb_new aj E.lt
 have bH := nb_new aj J.lt
 have bI := gb_new aj C.size
 have bJ := C.cn aj
 have bK := az.cn aj
 replace ⟨h1, h2, h3, h4, E, J, C⟩ := (sn [W, V] aR aj).g7 h1 h2 h3 h4 E J C
 clear aR bF aj
 have aA : Own (α := Prt) bW au 75 (nin (fo F w.heap.size) [au, W, V]) 0 0 [] := Own.nil' bE
 refine .go 3 <| GE.append (T := 27) (ty := 27) (args := [vS au 0 0, .slice a3 s.parts.length c3]) (by kernel_rfl) fun cE aS => ?_
 replace ⟨h1, h2, h3, h4, E, J, aA, C⟩ := (se [au, W, V] aS).g8 h1 h2 h3 h4 E J aA C
 clear aS
 obtain ⟨am, cF, cG, aL, Z, ah, aB, bL⟩ := aA.append (P := Tryz.prog) (T := 27) (ty := 27) (by kernel_rfl) (h3.base (fun _ _ h => h.1)) (fun b _ h => own_in (.head _) h) (by omega)
 refine ⟨_, _, aL, Chg.toS aB (Cov.toS bK), ?_⟩
 clear bL
 have bM := nb_or ah bG E.lt
 have bN := nb_or ah bH J.lt
 have bO := gb_or ah bI C.size
 have cq := cov_or ah bJ C.size
 replace ⟨h1, h2, h3, h4, E, J, C⟩ := (sa [au, W, V] aB ah).g7 h1 h2 h3 h4 E J C
 clear aB
 replace Z := Z.rn au
 clear ah
 have cr := Z.len; have cu := Z.max
 refine .d fun bP aT => ?_
 replace ⟨h1, h2, h3, h4, E, J, Z, C⟩ := (se [am, W, V] aT).g8 h1 h2 h3 h4 E J Z C
 clear aT
 replace h1 := h1.outof
 replace h2 := h2.outof
 replace h3 := h3.outof
 replace h4 := h4.outof
 refine .cl (c_spec_l13Mem s h1.ta h2.ta h3.ta h4.ta p0 p1 (w := bP) (F := all)) ?_
 rintro cH cI ⟨⟨_, rfl, ⟨bX, cJ, bQ, bR, cv, bS, rfl, ab, ac⟩⟩, aU⟩
 have ao := al3 Z.lt J.lt E.lt
 have aC : Gb w.heap.size bP.heap.size := C.size
 replace ⟨h1, h2, E, J, Z, C⟩ := (se [am, W, V] aU).g6 h1 h2 E J Z C
 clear aU
 have ab := ab.fr ao aC
 replace ab := ab.base (G' := fo F w.heap.size) (fun _ _ h => .inr h)
 have bY := ab.max
 have ac := ac.fr ao aC
 replace ac := ac.base (G' := fo F w.heap.size) (fun _ _ h => .inr h)
 have bZ := ac.max
 clear ao
 have aY := ab.len
 subst aY
 have aZ := ac.len
 subst aZ
 refine .ns 1 75 [.slice bX (((memPart s.mem).ids).length) bQ, .slice bR (((memPart s.mem).blocks).length) bS] fun aV cw ak aD ba bc => ?_
 have bd := nb_new ak E.lt
 have bg := nb_new ak J.lt
 have aE := nb_new ak Z.lt
 have bh := gb_new ak C.size
 replace ⟨h1, h2, E, J, Z, ab, ac, C⟩ := (se [am, W, V] aD).g8 h1 h2 E J Z ab ac C
 clear aD bc ak
 have av : nin (fo F w.heap.size) [am, W, V] aV ∧ aV ≠ am := hap_mk (.inr bh) (all_cons aE (all_cons bg (all_cons bd all_nil))) aE
 refine RG.append1 (T := 27) (ty := 27) (y := (memPart s.mem)) Z ba (by kernel_rfl) (by kernel_rfl) ⟨_, _, _, _, _, _, rfl, ab.oi, ac.oi⟩ av (by omega) fun ae aW cx O af aF => ?_
 have b0 := nb_or af bM E.lt
 have b6 := nb_or af bN J.lt
 have bi := gb_or af bO C.size
 replace ⟨h1, h2, E, J, C⟩ := (sa [am, W, V] aF af).g5 h1 h2 E J C
 clear aF
 replace O := O.rn am
 clear af
 have b7 := O.len; have b8 := O.max
 refine .r 1 <| .ss 2 (vS ae (0 + s.parts.length + 1) aW) E fun cy aG al bj => ?_
 replace ⟨h1, h2, J, O, C⟩ := (so [ae, W, V] aG).g5 h1 h2 J O C
 clear aG bj
 refine .d <| .s <| .g <| .ns 0 51 [] fun ag bT ai aH bk bm => ?_
 have b9 := nb_new ai al.lt
 have cd := nb_new ai J.lt
 have ce := nb_new ai O.lt
 have bn := gb_new ai C.size
 replace ⟨h1, h2, al, J, O, C⟩ := (sn [ae, W, V] aH ai).g6 h1 h2 al J O C
 clear aH bm ai
 have aa : Own (α := Smp) bT ag 51 (nin (fo F w.heap.size) [ag, ae, W, V]) 0 0 [] := Own.nil' bk
 refine .r 1 <| .ss 3 (vS ag 0 0) al fun cz aI bo bq => ?_
 replace ⟨h1, h2, J, O, aa, C⟩ := (so [ag, ae, W, V] aI).g6 h1 h2 J O aa C
 clear aI bq
 refine .d <| .s <| .g <| .ln bo <| .sc [.slice a1 s.idx.names.length c1, .slice a2 s.idx.posts.length c2, vS ae (0 + s.parts.length + 1) aW, vS ag 0 0] J fun aX aJ br bt => ?_
 replace ⟨h1, h2, O, aa, C⟩ := (so [ag, ae, W, V] aJ).g5 h1 h2 O aa C
 clear aJ bt
 refine .r 1 <| .d ?_
 have aK := O.sl (.inr bi)
 replace ⟨h1, h2, aa⟩ := (sd aX [ag, ae, W, V] ae).g3 h1 h2 aa
 have bU := aa.sl (.inr bn)
 replace ⟨h1, h2, aK⟩ := (sd aX [ag, W, V] ag).g3 h1 h2 aK
 exact .r2 Tryz.func80 Tryz.results80 (.bx br) (.t (.bool true)) ⟨⟨_, (tup2 rfl (congrArg Value.bool (by (unfold flushR; (rw [if_neg (by omega)] <;> simp))))), (VS.of (y := (⟨(⟨s.idx.names, s.idx.posts⟩ : Idx), (([] ++ s.parts) ++ [(memPart s.mem)]), []⟩ : Sto)) ⟨_, rfl, ⟨_, _, _, _, _, _, _, _, _, _, _, _, rfl, h1.w1, h2.w1, aK.w1, bU.w1⟩⟩ (by (unfold flushR; (rw [if_neg (by omega)] <;> simp))))⟩, C⟩
theorem c_spec_l13Merge (s : Sto) (at_ : Int) {w : World} {F : Nat → Prop} {a1 : Option Addr} {n1 c1 : Nat} (h1 : RepS w F a1 n1 c1 s.idx.names) {a2 : Option Addr} {n2 c2 : Nat} (h2 : RepS w F a2 n2 c2 s.idx.posts) {a3 : Option Addr} {n3 c3 : Nat} (h3 : RepS w F a3 n3 c3 s.parts) {a4 : Option Addr} {n4 c4 : Nat} (h4 : RepS w F a4 n4 c4 s.mem) (p0 : s.parts.length ≤ 100) (p1 : ∀ p ∈ s.parts, PrtSz p) : Calls Tryz.prog 88 [.agg #[.slice a1 n1 c1, .slice a2 n2 c2, .slice a3 n3 c3, .slice a4 n4 c4], .int .i64 at_].toArray w (rets fun rv w' => (∃ v0, rv = .tuple #[v0, .bool ((mergeR s at_).2)] ∧ VS (fo F w.heap.size) w' ((mergeR s at_).1 : Sto) v0) ∧ Ext w w') := by
 refine goT Tryz.func88 ?_
 obtain ⟨rfl, cB, h1⟩ := h1.tp
 obtain ⟨rfl, cC, h2⟩ := h2.tp
 obtain ⟨rfl, cD, h3⟩ := h3.tp
 obtain ⟨rfl, cE, h4⟩ := h4.tp
 refine .s <| .g <| .np 30 [.slice a1 s.idx.names.length c1, .slice a2 s.idx.posts.length c2, .slice a3 s.parts.length c3, .slice a4 s.mem.length c4] fun V di az aA E bH => ?_
 have cF : Cov nil w V := cov_new az (Nat.le_refl _)
 replace ⟨h1, h2, h3, h4⟩ := (sn [] aA az).g4 h1 h2 h3 h4
 have C := aA
 clear aA bH az
 refine .np 30 [.slice none 0 0, .slice none 0 0, .slice none 0 0, .slice none 0 0] fun ab cd av aS J bI => ?_
 have cG := nb_new av E.lt
 have cH := C.cn av
 replace ⟨h1, h2, h3, h4, E, C⟩ := (sn [V] aS av).g6 h1 h2 h3 h4 E C
 clear aS bI av
 refine .r 1 <| .d <| .s <| .s <| .g <| .r 2 <| .lb E <| .r 1 <| RG.int ((s.parts.length : Int) - 2) (by kernel_rfl) (by grind [inR]) <| .cl (c_spec_l6In at_ 0 ((s.parts.length : Int) - 2) (w := cd) (F := all)) ?_
 rintro dj dk ⟨rfl, aT⟩
 replace ⟨h1, h2, h3, h4, E, J, C⟩ := (se [ab, V] aT).g7 h1 h2 h3 h4 E J C
 clear aT
 cases aU : (inR at_ 0 ((s.parts.length : Int) - 2))
 ·have cI := inR_f aU
  refine .r 1 <| .d <| .ct <| .s <| .g <| .ln E <| .sc [.slice a1 s.idx.names.length c1, .slice a2 s.idx.posts.length c2, .slice a3 s.parts.length c3, .slice a4 s.mem.length c4] J fun dm aV bJ bK => ?_
  replace ⟨h1, h2, h3, h4, E, C⟩ := (so [ab, V] aV).g6 h1 h2 h3 h4 E C
  clear aV bK
  exact .r 1 <| .d <| .r2 Tryz.func88 Tryz.results88 (.bx bJ) (.t (.bool false)) ⟨⟨_, (tup2 rfl (congrArg Value.bool (by rw [mergeR_f (by assumption)]))), (VS.of (y := s) ⟨_, rfl, ⟨_, _, _, _, _, _, _, _, _, _, _, _, rfl, h1.w1, h2.w1, h3.w1, h4.w1⟩⟩ (by rw [mergeR_f (by assumption)]))⟩, C⟩
 have cJ := inR_t aU
 refine .r 1 <| .d <| .cf <| .sk <| .s <| .g <| .ns 0 75 [] fun aR ce ak aW bL bM => ?_
 have bN := nb_new ak E.lt
 have bO := nb_new ak J.lt
 have bP := gb_new ak C.size
 have bQ := C.cn ak
 replace ⟨h1, h2, h3, h4, E, J, C⟩ := (sn [ab, V] aW ak).g7 h1 h2 h3 h4 E J C
 clear aW bM ak
 have bR : Own (α := Prt) ce aR 75 (nin (fo F w.heap.size) [aR, ab, V]) 0 0 [] := Own.nil' bL
 refine .r 1 <| .lb E <| .r 1 <| RG.sub (t := 27) (lo := none) (hi := some (vI at_)) h3 0 ((at_).toNat) (by kernel_rfl) (by kernel_rfl) (.inl ⟨rfl, rfl⟩) (.inr ⟨_, _, rfl, by omega⟩) (by grind [inR]) (by grind [inR]) fun dp dq bh => ?_
 have cK := bh.len; have cL := bh.max
 refine RG.appendN (T := 27) (ty := 27) bR bh (by kernel_rfl) (by kernel_rfl) (fun b _ h => own_in (.head _) h) (by omega) fun ah dr bS O af aX => ?_
 have aB := nb_or af bN E.lt
 have bT := nb_or af bO J.lt
 have bU := gb_or af bP C.size
 have bV := cov_or af bQ C.size
 replace ⟨h1, h2, h3, h4, E, J, C⟩ := (sa [aR, ab, V] aX af).g7 h1 h2 h3 h4 E J C
 clear aX
 replace O := O.rn aR
 clear af
 have cM := O.len; have cN := O.max
 refine .r 1 <| .d <| .s ?_
 replace h1 := h1.into
 replace h2 := h2.into
 replace h3 := h3.into
 replace h4 := h4.into
 have aY : Gb (V + 1) bS.heap.size := E.lt
 refine .gd (mtb [ah] bS.heap.size) 14 fun dt aZ => ?_
 replace ⟨h1, h2, h3, h4, E, J, O, C⟩ := (se [ah, ab, V] aZ).g8 h1 h2 h3 h4 E J O C
 clear aZ
 refine .r [0, 1] <| .lb 2 E (nS_of (all_cons (Nb.symm aB) all_nil) aY) <| .r [3] ?_
 have ba : (at_).toNat < s.parts.length := (by grind [inR])
 refine GA.idx (i := 4) ((at_).toNat) (len := s.parts.length) (z := at_) (sz := 2) (by kernel_rfl) (by grind [inR]) ba (h3.addr (Nat.zero_lt_of_lt ba)) ?_
 obtain ⟨ax, aw⟩ : ∃ y, s.parts[(at_).toNat]? = some y := ⟨_, List.getElem?_eq_getElem (by grind [inR])⟩
 have cO := drop_at aw; have b9 := List.mem_of_getElem? aw
 obtain ⟨_, ⟨du, dv, dw, dx, cP, cQ, rfl, bi, aC⟩, bW⟩ := h3.elem ((at_).toNat) ax aw
 have bj := bi.len
 subst bj
 have cg := bi.max
 have bk := aC.len
 subst bk
 have ci := aC.max
 refine .lg 5 0 bW (h3.nS (pos_of aw) (all_cons (.head _) all_nil)) <| .r [6] <| .lb 7 E (nS_of (all_cons (Nb.symm aB) all_nil) aY) <| .r [8] <| GA.int (i := 9) (at_ + 1) (by kernel_rfl) (by grind [inR]) ?_
 have aD : (at_ + 1).toNat < s.parts.length := (by grind [inR])
 refine GA.idx (i := 10) ((at_ + 1).toNat) (len := s.parts.length) (z := at_ + 1) (sz := 2) (by kernel_rfl) (by grind [inR]) aD (h3.addr (Nat.zero_lt_of_lt aD)) ?_
 obtain ⟨al, ao⟩ : ∃ y, s.parts[(at_ + 1).toNat]? = some y := ⟨_, List.getElem?_eq_getElem (by grind [inR])⟩
 have cj := drop_at ao; have bX := List.mem_of_getElem? ao
 obtain ⟨_, ⟨cR, cS, cT, cU, cV, cW, rfl, aE, aF⟩, bm⟩ := h3.elem ((at_ + 1).toNat) al ao
 have bn := aE.len
 subst bn
 have ck := aE.max
 have bo := aF.len
 subst bo
 have cm := aF.max
 refine .lg 11 0 bm (h3.nS (pos_of ao) (all_cons (.head _) all_nil)) <| .go 12 <| .cl (fun aG ag => c_spec_l12Merge ax al (bi.ta.ext ag) (aC.ta.ext ag) (aE.ta.ext ag) (aF.ta.ext ag) (by grind) (by grind) (w := aG) (F := all)) ?_
 intro aG ag
 replace ⟨h1, h2, h3, h4, E, J, O, C⟩ := (se [ah, ab, V] ag).g8 h1 h2 h3 h4 E J O C
 rintro cX cY ⟨⟨_, rfl, ⟨bY, cZ, bZ, b0, c7, b6, rfl, W, Z⟩⟩, aq⟩
 have ar := al3 O.lt J.lt E.lt
 have aH : Gb w.heap.size aG.heap.size := C.size
 have hkeep_ := aq
 replace ⟨h1, h2, h3, h4, E, J, O, C⟩ := (se [ah, ab, V] aq).g8 h1 h2 h3 h4 E J O C
 clear aq
 refine ⟨Ext.chg hkeep_, ?_⟩
 have W := W.fr ar aH
 replace W := W.base (G' := fo F w.heap.size) (fun _ _ h => .inr h)
 have co := W.max
 have Z := Z.fr ar aH
 replace Z := Z.base (G' := fo F w.heap.size) (fun _ _ h => .inr h)
 have cp := Z.max
 clear ar
 have bq := W.len
 subst bq
 have br := Z.len
 subst br
 refine .go 13 <| .ns 1 75 [.slice bY (((pMerge ax al).ids).length) bZ, .slice b0 (((pMerge ax al).blocks).length) b6] fun c8 aI => ?_
 replace ⟨h1, h2, h3, h4, E, J, O, W, Z, C⟩ := (se [ah, ab, V] aI).g10 h1 h2 h3 h4 E J O W Z C
 clear aI
 intro bc c9 ai aJ au bt
 have bu := nb_new ai E.lt
 have bv := nb_new ai J.lt
 have aK := nb_new ai O.lt
 have bw := gb_new ai C.size
 replace ⟨h1, h2, h3, h4, E, J, O, W, Z, C⟩ := (se [ah, ab, V] aJ).g10 h1 h2 h3 h4 E J O W Z C
 clear aJ bt ai
 refine .d fun da aL => ?_
 replace ⟨h1, h2, h3, h4, E, J, O, W, Z, au, C⟩ := (se [ah, ab, V] aL).g11 h1 h2 h3 h4 E J O W Z au C
 clear aL
 replace h1 := h1.outof
 replace h2 := h2.outof
 replace h3 := h3.outof
 replace h4 := h4.outof
 have ay : nin (fo F w.heap.size) [ah, ab, V] bc ∧ bc ≠ ah := hap_mk (.inr bw) (all_cons aK (all_cons bv (all_cons bu all_nil))) aK
 refine RG.append1 (T := 27) (ty := 27) (y := (pMerge ax al)) O au (by kernel_rfl) (by kernel_rfl) ⟨_, _, _, _, _, _, rfl, W.oi, Z.oi⟩ ay (by omega) fun bd db dd aj ac aM => ?_
 have bz := nb_or ac aB E.lt
 have bA := nb_or ac bT J.lt
 have bB := gb_or ac bU C.size
 have cq := cov_or ac bV C.size
 replace ⟨h1, h2, h3, h4, E, J, C⟩ := (sa [ah, ab, V] aM ac).g7 h1 h2 h3 h4 E J C
 clear aM
 replace aj := aj.rn ah
 clear ac
 have cr := aj.len; have cu := aj.max
 refine .r 1 <| .d <| .s <| .g <| .r 2 <| .lb E <| .r 1 <| RG.int (at_ + 2) (by kernel_rfl) (by grind [inR]) <| RG.sub (t := 27) (lo := some (vI (at_ + 2))) (hi := none) h3 ((at_ + 2).toNat) s.parts.length (by kernel_rfl) (by kernel_rfl) (.inr ⟨_, _, rfl, by omega⟩) (.inl ⟨rfl, rfl⟩) (by grind [inR]) (by grind [inR]) fun de df aN => ?_
 have cv := aN.len; have cw := aN.max
 refine RG.appendN (T := 27) (ty := 27) aj aN (by kernel_rfl) (by kernel_rfl) (fun b _ h => own_in (.head _) h) (by omega) fun am bg dg aa ae aO => ?_
 have cx := nb_or ae bz E.lt
 have cy := nb_or ae bA J.lt
 have bC := gb_or ae bB C.size
 replace ⟨h1, h2, h4, E, J, C⟩ := (sa [bd, ab, V] aO ae).g6 h1 h2 h4 E J C
 clear aO
 replace aa := aa.rn bd
 clear ae
 have cz := aa.len; have cA := aa.max
 refine .r 1 <| .ss 2 (vS am (0 + ((at_).toNat - 0) + 1 + (s.parts.length - (at_ + 2).toNat)) bg) E fun dh aP bD bE => ?_
 replace ⟨h1, h2, h4, J, aa, C⟩ := (so [am, ab, V] aP).g6 h1 h2 h4 J aa C
 clear aP bE
 refine .d <| .s <| .g <| .ln bD <| .sc [.slice a1 s.idx.names.length c1, .slice a2 s.idx.posts.length c2, vS am (0 + ((at_).toNat - 0) + 1 + (s.parts.length - (at_ + 2).toNat)) bg, .slice a4 s.mem.length c4] J fun b7 aQ bF bG => ?_
 replace ⟨h1, h2, h4, aa, C⟩ := (so [am, ab, V] aQ).g5 h1 h2 h4 aa C
 clear aQ bG
 refine .r 1 <| .d ?_
 have b8 := aa.sl (.inr bC)
 replace ⟨h1, h2, h4⟩ := (sd b7 [am, ab, V] am).g3 h1 h2 h4
 exact .r2 Tryz.func88 Tryz.results88 (.bx bF) (.t (.bool true)) ⟨⟨_, (tup2 rfl (congrArg Value.bool (by rw [mergeR_t (by assumption) (by assumption) (by assumption)]))), (VS.of (y := (⟨(⟨s.idx.names, s.idx.posts⟩ : Idx), ((([] ++ ((s.parts.take ((at_).toNat)).drop 0)) ++ [(pMerge ax al)]) ++ ((s.parts.take s.parts.length).drop ((at_ + 2).toNat))), s.mem⟩ : Sto)) ⟨_, rfl, ⟨_, _, _, _, _, _, _, _, _, _, _, _, rfl, h1.w1, h2.w1, b8.w1, h4.w1⟩⟩ (by rw [mergeR_t (by assumption) (by assumption) (by assumption)]))⟩, C⟩
theorem c_spec_l13Add (s : Sto) (n : List Tag) (r : Row) {w : World} {F : Nat → Prop} {a1 : Option Addr} {n1 c1 : Nat} (h1 : RepS w F a1 n1 c1 s.idx.names) {a2 : Option Addr} {n2 c2 : Nat} (h2 : RepS w F a2 n2 c2 s.idx.posts) {a3 : Option Addr} {n3 c3 : Nat} (h3 : RepS w F a3 n3 c3 s.parts) {a4 : Option Addr} {n4 c4 : Nat} (h4 : RepS w F a4 n4 c4 s.mem) {a5 : Option Addr} {n5 c5 : Nat} (h5 : RepS w F a5 n5 c5 n) (p0 : StoSz s) (p1 : NmSz n) : Calls Tryz.prog 59 [.agg #[.slice a1 n1 c1, .slice a2 n2 c2, .slice a3 n3 c3, .slice a4 n4 c4], .slice a5 n5 c5, .agg #[.int .i64 r.t, .int .i64 r.v]].toArray w (rets fun rv w' => (∃ v0, rv = .tuple #[v0, .bool ((addS s n r).2)] ∧ VS (fo F w.heap.size) w' ((addS s n r).1 : Sto) v0) ∧ Ext w w') := by
 refine goT Tryz.func59 ?_
 obtain ⟨rfl, fZ, h1⟩ := h1.tp
 obtain ⟨rfl, f0, h2⟩ := h2.tp
 obtain ⟨rfl, f3, h3⟩ := h3.tp
 obtain ⟨rfl, f4, h4⟩ := h4.tp
 obtain ⟨rfl, f5, h5⟩ := h5.tp
 refine .s <| .g <| .np 30 [.slice a1 s.idx.names.length c1, .slice a2 s.idx.posts.length c2, .slice a3 s.parts.length c3, .slice a4 s.mem.length c4] fun ac hH cD bM E eL => ?_
 replace ⟨h1, h2, h3, h4, h5⟩ := (sn [] bM cD).g5 h1 h2 h3 h4 h5
 have C := bM
 clear bM eL cD
 refine .np 33 [vI r.t, vI r.v] fun ae hJ cE cF O eM => ?_
 replace ⟨h1, h2, h3, h4, h5, E, C⟩ := (sn [ac] cF cE).g7 h1 h2 h3 h4 h5 E C
 clear cF eM cE
 refine .np 30 [.slice none 0 0, .slice none 0 0, .slice none 0 0, .slice none 0 0] fun af eN aY cG V eO => ?_
 have f6 := nb_new aY E.lt
 have f7 := nb_new aY O.lt
 have f8 := C.cn aY
 replace ⟨h1, h2, h3, h4, h5, E, O, C⟩ := (sn [ae, ac] cG aY).g8 h1 h2 h3 h4 h5 E O C
 clear cG eO aY
 refine .r 1 <| .d <| .s <| .g <| .r 1 <| .ln E <| .r 1 <| .cl (c_spec_l11Add s.idx n h1 h2 h5 p0.1 p1 (w := eN) (F := nin (fo F w.heap.size) [af, ae, ac])) ?_
 rintro hN hO ⟨⟨hP, rfl, ⟨_, rfl, ⟨bd, hQ, bg, bh, hV, bi, rfl, Z, aa⟩⟩⟩, cH⟩
 have bN := al3 V.lt O.lt E.lt
 have cI : Gb w.heap.size eN.heap.size := C.size
 replace ⟨h1, h2, h3, h4, E, O, V, C⟩ := (se [af, ae, ac] cH).g8 h1 h2 h3 h4 E O V C
 clear cH
 replace Z := RepS.mixed' (M := [af, ae, ac]) Z bN cI
 have f9 := Z.max
 replace aa := RepS.mixed' (M := [af, ae, ac]) aa bN cI
 have ga := aa.max
 clear bN
 have eP := Z.len
 subst eP
 have eQ := aa.len
 subst eQ
 refine .r 3 ?_
 cases gb : (addR s.idx n).2.2
 ·refine .r 1 <| .np 26 [.slice none 0 0, .slice none 0 0] fun eR hW aR cJ eS eT => ?_
  have gf := nb_new aR E.lt
  have gg := nb_new aR O.lt
  have gh := nb_new aR V.lt
  have gi := C.cn aR
  replace ⟨h1, h2, h3, h4, E, O, V, Z, aa, C⟩ := (sn [af, ae, ac] cJ aR).g10 h1 h2 h3 h4 E O V Z aa C
  clear cJ eT aR
  refine .sc [.slice bd ((((addR s.idx n).1).names).length) bg, .slice bh ((((addR s.idx n).1).posts).length) bi] eS fun hX cK gj eU => ?_
  replace ⟨h1, h2, h3, h4, E, O, V, Z, aa, C⟩ := (so [eR, af, ae, ac] cK).g10 h1 h2 h3 h4 E O V Z aa C
  clear cK eU
  refine .r 2 <| .d <| .s <| .s <| .g <| .r 13 <| .d <| .ct <| .s <| .g <| .ln E <| .sc [.slice a1 s.idx.names.length c1, .slice a2 s.idx.posts.length c2, .slice a3 s.parts.length c3, .slice a4 s.mem.length c4] V fun hY cL eV eW => ?_
  replace ⟨h1, h2, h3, h4, E, O, Z, aa, C⟩ := (so [eR, af, ae, ac] cL).g9 h1 h2 h3 h4 E O Z aa C
  clear cL eW
  exact .r 1 <| .d <| .r2 Tryz.func59 Tryz.results59 (.bx eV) (.t (.bool false)) ⟨⟨_, (tup2 rfl (congrArg Value.bool (by rw [addS_1 (by assumption)]))), (VS.of (y := s) ⟨_, rfl, ⟨_, _, _, _, _, _, _, _, _, _, _, _, rfl, h1.w1, h2.w1, h3.w1, h4.w1⟩⟩ (by rw [addS_1 (by assumption)]))⟩, C⟩
 refine .r 1 <| .np 26 [.slice none 0 0, .slice none 0 0] fun ag hZ aS cM eX cW => ?_
 have fe := nb_new aS E.lt
 have ff := nb_new aS O.lt
 have fg := nb_new aS V.lt
 have fh := C.cn aS
 replace ⟨h1, h2, h3, h4, E, O, V, Z, aa, C⟩ := (sn [af, ae, ac] cM aS).g10 h1 h2 h3 h4 E O V Z aa C
 clear cM cW aS
 refine .sc [.slice bd ((((addR s.idx n).1).names).length) bg, .slice bh ((((addR s.idx n).1).posts).length) bi] eX fun eY bO J cX => ?_
 replace ⟨h1, h2, h3, h4, E, O, V, Z, aa, C⟩ := (so [ag, af, ae, ac] bO).g10 h1 h2 h3 h4 E O V Z aa C
 clear bO cX
 refine .r 2 <| .d <| .s <| .s <| .g <| .r 3 <| .ln O <| .cl (c_spec_l2Row r (w := eY) (F := all)) ?_
 rintro gk gl ⟨rfl, bP⟩
 replace ⟨h1, h2, h3, h4, E, O, V, Z, aa, J, C⟩ := (se [ag, af, ae, ac] bP).g11 h1 h2 h3 h4 E O V Z aa J C
 clear bP
 cases fi : (rowOk r)
 ·refine .r 8 <| .d <| .ct <| .s <| .g <| .ln E <| .sc [.slice a1 s.idx.names.length c1, .slice a2 s.idx.posts.length c2, .slice a3 s.parts.length c3, .slice a4 s.mem.length c4] V fun gm bQ cY cZ => ?_
  replace ⟨h1, h2, h3, h4, E, O, Z, aa, J, C⟩ := (so [ag, af, ae, ac] bQ).g10 h1 h2 h3 h4 E O Z aa J C
  clear bQ cZ
  exact .r 1 <| .d <| .r2 Tryz.func59 Tryz.results59 (.bx cY) (.t (.bool false)) ⟨⟨_, (tup2 rfl (congrArg Value.bool (by rw [addS_2 (by assumption)]))), (VS.of (y := s) ⟨_, rfl, ⟨_, _, _, _, _, _, _, _, _, _, _, _, rfl, h1.w1, h2.w1, h3.w1, h4.w1⟩⟩ (by rw [addS_2 (by assumption)]))⟩, C⟩
 refine .r 4 <| .lb E <| .r 1 <| .bp ((s.mem.length : Int) ≥ 20) (fun c7 => ?_) (fun c7 => ?_)
 ·refine .r 1 <| .d <| .ct <| .s <| .g <| .ln E <| .sc [.slice a1 s.idx.names.length c1, .slice a2 s.idx.posts.length c2, .slice a3 s.parts.length c3, .slice a4 s.mem.length c4] V fun gn bR c8 c9 => ?_
  replace ⟨h1, h2, h3, h4, E, O, Z, aa, J, C⟩ := (so [ag, af, ae, ac] bR).g10 h1 h2 h3 h4 E O Z aa J C
  clear bR c9
  exact .r 1 <| .d <| .r2 Tryz.func59 Tryz.results59 (.bx c8) (.t (.bool false)) ⟨⟨_, (tup2 rfl (congrArg Value.bool (by rw [addS_3 (by assumption)]))), (VS.of (y := s) ⟨_, rfl, ⟨_, _, _, _, _, _, _, _, _, _, _, _, rfl, h1.w1, h2.w1, h3.w1, h4.w1⟩⟩ (by rw [addS_3 (by assumption)]))⟩, C⟩
 refine .r 1 <| .d <| .cf <| .sk <| .s <| .g <| .ln E <| .np 30 [.slice none 0 0, .slice none 0 0, .slice none 0 0, .slice none 0 0] fun ab gp aF bS da db => ?_
 have fj := nb_new aF E.lt
 have fk := nb_new aF O.lt
 have fl := nb_new aF V.lt
 have fm := nb_new aF J.lt
 have fp := C.cn aF
 replace ⟨h1, h2, h3, h4, E, O, V, Z, aa, J, C⟩ := (sn [ag, af, ae, ac] bS aF).g11 h1 h2 h3 h4 E O V Z aa J C
 clear bS db aF
 refine .sc [.slice a1 s.idx.names.length c1, .slice a2 s.idx.posts.length c2, .slice a3 s.parts.length c3, .slice a4 s.mem.length c4] da fun gq bT dd de => ?_
 replace ⟨h1, h2, h3, h4, E, O, V, Z, aa, J, C⟩ := (so [ab, ag, af, ae, ac] bT).g11 h1 h2 h3 h4 E O V Z aa J C
 clear bT de
 refine .d <| .s <| .g <| .ln J <| .r 1 <| .sb 0 (.agg #[.slice bd ((((addR s.idx n).1).names).length) bg, .slice bh ((((addR s.idx n).1).posts).length) bi]) [.slice bd ((((addR s.idx n).1).names).length) bg, .slice bh ((((addR s.idx n).1).posts).length) bi, .slice a3 s.parts.length c3, .slice a4 s.mem.length c4] dd fun aQ bU W df => ?_
 replace ⟨h1, h2, h3, h4, E, O, V, Z, aa, J, C⟩ := (so [ab, ag, af, ae, ac] bU).g11 h1 h2 h3 h4 E O V Z aa J C
 clear bU df
 refine .d <| .s ?_
 replace h1 := h1.into
 replace h2 := h2.into
 replace h3 := h3.into
 replace h4 := h4.into
 replace Z := Z.into
 replace aa := aa.into
 have dg : Gb (ac + 1) aQ.heap.size := E.lt
 have dh : Gb (ae + 1) aQ.heap.size := O.lt
 refine .gd (mtb [] aQ.heap.size) 8 fun eZ bj => ?_
 replace ⟨h1, h2, h3, h4, E, O, V, Z, aa, J, W, C⟩ := (se [ab, ag, af, ae, ac] bj).g12 h1 h2 h3 h4 E O V Z aa J W C
 have ah : Chg (mtb [] aQ.heap.size) aQ eZ := Chg.stepN (Chg.refl (mtb [] aQ.heap.size) aQ) bj
 clear bj
 refine .r [1] <| .lb 2 E (nS_of all_nil dg) <| .r [4] <| .ln 5 O (nS_of all_nil dh) <| .r [6] <| .tw 0 7 ?_ ?_
 ·refine .ns 0 51 [] fun gr bk => ?_
  replace ⟨h1, h2, h3, h4, E, O, V, Z, aa, J, W, C⟩ := (se [ab, ag, af, ae, ac] bk).g12 h1 h2 h3 h4 E O V Z aa J W C
  replace ah := (se [ab, ag, af, ae, ac] bk).g1 ah
  clear bk
  intro ao e0 aw bm di dj
  have bV := nb_new aw E.lt
  have bW := nb_new aw O.lt
  have bX := nb_new aw V.lt
  have bY := nb_new aw J.lt
  have bZ := nb_new aw W.lt
  have b0 := gb_new aw C.size
  have b6 := C.cn aw
  have b7 := ah.cn aw
  replace ⟨h1, h2, h3, h4, E, O, V, Z, aa, J, W, C⟩ := (sn [ab, ag, af, ae, ac] bm aw).g12 h1 h2 h3 h4 E O V Z aa J W C
  replace ah := (sn [ab, ag, af, ae, ac] bm aw).g1 ah
  clear bm dj aw
  have ax : Own (α := Smp) e0 ao 51 (nin (fo F w.heap.size) [ao, ab, ag, af, ae, ac]) 0 0 [] := Own.nil' di
  refine .tw 3 7 ?_ ?_
  ·refine GE.append (T := 28) (ty := 28) (args := [vS ao 0 0, .slice a4 s.mem.length c4]) (by kernel_rfl) fun gs bn => ?_
   replace ⟨h1, h2, h3, h4, E, O, V, Z, aa, J, W, ax⟩ := (se [ao, ab, ag, af, ae, ac] bn).g12 h1 h2 h3 h4 E O V Z aa J W ax
   replace ⟨C, ah⟩ := (se [ao, ab, ag, af, ae, ac] bn).g2 C ah
   clear bn
   obtain ⟨aE, gt, gu, b8, au, ar, aV, dk⟩ := Own.appendF (P := Tryz.prog) (T := 28) (ty := 28) flat_smp ax (by kernel_rfl) h4 (fun b h e => h.2 (e ▸ (.head _))) (by have := p0.2.2.2; omega)
   refine ⟨_, _, b8, Chg.toS aV (Cov.toS b7), ?_⟩
   clear dk
   have dm := nb_or ar bV E.lt
   have dp := nb_or ar bW O.lt
   have dq := nb_or ar bX V.lt
   have dr := nb_or ar bY J.lt
   have dt := nb_or ar bZ W.lt
   have du := gb_or ar b0 C.size
   have fq := cov_or ar b6 C.size
   replace ⟨h1, h2, h3, h4, E, O, V, Z, aa, J, W, C⟩ := (sa [ao, ab, ag, af, ae, ac] aV ar).g12 h1 h2 h3 h4 E O V Z aa J W C
   replace ah := (sa [ao, ab, ag, af, ae, ac] aV ar).g1 ah
   clear aV
   replace au := au.rn ao
   clear ar
   have ft := au.len; have fu := au.max
   refine .go 7 <| .ns 1 51 [vI ((addR s.idx n).2.1), vI r.t, vI r.v] fun gv bo => ?_
   replace ⟨h1, h2, h3, h4, E, O, V, Z, aa, J, W, au⟩ := (se [aE, ab, ag, af, ae, ac] bo).g12 h1 h2 h3 h4 E O V Z aa J W au
   replace ⟨C, ah⟩ := (se [aE, ab, ag, af, ae, ac] bo).g2 C ah
   clear bo
   intro cN gw aB bq br dv
   have dw := nb_new aB E.lt
   have dx := nb_new aB O.lt
   have dy := nb_new aB V.lt
   have dz := nb_new aB J.lt
   have dA := nb_new aB W.lt
   have b9 := nb_new aB au.lt
   have dB := gb_new aB C.size
   replace ⟨h1, h2, h3, h4, E, O, V, Z, aa, J, W, au⟩ := (se [aE, ab, ag, af, ae, ac] bq).g12 h1 h2 h3 h4 E O V Z aa J W au
   replace ⟨C, ah⟩ := (se [aE, ab, ag, af, ae, ac] bq).g2 C ah
   clear bq dv aB
   refine .d fun gx bt => ?_
   replace ⟨h1, h2, h3, h4, E, O, V, Z, aa, J, W, au⟩ := (se [aE, ab, ag, af, ae, ac] bt).g12 h1 h2 h3 h4 E O V Z aa J W au
   replace ⟨br, C, ah⟩ := (se [aE, ab, ag, af, ae, ac] bt).g3 br C ah
   clear bt
   replace h1 := h1.outof
   replace h2 := h2.outof
   replace h3 := h3.outof
   replace h4 := h4.outof
   replace Z := Z.outof
   replace aa := aa.outof
   have bJ : nin (fo F w.heap.size) [aE, ab, ag, af, ae, ac] cN ∧ cN ≠ aE := hap_mk (.inr dB) (all_cons b9 (all_cons dA (all_cons dz (all_cons dy (all_cons dx (all_cons dw all_nil)))))) b9
   refine RG.append1 (T := 28) (ty := 28) (y := (⟨(addR s.idx n).2.1, (⟨r.t, r.v⟩ : Row)⟩ : Smp)) au br (by kernel_rfl) (by kernel_rfl) rfl bJ (by have := p0.2.2.2; omega) fun aM cO gy ai ay cd => ?_
   have fv := nb_or ay dm E.lt
   have fw := nb_or ay dp O.lt
   have fx := nb_or ay dq V.lt
   have fy := nb_or ay dr J.lt
   have fz := nb_or ay dt W.lt
   have dC := gb_or ay du C.size
   replace ⟨h1, h2, h3, h4, E, O, V, Z, aa, J, W, C⟩ := (sa [aE, ab, ag, af, ae, ac] cd ay).g12 h1 h2 h3 h4 E O V Z aa J W C
   clear cd
   replace ai := ai.rn aE
   clear ay
   have fA := ai.len; have fB := ai.max
   refine .r 1 <| .ss 3 (vS aM (0 + s.mem.length + 1) cO) W fun cP ce aG dD => ?_
   replace ⟨h1, h2, h3, h4, E, O, V, Z, aa, J, ai, C⟩ := (so [aM, ab, ag, af, ae, ac] ce).g12 h1 h2 h3 h4 E O V Z aa J ai C
   clear ce dD
   refine .d <| .s <| .s <| .g <| .ln aG <| .r 1 <| .cl (c_spec_l13Rows (⟨(⟨((addR s.idx n).1).names, ((addR s.idx n).1).posts⟩ : Idx), s.parts, (([] ++ s.mem) ++ [(⟨(addR s.idx n).2.1, (⟨r.t, r.v⟩ : Row)⟩ : Smp)])⟩ : Sto) ((addR s.idx n).2.1) Z.ta aa.ta h3.ta (ai.rep) p0.2.1 p0.2.2.1 (by have := p0.2.2.2; simp; omega) (w := cP) (F := all)) ?_
   rintro gz gA ⟨⟨gC, gD, rfl, aZ⟩, bu⟩
   have cg := al6 ai.lt aG.lt J.lt V.lt O.lt E.lt
   have dE : Gb w.heap.size cP.heap.size := C.size
   replace ⟨h1, h2, h3, h4, E, O, V, Z, aa, J, aG, ai⟩ := (se [aM, ab, ag, af, ae, ac] bu).g12 h1 h2 h3 h4 E O V Z aa J aG ai
   replace C := (se [aM, ab, ag, af, ae, ac] bu).g1 C
   clear bu
   have aZ := aZ.fr cg dE
   replace aZ := aZ.base (G' := fo F w.heap.size) (fun _ _ h => .inr h)
   have fC := aZ.max
   clear cg
   refine .r 1 <| .bp ((((rowsOf (⟨(⟨((addR s.idx n).1).names, ((addR s.idx n).1).posts⟩ : Idx), s.parts, (([] ++ s.mem) ++ [(⟨(addR s.idx n).2.1, (⟨r.t, r.v⟩ : Row)⟩ : Smp)])⟩ : Sto) ((addR s.idx n).2.1)).length) : Int) > 24) (fun dF => ?_) (fun dF => ?_)
   ·refine .d <| .ct <| .s <| .g <| .ln E <| .sc [.slice a1 s.idx.names.length c1, .slice a2 s.idx.posts.length c2, .slice a3 s.parts.length c3, .slice a4 s.mem.length c4] V fun gE ci dG dH => ?_
    replace ⟨h1, h2, h3, h4, E, O, Z, aa, J, aG, ai, C⟩ := (so [aM, ab, ag, af, ae, ac] ci).g12 h1 h2 h3 h4 E O Z aa J aG ai C
    clear ci dH
    exact .r 1 <| .d <| .r2 Tryz.func59 Tryz.results59 (.bx dG) (.t (.bool false)) ⟨⟨_, (tup2 rfl (congrArg Value.bool (by rw [addS_4 (by assumption) (by assumption) (by assumption) (by assumption)]))), (VS.of (y := s) ⟨_, rfl, ⟨_, _, _, _, _, _, _, _, _, _, _, _, rfl, h1.w1, h2.w1, h3.w1, h4.w1⟩⟩ (by rw [addS_4 (by assumption) (by assumption) (by assumption) (by assumption)]))⟩, C⟩
   refine .d <| .cf <| .sk <| .s <| .g <| .ln aG <| .sc [.slice bd ((((addR s.idx n).1).names).length) bg, .slice bh ((((addR s.idx n).1).posts).length) bi, .slice a3 s.parts.length c3, vS aM (0 + s.mem.length + 1) cO] V fun e7 cj dI dJ => ?_
   replace ⟨h1, h2, h3, h4, E, O, Z, aa, J, ai, C⟩ := (so [aM, ab, ag, af, ae, ac] cj).g11 h1 h2 h3 h4 E O Z aa J ai C
   clear cj dJ
   refine .r 1 <| .d ?_
   have e8 := ai.sl (.inr dC)
   replace ⟨h1, h2, h3, h4, Z, aa⟩ := (sd e7 [aM, ab, ag, af, ae, ac] aM).g6 h1 h2 h3 h4 Z aa
   exact .r2 Tryz.func59 Tryz.results59 (.bx dI) (.t (.bool true)) ⟨⟨_, (tup2 rfl (congrArg Value.bool (by (rw [addS_5 (by assumption) (by assumption) (by assumption) (by assumption)] <;> rfl)))), (VS.of (y := (⟨(⟨((addR s.idx n).1).names, ((addR s.idx n).1).posts⟩ : Idx), s.parts, (([] ++ s.mem) ++ [(⟨(addR s.idx n).2.1, (⟨r.t, r.v⟩ : Row)⟩ : Smp)])⟩ : Sto)) ⟨_, rfl, ⟨_, _, _, _, _, _, _, _, _, _, _, _, rfl, Z.w1, aa.w1, h3.w1, e8.w1⟩⟩ (by (rw [addS_5 (by assumption) (by assumption) (by assumption) (by assumption)] <;> rfl)))⟩, C⟩
  refine .ns 1 51 [vI ((addR s.idx n).2.1), vI r.t, vI r.v] fun gF bv => ?_
  replace ⟨h1, h2, h3, h4, E, O, V, Z, aa, J, W, ax⟩ := (se [ao, ab, ag, af, ae, ac] bv).g12 h1 h2 h3 h4 E O V Z aa J W ax
  replace ⟨C, ah⟩ := (se [ao, ab, ag, af, ae, ac] bv).g2 C ah
  clear bv
  intro cQ gG aC bw aD dK
  have dL := nb_new aC E.lt
  have dM := nb_new aC O.lt
  have dN := nb_new aC V.lt
  have dO := nb_new aC J.lt
  have dP := nb_new aC W.lt
  have dQ := nb_new aC ax.lt
  have dR := gb_new aC C.size
  replace ⟨h1, h2, h3, h4, E, O, V, Z, aa, J, W, ax⟩ := (se [ao, ab, ag, af, ae, ac] bw).g12 h1 h2 h3 h4 E O V Z aa J W ax
  replace ⟨C, ah⟩ := (se [ao, ab, ag, af, ae, ac] bw).g2 C ah
  clear bw dK aC
  refine .go 3 <| GE.append (T := 28) (ty := 28) (args := [vS ao 0 0, .slice a4 s.mem.length c4]) (by kernel_rfl) fun gH bz => ?_
  replace ⟨h1, h2, h3, h4, E, O, V, Z, aa, J, W, ax⟩ := (se [ao, ab, ag, af, ae, ac] bz).g12 h1 h2 h3 h4 E O V Z aa J W ax
  replace ⟨aD, C, ah⟩ := (se [ao, ab, ag, af, ae, ac] bz).g3 aD C ah
  clear bz
  obtain ⟨aT, gI, gJ, ck, aH, al, aW, dS⟩ := Own.appendF (P := Tryz.prog) (T := 28) (ty := 28) flat_smp ax (by kernel_rfl) h4 (fun b h e => h.2 (e ▸ (.head _))) (by have := p0.2.2.2; omega)
  refine ⟨_, _, ck, Chg.toS aW (Cov.toS b7), ?_⟩
  clear dS
  have dT := nb_or al bV E.lt
  have dU := nb_or al bW O.lt
  have dV := nb_or al bX V.lt
  have dW := nb_or al bY J.lt
  have dX := nb_or al bZ W.lt
  have cm := nb_or al (Nb.symm dQ) aD.lt
  have dY := gb_or al b0 C.size
  have fD := cov_or al b6 C.size
  replace ⟨h1, h2, h3, h4, E, O, V, Z, aa, J, W, aD⟩ := (sa [ao, ab, ag, af, ae, ac] aW al).g12 h1 h2 h3 h4 E O V Z aa J W aD
  replace ⟨C, ah⟩ := (sa [ao, ab, ag, af, ae, ac] aW al).g2 C ah
  clear aW
  replace aH := aH.rn ao
  clear al
  have fE := aH.len; have fF := aH.max
  refine .d fun gK bA => ?_
  replace ⟨h1, h2, h3, h4, E, O, V, Z, aa, J, W, aH⟩ := (se [aT, ab, ag, af, ae, ac] bA).g12 h1 h2 h3 h4 E O V Z aa J W aH
  replace ⟨aD, C, ah⟩ := (se [aT, ab, ag, af, ae, ac] bA).g3 aD C ah
  clear bA
  replace h1 := h1.outof
  replace h2 := h2.outof
  replace h3 := h3.outof
  replace h4 := h4.outof
  replace Z := Z.outof
  replace aa := aa.outof
  have bK : nin (fo F w.heap.size) [aT, ab, ag, af, ae, ac] cQ ∧ cQ ≠ aT := hap_mk (.inr dR) (all_cons (Nb.symm cm) (all_cons dP (all_cons dO (all_cons dN (all_cons dM (all_cons dL all_nil)))))) (Nb.symm cm)
  refine RG.append1 (T := 28) (ty := 28) (y := (⟨(addR s.idx n).2.1, (⟨r.t, r.v⟩ : Row)⟩ : Smp)) aH aD (by kernel_rfl) (by kernel_rfl) rfl bK (by have := p0.2.2.2; omega) fun aN cR gL aj az co => ?_
  have fG := nb_or az dT E.lt
  have fH := nb_or az dU O.lt
  have fI := nb_or az dV V.lt
  have fJ := nb_or az dW J.lt
  have fK := nb_or az dX W.lt
  have dZ := gb_or az dY C.size
  replace ⟨h1, h2, h3, h4, E, O, V, Z, aa, J, W, C⟩ := (sa [aT, ab, ag, af, ae, ac] co az).g12 h1 h2 h3 h4 E O V Z aa J W C
  clear co
  replace aj := aj.rn aT
  clear az
  have fL := aj.len; have fM := aj.max
  refine .r 1 <| .ss 3 (vS aN (0 + s.mem.length + 1) cR) W fun cS cp aI d0 => ?_
  replace ⟨h1, h2, h3, h4, E, O, V, Z, aa, J, aj, C⟩ := (so [aN, ab, ag, af, ae, ac] cp).g12 h1 h2 h3 h4 E O V Z aa J aj C
  clear cp d0
  refine .d <| .s <| .s <| .g <| .ln aI <| .r 1 <| .cl (c_spec_l13Rows (⟨(⟨((addR s.idx n).1).names, ((addR s.idx n).1).posts⟩ : Idx), s.parts, (([] ++ s.mem) ++ [(⟨(addR s.idx n).2.1, (⟨r.t, r.v⟩ : Row)⟩ : Smp)])⟩ : Sto) ((addR s.idx n).2.1) Z.ta aa.ta h3.ta (aj.rep) p0.2.1 p0.2.2.1 (by have := p0.2.2.2; simp; omega) (w := cS) (F := all)) ?_
  rintro gM gN ⟨⟨gO, gP, rfl, ba⟩, bB⟩
  have cq := al6 aj.lt aI.lt J.lt V.lt O.lt E.lt
  have d3 : Gb w.heap.size cS.heap.size := C.size
  replace ⟨h1, h2, h3, h4, E, O, V, Z, aa, J, aI, aj⟩ := (se [aN, ab, ag, af, ae, ac] bB).g12 h1 h2 h3 h4 E O V Z aa J aI aj
  replace C := (se [aN, ab, ag, af, ae, ac] bB).g1 C
  clear bB
  have ba := ba.fr cq d3
  replace ba := ba.base (G' := fo F w.heap.size) (fun _ _ h => .inr h)
  have fN := ba.max
  clear cq
  refine .r 1 <| .bp ((((rowsOf (⟨(⟨((addR s.idx n).1).names, ((addR s.idx n).1).posts⟩ : Idx), s.parts, (([] ++ s.mem) ++ [(⟨(addR s.idx n).2.1, (⟨r.t, r.v⟩ : Row)⟩ : Smp)])⟩ : Sto) ((addR s.idx n).2.1)).length) : Int) > 24) (fun d4 => ?_) (fun d4 => ?_)
  ·refine .d <| .ct <| .s <| .g <| .ln E <| .sc [.slice a1 s.idx.names.length c1, .slice a2 s.idx.posts.length c2, .slice a3 s.parts.length c3, .slice a4 s.mem.length c4] V fun gQ cr d5 d6 => ?_
   replace ⟨h1, h2, h3, h4, E, O, Z, aa, J, aI, aj, C⟩ := (so [aN, ab, ag, af, ae, ac] cr).g12 h1 h2 h3 h4 E O Z aa J aI aj C
   clear cr d6
   exact .r 1 <| .d <| .r2 Tryz.func59 Tryz.results59 (.bx d5) (.t (.bool false)) ⟨⟨_, (tup2 rfl (congrArg Value.bool (by rw [addS_4 (by assumption) (by assumption) (by assumption) (by assumption)]))), (VS.of (y := s) ⟨_, rfl, ⟨_, _, _, _, _, _, _, _, _, _, _, _, rfl, h1.w1, h2.w1, h3.w1, h4.w1⟩⟩ (by rw [addS_4 (by assumption) (by assumption) (by assumption) (by assumption)]))⟩, C⟩
  refine .d <| .cf <| .sk <| .s <| .g <| .ln aI <| .sc [.slice bd ((((addR s.idx n).1).names).length) bg, .slice bh ((((addR s.idx n).1).posts).length) bi, .slice a3 s.parts.length c3, vS aN (0 + s.mem.length + 1) cR] V fun e9 cu d7 d8 => ?_
  replace ⟨h1, h2, h3, h4, E, O, Z, aa, J, aj, C⟩ := (so [aN, ab, ag, af, ae, ac] cu).g11 h1 h2 h3 h4 E O Z aa J aj C
  clear cu d8
  refine .r 1 <| .d ?_
  have fa := aj.sl (.inr dZ)
  replace ⟨h1, h2, h3, h4, Z, aa⟩ := (sd e9 [aN, ab, ag, af, ae, ac] aN).g6 h1 h2 h3 h4 Z aa
  exact .r2 Tryz.func59 Tryz.results59 (.bx d7) (.t (.bool true)) ⟨⟨_, (tup2 rfl (congrArg Value.bool (by (rw [addS_5 (by assumption) (by assumption) (by assumption) (by assumption)] <;> rfl)))), (VS.of (y := (⟨(⟨((addR s.idx n).1).names, ((addR s.idx n).1).posts⟩ : Idx), s.parts, (([] ++ s.mem) ++ [(⟨(addR s.idx n).2.1, (⟨r.t, r.v⟩ : Row)⟩ : Smp)])⟩ : Sto)) ⟨_, rfl, ⟨_, _, _, _, _, _, _, _, _, _, _, _, rfl, Z.w1, aa.w1, h3.w1, fa.w1⟩⟩ (by (rw [addS_5 (by assumption) (by assumption) (by assumption) (by assumption)] <;> rfl)))⟩, C⟩
 refine .ns 1 51 [vI ((addR s.idx n).2.1), vI r.t, vI r.v] fun gR bC => ?_
 replace ⟨h1, h2, h3, h4, E, O, V, Z, aa, J, W, C⟩ := (se [ab, ag, af, ae, ac] bC).g12 h1 h2 h3 h4 E O V Z aa J W C
 replace ah := (se [ab, ag, af, ae, ac] bC).g1 ah
 clear bC
 intro cT gS aJ bD aq d9
 have ea := nb_new aJ E.lt
 have eb := nb_new aJ O.lt
 have ec := nb_new aJ V.lt
 have ed := nb_new aJ J.lt
 have ee := nb_new aJ W.lt
 have ef := gb_new aJ C.size
 replace ⟨h1, h2, h3, h4, E, O, V, Z, aa, J, W, C⟩ := (se [ab, ag, af, ae, ac] bD).g12 h1 h2 h3 h4 E O V Z aa J W C
 replace ah := (se [ab, ag, af, ae, ac] bD).g1 ah
 clear bD d9 aJ
 refine .go 0 <| .ns 0 51 [] fun gT bE => ?_
 replace ⟨h1, h2, h3, h4, E, O, V, Z, aa, J, W, aq⟩ := (se [ab, ag, af, ae, ac] bE).g12 h1 h2 h3 h4 E O V Z aa J W aq
 replace ⟨C, ah⟩ := (se [ab, ag, af, ae, ac] bE).g2 C ah
 clear bE
 intro aO fb av bF eg eh
 have ei := nb_new av E.lt
 have ej := nb_new av O.lt
 have ek := nb_new av V.lt
 have em := nb_new av J.lt
 have en := nb_new av W.lt
 have eo := nb_new av aq.lt
 have ep := gb_new av C.size
 have es := C.cn av
 have et := ah.cn av
 replace ⟨h1, h2, h3, h4, E, O, V, Z, aa, J, W, aq⟩ := (sn [ab, ag, af, ae, ac] bF av).g12 h1 h2 h3 h4 E O V Z aa J W aq
 replace C := (sn [ab, ag, af, ae, ac] bF av).g1 C
 clear bF eh av
 have bG : Own (α := Smp) fb aO 51 (nin (fo F w.heap.size) [aO, ab, ag, af, ae, ac]) 0 0 [] := Own.nil' eg
 refine .go 3 <| GE.append (T := 28) (ty := 28) (args := [vS aO 0 0, .slice a4 s.mem.length c4]) (by kernel_rfl) fun gU bH => ?_
 replace ⟨h1, h2, h3, h4, E, O, V, Z, aa, J, W, aq⟩ := (se [aO, ab, ag, af, ae, ac] bH).g12 h1 h2 h3 h4 E O V Z aa J W aq
 replace ⟨bG, C⟩ := (se [aO, ab, ag, af, ae, ac] bH).g2 bG C
 clear bH
 obtain ⟨aU, gV, gW, cv, aK, am, aX, ew⟩ := Own.appendF (P := Tryz.prog) (T := 28) (ty := 28) flat_smp bG (by kernel_rfl) h4 (fun b h e => h.2 (e ▸ (.head _))) (by have := p0.2.2.2; omega)
 refine ⟨_, _, cv, Chg.toS aX (Cov.toS et), ?_⟩
 clear ew
 have ex := nb_or am ei E.lt
 have ey := nb_or am ej O.lt
 have ez := nb_or am ek V.lt
 have eA := nb_or am em J.lt
 have eB := nb_or am en W.lt
 have cw := nb_or am eo aq.lt
 have eC := gb_or am ep C.size
 have fO := cov_or am es C.size
 replace ⟨h1, h2, h3, h4, E, O, V, Z, aa, J, W, aq⟩ := (sa [aO, ab, ag, af, ae, ac] aX am).g12 h1 h2 h3 h4 E O V Z aa J W aq
 replace C := (sa [aO, ab, ag, af, ae, ac] aX am).g1 C
 clear aX
 replace aK := aK.rn aO
 clear am
 have fP := aK.len; have fQ := aK.max
 refine .d fun gX bI => ?_
 replace ⟨h1, h2, h3, h4, E, O, V, Z, aa, J, W, aq⟩ := (se [aU, ab, ag, af, ae, ac] bI).g12 h1 h2 h3 h4 E O V Z aa J W aq
 replace ⟨aK, C⟩ := (se [aU, ab, ag, af, ae, ac] bI).g2 aK C
 clear bI
 replace h1 := h1.outof
 replace h2 := h2.outof
 replace h3 := h3.outof
 replace h4 := h4.outof
 replace Z := Z.outof
 replace aa := aa.outof
 have bL : nin (fo F w.heap.size) [aU, ab, ag, af, ae, ac] cT ∧ cT ≠ aU := hap_mk (.inr ef) (all_cons (Nb.symm cw) (all_cons ee (all_cons ed (all_cons ec (all_cons eb (all_cons ea all_nil)))))) (Nb.symm cw)
 refine RG.append1 (T := 28) (ty := 28) (y := (⟨(addR s.idx n).2.1, (⟨r.t, r.v⟩ : Row)⟩ : Smp)) aK aq (by kernel_rfl) (by kernel_rfl) rfl bL (by have := p0.2.2.2; omega) fun aP cU gY ak aA cx => ?_
 have fR := nb_or aA ex E.lt
 have fS := nb_or aA ey O.lt
 have fT := nb_or aA ez V.lt
 have fU := nb_or aA eA J.lt
 have fV := nb_or aA eB W.lt
 have eD := gb_or aA eC C.size
 replace ⟨h1, h2, h3, h4, E, O, V, Z, aa, J, W, C⟩ := (sa [aU, ab, ag, af, ae, ac] cx aA).g12 h1 h2 h3 h4 E O V Z aa J W C
 clear cx
 replace ak := ak.rn aU
 clear aA
 have fW := ak.len; have fX := ak.max
 refine .r 1 <| .ss 3 (vS aP (0 + s.mem.length + 1) cU) W fun cV cy aL eE => ?_
 replace ⟨h1, h2, h3, h4, E, O, V, Z, aa, J, ak, C⟩ := (so [aP, ab, ag, af, ae, ac] cy).g12 h1 h2 h3 h4 E O V Z aa J ak C
 clear cy eE
 refine .d <| .s <| .s <| .g <| .ln aL <| .r 1 <| .cl (c_spec_l13Rows (⟨(⟨((addR s.idx n).1).names, ((addR s.idx n).1).posts⟩ : Idx), s.parts, (([] ++ s.mem) ++ [(⟨(addR s.idx n).2.1, (⟨r.t, r.v⟩ : Row)⟩ : Smp)])⟩ : Sto) ((addR s.idx n).2.1) Z.ta aa.ta h3.ta (ak.rep) p0.2.1 p0.2.2.1 (by have := p0.2.2.2; simp; omega) (w := cV) (F := all)) ?_
 rintro gZ g0 ⟨⟨hC, hD, rfl, bc⟩, cz⟩
 have cA := al6 ak.lt aL.lt J.lt V.lt O.lt E.lt
 have eF : Gb w.heap.size cV.heap.size := C.size
 replace ⟨h1, h2, h3, h4, E, V, Z, aa, aL, ak, C⟩ := (se [aP, ab, ag, af, ae, ac] cz).g11 h1 h2 h3 h4 E V Z aa aL ak C
 clear cz
 have bc := bc.fr cA eF
 replace bc := bc.base (G' := fo F w.heap.size) (fun _ _ h => .inr h)
 have fY := bc.max
 clear cA
 refine .r 1 <| .bp ((((rowsOf (⟨(⟨((addR s.idx n).1).names, ((addR s.idx n).1).posts⟩ : Idx), s.parts, (([] ++ s.mem) ++ [(⟨(addR s.idx n).2.1, (⟨r.t, r.v⟩ : Row)⟩ : Smp)])⟩ : Sto) ((addR s.idx n).2.1)).length) : Int) > 24) (fun eG => ?_) (fun eG => ?_)
 ·refine .d <| .ct <| .s <| .g <| .ln E <| .sc [.slice a1 s.idx.names.length c1, .slice a2 s.idx.posts.length c2, .slice a3 s.parts.length c3, .slice a4 s.mem.length c4] V fun hE cB eH eI => ?_
  replace ⟨h1, h2, h3, h4, Z, aa, aL, ak, C⟩ := (so [aP, ab, ag, af, ae, ac] cB).g9 h1 h2 h3 h4 Z aa aL ak C
  clear cB eI
  exact .r 1 <| .d <| .r2 Tryz.func59 Tryz.results59 (.bx eH) (.t (.bool false)) ⟨⟨_, (tup2 rfl (congrArg Value.bool (by rw [addS_4 (by assumption) (by assumption) (by assumption) (by assumption)]))), (VS.of (y := s) ⟨_, rfl, ⟨_, _, _, _, _, _, _, _, _, _, _, _, rfl, h1.w1, h2.w1, h3.w1, h4.w1⟩⟩ (by rw [addS_4 (by assumption) (by assumption) (by assumption) (by assumption)]))⟩, C⟩
 refine .d <| .cf <| .sk <| .s <| .g <| .ln aL <| .sc [.slice bd ((((addR s.idx n).1).names).length) bg, .slice bh ((((addR s.idx n).1).posts).length) bi, .slice a3 s.parts.length c3, vS aP (0 + s.mem.length + 1) cU] V fun fc cC eJ eK => ?_
 replace ⟨h3, Z, aa, ak, C⟩ := (so [aP, ab, ag, af, ae, ac] cC).g5 h3 Z aa ak C
 clear cC eK
 refine .r 1 <| .d ?_
 have fd := ak.sl (.inr eD)
 replace ⟨h3, Z, aa⟩ := (sd fc [aP, ab, ag, af, ae, ac] aP).g3 h3 Z aa
 exact .r2 Tryz.func59 Tryz.results59 (.bx eJ) (.t (.bool true)) ⟨⟨_, (tup2 rfl (congrArg Value.bool (by (rw [addS_5 (by assumption) (by assumption) (by assumption) (by assumption)] <;> rfl)))), (VS.of (y := (⟨(⟨((addR s.idx n).1).names, ((addR s.idx n).1).posts⟩ : Idx), s.parts, (([] ++ s.mem) ++ [(⟨(addR s.idx n).2.1, (⟨r.t, r.v⟩ : Row)⟩ : Smp)])⟩ : Sto)) ⟨_, rfl, ⟨_, _, _, _, _, _, _, _, _, _, _, _, rfl, Z.w1, aa.w1, h3.w1, fd.w1⟩⟩ (by (rw [addS_5 (by assumption) (by assumption) (by assumption) (by assumption)] <;> rfl)))⟩, C⟩
end Go.Proofs.YtfnpaglcnmcnbaaGreat
namespace Go.Proofs.YtfnpaglcnmcnbaaGreat
def copyS (s : Sto) : Sto := ⟨idxOf s.idx.names, s.parts, s.mem⟩
def tidyD (d : Dsk) : Dsk := ⟨d.files.filter (fun f => d.list.contains f.num), d.list, d.names, d.next⟩
def flushSt (d : Dsk) (s : Sto) : List Stp :=
 if s.mem.length = 0 ∨ d.list.length ≥ 6 ∨ d.next ≥ 999 ∨ d.files.length ≥ 20 then []
 else [⟨1, d.next, memPart s.mem, [], []⟩, ⟨2, 0, ⟨[], []⟩, d.list ++ [d.next], s.idx.names⟩]
theorem flushSt_no {d : Dsk} {s : Sto} (h : (s.mem.length : Int) = 0 ∨ (d.list.length : Int) ≥ 6 ∨ d.next ≥ 999 ∨ (d.files.length : Int) ≥ 20) : flushSt d s = [] := by unfold flushSt; rw [if_pos (by omega)]
theorem flushSt_yes {d : Dsk} {s : Sto} (h1 : (s.mem.length : Int) ≠ 0) (h2 : ¬ (d.list.length : Int) ≥ 6) (h3 : ¬ d.next ≥ 999) (h4 : ¬ (d.files.length : Int) ≥ 20) :
 flushSt d s = [⟨1, d.next, memPart s.mem, [], []⟩, ⟨2, 0, ⟨[], []⟩, d.list ++ [d.next], s.idx.names⟩] := by unfold flushSt; rw [if_neg (by omega)]
theorem appStep {α : Type} {l : List (List α)} {i : Nat} {k : List (List α)} {q : List α} (h : k ++ l.drop i = l) (hd : l.drop i = q :: l.drop (i + 1)) : (k ++ [[] ++ q]) ++ l.drop (i + 1) = l := by
 rw [hd] at h
 simpa using h
theorem copyStep {l : List Prt} {i : Nat} {k : List Prt} {q : Prt} {a : List Int} {b : List (List Row)} (h : k ++ l.drop i = l) (hd : l.drop i = q :: l.drop (i + 1)) (ha : a = q.ids) (hb : b = q.blocks) : (k ++ [⟨a, b⟩]) ++ l.drop (i + 1) = l := by
 subst ha hb
 rw [hd] at h
 simpa using h
end Go.Proofs.YtfnpaglcnmcnbaaGreat
