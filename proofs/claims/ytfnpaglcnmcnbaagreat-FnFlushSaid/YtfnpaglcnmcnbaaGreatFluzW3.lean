/- walks; squeezed -/
import Derived.Test.YtfnpaglcnmcnbaaGreatFluzW2
set_option linter.unusedVariables false
set_option linter.unusedSimpArgs false
namespace Go.Proofs.YtfnpaglcnmcnbaaGreat
set_option maxRecDepth 100000
set_option maxHeartbeats 4000000
theorem c_spec_NameOk (n : List Tag) {w : World} {F : Nat → Prop} {a1 : Option Addr} {n1 c1 : Nat} (h1 : RepS w F a1 n1 c1 n)  : Calls Tryz.prog 20 [.slice a1 n1 c1].toArray w (rets fun rv w' => rv = .bool (nameOk n) ∧ Ext w w') := by
 refine goT Tryz.func20 ?_
 obtain ⟨rfl, aw, h1⟩ := h1.tp
 refine .s <| .g <| .r 1 <| .d <| .s <| .s <| .g <| .r 1 <| .d <| .b 0 <| T.loop (X := Nat) 0 (fun i => [(0, .slice a1 n.length c1), (3, vI (i : Int))]) (fun i V => Chg (ins []) w V ∧ (i ≤ n.length) ∧ (nameF (prev n i) (n.drop i) = nameF none n)) (fun i => n.length - i) (by kernel_rfl) ⟨by kernel_rfl, by kernel_rfl, trivial⟩ ⟨Chg.refl _ _, (by simp [prev]), (by simp [prev])⟩ ?_
 rintro i aE V ⟨C, ax, ay⟩ J
 have ab : Mv [] [] w V := Mv.inl C all_nil all_nil
 replace h1 := (sp ab C).g1 h1
 have E : Chg nil w V := Chg.stepI (Chg.refl nil w) C all_nil
 clear ab
 refine .s <| .s <| .g <| .r 3 <| .bp ((i : Int) < (n.length : Int)) (fun ak => ?_) (fun ak => ?_)
 · refine .d <| .ct <| .sk <| .s <| .b 1 <| .s <| .gd nil 21 fun aF ac => ?_
   replace ⟨h1, E, C⟩ := (se [] ac).g3 h1 E C
   clear ac
   refine .r [0, 1] ?_
   have al : i < n.length := (by omega)
   refine .ix 2 i 2 h1 al ?_
   obtain ⟨O, W⟩ : ∃ y, n[i]? = some y := ⟨_, List.getElem?_eq_getElem (by omega)⟩
   have az := drop_at W; have ar := List.mem_of_getElem? W
   obtain ⟨_, rfl, ae⟩ := h1.elem i O W
   refine .lg 3 0 ae id <| GA.call1 (i := 4) (by kernel_rfl) (fun av aA => c_spec_l3Tag O (w := av) (F := all)) ?_
   cases aB : (tagOk O)
   · refine .r [5, 6, 7, 8, 9, 10, 11, 12, 13, 14, 15, 16, 17, 18, 19, 20] <| .d fun aG af => ?_
     replace ⟨h1, E, C⟩ := (se [] af).g3 h1 E C
     clear af
     exact .r 3 <| .d <| .ct <| .s <| .g <| .r 1 <| .d <| .rt Tryz.func20 Tryz.results20 (.bool false) ⟨(congrArg Value.bool (by grind [nameF, nameOk, prev, drop_end])), E⟩
   refine .r [5, 6, 7] <| GA.boolP (i := 8) ((i : Int) > 0) (by kernel_rfl) (fun am => ?_) (fun am => ?_)
   · refine .r [9, 10, 11] <| GA.int (i := 12) ((i : Int) - 1) (by kernel_rfl) (by omega) ?_
     have ag : i - 1 < n.length := (by omega)
     refine GA.idx (i := 13) (i - 1) (len := n.length) (z := (i : Int) - 1) (sz := 2) (by kernel_rfl) (by omega) ag (h1.addr (Nat.zero_lt_of_lt ag)) <| .r [14] ?_
     obtain ⟨aa, Z⟩ : ∃ y, n[i - 1]? = some y := ⟨_, List.getElem?_eq_getElem (by omega)⟩
     have aC := drop_at Z; have au := List.mem_of_getElem? Z
     obtain ⟨_, rfl, ao⟩ := h1.elem (i - 1) aa Z
     refine .lh 15 0 ao id <| .r [16, 17] ?_
     have aq : i < n.length := (by omega)
     refine .ix 18 i 2 h1 aq <| .r [19] <| .lh 20 0 ae id <| .d fun aH ah => ?_
     replace ⟨E, C⟩ := (se [] ah).g2 E C
     clear ah
     refine RG.eqv (v := .bool (!(strLt aa.key O.key))) (by kernel_rfl) (s_ge aa.key O.key) ?_
     cases aD : (strLt aa.key O.key)
     · exact .r 2 <| .d <| .ct <| .s <| .g <| .r 1 <| .d <| .rt Tryz.func20 Tryz.results20 (.bool false) ⟨(congrArg Value.bool (by grind [nameF, nameOk, prev, drop_end])), E⟩
     exact .r 2 <| .d <| .cf <| .sk <| .ib 1 <| .g <| .r 1 <| .it ((i : Int) + 1) <| .r 1 <| .d <| J (i + 1) _ _ ⟨by kernel_rfl, by kernel_rfl, trivial⟩ ⟨C, (by omega), (by grind [nameF, prev])⟩ (by first | omega | (simp only []; omega))
   refine .r [9, 10, 11, 12, 13, 14, 15, 16, 17, 18, 19, 20] <| .d fun aI ai => ?_
   replace ⟨E, C⟩ := (se [] ai).g2 E C
   clear ai
   exact .r 3 <| .d <| .cf <| .sk <| .ib 1 <| .g <| .r 1 <| .it ((i : Int) + 1) <| .r 1 <| .d <| J (i + 1) _ _ ⟨by kernel_rfl, by kernel_rfl, trivial⟩ ⟨C, (by omega), (by grind [nameF, prev])⟩ (by first | omega | (simp only []; omega))
 refine .d <| .cf <| .x 0 rfl <| .s <| .g <| .r 2 <| .cl (c_spec_l6In (n.length : Int) 1 3 (w := V) (F := all)) ?_
 rintro aJ aK ⟨rfl, aj⟩
 replace E := (se [] aj).g1 E
 clear aj
 exact .r 1 <| .d <| .rt Tryz.func20 Tryz.results20 (.bool (inR (n.length : Int) 1 3)) ⟨(congrArg Value.bool (by grind [nameF, nameOk, prev, drop_end])), E⟩
theorem c_impl_NameOk (n : List Tag) {w : World} {F : Nat → Prop} {a1 : Option Addr} {n1 c1 : Nat} (h1 : RepS w F a1 n1 c1 n)  : Calls Tryz.prog 61 [.slice a1 n1 c1].toArray w (rets fun rv w' => rv = .bool (nameOk n) ∧ Ext w w') := by
 refine goT Tryz.func61 ?_
 obtain ⟨rfl, aD, h1⟩ := h1.tp
 refine .s <| .g <| .r 1 <| .d <| .s <| .s <| .g <| .r 3 <| .d <| .b 0 <| T.loop (X := Nat) 0 (fun k => [(0, .slice a1 n.length c1), (5, .slice a1 n.length c1), (6, vI (n.length : Int)), (7, vI (k : Int))]) (fun k Z => Chg (ins []) w Z ∧ (k ≤ n.length) ∧ (nameF (prev n k) (n.drop k) = nameF none n)) (fun k => n.length - k) (by kernel_rfl) ⟨by kernel_rfl, by kernel_rfl, by kernel_rfl, by kernel_rfl, trivial⟩ ⟨Chg.refl _ _, (by simp [prev]), (by simp [prev])⟩ ?_
 rintro k aN Z ⟨C, aE, aF⟩ O
 have ae : Mv [] [] w Z := Mv.inl C all_nil all_nil
 replace h1 := (sp ae C).g1 h1
 have E : Chg nil w Z := Chg.stepI (Chg.refl nil w) C all_nil
 clear ae
 refine .s <| .g <| .bp ((k : Int) < (n.length : Int)) (fun aq => ?_) (fun aq => ?_)
 · refine .d <| .s <| .ct <| .sk <| .s <| .b 1 <| .s <| .g <| .r 1 ?_
   have ar : k < n.length := (by omega)
   refine .ix k 2 h1 ar ?_
   obtain ⟨V, aa⟩ : ∃ y, n[k]? = some y := ⟨_, List.getElem?_eq_getElem (by omega)⟩
   have aG := drop_at aa; have aA := List.mem_of_getElem? aa
   obtain ⟨_, rfl, au⟩ := h1.elem k V aa
   refine .lg 0 au <| .np 112 [.string (bs []), .string (bs [])] fun ao aO W af av aw => ?_
   have aH := E.cn W
   have aI := C.cn W
   replace ⟨h1, E, C⟩ := (sn [] af W).g3 h1 E C
   clear af aw W
   refine .r 1 <| .sc [vT V.key, vT V.val] av fun aP ag J ax => ?_
   replace ⟨h1, E, C⟩ := (so [ao] ag).g3 h1 E C
   clear ag ax
   refine .d <| .s <| .gd nil 15 fun aQ ah => ?_
   replace ⟨h1, J, E, C⟩ := (se [ao] ah).g4 h1 J E C
   clear ah
   refine .ln 0 J id <| GA.call1 (i := 1) (by kernel_rfl) (fun aC aJ => c_impl_tagOk V (w := aC) (F := all)) ?_
   cases aK : (tagOk V)
   · refine .r [2, 3, 4, 5, 6, 7, 8, 9, 10, 11, 12, 13, 14] <| .d fun aR ai => ?_
     replace ⟨h1, J, E, C⟩ := (se [ao] ai).g4 h1 J E C
     clear ai
     exact .r 3 <| .d <| .ct <| .s <| .g <| .r 1 <| .d <| .rt Tryz.func61 Tryz.results61 (.bool false) ⟨(congrArg Value.bool (by grind [nameF, nameOk, prev, drop_end])), E⟩
   refine .r [2, 3, 4] <| GA.boolP (i := 5) ((k : Int) > 0) (by kernel_rfl) (fun ay => ?_) (fun ay => ?_)
   · refine .r [6, 7, 8] <| GA.int (i := 9) ((k : Int) - 1) (by kernel_rfl) (by omega) ?_
     have aj : k - 1 < n.length := (by omega)
     refine GA.idx (i := 10) (k - 1) (len := n.length) (z := (k : Int) - 1) (sz := 2) (by kernel_rfl) (by omega) aj (h1.addr (Nat.zero_lt_of_lt aj)) <| .r [11] ?_
     obtain ⟨ac, ab⟩ : ∃ y, n[k - 1]? = some y := ⟨_, List.getElem?_eq_getElem (by omega)⟩
     have aL := drop_at ab; have aB := List.mem_of_getElem? ab
     obtain ⟨_, rfl, az⟩ := h1.elem (k - 1) ac ab
     refine .lh 12 0 az id <| .r [13] <| .lb 14 J id <| .d fun aS ak => ?_
     replace ⟨E, C⟩ := (se [] ak).g2 E C
     clear ak
     refine RG.eqv (v := .bool (!(strLt ac.key V.key))) (by kernel_rfl) (s_ge ac.key V.key) ?_
     cases aM : (strLt ac.key V.key)
     · exact .r 2 <| .d <| .ct <| .s <| .g <| .r 1 <| .d <| .rt Tryz.func61 Tryz.results61 (.bool false) ⟨(congrArg Value.bool (by grind [nameF, nameOk, prev, drop_end])), E⟩
     exact .r 2 <| .d <| .cf <| .sk <| .ib 1 <| .g <| .it ((k : Int) + 1) <| .r 1 <| .d <| O (k + 1) _ _ ⟨by kernel_rfl, by kernel_rfl, by kernel_rfl, by kernel_rfl, trivial⟩ ⟨C, (by omega), (by grind [nameF, prev])⟩ (by first | omega | (simp only []; omega))
   refine .r [6, 7, 8, 9, 10, 11, 12, 13, 14] <| .d fun aT al => ?_
   replace ⟨E, C⟩ := (se [] al).g2 E C
   clear al
   exact .r 3 <| .d <| .cf <| .sk <| .ib 1 <| .g <| .it ((k : Int) + 1) <| .r 1 <| .d <| O (k + 1) _ _ ⟨by kernel_rfl, by kernel_rfl, by kernel_rfl, by kernel_rfl, trivial⟩ ⟨C, (by omega), (by grind [nameF, prev])⟩ (by first | omega | (simp only []; omega))
 refine .d <| .s <| .cf <| .x 0 rfl <| .s <| .g <| .r 2 <| .cl (c_impl_within (n.length : Int) 1 3 (w := Z) (F := all)) ?_
 rintro aU aV ⟨rfl, am⟩
 replace E := (se [] am).g1 E
 clear am
 exact .r 1 <| .d <| .rt Tryz.func61 Tryz.results61 (.bool (inR (n.length : Int) 1 3)) ⟨(congrArg Value.bool (by grind [nameF, nameOk, prev, drop_end])), E⟩
theorem c_spec_BlockOk (b : List Row) {w : World} {F : Nat → Prop} {a1 : Option Addr} {n1 c1 : Nat} (h1 : RepS w F a1 n1 c1 b)  : Calls Tryz.prog 146 [.slice a1 n1 c1].toArray w (rets fun rv w' => rv = .bool (blockOk b) ∧ Ext w w') := by
 refine goT Tryz.func146 ?_
 obtain ⟨rfl, aw, h1⟩ := h1.tp
 refine .s <| .g <| .r 1 <| .d <| .s <| .s <| .g <| .r 1 <| .d <| .b 0 <| T.loop (X := Nat) 0 (fun i => [(0, .slice a1 b.length c1), (3, vI (i : Int))]) (fun i W => Chg (ins []) w W ∧ (i ≤ b.length) ∧ (blockF (prev b i) (b.drop i) = blockF none b)) (fun i => b.length - i) (by kernel_rfl) ⟨by kernel_rfl, by kernel_rfl, trivial⟩ ⟨Chg.refl _ _, (by simp [prev]), (by simp [prev])⟩ ?_
 rintro i aD W ⟨C, ax, ay⟩ J
 have aa : Mv [] [] w W := Mv.inl C all_nil all_nil
 replace h1 := (sp aa C).g1 h1
 have E : Chg nil w W := Chg.stepI (Chg.refl nil w) C all_nil
 clear aa
 refine .s <| .s <| .g <| .r 3 <| .bp ((i : Int) < (b.length : Int)) (fun ai => ?_) (fun ai => .d <| .cf <| .x 0 rfl <| .s <| .g <| .r 4 <| .d <| .rt Tryz.func146 Tryz.results146 (.bool (decide ((b.length : Int) ≤ 24))) ⟨(congrArg Value.bool (by grind [blockF, blockOk, prev, drop_end])), E⟩)
 refine .d <| .ct <| .sk <| .s <| .b 1 <| .s <| .gd nil 21 fun aE ab => ?_
 replace ⟨h1, E, C⟩ := (se [] ab).g3 h1 E C
 clear ab
 refine .r [0, 1] ?_
 have aj : i < b.length := (by omega)
 refine .ix 2 i 2 h1 aj ?_
 obtain ⟨Z, O⟩ : ∃ y, b[i]? = some y := ⟨_, List.getElem?_eq_getElem (by omega)⟩
 have az := drop_at O; have ar := List.mem_of_getElem? O
 obtain ⟨_, rfl, ac⟩ := h1.elem i Z O
 refine .lg 3 0 ac id <| GA.call1 (i := 4) (by kernel_rfl) (fun av aA => c_spec_l2Row Z (w := av) (F := all)) ?_
 cases aB : (rowOk Z)
 · refine .r [5, 6, 7, 8, 9, 10, 11, 12, 13, 14, 15, 16, 17, 18, 19, 20] <| .d fun aF ae => ?_
   replace ⟨h1, E, C⟩ := (se [] ae).g3 h1 E C
   clear ae
   exact .r 3 <| .d <| .ct <| .s <| .g <| .r 1 <| .d <| .rt Tryz.func146 Tryz.results146 (.bool false) ⟨(congrArg Value.bool (by grind [blockF, blockOk, prev, drop_end])), E⟩
 refine .r [5, 6, 7] <| GA.boolP (i := 8) ((i : Int) > 0) (by kernel_rfl) (fun ak => ?_) (fun ak => ?_)
 · refine .r [9, 10, 11] <| GA.int (i := 12) ((i : Int) - 1) (by kernel_rfl) (by omega) ?_
   have af : i - 1 < b.length := (by omega)
   refine GA.idx (i := 13) (i - 1) (len := b.length) (z := (i : Int) - 1) (sz := 2) (by kernel_rfl) (by omega) af (h1.addr (Nat.zero_lt_of_lt af)) <| .r [14] ?_
   obtain ⟨al, V⟩ : ∃ y, b[i - 1]? = some y := ⟨_, List.getElem?_eq_getElem (by omega)⟩
   have aC := drop_at V; have au := List.mem_of_getElem? V
   obtain ⟨_, rfl, am⟩ := h1.elem (i - 1) al V
   refine .lh 15 0 am id <| .r [16, 17] ?_
   have ao : i < b.length := (by omega)
   refine .ix 18 i 2 h1 ao <| .r [19] <| .lh 20 0 ac id <| .d fun aG ag => ?_
   replace ⟨E, C⟩ := (se [] ag).g2 E C
   clear ag
   exact .bp (al.t ≥ Z.t) (fun aq => .r 2 <| .d <| .ct <| .s <| .g <| .r 1 <| .d <| .rt Tryz.func146 Tryz.results146 (.bool false) ⟨(congrArg Value.bool (by grind [blockF, blockOk, prev, drop_end])), E⟩) fun aq => .r 2 <| .d <| .cf <| .sk <| .ib 1 <| .g <| .r 1 <| .it ((i : Int) + 1) <| .r 1 <| .d <| J (i + 1) _ _ ⟨by kernel_rfl, by kernel_rfl, trivial⟩ ⟨C, (by omega), (by grind [blockF, prev])⟩ (by first | omega | (simp only []; omega))
 refine .r [9, 10, 11, 12, 13, 14, 15, 16, 17, 18, 19, 20] <| .d fun aH ah => ?_
 replace ⟨E, C⟩ := (se [] ah).g2 E C
 clear ah
 exact .r 3 <| .d <| .cf <| .sk <| .ib 1 <| .g <| .r 1 <| .it ((i : Int) + 1) <| .r 1 <| .d <| J (i + 1) _ _ ⟨by kernel_rfl, by kernel_rfl, trivial⟩ ⟨C, (by omega), (by grind [blockF, prev])⟩ (by first | omega | (simp only []; omega))
theorem c_impl_BlockOk (b : List Row) {w : World} {F : Nat → Prop} {a1 : Option Addr} {n1 c1 : Nat} (h1 : RepS w F a1 n1 c1 b)  : Calls Tryz.prog 21 [.slice a1 n1 c1].toArray w (rets fun rv w' => rv = .bool (blockOk b) ∧ Ext w w') := by
 refine goT Tryz.func21 ?_
 obtain ⟨rfl, aD, h1⟩ := h1.tp
 refine .s <| .g <| .r 1 <| .d <| .s <| .s <| .g <| .r 3 <| .d <| .b 0 <| T.loop (X := Nat) 0 (fun k => [(0, .slice a1 b.length c1), (5, .slice a1 b.length c1), (6, vI (b.length : Int)), (7, vI (k : Int))]) (fun k ab => Chg (ins []) w ab ∧ (k ≤ b.length) ∧ (blockF (prev b k) (b.drop k) = blockF none b)) (fun k => b.length - k) (by kernel_rfl) ⟨by kernel_rfl, by kernel_rfl, by kernel_rfl, by kernel_rfl, trivial⟩ ⟨Chg.refl _ _, (by simp [prev]), (by simp [prev])⟩ ?_
 rintro k aM ab ⟨C, aE, aF⟩ O
 have ac : Mv [] [] w ab := Mv.inl C all_nil all_nil
 replace h1 := (sp ac C).g1 h1
 have E : Chg nil w ab := Chg.stepI (Chg.refl nil w) C all_nil
 clear ac
 refine .s <| .g <| .bp ((k : Int) < (b.length : Int)) (fun am => ?_) (fun am => .d <| .s <| .cf <| .x 0 rfl <| .s <| .g <| .r 4 <| .d <| .rt Tryz.func21 Tryz.results21 (.bool (decide ((b.length : Int) ≤ 24))) ⟨(congrArg Value.bool (by grind [blockF, blockOk, prev, drop_end])), E⟩)
 refine .d <| .s <| .ct <| .sk <| .s <| .b 1 <| .s <| .g <| .r 1 ?_
 have ao : k < b.length := (by omega)
 refine .ix k 2 h1 ao ?_
 obtain ⟨W, Z⟩ : ∃ y, b[k]? = some y := ⟨_, List.getElem?_eq_getElem (by omega)⟩
 have aG := drop_at Z; have aA := List.mem_of_getElem? Z
 obtain ⟨_, rfl, aq⟩ := h1.elem k W Z
 refine .lg 0 aq <| .np 33 [vI 0, vI 0] fun al aN V ae ar au => ?_
 have aH := E.cn V
 have aI := C.cn V
 replace ⟨h1, E, C⟩ := (sn [] ae V).g3 h1 E C
 clear ae au V
 refine .r 1 <| .sc [vI W.t, vI W.v] ar fun aO af J av => ?_
 replace ⟨h1, E, C⟩ := (so [al] af).g3 h1 E C
 clear af av
 refine .d <| .s <| .gd nil 15 fun aP ag => ?_
 replace ⟨h1, J, E, C⟩ := (se [al] ag).g4 h1 J E C
 clear ag
 refine .ln 0 J id <| GA.call1 (i := 1) (by kernel_rfl) (fun aC aJ => c_impl_rowOk W (w := aC) (F := all)) ?_
 cases aK : (rowOk W)
 · refine .r [2, 3, 4, 5, 6, 7, 8, 9, 10, 11, 12, 13, 14] <| .d fun aQ ah => ?_
   replace ⟨h1, J, E, C⟩ := (se [al] ah).g4 h1 J E C
   clear ah
   exact .r 3 <| .d <| .ct <| .s <| .g <| .r 1 <| .d <| .rt Tryz.func21 Tryz.results21 (.bool false) ⟨(congrArg Value.bool (by grind [blockF, blockOk, prev, drop_end])), E⟩
 refine .r [2, 3, 4] <| GA.boolP (i := 5) ((k : Int) > 0) (by kernel_rfl) (fun aw => ?_) (fun aw => ?_)
 · refine .r [6, 7, 8] <| GA.int (i := 9) ((k : Int) - 1) (by kernel_rfl) (by omega) ?_
   have ai : k - 1 < b.length := (by omega)
   refine GA.idx (i := 10) (k - 1) (len := b.length) (z := (k : Int) - 1) (sz := 2) (by kernel_rfl) (by omega) ai (h1.addr (Nat.zero_lt_of_lt ai)) <| .r [11] ?_
   obtain ⟨ax, aa⟩ : ∃ y, b[k - 1]? = some y := ⟨_, List.getElem?_eq_getElem (by omega)⟩
   have aL := drop_at aa; have aB := List.mem_of_getElem? aa
   obtain ⟨_, rfl, ay⟩ := h1.elem (k - 1) ax aa
   refine .lh 12 0 ay id <| .r [13] <| .lb 14 J id <| .d fun aR aj => ?_
   replace ⟨E, C⟩ := (se [] aj).g2 E C
   clear aj
   exact .bp (ax.t ≥ W.t) (fun az => .r 2 <| .d <| .ct <| .s <| .g <| .r 1 <| .d <| .rt Tryz.func21 Tryz.results21 (.bool false) ⟨(congrArg Value.bool (by grind [blockF, blockOk, prev, drop_end])), E⟩) fun az => .r 2 <| .d <| .cf <| .sk <| .ib 1 <| .g <| .it ((k : Int) + 1) <| .r 1 <| .d <| O (k + 1) _ _ ⟨by kernel_rfl, by kernel_rfl, by kernel_rfl, by kernel_rfl, trivial⟩ ⟨C, (by omega), (by grind [blockF, prev])⟩ (by first | omega | (simp only []; omega))
 refine .r [6, 7, 8, 9, 10, 11, 12, 13, 14] <| .d fun aS ak => ?_
 replace ⟨E, C⟩ := (se [] ak).g2 E C
 clear ak
 exact .r 3 <| .d <| .cf <| .sk <| .ib 1 <| .g <| .it ((k : Int) + 1) <| .r 1 <| .d <| O (k + 1) _ _ ⟨by kernel_rfl, by kernel_rfl, by kernel_rfl, by kernel_rfl, trivial⟩ ⟨C, (by omega), (by grind [blockF, prev])⟩ (by first | omega | (simp only []; omega))
theorem c_spec_PartOk (p : Prt) {w : World} {F : Nat → Prop} {a1 : Option Addr} {n1 c1 : Nat} (h1 : RepS w F a1 n1 c1 p.ids) {a2 : Option Addr} {n2 c2 : Nat} (h2 : RepS w F a2 n2 c2 p.blocks)  : Calls Tryz.prog 95 [.agg #[.slice a1 n1 c1, .slice a2 n2 c2]].toArray w (rets fun rv w' => rv = .bool (partOk p) ∧ Ext w w') := by
 refine goT Tryz.func95 ?_
 obtain ⟨rfl, bq, h1⟩ := h1.tp
 obtain ⟨rfl, br, h2⟩ := h2.tp
 refine .s <| .g <| .np 75 [.slice a1 p.ids.length c1, .slice a2 p.blocks.length c2] fun O aH ak aa E aI => ?_
 replace ⟨h1, h2⟩ := (sn [] aa ak).g2 h1 h2
 have C := aa
 clear aa aI ak
 refine .r 1 <| .d <| .s <| .s <| .g <| .r 1 <| .lb E <| .r 2 <| .lb E <| .r 1 <| .ne (p.ids.length : Int) (p.blocks.length : Int) (fun aJ => .d <| .ct <| .s <| .g <| .r 1 <| .d <| .rt Tryz.func95 Tryz.results95 (.bool false) ⟨(congrArg Value.bool (by first | grind [partG, partOk, prev, drop_end] | (have hdd := List.drop_eq_getElem_cons (l := p.blocks) (i := i) (by omega); grind [partG, partOk, prev, drop_end]))), C⟩) fun aJ => .d <| .cf <| .sk <| .s <| .s <| .g <| .r 1 <| .d <| .b 0 <| T.loop (X := Nat) 0 (fun i => [(1, .pointer (some ⟨O, 0, none⟩)), (3, vI (i : Int))]) (fun i aB => Chg (ins []) aH aB ∧ (i ≤ p.ids.length) ∧ (partG (prev p.ids i) (p.ids.drop i) (p.blocks.drop i) = partG none p.ids p.blocks)) (fun i => p.ids.length - i) (by kernel_rfl) ⟨by kernel_rfl, by kernel_rfl, trivial⟩ ⟨Chg.refl _ _, (by simp [prev]), (by simp [prev])⟩ ?_
 rintro i bP aB ⟨J, bt, bu⟩ V
 have al : Mv [O] [O] aH aB := Mv.inl J all_nil (all_cons (.inl (.head _)) all_nil)
 replace ⟨h1, h2, E, C⟩ := (sp al J).g4 h1 h2 E C
 clear al
 refine .s <| .s <| .g <| .r 2 <| .lb E <| .r 1 <| .bp ((i : Int) < (p.ids.length : Int)) (fun aK => ?_) (fun aK => .d <| .cf <| .x 0 rfl <| .s <| .g <| .r 1 <| .d <| .rt Tryz.func95 Tryz.results95 (.bool true) ⟨(congrArg Value.bool (by first | grind [partG, partOk, prev, drop_end] | (have hdd := List.drop_eq_getElem_cons (l := p.blocks) (i := i) (by omega); grind [partG, partOk, prev, drop_end]))), C⟩)
 refine .d <| .ct <| .sk <| .s <| .b 1 <| .s <| .gd nil 38 fun bQ am => ?_
 replace ⟨h1, h2, E, C, J⟩ := (se [O] am).g5 h1 h2 E C J
 clear am
 refine .r [0] <| .lb 1 E id <| .r [2] ?_
 have aL : i < p.ids.length := (by omega)
 refine .ix 3 i 1 h1 aL ?_
 obtain ⟨aj, ab⟩ : ∃ y, p.ids[i]? = some y := ⟨_, List.getElem?_eq_getElem (by omega)⟩
 have bv := drop_at ab; have bg := List.mem_of_getElem? ab
 obtain ⟨_, rfl, ao⟩ := h1.elem i aj ab
 refine .lh 4 0 ao id <| GA.call1 (i := 5) (by kernel_rfl) (fun bk bw => c_spec_l6In aj 1 6 (w := bk) (F := all)) ?_
 cases aq : (inR aj 1 6)
 · have bz := inR_f aq
   refine .r [6, 7, 8, 9, 10, 11, 12, 13, 14, 15, 16, 17, 18, 19, 20, 21, 22, 23, 24, 25, 26, 27, 28, 29, 30, 31, 32, 33, 34, 35, 36, 37] <| .d fun bR ar => ?_
   replace ⟨h1, h2, E, C, J⟩ := (se [O] ar).g5 h1 h2 E C J
   clear ar
   exact .r 5 <| .d <| .ct <| .s <| .g <| .r 1 <| .d <| .rt Tryz.func95 Tryz.results95 (.bool false) ⟨(congrArg Value.bool (by first | grind [partG, partOk, prev, drop_end] | (have hdd := List.drop_eq_getElem_cons (l := p.blocks) (i := i) (by omega); grind [partG, partOk, prev, drop_end]))), C⟩
 have bA := inR_t aq
 refine .r [6, 7, 8] <| GA.boolP (i := 9) ((i : Int) > 0) (by kernel_rfl) (fun aM => ?_) (fun aM => ?_)
 · refine .r [10, 11] <| .lb 12 E id <| .r [13] <| GA.int (i := 14) ((i : Int) - 1) (by kernel_rfl) (by omega) ?_
   have au : i - 1 < p.ids.length := (by omega)
   refine GA.idx (i := 15) (i - 1) (len := p.ids.length) (z := (i : Int) - 1) (sz := 1) (by kernel_rfl) (by omega) au (h1.addr (Nat.zero_lt_of_lt au)) ?_
   obtain ⟨aN, ac⟩ : ∃ y, p.ids[i - 1]? = some y := ⟨_, List.getElem?_eq_getElem (by omega)⟩
   have bB := drop_at ac; have bh := List.mem_of_getElem? ac
   obtain ⟨_, rfl, aO⟩ := h1.elem (i - 1) aN ac
   refine .lh 16 0 aO id <| .r [17] <| .lb 18 E id <| .r [19] ?_
   have aP : i < p.ids.length := (by omega)
   refine .ix 20 i 1 h1 aP <| .lh 21 0 ao id <| GA.boolP (i := 22) (aN ≥ aj) (by kernel_rfl) (fun aQ => ?_) (fun aQ => ?_)
   · refine .r [23, 24, 25, 26, 27, 28, 29, 30, 31, 32, 33, 34, 35, 36, 37] <| .d fun bS av => ?_
     replace ⟨h2, E, C, J⟩ := (se [O] av).g4 h2 E C J
     clear av
     exact .r 5 <| .d <| .ct <| .s <| .g <| .r 1 <| .d <| .rt Tryz.func95 Tryz.results95 (.bool false) ⟨(congrArg Value.bool (by first | grind [partG, partOk, prev, drop_end] | (have hdd := List.drop_eq_getElem_cons (l := p.blocks) (i := i) (by omega); grind [partG, partOk, prev, drop_end]))), C⟩
   refine .r [23, 24, 25, 26] <| .lb 27 E id <| .r [28] ?_
   have aR : i < p.blocks.length := (by omega)
   refine .ix 29 i 1 h2 aR ?_
   obtain ⟨ae, W⟩ : ∃ y, p.blocks[i]? = some y := ⟨_, List.getElem?_eq_getElem (by omega)⟩
   have bC := drop_at W; have bi := List.mem_of_getElem? W
   obtain ⟨_, ⟨bT, bU, bV, rfl, aS⟩, aT⟩ := h2.elem i ae W
   have aU := aS.len
   subst aU
   have bD := aS.max
   refine .lh 30 0 aT id <| .r [31] <| GA.eqI (i := 32) (a := (ae.length : Int)) (b := 0) (by kernel_rfl) (fun aV => ?_) (fun aV => ?_)
   · refine .r [33, 34, 35, 36, 37] <| .d fun bW aw => ?_
     replace ⟨h2, E, C, J⟩ := (se [O] aw).g4 h2 E C J
     clear aw
     exact .r 5 <| .d <| .ct <| .s <| .g <| .r 1 <| .d <| .rt Tryz.func95 Tryz.results95 (.bool false) ⟨(congrArg Value.bool (by first | grind [partG, partOk, prev, drop_end] | (have hdd := List.drop_eq_getElem_cons (l := p.blocks) (i := i) (by omega); grind [partG, partOk, prev, drop_end]))), C⟩
   refine .r [33, 34, 35] <| .lb 36 E id <| .r [37] <| .d fun bm ax => ?_
   replace ⟨h2, E, C, J⟩ := (se [O] ax).g4 h2 E C J
   clear ax
   have aW : i < p.blocks.length := (by omega)
   refine .ix i 1 h2 aW ?_
   obtain ⟨_, ⟨bX, bY, bZ, rfl, aX⟩, aY⟩ := h2.elem i ae W
   have aZ := aX.len
   subst aZ
   refine .lh 0 aY <| .cl (c_spec_BlockOk ae aX.ta (w := bm) (F := all)) ?_
   rintro b0 b6 ⟨rfl, ay⟩
   replace ⟨h2, E, C, J⟩ := (se [O] ay).g4 h2 E C J
   clear ay
   cases bE : (blockOk ae)
   · exact .r 2 <| .d <| .ct <| .s <| .g <| .r 1 <| .d <| .rt Tryz.func95 Tryz.results95 (.bool false) ⟨(congrArg Value.bool (by first | grind [partG, partOk, prev, drop_end] | (have hdd := List.drop_eq_getElem_cons (l := p.blocks) (i := i) (by omega); grind [partG, partOk, prev, drop_end]))), C⟩
   exact .r 2 <| .d <| .cf <| .sk <| .ib 1 <| .g <| .r 1 <| .it ((i : Int) + 1) <| .r 1 <| .d <| V (i + 1) _ _ ⟨by kernel_rfl, by kernel_rfl, trivial⟩ ⟨J, (by omega), (by grind [partG, prev])⟩ (by first | omega | (simp only []; omega))
 refine .r [10, 11, 12, 13, 14, 15, 16, 17, 18, 19, 20, 21, 22, 23, 24, 25, 26] <| .lb 27 E id <| .r [28] ?_
 have ba : i < p.blocks.length := (by omega)
 refine .ix 29 i 1 h2 ba ?_
 obtain ⟨af, Z⟩ : ∃ y, p.blocks[i]? = some y := ⟨_, List.getElem?_eq_getElem (by omega)⟩
 have bF := drop_at Z; have bj := List.mem_of_getElem? Z
 obtain ⟨_, ⟨bG, bH, bI, rfl, az⟩, bc⟩ := h2.elem i af Z
 have aC := az.len
 subst aC
 have bn := az.max
 refine .lh 30 0 bc id <| .r [31] <| GA.eqI (i := 32) (a := (af.length : Int)) (b := 0) (by kernel_rfl) (fun aD => ?_) (fun aD => ?_)
 · refine .r [33, 34, 35, 36, 37] <| .d fun bJ ag => ?_
   replace ⟨h2, E, C, J⟩ := (se [O] ag).g4 h2 E C J
   clear ag
   exact .r 5 <| .d <| .ct <| .s <| .g <| .r 1 <| .d <| .rt Tryz.func95 Tryz.results95 (.bool false) ⟨(congrArg Value.bool (by first | grind [partG, partOk, prev, drop_end] | (have hdd := List.drop_eq_getElem_cons (l := p.blocks) (i := i) (by omega); grind [partG, partOk, prev, drop_end]))), C⟩
 refine .r [33, 34, 35] <| .lb 36 E id <| .r [37] <| .d fun bd ah => ?_
 replace ⟨h2, C, J⟩ := (se [O] ah).g3 h2 C J
 clear ah
 have aE : i < p.blocks.length := (by omega)
 refine .ix i 1 h2 aE ?_
 obtain ⟨_, ⟨bK, bL, bM, rfl, aA⟩, aF⟩ := h2.elem i af Z
 have aG := aA.len
 subst aG
 refine .lh 0 aF <| .cl (c_spec_BlockOk af aA.ta (w := bd) (F := all)) ?_
 rintro bN bO ⟨rfl, ai⟩
 replace ⟨C, J⟩ := (se [] ai).g2 C J
 clear ai
 cases bo : (blockOk af)
 · exact .r 2 <| .d <| .ct <| .s <| .g <| .r 1 <| .d <| .rt Tryz.func95 Tryz.results95 (.bool false) ⟨(congrArg Value.bool (by first | grind [partG, partOk, prev, drop_end] | (have hdd := List.drop_eq_getElem_cons (l := p.blocks) (i := i) (by omega); grind [partG, partOk, prev, drop_end]))), C⟩
 exact .r 2 <| .d <| .cf <| .sk <| .ib 1 <| .g <| .r 1 <| .it ((i : Int) + 1) <| .r 1 <| .d <| V (i + 1) _ _ ⟨by kernel_rfl, by kernel_rfl, trivial⟩ ⟨J, (by omega), (by grind [partG, prev])⟩ (by first | omega | (simp only []; omega))
theorem c_impl_PartOk (p : Prt) {w : World} {F : Nat → Prop} {a1 : Option Addr} {n1 c1 : Nat} (h1 : RepS w F a1 n1 c1 p.ids) {a2 : Option Addr} {n2 c2 : Nat} (h2 : RepS w F a2 n2 c2 p.blocks)  : Calls Tryz.prog 77 [.agg #[.slice a1 n1 c1, .slice a2 n2 c2]].toArray w (rets fun rv w' => rv = .bool (partOk p) ∧ Ext w w') := by
 refine goT Tryz.func77 ?_
 obtain ⟨rfl, ba, h1⟩ := h1.tp
 obtain ⟨rfl, bc, h2⟩ := h2.tp
 refine .s <| .g <| .np 75 [.slice a1 p.ids.length c1, .slice a2 p.blocks.length c2] fun Z ax ai aa C ay => ?_
 replace ⟨h1, h2⟩ := (sn [] aa ai).g2 h1 h2
 have E := aa
 clear aa ay ai
 refine .r 1 <| .d <| .s <| .s <| .g <| .r 1 <| .lb C <| .r 2 <| .lb C <| .r 1 <| .ne (p.ids.length : Int) (p.blocks.length : Int) (fun az => .d <| .ct <| .s <| .g <| .r 1 <| .d <| .rt Tryz.func77 Tryz.results77 (.bool false) ⟨(congrArg Value.bool (by first | grind [partG, partOk, prev, drop_end] | (have hdd := List.drop_eq_getElem_cons (l := p.blocks) (i := k) (by omega); grind [partG, partOk, prev, drop_end]))), E⟩) fun az => .d <| .cf <| .sk <| .s <| .s <| .g <| .r 1 <| .lb C <| .r 2 <| .d <| .b 0 <| T.loop (X := Nat) 0 (fun k => [(1, .pointer (some ⟨Z, 0, none⟩)), (13, .slice a1 p.ids.length c1), (14, vI (p.ids.length : Int)), (15, vI (k : Int))]) (fun k ag => Chg (ins []) ax ag ∧ (k ≤ p.ids.length) ∧ (partG (prev p.ids k) (p.ids.drop k) (p.blocks.drop k) = partG none p.ids p.blocks)) (fun k => p.ids.length - k) (by kernel_rfl) ⟨by kernel_rfl, by kernel_rfl, by kernel_rfl, by kernel_rfl, trivial⟩ ⟨Chg.refl _ _, (by simp [prev]), (by simp [prev])⟩ ?_
 rintro k bw ag ⟨J, bd, bg⟩ O
 have aj : Mv [Z] [Z] ax ag := Mv.inl J all_nil (all_cons (.inl (.head _)) all_nil)
 replace ⟨h1, h2, C, E⟩ := (sp aj J).g4 h1 h2 C E
 clear aj
 refine .s <| .g <| .bp ((k : Int) < (p.ids.length : Int)) (fun aA => ?_) (fun aA => .d <| .s <| .cf <| .x 0 rfl <| .s <| .g <| .r 1 <| .d <| .rt Tryz.func77 Tryz.results77 (.bool true) ⟨(congrArg Value.bool (by first | grind [partG, partOk, prev, drop_end] | (have hdd := List.drop_eq_getElem_cons (l := p.blocks) (i := k) (by omega); grind [partG, partOk, prev, drop_end]))), E⟩)
 refine .d <| .s <| .ct <| .sk <| .s <| .b 1 <| .s <| .g <| .r 1 ?_
 have aB : k < p.ids.length := (by omega)
 refine .ix k 1 h1 aB ?_
 obtain ⟨ah, ab⟩ : ∃ y, p.ids[k]? = some y := ⟨_, List.getElem?_eq_getElem (by omega)⟩
 have bh := drop_at ab; have aV := List.mem_of_getElem? ab
 obtain ⟨_, rfl, aC⟩ := h1.elem k ah ab
 refine .lh 0 aC <| .r 2 <| .d <| .s <| .g <| .r 1 <| .cl (c_impl_within ah 1 6 (w := ag) (F := all)) ?_
 rintro bz aD ⟨rfl, ak⟩
 replace ⟨h1, h2, C, E, J⟩ := (se [Z] ak).g5 h1 h2 C E J
 clear ak
 cases al : (inR ah 1 6)
 · have bi := inR_f al
   exact .r 33 <| .d <| .ct <| .s <| .g <| .r 1 <| .d <| .rt Tryz.func77 Tryz.results77 (.bool false) ⟨(congrArg Value.bool (by first | grind [partG, partOk, prev, drop_end] | (have hdd := List.drop_eq_getElem_cons (l := p.blocks) (i := k) (by omega); grind [partG, partOk, prev, drop_end]))), E⟩
 have bj := inR_t al
 refine .r 3 <| .bp ((k : Int) > 0) (fun aE => ?_) (fun aE => ?_)
 · refine .r 2 <| .lb C <| .r 1 <| .it ((k : Int) - 1) ?_
   have am : k - 1 < p.ids.length := (by omega)
   refine RG.idx (k - 1) (len := p.ids.length) (i := (k : Int) - 1) (sz := 1) (by kernel_rfl) (by omega) am (h1.addr (Nat.zero_lt_of_lt am)) ?_
   obtain ⟨aF, ac⟩ : ∃ y, p.ids[k - 1]? = some y := ⟨_, List.getElem?_eq_getElem (by omega)⟩
   have bk := drop_at ac; have aW := List.mem_of_getElem? ac
   obtain ⟨_, rfl, aG⟩ := h1.elem (k - 1) aF ac
   refine .lh 0 aG <| .r 1 <| .bp (aF ≥ ah) (fun aH => .r 20 <| .d <| .ct <| .s <| .g <| .r 1 <| .d <| .rt Tryz.func77 Tryz.results77 (.bool false) ⟨(congrArg Value.bool (by first | grind [partG, partOk, prev, drop_end] | (have hdd := List.drop_eq_getElem_cons (l := p.blocks) (i := k) (by omega); grind [partG, partOk, prev, drop_end]))), E⟩) fun aH => .r 4 <| .lb C <| .r 1 ?_
   have aI : k < p.blocks.length := (by omega)
   refine .ix k 1 h2 aI ?_
   obtain ⟨ae, V⟩ : ∃ y, p.blocks[k]? = some y := ⟨_, List.getElem?_eq_getElem (by omega)⟩
   have bm := drop_at V; have aX := List.mem_of_getElem? V
   obtain ⟨_, ⟨bA, bB, bC, rfl, ar⟩, aJ⟩ := h2.elem k ae V
   have aK := ar.len
   subst aK
   have bn := ar.max
   refine .lh 0 aJ <| .cl (c_impl_BlockOk ae ar.ta (w := aD) (F := all)) ?_
   rintro bD bE ⟨rfl, ao⟩
   replace ⟨h2, C, E, J⟩ := (se [Z] ao).g4 h2 C E J
   clear ao
   cases bo : (blockOk ae)
   · exact .r 11 <| .d <| .ct <| .s <| .g <| .r 1 <| .d <| .rt Tryz.func77 Tryz.results77 (.bool false) ⟨(congrArg Value.bool (by first | grind [partG, partOk, prev, drop_end] | (have hdd := List.drop_eq_getElem_cons (l := p.blocks) (i := k) (by omega); grind [partG, partOk, prev, drop_end]))), E⟩
   refine .r 4 <| .lb C <| .r 1 ?_
   have aL : k < p.blocks.length := (by omega)
   refine .ix k 1 h2 aL ?_
   obtain ⟨_, ⟨bF, bG, bH, rfl, aZ⟩, aM⟩ := h2.elem k ae V
   have aN := aZ.len
   subst aN
   exact .lh 0 aM <| .r 1 <| .eq (ae.length : Int) 0 (fun aO => .r 1 <| .d <| .ct <| .s <| .g <| .r 1 <| .d <| .rt Tryz.func77 Tryz.results77 (.bool false) ⟨(congrArg Value.bool (by first | grind [partG, partOk, prev, drop_end] | (have hdd := List.drop_eq_getElem_cons (l := p.blocks) (i := k) (by omega); grind [partG, partOk, prev, drop_end]))), E⟩) fun aO => .r 1 <| .d <| .cf <| .sk <| .ib 1 <| .g <| .it ((k : Int) + 1) <| .r 1 <| .d <| O (k + 1) _ _ ⟨by kernel_rfl, by kernel_rfl, by kernel_rfl, by kernel_rfl, trivial⟩ ⟨J, (by omega), (by grind [partG, prev])⟩ (by first | omega | (simp only []; omega))
 refine .r 13 <| .lb C <| .r 1 ?_
 have aP : k < p.blocks.length := (by omega)
 refine .ix k 1 h2 aP ?_
 obtain ⟨af, W⟩ : ∃ y, p.blocks[k]? = some y := ⟨_, List.getElem?_eq_getElem (by omega)⟩
 have bq := drop_at W; have aY := List.mem_of_getElem? W
 obtain ⟨_, ⟨bI, bJ, bK, rfl, au⟩, aQ⟩ := h2.elem k af W
 have aR := au.len
 subst aR
 have br := au.max
 refine .lh 0 aQ <| .cl (c_impl_BlockOk af au.ta (w := aD) (F := all)) ?_
 rintro bL bM ⟨rfl, aq⟩
 replace ⟨h2, C, E, J⟩ := (se [Z] aq).g4 h2 C E J
 clear aq
 cases bt : (blockOk af)
 · exact .r 11 <| .d <| .ct <| .s <| .g <| .r 1 <| .d <| .rt Tryz.func77 Tryz.results77 (.bool false) ⟨(congrArg Value.bool (by first | grind [partG, partOk, prev, drop_end] | (have hdd := List.drop_eq_getElem_cons (l := p.blocks) (i := k) (by omega); grind [partG, partOk, prev, drop_end]))), E⟩
 refine .r 4 <| .lb C <| .r 1 ?_
 have aS : k < p.blocks.length := (by omega)
 refine .ix k 1 h2 aS ?_
 obtain ⟨_, ⟨bN, bu, bv, rfl, aT⟩, aU⟩ := h2.elem k af W
 have av := aT.len
 subst av
 exact .lh 0 aU <| .r 1 <| .eq (af.length : Int) 0 (fun aw => .r 1 <| .d <| .ct <| .s <| .g <| .r 1 <| .d <| .rt Tryz.func77 Tryz.results77 (.bool false) ⟨(congrArg Value.bool (by first | grind [partG, partOk, prev, drop_end] | (have hdd := List.drop_eq_getElem_cons (l := p.blocks) (i := k) (by omega); grind [partG, partOk, prev, drop_end]))), E⟩) fun aw => .r 1 <| .d <| .cf <| .sk <| .ib 1 <| .g <| .it ((k : Int) + 1) <| .r 1 <| .d <| O (k + 1) _ _ ⟨by kernel_rfl, by kernel_rfl, by kernel_rfl, by kernel_rfl, trivial⟩ ⟨J, (by omega), (by grind [partG, prev])⟩ (by first | omega | (simp only []; omega))
theorem c_spec_l13Part (p : Prt) (names : Int) {w : World} {F : Nat → Prop} {a1 : Option Addr} {n1 c1 : Nat} (h1 : RepS w F a1 n1 c1 p.ids) {a2 : Option Addr} {n2 c2 : Nat} (h2 : RepS w F a2 n2 c2 p.blocks)  : Calls Tryz.prog 66 [.agg #[.slice a1 n1 c1, .slice a2 n2 c2], .int .i64 names].toArray w (rets fun rv w' => rv = .bool (partIn p names) ∧ Ext w w') := by
 refine goT Tryz.func66 ?_
 obtain ⟨rfl, ai, h1⟩ := h1.tp
 obtain ⟨rfl, aj, h2⟩ := h2.tp
 refine .s <| .g <| .np 75 [.slice a1 p.ids.length c1, .slice a2 p.blocks.length c2] fun ag ah V J C aa => ?_
 replace ⟨h1, h2⟩ := (sn [] J V).g2 h1 h2
 have E := J
 clear J aa V
 refine .r 1 <| .d <| .s <| .g <| .ln C <| .cl (c_spec_PartOk p h1.ta h2.ta (w := ah) (F := all)) ?_
 rintro am ao ⟨rfl, W⟩
 replace ⟨h1, C, E⟩ := (se [ag] W).g3 h1 C E
 clear W
 cases ak : (partOk p)
 · exact .r 19 <| .d <| .rt Tryz.func66 Tryz.results66 (.bool false) ⟨(congrArg Value.bool (by grind [partIn])), E⟩
 refine .r 2 <| .lb C <| .r 1 <| .bp ((p.ids.length : Int) > 0) (fun ab => ?_) (fun ab => .r 14 <| .d <| .rt Tryz.func66 Tryz.results66 (.bool false) ⟨(congrArg Value.bool (by grind [partIn])), E⟩)
 refine .r 3 <| .lb C <| .r 1 <| .lb C <| .r 1 <| .it ((p.ids.length : Int) - 1) ?_
 have Z : p.ids.length - 1 < p.ids.length := (by omega)
 refine RG.idx (p.ids.length - 1) (len := p.ids.length) (i := (p.ids.length : Int) - 1) (sz := 1) (by kernel_rfl) (by omega) Z (h1.addr (Nat.zero_lt_of_lt Z)) ?_
 obtain ⟨ac, O⟩ : ∃ y, p.ids[p.ids.length - 1]? = some y := ⟨_, List.getElem?_eq_getElem (by omega)⟩
 have al := drop_at O; have af := List.mem_of_getElem? O
 obtain ⟨_, rfl, ae⟩ := h1.elem (p.ids.length - 1) ac O
 exact .lh 0 ae <| .r 4 <| .d <| .rt Tryz.func66 Tryz.results66 (.bool (decide (ac ≤ names))) ⟨(congrArg Value.bool (by grind [partIn])), E⟩
theorem c_slices_Index_int_int (s : List Int) (v : Int) {w : World} {F : Nat → Prop} {a1 : Option Addr} {n1 c1 : Nat} (h1 : RepS w F a1 n1 c1 s)  : Calls Tryz.prog 140 [.slice a1 n1 c1, .int .i64 v].toArray w (rets fun rv w' => rv = .int .i64 (idxF v 0 s) ∧ Ext w w') := by
 refine goT Tryz.func140 ?_
 obtain ⟨rfl, ag, h1⟩ := h1.tp
 refine .s <| .g <| .r 1 <| .d <| .s <| .s <| .g <| .r 3 <| .d <| .b 0 <| T.loop (X := Nat) 0 (fun k => [(0, .slice a1 s.length c1), (1, vI v), (7, vI (s.length : Int)), (8, vI (k : Int))]) (fun k O => Chg (ins []) w O ∧ (k ≤ s.length) ∧ (idxF v k (s.drop k) = idxF v 0 s)) (fun k => s.length - k) (by kernel_rfl) ⟨by kernel_rfl, by kernel_rfl, by kernel_rfl, by kernel_rfl, trivial⟩ ⟨Chg.refl _ _, (by simp), (by simp)⟩ ?_
 rintro k ak O ⟨C, ah, ai⟩ E
 have V : Mv [] [] w O := Mv.inl C all_nil all_nil
 replace h1 := (sp V C).g1 h1
 have W : Chg nil w O := Chg.stepI (Chg.refl nil w) C all_nil
 clear V
 refine .s <| .g <| .bp ((k : Int) < (s.length : Int)) (fun Z => ?_) (fun Z => .d <| .s <| .cf <| .x 0 rfl <| .s <| .g <| .r 1 <| .d <| .rt Tryz.func140 Tryz.results140 (vI (-1)) ⟨(congrArg (Value.int .i64) (by grind [idxF, drop_end])), W⟩)
 refine .d <| .s <| .ct <| .sk <| .s <| .b 1 <| .s <| .g <| .r 2 <| .d <| .s <| .g <| .r 3 ?_
 have aa : k < s.length := (by omega)
 refine .ix k 1 h1 aa ?_
 obtain ⟨ab, J⟩ : ∃ y, s[k]? = some y := ⟨_, List.getElem?_eq_getElem (by omega)⟩
 have aj := drop_at J; have af := List.mem_of_getElem? J
 obtain ⟨_, rfl, ac⟩ := h1.elem k ab J
 exact .lh 0 ac <| .eq v ab (fun ae => .d <| .ct <| .s <| .g <| .r 2 <| .d <| .rt Tryz.func140 Tryz.results140 (vI (k : Int)) ⟨(congrArg (Value.int .i64) (by grind [idxF, drop_end])), W⟩) fun ae => .d <| .cf <| .sk <| .ib 1 <| .g <| .it ((k : Int) + 1) <| .r 1 <| .d <| E (k + 1) _ _ ⟨by kernel_rfl, by kernel_rfl, by kernel_rfl, by kernel_rfl, trivial⟩ ⟨C, (by omega), (by grind [idxF])⟩ (by first | omega | (simp only []; omega))
theorem c_slices_Max_int_int (x : List Int) {w : World} {F : Nat → Prop} {a1 : Option Addr} {n1 c1 : Nat} (h1 : RepS w F a1 n1 c1 x) (p0 : 0 < x.length) : Calls Tryz.prog 78 [.slice a1 n1 c1].toArray w (rets fun rv w' => rv = .int .i64 (maxOf x) ∧ Ext w w') := by
 refine goT Tryz.func78 ?_
 obtain ⟨rfl, al, h1⟩ := h1.tp
 refine .s <| .g <| .r 1 <| .d <| .s <| .s <| .g <| .r 2 <| .bp ((x.length : Int) < 1) (fun ab => .d <| .ct <| .g <| absurd (show False by omega) id) fun ab => .d <| .cf <| .sk <| .s <| .g <| .r 1 ?_
 have W : 0 < x.length := (by omega)
 refine RG.idx 0 (len := x.length) (i := 0) (sz := 1) (by kernel_rfl) (by omega) W (h1.addr (Nat.zero_lt_of_lt W)) ?_
 obtain ⟨ac, E⟩ : ∃ y, x[0]? = some y := ⟨_, List.getElem?_eq_getElem (by omega)⟩
 have am := drop_at E; have aj := List.mem_of_getElem? E
 obtain ⟨_, rfl, ae⟩ := h1.elem 0 ac E
 refine .lh 0 ae <| .r 1 <| .d <| .s <| .s <| .g <| .r 1 <| .d <| .b 0 <| T.loop (X := Int × Nat) (ac, 1) (fun (m, i) => [(0, .slice a1 x.length c1), (3, vI m), (4, vI (i : Int))]) (fun (m, i) V => Chg (ins []) w V ∧ (i ≤ x.length) ∧ (maxF m (x.drop i) = maxOf x)) (fun (m, i) => x.length - i) (by kernel_rfl) ⟨by kernel_rfl, by kernel_rfl, by kernel_rfl, trivial⟩ ⟨Chg.refl _ _, (by omega), (by grind [maxOf])⟩ ?_
 rintro ⟨m, i⟩ au V ⟨C, ao, aq⟩ J
 have Z : Mv [] [] w V := Mv.inl C all_nil all_nil
 replace h1 := (sp Z C).g1 h1
 have af : Chg nil w V := Chg.stepI (Chg.refl nil w) C all_nil
 clear Z
 refine .s <| .s <| .g <| .r 3 <| .bp ((i : Int) < (x.length : Int)) (fun ag => ?_) (fun ag => .d <| .cf <| .x 0 rfl <| .s <| .g <| .r 2 <| .d <| .rt Tryz.func78 Tryz.results78 (vI m) ⟨(congrArg (Value.int .i64) (by grind [maxF, drop_end])), af⟩)
 refine .d <| .ct <| .sk <| .s <| .b 1 <| .g <| .r 3 ?_
 have ah : i < x.length := (by omega)
 refine .ix i 1 h1 ah ?_
 obtain ⟨aa, O⟩ : ∃ y, x[i]? = some y := ⟨_, List.getElem?_eq_getElem (by omega)⟩
 have ar := drop_at O; have ak := List.mem_of_getElem? O
 obtain ⟨_, rfl, ai⟩ := h1.elem i aa O
 exact .lh 0 ai <| .r 2 <| .d <| .ib 1 <| .g <| .r 1 <| .it ((i : Int) + 1) <| .r 1 <| .d <| J ((if aa > m then aa else m), i + 1) _ _ ⟨by kernel_rfl, by kernel_rfl, by kernel_rfl, trivial⟩ ⟨C, (by omega), (by grind [maxF])⟩ (by first | omega | (simp only []; omega))
theorem c_spec_l3Text (n : List Tag) {w : World} {F : Nat → Prop} {a1 : Option Addr} {n1 c1 : Nat} (h1 : RepS w F a1 n1 c1 n) (p0 : n.length ≤ 1000000) (p1 : ∀ t ∈ n, t.key.length ≤ 1000000 ∧ t.val.length ≤ 1000000) : Calls Tryz.prog 109 [.slice a1 n1 c1].toArray w (rets fun rv w' => rv = .string (bs (text n)) ∧ Ext w w') := by
 refine goT Tryz.func109 ?_
 obtain ⟨rfl, av, h1⟩ := h1.tp
 refine .s <| .g <| .r 1 <| .d <| .s <| .g <| .r 1 <| .d <| .s <| .s <| .g <| .r 1 <| .d <| .b 0 <| T.loop (X := Str × Nat) ([], 0) (fun (out, i) => [(0, .slice a1 n.length c1), (3, vT out), (4, vI (i : Int))]) (fun (out, i) aa => Chg (ins []) w aa ∧ (i ≤ n.length) ∧ (out.length ≤ 3000000 * i) ∧ (out ++ textF i (n.drop i) = text n)) (fun (out, i) => n.length - i) (by kernel_rfl) ⟨by kernel_rfl, by kernel_rfl, by kernel_rfl, trivial⟩ ⟨Chg.refl _ _, (by simp [text]), (by simp [text]), (by simp [text])⟩ ?_
 rintro ⟨out, i⟩ aB aa ⟨C, aw, ax, ay⟩ J
 have ab : Mv [] [] w aa := Mv.inl C all_nil all_nil
 replace h1 := (sp ab C).g1 h1
 have E : Chg nil w aa := Chg.stepI (Chg.refl nil w) C all_nil
 clear ab
 refine .s <| .s <| .g <| .r 3 <| .bp ((i : Int) < (n.length : Int)) (fun aj => ?_) (fun aj => .d <| .cf <| .x 0 rfl <| .s <| .g <| .r 2 <| .d <| .rt Tryz.func109 Tryz.results109 (vT out) ⟨(congrArg (fun s => Value.string (bs s)) (by grind [textF, drop_end])), E⟩)
 refine .d <| .ct <| .sk <| .s <| .b 1 <| .s <| .s <| .g <| .r 1 <| .bp ((i : Int) > 0) (fun ak => ?_) (fun ak => ?_)
 · refine .d <| .ct <| .g <| .r 1 <| RG.cat (t := 9) (s := out) (u := [44]) (by kernel_rfl) (by grind) <| .r 1 <| .d <| .gd nil 13 fun aC ac => ?_
   replace ⟨h1, E, C⟩ := (se [] ac).g3 h1 E C
   clear ac
   refine .r [0, 1, 2] ?_
   have al : i < n.length := (by omega)
   refine .ix 3 i 2 h1 al <| .r [4] ?_
   obtain ⟨O, W⟩ : ∃ y, n[i]? = some y := ⟨_, List.getElem?_eq_getElem (by omega)⟩
   have az := drop_at W; have ar := List.mem_of_getElem? W
   obtain ⟨_, rfl, ae⟩ := h1.elem i O W
   refine .lh 5 0 ae id <| GA.cat (i := 6) (t := 9) (s := (out ++ [44])) (u := O.key) (by kernel_rfl) (by kernel_rfl) (by grind) <| GA.cat (i := 7) (t := 9) (s := ((out ++ [44]) ++ O.key)) (u := [61]) (by kernel_rfl) (by kernel_rfl) (by grind) <| .r [8, 9] ?_
   have am : i < n.length := (by omega)
   refine .ix 10 i 2 h1 am <| .r [11] <| .lh 12 1 ae id <| .d fun aD af => ?_
   replace ⟨h1, E, C⟩ := (se [] af).g3 h1 E C
   clear af
   exact RG.cat (t := 9) (s := (((out ++ [44]) ++ O.key) ++ [61])) (u := O.val) (by kernel_rfl) (by grind) <| .r 1 <| .d <| .ib 1 <| .g <| .r 1 <| .it ((i : Int) + 1) <| .r 1 <| .d <| J (((((out ++ [44]) ++ O.key) ++ [61]) ++ O.val), i + 1) _ _ ⟨by kernel_rfl, by kernel_rfl, by kernel_rfl, trivial⟩ ⟨C, (by omega), (by grind), (by grind [textF, text1])⟩ (by first | omega | (simp only []; omega))
 refine .d <| .cf <| .sk <| .gd nil 13 fun aE ag => ?_
 replace ⟨h1, E, C⟩ := (se [] ag).g3 h1 E C
 clear ag
 refine .r [0, 1, 2] ?_
 have ao : i < n.length := (by omega)
 refine .ix 3 i 2 h1 ao <| .r [4] ?_
 obtain ⟨V, Z⟩ : ∃ y, n[i]? = some y := ⟨_, List.getElem?_eq_getElem (by omega)⟩
 have aA := drop_at Z; have au := List.mem_of_getElem? Z
 obtain ⟨_, rfl, ah⟩ := h1.elem i V Z
 refine .lh 5 0 ah id <| GA.cat (i := 6) (t := 9) (s := out) (u := V.key) (by kernel_rfl) (by kernel_rfl) (by grind) <| GA.cat (i := 7) (t := 9) (s := (out ++ V.key)) (u := [61]) (by kernel_rfl) (by kernel_rfl) (by grind) <| .r [8, 9] ?_
 have aq : i < n.length := (by omega)
 refine .ix 10 i 2 h1 aq <| .r [11] <| .lh 12 1 ah id <| .d fun aF ai => ?_
 replace ⟨E, C⟩ := (se [] ai).g2 E C
 clear ai
 exact RG.cat (t := 9) (s := ((out ++ V.key) ++ [61])) (u := V.val) (by kernel_rfl) (by grind) <| .r 1 <| .d <| .ib 1 <| .g <| .r 1 <| .it ((i : Int) + 1) <| .r 1 <| .d <| J ((((out ++ V.key) ++ [61]) ++ V.val), i + 1) _ _ ⟨by kernel_rfl, by kernel_rfl, by kernel_rfl, trivial⟩ ⟨C, (by omega), (by grind), (by grind [textF, text1])⟩ (by first | omega | (simp only []; omega))
theorem c_spec_l11Less (a : Tag) (b : Tag) {w : World} {F : Nat → Prop}   : Calls Tryz.prog 112 [.agg #[.string (bs a.key), .string (bs a.val)], .agg #[.string (bs b.key), .string (bs b.val)]].toArray w (rets fun rv w' => rv = .bool (tagLt a b) ∧ Ext w w') := by
 refine goT Tryz.func112 <| .s <| .g <| .np 112 [vT a.key, vT a.val] fun af ag W O C Z => ?_
 have E := O
 clear O Z W
 refine .np 112 [vT b.key, vT b.val] fun ah ai aa V J ab => ?_
 replace ⟨C, E⟩ := (se [] V).g2 C E
 clear V ab aa
 refine .r 1 <| .d <| .s <| .g <| .r 1 <| .lb C <| .r 1 <| .lb J <| RG.eqv (v := .bool ((strLt a.key b.key))) (by kernel_rfl) (s_lt a.key b.key) ?_
 cases ac : (strLt a.key b.key)
 · refine .r 2 <| .lb C <| .r 1 <| .lb J <| RG.eqv (v := .bool ((a.key == b.key))) (by kernel_rfl) (s_eq a.key b.key) ?_
   cases ae : (a.key == b.key)
   · exact .r 9 <| .d <| .rt Tryz.func112 Tryz.results112 (.bool false) ⟨(congrArg Value.bool (by grind [tagLt])), E⟩
   exact .r 2 <| .lb C <| .r 1 <| .lb J <| RG.eqv (v := .bool ((strLt a.val b.val))) (by kernel_rfl) (s_lt a.val b.val) <| .r 3 <| .d <| .rt Tryz.func112 Tryz.results112 (.bool (strLt a.val b.val)) ⟨(congrArg Value.bool (by grind [tagLt])), E⟩
 exact .r 15 <| .d <| .rt Tryz.func112 Tryz.results112 (.bool true) ⟨(congrArg Value.bool (by grind [tagLt])), E⟩
end Go.Proofs.YtfnpaglcnmcnbaaGreat
