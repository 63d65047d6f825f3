/- walks; hints pruned; squeezed -/
import Derived.Test.YtganlmloonielaaGreatFlszMod42
set_option linter.unusedVariables false
set_option linter.unusedSimpArgs false
namespace Go.Proofs.YtganlmloonielaaGreat
set_option maxRecDepth 100000
set_option maxHeartbeats 4000000
theorem c_slices_Equal_impl_Row_impl_Row (a : List Row) (b : List Row) {w : World} {F : Nat → Prop} {a1 : Option Addr} {n1 c1 : Nat} (h1 : RepS w F a1 n1 c1 a) {a2 : Option Addr} {n2 c2 : Nat} (h2 : RepS w F a2 n2 c2 b)  : Calls Tryz.prog 144 [.slice a1 n1 c1, .slice a2 n2 c2].toArray w (rets fun rv w' => rv = .bool ((a == b)) ∧ Ext w w') := by
 refine goT Tryz.func144 ?_
 obtain ⟨rfl, ar, h1⟩ := h1.tp
 obtain ⟨rfl, au, h2⟩ := h2.tp
 refine .s <| .g <| .r 1 <| .d <| .s <| .s <| .g <| .r 4 <| .ne (a.length : Int) (b.length : Int) (fun ah => .d <| .ct <| .s <| .g <| .r 1 <| .d <| .rt Tryz.func144 Tryz.results144 (.bool false) ⟨(congrArg Value.bool (by grind [drop_end])), (Chg.refl _ _)⟩) fun ah => .d <| .cf <| .sk <| .s <| .s <| .g <| .r 3 <| .d <| .b 0 <| T.loop (X := Nat) 0 (fun k => [(0, .slice a1 a.length c1), (1, .slice a2 b.length c2), (12, vI (a.length : Int)), (13, vI (k : Int))]) (fun k aa => Chg (ins []) w aa ∧ (k ≤ a.length) ∧ (a.drop k = b.drop k ↔ a = b)) (fun k => a.length - k) (by kernel_rfl) ⟨by kernel_rfl, by kernel_rfl, by kernel_rfl, by kernel_rfl, trivial⟩ ⟨Chg.refl _ _, (by simp), (by simp)⟩ ?_
 rintro k aA aa ⟨C, av, aw⟩ J
 have ab : Mv [] [] w aa := Mv.inl C all_nil all_nil
 replace ⟨h1, h2⟩ := (sp ab C).g2 h1 h2
 have E : Chg nil w aa := Chg.stepI (Chg.refl nil w) C all_nil
 refine .s <| .g <| .bp ((k : Int) < (a.length : Int)) (fun ai => ?_) (fun ai => .d <| .s <| .cf <| .x 0 rfl <| .s <| .g <| .r 1 <| .d <| .rt Tryz.func144 Tryz.results144 (.bool true) ⟨(congrArg Value.bool (by grind [drop_end])), E⟩)
 refine .d <| .s <| .ct <| .sk <| .s <| .b 1 <| .s <| .g <| .r 2 <| .d <| .s <| .gd nil 8 fun aB ac => ?_
 replace ⟨h1, h2, E, C⟩ := (se [] ac).g4 h1 h2 E C
 refine .r [0, 1] ?_
 have aj : k < a.length := (by omega)
 refine .ix 2 k 2 h1 aj ?_
 obtain ⟨af, O⟩ : ∃ y, a[k]? = some y := ⟨_, List.getElem?_eq_getElem (by omega)⟩
 have ax := drop_at O; have ao := List.mem_of_getElem? O
 obtain ⟨_, rfl, ak⟩ := h1.elem k af O
 refine .lg 3 0 ak id <| .r [4, 5] ?_
 have al : k < b.length := (by omega)
 refine .ix 6 k 2 h2 al ?_
 obtain ⟨ag, W⟩ : ∃ y, b[k]? = some y := ⟨_, List.getElem?_eq_getElem (by omega)⟩
 have ay := drop_at W; have aq := List.mem_of_getElem? W
 obtain ⟨_, rfl, am⟩ := h2.elem k ag W
 refine .lg 7 0 am id <| .d fun aC ae => ?_
 replace ⟨E, C⟩ := (se [] ae).g2 E C
 refine RG.rowNe (t := 105) (x := af) (y := ag) (by kernel_rfl) (by kernel_rfl) ?_
 cases az : (af == ag)
 ·exact .d <| .ct <| .s <| .g <| .r 1 <| .d <| .rt Tryz.func144 Tryz.results144 (.bool false) ⟨(congrArg Value.bool (by grind [drop_end])), E⟩
 exact .d <| .cf <| .sk <| .ib 1 <| .g <| .it ((k : Int) + 1) <| .r 1 <| .d <| J (k + 1) _ _ ⟨by kernel_rfl, by kernel_rfl, by kernel_rfl, by kernel_rfl, trivial⟩ ⟨C, (by omega), (by grind)⟩ (by omega)
theorem c_EqualFunc_blocks (s1 : List (List Row)) (s2 : List (List Row)) {w : World} {F : Nat → Prop} {a1 : Option Addr} {n1 c1 : Nat} (h1 : RepS w F a1 n1 c1 s1) {a2 : Option Addr} {n2 c2 : Nat} (h2 : RepS w F a2 n2 c2 s2)  : Calls Tryz.prog 143 [.slice a1 n1 c1, .slice a2 n2 c2, .func (.func 144) #[] #[]].toArray w (rets fun rv w' => rv = .bool ((s1 == s2)) ∧ Ext w w') := by
 refine goT Tryz.func143 ?_
 obtain ⟨rfl, aw, h1⟩ := h1.tp
 obtain ⟨rfl, ax, h2⟩ := h2.tp
 refine .s <| .g <| .r 1 <| .d <| .s <| .s <| .g <| .r 4 <| .ne (s1.length : Int) (s2.length : Int) (fun ai => .d <| .ct <| .s <| .g <| .r 1 <| .d <| .rt Tryz.func143 Tryz.results143 (.bool false) ⟨(congrArg Value.bool (by grind [drop_end])), (Chg.refl _ _)⟩) fun ai => .d <| .cf <| .sk <| .s <| .s <| .g <| .r 3 <| .d <| .b 0 <| T.loop (X := Nat) 0 (fun k => [(1, .slice a2 s2.length c2), (2, .func (.func 144) #[] #[]), (15, .slice a1 s1.length c1), (16, vI (s1.length : Int)), (17, vI (k : Int))]) (fun k J => Chg (ins []) w J ∧ (k ≤ s1.length) ∧ (s1.drop k = s2.drop k ↔ s1 = s2)) (fun k => s1.length - k) (by kernel_rfl) ⟨by kernel_rfl, by kernel_rfl, by kernel_rfl, by kernel_rfl, by kernel_rfl, trivial⟩ ⟨Chg.refl _ _, (by simp), (by simp)⟩ ?_
 rintro k aF J ⟨C, ay, az⟩ O
 have ab : Mv [] [] w J := Mv.inl C all_nil all_nil
 replace ⟨h1, h2⟩ := (sp ab C).g2 h1 h2
 have E : Chg nil w J := Chg.stepI (Chg.refl nil w) C all_nil
 refine .s <| .g <| .bp ((k : Int) < (s1.length : Int)) (fun aj => ?_) (fun aj => .d <| .s <| .cf <| .x 0 rfl <| .s <| .g <| .r 1 <| .d <| .rt Tryz.func143 Tryz.results143 (.bool true) ⟨(congrArg Value.bool (by grind [drop_end])), E⟩)
 refine .d <| .s <| .ct <| .sk <| .s <| .b 1 <| .s <| .g <| .r 1 ?_
 have ak : k < s1.length := (by omega)
 refine .ix k 1 h1 ak ?_
 obtain ⟨ae, W⟩ : ∃ y, s1[k]? = some y := ⟨_, List.getElem?_eq_getElem (by omega)⟩
 have aA := drop_at W; have au := List.mem_of_getElem? W
 obtain ⟨_, ⟨aG, aH, aI, rfl, af⟩, al⟩ := h1.elem k ae W
 have am := af.len
 subst am
 have aB := af.max
 refine .lh 0 al <| .r 2 <| .d <| .s <| .g <| .r 2 ?_
 have ao : k < s2.length := (by omega)
 refine .ix k 1 h2 ao ?_
 obtain ⟨ag, aa⟩ : ∃ y, s2[k]? = some y := ⟨_, List.getElem?_eq_getElem (by omega)⟩
 have aC := drop_at aa; have av := List.mem_of_getElem? aa
 obtain ⟨_, ⟨aJ, aK, aL, rfl, ah⟩, aq⟩ := h2.elem k ag aa
 have ar := ah.len
 subst ar
 have aD := ah.max
 refine .lh 0 aq <| .r 1 <| .d <| .s <| .g <| .r 3 <| .cl (c_slices_Equal_impl_Row_impl_Row ae ag af.ta ah.ta (w := J) (F := all)) ?_
 rintro aM aN ⟨rfl, ac⟩
 replace ⟨E, C⟩ := (se [] ac).g2 E C
 cases aE : (ae == ag)
 ·exact .r 1 <| .d <| .ct <| .s <| .g <| .r 1 <| .d <| .rt Tryz.func143 Tryz.results143 (.bool false) ⟨(congrArg Value.bool (by grind [drop_end])), E⟩
 exact .r 1 <| .d <| .cf <| .sk <| .ib 1 <| .g <| .it ((k : Int) + 1) <| .r 1 <| .d <| O (k + 1) _ _ ⟨by kernel_rfl, by kernel_rfl, by kernel_rfl, by kernel_rfl, by kernel_rfl, trivial⟩ ⟨C, (by omega), (by grind)⟩ (by omega)
theorem c_EqualFunc_names (s1 : List (List Tag)) (s2 : List (List Tag)) {w : World} {F : Nat → Prop} {a1 : Option Addr} {n1 c1 : Nat} (h1 : RepS w F a1 n1 c1 s1) {a2 : Option Addr} {n2 c2 : Nat} (h2 : RepS w F a2 n2 c2 s2)  : Calls Tryz.prog 95 [.slice a1 n1 c1, .slice a2 n2 c2, .func (.func 96) #[] #[]].toArray w (rets fun rv w' => rv = .bool ((s1 == s2)) ∧ Ext w w') := by
 refine goT Tryz.func95 ?_
 obtain ⟨rfl, aw, h1⟩ := h1.tp
 obtain ⟨rfl, ax, h2⟩ := h2.tp
 refine .s <| .g <| .r 1 <| .d <| .s <| .s <| .g <| .r 4 <| .ne (s1.length : Int) (s2.length : Int) (fun ai => .d <| .ct <| .s <| .g <| .r 1 <| .d <| .rt Tryz.func95 Tryz.results95 (.bool false) ⟨(congrArg Value.bool (by grind [drop_end])), (Chg.refl _ _)⟩) fun ai => .d <| .cf <| .sk <| .s <| .s <| .g <| .r 3 <| .d <| .b 0 <| T.loop (X := Nat) 0 (fun k => [(1, .slice a2 s2.length c2), (2, .func (.func 96) #[] #[]), (15, .slice a1 s1.length c1), (16, vI (s1.length : Int)), (17, vI (k : Int))]) (fun k J => Chg (ins []) w J ∧ (k ≤ s1.length) ∧ (s1.drop k = s2.drop k ↔ s1 = s2)) (fun k => s1.length - k) (by kernel_rfl) ⟨by kernel_rfl, by kernel_rfl, by kernel_rfl, by kernel_rfl, by kernel_rfl, trivial⟩ ⟨Chg.refl _ _, (by simp), (by simp)⟩ ?_
 rintro k aF J ⟨C, ay, az⟩ O
 have ab : Mv [] [] w J := Mv.inl C all_nil all_nil
 replace ⟨h1, h2⟩ := (sp ab C).g2 h1 h2
 have E : Chg nil w J := Chg.stepI (Chg.refl nil w) C all_nil
 refine .s <| .g <| .bp ((k : Int) < (s1.length : Int)) (fun aj => ?_) (fun aj => .d <| .s <| .cf <| .x 0 rfl <| .s <| .g <| .r 1 <| .d <| .rt Tryz.func95 Tryz.results95 (.bool true) ⟨(congrArg Value.bool (by grind [drop_end])), E⟩)
 refine .d <| .s <| .ct <| .sk <| .s <| .b 1 <| .s <| .g <| .r 1 ?_
 have ak : k < s1.length := (by omega)
 refine .ix k 1 h1 ak ?_
 obtain ⟨ae, W⟩ : ∃ y, s1[k]? = some y := ⟨_, List.getElem?_eq_getElem (by omega)⟩
 have aA := drop_at W; have au := List.mem_of_getElem? W
 obtain ⟨_, ⟨aG, aH, aI, rfl, af⟩, al⟩ := h1.elem k ae W
 have am := af.len
 subst am
 have aB := af.max
 refine .lh 0 al <| .r 2 <| .d <| .s <| .g <| .r 2 ?_
 have ao : k < s2.length := (by omega)
 refine .ix k 1 h2 ao ?_
 obtain ⟨ag, aa⟩ : ∃ y, s2[k]? = some y := ⟨_, List.getElem?_eq_getElem (by omega)⟩
 have aC := drop_at aa; have av := List.mem_of_getElem? aa
 obtain ⟨_, ⟨aJ, aK, aL, rfl, ah⟩, aq⟩ := h2.elem k ag aa
 have ar := ah.len
 subst ar
 have aD := ah.max
 refine .lh 0 aq <| .r 1 <| .d <| .s <| .g <| .r 3 <| .cl (c_slices_Equal_impl_Tag_impl_Tag ae ag af.ta ah.ta (w := J) (F := all)) ?_
 rintro aM aN ⟨rfl, ac⟩
 replace ⟨E, C⟩ := (se [] ac).g2 E C
 cases aE : (ae == ag)
 ·exact .r 1 <| .d <| .ct <| .s <| .g <| .r 1 <| .d <| .rt Tryz.func95 Tryz.results95 (.bool false) ⟨(congrArg Value.bool (by grind [drop_end])), E⟩
 exact .r 1 <| .d <| .cf <| .sk <| .ib 1 <| .g <| .it ((k : Int) + 1) <| .r 1 <| .d <| O (k + 1) _ _ ⟨by kernel_rfl, by kernel_rfl, by kernel_rfl, by kernel_rfl, by kernel_rfl, trivial⟩ ⟨C, (by omega), (by grind)⟩ (by omega)
theorem c_impl_samePart (a : Prt) (b : Prt) {w : World} {F : Nat → Prop} {a1 : Option Addr} {n1 c1 : Nat} (h1 : RepS w F a1 n1 c1 a.ids) {a2 : Option Addr} {n2 c2 : Nat} (h2 : RepS w F a2 n2 c2 a.blocks) {a3 : Option Addr} {n3 c3 : Nat} (h3 : RepS w F a3 n3 c3 b.ids) {a4 : Option Addr} {n4 c4 : Nat} (h4 : RepS w F a4 n4 c4 b.blocks)  : Calls Tryz.prog 94 [.agg #[.slice a1 n1 c1, .slice a2 n2 c2], .agg #[.slice a3 n3 c3, .slice a4 n4 c4]].toArray w (rets fun rv w' => rv = .bool ((a == b)) ∧ Ext w w') := by
 refine goT Tryz.func94 ?_
 obtain ⟨rfl, al, h1⟩ := h1.tp
 obtain ⟨rfl, am, h2⟩ := h2.tp
 obtain ⟨rfl, ao, h3⟩ := h3.tp
 obtain ⟨rfl, aq, h4⟩ := h4.tp
 refine .s <| .g <| .np 42 [.slice a1 a.ids.length c1, .slice a2 a.blocks.length c2] fun af au W O E ag => ?_
 replace ⟨h1, h2, h3, h4⟩ := (sn [] O W).g4 h1 h2 h3 h4
 have C := O
 refine .np 42 [.slice a3 b.ids.length c3, .slice a4 b.blocks.length c4] fun ai aj aa ab J ah => ?_
 replace ⟨h1, h2, h3, h4, E, C⟩ := (sn [af] ab aa).g6 h1 h2 h3 h4 E C
 refine .r 1 <| .d <| .s <| .g <| .r 1 <| .lb E <| .r 1 <| .lb J <| .cl (c_slices_Equal_int_int a.ids b.ids h1.ta h3.ta (w := aj) (F := all)) ?_
 rintro av ak ⟨rfl, ac⟩
 replace ⟨h2, h4, E, J, C⟩ := (se [ai, af] ac).g5 h2 h4 E J C
 cases ar : (a.ids == b.ids)
 ·exact .r 8 <| .d <| .rt Tryz.func94 Tryz.results94 (.bool false) ⟨(congrArg Value.bool (by cases a; cases b; grind)), C⟩
 refine .r 2 <| .lb E <| .r 1 <| .lb J <| .cl (c_EqualFunc_blocks a.blocks b.blocks h2.ta h4.ta (w := ak) (F := all)) ?_
 rintro aw ax ⟨rfl, ae⟩
 replace C := (se [] ae).g1 C
 exact .r 2 <| .d <| .rt Tryz.func94 Tryz.results94 (.bool (a.blocks == b.blocks)) ⟨(congrArg Value.bool (by cases a; cases b; grind)), C⟩
theorem c_EqualFunc_parts (s1 : List Prt) (s2 : List Prt) {w : World} {F : Nat → Prop} {a1 : Option Addr} {n1 c1 : Nat} (h1 : RepS w F a1 n1 c1 s1) {a2 : Option Addr} {n2 c2 : Nat} (h2 : RepS w F a2 n2 c2 s2)  : Calls Tryz.prog 93 [.slice a1 n1 c1, .slice a2 n2 c2, .func (.func 94) #[] #[]].toArray w (rets fun rv w' => rv = .bool ((s1 == s2)) ∧ Ext w w') := by
 refine goT Tryz.func93 ?_
 obtain ⟨rfl, aZ, h1⟩ := h1.tp
 obtain ⟨rfl, ba, h2⟩ := h2.tp
 refine .s <| .g <| .r 1 <| .d <| .s <| .s <| .g <| .r 4 <| .ne (s1.length : Int) (s2.length : Int) (fun aw => .d <| .ct <| .s <| .g <| .r 1 <| .d <| .rt Tryz.func93 Tryz.results93 (.bool false) ⟨(congrArg Value.bool (by grind [drop_end])), (Chg.refl _ _)⟩) fun aw => .d <| .cf <| .sk <| .s <| .s <| .g <| .r 3 <| .d <| .b 0 <| T.loop (X := Nat) 0 (fun k => [(1, .slice a2 s2.length c2), (2, .func (.func 94) #[] #[]), (15, .slice a1 s1.length c1), (16, vI (s1.length : Int)), (17, vI (k : Int))]) (fun k ak => Chg (ins []) w ak ∧ (k ≤ s1.length) ∧ (s1.drop k = s2.drop k ↔ s1 = s2)) (fun k => s1.length - k) (by kernel_rfl) ⟨by kernel_rfl, by kernel_rfl, by kernel_rfl, by kernel_rfl, by kernel_rfl, trivial⟩ ⟨Chg.refl _ _, (by simp), (by simp)⟩ ?_
 rintro k bv ak ⟨C, bc, bd⟩ af
 have al : Mv [] [] w ak := Mv.inl C all_nil all_nil
 replace ⟨h1, h2⟩ := (sp al C).g2 h1 h2
 have E : Chg nil w ak := Chg.stepI (Chg.refl nil w) C all_nil
 refine .s <| .g <| .bp ((k : Int) < (s1.length : Int)) (fun ax => ?_) (fun ax => .d <| .s <| .cf <| .x 0 rfl <| .s <| .g <| .r 1 <| .d <| .rt Tryz.func93 Tryz.results93 (.bool true) ⟨(congrArg Value.bool (by grind [drop_end])), E⟩)
 refine .d <| .s <| .ct <| .sk <| .s <| .b 1 <| .s <| .g <| .r 1 ?_
 have ay : k < s1.length := (by omega)
 refine .ix k 2 h1 ay ?_
 obtain ⟨ag, ah⟩ : ∃ y, s1[k]? = some y := ⟨_, List.getElem?_eq_getElem (by omega)⟩
 have bg := drop_at ah; have aN := List.mem_of_getElem? ah
 obtain ⟨_, ⟨aP, bw, aQ, aR, bz, aS, rfl, J, O⟩, az⟩ := h1.elem k ag ah
 have aA := J.len
 subst aA
 have bh := J.max
 have aB := O.len
 subst aB
 have bi := O.max
 refine .lg 0 az <| .np 42 [.slice none 0 0, .slice none 0 0] fun av bA ae am aC aD => ?_
 have bj := E.cn ae
 have bk := C.cn ae
 replace ⟨h2, J, O, E, C⟩ := (sn [] am ae).g5 h2 J O E C
 refine .r 1 <| .sc [.slice aP ag.ids.length aQ, .slice aR ag.blocks.length aS] aC fun bB ao W aE => ?_
 replace ⟨h2, J, O, E, C⟩ := (so [av] ao).g5 h2 J O E C
 refine .d <| .s <| .g <| .r 2 ?_
 have aF : k < s2.length := (by omega)
 refine .ix k 2 h2 aF ?_
 obtain ⟨ai, aj⟩ : ∃ y, s2[k]? = some y := ⟨_, List.getElem?_eq_getElem (by omega)⟩
 have bm := drop_at aj; have aO := List.mem_of_getElem? aj
 obtain ⟨_, ⟨aT, bC, aU, aV, bD, aW, rfl, ab, ac⟩, aG⟩ := h2.elem k ai aj
 have aH := ab.len
 subst aH
 have bn := ab.max
 have aI := ac.len
 subst aI
 have bo := ac.max
 refine .lg 0 aG <| .np 42 [.slice none 0 0, .slice none 0 0] fun aX bE aa aq aJ aK => ?_
 have bq := nb_new aa W.lt
 have br := E.cn aa
 have bt := C.cn aa
 replace ⟨J, O, W, ab, ac, E, C⟩ := (sn [av] aq aa).g7 J O W ab ac E C
 refine .sc [.slice aT ai.ids.length aU, .slice aV ai.blocks.length aW] aJ fun aY ar aL aM => ?_
 replace ⟨J, O, W, ab, ac, E, C⟩ := (so [aX, av] ar).g7 J O W ab ac E C
 refine .d <| .s <| .g <| .r 1 <| .ln W <| .ln aL <| .cl (c_impl_samePart ag ai J.ta O.ta ab.ta ac.ta (w := aY) (F := all)) ?_
 rintro bF bG ⟨rfl, au⟩
 replace ⟨E, C⟩ := (se [] au).g2 E C
 cases bu : (ag == ai)
 ·exact .r 1 <| .d <| .ct <| .s <| .g <| .r 1 <| .d <| .rt Tryz.func93 Tryz.results93 (.bool false) ⟨(congrArg Value.bool (by grind [drop_end])), E⟩
 exact .r 1 <| .d <| .cf <| .sk <| .ib 1 <| .g <| .it ((k : Int) + 1) <| .r 1 <| .d <| af (k + 1) _ _ ⟨by kernel_rfl, by kernel_rfl, by kernel_rfl, by kernel_rfl, by kernel_rfl, trivial⟩ ⟨C, (by omega), (by grind)⟩ (by omega)
theorem c_impl_Disk_full (d : Dsk) {w : World} {F : Nat → Prop} {a1 : Option Addr} {n1 c1 : Nat} (h1 : RepS w F a1 n1 c1 d.files) {a2 : Option Addr} {n2 c2 : Nat} (h2 : RepS w F a2 n2 c2 d.list) {a3 : Option Addr} {n3 c3 : Nat} (h3 : RepS w F a3 n3 c3 d.names)  : Calls Tryz.prog 52 [.agg #[.slice a1 n1 c1, .slice a2 n2 c2, .slice a3 n3 c3, .int .i64 d.next]].toArray w (rets fun rv w' => rv = .bool (fullB d) ∧ Ext w w') := by
 refine goT Tryz.func52 ?_
 obtain ⟨rfl, ab, h1⟩ := h1.tp
 obtain ⟨rfl, ac, h2⟩ := h2.tp
 obtain ⟨rfl, ae, h3⟩ := h3.tp
 refine .s <| .g <| .np 27 [.slice a1 d.files.length c1, .slice a2 d.list.length c2, .slice a3 d.names.length c3, vI d.next] fun af ag O C E W => ?_
 have J := C
 exact .r 1 <| .d <| .s <| .g <| .r 1 <| .lb E <| .eq d.next 999 (fun aa => .r 7 <| .d <| .rt Tryz.func52 Tryz.results52 (.bool true) ⟨(congrArg Value.bool (by exact fullB_1' ‹_›)), J⟩) fun aa => .r 2 <| .lb E <| .r 4 <| .d <| .rt Tryz.func52 Tryz.results52 (.bool ((d.files.length : Int) == 20)) ⟨(congrArg Value.bool (by exact fullB_2 ‹_›)), J⟩
theorem c_impl_matches (s : Sto) (d : Dsk) {w : World} {F : Nat → Prop} {a1 : Option Addr} {n1 c1 : Nat} (h1 : RepS w F a1 n1 c1 s.idx.names) {a2 : Option Addr} {n2 c2 : Nat} (h2 : RepS w F a2 n2 c2 s.idx.posts) {a3 : Option Addr} {n3 c3 : Nat} (h3 : RepS w F a3 n3 c3 s.parts) {a4 : Option Addr} {n4 c4 : Nat} (h4 : RepS w F a4 n4 c4 s.mem) {a5 : Option Addr} {n5 c5 : Nat} (h5 : RepS w F a5 n5 c5 d.files) {a6 : Option Addr} {n6 c6 : Nat} (h6 : RepS w F a6 n6 c6 d.list) {a7 : Option Addr} {n7 c7 : Nat} (h7 : RepS w F a7 n7 c7 d.names) (p0 : SG s) (p1 : DD d) : Calls Tryz.prog 51 [.agg #[.slice a1 n1 c1, .slice a2 n2 c2, .slice a3 n3 c3, .slice a4 n4 c4], .agg #[.slice a5 n5 c5, .slice a6 n6 c6, .slice a7 n7 c7, .int .i64 d.next]].toArray w (rets fun rv w' => rv = .bool (fitsB d s) ∧ Ext w w') := by
 refine goT Tryz.func51 ?_
 obtain ⟨rfl, aT, h1⟩ := h1.tp
 obtain ⟨rfl, aU, h2⟩ := h2.tp
 obtain ⟨rfl, aV, h3⟩ := h3.tp
 obtain ⟨rfl, aW, h4⟩ := h4.tp
 obtain ⟨rfl, aX, h5⟩ := h5.tp
 obtain ⟨rfl, aY, h6⟩ := h6.tp
 obtain ⟨rfl, aZ, h7⟩ := h7.tp
 refine .s <| .g <| .np 34 [.slice a1 s.idx.names.length c1, .slice a2 s.idx.posts.length c2, .slice a3 s.parts.length c3, .slice a4 s.mem.length c4] fun O bv ax ah E aG => ?_
 replace ⟨h1, h2, h3, h4, h5, h6, h7⟩ := (sn [] ah ax).g7 h1 h2 h3 h4 h5 h6 h7
 have C := ah
 refine .np 27 [.slice a5 d.files.length c5, .slice a6 d.list.length c6, .slice a7 d.names.length c7, vI d.next] fun W bw ay az J aH => ?_
 replace ⟨h1, h2, h3, h4, h5, h6, h7, E, C⟩ := (sn [O] az ay).g9 h1 h2 h3 h4 h5 h6 h7 E C
 refine .r 1 <| .d <| .s <| .s <| .gd nil 14 fun bz aA => ?_
 replace ⟨h1, h2, h3, h4, h5, h6, h7, E, J, C⟩ := (se [W, O] aA).g10 h1 h2 h3 h4 h5 h6 h7 E J C
 refine .ln 0 E id <| GA.call1 (i := 1) (by kernel_rfl) (fun aO af => c_impl_StoreOkG s (h1.ta.ext af) (h2.ta.ext af) (h3.ta.ext af) (h4.ta.ext af) p0 (w := aO) (F := all)) ?_
 cases ba : (nmB s.idx.names && storeOk s)
 ·refine .r [2, 3, 4, 5, 6, 7, 8] <| GA.skip (by kernel_rfl) fun bA aB => ?_
  replace ⟨h1, h3, h5, h6, h7, E, J, C⟩ := (se [W, O] aB).g8 h1 h3 h5 h6 h7 E J C
  exact .r 3 <| .d <| .ct <| .s <| .g <| .r 1 <| .d <| .rt Tryz.func51 Tryz.results51 (.bool false) ⟨(congrArg Value.bool (by exact fits_2 ‹_›)), C⟩
 refine .r [2, 3] <| .ln 4 J id <| GA.call1 (i := 5) (by kernel_rfl) (fun aP ai => c_impl_DiskOk d (h5.ta.ext ai) (h6.ta.ext ai) (h7.ta.ext ai) p1 (w := aP) (F := all)) ?_
 cases bc : (diskOk d)
 ·refine .r [6, 7, 8] <| GA.skip (by kernel_rfl) fun bB aC => ?_
  replace ⟨h1, h3, h5, h6, h7, E, J, C⟩ := (se [W, O] aC).g8 h1 h3 h5 h6 h7 E J C
  exact .r 3 <| .d <| .ct <| .s <| .g <| .r 1 <| .d <| .rt Tryz.func51 Tryz.results51 (.bool false) ⟨(congrArg Value.bool (by exact fits_1 ‹_›)), C⟩
 refine .r [6, 7, 8, 9] <| .lb 10 E id <| .ln 11 J id <| .go 12 <| .cl (fun aD aa => c_impl_Disk_open d (h5.ta.ext aa) (h6.ta.ext aa) (h7.ta.ext aa) p1 (lstOk_at (diskOk_f ‹_›).2.2.2) (w := aD) (F := all)) ?_
 intro aD aa
 replace ⟨h1, h3, h7, E, J, C⟩ := (se [W, O] aa).g6 h1 h3 h7 E J C
 rintro bC bD ⟨⟨aI, ⟨_, rfl, ⟨bE, bF, bG, bH, bI, bJ, bK, bL, bM, bN, bO, bP, rfl, au, av, ae, aw⟩⟩, bd⟩, aj⟩
 have ab := al2 J.lt E.lt
 have ag : Gb w.heap.size aD.heap.size := C.size
 have hkeep_ := aj
 replace ⟨h1, h3, h7, E, J, C⟩ := (se [W, O] aj).g6 h1 h3 h7 E J C
 refine ⟨Ext.chg hkeep_, ?_⟩
 have au := au.fr ab ag
 have bg := au.max
 have av := av.fr ab ag
 have bh := av.max
 have ae := ae.fr ab ag
 have bi := ae.max
 have aw := aw.fr ab ag
 have bj := aw.max
 have aJ := au.len
 subst aJ
 have aK := av.len
 subst aK
 have aL := ae.len
 subst aL
 have aE := aw.len
 subst aE
 refine .r [13] <| .d fun aM ak => ?_
 replace ⟨h1, h3, h7, E, J, ae, C⟩ := (se [W, O] ak).g7 h1 h3 h7 E J ae C
 refine .cl (c_EqualFunc_parts s.parts aI.parts h3.ta ae.ta (w := aM) (F := all)) ?_
 rintro bk bm ⟨rfl, al⟩
 replace ⟨h1, h7, E, J, C⟩ := (se [W, O] al).g5 h1 h7 E J C
 cases aQ : (s.parts == aI.parts)
 ·exact .r 2 <| .d <| .ct <| .s <| .g <| .r 1 <| .d <| .rt Tryz.func51 Tryz.results51 (.bool false) ⟨(congrArg Value.bool (by exact fitG_1 ‹_› ‹_›)), C⟩
 refine .r 2 <| .d <| .cf <| .sk <| .s <| .g <| .r 1 <| .lb J <| .r 2 <| .d <| .s <| .gd nil 14 fun bn am => ?_
 replace ⟨h1, h7, E, J, C⟩ := (se [W, O] am).g5 h1 h7 E J C
 refine .r [0, 1, 2] <| .lb 3 E id <| .r [4] <| GA.boolP (i := 5) ((d.names.length : Int) ≤ (s.idx.names.length : Int)) (by kernel_rfl) (fun aF => ?_) (fun aF => ?_)
 ·refine .r [6, 7] <| .lb 8 J id <| .r [9, 10] <| .lb 11 E id <| .r [12] <| GA.sub (i := 13) (t := 25) (lo := none) (hi := some (vI (d.names.length : Int))) (by kernel_rfl) h1 0 d.names.length (by kernel_rfl) (by kernel_rfl) (.inl ⟨rfl, rfl⟩) (.inr ⟨_, _, rfl, by omega⟩) (by omega) (by omega) fun bo bq ac => ?_
  have aR := ac.len; have aS := ac.max
  refine .d fun aN ao => ?_
  replace ⟨h7, ac, C⟩ := (se [W, O] ao).g3 h7 ac C
  refine .cl (c_EqualFunc_names d.names ((s.idx.names.take d.names.length).drop 0) h7.ta ac.ta (w := aN) (F := all)) ?_
  rintro br bt ⟨rfl, aq⟩
  replace C := (se [] aq).g1 C
  exact .r 2 <| .d <| .rt Tryz.func51 Tryz.results51 (.bool (d.names == ((s.idx.names.take d.names.length).drop 0))) ⟨(congrArg Value.bool (by exact fitG_4 ‹_› ‹_› ‹_› ‹_› (by simp))), C⟩
 refine .r [6] <| GA.skip (by kernel_rfl) fun bu ar => ?_
 replace C := (se [] ar).g1 C
 exact .r 3 <| .d <| .rt Tryz.func51 Tryz.results51 (.bool false) ⟨(congrArg Value.bool (by exact fitG_3 ‹_›)), C⟩
theorem c_impl_StepsFlush (d : Dsk) (s : Sto) {w : World} {F : Nat → Prop} {a1 : Option Addr} {n1 c1 : Nat} (h1 : RepS w F a1 n1 c1 d.files) {a2 : Option Addr} {n2 c2 : Nat} (h2 : RepS w F a2 n2 c2 d.list) {a3 : Option Addr} {n3 c3 : Nat} (h3 : RepS w F a3 n3 c3 d.names) {a4 : Option Addr} {n4 c4 : Nat} (h4 : RepS w F a4 n4 c4 s.idx.names) {a5 : Option Addr} {n5 c5 : Nat} (h5 : RepS w F a5 n5 c5 s.idx.posts) {a6 : Option Addr} {n6 c6 : Nat} (h6 : RepS w F a6 n6 c6 s.parts) {a7 : Option Addr} {n7 c7 : Nat} (h7 : RepS w F a7 n7 c7 s.mem) (p0 : DD d) (p1 : SG s) : Calls Tryz.prog 16 [.agg #[.slice a1 n1 c1, .slice a2 n2 c2, .slice a3 n3 c3, .int .i64 d.next], .agg #[.slice a4 n4 c4, .slice a5 n5 c5, .slice a6 n6 c6, .slice a7 n7 c7]].toArray w (rets fun rv w' => VL (ge w.heap.size) w' (dflush d s : List Stp) rv ∧ Ext w w') := by
 refine goT Tryz.func16 ?_
 obtain ⟨rfl, qw, h1⟩ := h1.tp
 obtain ⟨rfl, qx, h2⟩ := h2.tp
 obtain ⟨rfl, qy, h3⟩ := h3.tp
 obtain ⟨rfl, qz, h4⟩ := h4.tp
 obtain ⟨rfl, qA, h5⟩ := h5.tp
 obtain ⟨rfl, qB, h6⟩ := h6.tp
 obtain ⟨rfl, qC, h7⟩ := h7.tp
 refine .s <| .g <| .np 27 [.slice a1 d.files.length c1, .slice a2 d.list.length c2, .slice a3 d.names.length c3, vI d.next] fun aa qQ kO gV E l8 => ?_
 replace ⟨h1, h2, h3, h4, h5, h6, h7⟩ := (sn [] gV kO).g7 h1 h2 h3 h4 h5 h6 h7
 have J := gV
 refine .np 34 [.slice a4 s.idx.names.length c4, .slice a5 s.idx.posts.length c5, .slice a6 s.parts.length c6, .slice a7 s.mem.length c7] fun ab oT kP kQ W l9 => ?_
 replace ⟨h1, h2, h3, h4, h5, h6, h7, E, J⟩ := (sn [aa] kQ kP).g9 h1 h2 h3 h4 h5 h6 h7 E J
 refine .r 1 <| .d <| .s <| .s <| .g <| .ln W <| .ln E <| .cl (c_impl_matches s d h4.ta h5.ta h6.ta h7.ta h1.ta h2.ta h3.ta p1 p0 (w := oT) (F := all)) ?_
 rintro qR oU ⟨rfl, kR⟩
 replace ⟨h1, h2, h3, h4, h5, h6, h7, E, W, J⟩ := (se [ab, aa] kR).g10 h1 h2 h3 h4 h5 h6 h7 E W J
 cases qD : (fitsB d s)
 ·refine .r 17 <| .d <| .ct <| .s <| .g <| .ns 0 44 [] fun gW ma eP kS mb mc => ?_
  have qE := nb_new eP E.lt
  have qF := nb_new eP W.lt
  have me := gb_new eP J.size
  replace ⟨h1, h2, h3, h4, h5, h6, h7, E, W, J⟩ := (sn [ab, aa] kS eP).g10 h1 h2 h3 h4 h5 h6 h7 E W J
  have mf : Own (α := Stp) ma gW 44 (nin (ge w.heap.size) [gW, ab, aa]) 0 0 [] := Own.nil' mb
  refine .r 1 <| .d ?_
  have oV := mf.sl me
  replace ⟨h1, h2, h3, h4, h5, h6, h7⟩ := (sd ma [gW, ab, aa] gW).g7 h1 h2 h3 h4 h5 h6 h7
  exact .rt Tryz.func16 Tryz.results16 (vS gW 0 0) ⟨(oV.vl (by exact sf_1 ‹_›) (fun _ _ h => h.1)), J⟩
 refine .r 3 <| .lb W <| .r 1 <| .eq (s.mem.length : Int) 0 (fun mh => ?_) (fun mh => ?_)
 ·refine .r 11 <| .d <| .ct <| .s <| .g <| .ns 0 44 [] fun gX mj eQ kT ml mo => ?_
  have qG := nb_new eQ E.lt
  have qH := nb_new eQ W.lt
  have mp := gb_new eQ J.size
  replace ⟨h1, h2, h3, h4, h5, h6, h7, E, W, J⟩ := (sn [ab, aa] kT eQ).g10 h1 h2 h3 h4 h5 h6 h7 E W J
  have mq : Own (α := Stp) mj gX 44 (nin (ge w.heap.size) [gX, ab, aa]) 0 0 [] := Own.nil' ml
  refine .r 1 <| .d ?_
  have oW := mq.sl mp
  replace ⟨h1, h2, h3, h4, h5, h6, h7⟩ := (sd mj [gX, ab, aa] gX).g7 h1 h2 h3 h4 h5 h6 h7
  exact .rt Tryz.func16 Tryz.results16 (vS gX 0 0) ⟨(oW.vl (by exact sf_2 (.inl ‹_›)) (fun _ _ h => h.1)), J⟩
 refine .r 3 <| .lb E <| .r 1 <| .eq (d.list.length : Int) 6 (fun mr => ?_) (fun mr => ?_)
 ·refine .r 5 <| .d <| .ct <| .s <| .g <| .ns 0 44 [] fun gY mt eR kU mu mw => ?_
  have qI := nb_new eR E.lt
  have qJ := nb_new eR W.lt
  have mz := gb_new eR J.size
  replace ⟨h1, h2, h3, h4, h5, h6, h7, E, W, J⟩ := (sn [ab, aa] kU eR).g10 h1 h2 h3 h4 h5 h6 h7 E W J
  have mA : Own (α := Stp) mt gY 44 (nin (ge w.heap.size) [gY, ab, aa]) 0 0 [] := Own.nil' mu
  refine .r 1 <| .d ?_
  have oX := mA.sl mz
  replace ⟨h1, h2, h3, h4, h5, h6, h7⟩ := (sd mt [gY, ab, aa] gY).g7 h1 h2 h3 h4 h5 h6 h7
  exact .rt Tryz.func16 Tryz.results16 (vS gY 0 0) ⟨(oX.vl (by exact sf_2 (.inr (.inl ‹_›))) (fun _ _ h => h.1)), J⟩
 refine .r 2 <| .ln E <| .cl (c_impl_Disk_full d h1.ta h2.ta h3.ta (w := oU) (F := all)) ?_
 rintro qS bH ⟨rfl, kV⟩
 replace ⟨h2, h4, h5, h6, h7, E, W, J⟩ := (se [ab, aa] kV).g8 h2 h4 h5 h6 h7 E W J
 cases qK : (fullB d)
 ·refine .r 1 <| .d <| .cf <| .sk <| .s <| T.regionJ (X := (Option Addr) × Nat × (Option Addr) × Nat × Nat × Nat × Nat × Nat × Nat) (mtb [] bH.heap.size) 18 (fun (eS, eT, eU, eV, aV, eW, aQ, eX, eY) => [(30, .agg #[vI 1, vI d.next, .slice eS (((memPart s.mem).ids).length) eT, .slice eU (((memPart s.mem).blocks).length) eV, .slice none 0 0, .slice none 0 0]), (43, .agg #[vI 2, vI 0, .slice none 0 0, .slice none 0 0, vS aV (0 + d.list.length + 1) eW, vS aQ eX eY])]) (fun (eS, eT, eU, eV, aV, eW, aQ, eX, eY) dy => Ext bH dy ∧ bH.heap.size ≤ aV ∧ bH.heap.size ≤ aQ ∧ Nb aQ aV ∧ RepS dy (nin (ge w.heap.size) [aV, aQ, ab, aa]) eS (((memPart s.mem).ids).length) eT ((memPart s.mem).ids : List Int) ∧ RepS dy (nin (ge w.heap.size) [aV, aQ, ab, aa]) eU (((memPart s.mem).blocks).length) eV ((memPart s.mem).blocks : List (List Row)) ∧ Own dy aV 3 (nin (ge w.heap.size) [aV, aQ, ab, aa]) (0 + d.list.length + 1) eW ((([] ++ d.list) ++ [d.next]) : List Int) ∧ Own dy aQ 77 (nin (ge w.heap.size) [aV, aQ, ab, aa]) eX eY (s.idx.names : List (List Tag))) (by kernel_rfl) (fun mB dz => ?_) ?_
  ·replace h2 := h2.into
   replace h4 := h4.into
   replace h5 := h5.into
   replace h6 := h6.into
   replace h7 := h7.into
   have eZ : Gb (aa + 1) bH.heap.size := E.lt
   have gZ : Gb (ab + 1) bH.heap.size := W.lt
   replace ⟨h2, h4, h5, h6, h7, E, W, J⟩ := (se [ab, aa] dz).g8 h2 h4 h5 h6 h7 E W J
   have C := dz
   have O : Chg (mtb [] bH.heap.size) bH mB := Chg.stepN (Chg.refl (mtb [] bH.heap.size) bH) dz
   refine .r [0] <| .lb 1 E (nS_of all_nil eZ) <| .ln 2 W (nS_of all_nil gZ) <| .r [6] <| .lb 7 E (nS_of all_nil eZ) <| .r [9] <| .lb 10 E (nS_of all_nil eZ) <| .r [13, 14] <| .lb 15 W (nS_of all_nil gZ) <| GE.many [3, 5, 11] (by kernel_rfl) (all_cons ?_ (all_cons ?_ (all_cons ?_ all_nil)))
   ·refine .cl (fun g0 cm => c_impl_Store_flushed s (h4.ta.ext cm) (h5.ta.ext cm) (h6.ta.ext cm) (h7.ta.ext cm) (StoK.of (fits_stok p1 ‹_›) (fits_of ‹_›).sk).row (StoK.of (fits_stok p1 ‹_›) (fits_of ‹_›).sk).stoI.mem6 (by have := p1.nm2; omega) (w := g0) (F := all)) ?_
    intro g0 cm
    replace ⟨h2, h4, h5, h6, h7, E, W, J, C, O⟩ := (se [ab, aa] cm).g10 h2 h4 h5 h6 h7 E W J C O
    rintro qL qM ⟨⟨_, rfl, ⟨hC, qN, hD, hE, qO, hH, rfl, ae, af⟩⟩, e7⟩
    have e8 := al2 W.lt E.lt
    have hJ : Gb w.heap.size g0.heap.size := J.size
    have hkeep_ := e7
    replace ⟨h2, h4, h5, h6, h7, E, W, J, C, O⟩ := (se [ab, aa] e7).g10 h2 h4 h5 h6 h7 E W J C O
    refine ⟨Ext.chg hkeep_, ?_⟩
    have ae := ae.fr e8 hJ
    have oY := ae.max
    have af := af.fr e8 hJ
    have oZ := af.max
    have kW := ae.len
    subst kW
    have kX := af.len
    subst kX
    refine .r [4] <| .tw 5 11 ?_ ?_
    ·refine .ns 0 3 [] fun qP fK => ?_
     replace ⟨h2, h4, h5, h6, h7, E, W, ae, af, J, C, O⟩ := (se [ab, aa] fK).g12 h2 h4 h5 h6 h7 E W ae af J C O
     intro aM mC bS hN kY kZ
     have fL := nb_new bS E.lt
     have fM := nb_new bS W.lt
     have fN := J.cn bS
     have fO := C.cn bS
     have cA := O.cn bS
     replace ⟨h2, h4, h5, h6, h7, E, W, ae, af, J, C, O⟩ := (sn [ab, aa] hN bS).g12 h2 h4 h5 h6 h7 E W ae af J C O
     have aG : Own (α := Int) mC aM 3 (nin (ge w.heap.size) [aM, ab, aa]) 0 0 [] := Own.nil' kY
     refine .tw 8 11 ?_ ?_
     ·refine GE.append (T := 24) (ty := 24) (args := [vS aM 0 0, .slice a2 d.list.length c2]) (by kernel_rfl) fun o0 dA => ?_
      replace ⟨h2, h4, h5, h6, h7, E, W, ae, af, aG, J, C⟩ := (se [aM, ab, aa] dA).g12 h2 h4 h5 h6 h7 E W ae af aG J C
      replace O := (se [aM, ab, aa] dA).g1 O
      obtain ⟨aR, k5, o5, gF, aD, aS, dB, im⟩ := Own.appendF (P := Tryz.prog) (T := 24) (ty := 24) flat_int aG (by kernel_rfl) h2 (fun b h e => h.2 (e ▸ (.head _))) (by have := p0.nl; omega)
      refine ⟨_, _, gF, Chg.toS dB (Cov.toS cA), ?_⟩
      have mD := nb_or aS fL E.lt
      have mE := nb_or aS fM W.lt
      have mF := cov_or aS fN J.size
      have io := cov_or aS fO C.size
      have ip := cov_or aS cA O.size
      replace ⟨h2, h4, h5, h6, h7, E, W, ae, af, J, C, O⟩ := (sa [aM, ab, aa] dB aS).g12 h2 h4 h5 h6 h7 E W ae af J C O
      replace aD := aD.rn aM
      have mG := aD.len; have mH := aD.max
      refine .go 11 <| .ns 1 3 [vI d.next] fun o6 dC => ?_
      replace ⟨h2, h4, h5, h6, h7, E, W, ae, af, aD, J, C⟩ := (se [aR, ab, aa] dC).g12 h2 h4 h5 h6 h7 E W ae af aD J C
      replace O := (se [aR, ab, aa] dC).g1 O
      intro fa o7 bY dD dE iq
      have ir := nb_new bY E.lt
      have iu := nb_new bY W.lt
      have fP := nb_new bY aD.lt
      have iw := gb_new bY J.size
      replace ⟨h2, h4, h5, h6, h7, E, W, ae, af, aD, J, C⟩ := (se [aR, ab, aa] dD).g12 h2 h4 h5 h6 h7 E W ae af aD J C
      replace O := (se [aR, ab, aa] dD).g1 O
      refine .go 12 <| GE.append (T := 24) (ty := 24) (args := [vS aR (0 + d.list.length) k5, vS fa 1 1]) (by kernel_rfl) fun o8 dF => ?_
      replace ⟨h2, h4, h5, h6, h7, E, W, ae, af, aD, dE, J⟩ := (se [aR, ab, aa] dF).g12 h2 h4 h5 h6 h7 E W ae af aD dE J
      replace ⟨C, O⟩ := (se [aR, ab, aa] dF).g2 C O
      have fb : nin (ge w.heap.size) [aR, ab, aa] fa ∧ fa ≠ aR := hap_mk iw (all_cons fP (all_cons iu (all_cons ir all_nil))) fP
      obtain ⟨ba, k6, o9, gG, au, dm, dG, iy⟩ := aD.append1 (P := Tryz.prog) (T := 24) (ty := 24) (y := d.next) (by kernel_rfl) dE rfl fb (by have := p0.nl; omega)
      refine ⟨_, _, gG, Chg.toS dG (Cov.toS ip), ?_⟩
      have iz := cov_or dm io C.size
      replace ⟨h2, h4, h5, h6, h7, E, W, ae, af, J, C, O⟩ := (sa [aR, ab, aa] dG dm).g12 h2 h4 h5 h6 h7 E W ae af J C O
      replace au := au.rn aR
      have mI := au.len; have mJ := au.max
      refine .go 16 <| .cl (fun fc cB => c_impl_cloneNames s.idx.names (h4.ta.ext cB) (by have := p1.ix.g.len; omega) (by (intro n hn; have := (p1.ix.g.sz n hn).1; omega)) (w := fc) (F := all)) ?_
      intro fc cB
      replace ⟨h2, h4, h5, h6, h7, E, W, ae, af, au, J, C⟩ := (se [ba, ab, aa] cB).g12 h2 h4 h5 h6 h7 E W ae af au J C
      replace O := (se [ba, ab, aa] cB).g1 O
      rintro pa pb ⟨⟨co, k7, k8, rfl, bk, bZ⟩, cC⟩
      have fQ := al3 au.lt W.lt E.lt
      have iA : Gb w.heap.size fc.heap.size := J.size
      have hkeep_ := cC
      have iB := nb_ge bZ au.lt
      have iC : Cov nil bH co := cov_ge bZ C.size
      replace ⟨h2, h4, h5, h6, h7, E, W, ae, af, au, J, C⟩ := (sz [ba, ab, aa] cC bZ).g12 h2 h4 h5 h6 h7 E W ae af au J C
      replace O := (sz [ba, ab, aa] cC bZ).g1 O
      refine ⟨Ext.chg hkeep_, ?_⟩
      replace bk := Own.take (s0 := w.heap.size) (M := [ba, ab, aa]) bk fQ iA
      have mK := bk.len; have mL := bk.max
      refine .r [17] <| .d fun hO dH => ?_
      replace ⟨h2, h4, h5, h6, h7, E, W, ae, af, au, bk, J⟩ := (se [co, ba, ab, aa] dH).g12 h2 h4 h5 h6 h7 E W ae af au bk J
      replace ⟨C, O⟩ := (se [co, ba, ab, aa] dH).g2 C O
      replace h2 := h2.outof
      replace h4 := h4.outof
      replace h5 := h5.outof
      replace h6 := h6.outof
      replace h7 := h7.outof
      have cD : Mv [co, ba, ab, aa] [ba, co, ab, aa] hO hO := Mv.less (all_cons (.tail _ (.head _)) (all_cons (.head _) (all_cons (.tail _ (.tail _ (.head _))) (all_cons (.tail _ (.tail _ (.tail _ (.head _)))) all_nil))))
      exact ⟨(hC, hD, hE, hH, ba, k6, co, k7, k8), ⟨by kernel_rfl, by kernel_rfl, trivial⟩, ⟨C, (cov_ge0 iz), (cov_ge0 iC), iB, (RepS.mv ae cD), (RepS.mv af cD), (Own.mv au cD (Chg.refl nil _) (fun h => h)), (Own.mv bk cD (Chg.refl nil _) (fun h => h))⟩⟩
     refine .ns 1 3 [vI d.next] fun pc dI => ?_
     replace ⟨h2, h4, h5, h6, h7, E, W, ae, af, aG, J, C⟩ := (se [aM, ab, aa] dI).g12 h2 h4 h5 h6 h7 E W ae af aG J C
     replace O := (se [aM, ab, aa] dI).g1 O
     intro fd pd b0 dJ aW iD
     have iE := nb_new b0 E.lt
     have iF := nb_new b0 W.lt
     have iG := nb_new b0 aG.lt
     have iH := gb_new b0 J.size
     replace ⟨h2, h4, h5, h6, h7, E, W, ae, af, aG, J, C⟩ := (se [aM, ab, aa] dJ).g12 h2 h4 h5 h6 h7 E W ae af aG J C
     replace O := (se [aM, ab, aa] dJ).g1 O
     refine .go 8 <| GE.append (T := 24) (ty := 24) (args := [vS aM 0 0, .slice a2 d.list.length c2]) (by kernel_rfl) fun pe dK => ?_
     replace ⟨h2, h4, h5, h6, h7, E, W, ae, af, aG, aW, J⟩ := (se [aM, ab, aa] dK).g12 h2 h4 h5 h6 h7 E W ae af aG aW J
     replace ⟨C, O⟩ := (se [aM, ab, aa] dK).g2 C O
     obtain ⟨bT, k9, pf, gH, bm, aH, cE, iI⟩ := Own.appendF (P := Tryz.prog) (T := 24) (ty := 24) flat_int aG (by kernel_rfl) h2 (fun b h e => h.2 (e ▸ (.head _))) (by have := p0.nl; omega)
     refine ⟨_, _, gH, Chg.toS cE (Cov.toS cA), ?_⟩
     have mM := nb_or aH fL E.lt
     have mN := nb_or aH fM W.lt
     have fR := nb_or aH (Nb.symm iG) aW.lt
     have mO := cov_or aH fN J.size
     have iJ := cov_or aH fO C.size
     have iK := cov_or aH cA O.size
     replace ⟨h2, h4, h5, h6, h7, E, W, ae, af, aW, J, C⟩ := (sa [aM, ab, aa] cE aH).g12 h2 h4 h5 h6 h7 E W ae af aW J C
     replace O := (sa [aM, ab, aa] cE aH).g1 O
     replace bm := bm.rn aM
     have mP := bm.len; have mQ := bm.max
     refine .go 12 <| GE.append (T := 24) (ty := 24) (args := [vS bT (0 + d.list.length) k9, vS fd 1 1]) (by kernel_rfl) fun pg dL => ?_
     replace ⟨h2, h4, h5, h6, h7, E, W, ae, af, bm, aW, J⟩ := (se [bT, ab, aa] dL).g12 h2 h4 h5 h6 h7 E W ae af bm aW J
     replace ⟨C, O⟩ := (se [bT, ab, aa] dL).g2 C O
     have fe : nin (ge w.heap.size) [bT, ab, aa] fd ∧ fd ≠ bT := hap_mk iH (all_cons (Nb.symm fR) (all_cons iF (all_cons iE all_nil))) (Nb.symm fR)
     obtain ⟨bc, lc, ph, gI, av, dp, dM, iL⟩ := bm.append1 (P := Tryz.prog) (T := 24) (ty := 24) (y := d.next) (by kernel_rfl) aW rfl fe (by have := p0.nl; omega)
     refine ⟨_, _, gI, Chg.toS dM (Cov.toS iK), ?_⟩
     have iM := cov_or dp iJ C.size
     replace ⟨h2, h4, h5, h6, h7, E, W, ae, af, J, C, O⟩ := (sa [bT, ab, aa] dM dp).g12 h2 h4 h5 h6 h7 E W ae af J C O
     replace av := av.rn bT
     have mR := av.len; have mS := av.max
     refine .go 16 <| .cl (fun ff cF => c_impl_cloneNames s.idx.names (h4.ta.ext cF) (by have := p1.ix.g.len; omega) (by (intro n hn; have := (p1.ix.g.sz n hn).1; omega)) (w := ff) (F := all)) ?_
     intro ff cF
     replace ⟨h2, h4, h5, h6, h7, E, W, ae, af, av, J, C⟩ := (se [bc, ab, aa] cF).g12 h2 h4 h5 h6 h7 E W ae af av J C
     replace O := (se [bc, ab, aa] cF).g1 O
     rintro pi pj ⟨⟨cp, ld, lf, rfl, bn, b6⟩, cG⟩
     have fS := al3 av.lt W.lt E.lt
     have iN : Gb w.heap.size ff.heap.size := J.size
     have hkeep_ := cG
     have iO := nb_ge b6 av.lt
     have iP : Cov nil bH cp := cov_ge b6 C.size
     replace ⟨h2, h4, h5, h6, h7, E, W, ae, af, av, J, C⟩ := (sz [bc, ab, aa] cG b6).g12 h2 h4 h5 h6 h7 E W ae af av J C
     replace O := (sz [bc, ab, aa] cG b6).g1 O
     refine ⟨Ext.chg hkeep_, ?_⟩
     replace bn := Own.take (s0 := w.heap.size) (M := [bc, ab, aa]) bn fS iN
     have mT := bn.len; have mU := bn.max
     refine .r [17] <| .d fun hQ dN => ?_
     replace ⟨h2, h4, h5, h6, h7, E, W, ae, af, av, bn, J⟩ := (se [cp, bc, ab, aa] dN).g12 h2 h4 h5 h6 h7 E W ae af av bn J
     replace ⟨C, O⟩ := (se [cp, bc, ab, aa] dN).g2 C O
     replace h2 := h2.outof
     replace h4 := h4.outof
     replace h5 := h5.outof
     replace h6 := h6.outof
     replace h7 := h7.outof
     have cH : Mv [cp, bc, ab, aa] [bc, cp, ab, aa] hQ hQ := Mv.less (all_cons (.tail _ (.head _)) (all_cons (.head _) (all_cons (.tail _ (.tail _ (.head _))) (all_cons (.tail _ (.tail _ (.tail _ (.head _)))) all_nil))))
     exact ⟨(hC, hD, hE, hH, bc, lc, cp, ld, lf), ⟨by kernel_rfl, by kernel_rfl, trivial⟩, ⟨C, (cov_ge0 iM), (cov_ge0 iP), iO, (RepS.mv ae cH), (RepS.mv af cH), (Own.mv av cH (Chg.refl nil _) (fun h => h)), (Own.mv bn cH (Chg.refl nil _) (fun h => h))⟩⟩
    refine .ns 1 3 [vI d.next] fun pk fT => ?_
    replace ⟨h2, h4, h5, h6, h7, E, W, ae, af, J, C, O⟩ := (se [ab, aa] fT).g12 h2 h4 h5 h6 h7 E W ae af J C O
    intro fg pl cI fU aw iQ
    have iR := nb_new cI E.lt
    have iS := nb_new cI W.lt
    have iT := gb_new cI J.size
    replace ⟨h2, h4, h5, h6, h7, E, W, ae, af, J, C, O⟩ := (se [ab, aa] fU).g12 h2 h4 h5 h6 h7 E W ae af J C O
    refine .go 5 <| .ns 0 3 [] fun pm dO => ?_
    replace ⟨h2, h4, h5, h6, h7, E, W, ae, af, aw, J, C⟩ := (se [ab, aa] dO).g12 h2 h4 h5 h6 h7 E W ae af aw J C
    replace O := (se [ab, aa] dO).g1 O
    intro bI li aO dP iU iV
    have iW := nb_new aO E.lt
    have iX := nb_new aO W.lt
    have iY := nb_new aO aw.lt
    have iZ := J.cn aO
    have ja := C.cn aO
    have fV := O.cn aO
    replace ⟨h2, h4, h5, h6, h7, E, W, ae, af, aw, J, C⟩ := (sn [ab, aa] dP aO).g12 h2 h4 h5 h6 h7 E W ae af aw J C
    replace O := (sn [ab, aa] dP aO).g1 O
    have dQ : Own (α := Int) li bI 3 (nin (ge w.heap.size) [bI, ab, aa]) 0 0 [] := Own.nil' iU
    refine .go 8 <| GE.append (T := 24) (ty := 24) (args := [vS bI 0 0, .slice a2 d.list.length c2]) (by kernel_rfl) fun pn dR => ?_
    replace ⟨h2, h4, h5, h6, h7, E, W, ae, af, aw, dQ, J⟩ := (se [bI, ab, aa] dR).g12 h2 h4 h5 h6 h7 E W ae af aw dQ J
    replace ⟨C, O⟩ := (se [bI, ab, aa] dR).g2 C O
    obtain ⟨bU, lj, po, gJ, bo, aI, cJ, jb⟩ := Own.appendF (P := Tryz.prog) (T := 24) (ty := 24) flat_int dQ (by kernel_rfl) h2 (fun b h e => h.2 (e ▸ (.head _))) (by have := p0.nl; omega)
    refine ⟨_, _, gJ, Chg.toS cJ (Cov.toS fV), ?_⟩
    have mV := nb_or aI iW E.lt
    have mW := nb_or aI iX W.lt
    have fW := nb_or aI iY aw.lt
    have mX := cov_or aI iZ J.size
    have jc := cov_or aI ja C.size
    have jd := cov_or aI fV O.size
    replace ⟨h2, h4, h5, h6, h7, E, W, ae, af, aw, J, C⟩ := (sa [bI, ab, aa] cJ aI).g12 h2 h4 h5 h6 h7 E W ae af aw J C
    replace O := (sa [bI, ab, aa] cJ aI).g1 O
    replace bo := bo.rn bI
    have mY := bo.len; have mZ := bo.max
    refine .go 12 <| GE.append (T := 24) (ty := 24) (args := [vS bU (0 + d.list.length) lj, vS fg 1 1]) (by kernel_rfl) fun pp dS => ?_
    replace ⟨h2, h4, h5, h6, h7, E, W, ae, af, aw, bo, J⟩ := (se [bU, ab, aa] dS).g12 h2 h4 h5 h6 h7 E W ae af aw bo J
    replace ⟨C, O⟩ := (se [bU, ab, aa] dS).g2 C O
    have fh : nin (ge w.heap.size) [bU, ab, aa] fg ∧ fg ≠ bU := hap_mk iT (all_cons (Nb.symm fW) (all_cons iS (all_cons iR all_nil))) (Nb.symm fW)
    obtain ⟨bd, lk, pq, gK, ax, dq, dT, je⟩ := bo.append1 (P := Tryz.prog) (T := 24) (ty := 24) (y := d.next) (by kernel_rfl) aw rfl fh (by have := p0.nl; omega)
    refine ⟨_, _, gK, Chg.toS dT (Cov.toS jd), ?_⟩
    have jf := cov_or dq jc C.size
    replace ⟨h2, h4, h5, h6, h7, E, W, ae, af, J, C, O⟩ := (sa [bU, ab, aa] dT dq).g12 h2 h4 h5 h6 h7 E W ae af J C O
    replace ax := ax.rn bU
    have m0 := ax.len; have m5 := ax.max
    refine .go 16 <| .cl (fun fi cK => c_impl_cloneNames s.idx.names (h4.ta.ext cK) (by have := p1.ix.g.len; omega) (by (intro n hn; have := (p1.ix.g.sz n hn).1; omega)) (w := fi) (F := all)) ?_
    intro fi cK
    replace ⟨h2, h4, h5, h6, h7, E, W, ae, af, ax, J, C⟩ := (se [bd, ab, aa] cK).g12 h2 h4 h5 h6 h7 E W ae af ax J C
    replace O := (se [bd, ab, aa] cK).g1 O
    rintro pr pu ⟨⟨cq, ll, lm, rfl, bq, b7⟩, cL⟩
    have fX := al3 ax.lt W.lt E.lt
    have jg : Gb w.heap.size fi.heap.size := J.size
    have hkeep_ := cL
    have jh := nb_ge b7 ax.lt
    have ji : Cov nil bH cq := cov_ge b7 C.size
    replace ⟨h2, h4, h5, h6, h7, E, W, ae, af, ax, J, C⟩ := (sz [bd, ab, aa] cL b7).g12 h2 h4 h5 h6 h7 E W ae af ax J C
    replace O := (sz [bd, ab, aa] cL b7).g1 O
    refine ⟨Ext.chg hkeep_, ?_⟩
    replace bq := Own.take (s0 := w.heap.size) (M := [bd, ab, aa]) bq fX jg
    have m6 := bq.len; have m7 := bq.max
    refine .r [17] <| .d fun hV dU => ?_
    replace ⟨h2, h4, h5, h6, h7, E, W, ae, af, ax, bq, J⟩ := (se [cq, bd, ab, aa] dU).g12 h2 h4 h5 h6 h7 E W ae af ax bq J
    replace ⟨C, O⟩ := (se [cq, bd, ab, aa] dU).g2 C O
    replace h2 := h2.outof
    replace h4 := h4.outof
    replace h5 := h5.outof
    replace h6 := h6.outof
    replace h7 := h7.outof
    have cM : Mv [cq, bd, ab, aa] [bd, cq, ab, aa] hV hV := Mv.less (all_cons (.tail _ (.head _)) (all_cons (.head _) (all_cons (.tail _ (.tail _ (.head _))) (all_cons (.tail _ (.tail _ (.tail _ (.head _)))) all_nil))))
    exact ⟨(hC, hD, hE, hH, bd, lk, cq, ll, lm), ⟨by kernel_rfl, by kernel_rfl, trivial⟩, ⟨C, (cov_ge0 jf), (cov_ge0 ji), jh, (RepS.mv ae cM), (RepS.mv af cM), (Own.mv ax cM (Chg.refl nil _) (fun h => h)), (Own.mv bq cM (Chg.refl nil _) (fun h => h))⟩⟩
   ·refine .ns 0 3 [] fun pw fY => ?_
    replace ⟨h2, h4, h5, h6, h7, E, W, J, C, O⟩ := (se [ab, aa] fY).g10 h2 h4 h5 h6 h7 E W J C O
    intro aj lp br fZ jj jk
    have dV := nb_new br E.lt
    have dW := nb_new br W.lt
    have dX := J.cn br
    have dY := C.cn br
    have bN := O.cn br
    replace ⟨h2, h4, h5, h6, h7, E, W, J, C, O⟩ := (sn [ab, aa] fZ br).g10 h2 h4 h5 h6 h7 E W J C O
    have ai : Own (α := Int) lp aj 3 (nin (ge w.heap.size) [aj, ab, aa]) 0 0 [] := Own.nil' jj
    refine .tw 3 11 ?_ ?_
    ·refine .cl (fun fj bO => c_impl_Store_flushed s (h4.ta.ext bO) (h5.ta.ext bO) (h6.ta.ext bO) (h7.ta.ext bO) (StoK.of (fits_stok p1 ‹_›) (fits_of ‹_›).sk).row (StoK.of (fits_stok p1 ‹_›) (fits_of ‹_›).sk).stoI.mem6 (by have := p1.nm2; omega) (w := fj) (F := all)) ?_
     intro fj bO
     replace ⟨h2, h4, h5, h6, h7, E, W, ai, J, C, O⟩ := (se [aj, ab, aa] bO).g11 h2 h4 h5 h6 h7 E W ai J C O
     rintro pz pA ⟨⟨_, rfl, ⟨hW, pB, ia, ic, pC, ie, rfl, ag, ah⟩⟩, dZ⟩
     have d0 := al3 ai.lt W.lt E.lt
     have f0 : Gb w.heap.size fj.heap.size := J.size
     have hkeep_ := dZ
     replace ⟨h2, h4, h5, h6, h7, E, W, ai, J, C, O⟩ := (se [aj, ab, aa] dZ).g11 h2 h4 h5 h6 h7 E W ai J C O
     refine ⟨Ext.chg hkeep_, ?_⟩
     have ag := ag.fr d0 f0
     have m8 := ag.max
     have ah := ah.fr d0 f0
     have m9 := ah.max
     have jl := ag.len
     subst jl
     have jm := ah.len
     subst jm
     refine .r [4] <| .tw 8 11 ?_ ?_
     ·refine GE.append (T := 24) (ty := 24) (args := [vS aj 0 0, .slice a2 d.list.length c2]) (by kernel_rfl) fun pD d3 => ?_
      replace ⟨h2, h4, h5, h6, h7, E, W, ai, ag, ah, J, C⟩ := (se [aj, ab, aa] d3).g12 h2 h4 h5 h6 h7 E W ai ag ah J C
      replace O := (se [aj, ab, aa] d3).g1 O
      obtain ⟨aT, lq, pE, gL, aE, aU, d4, jn⟩ := Own.appendF (P := Tryz.prog) (T := 24) (ty := 24) flat_int ai (by kernel_rfl) h2 (fun b h e => h.2 (e ▸ (.head _))) (by have := p0.nl; omega)
      refine ⟨_, _, gL, Chg.toS d4 (Cov.toS bN), ?_⟩
      have nc := nb_or aU dV E.lt
      have ng := nb_or aU dW W.lt
      have nh := cov_or aU dX J.size
      have jo := cov_or aU dY C.size
      have jp := cov_or aU bN O.size
      replace ⟨h2, h4, h5, h6, h7, E, W, ag, ah, J, C, O⟩ := (sa [aj, ab, aa] d4 aU).g12 h2 h4 h5 h6 h7 E W ag ah J C O
      replace aE := aE.rn aj
      have ni := aE.len; have nj := aE.max
      refine .go 11 <| .ns 1 3 [vI d.next] fun pF d5 => ?_
      replace ⟨h2, h4, h5, h6, h7, E, W, aE, ag, ah, J, C⟩ := (se [aT, ab, aa] d5).g12 h2 h4 h5 h6 h7 E W aE ag ah J C
      replace O := (se [aT, ab, aa] d5).g1 O
      intro fk pG b8 d6 d7 jq
      have jr := nb_new b8 E.lt
      have js := nb_new b8 W.lt
      have f5 := nb_new b8 aE.lt
      have jt := gb_new b8 J.size
      replace ⟨h2, h4, h5, h6, h7, E, W, aE, ag, ah, J, C⟩ := (se [aT, ab, aa] d6).g12 h2 h4 h5 h6 h7 E W aE ag ah J C
      replace O := (se [aT, ab, aa] d6).g1 O
      refine .go 12 <| GE.append (T := 24) (ty := 24) (args := [vS aT (0 + d.list.length) lq, vS fk 1 1]) (by kernel_rfl) fun pH d8 => ?_
      replace ⟨h2, h4, h5, h6, h7, E, W, aE, ag, ah, d7, J⟩ := (se [aT, ab, aa] d8).g12 h2 h4 h5 h6 h7 E W aE ag ah d7 J
      replace ⟨C, O⟩ := (se [aT, ab, aa] d8).g2 C O
      have fm : nin (ge w.heap.size) [aT, ab, aa] fk ∧ fk ≠ aT := hap_mk jt (all_cons f5 (all_cons js (all_cons jr all_nil))) f5
      obtain ⟨bg, ls, pI, gM, ay, dr, d9, ju⟩ := aE.append1 (P := Tryz.prog) (T := 24) (ty := 24) (y := d.next) (by kernel_rfl) d7 rfl fm (by have := p0.nl; omega)
      refine ⟨_, _, gM, Chg.toS d9 (Cov.toS jp), ?_⟩
      have jv := cov_or dr jo C.size
      replace ⟨h2, h4, h5, h6, h7, E, W, ag, ah, J, C, O⟩ := (sa [aT, ab, aa] d9 dr).g12 h2 h4 h5 h6 h7 E W ag ah J C O
      replace ay := ay.rn aT
      have nq := ay.len; have nt := ay.max
      refine .go 16 <| .cl (fun fp cN => c_impl_cloneNames s.idx.names (h4.ta.ext cN) (by have := p1.ix.g.len; omega) (by (intro n hn; have := (p1.ix.g.sz n hn).1; omega)) (w := fp) (F := all)) ?_
      intro fp cN
      replace ⟨h2, h4, h5, h6, h7, E, W, ay, ag, ah, J, C⟩ := (se [bg, ab, aa] cN).g12 h2 h4 h5 h6 h7 E W ay ag ah J C
      replace O := (se [bg, ab, aa] cN).g1 O
      rintro pJ pK ⟨⟨cr, lu, lv, rfl, bt, b9⟩, cO⟩
      have f6 := al3 ay.lt W.lt E.lt
      have jw : Gb w.heap.size fp.heap.size := J.size
      have hkeep_ := cO
      have jx := nb_ge b9 ay.lt
      have jy : Cov nil bH cr := cov_ge b9 C.size
      replace ⟨h2, h4, h5, h6, h7, E, W, ay, ag, ah, J, C⟩ := (sz [bg, ab, aa] cO b9).g12 h2 h4 h5 h6 h7 E W ay ag ah J C
      replace O := (sz [bg, ab, aa] cO b9).g1 O
      refine ⟨Ext.chg hkeep_, ?_⟩
      replace bt := Own.take (s0 := w.heap.size) (M := [bg, ab, aa]) bt f6 jw
      have nu := bt.len; have nv := bt.max
      refine .r [17] <| .d fun ig ec => ?_
      replace ⟨h2, h4, h5, h6, h7, E, W, ay, ag, ah, bt, J⟩ := (se [cr, bg, ab, aa] ec).g12 h2 h4 h5 h6 h7 E W ay ag ah bt J
      replace ⟨C, O⟩ := (se [cr, bg, ab, aa] ec).g2 C O
      replace h2 := h2.outof
      replace h4 := h4.outof
      replace h5 := h5.outof
      replace h6 := h6.outof
      replace h7 := h7.outof
      have cP : Mv [cr, bg, ab, aa] [bg, cr, ab, aa] ig ig := Mv.less (all_cons (.tail _ (.head _)) (all_cons (.head _) (all_cons (.tail _ (.tail _ (.head _))) (all_cons (.tail _ (.tail _ (.tail _ (.head _)))) all_nil))))
      exact ⟨(hW, ia, ic, ie, bg, ls, cr, lu, lv), ⟨by kernel_rfl, by kernel_rfl, trivial⟩, ⟨C, (cov_ge0 jv), (cov_ge0 jy), jx, (RepS.mv ag cP), (RepS.mv ah cP), (Own.mv ay cP (Chg.refl nil _) (fun h => h)), (Own.mv bt cP (Chg.refl nil _) (fun h => h))⟩⟩
     refine .ns 1 3 [vI d.next] fun pL ed => ?_
     replace ⟨h2, h4, h5, h6, h7, E, W, ai, ag, ah, J, C⟩ := (se [aj, ab, aa] ed).g12 h2 h4 h5 h6 h7 E W ai ag ah J C
     replace O := (se [aj, ab, aa] ed).g1 O
     intro fq pM cd ee aX jz
     have jA := nb_new cd E.lt
     have jB := nb_new cd W.lt
     have jC := nb_new cd ai.lt
     have jD := gb_new cd J.size
     replace ⟨h2, h4, h5, h6, h7, E, W, ai, ag, ah, J, C⟩ := (se [aj, ab, aa] ee).g12 h2 h4 h5 h6 h7 E W ai ag ah J C
     replace O := (se [aj, ab, aa] ee).g1 O
     refine .go 8 <| GE.append (T := 24) (ty := 24) (args := [vS aj 0 0, .slice a2 d.list.length c2]) (by kernel_rfl) fun pN ef => ?_
     replace ⟨h2, h4, h5, h6, h7, E, W, ai, ag, ah, aX, J⟩ := (se [aj, ab, aa] ef).g12 h2 h4 h5 h6 h7 E W ai ag ah aX J
     replace ⟨C, O⟩ := (se [aj, ab, aa] ef).g2 C O
     obtain ⟨bV, lw, pO, gN, bu, aJ, cQ, jE⟩ := Own.appendF (P := Tryz.prog) (T := 24) (ty := 24) flat_int ai (by kernel_rfl) h2 (fun b h e => h.2 (e ▸ (.head _))) (by have := p0.nl; omega)
     refine ⟨_, _, gN, Chg.toS cQ (Cov.toS bN), ?_⟩
     have nz := nb_or aJ dV E.lt
     have nA := nb_or aJ dW W.lt
     have f7 := nb_or aJ (Nb.symm jC) aX.lt
     have nB := cov_or aJ dX J.size
     have jF := cov_or aJ dY C.size
     have jG := cov_or aJ bN O.size
     replace ⟨h2, h4, h5, h6, h7, E, W, ag, ah, aX, J, C⟩ := (sa [aj, ab, aa] cQ aJ).g12 h2 h4 h5 h6 h7 E W ag ah aX J C
     replace O := (sa [aj, ab, aa] cQ aJ).g1 O
     replace bu := bu.rn aj
     have nC := bu.len; have nD := bu.max
     refine .go 12 <| GE.append (T := 24) (ty := 24) (args := [vS bV (0 + d.list.length) lw, vS fq 1 1]) (by kernel_rfl) fun pP eg => ?_
     replace ⟨h2, h4, h5, h6, h7, E, W, bu, ag, ah, aX, J⟩ := (se [bV, ab, aa] eg).g12 h2 h4 h5 h6 h7 E W bu ag ah aX J
     replace ⟨C, O⟩ := (se [bV, ab, aa] eg).g2 C O
     have ft : nin (ge w.heap.size) [bV, ab, aa] fq ∧ fq ≠ bV := hap_mk jD (all_cons (Nb.symm f7) (all_cons jB (all_cons jA all_nil))) (Nb.symm f7)
     obtain ⟨bh, ly, pQ, gO, az, dt, eh, jH⟩ := bu.append1 (P := Tryz.prog) (T := 24) (ty := 24) (y := d.next) (by kernel_rfl) aX rfl ft (by have := p0.nl; omega)
     refine ⟨_, _, gO, Chg.toS eh (Cov.toS jG), ?_⟩
     have jI := cov_or dt jF C.size
     replace ⟨h2, h4, h5, h6, h7, E, W, ag, ah, J, C, O⟩ := (sa [bV, ab, aa] eh dt).g12 h2 h4 h5 h6 h7 E W ag ah J C O
     replace az := az.rn bV
     have nE := az.len; have nF := az.max
     refine .go 16 <| .cl (fun fu cR => c_impl_cloneNames s.idx.names (h4.ta.ext cR) (by have := p1.ix.g.len; omega) (by (intro n hn; have := (p1.ix.g.sz n hn).1; omega)) (w := fu) (F := all)) ?_
     intro fu cR
     replace ⟨h2, h4, h5, h6, h7, E, W, az, ag, ah, J, C⟩ := (se [bh, ab, aa] cR).g12 h2 h4 h5 h6 h7 E W az ag ah J C
     replace O := (se [bh, ab, aa] cR).g1 O
     rintro pR pS ⟨⟨cu, lz, lA, rfl, bv, ce⟩, cS⟩
     have f8 := al3 az.lt W.lt E.lt
     have jJ : Gb w.heap.size fu.heap.size := J.size
     have hkeep_ := cS
     have jK := nb_ge ce az.lt
     have jL : Cov nil bH cu := cov_ge ce C.size
     replace ⟨h2, h4, h5, h6, h7, E, W, az, ag, ah, J, C⟩ := (sz [bh, ab, aa] cS ce).g12 h2 h4 h5 h6 h7 E W az ag ah J C
     replace O := (sz [bh, ab, aa] cS ce).g1 O
     refine ⟨Ext.chg hkeep_, ?_⟩
     replace bv := Own.take (s0 := w.heap.size) (M := [bh, ab, aa]) bv f8 jJ
     have nG := bv.len; have nH := bv.max
     refine .r [17] <| .d fun ii ej => ?_
     replace ⟨h2, h4, h5, h6, h7, E, W, az, ag, ah, bv, J⟩ := (se [cu, bh, ab, aa] ej).g12 h2 h4 h5 h6 h7 E W az ag ah bv J
     replace ⟨C, O⟩ := (se [cu, bh, ab, aa] ej).g2 C O
     replace h2 := h2.outof
     replace h4 := h4.outof
     replace h5 := h5.outof
     replace h6 := h6.outof
     replace h7 := h7.outof
     have cT : Mv [cu, bh, ab, aa] [bh, cu, ab, aa] ii ii := Mv.less (all_cons (.tail _ (.head _)) (all_cons (.head _) (all_cons (.tail _ (.tail _ (.head _))) (all_cons (.tail _ (.tail _ (.tail _ (.head _)))) all_nil))))
     exact ⟨(hW, ia, ic, ie, bh, ly, cu, lz, lA), ⟨by kernel_rfl, by kernel_rfl, trivial⟩, ⟨C, (cov_ge0 jI), (cov_ge0 jL), jK, (RepS.mv ag cT), (RepS.mv ah cT), (Own.mv az cT (Chg.refl nil _) (fun h => h)), (Own.mv bv cT (Chg.refl nil _) (fun h => h))⟩⟩
    refine .ns 1 3 [vI d.next] fun pT f9 => ?_
    replace ⟨h2, h4, h5, h6, h7, E, W, ai, J, C, O⟩ := (se [aj, ab, aa] f9).g11 h2 h4 h5 h6 h7 E W ai J C O
    intro fv pU cg ga aF jM
    have jN := nb_new cg E.lt
    have jO := nb_new cg W.lt
    have jP := nb_new cg ai.lt
    have jQ := gb_new cg J.size
    replace ⟨h2, h4, h5, h6, h7, E, W, ai, J, C, O⟩ := (se [aj, ab, aa] ga).g11 h2 h4 h5 h6 h7 E W ai J C O
    refine .go 3 <| .cl (fun fw bP => c_impl_Store_flushed s (h4.ta.ext bP) (h5.ta.ext bP) (h6.ta.ext bP) (h7.ta.ext bP) (StoK.of (fits_stok p1 ‹_›) (fits_of ‹_›).sk).row (StoK.of (fits_stok p1 ‹_›) (fits_of ‹_›).sk).stoI.mem6 (by have := p1.nm2; omega) (w := fw) (F := all)) ?_
    intro fw bP
    replace ⟨h2, h4, h5, h6, h7, E, W, ai, aF, J, C, O⟩ := (se [aj, ab, aa] bP).g12 h2 h4 h5 h6 h7 E W ai aF J C O
    rintro pV pW ⟨⟨_, rfl, ⟨lB, pX, lC, lD, pY, lE, rfl, am, ao⟩⟩, ek⟩
    have en := al3 ai.lt W.lt E.lt
    have gb : Gb w.heap.size fw.heap.size := J.size
    have hkeep_ := ek
    replace ⟨h2, h4, h5, h6, h7, E, W, ai, aF, J, C, O⟩ := (se [aj, ab, aa] ek).g12 h2 h4 h5 h6 h7 E W ai aF J C O
    refine ⟨Ext.chg hkeep_, ?_⟩
    have am := am.fr en gb
    have nI := am.max
    have ao := ao.fr en gb
    have nJ := ao.max
    have jR := am.len
    subst jR
    have jS := ao.len
    subst jS
    refine .r [4] <| .go 8 <| GE.append (T := 24) (ty := 24) (args := [vS aj 0 0, .slice a2 d.list.length c2]) (by kernel_rfl) fun pZ et => ?_
    replace ⟨h2, h4, h5, h6, h7, E, W, ai, aF, am, ao, J⟩ := (se [aj, ab, aa] et).g12 h2 h4 h5 h6 h7 E W ai aF am ao J
    replace ⟨C, O⟩ := (se [aj, ab, aa] et).g2 C O
    obtain ⟨bW, lF, p2, gP, bw, aK, cU, jT⟩ := Own.appendF (P := Tryz.prog) (T := 24) (ty := 24) flat_int ai (by kernel_rfl) h2 (fun b h e => h.2 (e ▸ (.head _))) (by have := p0.nl; omega)
    refine ⟨_, _, gP, Chg.toS cU (Cov.toS bN), ?_⟩
    have nK := nb_or aK dV E.lt
    have nL := nb_or aK dW W.lt
    have gf := nb_or aK (Nb.symm jP) aF.lt
    have nM := cov_or aK dX J.size
    have jU := cov_or aK dY C.size
    have jV := cov_or aK bN O.size
    replace ⟨h2, h4, h5, h6, h7, E, W, aF, am, ao, J, C⟩ := (sa [aj, ab, aa] cU aK).g12 h2 h4 h5 h6 h7 E W aF am ao J C
    replace O := (sa [aj, ab, aa] cU aK).g1 O
    replace bw := bw.rn aj
    have nN := bw.len; have nO := bw.max
    refine .go 12 <| GE.append (T := 24) (ty := 24) (args := [vS bW (0 + d.list.length) lF, vS fv 1 1]) (by kernel_rfl) fun p3 ey => ?_
    replace ⟨h2, h4, h5, h6, h7, E, W, bw, aF, am, ao, J⟩ := (se [bW, ab, aa] ey).g12 h2 h4 h5 h6 h7 E W bw aF am ao J
    replace ⟨C, O⟩ := (se [bW, ab, aa] ey).g2 C O
    have fz : nin (ge w.heap.size) [bW, ab, aa] fv ∧ fv ≠ bW := hap_mk jQ (all_cons (Nb.symm gf) (all_cons jO (all_cons jN all_nil))) (Nb.symm gf)
    obtain ⟨bi, lG, p4, gQ, aA, du, ez, jW⟩ := bw.append1 (P := Tryz.prog) (T := 24) (ty := 24) (y := d.next) (by kernel_rfl) aF rfl fz (by have := p0.nl; omega)
    refine ⟨_, _, gQ, Chg.toS ez (Cov.toS jV), ?_⟩
    have jX := cov_or du jU C.size
    replace ⟨h2, h4, h5, h6, h7, E, W, am, ao, J, C, O⟩ := (sa [bW, ab, aa] ez du).g12 h2 h4 h5 h6 h7 E W am ao J C O
    replace aA := aA.rn bW
    have nP := aA.len; have nQ := aA.max
    refine .go 16 <| .cl (fun fA cV => c_impl_cloneNames s.idx.names (h4.ta.ext cV) (by have := p1.ix.g.len; omega) (by (intro n hn; have := (p1.ix.g.sz n hn).1; omega)) (w := fA) (F := all)) ?_
    intro fA cV
    replace ⟨h2, h4, h5, h6, h7, E, W, aA, am, ao, J, C⟩ := (se [bi, ab, aa] cV).g12 h2 h4 h5 h6 h7 E W aA am ao J C
    replace O := (se [bi, ab, aa] cV).g1 O
    rintro p5 p6 ⟨⟨cv, lH, lI, rfl, bz, ci⟩, cW⟩
    have gh := al3 aA.lt W.lt E.lt
    have jY : Gb w.heap.size fA.heap.size := J.size
    have hkeep_ := cW
    have jZ := nb_ge ci aA.lt
    have j0 : Cov nil bH cv := cov_ge ci C.size
    replace ⟨h2, h4, h5, h6, h7, E, W, aA, am, ao, J, C⟩ := (sz [bi, ab, aa] cW ci).g12 h2 h4 h5 h6 h7 E W aA am ao J C
    replace O := (sz [bi, ab, aa] cW ci).g1 O
    refine ⟨Ext.chg hkeep_, ?_⟩
    replace bz := Own.take (s0 := w.heap.size) (M := [bi, ab, aa]) bz gh jY
    have nR := bz.len; have nT := bz.max
    refine .r [17] <| .d fun ij eA => ?_
    replace ⟨h2, h4, h5, h6, h7, E, W, aA, am, ao, bz, J⟩ := (se [cv, bi, ab, aa] eA).g12 h2 h4 h5 h6 h7 E W aA am ao bz J
    replace ⟨C, O⟩ := (se [cv, bi, ab, aa] eA).g2 C O
    replace h2 := h2.outof
    replace h4 := h4.outof
    replace h5 := h5.outof
    replace h6 := h6.outof
    replace h7 := h7.outof
    have cX : Mv [cv, bi, ab, aa] [bi, cv, ab, aa] ij ij := Mv.less (all_cons (.tail _ (.head _)) (all_cons (.head _) (all_cons (.tail _ (.tail _ (.head _))) (all_cons (.tail _ (.tail _ (.tail _ (.head _)))) all_nil))))
    exact ⟨(lB, lC, lD, lE, bi, lG, cv, lH, lI), ⟨by kernel_rfl, by kernel_rfl, trivial⟩, ⟨C, (cov_ge0 jX), (cov_ge0 j0), jZ, (RepS.mv am cX), (RepS.mv ao cX), (Own.mv aA cX (Chg.refl nil _) (fun h => h)), (Own.mv bz cX (Chg.refl nil _) (fun h => h))⟩⟩
   refine .ns 1 3 [vI d.next] fun p7 gi => ?_
   replace ⟨h2, h4, h5, h6, h7, E, W, J, C, O⟩ := (se [ab, aa] gi).g10 h2 h4 h5 h6 h7 E W J C O
   intro cw p8 cY gj ac j1
   have gk := nb_new cY E.lt
   have gl := nb_new cY W.lt
   have gm := gb_new cY J.size
   replace ⟨h2, h4, h5, h6, h7, E, W, J, C, O⟩ := (se [ab, aa] gj).g10 h2 h4 h5 h6 h7 E W J C O
   refine .tw 3 5 ?_ ?_
   ·refine .cl (fun fB bQ => c_impl_Store_flushed s (h4.ta.ext bQ) (h5.ta.ext bQ) (h6.ta.ext bQ) (h7.ta.ext bQ) (StoK.of (fits_stok p1 ‹_›) (fits_of ‹_›).sk).row (StoK.of (fits_stok p1 ‹_›) (fits_of ‹_›).sk).stoI.mem6 (by have := p1.nm2; omega) (w := fB) (F := all)) ?_
    intro fB bQ
    replace ⟨h2, h4, h5, h6, h7, E, W, ac, J, C, O⟩ := (se [ab, aa] bQ).g11 h2 h4 h5 h6 h7 E W ac J C O
    rintro p9 qa ⟨⟨_, rfl, ⟨lJ, qb, lK, lL, qc, lM, rfl, ak, al⟩⟩, eB⟩
    have eC := al2 W.lt E.lt
    have gn : Gb w.heap.size fB.heap.size := J.size
    have hkeep_ := eB
    replace ⟨h2, h4, h5, h6, h7, E, W, ac, J, C, O⟩ := (se [ab, aa] eB).g11 h2 h4 h5 h6 h7 E W ac J C O
    refine ⟨Ext.chg hkeep_, ?_⟩
    have ak := ak.fr eC gn
    have nU := ak.max
    have al := al.fr eC gn
    have nV := al.max
    have j2 := ak.len
    subst j2
    have j3 := al.len
    subst j3
    refine .r [4] <| .go 5 <| .ns 0 3 [] fun qd eD => ?_
    replace ⟨h2, h4, h5, h6, h7, E, W, ac, ak, al, J, C⟩ := (se [ab, aa] eD).g12 h2 h4 h5 h6 h7 E W ac ak al J C
    replace O := (se [ab, aa] eD).g1 O
    intro bJ lN aP eE j4 j5
    have j6 := nb_new aP E.lt
    have j7 := nb_new aP W.lt
    have j8 := nb_new aP ac.lt
    have j9 := J.cn aP
    have ka := C.cn aP
    have gp := O.cn aP
    replace ⟨h2, h4, h5, h6, h7, E, W, ac, ak, al, J, C⟩ := (sn [ab, aa] eE aP).g12 h2 h4 h5 h6 h7 E W ac ak al J C
    replace O := (sn [ab, aa] eE aP).g1 O
    have eF : Own (α := Int) lN bJ 3 (nin (ge w.heap.size) [bJ, ab, aa]) 0 0 [] := Own.nil' j4
    refine .go 8 <| GE.append (T := 24) (ty := 24) (args := [vS bJ 0 0, .slice a2 d.list.length c2]) (by kernel_rfl) fun qe eG => ?_
    replace ⟨h2, h4, h5, h6, h7, E, W, ac, ak, al, eF, J⟩ := (se [bJ, ab, aa] eG).g12 h2 h4 h5 h6 h7 E W ac ak al eF J
    replace ⟨C, O⟩ := (se [bJ, ab, aa] eG).g2 C O
    obtain ⟨bK, lO, qf, gR, bA, aL, cZ, kb⟩ := Own.appendF (P := Tryz.prog) (T := 24) (ty := 24) flat_int eF (by kernel_rfl) h2 (fun b h e => h.2 (e ▸ (.head _))) (by have := p0.nl; omega)
    refine ⟨_, _, gR, Chg.toS cZ (Cov.toS gp), ?_⟩
    have nW := nb_or aL j6 E.lt
    have nX := nb_or aL j7 W.lt
    have gq := nb_or aL j8 ac.lt
    have nY := cov_or aL j9 J.size
    have kd := cov_or aL ka C.size
    have ke := cov_or aL gp O.size
    replace ⟨h2, h4, h5, h6, h7, E, W, ac, ak, al, J, C⟩ := (sa [bJ, ab, aa] cZ aL).g12 h2 h4 h5 h6 h7 E W ac ak al J C
    replace O := (sa [bJ, ab, aa] cZ aL).g1 O
    replace bA := bA.rn bJ
    have nZ := bA.len; have n8 := bA.max
    refine .go 12 <| GE.append (T := 24) (ty := 24) (args := [vS bK (0 + d.list.length) lO, vS cw 1 1]) (by kernel_rfl) fun qg eH => ?_
    replace ⟨h2, h4, h5, h6, h7, E, W, ac, ak, al, bA, J⟩ := (se [bK, ab, aa] eH).g12 h2 h4 h5 h6 h7 E W ac ak al bA J
    replace ⟨C, O⟩ := (se [bK, ab, aa] eH).g2 C O
    have fC : nin (ge w.heap.size) [bK, ab, aa] cw ∧ cw ≠ bK := hap_mk gm (all_cons (Nb.symm gq) (all_cons gl (all_cons gk all_nil))) (Nb.symm gq)
    obtain ⟨bj, lP, qh, gS, aB, cj, c8, kf⟩ := bA.append1 (P := Tryz.prog) (T := 24) (ty := 24) (y := d.next) (by kernel_rfl) ac rfl fC (by have := p0.nl; omega)
    refine ⟨_, _, gS, Chg.toS c8 (Cov.toS ke), ?_⟩
    have kg := cov_or cj kd C.size
    replace ⟨h2, h4, h5, h6, h7, E, W, ac, ak, al, J, C⟩ := (sa [bK, ab, aa] c8 cj).g12 h2 h4 h5 h6 h7 E W ac ak al J C
    replace O := (sa [bK, ab, aa] c8 cj).g1 O
    replace aB := aB.rn bK
    have n9 := aB.len; have oa := aB.max
    refine .go 16 <| .cl (fun fD c9 => c_impl_cloneNames s.idx.names (h4.ta.ext c9) (by have := p1.ix.g.len; omega) (by (intro n hn; have := (p1.ix.g.sz n hn).1; omega)) (w := fD) (F := all)) ?_
    intro fD c9
    replace ⟨h2, h4, h5, h6, h7, E, W, ac, ak, al, aB, J⟩ := (se [bj, ab, aa] c9).g12 h2 h4 h5 h6 h7 E W ac ak al aB J
    replace ⟨C, O⟩ := (se [bj, ab, aa] c9).g2 C O
    rintro qi qj ⟨⟨cx, lQ, lR, rfl, bB, ck⟩, da⟩
    have gr := al3 aB.lt W.lt E.lt
    have kh : Gb w.heap.size fD.heap.size := J.size
    have hkeep_ := da
    have ki := nb_ge ck aB.lt
    have kj : Cov nil bH cx := cov_ge ck C.size
    replace ⟨h2, h4, h5, h6, h7, E, W, ac, ak, al, aB, J⟩ := (sz [bj, ab, aa] da ck).g12 h2 h4 h5 h6 h7 E W ac ak al aB J
    replace ⟨C, O⟩ := (sz [bj, ab, aa] da ck).g2 C O
    refine ⟨Ext.chg hkeep_, ?_⟩
    replace bB := Own.take (s0 := w.heap.size) (M := [bj, ab, aa]) bB gr kh
    have oc := bB.len; have od := bB.max
    refine .r [17] <| .d fun ik eI => ?_
    replace ⟨h2, h4, h5, h6, h7, E, W, ac, ak, al, aB, bB⟩ := (se [cx, bj, ab, aa] eI).g12 h2 h4 h5 h6 h7 E W ac ak al aB bB
    replace ⟨J, C, O⟩ := (se [cx, bj, ab, aa] eI).g3 J C O
    replace h2 := h2.outof
    replace h4 := h4.outof
    replace h5 := h5.outof
    replace h6 := h6.outof
    replace h7 := h7.outof
    have db : Mv [cx, bj, ab, aa] [bj, cx, ab, aa] ik ik := Mv.less (all_cons (.tail _ (.head _)) (all_cons (.head _) (all_cons (.tail _ (.tail _ (.head _))) (all_cons (.tail _ (.tail _ (.tail _ (.head _)))) all_nil))))
    exact ⟨(lJ, lK, lL, lM, bj, lP, cx, lQ, lR), ⟨by kernel_rfl, by kernel_rfl, trivial⟩, ⟨C, (cov_ge0 kg), (cov_ge0 kj), ki, (RepS.mv ak db), (RepS.mv al db), (Own.mv aB db (Chg.refl nil _) (fun h => h)), (Own.mv bB db (Chg.refl nil _) (fun h => h))⟩⟩
   refine .ns 0 3 [] fun qk gs => ?_
   replace ⟨h2, h4, h5, h6, h7, E, W, ac, J, C, O⟩ := (se [ab, aa] gs).g11 h2 h4 h5 h6 h7 E W ac J C O
   intro bL lS aY gt kk kl
   have km := nb_new aY E.lt
   have ko := nb_new aY W.lt
   have kr := nb_new aY ac.lt
   have ks := J.cn aY
   have kt := C.cn aY
   have gu := O.cn aY
   replace ⟨h2, h4, h5, h6, h7, E, W, ac, J, C, O⟩ := (sn [ab, aa] gt aY).g11 h2 h4 h5 h6 h7 E W ac J C O
   have aZ : Own (α := Int) lS bL 3 (nin (ge w.heap.size) [bL, ab, aa]) 0 0 [] := Own.nil' kk
   refine .go 3 <| .cl (fun fE bR => c_impl_Store_flushed s (h4.ta.ext bR) (h5.ta.ext bR) (h6.ta.ext bR) (h7.ta.ext bR) (StoK.of (fits_stok p1 ‹_›) (fits_of ‹_›).sk).row (StoK.of (fits_stok p1 ‹_›) (fits_of ‹_›).sk).stoI.mem6 (by have := p1.nm2; omega) (w := fE) (F := all)) ?_
   intro fE bR
   replace ⟨h2, h4, E, W, ac, aZ, J, C, O⟩ := (se [bL, ab, aa] bR).g9 h2 h4 E W ac aZ J C O
   rintro ql qm ⟨⟨_, rfl, ⟨lT, qn, lU, lV, qo, lW, rfl, aq, ar⟩⟩, eJ⟩
   have eK := al3 aZ.lt W.lt E.lt
   have gv : Gb w.heap.size fE.heap.size := J.size
   have hkeep_ := eJ
   replace ⟨h2, h4, E, W, ac, aZ, J, C, O⟩ := (se [bL, ab, aa] eJ).g9 h2 h4 E W ac aZ J C O
   refine ⟨Ext.chg hkeep_, ?_⟩
   have aq := aq.fr eK gv
   have oe := aq.max
   have ar := ar.fr eK gv
   have og := ar.max
   have ku := aq.len
   subst ku
   have kv := ar.len
   subst kv
   refine .r [4] <| .go 8 <| GE.append (T := 24) (ty := 24) (args := [vS bL 0 0, .slice a2 d.list.length c2]) (by kernel_rfl) fun qp gw => ?_
   replace ⟨h2, h4, E, W, ac, aZ, aq, ar, J, C, O⟩ := (se [bL, ab, aa] gw).g11 h2 h4 E W ac aZ aq ar J C O
   obtain ⟨cy, lX, qq, gT, bC, aN, eL, kw⟩ := Own.appendF (P := Tryz.prog) (T := 24) (ty := 24) flat_int aZ (by kernel_rfl) h2 (fun b h e => h.2 (e ▸ (.head _))) (by have := p0.nl; omega)
   refine ⟨_, _, gT, Chg.toS eL (Cov.toS gu), ?_⟩
   have oh := nb_or aN km E.lt
   have ol := nb_or aN ko W.lt
   have gx := nb_or aN kr ac.lt
   have om := cov_or aN ks J.size
   have kx := cov_or aN kt C.size
   have ky := cov_or aN gu O.size
   replace ⟨h4, E, W, ac, aq, ar, J, C⟩ := (sa [bL, ab, aa] eL aN).g8 h4 E W ac aq ar J C
   replace bC := bC.rn bL
   have oo := bC.len; have oq := bC.max
   refine .go 12 <| GE.append (T := 24) (ty := 24) (args := [vS cy (0 + d.list.length) lX, vS cw 1 1]) (by kernel_rfl) fun qr gy => ?_
   replace ⟨h4, E, W, ac, bC, aq, ar, J, C⟩ := (se [cy, ab, aa] gy).g9 h4 E W ac bC aq ar J C
   have fF : nin (ge w.heap.size) [cy, ab, aa] cw ∧ cw ≠ cy := hap_mk gm (all_cons (Nb.symm gx) (all_cons gl (all_cons gk all_nil))) (Nb.symm gx)
   obtain ⟨bX, lY, qs, gU, aC, dv, eM, kz⟩ := bC.append1 (P := Tryz.prog) (T := 24) (ty := 24) (y := d.next) (by kernel_rfl) ac rfl fF (by have := p0.nl; omega)
   refine ⟨_, _, gU, Chg.toS eM (Cov.toS ky), ?_⟩
   have kA := cov_or dv kx C.size
   replace ⟨h4, E, W, aq, ar, J, C⟩ := (sa [cy, ab, aa] eM dv).g7 h4 E W aq ar J C
   replace aC := aC.rn cy
   have ou := aC.len; have ov := aC.max
   refine .go 16 <| .cl (fun fG eN => c_impl_cloneNames s.idx.names (h4.ta.ext eN) (by have := p1.ix.g.len; omega) (by (intro n hn; have := (p1.ix.g.sz n hn).1; omega)) (w := fG) (F := all)) ?_
   intro fG eN
   replace ⟨E, W, aC, aq, ar, J, C⟩ := (se [bX, ab, aa] eN).g7 E W aC aq ar J C
   rintro qt qu ⟨⟨dw, lZ, l0, rfl, bD, de⟩, eO⟩
   have gz := al3 aC.lt W.lt E.lt
   have kB : Gb w.heap.size fG.heap.size := J.size
   have hkeep_ := eO
   have kC := nb_ge de aC.lt
   have kD : Cov nil bH dw := cov_ge de C.size
   replace ⟨E, W, aC, aq, ar, J, C⟩ := (sz [bX, ab, aa] eO de).g7 E W aC aq ar J C
   refine ⟨Ext.chg hkeep_, ?_⟩
   replace bD := Own.take (s0 := w.heap.size) (M := [bX, ab, aa]) bD gz kB
   have ow := bD.len; have oz := bD.max
   refine .r [17] <| .d fun il gA => ?_
   replace ⟨E, W, aC, aq, ar, bD, J, C⟩ := (se [dw, bX, ab, aa] gA).g8 E W aC aq ar bD J C
   have df : Mv [dw, bX, ab, aa] [bX, dw, ab, aa] il il := Mv.less (all_cons (.tail _ (.head _)) (all_cons (.head _) (all_cons (.tail _ (.tail _ (.head _))) (all_cons (.tail _ (.tail _ (.tail _ (.head _)))) all_nil))))
   exact ⟨(lT, lU, lV, lW, bX, lY, dw, lZ, l0), ⟨by kernel_rfl, by kernel_rfl, trivial⟩, ⟨C, (cov_ge0 kA), (cov_ge0 kD), kC, (RepS.mv aq df), (RepS.mv ar df), (Own.mv aC df (Chg.refl nil _) (fun h => h)), (Own.mv bD df (Chg.refl nil _) (fun h => h))⟩⟩
  rintro ⟨eS, eT, eU, eV, aV, eW, aQ, eX, eY⟩ qv dy ⟨gC, dg, dh, oA, bE, bF, cz, bM⟩
  have oB := nb_ge dg E.lt
  have oC := nb_ge dg W.lt
  have kE := gb_ge dg J.size
  have oD := nb_ge dh E.lt
  have oE := nb_ge dh W.lt
  have kF := gb_ge dh J.size
  replace ⟨E, W, J⟩ := (se [] gC).g3 E W J
  have oF := bE.len; have oG := bE.max
  have oH := bF.len; have oI := bF.max
  have oJ := cz.len; have oK := cz.max
  have oL := bM.len; have oM := bM.max
  refine .ns 2 44 [vI 1, vI d.next, .slice eS (((memPart s.mem).ids).length) eT, .slice eU (((memPart s.mem).blocks).length) eV, .slice none 0 0, .slice none 0 0, vI 2, vI 0, .slice none 0 0, .slice none 0 0, vS aV (0 + d.list.length + 1) eW, vS aQ eX eY] fun dx fH bG gD kG kH => ?_
  have oN := nb_new bG E.lt
  have oO := nb_new bG W.lt
  have oP := nb_new bG cz.lt
  have oQ := nb_new bG bM.lt
  have kI := gb_new bG J.size
  replace ⟨E, W, bE, bF, cz, bM, J⟩ := (sn [aV, aQ, ab, aa] gD bG).g7 E W bE bF cz bM J
  have fI := cz.sl kE
  replace ⟨bE, bF, bM⟩ := (sd fH [dx, aV, aQ, ab, aa] aV).g3 bE bF bM
  have l3 := bM.sl kF
  replace ⟨bE, bF, fI⟩ := (sd fH [dx, aQ, ab, aa] aQ).g3 bE bF fI
  have kJ : Own (α := Stp) fH dx 44 (nin (ge w.heap.size) [dx, ab, aa]) 2 2 [(⟨1, d.next, (⟨(memPart s.mem).ids, (memPart s.mem).blocks⟩ : Prt), ([] : List Int), ([] : List (List Tag))⟩ : Stp), (⟨2, 0, (⟨([] : List Int), ([] : List (List Row))⟩ : Prt), (([] ++ d.list) ++ [d.next]), s.idx.names⟩ : Stp)] := Own.lit kG rfl (by decide) ⟨⟨_, _, _, _, _, _, _, _, _, _, _, _, rfl, bE.oi, bF.oi, (RepS.nil' _ _ none 0 (by decide)), (RepS.nil' _ _ none 0 (by decide))⟩, ⟨_, _, _, _, _, _, _, _, _, _, _, _, rfl, (RepS.nil' _ _ none 0 (by decide)), (RepS.nil' _ _ none 0 (by decide)), fI.oi, l3.oi⟩, rfl⟩
  refine .r 1 <| .d ?_
  have l4 := kJ.sl kI
  exact .rt Tryz.func16 Tryz.results16 (vS dx 2 2) ⟨(l4.vl (by exact sf_3 ‹_› ‹_› ‹_› ‹_› p0) (fun _ _ h => h.1)), J⟩
 refine .r 1 <| .d <| .ct <| .s <| .g <| .ns 0 44 [] fun fJ l6 dj gE kK kL => ?_
 have oR := nb_new dj E.lt
 have oS := nb_new dj W.lt
 have kM := gb_new dj J.size
 replace J := (se [] gE).g1 J
 have kN : Own (α := Stp) l6 fJ 44 (nin (ge w.heap.size) [fJ, ab, aa]) 0 0 [] := Own.nil' kK
 refine .r 1 <| .d ?_
 have l7 := kN.sl kM
 exact .rt Tryz.func16 Tryz.results16 (vS fJ 0 0) ⟨(l7.vl (by exact sf_2 (.inr (.inr ‹_›))) (fun _ _ h => h.1)), J⟩
end Go.Proofs.YtganlmloonielaaGreat
namespace Go.Proofs.YtganlmloonielaaGreat
theorem dr_eq {α : Type} [BEq α] [LawfulBEq α] {a b : List α} {k : Nat} {x y : α} (h : a.drop k = b.drop k ↔ a = b) (ha : a.drop k = x :: a.drop (k + 1)) (hb : b.drop k = y :: b.drop (k + 1)) (e : (x == y) = true) : a.drop (k + 1) = b.drop (k + 1) ↔ a = b := by
 rw [← h, ha, hb, eq_of_beq e]
 simp
theorem dr_no {α : Type} [BEq α] [LawfulBEq α] {a b : List α} {k : Nat} {x y : α} (h : a.drop k = b.drop k ↔ a = b) (ha : a.drop k = x :: a.drop (k + 1)) (hb : b.drop k = y :: b.drop (k + 1)) (e : (x == y) = false) : a ≠ b := fun e2 => by
 have := h.2 e2
 rw [ha, hb, List.cons.injEq] at this
 exact beq_eq_false_iff_ne.1 e this.1
theorem st_len {a b : List Stp} (h : (a.length : Int) ≠ b.length) : false = (a == b) := (beq_eq_false_iff_ne.2 (fun e => h (by rw [e]))).symm
theorem st_yes {a b : List Stp} {k : Nat} (h : a.drop k = b.drop k ↔ a = b) (ha : a.length ≤ k) (hl : (a.length : Int) = b.length) : true = (a == b) := by
 symm
 rw [beq_iff_eq, ← h, drop_end ha, drop_end (by omega)]
theorem st_no {a b : List Stp} {k : Nat} {x y : Stp} (h : a.drop k = b.drop k ↔ a = b) (ha : a.drop k = x :: a.drop (k + 1)) (hb : b.drop k = y :: b.drop (k + 1)) (e : x ≠ y) : false = (a == b) := by
 symm
 rw [beq_eq_false_iff_ne]
 intro e2
 have := h.2 e2
 rw [ha, hb, List.cons.injEq] at this
 exact e this.1
theorem st_eq {a b : List Stp} {k k1 : Nat} {x y : Stp} (h : a.drop k = b.drop k ↔ a = b) (ha : a.drop k = x :: a.drop (k + 1)) (hb : b.drop k = y :: b.drop (k + 1)) (h1 : x.kind = y.kind) (h2 : x.num = y.num) (h3 : (x.part == y.part) = true) (h4 : (x.list == y.list) = true) (h5 : (x.names.length : Int) = y.names.length) (h6 : x.names.drop k1 = y.names.drop k1 ↔ x.names = y.names) (hk : x.names.length ≤ k1) : a.drop (k + 1) = b.drop (k + 1) ↔ a = b := by
 have e : x = y := by
  have e5 := h6.1 (by rw [drop_end hk, drop_end (by omega)])
  have e3 := eq_of_beq h3
  have e4 := eq_of_beq h4
  cases x
  cases y
  simp_all
 rw [← h, ha, hb, e]
 simp
end Go.Proofs.YtganlmloonielaaGreat
namespace Go.Proofs.YtganlmloonielaaGreat
set_option maxRecDepth 100000
set_option maxHeartbeats 4000000
theorem c_laws_lySteps (a : List Stp) (b : List Stp) {w : World} {F : Nat → Prop} {a1 : Option Addr} {n1 c1 : Nat} (h1 : RepS w F a1 n1 c1 a) {a2 : Option Addr} {n2 c2 : Nat} (h2 : RepS w F a2 n2 c2 b)  : Calls Tryz.prog 17 [.slice a1 n1 c1, .slice a2 n2 c2].toArray w (rets fun rv w' => rv = .bool ((a == b)) ∧ Ext w w') := by
 refine goT Tryz.func17 ?_
 obtain ⟨rfl, cJ, h1⟩ := h1.tp
 obtain ⟨rfl, cK, h2⟩ := h2.tp
 refine .s <| .g <| .r 1 <| .d <| .s <| .s <| .g <| .r 4 <| .ne (a.length : Int) (b.length : Int) (fun bT => .d <| .ct <| .s <| .g <| .r 1 <| .d <| .rt Tryz.func17 Tryz.results17 (.bool false) ⟨(congrArg Value.bool (by exact st_len (by omega))), (Chg.refl _ _)⟩) fun bT => .d <| .cf <| .sk <| .s <| .s <| .g <| .r 1 <| .d <| .b 0 <| T.loop (X := Nat) 0 (fun k => [(0, .slice a1 a.length c1), (1, .slice a2 b.length c2), (5, vI (k : Int))]) (fun k aM => Chg (ins []) w aM ∧ (k ≤ a.length) ∧ (a.drop k = b.drop k ↔ a = b)) (fun k => a.length - k) (by kernel_rfl) ⟨by kernel_rfl, by kernel_rfl, by kernel_rfl, trivial⟩ ⟨Chg.refl _ _, (by omega), (by exact Iff.rfl)⟩ ?_
 rintro k eg aM ⟨E, cL, cM⟩ aw
 have aN : Mv [] [] w aM := Mv.inl E all_nil all_nil
 replace ⟨h1, h2⟩ := (sp aN E).g2 h1 h2
 have C : Chg nil w aM := Chg.stepI (Chg.refl nil w) E all_nil
 refine .s <| .s <| .g <| .r 3 <| .bp ((k : Int) < (a.length : Int)) (fun bU => ?_) (fun bU => .d <| .cf <| .x 0 rfl <| .s <| .g <| .r 1 <| .d <| .rt Tryz.func17 Tryz.results17 (.bool true) ⟨(congrArg Value.bool (by exact st_yes ‹_› (by omega) (by omega))), C⟩)
 refine .d <| .ct <| .sk <| .s <| .b 1 <| .s <| .s <| .gd nil 65 fun eh aO => ?_
 replace ⟨h1, h2, C, E⟩ := (se [] aO).g4 h1 h2 C E
 refine .r [0, 1] ?_
 have bV : k < a.length := (by omega)
 refine .ix 2 k 6 h1 bV <| .r [3] ?_
 obtain ⟨W, al⟩ : ∃ y, a[k]? = some y := ⟨_, List.getElem?_eq_getElem (by omega)⟩
 have cN := drop_at al; have co := List.mem_of_getElem? al
 obtain ⟨_, ⟨ej, ek, en, cO, cP, cQ, cR, cS, cT, cU, cV, cW, rfl, ac, ae, aa, aP⟩, am⟩ := h1.elem k W al
 have aS := ac.len
 subst aS
 have cp := ac.max
 have aT := ae.len
 subst aT
 have cq := ae.max
 have aU := aa.len
 subst aU
 have cr := aa.max
 have aV := aP.len
 subst aV
 have cu := aP.max
 refine .lh 4 0 am id <| .r [5, 6] ?_
 have aW : k < b.length := (by omega)
 refine .ix 7 k 6 h2 aW <| .r [8] ?_
 obtain ⟨J, ai⟩ : ∃ y, b[k]? = some y := ⟨_, List.getElem?_eq_getElem (by omega)⟩
 have cv := drop_at ai; have bW := List.mem_of_getElem? ai
 obtain ⟨_, ⟨cX, cY, cZ, c7, c8, c9, da, db, de, df, dg, dh, rfl, af, ag, ab, aQ⟩, ah⟩ := h2.elem k J ai
 have aX := af.len
 subst aX
 have cw := af.max
 have aY := ag.len
 subst aY
 have cx := ag.max
 have aZ := ab.len
 subst aZ
 have cy := ab.max
 have ba := aQ.len
 subst ba
 have cz := aQ.max
 refine .lh 9 0 ah id <| GA.neI (i := 10) (a := W.kind) (b := J.kind) (by kernel_rfl) (fun bc => ?_) (fun bc => ?_)
 ·refine .r [11, 12, 13, 14, 15, 16, 17, 18, 19, 20, 21, 22, 23, 24, 25, 26, 27, 28, 29, 30, 31, 32, 33, 34, 35, 36, 37, 38, 39, 40, 41, 42, 43, 44, 45, 46, 47, 48, 49, 50, 51, 52] <| GA.skip (by kernel_rfl) fun dj ax => ?_
  replace ⟨h1, h2, ac, ae, aa, af, ag, ab, C, E⟩ := (se [] ax).g10 h1 h2 ac ae aa af ag ab C E
  exact .r 2 <| .d <| .ct <| .s <| .g <| .r 1 <| .d <| .rt Tryz.func17 Tryz.results17 (.bool false) ⟨(congrArg Value.bool (by exact st_no ‹_› ‹_› ‹_› (by intro e; exact absurd (congrArg Stp.kind e) ‹_›))), C⟩
 refine .r [11, 12, 13] ?_
 have bd : k < a.length := (by omega)
 refine .ix 14 k 6 h1 bd <| .r [15] <| .lh 16 1 am id <| .r [17, 18] ?_
 have bg : k < b.length := (by omega)
 refine .ix 19 k 6 h2 bg <| .r [20] <| .lh 21 1 ah id <| GA.neI (i := 22) (a := W.num) (b := J.num) (by kernel_rfl) (fun bh => ?_) (fun bh => ?_)
 ·refine .r [23, 24, 25, 26, 27, 28, 29, 30, 31, 32, 33, 34, 35, 36, 37, 38, 39, 40, 41, 42, 43, 44, 45, 46, 47, 48, 49, 50, 51, 52] <| GA.skip (by kernel_rfl) fun dm ay => ?_
  replace ⟨h1, h2, ac, ae, aa, af, ag, ab, C, E⟩ := (se [] ay).g10 h1 h2 ac ae aa af ag ab C E
  exact .r 2 <| .d <| .ct <| .s <| .g <| .r 1 <| .d <| .rt Tryz.func17 Tryz.results17 (.bool false) ⟨(congrArg Value.bool (by exact st_no ‹_› ‹_› ‹_› (by intro e; exact absurd (congrArg Stp.num e) ‹_›))), C⟩
 refine .r [23, 24, 25, 26] ?_
 have bi : k < a.length := (by omega)
 refine .ix 27 k 6 h1 bi <| .r [28] <| .lg 29 2 am id <| .r [30, 31] ?_
 have bj : k < b.length := (by omega)
 refine .ix 32 k 6 h2 bj <| .r [33] <| .lg 34 2 ah id <| GA.call1 (i := 35) (by kernel_rfl) (fun bX aj => c_laws_lyPart W.part J.part (ac.ta.ext aj) (ae.ta.ext aj) (af.ta.ext aj) (ag.ta.ext aj) (w := bX) (F := all)) ?_
 cases cA : (W.part == J.part)
 ·refine .r [36, 37, 38, 39, 40, 41, 42, 43, 44, 45, 46, 47, 48, 49, 50, 51, 52] <| GA.skip (by kernel_rfl) fun dp az => ?_
  replace ⟨h1, h2, aa, ab, C, E⟩ := (se [] az).g6 h1 h2 aa ab C E
  exact .r 2 <| .d <| .ct <| .s <| .g <| .r 1 <| .d <| .rt Tryz.func17 Tryz.results17 (.bool false) ⟨(congrArg Value.bool (by exact st_no ‹_› ‹_› ‹_› (by intro e; exact absurd (congrArg Stp.part e) (beq_eq_false_iff_ne.1 ‹_›)))), C⟩
 refine .r [36, 37, 38, 39, 40] ?_
 have bk : k < a.length := (by omega)
 refine .ix 41 k 6 h1 bk <| .r [42] <| .lh 43 4 am id <| .r [44, 45] ?_
 have bm : k < b.length := (by omega)
 refine .ix 46 k 6 h2 bm <| .r [47] <| .lh 48 4 ah id <| GA.call1 (i := 49) (by kernel_rfl) (fun bY aA => c_laws_lyInts W.list J.list (aa.ta.ext aA) (ab.ta.ext aA) (w := bY) (F := all)) ?_
 cases cB : (W.list == J.list)
 ·refine .r [50, 51, 52] <| GA.skip (by kernel_rfl) fun dq aB => ?_
  replace ⟨h1, h2, C, E⟩ := (se [] aB).g4 h1 h2 C E
  exact .r 2 <| .d <| .ct <| .s <| .g <| .r 1 <| .d <| .rt Tryz.func17 Tryz.results17 (.bool false) ⟨(congrArg Value.bool (by exact st_no ‹_› ‹_› ‹_› (by intro e; exact absurd (congrArg Stp.list e) (beq_eq_false_iff_ne.1 ‹_›)))), C⟩
 refine .r [50, 51, 52, 53, 54] ?_
 have bn : k < a.length := (by omega)
 refine .ix 55 k 6 h1 bn <| .r [56] <| .lh 57 5 am id <| .r [58, 59, 60] ?_
 have bo : k < b.length := (by omega)
 refine .ix 61 k 6 h2 bo <| .r [62] <| .lh 63 5 ah id <| .r [64] <| .d fun aR aC => ?_
 replace ⟨h1, h2, C, E⟩ := (se [] aC).g4 h1 h2 C E
 refine .ne (W.names.length : Int) (J.names.length : Int) (fun bq => .r 1 <| .d <| .ct <| .s <| .g <| .r 1 <| .d <| .rt Tryz.func17 Tryz.results17 (.bool false) ⟨(congrArg Value.bool (by exact st_no ‹_› ‹_› ‹_› (by intro e; exact absurd (congrArg (fun s => (s.names.length : Int)) e) ‹_›))), C⟩) fun bq => .r 1 <| .d <| .cf <| .sk <| .s <| .g <| .r 1 <| .d <| .b 2 <| T.loop (X := Nat) 0 (fun k1 => [(0, .slice a1 a.length c1), (1, .slice a2 b.length c2), (5, vI (k : Int)), (6, vI (k1 : Int))]) (fun k1 aD => Chg (ins []) aR aD ∧ (k1 ≤ W.names.length) ∧ (W.names.drop k1 = J.names.drop k1 ↔ W.names = J.names)) (fun k1 => W.names.length - k1) (by kernel_rfl) ⟨by kernel_rfl, by kernel_rfl, by kernel_rfl, by kernel_rfl, trivial⟩ ⟨Chg.refl _ _, (by omega), (by exact Iff.rfl)⟩ ?_
 rintro k1 dr aD ⟨O, cC, cD⟩ av
 have aE : Mv [] [] aR aD := Mv.inl O all_nil all_nil
 replace ⟨h1, h2, C, E⟩ := (sp aE O).g4 h1 h2 C E
 refine .s <| .s <| .g <| .r 3 ?_
 have br : k < a.length := (by omega)
 refine .ix k 6 h1 br <| .r 1 ?_
 obtain ⟨_, ⟨dt, du, dv, dw, dx, dy, dz, dA, dB, dC, dD, dE, rfl, bZ, b0, b6, b7⟩, bt⟩ := h1.elem k W al
 have bu := bZ.len
 subst bu
 have bv := b0.len
 subst bv
 have bw := b6.len
 subst bw
 have bz := b7.len
 subst bz
 refine .lh 5 bt <| .r 1 <| .bp ((k1 : Int) < (W.names.length : Int)) (fun bA => ?_) (fun bA => .d <| .cf <| .x 2 rfl <| .ib 1 <| .g <| .r 1 <| .it ((k : Int) + 1) <| .r 1 <| .d <| aw (k + 1) _ _ ⟨by kernel_rfl, by kernel_rfl, by kernel_rfl, trivial⟩ ⟨E, (by omega), (by exact st_eq ‹_› ‹_› ‹_› ‹_› ‹_› ‹_› ‹_› ‹_› ‹_› (by omega))⟩ (by omega))
 refine .d <| .ct <| .sk <| .s <| .b 3 <| .s <| .gd nil 16 fun dF aF => ?_
 replace ⟨h1, h2, C, E, O⟩ := (se [] aF).g5 h1 h2 C E O
 refine .r [0, 1] ?_
 have bB : k < a.length := (by omega)
 refine .ix 2 k 6 h1 bB <| .r [3] ?_
 obtain ⟨_, ⟨dG, dH, dI, dJ, dK, dL, dM, dN, dO, dP, dQ, dR, rfl, b8, b9, cd, aG⟩, bC⟩ := h1.elem k W al
 have bD := b8.len
 subst bD
 have bE := b9.len
 subst bE
 have bF := cd.len
 subst bF
 have bG := aG.len
 subst bG
 refine .lh 4 5 bC id <| .r [5] ?_
 have bH : k1 < W.names.length := (by omega)
 refine .ix 6 k1 1 aG bH ?_
 obtain ⟨aH, ar⟩ : ∃ y, W.names[k1]? = some y := ⟨_, List.getElem?_eq_getElem (by omega)⟩
 have cE := drop_at ar; have ce := List.mem_of_getElem? ar
 obtain ⟨_, ⟨dS, dT, dU, rfl, ao⟩, bI⟩ := aG.elem k1 aH ar
 have bJ := ao.len
 subst bJ
 have cF := ao.max
 refine .lh 7 0 bI id <| .r [8, 9] ?_
 have bK : k < b.length := (by omega)
 refine .ix 10 k 6 h2 bK <| .r [11] ?_
 obtain ⟨_, ⟨dV, dW, dX, dY, dZ, d0, d3, d4, d5, d6, d7, d8, rfl, cg, ci, cj, aI⟩, bL⟩ := h2.elem k J ai
 have bM := cg.len
 subst bM
 have bN := ci.len
 subst bN
 have bO := cj.len
 subst bO
 have bP := aI.len
 subst bP
 refine .lh 12 5 bL id <| .r [13] ?_
 have bQ : k1 < J.names.length := (by omega)
 refine .ix 14 k1 1 aI bQ ?_
 obtain ⟨aJ, au⟩ : ∃ y, J.names[k1]? = some y := ⟨_, List.getElem?_eq_getElem (by omega)⟩
 have cG := drop_at au; have ck := List.mem_of_getElem? au
 obtain ⟨_, ⟨d9, ec, ed, rfl, aq⟩, bR⟩ := aI.elem k1 aJ au
 have bS := aq.len
 subst bS
 have cH := aq.max
 refine .lh 15 0 bR id <| .d fun cm aK => ?_
 replace ⟨ao, aq, C, E, O⟩ := (se [] aK).g5 ao aq C E O
 refine .cl (c_laws_lyName aH aJ ao.ta aq.ta (w := cm) (F := all)) ?_
 rintro ee ef ⟨rfl, aL⟩
 replace ⟨C, E, O⟩ := (se [] aL).g3 C E O
 cases cI : (aH == aJ)
 ·exact .r 1 <| .d <| .ct <| .s <| .g <| .r 1 <| .d <| .rt Tryz.func17 Tryz.results17 (.bool false) ⟨(congrArg Value.bool (by exact st_no ‹_› ‹_› ‹_› (by intro e; exact dr_no ‹_› ‹_› ‹_› ‹_› (congrArg Stp.names e)))), C⟩
 exact .r 1 <| .d <| .cf <| .sk <| .ib 3 <| .g <| .r 1 <| .it ((k1 : Int) + 1) <| .r 1 <| .d <| av (k1 + 1) _ _ ⟨by kernel_rfl, by kernel_rfl, by kernel_rfl, by kernel_rfl, trivial⟩ ⟨O, (by omega), (by exact dr_eq ‹_› ‹_› ‹_› ‹_›)⟩ (by omega)
theorem c_spec_DrawStepsFlush (code : List UInt8) {w : World} {F : Nat → Prop} {a1 : Option Addr} {n1 c1 : Nat} (h1 : RepS w F a1 n1 c1 code)  : Calls Tryz.prog 15 [.slice a1 n1 c1].toArray w (rets fun rv w' => (∃ (d : Dsk) (s : Sto), (∃ v0 v1, rv = .tuple #[v0, v1] ∧ VS (fo F w.heap.size) w' (d : Dsk) v0 ∧ VS (fo F w.heap.size) w' (s : Sto) v1) ∧ (DD d ∧ SD s)) ∧ Ext w w') := by
 refine goT Tryz.func15 ?_
 obtain ⟨rfl, jY, h1⟩ := h1.tp
 refine .s <| .g <| .np 27 [.slice none 0 0, .slice none 0 0, .slice none 0 0, vI 0] fun af lP df dg al fS => ?_
 have jZ : Cov nil w af := cov_new df (Nat.le_refl _)
 replace h1 := (sn [] dg df).g1 h1
 have ag := dg
 refine .np 34 [.slice none 0 0, .slice none 0 0, .slice none 0 0, .slice none 0 0] fun aj fT cW dP ak fU => ?_
 have j0 := nb_new cW al.lt
 have j1 := ag.cn cW
 replace ⟨h1, al, ag⟩ := (sn [af] dP cW).g3 h1 al ag
 refine .d <| .s <| .g <| .r 1 <| .cl (c_spec_l6Open code h1 (w := fT) (F := nin (fo F w.heap.size) [aj, af])) ?_
 rintro lQ ec ⟨⟨hE, ah, hH, hJ, rfl, cX, dh, ai⟩, dQ⟩
 have dR := al2 ak.lt al.lt
 have fV : Gb w.heap.size fT.heap.size := ag.size
 have j2 := nb_ge cX al.lt
 have j3 := nb_ge cX ak.lt
 have j4 : Cov nil w ah := cov_ge cX ag.size
 replace ⟨al, ak, ag⟩ := (se [] dQ).g3 al ak ag
 replace ai := RepS.mixedR (b := ah) (M := [aj, af]) ai dR fV
 refine .r 1 <| .d <| .s <| .g <| .r 1 <| .cl (c_spec_l72WorldX dh (ai.toAll (.head _)) (by omega) (w := ec) (F := all)) ?_
 rintro lR cu ⟨⟨aK, ⟨fW, lS, fX, fY, lT, fZ, f0, lU, f5, aM, f6, f7, f8, lV, f9, ga, lW, gb, gf, lX, gh, rfl, bD, bE, bF, aP, bG, bH, bI, bJ⟩, j5⟩, hN, j6, bK, dj⟩
 have bw := al3 dh.lt ak.lt al.lt
 have bL : Gb w.heap.size ec.heap.size := ag.size
 have gi := nb_ge bG al.lt
 have gj := nb_ge bG ak.lt
 have gk := nb_ge bG dh.lt
 have gl := gb_ge bG ag.size
 have j7 : Cov nil w aM := cov_ge bG ag.size
 have dS : Mv [ah, aj, af] [aM, ah, aj, af] ec cu := Mv.cons (Mv.on dj (.head _)) bG
 replace ⟨al, ak, ai, ag⟩ := (sp dS dj).g4 al ak ai ag
 replace bD : RepS cu (nin (ge w.heap.size) [aM, ah, aj, af]) _ _ _ _ := RepS.takeM (s0 := w.heap.size) (M := [ah, aj, af]) bD bw bL
 replace bD := bD.base (G' := fo F w.heap.size) (fun _ _ h => .inr h)
 have j8 := bD.max
 replace bE : RepS cu (nin (ge w.heap.size) [aM, ah, aj, af]) _ _ _ _ := RepS.takeM (s0 := w.heap.size) (M := [ah, aj, af]) bE bw bL
 replace bE := bE.base (G' := fo F w.heap.size) (fun _ _ h => .inr h)
 have j9 := bE.max
 replace bF : RepS cu (nin (ge w.heap.size) [aM, ah, aj, af]) _ _ _ _ := RepS.takeM (s0 := w.heap.size) (M := [ah, aj, af]) bF bw bL
 replace bF := bF.base (G' := fo F w.heap.size) (fun _ _ h => .inr h)
 have ka := bF.max
 replace aP : Own cu aM 107 (nin (ge w.heap.size) [aM, ah, aj, af]) _ _ _ := Own.takeM (s0 := w.heap.size) (M := [ah, aj, af]) aP bw bL
 replace aP := aP.base (G' := fo F w.heap.size) (fun _ _ h => .inr h)
 have hO := aP.max
 have hQ := aP.len
 replace bH : RepS cu (nin (ge w.heap.size) [aM, ah, aj, af]) _ _ _ _ := RepS.takeM (s0 := w.heap.size) (M := [ah, aj, af]) bH bw bL
 replace bH := bH.base (G' := fo F w.heap.size) (fun _ _ h => .inr h)
 have hV := bH.max
 replace bI : RepS cu (nin (ge w.heap.size) [aM, ah, aj, af]) _ _ _ _ := RepS.takeM (s0 := w.heap.size) (M := [ah, aj, af]) bI bw bL
 replace bI := bI.base (G' := fo F w.heap.size) (fun _ _ h => .inr h)
 have hW := bI.max
 replace bJ : RepS cu (nin (ge w.heap.size) [aM, ah, aj, af]) _ _ _ _ := RepS.takeM (s0 := w.heap.size) (M := [ah, aj, af]) bJ bw bL
 replace bJ := bJ.base (G' := fo F w.heap.size) (fun _ _ h => .inr h)
 have ia := bJ.max
 have ed := bD.len
 subst ed
 have ee := bE.len
 subst ee
 have ef := bF.len
 subst ef
 have eg := bH.len
 subst eg
 have eh := bI.len
 subst eh
 have ej := bJ.len
 subst ej
 refine .np 70 [.slice none 0 0, .slice none 0 0, .slice none 0 0, .slice none 0 0, .slice none 0 0, .slice none 0 0, .slice none 0 0, vI 0] fun ab kb bj dm ek en => ?_
 have aN := nb_new bj al.lt
 have ic := nb_new bj ak.lt
 have cz := nb_new bj bK.lt
 have et := nb_new bj aP.lt
 have ie := ag.cn bj
 replace ⟨al, ak, ai, bK, bD, bE, bF, aP, bH, bI, bJ, ag⟩ := (sn [aM, ah, aj, af] dm bj).g12 al ak ai bK bD bE bF aP bH bI bJ ag
 refine .sc [.slice fW aK.store.idx.names.length fX, .slice fY aK.store.idx.posts.length fZ, .slice f0 aK.store.parts.length f5, vS aM f6 f7, .slice f8 aK.disk.files.length f9, .slice ga aK.disk.list.length gb, .slice gf aK.disk.names.length gh, vI aK.disk.next] ek fun bX dp dq ey => ?_
 replace ⟨al, ak, ai, bK, bD, bE, bF, aP, bH, bI, bJ, ag⟩ := (so [ab, aM, ah, aj, af] dp).g12 al ak ai bK bD bE bF aP bH bI bJ ag
 refine .d <| .s <| .s <| .g <| .r 1 <| .d <| .b 0 <| T.loop (X := Nat × Nat × (List (List Tag)) × (Option Addr) × Nat × Nat × (List Pst) × (Option Addr) × Nat × Nat × (List Prt) × (Option Addr) × Nat × Nat × (List Smp) × Nat × Nat × Nat × (List Fil) × (Option Addr) × Nat × Nat × (List Int) × (Option Addr) × Nat × Nat × (List (List Tag)) × (Option Addr) × Nat × Nat × Int) (0, hN, (aK.store.idx.names : List (List Tag)), fW, aK.store.idx.names.length, fX, (aK.store.idx.posts : List Pst), fY, aK.store.idx.posts.length, fZ, (aK.store.parts : List Prt), f0, aK.store.parts.length, f5, (aK.store.mem : List Smp), aM, f6, f7, (aK.disk.files : List Fil), f8, aK.disk.files.length, f9, (aK.disk.list : List Int), ga, aK.disk.list.length, gb, (aK.disk.names : List (List Tag)), gf, aK.disk.names.length, gh, aK.disk.next) (fun (i, p_, cv, a_w_0, n_w_0, c_w_0, cw, a_w_1, n_w_1, c_w_1, cx, a_w_2, n_w_2, c_w_2, cy, r_w_3, n_w_3, c_w_3, bM, a_w_4, n_w_4, c_w_4, bN, a_w_5, n_w_5, c_w_5, bO, a_w_6, n_w_6, c_w_6, aH) => [(2, .pointer (some ⟨af, 0, none⟩)), (3, .pointer (some ⟨aj, 0, none⟩)), (4, .pointer (some ⟨ah, 0, none⟩)), (5, .pointer (some ⟨ab, 0, none⟩)), (6, vI (i : Int))]) (fun (i, p_, cv, a_w_0, n_w_0, c_w_0, cw, a_w_1, n_w_1, c_w_1, cx, a_w_2, n_w_2, c_w_2, cy, r_w_3, n_w_3, c_w_3, bM, a_w_4, n_w_4, c_w_4, bN, a_w_5, n_w_5, c_w_5, bO, a_w_6, n_w_6, c_w_6, aH) aI => Chg (ins [ah, aM, ab]) bX aI ∧ Own aI r_w_3 107 (nin (fo F w.heap.size) [ab, r_w_3, ah, aj, af]) n_w_3 c_w_3 cy ∧ OrB r_w_3 aM bX.heap.size ∧ RepS aI (nin (fo F w.heap.size) [ab, r_w_3, ah, aj, af]) a_w_0 n_w_0 c_w_0 cv ∧ RepS aI (nin (fo F w.heap.size) [ab, r_w_3, ah, aj, af]) a_w_1 n_w_1 c_w_1 cw ∧ RepS aI (nin (fo F w.heap.size) [ab, r_w_3, ah, aj, af]) a_w_2 n_w_2 c_w_2 cx ∧ RepS aI (nin (fo F w.heap.size) [ab, r_w_3, ah, aj, af]) a_w_4 n_w_4 c_w_4 bM ∧ RepS aI (nin (fo F w.heap.size) [ab, r_w_3, ah, aj, af]) a_w_5 n_w_5 c_w_5 bN ∧ RepS aI (nin (fo F w.heap.size) [ab, r_w_3, ah, aj, af]) a_w_6 n_w_6 c_w_6 bO ∧ Box aI ah 122 [.slice hH hE.length hJ, vI (p_ : Int)] ∧ Box aI ab 70 [.slice a_w_0 n_w_0 c_w_0, .slice a_w_1 n_w_1 c_w_1, .slice a_w_2 n_w_2 c_w_2, vS r_w_3 n_w_3 c_w_3, .slice a_w_4 n_w_4 c_w_4, .slice a_w_5 n_w_5 c_w_5, .slice a_w_6 n_w_6 c_w_6, vI aH] ∧ (i ≤ 3) ∧ (p_ ≤ 3200 + 3200 * i) ∧ (SD ⟨⟨cv, cw⟩, cx, cy⟩) ∧ (DD ⟨bM, bN, bO, aH⟩)) (fun (i, p_, cv, a_w_0, n_w_0, c_w_0, cw, a_w_1, n_w_1, c_w_1, cx, a_w_2, n_w_2, c_w_2, cy, r_w_3, n_w_3, c_w_3, bM, a_w_4, n_w_4, c_w_4, bN, a_w_5, n_w_5, c_w_5, bO, a_w_6, n_w_6, c_w_6, aH) => 3 - i) (by kernel_rfl) ⟨by kernel_rfl, by kernel_rfl, by kernel_rfl, by kernel_rfl, by kernel_rfl, trivial⟩ ⟨Chg.refl _ _, aP, orb_refl, bD, bE, bF, bH, bI, bJ, bK, dq, (by omega), (by omega), (by (have q1 : WG _ := ‹_›; exact q1.1)), (by (have q1 : WG _ := ‹_›; exact q1.2))⟩ ?_
 rintro ⟨i, p_, cv, a_w_0, n_w_0, c_w_0, cw, a_w_1, n_w_1, c_w_1, cx, a_w_2, n_w_2, c_w_2, cy, r_w_3, n_w_3, c_w_3, bM, a_w_4, n_w_4, c_w_4, bN, a_w_5, n_w_5, c_w_5, bO, a_w_6, n_w_6, c_w_6, aH⟩ kd aI ⟨aL, ac, bv, O, W, aa, C, E, J, cA, ae, ig, ii, ij, ik⟩ de
 have il := nb_or' bv gi al.lt
 have im := nb_or' bv gj ak.lt
 have io := nb_or' bv gk bK.lt
 have aO := nb_or' bv (Nb.symm et) dq.lt
 have cB := gb_or' bv gl ag.size
 have ip : Cov (ins [ah, aM, ab]) bX ah := ⟨.inl (.head _)⟩
 have iq : Cov (ins [ah, aM, ab]) bX ab := ⟨.inl (.tail _ (.tail _ (.head _)))⟩
 have dr : Mv [ab, aM, ah, aj, af] [ab, r_w_3, ah, aj, af] bX aI := Mv.inl aL (all_cons (.tail _ (.tail _ (.head _))) (all_cons (.tail _ (.head _)) (all_cons (.head _) all_nil))) (all_cons (.inl (.head _)) (all_cons (orb_mem bv (.tail _ (.head _))) (all_cons (.inl (.tail _ (.tail _ (.head _)))) (all_cons (.inl (.tail _ (.tail _ (.tail _ (.head _))))) (all_cons (.inl (.tail _ (.tail _ (.tail _ (.tail _ (.head _)))))) all_nil)))))
 replace ⟨al, ak, ai, ag⟩ := (sp dr aL).g4 al ak ai ag
 have ir := ac.len; have iu := ac.max
 have iw := O.len; have iy := O.max
 have iz := W.len; have iA := W.max
 have iB := aa.len; have iC := aa.max
 have iD := C.len; have iE := C.max
 have iF := E.len; have iG := E.max
 have iH := J.len; have iI := J.max
 refine .s <| .s <| .g <| .r 1 <| .bp ((i : Int) < 3) (fun ez => ?_) (fun ez => ?_)
 ·refine .r 3 <| .lb ae <| .r 1 <| .eq (n_w_3 : Int) 0 (fun eA => ?_) (fun eA => ?_)
  ·refine .r 3 <| .cl (c_spec_l6Rd_pick 8 cA (ai.toAll (.tail _ (.tail _ (.head _)))) (by omega) (w := aI) (F := all)) ?_
   rintro ke cY ⟨⟨gm, rfl, iJ⟩, kf, iK, cC, cD⟩
   replace ⟨al, ak, ai, ac, ae, O, W, aa, C, E, J, ag⟩ := (so [ab, r_w_3, ah, aj, af] cD).g12 al ak ai ac ae O W aa C E J ag
   replace aL := (so [ab, r_w_3, ah, aj, af] cD).g1 aL
   refine .bp (gm > 0) (fun eB => ?_) (fun eB => ?_)
   ·refine .r 1 <| .d <| .ct <| .sk <| .s <| .b 1 <| .g <| .r 1 <| .cl (c_spec_l72WorldX cC (ai.toAll (.tail _ (.tail _ (.head _)))) (by omega) (w := cY) (F := all)) ?_
    rintro kg bz ⟨⟨am, ⟨dT, kh, dU, dV, ki, dW, dX, kj, dY, aG, dZ, d0, d3, kk, d4, d5, kl, d6, d7, km, d8, rfl, aQ, aR, aS, aJ, cg, aT, aU, aV⟩, iL⟩, gn, iM, cE, ci⟩
    have aW := al5 ae.lt ac.lt cC.lt ak.lt al.lt
    have bk : Gb w.heap.size cY.heap.size := ag.size
    have iN := nb_ge cg ae.lt
    have eC : OrB aG aM bX.heap.size := Or.inr (gb_ge cg aL.size)
    have cF : Mv [ab, r_w_3, ah, aj, af] [aG, ab, r_w_3, ah, aj, af] cY bz := Mv.cons (Mv.on ci (.tail _ (.tail _ (.head _)))) cg
    replace ⟨al, ak, ai, ac, ae, O, W, aa, C, E, J, ag⟩ := (sp cF ci).g12 al ak ai ac ae O W aa C E J ag
    replace aL := (sp cF ci).g1 aL
    replace aQ : RepS bz (nin (ge w.heap.size) [aG, ab, r_w_3, ah, aj, af]) _ _ _ _ := RepS.takeM (s0 := w.heap.size) (M := [ab, r_w_3, ah, aj, af]) aQ aW bk
    replace aQ := aQ.base (G' := fo F w.heap.size) (fun _ _ h => .inr h)
    have iO := aQ.max
    replace aR : RepS bz (nin (ge w.heap.size) [aG, ab, r_w_3, ah, aj, af]) _ _ _ _ := RepS.takeM (s0 := w.heap.size) (M := [ab, r_w_3, ah, aj, af]) aR aW bk
    replace aR := aR.base (G' := fo F w.heap.size) (fun _ _ h => .inr h)
    have iP := aR.max
    replace aS : RepS bz (nin (ge w.heap.size) [aG, ab, r_w_3, ah, aj, af]) _ _ _ _ := RepS.takeM (s0 := w.heap.size) (M := [ab, r_w_3, ah, aj, af]) aS aW bk
    replace aS := aS.base (G' := fo F w.heap.size) (fun _ _ h => .inr h)
    have iQ := aS.max
    replace aJ : Own bz aG 107 (nin (ge w.heap.size) [aG, ab, r_w_3, ah, aj, af]) _ _ _ := Own.takeM (s0 := w.heap.size) (M := [ab, r_w_3, ah, aj, af]) aJ aW bk
    replace aJ := aJ.base (G' := fo F w.heap.size) (fun _ _ h => .inr h)
    have iR := aJ.max
    have iS := aJ.len
    replace aT : RepS bz (nin (ge w.heap.size) [aG, ab, r_w_3, ah, aj, af]) _ _ _ _ := RepS.takeM (s0 := w.heap.size) (M := [ab, r_w_3, ah, aj, af]) aT aW bk
    replace aT := aT.base (G' := fo F w.heap.size) (fun _ _ h => .inr h)
    have iT := aT.max
    replace aU : RepS bz (nin (ge w.heap.size) [aG, ab, r_w_3, ah, aj, af]) _ _ _ _ := RepS.takeM (s0 := w.heap.size) (M := [ab, r_w_3, ah, aj, af]) aU aW bk
    replace aU := aU.base (G' := fo F w.heap.size) (fun _ _ h => .inr h)
    have iU := aU.max
    replace aV : RepS bz (nin (ge w.heap.size) [aG, ab, r_w_3, ah, aj, af]) _ _ _ _ := RepS.takeM (s0 := w.heap.size) (M := [ab, r_w_3, ah, aj, af]) aV aW bk
    replace aV := aV.base (G' := fo F w.heap.size) (fun _ _ h => .inr h)
    have iV := aV.max
    have eD := aQ.len
    subst eD
    have eE := aR.len
    subst eE
    have eF := aS.len
    subst eF
    have eG := aT.len
    subst eG
    have eH := aU.len
    subst eH
    have eI := aV.len
    subst eI
    refine .sc [.slice dT am.store.idx.names.length dU, .slice dV am.store.idx.posts.length dW, .slice dX am.store.parts.length dY, vS aG dZ d0, .slice d3 am.disk.files.length d4, .slice d5 am.disk.list.length d6, .slice d7 am.disk.names.length d8, vI am.disk.next] ae fun d9 cG eJ eK => ?_
    replace ⟨al, ak, ai, cE, ac, O, W, aa, C, E, J, aQ⟩ := (so [aG, ab, r_w_3, ah, aj, af] cG).g12 al ak ai cE ac O W aa C E J aQ
    replace ⟨aR, aS, aJ, aT, aU, aV, ag, aL⟩ := (so [aG, ab, r_w_3, ah, aj, af] cG).g8 aR aS aJ aT aU aV ag aL
    refine .d <| .ib 1 <| .g <| .r 1 <| .it ((i : Int) + 1) <| .r 1 <| .d ?_
    have dt : Mv [aG, ab, r_w_3, ah, aj, af] [ab, aG, ah, aj, af] d9 d9 := Mv.less (all_cons (.tail _ (.head _)) (all_cons (.head _) (all_cons (.tail _ (.tail _ (.tail _ (.head _)))) (all_cons (.tail _ (.tail _ (.tail _ (.tail _ (.head _))))) (all_cons (.tail _ (.tail _ (.tail _ (.tail _ (.tail _ (.head _)))))) all_nil)))))
    replace ⟨ai, ac, O, W, aa, C, E, J, aQ, aR, aS, aJ⟩ := (sp dt (Chg.refl nil _)).g12 ai ac O W aa C E J aQ aR aS aJ
    replace ⟨aT, aU, aV⟩ := (sp dt (Chg.refl nil _)).g3 aT aU aV
    exact de (i + 1, gn, am.store.idx.names, dT, am.store.idx.names.length, dU, am.store.idx.posts, dV, am.store.idx.posts.length, dW, am.store.parts, dX, am.store.parts.length, dY, am.store.mem, aG, dZ, d0, am.disk.files, d3, am.disk.files.length, d4, am.disk.list, d5, am.disk.list.length, d6, am.disk.names, d7, am.disk.names.length, d8, am.disk.next) _ _ ⟨by kernel_rfl, by kernel_rfl, by kernel_rfl, by kernel_rfl, by kernel_rfl, trivial⟩ ⟨aL, aJ, eC, aQ, aR, aS, aT, aU, aV, cE, eJ, (by omega), (by omega), (by (have q1 : WG _ := ‹_›; exact q1.1)), (by (have q1 : WG _ := ‹_›; exact q1.2))⟩ (by (simp only []; omega))
   refine .r 1 <| .d <| .cf <| .x 0 rfl <| .s <| .s <| .g <| .r 1 <| .cl (c_spec_l6Rd_pick 12 cC (ai.toAll (.tail _ (.tail _ (.head _)))) (by omega) (w := cY) (F := all)) ?_
   rintro ko bg ⟨⟨gp, rfl, iW⟩, kr, iX, bm, du⟩
   replace ⟨al, ak, ai, ac, ae, O, W, aa, C, E, J, ag⟩ := (so [ab, r_w_3, ah, aj, af] du).g12 al ak ai ac ae O W aa C E J ag
   refine .eq gp 0 (fun eL => ?_) (fun eL => ?_)
   ·refine .d <| .ct <| .s ?_
    replace ai := ai.into
    replace O := O.into
    replace W := W.into
    replace aa := aa.into
    replace C := C.into
    replace E := E.into
    replace J := J.into
    have eM : Cov (mtb [r_w_3, af, ah] bg.heap.size) bg af := ⟨.inl (.inl (.tail _ (.head _)))⟩
    have eN : Cov (mtb [r_w_3, af, ah] bg.heap.size) bg ah := ⟨.inl (.inl (.tail _ (.tail _ (.head _))))⟩
    have eO : Gb (ab + 1) bg.heap.size := ae.lt
    refine .gd (mtb [r_w_3, af, ah] bg.heap.size) 6 fun ks cH => ?_
    replace ⟨al, ak, ai, bm, ac, ae, O, W, aa, C, E, J⟩ := (se [ab, r_w_3, ah, aj, af] cH).g12 al ak ai bm ac ae O W aa C E J
    replace ag := (se [ab, r_w_3, ah, aj, af] cH).g1 ag
    refine .r [0] <| .ln 1 ae (nS_of (all_cons (Nb.symm aO) (all_cons aN (all_cons cz all_nil))) eO) <| .r [2] <| .go 3 <| .cl (fun cZ bP => c_spec_l72WorldX (bm.ext bP) ((ai.toAll (.tail _ (.tail _ (.head _)))).ext bP) (by omega) (w := cZ) (F := all)) ?_
    intro cZ bP
    replace ⟨al, ak, ai, bm, ac, ae, O, W, aa, C, E, J⟩ := (se [ab, r_w_3, ah, aj, af] bP).g12 al ak ai bm ac ae O W aa C E J
    replace ag := (se [ab, r_w_3, ah, aj, af] bP).g1 ag
    rintro kt bA ⟨⟨c7, ⟨gq, ku, gr, gs, kv, gt, gu, kw, gv, au, gw, gx, kx, ky, kz, kA, kB, kC, kD, kE, kF, rfl, ax, ay, az, ao, aX, bY, bZ, b0⟩, iY⟩, kG, iZ, ja, cj⟩
    have aY := al5 ae.lt ac.lt bm.lt ak.lt al.lt
    have bn : Gb w.heap.size cZ.heap.size := ag.size
    have hkeep_ := cj
    have jb := nb_ge aX al.lt
    have jc := nb_ge aX ak.lt
    have jd := nb_ge aX bm.lt
    have je := nb_ge aX ac.lt
    have jf := nb_ge aX ae.lt
    have eP := gb_ge aX ag.size
    have dv : Mv [ab, r_w_3, ah, aj, af] [au, ab, r_w_3, ah, aj, af] cZ bA := Mv.cons (Mv.on cj (.tail _ (.tail _ (.head _)))) aX
    replace ⟨al, ak, ai, ac, ae, O, W, aa, C, E, J, ag⟩ := (sp dv cj).g12 al ak ai ac ae O W aa C E J ag
    refine ⟨Chg.toS hkeep_ (Cov.toS eN), ?_⟩
    replace ax : RepS bA (nin (ge w.heap.size) [au, ab, r_w_3, ah, aj, af]) _ _ _ _ := RepS.takeM (s0 := w.heap.size) (M := [ab, r_w_3, ah, aj, af]) ax aY bn
    replace ax := ax.base (G' := fo F w.heap.size) (fun _ _ h => .inr h)
    have jg := ax.max
    replace ay : RepS bA (nin (ge w.heap.size) [au, ab, r_w_3, ah, aj, af]) _ _ _ _ := RepS.takeM (s0 := w.heap.size) (M := [ab, r_w_3, ah, aj, af]) ay aY bn
    replace ay := ay.base (G' := fo F w.heap.size) (fun _ _ h => .inr h)
    have jh := ay.max
    replace az : RepS bA (nin (ge w.heap.size) [au, ab, r_w_3, ah, aj, af]) _ _ _ _ := RepS.takeM (s0 := w.heap.size) (M := [ab, r_w_3, ah, aj, af]) az aY bn
    replace az := az.base (G' := fo F w.heap.size) (fun _ _ h => .inr h)
    have ji := az.max
    replace ao : Own bA au 107 (nin (ge w.heap.size) [au, ab, r_w_3, ah, aj, af]) _ _ _ := Own.takeM (s0 := w.heap.size) (M := [ab, r_w_3, ah, aj, af]) ao aY bn
    replace ao := ao.base (G' := fo F w.heap.size) (fun _ _ h => .inr h)
    have jj := ao.max
    have jk := ao.len
    replace bY : RepS bA (nin (ge w.heap.size) [au, ab, r_w_3, ah, aj, af]) _ _ _ _ := RepS.takeM (s0 := w.heap.size) (M := [ab, r_w_3, ah, aj, af]) bY aY bn
    replace bY := bY.base (G' := fo F w.heap.size) (fun _ _ h => .inr h)
    have jl := bY.max
    replace bZ : RepS bA (nin (ge w.heap.size) [au, ab, r_w_3, ah, aj, af]) _ _ _ _ := RepS.takeM (s0 := w.heap.size) (M := [ab, r_w_3, ah, aj, af]) bZ aY bn
    replace bZ := bZ.base (G' := fo F w.heap.size) (fun _ _ h => .inr h)
    have jm := bZ.max
    replace b0 : RepS bA (nin (ge w.heap.size) [au, ab, r_w_3, ah, aj, af]) _ _ _ _ := RepS.takeM (s0 := w.heap.size) (M := [ab, r_w_3, ah, aj, af]) b0 aY bn
    replace b0 := b0.base (G' := fo F w.heap.size) (fun _ _ h => .inr h)
    have jn := b0.max
    have eQ := ax.len
    subst eQ
    have eR := ay.len
    subst eR
    have eS := az.len
    subst eS
    have eT := bY.len
    subst eT
    have eU := bZ.len
    subst eU
    have eV := b0.len
    subst eV
    refine .r [4] <| .go 5 <| GE.storeB (t' := 27) (o := 0) (v := .agg #[.slice a_w_4 n_w_4 c_w_4, .slice a_w_5 n_w_5 c_w_5, .slice a_w_6 n_w_6 c_w_6, vI aH]) [.slice a_w_4 n_w_4 c_w_4, .slice a_w_5 n_w_5 c_w_5, .slice a_w_6 n_w_6 c_w_6, vI aH] al (by kernel_rfl) (by kernel_rfl) (by kernel_rfl) fun kH cI => ?_
    replace ⟨al, ak, ai, ac, ae, O, W, aa, C, E, J, ax⟩ := (se [au, ab, r_w_3, ah, aj, af] cI).g12 al ak ai ac ae O W aa C E J ax
    replace ⟨ay, az, ao, ag⟩ := (se [au, ab, r_w_3, ah, aj, af] cI).g4 ay az ao ag
    intro kI ck bQ eW
    have hkeep_ := Chg.toS ck (Cov.toS eM)
    replace ⟨ak, ai, ac, ae, O, W, aa, C, E, J, ax, ay⟩ := (so [au, ab, r_w_3, ah, aj, af] ck).g12 ak ai ac ae O W aa C E J ax ay
    replace ⟨az, ao, ag⟩ := (so [au, ab, r_w_3, ah, aj, af] ck).g3 az ao ag
    refine ⟨hkeep_, ?_⟩
    refine .d fun kJ cJ => ?_
    replace ⟨bQ, ak, ai, ac, ae, O, W, aa, C, E, J, ax⟩ := (se [au, ab, r_w_3, ah, aj, af] cJ).g12 bQ ak ai ac ae O W aa C E J ax
    replace ⟨ay, az, ao, ag⟩ := (se [au, ab, r_w_3, ah, aj, af] cJ).g4 ay az ao ag
    replace ai := ai.outof
    replace O := O.outof
    replace W := W.outof
    replace aa := aa.outof
    replace C := C.outof
    replace E := E.outof
    replace J := J.outof
    refine .sc [.slice gq c7.store.idx.names.length gr, .slice gs c7.store.idx.posts.length gt, .slice gu c7.store.parts.length gv, vS au gw gx] ak fun gy cK eX eY => ?_
    replace ⟨bQ, ai, ac, ae, O, W, aa, C, E, J, ax, ay⟩ := (so [au, ab, r_w_3, ah, aj, af] cK).g12 bQ ai ac ae O W aa C E J ax ay
    replace ⟨az, ao, ag⟩ := (so [au, ab, r_w_3, ah, aj, af] cK).g3 az ao ag
    refine .d ?_
    have gz := ao.sl (.inr eP)
    replace ⟨ai, ac, O, W, aa, C, E, J, ax, ay, az⟩ := (sd gy [au, ab, r_w_3, ah, aj, af] au).g11 ai ac O W aa C E J ax ay az
    exact .r2 Tryz.func15 Tryz.results15 (.bx bQ) (.bx eX) ⟨⟨((⟨bM, bN, bO, aH⟩ : Dsk) : Dsk), (c7.store : Sto), ⟨_, _, (tup2 rfl rfl), ⟨_, rfl, ⟨_, _, _, _, _, _, _, _, _, rfl, C.w1, E.w1, J.w1⟩⟩, ⟨_, rfl, ⟨_, _, _, _, _, _, _, _, _, _, _, _, rfl, ax.w1, ay.w1, az.w1, gz.w1⟩⟩⟩, (by exact ⟨by assumption, by (have q1 : WG _ := ‹_›; exact q1.1)⟩)⟩, ag⟩
   refine .d <| .cf <| .sk <| .s ?_
   replace ai := ai.into
   replace O := O.into
   replace W := W.into
   replace aa := aa.into
   replace C := C.into
   replace E := E.into
   replace J := J.into
   have eZ : Cov (mtb [r_w_3, af] bg.heap.size) bg af := ⟨.inl (.inl (.tail _ (.head _)))⟩
   have dw : Gb (ab + 1) bg.heap.size := ae.lt
   refine .gd (mtb [r_w_3, af] bg.heap.size) 5 fun kK dx => ?_
   replace ⟨al, ak, ai, ac, ae, O, W, aa, C, E, J, ag⟩ := (se [ab, r_w_3, ah, aj, af] dx).g12 al ak ai ac ae O W aa C E J ag
   refine .r [0] <| .ln 1 ae (nS_of (all_cons (Nb.symm aO) (all_cons aN all_nil)) dw) <| .r [2] <| .ln 3 ae (nS_of (all_cons (Nb.symm aO) (all_cons aN all_nil)) dw) <| .go 4 <| GE.storeB (t' := 27) (o := 0) (v := .agg #[.slice a_w_4 n_w_4 c_w_4, .slice a_w_5 n_w_5 c_w_5, .slice a_w_6 n_w_6 c_w_6, vI aH]) [.slice a_w_4 n_w_4 c_w_4, .slice a_w_5 n_w_5 c_w_5, .slice a_w_6 n_w_6 c_w_6, vI aH] al (by kernel_rfl) (by kernel_rfl) (by kernel_rfl) fun kL dy => ?_
   replace ⟨al, ak, ai, ac, ae, O, W, aa, C, E, J, ag⟩ := (se [ab, r_w_3, ah, aj, af] dy).g12 al ak ai ac ae O W aa C E J ag
   intro kM cL bR e7
   have hkeep_ := Chg.toS cL (Cov.toS eZ)
   replace ⟨ak, ai, ac, ae, O, W, aa, C, E, J, ag⟩ := (so [ab, r_w_3, ah, aj, af] cL).g11 ak ai ac ae O W aa C E J ag
   refine ⟨hkeep_, ?_⟩
   refine .d fun kN dz => ?_
   replace ⟨bR, ak, ai, ac, ae, O, W, aa, C, E, J, ag⟩ := (se [ab, r_w_3, ah, aj, af] dz).g12 bR ak ai ac ae O W aa C E J ag
   replace ai := ai.outof
   replace O := O.outof
   replace W := W.outof
   replace aa := aa.outof
   replace C := C.outof
   replace E := E.outof
   replace J := J.outof
   refine .sc [.slice a_w_0 n_w_0 c_w_0, .slice a_w_1 n_w_1 c_w_1, .slice a_w_2 n_w_2 c_w_2, vS r_w_3 n_w_3 c_w_3] ak fun gA dA e8 fa => ?_
   replace ⟨bR, ai, ac, ae, O, W, aa, C, E, J, ag⟩ := (so [ab, r_w_3, ah, aj, af] dA).g11 bR ai ac ae O W aa C E J ag
   refine .d ?_
   have gC := ac.sl (.inr cB)
   replace ⟨ai, O, W, aa, C, E, J⟩ := (sd gA [ab, r_w_3, ah, aj, af] r_w_3).g7 ai O W aa C E J
   exact .r2 Tryz.func15 Tryz.results15 (.bx bR) (.bx e8) ⟨⟨((⟨bM, bN, bO, aH⟩ : Dsk) : Dsk), ((⟨(⟨cv, cw⟩ : Idx), cx, cy⟩ : Sto) : Sto), ⟨_, _, (tup2 rfl rfl), ⟨_, rfl, ⟨_, _, _, _, _, _, _, _, _, rfl, C.w1, E.w1, J.w1⟩⟩, ⟨_, rfl, ⟨_, _, _, _, _, _, _, _, _, _, _, _, rfl, O.w1, W.w1, aa.w1, gC.w1⟩⟩⟩, (by exact ⟨by assumption, by assumption⟩)⟩, ag⟩
  refine .r 6 <| .d <| .cf <| .x 0 rfl <| .s <| .s <| .g <| .r 1 <| .cl (c_spec_l6Rd_pick 12 cA (ai.toAll (.tail _ (.tail _ (.head _)))) (by omega) (w := aI) (F := all)) ?_
  rintro kO bh ⟨⟨gD, rfl, jo⟩, kP, jp, bo, dB⟩
  replace ⟨al, ak, ai, ac, ae, O, W, aa, C, E, J, ag⟩ := (so [ab, r_w_3, ah, aj, af] dB).g12 al ak ai ac ae O W aa C E J ag
  refine .eq gD 0 (fun fb => ?_) (fun fb => ?_)
  ·refine .d <| .ct <| .s ?_
   replace ai := ai.into
   replace O := O.into
   replace W := W.into
   replace aa := aa.into
   replace C := C.into
   replace E := E.into
   replace J := J.into
   have fc : Cov (mtb [r_w_3, af, ah] bh.heap.size) bh af := ⟨.inl (.inl (.tail _ (.head _)))⟩
   have fd : Cov (mtb [r_w_3, af, ah] bh.heap.size) bh ah := ⟨.inl (.inl (.tail _ (.tail _ (.head _))))⟩
   have fe : Gb (ab + 1) bh.heap.size := ae.lt
   refine .gd (mtb [r_w_3, af, ah] bh.heap.size) 6 fun kQ cM => ?_
   replace ⟨al, ak, ai, bo, ac, ae, O, W, aa, C, E, J⟩ := (se [ab, r_w_3, ah, aj, af] cM).g12 al ak ai bo ac ae O W aa C E J
   replace ag := (se [ab, r_w_3, ah, aj, af] cM).g1 ag
   refine .r [0] <| .ln 1 ae (nS_of (all_cons (Nb.symm aO) (all_cons aN (all_cons cz all_nil))) fe) <| .r [2] <| .go 3 <| .cl (fun c8 bS => c_spec_l72WorldX (bo.ext bS) ((ai.toAll (.tail _ (.tail _ (.head _)))).ext bS) (by omega) (w := c8) (F := all)) ?_
   intro c8 bS
   replace ⟨al, ak, ai, bo, ac, ae, O, W, aa, C, E, J⟩ := (se [ab, r_w_3, ah, aj, af] bS).g12 al ak ai bo ac ae O W aa C E J
   replace ag := (se [ab, r_w_3, ah, aj, af] bS).g1 ag
   rintro kR bB ⟨⟨c9, ⟨gE, kS, gF, gG, kT, gH, gI, kU, gJ, av, gK, gL, kV, kW, kX, kY, kZ, k5, k6, k7, k8, rfl, aA, aB, aC, aq, aZ, b6, b7, b8⟩, jq⟩, k9, jr, js, cm⟩
   have ba := al5 ae.lt ac.lt bo.lt ak.lt al.lt
   have bq : Gb w.heap.size c8.heap.size := ag.size
   have hkeep_ := cm
   have jt := nb_ge aZ al.lt
   have ju := nb_ge aZ ak.lt
   have jv := nb_ge aZ bo.lt
   have jw := nb_ge aZ ac.lt
   have jx := nb_ge aZ ae.lt
   have ff := gb_ge aZ ag.size
   have dC : Mv [ab, r_w_3, ah, aj, af] [av, ab, r_w_3, ah, aj, af] c8 bB := Mv.cons (Mv.on cm (.tail _ (.tail _ (.head _)))) aZ
   replace ⟨al, ak, ai, ac, ae, O, W, aa, C, E, J, ag⟩ := (sp dC cm).g12 al ak ai ac ae O W aa C E J ag
   refine ⟨Chg.toS hkeep_ (Cov.toS fd), ?_⟩
   replace aA : RepS bB (nin (ge w.heap.size) [av, ab, r_w_3, ah, aj, af]) _ _ _ _ := RepS.takeM (s0 := w.heap.size) (M := [ab, r_w_3, ah, aj, af]) aA ba bq
   replace aA := aA.base (G' := fo F w.heap.size) (fun _ _ h => .inr h)
   have jy := aA.max
   replace aB : RepS bB (nin (ge w.heap.size) [av, ab, r_w_3, ah, aj, af]) _ _ _ _ := RepS.takeM (s0 := w.heap.size) (M := [ab, r_w_3, ah, aj, af]) aB ba bq
   replace aB := aB.base (G' := fo F w.heap.size) (fun _ _ h => .inr h)
   have jz := aB.max
   replace aC : RepS bB (nin (ge w.heap.size) [av, ab, r_w_3, ah, aj, af]) _ _ _ _ := RepS.takeM (s0 := w.heap.size) (M := [ab, r_w_3, ah, aj, af]) aC ba bq
   replace aC := aC.base (G' := fo F w.heap.size) (fun _ _ h => .inr h)
   have jA := aC.max
   replace aq : Own bB av 107 (nin (ge w.heap.size) [av, ab, r_w_3, ah, aj, af]) _ _ _ := Own.takeM (s0 := w.heap.size) (M := [ab, r_w_3, ah, aj, af]) aq ba bq
   replace aq := aq.base (G' := fo F w.heap.size) (fun _ _ h => .inr h)
   have jB := aq.max
   have jC := aq.len
   replace b6 : RepS bB (nin (ge w.heap.size) [av, ab, r_w_3, ah, aj, af]) _ _ _ _ := RepS.takeM (s0 := w.heap.size) (M := [ab, r_w_3, ah, aj, af]) b6 ba bq
   replace b6 := b6.base (G' := fo F w.heap.size) (fun _ _ h => .inr h)
   have jD := b6.max
   replace b7 : RepS bB (nin (ge w.heap.size) [av, ab, r_w_3, ah, aj, af]) _ _ _ _ := RepS.takeM (s0 := w.heap.size) (M := [ab, r_w_3, ah, aj, af]) b7 ba bq
   replace b7 := b7.base (G' := fo F w.heap.size) (fun _ _ h => .inr h)
   have jE := b7.max
   replace b8 : RepS bB (nin (ge w.heap.size) [av, ab, r_w_3, ah, aj, af]) _ _ _ _ := RepS.takeM (s0 := w.heap.size) (M := [ab, r_w_3, ah, aj, af]) b8 ba bq
   replace b8 := b8.base (G' := fo F w.heap.size) (fun _ _ h => .inr h)
   have jF := b8.max
   have fg := aA.len
   subst fg
   have fh := aB.len
   subst fh
   have fi := aC.len
   subst fi
   have fj := b6.len
   subst fj
   have fk := b7.len
   subst fk
   have fm := b8.len
   subst fm
   refine .r [4] <| .go 5 <| GE.storeB (t' := 27) (o := 0) (v := .agg #[.slice a_w_4 n_w_4 c_w_4, .slice a_w_5 n_w_5 c_w_5, .slice a_w_6 n_w_6 c_w_6, vI aH]) [.slice a_w_4 n_w_4 c_w_4, .slice a_w_5 n_w_5 c_w_5, .slice a_w_6 n_w_6 c_w_6, vI aH] al (by kernel_rfl) (by kernel_rfl) (by kernel_rfl) fun lc cN => ?_
   replace ⟨al, ak, ai, ac, ae, O, W, aa, C, E, J, aA⟩ := (se [av, ab, r_w_3, ah, aj, af] cN).g12 al ak ai ac ae O W aa C E J aA
   replace ⟨aB, aC, aq, ag⟩ := (se [av, ab, r_w_3, ah, aj, af] cN).g4 aB aC aq ag
   intro ld co bT fp
   have hkeep_ := Chg.toS co (Cov.toS fc)
   replace ⟨ak, ai, ac, ae, O, W, aa, C, E, J, aA, aB⟩ := (so [av, ab, r_w_3, ah, aj, af] co).g12 ak ai ac ae O W aa C E J aA aB
   replace ⟨aC, aq, ag⟩ := (so [av, ab, r_w_3, ah, aj, af] co).g3 aC aq ag
   refine ⟨hkeep_, ?_⟩
   refine .d fun lf cO => ?_
   replace ⟨bT, ak, ai, ac, ae, O, W, aa, C, E, J, aA⟩ := (se [av, ab, r_w_3, ah, aj, af] cO).g12 bT ak ai ac ae O W aa C E J aA
   replace ⟨aB, aC, aq, ag⟩ := (se [av, ab, r_w_3, ah, aj, af] cO).g4 aB aC aq ag
   replace ai := ai.outof
   replace O := O.outof
   replace W := W.outof
   replace aa := aa.outof
   replace C := C.outof
   replace E := E.outof
   replace J := J.outof
   refine .sc [.slice gE c9.store.idx.names.length gF, .slice gG c9.store.idx.posts.length gH, .slice gI c9.store.parts.length gJ, vS av gK gL] ak fun gM cP fq ft => ?_
   replace ⟨bT, ai, ac, ae, O, W, aa, C, E, J, aA, aB⟩ := (so [av, ab, r_w_3, ah, aj, af] cP).g12 bT ai ac ae O W aa C E J aA aB
   replace ⟨aC, aq, ag⟩ := (so [av, ab, r_w_3, ah, aj, af] cP).g3 aC aq ag
   refine .d ?_
   have gN := aq.sl (.inr ff)
   replace ⟨ai, ac, O, W, aa, C, E, J, aA, aB, aC⟩ := (sd gM [av, ab, r_w_3, ah, aj, af] av).g11 ai ac O W aa C E J aA aB aC
   exact .r2 Tryz.func15 Tryz.results15 (.bx bT) (.bx fq) ⟨⟨((⟨bM, bN, bO, aH⟩ : Dsk) : Dsk), (c9.store : Sto), ⟨_, _, (tup2 rfl rfl), ⟨_, rfl, ⟨_, _, _, _, _, _, _, _, _, rfl, C.w1, E.w1, J.w1⟩⟩, ⟨_, rfl, ⟨_, _, _, _, _, _, _, _, _, _, _, _, rfl, aA.w1, aB.w1, aC.w1, gN.w1⟩⟩⟩, (by exact ⟨by assumption, by (have q1 : WG _ := ‹_›; exact q1.1)⟩)⟩, ag⟩
  refine .d <| .cf <| .sk <| .s ?_
  replace ai := ai.into
  replace O := O.into
  replace W := W.into
  replace aa := aa.into
  replace C := C.into
  replace E := E.into
  replace J := J.into
  have fu : Cov (mtb [r_w_3, af] bh.heap.size) bh af := ⟨.inl (.inl (.tail _ (.head _)))⟩
  have dD : Gb (ab + 1) bh.heap.size := ae.lt
  refine .gd (mtb [r_w_3, af] bh.heap.size) 5 fun li dE => ?_
  replace ⟨al, ak, ai, ac, ae, O, W, aa, C, E, J, ag⟩ := (se [ab, r_w_3, ah, aj, af] dE).g12 al ak ai ac ae O W aa C E J ag
  refine .r [0] <| .ln 1 ae (nS_of (all_cons (Nb.symm aO) (all_cons aN all_nil)) dD) <| .r [2] <| .ln 3 ae (nS_of (all_cons (Nb.symm aO) (all_cons aN all_nil)) dD) <| .go 4 <| GE.storeB (t' := 27) (o := 0) (v := .agg #[.slice a_w_4 n_w_4 c_w_4, .slice a_w_5 n_w_5 c_w_5, .slice a_w_6 n_w_6 c_w_6, vI aH]) [.slice a_w_4 n_w_4 c_w_4, .slice a_w_5 n_w_5 c_w_5, .slice a_w_6 n_w_6 c_w_6, vI aH] al (by kernel_rfl) (by kernel_rfl) (by kernel_rfl) fun lj dF => ?_
  replace ⟨al, ak, ai, ac, ae, O, W, aa, C, E, J, ag⟩ := (se [ab, r_w_3, ah, aj, af] dF).g12 al ak ai ac ae O W aa C E J ag
  intro lk cQ bU fv
  have hkeep_ := Chg.toS cQ (Cov.toS fu)
  replace ⟨ak, ai, ac, ae, O, W, aa, C, E, J, ag⟩ := (so [ab, r_w_3, ah, aj, af] cQ).g11 ak ai ac ae O W aa C E J ag
  refine ⟨hkeep_, ?_⟩
  refine .d fun ll dG => ?_
  replace ⟨bU, ak, ai, ac, ae, O, W, aa, C, E, J, ag⟩ := (se [ab, r_w_3, ah, aj, af] dG).g12 bU ak ai ac ae O W aa C E J ag
  replace ai := ai.outof
  replace O := O.outof
  replace W := W.outof
  replace aa := aa.outof
  replace C := C.outof
  replace E := E.outof
  replace J := J.outof
  refine .sc [.slice a_w_0 n_w_0 c_w_0, .slice a_w_1 n_w_1 c_w_1, .slice a_w_2 n_w_2 c_w_2, vS r_w_3 n_w_3 c_w_3] ak fun gO dH fw fz => ?_
  replace ⟨bU, ai, ac, ae, O, W, aa, C, E, J, ag⟩ := (so [ab, r_w_3, ah, aj, af] dH).g11 bU ai ac ae O W aa C E J ag
  refine .d ?_
  have gP := ac.sl (.inr cB)
  replace ⟨ai, O, W, aa, C, E, J⟩ := (sd gO [ab, r_w_3, ah, aj, af] r_w_3).g7 ai O W aa C E J
  exact .r2 Tryz.func15 Tryz.results15 (.bx bU) (.bx fw) ⟨⟨((⟨bM, bN, bO, aH⟩ : Dsk) : Dsk), ((⟨(⟨cv, cw⟩ : Idx), cx, cy⟩ : Sto) : Sto), ⟨_, _, (tup2 rfl rfl), ⟨_, rfl, ⟨_, _, _, _, _, _, _, _, _, rfl, C.w1, E.w1, J.w1⟩⟩, ⟨_, rfl, ⟨_, _, _, _, _, _, _, _, _, _, _, _, rfl, O.w1, W.w1, aa.w1, gP.w1⟩⟩⟩, (by exact ⟨by assumption, by assumption⟩)⟩, ag⟩
 refine .r 12 <| .d <| .cf <| .x 0 rfl <| .s <| .s <| .g <| .r 1 <| .cl (c_spec_l6Rd_pick 12 cA (ai.toAll (.tail _ (.tail _ (.head _)))) (by omega) (w := aI) (F := all)) ?_
 rintro lm bi ⟨⟨gQ, rfl, jG⟩, lp, jH, br, dI⟩
 replace ⟨al, ak, ai, ac, ae, O, W, aa, C, E, J, ag⟩ := (so [ab, r_w_3, ah, aj, af] dI).g12 al ak ai ac ae O W aa C E J ag
 refine .eq gQ 0 (fun fA => ?_) (fun fA => ?_)
 ·refine .d <| .ct <| .s ?_
  replace ai := ai.into
  replace O := O.into
  replace W := W.into
  replace aa := aa.into
  replace C := C.into
  replace E := E.into
  replace J := J.into
  have fB : Cov (mtb [r_w_3, af, ah] bi.heap.size) bi af := ⟨.inl (.inl (.tail _ (.head _)))⟩
  have fC : Cov (mtb [r_w_3, af, ah] bi.heap.size) bi ah := ⟨.inl (.inl (.tail _ (.tail _ (.head _))))⟩
  have fD : Gb (ab + 1) bi.heap.size := ae.lt
  refine .gd (mtb [r_w_3, af, ah] bi.heap.size) 6 fun lq cR => ?_
  replace ⟨al, ak, ai, br, ac, ae, O, W, aa, C, E, J⟩ := (se [ab, r_w_3, ah, aj, af] cR).g12 al ak ai br ac ae O W aa C E J
  replace ag := (se [ab, r_w_3, ah, aj, af] cR).g1 ag
  refine .r [0] <| .ln 1 ae (nS_of (all_cons (Nb.symm aO) (all_cons aN (all_cons cz all_nil))) fD) <| .r [2] <| .go 3 <| .cl (fun da cp => c_spec_l72WorldX (br.ext cp) ((ai.toAll (.tail _ (.tail _ (.head _)))).ext cp) (by omega) (w := da) (F := all)) ?_
  intro da cp
  replace ⟨al, ak, br, ac, ae, O, W, aa, C, E, J, ag⟩ := (se [ab, r_w_3, ah, aj, af] cp).g12 al ak br ac ae O W aa C E J ag
  rintro ls bC ⟨⟨db, ⟨gR, lu, gS, gT, lv, gU, gV, lw, gW, aw, gX, gY, ly, lz, lA, lB, lC, lD, lE, lF, lG, rfl, aD, aE, aF, ar, bc, b9, cd, ce⟩, jI⟩, lH, jJ, jK, cq⟩
  have bd := al5 ae.lt ac.lt br.lt ak.lt al.lt
  have bt : Gb w.heap.size da.heap.size := ag.size
  have hkeep_ := cq
  have jL := nb_ge bc al.lt
  have jM := nb_ge bc ak.lt
  have jN := nb_ge bc br.lt
  have jO := nb_ge bc ac.lt
  have jP := nb_ge bc ae.lt
  have fE := gb_ge bc ag.size
  have dJ : Mv [ab, r_w_3, ah, aj, af] [aw, ab, r_w_3, ah, aj, af] da bC := Mv.cons (Mv.on cq (.tail _ (.tail _ (.head _)))) bc
  replace ⟨al, ak, ac, ae, O, W, aa, C, E, J, ag⟩ := (sp dJ cq).g11 al ak ac ae O W aa C E J ag
  refine ⟨Chg.toS hkeep_ (Cov.toS fC), ?_⟩
  replace aD : RepS bC (nin (ge w.heap.size) [aw, ab, r_w_3, ah, aj, af]) _ _ _ _ := RepS.takeM (s0 := w.heap.size) (M := [ab, r_w_3, ah, aj, af]) aD bd bt
  replace aD := aD.base (G' := fo F w.heap.size) (fun _ _ h => .inr h)
  have jQ := aD.max
  replace aE : RepS bC (nin (ge w.heap.size) [aw, ab, r_w_3, ah, aj, af]) _ _ _ _ := RepS.takeM (s0 := w.heap.size) (M := [ab, r_w_3, ah, aj, af]) aE bd bt
  replace aE := aE.base (G' := fo F w.heap.size) (fun _ _ h => .inr h)
  have jR := aE.max
  replace aF : RepS bC (nin (ge w.heap.size) [aw, ab, r_w_3, ah, aj, af]) _ _ _ _ := RepS.takeM (s0 := w.heap.size) (M := [ab, r_w_3, ah, aj, af]) aF bd bt
  replace aF := aF.base (G' := fo F w.heap.size) (fun _ _ h => .inr h)
  have jS := aF.max
  replace ar : Own bC aw 107 (nin (ge w.heap.size) [aw, ab, r_w_3, ah, aj, af]) _ _ _ := Own.takeM (s0 := w.heap.size) (M := [ab, r_w_3, ah, aj, af]) ar bd bt
  replace ar := ar.base (G' := fo F w.heap.size) (fun _ _ h => .inr h)
  have jT := ar.max
  have jU := ar.len
  replace b9 : RepS bC (nin (ge w.heap.size) [aw, ab, r_w_3, ah, aj, af]) _ _ _ _ := RepS.takeM (s0 := w.heap.size) (M := [ab, r_w_3, ah, aj, af]) b9 bd bt
  replace b9 := b9.base (G' := fo F w.heap.size) (fun _ _ h => .inr h)
  have jV := b9.max
  replace cd : RepS bC (nin (ge w.heap.size) [aw, ab, r_w_3, ah, aj, af]) _ _ _ _ := RepS.takeM (s0 := w.heap.size) (M := [ab, r_w_3, ah, aj, af]) cd bd bt
  replace cd := cd.base (G' := fo F w.heap.size) (fun _ _ h => .inr h)
  have jW := cd.max
  replace ce : RepS bC (nin (ge w.heap.size) [aw, ab, r_w_3, ah, aj, af]) _ _ _ _ := RepS.takeM (s0 := w.heap.size) (M := [ab, r_w_3, ah, aj, af]) ce bd bt
  replace ce := ce.base (G' := fo F w.heap.size) (fun _ _ h => .inr h)
  have jX := ce.max
  have fF := aD.len
  subst fF
  have fG := aE.len
  subst fG
  have fH := aF.len
  subst fH
  have fI := b9.len
  subst fI
  have fJ := cd.len
  subst fJ
  have fK := ce.len
  subst fK
  refine .r [4] <| .go 5 <| GE.storeB (t' := 27) (o := 0) (v := .agg #[.slice a_w_4 n_w_4 c_w_4, .slice a_w_5 n_w_5 c_w_5, .slice a_w_6 n_w_6 c_w_6, vI aH]) [.slice a_w_4 n_w_4 c_w_4, .slice a_w_5 n_w_5 c_w_5, .slice a_w_6 n_w_6 c_w_6, vI aH] al (by kernel_rfl) (by kernel_rfl) (by kernel_rfl) fun lI cS => ?_
  replace ⟨al, ak, ac, ae, O, W, aa, C, E, J, aD, aE⟩ := (se [aw, ab, r_w_3, ah, aj, af] cS).g12 al ak ac ae O W aa C E J aD aE
  replace ⟨aF, ar, ag⟩ := (se [aw, ab, r_w_3, ah, aj, af] cS).g3 aF ar ag
  intro lJ cr bV fL
  have hkeep_ := Chg.toS cr (Cov.toS fB)
  replace ⟨ak, ac, ae, O, W, aa, C, E, J, aD, aE, aF⟩ := (so [aw, ab, r_w_3, ah, aj, af] cr).g12 ak ac ae O W aa C E J aD aE aF
  replace ⟨ar, ag⟩ := (so [aw, ab, r_w_3, ah, aj, af] cr).g2 ar ag
  refine ⟨hkeep_, ?_⟩
  refine .d fun lK cT => ?_
  replace ⟨bV, ak, ac, ae, O, W, aa, C, E, J, aD, aE⟩ := (se [aw, ab, r_w_3, ah, aj, af] cT).g12 bV ak ac ae O W aa C E J aD aE
  replace ⟨aF, ar, ag⟩ := (se [aw, ab, r_w_3, ah, aj, af] cT).g3 aF ar ag
  replace O := O.outof
  replace W := W.outof
  replace aa := aa.outof
  replace C := C.outof
  replace E := E.outof
  replace J := J.outof
  refine .sc [.slice gR db.store.idx.names.length gS, .slice gT db.store.idx.posts.length gU, .slice gV db.store.parts.length gW, vS aw gX gY] ak fun gZ cU fM fN => ?_
  replace ⟨bV, ac, ae, O, W, aa, C, E, J, aD, aE, aF⟩ := (so [aw, ab, r_w_3, ah, aj, af] cU).g12 bV ac ae O W aa C E J aD aE aF
  replace ⟨ar, ag⟩ := (so [aw, ab, r_w_3, ah, aj, af] cU).g2 ar ag
  refine .d ?_
  have g0 := ar.sl (.inr fE)
  replace ⟨ac, O, W, aa, C, E, J, aD, aE, aF⟩ := (sd gZ [aw, ab, r_w_3, ah, aj, af] aw).g10 ac O W aa C E J aD aE aF
  exact .r2 Tryz.func15 Tryz.results15 (.bx bV) (.bx fM) ⟨⟨((⟨bM, bN, bO, aH⟩ : Dsk) : Dsk), (db.store : Sto), ⟨_, _, (tup2 rfl rfl), ⟨_, rfl, ⟨_, _, _, _, _, _, _, _, _, rfl, C.w1, E.w1, J.w1⟩⟩, ⟨_, rfl, ⟨_, _, _, _, _, _, _, _, _, _, _, _, rfl, aD.w1, aE.w1, aF.w1, g0.w1⟩⟩⟩, (by exact ⟨by assumption, by (have q1 : WG _ := ‹_›; exact q1.1)⟩)⟩, ag⟩
 refine .d <| .cf <| .sk <| .s ?_
 replace O := O.into
 replace W := W.into
 replace aa := aa.into
 replace C := C.into
 replace E := E.into
 replace J := J.into
 have fO : Cov (mtb [r_w_3, af] bi.heap.size) bi af := ⟨.inl (.inl (.tail _ (.head _)))⟩
 have dK : Gb (ab + 1) bi.heap.size := ae.lt
 refine .gd (mtb [r_w_3, af] bi.heap.size) 5 fun lL dL => ?_
 replace ⟨al, ak, ac, ae, O, W, aa, C, E, J, ag⟩ := (se [ab, r_w_3, ah, aj, af] dL).g11 al ak ac ae O W aa C E J ag
 refine .r [0] <| .ln 1 ae (nS_of (all_cons (Nb.symm aO) (all_cons aN all_nil)) dK) <| .r [2] <| .ln 3 ae (nS_of (all_cons (Nb.symm aO) (all_cons aN all_nil)) dK) <| .go 4 <| GE.storeB (t' := 27) (o := 0) (v := .agg #[.slice a_w_4 n_w_4 c_w_4, .slice a_w_5 n_w_5 c_w_5, .slice a_w_6 n_w_6 c_w_6, vI aH]) [.slice a_w_4 n_w_4 c_w_4, .slice a_w_5 n_w_5 c_w_5, .slice a_w_6 n_w_6 c_w_6, vI aH] al (by kernel_rfl) (by kernel_rfl) (by kernel_rfl) fun lM dM => ?_
 replace ⟨ak, ac, O, W, aa, C, E, J, ag⟩ := (se [ab, r_w_3, ah, aj, af] dM).g9 ak ac O W aa C E J ag
 intro lN cV bW fP
 have hkeep_ := Chg.toS cV (Cov.toS fO)
 replace ⟨ak, ac, O, W, aa, C, E, J, ag⟩ := (so [ab, r_w_3, ah, aj, af] cV).g9 ak ac O W aa C E J ag
 refine ⟨hkeep_, ?_⟩
 refine .d fun lO dN => ?_
 replace ⟨bW, ak, ac, O, W, aa, C, E, J, ag⟩ := (se [ab, r_w_3, ah, aj, af] dN).g10 bW ak ac O W aa C E J ag
 replace O := O.outof
 replace W := W.outof
 replace aa := aa.outof
 replace C := C.outof
 replace E := E.outof
 replace J := J.outof
 refine .sc [.slice a_w_0 n_w_0 c_w_0, .slice a_w_1 n_w_1 c_w_1, .slice a_w_2 n_w_2 c_w_2, vS r_w_3 n_w_3 c_w_3] ak fun hC dO fQ fR => ?_
 replace ⟨bW, ac, O, W, aa, C, E, J, ag⟩ := (so [ab, r_w_3, ah, aj, af] dO).g9 bW ac O W aa C E J ag
 refine .d ?_
 have hD := ac.sl (.inr cB)
 replace ⟨O, W, aa, C, E, J⟩ := (sd hC [ab, r_w_3, ah, aj, af] r_w_3).g6 O W aa C E J
 exact .r2 Tryz.func15 Tryz.results15 (.bx bW) (.bx fQ) ⟨⟨((⟨bM, bN, bO, aH⟩ : Dsk) : Dsk), ((⟨(⟨cv, cw⟩ : Idx), cx, cy⟩ : Sto) : Sto), ⟨_, _, (tup2 rfl rfl), ⟨_, rfl, ⟨_, _, _, _, _, _, _, _, _, rfl, C.w1, E.w1, J.w1⟩⟩, ⟨_, rfl, ⟨_, _, _, _, _, _, _, _, _, _, _, _, rfl, O.w1, W.w1, aa.w1, hD.w1⟩⟩⟩, (by exact ⟨by assumption, by assumption⟩)⟩, ag⟩
end Go.Proofs.YtganlmloonielaaGreat
namespace Go.Proofs.YtganlmloonielaaGreat
structure FlS (d : Dsk) (s : Sto) : Prop where
 f : fitsB d s = true
 m : ¬ (s.mem.length : Int) = 0
 l : s.parts.length < 6
 p : s.parts.length = d.list.length
 e : dflush d s = [⟨1, d.next, memPart s.mem, [], []⟩, ⟨2, 0, ⟨[], []⟩, d.list ++ [d.next], s.idx.names⟩]
theorem fz_s {d : Dsk} {s : Sto} (h : ¬ ((dflush d s).length : Int) = 0) : FlS d s := by
 cases hf : fitsB d s with
 | false => rw [dflush_0 hf] at h; exact absurd rfl h
 | true =>
   have e := dflush_1 hf
   have hp := (fits_of hf).p
   by_cases hc : s.mem.length = 0 ∨ d.list.length ≥ 6 ∨ d.next ≥ 999 ∨ d.files.length ≥ 20
   ·have e2 : flushSt d s = [] := by unfold flushSt; rw [if_pos hc]
    rw [e, e2] at h; exact absurd rfl h
   ·have e2 := flushSt_yes (d := d) (s := s) (by omega) (by omega) (by omega) (by omega)
    have e3 : s.parts.length = d.list.length := by rw [hp, List.length_map]
    exact ⟨hf, by omega, by omega, e3, e.trans e2⟩
theorem fz_2 {d : Dsk} {s : Sto} (h : ¬ ((dflush d s).length : Int) = 0) : ((dflush d s).length : Int) = 2 := by rw [(fz_s h).e]; rfl
theorem fz_at {d : Dsk} {s : Sto} (h : ¬ ((dflush d s).length : Int) = 0) {x : Stp} (hx : (dflush d s)[0]? = some x) : x.kind = 1 ∧ x.num = d.next ∧ x.part = memPart s.mem := by
 rw [(fz_s h).e] at hx
 cases hx
 exact ⟨rfl, rfl, rfl⟩
theorem fz_at1 {d : Dsk} {s : Sto} (h : ¬ ((dflush d s).length : Int) = 0) {x : Stp} (hx : (dflush d s)[1]? = some x) : x.kind = 2 ∧ x.list = d.list ++ [d.next] ∧ x.names = s.idx.names := by
 rw [(fz_s h).e] at hx
 cases hx
 exact ⟨rfl, rfl, rfl⟩
theorem fz_ok {d : Dsk} {s : Sto} (hs : SD s) (h : ¬ ((dflush d s).length : Int) = 0) : (flushP s).2 = true := by
 have q := fz_s h
 have hk := (fits_of q.f).sk
 have := q.l
 rw [flushJ_2 hs hk q.m (by omega)]
theorem fz_pt {d : Dsk} {s : Sto} (hs : SD s) (h : ¬ ((dflush d s).length : Int) = 0) : (flushP s).1.parts = s.parts ++ [memPart s.mem] := by
 rw [(flush_yes hs (fz_ok hs h)).1]; rfl
theorem fz_len {d : Dsk} {s : Sto} (hs : SD s) (h : ¬ ((dflush d s).length : Int) = 0) : s.parts.length < (flushP s).1.parts.length := by rw [fz_pt hs h]; simp
theorem fz_same {d : Dsk} {s : Sto} (hs : SD s) (h : ¬ ((dflush d s).length : Int) = 0) {x : Stp} (hx : (dflush d s)[0]? = some x) {p : Prt} (hp : (flushP s).1.parts[s.parts.length]? = some p) : (x.part == p) = true := by
 rw [fz_pt hs h] at hp
 simp at hp
 rw [(fz_at h hx).2.2, hp]
 exact beq_self_eq_true _
theorem fz_list {d : Dsk} {s : Sto} (h : ¬ ((dflush d s).length : Int) = 0) {x : Stp} (hx : (dflush d s)[1]? = some x) : (x.list == ([] ++ d.list) ++ [d.next]) = true := by
 rw [(fz_at1 h hx).2.1, List.nil_append]
 exact beq_self_eq_true _
theorem sg_parts {s : Sto} (h : SD s) {ps : List Prt} (h1 : ps.length ≤ 7) (h2 : ∀ p ∈ ps, PrtI p) : SG ⟨s.idx, ps, s.mem⟩ := by
 have g := SG.of h
 exact ⟨g.ix, h1, h2, g.nm2, g.mem⟩
theorem so_gen {s : Sto} (h : SD s) {ps : List Prt} (h1 : ps.length ≤ 7) (h2 : ∀ p ∈ ps, p ∈ s.parts) : SG ⟨s.idx, ps, s.mem⟩ := sg_parts h h1 (fun p hp => h.part p (h2 p hp))
theorem so_no {d : Dsk} {s : Sto} (h : ¬ ((dflush d s).length : Int) = 0) {ps : List Prt} (hl : ps.length ≠ s.parts.length) : dflush d ⟨s.idx, ps, s.mem⟩ = [] := by
 refine dflush_0 (fits_3l ?_).symm
 have := (fz_s h).p
 show (ps.length : Int) ≠ d.list.length
 omega
theorem so_sym {d : Dsk} {s : Sto} {ps : List Prt} (h : ¬ ((dflush d s).length : Int) = 0) (hl : ps.length ≠ s.parts.length) : (((dflush d ⟨⟨s.idx.names, s.idx.posts⟩, ps, s.mem⟩).length : Int) == 0) = true := by
 have e : dflush d ⟨⟨s.idx.names, s.idx.posts⟩, ps, s.mem⟩ = [] := so_no h hl
 rw [e]; rfl
theorem so_false {d : Dsk} {s : Sto} {ps : List Prt} (h : ¬ ((dflush d s).length : Int) = 0) (hl : ps.length ≠ s.parts.length) (h2 : ((dflush d ⟨⟨s.idx.names, s.idx.posts⟩, ps, s.mem⟩).length : Int) > 0) : False := by
 have e : dflush d ⟨⟨s.idx.names, s.idx.posts⟩, ps, s.mem⟩ = [] := so_no h hl
 rw [e] at h2
 exact absurd h2 (by decide)
theorem so_app {d : Dsk} {s : Sto} (hs : SD s) (h : ¬ ((dflush d s).length : Int) = 0) {x : Stp} (hx : (dflush d s)[0]? = some x) : SG ⟨s.idx, ([] ++ s.parts) ++ [x.part], s.mem⟩ := by
 refine sg_parts hs (by simp; have := hs.np; omega) (fun p hp => ?_)
 rw [List.nil_append] at hp
 rcases List.mem_append.1 hp with hp | hp
 ·exact hs.part p hp
 ·rw [List.mem_singleton] at hp
  rw [hp, (fz_at h hx).2.2]
  have h2 := flush_sd hs (fz_ok hs h)
  exact h2.part _ (by rw [fz_pt hs h]; simp)
end Go.Proofs.YtganlmloonielaaGreat
