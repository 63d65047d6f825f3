/- walks; squeezed -/
import Derived.Test.YtfnpaglcnmcnbaaGreatFluzMod18
set_option linter.unusedVariables false
set_option linter.unusedSimpArgs false
namespace Go.Proofs.YtfnpaglcnmcnbaaGreat
set_option maxRecDepth 100000
set_option maxHeartbeats 4000000
theorem c_impl_numberOf_1 (x : List Tag) (n : List Tag) {w : World} {F : Nat → Prop} {a1 : Option Addr} {n1 c1 : Nat} (h1 : RepS w F a1 n1 c1 x) {bq_n : Nat} {a2 : Option Addr} {c2 : Nat} (hb_n : Box w bq_n 31 [.slice a2 n.length c2]) (h2 : RepS w F a2 n.length c2 n)  : Calls Tryz.prog 121 [.slice a1 n1 c1, .pointer (some ⟨bq_n, 0, none⟩)].toArray w (rets fun rv w' => rv = .bool ((x == n)) ∧ Ext w w') := by
 refine goT Tryz.func121 ?_
 obtain ⟨rfl, J, h1⟩ := h1.tp
 replace h2 := h2.top (s := w.heap.size)
 have O := h2.max
 refine .s <| .g <| .r 1 <| .d <| .s <| .g <| .r 1 <| .lb hb_n <| .cl (c_slices_Equal_impl_Tag_impl_Tag x n h1.ta h2.ta (w := w) (F := all)) ?_
 rintro V W ⟨rfl, C⟩
 replace hb_n := (se [] C).g1 hb_n
 have E := C
 clear C
 exact .r 1 <| .d <| .rt Tryz.func121 Tryz.results121 (.bool (x == n)) ⟨(congrArg Value.bool (by simp_all)), E⟩
theorem c_IndexFunc_names (s : List (List Tag)) (n : List Tag) {w : World} {F : Nat → Prop} {a1 : Option Addr} {n1 c1 : Nat} (h1 : RepS w F a1 n1 c1 s) {bq_n : Nat} {a2 : Option Addr} {c2 : Nat} (hb_n : Box w bq_n 31 [.slice a2 n.length c2]) (h2 : RepS w F a2 n.length c2 n)  : Calls Tryz.prog 120 [.slice a1 n1 c1, .func (.func 121) #[] #[.pointer (some ⟨bq_n, 0, none⟩)]].toArray w (rets fun rv w' => rv = .int .i64 (idxN n 0 s) ∧ Ext w w') := by
 refine goT Tryz.func120 ?_
 obtain ⟨rfl, ai, h1⟩ := h1.tp
 replace h2 := h2.top (s := w.heap.size)
 have aj := h2.max
 refine .s <| .g <| .r 1 <| .d <| .s <| .s <| .g <| .r 3 <| .d <| .b 0 <| T.loop (X := Nat) 0 (fun k => [(0, .slice a1 s.length c1), (1, .func (.func 121) #[] #[.pointer (some ⟨bq_n, 0, none⟩)]), (7, vI (s.length : Int)), (8, vI (k : Int))]) (fun k J => Chg (ins []) w J ∧ (k ≤ s.length) ∧ (idxN n k (s.drop k) = idxN n 0 s)) (fun k => s.length - k) (by kernel_rfl) ⟨by kernel_rfl, by kernel_rfl, by kernel_rfl, by kernel_rfl, trivial⟩ ⟨Chg.refl _ _, (by simp), (by simp)⟩ ?_
 rintro k ar J ⟨C, ak, al⟩ O
 have W : Mv [] [] w J := Mv.inl C all_nil all_nil
 replace ⟨h1, h2, hb_n⟩ := (sp W C).g3 h1 h2 hb_n
 have E : Chg nil w J := Chg.stepI (Chg.refl nil w) C all_nil
 clear W
 refine .s <| .g <| .bp ((k : Int) < (s.length : Int)) (fun ac => ?_) (fun ac => .d <| .s <| .cf <| .x 0 rfl <| .s <| .g <| .r 1 <| .d <| .rt Tryz.func120 Tryz.results120 (vI (-1)) ⟨(congrArg (Value.int .i64) (by grind [idxN, drop_end])), E⟩)
 refine .d <| .s <| .ct <| .sk <| .s <| .b 1 <| .s <| .g <| .r 2 <| .d <| .s <| .g <| .r 3 ?_
 have ae : k < s.length := (by omega)
 refine .ix k 1 h1 ae ?_
 obtain ⟨aa, V⟩ : ∃ y, s[k]? = some y := ⟨_, List.getElem?_eq_getElem (by omega)⟩
 have am := drop_at V; have ah := List.mem_of_getElem? V
 obtain ⟨_, ⟨au, av, aw, rfl, ab⟩, af⟩ := h1.elem k aa V
 have ag := ab.len
 subst ag
 have ao := ab.max
 refine .lh 0 af <| .cl (c_impl_numberOf_1 aa n ab.ta hb_n h2.ta (w := J) (F := all)) ?_
 rintro ax ay ⟨rfl, Z⟩
 replace ⟨hb_n, E, C⟩ := (se [] Z).g3 hb_n E C
 clear Z
 cases aq : (aa == n)
 · exact .d <| .cf <| .sk <| .ib 1 <| .g <| .it ((k : Int) + 1) <| .r 1 <| .d <| O (k + 1) _ _ ⟨by kernel_rfl, by kernel_rfl, by kernel_rfl, by kernel_rfl, trivial⟩ ⟨C, (by omega), (by grind [idxN])⟩ (by first | omega | (simp only []; omega))
 exact .d <| .ct <| .s <| .g <| .r 2 <| .d <| .rt Tryz.func120 Tryz.results120 (vI (k : Int)) ⟨(congrArg (Value.int .i64) (by grind [idxN, drop_end])), E⟩
theorem c_impl_numberOf (names : List (List Tag)) (n : List Tag) {w : World} {F : Nat → Prop} {a1 : Option Addr} {n1 c1 : Nat} (h1 : RepS w F a1 n1 c1 names) {a2 : Option Addr} {n2 c2 : Nat} (h2 : RepS w F a2 n2 c2 n)  : Calls Tryz.prog 72 [.slice a1 n1 c1, .slice a2 n2 c2].toArray w (rets fun rv w' => rv = .int .i64 ((idxN n 0 names + 1)) ∧ Ext w w') := by
 refine goT Tryz.func72 ?_
 obtain ⟨rfl, aa, h1⟩ := h1.tp
 obtain ⟨rfl, ab, h2⟩ := h2.tp
 refine .s <| .g <| .np 31 [.slice a2 n.length c2] fun ac Z J C V W => ?_
 replace ⟨h1, h2⟩ := (sn [] C J).g2 h1 h2
 have E := C
 clear C W J
 refine .r 1 <| .d <| .s <| .g <| .r 2 <| .cl (c_IndexFunc_names names n h1.ta V h2.ta (w := Z) (F := all)) ?_
 rintro ae af ⟨rfl, O⟩
 replace E := (se [] O).g1 E
 clear O
 exact RG.int (idxN n 0 names + 1) (by kernel_rfl) (by have := idxN_le n names 0; omega) <| .r 1 <| .d <| .rt Tryz.func72 Tryz.results72 (vI (idxN n 0 names + 1)) ⟨(congrArg (Value.int .i64) (by rfl)), E⟩
theorem c_impl_indexOf_1 (p : Pst) (t : Tag) {w : World} {F : Nat → Prop} {a1 : Option Addr} {n1 c1 : Nat} (h1 : RepS w F a1 n1 c1 p.ids) {bq_t : Nat} (hb_t : Box w bq_t 112 [.string (bs t.key), .string (bs t.val)])  : Calls Tryz.prog 124 [.agg #[.string (bs p.tag.key), .string (bs p.tag.val), .slice a1 n1 c1], .pointer (some ⟨bq_t, 0, none⟩)].toArray w (rets fun rv w' => rv = .bool ((p.tag == t)) ∧ Ext w w') := by
 refine goT Tryz.func124 ?_
 obtain ⟨rfl, W, h1⟩ := h1.tp
 refine .s <| .g <| .np 130 [vT p.tag.key, vT p.tag.val, .slice a1 p.ids.length c1] fun Z aa E C J O => ?_
 replace hb_t := (se [] C).g1 hb_t
 have V := C
 clear C O E
 exact .r 1 <| .d <| .s <| .g <| .r 1 <| .ln J <| .ln hb_t <| RG.tagEq (t := 112) (x := p.tag) (y := t) (by kernel_rfl) (by kernel_rfl) <| .r 1 <| .d <| .rt Tryz.func124 Tryz.results124 (.bool (p.tag == t)) ⟨(congrArg Value.bool (by simp_all)), V⟩
theorem c_IndexFunc_posts (s : List Pst) (t : Tag) {w : World} {F : Nat → Prop} {a1 : Option Addr} {n1 c1 : Nat} (h1 : RepS w F a1 n1 c1 s) {bq_t : Nat} (hb_t : Box w bq_t 112 [.string (bs t.key), .string (bs t.val)])  : Calls Tryz.prog 123 [.slice a1 n1 c1, .func (.func 124) #[] #[.pointer (some ⟨bq_t, 0, none⟩)]].toArray w (rets fun rv w' => rv = .int .i64 (idxP t 0 s) ∧ Ext w w') := by
 refine goT Tryz.func123 ?_
 obtain ⟨rfl, ai, h1⟩ := h1.tp
 refine .s <| .g <| .r 1 <| .d <| .s <| .s <| .g <| .r 3 <| .d <| .b 0 <| T.loop (X := Nat) 0 (fun k => [(0, .slice a1 s.length c1), (1, .func (.func 124) #[] #[.pointer (some ⟨bq_t, 0, none⟩)]), (7, vI (s.length : Int)), (8, vI (k : Int))]) (fun k J => Chg (ins []) w J ∧ (k ≤ s.length) ∧ (idxP t k (s.drop k) = idxP t 0 s)) (fun k => s.length - k) (by kernel_rfl) ⟨by kernel_rfl, by kernel_rfl, by kernel_rfl, by kernel_rfl, trivial⟩ ⟨Chg.refl _ _, (by simp), (by simp)⟩ ?_
 rintro k aq J ⟨C, aj, ak⟩ O
 have W : Mv [] [] w J := Mv.inl C all_nil all_nil
 replace ⟨h1, hb_t⟩ := (sp W C).g2 h1 hb_t
 have E : Chg nil w J := Chg.stepI (Chg.refl nil w) C all_nil
 clear W
 refine .s <| .g <| .bp ((k : Int) < (s.length : Int)) (fun ac => ?_) (fun ac => .d <| .s <| .cf <| .x 0 rfl <| .s <| .g <| .r 1 <| .d <| .rt Tryz.func123 Tryz.results123 (vI (-1)) ⟨(congrArg (Value.int .i64) (by grind [idxP, drop_end])), E⟩)
 refine .d <| .s <| .ct <| .sk <| .s <| .b 1 <| .s <| .g <| .r 2 <| .d <| .s <| .g <| .r 3 ?_
 have ae : k < s.length := (by omega)
 refine .ix k 3 h1 ae ?_
 obtain ⟨aa, V⟩ : ∃ y, s[k]? = some y := ⟨_, List.getElem?_eq_getElem (by omega)⟩
 have al := drop_at V; have ah := List.mem_of_getElem? V
 obtain ⟨_, ⟨ar, au, av, rfl, ab⟩, af⟩ := h1.elem k aa V
 have ag := ab.len
 subst ag
 have am := ab.max
 refine .lg 0 af <| .cl (c_impl_indexOf_1 aa t ab.ta hb_t (w := J) (F := all)) ?_
 rintro aw ax ⟨rfl, Z⟩
 replace ⟨hb_t, E, C⟩ := (se [] Z).g3 hb_t E C
 clear Z
 cases ao : (aa.tag == t)
 · exact .d <| .cf <| .sk <| .ib 1 <| .g <| .it ((k : Int) + 1) <| .r 1 <| .d <| O (k + 1) _ _ ⟨by kernel_rfl, by kernel_rfl, by kernel_rfl, by kernel_rfl, trivial⟩ ⟨C, (by omega), (by grind [idxP])⟩ (by first | omega | (simp only []; omega))
 exact .d <| .ct <| .s <| .g <| .r 2 <| .d <| .rt Tryz.func123 Tryz.results123 (vI (k : Int)) ⟨(congrArg (Value.int .i64) (by grind [idxP, drop_end])), E⟩
theorem c_cmp_isNaN_string (x : Str) {w : World} {F : Nat → Prop}   : Calls Tryz.prog 161 [.string (bs x)].toArray w (rets fun rv w' => rv = .bool (false) ∧ Ext w w') := by
 exact goT Tryz.func161 <| .s <| .g <| .r 1 <| .d <| .s <| .g <| .r 2 <| RG.eqv (v := .bool (!(x == x))) (by kernel_rfl) (s_ne x x) <| .r 1 <| .d <| .rt Tryz.func161 Tryz.results161 (.bool (!(x == x))) ⟨(congrArg Value.bool (by simp)), (Chg.refl _ _)⟩
theorem c_cmp_Compare_string (x : Str) (y : Str) {w : World} {F : Nat → Prop}   : Calls Tryz.prog 128 [.string (bs x), .string (bs y)].toArray w (rets fun rv w' => rv = .int .i64 (cmpS x y) ∧ Ext w w') := by
 refine goT Tryz.func128 <| .s <| .g <| .r 1 <| .d <| .s <| .g <| .r 1 <| .cl (c_cmp_isNaN_string x (w := w) (F := all)) ?_
 rintro Z O ⟨rfl, E⟩
 have C := E
 clear E
 refine .r 1 <| .d <| .s <| .g <| .r 1 <| .cl (c_cmp_isNaN_string y (w := O) (F := all)) ?_
 rintro aa ab ⟨rfl, J⟩
 replace C := (se [] J).g1 C
 clear J
 refine .r 1 <| .d <| .s <| .s <| .g <| .r 1 <| .d <| .cf <| .sk <| .s <| .s <| .g <| .r 1 <| .d <| .cf <| .sk <| .s <| .s <| .g <| .r 2 <| RG.eqv (v := .bool ((strLt x y))) (by kernel_rfl) (s_lt x y) ?_
 cases V : (strLt x y)
 · refine .d <| .cf <| .sk <| .s <| .s <| .g <| .r 2 <| RG.eqv (v := .bool (!(strLe x y))) (by kernel_rfl) (s_gt x y) ?_
   cases W : (strLe x y)
   · exact .d <| .ct <| .s <| .g <| .r 1 <| .d <| .rt Tryz.func128 Tryz.results128 (vI 1) ⟨(congrArg (Value.int .i64) (by grind [cmpS, strLt_gt])), C⟩
   exact .d <| .cf <| .sk <| .s <| .g <| .r 1 <| .d <| .rt Tryz.func128 Tryz.results128 (vI 0) ⟨(congrArg (Value.int .i64) (by grind [cmpS, strLt_gt])), C⟩
 exact .d <| .ct <| .s <| .g <| .r 1 <| .d <| .rt Tryz.func128 Tryz.results128 (vI (-1)) ⟨(congrArg (Value.int .i64) (by grind [cmpS, strLt_gt])), C⟩
theorem c_cmp_Or_int (vals : List Int) {w : World} {F : Nat → Prop} {a1 : Option Addr} {n1 c1 : Nat} (h1 : RepS w F a1 n1 c1 vals)  : Calls Tryz.prog 127 [.slice a1 n1 c1].toArray w (rets fun rv w' => rv = .int .i64 (orF vals) ∧ Ext w w') := by
 refine goT Tryz.func127 ?_
 obtain ⟨rfl, ag, h1⟩ := h1.tp
 refine .s <| .g <| .r 1 <| .d <| .s <| .g <| .r 1 <| .d <| .s <| .s <| .g <| .r 3 <| .d <| .b 0 <| T.loop (X := Nat) 0 (fun k => [(3, vI 0), (6, .slice a1 vals.length c1), (7, vI (vals.length : Int)), (8, vI (k : Int))]) (fun k O => Chg (ins []) w O ∧ (k ≤ vals.length) ∧ (orF (vals.drop k) = orF vals)) (fun k => vals.length - k) (by kernel_rfl) ⟨by kernel_rfl, by kernel_rfl, by kernel_rfl, by kernel_rfl, trivial⟩ ⟨Chg.refl _ _, (by simp), (by simp)⟩ ?_
 rintro k ak O ⟨C, ah, ai⟩ E
 have V : Mv [] [] w O := Mv.inl C all_nil all_nil
 replace h1 := (sp V C).g1 h1
 have W : Chg nil w O := Chg.stepI (Chg.refl nil w) C all_nil
 clear V
 refine .s <| .g <| .bp ((k : Int) < (vals.length : Int)) (fun aa => ?_) (fun aa => .d <| .s <| .cf <| .x 0 rfl <| .s <| .g <| .r 2 <| .d <| .rt Tryz.func127 Tryz.results127 (vI 0) ⟨(congrArg (Value.int .i64) (by grind [orF, drop_end])), W⟩)
 refine .d <| .s <| .ct <| .sk <| .s <| .b 1 <| .s <| .g ?_
 have ab : k < vals.length := (by omega)
 refine .ix k 1 h1 ab ?_
 obtain ⟨Z, J⟩ : ∃ y, vals[k]? = some y := ⟨_, List.getElem?_eq_getElem (by omega)⟩
 have aj := drop_at J; have af := List.mem_of_getElem? J
 obtain ⟨_, rfl, ac⟩ := h1.elem k Z J
 exact .lh 0 ac <| .r 1 <| .d <| .s <| .g <| .r 2 <| .ne Z 0 (fun ae => .d <| .ct <| .s <| .g <| .r 2 <| .d <| .rt Tryz.func127 Tryz.results127 (vI Z) ⟨(congrArg (Value.int .i64) (by grind [orF, drop_end])), W⟩) fun ae => .d <| .cf <| .sk <| .ib 1 <| .g <| .it ((k : Int) + 1) <| .r 1 <| .d <| E (k + 1) _ _ ⟨by kernel_rfl, by kernel_rfl, by kernel_rfl, by kernel_rfl, trivial⟩ ⟨C, (by omega), (by grind [orF])⟩ (by first | omega | (simp only []; omega))
theorem c_impl_indexOf_2 (a : Pst) (b_ : Pst) {w : World} {F : Nat → Prop} {a1 : Option Addr} {n1 c1 : Nat} (h1 : RepS w F a1 n1 c1 a.ids) {a2 : Option Addr} {n2 c2 : Nat} (h2 : RepS w F a2 n2 c2 b_.ids)  : Calls Tryz.prog 126 [.agg #[.string (bs a.tag.key), .string (bs a.tag.val), .slice a1 n1 c1], .agg #[.string (bs b_.tag.key), .string (bs b_.tag.val), .slice a2 n2 c2]].toArray w (rets fun rv w' => rv = .int .i64 (cmpP a b_) ∧ Ext w w') := by
 refine goT Tryz.func126 ?_
 obtain ⟨rfl, aw, h1⟩ := h1.tp
 obtain ⟨rfl, ax, h2⟩ := h2.tp
 refine .s <| .g <| .np 130 [vT a.tag.key, vT a.tag.val, .slice a1 a.ids.length c1] fun aq az ae O E af => ?_
 have C := O
 clear O af ae
 refine .np 130 [vT b_.tag.key, vT b_.tag.val, .slice a2 b_.ids.length c2] fun ar aA ag V J ah => ?_
 replace ⟨E, C⟩ := (se [] V).g2 E C
 clear V ah ag
 refine .r 1 <| .d <| .s <| .gd nil 13 fun aB W => ?_
 replace ⟨E, J, C⟩ := (se [] W).g3 E J C
 clear W
 refine .r [0, 1] <| .lb 2 E id <| .r [3, 4] <| .lb 5 J id <| GA.call1 (i := 6) (by kernel_rfl) (fun au ay => c_cmp_Compare_string a.tag.key b_.tag.key (w := au) (F := all)) <| .r [7, 8] <| .lb 9 E id <| .r [10, 11] <| .lb 12 J id <| .d fun av Z => ?_
 replace C := (se [] Z).g1 C
 clear Z
 refine .cl (c_cmp_Compare_string a.tag.val b_.tag.val (w := av) (F := all)) ?_
 rintro aC aD ⟨rfl, aa⟩
 replace C := (se [] aa).g1 C
 clear aa
 refine .ns 2 3 [vI (cmpS a.tag.key b_.tag.key), vI (cmpS a.tag.val b_.tag.val)] fun ai aj ak ab al am => ?_
 replace C := (se [] ab).g1 C
 clear ab am ak
 have ao : Own (α := Int) aj ai 3 (nin (ge w.heap.size) [ai, ar, aq]) 2 2 [cmpS a.tag.key b_.tag.key, cmpS a.tag.val b_.tag.val] := Own.lit al rfl (by decide) ⟨rfl, rfl, rfl⟩
 refine .cl (c_cmp_Or_int ([cmpS a.tag.key b_.tag.key, cmpS a.tag.val b_.tag.val] : List Int) (ao.rep) (w := aj) (F := all)) ?_
 rintro aE aF ⟨rfl, ac⟩
 replace C := (se [] ac).g1 C
 clear ac
 exact .r 1 <| .d <| .rt Tryz.func126 Tryz.results126 (vI (orF ([cmpS a.tag.key b_.tag.key, cmpS a.tag.val b_.tag.val] : List Int))) ⟨(congrArg (Value.int .i64) (by rfl)), C⟩
theorem c_impl_IndexOk_1 (a : Pst) (b_ : Pst) {w : World} {F : Nat → Prop} {a1 : Option Addr} {n1 c1 : Nat} (h1 : RepS w F a1 n1 c1 a.ids) {a2 : Option Addr} {n2 c2 : Nat} (h2 : RepS w F a2 n2 c2 b_.ids)  : Calls Tryz.prog 118 [.agg #[.string (bs a.tag.key), .string (bs a.tag.val), .slice a1 n1 c1], .agg #[.string (bs b_.tag.key), .string (bs b_.tag.val), .slice a2 n2 c2]].toArray w (rets fun rv w' => rv = .bool ((a == b_)) ∧ Ext w w') := by
 refine goT Tryz.func118 ?_
 obtain ⟨rfl, ag, h1⟩ := h1.tp
 obtain ⟨rfl, ah, h2⟩ := h2.tp
 refine .s <| .g <| .np 130 [vT a.tag.key, vT a.tag.val, .slice a1 a.ids.length c1] fun ae aj O J E ab => ?_
 replace ⟨h1, h2⟩ := (sn [] J O).g2 h1 h2
 have C := J
 clear J ab O
 refine .np 130 [vT b_.tag.key, vT b_.tag.val, .slice a2 b_.ids.length c2] fun ak af V W Z ac => ?_
 replace ⟨h1, h2, E, C⟩ := (sn [ae] W V).g4 h1 h2 E C
 clear W ac V
 refine .r 1 <| .d <| .s <| .g <| .r 1 <| .ln E <| .r 1 <| .ln Z <| RG.tagEq (t := 112) (x := a.tag) (y := b_.tag) (by kernel_rfl) (by kernel_rfl) ?_
 cases ai : (a.tag == b_.tag)
 · exact .r 8 <| .d <| .rt Tryz.func118 Tryz.results118 (.bool false) ⟨(congrArg Value.bool (by first | exact pstEq_t (by assumption) | exact pstEq_f (by assumption))), C⟩
 refine .r 2 <| .lb E <| .r 1 <| .lb Z <| .cl (c_slices_Equal_int_int a.ids b_.ids h1.ta h2.ta (w := af) (F := all)) ?_
 rintro al am ⟨rfl, aa⟩
 replace C := (se [] aa).g1 C
 clear aa
 exact .r 2 <| .d <| .rt Tryz.func118 Tryz.results118 (.bool (a.ids == b_.ids)) ⟨(congrArg Value.bool (by first | exact pstEq_t (by assumption) | exact pstEq_f (by assumption))), C⟩
theorem c_EqualFunc_posts (s1 : List Pst) (s2 : List Pst) {w : World} {F : Nat → Prop} {a1 : Option Addr} {n1 c1 : Nat} (h1 : RepS w F a1 n1 c1 s1) {a2 : Option Addr} {n2 c2 : Nat} (h2 : RepS w F a2 n2 c2 s2)  : Calls Tryz.prog 117 [.slice a1 n1 c1, .slice a2 n2 c2, .func (.func 118) #[] #[]].toArray w (rets fun rv w' => rv = .bool ((s1 == s2)) ∧ Ext w w') := by
 refine goT Tryz.func117 ?_
 obtain ⟨rfl, aP, h1⟩ := h1.tp
 obtain ⟨rfl, aQ, h2⟩ := h2.tp
 refine .s <| .g <| .r 1 <| .d <| .s <| .s <| .g <| .r 4 <| .ne (s1.length : Int) (s2.length : Int) (fun aq => .d <| .ct <| .s <| .g <| .r 1 <| .d <| .rt Tryz.func117 Tryz.results117 (.bool false) ⟨(congrArg Value.bool (by grind [drop_end])), (Chg.refl _ _)⟩) fun aq => .d <| .cf <| .sk <| .s <| .s <| .g <| .r 3 <| .d <| .b 0 <| T.loop (X := Nat) 0 (fun k => [(1, .slice a2 s2.length c2), (2, .func (.func 118) #[] #[]), (15, .slice a1 s1.length c1), (16, vI (s1.length : Int)), (17, vI (k : Int))]) (fun k ag => Chg (ins []) w ag ∧ (k ≤ s1.length) ∧ (s1.drop k = s2.drop k ↔ s1 = s2)) (fun k => s1.length - k) (by kernel_rfl) ⟨by kernel_rfl, by kernel_rfl, by kernel_rfl, by kernel_rfl, by kernel_rfl, trivial⟩ ⟨Chg.refl _ _, (by simp), (by simp)⟩ ?_
 rintro k bg ag ⟨C, aR, aS⟩ ac
 have ah : Mv [] [] w ag := Mv.inl C all_nil all_nil
 replace ⟨h1, h2⟩ := (sp ah C).g2 h1 h2
 have E : Chg nil w ag := Chg.stepI (Chg.refl nil w) C all_nil
 clear ah
 refine .s <| .g <| .bp ((k : Int) < (s1.length : Int)) (fun ar => ?_) (fun ar => .d <| .s <| .cf <| .x 0 rfl <| .s <| .g <| .r 1 <| .d <| .rt Tryz.func117 Tryz.results117 (.bool true) ⟨(congrArg Value.bool (by grind [drop_end])), E⟩)
 refine .d <| .s <| .ct <| .sk <| .s <| .b 1 <| .s <| .g <| .r 1 ?_
 have au : k < s1.length := (by omega)
 refine .ix k 3 h1 au ?_
 obtain ⟨aa, ae⟩ : ∃ y, s1[k]? = some y := ⟨_, List.getElem?_eq_getElem (by omega)⟩
 have aT := drop_at ae; have aH := List.mem_of_getElem? ae
 obtain ⟨_, ⟨aJ, bh, aK, rfl, J⟩, av⟩ := h1.elem k aa ae
 have aw := J.len
 subst aw
 have aU := J.max
 refine .lg 0 av <| .np 130 [.string (bs []), .string (bs []), .slice none 0 0] fun ao bi Z ai ax ay => ?_
 have aV := E.cn Z
 have aW := C.cn Z
 replace ⟨h2, J, E, C⟩ := (sn [] ai Z).g4 h2 J E C
 clear ai ay Z
 refine .r 1 <| .sc [vT aa.tag.key, vT aa.tag.val, .slice aJ aa.ids.length aK] ax fun bj aj O az => ?_
 replace ⟨h2, J, E, C⟩ := (so [ao] aj).g4 h2 J E C
 clear aj az
 refine .d <| .s <| .g <| .r 2 ?_
 have aA : k < s2.length := (by omega)
 refine .ix k 3 h2 aA ?_
 obtain ⟨ab, af⟩ : ∃ y, s2[k]? = some y := ⟨_, List.getElem?_eq_getElem (by omega)⟩
 have aX := drop_at af; have aI := List.mem_of_getElem? af
 obtain ⟨_, ⟨aL, bk, aM, rfl, W⟩, aB⟩ := h2.elem k ab af
 have aC := W.len
 subst aC
 have aY := W.max
 refine .lg 0 aB <| .np 130 [.string (bs []), .string (bs []), .slice none 0 0] fun aN bm V ak aD aE => ?_
 have aZ := nb_new V O.lt
 have ba := E.cn V
 have bc := C.cn V
 replace ⟨J, O, W, E, C⟩ := (sn [ao] ak V).g5 J O W E C
 clear ak aE V
 refine .sc [vT ab.tag.key, vT ab.tag.val, .slice aL ab.ids.length aM] aD fun aO al aF aG => ?_
 replace ⟨J, O, W, E, C⟩ := (so [aN, ao] al).g5 J O W E C
 clear al aG
 refine .d <| .s <| .g <| .r 1 <| .ln O <| .ln aF <| .cl (c_impl_IndexOk_1 aa ab J.ta W.ta (w := aO) (F := all)) ?_
 rintro bn bo ⟨rfl, am⟩
 replace ⟨E, C⟩ := (se [] am).g2 E C
 clear am
 cases bd : (aa == ab)
 · exact .r 1 <| .d <| .ct <| .s <| .g <| .r 1 <| .d <| .rt Tryz.func117 Tryz.results117 (.bool false) ⟨(congrArg Value.bool (by grind [drop_end])), E⟩
 exact .r 1 <| .d <| .cf <| .sk <| .ib 1 <| .g <| .it ((k : Int) + 1) <| .r 1 <| .d <| ac (k + 1) _ _ ⟨by kernel_rfl, by kernel_rfl, by kernel_rfl, by kernel_rfl, by kernel_rfl, trivial⟩ ⟨C, (by omega), (by grind)⟩ (by first | omega | (simp only []; omega))
theorem c_impl_namesOk (names : List (List Tag)) {w : World} {F : Nat → Prop} {a1 : Option Addr} {n1 c1 : Nat} (h1 : RepS w F a1 n1 c1 names) (p0 : NmI names) : Calls Tryz.prog 116 [.slice a1 n1 c1].toArray w (rets fun rv w' => rv = .bool (true) ∧ Ext w w') := by
 refine goT Tryz.func116 ?_
 obtain ⟨rfl, al, h1⟩ := h1.tp
 refine .s <| .g <| .r 1 <| .d <| .s <| .s <| .g <| .r 3 <| .d <| .b 0 <| T.loop (X := Nat) 0 (fun k => [(0, .slice a1 names.length c1), (5, .slice a1 names.length c1), (6, vI (names.length : Int)), (7, vI (k : Int))]) (fun k O => Chg (ins []) w O ∧ (k ≤ names.length)) (fun k => names.length - k) (by kernel_rfl) ⟨by kernel_rfl, by kernel_rfl, by kernel_rfl, by kernel_rfl, trivial⟩ ⟨Chg.refl _ _, (by simp)⟩ ?_
 rintro k au O ⟨C, am⟩ V
 have aa : Mv [] [] w O := Mv.inl C all_nil all_nil
 replace h1 := (sp aa C).g1 h1
 have E : Chg nil w O := Chg.stepI (Chg.refl nil w) C all_nil
 clear aa
 refine .s <| .g <| .bp ((k : Int) < (names.length : Int)) (fun ae => ?_) (fun ae => .d <| .s <| .cf <| .x 0 rfl <| .s <| .g <| .r 4 <| .d <| .rt Tryz.func116 Tryz.results116 (.bool (decide ((names.length : Int) ≤ 6))) ⟨(congrArg Value.bool (by have := p0.len; simp; omega)), E⟩)
 refine .d <| .s <| .ct <| .sk <| .s <| .b 1 <| .s <| .g <| .r 1 ?_
 have af : k < names.length := (by omega)
 refine .ix k 1 h1 af ?_
 obtain ⟨W, Z⟩ : ∃ y, names[k]? = some y := ⟨_, List.getElem?_eq_getElem (by omega)⟩
 have ao := drop_at Z; have aj := List.mem_of_getElem? Z
 obtain ⟨_, ⟨av, aw, ax, rfl, J⟩, ag⟩ := h1.elem k W Z
 have ah := J.len
 subst ah
 have aq := J.max
 refine .lh 0 ag <| .r 2 <| .d <| .s <| .g <| .r 1 <| .cl (c_impl_NameOk W J.ta (w := O) (F := all)) ?_
 rintro ay ak ⟨rfl, ab⟩
 replace ⟨h1, J, E, C⟩ := (se [] ab).g4 h1 J E C
 clear ab
 cases ar : (nameOk W)
 · exact .r 9 <| .d <| .ct <| .s <| .g <| .r 1 <| .d <| .rt Tryz.func116 Tryz.results116 (.bool false) ⟨(congrArg Value.bool (by exfalso; first | exact namesNo p0 (by assumption) (.inl (by assumption)) | exact namesNo p0 (by assumption) (.inr (by assumption)))), E⟩
 refine .r 4 <| .cl (c_impl_numberOf names W h1.ta J.ta (w := ak) (F := all)) ?_
 rintro az aA ⟨rfl, ac⟩
 replace ⟨E, C⟩ := (se [] ac).g2 E C
 clear ac
 exact .r 1 <| .it ((k : Int) + 1) <| .ne (idxN W 0 names + 1) ((k : Int) + 1) (fun ai => .r 1 <| .d <| .ct <| .s <| .g <| .r 1 <| .d <| .rt Tryz.func116 Tryz.results116 (.bool false) ⟨(congrArg Value.bool (by exfalso; first | exact namesNo p0 (by assumption) (.inl (by assumption)) | exact namesNo p0 (by assumption) (.inr (by assumption)))), E⟩) fun ai => .r 1 <| .d <| .cf <| .sk <| .ib 1 <| .g <| .it ((k : Int) + 1) <| .r 1 <| .d <| V (k + 1) _ _ ⟨by kernel_rfl, by kernel_rfl, by kernel_rfl, by kernel_rfl, trivial⟩ ⟨C, (by omega)⟩ (by first | omega | (simp only []; omega))
end Go.Proofs.YtfnpaglcnmcnbaaGreat
