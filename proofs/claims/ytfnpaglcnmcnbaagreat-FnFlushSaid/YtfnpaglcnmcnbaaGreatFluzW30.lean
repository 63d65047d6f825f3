/- walks; squeezed -/
import Derived.Test.YtfnpaglcnmcnbaaGreatFluzMod30
set_option linter.unusedVariables false
set_option linter.unusedSimpArgs false
namespace Go.Proofs.YtfnpaglcnmcnbaaGreat
set_option maxRecDepth 100000
set_option maxHeartbeats 4000000
theorem c_impl_BlockCut (b : List Row) (from_ : Int) (to_ : Int) {w : World} {F : Nat → Prop} {a1 : Option Addr} {n1 c1 : Nat} (h1 : RepS w F a1 n1 c1 b) (p0 : b.length ≤ 1000000) : Calls Tryz.prog 38 [.slice a1 n1 c1, .int .i64 from_, .int .i64 to_].toArray w (rets fun rv w' => VL (ge w.heap.size) w' (cutI b from_ to_ : List Row) rv ∧ Ext w w') := by
 refine goT Tryz.func38 ?_
 obtain ⟨rfl, bj, h1⟩ := h1.tp
 refine .s <| .g <| .r 1 <| .d <| .s <| .g <| .ns 0 33 [] fun O aF ae ai aG aH => ?_
 have aq := gb_new ae (Nat.le_refl _)
 have aI : Cov nil w O := cov_new ae (Nat.le_refl _)
 replace h1 := (sn [] ai ae).g1 h1
 have C := ai
 clear ai aH ae
 have af : Own (α := Row) aF O 33 (nin (ge w.heap.size) [O]) 0 0 [] := Own.nil' aG
 refine .r 1 <| .d <| .s <| .s <| .g <| .r 1 <| .cl (c_impl_BlockOk b h1.ta (w := aF) (F := all)) ?_
 rintro bD aj ⟨rfl, ar⟩
 replace ⟨h1, af, C⟩ := (se [O] ar).g3 h1 af C
 clear ar
 cases bk : (blockOk b)
 · refine .r 1 <| .d <| .ct <| .s <| .g <| .r 2 <| .d ?_
   have bc := af.sl aq
   replace h1 := (sd aj [O] O).g1 h1
   exact .rt Tryz.func38 Tryz.results38 (vS O 0 0) ⟨(bc.vl (by unfold cutI; first | (rw [if_neg (by simp [*])]; done) | (rw [if_pos (by assumption)]; exact filterEnd (by assumption) (by omega))) (fun _ _ h => h.1)), C⟩
 refine .r 1 <| .d <| .cf <| .sk <| .s <| .s <| .g <| .r 3 <| .d <| .b 0 <| T.loop (X := (List Row) × Nat × Nat × Nat × Nat) (([] : List Row), O, 0, 0, 0) (fun (out, r_out, n_out, c_out, k) => [(1, vI from_), (2, vI to_), (7, vS r_out n_out c_out), (15, .slice a1 b.length c1), (16, vI (b.length : Int)), (17, vI (k : Int))]) (fun (out, r_out, n_out, c_out, k) ao => Chg (ins [O]) aj ao ∧ Own ao r_out 33 (nin (ge w.heap.size) [r_out]) n_out c_out out ∧ OrB r_out O aj.heap.size ∧ (k ≤ b.length) ∧ (out.length ≤ k) ∧ (out ++ (b.drop k).filter (fun r => inR r.t from_ to_) = cutB b from_ to_)) (fun (out, r_out, n_out, c_out, k) => b.length - k) (by kernel_rfl) ⟨by kernel_rfl, by kernel_rfl, by kernel_rfl, by kernel_rfl, by kernel_rfl, by kernel_rfl, trivial⟩ ⟨Chg.refl _ _, af, orb_refl, (by first | omega | rfl | simp), (by first | omega | rfl | simp), (by first | omega | rfl | simp)⟩ ?_
 rintro ⟨out, r_out, n_out, c_out, k⟩ bE ao ⟨J, E, W, bm, bn, bo⟩ aa
 have aJ := gb_or' W aq C.size
 have bq := cov_or' W aI C.size
 have aK : Cov (ins [O]) aj O := ⟨.inl (.head _)⟩
 have br := cov_or' W aK (Nat.le_refl _)
 have au : Mv [O] [r_out] aj ao := Mv.inl J (all_cons (.head _) all_nil) (all_cons (orb_mem W (.head _)) all_nil)
 replace ⟨h1, C⟩ := (sp au J).g2 h1 C
 clear au
 have bt := E.len; have bu := E.max
 refine .s <| .g <| .bp ((k : Int) < (b.length : Int)) (fun aL => ?_) (fun aL => ?_)
 · refine .d <| .s <| .ct <| .sk <| .s <| .b 1 <| .s <| .g ?_
   have aM : k < b.length := (by omega)
   refine .ix k 2 h1 aM ?_
   obtain ⟨Z, ak⟩ : ∃ y, b[k]? = some y := ⟨_, List.getElem?_eq_getElem (by omega)⟩
   have bv := drop_at ak; have ba := List.mem_of_getElem? ak
   obtain ⟨_, rfl, aN⟩ := h1.elem k Z ak
   refine .lg 0 aN <| .np 33 [vI 0, vI 0] fun ah bF ab av aO aP => ?_
   have bw := nb_new ab E.lt
   have bz := C.cn ab
   have bA := J.cn ab
   replace ⟨E, C, J⟩ := (sn [r_out] av ab).g3 E C J
   clear av aP ab
   refine .sc [vI Z.t, vI Z.v] aO fun bd aw ac aQ => ?_
   replace ⟨E, C, J⟩ := (so [ah, r_out] aw).g3 E C J
   clear aw aQ
   refine .d <| .s <| .g <| .r 1 <| .lb ac <| .r 2 <| .cl (c_impl_within Z.t from_ to_ (w := bd) (F := all)) ?_
   rintro bG aR ⟨rfl, ax⟩
   replace ⟨E, ac, C, J⟩ := (se [ah, r_out] ax).g4 E ac C J
   clear ax
   cases ay : (inR Z.t from_ to_)
   · have bB := inR_f ay
     refine .d <| .cf <| .sk <| .ib 1 <| .g <| .it ((k : Int) + 1) <| .r 1 <| .d ?_
     have aS : Mv [ah, r_out] [r_out] aR aR := Mv.less (all_cons (.tail _ (.head _)) all_nil)
     replace E := (sp aS (Chg.refl nil _)).g1 E
     exact aa (out, r_out, n_out, c_out, k + 1) _ _ ⟨by kernel_rfl, by kernel_rfl, by kernel_rfl, by kernel_rfl, by kernel_rfl, by kernel_rfl, trivial⟩ ⟨J, E, W, (by omega), (by first | omega | (simp; omega)), (by first | exact filterStep (by assumption) (by assumption) (by assumption) | exact filterSkip (by assumption) (by assumption) (by assumption))⟩ (by first | omega | (simp only []; omega))
   have bC := inR_t ay
   refine .d <| .ct <| .g <| .r 1 <| .ln ac <| .ns 1 33 [vI Z.t, vI Z.v] fun aT bH ag az aU aV => ?_
   have aA := nb_new ag E.lt
   have aW := nb_new ag ac.lt
   have aX := gb_new ag C.size
   replace ⟨E, C, J⟩ := (se [ah, r_out] az).g3 E C J
   clear az aV ag
   have al : nin (ge w.heap.size) [ah, r_out] aT ∧ aT ≠ r_out := hap_mk aX (all_cons aW (all_cons aA all_nil)) aA
   refine RG.append1 (T := 42) (ty := 42) (y := Z) E aU (by kernel_rfl) (by kernel_rfl) rfl al (by omega) fun aC bg aY V am aB => ?_
   have aD := orb_or am W J.size
   replace ⟨C, J⟩ := (s1 aB).g2 C J
   clear aB
   replace V := V.rn r_out
   clear am
   have bh := V.len; have bi := V.max
   refine .r 1 <| .d <| .ib 1 <| .g <| .it ((k : Int) + 1) <| .r 1 <| .d ?_
   have aE : Mv [ah, aC] [aC] aY aY := Mv.less (all_cons (.tail _ (.head _)) all_nil)
   replace V := (sp aE (Chg.refl nil _)).g1 V
   exact aa ((out ++ [Z]), aC, n_out + 1, bg, k + 1) _ _ ⟨by kernel_rfl, by kernel_rfl, by kernel_rfl, by kernel_rfl, by kernel_rfl, by kernel_rfl, trivial⟩ ⟨J, V, aD, (by omega), (by first | omega | (simp; omega)), (by first | exact filterStep (by assumption) (by assumption) (by assumption) | exact filterSkip (by assumption) (by assumption) (by assumption))⟩ (by first | omega | (simp only []; omega))
 refine .d <| .s <| .cf <| .x 0 rfl <| .s <| .g <| .r 2 <| .d ?_
 have aZ := E.sl aJ
 exact .rt Tryz.func38 Tryz.results38 (vS r_out n_out c_out) ⟨(aZ.vl (by unfold cutI; first | (rw [if_neg (by simp [*])]; done) | (rw [if_pos (by assumption)]; exact filterEnd (by assumption) (by omega))) (fun _ _ h => h.1)), C⟩
theorem c_impl_FilterOk (f : List Cnd) {w : World} {F : Nat → Prop} {a1 : Option Addr} {n1 c1 : Nat} (h1 : RepS w F a1 n1 c1 f)  : Calls Tryz.prog 134 [.slice a1 n1 c1].toArray w (rets fun rv w' => rv = .bool (filtOk f) ∧ Ext w w') := by
 refine goT Tryz.func134 ?_
 obtain ⟨rfl, aq, h1⟩ := h1.tp
 refine .s <| .g <| .r 1 <| .d <| .s <| .s <| .g <| .r 3 <| .d <| .b 0 <| T.loop (X := Nat) 0 (fun k => [(0, .slice a1 f.length c1), (5, .slice a1 f.length c1), (6, vI (f.length : Int)), (7, vI (k : Int))]) (fun k Z => Chg (ins []) w Z ∧ (k ≤ f.length) ∧ ((f.drop k).all (fun c => tagOk c.tag) = f.all (fun c => tagOk c.tag))) (fun k => f.length - k) (by kernel_rfl) ⟨by kernel_rfl, by kernel_rfl, by kernel_rfl, by kernel_rfl, trivial⟩ ⟨Chg.refl _ _, (by simp), (by simp)⟩ ?_
 rintro k az Z ⟨C, ar, au⟩ O
 have aa : Mv [] [] w Z := Mv.inl C all_nil all_nil
 replace h1 := (sp aa C).g1 h1
 have E : Chg nil w Z := Chg.stepI (Chg.refl nil w) C all_nil
 clear aa
 refine .s <| .g <| .bp ((k : Int) < (f.length : Int)) (fun af => ?_) (fun af => .d <| .s <| .cf <| .x 0 rfl <| .s <| .g <| .r 4 <| .d <| .rt Tryz.func134 Tryz.results134 (.bool (decide ((f.length : Int) ≤ 3))) ⟨(congrArg Value.bool (by first | exact filtOk_no (allNo (by assumption) (by assumption) (by assumption)) | exact filtOk_yes (allEnd (by assumption) (by omega)))), E⟩)
 refine .d <| .s <| .ct <| .sk <| .s <| .b 1 <| .s <| .g ?_
 have ag : k < f.length := (by omega)
 refine .ix k 3 h1 ag ?_
 obtain ⟨J, V⟩ : ∃ y, f[k]? = some y := ⟨_, List.getElem?_eq_getElem (by omega)⟩
 have av := drop_at V; have am := List.mem_of_getElem? V
 obtain ⟨_, rfl, ah⟩ := h1.elem k J V
 refine .lg 0 ah <| .np 124 [.string (bs []), .string (bs []), .bool false] fun aA aB W ab ai aj => ?_
 have aw := E.cn W
 have ax := C.cn W
 replace ⟨E, C⟩ := (se [] ab).g2 E C
 clear ab aj W
 refine .sc [vT J.tag.key, vT J.tag.val, .bool J.no] ai fun ao ac ak al => ?_
 replace ⟨E, C⟩ := (s1 ac).g2 E C
 clear ac al
 refine .d <| .s <| .g <| .r 1 <| .ln ak <| .cl (c_impl_tagOk J.tag (w := ao) (F := all)) ?_
 rintro aC aD ⟨rfl, ae⟩
 replace ⟨E, C⟩ := (se [] ae).g2 E C
 clear ae
 cases ay : (tagOk J.tag)
 · exact .r 1 <| .d <| .ct <| .s <| .g <| .r 1 <| .d <| .rt Tryz.func134 Tryz.results134 (.bool false) ⟨(congrArg Value.bool (by exact filtOk_no (allNo (by assumption) (by assumption) (by assumption)))), E⟩
 exact .r 1 <| .d <| .cf <| .sk <| .ib 1 <| .g <| .it ((k : Int) + 1) <| .r 1 <| .d <| O (k + 1) _ _ ⟨by kernel_rfl, by kernel_rfl, by kernel_rfl, by kernel_rfl, trivial⟩ ⟨C, (by omega), (by exact allStep (by assumption) (by assumption) (by assumption))⟩ (by first | omega | (simp only []; omega))
theorem c_slices_Index_impl_Tag_impl_Tag (s : List Tag) (v : Tag) {w : World} {F : Nat → Prop} {a1 : Option Addr} {n1 c1 : Nat} (h1 : RepS w F a1 n1 c1 s)  : Calls Tryz.prog 166 [.slice a1 n1 c1, .agg #[.string (bs v.key), .string (bs v.val)]].toArray w (rets fun rv w' => rv = .int .i64 (idxT v 0 s) ∧ Ext w w') := by
 refine goT Tryz.func166 ?_
 obtain ⟨rfl, ao, h1⟩ := h1.tp
 refine .s <| .g <| .np 112 [vT v.key, vT v.val] fun Z ah aa O J ai => ?_
 replace h1 := (sn [] O aa).g1 h1
 have C := O
 clear O ai aa
 refine .r 1 <| .d <| .s <| .s <| .g <| .r 3 <| .d <| .b 0 <| T.loop (X := Nat) 0 (fun k => [(0, .slice a1 s.length c1), (3, .pointer (some ⟨Z, 0, none⟩)), (7, vI (s.length : Int)), (8, vI (k : Int))]) (fun k af => Chg (ins []) ah af ∧ (k ≤ s.length) ∧ (idxT v k (s.drop k) = idxT v 0 s)) (fun k => s.length - k) (by kernel_rfl) ⟨by kernel_rfl, by kernel_rfl, by kernel_rfl, by kernel_rfl, trivial⟩ ⟨Chg.refl _ _, (by simp), (by simp)⟩ ?_
 rintro k aw af ⟨E, aq, ar⟩ V
 have ab : Mv [Z] [Z] ah af := Mv.inl E all_nil (all_cons (.inl (.head _)) all_nil)
 replace ⟨h1, J, C⟩ := (sp ab E).g3 h1 J C
 clear ab
 refine .s <| .g <| .bp ((k : Int) < (s.length : Int)) (fun aj => ?_) (fun aj => .d <| .s <| .cf <| .x 0 rfl <| .s <| .g <| .r 1 <| .d <| .rt Tryz.func166 Tryz.results166 (vI (-1)) ⟨(congrArg (Value.int .i64) (by grind [idxT, drop_end])), C⟩)
 refine .d <| .s <| .ct <| .sk <| .s <| .b 1 <| .s <| .g <| .r 2 <| .d <| .s <| .gd nil 5 fun ax ac => ?_
 replace ⟨h1, J, C, E⟩ := (se [Z] ac).g4 h1 J C E
 clear ac
 refine .ln 0 J id <| .r [1, 2] ?_
 have ak : k < s.length := (by omega)
 refine .ix 3 k 2 h1 ak ?_
 obtain ⟨ag, W⟩ : ∃ y, s[k]? = some y := ⟨_, List.getElem?_eq_getElem (by omega)⟩
 have au := drop_at W; have am := List.mem_of_getElem? W
 obtain ⟨_, rfl, al⟩ := h1.elem k ag W
 refine .lg 4 0 al id <| .d fun ay ae => ?_
 replace ⟨C, E⟩ := (se [] ae).g2 C E
 clear ae
 refine RG.tagEq (t := 112) (x := v) (y := ag) (by kernel_rfl) (by kernel_rfl) ?_
 cases av : (v == ag)
 · exact .d <| .cf <| .sk <| .ib 1 <| .g <| .it ((k : Int) + 1) <| .r 1 <| .d <| V (k + 1) _ _ ⟨by kernel_rfl, by kernel_rfl, by kernel_rfl, by kernel_rfl, trivial⟩ ⟨E, (by omega), (by grind [idxT])⟩ (by first | omega | (simp only []; omega))
 exact .d <| .ct <| .s <| .g <| .r 2 <| .d <| .rt Tryz.func166 Tryz.results166 (vI (k : Int)) ⟨(congrArg (Value.int .i64) (by grind [idxT, drop_end])), C⟩
theorem c_slices_Contains_impl_Tag_impl_Tag (s : List Tag) (v : Tag) {w : World} {F : Nat → Prop} {a1 : Option Addr} {n1 c1 : Nat} (h1 : RepS w F a1 n1 c1 s)  : Calls Tryz.prog 135 [.slice a1 n1 c1, .agg #[.string (bs v.key), .string (bs v.val)]].toArray w (rets fun rv w' => rv = .bool (has s v) ∧ Ext w w') := by
 refine goT Tryz.func135 ?_
 obtain ⟨rfl, aa, h1⟩ := h1.tp
 refine .s <| .g <| .np 112 [vT v.key, vT v.val] fun ab Z J C V W => ?_
 replace h1 := (sn [] C J).g1 h1
 have E := C
 clear C W J
 refine .r 1 <| .d <| .s <| .g <| .r 1 <| .ln V <| .cl (c_slices_Index_impl_Tag_impl_Tag s v h1.ta (w := Z) (F := all)) ?_
 rintro ac ae ⟨rfl, O⟩
 replace E := (se [] O).g1 E
 clear O
 exact .r 2 <| .d <| .rt Tryz.func135 Tryz.results135 (.bool (decide (idxT v 0 s ≥ 0))) ⟨(congrArg Value.bool (by exact (idxT_has v s 0).symm)), E⟩
theorem c_impl_FilterFits (f : List Cnd) (n : List Tag) {w : World} {F : Nat → Prop} {a1 : Option Addr} {n1 c1 : Nat} (h1 : RepS w F a1 n1 c1 f) {a2 : Option Addr} {n2 c2 : Nat} (h2 : RepS w F a2 n2 c2 n) (p0 : n.length ≤ 1000) : Calls Tryz.prog 85 [.slice a1 n1 c1, .slice a2 n2 c2].toArray w (rets fun rv w' => rv = .bool (fitsI f n) ∧ Ext w w') := by
 refine goT Tryz.func85 ?_
 obtain ⟨rfl, az, h1⟩ := h1.tp
 obtain ⟨rfl, aA, h2⟩ := h2.tp
 refine .s <| .g <| .r 1 <| .d <| .s <| .s <| .g <| .r 1 <| .cl (c_impl_FilterOk f h1.ta (w := w) (F := all)) ?_
 rintro aL ax ⟨rfl, W⟩
 replace ⟨h1, h2⟩ := (se [] W).g2 h1 h2
 have C := W
 clear W
 cases aB : (filtOk f)
 · exact .r 6 <| .d <| .ct <| .s <| .g <| .r 1 <| .d <| .rt Tryz.func85 Tryz.results85 (.bool false) ⟨(congrArg Value.bool (by unfold fitsI; first | (simp [*]; done) | (rw [allNo (f := fun c : Cnd => has n c.tag != c.no) (by assumption : (f.drop k).all _ = fits f n) (by assumption) (by simp_all)]; simp))), C⟩
 refine .r 3 <| .cl (c_impl_NameOk n h2.ta (w := ax) (F := all)) ?_
 rintro aM aj ⟨rfl, ab⟩
 replace ⟨h1, h2, C⟩ := (se [] ab).g3 h1 h2 C
 clear ab
 cases aC : (nameOk n)
 · exact .r 2 <| .d <| .ct <| .s <| .g <| .r 1 <| .d <| .rt Tryz.func85 Tryz.results85 (.bool false) ⟨(congrArg Value.bool (by unfold fitsI; first | (simp [*]; done) | (rw [allNo (f := fun c : Cnd => has n c.tag != c.no) (by assumption : (f.drop k).all _ = fits f n) (by assumption) (by simp_all)]; simp))), C⟩
 refine .r 2 <| .d <| .cf <| .sk <| .s <| .s <| .g <| .r 3 <| .d <| .b 0 <| T.loop (X := Nat) 0 (fun k => [(1, .slice a2 n.length c2), (15, .slice a1 f.length c1), (16, vI (f.length : Int)), (17, vI (k : Int))]) (fun k ai => Chg (ins []) aj ai ∧ (k ≤ f.length) ∧ (filtOk f = true) ∧ (nameOk n = true) ∧ ((f.drop k).all (fun c => has n c.tag != c.no) = fits f n)) (fun k => f.length - k) (by kernel_rfl) ⟨by kernel_rfl, by kernel_rfl, by kernel_rfl, by kernel_rfl, trivial⟩ ⟨Chg.refl _ _, (by first | omega | assumption | rfl), (by first | omega | assumption | rfl), (by first | omega | assumption | rfl), (by first | omega | assumption | rfl)⟩ ?_
 rintro k aN ai ⟨E, aD, aE, aF, aG⟩ Z
 have ac : Mv [] [] aj ai := Mv.inl E all_nil all_nil
 replace ⟨h1, h2, C⟩ := (sp ac E).g3 h1 h2 C
 clear ac
 refine .s <| .g <| .bp ((k : Int) < (f.length : Int)) (fun ak => ?_) (fun ak => .d <| .s <| .cf <| .x 0 rfl <| .s <| .g <| .r 1 <| .d <| .rt Tryz.func85 Tryz.results85 (.bool true) ⟨(congrArg Value.bool (by unfold fitsI; rw [allEnd (f := fun c : Cnd => has n c.tag != c.no) (by assumption : (f.drop k).all _ = fits f n) (by omega)]; simp [*])), C⟩)
 refine .d <| .s <| .ct <| .sk <| .s <| .b 1 <| .s <| .g ?_
 have al : k < f.length := (by omega)
 refine .ix k 3 h1 al ?_
 obtain ⟨J, aa⟩ : ∃ y, f[k]? = some y := ⟨_, List.getElem?_eq_getElem (by omega)⟩
 have aH := drop_at aa; have aw := List.mem_of_getElem? aa
 obtain ⟨_, rfl, am⟩ := h1.elem k J aa
 refine .lg 0 am <| .np 124 [.string (bs []), .string (bs []), .bool false] fun ao aO O ae aq ar => ?_
 have aI := C.cn O
 have aJ := E.cn O
 replace ⟨h2, C, E⟩ := (sn [] ae O).g3 h2 C E
 clear ae ar O
 refine .sc [vT J.tag.key, vT J.tag.val, .bool J.no] aq fun aP af V au => ?_
 replace ⟨h2, C, E⟩ := (so [ao] af).g3 h2 C E
 clear af au
 refine .d <| .s <| .gd nil 6 fun aQ ag => ?_
 replace ⟨h2, V, C, E⟩ := (se [ao] ag).g4 h2 V C E
 clear ag
 refine .r [0, 1] <| .ln 2 V id <| GA.call1 (i := 3) (by kernel_rfl) (fun ay av => c_slices_Contains_impl_Tag_impl_Tag n J.tag (h2.ta.ext av) (w := ay) (F := all)) <| .r [4] <| .lb 5 V id <| .d fun aR ah => ?_
 replace ⟨C, E⟩ := (se [] ah).g2 C E
 clear ah
 refine RG.eqv (v := .bool ((has n J.tag) == J.no)) (v' := .bool ((has n J.tag) == J.no)) (by kernel_rfl) (by rfl) ?_
 cases aK : ((has n J.tag) == J.no)
 · exact .d <| .cf <| .sk <| .ib 1 <| .g <| .it ((k : Int) + 1) <| .r 1 <| .d <| Z (k + 1) _ _ ⟨by kernel_rfl, by kernel_rfl, by kernel_rfl, by kernel_rfl, trivial⟩ ⟨E, (by omega), (by assumption), (by assumption), (by exact allStep (by assumption) (by assumption) (by simp_all))⟩ (by first | omega | (simp only []; omega))
 exact .d <| .ct <| .s <| .g <| .r 1 <| .d <| .rt Tryz.func85 Tryz.results85 (.bool false) ⟨(congrArg Value.bool (by unfold fitsI; first | (simp [*]; done) | (rw [allNo (f := fun c : Cnd => has n c.tag != c.no) (by assumption : (f.drop k).all _ = fits f n) (by assumption) (by simp_all)]; simp))), C⟩
theorem c_impl_IndexFind (ix : Idx) (f : List Cnd) {w : World} {F : Nat → Prop} {a1 : Option Addr} {n1 c1 : Nat} (h1 : RepS w F a1 n1 c1 ix.names) {a2 : Option Addr} {n2 c2 : Nat} (h2 : RepS w F a2 n2 c2 ix.posts) {a3 : Option Addr} {n3 c3 : Nat} (h3 : RepS w F a3 n3 c3 f) (p0 : IxI ix) (p1 : NsD ix.names) : Calls Tryz.prog 37 [.agg #[.slice a1 n1 c1, .slice a2 n2 c2], .slice a3 n3 c3].toArray w (rets fun rv w' => VL (ge w.heap.size) w' (findP (fitsI f) 0 ix.names : List Int) rv ∧ Ext w w') := by
 refine goT Tryz.func37 ?_
 obtain ⟨rfl, ba, h1⟩ := h1.tp
 obtain ⟨rfl, bc, h2⟩ := h2.tp
 obtain ⟨rfl, bd, h3⟩ := h3.tp
 refine .s <| .g <| .np 26 [.slice a1 ix.names.length c1, .slice a2 ix.posts.length c2] fun W bu am af E aB => ?_
 replace ⟨h1, h2, h3⟩ := (sn [] af am).g3 h1 h2 h3
 have C := af
 clear af aB am
 refine .r 1 <| .d <| .s <| .g <| .ns 0 3 [] fun Z aC aa ao aD aE => ?_
 have aF := nb_new aa E.lt
 have aG := gb_new aa C.size
 have aH := C.cn aa
 replace ⟨h1, h2, h3, E, C⟩ := (sn [W] ao aa).g5 h1 h2 h3 E C
 clear ao aE aa
 have ag : Own (α := Int) aC Z 3 (nin (ge w.heap.size) [Z, W]) 0 0 [] := Own.nil' aD
 refine .r 1 <| .d <| .s <| .s <| .g <| .ln E <| .cl (c_impl_IndexOk ix h1.ta h2.ta p0 p1 (w := aC) (F := all)) ?_
 rintro bv al ⟨rfl, aq⟩
 replace ⟨h1, h3, E, ag, C⟩ := (se [Z, W] aq).g5 h1 h3 E ag C
 clear aq
 refine .r 1 <| .d <| .cf <| .sk <| .s <| .s <| .g <| .r 1 <| .lb E <| .r 2 <| .d <| .b 0 <| T.loop (X := (List Int) × Nat × Nat × Nat × Nat) (([] : List Int), Z, 0, 0, 0) (fun (out, r_out, n_out, c_out, k) => [(1, .slice a3 f.length c3), (5, vS r_out n_out c_out), (14, .slice a1 ix.names.length c1), (15, vI (ix.names.length : Int)), (16, vI (k : Int))]) (fun (out, r_out, n_out, c_out, k) ah => Chg (ins [Z]) al ah ∧ Own ah r_out 3 (nin (ge w.heap.size) [r_out, W]) n_out c_out out ∧ OrB r_out Z al.heap.size ∧ (k ≤ ix.names.length) ∧ (out.length ≤ k) ∧ (out ++ findP (fitsI f) k (ix.names.drop k) = findP (fitsI f) 0 ix.names)) (fun (out, r_out, n_out, c_out, k) => ix.names.length - k) (by kernel_rfl) ⟨by kernel_rfl, by kernel_rfl, by kernel_rfl, by kernel_rfl, by kernel_rfl, trivial⟩ ⟨Chg.refl _ _, ag, orb_refl, (by first | omega | rfl | simp), (by first | omega | rfl | simp), (by first | omega | rfl | simp)⟩ ?_
 rintro ⟨out, r_out, n_out, c_out, k⟩ bw ah ⟨J, O, V, bg, bh, bi⟩ ab
 have bj := nb_or' V aF E.lt
 have aI := gb_or' V aG C.size
 have bk := cov_or' V aH C.size
 have aJ : Cov (ins [Z]) al Z := ⟨.inl (.head _)⟩
 have bm := cov_or' V aJ (Nat.le_refl _)
 have ar : Mv [Z, W] [r_out, W] al ah := Mv.inl J (all_cons (.head _) all_nil) (all_cons (orb_mem V (.head _)) (all_cons (.inl (.tail _ (.head _))) all_nil))
 replace ⟨h1, h3, E, C⟩ := (sp ar J).g4 h1 h3 E C
 clear ar
 have bn := O.len; have bo := O.max
 refine .s <| .g <| .bp ((k : Int) < (ix.names.length : Int)) (fun aK => ?_) (fun aK => ?_)
 · refine .d <| .s <| .ct <| .sk <| .s <| .b 1 <| .s <| .g <| .r 1 ?_
   have aL : k < ix.names.length := (by omega)
   refine .ix k 1 h1 aL ?_
   obtain ⟨ay, ai⟩ : ∃ y, ix.names[k]? = some y := ⟨_, List.getElem?_eq_getElem (by omega)⟩
   have bq := drop_at ai; have aU := List.mem_of_getElem? ai
   obtain ⟨_, ⟨bz, bA, bB, rfl, az⟩, aM⟩ := h1.elem k ay ai
   have aN := az.len
   subst aN
   have br := az.max
   refine .lh 0 aM <| .r 2 <| .d <| .s <| .g <| .r 2 <| .cl (c_impl_FilterFits f ay h3.ta az.ta (by have q1 := (p0.nm.sz _ (by assumption)).1; omega) (w := ah) (F := all)) ?_
   rintro bC bD ⟨rfl, au⟩
   replace ⟨E, O, C, J⟩ := (se [r_out, W] au).g4 E O C J
   clear au
   cases bt : (fitsI f ay)
   · exact .d <| .cf <| .sk <| .ib 1 <| .g <| RG.int ((k : Int) + 1) (by kernel_rfl) (by have q1 := p0.nm.len; omega) <| .r 1 <| .d <| ab (out, r_out, n_out, c_out, k + 1) _ _ ⟨by kernel_rfl, by kernel_rfl, by kernel_rfl, by kernel_rfl, by kernel_rfl, trivial⟩ ⟨J, O, V, (by omega), (by first | omega | (simp; omega)), (by first | exact findStep (by assumption) (by assumption) (by assumption) | exact findSkip (by assumption) (by assumption) (by assumption))⟩ (by first | omega | (simp only []; omega))
   refine .d <| .ct <| .g <| .r 2 <| RG.int ((k : Int) + 1) (by kernel_rfl) (by have q1 := p0.nm.len; omega) <| .ns 1 3 [vI ((k : Int) + 1)] fun aO bE ae av aP aQ => ?_
   have aR := nb_new ae E.lt
   have aw := nb_new ae O.lt
   have aS := gb_new ae C.size
   replace ⟨O, C, J⟩ := (se [r_out, W] av).g3 O C J
   clear av aQ ae
   have aj : nin (ge w.heap.size) [r_out, W] aO ∧ aO ≠ r_out := hap_mk aS (all_cons aw (all_cons aR all_nil)) aw
   refine RG.append1 (T := 68) (ty := 68) (y := (k : Int) + 1) O aP (by kernel_rfl) (by kernel_rfl) rfl aj (by have q1 := p0.nm.len; omega) fun aW aX bF ac ak ax => ?_
   have aA := orb_or ak V J.size
   replace ⟨C, J⟩ := (s1 ax).g2 C J
   clear ax
   replace ac := ac.rn r_out
   clear ak
   have aY := ac.len; have aZ := ac.max
   exact .r 1 <| .d <| .ib 1 <| .g <| RG.int ((k : Int) + 1) (by kernel_rfl) (by have q1 := p0.nm.len; omega) <| .r 1 <| .d <| ab ((out ++ [(k : Int) + 1]), aW, n_out + 1, aX, k + 1) _ _ ⟨by kernel_rfl, by kernel_rfl, by kernel_rfl, by kernel_rfl, by kernel_rfl, trivial⟩ ⟨J, ac, aA, (by omega), (by first | omega | (simp; omega)), (by first | exact findStep (by assumption) (by assumption) (by assumption) | exact findSkip (by assumption) (by assumption) (by assumption))⟩ (by first | omega | (simp only []; omega))
 refine .d <| .s <| .cf <| .x 0 rfl <| .s <| .g <| .r 2 <| .d ?_
 have aT := O.sl aI
 exact .rt Tryz.func37 Tryz.results37 (vS r_out n_out c_out) ⟨(aT.vl (by exact findEnd (by assumption) (by omega)) (fun _ _ h => h.1)), C⟩
end Go.Proofs.YtfnpaglcnmcnbaaGreat
