/- walks; squeezed -/
import Derived.Test.YtfnpaglcnmcnbaaGreatAskzMod30
set_option linter.unusedVariables false
set_option linter.unusedSimpArgs false
namespace Go.Proofs.YtfnpaglcnmcnbaaGreat
set_option maxRecDepth 100000
set_option maxHeartbeats 4000000
theorem c_spec_l2Cut (b : List Row) (from_ : Int) (to_ : Int) {w : World} {F : Nat → Prop} {a1 : Option Addr} {n1 c1 : Nat} (h1 : RepS w F a1 n1 c1 b) (p0 : b.length ≤ 1000000) : Calls Tryz.prog 133 [.slice a1 n1 c1, .int .i64 from_, .int .i64 to_].toArray w (rets fun rv w' => VL (ge w.heap.size) w' (cutB b from_ to_ : List Row) rv ∧ Ext w w') := by
 refine goT Tryz.func133 ?_
 obtain ⟨rfl, aP, h1⟩ := h1.tp
 refine .s <| .g <| .r 1 <| .d <| .s <| .g <| .ns 0 33 [] fun V ae ab af au av => ?_
 have aw := gb_new ab (Nat.le_refl _)
 have ax : Cov nil w V := cov_new ab (Nat.le_refl _)
 replace h1 := (sn [] af ab).g1 h1
 have C := af
 clear af av ab
 have ay : Own (α := Row) ae V 33 (nin (ge w.heap.size) [V]) 0 0 [] := Own.nil' au
 refine .r 1 <| .d <| .s <| .s <| .g <| .r 1 <| .d <| .b 0 <| T.loop (X := (List Row) × Nat × Nat × Nat × Nat) (([] : List Row), V, 0, 0, 0) (fun (out, r_out, n_out, c_out, i) => [(0, .slice a1 b.length c1), (1, vI from_), (2, vI to_), (7, vS r_out n_out c_out), (8, vI (i : Int))]) (fun (out, r_out, n_out, c_out, i) ag => Chg (ins [V]) ae ag ∧ Own ag r_out 33 (nin (ge w.heap.size) [r_out]) n_out c_out out ∧ OrB r_out V ae.heap.size ∧ (i ≤ b.length) ∧ (out.length ≤ i) ∧ (out ++ (b.drop i).filter (fun r => inR r.t from_ to_) = cutB b from_ to_)) (fun (out, r_out, n_out, c_out, i) => b.length - i) (by kernel_rfl) ⟨by kernel_rfl, by kernel_rfl, by kernel_rfl, by kernel_rfl, by kernel_rfl, trivial⟩ ⟨Chg.refl _ _, ay, orb_refl, (by first | omega | rfl | simp), (by first | omega | rfl | simp), (by first | omega | rfl | simp)⟩ ?_
 rintro ⟨out, r_out, n_out, c_out, i⟩ bd ag ⟨E, J, O, aQ, aR, aS⟩ W
 have az := gb_or' O aw C.size
 have aT := cov_or' O ax C.size
 have aA : Cov (ins [V]) ae V := ⟨.inl (.head _)⟩
 have aU := cov_or' O aA (Nat.le_refl _)
 have ak : Mv [V] [r_out] ae ag := Mv.inl E (all_cons (.head _) all_nil) (all_cons (orb_mem O (.head _)) all_nil)
 replace ⟨h1, C⟩ := (sp ak E).g2 h1 C
 clear ak
 have aV := J.len; have aW := J.max
 refine .s <| .s <| .g <| .r 3 <| .bp ((i : Int) < (b.length : Int)) (fun aB => ?_) (fun aB => ?_)
 · refine .d <| .ct <| .sk <| .s <| .b 1 <| .s <| .g <| .r 2 ?_
   have aC : i < b.length := (by omega)
   refine .ix i 2 h1 aC <| .r 1 ?_
   obtain ⟨Z, ac⟩ : ∃ y, b[i]? = some y := ⟨_, List.getElem?_eq_getElem (by omega)⟩
   have aX := drop_at ac; have aL := List.mem_of_getElem? ac
   obtain ⟨_, rfl, aD⟩ := h1.elem i Z ac
   refine .lh 0 aD <| .r 2 <| .cl (c_spec_l6In Z.t from_ to_ (w := ag) (F := all)) ?_
   rintro bg bh ⟨rfl, al⟩
   replace ⟨h1, J, C, E⟩ := (se [r_out] al).g4 h1 J C E
   clear al
   cases am : (inR Z.t from_ to_)
   · have aY := inR_f am
     exact .d <| .cf <| .sk <| .ib 1 <| .g <| .r 1 <| .it ((i : Int) + 1) <| .r 1 <| .d <| W (out, r_out, n_out, c_out, i + 1) _ _ ⟨by kernel_rfl, by kernel_rfl, by kernel_rfl, by kernel_rfl, by kernel_rfl, trivial⟩ ⟨E, J, O, (by omega), (by first | omega | (simp; omega)), (by first | exact filterStep (by assumption) (by assumption) (by assumption) | exact filterSkip (by assumption) (by assumption) (by assumption))⟩ (by first | omega | (simp only []; omega))
   have aZ := inR_t am
   refine .d <| .ct <| .g <| .r 3 ?_
   have aE : i < b.length := (by omega)
   refine .ix i 2 h1 aE ?_
   obtain ⟨_, rfl, aF⟩ := h1.elem i Z ac
   refine .lg 0 aF <| .ns 1 33 [vI Z.t, vI Z.v] fun aG bi ah ao aH aI => ?_
   have aq := nb_new ah J.lt
   have aJ := gb_new ah C.size
   replace ⟨J, C, E⟩ := (se [r_out] ao).g3 J C E
   clear ao aI ah
   have ai : nin (ge w.heap.size) [r_out] aG ∧ aG ≠ r_out := hap_mk aJ (all_cons aq all_nil) aq
   refine RG.append1 (T := 42) (ty := 42) (y := Z) J aH (by kernel_rfl) (by kernel_rfl) rfl ai (by omega) fun aM aN bj aa aj ar => ?_
   have aK := orb_or aj O E.size
   replace ⟨C, E⟩ := (s1 ar).g2 C E
   clear ar
   replace aa := aa.rn r_out
   clear aj
   have ba := aa.len; have bc := aa.max
   exact .r 1 <| .d <| .ib 1 <| .g <| .r 1 <| .it ((i : Int) + 1) <| .r 1 <| .d <| W ((out ++ [Z]), aM, n_out + 1, aN, i + 1) _ _ ⟨by kernel_rfl, by kernel_rfl, by kernel_rfl, by kernel_rfl, by kernel_rfl, trivial⟩ ⟨E, aa, aK, (by omega), (by first | omega | (simp; omega)), (by first | exact filterStep (by assumption) (by assumption) (by assumption) | exact filterSkip (by assumption) (by assumption) (by assumption))⟩ (by first | omega | (simp only []; omega))
 refine .d <| .cf <| .x 0 rfl <| .s <| .g <| .r 2 <| .d ?_
 have aO := J.sl az
 exact .rt Tryz.func133 Tryz.results133 (vS r_out n_out c_out) ⟨(aO.vl (by exact filterEnd (by assumption) (by omega)) (fun _ _ h => h.1)), C⟩
theorem c_impl_BlockCut (b : List Row) (from_ : Int) (to_ : Int) {w : World} {F : Nat → Prop} {a1 : Option Addr} {n1 c1 : Nat} (h1 : RepS w F a1 n1 c1 b) (p0 : b.length ≤ 1000000) : Calls Tryz.prog 38 [.slice a1 n1 c1, .int .i64 from_, .int .i64 to_].toArray w (rets fun rv w' => VL (ge w.heap.size) w' (cutI b from_ to_ : List Row) rv ∧ Ext w w') := by
 refine goT Tryz.func38 ?_
 obtain ⟨rfl, bj, h1⟩ := h1.tp
 refine .s <| .g <| .r 1 <| .d <| .s <| .g <| .ns 0 33 [] fun O aF ae ai aG aH => ?_
 have aq := gb_new ae (Nat.le_refl _)
 have aI : Cov nil w O := cov_new ae (Nat.le_refl _)
 replace h1 := (sn [] ai ae).g1 h1
 have C := ai
 clear ai aH ae
 have af : Own (α := Row) aF O 33 (nin (ge w.heap.size) [O]) 0 0 [] := Own.nil' aG
 refine .r 1 <| .d <| .s <| .s <| .g <| .r 1 <| .cl (c_impl_BlockOk b h1.ta (w := aF) (F := all)) ?_
 rintro bD aj ⟨rfl, ar⟩
 replace ⟨h1, af, C⟩ := (se [O] ar).g3 h1 af C
 clear ar
 cases bk : (blockOk b)
 · refine .r 1 <| .d <| .ct <| .s <| .g <| .r 2 <| .d ?_
   have bc := af.sl aq
   replace h1 := (sd aj [O] O).g1 h1
   exact .rt Tryz.func38 Tryz.results38 (vS O 0 0) ⟨(bc.vl (by unfold cutI; first | (rw [if_neg (by simp [*])]; done) | (rw [if_pos (by assumption)]; exact filterEnd (by assumption) (by omega))) (fun _ _ h => h.1)), C⟩
 refine .r 1 <| .d <| .cf <| .sk <| .s <| .s <| .g <| .r 3 <| .d <| .b 0 <| T.loop (X := (List Row) × Nat × Nat × Nat × Nat) (([] : List Row), O, 0, 0, 0) (fun (out, r_out, n_out, c_out, k) => [(1, vI from_), (2, vI to_), (7, vS r_out n_out c_out), (15, .slice a1 b.length c1), (16, vI (b.length : Int)), (17, vI (k : Int))]) (fun (out, r_out, n_out, c_out, k) ao => Chg (ins [O]) aj ao ∧ Own ao r_out 33 (nin (ge w.heap.size) [r_out]) n_out c_out out ∧ OrB r_out O aj.heap.size ∧ (k ≤ b.length) ∧ (out.length ≤ k) ∧ (out ++ (b.drop k).filter (fun r => inR r.t from_ to_) = cutB b from_ to_)) (fun (out, r_out, n_out, c_out, k) => b.length - k) (by kernel_rfl) ⟨by kernel_rfl, by kernel_rfl, by kernel_rfl, by kernel_rfl, by kernel_rfl, by kernel_rfl, trivial⟩ ⟨Chg.refl _ _, af, orb_refl, (by first | omega | rfl | simp), (by first | omega | rfl | simp), (by first | omega | rfl | simp)⟩ ?_
 rintro ⟨out, r_out, n_out, c_out, k⟩ bE ao ⟨J, E, W, bm, bn, bo⟩ aa
 have aJ := gb_or' W aq C.size
 have bq := cov_or' W aI C.size
 have aK : Cov (ins [O]) aj O := ⟨.inl (.head _)⟩
 have br := cov_or' W aK (Nat.le_refl _)
 have au : Mv [O] [r_out] aj ao := Mv.inl J (all_cons (.head _) all_nil) (all_cons (orb_mem W (.head _)) all_nil)
 replace ⟨h1, C⟩ := (sp au J).g2 h1 C
 clear au
 have bt := E.len; have bu := E.max
 refine .s <| .g <| .bp ((k : Int) < (b.length : Int)) (fun aL => ?_) (fun aL => ?_)
 · refine .d <| .s <| .ct <| .sk <| .s <| .b 1 <| .s <| .g ?_
   have aM : k < b.length := (by omega)
   refine .ix k 2 h1 aM ?_
   obtain ⟨Z, ak⟩ : ∃ y, b[k]? = some y := ⟨_, List.getElem?_eq_getElem (by omega)⟩
   have bv := drop_at ak; have ba := List.mem_of_getElem? ak
   obtain ⟨_, rfl, aN⟩ := h1.elem k Z ak
   refine .lg 0 aN <| .np 33 [vI 0, vI 0] fun ah bF ab av aO aP => ?_
   have bw := nb_new ab E.lt
   have bz := C.cn ab
   have bA := J.cn ab
   replace ⟨E, C, J⟩ := (sn [r_out] av ab).g3 E C J
   clear av aP ab
   refine .sc [vI Z.t, vI Z.v] aO fun bd aw ac aQ => ?_
   replace ⟨E, C, J⟩ := (so [ah, r_out] aw).g3 E C J
   clear aw aQ
   refine .d <| .s <| .g <| .r 1 <| .lb ac <| .r 2 <| .cl (c_impl_within Z.t from_ to_ (w := bd) (F := all)) ?_
   rintro bG aR ⟨rfl, ax⟩
   replace ⟨E, ac, C, J⟩ := (se [ah, r_out] ax).g4 E ac C J
   clear ax
   cases ay : (inR Z.t from_ to_)
   · have bB := inR_f ay
     refine .d <| .cf <| .sk <| .ib 1 <| .g <| .it ((k : Int) + 1) <| .r 1 <| .d ?_
     have aS : Mv [ah, r_out] [r_out] aR aR := Mv.less (all_cons (.tail _ (.head _)) all_nil)
     replace E := (sp aS (Chg.refl nil _)).g1 E
     exact aa (out, r_out, n_out, c_out, k + 1) _ _ ⟨by kernel_rfl, by kernel_rfl, by kernel_rfl, by kernel_rfl, by kernel_rfl, by kernel_rfl, trivial⟩ ⟨J, E, W, (by omega), (by first | omega | (simp; omega)), (by first | exact filterStep (by assumption) (by assumption) (by assumption) | exact filterSkip (by assumption) (by assumption) (by assumption))⟩ (by first | omega | (simp only []; omega))
   have bC := inR_t ay
   refine .d <| .ct <| .g <| .r 1 <| .ln ac <| .ns 1 33 [vI Z.t, vI Z.v] fun aT bH ag az aU aV => ?_
   have aA := nb_new ag E.lt
   have aW := nb_new ag ac.lt
   have aX := gb_new ag C.size
   replace ⟨E, C, J⟩ := (se [ah, r_out] az).g3 E C J
   clear az aV ag
   have al : nin (ge w.heap.size) [ah, r_out] aT ∧ aT ≠ r_out := hap_mk aX (all_cons aW (all_cons aA all_nil)) aA
   refine RG.append1 (T := 42) (ty := 42) (y := Z) E aU (by kernel_rfl) (by kernel_rfl) rfl al (by omega) fun aC bg aY V am aB => ?_
   have aD := orb_or am W J.size
   replace ⟨C, J⟩ := (s1 aB).g2 C J
   clear aB
   replace V := V.rn r_out
   clear am
   have bh := V.len; have bi := V.max
   refine .r 1 <| .d <| .ib 1 <| .g <| .it ((k : Int) + 1) <| .r 1 <| .d ?_
   have aE : Mv [ah, aC] [aC] aY aY := Mv.less (all_cons (.tail _ (.head _)) all_nil)
   replace V := (sp aE (Chg.refl nil _)).g1 V
   exact aa ((out ++ [Z]), aC, n_out + 1, bg, k + 1) _ _ ⟨by kernel_rfl, by kernel_rfl, by kernel_rfl, by kernel_rfl, by kernel_rfl, by kernel_rfl, trivial⟩ ⟨J, V, aD, (by omega), (by first | omega | (simp; omega)), (by first | exact filterStep (by assumption) (by assumption) (by assumption) | exact filterSkip (by assumption) (by assumption) (by assumption))⟩ (by first | omega | (simp only []; omega))
 refine .d <| .s <| .cf <| .x 0 rfl <| .s <| .g <| .r 2 <| .d ?_
 have aZ := E.sl aJ
 exact .rt Tryz.func38 Tryz.results38 (vS r_out n_out c_out) ⟨(aZ.vl (by unfold cutI; first | (rw [if_neg (by simp [*])]; done) | (rw [if_pos (by assumption)]; exact filterEnd (by assumption) (by omega))) (fun _ _ h => h.1)), C⟩
theorem c_spec_FilterOk (f : List Cnd) {w : World} {F : Nat → Prop} {a1 : Option Addr} {n1 c1 : Nat} (h1 : RepS w F a1 n1 c1 f)  : Calls Tryz.prog 36 [.slice a1 n1 c1].toArray w (rets fun rv w' => rv = .bool (filtOk f) ∧ Ext w w') := by
 refine goT Tryz.func36 ?_
 obtain ⟨rfl, ag, h1⟩ := h1.tp
 refine .s <| .g <| .r 1 <| .d <| .s <| .s <| .g <| .r 1 <| .d <| .b 0 <| T.loop (X := Nat) 0 (fun i => [(0, .slice a1 f.length c1), (3, vI (i : Int))]) (fun i J => Chg (ins []) w J ∧ (i ≤ f.length) ∧ ((f.drop i).all (fun c => tagOk c.tag) = f.all (fun c => tagOk c.tag))) (fun i => f.length - i) (by kernel_rfl) ⟨by kernel_rfl, by kernel_rfl, trivial⟩ ⟨Chg.refl _ _, (by simp), (by simp)⟩ ?_
 rintro i al J ⟨C, ah, ai⟩ O
 have W : Mv [] [] w J := Mv.inl C all_nil all_nil
 replace h1 := (sp W C).g1 h1
 have E : Chg nil w J := Chg.stepI (Chg.refl nil w) C all_nil
 clear W
 refine .s <| .s <| .g <| .r 3 <| .bp ((i : Int) < (f.length : Int)) (fun ab => ?_) (fun ab => .d <| .cf <| .x 0 rfl <| .s <| .g <| .r 4 <| .d <| .rt Tryz.func36 Tryz.results36 (.bool (decide ((f.length : Int) ≤ 3))) ⟨(congrArg Value.bool (by first | exact filtOk_no (allNo (by assumption) (by assumption) (by assumption)) | exact filtOk_yes (allEnd (by assumption) (by omega)))), E⟩)
 refine .d <| .ct <| .sk <| .s <| .b 1 <| .s <| .g <| .r 2 ?_
 have ac : i < f.length := (by omega)
 refine .ix i 3 h1 ac <| .r 1 ?_
 obtain ⟨aa, V⟩ : ∃ y, f[i]? = some y := ⟨_, List.getElem?_eq_getElem (by omega)⟩
 have aj := drop_at V; have af := List.mem_of_getElem? V
 obtain ⟨_, rfl, ae⟩ := h1.elem i aa V
 refine .lg 0 ae <| .cl (c_spec_l3Tag aa.tag (w := J) (F := all)) ?_
 rintro am ao ⟨rfl, Z⟩
 replace ⟨E, C⟩ := (se [] Z).g2 E C
 clear Z
 cases ak : (tagOk aa.tag)
 · exact .r 1 <| .d <| .ct <| .s <| .g <| .r 1 <| .d <| .rt Tryz.func36 Tryz.results36 (.bool false) ⟨(congrArg Value.bool (by exact filtOk_no (allNo (by assumption) (by assumption) (by assumption)))), E⟩
 exact .r 1 <| .d <| .cf <| .sk <| .ib 1 <| .g <| .r 1 <| .it ((i : Int) + 1) <| .r 1 <| .d <| O (i + 1) _ _ ⟨by kernel_rfl, by kernel_rfl, trivial⟩ ⟨C, (by omega), (by exact allStep (by assumption) (by assumption) (by assumption))⟩ (by first | omega | (simp only []; omega))
theorem c_impl_FilterOk (f : List Cnd) {w : World} {F : Nat → Prop} {a1 : Option Addr} {n1 c1 : Nat} (h1 : RepS w F a1 n1 c1 f)  : Calls Tryz.prog 134 [.slice a1 n1 c1].toArray w (rets fun rv w' => rv = .bool (filtOk f) ∧ Ext w w') := by
 refine goT Tryz.func134 ?_
 obtain ⟨rfl, aq, h1⟩ := h1.tp
 refine .s <| .g <| .r 1 <| .d <| .s <| .s <| .g <| .r 3 <| .d <| .b 0 <| T.loop (X := Nat) 0 (fun k => [(0, .slice a1 f.length c1), (5, .slice a1 f.length c1), (6, vI (f.length : Int)), (7, vI (k : Int))]) (fun k Z => Chg (ins []) w Z ∧ (k ≤ f.length) ∧ ((f.drop k).all (fun c => tagOk c.tag) = f.all (fun c => tagOk c.tag))) (fun k => f.length - k) (by kernel_rfl) ⟨by kernel_rfl, by kernel_rfl, by kernel_rfl, by kernel_rfl, trivial⟩ ⟨Chg.refl _ _, (by simp), (by simp)⟩ ?_
 rintro k az Z ⟨C, ar, au⟩ O
 have aa : Mv [] [] w Z := Mv.inl C all_nil all_nil
 replace h1 := (sp aa C).g1 h1
 have E : Chg nil w Z := Chg.stepI (Chg.refl nil w) C all_nil
 clear aa
 refine .s <| .g <| .bp ((k : Int) < (f.length : Int)) (fun af => ?_) (fun af => .d <| .s <| .cf <| .x 0 rfl <| .s <| .g <| .r 4 <| .d <| .rt Tryz.func134 Tryz.results134 (.bool (decide ((f.length : Int) ≤ 3))) ⟨(congrArg Value.bool (by first | exact filtOk_no (allNo (by assumption) (by assumption) (by assumption)) | exact filtOk_yes (allEnd (by assumption) (by omega)))), E⟩)
 refine .d <| .s <| .ct <| .sk <| .s <| .b 1 <| .s <| .g ?_
 have ag : k < f.length := (by omega)
 refine .ix k 3 h1 ag ?_
 obtain ⟨J, V⟩ : ∃ y, f[k]? = some y := ⟨_, List.getElem?_eq_getElem (by omega)⟩
 have av := drop_at V; have am := List.mem_of_getElem? V
 obtain ⟨_, rfl, ah⟩ := h1.elem k J V
 refine .lg 0 ah <| .np 124 [.string (bs []), .string (bs []), .bool false] fun aA aB W ab ai aj => ?_
 have aw := E.cn W
 have ax := C.cn W
 replace ⟨E, C⟩ := (se [] ab).g2 E C
 clear ab aj W
 refine .sc [vT J.tag.key, vT J.tag.val, .bool J.no] ai fun ao ac ak al => ?_
 replace ⟨E, C⟩ := (s1 ac).g2 E C
 clear ac al
 refine .d <| .s <| .g <| .r 1 <| .ln ak <| .cl (c_impl_tagOk J.tag (w := ao) (F := all)) ?_
 rintro aC aD ⟨rfl, ae⟩
 replace ⟨E, C⟩ := (se [] ae).g2 E C
 clear ae
 cases ay : (tagOk J.tag)
 · exact .r 1 <| .d <| .ct <| .s <| .g <| .r 1 <| .d <| .rt Tryz.func134 Tryz.results134 (.bool false) ⟨(congrArg Value.bool (by exact filtOk_no (allNo (by assumption) (by assumption) (by assumption)))), E⟩
 exact .r 1 <| .d <| .cf <| .sk <| .ib 1 <| .g <| .it ((k : Int) + 1) <| .r 1 <| .d <| O (k + 1) _ _ ⟨by kernel_rfl, by kernel_rfl, by kernel_rfl, by kernel_rfl, trivial⟩ ⟨C, (by omega), (by exact allStep (by assumption) (by assumption) (by assumption))⟩ (by first | omega | (simp only []; omega))
theorem c_spec_l3Fits (f : List Cnd) (n : List Tag) {w : World} {F : Nat → Prop} {a1 : Option Addr} {n1 c1 : Nat} (h1 : RepS w F a1 n1 c1 f) {a2 : Option Addr} {n2 c2 : Nat} (h2 : RepS w F a2 n2 c2 n)  : Calls Tryz.prog 165 [.slice a1 n1 c1, .slice a2 n2 c2].toArray w (rets fun rv w' => rv = .bool (fits f n) ∧ Ext w w') := by
 refine goT Tryz.func165 ?_
 obtain ⟨rfl, ak, h1⟩ := h1.tp
 obtain ⟨rfl, al, h2⟩ := h2.tp
 refine .s <| .g <| .r 1 <| .d <| .s <| .s <| .g <| .r 1 <| .d <| .b 0 <| T.loop (X := Nat) 0 (fun i => [(0, .slice a1 f.length c1), (1, .slice a2 n.length c2), (5, vI (i : Int))]) (fun i W => Chg (ins []) w W ∧ (i ≤ f.length) ∧ ((f.drop i).all (fun c => has n c.tag != c.no) = fits f n)) (fun i => f.length - i) (by kernel_rfl) ⟨by kernel_rfl, by kernel_rfl, by kernel_rfl, trivial⟩ ⟨Chg.refl _ _, (by first | omega | rfl | simp), (by first | omega | rfl | simp)⟩ ?_
 rintro i au W ⟨C, am, ao⟩ O
 have Z : Mv [] [] w W := Mv.inl C all_nil all_nil
 replace ⟨h1, h2⟩ := (sp Z C).g2 h1 h2
 have E : Chg nil w W := Chg.stepI (Chg.refl nil w) C all_nil
 clear Z
 refine .s <| .s <| .g <| .r 3 <| .bp ((i : Int) < (f.length : Int)) (fun ae => ?_) (fun ae => .d <| .cf <| .x 0 rfl <| .s <| .g <| .r 1 <| .d <| .rt Tryz.func165 Tryz.results165 (.bool true) ⟨(congrArg Value.bool (by exact (allEnd (f := fun c : Cnd => has n c.tag != c.no) (by assumption) (by omega)).symm)), E⟩)
 refine .d <| .ct <| .sk <| .s <| .b 1 <| .s <| .gd nil 12 fun av aa => ?_
 replace ⟨h1, h2, E, C⟩ := (se [] aa).g4 h1 h2 E C
 clear aa
 refine .r [0, 1, 2] ?_
 have af : i < f.length := (by omega)
 refine .ix 3 i 3 h1 af <| .r [4] ?_
 obtain ⟨J, V⟩ : ∃ y, f[i]? = some y := ⟨_, List.getElem?_eq_getElem (by omega)⟩
 have aq := drop_at V; have ai := List.mem_of_getElem? V
 obtain ⟨_, rfl, ab⟩ := h1.elem i J V
 refine .lg 5 0 ab id <| GA.call1 (i := 6) (by kernel_rfl) (fun aj ag => c_spec_l3Has n J.tag (h2.ta.ext ag) (w := aj) (F := all)) <| .r [7, 8] ?_
 have ah : i < f.length := (by omega)
 refine .ix 9 i 3 h1 ah <| .r [10] <| .lh 11 2 ab id <| .d fun aw ac => ?_
 replace ⟨E, C⟩ := (se [] ac).g2 E C
 clear ac
 refine RG.eqv (v := .bool ((has n J.tag) == J.no)) (v' := .bool ((has n J.tag) == J.no)) (by kernel_rfl) (by rfl) ?_
 cases ar : ((has n J.tag) == J.no)
 · exact .d <| .cf <| .sk <| .ib 1 <| .g <| .r 1 <| .it ((i : Int) + 1) <| .r 1 <| .d <| O (i + 1) _ _ ⟨by kernel_rfl, by kernel_rfl, by kernel_rfl, trivial⟩ ⟨C, (by omega), (by exact allStep (by assumption) (by assumption) (by simp_all))⟩ (by first | omega | (simp only []; omega))
 exact .d <| .ct <| .s <| .g <| .r 1 <| .d <| .rt Tryz.func165 Tryz.results165 (.bool false) ⟨(congrArg Value.bool (by exact (allNo (f := fun c : Cnd => has n c.tag != c.no) (by assumption) (by assumption) (by simp_all)).symm)), E⟩
theorem c_spec_l11Find (ix : Idx) (f : List Cnd) {w : World} {F : Nat → Prop} {a1 : Option Addr} {n1 c1 : Nat} (h1 : RepS w F a1 n1 c1 ix.names) {a2 : Option Addr} {n2 c2 : Nat} (h2 : RepS w F a2 n2 c2 ix.posts) {a3 : Option Addr} {n3 c3 : Nat} (h3 : RepS w F a3 n3 c3 f) (p0 : ix.names.length ≤ 1000) : Calls Tryz.prog 132 [.agg #[.slice a1 n1 c1, .slice a2 n2 c2], .slice a3 n3 c3].toArray w (rets fun rv w' => VL (ge w.heap.size) w' (findP (fits f) 0 ix.names : List Int) rv ∧ Ext w w') := by
 refine goT Tryz.func132 ?_
 obtain ⟨rfl, aV, h1⟩ := h1.tp
 obtain ⟨rfl, aW, h2⟩ := h2.tp
 obtain ⟨rfl, aX, h3⟩ := h3.tp
 refine .s <| .g <| .np 26 [.slice a1 ix.names.length c1, .slice a2 ix.posts.length c2] fun W bq al af E ay => ?_
 replace ⟨h1, h3⟩ := (sn [] af al).g2 h1 h3
 have C := af
 clear af ay al
 refine .r 1 <| .d <| .s <| .g <| .ns 0 3 [] fun Z ag aa am az aA => ?_
 have aB := nb_new aa E.lt
 have aC := gb_new aa C.size
 have aD := C.cn aa
 replace ⟨h1, h3, E, C⟩ := (sn [W] am aa).g4 h1 h3 E C
 clear am aA aa
 have aE : Own (α := Int) ag Z 3 (nin (ge w.heap.size) [Z, W]) 0 0 [] := Own.nil' az
 refine .r 1 <| .d <| .s <| .s <| .g <| .r 1 <| .d <| .b 0 <| T.loop (X := (List Int) × Nat × Nat × Nat × Nat) (([] : List Int), Z, 0, 0, 0) (fun (out, r_out, n_out, c_out, i) => [(1, .slice a3 f.length c3), (2, .pointer (some ⟨W, 0, none⟩)), (5, vS r_out n_out c_out), (6, vI (i : Int))]) (fun (out, r_out, n_out, c_out, i) ah => Chg (ins [Z]) ag ah ∧ Own ah r_out 3 (nin (ge w.heap.size) [r_out, W]) n_out c_out out ∧ OrB r_out Z ag.heap.size ∧ (i ≤ ix.names.length) ∧ (out.length ≤ i) ∧ (out ++ findP (fits f) i (ix.names.drop i) = findP (fits f) 0 ix.names)) (fun (out, r_out, n_out, c_out, i) => ix.names.length - i) (by kernel_rfl) ⟨by kernel_rfl, by kernel_rfl, by kernel_rfl, by kernel_rfl, trivial⟩ ⟨Chg.refl _ _, aE, orb_refl, (by first | omega | rfl | simp), (by first | omega | rfl | simp), (by first | omega | rfl | simp)⟩ ?_
 rintro ⟨out, r_out, n_out, c_out, i⟩ br ah ⟨J, O, V, aY, aZ, ba⟩ ab
 have bc := nb_or' V aB E.lt
 have aF := gb_or' V aC C.size
 have bd := cov_or' V aD C.size
 have aG : Cov (ins [Z]) ag Z := ⟨.inl (.head _)⟩
 have bg := cov_or' V aG (Nat.le_refl _)
 have ao : Mv [Z, W] [r_out, W] ag ah := Mv.inl J (all_cons (.head _) all_nil) (all_cons (orb_mem V (.head _)) (all_cons (.inl (.tail _ (.head _))) all_nil))
 replace ⟨h1, h3, E, C⟩ := (sp ao J).g4 h1 h3 E C
 clear ao
 have bh := O.len; have bi := O.max
 refine .s <| .s <| .g <| .r 2 <| .lb E <| .r 1 <| .bp ((i : Int) < (ix.names.length : Int)) (fun aH => ?_) (fun aH => ?_)
 · refine .d <| .ct <| .sk <| .s <| .b 1 <| .s <| .g <| .r 2 <| .lb E <| .r 1 ?_
   have aI : i < ix.names.length := (by omega)
   refine .ix i 1 h1 aI ?_
   obtain ⟨aw, ai⟩ : ∃ y, ix.names[i]? = some y := ⟨_, List.getElem?_eq_getElem (by omega)⟩
   have bj := drop_at ai; have aS := List.mem_of_getElem? ai
   obtain ⟨_, ⟨bt, bu, bv, rfl, ax⟩, aJ⟩ := h1.elem i aw ai
   have aK := ax.len
   subst aK
   have bk := ax.max
   refine .lh 0 aJ <| .cl (c_spec_l3Fits f aw h3.ta ax.ta (w := ah) (F := all)) ?_
   rintro bw bz ⟨rfl, aq⟩
   replace ⟨E, O, C, J⟩ := (se [r_out, W] aq).g4 E O C J
   clear aq
   cases bm : (fits f aw)
   · exact .d <| .cf <| .sk <| .ib 1 <| .g <| .r 1 <| .it ((i : Int) + 1) <| .r 1 <| .d <| ab (out, r_out, n_out, c_out, i + 1) _ _ ⟨by kernel_rfl, by kernel_rfl, by kernel_rfl, by kernel_rfl, trivial⟩ ⟨J, O, V, (by omega), (by first | omega | (simp; omega)), (by first | exact findStep (by assumption) (by assumption) (by assumption) | exact findSkip (by assumption) (by assumption) (by assumption))⟩ (by first | omega | (simp only []; omega))
   refine .d <| .ct <| .g <| .r 2 <| .it ((i : Int) + 1) <| .ns 1 3 [vI ((i : Int) + 1)] fun aL bA ae ar aM aN => ?_
   have aO := nb_new ae E.lt
   have au := nb_new ae O.lt
   have aP := gb_new ae C.size
   replace ⟨O, C, J⟩ := (se [r_out, W] ar).g3 O C J
   clear ar aN ae
   have aj : nin (ge w.heap.size) [r_out, W] aL ∧ aL ≠ r_out := hap_mk aP (all_cons au (all_cons aO all_nil)) au
   refine RG.append1 (T := 68) (ty := 68) (y := (i : Int) + 1) O aM (by kernel_rfl) (by kernel_rfl) rfl aj (by omega) fun aT aU bB ac ak av => ?_
   have aQ := orb_or ak V J.size
   replace ⟨C, J⟩ := (s1 av).g2 C J
   clear av
   replace ac := ac.rn r_out
   clear ak
   have bn := ac.len; have bo := ac.max
   exact .r 1 <| .d <| .ib 1 <| .g <| .r 1 <| .it ((i : Int) + 1) <| .r 1 <| .d <| ab ((out ++ [(i : Int) + 1]), aT, n_out + 1, aU, i + 1) _ _ ⟨by kernel_rfl, by kernel_rfl, by kernel_rfl, by kernel_rfl, trivial⟩ ⟨J, ac, aQ, (by omega), (by first | omega | (simp; omega)), (by first | exact findStep (by assumption) (by assumption) (by assumption) | exact findSkip (by assumption) (by assumption) (by assumption))⟩ (by first | omega | (simp only []; omega))
 refine .d <| .cf <| .x 0 rfl <| .s <| .g <| .r 2 <| .d ?_
 have aR := O.sl aF
 exact .rt Tryz.func132 Tryz.results132 (vS r_out n_out c_out) ⟨(aR.vl (by exact findEnd (by assumption) (by omega)) (fun _ _ h => h.1)), C⟩
theorem c_spec_l13Ask (s : Sto) (f : List Cnd) (from_ : Int) (to_ : Int) {w : World} {F : Nat → Prop} {a1 : Option Addr} {n1 c1 : Nat} (h1 : RepS w F a1 n1 c1 s.idx.names) {a2 : Option Addr} {n2 c2 : Nat} (h2 : RepS w F a2 n2 c2 s.idx.posts) {a3 : Option Addr} {n3 c3 : Nat} (h3 : RepS w F a3 n3 c3 s.parts) {a4 : Option Addr} {n4 c4 : Nat} (h4 : RepS w F a4 n4 c4 s.mem) {a5 : Option Addr} {n5 c5 : Nat} (h5 : RepS w F a5 n5 c5 f) (p0 : SD s) (p1 : storeOk s = true) : Calls Tryz.prog 84 [.agg #[.slice a1 n1 c1, .slice a2 n2 c2, .slice a3 n3 c3, .slice a4 n4 c4], .slice a5 n5 c5, .int .i64 from_, .int .i64 to_].toArray w (rets fun rv w' => VL (ge w.heap.size) w' (askP (fits f) s from_ to_ : List Hit) rv ∧ Ext w w') := by
 refine goT Tryz.func84 ?_
 obtain ⟨rfl, bU, h1⟩ := h1.tp
 obtain ⟨rfl, bV, h2⟩ := h2.tp
 obtain ⟨rfl, bW, h3⟩ := h3.tp
 obtain ⟨rfl, bX, h4⟩ := h4.tp
 obtain ⟨rfl, bY, h5⟩ := h5.tp
 refine .s <| .g <| .np 30 [.slice a1 s.idx.names.length c1, .slice a2 s.idx.posts.length c2, .slice a3 s.parts.length c3, .slice a4 s.mem.length c4] fun Z cv aK aw E bm => ?_
 replace ⟨h1, h2, h3, h4, h5⟩ := (sn [] aw aK).g5 h1 h2 h3 h4 h5
 have C := aw
 clear aw bm aK
 refine .r 1 <| .d <| .s <| .g <| .ns 0 66 [] fun af aV ai aL bn bo => ?_
 have bq := nb_new ai E.lt
 have br := gb_new ai C.size
 have bt := C.cn ai
 replace ⟨h1, h2, h3, h4, h5, E, C⟩ := (sn [Z] aL ai).g7 h1 h2 h3 h4 h5 E C
 clear aL bo ai
 have ao : Own (α := Hit) aV af 66 (nin (ge w.heap.size) [af, Z]) 0 0 [] := Own.nil' bn
 refine .r 1 <| .d <| .s <| .g <| .r 1 <| .ln E <| .r 1 <| .cl (c_spec_l11Find s.idx f h1.ta h2.ta h5.ta (by have q1 := p0.nm.len; omega) (w := aV) (F := all)) ?_
 rintro cw aI ⟨⟨bN, bO, rfl, W⟩, aM⟩
 have aN := al2 ao.lt E.lt
 have bu : Gb w.heap.size aV.heap.size := C.size
 replace ⟨h1, h2, h3, h4, E, ao, C⟩ := (se [af, Z] aM).g7 h1 h2 h3 h4 E ao C
 clear aM
 have W := W.fr aN bu
 have bZ := W.max
 clear aN
 refine .r 1 <| .d <| .s <| .s <| .g <| .r 1 <| .d <| .b 0 <| T.loop (X := (List Hit) × Nat × Nat × Nat × Nat) (([] : List Hit), af, 0, 0, 0) (fun (out, r_out, n_out, c_out, i) => [(2, vI from_), (3, vI to_), (4, .pointer (some ⟨Z, 0, none⟩)), (9, vS r_out n_out c_out), (10, .slice bN ((findP (fits f) 0 s.idx.names).length) bO), (11, vI (i : Int))]) (fun (out, r_out, n_out, c_out, i) aJ => Chg (ins [af]) aI aJ ∧ Own aJ r_out 66 (nin (ge w.heap.size) [r_out, Z]) n_out c_out out ∧ OrB r_out af aI.heap.size ∧ (i ≤ (findP (fits f) 0 s.idx.names).length) ∧ (out.length ≤ i) ∧ (out ++ ((findP (fits f) 0 s.idx.names).drop i).flatMap (hit1 s from_ to_) = askP (fits f) s from_ to_)) (fun (out, r_out, n_out, c_out, i) => (findP (fits f) 0 s.idx.names).length - i) (by kernel_rfl) ⟨by kernel_rfl, by kernel_rfl, by kernel_rfl, by kernel_rfl, by kernel_rfl, by kernel_rfl, trivial⟩ ⟨Chg.refl _ _, ao, orb_refl, (by first | omega | rfl | simp), (by first | omega | rfl | simp), (by first | omega | rfl | simp)⟩ ?_
 rintro ⟨out, r_out, n_out, c_out, i⟩ cx aJ ⟨O, J, ab, b0, b6, b7⟩ aj
 have bv := nb_or' ab bq E.lt
 have bw := gb_or' ab br C.size
 have b8 := cov_or' ab bt C.size
 have bz : Cov (ins [af]) aI af := ⟨.inl (.head _)⟩
 have b9 := cov_or' ab bz (Nat.le_refl _)
 have aO : Mv [af, Z] [r_out, Z] aI aJ := Mv.inl O (all_cons (.head _) all_nil) (all_cons (orb_mem ab (.head _)) (all_cons (.inl (.tail _ (.head _))) all_nil))
 replace ⟨h1, h2, h3, h4, E, W, C⟩ := (sp aO O).g7 h1 h2 h3 h4 E W C
 clear aO
 have cd := J.len; have ce := J.max
 refine .s <| .s <| .g <| .r 3 <| .bp ((i : Int) < (((findP (fits f) 0 s.idx.names).length) : Int)) (fun bA => ?_) (fun bA => ?_)
 · refine .d <| .ct <| .sk <| .s <| .b 1 <| .s <| .gd nil 8 fun cy aP => ?_
   replace ⟨h1, h2, h3, h4, E, J, W, C, O⟩ := (se [r_out, Z] aP).g9 h1 h2 h3 h4 E J W C O
   clear aP
   refine .ln 0 E id <| .r [1, 2] ?_
   have aQ : i < (findP (fits f) 0 s.idx.names).length := (by first | omega | (have q1 := findP_in (by assumption : _ ∈ findP _ 0 s.idx.names); omega))
   refine GA.idx (i := 3) i (len := (findP (fits f) 0 s.idx.names).length) (z := (i : Int)) (sz := 1) (by kernel_rfl) (by first | omega | (have q1 := findP_in (by assumption : _ ∈ findP _ 0 s.idx.names); omega)) aQ (W.addr (Nat.zero_lt_of_lt aQ)) ?_
   obtain ⟨aa, ak⟩ : ∃ y, (findP (fits f) 0 s.idx.names)[i]? = some y := ⟨_, List.getElem?_eq_getElem (by first | omega | (have q1 := findP_in (by assumption : _ ∈ findP _ 0 s.idx.names); omega))⟩
   have cg := drop_at ak; have bM := List.mem_of_getElem? ak
   obtain ⟨_, rfl, bB⟩ := W.elem i aa ak
   refine .lh 4 0 bB id <| .r [6, 7] <| .go 5 <| .cl (fun aW ae => c_spec_l13Rows s aa (h1.ta.ext ae) (h2.ta.ext ae) (h3.ta.ext ae) (h4.ta.ext ae) (by have := p0.np; omega) (fun p hp => (p0.part p hp).sz) (by have := p0.nm2; omega) (w := aW) (F := all)) ?_
   intro aW ae
   replace ⟨h1, E, J, W, C, O⟩ := (se [r_out, Z] ae).g6 h1 E J W C O
   rintro cz cA ⟨⟨cB, cC, rfl, au⟩, ax⟩
   have aR := al2 J.lt E.lt
   have bC : Gb w.heap.size aW.heap.size := C.size
   have hkeep_ := ax
   replace ⟨h1, E, J, W, C, O⟩ := (se [r_out, Z] ax).g6 h1 E J W C O
   clear ax
   refine ⟨Ext.chg hkeep_, ?_⟩
   have au := au.fr aR bC
   have ci := au.max
   clear aR
   refine .d fun bD aS => ?_
   replace ⟨h1, E, J, W, au, C, O⟩ := (se [r_out, Z] aS).g7 h1 E J W au C O
   clear aS
   refine .cl (c_spec_l2Cut (rowsOf s aa) from_ to_ au.ta (Nat.le_trans (blk_of p0 p1 _).len (by omega)) (w := bD) (F := all)) ?_
   rintro cD bE ⟨⟨bF, bG, rfl, V⟩, aT⟩
   have ay := al2 J.lt E.lt
   have aX : Gb w.heap.size bD.heap.size := C.size
   replace ⟨h1, E, J, W, C, O⟩ := (se [r_out, Z] aT).g6 h1 E J W C O
   clear aT
   have V := V.fr ay aX
   have bP := V.max
   clear ay
   refine .r 1 <| .d <| .s <| .g <| .r 2 <| .bp ((((cutB (rowsOf s aa) from_ to_).length) : Int) > 0) (fun aY => ?_) (fun aY => .d <| .cf <| .sk <| .ib 1 <| .g <| .r 1 <| RG.int ((i : Int) + 1) (by kernel_rfl) (by first | omega | (have q1 := findP_in (by assumption : _ ∈ findP _ 0 s.idx.names); omega)) <| .r 1 <| .d <| aj (out, r_out, n_out, c_out, i + 1) _ _ ⟨by kernel_rfl, by kernel_rfl, by kernel_rfl, by kernel_rfl, by kernel_rfl, by kernel_rfl, trivial⟩ ⟨O, J, ab, (by omega), (by first | omega | (simp; omega)), (by first | exact askStep (by assumption) (by assumption) rfl (by assumption) (by assumption) | exact askSkip (by assumption) (by assumption) rfl (by assumption))⟩ (by first | omega | (simp only []; omega)))
   refine .d <| .ct ?_
   replace h1 := h1.into
   replace W := W.into
   replace V := V.into
   have aZ : Gb (Z + 1) bE.heap.size := E.lt
   refine .gd (mtb [r_out] bE.heap.size) 15 fun cj az => ?_
   replace ⟨h1, E, J, W, V, C, O⟩ := (se [r_out, Z] az).g7 h1 E J W V C O
   clear az
   refine .r [0, 1, 2] <| .lb 3 E (nS_of (all_cons (Nb.symm bv) all_nil) aZ) <| .r [4, 5] ?_
   have aA : i < (findP (fits f) 0 s.idx.names).length := (by first | omega | (have q1 := findP_in (by assumption : _ ∈ findP _ 0 s.idx.names); omega))
   refine GA.idx (i := 6) i (len := (findP (fits f) 0 s.idx.names).length) (z := (i : Int)) (sz := 1) (by kernel_rfl) (by first | omega | (have q1 := findP_in (by assumption : _ ∈ findP _ 0 s.idx.names); omega)) aA (W.addr (Nat.zero_lt_of_lt aA)) ?_
   obtain ⟨_, rfl, ba⟩ := W.elem i aa ak
   refine .lh 7 0 ba (W.nS (pos_of ak) (all_cons (.head _) all_nil)) <| GA.int (i := 8) (aa - 1) (by kernel_rfl) (by first | omega | (have q1 := findP_in (by assumption : _ ∈ findP _ 0 s.idx.names); omega)) ?_
   have aB : (aa - 1).toNat < s.idx.names.length := (by first | omega | (have q1 := findP_in (by assumption : _ ∈ findP _ 0 s.idx.names); omega))
   refine GA.idx (i := 9) ((aa - 1).toNat) (len := s.idx.names.length) (z := aa - 1) (sz := 1) (by kernel_rfl) (by first | omega | (have q1 := findP_in (by assumption : _ ∈ findP _ 0 s.idx.names); omega)) aB (h1.addr (Nat.zero_lt_of_lt aB)) ?_
   obtain ⟨al, ag⟩ : ∃ y, s.idx.names[(aa - 1).toNat]? = some y := ⟨_, List.getElem?_eq_getElem (by first | omega | (have q1 := findP_in (by assumption : _ ∈ findP _ 0 s.idx.names); omega))⟩
   have bQ := drop_at ag; have bH := List.mem_of_getElem? ag
   obtain ⟨_, ⟨ck, cm, co, rfl, aC⟩, bc⟩ := h1.elem ((aa - 1).toNat) al ag
   have bd := aC.len
   subst bd
   have bR := aC.max
   refine .lh 10 0 bc (h1.nS (pos_of ag) (all_cons (.head _) all_nil)) <| GA.call1 (i := 11) (by kernel_rfl) (fun bI bg => c_spec_l3Text al (aC.chgS bg (all_cons (.head _) all_nil)) (by have q1 := (p0.nm.sz _ (by assumption)).1; omega) (fun t ht => by have q1 := (p0.nm.sz _ (by assumption)).2 t ht; omega) (w := bI) (F := all)) <| .r [12, 13] <| .go 14 <| .ns 1 66 [.string (bs (text al)), .slice bF ((cutB (rowsOf s aa) from_ to_).length) bG] fun cp aD => ?_
   replace ⟨E, J, V, C, O⟩ := (se [r_out, Z] aD).g5 E J V C O
   clear aD
   intro aU cq ah aE am bh
   have bi := nb_new ah E.lt
   have aF := nb_new ah J.lt
   have bj := gb_new ah C.size
   replace ⟨J, V, C, O⟩ := (se [r_out, Z] aE).g4 J V C O
   clear aE bh ah
   refine .d fun cr aG => ?_
   replace ⟨J, V, am, C, O⟩ := (se [r_out, Z] aG).g5 J V am C O
   clear aG
   replace V := V.outof
   have av : nin (ge w.heap.size) [r_out, Z] aU ∧ aU ≠ r_out := hap_mk bj (all_cons aF (all_cons bi all_nil)) aF
   refine RG.append1 (T := 61) (ty := 61) (y := (⟨text al, cutB (rowsOf s aa) from_ to_⟩ : Hit)) J am (by kernel_rfl) (by kernel_rfl) ⟨_, _, _, rfl, V.oi⟩ av (by have q1 := findP_len (fits f) s.idx.names 0; have q2 := p0.nm.len; omega) fun bJ bK cu ac ar aH => ?_
   have bk := orb_or ar ab O.size
   replace ⟨C, O⟩ := (s1 aH).g2 C O
   clear aH
   replace ac := ac.rn r_out
   clear ar
   have bS := ac.len; have bT := ac.max
   exact .r 1 <| .d <| .ib 1 <| .g <| .r 1 <| RG.int ((i : Int) + 1) (by kernel_rfl) (by first | omega | (have q1 := findP_in (by assumption : _ ∈ findP _ 0 s.idx.names); omega)) <| .r 1 <| .d <| aj ((out ++ [(⟨text al, cutB (rowsOf s aa) from_ to_⟩ : Hit)]), bJ, n_out + 1, bK, i + 1) _ _ ⟨by kernel_rfl, by kernel_rfl, by kernel_rfl, by kernel_rfl, by kernel_rfl, by kernel_rfl, trivial⟩ ⟨O, ac, bk, (by omega), (by first | omega | (simp; omega)), (by first | exact askStep (by assumption) (by assumption) rfl (by assumption) (by assumption) | exact askSkip (by assumption) (by assumption) rfl (by assumption))⟩ (by first | omega | (simp only []; omega))
 refine .d <| .cf <| .x 0 rfl <| .s <| .g <| .r 2 <| .d ?_
 have bL := J.sl bw
 exact .rt Tryz.func84 Tryz.results84 (vS r_out n_out c_out) ⟨(bL.vl (by exact askEnd (by assumption) (by omega)) (fun _ _ h => h.1)), C⟩
theorem c_spec_StoreAsk (s : Sto) (f : List Cnd) (from_ : Int) (to_ : Int) {w : World} {F : Nat → Prop} {a1 : Option Addr} {n1 c1 : Nat} (h1 : RepS w F a1 n1 c1 s.idx.names) {a2 : Option Addr} {n2 c2 : Nat} (h2 : RepS w F a2 n2 c2 s.idx.posts) {a3 : Option Addr} {n3 c3 : Nat} (h3 : RepS w F a3 n3 c3 s.parts) {a4 : Option Addr} {n4 c4 : Nat} (h4 : RepS w F a4 n4 c4 s.mem) {a5 : Option Addr} {n5 c5 : Nat} (h5 : RepS w F a5 n5 c5 f) (p0 : SD s) : Calls Tryz.prog 35 [.agg #[.slice a1 n1 c1, .slice a2 n2 c2, .slice a3 n3 c3, .slice a4 n4 c4], .slice a5 n5 c5, .int .i64 from_, .int .i64 to_].toArray w (rets fun rv w' => VL (ge w.heap.size) w' (askS s f from_ to_ : List Hit) rv ∧ Ext w w') := by
 refine goT Tryz.func35 ?_
 obtain ⟨rfl, aH, h1⟩ := h1.tp
 obtain ⟨rfl, aI, h2⟩ := h2.tp
 obtain ⟨rfl, aJ, h3⟩ := h3.tp
 obtain ⟨rfl, aK, h4⟩ := h4.tp
 obtain ⟨rfl, aL, h5⟩ := h5.tp
 refine .s <| .g <| .np 30 [.slice a1 s.idx.names.length c1, .slice a2 s.idx.posts.length c2, .slice a3 s.parts.length c3, .slice a4 s.mem.length c4] fun J aB ac W E ak => ?_
 replace ⟨h1, h2, h3, h4, h5⟩ := (sn [] W ac).g5 h1 h2 h3 h4 h5
 have C := W
 clear W ak ac
 refine .r 1 <| .d <| .s <| .s <| .g <| .ln E <| .cl (c_spec_StoreOk s h1.ta h2.ta h3.ta h4.ta p0 (w := aB) (F := all)) ?_
 rintro aR aC ⟨rfl, ae⟩
 replace ⟨h1, h2, h3, h4, h5, E, C⟩ := (se [J] ae).g7 h1 h2 h3 h4 h5 E C
 clear ae
 cases aM : (storeOk s)
 · refine .r 6 <| .d <| .ct <| .s <| .g <| .ns 0 66 [] fun Z al O af am ao => ?_
   have aN := nb_new O E.lt
   have aq := gb_new O C.size
   replace ⟨h1, h2, h3, h4, h5, E, C⟩ := (sn [J] af O).g7 h1 h2 h3 h4 h5 E C
   clear af ao O
   have ar : Own (α := Hit) al Z 66 (nin (ge w.heap.size) [Z, J]) 0 0 [] := Own.nil' am
   refine .r 1 <| .d ?_
   have aD := ar.sl aq
   replace ⟨h1, h2, h3, h4, h5⟩ := (sd al [Z, J] Z).g5 h1 h2 h3 h4 h5
   exact .rt Tryz.func35 Tryz.results35 (vS Z 0 0) ⟨(aD.vl (by first | rw [askS_1 (.inl (by assumption))] | rw [askS_1 (.inr (by assumption))] | rw [askS_2 (by assumption) (by assumption)]) (fun _ _ h => h.1)), C⟩
 refine .r 3 <| .cl (c_spec_FilterOk f h5.ta (w := aC) (F := all)) ?_
 rintro aS au ⟨rfl, ag⟩
 replace ⟨h1, h2, h3, h4, h5, E, C⟩ := (se [J] ag).g7 h1 h2 h3 h4 h5 E C
 clear ag
 cases aO : (filtOk f)
 · refine .r 2 <| .d <| .ct <| .s <| .g <| .ns 0 66 [] fun aa av V ah aw ax => ?_
   have aP := nb_new V E.lt
   have ay := gb_new V C.size
   replace ⟨h1, h2, h3, h4, h5, E, C⟩ := (sn [J] ah V).g7 h1 h2 h3 h4 h5 E C
   clear ah ax V
   have az : Own (α := Hit) av aa 66 (nin (ge w.heap.size) [aa, J]) 0 0 [] := Own.nil' aw
   refine .r 1 <| .d ?_
   have aE := az.sl ay
   replace ⟨h1, h2, h3, h4, h5⟩ := (sd av [aa, J] aa).g5 h1 h2 h3 h4 h5
   exact .rt Tryz.func35 Tryz.results35 (vS aa 0 0) ⟨(aE.vl (by first | rw [askS_1 (.inl (by assumption))] | rw [askS_1 (.inr (by assumption))] | rw [askS_2 (by assumption) (by assumption)]) (fun _ _ h => h.1)), C⟩
 refine .r 2 <| .d <| .cf <| .sk <| .s <| .g <| .ln E <| .r 3 <| .cl (c_spec_l13Ask s f from_ to_ h1.ta h2.ta h3.ta h4.ta h5.ta p0 (by assumption) (w := au) (F := all)) ?_
 rintro aT aU ⟨⟨aF, aG, rfl, ab⟩, ai⟩
 have aj := al1 E.lt
 have aA : Gb w.heap.size au.heap.size := C.size
 replace C := (se [] ai).g1 C
 clear ai
 have ab := ab.fr aj aA
 have aQ := ab.max
 clear aj
 exact .r 1 <| .d <| .rt Tryz.func35 Tryz.results35 (.slice aF ((askP (fits f) s from_ to_).length) aG) ⟨(ab.vl (by first | rw [askS_1 (.inl (by assumption))] | rw [askS_1 (.inr (by assumption))] | rw [askS_2 (by assumption) (by assumption)]) (fun _ _ h => h.1)), C⟩
theorem c_slices_Index_impl_Tag_impl_Tag (s : List Tag) (v : Tag) {w : World} {F : Nat → Prop} {a1 : Option Addr} {n1 c1 : Nat} (h1 : RepS w F a1 n1 c1 s)  : Calls Tryz.prog 166 [.slice a1 n1 c1, .agg #[.string (bs v.key), .string (bs v.val)]].toArray w (rets fun rv w' => rv = .int .i64 (idxT v 0 s) ∧ Ext w w') := by
 refine goT Tryz.func166 ?_
 obtain ⟨rfl, ao, h1⟩ := h1.tp
 refine .s <| .g <| .np 112 [vT v.key, vT v.val] fun Z ah aa O J ai => ?_
 replace h1 := (sn [] O aa).g1 h1
 have C := O
 clear O ai aa
 refine .r 1 <| .d <| .s <| .s <| .g <| .r 3 <| .d <| .b 0 <| T.loop (X := Nat) 0 (fun k => [(0, .slice a1 s.length c1), (3, .pointer (some ⟨Z, 0, none⟩)), (7, vI (s.length : Int)), (8, vI (k : Int))]) (fun k af => Chg (ins []) ah af ∧ (k ≤ s.length) ∧ (idxT v k (s.drop k) = idxT v 0 s)) (fun k => s.length - k) (by kernel_rfl) ⟨by kernel_rfl, by kernel_rfl, by kernel_rfl, by kernel_rfl, trivial⟩ ⟨Chg.refl _ _, (by simp), (by simp)⟩ ?_
 rintro k aw af ⟨E, aq, ar⟩ V
 have ab : Mv [Z] [Z] ah af := Mv.inl E all_nil (all_cons (.inl (.head _)) all_nil)
 replace ⟨h1, J, C⟩ := (sp ab E).g3 h1 J C
 clear ab
 refine .s <| .g <| .bp ((k : Int) < (s.length : Int)) (fun aj => ?_) (fun aj => .d <| .s <| .cf <| .x 0 rfl <| .s <| .g <| .r 1 <| .d <| .rt Tryz.func166 Tryz.results166 (vI (-1)) ⟨(congrArg (Value.int .i64) (by grind [idxT, drop_end])), C⟩)
 refine .d <| .s <| .ct <| .sk <| .s <| .b 1 <| .s <| .g <| .r 2 <| .d <| .s <| .gd nil 5 fun ax ac => ?_
 replace ⟨h1, J, C, E⟩ := (se [Z] ac).g4 h1 J C E
 clear ac
 refine .ln 0 J id <| .r [1, 2] ?_
 have ak : k < s.length := (by omega)
 refine .ix 3 k 2 h1 ak ?_
 obtain ⟨ag, W⟩ : ∃ y, s[k]? = some y := ⟨_, List.getElem?_eq_getElem (by omega)⟩
 have au := drop_at W; have am := List.mem_of_getElem? W
 obtain ⟨_, rfl, al⟩ := h1.elem k ag W
 refine .lg 4 0 al id <| .d fun ay ae => ?_
 replace ⟨C, E⟩ := (se [] ae).g2 C E
 clear ae
 refine RG.tagEq (t := 112) (x := v) (y := ag) (by kernel_rfl) (by kernel_rfl) ?_
 cases av : (v == ag)
 · exact .d <| .cf <| .sk <| .ib 1 <| .g <| .it ((k : Int) + 1) <| .r 1 <| .d <| V (k + 1) _ _ ⟨by kernel_rfl, by kernel_rfl, by kernel_rfl, by kernel_rfl, trivial⟩ ⟨E, (by omega), (by grind [idxT])⟩ (by first | omega | (simp only []; omega))
 exact .d <| .ct <| .s <| .g <| .r 2 <| .d <| .rt Tryz.func166 Tryz.results166 (vI (k : Int)) ⟨(congrArg (Value.int .i64) (by grind [idxT, drop_end])), C⟩
theorem c_slices_Contains_impl_Tag_impl_Tag (s : List Tag) (v : Tag) {w : World} {F : Nat → Prop} {a1 : Option Addr} {n1 c1 : Nat} (h1 : RepS w F a1 n1 c1 s)  : Calls Tryz.prog 135 [.slice a1 n1 c1, .agg #[.string (bs v.key), .string (bs v.val)]].toArray w (rets fun rv w' => rv = .bool (has s v) ∧ Ext w w') := by
 refine goT Tryz.func135 ?_
 obtain ⟨rfl, aa, h1⟩ := h1.tp
 refine .s <| .g <| .np 112 [vT v.key, vT v.val] fun ab Z J C V W => ?_
 replace h1 := (sn [] C J).g1 h1
 have E := C
 clear C W J
 refine .r 1 <| .d <| .s <| .g <| .r 1 <| .ln V <| .cl (c_slices_Index_impl_Tag_impl_Tag s v h1.ta (w := Z) (F := all)) ?_
 rintro ac ae ⟨rfl, O⟩
 replace E := (se [] O).g1 E
 clear O
 exact .r 2 <| .d <| .rt Tryz.func135 Tryz.results135 (.bool (decide (idxT v 0 s ≥ 0))) ⟨(congrArg Value.bool (by exact (idxT_has v s 0).symm)), E⟩
theorem c_impl_FilterFits (f : List Cnd) (n : List Tag) {w : World} {F : Nat → Prop} {a1 : Option Addr} {n1 c1 : Nat} (h1 : RepS w F a1 n1 c1 f) {a2 : Option Addr} {n2 c2 : Nat} (h2 : RepS w F a2 n2 c2 n) (p0 : n.length ≤ 1000) : Calls Tryz.prog 85 [.slice a1 n1 c1, .slice a2 n2 c2].toArray w (rets fun rv w' => rv = .bool (fitsI f n) ∧ Ext w w') := by
 refine goT Tryz.func85 ?_
 obtain ⟨rfl, az, h1⟩ := h1.tp
 obtain ⟨rfl, aA, h2⟩ := h2.tp
 refine .s <| .g <| .r 1 <| .d <| .s <| .s <| .g <| .r 1 <| .cl (c_impl_FilterOk f h1.ta (w := w) (F := all)) ?_
 rintro aL ax ⟨rfl, W⟩
 replace ⟨h1, h2⟩ := (se [] W).g2 h1 h2
 have C := W
 clear W
 cases aB : (filtOk f)
 · exact .r 6 <| .d <| .ct <| .s <| .g <| .r 1 <| .d <| .rt Tryz.func85 Tryz.results85 (.bool false) ⟨(congrArg Value.bool (by unfold fitsI; first | (simp [*]; done) | (rw [allNo (f := fun c : Cnd => has n c.tag != c.no) (by assumption : (f.drop k).all _ = fits f n) (by assumption) (by simp_all)]; simp))), C⟩
 refine .r 3 <| .cl (c_impl_NameOk n h2.ta (w := ax) (F := all)) ?_
 rintro aM aj ⟨rfl, ab⟩
 replace ⟨h1, h2, C⟩ := (se [] ab).g3 h1 h2 C
 clear ab
 cases aC : (nameOk n)
 · exact .r 2 <| .d <| .ct <| .s <| .g <| .r 1 <| .d <| .rt Tryz.func85 Tryz.results85 (.bool false) ⟨(congrArg Value.bool (by unfold fitsI; first | (simp [*]; done) | (rw [allNo (f := fun c : Cnd => has n c.tag != c.no) (by assumption : (f.drop k).all _ = fits f n) (by assumption) (by simp_all)]; simp))), C⟩
 refine .r 2 <| .d <| .cf <| .sk <| .s <| .s <| .g <| .r 3 <| .d <| .b 0 <| T.loop (X := Nat) 0 (fun k => [(1, .slice a2 n.length c2), (15, .slice a1 f.length c1), (16, vI (f.length : Int)), (17, vI (k : Int))]) (fun k ai => Chg (ins []) aj ai ∧ (k ≤ f.length) ∧ (filtOk f = true) ∧ (nameOk n = true) ∧ ((f.drop k).all (fun c => has n c.tag != c.no) = fits f n)) (fun k => f.length - k) (by kernel_rfl) ⟨by kernel_rfl, by kernel_rfl, by kernel_rfl, by kernel_rfl, trivial⟩ ⟨Chg.refl _ _, (by first | omega | assumption | rfl), (by first | omega | assumption | rfl), (by first | omega | assumption | rfl), (by first | omega | assumption | rfl)⟩ ?_
 rintro k aN ai ⟨E, aD, aE, aF, aG⟩ Z
 have ac : Mv [] [] aj ai := Mv.inl E all_nil all_nil
 replace ⟨h1, h2, C⟩ := (sp ac E).g3 h1 h2 C
 clear ac
 refine .s <| .g <| .bp ((k : Int) < (f.length : Int)) (fun ak => ?_) (fun ak => .d <| .s <| .cf <| .x 0 rfl <| .s <| .g <| .r 1 <| .d <| .rt Tryz.func85 Tryz.results85 (.bool true) ⟨(congrArg Value.bool (by unfold fitsI; rw [allEnd (f := fun c : Cnd => has n c.tag != c.no) (by assumption : (f.drop k).all _ = fits f n) (by omega)]; simp [*])), C⟩)
 refine .d <| .s <| .ct <| .sk <| .s <| .b 1 <| .s <| .g ?_
 have al : k < f.length := (by omega)
 refine .ix k 3 h1 al ?_
 obtain ⟨J, aa⟩ : ∃ y, f[k]? = some y := ⟨_, List.getElem?_eq_getElem (by omega)⟩
 have aH := drop_at aa; have aw := List.mem_of_getElem? aa
 obtain ⟨_, rfl, am⟩ := h1.elem k J aa
 refine .lg 0 am <| .np 124 [.string (bs []), .string (bs []), .bool false] fun ao aO O ae aq ar => ?_
 have aI := C.cn O
 have aJ := E.cn O
 replace ⟨h2, C, E⟩ := (sn [] ae O).g3 h2 C E
 clear ae ar O
 refine .sc [vT J.tag.key, vT J.tag.val, .bool J.no] aq fun aP af V au => ?_
 replace ⟨h2, C, E⟩ := (so [ao] af).g3 h2 C E
 clear af au
 refine .d <| .s <| .gd nil 6 fun aQ ag => ?_
 replace ⟨h2, V, C, E⟩ := (se [ao] ag).g4 h2 V C E
 clear ag
 refine .r [0, 1] <| .ln 2 V id <| GA.call1 (i := 3) (by kernel_rfl) (fun ay av => c_slices_Contains_impl_Tag_impl_Tag n J.tag (h2.ta.ext av) (w := ay) (F := all)) <| .r [4] <| .lb 5 V id <| .d fun aR ah => ?_
 replace ⟨C, E⟩ := (se [] ah).g2 C E
 clear ah
 refine RG.eqv (v := .bool ((has n J.tag) == J.no)) (v' := .bool ((has n J.tag) == J.no)) (by kernel_rfl) (by rfl) ?_
 cases aK : ((has n J.tag) == J.no)
 · exact .d <| .cf <| .sk <| .ib 1 <| .g <| .it ((k : Int) + 1) <| .r 1 <| .d <| Z (k + 1) _ _ ⟨by kernel_rfl, by kernel_rfl, by kernel_rfl, by kernel_rfl, trivial⟩ ⟨E, (by omega), (by assumption), (by assumption), (by exact allStep (by assumption) (by assumption) (by simp_all))⟩ (by first | omega | (simp only []; omega))
 exact .d <| .ct <| .s <| .g <| .r 1 <| .d <| .rt Tryz.func85 Tryz.results85 (.bool false) ⟨(congrArg Value.bool (by unfold fitsI; first | (simp [*]; done) | (rw [allNo (f := fun c : Cnd => has n c.tag != c.no) (by assumption : (f.drop k).all _ = fits f n) (by assumption) (by simp_all)]; simp))), C⟩
theorem c_impl_IndexFind (ix : Idx) (f : List Cnd) {w : World} {F : Nat → Prop} {a1 : Option Addr} {n1 c1 : Nat} (h1 : RepS w F a1 n1 c1 ix.names) {a2 : Option Addr} {n2 c2 : Nat} (h2 : RepS w F a2 n2 c2 ix.posts) {a3 : Option Addr} {n3 c3 : Nat} (h3 : RepS w F a3 n3 c3 f) (p0 : IxI ix) (p1 : NsD ix.names) : Calls Tryz.prog 37 [.agg #[.slice a1 n1 c1, .slice a2 n2 c2], .slice a3 n3 c3].toArray w (rets fun rv w' => VL (ge w.heap.size) w' (findP (fitsI f) 0 ix.names : List Int) rv ∧ Ext w w') := by
 refine goT Tryz.func37 ?_
 obtain ⟨rfl, ba, h1⟩ := h1.tp
 obtain ⟨rfl, bc, h2⟩ := h2.tp
 obtain ⟨rfl, bd, h3⟩ := h3.tp
 refine .s <| .g <| .np 26 [.slice a1 ix.names.length c1, .slice a2 ix.posts.length c2] fun W bu am af E aB => ?_
 replace ⟨h1, h2, h3⟩ := (sn [] af am).g3 h1 h2 h3
 have C := af
 clear af aB am
 refine .r 1 <| .d <| .s <| .g <| .ns 0 3 [] fun Z aC aa ao aD aE => ?_
 have aF := nb_new aa E.lt
 have aG := gb_new aa C.size
 have aH := C.cn aa
 replace ⟨h1, h2, h3, E, C⟩ := (sn [W] ao aa).g5 h1 h2 h3 E C
 clear ao aE aa
 have ag : Own (α := Int) aC Z 3 (nin (ge w.heap.size) [Z, W]) 0 0 [] := Own.nil' aD
 refine .r 1 <| .d <| .s <| .s <| .g <| .ln E <| .cl (c_impl_IndexOk ix h1.ta h2.ta p0 p1 (w := aC) (F := all)) ?_
 rintro bv al ⟨rfl, aq⟩
 replace ⟨h1, h3, E, ag, C⟩ := (se [Z, W] aq).g5 h1 h3 E ag C
 clear aq
 refine .r 1 <| .d <| .cf <| .sk <| .s <| .s <| .g <| .r 1 <| .lb E <| .r 2 <| .d <| .b 0 <| T.loop (X := (List Int) × Nat × Nat × Nat × Nat) (([] : List Int), Z, 0, 0, 0) (fun (out, r_out, n_out, c_out, k) => [(1, .slice a3 f.length c3), (5, vS r_out n_out c_out), (14, .slice a1 ix.names.length c1), (15, vI (ix.names.length : Int)), (16, vI (k : Int))]) (fun (out, r_out, n_out, c_out, k) ah => Chg (ins [Z]) al ah ∧ Own ah r_out 3 (nin (ge w.heap.size) [r_out, W]) n_out c_out out ∧ OrB r_out Z al.heap.size ∧ (k ≤ ix.names.length) ∧ (out.length ≤ k) ∧ (out ++ findP (fitsI f) k (ix.names.drop k) = findP (fitsI f) 0 ix.names)) (fun (out, r_out, n_out, c_out, k) => ix.names.length - k) (by kernel_rfl) ⟨by kernel_rfl, by kernel_rfl, by kernel_rfl, by kernel_rfl, by kernel_rfl, trivial⟩ ⟨Chg.refl _ _, ag, orb_refl, (by first | omega | rfl | simp), (by first | omega | rfl | simp), (by first | omega | rfl | simp)⟩ ?_
 rintro ⟨out, r_out, n_out, c_out, k⟩ bw ah ⟨J, O, V, bg, bh, bi⟩ ab
 have bj := nb_or' V aF E.lt
 have aI := gb_or' V aG C.size
 have bk := cov_or' V aH C.size
 have aJ : Cov (ins [Z]) al Z := ⟨.inl (.head _)⟩
 have bm := cov_or' V aJ (Nat.le_refl _)
 have ar : Mv [Z, W] [r_out, W] al ah := Mv.inl J (all_cons (.head _) all_nil) (all_cons (orb_mem V (.head _)) (all_cons (.inl (.tail _ (.head _))) all_nil))
 replace ⟨h1, h3, E, C⟩ := (sp ar J).g4 h1 h3 E C
 clear ar
 have bn := O.len; have bo := O.max
 refine .s <| .g <| .bp ((k : Int) < (ix.names.length : Int)) (fun aK => ?_) (fun aK => ?_)
 · refine .d <| .s <| .ct <| .sk <| .s <| .b 1 <| .s <| .g <| .r 1 ?_
   have aL : k < ix.names.length := (by omega)
   refine .ix k 1 h1 aL ?_
   obtain ⟨ay, ai⟩ : ∃ y, ix.names[k]? = some y := ⟨_, List.getElem?_eq_getElem (by omega)⟩
   have bq := drop_at ai; have aU := List.mem_of_getElem? ai
   obtain ⟨_, ⟨bz, bA, bB, rfl, az⟩, aM⟩ := h1.elem k ay ai
   have aN := az.len
   subst aN
   have br := az.max
   refine .lh 0 aM <| .r 2 <| .d <| .s <| .g <| .r 2 <| .cl (c_impl_FilterFits f ay h3.ta az.ta (by have q1 := (p0.nm.sz _ (by assumption)).1; omega) (w := ah) (F := all)) ?_
   rintro bC bD ⟨rfl, au⟩
   replace ⟨E, O, C, J⟩ := (se [r_out, W] au).g4 E O C J
   clear au
   cases bt : (fitsI f ay)
   · exact .d <| .cf <| .sk <| .ib 1 <| .g <| RG.int ((k : Int) + 1) (by kernel_rfl) (by have q1 := p0.nm.len; omega) <| .r 1 <| .d <| ab (out, r_out, n_out, c_out, k + 1) _ _ ⟨by kernel_rfl, by kernel_rfl, by kernel_rfl, by kernel_rfl, by kernel_rfl, trivial⟩ ⟨J, O, V, (by omega), (by first | omega | (simp; omega)), (by first | exact findStep (by assumption) (by assumption) (by assumption) | exact findSkip (by assumption) (by assumption) (by assumption))⟩ (by first | omega | (simp only []; omega))
   refine .d <| .ct <| .g <| .r 2 <| RG.int ((k : Int) + 1) (by kernel_rfl) (by have q1 := p0.nm.len; omega) <| .ns 1 3 [vI ((k : Int) + 1)] fun aO bE ae av aP aQ => ?_
   have aR := nb_new ae E.lt
   have aw := nb_new ae O.lt
   have aS := gb_new ae C.size
   replace ⟨O, C, J⟩ := (se [r_out, W] av).g3 O C J
   clear av aQ ae
   have aj : nin (ge w.heap.size) [r_out, W] aO ∧ aO ≠ r_out := hap_mk aS (all_cons aw (all_cons aR all_nil)) aw
   refine RG.append1 (T := 68) (ty := 68) (y := (k : Int) + 1) O aP (by kernel_rfl) (by kernel_rfl) rfl aj (by have q1 := p0.nm.len; omega) fun aW aX bF ac ak ax => ?_
   have aA := orb_or ak V J.size
   replace ⟨C, J⟩ := (s1 ax).g2 C J
   clear ax
   replace ac := ac.rn r_out
   clear ak
   have aY := ac.len; have aZ := ac.max
   exact .r 1 <| .d <| .ib 1 <| .g <| RG.int ((k : Int) + 1) (by kernel_rfl) (by have q1 := p0.nm.len; omega) <| .r 1 <| .d <| ab ((out ++ [(k : Int) + 1]), aW, n_out + 1, aX, k + 1) _ _ ⟨by kernel_rfl, by kernel_rfl, by kernel_rfl, by kernel_rfl, by kernel_rfl, trivial⟩ ⟨J, ac, aA, (by omega), (by first | omega | (simp; omega)), (by first | exact findStep (by assumption) (by assumption) (by assumption) | exact findSkip (by assumption) (by assumption) (by assumption))⟩ (by first | omega | (simp only []; omega))
 refine .d <| .s <| .cf <| .x 0 rfl <| .s <| .g <| .r 2 <| .d ?_
 have aT := O.sl aI
 exact .rt Tryz.func37 Tryz.results37 (vS r_out n_out c_out) ⟨(aT.vl (by exact findEnd (by assumption) (by omega)) (fun _ _ h => h.1)), C⟩
end Go.Proofs.YtfnpaglcnmcnbaaGreat
