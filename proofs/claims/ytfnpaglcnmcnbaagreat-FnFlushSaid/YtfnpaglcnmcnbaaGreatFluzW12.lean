/- walks; squeezed -/
import Derived.Test.YtfnpaglcnmcnbaaGreatFluzMod12
set_option linter.unusedVariables false
set_option linter.unusedSimpArgs false
namespace Go.Proofs.YtfnpaglcnmcnbaaGreat
set_option maxRecDepth 100000
set_option maxHeartbeats 4000000
theorem c_spec_l3Cut (text_ : Str) (by_ : UInt8) {w : World} {F : Nat → Prop}  (p0 : text_.length ≤ 1000) : Calls Tryz.prog 182 [.string (bs text_), .int .u8 (by_.toNat : Int)].toArray w (rets fun rv w' => VL (ge w.heap.size) w' (cutT text_ by_ : List Txt) rv ∧ Ext w w') := by
 refine goT Tryz.func182 <| .s <| .g <| .r 1 <| .d <| .s <| .g <| .ns 1 9 [.string (bs [])] fun W ao af ar aG aH => ?_
 have aI := gb_new af (Nat.le_refl _)
 have aJ : Cov nil w W := cov_new af (Nat.le_refl _)
 have C := ar
 clear ar aH af
 have aK : Own (α := Txt) ao W 9 (nin (ge w.heap.size) [W]) 1 1 [(⟨[]⟩ : Txt)] := Own.lit aG rfl (by decide) ⟨rfl, rfl⟩
 refine .r 1 <| .d <| .s <| .s <| .g <| .r 1 <| .d <| .b 0 <| T.loop (X := (List Txt) × Nat × Nat × Nat × Nat) ((([(⟨[]⟩ : Txt)] : List Txt) : List Txt), W, 1, 1, 0) (fun (out, r_out, n_out, c_out, i) => [(0, vT text_), (1, .int .u8 (by_.toNat : Int)), (5, vS r_out n_out c_out), (6, vI (i : Int))]) (fun (out, r_out, n_out, c_out, i) aD => Chg (ins [W]) ao aD ∧ Own aD r_out 9 (nin (ge w.heap.size) [r_out]) n_out c_out out ∧ OrB r_out W ao.heap.size ∧ (i ≤ text_.length) ∧ (0 < out.length) ∧ (out.length ≤ i + 1) ∧ (∀ t ∈ out, t.s.length ≤ i) ∧ (cutL by_ out (text_.drop i) = cutT text_ by_)) (fun (out, r_out, n_out, c_out, i) => text_.length - i) (by kernel_rfl) ⟨by kernel_rfl, by kernel_rfl, by kernel_rfl, by kernel_rfl, trivial⟩ ⟨Chg.refl _ _, aK, orb_refl, (by first | rfl | simp), (by first | rfl | simp), (by first | rfl | simp), (by first | rfl | simp), (by first | rfl | simp)⟩ ?_
 rintro ⟨out, r_out, n_out, c_out, i⟩ bC aD ⟨E, J, Z, bj, bk, bm, bn, bo⟩ aa
 have aL := gb_or' Z aI C.size
 have bq := cov_or' Z aJ C.size
 have aM : Cov (ins [W]) ao W := ⟨.inl (.head _)⟩
 have br := cov_or' Z aM (Nat.le_refl _)
 replace C := (si E).g1 C
 have bt := J.len; have bu := J.max
 refine .s <| .s <| .g <| .r 2 <| RG.eqv (v := vI (text_.length : Int)) (by kernel_rfl) (s_len text_) <| .bp ((i : Int) < (text_.length : Int)) (fun aN => ?_) (fun aN => ?_)
 · refine .d <| .ct <| .sk <| .s <| .b 1 <| .s <| .g <| .r 2 ?_
   obtain ⟨O, ag⟩ : ∃ y, text_[i]? = some y := ⟨_, List.getElem?_eq_getElem (by omega)⟩
   have bv := UInt8.toNat_lt O; have bw := drop_at ag
   refine RG.sidx (t := 9) (s := text_) (k := .i64) (i := (i : Int)) i (by kernel_rfl) (by kernel_rfl) (by omega) ag <| .r 1 <| .eq (O.toNat : Int) (by_.toNat : Int) (fun aO => ?_) (fun aO => ?_)
   · refine .d <| .ct <| .g <| .r 1 <| .ns 1 9 [.string (bs [])] fun aP bD ah au aQ aR => ?_
     have av := nb_new ah J.lt
     have aS := gb_new ah C.size
     replace ⟨J, C, E⟩ := (se [r_out] au).g3 J C E
     clear au aR ah
     have ai : nin (ge w.heap.size) [r_out] aP ∧ aP ≠ r_out := hap_mk aS (all_cons av all_nil) av
     refine RG.append1 (T := 126) (ty := 126) (y := (⟨[]⟩ : Txt)) J aQ (by kernel_rfl) (by kernel_rfl) rfl ai (by omega) fun bc bd bE ab aj aw => ?_
     have aT := orb_or aj Z E.size
     replace ⟨C, E⟩ := (s1 aw).g2 C E
     clear aw
     replace ab := ab.rn r_out
     clear aj
     have bz := ab.len; have bA := ab.max
     exact .r 1 <| .d <| .ib 1 <| .g <| .r 1 <| .it ((i : Int) + 1) <| .r 1 <| .d <| aa ((out ++ [(⟨[]⟩ : Txt)]), bc, n_out + 1, bd, i + 1) _ _ ⟨by kernel_rfl, by kernel_rfl, by kernel_rfl, by kernel_rfl, trivial⟩ ⟨E, ab, aT, (by omega), (by simp <;> omega), (by first | (simp <;> omega) | (rw [List.length_set]; omega)), (by first | exact cutLen1 (by assumption) | exact cutLen (by assumption) (by assumption)), (by first | exact cutStep1 (by assumption) (by assumption) (by assumption) | exact cutStep2 (by assumption) (by assumption) (by assumption) (by omega) (by assumption))⟩ (by first | omega | (simp only []; omega))
   refine .d <| .cf <| .gd nil 16 fun bg ax => ?_
   replace ⟨J, C, E⟩ := (se [r_out] ax).g3 J C E
   clear ax
   refine .r [0, 1, 2] <| GA.int (i := 3) ((n_out : Int) - 1) (by kernel_rfl) (by omega) <| .r [4, 5, 6] <| GA.int (i := 7) ((n_out : Int) - 1) (by kernel_rfl) (by omega) ?_
   have aU : n_out - 1 < n_out := (by omega)
   refine GA.idx (i := 8) (b := r_out) (o := 0) (n_out - 1) (len := n_out) (z := (n_out : Int) - 1) (sz := 1) (by kernel_rfl) (by omega) aU rfl ?_
   obtain ⟨V, ac⟩ : ∃ y, out[n_out - 1]? = some y := ⟨_, List.getElem?_eq_getElem (by omega)⟩
   have bB := drop_at ac; have ba := List.mem_of_getElem? ac
   obtain ⟨_, rfl, ak⟩ := J.elem (n_out - 1) V ac
   replace ak : Has bg ⟨r_out, 0 + (n_out - 1) * Rep.sz Txt, none⟩ [vT V.s] := by rw [Nat.zero_add]; exact ak
   refine .lh 9 0 ak id <| .r [10, 11] <| GA.sidx (i := 12) (t := 9) (s := text_) (k := .i64) (z := (i : Int)) (by kernel_rfl) i (by kernel_rfl) (by kernel_rfl) (by omega) ag <| .go 13 <| .ns 1 5 [.int .u8 (O.toNat : Int)] fun bF ay => ?_
   replace ⟨J, C, E⟩ := (se [r_out] ay).g3 J C E
   clear ay
   intro aq bh az aA aV aW
   replace ⟨J, C, E⟩ := (sn [r_out] aA az).g3 J C E
   clear aA aW az
   have aX : Own (α := UInt8) bh aq 5 (nin (ge w.heap.size) [aq, r_out]) 1 1 [O] := Own.lit aV rfl (by decide) ⟨rfl, rfl⟩
   refine GA.b2s (i := 14) (s := 22) (d := 9) (y := O) (by kernel_rfl) aX (by kernel_rfl) (by kernel_rfl) <| GA.cat (i := 15) (t := 9) (s := V.s) (u := [O]) (by kernel_rfl) (by kernel_rfl) (by have q1 : ∀ t ∈ out, t.s.length ≤ i := (by assumption); have q2 := q1 _ (by assumption); simp only [List.length_cons, List.length_nil]; omega) <| .d fun bi aB => ?_
   replace ⟨J, C, E⟩ := (se [aq, r_out] aB).g3 J C E
   clear aB
   have aY : n_out - 1 < n_out := (by omega)
   refine RG.idx (b := r_out) (o := 0) (n_out - 1) (len := n_out) (i := (n_out : Int) - 1) (sz := 1) (by kernel_rfl) (by omega) aY rfl ?_
   obtain ⟨_, rfl, al⟩ := J.elem (n_out - 1) V ac
   replace al : Has bi ⟨r_out, 0 + (n_out - 1) * Rep.sz Txt, none⟩ [vT V.s] := by rw [Nat.zero_add]; exact al
   refine RG.storeO (t' := 9) (i := (n_out - 1)) (k := 0) (v := .string (bs (V.s ++ [O]))) (cs := [vT V.s]) (⟨(V.s ++ [O])⟩ : Txt) J ac al (by kernel_rfl) (by kernel_rfl) (by kernel_rfl) rfl fun aC ae am aE => ?_
   replace ⟨C, E⟩ := (s1 am).g2 C E
   clear am aE
   refine .d <| .ib 1 <| .g <| .r 1 <| .it ((i : Int) + 1) <| .r 1 <| .d ?_
   have aF : Mv [aq, r_out] [r_out] aC aC := Mv.less (all_cons (.tail _ (.head _)) all_nil)
   replace ae := (sp aF (Chg.refl nil _)).g1 ae
   exact aa ((out.set (n_out - 1) (⟨(V.s ++ [O])⟩ : Txt)), r_out, n_out, c_out, i + 1) _ _ ⟨by kernel_rfl, by kernel_rfl, by kernel_rfl, by kernel_rfl, trivial⟩ ⟨E, ae, Z, (by omega), (by simp <;> omega), (by first | (simp <;> omega) | (rw [List.length_set]; omega)), (by first | exact cutLen1 (by assumption) | exact cutLen (by assumption) (by assumption)), (by first | exact cutStep1 (by assumption) (by assumption) (by assumption) | exact cutStep2 (by assumption) (by assumption) (by assumption) (by omega) (by assumption))⟩ (by first | omega | (simp only []; omega))
 refine .d <| .cf <| .x 0 rfl <| .s <| .g <| .r 2 <| .d ?_
 have aZ := J.sl aL
 exact .rt Tryz.func182 Tryz.results182 (vS r_out n_out c_out) ⟨(aZ.vl (by exact cutEnd (by assumption) (by omega)) (fun _ _ h => h.1)), C⟩
theorem c_spec_l3Cond (w_ : Str) {w : World} {F : Nat → Prop}  (p0 : w_.length ≤ 1000) : Calls Tryz.prog 183 [.string (bs w_)].toArray w (rets fun rv w' => (∃ v0, rv = .tuple #[v0, .bool ((condR w_).2)] ∧ VS (ge w.heap.size) w' ((condR w_).1 : Cnd) v0) ∧ Ext w w') := by
 refine goT Tryz.func183 <| .s <| .g <| .np 124 [.string (bs []), .string (bs []), .bool false] fun bJ co ax ay E bh => ?_
 have bP : Cov nil w bJ := cov_new ax (Nat.le_refl _)
 have C := ay
 clear ay bh ax
 refine .r 1 <| .d <| .s <| .g <| .r 1 <| .np 124 [.string (bs []), .string (bs []), .bool false] fun cp cq aa az bi bj => ?_
 have bQ := nb_new aa E.lt
 have bR := C.cn aa
 replace ⟨E, C⟩ := (se [] az).g2 E C
 clear az bj aa
 refine .sc [.string (bs []), .string (bs []), .bool false] bi fun cr aA J bk => ?_
 replace ⟨E, C⟩ := (s1 aA).g2 E C
 clear aA bk
 refine .d <| .s <| .s <| .g <| .r 1 <| RG.eqv (v := vI (w_.length : Int)) (by kernel_rfl) (s_len w_) <| .eq (w_.length : Int) 4 (fun bm => ?_) (fun bm => ?_)
 · refine .r 2 ?_
   obtain ⟨aP, ab⟩ : ∃ y, w_[1]? = some y := ⟨_, List.getElem?_eq_getElem (by omega)⟩
   have bS := UInt8.toNat_lt aP; have bT := drop_at ab
   refine RG.sidx (t := 9) (s := w_) (k := .i64) (i := 1) 1 (by kernel_rfl) (by kernel_rfl) (by omega) ab <| .eq (aP.toNat : Int) 33 (fun bn => ?_) (fun bn => ?_)
   · refine .r 1 <| .d <| .ct <| .s <| .g <| .r 1 <| .ss 2 (.bool true) J fun cu aB O bo => ?_
     replace ⟨E, C⟩ := (s1 aB).g2 E C
     clear aB bo
     refine .d <| .gd nil 4 fun cv aC => ?_
     replace ⟨E, O, C⟩ := (se [] aC).g3 E O C
     clear aC
     refine .r [0] <| GA.ssub (i := 1) (t := 9) (lo := none) (hi := some (vI 1)) (s := w_) (by kernel_rfl) 0 1 (by kernel_rfl) (by kernel_rfl) (.inl ⟨rfl, rfl⟩) (.inr ⟨_, _, rfl, by omega⟩) (by first | omega | (simp; omega) | (simp at *; omega)) (by first | omega | (simp; omega) | (simp at *; omega)) <| .r [2] <| GA.ssub (i := 3) (t := 9) (lo := some (vI 2)) (hi := none) (s := w_) (by kernel_rfl) 2 w_.length (by kernel_rfl) (by kernel_rfl) (.inr ⟨_, _, rfl, by omega⟩) (.inl ⟨rfl, rfl⟩) (by first | omega | (simp; omega) | (simp at *; omega)) (by first | omega | (simp; omega) | (simp at *; omega)) <| .d fun cw aD => ?_
     replace ⟨E, O, C⟩ := (se [] aD).g3 E O C
     clear aD
     refine RG.cat (t := 9) (s := ((w_.take 1).drop 0)) (u := ((w_.take w_.length).drop 2)) (by kernel_rfl) (by simp; omega) <| .r 1 <| .d <| .s <| .s <| .g <| .r 1 <| RG.eqv (v := vI ((((w_.take 1).drop 0) ++ ((w_.take w_.length).drop 2)).length : Int)) (by kernel_rfl) (s_len (((w_.take 1).drop 0) ++ ((w_.take w_.length).drop 2))) <| .ne ((((w_.take 1).drop 0) ++ ((w_.take w_.length).drop 2)).length : Int) 3 (fun bq => ?_) (fun bq => ?_)
     · refine .r 5 <| .d <| .ct <| .s <| .g <| .ln O <| .sc [.string (bs []), .string (bs []), .bool true] E fun cx aE br bt => ?_
       replace ⟨O, C⟩ := (s1 aE).g2 O C
       clear aE bt
       exact .r 1 <| .d <| .r2 Tryz.func183 Tryz.results183 (.bx br) (.t (.bool false)) ⟨⟨_, (tup2 rfl (congrArg Value.bool (by first | rw [condR_no (notW_1 (by assumption)) (.inl (by assumption))] | rw [condR_no (notW_1 (by assumption)) (.inr ⟨_, by assumption, by assumption⟩)] | rw [condR_yes (notW_1 (by assumption)) (by assumption) (by assumption) (by assumption)] | rw [condR_no (notW_2 (by assumption) (by assumption) (by assumption)) (.inl (by assumption))] | rw [condR_no (notW_2 (by assumption) (by assumption) (by assumption)) (.inr ⟨_, by assumption, by assumption⟩)] | rw [condR_yes (notW_2 (by assumption) (by assumption) (by assumption)) (by assumption) (by assumption) (by assumption)] | rw [condR_no (notW_3 (by assumption) (by assumption) (by assumption)) (.inl (by assumption))] | rw [condR_no (notW_3 (by assumption) (by assumption) (by assumption)) (.inr ⟨_, by assumption, by assumption⟩)] | rw [condR_yes (notW_3 (by assumption) (by assumption) (by assumption)) (by assumption) (by assumption) (by assumption)]))), (VS.of (y := (⟨(⟨[], []⟩ : Tag), true⟩ : Cnd)) ⟨_, rfl, rfl⟩ (by first | rw [condR_no (notW_1 (by assumption)) (.inl (by assumption))] | rw [condR_no (notW_1 (by assumption)) (.inr ⟨_, by assumption, by assumption⟩)] | rw [condR_yes (notW_1 (by assumption)) (by assumption) (by assumption) (by assumption)] | rw [condR_no (notW_2 (by assumption) (by assumption) (by assumption)) (.inl (by assumption))] | rw [condR_no (notW_2 (by assumption) (by assumption) (by assumption)) (.inr ⟨_, by assumption, by assumption⟩)] | rw [condR_yes (notW_2 (by assumption) (by assumption) (by assumption)) (by assumption) (by assumption) (by assumption)] | rw [condR_no (notW_3 (by assumption) (by assumption) (by assumption)) (.inl (by assumption))] | rw [condR_no (notW_3 (by assumption) (by assumption) (by assumption)) (.inr ⟨_, by assumption, by assumption⟩)] | rw [condR_yes (notW_3 (by assumption) (by assumption) (by assumption)) (by assumption) (by assumption) (by assumption)]))⟩, C⟩
     refine .r 2 ?_
     obtain ⟨bu, aF⟩ : ∃ y, (((w_.take 1).drop 0) ++ ((w_.take w_.length).drop 2))[1]? = some y := ⟨_, List.getElem?_eq_getElem (by omega)⟩
     have bU := UInt8.toNat_lt bu; have bV := drop_at aF
     refine RG.sidx (t := 9) (s := (((w_.take 1).drop 0) ++ ((w_.take w_.length).drop 2))) (k := .i64) (i := 1) 1 (by kernel_rfl) (by kernel_rfl) (by omega) aF <| .ne (bu.toNat : Int) 61 (fun bv => ?_) (fun bv => ?_)
     · refine .r 1 <| .d <| .ct <| .s <| .g <| .ln O <| .sc [.string (bs []), .string (bs []), .bool true] E fun cy aG bw bz => ?_
       replace ⟨O, C⟩ := (s1 aG).g2 O C
       clear aG bz
       exact .r 1 <| .d <| .r2 Tryz.func183 Tryz.results183 (.bx bw) (.t (.bool false)) ⟨⟨_, (tup2 rfl (congrArg Value.bool (by first | rw [condR_no (notW_1 (by assumption)) (.inl (by assumption))] | rw [condR_no (notW_1 (by assumption)) (.inr ⟨_, by assumption, by assumption⟩)] | rw [condR_yes (notW_1 (by assumption)) (by assumption) (by assumption) (by assumption)] | rw [condR_no (notW_2 (by assumption) (by assumption) (by assumption)) (.inl (by assumption))] | rw [condR_no (notW_2 (by assumption) (by assumption) (by assumption)) (.inr ⟨_, by assumption, by assumption⟩)] | rw [condR_yes (notW_2 (by assumption) (by assumption) (by assumption)) (by assumption) (by assumption) (by assumption)] | rw [condR_no (notW_3 (by assumption) (by assumption) (by assumption)) (.inl (by assumption))] | rw [condR_no (notW_3 (by assumption) (by assumption) (by assumption)) (.inr ⟨_, by assumption, by assumption⟩)] | rw [condR_yes (notW_3 (by assumption) (by assumption) (by assumption)) (by assumption) (by assumption) (by assumption)]))), (VS.of (y := (⟨(⟨[], []⟩ : Tag), true⟩ : Cnd)) ⟨_, rfl, rfl⟩ (by first | rw [condR_no (notW_1 (by assumption)) (.inl (by assumption))] | rw [condR_no (notW_1 (by assumption)) (.inr ⟨_, by assumption, by assumption⟩)] | rw [condR_yes (notW_1 (by assumption)) (by assumption) (by assumption) (by assumption)] | rw [condR_no (notW_2 (by assumption) (by assumption) (by assumption)) (.inl (by assumption))] | rw [condR_no (notW_2 (by assumption) (by assumption) (by assumption)) (.inr ⟨_, by assumption, by assumption⟩)] | rw [condR_yes (notW_2 (by assumption) (by assumption) (by assumption)) (by assumption) (by assumption) (by assumption)] | rw [condR_no (notW_3 (by assumption) (by assumption) (by assumption)) (.inl (by assumption))] | rw [condR_no (notW_3 (by assumption) (by assumption) (by assumption)) (.inr ⟨_, by assumption, by assumption⟩)] | rw [condR_yes (notW_3 (by assumption) (by assumption) (by assumption)) (by assumption) (by assumption) (by assumption)]))⟩, C⟩
     refine .r 1 <| .d <| .cf <| .sk <| .s <| .gd nil 4 fun cz aH => ?_
     replace ⟨E, O, C⟩ := (se [] aH).g3 E O C
     clear aH
     refine .r [0] <| GA.ssub (i := 1) (t := 9) (lo := none) (hi := some (vI 1)) (s := (((w_.take 1).drop 0) ++ ((w_.take w_.length).drop 2))) (by kernel_rfl) 0 1 (by kernel_rfl) (by kernel_rfl) (.inl ⟨rfl, rfl⟩) (.inr ⟨_, _, rfl, by omega⟩) (by first | omega | (simp; omega) | (simp at *; omega)) (by first | omega | (simp; omega) | (simp at *; omega)) <| .r [2] <| GA.ssub (i := 3) (t := 9) (lo := some (vI 2)) (hi := none) (s := (((w_.take 1).drop 0) ++ ((w_.take w_.length).drop 2))) (by kernel_rfl) 2 ((((w_.take 1).drop 0) ++ ((w_.take w_.length).drop 2)).length) (by kernel_rfl) (by kernel_rfl) (.inr ⟨_, _, rfl, by omega⟩) (.inl ⟨rfl, rfl⟩) (by first | omega | (simp; omega) | (simp at *; omega)) (by first | omega | (simp; omega) | (simp at *; omega)) <| .d fun cA aI => ?_
     replace ⟨E, O, C⟩ := (se [] aI).g3 E O C
     clear aI
     refine .r 2 <| .sb 0 (.agg #[.string (bs (((((w_.take 1).drop 0) ++ ((w_.take w_.length).drop 2)).take 1).drop 0)), .string (bs (((((w_.take 1).drop 0) ++ ((w_.take w_.length).drop 2)).take ((((w_.take 1).drop 0) ++ ((w_.take w_.length).drop 2)).length)).drop 2))]) [.string (bs (((((w_.take 1).drop 0) ++ ((w_.take w_.length).drop 2)).take 1).drop 0)), .string (bs (((((w_.take 1).drop 0) ++ ((w_.take w_.length).drop 2)).take ((((w_.take 1).drop 0) ++ ((w_.take w_.length).drop 2)).length)).drop 2)), .bool true] O fun cB aJ Z bA => ?_
     replace ⟨E, C⟩ := (s1 aJ).g2 E C
     clear aJ bA
     refine .d <| .s <| .gd nil 4 fun cC aK => ?_
     replace ⟨E, Z, C⟩ := (se [] aK).g3 E Z C
     clear aK
     refine .ln 0 Z id <| .r [1] <| .ln 2 Z id <| GA.call1 (i := 3) (by kernel_rfl) (fun bK bW => c_spec_l3Tag (⟨(((((w_.take 1).drop 0) ++ ((w_.take w_.length).drop 2)).take 1).drop 0), (((((w_.take 1).drop 0) ++ ((w_.take w_.length).drop 2)).take ((((w_.take 1).drop 0) ++ ((w_.take w_.length).drop 2)).length)).drop 2)⟩ : Tag) (w := bK) (F := all)) <| .d fun cD aL => ?_
     replace ⟨E, C⟩ := (se [] aL).g2 E C
     clear aL
     refine .sc [.string (bs (((((w_.take 1).drop 0) ++ ((w_.take w_.length).drop 2)).take 1).drop 0)), .string (bs (((((w_.take 1).drop 0) ++ ((w_.take w_.length).drop 2)).take ((((w_.take 1).drop 0) ++ ((w_.take w_.length).drop 2)).length)).drop 2)), .bool true] E fun cE aM bB bC => ?_
     replace C := (s1 aM).g1 C
     clear aM bC
     exact .r 1 <| .d <| .r2 Tryz.func183 Tryz.results183 (.bx bB) (.t (.bool (tagOk (⟨(((((w_.take 1).drop 0) ++ ((w_.take w_.length).drop 2)).take 1).drop 0), (((((w_.take 1).drop 0) ++ ((w_.take w_.length).drop 2)).take ((((w_.take 1).drop 0) ++ ((w_.take w_.length).drop 2)).length)).drop 2)⟩ : Tag)))) ⟨⟨_, (tup2 rfl (congrArg Value.bool (by first | rw [condR_no (notW_1 (by assumption)) (.inl (by assumption))] | rw [condR_no (notW_1 (by assumption)) (.inr ⟨_, by assumption, by assumption⟩)] | rw [condR_yes (notW_1 (by assumption)) (by assumption) (by assumption) (by assumption)] | rw [condR_no (notW_2 (by assumption) (by assumption) (by assumption)) (.inl (by assumption))] | rw [condR_no (notW_2 (by assumption) (by assumption) (by assumption)) (.inr ⟨_, by assumption, by assumption⟩)] | rw [condR_yes (notW_2 (by assumption) (by assumption) (by assumption)) (by assumption) (by assumption) (by assumption)] | rw [condR_no (notW_3 (by assumption) (by assumption) (by assumption)) (.inl (by assumption))] | rw [condR_no (notW_3 (by assumption) (by assumption) (by assumption)) (.inr ⟨_, by assumption, by assumption⟩)] | rw [condR_yes (notW_3 (by assumption) (by assumption) (by assumption)) (by assumption) (by assumption) (by assumption)]))), (VS.of (y := (⟨(⟨(((((w_.take 1).drop 0) ++ ((w_.take w_.length).drop 2)).take 1).drop 0), (((((w_.take 1).drop 0) ++ ((w_.take w_.length).drop 2)).take ((((w_.take 1).drop 0) ++ ((w_.take w_.length).drop 2)).length)).drop 2)⟩ : Tag), true⟩ : Cnd)) ⟨_, rfl, rfl⟩ (by first | rw [condR_no (notW_1 (by assumption)) (.inl (by assumption))] | rw [condR_no (notW_1 (by assumption)) (.inr ⟨_, by assumption, by assumption⟩)] | rw [condR_yes (notW_1 (by assumption)) (by assumption) (by assumption) (by assumption)] | rw [condR_no (notW_2 (by assumption) (by assumption) (by assumption)) (.inl (by assumption))] | rw [condR_no (notW_2 (by assumption) (by assumption) (by assumption)) (.inr ⟨_, by assumption, by assumption⟩)] | rw [condR_yes (notW_2 (by assumption) (by assumption) (by assumption)) (by assumption) (by assumption) (by assumption)] | rw [condR_no (notW_3 (by assumption) (by assumption) (by assumption)) (.inl (by assumption))] | rw [condR_no (notW_3 (by assumption) (by assumption) (by assumption)) (.inr ⟨_, by assumption, by assumption⟩)] | rw [condR_yes (notW_3 (by assumption) (by assumption) (by assumption)) (by assumption) (by assumption) (by assumption)]))⟩, C⟩
   refine .r 1 <| .d <| .cf <| .sk <| .s <| .s <| .g <| .r 1 <| RG.eqv (v := vI (w_.length : Int)) (by kernel_rfl) (s_len w_) <| .ne (w_.length : Int) 3 (fun bD => ?_) (fun bD => ?_)
   · refine .r 5 <| .d <| .ct <| .s <| .g <| .ln J <| .sc [.string (bs []), .string (bs []), .bool false] E fun cF aN bE bF => ?_
     replace ⟨J, C⟩ := (s1 aN).g2 J C
     clear aN bF
     exact .r 1 <| .d <| .r2 Tryz.func183 Tryz.results183 (.bx bE) (.t (.bool false)) ⟨⟨_, (tup2 rfl (congrArg Value.bool (by first | rw [condR_no (notW_1 (by assumption)) (.inl (by assumption))] | rw [condR_no (notW_1 (by assumption)) (.inr ⟨_, by assumption, by assumption⟩)] | rw [condR_yes (notW_1 (by assumption)) (by assumption) (by assumption) (by assumption)] | rw [condR_no (notW_2 (by assumption) (by assumption) (by assumption)) (.inl (by assumption))] | rw [condR_no (notW_2 (by assumption) (by assumption) (by assumption)) (.inr ⟨_, by assumption, by assumption⟩)] | rw [condR_yes (notW_2 (by assumption) (by assumption) (by assumption)) (by assumption) (by assumption) (by assumption)] | rw [condR_no (notW_3 (by assumption) (by assumption) (by assumption)) (.inl (by assumption))] | rw [condR_no (notW_3 (by assumption) (by assumption) (by assumption)) (.inr ⟨_, by assumption, by assumption⟩)] | rw [condR_yes (notW_3 (by assumption) (by assumption) (by assumption)) (by assumption) (by assumption) (by assumption)]))), (VS.of (y := (⟨(⟨[], []⟩ : Tag), false⟩ : Cnd)) ⟨_, rfl, rfl⟩ (by first | rw [condR_no (notW_1 (by assumption)) (.inl (by assumption))] | rw [condR_no (notW_1 (by assumption)) (.inr ⟨_, by assumption, by assumption⟩)] | rw [condR_yes (notW_1 (by assumption)) (by assumption) (by assumption) (by assumption)] | rw [condR_no (notW_2 (by assumption) (by assumption) (by assumption)) (.inl (by assumption))] | rw [condR_no (notW_2 (by assumption) (by assumption) (by assumption)) (.inr ⟨_, by assumption, by assumption⟩)] | rw [condR_yes (notW_2 (by assumption) (by assumption) (by assumption)) (by assumption) (by assumption) (by assumption)] | rw [condR_no (notW_3 (by assumption) (by assumption) (by assumption)) (.inl (by assumption))] | rw [condR_no (notW_3 (by assumption) (by assumption) (by assumption)) (.inr ⟨_, by assumption, by assumption⟩)] | rw [condR_yes (notW_3 (by assumption) (by assumption) (by assumption)) (by assumption) (by assumption) (by assumption)]))⟩, C⟩
   refine .r 2 <| RG.sidx (t := 9) (s := w_) (k := .i64) (i := 1) 1 (by kernel_rfl) (by kernel_rfl) (by omega) ab <| .ne (aP.toNat : Int) 61 (fun bG => ?_) (fun bG => ?_)
   · refine .r 1 <| .d <| .ct <| .s <| .g <| .ln J <| .sc [.string (bs []), .string (bs []), .bool false] E fun bX ac aQ aR => ?_
     replace ⟨J, C⟩ := (s1 ac).g2 J C
     clear ac aR
     exact .r 1 <| .d <| .r2 Tryz.func183 Tryz.results183 (.bx aQ) (.t (.bool false)) ⟨⟨_, (tup2 rfl (congrArg Value.bool (by first | rw [condR_no (notW_1 (by assumption)) (.inl (by assumption))] | rw [condR_no (notW_1 (by assumption)) (.inr ⟨_, by assumption, by assumption⟩)] | rw [condR_yes (notW_1 (by assumption)) (by assumption) (by assumption) (by assumption)] | rw [condR_no (notW_2 (by assumption) (by assumption) (by assumption)) (.inl (by assumption))] | rw [condR_no (notW_2 (by assumption) (by assumption) (by assumption)) (.inr ⟨_, by assumption, by assumption⟩)] | rw [condR_yes (notW_2 (by assumption) (by assumption) (by assumption)) (by assumption) (by assumption) (by assumption)] | rw [condR_no (notW_3 (by assumption) (by assumption) (by assumption)) (.inl (by assumption))] | rw [condR_no (notW_3 (by assumption) (by assumption) (by assumption)) (.inr ⟨_, by assumption, by assumption⟩)] | rw [condR_yes (notW_3 (by assumption) (by assumption) (by assumption)) (by assumption) (by assumption) (by assumption)]))), (VS.of (y := (⟨(⟨[], []⟩ : Tag), false⟩ : Cnd)) ⟨_, rfl, rfl⟩ (by first | rw [condR_no (notW_1 (by assumption)) (.inl (by assumption))] | rw [condR_no (notW_1 (by assumption)) (.inr ⟨_, by assumption, by assumption⟩)] | rw [condR_yes (notW_1 (by assumption)) (by assumption) (by assumption) (by assumption)] | rw [condR_no (notW_2 (by assumption) (by assumption) (by assumption)) (.inl (by assumption))] | rw [condR_no (notW_2 (by assumption) (by assumption) (by assumption)) (.inr ⟨_, by assumption, by assumption⟩)] | rw [condR_yes (notW_2 (by assumption) (by assumption) (by assumption)) (by assumption) (by assumption) (by assumption)] | rw [condR_no (notW_3 (by assumption) (by assumption) (by assumption)) (.inl (by assumption))] | rw [condR_no (notW_3 (by assumption) (by assumption) (by assumption)) (.inr ⟨_, by assumption, by assumption⟩)] | rw [condR_yes (notW_3 (by assumption) (by assumption) (by assumption)) (by assumption) (by assumption) (by assumption)]))⟩, C⟩
   refine .r 1 <| .d <| .cf <| .sk <| .s <| .gd nil 4 fun bY ae => ?_
   replace ⟨E, J, C⟩ := (se [] ae).g3 E J C
   clear ae
   refine .r [0] <| GA.ssub (i := 1) (t := 9) (lo := none) (hi := some (vI 1)) (s := w_) (by kernel_rfl) 0 1 (by kernel_rfl) (by kernel_rfl) (.inl ⟨rfl, rfl⟩) (.inr ⟨_, _, rfl, by omega⟩) (by first | omega | (simp; omega) | (simp at *; omega)) (by first | omega | (simp; omega) | (simp at *; omega)) <| .r [2] <| GA.ssub (i := 3) (t := 9) (lo := some (vI 2)) (hi := none) (s := w_) (by kernel_rfl) 2 w_.length (by kernel_rfl) (by kernel_rfl) (.inr ⟨_, _, rfl, by omega⟩) (.inl ⟨rfl, rfl⟩) (by first | omega | (simp; omega) | (simp at *; omega)) (by first | omega | (simp; omega) | (simp at *; omega)) <| .d fun bZ af => ?_
   replace ⟨E, J, C⟩ := (se [] af).g3 E J C
   clear af
   refine .r 2 <| .sb 0 (.agg #[.string (bs ((w_.take 1).drop 0)), .string (bs ((w_.take w_.length).drop 2))]) [.string (bs ((w_.take 1).drop 0)), .string (bs ((w_.take w_.length).drop 2)), .bool false] J fun b0 ag V aS => ?_
   replace ⟨E, C⟩ := (s1 ag).g2 E C
   clear ag aS
   refine .d <| .s <| .gd nil 4 fun b6 ah => ?_
   replace ⟨E, V, C⟩ := (se [] ah).g3 E V C
   clear ah
   refine .ln 0 V id <| .r [1] <| .ln 2 V id <| GA.call1 (i := 3) (by kernel_rfl) (fun bH bL => c_spec_l3Tag (⟨((w_.take 1).drop 0), ((w_.take w_.length).drop 2)⟩ : Tag) (w := bH) (F := all)) <| .d fun b7 ai => ?_
   replace ⟨E, C⟩ := (se [] ai).g2 E C
   clear ai
   refine .sc [.string (bs ((w_.take 1).drop 0)), .string (bs ((w_.take w_.length).drop 2)), .bool false] E fun b8 aj aT aU => ?_
   replace C := (s1 aj).g1 C
   clear aj aU
   exact .r 1 <| .d <| .r2 Tryz.func183 Tryz.results183 (.bx aT) (.t (.bool (tagOk (⟨((w_.take 1).drop 0), ((w_.take w_.length).drop 2)⟩ : Tag)))) ⟨⟨_, (tup2 rfl (congrArg Value.bool (by first | rw [condR_no (notW_1 (by assumption)) (.inl (by assumption))] | rw [condR_no (notW_1 (by assumption)) (.inr ⟨_, by assumption, by assumption⟩)] | rw [condR_yes (notW_1 (by assumption)) (by assumption) (by assumption) (by assumption)] | rw [condR_no (notW_2 (by assumption) (by assumption) (by assumption)) (.inl (by assumption))] | rw [condR_no (notW_2 (by assumption) (by assumption) (by assumption)) (.inr ⟨_, by assumption, by assumption⟩)] | rw [condR_yes (notW_2 (by assumption) (by assumption) (by assumption)) (by assumption) (by assumption) (by assumption)] | rw [condR_no (notW_3 (by assumption) (by assumption) (by assumption)) (.inl (by assumption))] | rw [condR_no (notW_3 (by assumption) (by assumption) (by assumption)) (.inr ⟨_, by assumption, by assumption⟩)] | rw [condR_yes (notW_3 (by assumption) (by assumption) (by assumption)) (by assumption) (by assumption) (by assumption)]))), (VS.of (y := (⟨(⟨((w_.take 1).drop 0), ((w_.take w_.length).drop 2)⟩ : Tag), false⟩ : Cnd)) ⟨_, rfl, rfl⟩ (by first | rw [condR_no (notW_1 (by assumption)) (.inl (by assumption))] | rw [condR_no (notW_1 (by assumption)) (.inr ⟨_, by assumption, by assumption⟩)] | rw [condR_yes (notW_1 (by assumption)) (by assumption) (by assumption) (by assumption)] | rw [condR_no (notW_2 (by assumption) (by assumption) (by assumption)) (.inl (by assumption))] | rw [condR_no (notW_2 (by assumption) (by assumption) (by assumption)) (.inr ⟨_, by assumption, by assumption⟩)] | rw [condR_yes (notW_2 (by assumption) (by assumption) (by assumption)) (by assumption) (by assumption) (by assumption)] | rw [condR_no (notW_3 (by assumption) (by assumption) (by assumption)) (.inl (by assumption))] | rw [condR_no (notW_3 (by assumption) (by assumption) (by assumption)) (.inr ⟨_, by assumption, by assumption⟩)] | rw [condR_yes (notW_3 (by assumption) (by assumption) (by assumption)) (by assumption) (by assumption) (by assumption)]))⟩, C⟩
 refine .r 5 <| .d <| .cf <| .sk <| .s <| .s <| .g <| .r 1 <| RG.eqv (v := vI (w_.length : Int)) (by kernel_rfl) (s_len w_) <| .ne (w_.length : Int) 3 (fun aV => ?_) (fun aV => ?_)
 · refine .r 5 <| .d <| .ct <| .s <| .g <| .ln J <| .sc [.string (bs []), .string (bs []), .bool false] E fun b9 ak aW aX => ?_
   replace ⟨J, C⟩ := (s1 ak).g2 J C
   clear ak aX
   exact .r 1 <| .d <| .r2 Tryz.func183 Tryz.results183 (.bx aW) (.t (.bool false)) ⟨⟨_, (tup2 rfl (congrArg Value.bool (by first | rw [condR_no (notW_1 (by assumption)) (.inl (by assumption))] | rw [condR_no (notW_1 (by assumption)) (.inr ⟨_, by assumption, by assumption⟩)] | rw [condR_yes (notW_1 (by assumption)) (by assumption) (by assumption) (by assumption)] | rw [condR_no (notW_2 (by assumption) (by assumption) (by assumption)) (.inl (by assumption))] | rw [condR_no (notW_2 (by assumption) (by assumption) (by assumption)) (.inr ⟨_, by assumption, by assumption⟩)] | rw [condR_yes (notW_2 (by assumption) (by assumption) (by assumption)) (by assumption) (by assumption) (by assumption)] | rw [condR_no (notW_3 (by assumption) (by assumption) (by assumption)) (.inl (by assumption))] | rw [condR_no (notW_3 (by assumption) (by assumption) (by assumption)) (.inr ⟨_, by assumption, by assumption⟩)] | rw [condR_yes (notW_3 (by assumption) (by assumption) (by assumption)) (by assumption) (by assumption) (by assumption)]))), (VS.of (y := (⟨(⟨[], []⟩ : Tag), false⟩ : Cnd)) ⟨_, rfl, rfl⟩ (by first | rw [condR_no (notW_1 (by assumption)) (.inl (by assumption))] | rw [condR_no (notW_1 (by assumption)) (.inr ⟨_, by assumption, by assumption⟩)] | rw [condR_yes (notW_1 (by assumption)) (by assumption) (by assumption) (by assumption)] | rw [condR_no (notW_2 (by assumption) (by assumption) (by assumption)) (.inl (by assumption))] | rw [condR_no (notW_2 (by assumption) (by assumption) (by assumption)) (.inr ⟨_, by assumption, by assumption⟩)] | rw [condR_yes (notW_2 (by assumption) (by assumption) (by assumption)) (by assumption) (by assumption) (by assumption)] | rw [condR_no (notW_3 (by assumption) (by assumption) (by assumption)) (.inl (by assumption))] | rw [condR_no (notW_3 (by assumption) (by assumption) (by assumption)) (.inr ⟨_, by assumption, by assumption⟩)] | rw [condR_yes (notW_3 (by assumption) (by assumption) (by assumption)) (by assumption) (by assumption) (by assumption)]))⟩, C⟩
 refine .r 2 ?_
 obtain ⟨aO, al⟩ : ∃ y, w_[1]? = some y := ⟨_, List.getElem?_eq_getElem (by omega)⟩
 have bM := UInt8.toNat_lt aO; have bN := drop_at al
 refine RG.sidx (t := 9) (s := w_) (k := .i64) (i := 1) 1 (by kernel_rfl) (by kernel_rfl) (by omega) al <| .ne (aO.toNat : Int) 61 (fun aY => ?_) (fun aY => ?_)
 · refine .r 1 <| .d <| .ct <| .s <| .g <| .ln J <| .sc [.string (bs []), .string (bs []), .bool false] E fun cd am aZ ba => ?_
   replace ⟨J, C⟩ := (s1 am).g2 J C
   clear am ba
   exact .r 1 <| .d <| .r2 Tryz.func183 Tryz.results183 (.bx aZ) (.t (.bool false)) ⟨⟨_, (tup2 rfl (congrArg Value.bool (by first | rw [condR_no (notW_1 (by assumption)) (.inl (by assumption))] | rw [condR_no (notW_1 (by assumption)) (.inr ⟨_, by assumption, by assumption⟩)] | rw [condR_yes (notW_1 (by assumption)) (by assumption) (by assumption) (by assumption)] | rw [condR_no (notW_2 (by assumption) (by assumption) (by assumption)) (.inl (by assumption))] | rw [condR_no (notW_2 (by assumption) (by assumption) (by assumption)) (.inr ⟨_, by assumption, by assumption⟩)] | rw [condR_yes (notW_2 (by assumption) (by assumption) (by assumption)) (by assumption) (by assumption) (by assumption)] | rw [condR_no (notW_3 (by assumption) (by assumption) (by assumption)) (.inl (by assumption))] | rw [condR_no (notW_3 (by assumption) (by assumption) (by assumption)) (.inr ⟨_, by assumption, by assumption⟩)] | rw [condR_yes (notW_3 (by assumption) (by assumption) (by assumption)) (by assumption) (by assumption) (by assumption)]))), (VS.of (y := (⟨(⟨[], []⟩ : Tag), false⟩ : Cnd)) ⟨_, rfl, rfl⟩ (by first | rw [condR_no (notW_1 (by assumption)) (.inl (by assumption))] | rw [condR_no (notW_1 (by assumption)) (.inr ⟨_, by assumption, by assumption⟩)] | rw [condR_yes (notW_1 (by assumption)) (by assumption) (by assumption) (by assumption)] | rw [condR_no (notW_2 (by assumption) (by assumption) (by assumption)) (.inl (by assumption))] | rw [condR_no (notW_2 (by assumption) (by assumption) (by assumption)) (.inr ⟨_, by assumption, by assumption⟩)] | rw [condR_yes (notW_2 (by assumption) (by assumption) (by assumption)) (by assumption) (by assumption) (by assumption)] | rw [condR_no (notW_3 (by assumption) (by assumption) (by assumption)) (.inl (by assumption))] | rw [condR_no (notW_3 (by assumption) (by assumption) (by assumption)) (.inr ⟨_, by assumption, by assumption⟩)] | rw [condR_yes (notW_3 (by assumption) (by assumption) (by assumption)) (by assumption) (by assumption) (by assumption)]))⟩, C⟩
 refine .r 1 <| .d <| .cf <| .sk <| .s <| .gd nil 4 fun ce ao => ?_
 replace ⟨E, J, C⟩ := (se [] ao).g3 E J C
 clear ao
 refine .r [0] <| GA.ssub (i := 1) (t := 9) (lo := none) (hi := some (vI 1)) (s := w_) (by kernel_rfl) 0 1 (by kernel_rfl) (by kernel_rfl) (.inl ⟨rfl, rfl⟩) (.inr ⟨_, _, rfl, by omega⟩) (by first | omega | (simp; omega) | (simp at *; omega)) (by first | omega | (simp; omega) | (simp at *; omega)) <| .r [2] <| GA.ssub (i := 3) (t := 9) (lo := some (vI 2)) (hi := none) (s := w_) (by kernel_rfl) 2 w_.length (by kernel_rfl) (by kernel_rfl) (.inr ⟨_, _, rfl, by omega⟩) (.inl ⟨rfl, rfl⟩) (by first | omega | (simp; omega) | (simp at *; omega)) (by first | omega | (simp; omega) | (simp at *; omega)) <| .d fun cg aq => ?_
 replace ⟨E, J, C⟩ := (se [] aq).g3 E J C
 clear aq
 refine .r 2 <| .sb 0 (.agg #[.string (bs ((w_.take 1).drop 0)), .string (bs ((w_.take w_.length).drop 2))]) [.string (bs ((w_.take 1).drop 0)), .string (bs ((w_.take w_.length).drop 2)), .bool false] J fun ci ar W bc => ?_
 replace ⟨E, C⟩ := (s1 ar).g2 E C
 clear ar bc
 refine .d <| .s <| .gd nil 4 fun cj au => ?_
 replace ⟨E, W, C⟩ := (se [] au).g3 E W C
 clear au
 refine .ln 0 W id <| .r [1] <| .ln 2 W id <| GA.call1 (i := 3) (by kernel_rfl) (fun bI bO => c_spec_l3Tag (⟨((w_.take 1).drop 0), ((w_.take w_.length).drop 2)⟩ : Tag) (w := bI) (F := all)) <| .d fun ck av => ?_
 replace ⟨E, C⟩ := (se [] av).g2 E C
 clear av
 refine .sc [.string (bs ((w_.take 1).drop 0)), .string (bs ((w_.take w_.length).drop 2)), .bool false] E fun cm aw bd bg => ?_
 replace C := (s1 aw).g1 C
 clear aw bg
 exact .r 1 <| .d <| .r2 Tryz.func183 Tryz.results183 (.bx bd) (.t (.bool (tagOk (⟨((w_.take 1).drop 0), ((w_.take w_.length).drop 2)⟩ : Tag)))) ⟨⟨_, (tup2 rfl (congrArg Value.bool (by first | rw [condR_no (notW_1 (by assumption)) (.inl (by assumption))] | rw [condR_no (notW_1 (by assumption)) (.inr ⟨_, by assumption, by assumption⟩)] | rw [condR_yes (notW_1 (by assumption)) (by assumption) (by assumption) (by assumption)] | rw [condR_no (notW_2 (by assumption) (by assumption) (by assumption)) (.inl (by assumption))] | rw [condR_no (notW_2 (by assumption) (by assumption) (by assumption)) (.inr ⟨_, by assumption, by assumption⟩)] | rw [condR_yes (notW_2 (by assumption) (by assumption) (by assumption)) (by assumption) (by assumption) (by assumption)] | rw [condR_no (notW_3 (by assumption) (by assumption) (by assumption)) (.inl (by assumption))] | rw [condR_no (notW_3 (by assumption) (by assumption) (by assumption)) (.inr ⟨_, by assumption, by assumption⟩)] | rw [condR_yes (notW_3 (by assumption) (by assumption) (by assumption)) (by assumption) (by assumption) (by assumption)]))), (VS.of (y := (⟨(⟨((w_.take 1).drop 0), ((w_.take w_.length).drop 2)⟩ : Tag), false⟩ : Cnd)) ⟨_, rfl, rfl⟩ (by first | rw [condR_no (notW_1 (by assumption)) (.inl (by assumption))] | rw [condR_no (notW_1 (by assumption)) (.inr ⟨_, by assumption, by assumption⟩)] | rw [condR_yes (notW_1 (by assumption)) (by assumption) (by assumption) (by assumption)] | rw [condR_no (notW_2 (by assumption) (by assumption) (by assumption)) (.inl (by assumption))] | rw [condR_no (notW_2 (by assumption) (by assumption) (by assumption)) (.inr ⟨_, by assumption, by assumption⟩)] | rw [condR_yes (notW_2 (by assumption) (by assumption) (by assumption)) (by assumption) (by assumption) (by assumption)] | rw [condR_no (notW_3 (by assumption) (by assumption) (by assumption)) (.inl (by assumption))] | rw [condR_no (notW_3 (by assumption) (by assumption) (by assumption)) (.inr ⟨_, by assumption, by assumption⟩)] | rw [condR_yes (notW_3 (by assumption) (by assumption) (by assumption)) (by assumption) (by assumption) (by assumption)]))⟩, C⟩
theorem c_spec_FilterRead (text_ : Str) {w : World} {F : Nat → Prop}  (p0 : text_.length ≤ 1000) : Calls Tryz.prog 156 [.string (bs text_)].toArray w (rets fun rv w' => (∃ v0, rv = .tuple #[v0, .bool ((filtR text_).2)] ∧ VL (ge w.heap.size) w' ((filtR text_).1 : List Cnd) v0) ∧ Ext w w') := by
 refine goT Tryz.func156 <| .s <| .g <| .r 2 <| .d <| .s <| .g <| .ns 0 124 [] fun W aR ao aE bh bi => ?_
 have aF := gb_new ao (Nat.le_refl _)
 have bj : Cov nil w W := cov_new ao (Nat.le_refl _)
 have C := aE
 clear aE bi ao
 have ac : Own (α := Cnd) aR W 124 (nin (ge w.heap.size) [W]) 0 0 [] := Own.nil' bh
 refine .r 1 <| .d <| .s <| .s <| .g <| .r 1 <| RG.eqv (v := .bool ((text_ == [42]))) (by kernel_rfl) (s_eq text_ [42]) ?_
 cases bV : (text_ == [42])
 · refine .d <| .cf <| .sk <| .s <| .g <| .r 1 <| .cl (c_spec_l3Cut text_ (44 : UInt8) (by omega) (w := aR) (F := all)) ?_
   rintro cp aC ⟨⟨bL, bM, rfl, aj⟩, aG⟩
   have aH := al1 ac.lt
   have bk : Gb w.heap.size aR.heap.size := C.size
   replace ⟨ac, C⟩ := (se [W] aG).g2 ac C
   clear aG
   have aj := aj.fr aH bk
   have bW := aj.max
   clear aH
   refine .r 1 <| .d <| .s <| .s <| .g <| .r 1 <| .d <| .b 0 <| T.loop (X := (List Cnd) × Nat × Nat × Nat × Nat) (([] : List Cnd), W, 0, 0, 0) (fun (out, r_out, n_out, c_out, i) => [(4, vS r_out n_out c_out), (5, .slice bL ((cutT text_ (44 : UInt8)).length) bM), (6, vI (i : Int))]) (fun (out, r_out, n_out, c_out, i) aq => Chg (ins [W]) aC aq ∧ Own aq r_out 124 (nin (ge w.heap.size) [r_out]) n_out c_out out ∧ OrB r_out W aC.heap.size ∧ (i ≤ (cutT text_ 44).length) ∧ (out.length ≤ i) ∧ (filtF out ((cutT text_ 44).drop i) = filtR text_)) (fun (out, r_out, n_out, c_out, i) => (cutT text_ 44).length - i) (by kernel_rfl) ⟨by kernel_rfl, by kernel_rfl, by kernel_rfl, trivial⟩ ⟨Chg.refl _ _, ac, orb_refl, (by first | exact filtR_rest (by assumption) | (simp; done)), (by first | exact filtR_rest (by assumption) | (simp; done)), (by first | exact filtR_rest (by assumption) | (simp; done))⟩ ?_
   rintro ⟨out, r_out, n_out, c_out, i⟩ cq aq ⟨J, E, ae, bX, bY, bZ⟩ ar
   have bm := gb_or' ae aF C.size
   have b0 := cov_or' ae bj C.size
   have bn : Cov (ins [W]) aC W := ⟨.inl (.head _)⟩
   have b6 := cov_or' ae bn (Nat.le_refl _)
   have aI : Mv [W] [r_out] aC aq := Mv.inl J (all_cons (.head _) all_nil) (all_cons (orb_mem ae (.head _)) all_nil)
   replace ⟨aj, C⟩ := (sp aI J).g2 aj C
   clear aI
   have b7 := E.len; have b8 := E.max
   refine .s <| .s <| .g <| .r 3 <| .bp ((i : Int) < (((cutT text_ (44 : UInt8)).length) : Int)) (fun bo => ?_) (fun bo => ?_)
   · refine .d <| .ct <| .sk <| .s <| .b 1 <| .s <| .g <| .r 2 ?_
     have bq : i < (cutT text_ (44 : UInt8)).length := (by omega)
     refine .ix i 1 aj bq ?_
     obtain ⟨O, au⟩ : ∃ y, (cutT text_ (44 : UInt8))[i]? = some y := ⟨_, List.getElem?_eq_getElem (by omega)⟩
     have b9 := drop_at au; have bK := List.mem_of_getElem? au
     obtain ⟨_, rfl, br⟩ := aj.elem i O au
     refine .lh 0 br <| .cl (c_spec_l3Cond O.s (by have q1 := (cutT_len text_ 44).1 _ (by assumption); omega) (w := aq) (F := all)) ?_
     rintro cu cv ⟨⟨cw, rfl, ⟨_, rfl, rfl⟩⟩, aJ⟩
     replace ⟨E, C, J⟩ := (se [r_out] aJ).g3 E C J
     clear aJ
     refine .r 2 ?_
     cases cd : (condR O.s).2
     · refine .r 1 <| .np 124 [.string (bs []), .string (bs []), .bool false] fun aD cx af aK bt bu => ?_
       have ce := nb_new af E.lt
       have cg := C.cn af
       have ci := J.cn af
       replace ⟨E, C, J⟩ := (sn [r_out] aK af).g3 E C J
       clear aK bu af
       refine .sc [.string (bs ((((condR O.s).1).tag).key)), .string (bs ((((condR O.s).1).tag).val)), .bool (((condR O.s).1).no)] bt fun cy aL bv bw => ?_
       replace ⟨E, C, J⟩ := (so [aD, r_out] aL).g3 E C J
       clear aL bw
       refine .r 1 <| .d <| .s <| .s <| .g <| .r 7 <| .d <| .ct <| .s <| .g <| .ns 0 124 [] fun av bz ag aM bA bB => ?_
       have cj := nb_new ag E.lt
       have ck := nb_new ag bv.lt
       have bC := gb_new ag C.size
       replace ⟨E, C, J⟩ := (sn [aD, r_out] aM ag).g3 E C J
       clear aM bB ag
       have bD : Own (α := Cnd) bz av 124 (nin (ge w.heap.size) [av, aD, r_out]) 0 0 [] := Own.nil' bA
       refine .r 2 <| .d ?_
       have bN := bD.sl bC
       replace E := (sd bz [av, aD, r_out] av).g1 E
       exact .r2 Tryz.func156 Tryz.results156 (.t (vS av 0 0)) (.t (.bool false)) ⟨⟨_, (tup2 rfl (congrArg Value.bool (by first | rw [filtR_star (by assumption)] | rw [filt_no (Y := filtR text_) (by assumption) (by assumption) (.inl (by assumption))] | rw [filt_no (Y := filtR text_) (by assumption) (by assumption) (.inr (by omega))] | rw [filtEnd (Y := filtR text_) (by assumption) (by omega)]))), (bN.vl (by first | rw [filtR_star (by assumption)] | rw [filt_no (Y := filtR text_) (by assumption) (by assumption) (.inl (by assumption))] | rw [filt_no (Y := filtR text_) (by assumption) (by assumption) (.inr (by omega))] | rw [filtEnd (Y := filtR text_) (by assumption) (by omega)]) (fun _ _ h => h.1))⟩, C⟩
     refine .r 1 <| .np 124 [.string (bs []), .string (bs []), .bool false] fun ak cz ah aN bE bF => ?_
     have bO := nb_new ah E.lt
     have bP := C.cn ah
     have bQ := J.cn ah
     replace ⟨E, C, J⟩ := (sn [r_out] aN ah).g3 E C J
     clear aN bF ah
     refine .sc [.string (bs ((((condR O.s).1).tag).key)), .string (bs ((((condR O.s).1).tag).val)), .bool (((condR O.s).1).no)] bE fun cm aw Z aS => ?_
     replace ⟨E, C, J⟩ := (so [ak, r_out] aw).g3 E C J
     clear aw aS
     refine .r 1 <| .d <| .s <| .s <| .g <| .r 5 <| .bp ((n_out : Int) ≥ 3) (fun aT => ?_) (fun aT => ?_)
     · refine .r 1 <| .d <| .ct <| .s <| .g <| .ns 0 124 [] fun ai aO aa ax aU aV => ?_
       have bR := nb_new aa E.lt
       have bS := nb_new aa Z.lt
       have aW := gb_new aa C.size
       replace ⟨E, Z, C, J⟩ := (sn [ak, r_out] ax aa).g4 E Z C J
       clear ax aV aa
       have aX : Own (α := Cnd) aO ai 124 (nin (ge w.heap.size) [ai, ak, r_out]) 0 0 [] := Own.nil' aU
       refine .r 2 <| .d ?_
       have bG := aX.sl aW
       replace E := (sd aO [ai, ak, r_out] ai).g1 E
       exact .r2 Tryz.func156 Tryz.results156 (.t (vS ai 0 0)) (.t (.bool false)) ⟨⟨_, (tup2 rfl (congrArg Value.bool (by first | rw [filtR_star (by assumption)] | rw [filt_no (Y := filtR text_) (by assumption) (by assumption) (.inl (by assumption))] | rw [filt_no (Y := filtR text_) (by assumption) (by assumption) (.inr (by omega))] | rw [filtEnd (Y := filtR text_) (by assumption) (by omega)]))), (bG.vl (by first | rw [filtR_star (by assumption)] | rw [filt_no (Y := filtR text_) (by assumption) (by assumption) (.inl (by assumption))] | rw [filt_no (Y := filtR text_) (by assumption) (by assumption) (.inr (by omega))] | rw [filtEnd (Y := filtR text_) (by assumption) (by omega)]) (fun _ _ h => h.1))⟩, C⟩
     refine .r 1 <| .d <| .cf <| .sk <| .g <| .r 1 <| .ln Z <| .ns 1 124 [.string (bs ((((condR O.s).1).tag).key)), .string (bs ((((condR O.s).1).tag).val)), .bool (((condR O.s).1).no)] fun aP co ab ay aY aZ => ?_
     have az := nb_new ab E.lt
     have ba := nb_new ab Z.lt
     have bc := gb_new ab C.size
     replace ⟨E, C, J⟩ := (se [ak, r_out] ay).g3 E C J
     clear ay aZ ab
     have am : nin (ge w.heap.size) [ak, r_out] aP ∧ aP ≠ r_out := hap_mk bc (all_cons ba (all_cons az all_nil)) az
     refine RG.append1 (T := 58) (ty := 58) (y := (⟨(⟨(((condR O.s).1).tag).key, (((condR O.s).1).tag).val⟩ : Tag), ((condR O.s).1).no⟩ : Cnd)) E aY (by kernel_rfl) (by kernel_rfl) rfl am (by have q1 := (cutT_len text_ 44).2; omega) fun aA bH aQ V al aB => ?_
     have bd := orb_or al ae J.size
     replace ⟨C, J⟩ := (s1 aB).g2 C J
     clear aB
     replace V := V.rn r_out
     clear al
     have bT := V.len; have bU := V.max
     refine .r 1 <| .d <| .ib 1 <| .g <| .r 1 <| .it ((i : Int) + 1) <| .r 1 <| .d ?_
     have bg : Mv [ak, aA] [aA] aQ aQ := Mv.less (all_cons (.tail _ (.head _)) all_nil)
     replace V := (sp bg (Chg.refl nil _)).g1 V
     exact ar ((out ++ [(⟨(⟨(((condR O.s).1).tag).key, (((condR O.s).1).tag).val⟩ : Tag), ((condR O.s).1).no⟩ : Cnd)]), aA, n_out + 1, bH, i + 1) _ _ ⟨by kernel_rfl, by kernel_rfl, by kernel_rfl, trivial⟩ ⟨J, V, bd, (by omega), (by simp; omega), (by exact filtStep (by assumption) (by assumption) (by assumption) (by omega))⟩ (by first | omega | (simp only []; omega))
   refine .d <| .cf <| .x 0 rfl <| .s <| .g <| .r 3 <| .d ?_
   have bI := E.sl bm
   exact .r2 Tryz.func156 Tryz.results156 (.t (vS r_out n_out c_out)) (.t (.bool true)) ⟨⟨_, (tup2 rfl (congrArg Value.bool (by first | rw [filtR_star (by assumption)] | rw [filt_no (Y := filtR text_) (by assumption) (by assumption) (.inl (by assumption))] | rw [filt_no (Y := filtR text_) (by assumption) (by assumption) (.inr (by omega))] | rw [filtEnd (Y := filtR text_) (by assumption) (by omega)]))), (bI.vl (by first | rw [filtR_star (by assumption)] | rw [filt_no (Y := filtR text_) (by assumption) (by assumption) (.inl (by assumption))] | rw [filt_no (Y := filtR text_) (by assumption) (by assumption) (.inr (by omega))] | rw [filtEnd (Y := filtR text_) (by assumption) (by omega)]) (fun _ _ h => h.1))⟩, C⟩
 refine .d <| .ct <| .s <| .g <| .r 3 <| .d ?_
 have bJ := ac.sl aF
 exact .r2 Tryz.func156 Tryz.results156 (.t (vS W 0 0)) (.t (.bool true)) ⟨⟨_, (tup2 rfl (congrArg Value.bool (by first | rw [filtR_star (by assumption)] | rw [filt_no (Y := filtR text_) (by assumption) (by assumption) (.inl (by assumption))] | rw [filt_no (Y := filtR text_) (by assumption) (by assumption) (.inr (by omega))] | rw [filtEnd (Y := filtR text_) (by assumption) (by omega)]))), (bJ.vl (by first | rw [filtR_star (by assumption)] | rw [filt_no (Y := filtR text_) (by assumption) (by assumption) (.inl (by assumption))] | rw [filt_no (Y := filtR text_) (by assumption) (by assumption) (.inr (by omega))] | rw [filtEnd (Y := filtR text_) (by assumption) (by omega)]) (fun _ _ h => h.1))⟩, C⟩
theorem c_spec_NameRead (text_ : Str) {w : World} {F : Nat → Prop}  (p0 : text_.length ≤ 1000) : Calls Tryz.prog 103 [.string (bs text_)].toArray w (rets fun rv w' => (∃ (y : Bool), (∃ v0, rv = .tuple #[v0, .bool (y)] ∧ VL (ge w.heap.size) w' (nameR text_ : List Tag) v0) ∧ True) ∧ Ext w w') := by
 refine goT Tryz.func103 <| .s <| .g <| .r 2 <| .d <| .s <| .g <| .r 1 <| .cl (c_spec_FilterRead text_ (by omega) (w := w) (F := all)) ?_
 rintro dg dh ⟨⟨di, rfl, ⟨bP, bQ, rfl, J⟩⟩, aU⟩
 have aV : ∀ q_ ∈ ([] : List Nat), q_ < w.heap.size := all_nil
 have bR : Gb w.heap.size w.heap.size := (Nat.le_refl _)
 have C := aU
 clear aU
 have J := J.fr aV bR
 have cP := J.max
 clear aV
 refine .r 2 ?_
 cases cQ : (filtR text_).2
 · refine .r 3 <| .d <| .s <| .g <| .ns 0 112 [] fun ai aB aC aW bS bT => ?_
   have bU := C.cn aC
   replace ⟨J, C⟩ := (sn [] aW aC).g2 J C
   clear aW bT aC
   have bV : Own (α := Tag) aB ai 112 (nin (ge w.heap.size) [ai]) 0 0 [] := Own.nil' bS
   refine .r 1 <| .d <| .s <| .s <| .g <| .r 1 <| .d <| .b 0 <| T.loop (X := (List Tag) × Nat × Nat × Nat × Nat) (([] : List Tag), ai, 0, 0, 0) (fun (out, r_out, n_out, c_out, i) => [(4, .slice bP (((filtR text_).1).length) bQ), (5, .bool false), (6, vS r_out n_out c_out), (7, vI (i : Int))]) (fun (out, r_out, n_out, c_out, i) aT => Chg (ins [ai]) aB aT ∧ Own aT r_out 112 (nin (ge w.heap.size) [r_out]) n_out c_out out ∧ OrB r_out ai aB.heap.size ∧ (i ≤ (filtR text_).1.length) ∧ (out.length ≤ i) ∧ (nameL out ((filtR text_).1.drop i) = nameL [] (filtR text_).1)) (fun (out, r_out, n_out, c_out, i) => (filtR text_).1.length - i) (by kernel_rfl) ⟨by kernel_rfl, by kernel_rfl, by kernel_rfl, by kernel_rfl, trivial⟩ ⟨Chg.refl _ _, bV, orb_refl, (by simp), (by simp), (by simp)⟩ ?_
   rintro ⟨out, r_out, n_out, c_out, i⟩ dj aT ⟨W, O, av, cR, cS, cT⟩ aD
   have cU := cov_or' av bU C.size
   have bW : Cov (ins [ai]) aB ai := ⟨.inl (.head _)⟩
   have cV := cov_or' av bW (Nat.le_refl _)
   have aX : Mv [ai] [r_out] aB aT := Mv.inl W (all_cons (.head _) all_nil) (all_cons (orb_mem av (.head _)) all_nil)
   replace ⟨J, C⟩ := (sp aX W).g2 J C
   clear aX
   have cW := O.len; have cX := O.max
   refine .s <| .s <| .g <| .r 3 <| .bp ((i : Int) < ((((filtR text_).1).length) : Int)) (fun bX => ?_) (fun bX => ?_)
   · refine .d <| .ct <| .sk <| .s <| .b 1 <| .s <| .s <| .g <| .r 2 ?_
     have bY : i < ((filtR text_).1).length := (by omega)
     refine .ix i 3 J bY <| .r 1 ?_
     obtain ⟨ay, aE⟩ : ∃ y, ((filtR text_).1)[i]? = some y := ⟨_, List.getElem?_eq_getElem (by omega)⟩
     have cY := drop_at aE; have cv := List.mem_of_getElem? aE
     obtain ⟨_, rfl, aY⟩ := J.elem i ay aE
     refine .lh 2 aY <| .d ?_
     cases cZ : ay.no
     · refine .cf <| .sk <| .g <| .r 3 ?_
       have bZ : i < ((filtR text_).1).length := (by omega)
       refine .ix i 3 J bZ <| .r 1 <| .lg 0 aY <| .ns 1 112 [vT ay.tag.key, vT ay.tag.val] fun b0 dk aF aZ b6 b7 => ?_
       have ba := nb_new aF O.lt
       have b8 := gb_new aF C.size
       replace ⟨J, O, C, W⟩ := (se [r_out] aZ).g4 J O C W
       clear aZ b7 aF
       have aG : nin (ge w.heap.size) [r_out] b0 ∧ b0 ≠ r_out := hap_mk b8 (all_cons ba all_nil) ba
       refine RG.append1 (T := 31) (ty := 31) (y := ay.tag) O b6 (by kernel_rfl) (by kernel_rfl) rfl aG (by have q1 := filtR_len text_; omega) fun cx cy dm aj aq bc => ?_
       have b9 := orb_or aq av W.size
       replace ⟨J, C, W⟩ := (sa [r_out] bc aq).g3 J C W
       clear bc
       replace aj := aj.rn r_out
       clear aq
       have c7 := aj.len; have c8 := aj.max
       exact .r 1 <| .d <| .ib 1 <| .g <| .r 1 <| RG.int ((i : Int) + 1) (by kernel_rfl) (by have q1 := filtR_len text_; omega) <| .r 1 <| .d <| aD ((out ++ [ay.tag]), cx, n_out + 1, cy, i + 1) _ _ ⟨by kernel_rfl, by kernel_rfl, by kernel_rfl, by kernel_rfl, trivial⟩ ⟨W, aj, b9, (by omega), (by simp; omega), (by exact nameStep (by assumption) (by assumption) (by assumption))⟩ (by first | omega | (simp only []; omega))
     refine .ct <| .s <| .g <| .ns 0 112 [] fun aH cd aw bd ce cg => ?_
     have c9 := nb_new aw O.lt
     have ci := gb_new aw C.size
     replace ⟨J, O, C⟩ := (sn [r_out] bd aw).g3 J O C
     clear bd cg aw
     have cj : Own (α := Tag) cd aH 112 (nin (ge w.heap.size) [aH, r_out]) 0 0 [] := Own.nil' ce
     refine .r 2 <| .d ?_
     have cz := cj.sl ci
     replace ⟨J, O⟩ := (sd cd [aH, r_out] aH).g2 J O
     exact .r2 Tryz.func103 Tryz.results103 (.t (vS aH 0 0)) (.t (.bool false)) ⟨⟨(false : Bool), ⟨_, (tup2 rfl (congrArg Value.bool (by rfl))), (cz.vl (by first | rw [nameR_no (nameL_no (Y := nameL [] (filtR text_).1) (by assumption) (by assumption) (by assumption))] | rw [nameR_e1 (by assumption) (by omega) (.inl (by assumption))] | rw [nameR_e1 (by assumption) (by omega) (.inr (by assumption))] | rw [nameR_e2 (by assumption) (by omega) (by assumption) (by assumption)]) (fun _ _ h => h.1))⟩, (by trivial)⟩, C⟩
   refine .d <| .cf <| .x 0 rfl <| .s <| .s <| .g <| .r 7 <| .d <| .ct <| .s <| .g <| .ns 0 112 [] fun aI bg ae aJ bk bm => ?_
   have cA := nb_new ae O.lt
   have bn := gb_new ae C.size
   replace ⟨J, C⟩ := (sn [r_out] aJ ae).g2 J C
   clear aJ bm ae
   have bo : Own (α := Tag) bg aI 112 (nin (ge w.heap.size) [aI, r_out]) 0 0 [] := Own.nil' bk
   refine .r 2 <| .d ?_
   have ck := bo.sl bn
   replace J := (sd bg [aI, r_out] aI).g1 J
   exact .r2 Tryz.func103 Tryz.results103 (.t (vS aI 0 0)) (.t (.bool false)) ⟨⟨(false : Bool), ⟨_, (tup2 rfl (congrArg Value.bool (by rfl))), (ck.vl (by first | rw [nameR_no (nameL_no (Y := nameL [] (filtR text_).1) (by assumption) (by assumption) (by assumption))] | rw [nameR_e1 (by assumption) (by omega) (.inl (by assumption))] | rw [nameR_e1 (by assumption) (by omega) (.inr (by assumption))] | rw [nameR_e2 (by assumption) (by omega) (by assumption) (by assumption)]) (fun _ _ h => h.1))⟩, (by trivial)⟩, C⟩
 refine .r 3 <| .d <| .s <| .g <| .ns 0 112 [] fun Z ak af aK bq br => ?_
 have bt := gb_new af C.size
 have bu := C.cn af
 replace ⟨J, C⟩ := (sn [] aK af).g2 J C
 clear aK br af
 have bv : Own (α := Tag) ak Z 112 (nin (ge w.heap.size) [Z]) 0 0 [] := Own.nil' bq
 refine .r 1 <| .d <| .s <| .s <| .g <| .r 1 <| .d <| .b 0 <| T.loop (X := (List Tag) × Nat × Nat × Nat × Nat) (([] : List Tag), Z, 0, 0, 0) (fun (out, r_out, n_out, c_out, i) => [(4, .slice bP (((filtR text_).1).length) bQ), (5, .bool true), (6, vS r_out n_out c_out), (7, vI (i : Int))]) (fun (out, r_out, n_out, c_out, i) al => Chg (ins [Z]) ak al ∧ Own al r_out 112 (nin (ge w.heap.size) [r_out]) n_out c_out out ∧ OrB r_out Z ak.heap.size ∧ (i ≤ (filtR text_).1.length) ∧ (out.length ≤ i) ∧ (nameL out ((filtR text_).1.drop i) = nameL [] (filtR text_).1)) (fun (out, r_out, n_out, c_out, i) => (filtR text_).1.length - i) (by kernel_rfl) ⟨by kernel_rfl, by kernel_rfl, by kernel_rfl, by kernel_rfl, trivial⟩ ⟨Chg.refl _ _, bv, orb_refl, (by simp), (by simp), (by simp)⟩ ?_
 rintro ⟨out, r_out, n_out, c_out, i⟩ da al ⟨V, E, aa, cB, cC, cD⟩ az
 have bw := gb_or' aa bt C.size
 have cE := cov_or' aa bu C.size
 have bz : Cov (ins [Z]) ak Z := ⟨.inl (.head _)⟩
 have cF := cov_or' aa bz (Nat.le_refl _)
 have aL : Mv [Z] [r_out] ak al := Mv.inl V (all_cons (.head _) all_nil) (all_cons (orb_mem aa (.head _)) all_nil)
 replace ⟨J, C⟩ := (sp aL V).g2 J C
 clear aL
 have cG := E.len; have cH := E.max
 refine .s <| .s <| .g <| .r 3 <| .bp ((i : Int) < ((((filtR text_).1).length) : Int)) (fun bA => ?_) (fun bA => ?_)
 · refine .d <| .ct <| .sk <| .s <| .b 1 <| .s <| .s <| .g <| .r 2 ?_
   have bB : i < ((filtR text_).1).length := (by omega)
   refine .ix i 3 J bB <| .r 1 ?_
   obtain ⟨ac, ar⟩ : ∃ y, ((filtR text_).1)[i]? = some y := ⟨_, List.getElem?_eq_getElem (by omega)⟩
   have cI := drop_at ar; have cm := List.mem_of_getElem? ar
   obtain ⟨_, rfl, aM⟩ := J.elem i ac ar
   refine .lh 2 aM <| .d ?_
   cases cJ : ac.no
   · refine .cf <| .sk <| .g <| .r 3 ?_
     have bC : i < ((filtR text_).1).length := (by omega)
     refine .ix i 3 J bC <| .r 1 <| .lg 0 aM <| .ns 1 112 [vT ac.tag.key, vT ac.tag.val] fun bh db au aN bD bE => ?_
     have aO := nb_new au E.lt
     have bF := gb_new au C.size
     replace ⟨E, C, V⟩ := (se [r_out] aN).g3 E C V
     clear aN bE au
     have aA : nin (ge w.heap.size) [r_out] bh ∧ bh ≠ r_out := hap_mk bF (all_cons aO all_nil) aO
     refine RG.append1 (T := 31) (ty := 31) (y := ac.tag) E bD (by kernel_rfl) (by kernel_rfl) rfl aA (by have q1 := filtR_len text_; omega) fun co cp dd ab ax aP => ?_
     have bG := orb_or ax aa V.size
     replace ⟨C, V⟩ := (s1 aP).g2 C V
     clear aP
     replace ab := ab.rn r_out
     clear ax
     have cK := ab.len; have cL := ab.max
     exact .r 1 <| .d <| .ib 1 <| .g <| .r 1 <| RG.int ((i : Int) + 1) (by kernel_rfl) (by have q1 := filtR_len text_; omega) <| .r 1 <| .d <| az ((out ++ [ac.tag]), co, n_out + 1, cp, i + 1) _ _ ⟨by kernel_rfl, by kernel_rfl, by kernel_rfl, by kernel_rfl, trivial⟩ ⟨V, ab, bG, (by omega), (by simp; omega), (by exact nameStep (by assumption) (by assumption) (by assumption))⟩ (by first | omega | (simp only []; omega))
   refine .ct <| .s <| .g <| .ns 0 112 [] fun am bi ag aQ bH bI => ?_
   have cM := nb_new ag E.lt
   have bJ := gb_new ag C.size
   replace ⟨E, C⟩ := (sn [r_out] aQ ag).g2 E C
   clear aQ bI ag
   have bK : Own (α := Tag) bi am 112 (nin (ge w.heap.size) [am, r_out]) 0 0 [] := Own.nil' bH
   refine .r 2 <| .d ?_
   have cq := bK.sl bJ
   replace E := (sd bi [am, r_out] am).g1 E
   exact .r2 Tryz.func103 Tryz.results103 (.t (vS am 0 0)) (.t (.bool false)) ⟨⟨(false : Bool), ⟨_, (tup2 rfl (congrArg Value.bool (by rfl))), (cq.vl (by first | rw [nameR_no (nameL_no (Y := nameL [] (filtR text_).1) (by assumption) (by assumption) (by assumption))] | rw [nameR_e1 (by assumption) (by omega) (.inl (by assumption))] | rw [nameR_e1 (by assumption) (by omega) (.inr (by assumption))] | rw [nameR_e2 (by assumption) (by omega) (by assumption) (by assumption)]) (fun _ _ h => h.1))⟩, (by trivial)⟩, C⟩
 refine .d <| .cf <| .x 0 rfl <| .s <| .s <| .g <| .r 4 <| .cl (c_spec_NameOk out (E.rep) (w := al) (F := all)) ?_
 rintro de df ⟨rfl, aR⟩
 replace ⟨E, C⟩ := (se [r_out] aR).g2 E C
 clear aR
 cases cN : (nameOk out)
 · refine .r 2 <| .d <| .ct <| .s <| .g <| .ns 0 112 [] fun ao bj ah aS bL bM => ?_
   have cO := nb_new ah E.lt
   have bN := gb_new ah C.size
   replace ⟨E, C⟩ := (sn [r_out] aS ah).g2 E C
   clear aS bM ah
   have bO : Own (α := Tag) bj ao 112 (nin (ge w.heap.size) [ao, r_out]) 0 0 [] := Own.nil' bL
   refine .r 2 <| .d ?_
   have cr := bO.sl bN
   replace E := (sd bj [ao, r_out] ao).g1 E
   exact .r2 Tryz.func103 Tryz.results103 (.t (vS ao 0 0)) (.t (.bool false)) ⟨⟨(false : Bool), ⟨_, (tup2 rfl (congrArg Value.bool (by rfl))), (cr.vl (by first | rw [nameR_no (nameL_no (Y := nameL [] (filtR text_).1) (by assumption) (by assumption) (by assumption))] | rw [nameR_e1 (by assumption) (by omega) (.inl (by assumption))] | rw [nameR_e1 (by assumption) (by omega) (.inr (by assumption))] | rw [nameR_e2 (by assumption) (by omega) (by assumption) (by assumption)]) (fun _ _ h => h.1))⟩, (by trivial)⟩, C⟩
 refine .r 2 <| .d <| .cf <| .sk <| .s <| .g <| .r 3 <| .d ?_
 have cu := E.sl bw
 exact .r2 Tryz.func103 Tryz.results103 (.t (vS r_out n_out c_out)) (.t (.bool true)) ⟨⟨(true : Bool), ⟨_, (tup2 rfl (congrArg Value.bool (by rfl))), (cu.vl (by first | rw [nameR_no (nameL_no (Y := nameL [] (filtR text_).1) (by assumption) (by assumption) (by assumption))] | rw [nameR_e1 (by assumption) (by omega) (.inl (by assumption))] | rw [nameR_e1 (by assumption) (by omega) (.inr (by assumption))] | rw [nameR_e2 (by assumption) (by omega) (by assumption) (by assumption)]) (fun _ _ h => h.1))⟩, (by trivial)⟩, C⟩
end Go.Proofs.YtfnpaglcnmcnbaaGreat
