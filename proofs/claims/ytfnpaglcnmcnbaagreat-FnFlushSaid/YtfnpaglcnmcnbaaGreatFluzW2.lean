/- walks; squeezed -/
import Derived.Test.YtfnpaglcnmcnbaaGreatFluzMod
set_option linter.unusedVariables false
set_option linter.unusedSimpArgs false
namespace Go.Proofs.YtfnpaglcnmcnbaaGreat
set_option maxRecDepth 100000
set_option maxHeartbeats 4000000
theorem c_impl_within (n : Int) (low : Int) (high : Int) {w : World} {F : Nat → Prop}   : Calls Tryz.prog 76 [.int .i64 n, .int .i64 low, .int .i64 high].toArray w (rets fun rv w' => rv = .bool (inR n low high) ∧ Ext w w') := by
 exact goT Tryz.func76 <| .s <| .g <| .r 1 <| .d <| .s <| .g <| .r 2 <| .bp (n ≥ low) (fun C => .r 6 <| .d <| .rt Tryz.func76 Tryz.results76 (.bool (decide (n ≤ high))) ⟨(congrArg Value.bool (by simp [inR]; omega)), (Chg.refl _ _)⟩) fun C => .r 6 <| .d <| .rt Tryz.func76 Tryz.results76 (.bool false) ⟨(congrArg Value.bool (by simp [inR]; omega)), (Chg.refl _ _)⟩
theorem c_spec_l6In (n : Int) (low : Int) (high : Int) {w : World} {F : Nat → Prop}   : Calls Tryz.prog 67 [.int .i64 n, .int .i64 low, .int .i64 high].toArray w (rets fun rv w' => rv = .bool (inR n low high) ∧ Ext w w') := by
 exact goT Tryz.func67 <| .s <| .g <| .r 1 <| .d <| .s <| .g <| .r 2 <| .bp (n ≥ low) (fun C => .r 6 <| .d <| .rt Tryz.func67 Tryz.results67 (.bool (decide (n ≤ high))) ⟨(congrArg Value.bool (by simp [inR]; omega)), (Chg.refl _ _)⟩) fun C => .r 6 <| .d <| .rt Tryz.func67 Tryz.results67 (.bool false) ⟨(congrArg Value.bool (by simp [inR]; omega)), (Chg.refl _ _)⟩
theorem c_impl_rowOk (r : Row) {w : World} {F : Nat → Prop}   : Calls Tryz.prog 63 [.agg #[.int .i64 r.t, .int .i64 r.v]].toArray w (rets fun rv w' => rv = .bool (rowOk r) ∧ Ext w w') := by
 refine goT Tryz.func63 <| .s <| .g <| .np 33 [vI r.t, vI r.v] fun ag ab Z J E aa => ?_
 have C := J
 clear J aa Z
 refine .r 1 <| .d <| .s <| .g <| .r 1 <| .lb E <| .cl (c_impl_within r.t 0 99 (w := ab) (F := all)) ?_
 rintro ah ac ⟨rfl, O⟩
 replace ⟨E, C⟩ := (se [] O).g2 E C
 clear O
 cases V : (inR r.t 0 99)
 · have ae := inR_f V
   exact .r 6 <| .d <| .rt Tryz.func63 Tryz.results63 (.bool false) ⟨(congrArg Value.bool (by simp_all [rowOk])), C⟩
 have af := inR_t V
 refine .r 2 <| .lb E <| .cl (c_impl_within r.v (-99) 99 (w := ac) (F := all)) ?_
 rintro ai aj ⟨rfl, W⟩
 replace C := (se [] W).g1 C
 clear W
 exact .r 2 <| .d <| .rt Tryz.func63 Tryz.results63 (.bool (inR r.v (-99) 99)) ⟨(congrArg Value.bool (by simp_all [rowOk])), C⟩
theorem c_spec_l2Row (r : Row) {w : World} {F : Nat → Prop}   : Calls Tryz.prog 68 [.agg #[.int .i64 r.t, .int .i64 r.v]].toArray w (rets fun rv w' => rv = .bool (rowOk r) ∧ Ext w w') := by
 refine goT Tryz.func68 <| .s <| .g <| .np 33 [vI r.t, vI r.v] fun ag ab Z J E aa => ?_
 have C := J
 clear J aa Z
 refine .r 1 <| .d <| .s <| .g <| .r 1 <| .lb E <| .cl (c_spec_l6In r.t 0 99 (w := ab) (F := all)) ?_
 rintro ah ac ⟨rfl, O⟩
 replace ⟨E, C⟩ := (se [] O).g2 E C
 clear O
 cases V : (inR r.t 0 99)
 · have ae := inR_f V
   exact .r 6 <| .d <| .rt Tryz.func68 Tryz.results68 (.bool false) ⟨(congrArg Value.bool (by simp_all [rowOk])), C⟩
 have af := inR_t V
 refine .r 2 <| .lb E <| .cl (c_spec_l6In r.v (-99) 99 (w := ac) (F := all)) ?_
 rintro ai aj ⟨rfl, W⟩
 replace C := (se [] W).g1 C
 clear W
 exact .r 2 <| .d <| .rt Tryz.func68 Tryz.results68 (.bool (inR r.v (-99) 99)) ⟨(congrArg Value.bool (by simp_all [rowOk])), C⟩
theorem c_spec_l11Names (names : List (List Tag)) {w : World} {F : Nat → Prop} {a1 : Option Addr} {n1 c1 : Nat} (h1 : RepS w F a1 n1 c1 names) (p0 : names.length ≤ 1000000) (p1 : ∀ n ∈ names, n.length ≤ 1000000) : Calls Tryz.prog 151 [.slice a1 n1 c1].toArray w (rets fun rv w' => VO 31 w.heap.size w' (names : List (List Tag)) rv ∧ Ext w w') := by
 refine goT Tryz.func151 ?_
 obtain ⟨rfl, bi, h1⟩ := h1.tp
 refine .s <| .g <| .r 1 <| .d <| .s <| .g <| .ns 0 31 [] fun W ae ac af aB aC => ?_
 have aD := gb_new ac (Nat.le_refl _)
 have aE : Cov nil w W := cov_new ac (Nat.le_refl _)
 replace h1 := (sn [] af ac).g1 h1
 have C := af
 clear af aC ac
 have aF : Own (α := List Tag) ae W 31 (nin (ge w.heap.size) [W]) 0 0 [] := Own.nil' aB
 refine .r 1 <| .d <| .s <| .s <| .g <| .r 1 <| .d <| .b 0 <| T.loop (X := (List (List Tag)) × Nat × Nat × Nat × Nat) (([] : List (List Tag)), W, 0, 0, 0) (fun (out, r_out, n_out, c_out, i) => [(0, .slice a1 names.length c1), (3, vS r_out n_out c_out), (4, vI (i : Int))]) (fun (out, r_out, n_out, c_out, i) al => Chg (ins [W]) ae al ∧ Own al r_out 31 (nin (ge w.heap.size) [r_out]) n_out c_out out ∧ OrB r_out W ae.heap.size ∧ (i ≤ names.length) ∧ (out ++ names.drop i = names)) (fun (out, r_out, n_out, c_out, i) => names.length - i) (by kernel_rfl) ⟨by kernel_rfl, by kernel_rfl, by kernel_rfl, trivial⟩ ⟨Chg.refl _ _, aF, orb_refl, (by omega), (by rfl)⟩ ?_
 rintro ⟨out, r_out, n_out, c_out, i⟩ bB al ⟨J, E, aa, bj, bk⟩ ag
 have aG := gb_or' aa aD C.size
 have bm := cov_or' aa aE C.size
 have aH : Cov (ins [W]) ae W := ⟨.inl (.head _)⟩
 have bn := cov_or' aa aH (Nat.le_refl _)
 have ar : Mv [W] [r_out] ae al := Mv.inl J (all_cons (.head _) all_nil) (all_cons (orb_mem aa (.head _)) all_nil)
 replace ⟨h1, C⟩ := (sp ar J).g2 h1 C
 clear ar
 have bo := E.len; have bq := E.max
 refine .s <| .s <| .g <| .r 3 <| .bp ((i : Int) < (names.length : Int)) (fun aI => ?_) (fun aI => .d <| .cf <| .x 0 rfl <| .s <| .g <| .r 2 <| .d <| .rt Tryz.func151 Tryz.results151 (vS r_out n_out c_out) ⟨(VO.of E (by grind) aG), C⟩)
 refine .d <| .ct <| .sk <| .s <| .b 1 <| .g <| .r 1 <| .ns 0 112 [] fun am aX V au aJ aK => ?_
 have aL := nb_new V E.lt
 have aM := gb_new V C.size
 have br := C.cn V
 have bt := J.cn V
 replace ⟨h1, E, C, J⟩ := (sn [r_out] au V).g4 h1 E C J
 clear au aK V
 have aN : Own (α := Tag) aX am 112 (nin (ge w.heap.size) [am, r_out]) 0 0 [] := Own.nil' aJ
 refine .r 2 ?_
 have aO : i < names.length := (by omega)
 refine .ix i 1 h1 aO ?_
 obtain ⟨ao, ah⟩ : ∃ y, names[i]? = some y := ⟨_, List.getElem?_eq_getElem (by omega)⟩
 have bu := drop_at ah; have aW := List.mem_of_getElem? ah
 obtain ⟨_, ⟨bC, bD, bE, rfl, az⟩, aP⟩ := h1.elem i ao ah
 have aQ := az.len
 subst aQ
 have bv := az.max
 refine .lh 0 aP <| RG.appendF (T := 31) (ty := 31) flat_tag aN az (by kernel_rfl) (by kernel_rfl) (fun b h e => h.2 (e ▸ (.head _))) (by grind) fun aq aY bF O Z av => ?_
 have bw := nb_or Z aL E.lt
 have aR := gb_or Z aM C.size
 replace ⟨E, C, J⟩ := (sa [am, r_out] av Z).g3 E C J
 clear av
 replace O := O.rn am
 clear Z
 have bz := O.len; have bA := O.max
 refine .ns 1 31 [vS aq (0 + ao.length) aY] fun aS aZ ai aw aT aU => ?_
 have ax := nb_new ai E.lt
 have aV := gb_new ai C.size
 replace ⟨E, O, C, J⟩ := (se [aq, r_out] aw).g4 E O C J
 clear aw aU ai
 have ba := O.sl aR
 replace E := (sd aZ [aq, r_out] aq).g1 E
 have aj : nin (ge w.heap.size) [r_out] aS ∧ aS ≠ r_out := hap_mk aV (all_cons ax all_nil) ax
 refine RG.append1 (T := 23) (ty := 23) (y := ([] ++ ao)) E aT (by kernel_rfl) (by kernel_rfl) ⟨_, _, _, rfl, ba.oi⟩ aj (by grind) fun bc bd bG ab ak ay => ?_
 have aA := orb_or ak aa J.size
 replace ⟨C, J⟩ := (s1 ay).g2 C J
 clear ay
 replace ab := ab.rn r_out
 clear ak
 have bg := ab.len; have bh := ab.max
 exact .r 1 <| .d <| .ib 1 <| .g <| .r 1 <| .it ((i : Int) + 1) <| .r 1 <| .d <| ag ((out ++ [([] ++ ao)]), bc, n_out + 1, bd, i + 1) _ _ ⟨by kernel_rfl, by kernel_rfl, by kernel_rfl, trivial⟩ ⟨J, ab, aA, (by omega), (by grind)⟩ (by first | omega | (simp only []; omega))
theorem c_impl_cloneNames (names : List (List Tag)) {w : World} {F : Nat → Prop} {a1 : Option Addr} {n1 c1 : Nat} (h1 : RepS w F a1 n1 c1 names) (p0 : names.length ≤ 1000000) (p1 : ∀ n ∈ names, n.length ≤ 1000000) : Calls Tryz.prog 74 [.slice a1 n1 c1].toArray w (rets fun rv w' => VO 31 w.heap.size w' (names : List (List Tag)) rv ∧ Ext w w') := by
 refine goT Tryz.func74 ?_
 obtain ⟨rfl, bi, h1⟩ := h1.tp
 refine .s <| .g <| .r 1 <| .d <| .s <| .g <| .ns 0 31 [] fun W ae ac af aB aC => ?_
 have aD := gb_new ac (Nat.le_refl _)
 have aE : Cov nil w W := cov_new ac (Nat.le_refl _)
 replace h1 := (sn [] af ac).g1 h1
 have C := af
 clear af aC ac
 have aF : Own (α := List Tag) ae W 31 (nin (ge w.heap.size) [W]) 0 0 [] := Own.nil' aB
 refine .r 1 <| .d <| .s <| .s <| .g <| .r 3 <| .d <| .b 0 <| T.loop (X := (List (List Tag)) × Nat × Nat × Nat × Nat) (([] : List (List Tag)), W, 0, 0, 0) (fun (out, r_out, n_out, c_out, k) => [(3, vS r_out n_out c_out), (7, .slice a1 names.length c1), (8, vI (names.length : Int)), (9, vI (k : Int))]) (fun (out, r_out, n_out, c_out, k) am => Chg (ins [W]) ae am ∧ Own am r_out 31 (nin (ge w.heap.size) [r_out]) n_out c_out out ∧ OrB r_out W ae.heap.size ∧ (k ≤ names.length) ∧ (out ++ names.drop k = names)) (fun (out, r_out, n_out, c_out, k) => names.length - k) (by kernel_rfl) ⟨by kernel_rfl, by kernel_rfl, by kernel_rfl, by kernel_rfl, trivial⟩ ⟨Chg.refl _ _, aF, orb_refl, (by omega), (by rfl)⟩ ?_
 rintro ⟨out, r_out, n_out, c_out, k⟩ bB am ⟨J, E, aa, bj, bk⟩ ag
 have aG := gb_or' aa aD C.size
 have bm := cov_or' aa aE C.size
 have aH : Cov (ins [W]) ae W := ⟨.inl (.head _)⟩
 have bn := cov_or' aa aH (Nat.le_refl _)
 have au : Mv [W] [r_out] ae am := Mv.inl J (all_cons (.head _) all_nil) (all_cons (orb_mem aa (.head _)) all_nil)
 replace ⟨h1, C⟩ := (sp au J).g2 h1 C
 clear au
 have bo := E.len; have bq := E.max
 refine .s <| .g <| .bp ((k : Int) < (names.length : Int)) (fun aI => ?_) (fun aI => .d <| .s <| .cf <| .x 0 rfl <| .s <| .g <| .r 2 <| .d <| .rt Tryz.func74 Tryz.results74 (vS r_out n_out c_out) ⟨(VO.of E (by grind) aG), C⟩)
 refine .d <| .s <| .ct <| .sk <| .s <| .b 1 <| .s <| .g ?_
 have aJ : k < names.length := (by omega)
 refine .ix k 1 h1 aJ ?_
 obtain ⟨ao, ah⟩ : ∃ y, names[k]? = some y := ⟨_, List.getElem?_eq_getElem (by omega)⟩
 have br := drop_at ah; have aW := List.mem_of_getElem? ah
 obtain ⟨_, ⟨bC, bD, bE, rfl, ai⟩, aK⟩ := h1.elem k ao ah
 have aL := ai.len
 subst aL
 have bt := ai.max
 refine .lh 0 aK <| .r 1 <| .d <| .g <| .r 1 <| .ns 0 112 [] fun aq aX V av aM aN => ?_
 have aO := nb_new V E.lt
 have aP := gb_new V C.size
 have bu := C.cn V
 have bv := J.cn V
 replace ⟨E, ai, C, J⟩ := (sn [r_out] av V).g4 E ai C J
 clear av aN V
 have aQ : Own (α := Tag) aX aq 112 (nin (ge w.heap.size) [aq, r_out]) 0 0 [] := Own.nil' aM
 refine .r 1 <| RG.appendF (T := 31) (ty := 31) flat_tag aQ ai (by kernel_rfl) (by kernel_rfl) (fun b h e => h.2 (e ▸ (.head _))) (by grind) fun ar aY bF O Z aw => ?_
 have bw := nb_or Z aO E.lt
 have aR := gb_or Z aP C.size
 replace ⟨E, C, J⟩ := (sa [aq, r_out] aw Z).g3 E C J
 clear aw
 replace O := O.rn aq
 clear Z
 have bz := O.len; have bA := O.max
 refine .ns 1 31 [vS ar (0 + ao.length) aY] fun aS aZ aj ax aT aU => ?_
 have ay := nb_new aj E.lt
 have aV := gb_new aj C.size
 replace ⟨E, O, C, J⟩ := (se [ar, r_out] ax).g4 E O C J
 clear ax aU aj
 have ba := O.sl aR
 replace E := (sd aZ [ar, r_out] ar).g1 E
 have ak : nin (ge w.heap.size) [r_out] aS ∧ aS ≠ r_out := hap_mk aV (all_cons ay all_nil) ay
 refine RG.append1 (T := 23) (ty := 23) (y := ([] ++ ao)) E aT (by kernel_rfl) (by kernel_rfl) ⟨_, _, _, rfl, ba.oi⟩ ak (by grind) fun bc bd bG ab al az => ?_
 have aA := orb_or al aa J.size
 replace ⟨C, J⟩ := (s1 az).g2 C J
 clear az
 replace ab := ab.rn r_out
 clear al
 have bg := ab.len; have bh := ab.max
 exact .r 1 <| .d <| .ib 1 <| .g <| .it ((k : Int) + 1) <| .r 1 <| .d <| ag ((out ++ [([] ++ ao)]), bc, n_out + 1, bd, k + 1) _ _ ⟨by kernel_rfl, by kernel_rfl, by kernel_rfl, by kernel_rfl, trivial⟩ ⟨J, ab, aA, (by omega), (by grind)⟩ (by first | omega | (simp only []; omega))
theorem c_spec_l2Put (b : List Row) (r : Row) {w : World} {F : Nat → Prop} {a1 : Option Addr} {n1 c1 : Nat} (h1 : RepS w F a1 n1 c1 b) (p0 : b.length ≤ 1000000) : Calls Tryz.prog 115 [.slice a1 n1 c1, .agg #[.int .i64 r.t, .int .i64 r.v]].toArray w (rets fun rv w' => VL (ge w.heap.size) w' (sPut b r : List Row) rv ∧ Ext w w') := by
 refine goT Tryz.func115 ?_
 obtain ⟨rfl, da, h1⟩ := h1.tp
 refine .s <| .g <| .np 33 [vI r.t, vI r.v] fun V dG bc aF C ce => ?_
 replace h1 := (sn [] aF bc).g1 h1
 have E := aF
 clear aF ce bc
 refine .r 1 <| .d <| .s <| .g <| .ns 0 33 [] fun aw aG ax bd cg ci => ?_
 have cj := nb_new ax C.lt
 have ck := gb_new ax E.size
 have cm := E.cn ax
 replace ⟨h1, C, E⟩ := (sn [V] bd ax).g3 h1 C E
 clear bd ci ax
 have co : Own (α := Row) aG aw 33 (nin (ge w.heap.size) [aw, V]) 0 0 [] := Own.nil' cg
 refine .r 1 <| .d <| .s <| .g <| .r 1 <| .d <| .s <| .s <| .g <| .r 1 <| .d <| .b 0 <| T.loop (X := (List Row) × Nat × Nat × Nat × Bool × Nat) (([] : List Row), aw, 0, 0, false, 0) (fun (out, r_out, n_out, c_out, put, i) => [(0, .slice a1 b.length c1), (3, .pointer (some ⟨V, 0, none⟩)), (5, vS r_out n_out c_out), (6, .bool put), (7, vI (i : Int))]) (fun (out, r_out, n_out, c_out, put, i) ba => Chg (ins [aw]) aG ba ∧ Own ba r_out 33 (nin (ge w.heap.size) [r_out, V]) n_out c_out out ∧ OrB r_out aw aG.heap.size ∧ (i ≤ b.length) ∧ (out.length ≤ i + 1) ∧ (put = false → out.length ≤ i) ∧ (put1 out r put (b.drop i) = sPut b r)) (fun (out, r_out, n_out, c_out, put, i) => b.length - i) (by kernel_rfl) ⟨by kernel_rfl, by kernel_rfl, by kernel_rfl, by kernel_rfl, by kernel_rfl, trivial⟩ ⟨Chg.refl _ _, co, orb_refl, (by simp [sPut]), (by simp [sPut]), (by simp [sPut]), (by simp [sPut])⟩ ?_
 rintro ⟨out, r_out, n_out, c_out, put, i⟩ dH ba ⟨J, O, ab, db, dd, de, df⟩ W
 have bg := nb_or' ab cj C.lt
 have bh := gb_or' ab ck E.size
 have cp := cov_or' ab cm E.size
 have cq : Cov (ins [aw]) aG aw := ⟨.inl (.head _)⟩
 have cr := cov_or' ab cq (Nat.le_refl _)
 have bi : Mv [aw, V] [r_out, V] aG ba := Mv.inl J (all_cons (.head _) all_nil) (all_cons (orb_mem ab (.head _)) (all_cons (.inl (.tail _ (.head _))) all_nil))
 replace ⟨h1, C, E⟩ := (sp bi J).g3 h1 C E
 clear bi
 have dg := O.len; have dh := O.max
 refine .s <| .s <| .g <| .r 3 <| .bp ((i : Int) < (b.length : Int)) (fun cu => ?_) (fun cu => ?_)
 · refine .d <| .ct <| .sk <| .s <| .b 1 <| .s <| .s <| .gd nil 10 fun dI bj => ?_
   replace ⟨h1, C, O, E, J⟩ := (se [r_out, V] bj).g5 h1 C O E J
   clear bj
   refine .r [0] ?_
   cases di : put
   · refine .r [1, 2, 3, 4] ?_
     have cv : i < b.length := (by omega)
     refine .ix 5 i 2 h1 cv <| .r [6] ?_
     obtain ⟨aa, ae⟩ : ∃ y, b[i]? = some y := ⟨_, List.getElem?_eq_getElem (by omega)⟩
     have dj := drop_at ae; have cQ := List.mem_of_getElem? ae
     obtain ⟨_, rfl, cw⟩ := h1.elem i aa ae
     refine .lh 7 0 cw id <| .r [8] <| .lb 9 C id <| .d fun dJ bk => ?_
     replace ⟨h1, C, O, E, J⟩ := (se [r_out, V] bk).g5 h1 C O E J
     clear bk
     refine .bp (aa.t ≥ r.t) (fun cx => ?_) (fun cx => ?_)
     · refine .r 1 <| .d <| .ct <| .s <| .g <| .r 1 <| .ln C <| .ns 1 33 [vI r.t, vI r.v] fun cy dK az bm cz cA => ?_
       have cB := nb_new az C.lt
       have bn := nb_new az O.lt
       have cC := gb_new az E.size
       replace ⟨h1, C, O, E, J⟩ := (se [r_out, V] bm).g5 h1 C O E J
       clear bm cA az
       have aH : nin (ge w.heap.size) [r_out, V] cy ∧ cy ≠ r_out := hap_mk cC (all_cons bn (all_cons cB all_nil)) bn
       refine RG.append1 (T := 42) (ty := 42) (y := r) O cz (by kernel_rfl) (by kernel_rfl) rfl aH (by omega) fun ay cR dL Z ac bo => ?_
       have dk := nb_or ac bg C.lt
       have dm := cov_or ac cp E.size
       have dp := cov_or ac cr J.size
       have bq := orb_or ac ab J.size
       replace ⟨h1, C, E, J⟩ := (sa [r_out, V] bo ac).g4 h1 C E J
       clear bo
       replace Z := Z.rn r_out
       clear ac
       have dq := Z.len; have dr := Z.max
       refine .r 1 <| .d <| .g <| .r 1 <| .d <| .s <| .gd nil 7 fun dM br => ?_
       replace ⟨h1, C, Z, E, J⟩ := (se [ay, V] br).g5 h1 C Z E J
       clear br
       refine .r [0, 1] ?_
       have cD : i < b.length := (by omega)
       refine .ix 2 i 2 h1 cD <| .r [3] ?_
       obtain ⟨_, rfl, cE⟩ := h1.elem i aa ae
       refine .lh 4 0 cE id <| .r [5] <| .lb 6 C id <| .d fun dN aI => ?_
       replace ⟨h1, C, Z, E, J⟩ := (se [ay, V] aI).g5 h1 C Z E J
       clear aI
       refine .ne aa.t r.t (fun bz => ?_) (fun bz => .d <| .cf <| .sk <| .ib 1 <| .g <| .r 1 <| .it ((i : Int) + 1) <| .r 1 <| .d <| W ((out ++ [r]), ay, n_out + 1, cR, true, i + 1) _ _ ⟨by kernel_rfl, by kernel_rfl, by kernel_rfl, by kernel_rfl, by kernel_rfl, trivial⟩ ⟨J, Z, bq, (by grind [put1]), (by grind [put1]), (by grind [put1]), (by grind [put1])⟩ (by first | omega | (simp only []; omega)))
       refine .d <| .ct <| .g <| .r 3 ?_
       have bA : i < b.length := (by omega)
       refine .ix i 2 h1 bA ?_
       obtain ⟨_, rfl, bB⟩ := h1.elem i aa ae
       refine .lg 0 bB <| .ns 1 33 [vI aa.t, vI aa.v] fun bt dt ak aJ bC bD => ?_
       have bE := nb_new ak C.lt
       have aK := nb_new ak Z.lt
       have bF := gb_new ak E.size
       replace ⟨h1, C, Z, E, J⟩ := (se [ay, V] aJ).g5 h1 C Z E J
       clear aJ bD ak
       have aB : nin (ge w.heap.size) [ay, V] bt ∧ bt ≠ ay := hap_mk bF (all_cons aK (all_cons bE all_nil)) aK
       refine RG.append1 (T := 42) (ty := 42) (y := aa) Z bC (by kernel_rfl) (by kernel_rfl) rfl aB (by omega) fun cF cG du af al aL => ?_
       have bG := orb_or al bq J.size
       replace ⟨h1, C, E, J⟩ := (sa [ay, V] aL al).g4 h1 C E J
       clear aL
       replace af := af.rn ay
       clear al
       have cS := af.len; have cT := af.max
       exact .r 1 <| .d <| .ib 1 <| .g <| .r 1 <| .it ((i : Int) + 1) <| .r 1 <| .d <| W (((out ++ [r]) ++ [aa]), cF, n_out + 1 + 1, cG, true, i + 1) _ _ ⟨by kernel_rfl, by kernel_rfl, by kernel_rfl, by kernel_rfl, by kernel_rfl, trivial⟩ ⟨J, af, bG, (by grind [put1]), (by grind [put1]), (by grind [put1]), (by grind [put1])⟩ (by first | omega | (simp only []; omega))
     refine .r 1 <| .d <| .cf <| .sk <| .s <| .gd nil 7 fun dv aM => ?_
     replace ⟨h1, C, O, E, J⟩ := (se [r_out, V] aM).g5 h1 C O E J
     clear aM
     refine .r [0, 1] ?_
     have bH : i < b.length := (by omega)
     refine .ix 2 i 2 h1 bH <| .r [3] ?_
     obtain ⟨_, rfl, bI⟩ := h1.elem i aa ae
     refine .lh 4 0 bI id <| .r [5] <| .lb 6 C id <| .d fun dw aN => ?_
     replace ⟨h1, C, O, E, J⟩ := (se [r_out, V] aN).g5 h1 C O E J
     clear aN
     refine .ne aa.t r.t (fun bJ => ?_) (fun bJ => .d <| .cf <| .sk <| .ib 1 <| .g <| .r 1 <| .it ((i : Int) + 1) <| .r 1 <| .d <| W (out, r_out, n_out, c_out, false, i + 1) _ _ ⟨by kernel_rfl, by kernel_rfl, by kernel_rfl, by kernel_rfl, by kernel_rfl, trivial⟩ ⟨J, O, ab, (by grind [put1]), (by grind [put1]), (by grind [put1]), (by grind [put1])⟩ (by first | omega | (simp only []; omega)))
     refine .d <| .ct <| .g <| .r 3 ?_
     have bK : i < b.length := (by omega)
     refine .ix i 2 h1 bK ?_
     obtain ⟨_, rfl, bL⟩ := h1.elem i aa ae
     refine .lg 0 bL <| .ns 1 33 [vI aa.t, vI aa.v] fun bu dx am aO bM bN => ?_
     have bO := nb_new am C.lt
     have aP := nb_new am O.lt
     have bP := gb_new am E.size
     replace ⟨h1, C, O, E, J⟩ := (se [r_out, V] aO).g5 h1 C O E J
     clear aO bN am
     have aC : nin (ge w.heap.size) [r_out, V] bu ∧ bu ≠ r_out := hap_mk bP (all_cons aP (all_cons bO all_nil)) aP
     refine RG.append1 (T := 42) (ty := 42) (y := aa) O bM (by kernel_rfl) (by kernel_rfl) rfl aC (by omega) fun cH cI dy ag ao aQ => ?_
     have bQ := orb_or ao ab J.size
     replace ⟨h1, C, E, J⟩ := (sa [r_out, V] aQ ao).g4 h1 C E J
     clear aQ
     replace ag := ag.rn r_out
     clear ao
     have cU := ag.len; have cV := ag.max
     exact .r 1 <| .d <| .ib 1 <| .g <| .r 1 <| .it ((i : Int) + 1) <| .r 1 <| .d <| W ((out ++ [aa]), cH, n_out + 1, cI, false, i + 1) _ _ ⟨by kernel_rfl, by kernel_rfl, by kernel_rfl, by kernel_rfl, by kernel_rfl, trivial⟩ ⟨J, ag, bQ, (by grind [put1]), (by grind [put1]), (by grind [put1]), (by grind [put1])⟩ (by first | omega | (simp only []; omega))
   refine .r [1, 2, 3, 4, 5, 6, 7, 8, 9] <| .d fun dz aR => ?_
   replace ⟨h1, C, O, E, J⟩ := (se [r_out, V] aR).g5 h1 C O E J
   clear aR
   refine .r 2 <| .d <| .cf <| .sk <| .s <| .gd nil 7 fun dA aS => ?_
   replace ⟨h1, C, O, E, J⟩ := (se [r_out, V] aS).g5 h1 C O E J
   clear aS
   refine .r [0, 1] ?_
   have bR : i < b.length := (by omega)
   refine .ix 2 i 2 h1 bR <| .r [3] ?_
   obtain ⟨ah, aq⟩ : ∃ y, b[i]? = some y := ⟨_, List.getElem?_eq_getElem (by omega)⟩
   have cW := drop_at aq; have cJ := List.mem_of_getElem? aq
   obtain ⟨_, rfl, bS⟩ := h1.elem i ah aq
   refine .lh 4 0 bS id <| .r [5] <| .lb 6 C id <| .d fun dB aT => ?_
   replace ⟨h1, C, O, E, J⟩ := (se [r_out, V] aT).g5 h1 C O E J
   clear aT
   refine .ne ah.t r.t (fun bT => ?_) (fun bT => .d <| .cf <| .sk <| .ib 1 <| .g <| .r 1 <| .it ((i : Int) + 1) <| .r 1 <| .d <| W (out, r_out, n_out, c_out, true, i + 1) _ _ ⟨by kernel_rfl, by kernel_rfl, by kernel_rfl, by kernel_rfl, by kernel_rfl, trivial⟩ ⟨J, O, ab, (by grind [put1]), (by grind [put1]), (by grind [put1]), (by grind [put1])⟩ (by first | omega | (simp only []; omega)))
   refine .d <| .ct <| .g <| .r 3 ?_
   have bU : i < b.length := (by omega)
   refine .ix i 2 h1 bU ?_
   obtain ⟨_, rfl, bV⟩ := h1.elem i ah aq
   refine .lg 0 bV <| .ns 1 33 [vI ah.t, vI ah.v] fun bv dC ar aU bW bX => ?_
   have bY := nb_new ar C.lt
   have aV := nb_new ar O.lt
   have bZ := gb_new ar E.size
   replace ⟨C, O, E, J⟩ := (se [r_out, V] aU).g4 C O E J
   clear aU bX ar
   have aD : nin (ge w.heap.size) [r_out, V] bv ∧ bv ≠ r_out := hap_mk bZ (all_cons aV (all_cons bY all_nil)) aV
   refine RG.append1 (T := 42) (ty := 42) (y := ah) O bW (by kernel_rfl) (by kernel_rfl) rfl aD (by omega) fun cK cL dD ai aA aW => ?_
   have b0 := orb_or aA ab J.size
   replace ⟨C, E, J⟩ := (s1 aW).g3 C E J
   clear aW
   replace ai := ai.rn r_out
   clear aA
   have cX := ai.len; have cY := ai.max
   exact .r 1 <| .d <| .ib 1 <| .g <| .r 1 <| .it ((i : Int) + 1) <| .r 1 <| .d <| W ((out ++ [ah]), cK, n_out + 1, cL, true, i + 1) _ _ ⟨by kernel_rfl, by kernel_rfl, by kernel_rfl, by kernel_rfl, by kernel_rfl, trivial⟩ ⟨J, ai, b0, (by grind [put1]), (by grind [put1]), (by grind [put1]), (by grind [put1])⟩ (by first | omega | (simp only []; omega))
 refine .d <| .cf <| .x 0 rfl <| .s <| .s <| .g <| .r 1 ?_
 cases cZ : put
 · refine .r 1 <| .d <| .ct <| .g <| .r 1 <| .ln C <| .ns 1 33 [vI r.t, vI r.v] fun bw dE au aX b6 b7 => ?_
   have b8 := nb_new au C.lt
   have aY := nb_new au O.lt
   have b9 := gb_new au E.size
   replace ⟨C, O, E⟩ := (se [r_out, V] aX).g3 C O E
   clear aX b7 au
   have aE : nin (ge w.heap.size) [r_out, V] bw ∧ bw ≠ r_out := hap_mk b9 (all_cons aY (all_cons b8 all_nil)) aY
   refine RG.append1 (T := 42) (ty := 42) (y := r) O b6 (by kernel_rfl) (by kernel_rfl) rfl aE (by omega) fun cM cN dF aj av aZ => ?_
   have c7 := nb_or av bg C.lt
   have cd := gb_or av bh E.size
   replace E := (s1 aZ).g1 E
   clear aZ
   replace aj := aj.rn r_out
   clear av
   have c8 := aj.len; have c9 := aj.max
   refine .r 1 <| .d <| .s <| .g <| .r 2 <| .d ?_
   have cO := aj.sl cd
   exact .rt Tryz.func115 Tryz.results115 (vS cM (n_out + 1) cN) ⟨(cO.vl (by grind [put1]) (fun _ _ h => h.1)), E⟩
 refine .r 1 <| .d <| .cf <| .sk <| .s <| .g <| .r 2 <| .d ?_
 have cP := O.sl bh
 exact .rt Tryz.func115 Tryz.results115 (vS r_out n_out c_out) ⟨(cP.vl (by grind [put1]) (fun _ _ h => h.1)), E⟩
theorem c_spec_l3Tag (t : Tag) {w : World} {F : Nat → Prop}   : Calls Tryz.prog 70 [.agg #[.string (bs t.key), .string (bs t.val)]].toArray w (rets fun rv w' => rv = .bool (tagOk t) ∧ Ext w w') := by
 refine goT Tryz.func70 <| .s <| .g <| .np 112 [vT t.key, vT t.val] fun au ai ae V E af => ?_
 have C := V
 clear V af ae
 refine .r 1 <| .d <| .s <| .g <| .r 1 <| .lb E <| RG.eqv (v := vI (t.key.length : Int)) (by kernel_rfl) (s_len t.key) <| .eq (t.key.length : Int) 1 (fun ag => ?_) (fun ag => .r 21 <| .d <| .rt Tryz.func70 Tryz.results70 (.bool false) ⟨(congrArg Value.bool (by grind [tagOk_k, tagOk_v, tagOk_def, one1_at])), C⟩)
 refine .r 2 <| .lb E <| RG.eqv (v := vI (t.val.length : Int)) (by kernel_rfl) (s_len t.val) <| .eq (t.val.length : Int) 1 (fun ah => ?_) (fun ah => .r 16 <| .d <| .rt Tryz.func70 Tryz.results70 (.bool false) ⟨(congrArg Value.bool (by grind [tagOk_k, tagOk_v, tagOk_def, one1_at])), C⟩)
 refine .r 3 <| .lb E ?_
 obtain ⟨J, W⟩ : ∃ y, t.key[0]? = some y := ⟨_, List.getElem?_eq_getElem (by omega)⟩
 have ak := UInt8.toNat_lt J; have al := drop_at W
 refine RG.sidx (t := 9) (s := t.key) (k := .i64) (i := 0) 0 (by kernel_rfl) (by kernel_rfl) (by omega) W <| .it ((J.toNat : Int)) <| .cl (c_spec_l6In (J.toNat : Int) 97 100 (w := ai) (F := all)) ?_
 rintro av aj ⟨rfl, Z⟩
 replace ⟨E, C⟩ := (se [] Z).g2 E C
 clear Z
 cases aa : (inR (J.toNat : Int) 97 100)
 · have am := inR_f aa
   exact .r 9 <| .d <| .rt Tryz.func70 Tryz.results70 (.bool false) ⟨(congrArg Value.bool (by grind [tagOk_k, tagOk_v, tagOk_def, one1_at])), C⟩
 have ao := inR_t aa
 refine .r 3 <| .lb E ?_
 obtain ⟨O, ab⟩ : ∃ y, t.val[0]? = some y := ⟨_, List.getElem?_eq_getElem (by omega)⟩
 have aq := UInt8.toNat_lt O; have ar := drop_at ab
 refine RG.sidx (t := 9) (s := t.val) (k := .i64) (i := 0) 0 (by kernel_rfl) (by kernel_rfl) (by omega) ab <| .it ((O.toNat : Int)) <| .cl (c_spec_l6In (O.toNat : Int) 112 122 (w := aj) (F := all)) ?_
 rintro aw ax ⟨rfl, ac⟩
 replace C := (se [] ac).g1 C
 clear ac
 exact .r 2 <| .d <| .rt Tryz.func70 Tryz.results70 (.bool (inR (O.toNat : Int) 112 122)) ⟨(congrArg Value.bool (by grind [tagOk_k, tagOk_v, tagOk_def, one1_at])), C⟩
theorem c_impl_tagOk (t : Tag) {w : World} {F : Nat → Prop}   : Calls Tryz.prog 107 [.agg #[.string (bs t.key), .string (bs t.val)]].toArray w (rets fun rv w' => rv = .bool (tagOk t) ∧ Ext w w') := by
 refine goT Tryz.func107 <| .s <| .g <| .np 112 [vT t.key, vT t.val] fun ae af O J C V => ?_
 have E := J
 clear J V O
 refine .r 1 <| .d <| .s <| .g <| .r 1 <| .lb C <| RG.eqv (v := vI (t.key.length : Int)) (by kernel_rfl) (s_len t.key) <| .eq (t.key.length : Int) 1 (fun W => ?_) (fun W => .r 27 <| .d <| .rt Tryz.func107 Tryz.results107 (.bool false) ⟨(congrArg Value.bool (by grind [tagOk_k, tagOk_v, tagOk_cmp, tagOk_lt, tagOk_le])), E⟩)
 refine .r 2 <| .lb C <| RG.eqv (v := .bool (!(strLt t.key [97]))) (by kernel_rfl) (s_ge t.key [97]) ?_
 cases aa : (strLt t.key [97])
 · refine .r 3 <| .lb C <| RG.eqv (v := .bool ((strLe t.key [100]))) (by kernel_rfl) (s_le t.key [100]) ?_
   cases ab : (strLe t.key [100])
   · exact .r 18 <| .d <| .rt Tryz.func107 Tryz.results107 (.bool false) ⟨(congrArg Value.bool (by grind [tagOk_k, tagOk_v, tagOk_cmp, tagOk_lt, tagOk_le])), E⟩
   refine .r 3 <| .lb C <| RG.eqv (v := vI (t.val.length : Int)) (by kernel_rfl) (s_len t.val) <| .eq (t.val.length : Int) 1 (fun Z => ?_) (fun Z => .r 12 <| .d <| .rt Tryz.func107 Tryz.results107 (.bool false) ⟨(congrArg Value.bool (by grind [tagOk_k, tagOk_v, tagOk_cmp, tagOk_lt, tagOk_le])), E⟩)
   refine .r 3 <| .lb C <| RG.eqv (v := .bool (!(strLt t.val [112]))) (by kernel_rfl) (s_ge t.val [112]) ?_
   cases ac : (strLt t.val [112])
   · exact .r 3 <| .lb C <| RG.eqv (v := .bool ((strLe t.val [122]))) (by kernel_rfl) (s_le t.val [122]) <| .r 2 <| .d <| .rt Tryz.func107 Tryz.results107 (.bool (strLe t.val [122])) ⟨(congrArg Value.bool (by grind [tagOk_k, tagOk_v, tagOk_cmp, tagOk_lt, tagOk_le])), E⟩
   exact .r 7 <| .d <| .rt Tryz.func107 Tryz.results107 (.bool false) ⟨(congrArg Value.bool (by grind [tagOk_k, tagOk_v, tagOk_cmp, tagOk_lt, tagOk_le])), E⟩
 exact .r 23 <| .d <| .rt Tryz.func107 Tryz.results107 (.bool false) ⟨(congrArg Value.bool (by grind [tagOk_k, tagOk_v, tagOk_cmp, tagOk_lt, tagOk_le])), E⟩
theorem c_slices_Equal_int_int (a : List Int) (b : List Int) {w : World} {F : Nat → Prop} {a1 : Option Addr} {n1 c1 : Nat} (h1 : RepS w F a1 n1 c1 a) {a2 : Option Addr} {n2 c2 : Nat} (h2 : RepS w F a2 n2 c2 b)  : Calls Tryz.prog 119 [.slice a1 n1 c1, .slice a2 n2 c2].toArray w (rets fun rv w' => rv = .bool ((a == b)) ∧ Ext w w') := by
 refine goT Tryz.func119 ?_
 obtain ⟨rfl, aq, h1⟩ := h1.tp
 obtain ⟨rfl, ar, h2⟩ := h2.tp
 refine .s <| .g <| .r 1 <| .d <| .s <| .s <| .g <| .r 4 <| .ne (a.length : Int) (b.length : Int) (fun ac => .d <| .ct <| .s <| .g <| .r 1 <| .d <| .rt Tryz.func119 Tryz.results119 (.bool false) ⟨(congrArg Value.bool (by grind [drop_end])), (Chg.refl _ _)⟩) fun ac => .d <| .cf <| .sk <| .s <| .s <| .g <| .r 3 <| .d <| .b 0 <| T.loop (X := Nat) 0 (fun k => [(0, .slice a1 a.length c1), (1, .slice a2 b.length c2), (12, vI (a.length : Int)), (13, vI (k : Int))]) (fun k W => Chg (ins []) w W ∧ (k ≤ a.length) ∧ (a.drop k = b.drop k ↔ a = b)) (fun k => a.length - k) (by kernel_rfl) ⟨by kernel_rfl, by kernel_rfl, by kernel_rfl, by kernel_rfl, trivial⟩ ⟨Chg.refl _ _, (by simp), (by simp)⟩ ?_
 rintro k ay W ⟨C, au, av⟩ J
 have Z : Mv [] [] w W := Mv.inl C all_nil all_nil
 replace ⟨h1, h2⟩ := (sp Z C).g2 h1 h2
 have E : Chg nil w W := Chg.stepI (Chg.refl nil w) C all_nil
 clear Z
 refine .s <| .g <| .bp ((k : Int) < (a.length : Int)) (fun ae => ?_) (fun ae => .d <| .s <| .cf <| .x 0 rfl <| .s <| .g <| .r 1 <| .d <| .rt Tryz.func119 Tryz.results119 (.bool true) ⟨(congrArg Value.bool (by grind [drop_end])), E⟩)
 refine .d <| .s <| .ct <| .sk <| .s <| .b 1 <| .s <| .g <| .r 2 <| .d <| .s <| .gd nil 8 fun az aa => ?_
 replace ⟨h1, h2, E, C⟩ := (se [] aa).g4 h1 h2 E C
 clear aa
 refine .r [0, 1] ?_
 have af : k < a.length := (by omega)
 refine .ix 2 k 1 h1 af ?_
 obtain ⟨ag, O⟩ : ∃ y, a[k]? = some y := ⟨_, List.getElem?_eq_getElem (by omega)⟩
 have aw := drop_at O; have am := List.mem_of_getElem? O
 obtain ⟨_, rfl, ah⟩ := h1.elem k ag O
 refine .lh 3 0 ah id <| .r [4, 5] ?_
 have ai : k < b.length := (by omega)
 refine .ix 6 k 1 h2 ai ?_
 obtain ⟨aj, V⟩ : ∃ y, b[k]? = some y := ⟨_, List.getElem?_eq_getElem (by omega)⟩
 have ax := drop_at V; have ao := List.mem_of_getElem? V
 obtain ⟨_, rfl, ak⟩ := h2.elem k aj V
 refine .lh 7 0 ak id <| .d fun aA ab => ?_
 replace ⟨E, C⟩ := (se [] ab).g2 E C
 clear ab
 exact .ne ag aj (fun al => .d <| .ct <| .s <| .g <| .r 1 <| .d <| .rt Tryz.func119 Tryz.results119 (.bool false) ⟨(congrArg Value.bool (by grind [drop_end])), E⟩) fun al => .d <| .cf <| .sk <| .ib 1 <| .g <| .it ((k : Int) + 1) <| .r 1 <| .d <| J (k + 1) _ _ ⟨by kernel_rfl, by kernel_rfl, by kernel_rfl, by kernel_rfl, trivial⟩ ⟨C, (by omega), (by grind)⟩ (by first | omega | (simp only []; omega))
theorem c_spec_l11Same (a : List Int) (b : List Int) {w : World} {F : Nat → Prop} {a1 : Option Addr} {n1 c1 : Nat} (h1 : RepS w F a1 n1 c1 a) {a2 : Option Addr} {n2 c2 : Nat} (h2 : RepS w F a2 n2 c2 b)  : Calls Tryz.prog 110 [.slice a1 n1 c1, .slice a2 n2 c2].toArray w (rets fun rv w' => rv = .bool ((a == b)) ∧ Ext w w') := by
 refine goT Tryz.func110 ?_
 obtain ⟨rfl, aq, h1⟩ := h1.tp
 obtain ⟨rfl, ar, h2⟩ := h2.tp
 refine .s <| .g <| .r 1 <| .d <| .s <| .s <| .g <| .r 4 <| .ne (a.length : Int) (b.length : Int) (fun ac => .d <| .ct <| .s <| .g <| .r 1 <| .d <| .rt Tryz.func110 Tryz.results110 (.bool false) ⟨(congrArg Value.bool (by grind [drop_end])), (Chg.refl _ _)⟩) fun ac => .d <| .cf <| .sk <| .s <| .s <| .g <| .r 1 <| .d <| .b 0 <| T.loop (X := Nat) 0 (fun i => [(0, .slice a1 a.length c1), (1, .slice a2 b.length c2), (5, vI (i : Int))]) (fun i W => Chg (ins []) w W ∧ (i ≤ a.length) ∧ (a.drop i = b.drop i ↔ a = b)) (fun i => a.length - i) (by kernel_rfl) ⟨by kernel_rfl, by kernel_rfl, by kernel_rfl, trivial⟩ ⟨Chg.refl _ _, (by simp), (by simp)⟩ ?_
 rintro i ay W ⟨C, au, av⟩ J
 have Z : Mv [] [] w W := Mv.inl C all_nil all_nil
 replace ⟨h1, h2⟩ := (sp Z C).g2 h1 h2
 have E : Chg nil w W := Chg.stepI (Chg.refl nil w) C all_nil
 clear Z
 refine .s <| .s <| .g <| .r 3 <| .bp ((i : Int) < (a.length : Int)) (fun ae => ?_) (fun ae => .d <| .cf <| .x 0 rfl <| .s <| .g <| .r 1 <| .d <| .rt Tryz.func110 Tryz.results110 (.bool true) ⟨(congrArg Value.bool (by grind [drop_end])), E⟩)
 refine .d <| .ct <| .sk <| .s <| .b 1 <| .s <| .gd nil 8 fun az aa => ?_
 replace ⟨h1, h2, E, C⟩ := (se [] aa).g4 h1 h2 E C
 clear aa
 refine .r [0, 1] ?_
 have af : i < a.length := (by omega)
 refine .ix 2 i 1 h1 af ?_
 obtain ⟨ag, O⟩ : ∃ y, a[i]? = some y := ⟨_, List.getElem?_eq_getElem (by omega)⟩
 have aw := drop_at O; have am := List.mem_of_getElem? O
 obtain ⟨_, rfl, ah⟩ := h1.elem i ag O
 refine .lh 3 0 ah id <| .r [4, 5] ?_
 have ai : i < b.length := (by omega)
 refine .ix 6 i 1 h2 ai ?_
 obtain ⟨aj, V⟩ : ∃ y, b[i]? = some y := ⟨_, List.getElem?_eq_getElem (by omega)⟩
 have ax := drop_at V; have ao := List.mem_of_getElem? V
 obtain ⟨_, rfl, ak⟩ := h2.elem i aj V
 refine .lh 7 0 ak id <| .d fun aA ab => ?_
 replace ⟨E, C⟩ := (se [] ab).g2 E C
 clear ab
 exact .ne ag aj (fun al => .d <| .ct <| .s <| .g <| .r 1 <| .d <| .rt Tryz.func110 Tryz.results110 (.bool false) ⟨(congrArg Value.bool (by grind [drop_end])), E⟩) fun al => .d <| .cf <| .sk <| .ib 1 <| .g <| .r 1 <| .it ((i : Int) + 1) <| .r 1 <| .d <| J (i + 1) _ _ ⟨by kernel_rfl, by kernel_rfl, by kernel_rfl, trivial⟩ ⟨C, (by omega), (by grind)⟩ (by first | omega | (simp only []; omega))
theorem c_laws_lyInts (a : List Int) (b : List Int) {w : World} {F : Nat → Prop} {a1 : Option Addr} {n1 c1 : Nat} (h1 : RepS w F a1 n1 c1 a) {a2 : Option Addr} {n2 c2 : Nat} (h2 : RepS w F a2 n2 c2 b)  : Calls Tryz.prog 54 [.slice a1 n1 c1, .slice a2 n2 c2].toArray w (rets fun rv w' => rv = .bool ((a == b)) ∧ Ext w w') := by
 refine goT Tryz.func54 ?_
 obtain ⟨rfl, aq, h1⟩ := h1.tp
 obtain ⟨rfl, ar, h2⟩ := h2.tp
 refine .s <| .g <| .r 1 <| .d <| .s <| .s <| .g <| .r 4 <| .ne (a.length : Int) (b.length : Int) (fun ac => .d <| .ct <| .s <| .g <| .r 1 <| .d <| .rt Tryz.func54 Tryz.results54 (.bool false) ⟨(congrArg Value.bool (by grind [drop_end])), (Chg.refl _ _)⟩) fun ac => .d <| .cf <| .sk <| .s <| .s <| .g <| .r 1 <| .d <| .b 0 <| T.loop (X := Nat) 0 (fun i => [(0, .slice a1 a.length c1), (1, .slice a2 b.length c2), (5, vI (i : Int))]) (fun i W => Chg (ins []) w W ∧ (i ≤ a.length) ∧ (a.drop i = b.drop i ↔ a = b)) (fun i => a.length - i) (by kernel_rfl) ⟨by kernel_rfl, by kernel_rfl, by kernel_rfl, trivial⟩ ⟨Chg.refl _ _, (by simp), (by simp)⟩ ?_
 rintro i ay W ⟨C, au, av⟩ J
 have Z : Mv [] [] w W := Mv.inl C all_nil all_nil
 replace ⟨h1, h2⟩ := (sp Z C).g2 h1 h2
 have E : Chg nil w W := Chg.stepI (Chg.refl nil w) C all_nil
 clear Z
 refine .s <| .s <| .g <| .r 3 <| .bp ((i : Int) < (a.length : Int)) (fun ae => ?_) (fun ae => .d <| .cf <| .x 0 rfl <| .s <| .g <| .r 1 <| .d <| .rt Tryz.func54 Tryz.results54 (.bool true) ⟨(congrArg Value.bool (by grind [drop_end])), E⟩)
 refine .d <| .ct <| .sk <| .s <| .b 1 <| .s <| .gd nil 8 fun az aa => ?_
 replace ⟨h1, h2, E, C⟩ := (se [] aa).g4 h1 h2 E C
 clear aa
 refine .r [0, 1] ?_
 have af : i < a.length := (by omega)
 refine .ix 2 i 1 h1 af ?_
 obtain ⟨ag, O⟩ : ∃ y, a[i]? = some y := ⟨_, List.getElem?_eq_getElem (by omega)⟩
 have aw := drop_at O; have am := List.mem_of_getElem? O
 obtain ⟨_, rfl, ah⟩ := h1.elem i ag O
 refine .lh 3 0 ah id <| .r [4, 5] ?_
 have ai : i < b.length := (by omega)
 refine .ix 6 i 1 h2 ai ?_
 obtain ⟨aj, V⟩ : ∃ y, b[i]? = some y := ⟨_, List.getElem?_eq_getElem (by omega)⟩
 have ax := drop_at V; have ao := List.mem_of_getElem? V
 obtain ⟨_, rfl, ak⟩ := h2.elem i aj V
 refine .lh 7 0 ak id <| .d fun aA ab => ?_
 replace ⟨E, C⟩ := (se [] ab).g2 E C
 clear ab
 exact .ne ag aj (fun al => .d <| .ct <| .s <| .g <| .r 1 <| .d <| .rt Tryz.func54 Tryz.results54 (.bool false) ⟨(congrArg Value.bool (by grind [drop_end])), E⟩) fun al => .d <| .cf <| .sk <| .ib 1 <| .g <| .r 1 <| .it ((i : Int) + 1) <| .r 1 <| .d <| J (i + 1) _ _ ⟨by kernel_rfl, by kernel_rfl, by kernel_rfl, trivial⟩ ⟨C, (by omega), (by grind)⟩ (by first | omega | (simp only []; omega))
theorem c_slices_Equal_impl_Tag_impl_Tag (a : List Tag) (b : List Tag) {w : World} {F : Nat → Prop} {a1 : Option Addr} {n1 c1 : Nat} (h1 : RepS w F a1 n1 c1 a) {a2 : Option Addr} {n2 c2 : Nat} (h2 : RepS w F a2 n2 c2 b)  : Calls Tryz.prog 122 [.slice a1 n1 c1, .slice a2 n2 c2].toArray w (rets fun rv w' => rv = .bool ((a == b)) ∧ Ext w w') := by
 refine goT Tryz.func122 ?_
 obtain ⟨rfl, ao, h1⟩ := h1.tp
 obtain ⟨rfl, aq, h2⟩ := h2.tp
 refine .s <| .g <| .r 1 <| .d <| .s <| .s <| .g <| .r 4 <| .ne (a.length : Int) (b.length : Int) (fun af => .d <| .ct <| .s <| .g <| .r 1 <| .d <| .rt Tryz.func122 Tryz.results122 (.bool false) ⟨(congrArg Value.bool (by grind [drop_end])), (Chg.refl _ _)⟩) fun af => .d <| .cf <| .sk <| .s <| .s <| .g <| .r 3 <| .d <| .b 0 <| T.loop (X := Nat) 0 (fun k => [(0, .slice a1 a.length c1), (1, .slice a2 b.length c2), (12, vI (a.length : Int)), (13, vI (k : Int))]) (fun k W => Chg (ins []) w W ∧ (k ≤ a.length) ∧ (a.drop k = b.drop k ↔ a = b)) (fun k => a.length - k) (by kernel_rfl) ⟨by kernel_rfl, by kernel_rfl, by kernel_rfl, by kernel_rfl, trivial⟩ ⟨Chg.refl _ _, (by simp), (by simp)⟩ ?_
 rintro k ay W ⟨C, ar, au⟩ J
 have Z : Mv [] [] w W := Mv.inl C all_nil all_nil
 replace ⟨h1, h2⟩ := (sp Z C).g2 h1 h2
 have E : Chg nil w W := Chg.stepI (Chg.refl nil w) C all_nil
 clear Z
 refine .s <| .g <| .bp ((k : Int) < (a.length : Int)) (fun ag => ?_) (fun ag => .d <| .s <| .cf <| .x 0 rfl <| .s <| .g <| .r 1 <| .d <| .rt Tryz.func122 Tryz.results122 (.bool true) ⟨(congrArg Value.bool (by grind [drop_end])), E⟩)
 refine .d <| .s <| .ct <| .sk <| .s <| .b 1 <| .s <| .g <| .r 2 <| .d <| .s <| .gd nil 8 fun az aa => ?_
 replace ⟨h1, h2, E, C⟩ := (se [] aa).g4 h1 h2 E C
 clear aa
 refine .r [0, 1] ?_
 have ah : k < a.length := (by omega)
 refine .ix 2 k 2 h1 ah ?_
 obtain ⟨ac, O⟩ : ∃ y, a[k]? = some y := ⟨_, List.getElem?_eq_getElem (by omega)⟩
 have av := drop_at O; have al := List.mem_of_getElem? O
 obtain ⟨_, rfl, ai⟩ := h1.elem k ac O
 refine .lg 3 0 ai id <| .r [4, 5] ?_
 have aj : k < b.length := (by omega)
 refine .ix 6 k 2 h2 aj ?_
 obtain ⟨ae, V⟩ : ∃ y, b[k]? = some y := ⟨_, List.getElem?_eq_getElem (by omega)⟩
 have aw := drop_at V; have am := List.mem_of_getElem? V
 obtain ⟨_, rfl, ak⟩ := h2.elem k ae V
 refine .lg 7 0 ak id <| .d fun aA ab => ?_
 replace ⟨E, C⟩ := (se [] ab).g2 E C
 clear ab
 refine RG.tagNe (t := 112) (x := ac) (y := ae) (by kernel_rfl) (by kernel_rfl) ?_
 cases ax : (ac == ae)
 · exact .d <| .ct <| .s <| .g <| .r 1 <| .d <| .rt Tryz.func122 Tryz.results122 (.bool false) ⟨(congrArg Value.bool (by grind [drop_end])), E⟩
 exact .d <| .cf <| .sk <| .ib 1 <| .g <| .it ((k : Int) + 1) <| .r 1 <| .d <| J (k + 1) _ _ ⟨by kernel_rfl, by kernel_rfl, by kernel_rfl, by kernel_rfl, trivial⟩ ⟨C, (by omega), (by grind)⟩ (by first | omega | (simp only []; omega))
theorem c_laws_lyName (a : List Tag) (b : List Tag) {w : World} {F : Nat → Prop} {a1 : Option Addr} {n1 c1 : Nat} (h1 : RepS w F a1 n1 c1 a) {a2 : Option Addr} {n2 c2 : Nat} (h2 : RepS w F a2 n2 c2 b)  : Calls Tryz.prog 87 [.slice a1 n1 c1, .slice a2 n2 c2].toArray w (rets fun rv w' => rv = .bool ((a == b)) ∧ Ext w w') := by
 refine goT Tryz.func87 ?_
 obtain ⟨rfl, ao, h1⟩ := h1.tp
 obtain ⟨rfl, aq, h2⟩ := h2.tp
 refine .s <| .g <| .r 1 <| .d <| .s <| .s <| .g <| .r 4 <| .ne (a.length : Int) (b.length : Int) (fun af => .d <| .ct <| .s <| .g <| .r 1 <| .d <| .rt Tryz.func87 Tryz.results87 (.bool false) ⟨(congrArg Value.bool (by grind [drop_end])), (Chg.refl _ _)⟩) fun af => .d <| .cf <| .sk <| .s <| .s <| .g <| .r 1 <| .d <| .b 0 <| T.loop (X := Nat) 0 (fun i => [(0, .slice a1 a.length c1), (1, .slice a2 b.length c2), (5, vI (i : Int))]) (fun i W => Chg (ins []) w W ∧ (i ≤ a.length) ∧ (a.drop i = b.drop i ↔ a = b)) (fun i => a.length - i) (by kernel_rfl) ⟨by kernel_rfl, by kernel_rfl, by kernel_rfl, trivial⟩ ⟨Chg.refl _ _, (by simp), (by simp)⟩ ?_
 rintro i ay W ⟨C, ar, au⟩ J
 have Z : Mv [] [] w W := Mv.inl C all_nil all_nil
 replace ⟨h1, h2⟩ := (sp Z C).g2 h1 h2
 have E : Chg nil w W := Chg.stepI (Chg.refl nil w) C all_nil
 clear Z
 refine .s <| .s <| .g <| .r 3 <| .bp ((i : Int) < (a.length : Int)) (fun ag => ?_) (fun ag => .d <| .cf <| .x 0 rfl <| .s <| .g <| .r 1 <| .d <| .rt Tryz.func87 Tryz.results87 (.bool true) ⟨(congrArg Value.bool (by grind [drop_end])), E⟩)
 refine .d <| .ct <| .sk <| .s <| .b 1 <| .s <| .gd nil 8 fun az aa => ?_
 replace ⟨h1, h2, E, C⟩ := (se [] aa).g4 h1 h2 E C
 clear aa
 refine .r [0, 1] ?_
 have ah : i < a.length := (by omega)
 refine .ix 2 i 2 h1 ah ?_
 obtain ⟨ac, O⟩ : ∃ y, a[i]? = some y := ⟨_, List.getElem?_eq_getElem (by omega)⟩
 have av := drop_at O; have al := List.mem_of_getElem? O
 obtain ⟨_, rfl, ai⟩ := h1.elem i ac O
 refine .lg 3 0 ai id <| .r [4, 5] ?_
 have aj : i < b.length := (by omega)
 refine .ix 6 i 2 h2 aj ?_
 obtain ⟨ae, V⟩ : ∃ y, b[i]? = some y := ⟨_, List.getElem?_eq_getElem (by omega)⟩
 have aw := drop_at V; have am := List.mem_of_getElem? V
 obtain ⟨_, rfl, ak⟩ := h2.elem i ae V
 refine .lg 7 0 ak id <| .d fun aA ab => ?_
 replace ⟨E, C⟩ := (se [] ab).g2 E C
 clear ab
 refine RG.tagNe (t := 112) (x := ac) (y := ae) (by kernel_rfl) (by kernel_rfl) ?_
 cases ax : (ac == ae)
 · exact .d <| .ct <| .s <| .g <| .r 1 <| .d <| .rt Tryz.func87 Tryz.results87 (.bool false) ⟨(congrArg Value.bool (by grind [drop_end])), E⟩
 exact .d <| .cf <| .sk <| .ib 1 <| .g <| .r 1 <| .it ((i : Int) + 1) <| .r 1 <| .d <| J (i + 1) _ _ ⟨by kernel_rfl, by kernel_rfl, by kernel_rfl, trivial⟩ ⟨C, (by omega), (by grind)⟩ (by first | omega | (simp only []; omega))
theorem c_laws_lyRows (a : List Row) (b : List Row) {w : World} {F : Nat → Prop} {a1 : Option Addr} {n1 c1 : Nat} (h1 : RepS w F a1 n1 c1 a) {a2 : Option Addr} {n2 c2 : Nat} (h2 : RepS w F a2 n2 c2 b)  : Calls Tryz.prog 25 [.slice a1 n1 c1, .slice a2 n2 c2].toArray w (rets fun rv w' => rv = .bool ((a == b)) ∧ Ext w w') := by
 refine goT Tryz.func25 ?_
 obtain ⟨rfl, ao, h1⟩ := h1.tp
 obtain ⟨rfl, aq, h2⟩ := h2.tp
 refine .s <| .g <| .r 1 <| .d <| .s <| .s <| .g <| .r 4 <| .ne (a.length : Int) (b.length : Int) (fun af => .d <| .ct <| .s <| .g <| .r 1 <| .d <| .rt Tryz.func25 Tryz.results25 (.bool false) ⟨(congrArg Value.bool (by grind [drop_end])), (Chg.refl _ _)⟩) fun af => .d <| .cf <| .sk <| .s <| .s <| .g <| .r 1 <| .d <| .b 0 <| T.loop (X := Nat) 0 (fun i => [(0, .slice a1 a.length c1), (1, .slice a2 b.length c2), (5, vI (i : Int))]) (fun i W => Chg (ins []) w W ∧ (i ≤ a.length) ∧ (a.drop i = b.drop i ↔ a = b)) (fun i => a.length - i) (by kernel_rfl) ⟨by kernel_rfl, by kernel_rfl, by kernel_rfl, trivial⟩ ⟨Chg.refl _ _, (by simp), (by simp)⟩ ?_
 rintro i ay W ⟨C, ar, au⟩ J
 have Z : Mv [] [] w W := Mv.inl C all_nil all_nil
 replace ⟨h1, h2⟩ := (sp Z C).g2 h1 h2
 have E : Chg nil w W := Chg.stepI (Chg.refl nil w) C all_nil
 clear Z
 refine .s <| .s <| .g <| .r 3 <| .bp ((i : Int) < (a.length : Int)) (fun ag => ?_) (fun ag => .d <| .cf <| .x 0 rfl <| .s <| .g <| .r 1 <| .d <| .rt Tryz.func25 Tryz.results25 (.bool true) ⟨(congrArg Value.bool (by grind [drop_end])), E⟩)
 refine .d <| .ct <| .sk <| .s <| .b 1 <| .s <| .gd nil 8 fun az aa => ?_
 replace ⟨h1, h2, E, C⟩ := (se [] aa).g4 h1 h2 E C
 clear aa
 refine .r [0, 1] ?_
 have ah : i < a.length := (by omega)
 refine .ix 2 i 2 h1 ah ?_
 obtain ⟨ac, O⟩ : ∃ y, a[i]? = some y := ⟨_, List.getElem?_eq_getElem (by omega)⟩
 have av := drop_at O; have al := List.mem_of_getElem? O
 obtain ⟨_, rfl, ai⟩ := h1.elem i ac O
 refine .lg 3 0 ai id <| .r [4, 5] ?_
 have aj : i < b.length := (by omega)
 refine .ix 6 i 2 h2 aj ?_
 obtain ⟨ae, V⟩ : ∃ y, b[i]? = some y := ⟨_, List.getElem?_eq_getElem (by omega)⟩
 have aw := drop_at V; have am := List.mem_of_getElem? V
 obtain ⟨_, rfl, ak⟩ := h2.elem i ae V
 refine .lg 7 0 ak id <| .d fun aA ab => ?_
 replace ⟨E, C⟩ := (se [] ab).g2 E C
 clear ab
 refine RG.rowNe (t := 33) (x := ac) (y := ae) (by kernel_rfl) (by kernel_rfl) ?_
 cases ax : (ac == ae)
 · exact .d <| .ct <| .s <| .g <| .r 1 <| .d <| .rt Tryz.func25 Tryz.results25 (.bool false) ⟨(congrArg Value.bool (by grind [drop_end])), E⟩
 exact .d <| .cf <| .sk <| .ib 1 <| .g <| .r 1 <| .it ((i : Int) + 1) <| .r 1 <| .d <| J (i + 1) _ _ ⟨by kernel_rfl, by kernel_rfl, by kernel_rfl, trivial⟩ ⟨C, (by omega), (by grind)⟩ (by first | omega | (simp only []; omega))
theorem c_spec_l3Has (n : List Tag) (t : Tag) {w : World} {F : Nat → Prop} {a1 : Option Addr} {n1 c1 : Nat} (h1 : RepS w F a1 n1 c1 n)  : Calls Tryz.prog 158 [.slice a1 n1 c1, .agg #[.string (bs t.key), .string (bs t.val)]].toArray w (rets fun rv w' => rv = .bool (has n t) ∧ Ext w w') := by
 refine goT Tryz.func158 ?_
 obtain ⟨rfl, ao, h1⟩ := h1.tp
 refine .s <| .g <| .np 112 [vT t.key, vT t.val] fun Z ah aa O J ai => ?_
 replace h1 := (sn [] O aa).g1 h1
 have C := O
 clear O ai aa
 refine .r 1 <| .d <| .s <| .s <| .g <| .r 1 <| .d <| .b 0 <| T.loop (X := Nat) 0 (fun i => [(0, .slice a1 n.length c1), (3, .pointer (some ⟨Z, 0, none⟩)), (5, vI (i : Int))]) (fun i af => Chg (ins []) ah af ∧ (i ≤ n.length) ∧ (has (n.drop i) t = has n t)) (fun i => n.length - i) (by kernel_rfl) ⟨by kernel_rfl, by kernel_rfl, by kernel_rfl, trivial⟩ ⟨Chg.refl _ _, (by simp), (by simp)⟩ ?_
 rintro i aw af ⟨E, aq, ar⟩ V
 have ab : Mv [Z] [Z] ah af := Mv.inl E all_nil (all_cons (.inl (.head _)) all_nil)
 replace ⟨h1, J, C⟩ := (sp ab E).g3 h1 J C
 clear ab
 refine .s <| .s <| .g <| .r 3 <| .bp ((i : Int) < (n.length : Int)) (fun aj => ?_) (fun aj => .d <| .cf <| .x 0 rfl <| .s <| .g <| .r 1 <| .d <| .rt Tryz.func158 Tryz.results158 (.bool false) ⟨(congrArg Value.bool (by grind [has])), C⟩)
 refine .d <| .ct <| .sk <| .s <| .b 1 <| .s <| .gd nil 5 fun ax ac => ?_
 replace ⟨h1, J, C, E⟩ := (se [Z] ac).g4 h1 J C E
 clear ac
 refine .r [0, 1] ?_
 have ak : i < n.length := (by omega)
 refine .ix 2 i 2 h1 ak ?_
 obtain ⟨ag, W⟩ : ∃ y, n[i]? = some y := ⟨_, List.getElem?_eq_getElem (by omega)⟩
 have au := drop_at W; have am := List.mem_of_getElem? W
 obtain ⟨_, rfl, al⟩ := h1.elem i ag W
 refine .lg 3 0 al id <| .ln 4 J id <| .d fun ay ae => ?_
 replace ⟨C, E⟩ := (se [] ae).g2 C E
 clear ae
 refine RG.tagEq (t := 112) (x := ag) (y := t) (by kernel_rfl) (by kernel_rfl) ?_
 cases av : (ag == t)
 · exact .d <| .cf <| .sk <| .ib 1 <| .g <| .r 1 <| .it ((i : Int) + 1) <| .r 1 <| .d <| V (i + 1) _ _ ⟨by kernel_rfl, by kernel_rfl, by kernel_rfl, trivial⟩ ⟨E, (by omega), (by grind [has])⟩ (by first | omega | (simp only []; omega))
 exact .d <| .ct <| .s <| .g <| .r 1 <| .d <| .rt Tryz.func158 Tryz.results158 (.bool true) ⟨(congrArg Value.bool (by grind [has])), C⟩
theorem c_spec_l11Ids (names : List (List Tag)) (t : Tag) {w : World} {F : Nat → Prop} {a1 : Option Addr} {n1 c1 : Nat} (h1 : RepS w F a1 n1 c1 names) (p0 : names.length ≤ 1000000) : Calls Tryz.prog 111 [.slice a1 n1 c1, .agg #[.string (bs t.key), .string (bs t.val)]].toArray w (rets fun rv w' => VL (ge w.heap.size) w' (ids names t : List Int) rv ∧ Ext w w') := by
 refine goT Tryz.func111 ?_
 obtain ⟨rfl, ba, h1⟩ := h1.tp
 refine .s <| .g <| .np 112 [vT t.key, vT t.val] fun V br am af J aA => ?_
 replace h1 := (sn [] af am).g1 h1
 have C := af
 clear af aA am
 refine .r 1 <| .d <| .s <| .g <| .ns 0 3 [] fun Z ag aa ao aB aC => ?_
 have aD := nb_new aa J.lt
 have aE := gb_new aa C.size
 have aF := C.cn aa
 replace ⟨h1, J, C⟩ := (sn [V] ao aa).g3 h1 J C
 clear ao aC aa
 have aG : Own (α := Int) ag Z 3 (nin (ge w.heap.size) [Z, V]) 0 0 [] := Own.nil' aB
 refine .r 1 <| .d <| .s <| .s <| .g <| .r 1 <| .d <| .b 0 <| T.loop (X := (List Int) × Nat × Nat × Nat × Nat) (([] : List Int), Z, 0, 0, 0) (fun (out, r_out, n_out, c_out, i) => [(0, .slice a1 names.length c1), (3, .pointer (some ⟨V, 0, none⟩)), (5, vS r_out n_out c_out), (6, vI (i : Int))]) (fun (out, r_out, n_out, c_out, i) al => Chg (ins [Z]) ag al ∧ Own al r_out 3 (nin (ge w.heap.size) [r_out, V]) n_out c_out out ∧ OrB r_out Z ag.heap.size ∧ (i ≤ names.length) ∧ (out.length ≤ i) ∧ (out ++ idsF t i (names.drop i) = ids names t)) (fun (out, r_out, n_out, c_out, i) => names.length - i) (by kernel_rfl) ⟨by kernel_rfl, by kernel_rfl, by kernel_rfl, by kernel_rfl, trivial⟩ ⟨Chg.refl _ _, aG, orb_refl, (by simp [ids]), (by simp [ids]), (by simp [ids])⟩ ?_
 rintro ⟨out, r_out, n_out, c_out, i⟩ bt al ⟨E, O, W, bc, bd, bg⟩ ab
 have bh := nb_or' W aD J.lt
 have aH := gb_or' W aE C.size
 have bi := cov_or' W aF C.size
 have aI : Cov (ins [Z]) ag Z := ⟨.inl (.head _)⟩
 have bj := cov_or' W aI (Nat.le_refl _)
 have aq : Mv [Z, V] [r_out, V] ag al := Mv.inl E (all_cons (.head _) all_nil) (all_cons (orb_mem W (.head _)) (all_cons (.inl (.tail _ (.head _))) all_nil))
 replace ⟨h1, J, C⟩ := (sp aq E).g3 h1 J C
 clear aq
 have bk := O.len; have bm := O.max
 refine .s <| .s <| .g <| .r 3 <| .bp ((i : Int) < (names.length : Int)) (fun aJ => ?_) (fun aJ => ?_)
 · refine .d <| .ct <| .sk <| .s <| .b 1 <| .s <| .gd nil 5 fun bu ar => ?_
   replace ⟨h1, J, O, C, E⟩ := (se [r_out, V] ar).g5 h1 J O C E
   clear ar
   refine .r [0, 1] ?_
   have aK : i < names.length := (by omega)
   refine .ix 2 i 1 h1 aK ?_
   obtain ⟨az, ah⟩ : ∃ y, names[i]? = some y := ⟨_, List.getElem?_eq_getElem (by omega)⟩
   have bn := drop_at ah; have aU := List.mem_of_getElem? ah
   obtain ⟨_, ⟨bv, bw, bz, rfl, ai⟩, aL⟩ := h1.elem i az ah
   have aM := ai.len
   subst aM
   have bo := ai.max
   refine .lh 3 0 aL id <| .ln 4 J id <| .d fun aV au => ?_
   replace ⟨J, O, ai, C, E⟩ := (se [r_out, V] au).g5 J O ai C E
   clear au
   refine .cl (c_spec_l3Has az t ai.ta (w := aV) (F := all)) ?_
   rintro bA bB ⟨rfl, av⟩
   replace ⟨J, O, C, E⟩ := (se [r_out, V] av).g4 J O C E
   clear av
   cases bq : (has az t)
   · exact .d <| .cf <| .sk <| .ib 1 <| .g <| .r 1 <| .it ((i : Int) + 1) <| .r 1 <| .d <| ab (out, r_out, n_out, c_out, i + 1) _ _ ⟨by kernel_rfl, by kernel_rfl, by kernel_rfl, by kernel_rfl, trivial⟩ ⟨E, O, W, (by grind [idsF]), (by grind [idsF]), (by grind [idsF])⟩ (by first | omega | (simp only []; omega))
   refine .d <| .ct <| .g <| .r 2 <| .it ((i : Int) + 1) <| .ns 1 3 [vI ((i : Int) + 1)] fun aN bC ae aw aO aP => ?_
   have aQ := nb_new ae J.lt
   have ax := nb_new ae O.lt
   have aR := gb_new ae C.size
   replace ⟨O, C, E⟩ := (se [r_out, V] aw).g3 O C E
   clear aw aP ae
   have aj : nin (ge w.heap.size) [r_out, V] aN ∧ aN ≠ r_out := hap_mk aR (all_cons ax (all_cons aQ all_nil)) ax
   refine RG.append1 (T := 68) (ty := 68) (y := (i : Int) + 1) O aO (by kernel_rfl) (by kernel_rfl) rfl aj (by omega) fun aW aX bD ac ak ay => ?_
   have aS := orb_or ak W E.size
   replace ⟨C, E⟩ := (s1 ay).g2 C E
   clear ay
   replace ac := ac.rn r_out
   clear ak
   have aY := ac.len; have aZ := ac.max
   exact .r 1 <| .d <| .ib 1 <| .g <| .r 1 <| .it ((i : Int) + 1) <| .r 1 <| .d <| ab ((out ++ [(i : Int) + 1]), aW, n_out + 1, aX, i + 1) _ _ ⟨by kernel_rfl, by kernel_rfl, by kernel_rfl, by kernel_rfl, trivial⟩ ⟨E, ac, aS, (by grind [idsF]), (by grind [idsF]), (by grind [idsF])⟩ (by first | omega | (simp only []; omega))
 refine .d <| .cf <| .x 0 rfl <| .s <| .g <| .r 2 <| .d ?_
 have aT := O.sl aH
 exact .rt Tryz.func111 Tryz.results111 (vS r_out n_out c_out) ⟨(aT.vl (by grind [idsF]) (fun _ _ h => h.1)), C⟩
theorem c_spec_l2Merge (a : List Row) (b : List Row) {w : World} {F : Nat → Prop} {a1 : Option Addr} {n1 c1 : Nat} (h1 : RepS w F a1 n1 c1 a) {a2 : Option Addr} {n2 c2 : Nat} (h2 : RepS w F a2 n2 c2 b) (p0 : a.length + b.length ≤ 1000000) : Calls Tryz.prog 113 [.slice a1 n1 c1, .slice a2 n2 c2].toArray w (rets fun rv w' => VL (ge w.heap.size) w' (sMerge a b : List Row) rv ∧ Ext w w') := by
 refine goT Tryz.func113 ?_
 obtain ⟨rfl, aG, h1⟩ := h1.tp
 obtain ⟨rfl, aH, h2⟩ := h2.tp
 refine .s <| .g <| .r 1 <| .d <| .s <| .g <| .ns 0 33 [] fun aa aB Z ab ao aq => ?_
 have ar := gb_new Z (Nat.le_refl _)
 have aI : Cov nil w aa := cov_new Z (Nat.le_refl _)
 replace ⟨h1, h2⟩ := (sn [] ab Z).g2 h1 h2
 have C := ab
 clear ab aq Z
 have au : Own (α := Row) aB aa 33 (nin (ge w.heap.size) [aa]) 0 0 [] := Own.nil' ao
 refine .r 1 <| RG.appendF (T := 42) (ty := 42) flat_row au h1 (by kernel_rfl) (by kernel_rfl) (fun b h e => h.2 (e ▸ (.head _))) (by omega) fun al aC am J V ah => ?_
 have av := gb_or V ar C.size
 replace ⟨h2, C⟩ := (sa [aa] ah V).g2 h2 C
 clear ah
 replace J := J.rn aa
 clear V
 have aJ := J.len; have aK := J.max
 refine .r 1 <| .d <| .s <| .s <| .g <| .r 1 <| .d <| .b 0 ?_
 have aD := J.sl av
 replace h2 := (sd am [al] al).g1 h2
 refine T.loop (X := (List Row) × (Option Addr) × Nat × Nat × Nat) ((([] ++ a) : List Row), some ⟨al, 0, none⟩, 0 + a.length, aC, 0) (fun (out, a_out, n_out, c_out, i) => [(1, .slice a2 b.length c2), (5, .slice a_out n_out c_out), (6, vI (i : Int))]) (fun (out, a_out, n_out, c_out, i) W => Chg (ins []) am W ∧ RepS W (nin (ge w.heap.size) []) a_out n_out c_out out ∧ (i ≤ b.length) ∧ (out.length ≤ a.length + i) ∧ ((b.drop i).foldl sPut out = sMerge a b)) (fun (out, a_out, n_out, c_out, i) => b.length - i) (by kernel_rfl) ⟨by kernel_rfl, by kernel_rfl, by kernel_rfl, trivial⟩ ⟨Chg.refl _ _, aD, (by simp [sMerge]), (by simp [sMerge]), (by simp [sMerge])⟩ ?_
 rintro ⟨out, a_out, n_out, c_out, i⟩ aS W ⟨O, E, aL, aM, aN⟩ ac
 have ai : Mv [] [] am W := Mv.inl O all_nil all_nil
 replace ⟨h2, C⟩ := (sp ai O).g2 h2 C
 clear ai
 have aO := E.len; have aP := E.max
 refine .s <| .s <| .g <| .r 3 <| .bp ((i : Int) < (b.length : Int)) (fun aw => ?_) (fun aw => .d <| .cf <| .x 0 rfl <| .s <| .g <| .r 2 <| .d <| .rt Tryz.func113 Tryz.results113 (.slice a_out n_out c_out) ⟨(E.vl (by grind [drop_end]) (fun _ _ h => h.1)), C⟩)
 refine .d <| .ct <| .sk <| .s <| .b 1 <| .g <| .r 3 ?_
 have ax : i < b.length := (by omega)
 refine .ix i 2 h2 ax ?_
 obtain ⟨af, ae⟩ : ∃ y, b[i]? = some y := ⟨_, List.getElem?_eq_getElem (by omega)⟩
 have aQ := drop_at ae; have aA := List.mem_of_getElem? ae
 obtain ⟨_, rfl, ay⟩ := h2.elem i af ae
 refine .lg 0 ay <| .cl (c_spec_l2Put out af E.ta (by omega) (w := W) (F := all)) ?_
 rintro aT aU ⟨⟨aE, aF, rfl, ag⟩, aj⟩
 have ak : ∀ q_ ∈ ([] : List Nat), q_ < W.heap.size := all_nil
 have az : Gb w.heap.size W.heap.size := C.size
 replace ⟨E, C, O⟩ := (se [] aj).g3 E C O
 clear aj
 have ag := ag.fr ak az
 have aR := ag.max
 clear ak
 exact .r 1 <| .d <| .ib 1 <| .g <| .r 1 <| .it ((i : Int) + 1) <| .r 1 <| .d <| ac (sPut out af, aE, (sPut out af).length, aF, i + 1) _ _ ⟨by kernel_rfl, by kernel_rfl, by kernel_rfl, trivial⟩ ⟨O, ag, (by grind [sPut_len]), (by grind [sPut_len]), (by grind [sPut_len])⟩ (by first | omega | (simp only []; omega))
theorem c_spec_l12Of (p : Prt) (id : Int) {w : World} {F : Nat → Prop} {a1 : Option Addr} {n1 c1 : Nat} (h1 : RepS w F a1 n1 c1 p.ids) {a2 : Option Addr} {n2 c2 : Nat} (h2 : RepS w F a2 n2 c2 p.blocks) (p0 : p.ids.length ≤ p.blocks.length) : Calls Tryz.prog 114 [.agg #[.slice a1 n1 c1, .slice a2 n2 c2], .int .i64 id].toArray w (rets fun rv w' => VL (fo F w.heap.size) w' (partOf p id : List Row) rv ∧ Ext w w') := by
 refine goT Tryz.func114 ?_
 obtain ⟨rfl, aI, h1⟩ := h1.tp
 obtain ⟨rfl, aJ, h2⟩ := h2.tp
 refine .s <| .g <| .np 75 [.slice a1 p.ids.length c1, .slice a2 p.blocks.length c2] fun ab aj ac J E ak => ?_
 replace ⟨h1, h2⟩ := (sn [] J ac).g2 h1 h2
 have C := J
 clear J ak ac
 refine .r 1 <| .d <| .s <| .s <| .g <| .r 1 <| .d <| .b 0 <| T.loop (X := Nat) 0 (fun i => [(1, vI id), (2, .pointer (some ⟨ab, 0, none⟩)), (5, vI (i : Int))]) (fun i ag => Chg (ins []) aj ag ∧ (i ≤ p.ids.length) ∧ (partF id (p.ids.drop i) (p.blocks.drop i) = partOf p id)) (fun i => p.ids.length - i) (by kernel_rfl) ⟨by kernel_rfl, by kernel_rfl, by kernel_rfl, trivial⟩ ⟨Chg.refl _ _, (by simp [partOf]), (by simp [partOf])⟩ ?_
 rintro i aQ ag ⟨O, aK, aL⟩ V
 have ae : Mv [ab] [ab] aj ag := Mv.inl O all_nil (all_cons (.inl (.head _)) all_nil)
 replace ⟨h1, h2, E, C⟩ := (sp ae O).g4 h1 h2 E C
 clear ae
 refine .s <| .s <| .g <| .r 2 <| .lb E <| .r 1 <| .bp ((i : Int) < (p.ids.length : Int)) (fun al => ?_) (fun al => ?_)
 · refine .d <| .ct <| .sk <| .s <| .b 1 <| .s <| .g <| .r 1 <| .lb E <| .r 1 ?_
   have am : i < p.ids.length := (by omega)
   refine .ix i 1 h1 am ?_
   obtain ⟨ao, W⟩ : ∃ y, p.ids[i]? = some y := ⟨_, List.getElem?_eq_getElem (by omega)⟩
   have aM := drop_at W; have aC := List.mem_of_getElem? W
   obtain ⟨_, rfl, aq⟩ := h1.elem i ao W
   refine .lh 0 aq <| .r 1 <| .eq ao id (fun ar => ?_) (fun ar => .d <| .cf <| .sk <| .ib 1 <| .g <| .r 1 <| .it ((i : Int) + 1) <| .r 1 <| .d <| V (i + 1) _ _ ⟨by kernel_rfl, by kernel_rfl, by kernel_rfl, trivial⟩ ⟨O, (by have := List.drop_eq_getElem_cons (l := p.blocks) (i := i) (by omega); grind [partF]), (by have := List.drop_eq_getElem_cons (l := p.blocks) (i := i) (by omega); grind [partF])⟩ (by first | omega | (simp only []; omega)))
   refine .d <| .ct <| .s <| .g <| .r 1 <| .lb E <| .r 1 ?_
   have au : i < p.blocks.length := (by omega)
   refine .ix i 1 h2 au ?_
   obtain ⟨av, Z⟩ : ∃ y, p.blocks[i]? = some y := ⟨_, List.getElem?_eq_getElem (by omega)⟩
   have aN := drop_at Z; have aD := List.mem_of_getElem? Z
   obtain ⟨_, ⟨aE, aR, aF, rfl, ah⟩, aw⟩ := h2.elem i av Z
   have ax := ah.len
   subst ax
   have aO := ah.max
   exact .lh 0 aw <| .r 1 <| .d <| .rt Tryz.func114 Tryz.results114 (.slice aE av.length aF) ⟨(ah.vl (by grind [partF, drop_end]) (fun _ _ h => h.1)), C⟩
 refine .d <| .cf <| .x 0 rfl <| .s <| .g <| .ns 0 33 [] fun ai aG aa af ay az => ?_
 have aP := nb_new aa E.lt
 have aA := gb_new aa C.size
 replace C := (se [] af).g1 C
 clear af az aa
 have aB : Own (α := Row) aG ai 33 (nin (fo F w.heap.size) [ai, ab]) 0 0 [] := Own.nil' ay
 refine .r 1 <| .d ?_
 have aH := aB.sl (.inr aA)
 exact .rt Tryz.func114 Tryz.results114 (vS ai 0 0) ⟨(aH.vl (by grind [partF, drop_end]) (fun _ _ h => h.1)), C⟩
theorem c_spec_l12Make (blocks : List (List Row)) {w : World} {F : Nat → Prop} {a1 : Option Addr} {n1 c1 : Nat} (h1 : RepS w F a1 n1 c1 blocks) (p0 : blocks.length ≤ 1000000) (p1 : ∀ b ∈ blocks, b.length ≤ 1000000) : Calls Tryz.prog 164 [.slice a1 n1 c1].toArray w (rets fun rv w' => VS (ge w.heap.size) w' (pMake blocks : Prt) rv ∧ Ext w w') := by
 refine goT Tryz.func164 ?_
 obtain ⟨rfl, dx, h1⟩ := h1.tp
 refine .s <| .g <| .np 75 [.slice none 0 0, .slice none 0 0] fun aa d6 aS aT E cx => ?_
 have dy : Cov nil w aa := cov_new aS (Nat.le_refl _)
 replace h1 := (sn [] aT aS).g1 h1
 have C := aT
 clear aT cx aS
 refine .d <| .s <| .g <| .ns 0 3 [] fun ai db aF br cy cz => ?_
 have cA := nb_new aF E.lt
 have cB := gb_new aF C.size
 have cC := C.cn aF
 replace ⟨h1, E, C⟩ := (sn [aa] br aF).g3 h1 E C
 clear br cz aF
 have ak : Own (α := Int) db ai 3 (nin (ge w.heap.size) [ai, aa]) 0 0 [] := Own.nil' cy
 refine .ns 0 42 [] fun ao dd ax bt cD cE => ?_
 have cF := nb_new ax E.lt
 have cG := nb_new ax ak.lt
 have cH := gb_new ax C.size
 have cI := C.cn ax
 replace ⟨h1, E, ak, C⟩ := (sn [ai, aa] bt ax).g4 h1 E ak C
 clear bt cE ax
 have ay : Own (α := List Row) dd ao 42 (nin (ge w.heap.size) [ao, ai, aa]) 0 0 [] := Own.nil' cD
 refine .r 1 <| .np 75 [.slice none 0 0, .slice none 0 0] fun Z d7 az bu cJ cK => ?_
 have dz := nb_new az E.lt
 have cL := nb_new az ak.lt
 have cM := nb_new az ay.lt
 have dA := C.cn az
 replace ⟨h1, E, ak, ay, C⟩ := (sn [ao, ai, aa] bu az).g5 h1 E ak ay C
 clear bu cK az
 refine .sc [vS ai 0 0, vS ao 0 0] cJ fun aI bv aU cN => ?_
 replace ⟨h1, E, ak, ay, C⟩ := (so [Z, ao, ai, aa] bv).g5 h1 E ak ay C
 clear bv cN
 refine .d <| .s <| .s <| .g <| .r 1 <| .d <| .b 0 <| T.loop (X := Nat × (List Int) × Nat × Nat × Nat × (List (List Row)) × Nat × Nat × Nat) (0, ([] : List Int), ai, 0, 0, ([] : List (List Row)), ao, 0, 0) (fun (i, aD, r_p_0, n_p_0, c_p_0, aE, r_p_1, n_p_1, c_p_1) => [(0, .slice a1 blocks.length c1), (2, .pointer (some ⟨aa, 0, none⟩)), (3, .pointer (some ⟨Z, 0, none⟩)), (4, vI (i : Int))]) (fun (i, aD, r_p_0, n_p_0, c_p_0, aE, r_p_1, n_p_1, c_p_1) aP => Chg (ins [ai, ao, Z]) aI aP ∧ Own aP r_p_0 3 (nin (ge w.heap.size) [Z, r_p_1, r_p_0, aa]) n_p_0 c_p_0 aD ∧ OrB r_p_0 ai aI.heap.size ∧ Own aP r_p_1 42 (nin (ge w.heap.size) [Z, r_p_1, r_p_0, aa]) n_p_1 c_p_1 aE ∧ OrB r_p_1 ao aI.heap.size ∧ Nb r_p_1 r_p_0 ∧ Box aP Z 75 [vS r_p_0 n_p_0 c_p_0, vS r_p_1 n_p_1 c_p_1] ∧ (i ≤ blocks.length) ∧ (aD.length ≤ i) ∧ (aE.length ≤ i) ∧ (aD ++ (makeF i (blocks.drop i)).1 = (makeF 0 blocks).1) ∧ (aE ++ (makeF i (blocks.drop i)).2 = (makeF 0 blocks).2)) (fun (i, aD, r_p_0, n_p_0, c_p_0, aE, r_p_1, n_p_1, c_p_1) => blocks.length - i) (by kernel_rfl) ⟨by kernel_rfl, by kernel_rfl, by kernel_rfl, by kernel_rfl, trivial⟩ ⟨Chg.refl _ _, ak, orb_refl, ay, orb_refl, cG, aU, (by simp), (by simp), (by simp), (by simp), (by simp)⟩ ?_
 rintro ⟨i, aD, r_p_0, n_p_0, c_p_0, aE, r_p_1, n_p_1, c_p_1⟩ d8 aP ⟨W, ag, au, O, av, bw, ah, dB, dC, dD, dE, dF⟩ aG
 have dG := nb_or' au cA E.lt
 have cO := nb_or' au (Nb.symm cL) aU.lt
 have cP := gb_or' au cB C.size
 have dH := cov_or' au cC C.size
 have dI := nb_or' av cF E.lt
 have bz := nb_or' av (Nb.symm cM) aU.lt
 have cQ := gb_or' av cH C.size
 have dJ := cov_or' av cI C.size
 have cR : Cov (ins [ai, ao, Z]) aI ai := ⟨.inl (.head _)⟩
 have cS : Cov (ins [ai, ao, Z]) aI ao := ⟨.inl (.tail _ (.head _))⟩
 have dK : Cov (ins [ai, ao, Z]) aI Z := ⟨.inl (.tail _ (.tail _ (.head _)))⟩
 have dL := cov_or' au cR (Nat.le_refl _)
 have dM := cov_or' av cS (Nat.le_refl _)
 have bA : Mv [Z, ao, ai, aa] [Z, r_p_1, r_p_0, aa] aI aP := Mv.inl W (all_cons (.tail _ (.tail _ (.head _))) (all_cons (.tail _ (.head _)) (all_cons (.head _) all_nil))) (all_cons (.inl (.head _)) (all_cons (orb_mem av (.tail _ (.head _))) (all_cons (orb_mem au (.tail _ (.tail _ (.head _)))) (all_cons (.inl (.tail _ (.tail _ (.tail _ (.head _))))) all_nil))))
 replace ⟨h1, E, C⟩ := (sp bA W).g3 h1 E C
 clear bA
 have dN := ag.len; have dO := ag.max
 have dP := O.len; have dQ := O.max
 refine .s <| .s <| .g <| .r 3 <| .bp ((i : Int) < (blocks.length : Int)) (fun cT => ?_) (fun cT => ?_)
 · refine .d <| .ct <| .sk <| .s <| .b 1 <| .s <| .g <| .r 2 ?_
   have cU : i < blocks.length := (by omega)
   refine .ix i 1 h1 cU ?_
   obtain ⟨aJ, aH⟩ : ∃ y, blocks[i]? = some y := ⟨_, List.getElem?_eq_getElem (by omega)⟩
   have de := drop_at aH; have cV := List.mem_of_getElem? aH
   obtain ⟨_, ⟨dR, dS, dT, rfl, bB⟩, bH⟩ := h1.elem i aJ aH
   have bI := bB.len
   subst bI
   have df := bB.max
   refine .lh 0 bH <| .r 1 <| .bp ((aJ.length : Int) > 0) (fun bJ => ?_) (fun bJ => .d <| .cf <| .sk <| .ib 1 <| .g <| .r 1 <| .it ((i : Int) + 1) <| .r 1 <| .d <| aG (i + 1, aD, r_p_0, n_p_0, c_p_0, aE, r_p_1, n_p_1, c_p_1) _ _ ⟨by kernel_rfl, by kernel_rfl, by kernel_rfl, by kernel_rfl, trivial⟩ ⟨W, ag, au, O, av, bw, ah, (by grind [makeF]), (by grind [makeF]), (by grind [makeF]), (by grind [makeF]), (by grind [makeF])⟩ (by first | omega | (simp only []; omega)))
   refine .d <| .ct <| .s <| .g <| .r 1 <| .lb ah <| .r 1 <| .it ((i : Int) + 1) <| .ns 1 3 [vI ((i : Int) + 1)] fun bC dU aq aV bK bL => ?_
   have bM := nb_new aq E.lt
   have aW := nb_new aq ag.lt
   have bN := nb_new aq O.lt
   have bO := nb_new aq ah.lt
   have bP := gb_new aq C.size
   replace ⟨h1, E, ag, O, ah, C, W⟩ := (se [Z, r_p_1, r_p_0, aa] aV).g7 h1 E ag O ah C W
   clear aV bL aq
   have aQ : nin (ge w.heap.size) [Z, r_p_1, r_p_0, aa] bC ∧ bC ≠ r_p_0 := hap_mk bP (all_cons bO (all_cons bN (all_cons aW (all_cons bM all_nil)))) aW
   refine RG.append1 (T := 68) (ty := 68) (y := (i : Int) + 1) ag bK (by kernel_rfl) (by kernel_rfl) rfl aQ (by grind) fun ab bD dV J al aX => ?_
   have bQ := nb_or al (Nb.symm bw) O.lt
   have bR := nb_or al cO ah.lt
   have bS := orb_or al au W.size
   replace ⟨h1, E, O, ah, C, W⟩ := (sa [Z, r_p_1, r_p_0, aa] aX al).g6 h1 E O ah C W
   clear aX
   replace J := J.rn r_p_0
   clear al
   have dg := J.len; have dh := J.max
   refine .r 1 <| .ss 0 (vS ab (n_p_0 + 1) bD) ah fun aA aY V bT => ?_
   replace ⟨h1, E, J, O, C, W⟩ := (so [Z, r_p_1, ab, aa] aY).g6 h1 E J O C W
   clear aY bT
   refine .d ?_
   replace h1 := h1.into
   have bU : Gb (Z + 1) aA.heap.size := V.lt
   refine .gd (mtb [ab, r_p_1] aA.heap.size) 9 fun cW aK => ?_
   replace ⟨h1, E, J, O, V, C, W⟩ := (se [Z, r_p_1, ab, aa] aK).g7 h1 E J O V C W
   have aL : Chg (mtb [ab, r_p_1] aA.heap.size) aA cW := Chg.stepN (Chg.refl (mtb [ab, r_p_1] aA.heap.size) aA) aK
   clear aK
   refine .r [0] <| .lb 1 V (nS_of (all_cons (Nb.symm bR) (all_cons (Nb.symm bz) all_nil)) bU) <| .r [3, 4] ?_
   have bV : i < blocks.length := (by omega)
   refine .ix 5 i 1 h1 bV ?_
   obtain ⟨_, ⟨cX, dW, cY, rfl, aw⟩, bW⟩ := h1.elem i aJ aH
   have bX := aw.len
   subst bX
   refine .lh 6 0 bW (h1.nS (pos_of aH) (all_cons (.tail _ (.tail _ (.head _))) (all_cons (.tail _ (.head _)) all_nil))) <| .go 2 <| .ns 0 33 [] fun dX aZ => ?_
   replace ⟨E, J, O, V, aw, C, W, aL⟩ := (se [Z, r_p_1, ab, aa] aZ).g8 E J O V aw C W aL
   clear aZ
   intro aB cZ ae ba bY bZ
   have b0 := nb_new ae E.lt
   have b6 := nb_new ae J.lt
   have b7 := nb_new ae O.lt
   have b8 := nb_new ae V.lt
   have b9 := gb_new ae C.size
   have di := C.cn ae
   have dj := W.cn ae
   have cd := aL.cn ae
   replace ⟨E, J, O, V, aw, C, W⟩ := (sn [Z, r_p_1, ab, aa] ba ae).g7 E J O V aw C W
   clear ba bZ ae
   have aM : Own (α := Row) cZ aB 33 (nin (ge w.heap.size) [aB, Z, r_p_1, ab, aa]) 0 0 [] := Own.nil' bY
   refine .go 7 <| GE.append (T := 42) (ty := 42) (args := [vS aB 0 0, .slice cX aJ.length cY]) (by kernel_rfl) fun dY bc => ?_
   replace ⟨E, J, O, V, aw, aM, C, W⟩ := (se [aB, Z, r_p_1, ab, aa] bc).g8 E J O V aw aM C W
   clear bc
   obtain ⟨aC, c7, dZ, bd, ac, af, aN, ce⟩ := Own.appendF (P := Tryz.prog) (T := 42) (ty := 42) flat_row aM (by kernel_rfl) aw (fun b h e => h.2 (e ▸ (.head _))) (by grind)
   refine ⟨_, _, bd, Chg.toS aN (Cov.toS cd), ?_⟩
   clear ce
   have dk := nb_or af b0 E.lt
   have dm := nb_or af b6 J.lt
   have dp := nb_or af b7 O.lt
   have dq := nb_or af b8 V.lt
   have cg := gb_or af b9 C.size
   replace ⟨E, J, O, V, C, W⟩ := (sa [aB, Z, r_p_1, ab, aa] aN af).g6 E J O V C W
   clear aN
   replace ac := ac.rn aB
   clear af
   have dr := ac.len; have dt := ac.max
   refine .go 8 <| .ns 1 42 [vS aC (0 + aJ.length) c7] fun d0 bg => ?_
   replace ⟨E, J, O, V, ac, C, W⟩ := (se [aC, Z, r_p_1, ab, aa] bg).g7 E J O V ac C W
   clear bg
   intro bE d3 ar bh aO ci
   have cj := nb_new ar E.lt
   have ck := nb_new ar J.lt
   have bi := nb_new ar O.lt
   have cm := nb_new ar V.lt
   have co := gb_new ar C.size
   replace ⟨E, J, O, V, ac, C, W⟩ := (se [aC, Z, r_p_1, ab, aa] bh).g7 E J O V ac C W
   clear bh ci ar
   refine .d fun c8 bj => ?_
   replace ⟨E, J, O, V, ac, aO, C, W⟩ := (se [aC, Z, r_p_1, ab, aa] bj).g8 E J O V ac aO C W
   clear bj
   have c9 := ac.sl cg
   replace ⟨J, O⟩ := (sd c8 [aC, Z, r_p_1, ab, aa] aC).g2 J O
   have aR : nin (ge w.heap.size) [Z, r_p_1, ab, aa] bE ∧ bE ≠ r_p_1 := hap_mk co (all_cons cm (all_cons bi (all_cons ck (all_cons cj all_nil)))) bi
   refine RG.append1 (T := 73) (ty := 73) (y := ([] ++ aJ)) O aO (by kernel_rfl) (by kernel_rfl) ⟨_, _, _, rfl, c9.oi⟩ aR (by grind) fun bk bF d4 aj am bm => ?_
   have cp := nb_or am (Nb.symm bQ) J.lt
   have du := nb_or am bz V.lt
   have cq := orb_or am av W.size
   replace ⟨E, J, V, C, W⟩ := (sa [Z, r_p_1, ab, aa] bm am).g5 E J V C W
   clear bm
   replace aj := aj.rn r_p_1
   clear am
   have dv := aj.len; have dw := aj.max
   refine .r 1 <| .ss 1 (vS bk (n_p_1 + 1) bF) V fun d5 bn cr cu => ?_
   replace ⟨E, J, aj, C, W⟩ := (so [Z, bk, ab, aa] bn).g5 E J aj C W
   clear bn cu
   exact .d <| .ib 1 <| .g <| .r 1 <| .it ((i : Int) + 1) <| .r 1 <| .d <| aG (i + 1, (aD ++ [(i : Int) + 1]), ab, n_p_0 + 1, bD, (aE ++ [([] ++ aJ)]), bk, n_p_1 + 1, bF) _ _ ⟨by kernel_rfl, by kernel_rfl, by kernel_rfl, by kernel_rfl, trivial⟩ ⟨W, J, bS, aj, cq, cp, cr, (by grind [makeF]), (by grind [makeF]), (by grind [makeF]), (by grind [makeF]), (by grind [makeF])⟩ (by first | omega | (simp only []; omega))
 refine .d <| .cf <| .x 0 rfl <| .s <| .g <| .ln ah <| .sc [vS r_p_0 n_p_0 c_p_0, vS r_p_1 n_p_1 c_p_1] E fun bG bo cv cw => ?_
 replace ⟨ag, O, C⟩ := (so [Z, r_p_1, r_p_0, aa] bo).g3 ag O C
 clear bo cw
 refine .d ?_
 have bq := ag.sl cP
 replace O := (sd bG [Z, r_p_1, r_p_0, aa] r_p_0).g1 O
 have da := O.sl cQ
 replace bq := (sd bG [Z, r_p_1, aa] r_p_1).g1 bq
 exact .rb Tryz.func164 Tryz.results164 cv ⟨(VS.of (y := (⟨aD, aE⟩ : Prt)) ⟨_, rfl, ⟨_, _, _, _, _, _, rfl, bq.w1, da.w1⟩⟩ (by grind [makeF, pMake])), C⟩
end Go.Proofs.YtfnpaglcnmcnbaaGreat
