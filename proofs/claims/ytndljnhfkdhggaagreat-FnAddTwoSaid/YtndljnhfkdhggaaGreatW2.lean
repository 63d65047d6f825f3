/- walks; squeezed -/
import Derived.Test.YtndljnhfkdhggaaGreatMod
set_option linter.unusedVariables false
set_option linter.unusedSimpArgs false
namespace Go.Proofs.YtndljnhfkdhggaaGreat
set_option maxRecDepth 100000
set_option maxHeartbeats 4000000
theorem c_impl_within (n : Int) (low : Int) (high : Int) {w : World} {F : Nat → Prop}   : Calls Tryz.prog 30 [.int .i64 n, .int .i64 low, .int .i64 high].toArray w (rets fun rv w' => rv = .bool (inR n low high) ∧ Ext w w') := by
 exact goT Tryz.func30 <| .s <| .g <| .r 1 <| .d <| .s <| .g <| .r 2 <| .bp (n ≥ low) (fun C => .r 6 <| .d <| .rt Tryz.func30 Tryz.results30 (.bool (decide (n ≤ high))) ⟨(congrArg Value.bool (by simp [inR]; omega)), (Chg.refl _ _)⟩) fun C => .r 6 <| .d <| .rt Tryz.func30 Tryz.results30 (.bool false) ⟨(congrArg Value.bool (by simp [inR]; omega)), (Chg.refl _ _)⟩
theorem c_spec_l6In (n : Int) (low : Int) (high : Int) {w : World} {F : Nat → Prop}   : Calls Tryz.prog 38 [.int .i64 n, .int .i64 low, .int .i64 high].toArray w (rets fun rv w' => rv = .bool (inR n low high) ∧ Ext w w') := by
 exact goT Tryz.func38 <| .s <| .g <| .r 1 <| .d <| .s <| .g <| .r 2 <| .bp (n ≥ low) (fun C => .r 6 <| .d <| .rt Tryz.func38 Tryz.results38 (.bool (decide (n ≤ high))) ⟨(congrArg Value.bool (by simp [inR]; omega)), (Chg.refl _ _)⟩) fun C => .r 6 <| .d <| .rt Tryz.func38 Tryz.results38 (.bool false) ⟨(congrArg Value.bool (by simp [inR]; omega)), (Chg.refl _ _)⟩
theorem c_impl_rowOk (r : Row) {w : World} {F : Nat → Prop}   : Calls Tryz.prog 22 [.agg #[.int .i64 r.t, .int .i64 r.v]].toArray w (rets fun rv w' => rv = .bool (rowOk r) ∧ Ext w w') := by
 refine goT Tryz.func22 <| .s <| .g <| .np 33 [vI r.t, vI r.v] fun ag ab Z J E aa => ?_
 have C := J
 clear J aa Z
 refine .r 1 <| .d <| .s <| .g <| .r 1 <| .lb E <| .cl (c_impl_within r.t 0 99 (w := ab) (F := all)) ?_
 rintro ah ac ⟨rfl, O⟩
 replace ⟨E, C⟩ := (se [] O).g2 E C
 clear O
 cases V : (inR r.t 0 99)
 · have ae := inR_f V
   exact .r 6 <| .d <| .rt Tryz.func22 Tryz.results22 (.bool false) ⟨(congrArg Value.bool (by simp_all [rowOk])), C⟩
 have af := inR_t V
 refine .r 2 <| .lb E <| .cl (c_impl_within r.v (-99) 99 (w := ac) (F := all)) ?_
 rintro ai aj ⟨rfl, W⟩
 replace C := (se [] W).g1 C
 clear W
 exact .r 2 <| .d <| .rt Tryz.func22 Tryz.results22 (.bool (inR r.v (-99) 99)) ⟨(congrArg Value.bool (by simp_all [rowOk])), C⟩
theorem c_spec_l2Row (r : Row) {w : World} {F : Nat → Prop}   : Calls Tryz.prog 39 [.agg #[.int .i64 r.t, .int .i64 r.v]].toArray w (rets fun rv w' => rv = .bool (rowOk r) ∧ Ext w w') := by
 refine goT Tryz.func39 <| .s <| .g <| .np 33 [vI r.t, vI r.v] fun ag ab Z J E aa => ?_
 have C := J
 clear J aa Z
 refine .r 1 <| .d <| .s <| .g <| .r 1 <| .lb E <| .cl (c_spec_l6In r.t 0 99 (w := ab) (F := all)) ?_
 rintro ah ac ⟨rfl, O⟩
 replace ⟨E, C⟩ := (se [] O).g2 E C
 clear O
 cases V : (inR r.t 0 99)
 · have ae := inR_f V
   exact .r 6 <| .d <| .rt Tryz.func39 Tryz.results39 (.bool false) ⟨(congrArg Value.bool (by simp_all [rowOk])), C⟩
 have af := inR_t V
 refine .r 2 <| .lb E <| .cl (c_spec_l6In r.v (-99) 99 (w := ac) (F := all)) ?_
 rintro ai aj ⟨rfl, W⟩
 replace C := (se [] W).g1 C
 clear W
 exact .r 2 <| .d <| .rt Tryz.func39 Tryz.results39 (.bool (inR r.v (-99) 99)) ⟨(congrArg Value.bool (by simp_all [rowOk])), C⟩
theorem c_spec_l11Names (names : List (List Tag)) {w : World} {F : Nat → Prop} {a1 : Option Addr} {n1 c1 : Nat} (h1 : RepS w F a1 n1 c1 names) (p0 : names.length ≤ 1000000) (p1 : ∀ n ∈ names, n.length ≤ 1000000) : Calls Tryz.prog 81 [.slice a1 n1 c1].toArray w (rets fun rv w' => VO 31 w.heap.size w' (names : List (List Tag)) rv ∧ Ext w w') := by
 refine goT Tryz.func81 ?_
 obtain ⟨rfl, bh, h1⟩ := h1.tp
 refine .s <| .g <| .r 1 <| .d <| .s <| .g <| .ns 0 31 [] fun W ae ac af aB aC => ?_
 have aD := gb_new ac (Nat.le_refl _)
 have aE : Cov nil w W := cov_new ac (Nat.le_refl _)
 replace h1 := (sn [] af ac).g1 h1
 have C := af
 clear af aC ac
 have aF : Own (α := List Tag) ae W 31 (nin (ge w.heap.size) [W]) 0 0 [] := Own.nil' aB
 refine .r 1 <| .d <| .s <| .s <| .g <| .r 1 <| .d <| .b 0 <| T.loop (X := (List (List Tag)) × Nat × Nat × Nat × Nat) (([] : List (List Tag)), W, 0, 0, 0) (fun (out, r_out, n_out, c_out, i) => [(0, .slice a1 names.length c1), (3, vS r_out n_out c_out), (4, vI (i : Int))]) (fun (out, r_out, n_out, c_out, i) al => Chg (ins [W]) ae al ∧ Own al r_out 31 (nin (ge w.heap.size) [r_out]) n_out c_out out ∧ OrB r_out W ae.heap.size ∧ (i ≤ names.length) ∧ (out ++ names.drop i = names)) (fun (out, r_out, n_out, c_out, i) => names.length - i) (by kernel_rfl) ⟨by kernel_rfl, by kernel_rfl, by kernel_rfl, trivial⟩ ⟨Chg.refl _ _, aF, orb_refl, (by omega), (by rfl)⟩ ?_
 rintro ⟨out, r_out, n_out, c_out, i⟩ bA al ⟨J, E, aa, bi, bj⟩ ag
 have aG := gb_or' aa aD C.size
 have bk := cov_or' aa aE C.size
 have aH : Cov (ins [W]) ae W := ⟨.inl (.head _)⟩
 have bm := cov_or' aa aH (Nat.le_refl _)
 have ar : Mv [W] [r_out] ae al := Mv.inl J (all_cons (.head _) all_nil) (all_cons (orb_mem aa (.head _)) all_nil)
 replace ⟨h1, C⟩ := (sp ar J).g2 h1 C
 clear ar
 have bn := E.len; have bo := E.max
 refine .s <| .s <| .g <| .r 3 <| .bp ((i : Int) < (names.length : Int)) (fun aI => ?_) (fun aI => .d <| .cf <| .x 0 rfl <| .s <| .g <| .r 2 <| .d <| .rt Tryz.func81 Tryz.results81 (vS r_out n_out c_out) ⟨(VO.of E (by grind) aG), C⟩)
 refine .d <| .ct <| .sk <| .s <| .b 1 <| .g <| .r 1 <| .ns 0 87 [] fun am aX V au aJ aK => ?_
 have aL := nb_new V E.lt
 have aM := gb_new V C.size
 have bq := C.cn V
 have br := J.cn V
 replace ⟨h1, E, C, J⟩ := (sn [r_out] au V).g4 h1 E C J
 clear au aK V
 have aN : Own (α := Tag) aX am 87 (nin (ge w.heap.size) [am, r_out]) 0 0 [] := Own.nil' aJ
 refine .r 2 ?_
 have aO : i < names.length := (by omega)
 refine .ix i 1 h1 aO ?_
 obtain ⟨ao, ah⟩ : ∃ y, names[i]? = some y := ⟨_, List.getElem?_eq_getElem (by omega)⟩
 have bt := drop_at ah; have aW := List.mem_of_getElem? ah
 obtain ⟨_, ⟨bB, bC, bD, rfl, az⟩, aP⟩ := h1.elem i ao ah
 have aQ := az.len
 subst aQ
 have bu := az.max
 refine .lh 0 aP <| RG.appendF (T := 31) (ty := 31) flat_tag aN az (by kernel_rfl) (by kernel_rfl) (fun b h e => h.2 (e ▸ (.head _))) (by grind) fun aq aY bE O Z av => ?_
 have bv := nb_or Z aL E.lt
 have aR := gb_or Z aM C.size
 replace ⟨E, C, J⟩ := (sa [am, r_out] av Z).g3 E C J
 clear av
 replace O := O.rn am
 clear Z
 have bw := O.len; have bz := O.max
 refine .ns 1 31 [vS aq (0 + ao.length) aY] fun aS aZ ai aw aT aU => ?_
 have ax := nb_new ai E.lt
 have aV := gb_new ai C.size
 replace ⟨E, O, C, J⟩ := (se [aq, r_out] aw).g4 E O C J
 clear aw aU ai
 have ba := O.sl aR
 replace E := (sd aZ [aq, r_out] aq).g1 E
 have aj : nin (ge w.heap.size) [r_out] aS ∧ aS ≠ r_out := hap_mk aV (all_cons ax all_nil) ax
 refine RG.append1 (T := 23) (ty := 23) (y := ([] ++ ao)) E aT (by kernel_rfl) (by kernel_rfl) ⟨_, _, _, rfl, ba.oi⟩ aj (by grind) fun bb bc bF ab ak ay => ?_
 have aA := orb_or ak aa J.size
 replace ⟨C, J⟩ := (s1 ay).g2 C J
 clear ay
 replace ab := ab.rn r_out
 clear ak
 have bd := ab.len; have bg := ab.max
 exact .r 1 <| .d <| .ib 1 <| .g <| .r 1 <| .it ((i : Int) + 1) <| .r 1 <| .d <| ag ((out ++ [([] ++ ao)]), bb, n_out + 1, bc, i + 1) _ _ ⟨by kernel_rfl, by kernel_rfl, by kernel_rfl, trivial⟩ ⟨J, ab, aA, (by omega), (by grind)⟩ (by first | omega | (simp only []; omega))
theorem c_impl_cloneNames (names : List (List Tag)) {w : World} {F : Nat → Prop} {a1 : Option Addr} {n1 c1 : Nat} (h1 : RepS w F a1 n1 c1 names) (p0 : names.length ≤ 1000000) (p1 : ∀ n ∈ names, n.length ≤ 1000000) : Calls Tryz.prog 29 [.slice a1 n1 c1].toArray w (rets fun rv w' => VO 31 w.heap.size w' (names : List (List Tag)) rv ∧ Ext w w') := by
 refine goT Tryz.func29 ?_
 obtain ⟨rfl, bh, h1⟩ := h1.tp
 refine .s <| .g <| .r 1 <| .d <| .s <| .g <| .ns 0 31 [] fun W ae ac af aB aC => ?_
 have aD := gb_new ac (Nat.le_refl _)
 have aE : Cov nil w W := cov_new ac (Nat.le_refl _)
 replace h1 := (sn [] af ac).g1 h1
 have C := af
 clear af aC ac
 have aF : Own (α := List Tag) ae W 31 (nin (ge w.heap.size) [W]) 0 0 [] := Own.nil' aB
 refine .r 1 <| .d <| .s <| .s <| .g <| .r 3 <| .d <| .b 0 <| T.loop (X := (List (List Tag)) × Nat × Nat × Nat × Nat) (([] : List (List Tag)), W, 0, 0, 0) (fun (out, r_out, n_out, c_out, k) => [(3, vS r_out n_out c_out), (7, .slice a1 names.length c1), (8, vI (names.length : Int)), (9, vI (k : Int))]) (fun (out, r_out, n_out, c_out, k) am => Chg (ins [W]) ae am ∧ Own am r_out 31 (nin (ge w.heap.size) [r_out]) n_out c_out out ∧ OrB r_out W ae.heap.size ∧ (k ≤ names.length) ∧ (out ++ names.drop k = names)) (fun (out, r_out, n_out, c_out, k) => names.length - k) (by kernel_rfl) ⟨by kernel_rfl, by kernel_rfl, by kernel_rfl, by kernel_rfl, trivial⟩ ⟨Chg.refl _ _, aF, orb_refl, (by omega), (by rfl)⟩ ?_
 rintro ⟨out, r_out, n_out, c_out, k⟩ bA am ⟨J, E, aa, bi, bj⟩ ag
 have aG := gb_or' aa aD C.size
 have bk := cov_or' aa aE C.size
 have aH : Cov (ins [W]) ae W := ⟨.inl (.head _)⟩
 have bm := cov_or' aa aH (Nat.le_refl _)
 have au : Mv [W] [r_out] ae am := Mv.inl J (all_cons (.head _) all_nil) (all_cons (orb_mem aa (.head _)) all_nil)
 replace ⟨h1, C⟩ := (sp au J).g2 h1 C
 clear au
 have bn := E.len; have bo := E.max
 refine .s <| .g <| .bp ((k : Int) < (names.length : Int)) (fun aI => ?_) (fun aI => .d <| .s <| .cf <| .x 0 rfl <| .s <| .g <| .r 2 <| .d <| .rt Tryz.func29 Tryz.results29 (vS r_out n_out c_out) ⟨(VO.of E (by grind) aG), C⟩)
 refine .d <| .s <| .ct <| .sk <| .s <| .b 1 <| .s <| .g ?_
 have aJ : k < names.length := (by omega)
 refine .ix k 1 h1 aJ ?_
 obtain ⟨ao, ah⟩ : ∃ y, names[k]? = some y := ⟨_, List.getElem?_eq_getElem (by omega)⟩
 have bq := drop_at ah; have aW := List.mem_of_getElem? ah
 obtain ⟨_, ⟨bB, bC, bD, rfl, ai⟩, aK⟩ := h1.elem k ao ah
 have aL := ai.len
 subst aL
 have br := ai.max
 refine .lh 0 aK <| .r 1 <| .d <| .g <| .r 1 <| .ns 0 87 [] fun aq aX V av aM aN => ?_
 have aO := nb_new V E.lt
 have aP := gb_new V C.size
 have bt := C.cn V
 have bu := J.cn V
 replace ⟨E, ai, C, J⟩ := (sn [r_out] av V).g4 E ai C J
 clear av aN V
 have aQ : Own (α := Tag) aX aq 87 (nin (ge w.heap.size) [aq, r_out]) 0 0 [] := Own.nil' aM
 refine .r 1 <| RG.appendF (T := 31) (ty := 31) flat_tag aQ ai (by kernel_rfl) (by kernel_rfl) (fun b h e => h.2 (e ▸ (.head _))) (by grind) fun ar aY bE O Z aw => ?_
 have bv := nb_or Z aO E.lt
 have aR := gb_or Z aP C.size
 replace ⟨E, C, J⟩ := (sa [aq, r_out] aw Z).g3 E C J
 clear aw
 replace O := O.rn aq
 clear Z
 have bw := O.len; have bz := O.max
 refine .ns 1 31 [vS ar (0 + ao.length) aY] fun aS aZ aj ax aT aU => ?_
 have ay := nb_new aj E.lt
 have aV := gb_new aj C.size
 replace ⟨E, O, C, J⟩ := (se [ar, r_out] ax).g4 E O C J
 clear ax aU aj
 have ba := O.sl aR
 replace E := (sd aZ [ar, r_out] ar).g1 E
 have ak : nin (ge w.heap.size) [r_out] aS ∧ aS ≠ r_out := hap_mk aV (all_cons ay all_nil) ay
 refine RG.append1 (T := 23) (ty := 23) (y := ([] ++ ao)) E aT (by kernel_rfl) (by kernel_rfl) ⟨_, _, _, rfl, ba.oi⟩ ak (by grind) fun bb bc bF ab al az => ?_
 have aA := orb_or al aa J.size
 replace ⟨C, J⟩ := (s1 az).g2 C J
 clear az
 replace ab := ab.rn r_out
 clear al
 have bd := ab.len; have bg := ab.max
 exact .r 1 <| .d <| .ib 1 <| .g <| .it ((k : Int) + 1) <| .r 1 <| .d <| ag ((out ++ [([] ++ ao)]), bb, n_out + 1, bc, k + 1) _ _ ⟨by kernel_rfl, by kernel_rfl, by kernel_rfl, by kernel_rfl, trivial⟩ ⟨J, ab, aA, (by omega), (by grind)⟩ (by first | omega | (simp only []; omega))
theorem c_spec_l2Put (b : List Row) (r : Row) {w : World} {F : Nat → Prop} {a1 : Option Addr} {n1 c1 : Nat} (h1 : RepS w F a1 n1 c1 b) (p0 : b.length ≤ 1000000) : Calls Tryz.prog 79 [.slice a1 n1 c1, .agg #[.int .i64 r.t, .int .i64 r.v]].toArray w (rets fun rv w' => VL (ge w.heap.size) w' (sPut b r : List Row) rv ∧ Ext w w') := by
 refine goT Tryz.func79 ?_
 obtain ⟨rfl, c9, h1⟩ := h1.tp
 refine .s <| .g <| .np 33 [vI r.t, vI r.v] fun V dF bb aF C cd => ?_
 replace h1 := (sn [] aF bb).g1 h1
 have E := aF
 clear aF cd bb
 refine .r 1 <| .d <| .s <| .g <| .ns 0 33 [] fun aw aG ax bc ce cg => ?_
 have ci := nb_new ax C.lt
 have cj := gb_new ax E.size
 have ck := E.cn ax
 replace ⟨h1, C, E⟩ := (sn [V] bc ax).g3 h1 C E
 clear bc cg ax
 have cm : Own (α := Row) aG aw 33 (nin (ge w.heap.size) [aw, V]) 0 0 [] := Own.nil' ce
 refine .r 1 <| .d <| .s <| .g <| .r 1 <| .d <| .s <| .s <| .g <| .r 1 <| .d <| .b 0 <| T.loop (X := (List Row) × Nat × Nat × Nat × Bool × Nat) (([] : List Row), aw, 0, 0, false, 0) (fun (out, r_out, n_out, c_out, put, i) => [(0, .slice a1 b.length c1), (3, .pointer (some ⟨V, 0, none⟩)), (5, vS r_out n_out c_out), (6, .bool put), (7, vI (i : Int))]) (fun (out, r_out, n_out, c_out, put, i) ba => Chg (ins [aw]) aG ba ∧ Own ba r_out 33 (nin (ge w.heap.size) [r_out, V]) n_out c_out out ∧ OrB r_out aw aG.heap.size ∧ (i ≤ b.length) ∧ (out.length ≤ i + 1) ∧ (put = false → out.length ≤ i) ∧ (put1 out r put (b.drop i) = sPut b r)) (fun (out, r_out, n_out, c_out, put, i) => b.length - i) (by kernel_rfl) ⟨by kernel_rfl, by kernel_rfl, by kernel_rfl, by kernel_rfl, by kernel_rfl, trivial⟩ ⟨Chg.refl _ _, cm, orb_refl, (by simp [sPut]), (by simp [sPut]), (by simp [sPut]), (by simp [sPut])⟩ ?_
 rintro ⟨out, r_out, n_out, c_out, put, i⟩ dG ba ⟨J, O, ab, da, db, dd, de⟩ W
 have bd := nb_or' ab ci C.lt
 have bg := gb_or' ab cj E.size
 have co := cov_or' ab ck E.size
 have cp : Cov (ins [aw]) aG aw := ⟨.inl (.head _)⟩
 have cq := cov_or' ab cp (Nat.le_refl _)
 have bh : Mv [aw, V] [r_out, V] aG ba := Mv.inl J (all_cons (.head _) all_nil) (all_cons (orb_mem ab (.head _)) (all_cons (.inl (.tail _ (.head _))) all_nil))
 replace ⟨h1, C, E⟩ := (sp bh J).g3 h1 C E
 clear bh
 have df := O.len; have dg := O.max
 refine .s <| .s <| .g <| .r 3 <| .bp ((i : Int) < (b.length : Int)) (fun cr => ?_) (fun cr => ?_)
 · refine .d <| .ct <| .sk <| .s <| .b 1 <| .s <| .s <| .gd nil 10 fun dH bi => ?_
   replace ⟨h1, C, O, E, J⟩ := (se [r_out, V] bi).g5 h1 C O E J
   clear bi
   refine .r [0] ?_
   cases dh : put
   · refine .r [1, 2, 3, 4] ?_
     have cu : i < b.length := (by omega)
     refine .ix 5 i 2 h1 cu <| .r [6] ?_
     obtain ⟨aa, ae⟩ : ∃ y, b[i]? = some y := ⟨_, List.getElem?_eq_getElem (by omega)⟩
     have di := drop_at ae; have cP := List.mem_of_getElem? ae
     obtain ⟨_, rfl, cv⟩ := h1.elem i aa ae
     refine .lh 7 0 cv id <| .r [8] <| .lb 9 C id <| .d fun dI bj => ?_
     replace ⟨h1, C, O, E, J⟩ := (se [r_out, V] bj).g5 h1 C O E J
     clear bj
     refine .bp (aa.t ≥ r.t) (fun cw => ?_) (fun cw => ?_)
     · refine .r 1 <| .d <| .ct <| .s <| .g <| .r 1 <| .ln C <| .ns 1 33 [vI r.t, vI r.v] fun cx dJ az bk cy cz => ?_
       have cA := nb_new az C.lt
       have bm := nb_new az O.lt
       have cB := gb_new az E.size
       replace ⟨h1, C, O, E, J⟩ := (se [r_out, V] bk).g5 h1 C O E J
       clear bk cz az
       have aH : nin (ge w.heap.size) [r_out, V] cx ∧ cx ≠ r_out := hap_mk cB (all_cons bm (all_cons cA all_nil)) bm
       refine RG.append1 (T := 41) (ty := 41) (y := r) O cy (by kernel_rfl) (by kernel_rfl) rfl aH (by omega) fun ay cQ dK Z ac bn => ?_
       have dj := nb_or ac bd C.lt
       have dk := cov_or ac co E.size
       have dm := cov_or ac cq J.size
       have bo := orb_or ac ab J.size
       replace ⟨h1, C, E, J⟩ := (sa [r_out, V] bn ac).g4 h1 C E J
       clear bn
       replace Z := Z.rn r_out
       clear ac
       have dp := Z.len; have dq := Z.max
       refine .r 1 <| .d <| .g <| .r 1 <| .d <| .s <| .gd nil 7 fun dL bq => ?_
       replace ⟨h1, C, Z, E, J⟩ := (se [ay, V] bq).g5 h1 C Z E J
       clear bq
       refine .r [0, 1] ?_
       have cC : i < b.length := (by omega)
       refine .ix 2 i 2 h1 cC <| .r [3] ?_
       obtain ⟨_, rfl, cD⟩ := h1.elem i aa ae
       refine .lh 4 0 cD id <| .r [5] <| .lb 6 C id <| .d fun dM aI => ?_
       replace ⟨h1, C, Z, E, J⟩ := (se [ay, V] aI).g5 h1 C Z E J
       clear aI
       refine .ne aa.t r.t (fun bw => ?_) (fun bw => .d <| .cf <| .sk <| .ib 1 <| .g <| .r 1 <| .it ((i : Int) + 1) <| .r 1 <| .d <| W ((out ++ [r]), ay, n_out + 1, cQ, true, i + 1) _ _ ⟨by kernel_rfl, by kernel_rfl, by kernel_rfl, by kernel_rfl, by kernel_rfl, trivial⟩ ⟨J, Z, bo, (by grind [put1]), (by grind [put1]), (by grind [put1]), (by grind [put1])⟩ (by first | omega | (simp only []; omega)))
       refine .d <| .ct <| .g <| .r 3 ?_
       have bz : i < b.length := (by omega)
       refine .ix i 2 h1 bz ?_
       obtain ⟨_, rfl, bA⟩ := h1.elem i aa ae
       refine .lg 0 bA <| .ns 1 33 [vI aa.t, vI aa.v] fun br dr ak aJ bB bC => ?_
       have bD := nb_new ak C.lt
       have aK := nb_new ak Z.lt
       have bE := gb_new ak E.size
       replace ⟨h1, C, Z, E, J⟩ := (se [ay, V] aJ).g5 h1 C Z E J
       clear aJ bC ak
       have aB : nin (ge w.heap.size) [ay, V] br ∧ br ≠ ay := hap_mk bE (all_cons aK (all_cons bD all_nil)) aK
       refine RG.append1 (T := 41) (ty := 41) (y := aa) Z bB (by kernel_rfl) (by kernel_rfl) rfl aB (by omega) fun cE cF dt af al aL => ?_
       have bF := orb_or al bo J.size
       replace ⟨h1, C, E, J⟩ := (sa [ay, V] aL al).g4 h1 C E J
       clear aL
       replace af := af.rn ay
       clear al
       have cR := af.len; have cS := af.max
       exact .r 1 <| .d <| .ib 1 <| .g <| .r 1 <| .it ((i : Int) + 1) <| .r 1 <| .d <| W (((out ++ [r]) ++ [aa]), cE, n_out + 1 + 1, cF, true, i + 1) _ _ ⟨by kernel_rfl, by kernel_rfl, by kernel_rfl, by kernel_rfl, by kernel_rfl, trivial⟩ ⟨J, af, bF, (by grind [put1]), (by grind [put1]), (by grind [put1]), (by grind [put1])⟩ (by first | omega | (simp only []; omega))
     refine .r 1 <| .d <| .cf <| .sk <| .s <| .gd nil 7 fun du aM => ?_
     replace ⟨h1, C, O, E, J⟩ := (se [r_out, V] aM).g5 h1 C O E J
     clear aM
     refine .r [0, 1] ?_
     have bG : i < b.length := (by omega)
     refine .ix 2 i 2 h1 bG <| .r [3] ?_
     obtain ⟨_, rfl, bH⟩ := h1.elem i aa ae
     refine .lh 4 0 bH id <| .r [5] <| .lb 6 C id <| .d fun dv aN => ?_
     replace ⟨h1, C, O, E, J⟩ := (se [r_out, V] aN).g5 h1 C O E J
     clear aN
     refine .ne aa.t r.t (fun bI => ?_) (fun bI => .d <| .cf <| .sk <| .ib 1 <| .g <| .r 1 <| .it ((i : Int) + 1) <| .r 1 <| .d <| W (out, r_out, n_out, c_out, false, i + 1) _ _ ⟨by kernel_rfl, by kernel_rfl, by kernel_rfl, by kernel_rfl, by kernel_rfl, trivial⟩ ⟨J, O, ab, (by grind [put1]), (by grind [put1]), (by grind [put1]), (by grind [put1])⟩ (by first | omega | (simp only []; omega)))
     refine .d <| .ct <| .g <| .r 3 ?_
     have bJ : i < b.length := (by omega)
     refine .ix i 2 h1 bJ ?_
     obtain ⟨_, rfl, bK⟩ := h1.elem i aa ae
     refine .lg 0 bK <| .ns 1 33 [vI aa.t, vI aa.v] fun bt dw am aO bL bM => ?_
     have bN := nb_new am C.lt
     have aP := nb_new am O.lt
     have bO := gb_new am E.size
     replace ⟨h1, C, O, E, J⟩ := (se [r_out, V] aO).g5 h1 C O E J
     clear aO bM am
     have aC : nin (ge w.heap.size) [r_out, V] bt ∧ bt ≠ r_out := hap_mk bO (all_cons aP (all_cons bN all_nil)) aP
     refine RG.append1 (T := 41) (ty := 41) (y := aa) O bL (by kernel_rfl) (by kernel_rfl) rfl aC (by omega) fun cG cH dx ag ao aQ => ?_
     have bP := orb_or ao ab J.size
     replace ⟨h1, C, E, J⟩ := (sa [r_out, V] aQ ao).g4 h1 C E J
     clear aQ
     replace ag := ag.rn r_out
     clear ao
     have cT := ag.len; have cU := ag.max
     exact .r 1 <| .d <| .ib 1 <| .g <| .r 1 <| .it ((i : Int) + 1) <| .r 1 <| .d <| W ((out ++ [aa]), cG, n_out + 1, cH, false, i + 1) _ _ ⟨by kernel_rfl, by kernel_rfl, by kernel_rfl, by kernel_rfl, by kernel_rfl, trivial⟩ ⟨J, ag, bP, (by grind [put1]), (by grind [put1]), (by grind [put1]), (by grind [put1])⟩ (by first | omega | (simp only []; omega))
   refine .r [1, 2, 3, 4, 5, 6, 7, 8, 9] <| .d fun dy aR => ?_
   replace ⟨h1, C, O, E, J⟩ := (se [r_out, V] aR).g5 h1 C O E J
   clear aR
   refine .r 2 <| .d <| .cf <| .sk <| .s <| .gd nil 7 fun dz aS => ?_
   replace ⟨h1, C, O, E, J⟩ := (se [r_out, V] aS).g5 h1 C O E J
   clear aS
   refine .r [0, 1] ?_
   have bQ : i < b.length := (by omega)
   refine .ix 2 i 2 h1 bQ <| .r [3] ?_
   obtain ⟨ah, aq⟩ : ∃ y, b[i]? = some y := ⟨_, List.getElem?_eq_getElem (by omega)⟩
   have cV := drop_at aq; have cI := List.mem_of_getElem? aq
   obtain ⟨_, rfl, bR⟩ := h1.elem i ah aq
   refine .lh 4 0 bR id <| .r [5] <| .lb 6 C id <| .d fun dA aT => ?_
   replace ⟨h1, C, O, E, J⟩ := (se [r_out, V] aT).g5 h1 C O E J
   clear aT
   refine .ne ah.t r.t (fun bS => ?_) (fun bS => .d <| .cf <| .sk <| .ib 1 <| .g <| .r 1 <| .it ((i : Int) + 1) <| .r 1 <| .d <| W (out, r_out, n_out, c_out, true, i + 1) _ _ ⟨by kernel_rfl, by kernel_rfl, by kernel_rfl, by kernel_rfl, by kernel_rfl, trivial⟩ ⟨J, O, ab, (by grind [put1]), (by grind [put1]), (by grind [put1]), (by grind [put1])⟩ (by first | omega | (simp only []; omega)))
   refine .d <| .ct <| .g <| .r 3 ?_
   have bT : i < b.length := (by omega)
   refine .ix i 2 h1 bT ?_
   obtain ⟨_, rfl, bU⟩ := h1.elem i ah aq
   refine .lg 0 bU <| .ns 1 33 [vI ah.t, vI ah.v] fun bu dB ar aU bV bW => ?_
   have bX := nb_new ar C.lt
   have aV := nb_new ar O.lt
   have bY := gb_new ar E.size
   replace ⟨C, O, E, J⟩ := (se [r_out, V] aU).g4 C O E J
   clear aU bW ar
   have aD : nin (ge w.heap.size) [r_out, V] bu ∧ bu ≠ r_out := hap_mk bY (all_cons aV (all_cons bX all_nil)) aV
   refine RG.append1 (T := 41) (ty := 41) (y := ah) O bV (by kernel_rfl) (by kernel_rfl) rfl aD (by omega) fun cJ cK dC ai aA aW => ?_
   have bZ := orb_or aA ab J.size
   replace ⟨C, E, J⟩ := (s1 aW).g3 C E J
   clear aW
   replace ai := ai.rn r_out
   clear aA
   have cW := ai.len; have cX := ai.max
   exact .r 1 <| .d <| .ib 1 <| .g <| .r 1 <| .it ((i : Int) + 1) <| .r 1 <| .d <| W ((out ++ [ah]), cJ, n_out + 1, cK, true, i + 1) _ _ ⟨by kernel_rfl, by kernel_rfl, by kernel_rfl, by kernel_rfl, by kernel_rfl, trivial⟩ ⟨J, ai, bZ, (by grind [put1]), (by grind [put1]), (by grind [put1]), (by grind [put1])⟩ (by first | omega | (simp only []; omega))
 refine .d <| .cf <| .x 0 rfl <| .s <| .s <| .g <| .r 1 ?_
 cases cY : put
 · refine .r 1 <| .d <| .ct <| .g <| .r 1 <| .ln C <| .ns 1 33 [vI r.t, vI r.v] fun bv dD au aX b0 b6 => ?_
   have b7 := nb_new au C.lt
   have aY := nb_new au O.lt
   have b8 := gb_new au E.size
   replace ⟨C, O, E⟩ := (se [r_out, V] aX).g3 C O E
   clear aX b6 au
   have aE : nin (ge w.heap.size) [r_out, V] bv ∧ bv ≠ r_out := hap_mk b8 (all_cons aY (all_cons b7 all_nil)) aY
   refine RG.append1 (T := 41) (ty := 41) (y := r) O b0 (by kernel_rfl) (by kernel_rfl) rfl aE (by omega) fun cL cM dE aj av aZ => ?_
   have cZ := nb_or av bd C.lt
   have b9 := gb_or av bg E.size
   replace E := (s1 aZ).g1 E
   clear aZ
   replace aj := aj.rn r_out
   clear av
   have c7 := aj.len; have c8 := aj.max
   refine .r 1 <| .d <| .s <| .g <| .r 2 <| .d ?_
   have cN := aj.sl b9
   exact .rt Tryz.func79 Tryz.results79 (vS cL (n_out + 1) cM) ⟨(cN.vl (by grind [put1]) (fun _ _ h => h.1)), E⟩
 refine .r 1 <| .d <| .cf <| .sk <| .s <| .g <| .r 2 <| .d ?_
 have cO := O.sl bg
 exact .rt Tryz.func79 Tryz.results79 (vS r_out n_out c_out) ⟨(cO.vl (by grind [put1]) (fun _ _ h => h.1)), E⟩
theorem c_spec_l3Tag (t : Tag) {w : World} {F : Nat → Prop}   : Calls Tryz.prog 41 [.agg #[.string (bs t.key), .string (bs t.val)]].toArray w (rets fun rv w' => rv = .bool (tagOk t) ∧ Ext w w') := by
 refine goT Tryz.func41 <| .s <| .g <| .np 87 [vT t.key, vT t.val] fun au ai ae V E af => ?_
 have C := V
 clear V af ae
 refine .r 1 <| .d <| .s <| .g <| .r 1 <| .lb E <| RG.eqv (v := vI (t.key.length : Int)) (by kernel_rfl) (s_len t.key) <| .eq (t.key.length : Int) 1 (fun ag => ?_) (fun ag => .r 21 <| .d <| .rt Tryz.func41 Tryz.results41 (.bool false) ⟨(congrArg Value.bool (by grind [tagOk_k, tagOk_v, tagOk_def, one1_at])), C⟩)
 refine .r 2 <| .lb E <| RG.eqv (v := vI (t.val.length : Int)) (by kernel_rfl) (s_len t.val) <| .eq (t.val.length : Int) 1 (fun ah => ?_) (fun ah => .r 16 <| .d <| .rt Tryz.func41 Tryz.results41 (.bool false) ⟨(congrArg Value.bool (by grind [tagOk_k, tagOk_v, tagOk_def, one1_at])), C⟩)
 refine .r 3 <| .lb E ?_
 obtain ⟨J, W⟩ : ∃ y, t.key[0]? = some y := ⟨_, List.getElem?_eq_getElem (by omega)⟩
 have ak := UInt8.toNat_lt J; have al := drop_at W
 refine RG.sidx (t := 9) (s := t.key) (k := .i64) (i := 0) 0 (by kernel_rfl) (by kernel_rfl) (by omega) W <| .it ((J.toNat : Int)) <| .cl (c_spec_l6In (J.toNat : Int) 97 100 (w := ai) (F := all)) ?_
 rintro av aj ⟨rfl, Z⟩
 replace ⟨E, C⟩ := (se [] Z).g2 E C
 clear Z
 cases aa : (inR (J.toNat : Int) 97 100)
 · have am := inR_f aa
   exact .r 9 <| .d <| .rt Tryz.func41 Tryz.results41 (.bool false) ⟨(congrArg Value.bool (by grind [tagOk_k, tagOk_v, tagOk_def, one1_at])), C⟩
 have ao := inR_t aa
 refine .r 3 <| .lb E ?_
 obtain ⟨O, ab⟩ : ∃ y, t.val[0]? = some y := ⟨_, List.getElem?_eq_getElem (by omega)⟩
 have aq := UInt8.toNat_lt O; have ar := drop_at ab
 refine RG.sidx (t := 9) (s := t.val) (k := .i64) (i := 0) 0 (by kernel_rfl) (by kernel_rfl) (by omega) ab <| .it ((O.toNat : Int)) <| .cl (c_spec_l6In (O.toNat : Int) 112 122 (w := aj) (F := all)) ?_
 rintro aw ax ⟨rfl, ac⟩
 replace C := (se [] ac).g1 C
 clear ac
 exact .r 2 <| .d <| .rt Tryz.func41 Tryz.results41 (.bool (inR (O.toNat : Int) 112 122)) ⟨(congrArg Value.bool (by grind [tagOk_k, tagOk_v, tagOk_def, one1_at])), C⟩
theorem c_impl_tagOk (t : Tag) {w : World} {F : Nat → Prop}   : Calls Tryz.prog 46 [.agg #[.string (bs t.key), .string (bs t.val)]].toArray w (rets fun rv w' => rv = .bool (tagOk t) ∧ Ext w w') := by
 refine goT Tryz.func46 <| .s <| .g <| .np 87 [vT t.key, vT t.val] fun ae af O J C V => ?_
 have E := J
 clear J V O
 refine .r 1 <| .d <| .s <| .g <| .r 1 <| .lb C <| RG.eqv (v := vI (t.key.length : Int)) (by kernel_rfl) (s_len t.key) <| .eq (t.key.length : Int) 1 (fun W => ?_) (fun W => .r 27 <| .d <| .rt Tryz.func46 Tryz.results46 (.bool false) ⟨(congrArg Value.bool (by grind [tagOk_k, tagOk_v, tagOk_cmp, tagOk_lt, tagOk_le])), E⟩)
 refine .r 2 <| .lb C <| RG.eqv (v := .bool (!(strLt t.key [97]))) (by kernel_rfl) (s_ge t.key [97]) ?_
 cases aa : (strLt t.key [97])
 · refine .r 3 <| .lb C <| RG.eqv (v := .bool ((strLe t.key [100]))) (by kernel_rfl) (s_le t.key [100]) ?_
   cases ab : (strLe t.key [100])
   · exact .r 18 <| .d <| .rt Tryz.func46 Tryz.results46 (.bool false) ⟨(congrArg Value.bool (by grind [tagOk_k, tagOk_v, tagOk_cmp, tagOk_lt, tagOk_le])), E⟩
   refine .r 3 <| .lb C <| RG.eqv (v := vI (t.val.length : Int)) (by kernel_rfl) (s_len t.val) <| .eq (t.val.length : Int) 1 (fun Z => ?_) (fun Z => .r 12 <| .d <| .rt Tryz.func46 Tryz.results46 (.bool false) ⟨(congrArg Value.bool (by grind [tagOk_k, tagOk_v, tagOk_cmp, tagOk_lt, tagOk_le])), E⟩)
   refine .r 3 <| .lb C <| RG.eqv (v := .bool (!(strLt t.val [112]))) (by kernel_rfl) (s_ge t.val [112]) ?_
   cases ac : (strLt t.val [112])
   · exact .r 3 <| .lb C <| RG.eqv (v := .bool ((strLe t.val [122]))) (by kernel_rfl) (s_le t.val [122]) <| .r 2 <| .d <| .rt Tryz.func46 Tryz.results46 (.bool (strLe t.val [122])) ⟨(congrArg Value.bool (by grind [tagOk_k, tagOk_v, tagOk_cmp, tagOk_lt, tagOk_le])), E⟩
   exact .r 7 <| .d <| .rt Tryz.func46 Tryz.results46 (.bool false) ⟨(congrArg Value.bool (by grind [tagOk_k, tagOk_v, tagOk_cmp, tagOk_lt, tagOk_le])), E⟩
 exact .r 23 <| .d <| .rt Tryz.func46 Tryz.results46 (.bool false) ⟨(congrArg Value.bool (by grind [tagOk_k, tagOk_v, tagOk_cmp, tagOk_lt, tagOk_le])), E⟩
theorem c_slices_Equal_int_int (a : List Int) (b : List Int) {w : World} {F : Nat → Prop} {a1 : Option Addr} {n1 c1 : Nat} (h1 : RepS w F a1 n1 c1 a) {a2 : Option Addr} {n2 c2 : Nat} (h2 : RepS w F a2 n2 c2 b)  : Calls Tryz.prog 56 [.slice a1 n1 c1, .slice a2 n2 c2].toArray w (rets fun rv w' => rv = .bool ((a == b)) ∧ Ext w w') := by
 refine goT Tryz.func56 ?_
 obtain ⟨rfl, aq, h1⟩ := h1.tp
 obtain ⟨rfl, ar, h2⟩ := h2.tp
 refine .s <| .g <| .r 1 <| .d <| .s <| .s <| .g <| .r 4 <| .ne (a.length : Int) (b.length : Int) (fun ac => .d <| .ct <| .s <| .g <| .r 1 <| .d <| .rt Tryz.func56 Tryz.results56 (.bool false) ⟨(congrArg Value.bool (by grind [drop_end])), (Chg.refl _ _)⟩) fun ac => .d <| .cf <| .sk <| .s <| .s <| .g <| .r 3 <| .d <| .b 0 <| T.loop (X := Nat) 0 (fun k => [(0, .slice a1 a.length c1), (1, .slice a2 b.length c2), (12, vI (a.length : Int)), (13, vI (k : Int))]) (fun k W => Chg (ins []) w W ∧ (k ≤ a.length) ∧ (a.drop k = b.drop k ↔ a = b)) (fun k => a.length - k) (by kernel_rfl) ⟨by kernel_rfl, by kernel_rfl, by kernel_rfl, by kernel_rfl, trivial⟩ ⟨Chg.refl _ _, (by simp), (by simp)⟩ ?_
 rintro k ay W ⟨C, au, av⟩ J
 have Z : Mv [] [] w W := Mv.inl C all_nil all_nil
 replace ⟨h1, h2⟩ := (sp Z C).g2 h1 h2
 have E : Chg nil w W := Chg.stepI (Chg.refl nil w) C all_nil
 clear Z
 refine .s <| .g <| .bp ((k : Int) < (a.length : Int)) (fun ae => ?_) (fun ae => .d <| .s <| .cf <| .x 0 rfl <| .s <| .g <| .r 1 <| .d <| .rt Tryz.func56 Tryz.results56 (.bool true) ⟨(congrArg Value.bool (by grind [drop_end])), E⟩)
 refine .d <| .s <| .ct <| .sk <| .s <| .b 1 <| .s <| .g <| .r 2 <| .d <| .s <| .gd nil 8 fun az aa => ?_
 replace ⟨h1, h2, E, C⟩ := (se [] aa).g4 h1 h2 E C
 clear aa
 refine .r [0, 1] ?_
 have af : k < a.length := (by omega)
 refine .ix 2 k 1 h1 af ?_
 obtain ⟨ag, O⟩ : ∃ y, a[k]? = some y := ⟨_, List.getElem?_eq_getElem (by omega)⟩
 have aw := drop_at O; have am := List.mem_of_getElem? O
 obtain ⟨_, rfl, ah⟩ := h1.elem k ag O
 refine .lh 3 0 ah id <| .r [4, 5] ?_
 have ai : k < b.length := (by omega)
 refine .ix 6 k 1 h2 ai ?_
 obtain ⟨aj, V⟩ : ∃ y, b[k]? = some y := ⟨_, List.getElem?_eq_getElem (by omega)⟩
 have ax := drop_at V; have ao := List.mem_of_getElem? V
 obtain ⟨_, rfl, ak⟩ := h2.elem k aj V
 refine .lh 7 0 ak id <| .d fun aA ab => ?_
 replace ⟨E, C⟩ := (se [] ab).g2 E C
 clear ab
 exact .ne ag aj (fun al => .d <| .ct <| .s <| .g <| .r 1 <| .d <| .rt Tryz.func56 Tryz.results56 (.bool false) ⟨(congrArg Value.bool (by grind [drop_end])), E⟩) fun al => .d <| .cf <| .sk <| .ib 1 <| .g <| .it ((k : Int) + 1) <| .r 1 <| .d <| J (k + 1) _ _ ⟨by kernel_rfl, by kernel_rfl, by kernel_rfl, by kernel_rfl, trivial⟩ ⟨C, (by omega), (by grind)⟩ (by first | omega | (simp only []; omega))
theorem c_spec_l11Same (a : List Int) (b : List Int) {w : World} {F : Nat → Prop} {a1 : Option Addr} {n1 c1 : Nat} (h1 : RepS w F a1 n1 c1 a) {a2 : Option Addr} {n2 c2 : Nat} (h2 : RepS w F a2 n2 c2 b)  : Calls Tryz.prog 73 [.slice a1 n1 c1, .slice a2 n2 c2].toArray w (rets fun rv w' => rv = .bool ((a == b)) ∧ Ext w w') := by
 refine goT Tryz.func73 ?_
 obtain ⟨rfl, aq, h1⟩ := h1.tp
 obtain ⟨rfl, ar, h2⟩ := h2.tp
 refine .s <| .g <| .r 1 <| .d <| .s <| .s <| .g <| .r 4 <| .ne (a.length : Int) (b.length : Int) (fun ac => .d <| .ct <| .s <| .g <| .r 1 <| .d <| .rt Tryz.func73 Tryz.results73 (.bool false) ⟨(congrArg Value.bool (by grind [drop_end])), (Chg.refl _ _)⟩) fun ac => .d <| .cf <| .sk <| .s <| .s <| .g <| .r 1 <| .d <| .b 0 <| T.loop (X := Nat) 0 (fun i => [(0, .slice a1 a.length c1), (1, .slice a2 b.length c2), (5, vI (i : Int))]) (fun i W => Chg (ins []) w W ∧ (i ≤ a.length) ∧ (a.drop i = b.drop i ↔ a = b)) (fun i => a.length - i) (by kernel_rfl) ⟨by kernel_rfl, by kernel_rfl, by kernel_rfl, trivial⟩ ⟨Chg.refl _ _, (by simp), (by simp)⟩ ?_
 rintro i ay W ⟨C, au, av⟩ J
 have Z : Mv [] [] w W := Mv.inl C all_nil all_nil
 replace ⟨h1, h2⟩ := (sp Z C).g2 h1 h2
 have E : Chg nil w W := Chg.stepI (Chg.refl nil w) C all_nil
 clear Z
 refine .s <| .s <| .g <| .r 3 <| .bp ((i : Int) < (a.length : Int)) (fun ae => ?_) (fun ae => .d <| .cf <| .x 0 rfl <| .s <| .g <| .r 1 <| .d <| .rt Tryz.func73 Tryz.results73 (.bool true) ⟨(congrArg Value.bool (by grind [drop_end])), E⟩)
 refine .d <| .ct <| .sk <| .s <| .b 1 <| .s <| .gd nil 8 fun az aa => ?_
 replace ⟨h1, h2, E, C⟩ := (se [] aa).g4 h1 h2 E C
 clear aa
 refine .r [0, 1] ?_
 have af : i < a.length := (by omega)
 refine .ix 2 i 1 h1 af ?_
 obtain ⟨ag, O⟩ : ∃ y, a[i]? = some y := ⟨_, List.getElem?_eq_getElem (by omega)⟩
 have aw := drop_at O; have am := List.mem_of_getElem? O
 obtain ⟨_, rfl, ah⟩ := h1.elem i ag O
 refine .lh 3 0 ah id <| .r [4, 5] ?_
 have ai : i < b.length := (by omega)
 refine .ix 6 i 1 h2 ai ?_
 obtain ⟨aj, V⟩ : ∃ y, b[i]? = some y := ⟨_, List.getElem?_eq_getElem (by omega)⟩
 have ax := drop_at V; have ao := List.mem_of_getElem? V
 obtain ⟨_, rfl, ak⟩ := h2.elem i aj V
 refine .lh 7 0 ak id <| .d fun aA ab => ?_
 replace ⟨E, C⟩ := (se [] ab).g2 E C
 clear ab
 exact .ne ag aj (fun al => .d <| .ct <| .s <| .g <| .r 1 <| .d <| .rt Tryz.func73 Tryz.results73 (.bool false) ⟨(congrArg Value.bool (by grind [drop_end])), E⟩) fun al => .d <| .cf <| .sk <| .ib 1 <| .g <| .r 1 <| .it ((i : Int) + 1) <| .r 1 <| .d <| J (i + 1) _ _ ⟨by kernel_rfl, by kernel_rfl, by kernel_rfl, trivial⟩ ⟨C, (by omega), (by grind)⟩ (by first | omega | (simp only []; omega))
theorem c_laws_lyInts (a : List Int) (b : List Int) {w : World} {F : Nat → Prop} {a1 : Option Addr} {n1 c1 : Nat} (h1 : RepS w F a1 n1 c1 a) {a2 : Option Addr} {n2 c2 : Nat} (h2 : RepS w F a2 n2 c2 b)  : Calls Tryz.prog 51 [.slice a1 n1 c1, .slice a2 n2 c2].toArray w (rets fun rv w' => rv = .bool ((a == b)) ∧ Ext w w') := by
 refine goT Tryz.func51 ?_
 obtain ⟨rfl, aq, h1⟩ := h1.tp
 obtain ⟨rfl, ar, h2⟩ := h2.tp
 refine .s <| .g <| .r 1 <| .d <| .s <| .s <| .g <| .r 4 <| .ne (a.length : Int) (b.length : Int) (fun ac => .d <| .ct <| .s <| .g <| .r 1 <| .d <| .rt Tryz.func51 Tryz.results51 (.bool false) ⟨(congrArg Value.bool (by grind [drop_end])), (Chg.refl _ _)⟩) fun ac => .d <| .cf <| .sk <| .s <| .s <| .g <| .r 1 <| .d <| .b 0 <| T.loop (X := Nat) 0 (fun i => [(0, .slice a1 a.length c1), (1, .slice a2 b.length c2), (5, vI (i : Int))]) (fun i W => Chg (ins []) w W ∧ (i ≤ a.length) ∧ (a.drop i = b.drop i ↔ a = b)) (fun i => a.length - i) (by kernel_rfl) ⟨by kernel_rfl, by kernel_rfl, by kernel_rfl, trivial⟩ ⟨Chg.refl _ _, (by simp), (by simp)⟩ ?_
 rintro i ay W ⟨C, au, av⟩ J
 have Z : Mv [] [] w W := Mv.inl C all_nil all_nil
 replace ⟨h1, h2⟩ := (sp Z C).g2 h1 h2
 have E : Chg nil w W := Chg.stepI (Chg.refl nil w) C all_nil
 clear Z
 refine .s <| .s <| .g <| .r 3 <| .bp ((i : Int) < (a.length : Int)) (fun ae => ?_) (fun ae => .d <| .cf <| .x 0 rfl <| .s <| .g <| .r 1 <| .d <| .rt Tryz.func51 Tryz.results51 (.bool true) ⟨(congrArg Value.bool (by grind [drop_end])), E⟩)
 refine .d <| .ct <| .sk <| .s <| .b 1 <| .s <| .gd nil 8 fun az aa => ?_
 replace ⟨h1, h2, E, C⟩ := (se [] aa).g4 h1 h2 E C
 clear aa
 refine .r [0, 1] ?_
 have af : i < a.length := (by omega)
 refine .ix 2 i 1 h1 af ?_
 obtain ⟨ag, O⟩ : ∃ y, a[i]? = some y := ⟨_, List.getElem?_eq_getElem (by omega)⟩
 have aw := drop_at O; have am := List.mem_of_getElem? O
 obtain ⟨_, rfl, ah⟩ := h1.elem i ag O
 refine .lh 3 0 ah id <| .r [4, 5] ?_
 have ai : i < b.length := (by omega)
 refine .ix 6 i 1 h2 ai ?_
 obtain ⟨aj, V⟩ : ∃ y, b[i]? = some y := ⟨_, List.getElem?_eq_getElem (by omega)⟩
 have ax := drop_at V; have ao := List.mem_of_getElem? V
 obtain ⟨_, rfl, ak⟩ := h2.elem i aj V
 refine .lh 7 0 ak id <| .d fun aA ab => ?_
 replace ⟨E, C⟩ := (se [] ab).g2 E C
 clear ab
 exact .ne ag aj (fun al => .d <| .ct <| .s <| .g <| .r 1 <| .d <| .rt Tryz.func51 Tryz.results51 (.bool false) ⟨(congrArg Value.bool (by grind [drop_end])), E⟩) fun al => .d <| .cf <| .sk <| .ib 1 <| .g <| .r 1 <| .it ((i : Int) + 1) <| .r 1 <| .d <| J (i + 1) _ _ ⟨by kernel_rfl, by kernel_rfl, by kernel_rfl, trivial⟩ ⟨C, (by omega), (by grind)⟩ (by first | omega | (simp only []; omega))
theorem c_slices_Equal_impl_Tag_impl_Tag (a : List Tag) (b : List Tag) {w : World} {F : Nat → Prop} {a1 : Option Addr} {n1 c1 : Nat} (h1 : RepS w F a1 n1 c1 a) {a2 : Option Addr} {n2 c2 : Nat} (h2 : RepS w F a2 n2 c2 b)  : Calls Tryz.prog 59 [.slice a1 n1 c1, .slice a2 n2 c2].toArray w (rets fun rv w' => rv = .bool ((a == b)) ∧ Ext w w') := by
 refine goT Tryz.func59 ?_
 obtain ⟨rfl, ao, h1⟩ := h1.tp
 obtain ⟨rfl, aq, h2⟩ := h2.tp
 refine .s <| .g <| .r 1 <| .d <| .s <| .s <| .g <| .r 4 <| .ne (a.length : Int) (b.length : Int) (fun af => .d <| .ct <| .s <| .g <| .r 1 <| .d <| .rt Tryz.func59 Tryz.results59 (.bool false) ⟨(congrArg Value.bool (by grind [drop_end])), (Chg.refl _ _)⟩) fun af => .d <| .cf <| .sk <| .s <| .s <| .g <| .r 3 <| .d <| .b 0 <| T.loop (X := Nat) 0 (fun k => [(0, .slice a1 a.length c1), (1, .slice a2 b.length c2), (12, vI (a.length : Int)), (13, vI (k : Int))]) (fun k W => Chg (ins []) w W ∧ (k ≤ a.length) ∧ (a.drop k = b.drop k ↔ a = b)) (fun k => a.length - k) (by kernel_rfl) ⟨by kernel_rfl, by kernel_rfl, by kernel_rfl, by kernel_rfl, trivial⟩ ⟨Chg.refl _ _, (by simp), (by simp)⟩ ?_
 rintro k ay W ⟨C, ar, au⟩ J
 have Z : Mv [] [] w W := Mv.inl C all_nil all_nil
 replace ⟨h1, h2⟩ := (sp Z C).g2 h1 h2
 have E : Chg nil w W := Chg.stepI (Chg.refl nil w) C all_nil
 clear Z
 refine .s <| .g <| .bp ((k : Int) < (a.length : Int)) (fun ag => ?_) (fun ag => .d <| .s <| .cf <| .x 0 rfl <| .s <| .g <| .r 1 <| .d <| .rt Tryz.func59 Tryz.results59 (.bool true) ⟨(congrArg Value.bool (by grind [drop_end])), E⟩)
 refine .d <| .s <| .ct <| .sk <| .s <| .b 1 <| .s <| .g <| .r 2 <| .d <| .s <| .gd nil 8 fun az aa => ?_
 replace ⟨h1, h2, E, C⟩ := (se [] aa).g4 h1 h2 E C
 clear aa
 refine .r [0, 1] ?_
 have ah : k < a.length := (by omega)
 refine .ix 2 k 2 h1 ah ?_
 obtain ⟨ac, O⟩ : ∃ y, a[k]? = some y := ⟨_, List.getElem?_eq_getElem (by omega)⟩
 have av := drop_at O; have al := List.mem_of_getElem? O
 obtain ⟨_, rfl, ai⟩ := h1.elem k ac O
 refine .lg 3 0 ai id <| .r [4, 5] ?_
 have aj : k < b.length := (by omega)
 refine .ix 6 k 2 h2 aj ?_
 obtain ⟨ae, V⟩ : ∃ y, b[k]? = some y := ⟨_, List.getElem?_eq_getElem (by omega)⟩
 have aw := drop_at V; have am := List.mem_of_getElem? V
 obtain ⟨_, rfl, ak⟩ := h2.elem k ae V
 refine .lg 7 0 ak id <| .d fun aA ab => ?_
 replace ⟨E, C⟩ := (se [] ab).g2 E C
 clear ab
 refine RG.tagNe (t := 87) (x := ac) (y := ae) (by kernel_rfl) (by kernel_rfl) ?_
 cases ax : (ac == ae)
 · exact .d <| .ct <| .s <| .g <| .r 1 <| .d <| .rt Tryz.func59 Tryz.results59 (.bool false) ⟨(congrArg Value.bool (by grind [drop_end])), E⟩
 exact .d <| .cf <| .sk <| .ib 1 <| .g <| .it ((k : Int) + 1) <| .r 1 <| .d <| J (k + 1) _ _ ⟨by kernel_rfl, by kernel_rfl, by kernel_rfl, by kernel_rfl, trivial⟩ ⟨C, (by omega), (by grind)⟩ (by first | omega | (simp only []; omega))
theorem c_laws_lyName (a : List Tag) (b : List Tag) {w : World} {F : Nat → Prop} {a1 : Option Addr} {n1 c1 : Nat} (h1 : RepS w F a1 n1 c1 a) {a2 : Option Addr} {n2 c2 : Nat} (h2 : RepS w F a2 n2 c2 b)  : Calls Tryz.prog 50 [.slice a1 n1 c1, .slice a2 n2 c2].toArray w (rets fun rv w' => rv = .bool ((a == b)) ∧ Ext w w') := by
 refine goT Tryz.func50 ?_
 obtain ⟨rfl, ao, h1⟩ := h1.tp
 obtain ⟨rfl, aq, h2⟩ := h2.tp
 refine .s <| .g <| .r 1 <| .d <| .s <| .s <| .g <| .r 4 <| .ne (a.length : Int) (b.length : Int) (fun af => .d <| .ct <| .s <| .g <| .r 1 <| .d <| .rt Tryz.func50 Tryz.results50 (.bool false) ⟨(congrArg Value.bool (by grind [drop_end])), (Chg.refl _ _)⟩) fun af => .d <| .cf <| .sk <| .s <| .s <| .g <| .r 1 <| .d <| .b 0 <| T.loop (X := Nat) 0 (fun i => [(0, .slice a1 a.length c1), (1, .slice a2 b.length c2), (5, vI (i : Int))]) (fun i W => Chg (ins []) w W ∧ (i ≤ a.length) ∧ (a.drop i = b.drop i ↔ a = b)) (fun i => a.length - i) (by kernel_rfl) ⟨by kernel_rfl, by kernel_rfl, by kernel_rfl, trivial⟩ ⟨Chg.refl _ _, (by simp), (by simp)⟩ ?_
 rintro i ay W ⟨C, ar, au⟩ J
 have Z : Mv [] [] w W := Mv.inl C all_nil all_nil
 replace ⟨h1, h2⟩ := (sp Z C).g2 h1 h2
 have E : Chg nil w W := Chg.stepI (Chg.refl nil w) C all_nil
 clear Z
 refine .s <| .s <| .g <| .r 3 <| .bp ((i : Int) < (a.length : Int)) (fun ag => ?_) (fun ag => .d <| .cf <| .x 0 rfl <| .s <| .g <| .r 1 <| .d <| .rt Tryz.func50 Tryz.results50 (.bool true) ⟨(congrArg Value.bool (by grind [drop_end])), E⟩)
 refine .d <| .ct <| .sk <| .s <| .b 1 <| .s <| .gd nil 8 fun az aa => ?_
 replace ⟨h1, h2, E, C⟩ := (se [] aa).g4 h1 h2 E C
 clear aa
 refine .r [0, 1] ?_
 have ah : i < a.length := (by omega)
 refine .ix 2 i 2 h1 ah ?_
 obtain ⟨ac, O⟩ : ∃ y, a[i]? = some y := ⟨_, List.getElem?_eq_getElem (by omega)⟩
 have av := drop_at O; have al := List.mem_of_getElem? O
 obtain ⟨_, rfl, ai⟩ := h1.elem i ac O
 refine .lg 3 0 ai id <| .r [4, 5] ?_
 have aj : i < b.length := (by omega)
 refine .ix 6 i 2 h2 aj ?_
 obtain ⟨ae, V⟩ : ∃ y, b[i]? = some y := ⟨_, List.getElem?_eq_getElem (by omega)⟩
 have aw := drop_at V; have am := List.mem_of_getElem? V
 obtain ⟨_, rfl, ak⟩ := h2.elem i ae V
 refine .lg 7 0 ak id <| .d fun aA ab => ?_
 replace ⟨E, C⟩ := (se [] ab).g2 E C
 clear ab
 refine RG.tagNe (t := 87) (x := ac) (y := ae) (by kernel_rfl) (by kernel_rfl) ?_
 cases ax : (ac == ae)
 · exact .d <| .ct <| .s <| .g <| .r 1 <| .d <| .rt Tryz.func50 Tryz.results50 (.bool false) ⟨(congrArg Value.bool (by grind [drop_end])), E⟩
 exact .d <| .cf <| .sk <| .ib 1 <| .g <| .r 1 <| .it ((i : Int) + 1) <| .r 1 <| .d <| J (i + 1) _ _ ⟨by kernel_rfl, by kernel_rfl, by kernel_rfl, trivial⟩ ⟨C, (by omega), (by grind)⟩ (by first | omega | (simp only []; omega))
theorem c_laws_lyRows (a : List Row) (b : List Row) {w : World} {F : Nat → Prop} {a1 : Option Addr} {n1 c1 : Nat} (h1 : RepS w F a1 n1 c1 a) {a2 : Option Addr} {n2 c2 : Nat} (h2 : RepS w F a2 n2 c2 b)  : Calls Tryz.prog 52 [.slice a1 n1 c1, .slice a2 n2 c2].toArray w (rets fun rv w' => rv = .bool ((a == b)) ∧ Ext w w') := by
 refine goT Tryz.func52 ?_
 obtain ⟨rfl, ao, h1⟩ := h1.tp
 obtain ⟨rfl, aq, h2⟩ := h2.tp
 refine .s <| .g <| .r 1 <| .d <| .s <| .s <| .g <| .r 4 <| .ne (a.length : Int) (b.length : Int) (fun af => .d <| .ct <| .s <| .g <| .r 1 <| .d <| .rt Tryz.func52 Tryz.results52 (.bool false) ⟨(congrArg Value.bool (by grind [drop_end])), (Chg.refl _ _)⟩) fun af => .d <| .cf <| .sk <| .s <| .s <| .g <| .r 1 <| .d <| .b 0 <| T.loop (X := Nat) 0 (fun i => [(0, .slice a1 a.length c1), (1, .slice a2 b.length c2), (5, vI (i : Int))]) (fun i W => Chg (ins []) w W ∧ (i ≤ a.length) ∧ (a.drop i = b.drop i ↔ a = b)) (fun i => a.length - i) (by kernel_rfl) ⟨by kernel_rfl, by kernel_rfl, by kernel_rfl, trivial⟩ ⟨Chg.refl _ _, (by simp), (by simp)⟩ ?_
 rintro i ay W ⟨C, ar, au⟩ J
 have Z : Mv [] [] w W := Mv.inl C all_nil all_nil
 replace ⟨h1, h2⟩ := (sp Z C).g2 h1 h2
 have E : Chg nil w W := Chg.stepI (Chg.refl nil w) C all_nil
 clear Z
 refine .s <| .s <| .g <| .r 3 <| .bp ((i : Int) < (a.length : Int)) (fun ag => ?_) (fun ag => .d <| .cf <| .x 0 rfl <| .s <| .g <| .r 1 <| .d <| .rt Tryz.func52 Tryz.results52 (.bool true) ⟨(congrArg Value.bool (by grind [drop_end])), E⟩)
 refine .d <| .ct <| .sk <| .s <| .b 1 <| .s <| .gd nil 8 fun az aa => ?_
 replace ⟨h1, h2, E, C⟩ := (se [] aa).g4 h1 h2 E C
 clear aa
 refine .r [0, 1] ?_
 have ah : i < a.length := (by omega)
 refine .ix 2 i 2 h1 ah ?_
 obtain ⟨ac, O⟩ : ∃ y, a[i]? = some y := ⟨_, List.getElem?_eq_getElem (by omega)⟩
 have av := drop_at O; have al := List.mem_of_getElem? O
 obtain ⟨_, rfl, ai⟩ := h1.elem i ac O
 refine .lg 3 0 ai id <| .r [4, 5] ?_
 have aj : i < b.length := (by omega)
 refine .ix 6 i 2 h2 aj ?_
 obtain ⟨ae, V⟩ : ∃ y, b[i]? = some y := ⟨_, List.getElem?_eq_getElem (by omega)⟩
 have aw := drop_at V; have am := List.mem_of_getElem? V
 obtain ⟨_, rfl, ak⟩ := h2.elem i ae V
 refine .lg 7 0 ak id <| .d fun aA ab => ?_
 replace ⟨E, C⟩ := (se [] ab).g2 E C
 clear ab
 refine RG.rowNe (t := 33) (x := ac) (y := ae) (by kernel_rfl) (by kernel_rfl) ?_
 cases ax : (ac == ae)
 · exact .d <| .ct <| .s <| .g <| .r 1 <| .d <| .rt Tryz.func52 Tryz.results52 (.bool false) ⟨(congrArg Value.bool (by grind [drop_end])), E⟩
 exact .d <| .cf <| .sk <| .ib 1 <| .g <| .r 1 <| .it ((i : Int) + 1) <| .r 1 <| .d <| J (i + 1) _ _ ⟨by kernel_rfl, by kernel_rfl, by kernel_rfl, trivial⟩ ⟨C, (by omega), (by grind)⟩ (by first | omega | (simp only []; omega))
theorem c_spec_l3Has (n : List Tag) (t : Tag) {w : World} {F : Nat → Prop} {a1 : Option Addr} {n1 c1 : Nat} (h1 : RepS w F a1 n1 c1 n)  : Calls Tryz.prog 100 [.slice a1 n1 c1, .agg #[.string (bs t.key), .string (bs t.val)]].toArray w (rets fun rv w' => rv = .bool (has n t) ∧ Ext w w') := by
 refine goT Tryz.func100 ?_
 obtain ⟨rfl, ao, h1⟩ := h1.tp
 refine .s <| .g <| .np 87 [vT t.key, vT t.val] fun Z ah aa O J ai => ?_
 replace h1 := (sn [] O aa).g1 h1
 have C := O
 clear O ai aa
 refine .r 1 <| .d <| .s <| .s <| .g <| .r 1 <| .d <| .b 0 <| T.loop (X := Nat) 0 (fun i => [(0, .slice a1 n.length c1), (3, .pointer (some ⟨Z, 0, none⟩)), (5, vI (i : Int))]) (fun i af => Chg (ins []) ah af ∧ (i ≤ n.length) ∧ (has (n.drop i) t = has n t)) (fun i => n.length - i) (by kernel_rfl) ⟨by kernel_rfl, by kernel_rfl, by kernel_rfl, trivial⟩ ⟨Chg.refl _ _, (by simp), (by simp)⟩ ?_
 rintro i aw af ⟨E, aq, ar⟩ V
 have ab : Mv [Z] [Z] ah af := Mv.inl E all_nil (all_cons (.inl (.head _)) all_nil)
 replace ⟨h1, J, C⟩ := (sp ab E).g3 h1 J C
 clear ab
 refine .s <| .s <| .g <| .r 3 <| .bp ((i : Int) < (n.length : Int)) (fun aj => ?_) (fun aj => .d <| .cf <| .x 0 rfl <| .s <| .g <| .r 1 <| .d <| .rt Tryz.func100 Tryz.results100 (.bool false) ⟨(congrArg Value.bool (by grind [has])), C⟩)
 refine .d <| .ct <| .sk <| .s <| .b 1 <| .s <| .gd nil 5 fun ax ac => ?_
 replace ⟨h1, J, C, E⟩ := (se [Z] ac).g4 h1 J C E
 clear ac
 refine .r [0, 1] ?_
 have ak : i < n.length := (by omega)
 refine .ix 2 i 2 h1 ak ?_
 obtain ⟨ag, W⟩ : ∃ y, n[i]? = some y := ⟨_, List.getElem?_eq_getElem (by omega)⟩
 have au := drop_at W; have am := List.mem_of_getElem? W
 obtain ⟨_, rfl, al⟩ := h1.elem i ag W
 refine .lg 3 0 al id <| .ln 4 J id <| .d fun ay ae => ?_
 replace ⟨C, E⟩ := (se [] ae).g2 C E
 clear ae
 refine RG.tagEq (t := 87) (x := ag) (y := t) (by kernel_rfl) (by kernel_rfl) ?_
 cases av : (ag == t)
 · exact .d <| .cf <| .sk <| .ib 1 <| .g <| .r 1 <| .it ((i : Int) + 1) <| .r 1 <| .d <| V (i + 1) _ _ ⟨by kernel_rfl, by kernel_rfl, by kernel_rfl, trivial⟩ ⟨E, (by omega), (by grind [has])⟩ (by first | omega | (simp only []; omega))
 exact .d <| .ct <| .s <| .g <| .r 1 <| .d <| .rt Tryz.func100 Tryz.results100 (.bool true) ⟨(congrArg Value.bool (by grind [has])), C⟩
theorem c_spec_l11Ids (names : List (List Tag)) (t : Tag) {w : World} {F : Nat → Prop} {a1 : Option Addr} {n1 c1 : Nat} (h1 : RepS w F a1 n1 c1 names) (p0 : names.length ≤ 1000000) : Calls Tryz.prog 74 [.slice a1 n1 c1, .agg #[.string (bs t.key), .string (bs t.val)]].toArray w (rets fun rv w' => VL (ge w.heap.size) w' (ids names t : List Int) rv ∧ Ext w w') := by
 refine goT Tryz.func74 ?_
 obtain ⟨rfl, ba, h1⟩ := h1.tp
 refine .s <| .g <| .np 87 [vT t.key, vT t.val] fun V bq am af J aA => ?_
 replace h1 := (sn [] af am).g1 h1
 have C := af
 clear af aA am
 refine .r 1 <| .d <| .s <| .g <| .ns 0 3 [] fun Z ag aa ao aB aC => ?_
 have aD := nb_new aa J.lt
 have aE := gb_new aa C.size
 have aF := C.cn aa
 replace ⟨h1, J, C⟩ := (sn [V] ao aa).g3 h1 J C
 clear ao aC aa
 have aG : Own (α := Int) ag Z 3 (nin (ge w.heap.size) [Z, V]) 0 0 [] := Own.nil' aB
 refine .r 1 <| .d <| .s <| .s <| .g <| .r 1 <| .d <| .b 0 <| T.loop (X := (List Int) × Nat × Nat × Nat × Nat) (([] : List Int), Z, 0, 0, 0) (fun (out, r_out, n_out, c_out, i) => [(0, .slice a1 names.length c1), (3, .pointer (some ⟨V, 0, none⟩)), (5, vS r_out n_out c_out), (6, vI (i : Int))]) (fun (out, r_out, n_out, c_out, i) al => Chg (ins [Z]) ag al ∧ Own al r_out 3 (nin (ge w.heap.size) [r_out, V]) n_out c_out out ∧ OrB r_out Z ag.heap.size ∧ (i ≤ names.length) ∧ (out.length ≤ i) ∧ (out ++ idsF t i (names.drop i) = ids names t)) (fun (out, r_out, n_out, c_out, i) => names.length - i) (by kernel_rfl) ⟨by kernel_rfl, by kernel_rfl, by kernel_rfl, by kernel_rfl, trivial⟩ ⟨Chg.refl _ _, aG, orb_refl, (by simp [ids]), (by simp [ids]), (by simp [ids])⟩ ?_
 rintro ⟨out, r_out, n_out, c_out, i⟩ br al ⟨E, O, W, bb, bc, bd⟩ ab
 have bg := nb_or' W aD J.lt
 have aH := gb_or' W aE C.size
 have bh := cov_or' W aF C.size
 have aI : Cov (ins [Z]) ag Z := ⟨.inl (.head _)⟩
 have bi := cov_or' W aI (Nat.le_refl _)
 have aq : Mv [Z, V] [r_out, V] ag al := Mv.inl E (all_cons (.head _) all_nil) (all_cons (orb_mem W (.head _)) (all_cons (.inl (.tail _ (.head _))) all_nil))
 replace ⟨h1, J, C⟩ := (sp aq E).g3 h1 J C
 clear aq
 have bj := O.len; have bk := O.max
 refine .s <| .s <| .g <| .r 3 <| .bp ((i : Int) < (names.length : Int)) (fun aJ => ?_) (fun aJ => ?_)
 · refine .d <| .ct <| .sk <| .s <| .b 1 <| .s <| .gd nil 5 fun bt ar => ?_
   replace ⟨h1, J, O, C, E⟩ := (se [r_out, V] ar).g5 h1 J O C E
   clear ar
   refine .r [0, 1] ?_
   have aK : i < names.length := (by omega)
   refine .ix 2 i 1 h1 aK ?_
   obtain ⟨az, ah⟩ : ∃ y, names[i]? = some y := ⟨_, List.getElem?_eq_getElem (by omega)⟩
   have bm := drop_at ah; have aU := List.mem_of_getElem? ah
   obtain ⟨_, ⟨bu, bv, bw, rfl, ai⟩, aL⟩ := h1.elem i az ah
   have aM := ai.len
   subst aM
   have bn := ai.max
   refine .lh 3 0 aL id <| .ln 4 J id <| .d fun aV au => ?_
   replace ⟨J, O, ai, C, E⟩ := (se [r_out, V] au).g5 J O ai C E
   clear au
   refine .cl (c_spec_l3Has az t ai.ta (w := aV) (F := all)) ?_
   rintro bz bA ⟨rfl, av⟩
   replace ⟨J, O, C, E⟩ := (se [r_out, V] av).g4 J O C E
   clear av
   cases bo : (has az t)
   · exact .d <| .cf <| .sk <| .ib 1 <| .g <| .r 1 <| .it ((i : Int) + 1) <| .r 1 <| .d <| ab (out, r_out, n_out, c_out, i + 1) _ _ ⟨by kernel_rfl, by kernel_rfl, by kernel_rfl, by kernel_rfl, trivial⟩ ⟨E, O, W, (by grind [idsF]), (by grind [idsF]), (by grind [idsF])⟩ (by first | omega | (simp only []; omega))
   refine .d <| .ct <| .g <| .r 2 <| .it ((i : Int) + 1) <| .ns 1 3 [vI ((i : Int) + 1)] fun aN bB ae aw aO aP => ?_
   have aQ := nb_new ae J.lt
   have ax := nb_new ae O.lt
   have aR := gb_new ae C.size
   replace ⟨O, C, E⟩ := (se [r_out, V] aw).g3 O C E
   clear aw aP ae
   have aj : nin (ge w.heap.size) [r_out, V] aN ∧ aN ≠ r_out := hap_mk aR (all_cons ax (all_cons aQ all_nil)) ax
   refine RG.append1 (T := 49) (ty := 49) (y := (i : Int) + 1) O aO (by kernel_rfl) (by kernel_rfl) rfl aj (by omega) fun aW aX bC ac ak ay => ?_
   have aS := orb_or ak W E.size
   replace ⟨C, E⟩ := (s1 ay).g2 C E
   clear ay
   replace ac := ac.rn r_out
   clear ak
   have aY := ac.len; have aZ := ac.max
   exact .r 1 <| .d <| .ib 1 <| .g <| .r 1 <| .it ((i : Int) + 1) <| .r 1 <| .d <| ab ((out ++ [(i : Int) + 1]), aW, n_out + 1, aX, i + 1) _ _ ⟨by kernel_rfl, by kernel_rfl, by kernel_rfl, by kernel_rfl, trivial⟩ ⟨E, ac, aS, (by grind [idsF]), (by grind [idsF]), (by grind [idsF])⟩ (by first | omega | (simp only []; omega))
 refine .d <| .cf <| .x 0 rfl <| .s <| .g <| .r 2 <| .d ?_
 have aT := O.sl aH
 exact .rt Tryz.func74 Tryz.results74 (vS r_out n_out c_out) ⟨(aT.vl (by grind [idsF]) (fun _ _ h => h.1)), C⟩
theorem c_spec_l2Merge (a : List Row) (b : List Row) {w : World} {F : Nat → Prop} {a1 : Option Addr} {n1 c1 : Nat} (h1 : RepS w F a1 n1 c1 a) {a2 : Option Addr} {n2 c2 : Nat} (h2 : RepS w F a2 n2 c2 b) (p0 : a.length + b.length ≤ 1000000) : Calls Tryz.prog 77 [.slice a1 n1 c1, .slice a2 n2 c2].toArray w (rets fun rv w' => VL (ge w.heap.size) w' (sMerge a b : List Row) rv ∧ Ext w w') := by
 refine goT Tryz.func77 ?_
 obtain ⟨rfl, aG, h1⟩ := h1.tp
 obtain ⟨rfl, aH, h2⟩ := h2.tp
 refine .s <| .g <| .r 1 <| .d <| .s <| .g <| .ns 0 33 [] fun aa aB Z ab ao aq => ?_
 have ar := gb_new Z (Nat.le_refl _)
 have aI : Cov nil w aa := cov_new Z (Nat.le_refl _)
 replace ⟨h1, h2⟩ := (sn [] ab Z).g2 h1 h2
 have C := ab
 clear ab aq Z
 have au : Own (α := Row) aB aa 33 (nin (ge w.heap.size) [aa]) 0 0 [] := Own.nil' ao
 refine .r 1 <| RG.appendF (T := 41) (ty := 41) flat_row au h1 (by kernel_rfl) (by kernel_rfl) (fun b h e => h.2 (e ▸ (.head _))) (by omega) fun al aC am J V ah => ?_
 have av := gb_or V ar C.size
 replace ⟨h2, C⟩ := (sa [aa] ah V).g2 h2 C
 clear ah
 replace J := J.rn aa
 clear V
 have aJ := J.len; have aK := J.max
 refine .r 1 <| .d <| .s <| .s <| .g <| .r 1 <| .d <| .b 0 ?_
 have aD := J.sl av
 replace h2 := (sd am [al] al).g1 h2
 refine T.loop (X := (List Row) × (Option Addr) × Nat × Nat × Nat) ((([] ++ a) : List Row), some ⟨al, 0, none⟩, 0 + a.length, aC, 0) (fun (out, a_out, n_out, c_out, i) => [(1, .slice a2 b.length c2), (5, .slice a_out n_out c_out), (6, vI (i : Int))]) (fun (out, a_out, n_out, c_out, i) W => Chg (ins []) am W ∧ RepS W (nin (ge w.heap.size) []) a_out n_out c_out out ∧ (i ≤ b.length) ∧ (out.length ≤ a.length + i) ∧ ((b.drop i).foldl sPut out = sMerge a b)) (fun (out, a_out, n_out, c_out, i) => b.length - i) (by kernel_rfl) ⟨by kernel_rfl, by kernel_rfl, by kernel_rfl, trivial⟩ ⟨Chg.refl _ _, aD, (by simp [sMerge]), (by simp [sMerge]), (by simp [sMerge])⟩ ?_
 rintro ⟨out, a_out, n_out, c_out, i⟩ aS W ⟨O, E, aL, aM, aN⟩ ac
 have ai : Mv [] [] am W := Mv.inl O all_nil all_nil
 replace ⟨h2, C⟩ := (sp ai O).g2 h2 C
 clear ai
 have aO := E.len; have aP := E.max
 refine .s <| .s <| .g <| .r 3 <| .bp ((i : Int) < (b.length : Int)) (fun aw => ?_) (fun aw => .d <| .cf <| .x 0 rfl <| .s <| .g <| .r 2 <| .d <| .rt Tryz.func77 Tryz.results77 (.slice a_out n_out c_out) ⟨(E.vl (by grind [drop_end]) (fun _ _ h => h.1)), C⟩)
 refine .d <| .ct <| .sk <| .s <| .b 1 <| .g <| .r 3 ?_
 have ax : i < b.length := (by omega)
 refine .ix i 2 h2 ax ?_
 obtain ⟨af, ae⟩ : ∃ y, b[i]? = some y := ⟨_, List.getElem?_eq_getElem (by omega)⟩
 have aQ := drop_at ae; have aA := List.mem_of_getElem? ae
 obtain ⟨_, rfl, ay⟩ := h2.elem i af ae
 refine .lg 0 ay <| .cl (c_spec_l2Put out af E.ta (by omega) (w := W) (F := all)) ?_
 rintro aT aU ⟨⟨aE, aF, rfl, ag⟩, aj⟩
 have ak : ∀ q_ ∈ ([] : List Nat), q_ < W.heap.size := all_nil
 have az : Gb w.heap.size W.heap.size := C.size
 replace ⟨E, C, O⟩ := (se [] aj).g3 E C O
 clear aj
 have ag := ag.fr ak az
 have aR := ag.max
 clear ak
 exact .r 1 <| .d <| .ib 1 <| .g <| .r 1 <| .it ((i : Int) + 1) <| .r 1 <| .d <| ac (sPut out af, aE, (sPut out af).length, aF, i + 1) _ _ ⟨by kernel_rfl, by kernel_rfl, by kernel_rfl, trivial⟩ ⟨O, ag, (by grind [sPut_len]), (by grind [sPut_len]), (by grind [sPut_len])⟩ (by first | omega | (simp only []; omega))
theorem c_spec_l12Of (p : Prt) (id : Int) {w : World} {F : Nat → Prop} {a1 : Option Addr} {n1 c1 : Nat} (h1 : RepS w F a1 n1 c1 p.ids) {a2 : Option Addr} {n2 c2 : Nat} (h2 : RepS w F a2 n2 c2 p.blocks) (p0 : p.ids.length ≤ p.blocks.length) : Calls Tryz.prog 78 [.agg #[.slice a1 n1 c1, .slice a2 n2 c2], .int .i64 id].toArray w (rets fun rv w' => VL (fo F w.heap.size) w' (partOf p id : List Row) rv ∧ Ext w w') := by
 refine goT Tryz.func78 ?_
 obtain ⟨rfl, aI, h1⟩ := h1.tp
 obtain ⟨rfl, aJ, h2⟩ := h2.tp
 refine .s <| .g <| .np 68 [.slice a1 p.ids.length c1, .slice a2 p.blocks.length c2] fun ab aj ac J E ak => ?_
 replace ⟨h1, h2⟩ := (sn [] J ac).g2 h1 h2
 have C := J
 clear J ak ac
 refine .r 1 <| .d <| .s <| .s <| .g <| .r 1 <| .d <| .b 0 <| T.loop (X := Nat) 0 (fun i => [(1, vI id), (2, .pointer (some ⟨ab, 0, none⟩)), (5, vI (i : Int))]) (fun i ag => Chg (ins []) aj ag ∧ (i ≤ p.ids.length) ∧ (partF id (p.ids.drop i) (p.blocks.drop i) = partOf p id)) (fun i => p.ids.length - i) (by kernel_rfl) ⟨by kernel_rfl, by kernel_rfl, by kernel_rfl, trivial⟩ ⟨Chg.refl _ _, (by simp [partOf]), (by simp [partOf])⟩ ?_
 rintro i aQ ag ⟨O, aK, aL⟩ V
 have ae : Mv [ab] [ab] aj ag := Mv.inl O all_nil (all_cons (.inl (.head _)) all_nil)
 replace ⟨h1, h2, E, C⟩ := (sp ae O).g4 h1 h2 E C
 clear ae
 refine .s <| .s <| .g <| .r 2 <| .lb E <| .r 1 <| .bp ((i : Int) < (p.ids.length : Int)) (fun al => ?_) (fun al => ?_)
 · refine .d <| .ct <| .sk <| .s <| .b 1 <| .s <| .g <| .r 1 <| .lb E <| .r 1 ?_
   have am : i < p.ids.length := (by omega)
   refine .ix i 1 h1 am ?_
   obtain ⟨ao, W⟩ : ∃ y, p.ids[i]? = some y := ⟨_, List.getElem?_eq_getElem (by omega)⟩
   have aM := drop_at W; have aC := List.mem_of_getElem? W
   obtain ⟨_, rfl, aq⟩ := h1.elem i ao W
   refine .lh 0 aq <| .r 1 <| .eq ao id (fun ar => ?_) (fun ar => .d <| .cf <| .sk <| .ib 1 <| .g <| .r 1 <| .it ((i : Int) + 1) <| .r 1 <| .d <| V (i + 1) _ _ ⟨by kernel_rfl, by kernel_rfl, by kernel_rfl, trivial⟩ ⟨O, (by have := List.drop_eq_getElem_cons (l := p.blocks) (i := i) (by omega); grind [partF]), (by have := List.drop_eq_getElem_cons (l := p.blocks) (i := i) (by omega); grind [partF])⟩ (by first | omega | (simp only []; omega)))
   refine .d <| .ct <| .s <| .g <| .r 1 <| .lb E <| .r 1 ?_
   have au : i < p.blocks.length := (by omega)
   refine .ix i 1 h2 au ?_
   obtain ⟨av, Z⟩ : ∃ y, p.blocks[i]? = some y := ⟨_, List.getElem?_eq_getElem (by omega)⟩
   have aN := drop_at Z; have aD := List.mem_of_getElem? Z
   obtain ⟨_, ⟨aE, aR, aF, rfl, ah⟩, aw⟩ := h2.elem i av Z
   have ax := ah.len
   subst ax
   have aO := ah.max
   exact .lh 0 aw <| .r 1 <| .d <| .rt Tryz.func78 Tryz.results78 (.slice aE av.length aF) ⟨(ah.vl (by grind [partF, drop_end]) (fun _ _ h => h.1)), C⟩
 refine .d <| .cf <| .x 0 rfl <| .s <| .g <| .ns 0 33 [] fun ai aG aa af ay az => ?_
 have aP := nb_new aa E.lt
 have aA := gb_new aa C.size
 replace C := (se [] af).g1 C
 clear af az aa
 have aB : Own (α := Row) aG ai 33 (nin (fo F w.heap.size) [ai, ab]) 0 0 [] := Own.nil' ay
 refine .r 1 <| .d ?_
 have aH := aB.sl (.inr aA)
 exact .rt Tryz.func78 Tryz.results78 (vS ai 0 0) ⟨(aH.vl (by grind [partF, drop_end]) (fun _ _ h => h.1)), C⟩
theorem c_spec_l12Make (blocks : List (List Row)) {w : World} {F : Nat → Prop} {a1 : Option Addr} {n1 c1 : Nat} (h1 : RepS w F a1 n1 c1 blocks) (p0 : blocks.length ≤ 1000000) (p1 : ∀ b ∈ blocks, b.length ≤ 1000000) : Calls Tryz.prog 127 [.slice a1 n1 c1].toArray w (rets fun rv w' => VS (ge w.heap.size) w' (pMake blocks : Prt) rv ∧ Ext w w') := by
 refine goT Tryz.func127 ?_
 obtain ⟨rfl, dw, h1⟩ := h1.tp
 refine .s <| .g <| .np 68 [.slice none 0 0, .slice none 0 0] fun aa d5 aS aT E cw => ?_
 have dx : Cov nil w aa := cov_new aS (Nat.le_refl _)
 replace h1 := (sn [] aT aS).g1 h1
 have C := aT
 clear aT cw aS
 refine .d <| .s <| .g <| .ns 0 3 [] fun ai da aF bq cx cy => ?_
 have cz := nb_new aF E.lt
 have cA := gb_new aF C.size
 have cB := C.cn aF
 replace ⟨h1, E, C⟩ := (sn [aa] bq aF).g3 h1 E C
 clear bq cy aF
 have ak : Own (α := Int) da ai 3 (nin (ge w.heap.size) [ai, aa]) 0 0 [] := Own.nil' cx
 refine .ns 0 41 [] fun ao db ax br cC cD => ?_
 have cE := nb_new ax E.lt
 have cF := nb_new ax ak.lt
 have cG := gb_new ax C.size
 have cH := C.cn ax
 replace ⟨h1, E, ak, C⟩ := (sn [ai, aa] br ax).g4 h1 E ak C
 clear br cD ax
 have ay : Own (α := List Row) db ao 41 (nin (ge w.heap.size) [ao, ai, aa]) 0 0 [] := Own.nil' cC
 refine .r 1 <| .np 68 [.slice none 0 0, .slice none 0 0] fun Z d6 az bt cI cJ => ?_
 have dy := nb_new az E.lt
 have cK := nb_new az ak.lt
 have cL := nb_new az ay.lt
 have dz := C.cn az
 replace ⟨h1, E, ak, ay, C⟩ := (sn [ao, ai, aa] bt az).g5 h1 E ak ay C
 clear bt cJ az
 refine .sc [vS ai 0 0, vS ao 0 0] cI fun aI bu aU cM => ?_
 replace ⟨h1, E, ak, ay, C⟩ := (so [Z, ao, ai, aa] bu).g5 h1 E ak ay C
 clear bu cM
 refine .d <| .s <| .s <| .g <| .r 1 <| .d <| .b 0 <| T.loop (X := Nat × (List Int) × Nat × Nat × Nat × (List (List Row)) × Nat × Nat × Nat) (0, ([] : List Int), ai, 0, 0, ([] : List (List Row)), ao, 0, 0) (fun (i, aD, r_p_0, n_p_0, c_p_0, aE, r_p_1, n_p_1, c_p_1) => [(0, .slice a1 blocks.length c1), (2, .pointer (some ⟨aa, 0, none⟩)), (3, .pointer (some ⟨Z, 0, none⟩)), (4, vI (i : Int))]) (fun (i, aD, r_p_0, n_p_0, c_p_0, aE, r_p_1, n_p_1, c_p_1) aP => Chg (ins [ai, ao, Z]) aI aP ∧ Own aP r_p_0 3 (nin (ge w.heap.size) [Z, r_p_1, r_p_0, aa]) n_p_0 c_p_0 aD ∧ OrB r_p_0 ai aI.heap.size ∧ Own aP r_p_1 41 (nin (ge w.heap.size) [Z, r_p_1, r_p_0, aa]) n_p_1 c_p_1 aE ∧ OrB r_p_1 ao aI.heap.size ∧ Nb r_p_1 r_p_0 ∧ Box aP Z 68 [vS r_p_0 n_p_0 c_p_0, vS r_p_1 n_p_1 c_p_1] ∧ (i ≤ blocks.length) ∧ (aD.length ≤ i) ∧ (aE.length ≤ i) ∧ (aD ++ (makeF i (blocks.drop i)).1 = (makeF 0 blocks).1) ∧ (aE ++ (makeF i (blocks.drop i)).2 = (makeF 0 blocks).2)) (fun (i, aD, r_p_0, n_p_0, c_p_0, aE, r_p_1, n_p_1, c_p_1) => blocks.length - i) (by kernel_rfl) ⟨by kernel_rfl, by kernel_rfl, by kernel_rfl, by kernel_rfl, trivial⟩ ⟨Chg.refl _ _, ak, orb_refl, ay, orb_refl, cF, aU, (by simp), (by simp), (by simp), (by simp), (by simp)⟩ ?_
 rintro ⟨i, aD, r_p_0, n_p_0, c_p_0, aE, r_p_1, n_p_1, c_p_1⟩ d7 aP ⟨W, ag, au, O, av, bv, ah, dA, dB, dC, dD, dE⟩ aG
 have dF := nb_or' au cz E.lt
 have cN := nb_or' au (Nb.symm cK) aU.lt
 have cO := gb_or' au cA C.size
 have dG := cov_or' au cB C.size
 have dH := nb_or' av cE E.lt
 have bw := nb_or' av (Nb.symm cL) aU.lt
 have cP := gb_or' av cG C.size
 have dI := cov_or' av cH C.size
 have cQ : Cov (ins [ai, ao, Z]) aI ai := ⟨.inl (.head _)⟩
 have cR : Cov (ins [ai, ao, Z]) aI ao := ⟨.inl (.tail _ (.head _))⟩
 have dJ : Cov (ins [ai, ao, Z]) aI Z := ⟨.inl (.tail _ (.tail _ (.head _)))⟩
 have dK := cov_or' au cQ (Nat.le_refl _)
 have dL := cov_or' av cR (Nat.le_refl _)
 have bz : Mv [Z, ao, ai, aa] [Z, r_p_1, r_p_0, aa] aI aP := Mv.inl W (all_cons (.tail _ (.tail _ (.head _))) (all_cons (.tail _ (.head _)) (all_cons (.head _) all_nil))) (all_cons (.inl (.head _)) (all_cons (orb_mem av (.tail _ (.head _))) (all_cons (orb_mem au (.tail _ (.tail _ (.head _)))) (all_cons (.inl (.tail _ (.tail _ (.tail _ (.head _))))) all_nil))))
 replace ⟨h1, E, C⟩ := (sp bz W).g3 h1 E C
 clear bz
 have dM := ag.len; have dN := ag.max
 have dO := O.len; have dP := O.max
 refine .s <| .s <| .g <| .r 3 <| .bp ((i : Int) < (blocks.length : Int)) (fun cS => ?_) (fun cS => ?_)
 · refine .d <| .ct <| .sk <| .s <| .b 1 <| .s <| .g <| .r 2 ?_
   have cT : i < blocks.length := (by omega)
   refine .ix i 1 h1 cT ?_
   obtain ⟨aJ, aH⟩ : ∃ y, blocks[i]? = some y := ⟨_, List.getElem?_eq_getElem (by omega)⟩
   have dd := drop_at aH; have cU := List.mem_of_getElem? aH
   obtain ⟨_, ⟨dQ, dR, dS, rfl, bA⟩, bG⟩ := h1.elem i aJ aH
   have bH := bA.len
   subst bH
   have de := bA.max
   refine .lh 0 bG <| .r 1 <| .bp ((aJ.length : Int) > 0) (fun bI => ?_) (fun bI => .d <| .cf <| .sk <| .ib 1 <| .g <| .r 1 <| .it ((i : Int) + 1) <| .r 1 <| .d <| aG (i + 1, aD, r_p_0, n_p_0, c_p_0, aE, r_p_1, n_p_1, c_p_1) _ _ ⟨by kernel_rfl, by kernel_rfl, by kernel_rfl, by kernel_rfl, trivial⟩ ⟨W, ag, au, O, av, bv, ah, (by grind [makeF]), (by grind [makeF]), (by grind [makeF]), (by grind [makeF]), (by grind [makeF])⟩ (by first | omega | (simp only []; omega)))
   refine .d <| .ct <| .s <| .g <| .r 1 <| .lb ah <| .r 1 <| .it ((i : Int) + 1) <| .ns 1 3 [vI ((i : Int) + 1)] fun bB dT aq aV bJ bK => ?_
   have bL := nb_new aq E.lt
   have aW := nb_new aq ag.lt
   have bM := nb_new aq O.lt
   have bN := nb_new aq ah.lt
   have bO := gb_new aq C.size
   replace ⟨h1, E, ag, O, ah, C, W⟩ := (se [Z, r_p_1, r_p_0, aa] aV).g7 h1 E ag O ah C W
   clear aV bK aq
   have aQ : nin (ge w.heap.size) [Z, r_p_1, r_p_0, aa] bB ∧ bB ≠ r_p_0 := hap_mk bO (all_cons bN (all_cons bM (all_cons aW (all_cons bL all_nil)))) aW
   refine RG.append1 (T := 49) (ty := 49) (y := (i : Int) + 1) ag bJ (by kernel_rfl) (by kernel_rfl) rfl aQ (by grind) fun ab bC dU J al aX => ?_
   have bP := nb_or al (Nb.symm bv) O.lt
   have bQ := nb_or al cN ah.lt
   have bR := orb_or al au W.size
   replace ⟨h1, E, O, ah, C, W⟩ := (sa [Z, r_p_1, r_p_0, aa] aX al).g6 h1 E O ah C W
   clear aX
   replace J := J.rn r_p_0
   clear al
   have df := J.len; have dg := J.max
   refine .r 1 <| .ss 0 (vS ab (n_p_0 + 1) bC) ah fun aA aY V bS => ?_
   replace ⟨h1, E, J, O, C, W⟩ := (so [Z, r_p_1, ab, aa] aY).g6 h1 E J O C W
   clear aY bS
   refine .d ?_
   replace h1 := h1.into
   have bT : Gb (Z + 1) aA.heap.size := V.lt
   refine .gd (mtb [ab, r_p_1] aA.heap.size) 9 fun cV aK => ?_
   replace ⟨h1, E, J, O, V, C, W⟩ := (se [Z, r_p_1, ab, aa] aK).g7 h1 E J O V C W
   have aL : Chg (mtb [ab, r_p_1] aA.heap.size) aA cV := Chg.stepN (Chg.refl (mtb [ab, r_p_1] aA.heap.size) aA) aK
   clear aK
   refine .r [0] <| .lb 1 V (nS_of (all_cons (Nb.symm bQ) (all_cons (Nb.symm bw) all_nil)) bT) <| .r [3, 4] ?_
   have bU : i < blocks.length := (by omega)
   refine .ix 5 i 1 h1 bU ?_
   obtain ⟨_, ⟨cW, dV, cX, rfl, aw⟩, bV⟩ := h1.elem i aJ aH
   have bW := aw.len
   subst bW
   refine .lh 6 0 bV (h1.nS (pos_of aH) (all_cons (.tail _ (.tail _ (.head _))) (all_cons (.tail _ (.head _)) all_nil))) <| .go 2 <| .ns 0 33 [] fun dW aZ => ?_
   replace ⟨E, J, O, V, aw, C, W, aL⟩ := (se [Z, r_p_1, ab, aa] aZ).g8 E J O V aw C W aL
   clear aZ
   intro aB cY ae ba bX bY
   have bZ := nb_new ae E.lt
   have b0 := nb_new ae J.lt
   have b6 := nb_new ae O.lt
   have b7 := nb_new ae V.lt
   have b8 := gb_new ae C.size
   have dh := C.cn ae
   have di := W.cn ae
   have b9 := aL.cn ae
   replace ⟨E, J, O, V, aw, C, W⟩ := (sn [Z, r_p_1, ab, aa] ba ae).g7 E J O V aw C W
   clear ba bY ae
   have aM : Own (α := Row) cY aB 33 (nin (ge w.heap.size) [aB, Z, r_p_1, ab, aa]) 0 0 [] := Own.nil' bX
   refine .go 7 <| GE.append (T := 41) (ty := 41) (args := [vS aB 0 0, .slice cW aJ.length cX]) (by kernel_rfl) fun dX bb => ?_
   replace ⟨E, J, O, V, aw, aM, C, W⟩ := (se [aB, Z, r_p_1, ab, aa] bb).g8 E J O V aw aM C W
   clear bb
   obtain ⟨aC, cZ, dY, bc, ac, af, aN, cd⟩ := Own.appendF (P := Tryz.prog) (T := 41) (ty := 41) flat_row aM (by kernel_rfl) aw (fun b h e => h.2 (e ▸ (.head _))) (by grind)
   refine ⟨_, _, bc, Chg.toS aN (Cov.toS b9), ?_⟩
   clear cd
   have dj := nb_or af bZ E.lt
   have dk := nb_or af b0 J.lt
   have dm := nb_or af b6 O.lt
   have dp := nb_or af b7 V.lt
   have ce := gb_or af b8 C.size
   replace ⟨E, J, O, V, C, W⟩ := (sa [aB, Z, r_p_1, ab, aa] aN af).g6 E J O V C W
   clear aN
   replace ac := ac.rn aB
   clear af
   have dq := ac.len; have dr := ac.max
   refine .go 8 <| .ns 1 41 [vS aC (0 + aJ.length) cZ] fun dZ bd => ?_
   replace ⟨E, J, O, V, ac, C, W⟩ := (se [aC, Z, r_p_1, ab, aa] bd).g7 E J O V ac C W
   clear bd
   intro bD d0 ar bg aO cg
   have ci := nb_new ar E.lt
   have cj := nb_new ar J.lt
   have bh := nb_new ar O.lt
   have ck := nb_new ar V.lt
   have cm := gb_new ar C.size
   replace ⟨E, J, O, V, ac, C, W⟩ := (se [aC, Z, r_p_1, ab, aa] bg).g7 E J O V ac C W
   clear bg cg ar
   refine .d fun c7 bi => ?_
   replace ⟨E, J, O, V, ac, aO, C, W⟩ := (se [aC, Z, r_p_1, ab, aa] bi).g8 E J O V ac aO C W
   clear bi
   have c8 := ac.sl ce
   replace ⟨J, O⟩ := (sd c7 [aC, Z, r_p_1, ab, aa] aC).g2 J O
   have aR : nin (ge w.heap.size) [Z, r_p_1, ab, aa] bD ∧ bD ≠ r_p_1 := hap_mk cm (all_cons ck (all_cons bh (all_cons cj (all_cons ci all_nil)))) bh
   refine RG.append1 (T := 66) (ty := 66) (y := ([] ++ aJ)) O aO (by kernel_rfl) (by kernel_rfl) ⟨_, _, _, rfl, c8.oi⟩ aR (by grind) fun bj bE d3 aj am bk => ?_
   have co := nb_or am (Nb.symm bP) J.lt
   have dt := nb_or am bw V.lt
   have cp := orb_or am av W.size
   replace ⟨E, J, V, C, W⟩ := (sa [Z, r_p_1, ab, aa] bk am).g5 E J V C W
   clear bk
   replace aj := aj.rn r_p_1
   clear am
   have du := aj.len; have dv := aj.max
   refine .r 1 <| .ss 1 (vS bj (n_p_1 + 1) bE) V fun d4 bm cq cr => ?_
   replace ⟨E, J, aj, C, W⟩ := (so [Z, bj, ab, aa] bm).g5 E J aj C W
   clear bm cr
   exact .d <| .ib 1 <| .g <| .r 1 <| .it ((i : Int) + 1) <| .r 1 <| .d <| aG (i + 1, (aD ++ [(i : Int) + 1]), ab, n_p_0 + 1, bC, (aE ++ [([] ++ aJ)]), bj, n_p_1 + 1, bE) _ _ ⟨by kernel_rfl, by kernel_rfl, by kernel_rfl, by kernel_rfl, trivial⟩ ⟨W, J, bR, aj, cp, co, cq, (by grind [makeF]), (by grind [makeF]), (by grind [makeF]), (by grind [makeF]), (by grind [makeF])⟩ (by first | omega | (simp only []; omega))
 refine .d <| .cf <| .x 0 rfl <| .s <| .g <| .ln ah <| .sc [vS r_p_0 n_p_0 c_p_0, vS r_p_1 n_p_1 c_p_1] E fun bF bn cu cv => ?_
 replace ⟨ag, O, C⟩ := (so [Z, r_p_1, r_p_0, aa] bn).g3 ag O C
 clear bn cv
 refine .d ?_
 have bo := ag.sl cO
 replace O := (sd bF [Z, r_p_1, r_p_0, aa] r_p_0).g1 O
 have c9 := O.sl cP
 replace bo := (sd bF [Z, r_p_1, aa] r_p_1).g1 bo
 exact .rb Tryz.func127 Tryz.results127 cu ⟨(VS.of (y := (⟨aD, aE⟩ : Prt)) ⟨_, rfl, ⟨_, _, _, _, _, _, rfl, bo.w1, c9.w1⟩⟩ (by grind [makeF, pMake])), C⟩
end Go.Proofs.YtndljnhfkdhggaaGreat