/- walks; squeezed -/
import Derived.Test.YtfnpaglcnmcnbaaGreatFluzW30
set_option linter.unusedVariables false
set_option linter.unusedSimpArgs false
namespace Go.Proofs.YtfnpaglcnmcnbaaGreat
set_option maxRecDepth 100000
set_option maxHeartbeats 4000000
theorem c_laws_lyHits (a : List Hit) (b : List Hit) {w : World} {F : Nat → Prop} {a1 : Option Addr} {n1 c1 : Nat} (h1 : RepS w F a1 n1 c1 a) {a2 : Option Addr} {n2 c2 : Nat} (h2 : RepS w F a2 n2 c2 b)  : Calls Tryz.prog 34 [.slice a1 n1 c1, .slice a2 n2 c2].toArray w (rets fun rv w' => rv = .bool ((a == b)) ∧ Ext w w') := by
 refine goT Tryz.func34 ?_
 obtain ⟨rfl, aA, h1⟩ := h1.tp
 obtain ⟨rfl, aB, h2⟩ := h2.tp
 refine .s <| .g <| .r 1 <| .d <| .s <| .s <| .g <| .r 4 <| .ne (a.length : Int) (b.length : Int) (fun al => .d <| .ct <| .s <| .g <| .r 1 <| .d <| .rt Tryz.func34 Tryz.results34 (.bool false) ⟨(congrArg Value.bool (by grind [drop_end, hit_eq])), (Chg.refl _ _)⟩) fun al => .d <| .cf <| .sk <| .s <| .s <| .g <| .r 1 <| .d <| .b 0 <| T.loop (X := Nat) 0 (fun i => [(0, .slice a1 a.length c1), (1, .slice a2 b.length c2), (5, vI (i : Int))]) (fun i ac => Chg (ins []) w ac ∧ (i ≤ a.length) ∧ (a.drop i = b.drop i ↔ a = b)) (fun i => a.length - i) (by kernel_rfl) ⟨by kernel_rfl, by kernel_rfl, by kernel_rfl, trivial⟩ ⟨Chg.refl _ _, (by simp), (by simp)⟩ ?_
 rintro i aK ac ⟨C, aC, aD⟩ Z
 have ae : Mv [] [] w ac := Mv.inl C all_nil all_nil
 replace ⟨h1, h2⟩ := (sp ae C).g2 h1 h2
 have E : Chg nil w ac := Chg.stepI (Chg.refl nil w) C all_nil
 clear ae
 refine .s <| .s <| .g <| .r 3 <| .bp ((i : Int) < (a.length : Int)) (fun am => ?_) (fun am => .d <| .cf <| .x 0 rfl <| .s <| .g <| .r 1 <| .d <| .rt Tryz.func34 Tryz.results34 (.bool true) ⟨(congrArg Value.bool (by grind [drop_end, hit_eq])), E⟩)
 refine .d <| .ct <| .sk <| .s <| .b 1 <| .s <| .gd nil 22 fun aL af => ?_
 replace ⟨h1, h2, E, C⟩ := (se [] af).g4 h1 h2 E C
 clear af
 refine .r [0, 1] ?_
 have ao : i < a.length := (by omega)
 refine .ix 2 i 2 h1 ao <| .r [3] ?_
 obtain ⟨V, aa⟩ : ∃ y, a[i]? = some y := ⟨_, List.getElem?_eq_getElem (by omega)⟩
 have aE := drop_at aa; have ax := List.mem_of_getElem? aa
 obtain ⟨_, ⟨aM, aN, aO, rfl, J⟩, ag⟩ := h1.elem i V aa
 have aq := J.len
 subst aq
 have aF := J.max
 refine .lh 4 0 ag id <| .r [5, 6] ?_
 have ar : i < b.length := (by omega)
 refine .ix 7 i 2 h2 ar <| .r [8] ?_
 obtain ⟨W, ab⟩ : ∃ y, b[i]? = some y := ⟨_, List.getElem?_eq_getElem (by omega)⟩
 have aG := drop_at ab; have ay := List.mem_of_getElem? ab
 obtain ⟨_, ⟨aP, aQ, aR, rfl, O⟩, ah⟩ := h2.elem i W ab
 have au := O.len
 subst au
 have aH := O.max
 refine .lh 9 0 ah id <| GA.eqv (i := 10) (v := .bool (!(V.name == W.name))) (by kernel_rfl) (s_ne V.name W.name) ?_
 cases aI : (V.name == W.name)
 · refine .r [11, 12, 13, 14, 15, 16, 17, 18, 19, 20, 21] <| .d fun aS ai => ?_
   replace ⟨h1, h2, J, O, E, C⟩ := (se [] ai).g6 h1 h2 J O E C
   clear ai
   exact .r 3 <| .d <| .ct <| .s <| .g <| .r 1 <| .d <| .rt Tryz.func34 Tryz.results34 (.bool false) ⟨(congrArg Value.bool (by grind [drop_end, hit_eq])), E⟩
 refine .r [11, 12, 13] ?_
 have av : i < a.length := (by omega)
 refine .ix 14 i 2 h1 av <| .r [15] <| .lh 16 1 ag id <| .r [17, 18] ?_
 have aw : i < b.length := (by omega)
 refine .ix 19 i 2 h2 aw <| .r [20] <| .lh 21 1 ah id <| .d fun az aj => ?_
 replace ⟨J, O, E, C⟩ := (se [] aj).g4 J O E C
 clear aj
 refine .cl (c_laws_lyRows V.rows W.rows J.ta O.ta (w := az) (F := all)) ?_
 rintro aT aU ⟨rfl, ak⟩
 replace ⟨E, C⟩ := (se [] ak).g2 E C
 clear ak
 cases aJ : (V.rows == W.rows)
 · exact .r 2 <| .d <| .ct <| .s <| .g <| .r 1 <| .d <| .rt Tryz.func34 Tryz.results34 (.bool false) ⟨(congrArg Value.bool (by grind [drop_end, hit_eq])), E⟩
 exact .r 2 <| .d <| .cf <| .sk <| .ib 1 <| .g <| .r 1 <| .it ((i : Int) + 1) <| .r 1 <| .d <| Z (i + 1) _ _ ⟨by kernel_rfl, by kernel_rfl, by kernel_rfl, trivial⟩ ⟨C, (by omega), (by grind [hit_eq])⟩ (by first | omega | (simp only []; omega))
set_option maxRecDepth 100000 in
set_option maxHeartbeats 4000000 in
theorem c_impl_NameText (n : List Tag) {w : World} {F : Nat → Prop} {a1 : Option Addr} {n1 c1 : Nat} (h1 : RepS w F a1 n1 c1 n) (p0 : NmSz n) : Calls Tryz.prog 39 [.slice a1 n1 c1].toArray w (rets fun rv w' => rv = .string (bs (textI n)) ∧ Ext w w') := by
 refine goT Tryz.func39 ?_
 obtain ⟨rfl, aV, h1⟩ := h1.tp
 refine .s <| .g <| .r 1 <| .d <| .s <| .s <| .g <| .r 1 <| .cl (c_impl_NameOk n h1.ta (w := w) (F := all)) ?_
 rintro bo bq ⟨rfl, ac⟩
 replace h1 := (se [] ac).g1 h1
 have C := ac
 clear ac
 cases aW : (nameOk n)
 · exact .r 1 <| .d <| .ct <| .s <| .g <| .r 1 <| .d <| .rt Tryz.func39 Tryz.results39 (.string (bs [])) ⟨(congrArg (fun s => Value.string (bs s)) (by first | rw [textI_no (by assumption)] | (rw [joinEnd (by assumption) (by omega), textI_ok (by assumption)]))), C⟩
 refine .r 1 <| .d <| .cf <| .sk <| .s <| .g <| .ns 0 9 [] fun W ae af ao aA aB => ?_
 have aC := C.cn af
 replace ⟨h1, C⟩ := (sn [] ao af).g2 h1 C
 clear ao aB af
 have aD : Own (α := Txt) ae W 9 (nin (ge w.heap.size) [W]) 0 0 [] := Own.nil' aA
 refine .r 1 <| .d <| .s <| .s <| .g <| .r 3 <| .d <| .b 0 <| T.loop (X := (List Txt) × Nat × Nat × Nat × Nat) (([] : List Txt), W, 0, 0, 0) (fun (out, r_out, n_out, c_out, k) => [(3, vS r_out n_out c_out), (10, .slice a1 n.length c1), (11, vI (n.length : Int)), (12, vI (k : Int))]) (fun (out, r_out, n_out, c_out, k) ag => Chg (ins [W]) ae ag ∧ Own ag r_out 9 (nin (ge w.heap.size) [r_out]) n_out c_out out ∧ OrB r_out W ae.heap.size ∧ (k ≤ n.length) ∧ (out.length ≤ k) ∧ (out ++ (n.drop k).map tx1 = n.map tx1)) (fun (out, r_out, n_out, c_out, k) => n.length - k) (by kernel_rfl) ⟨by kernel_rfl, by kernel_rfl, by kernel_rfl, by kernel_rfl, trivial⟩ ⟨Chg.refl _ _, aD, orb_refl, (by first | omega | rfl | simp), (by first | omega | rfl | simp), (by first | omega | rfl | simp)⟩ ?_
 rintro ⟨out, r_out, n_out, c_out, k⟩ br ag ⟨E, J, aa, aX, aY, aZ⟩ ah
 have ba := cov_or' aa aC C.size
 have aE : Cov (ins [W]) ae W := ⟨.inl (.head _)⟩
 have bc := cov_or' aa aE (Nat.le_refl _)
 have aq : Mv [W] [r_out] ae ag := Mv.inl E (all_cons (.head _) all_nil) (all_cons (orb_mem aa (.head _)) all_nil)
 replace ⟨h1, C⟩ := (sp aq E).g2 h1 C
 clear aq
 have bd := J.len; have bg := J.max
 refine .s <| .g <| .bp ((k : Int) < (n.length : Int)) (fun aF => ?_) (fun aF => ?_)
 · refine .d <| .s <| .ct <| .sk <| .s <| .b 1 <| .s <| .g ?_
   have aG : k < n.length := (by omega)
   refine .ix k 2 h1 aG ?_
   obtain ⟨O, ai⟩ : ∃ y, n[k]? = some y := ⟨_, List.getElem?_eq_getElem (by omega)⟩
   have bh := drop_at ai; have aT := List.mem_of_getElem? ai
   obtain ⟨_, rfl, aH⟩ := h1.elem k O ai
   refine .lg 0 aH <| .np 112 [.string (bs []), .string (bs [])] fun am bt Z ar aI aJ => ?_
   have bi := nb_new Z J.lt
   have bj := C.cn Z
   have bk := E.cn Z
   replace ⟨J, C, E⟩ := (sn [r_out] ar Z).g3 J C E
   clear ar aJ Z
   refine .sc [vT O.key, vT O.val] aI fun bu au aj aK => ?_
   replace ⟨J, C, E⟩ := (so [am, r_out] au).g3 J C E
   clear au aK
   refine .d <| .g <| .r 2 <| .lb aj <| RG.cat (t := 9) (s := O.key) (u := [61]) (by kernel_rfl) (by have q1 := p0.2 _ (by assumption); simp only [List.length_append, List.length_cons, List.length_nil]; omega) <| .r 1 <| .lb aj <| RG.cat (t := 9) (s := (O.key ++ [61])) (u := O.val) (by kernel_rfl) (by have q1 := p0.2 _ (by assumption); simp only [List.length_append, List.length_cons, List.length_nil]; omega) <| .ns 1 9 [.string (bs ((O.key ++ [61]) ++ O.val))] fun aL bw ab av aM aN => ?_
   have aw := nb_new ab J.lt
   have aO := nb_new ab aj.lt
   have aP := gb_new ab C.size
   replace ⟨J, C, E⟩ := (se [am, r_out] av).g3 J C E
   clear av aN ab
   have ak : nin (ge w.heap.size) [am, r_out] aL ∧ aL ≠ r_out := hap_mk aP (all_cons aO (all_cons aw all_nil)) aw
   refine RG.append1 (T := 126) (ty := 126) (y := (⟨((O.key ++ [61]) ++ O.val)⟩ : Txt)) J aM (by kernel_rfl) (by kernel_rfl) rfl ak (by have := p0.1; omega) fun az aU aQ V al ax => ?_
   have aR := orb_or al aa E.size
   replace ⟨C, E⟩ := (s1 ax).g2 C E
   clear ax
   replace V := V.rn r_out
   clear al
   have bm := V.len; have bn := V.max
   refine .r 1 <| .d <| .ib 1 <| .g <| .it ((k : Int) + 1) <| .r 1 <| .d ?_
   have aS : Mv [am, az] [az] aQ aQ := Mv.less (all_cons (.tail _ (.head _)) all_nil)
   replace V := (sp aS (Chg.refl nil _)).g1 V
   exact ah ((out ++ [(⟨((O.key ++ [61]) ++ O.val)⟩ : Txt)]), az, n_out + 1, aU, k + 1) _ _ ⟨by kernel_rfl, by kernel_rfl, by kernel_rfl, by kernel_rfl, trivial⟩ ⟨E, V, aR, (by omega), (by first | omega | (simp; omega)), (by exact joinStep (by assumption) (by assumption))⟩ (by first | omega | (simp only []; omega))
 refine .d <| .s <| .cf <| .x 0 rfl <| .s <| .g <| .r 1 <| .cl (c_strings_Join out [44] (J.rep) (joinSz (by assumption) (by omega) p0) (by have := p0.1; omega) (w := ag) (F := all)) ?_
 rintro bz bA ⟨rfl, ay⟩
 replace C := (se [] ay).g1 C
 clear ay
 exact .r 1 <| .d <| .rt Tryz.func39 Tryz.results39 (.string (bs (Lib.join (out.map Txt.s) [44]))) ⟨(congrArg (fun s => Value.string (bs s)) (by first | rw [textI_no (by assumption)] | (rw [joinEnd (by assumption) (by omega), textI_ok (by assumption)]))), C⟩
theorem c_impl_StoreAsk (s : Sto) (f : List Cnd) (from_ : Int) (to_ : Int) {w : World} {F : Nat → Prop} {a1 : Option Addr} {n1 c1 : Nat} (h1 : RepS w F a1 n1 c1 s.idx.names) {a2 : Option Addr} {n2 c2 : Nat} (h2 : RepS w F a2 n2 c2 s.idx.posts) {a3 : Option Addr} {n3 c3 : Nat} (h3 : RepS w F a3 n3 c3 s.parts) {a4 : Option Addr} {n4 c4 : Nat} (h4 : RepS w F a4 n4 c4 s.mem) {a5 : Option Addr} {n5 c5 : Nat} (h5 : RepS w F a5 n5 c5 f) (p0 : SD s) : Calls Tryz.prog 33 [.agg #[.slice a1 n1 c1, .slice a2 n2 c2, .slice a3 n3 c3, .slice a4 n4 c4], .slice a5 n5 c5, .int .i64 from_, .int .i64 to_].toArray w (rets fun rv w' => VL (ge w.heap.size) w' (askS s f from_ to_ : List Hit) rv ∧ Ext w w') := by
 refine goT Tryz.func33 ?_
 obtain ⟨rfl, bL, h1⟩ := h1.tp
 obtain ⟨rfl, bM, h2⟩ := h2.tp
 obtain ⟨rfl, bN, h3⟩ := h3.tp
 obtain ⟨rfl, bO, h4⟩ := h4.tp
 obtain ⟨rfl, bP, h5⟩ := h5.tp
 refine .s <| .g <| .np 30 [.slice a1 s.idx.names.length c1, .slice a2 s.idx.posts.length c2, .slice a3 s.parts.length c3, .slice a4 s.mem.length c4] fun V cj aE aq E ba => ?_
 replace ⟨h1, h2, h3, h4, h5⟩ := (sn [] aq aE).g5 h1 h2 h3 h4 h5
 have C := aq
 clear aq ba aE
 refine .r 1 <| .d <| .s <| .g <| .ns 0 66 [] fun W bc ag aF bd bg => ?_
 have bh := nb_new ag E.lt
 have aG := gb_new ag C.size
 have bi := C.cn ag
 replace ⟨h1, h2, h3, h4, h5, E, C⟩ := (sn [V] aF ag).g7 h1 h2 h3 h4 h5 E C
 clear aF bg ag
 have ab : Own (α := Hit) bc W 66 (nin (ge w.heap.size) [W, V]) 0 0 [] := Own.nil' bd
 refine .r 1 <| .d <| .s <| .s <| .g <| .ln E <| .cl (c_impl_StoreOk s h1.ta h2.ta h3.ta h4.ta p0 (w := bc) (F := all)) ?_
 rintro ck aQ ⟨rfl, aH⟩
 replace ⟨h1, h2, h3, h4, h5, E, ab, C⟩ := (se [W, V] aH).g8 h1 h2 h3 h4 h5 E ab C
 clear aH
 cases bQ : (storeOk s)
 · refine .r 1 <| .d <| .ct <| .s <| .g <| .r 2 <| .d ?_
   have bA := ab.sl aG
   replace ⟨h1, h2, h3, h4, h5⟩ := (sd aQ [W, V] W).g5 h1 h2 h3 h4 h5
   exact .rt Tryz.func33 Tryz.results33 (vS W 0 0) ⟨(bA.vl (by first | rw [askS_1 (.inl (by assumption))] | exact (askEndI p0 (by assumption) (by assumption) (by omega)).symm) (fun _ _ h => h.1)), C⟩
 refine .r 1 <| .d <| .cf <| .sk <| .s <| .s <| .g <| .r 1 <| .ln E <| .r 1 <| .cl (c_impl_IndexFind s.idx f h1.ta h2.ta h5.ta p0.ix p0.nd (w := aQ) (F := all)) ?_
 rintro cm aB ⟨⟨bB, bC, rfl, aj⟩, aI⟩
 have aJ := al2 ab.lt E.lt
 have bj : Gb w.heap.size aQ.heap.size := C.size
 replace ⟨h1, h2, h3, h4, E, ab, C⟩ := (se [W, V] aI).g7 h1 h2 h3 h4 E ab C
 clear aI
 have aj := aj.fr aJ bj
 have bR := aj.max
 clear aJ
 refine .r 2 <| .d <| .b 0 <| T.loop (X := (List Hit) × Nat × Nat × Nat × Nat) (([] : List Hit), W, 0, 0, 0) (fun (out, r_out, n_out, c_out, k) => [(2, vI from_), (3, vI to_), (4, .pointer (some ⟨V, 0, none⟩)), (9, vS r_out n_out c_out), (21, .slice bB ((findP (fitsI f) 0 s.idx.names).length) bC), (22, vI (((findP (fitsI f) 0 s.idx.names).length) : Int)), (23, vI (k : Int))]) (fun (out, r_out, n_out, c_out, k) am => Chg (ins [W]) aB am ∧ Own am r_out 66 (nin (ge w.heap.size) [r_out, V]) n_out c_out out ∧ OrB r_out W aB.heap.size ∧ (k ≤ (findP (fitsI f) 0 s.idx.names).length) ∧ (out.length ≤ k) ∧ (out ++ ((findP (fitsI f) 0 s.idx.names).drop k).flatMap (hit1 s from_ to_) = askP (fitsI f) s from_ to_)) (fun (out, r_out, n_out, c_out, k) => (findP (fitsI f) 0 s.idx.names).length - k) (by kernel_rfl) ⟨by kernel_rfl, by kernel_rfl, by kernel_rfl, by kernel_rfl, by kernel_rfl, by kernel_rfl, by kernel_rfl, trivial⟩ ⟨Chg.refl _ _, ab, orb_refl, (by first | omega | rfl | simp), (by first | omega | rfl | simp), (by first | omega | rfl | simp)⟩ ?_
 rintro ⟨out, r_out, n_out, c_out, k⟩ co am ⟨O, J, ac, bS, bT, bU⟩ ah
 have bV := nb_or' ac bh E.lt
 have bk := gb_or' ac aG C.size
 have bW := cov_or' ac bi C.size
 have bm : Cov (ins [W]) aB W := ⟨.inl (.head _)⟩
 have bX := cov_or' ac bm (Nat.le_refl _)
 have aK : Mv [W, V] [r_out, V] aB am := Mv.inl O (all_cons (.head _) all_nil) (all_cons (orb_mem ac (.head _)) (all_cons (.inl (.tail _ (.head _))) all_nil))
 replace ⟨h1, h2, h3, h4, E, aj, C⟩ := (sp aK O).g7 h1 h2 h3 h4 E aj C
 clear aK
 have bY := J.len; have bZ := J.max
 refine .s <| .g <| .bp ((k : Int) < (((findP (fitsI f) 0 s.idx.names).length) : Int)) (fun bn => ?_) (fun bn => ?_)
 · refine .d <| .s <| .ct <| .sk <| .s <| .b 1 <| .s <| .g ?_
   have aL : k < (findP (fitsI f) 0 s.idx.names).length := (by first | omega | (have q1 := findP_in (by assumption : _ ∈ findP _ 0 s.idx.names); omega))
   refine RG.idx k (len := (findP (fitsI f) 0 s.idx.names).length) (i := (k : Int)) (sz := 1) (by kernel_rfl) (by first | omega | (have q1 := findP_in (by assumption : _ ∈ findP _ 0 s.idx.names); omega)) aL (aj.addr (Nat.zero_lt_of_lt aL)) ?_
   obtain ⟨Z, ar⟩ : ∃ y, (findP (fitsI f) 0 s.idx.names)[k]? = some y := ⟨_, List.getElem?_eq_getElem (by first | omega | (have q1 := findP_in (by assumption : _ ∈ findP _ 0 s.idx.names); omega))⟩
   have b0 := drop_at ar; have bz := List.mem_of_getElem? ar
   obtain ⟨_, rfl, bo⟩ := aj.elem k Z ar
   refine .lh 0 bo <| .r 1 <| .d <| .s <| .g <| .ln E <| .r 1 <| .cl (c_impl_Store_rows s Z h1.ta h2.ta h3.ta h4.ta (StoK.of p0 (by assumption)).part (StoK.of p0 (by assumption)).row (by have := p0.np; omega) (by have := p0.nm2; omega) (w := am) (F := all)) ?_
   rintro cp bq ⟨⟨cq, cr, rfl, aD⟩, aM⟩
   have aN := al2 J.lt E.lt
   have br : Gb w.heap.size am.heap.size := C.size
   replace ⟨h1, E, J, C, O⟩ := (se [r_out, V] aM).g5 h1 E J C O
   clear aM
   have aD := aD.fr aN br
   have b6 := aD.max
   clear aN
   refine .r 2 <| .cl (c_impl_BlockCut (rowsOf s Z) from_ to_ aD.ta (Nat.le_trans (blk_of p0 (by assumption) _).len (by omega)) (w := bq) (F := all)) ?_
   rintro cu bD ⟨⟨bE, bF, rfl, aa⟩, aO⟩
   have au := al2 J.lt E.lt
   have aR : Gb w.heap.size bq.heap.size := C.size
   replace ⟨h1, E, J, C, O⟩ := (se [r_out, V] aO).g5 h1 E J C O
   clear aO
   have aa := aa.fr au aR
   have bG := aa.max
   clear au
   refine .r 1 <| .d <| .s <| .g <| .r 2 <| .bp ((((cutI (rowsOf s Z) from_ to_).length) : Int) > 0) (fun aS => ?_) (fun aS => .d <| .cf <| .sk <| .ib 1 <| .g <| RG.int ((k : Int) + 1) (by kernel_rfl) (by first | omega | (have q1 := findP_in (by assumption : _ ∈ findP _ 0 s.idx.names); omega)) <| .r 1 <| .d <| ah (out, r_out, n_out, c_out, k + 1) _ _ ⟨by kernel_rfl, by kernel_rfl, by kernel_rfl, by kernel_rfl, by kernel_rfl, by kernel_rfl, by kernel_rfl, trivial⟩ ⟨O, J, ac, (by omega), (by first | omega | (simp; omega)), (by first | exact askStepI p0 (by assumption) (by assumption) (by assumption) (by assumption) (by assumption) | exact askSkipI p0 (by assumption) (by assumption) (by assumption) (by assumption))⟩ (by first | omega | (simp only []; omega)))
   refine .d <| .ct <| .g <| .r 3 <| .lb E <| .r 1 <| RG.int (Z - 1) (by kernel_rfl) (by first | omega | (have q1 := findP_in (by assumption : _ ∈ findP _ 0 s.idx.names); omega)) ?_
   have av : (Z - 1).toNat < s.idx.names.length := (by first | omega | (have q1 := findP_in (by assumption : _ ∈ findP _ 0 s.idx.names); omega))
   refine RG.idx ((Z - 1).toNat) (len := s.idx.names.length) (i := Z - 1) (sz := 1) (by kernel_rfl) (by first | omega | (have q1 := findP_in (by assumption : _ ∈ findP _ 0 s.idx.names); omega)) av (h1.addr (Nat.zero_lt_of_lt av)) ?_
   obtain ⟨ai, ak⟩ : ∃ y, s.idx.names[(Z - 1).toNat]? = some y := ⟨_, List.getElem?_eq_getElem (by first | omega | (have q1 := findP_in (by assumption : _ ∈ findP _ 0 s.idx.names); omega))⟩
   have bH := drop_at ak; have bt := List.mem_of_getElem? ak
   obtain ⟨_, ⟨b7, b8, b9, rfl, aw⟩, aT⟩ := h1.elem ((Z - 1).toNat) ai ak
   have aU := aw.len
   subst aU
   have bI := aw.max
   refine .lh 0 aT <| .cl (c_impl_NameText ai aw.ta (p0.nm.sz _ (by assumption)) (w := bD) (F := all)) ?_
   rintro cd ce ⟨rfl, ax⟩
   replace ⟨E, J, aa, C, O⟩ := (se [r_out, V] ax).g5 E J aa C O
   clear ax
   refine .r 2 <| .ns 1 66 [.string (bs (textI ai)), .slice bE ((cutI (rowsOf s Z) from_ to_).length) bF] fun aP cg af ay aV aW => ?_
   have aX := nb_new af E.lt
   have az := nb_new af J.lt
   have aY := gb_new af C.size
   replace ⟨J, aa, C, O⟩ := (se [r_out, V] ay).g4 J aa C O
   clear ay aW af
   have ao : nin (ge w.heap.size) [r_out, V] aP ∧ aP ≠ r_out := hap_mk aY (all_cons az (all_cons aX all_nil)) az
   refine RG.append1 (T := 61) (ty := 61) (y := (⟨textI ai, cutI (rowsOf s Z) from_ to_⟩ : Hit)) J aV (by kernel_rfl) (by kernel_rfl) ⟨_, _, _, rfl, aa.oi⟩ ao (by have q1 := findP_len (fitsI f) s.idx.names 0; have q2 := p0.nm.len; omega) fun bu bv ci ae al aA => ?_
   have aZ := orb_or al ac O.size
   replace ⟨C, O⟩ := (s1 aA).g2 C O
   clear aA
   replace ae := ae.rn r_out
   clear al
   have bJ := ae.len; have bK := ae.max
   exact .r 1 <| .d <| .ib 1 <| .g <| RG.int ((k : Int) + 1) (by kernel_rfl) (by first | omega | (have q1 := findP_in (by assumption : _ ∈ findP _ 0 s.idx.names); omega)) <| .r 1 <| .d <| ah ((out ++ [(⟨textI ai, cutI (rowsOf s Z) from_ to_⟩ : Hit)]), bu, n_out + 1, bv, k + 1) _ _ ⟨by kernel_rfl, by kernel_rfl, by kernel_rfl, by kernel_rfl, by kernel_rfl, by kernel_rfl, by kernel_rfl, trivial⟩ ⟨O, ae, aZ, (by omega), (by first | omega | (simp; omega)), (by first | exact askStepI p0 (by assumption) (by assumption) (by assumption) (by assumption) (by assumption) | exact askSkipI p0 (by assumption) (by assumption) (by assumption) (by assumption))⟩ (by first | omega | (simp only []; omega))
 refine .d <| .s <| .cf <| .x 0 rfl <| .s <| .g <| .r 2 <| .d ?_
 have bw := J.sl bk
 exact .rt Tryz.func33 Tryz.results33 (vS r_out n_out c_out) ⟨(bw.vl (by first | rw [askS_1 (.inl (by assumption))] | exact (askEndI p0 (by assumption) (by assumption) (by omega)).symm) (fun _ _ h => h.1)), C⟩
theorem c_laws_lySays (a : Sto) (b : Sto) {w : World} {F : Nat → Prop} {a1 : Option Addr} {n1 c1 : Nat} (h1 : RepS w F a1 n1 c1 a.idx.names) {a2 : Option Addr} {n2 c2 : Nat} (h2 : RepS w F a2 n2 c2 a.idx.posts) {a3 : Option Addr} {n3 c3 : Nat} (h3 : RepS w F a3 n3 c3 a.parts) {a4 : Option Addr} {n4 c4 : Nat} (h4 : RepS w F a4 n4 c4 a.mem) {a5 : Option Addr} {n5 c5 : Nat} (h5 : RepS w F a5 n5 c5 b.idx.names) {a6 : Option Addr} {n6 c6 : Nat} (h6 : RepS w F a6 n6 c6 b.idx.posts) {a7 : Option Addr} {n7 c7 : Nat} (h7 : RepS w F a7 n7 c7 b.parts) {a8 : Option Addr} {n8 c8 : Nat} (h8 : RepS w F a8 n8 c8 b.mem) (p0 : SD a) (p1 : SD b) : Calls Tryz.prog 41 [.agg #[.slice a1 n1 c1, .slice a2 n2 c2, .slice a3 n3 c3, .slice a4 n4 c4], .agg #[.slice a5 n5 c5, .slice a6 n6 c6, .slice a7 n7 c7, .slice a8 n8 c8]].toArray w (rets fun rv w' => rv = .bool ((askS a [] 0 99 == askS b [] 0 99)) ∧ Ext w w') := by
 refine goT Tryz.func41 ?_
 obtain ⟨rfl, ay, h1⟩ := h1.tp
 obtain ⟨rfl, az, h2⟩ := h2.tp
 obtain ⟨rfl, aA, h3⟩ := h3.tp
 obtain ⟨rfl, aB, h4⟩ := h4.tp
 obtain ⟨rfl, aC, h5⟩ := h5.tp
 obtain ⟨rfl, aD, h6⟩ := h6.tp
 obtain ⟨rfl, aE, h7⟩ := h7.tp
 obtain ⟨rfl, aF, h8⟩ := h8.tp
 refine .s <| .g <| .np 30 [.slice a1 a.idx.names.length c1, .slice a2 a.idx.posts.length c2, .slice a3 a.parts.length c3, .slice a4 a.mem.length c4] fun W aI ae Z E aq => ?_
 replace ⟨h1, h2, h3, h4, h5, h6, h7, h8⟩ := (sn [] Z ae).g8 h1 h2 h3 h4 h5 h6 h7 h8
 have C := Z
 clear Z aq ae
 refine .np 30 [.slice a5 b.idx.names.length c5, .slice a6 b.idx.posts.length c6, .slice a7 b.parts.length c7, .slice a8 b.mem.length c8] fun aa aJ af ag J ar => ?_
 replace ⟨h1, h2, h3, h4, h5, h6, h7, h8, E, C⟩ := (sn [W] ag af).g10 h1 h2 h3 h4 h5 h6 h7 h8 E C
 clear ag ar af
 refine .r 1 <| .d <| .s <| .gd nil 3 fun aK ah => ?_
 replace ⟨h1, h2, h3, h4, h5, h6, h7, h8, E, J, C⟩ := (se [aa, W] ah).g11 h1 h2 h3 h4 h5 h6 h7 h8 E J C
 clear ah
 refine .ln 0 E id <| .ln 2 J id <| .go 1 <| .cl (fun ao O => c_impl_StoreAsk a ([] : List Cnd) 0 99 (h1.ta.ext O) (h2.ta.ext O) (h3.ta.ext O) (h4.ta.ext O) ((RepS.nil' _ all none 0 (by decide)).ext O) (by first | exact p0 | exact p1) (w := ao) (F := all)) ?_
 intro ao O
 replace ⟨h5, h6, h7, h8, E, J, C⟩ := (se [aa, W] O).g7 h5 h6 h7 h8 E J C
 rintro aL aM ⟨⟨aN, aO, rfl, V⟩, ab⟩
 have ai := al2 J.lt E.lt
 have au : Gb w.heap.size ao.heap.size := C.size
 have hkeep_ := ab
 replace ⟨h5, h6, h7, h8, E, J, C⟩ := (se [aa, W] ab).g7 h5 h6 h7 h8 E J C
 clear ab
 refine ⟨Ext.chg hkeep_, ?_⟩
 have V := V.fr ai au
 have aG := V.max
 clear ai
 refine .d fun av aj => ?_
 replace ⟨h5, h6, h7, h8, E, J, V, C⟩ := (se [aa, W] aj).g8 h5 h6 h7 h8 E J V C
 clear aj
 refine .cl (c_impl_StoreAsk b ([] : List Cnd) 0 99 h5.ta h6.ta h7.ta h8.ta (RepS.nil' _ all none 0 (by decide)) (by first | exact p0 | exact p1) (w := av) (F := all)) ?_
 rintro aP ax ⟨⟨aQ, aR, rfl, ac⟩, ak⟩
 have al := al2 J.lt E.lt
 have aw : Gb w.heap.size av.heap.size := C.size
 replace ⟨V, C⟩ := (se [aa, W] ak).g2 V C
 clear ak
 have ac := ac.fr al aw
 have aH := ac.max
 clear al
 refine .cl (c_laws_lyHits (askS a ([] : List Cnd) 0 99) (askS b ([] : List Cnd) 0 99) V.ta ac.ta (w := ax) (F := all)) ?_
 rintro aS aT ⟨rfl, am⟩
 replace C := (se [] am).g1 C
 clear am
 exact .r 1 <| .d <| .rt Tryz.func41 Tryz.results41 (.bool ((askS a ([] : List Cnd) 0 99) == (askS b ([] : List Cnd) 0 99))) ⟨(congrArg Value.bool (by rfl)), C⟩
end Go.Proofs.YtfnpaglcnmcnbaaGreat
