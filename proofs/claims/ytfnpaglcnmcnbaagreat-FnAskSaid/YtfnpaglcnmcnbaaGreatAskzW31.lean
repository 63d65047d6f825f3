/- walks; squeezed -/
import Derived.Test.YtfnpaglcnmcnbaaGreatAskzW30
set_option linter.unusedVariables false
set_option linter.unusedSimpArgs false
namespace Go.Proofs.YtfnpaglcnmcnbaaGreat
set_option maxRecDepth 100000
set_option maxHeartbeats 4000000
theorem c_laws_lyHits (a : List Hit) (b : List Hit) {w : World} {F : Nat → Prop} {a1 : Option Addr} {n1 c1 : Nat} (h1 : RepS w F a1 n1 c1 a) {a2 : Option Addr} {n2 c2 : Nat} (h2 : RepS w F a2 n2 c2 b)  : Calls Tryz.prog 34 [.slice a1 n1 c1, .slice a2 n2 c2].toArray w (rets fun rv w' => rv = .bool ((a == b)) ∧ Ext w w') := by
 refine goT Tryz.func34 ?_
 obtain ⟨rfl, aA, h1⟩ := h1.tp
 obtain ⟨rfl, aB, h2⟩ := h2.tp
 refine .s <| .g <| .r 1 <| .d <| .s <| .s <| .g <| .r 4 <| .ne (a.length : Int) (b.length : Int) (fun al => .d <| .ct <| .s <| .g <| .r 1 <| .d <| .rt Tryz.func34 Tryz.results34 (.bool false) ⟨(congrArg Value.bool (by grind [drop_end, hit_eq])), (Chg.refl _ _)⟩) fun al => .d <| .cf <| .sk <| .s <| .s <| .g <| .r 1 <| .d <| .b 0 <| T.loop (X := Nat) 0 (fun i => [(0, .slice a1 a.length c1), (1, .slice a2 b.length c2), (5, vI (i : Int))]) (fun i ac => Chg (ins []) w ac ∧ (i ≤ a.length) ∧ (a.drop i = b.drop i ↔ a = b)) (fun i => a.length - i) (by kernel_rfl) ⟨by kernel_rfl, by kernel_rfl, by kernel_rfl, trivial⟩ ⟨Chg.refl _ _, (by simp), (by simp)⟩ ?_
 rintro i aK ac ⟨C, aC, aD⟩ Z
 have ae : Mv [] [] w ac := Mv.inl C all_nil all_nil
 replace ⟨h1, h2⟩ := (sp ae C).g2 h1 h2
 have E : Chg nil w ac := Chg.stepI (Chg.refl nil w) C all_nil
 clear ae
 refine .s <| .s <| .g <| .r 3 <| .bp ((i : Int) < (a.length : Int)) (fun am => ?_) (fun am => .d <| .cf <| .x 0 rfl <| .s <| .g <| .r 1 <| .d <| .rt Tryz.func34 Tryz.results34 (.bool true) ⟨(congrArg Value.bool (by grind [drop_end, hit_eq])), E⟩)
 refine .d <| .ct <| .sk <| .s <| .b 1 <| .s <| .gd nil 22 fun aL af => ?_
 replace ⟨h1, h2, E, C⟩ := (se [] af).g4 h1 h2 E C
 clear af
 refine .r [0, 1] ?_
 have ao : i < a.length := (by omega)
 refine .ix 2 i 2 h1 ao <| .r [3] ?_
 obtain ⟨V, aa⟩ : ∃ y, a[i]? = some y := ⟨_, List.getElem?_eq_getElem (by omega)⟩
 have aE := drop_at aa; have ax := List.mem_of_getElem? aa
 obtain ⟨_, ⟨aM, aN, aO, rfl, J⟩, ag⟩ := h1.elem i V aa
 have aq := J.len
 subst aq
 have aF := J.max
 refine .lh 4 0 ag id <| .r [5, 6] ?_
 have ar : i < b.length := (by omega)
 refine .ix 7 i 2 h2 ar <| .r [8] ?_
 obtain ⟨W, ab⟩ : ∃ y, b[i]? = some y := ⟨_, List.getElem?_eq_getElem (by omega)⟩
 have aG := drop_at ab; have ay := List.mem_of_getElem? ab
 obtain ⟨_, ⟨aP, aQ, aR, rfl, O⟩, ah⟩ := h2.elem i W ab
 have au := O.len
 subst au
 have aH := O.max
 refine .lh 9 0 ah id <| GA.eqv (i := 10) (v := .bool (!(V.name == W.name))) (by kernel_rfl) (s_ne V.name W.name) ?_
 cases aI : (V.name == W.name)
 · refine .r [11, 12, 13, 14, 15, 16, 17, 18, 19, 20, 21] <| .d fun aS ai => ?_
   replace ⟨h1, h2, J, O, E, C⟩ := (se [] ai).g6 h1 h2 J O E C
   clear ai
   exact .r 3 <| .d <| .ct <| .s <| .g <| .r 1 <| .d <| .rt Tryz.func34 Tryz.results34 (.bool false) ⟨(congrArg Value.bool (by grind [drop_end, hit_eq])), E⟩
 refine .r [11, 12, 13] ?_
 have av : i < a.length := (by omega)
 refine .ix 14 i 2 h1 av <| .r [15] <| .lh 16 1 ag id <| .r [17, 18] ?_
 have aw : i < b.length := (by omega)
 refine .ix 19 i 2 h2 aw <| .r [20] <| .lh 21 1 ah id <| .d fun az aj => ?_
 replace ⟨J, O, E, C⟩ := (se [] aj).g4 J O E C
 clear aj
 refine .cl (c_laws_lyRows V.rows W.rows J.ta O.ta (w := az) (F := all)) ?_
 rintro aT aU ⟨rfl, ak⟩
 replace ⟨E, C⟩ := (se [] ak).g2 E C
 clear ak
 cases aJ : (V.rows == W.rows)
 · exact .r 2 <| .d <| .ct <| .s <| .g <| .r 1 <| .d <| .rt Tryz.func34 Tryz.results34 (.bool false) ⟨(congrArg Value.bool (by grind [drop_end, hit_eq])), E⟩
 exact .r 2 <| .d <| .cf <| .sk <| .ib 1 <| .g <| .r 1 <| .it ((i : Int) + 1) <| .r 1 <| .d <| Z (i + 1) _ _ ⟨by kernel_rfl, by kernel_rfl, by kernel_rfl, trivial⟩ ⟨C, (by omega), (by grind [hit_eq])⟩ (by first | omega | (simp only []; omega))
theorem c_spec_l71Filter  {w : World} {F : Nat → Prop} {b : Nat} {ad : Option Addr} {cd p : Nat} {D : List UInt8} (hr : Box w b 140 [.slice ad D.length cd, .int .i64 (p : Int)]) (hD : RepS w (nin all [b]) ad D.length cd D) (hp : p + 40 ≤ 1000000000)  : Calls Tryz.prog 83 [.pointer (some ⟨b, 0, none⟩)].toArray w (rets fun rv w' => (∃ (y : List Cnd), VL (ge w.heap.size) w' (y : List Cnd) rv ∧ y.length ≤ 10) ∧ ∃ p' : Nat, p' ≤ p + 40 ∧ Box w' b 140 [.slice ad D.length cd, .int .i64 (p' : Int)] ∧ Chg (one b) w w') := by
 refine goT Tryz.func83 ?_
 have cG := hD.max
 refine .s <| .g <| .r 1 <| .d <| .s <| .g <| .ns 0 124 [] fun ae bm aq aD bH bI => ?_
 have bJ := nb_new aq hr.lt
 have bK := gb_new aq (Nat.le_refl _)
 have bL : Cov (one b) w ae := cov_new aq (Nat.le_refl _)
 replace ⟨hD, hr⟩ := (sn [b] aD aq).g2 hD hr
 have C : Chg (one b) w bm := Chg.stepN (Chg.refl (one b) w) aD
 clear aD bI aq
 have aE : Own (α := Cnd) bm ae 124 (nin (ge w.heap.size) [ae, b]) 0 0 [] := Own.nil' bH
 refine .r 1 <| .d <| .s <| .s <| .g <| .r 1 <| .cl (c_spec_l6Rd_pick 3 hr (hD.toAll (.tail _ (.head _))) (by omega) (w := bm) (F := all)) ?_
 rintro da aF ⟨⟨b9, rfl, cH⟩, ce, cI, aU, aV⟩
 replace ⟨hD, aE, C⟩ := (so [ae, b] aV).g3 hD aE C
 clear aV
 refine .r 1 <| .d <| .b 0 <| T.loop (X := (List Cnd) × Nat × Nat × Nat × Int × Nat) (([] : List Cnd), ae, 0, 0, b9, ce) (fun (out, r_out, n_out, c_out, n, p_) => [(0, .pointer (some ⟨b, 0, none⟩)), (3, vS r_out n_out c_out), (4, vI n)]) (fun (out, r_out, n_out, c_out, n, p_) au => Chg (ins [ae, b]) aF au ∧ Own au r_out 124 (nin (ge w.heap.size) [r_out, b]) n_out c_out out ∧ OrB r_out ae aF.heap.size ∧ Box au b 140 [.slice ad D.length cd, vI (p_ : Int)] ∧ (0 ≤ n) ∧ ((out.length : Int) + n ≤ 2) ∧ ((p_ : Int) + 3 * n ≤ p + 7)) (fun (out, r_out, n_out, c_out, n, p_) => n.toNat) (by kernel_rfl) ⟨by kernel_rfl, by kernel_rfl, by kernel_rfl, trivial⟩ ⟨Chg.refl _ _, aE, orb_refl, aU, (by first | omega | (simp; omega)), (by first | omega | (simp; omega)), (by first | omega | (simp; omega))⟩ ?_
 rintro ⟨out, r_out, n_out, c_out, n, p_⟩ db au ⟨W, E, ai, aW, cJ, cK, cL⟩ aG
 have aX := nb_or' ai bJ aU.lt
 have aH := gb_or' ai bK C.size
 have bM := cov_or' ai bL C.size
 have bN : Cov (ins [ae, b]) aF ae := ⟨.inl (.head _)⟩
 have cM : Cov (ins [ae, b]) aF b := ⟨.inl (.tail _ (.head _))⟩
 have cN := cov_or' ai bN (Nat.le_refl _)
 have aY : Mv [ae, b] [r_out, b] aF au := Mv.inl W (all_cons (.head _) (all_cons (.tail _ (.head _)) all_nil)) (all_cons (orb_mem ai (.head _)) (all_cons (.inl (.tail _ (.head _))) all_nil))
 replace ⟨hD, C⟩ := (sp aY W).g2 hD C
 clear aY
 have cO := E.len; have cP := E.max
 refine .s <| .s <| .g <| .r 1 <| .bp (n > 0) (fun bO => ?_) (fun bO => ?_)
 · refine .d <| .ct <| .sk <| .s <| .b 1 <| .g <| .r 2 <| .cl (c_spec_l71Tag aW (hD.toAll (.tail _ (.head _))) (by omega) (w := au) (F := all)) ?_
   rintro dd cg ⟨⟨ax, ⟨_, rfl, rfl⟩, cQ⟩, de, cR, bP, aZ⟩
   replace ⟨hD, E, C, W⟩ := (so [r_out, b] aZ).g4 hD E C W
   clear aZ
   refine .r 1 <| .cl (c_spec_l6Rd_pick 3 bP (hD.toAll (.tail _ (.head _))) (by omega) (w := cg) (F := all)) ?_
   rintro df dg ⟨⟨bn, rfl, cS⟩, ci, cT, aj, ba⟩
   replace ⟨hD, E, C, W⟩ := (so [r_out, b] ba).g4 hD E C W
   clear ba
   refine .r 2 <| .ns 1 124 [vT ax.key, vT ax.val, .bool (bn == 0)] fun bQ dh aw bc bR bS => ?_
   have bT := nb_new aw aj.lt
   have bd := nb_new aw E.lt
   have bU := gb_new aw C.size
   replace ⟨hD, aj, E, C, W⟩ := (se [r_out, b] bc).g5 hD aj E C W
   clear bc bS aw
   have aI : nin (ge w.heap.size) [r_out, b] bQ ∧ bQ ≠ r_out := hap_mk bU (all_cons bd (all_cons bT all_nil)) bd
   refine RG.append1 (T := 58) (ty := 58) (y := (⟨(⟨ax.key, ax.val⟩ : Tag), (bn == 0)⟩ : Cnd)) E bR (by kernel_rfl) (by kernel_rfl) rfl aI (by omega) fun cj ck di ar av bg => ?_
   have bV := orb_or av ai W.size
   replace ⟨hD, aj, C, W⟩ := (sa [r_out, b] bg av).g4 hD aj C W
   clear bg
   replace ar := ar.rn r_out
   clear av
   have cU := ar.len; have cV := ar.max
   exact .r 1 <| .d <| .ib 1 <| .g <| .r 1 <| .it (n - 1) <| .r 1 <| .d <| aG ((out ++ [(⟨(⟨ax.key, ax.val⟩ : Tag), (bn == 0)⟩ : Cnd)]), cj, n_out + 1, ck, n - 1, ci) _ _ ⟨by kernel_rfl, by kernel_rfl, by kernel_rfl, trivial⟩ ⟨W, ar, bV, aj, (by first | omega | (simp; omega)), (by first | omega | (simp; omega)), (by first | omega | (simp; omega))⟩ (by first | omega | (simp only []; omega))
 refine .d <| .cf <| .x 0 rfl <| .s <| .s <| .g <| .r 1 <| .cl (c_spec_l6Rd_pick 30 aW (hD.toAll (.tail _ (.head _))) (by omega) (w := au) (F := all)) ?_
 rintro cW ay ⟨⟨bh, rfl, cm⟩, aJ, co, J, bi⟩
 replace ⟨hD, E, C⟩ := (so [r_out, b] bi).g3 hD E C
 clear bi
 refine .d <| .b 2 <| .s <| .g <| .eq bh 0 (fun bo => ?_) (fun bo => ?_)
 · refine .r 1 <| .d <| .ct <| .b 3 <| T.loop (X := (List Cnd) × Nat × Nat × Nat × Nat) ((out : List Cnd), r_out, n_out, c_out, aJ) (fun (Z, r_out1, n_out1, c_out1, az) => [(0, .pointer (some ⟨b, 0, none⟩)), (3, vS r_out1 n_out1 c_out1)]) (fun (Z, r_out1, n_out1, c_out1, az) af => Chg (ins [r_out, b]) ay af ∧ Own af r_out1 124 (nin (ge w.heap.size) [r_out1, b]) n_out1 c_out1 Z ∧ OrB r_out1 r_out ay.heap.size ∧ Box af b 140 [.slice ad D.length cd, vI (az : Int)] ∧ (Z.length ≤ 4) ∧ (az + 2 * (4 - Z.length) ≤ p + 17)) (fun (Z, r_out1, n_out1, c_out1, az) => 4 - Z.length) (by kernel_rfl) ⟨by kernel_rfl, by kernel_rfl, trivial⟩ ⟨Chg.refl _ _, E, orb_refl, J, (by first | omega | (simp; omega)), (by first | omega | (simp; omega))⟩ ?_
   rintro ⟨Z, r_out1, n_out1, c_out1, az⟩ cX af ⟨O, V, aa, aK, cp, cq⟩ aA
   have cr := nb_or' aa aX J.lt
   have bq := gb_or' aa aH C.size
   have cu := cov_or' aa bM C.size
   have br : Cov (ins [r_out, b]) ay r_out := ⟨.inl (.head _)⟩
   have cv : Cov (ins [r_out, b]) ay b := ⟨.inl (.tail _ (.head _))⟩
   have cw := cov_or' aa br (Nat.le_refl _)
   have aL : Mv [r_out, b] [r_out1, b] ay af := Mv.inl O (all_cons (.head _) (all_cons (.tail _ (.head _)) all_nil)) (all_cons (orb_mem aa (.head _)) (all_cons (.inl (.tail _ (.head _))) all_nil))
   replace ⟨hD, C⟩ := (sp aL O).g2 hD C
   clear aL
   have cx := V.len; have cy := V.max
   refine .s <| .s <| .g <| .r 2 <| .bp ((n_out1 : Int) ≤ 3) (fun bt => ?_) (fun bt => ?_)
   · refine .d <| .ct <| .sk <| .b 4 <| .g <| .r 2 <| .cl (c_spec_l71Tag aK (hD.toAll (.tail _ (.head _))) (by omega) (w := af) (F := all)) ?_
     rintro cY cZ ⟨⟨ak, ⟨_, rfl, rfl⟩, cz⟩, bW, cA, ab, aM⟩
     replace ⟨hD, V, C, O⟩ := (so [r_out1, b] aM).g4 hD V C O
     clear aM
     refine .r 1 <| .ns 1 124 [vT ak.key, vT ak.val, .bool false] fun bj c7 al aN bu bv => ?_
     have bw := nb_new al ab.lt
     have aO := nb_new al V.lt
     have bz := gb_new al C.size
     replace ⟨hD, ab, V, C, O⟩ := (se [r_out1, b] aN).g5 hD ab V C O
     clear aN bv al
     have aB : nin (ge w.heap.size) [r_out1, b] bj ∧ bj ≠ r_out1 := hap_mk bz (all_cons aO (all_cons bw all_nil)) aO
     refine RG.append1 (T := 58) (ty := 58) (y := (⟨(⟨ak.key, ak.val⟩ : Tag), false⟩ : Cnd)) V bu (by kernel_rfl) (by kernel_rfl) rfl aB (by omega) fun bX bY c8 ag am aP => ?_
     have bA := orb_or am aa O.size
     replace ⟨hD, ab, C, O⟩ := (sa [r_out1, b] aP am).g4 hD ab C O
     clear aP
     replace ag := ag.rn r_out1
     clear am
     have cB := ag.len; have cC := ag.max
     exact .r 1 <| .d <| .ib 4 <| aA ((Z ++ [(⟨(⟨ak.key, ak.val⟩ : Tag), false⟩ : Cnd)]), bX, n_out1 + 1, bY, bW) _ _ ⟨by kernel_rfl, by kernel_rfl, trivial⟩ ⟨O, ag, bA, ab, (by first | omega | (simp; omega)), (by first | omega | (simp; omega))⟩ (by first | omega | (simp only []; omega))
   refine .d <| .cf <| .x 3 rfl <| .ib 2 <| .s <| .g <| .r 2 <| .d ?_
   have bZ := V.sl bq
   replace hD := (sd af [r_out1, b] r_out1).g1 hD
   exact .rt Tryz.func83 Tryz.results83 (vS r_out1 n_out1 c_out1) ⟨⟨(Z : List Cnd), (bZ.vl (by rfl) (fun _ _ h => h.1)), (by first | omega | (simp; omega))⟩, az, by omega, aK, C⟩
 refine .r 1 <| .d <| .cf <| .s <| .g <| .eq bh 1 (fun bB => ?_) (fun bB => ?_)
 · refine .r 1 <| .d <| .ct <| .g <| .r 3 <| .ns 1 124 [.string (bs [101]), .string (bs [112]), .bool false] fun bk c9 ao aQ bC bD => ?_
   have bE := nb_new ao J.lt
   have aR := nb_new ao E.lt
   have bF := gb_new ao C.size
   replace ⟨hD, J, E, C⟩ := (se [r_out, b] aQ).g4 hD J E C
   clear aQ bD ao
   have aC : nin (ge w.heap.size) [r_out, b] bk ∧ bk ≠ r_out := hap_mk bF (all_cons aR (all_cons bE all_nil)) aR
   refine RG.append1 (T := 58) (ty := 58) (y := (⟨(⟨[101], [112]⟩ : Tag), false⟩ : Cnd)) E bC (by kernel_rfl) (by kernel_rfl) rfl aC (by omega) fun aS b0 b6 ah ac aT => ?_
   have cD := nb_or ac aX J.lt
   have bG := gb_or ac aH C.size
   replace ⟨hD, J, C⟩ := (sa [r_out, b] aT ac).g3 hD J C
   clear aT
   replace ah := ah.rn r_out
   clear ac
   have cE := ah.len; have cF := ah.max
   refine .r 1 <| .d <| .ib 2 <| .s <| .g <| .r 2 <| .d ?_
   have b7 := ah.sl bG
   replace hD := (sd b6 [aS, b] aS).g1 hD
   exact .rt Tryz.func83 Tryz.results83 (vS aS (n_out + 1) b0) ⟨⟨((out ++ [(⟨(⟨[101], [112]⟩ : Tag), false⟩ : Cnd)]) : List Cnd), (b7.vl (by rfl) (fun _ _ h => h.1)), (by first | omega | (simp; omega))⟩, aJ, by omega, J, C⟩
 refine .r 1 <| .d <| .cf <| .sk <| .ib 2 <| .s <| .g <| .r 2 <| .d ?_
 have b8 := E.sl aH
 replace hD := (sd ay [r_out, b] r_out).g1 hD
 exact .rt Tryz.func83 Tryz.results83 (vS r_out n_out c_out) ⟨⟨(out : List Cnd), (b8.vl (by rfl) (fun _ _ h => h.1)), (by first | omega | (simp; omega))⟩, aJ, by omega, J, C⟩
theorem c_spec_DrawStoreAsk (code : List UInt8) {w : World} {F : Nat → Prop} {a1 : Option Addr} {n1 c1 : Nat} (h1 : RepS w F a1 n1 c1 code)  : Calls Tryz.prog 32 [.slice a1 n1 c1].toArray w (rets fun rv w' => (∃ (s : Sto) (f : List Cnd) (lo : Int) (hi : Int), (∃ v0 v1, rv = .tuple #[v0, v1, .int .i64 (lo), .int .i64 (hi)] ∧ VS (fo F w.heap.size) w' (s : Sto) v0 ∧ VL (fo F w.heap.size) w' (f : List Cnd) v1) ∧ SD s ∧ (-1 ≤ lo ∧ lo ≤ 18) ∧ (-2 ≤ hi ∧ hi ≤ 76)) ∧ Ext w w') := by
 refine goT Tryz.func32 ?_
 obtain ⟨rfl, cT, h1⟩ := h1.tp
 refine .s <| .g <| .np 30 [.slice none 0 0, .slice none 0 0, .slice none 0 0, .slice none 0 0] fun ac cd aX aY V ce => ?_
 have cU : Cov nil w ac := cov_new aX (Nat.le_refl _)
 replace h1 := (sn [] aY aX).g1 h1
 have E := aY
 clear aY ce aX
 refine .r 3 <| .d <| .s <| .g <| .r 1 <| .cl (c_spec_l6Open code h1 (w := cd) (F := nin (fo F w.heap.size) [ac])) ?_
 rintro dG bM ⟨⟨dH, ae, dI, dJ, rfl, aZ, ba, J⟩, bC⟩
 have bD := al1 V.lt
 have cg : Gb w.heap.size cd.heap.size := E.size
 have cV := nb_ge aZ V.lt
 have cW : Cov nil w ae := cov_ge aZ E.size
 replace ⟨V, E⟩ := (se [] bC).g2 V E
 clear bC aZ
 replace J := RepS.mixedR (b := ae) (M := [ac]) J bD cg
 clear bD
 refine .r 1 <| .d <| .s <| .g <| .r 1 <| .cl (c_spec_l72World ba (J.toAll (.head _)) (by omega) (w := bM) (F := all)) ?_
 rintro dK aI ⟨⟨ah, ⟨ay, dL, az, aA, dM, aB, aC, dN, aD, af, aE, aF, dO, dP, dQ, dR, dS, dT, dU, dV, dW, rfl, Z, aa, ab, O, aJ, aU, aV, aW⟩, cX⟩, dX, cY, ao, bc⟩
 have am := al2 ba.lt V.lt
 have aq : Gb w.heap.size bM.heap.size := E.size
 have cZ := nb_ge aJ V.lt
 have c7 := nb_ge aJ ba.lt
 have bE := gb_ge aJ E.size
 have bF : Mv [ae, ac] [af, ae, ac] bM aI := Mv.cons (Mv.on bc (.head _)) aJ
 replace ⟨V, J, E⟩ := (sp bF bc).g3 V J E
 clear bF bc aJ
 replace Z : RepS aI (nin (ge w.heap.size) [af, ae, ac]) _ _ _ _ := RepS.takeM (s0 := w.heap.size) (M := [ae, ac]) Z am aq
 replace Z := Z.base (G' := fo F w.heap.size) (fun _ _ h => .inr h)
 have c8 := Z.max
 replace aa : RepS aI (nin (ge w.heap.size) [af, ae, ac]) _ _ _ _ := RepS.takeM (s0 := w.heap.size) (M := [ae, ac]) aa am aq
 replace aa := aa.base (G' := fo F w.heap.size) (fun _ _ h => .inr h)
 have c9 := aa.max
 replace ab : RepS aI (nin (ge w.heap.size) [af, ae, ac]) _ _ _ _ := RepS.takeM (s0 := w.heap.size) (M := [ae, ac]) ab am aq
 replace ab := ab.base (G' := fo F w.heap.size) (fun _ _ h => .inr h)
 have da := ab.max
 replace O : Own aI af 51 (nin (ge w.heap.size) [af, ae, ac]) _ _ _ := Own.takeM (s0 := w.heap.size) (M := [ae, ac]) O am aq
 replace O := O.base (G' := fo F w.heap.size) (fun _ _ h => .inr h)
 have db := O.max
 have dd := O.len
 replace aU : RepS aI (nin (ge w.heap.size) [af, ae, ac]) _ _ _ _ := RepS.takeM (s0 := w.heap.size) (M := [ae, ac]) aU am aq
 replace aU := aU.base (G' := fo F w.heap.size) (fun _ _ h => .inr h)
 have de := aU.max
 replace aV : RepS aI (nin (ge w.heap.size) [af, ae, ac]) _ _ _ _ := RepS.takeM (s0 := w.heap.size) (M := [ae, ac]) aV am aq
 replace aV := aV.base (G' := fo F w.heap.size) (fun _ _ h => .inr h)
 have df := aV.max
 replace aW : RepS aI (nin (ge w.heap.size) [af, ae, ac]) _ _ _ _ := RepS.takeM (s0 := w.heap.size) (M := [ae, ac]) aW am aq
 replace aW := aW.base (G' := fo F w.heap.size) (fun _ _ h => .inr h)
 have dg := aW.max
 clear am
 have ci := Z.len
 subst ci
 have cj := aa.len
 subst cj
 have ck := ab.len
 subst ck
 have cm := aU.len
 subst cm
 have co := aV.len
 subst co
 have cp := aW.len
 subst cp
 refine .r 1 <| .np 30 [.slice none 0 0, .slice none 0 0, .slice none 0 0, .slice none 0 0] fun aj dh al bd bN bO => ?_
 have bg := nb_new al V.lt
 have bh := nb_new al ao.lt
 have bi := nb_new al O.lt
 have cA := E.cn al
 replace ⟨V, J, ao, Z, aa, ab, O, E⟩ := (sn [af, ae, ac] bd al).g8 V J ao Z aa ab O E
 clear bd bO al
 refine .sc [.slice ay ah.store.idx.names.length az, .slice aA ah.store.idx.posts.length aB, .slice aC ah.store.parts.length aD, vS af aE aF] bN fun bG bj W bP => ?_
 replace ⟨V, J, ao, Z, aa, ab, O, E⟩ := (so [aj, af, ae, ac] bj).g8 V J ao Z aa ab O E
 clear bj bP
 refine .d <| .s <| .g <| .r 1 <| .cl (c_spec_l71Filter ao (J.toAll (.tail _ (.tail _ (.head _)))) (by omega) (w := bG) (F := all)) ?_
 rintro di cq ⟨⟨bH, ⟨cr, cu, rfl, C⟩, cB⟩, dj, cC, bQ, bk⟩
 have bm := al4 W.lt O.lt ao.lt V.lt
 have bR : Gb w.heap.size bG.heap.size := E.size
 replace ⟨V, J, Z, aa, ab, O, W, E⟩ := (so [aj, af, ae, ac] bk).g8 V J Z aa ab O W E
 clear bk
 have C := C.fr bm bR
 replace C := C.base (G' := fo F w.heap.size) (fun _ _ h => .inr h)
 have cD := C.max
 clear bm
 refine .r 1 <| .d <| .s <| .s <| .g <| .r 1 <| .cl (c_spec_l6Rd_pick 3 bQ (J.toAll (.tail _ (.tail _ (.head _)))) (by omega) (w := cq) (F := all)) ?_
 rintro dk cv ⟨⟨cw, rfl, cE⟩, dm, cF, ar, bn⟩
 replace ⟨V, J, Z, aa, ab, O, W, C, E⟩ := (so [aj, af, ae, ac] bn).g9 V J Z aa ab O W C E
 clear bn
 refine .eq cw 0 (fun bS => ?_) (fun bS => ?_)
 · refine .d <| .ct <| .g <| .ns 0 124 [] fun ai bI ak bo bT bU => ?_
   have cG := nb_new ak V.lt
   have cH := nb_new ak ar.lt
   have cI := nb_new ak O.lt
   have bV := nb_new ak W.lt
   have bW := gb_new ak E.size
   replace ⟨V, J, ar, Z, aa, ab, O, W, C, E⟩ := (sn [aj, af, ae, ac] bo ak).g10 V J ar Z aa ab O W C E
   clear bo bU ak
   have ag : Own (α := Cnd) bI ai 124 (nin (fo F w.heap.size) [ai, aj, af, ae, ac]) 0 0 [] := Own.nil' bT
   refine .r 1 <| .d <| .s <| .g <| .r 1 <| .cl (c_spec_l6Rd_pick 20 ar (J.toAll (.tail _ (.tail _ (.tail _ (.head _))))) (by omega) (w := bI) (F := all)) ?_
   rintro dp aw ⟨⟨au, rfl, cJ⟩, dq, cK, aK, bq⟩
   replace ⟨V, J, Z, aa, ab, O, W, C, ag, E⟩ := (so [ai, aj, af, ae, ac] bq).g10 V J Z aa ab O W C ag E
   clear bq
   refine .it (au - 1) <| .r 1 <| .d <| .s ?_
   replace J := J.into
   replace Z := Z.into
   replace aa := aa.into
   replace ab := ab.into
   replace C := C.into
   have bX : Cov (mtb [af, ai, ac, ae] aw.heap.size) aw ac := ⟨.inl (.inl (.tail _ (.tail _ (.head _))))⟩
   have bY : Cov (mtb [af, ai, ac, ae] aw.heap.size) aw ae := ⟨.inl (.inl (.tail _ (.tail _ (.tail _ (.head _)))))⟩
   have bZ : Gb (aj + 1) aw.heap.size := W.lt
   refine .gd (mtb [af, ai, ac, ae] aw.heap.size) 11 fun dr br => ?_
   replace ⟨V, J, aK, Z, aa, ab, O, W, C, ag, E⟩ := (se [ai, aj, af, ae, ac] br).g11 V J aK Z aa ab O W C ag E
   clear br
   refine .ln 0 W (nS_of (all_cons bi (all_cons (Nb.symm bV) (all_cons bg (all_cons bh all_nil)))) bZ) <| .r [1, 2, 3, 4] <| .go 5 <| .cl (fun bJ aG => c_spec_l6Rd_pick 60 (aK.ext aG) ((J.toAll (.tail _ (.tail _ (.tail _ (.head _))))).ext aG) (by omega) (w := bJ) (F := all)) ?_
   intro bJ aG
   replace ⟨V, J, Z, aa, ab, O, W, C, ag, E⟩ := (se [ai, aj, af, ae, ac] aG).g10 V J Z aa ab O W C ag E
   rintro dt du ⟨⟨aS, rfl, cL⟩, dv, cM, cN, aL⟩
   have hkeep_ := aL
   replace ⟨V, J, Z, aa, ab, O, W, C, ag, E⟩ := (so [ai, aj, af, ae, ac] aL).g10 V J Z aa ab O W C ag E
   clear aL
   refine ⟨Chg.toS hkeep_ (Cov.toS bY), ?_⟩
   refine GA.int (i := 6) (au - 1 + aS) (by kernel_rfl) (by omega) <| GA.int (i := 7) ((au - 1 + aS) - 1) (by kernel_rfl) (by omega) <| .go 8 <| GE.storeB (t' := 30) (o := 0) (v := .agg #[.slice ay ah.store.idx.names.length az, .slice aA ah.store.idx.posts.length aB, .slice aC ah.store.parts.length aD, vS af aE aF]) [.slice ay ah.store.idx.names.length az, .slice aA ah.store.idx.posts.length aB, .slice aC ah.store.parts.length aD, vS af aE aF] V (by kernel_rfl) (by kernel_rfl) (by kernel_rfl) fun dw bt => ?_
   replace ⟨V, J, Z, aa, ab, O, W, C, ag, E⟩ := (se [ai, aj, af, ae, ac] bt).g10 V J Z aa ab O W C ag E
   clear bt
   intro dx aM aN b0
   have hkeep_ := Chg.toS aM (Cov.toS bX)
   clear b0
   replace ⟨J, Z, aa, ab, O, W, C, ag, E⟩ := (so [ai, aj, af, ae, ac] aM).g9 J Z aa ab O W C ag E
   clear aM
   refine ⟨hkeep_, ?_⟩
   refine .r [9, 10] <| .d fun bK bu => ?_
   replace ⟨aN, J, Z, aa, ab, O, W, C, ag, E⟩ := (se [ai, aj, af, ae, ac] bu).g10 aN J Z aa ab O W C ag E
   clear bu
   replace J := J.outof
   replace Z := Z.outof
   replace aa := aa.outof
   replace ab := ab.outof
   replace C := C.outof
   refine .r 1 <| .d ?_
   have bv := O.sl (.inr bE)
   replace ⟨J, Z, aa, ab, C, ag⟩ := (sd bK [ai, aj, af, ae, ac] af).g6 J Z aa ab C ag
   have cx := ag.sl (.inr bW)
   replace ⟨J, Z, aa, ab, bv, C⟩ := (sd bK [ai, aj, ae, ac] ai).g6 J Z aa ab bv C
   exact T.ret4 (v := .agg #[.slice ay ah.store.idx.names.length az, .slice aA ah.store.idx.posts.length aB, .slice aC ah.store.parts.length aD, vS af aE aF]) (v' := vS ai 0 0) (v'' := vI (au - 1)) (v''' := vI ((au - 1 + aS) - 1)) (by kernel_rfl) Tryz.func32 Tryz.results32 (Res1.cell (ad := ⟨ac, 0, none⟩) (by kernel_rfl) ((aN.has 0 [.slice ay ah.store.idx.names.length az, .slice aA ah.store.idx.posts.length aB, .slice aC ah.store.parts.length aD, vS af aE aF] (by kernel_rfl)).loadN (by kernel_rfl))) (Res1.tmp (by kernel_rfl)) (Res1.tmp (by kernel_rfl)) (Res1.tmp (by kernel_rfl)) ⟨⟨(ah.store : Sto), ([] : List Cnd), (au - 1 : Int), ((au - 1 + aS) - 1 : Int), ⟨_, _, (tup4 rfl rfl (congrArg (Value.int .i64) (by rfl)) (congrArg (Value.int .i64) (by rfl))), ⟨_, rfl, ⟨_, _, _, _, _, _, _, _, _, _, _, _, rfl, Z.w1, aa.w1, ab.w1, bv.w1⟩⟩, (cx.vl (by rfl) (fun _ _ h => h.1))⟩, (by first | assumption | omega | (refine ⟨by assumption, ?_, ?_⟩ <;> omega))⟩, E⟩
 refine .d <| .cf <| .sk <| .s <| .g <| .r 1 <| .cl (c_spec_l6Rd_pick 20 ar (J.toAll (.tail _ (.tail _ (.head _)))) (by omega) (w := cv) (F := all)) ?_
 rintro dy ax ⟨⟨av, rfl, cO⟩, dz, cP, aO, bw⟩
 replace ⟨V, J, Z, aa, ab, O, W, C, E⟩ := (so [aj, af, ae, ac] bw).g9 V J Z aa ab O W C E
 clear bw
 refine .it (av - 1) <| .r 1 <| .d <| .s ?_
 replace J := J.into
 replace Z := Z.into
 replace aa := aa.into
 replace ab := ab.into
 replace C := C.into
 have b6 : Cov (mtb [af, ac, ae] ax.heap.size) ax ac := ⟨.inl (.inl (.tail _ (.head _)))⟩
 have b7 : Cov (mtb [af, ac, ae] ax.heap.size) ax ae := ⟨.inl (.inl (.tail _ (.tail _ (.head _))))⟩
 have b8 : Gb (aj + 1) ax.heap.size := W.lt
 refine .gd (mtb [af, ac, ae] ax.heap.size) 11 fun dA bz => ?_
 replace ⟨V, J, aO, Z, aa, ab, O, W, C, E⟩ := (se [aj, af, ae, ac] bz).g10 V J aO Z aa ab O W C E
 clear bz
 refine .ln 0 W (nS_of (all_cons bi (all_cons bg (all_cons bh all_nil))) b8) <| .r [1, 2, 3, 4] <| .go 5 <| .cl (fun bL aH => c_spec_l6Rd_pick 60 (aO.ext aH) ((J.toAll (.tail _ (.tail _ (.head _)))).ext aH) (by omega) (w := bL) (F := all)) ?_
 intro bL aH
 replace ⟨V, Z, aa, ab, O, C, E⟩ := (se [aj, af, ae, ac] aH).g7 V Z aa ab O C E
 rintro dB dC ⟨⟨aT, rfl, cQ⟩, dD, cR, cS, aP⟩
 have hkeep_ := aP
 replace ⟨V, Z, aa, ab, O, C, E⟩ := (so [aj, af, ae, ac] aP).g7 V Z aa ab O C E
 clear aP
 refine ⟨Chg.toS hkeep_ (Cov.toS b7), ?_⟩
 refine GA.int (i := 6) (av - 1 + aT) (by kernel_rfl) (by omega) <| GA.int (i := 7) ((av - 1 + aT) - 1) (by kernel_rfl) (by omega) <| .go 8 <| GE.storeB (t' := 30) (o := 0) (v := .agg #[.slice ay ah.store.idx.names.length az, .slice aA ah.store.idx.posts.length aB, .slice aC ah.store.parts.length aD, vS af aE aF]) [.slice ay ah.store.idx.names.length az, .slice aA ah.store.idx.posts.length aB, .slice aC ah.store.parts.length aD, vS af aE aF] V (by kernel_rfl) (by kernel_rfl) (by kernel_rfl) fun dE bA => ?_
 replace ⟨Z, aa, ab, O, C, E⟩ := (se [aj, af, ae, ac] bA).g6 Z aa ab O C E
 clear bA
 intro dF aQ aR b9
 have hkeep_ := Chg.toS aQ (Cov.toS b6)
 clear b9
 replace ⟨Z, aa, ab, O, C, E⟩ := (so [aj, af, ae, ac] aQ).g6 Z aa ab O C E
 clear aQ
 refine ⟨hkeep_, ?_⟩
 refine .r [9, 10] <| .d fun cy bB => ?_
 replace ⟨aR, Z, aa, ab, O, C, E⟩ := (se [aj, af, ae, ac] bB).g7 aR Z aa ab O C E
 clear bB
 replace Z := Z.outof
 replace aa := aa.outof
 replace ab := ab.outof
 replace C := C.outof
 refine .r 1 <| .d ?_
 have cz := O.sl (.inr bE)
 replace ⟨Z, aa, ab, C⟩ := (sd cy [aj, af, ae, ac] af).g4 Z aa ab C
 exact T.ret4 (v := .agg #[.slice ay ah.store.idx.names.length az, .slice aA ah.store.idx.posts.length aB, .slice aC ah.store.parts.length aD, vS af aE aF]) (v' := .slice cr bH.length cu) (v'' := vI (av - 1)) (v''' := vI ((av - 1 + aT) - 1)) (by kernel_rfl) Tryz.func32 Tryz.results32 (Res1.cell (ad := ⟨ac, 0, none⟩) (by kernel_rfl) ((aR.has 0 [.slice ay ah.store.idx.names.length az, .slice aA ah.store.idx.posts.length aB, .slice aC ah.store.parts.length aD, vS af aE aF] (by kernel_rfl)).loadN (by kernel_rfl))) (Res1.tmp (by kernel_rfl)) (Res1.tmp (by kernel_rfl)) (Res1.tmp (by kernel_rfl)) ⟨⟨(ah.store : Sto), (bH : List Cnd), (av - 1 : Int), ((av - 1 + aT) - 1 : Int), ⟨_, _, (tup4 rfl rfl (congrArg (Value.int .i64) (by rfl)) (congrArg (Value.int .i64) (by rfl))), ⟨_, rfl, ⟨_, _, _, _, _, _, _, _, _, _, _, _, rfl, Z.w1, aa.w1, ab.w1, cz.w1⟩⟩, (C.vl (by rfl) (fun _ _ h => h.1))⟩, (by first | assumption | omega | (refine ⟨by assumption, ?_, ?_⟩ <;> omega))⟩, E⟩
set_option maxRecDepth 100000 in
set_option maxHeartbeats 4000000 in
theorem c_impl_NameText (n : List Tag) {w : World} {F : Nat → Prop} {a1 : Option Addr} {n1 c1 : Nat} (h1 : RepS w F a1 n1 c1 n) (p0 : NmSz n) : Calls Tryz.prog 39 [.slice a1 n1 c1].toArray w (rets fun rv w' => rv = .string (bs (textI n)) ∧ Ext w w') := by
 refine goT Tryz.func39 ?_
 obtain ⟨rfl, aV, h1⟩ := h1.tp
 refine .s <| .g <| .r 1 <| .d <| .s <| .s <| .g <| .r 1 <| .cl (c_impl_NameOk n h1.ta (w := w) (F := all)) ?_
 rintro bo bq ⟨rfl, ac⟩
 replace h1 := (se [] ac).g1 h1
 have C := ac
 clear ac
 cases aW : (nameOk n)
 · exact .r 1 <| .d <| .ct <| .s <| .g <| .r 1 <| .d <| .rt Tryz.func39 Tryz.results39 (.string (bs [])) ⟨(congrArg (fun s => Value.string (bs s)) (by first | rw [textI_no (by assumption)] | (rw [joinEnd (by assumption) (by omega), textI_ok (by assumption)]))), C⟩
 refine .r 1 <| .d <| .cf <| .sk <| .s <| .g <| .ns 0 9 [] fun W ae af ao aA aB => ?_
 have aC := C.cn af
 replace ⟨h1, C⟩ := (sn [] ao af).g2 h1 C
 clear ao aB af
 have aD : Own (α := Txt) ae W 9 (nin (ge w.heap.size) [W]) 0 0 [] := Own.nil' aA
 refine .r 1 <| .d <| .s <| .s <| .g <| .r 3 <| .d <| .b 0 <| T.loop (X := (List Txt) × Nat × Nat × Nat × Nat) (([] : List Txt), W, 0, 0, 0) (fun (out, r_out, n_out, c_out, k) => [(3, vS r_out n_out c_out), (10, .slice a1 n.length c1), (11, vI (n.length : Int)), (12, vI (k : Int))]) (fun (out, r_out, n_out, c_out, k) ag => Chg (ins [W]) ae ag ∧ Own ag r_out 9 (nin (ge w.heap.size) [r_out]) n_out c_out out ∧ OrB r_out W ae.heap.size ∧ (k ≤ n.length) ∧ (out.length ≤ k) ∧ (out ++ (n.drop k).map tx1 = n.map tx1)) (fun (out, r_out, n_out, c_out, k) => n.length - k) (by kernel_rfl) ⟨by kernel_rfl, by kernel_rfl, by kernel_rfl, by kernel_rfl, trivial⟩ ⟨Chg.refl _ _, aD, orb_refl, (by first | omega | rfl | simp), (by first | omega | rfl | simp), (by first | omega | rfl | simp)⟩ ?_
 rintro ⟨out, r_out, n_out, c_out, k⟩ br ag ⟨E, J, aa, aX, aY, aZ⟩ ah
 have ba := cov_or' aa aC C.size
 have aE : Cov (ins [W]) ae W := ⟨.inl (.head _)⟩
 have bc := cov_or' aa aE (Nat.le_refl _)
 have aq : Mv [W] [r_out] ae ag := Mv.inl E (all_cons (.head _) all_nil) (all_cons (orb_mem aa (.head _)) all_nil)
 replace ⟨h1, C⟩ := (sp aq E).g2 h1 C
 clear aq
 have bd := J.len; have bg := J.max
 refine .s <| .g <| .bp ((k : Int) < (n.length : Int)) (fun aF => ?_) (fun aF => ?_)
 · refine .d <| .s <| .ct <| .sk <| .s <| .b 1 <| .s <| .g ?_
   have aG : k < n.length := (by omega)
   refine .ix k 2 h1 aG ?_
   obtain ⟨O, ai⟩ : ∃ y, n[k]? = some y := ⟨_, List.getElem?_eq_getElem (by omega)⟩
   have bh := drop_at ai; have aT := List.mem_of_getElem? ai
   obtain ⟨_, rfl, aH⟩ := h1.elem k O ai
   refine .lg 0 aH <| .np 112 [.string (bs []), .string (bs [])] fun am bt Z ar aI aJ => ?_
   have bi := nb_new Z J.lt
   have bj := C.cn Z
   have bk := E.cn Z
   replace ⟨J, C, E⟩ := (sn [r_out] ar Z).g3 J C E
   clear ar aJ Z
   refine .sc [vT O.key, vT O.val] aI fun bu au aj aK => ?_
   replace ⟨J, C, E⟩ := (so [am, r_out] au).g3 J C E
   clear au aK
   refine .d <| .g <| .r 2 <| .lb aj <| RG.cat (t := 9) (s := O.key) (u := [61]) (by kernel_rfl) (by have q1 := p0.2 _ (by assumption); simp only [List.length_append, List.length_cons, List.length_nil]; omega) <| .r 1 <| .lb aj <| RG.cat (t := 9) (s := (O.key ++ [61])) (u := O.val) (by kernel_rfl) (by have q1 := p0.2 _ (by assumption); simp only [List.length_append, List.length_cons, List.length_nil]; omega) <| .ns 1 9 [.string (bs ((O.key ++ [61]) ++ O.val))] fun aL bw ab av aM aN => ?_
   have aw := nb_new ab J.lt
   have aO := nb_new ab aj.lt
   have aP := gb_new ab C.size
   replace ⟨J, C, E⟩ := (se [am, r_out] av).g3 J C E
   clear av aN ab
   have ak : nin (ge w.heap.size) [am, r_out] aL ∧ aL ≠ r_out := hap_mk aP (all_cons aO (all_cons aw all_nil)) aw
   refine RG.append1 (T := 126) (ty := 126) (y := (⟨((O.key ++ [61]) ++ O.val)⟩ : Txt)) J aM (by kernel_rfl) (by kernel_rfl) rfl ak (by have := p0.1; omega) fun az aU aQ V al ax => ?_
   have aR := orb_or al aa E.size
   replace ⟨C, E⟩ := (s1 ax).g2 C E
   clear ax
   replace V := V.rn r_out
   clear al
   have bm := V.len; have bn := V.max
   refine .r 1 <| .d <| .ib 1 <| .g <| .it ((k : Int) + 1) <| .r 1 <| .d ?_
   have aS : Mv [am, az] [az] aQ aQ := Mv.less (all_cons (.tail _ (.head _)) all_nil)
   replace V := (sp aS (Chg.refl nil _)).g1 V
   exact ah ((out ++ [(⟨((O.key ++ [61]) ++ O.val)⟩ : Txt)]), az, n_out + 1, aU, k + 1) _ _ ⟨by kernel_rfl, by kernel_rfl, by kernel_rfl, by kernel_rfl, trivial⟩ ⟨E, V, aR, (by omega), (by first | omega | (simp; omega)), (by exact joinStep (by assumption) (by assumption))⟩ (by first | omega | (simp only []; omega))
 refine .d <| .s <| .cf <| .x 0 rfl <| .s <| .g <| .r 1 <| .cl (c_strings_Join out [44] (J.rep) (joinSz (by assumption) (by omega) p0) (by have := p0.1; omega) (w := ag) (F := all)) ?_
 rintro bz bA ⟨rfl, ay⟩
 replace C := (se [] ay).g1 C
 clear ay
 exact .r 1 <| .d <| .rt Tryz.func39 Tryz.results39 (.string (bs (Lib.join (out.map Txt.s) [44]))) ⟨(congrArg (fun s => Value.string (bs s)) (by first | rw [textI_no (by assumption)] | (rw [joinEnd (by assumption) (by omega), textI_ok (by assumption)]))), C⟩
theorem c_impl_StoreAsk (s : Sto) (f : List Cnd) (from_ : Int) (to_ : Int) {w : World} {F : Nat → Prop} {a1 : Option Addr} {n1 c1 : Nat} (h1 : RepS w F a1 n1 c1 s.idx.names) {a2 : Option Addr} {n2 c2 : Nat} (h2 : RepS w F a2 n2 c2 s.idx.posts) {a3 : Option Addr} {n3 c3 : Nat} (h3 : RepS w F a3 n3 c3 s.parts) {a4 : Option Addr} {n4 c4 : Nat} (h4 : RepS w F a4 n4 c4 s.mem) {a5 : Option Addr} {n5 c5 : Nat} (h5 : RepS w F a5 n5 c5 f) (p0 : SD s) : Calls Tryz.prog 33 [.agg #[.slice a1 n1 c1, .slice a2 n2 c2, .slice a3 n3 c3, .slice a4 n4 c4], .slice a5 n5 c5, .int .i64 from_, .int .i64 to_].toArray w (rets fun rv w' => VL (ge w.heap.size) w' (askS s f from_ to_ : List Hit) rv ∧ Ext w w') := by
 refine goT Tryz.func33 ?_
 obtain ⟨rfl, bL, h1⟩ := h1.tp
 obtain ⟨rfl, bM, h2⟩ := h2.tp
 obtain ⟨rfl, bN, h3⟩ := h3.tp
 obtain ⟨rfl, bO, h4⟩ := h4.tp
 obtain ⟨rfl, bP, h5⟩ := h5.tp
 refine .s <| .g <| .np 30 [.slice a1 s.idx.names.length c1, .slice a2 s.idx.posts.length c2, .slice a3 s.parts.length c3, .slice a4 s.mem.length c4] fun V cj aE aq E ba => ?_
 replace ⟨h1, h2, h3, h4, h5⟩ := (sn [] aq aE).g5 h1 h2 h3 h4 h5
 have C := aq
 clear aq ba aE
 refine .r 1 <| .d <| .s <| .g <| .ns 0 66 [] fun W bc ag aF bd bg => ?_
 have bh := nb_new ag E.lt
 have aG := gb_new ag C.size
 have bi := C.cn ag
 replace ⟨h1, h2, h3, h4, h5, E, C⟩ := (sn [V] aF ag).g7 h1 h2 h3 h4 h5 E C
 clear aF bg ag
 have ab : Own (α := Hit) bc W 66 (nin (ge w.heap.size) [W, V]) 0 0 [] := Own.nil' bd
 refine .r 1 <| .d <| .s <| .s <| .g <| .ln E <| .cl (c_impl_StoreOk s h1.ta h2.ta h3.ta h4.ta p0 (w := bc) (F := all)) ?_
 rintro ck aQ ⟨rfl, aH⟩
 replace ⟨h1, h2, h3, h4, h5, E, ab, C⟩ := (se [W, V] aH).g8 h1 h2 h3 h4 h5 E ab C
 clear aH
 cases bQ : (storeOk s)
 · refine .r 1 <| .d <| .ct <| .s <| .g <| .r 2 <| .d ?_
   have bA := ab.sl aG
   replace ⟨h1, h2, h3, h4, h5⟩ := (sd aQ [W, V] W).g5 h1 h2 h3 h4 h5
   exact .rt Tryz.func33 Tryz.results33 (vS W 0 0) ⟨(bA.vl (by first | rw [askS_1 (.inl (by assumption))] | exact (askEndI p0 (by assumption) (by assumption) (by omega)).symm) (fun _ _ h => h.1)), C⟩
 refine .r 1 <| .d <| .cf <| .sk <| .s <| .s <| .g <| .r 1 <| .ln E <| .r 1 <| .cl (c_impl_IndexFind s.idx f h1.ta h2.ta h5.ta p0.ix p0.nd (w := aQ) (F := all)) ?_
 rintro cm aB ⟨⟨bB, bC, rfl, aj⟩, aI⟩
 have aJ := al2 ab.lt E.lt
 have bj : Gb w.heap.size aQ.heap.size := C.size
 replace ⟨h1, h2, h3, h4, E, ab, C⟩ := (se [W, V] aI).g7 h1 h2 h3 h4 E ab C
 clear aI
 have aj := aj.fr aJ bj
 have bR := aj.max
 clear aJ
 refine .r 2 <| .d <| .b 0 <| T.loop (X := (List Hit) × Nat × Nat × Nat × Nat) (([] : List Hit), W, 0, 0, 0) (fun (out, r_out, n_out, c_out, k) => [(2, vI from_), (3, vI to_), (4, .pointer (some ⟨V, 0, none⟩)), (9, vS r_out n_out c_out), (21, .slice bB ((findP (fitsI f) 0 s.idx.names).length) bC), (22, vI (((findP (fitsI f) 0 s.idx.names).length) : Int)), (23, vI (k : Int))]) (fun (out, r_out, n_out, c_out, k) am => Chg (ins [W]) aB am ∧ Own am r_out 66 (nin (ge w.heap.size) [r_out, V]) n_out c_out out ∧ OrB r_out W aB.heap.size ∧ (k ≤ (findP (fitsI f) 0 s.idx.names).length) ∧ (out.length ≤ k) ∧ (out ++ ((findP (fitsI f) 0 s.idx.names).drop k).flatMap (hit1 s from_ to_) = askP (fitsI f) s from_ to_)) (fun (out, r_out, n_out, c_out, k) => (findP (fitsI f) 0 s.idx.names).length - k) (by kernel_rfl) ⟨by kernel_rfl, by kernel_rfl, by kernel_rfl, by kernel_rfl, by kernel_rfl, by kernel_rfl, by kernel_rfl, trivial⟩ ⟨Chg.refl _ _, ab, orb_refl, (by first | omega | rfl | simp), (by first | omega | rfl | simp), (by first | omega | rfl | simp)⟩ ?_
 rintro ⟨out, r_out, n_out, c_out, k⟩ co am ⟨O, J, ac, bS, bT, bU⟩ ah
 have bV := nb_or' ac bh E.lt
 have bk := gb_or' ac aG C.size
 have bW := cov_or' ac bi C.size
 have bm : Cov (ins [W]) aB W := ⟨.inl (.head _)⟩
 have bX := cov_or' ac bm (Nat.le_refl _)
 have aK : Mv [W, V] [r_out, V] aB am := Mv.inl O (all_cons (.head _) all_nil) (all_cons (orb_mem ac (.head _)) (all_cons (.inl (.tail _ (.head _))) all_nil))
 replace ⟨h1, h2, h3, h4, E, aj, C⟩ := (sp aK O).g7 h1 h2 h3 h4 E aj C
 clear aK
 have bY := J.len; have bZ := J.max
 refine .s <| .g <| .bp ((k : Int) < (((findP (fitsI f) 0 s.idx.names).length) : Int)) (fun bn => ?_) (fun bn => ?_)
 · refine .d <| .s <| .ct <| .sk <| .s <| .b 1 <| .s <| .g ?_
   have aL : k < (findP (fitsI f) 0 s.idx.names).length := (by first | omega | (have q1 := findP_in (by assumption : _ ∈ findP _ 0 s.idx.names); omega))
   refine RG.idx k (len := (findP (fitsI f) 0 s.idx.names).length) (i := (k : Int)) (sz := 1) (by kernel_rfl) (by first | omega | (have q1 := findP_in (by assumption : _ ∈ findP _ 0 s.idx.names); omega)) aL (aj.addr (Nat.zero_lt_of_lt aL)) ?_
   obtain ⟨Z, ar⟩ : ∃ y, (findP (fitsI f) 0 s.idx.names)[k]? = some y := ⟨_, List.getElem?_eq_getElem (by first | omega | (have q1 := findP_in (by assumption : _ ∈ findP _ 0 s.idx.names); omega))⟩
   have b0 := drop_at ar; have bz := List.mem_of_getElem? ar
   obtain ⟨_, rfl, bo⟩ := aj.elem k Z ar
   refine .lh 0 bo <| .r 1 <| .d <| .s <| .g <| .ln E <| .r 1 <| .cl (c_impl_Store_rows s Z h1.ta h2.ta h3.ta h4.ta (StoK.of p0 (by assumption)).part (StoK.of p0 (by assumption)).row (by have := p0.np; omega) (by have := p0.nm2; omega) (w := am) (F := all)) ?_
   rintro cp bq ⟨⟨cq, cr, rfl, aD⟩, aM⟩
   have aN := al2 J.lt E.lt
   have br : Gb w.heap.size am.heap.size := C.size
   replace ⟨h1, E, J, C, O⟩ := (se [r_out, V] aM).g5 h1 E J C O
   clear aM
   have aD := aD.fr aN br
   have b6 := aD.max
   clear aN
   refine .r 2 <| .cl (c_impl_BlockCut (rowsOf s Z) from_ to_ aD.ta (Nat.le_trans (blk_of p0 (by assumption) _).len (by omega)) (w := bq) (F := all)) ?_
   rintro cu bD ⟨⟨bE, bF, rfl, aa⟩, aO⟩
   have au := al2 J.lt E.lt
   have aR : Gb w.heap.size bq.heap.size := C.size
   replace ⟨h1, E, J, C, O⟩ := (se [r_out, V] aO).g5 h1 E J C O
   clear aO
   have aa := aa.fr au aR
   have bG := aa.max
   clear au
   refine .r 1 <| .d <| .s <| .g <| .r 2 <| .bp ((((cutI (rowsOf s Z) from_ to_).length) : Int) > 0) (fun aS => ?_) (fun aS => .d <| .cf <| .sk <| .ib 1 <| .g <| RG.int ((k : Int) + 1) (by kernel_rfl) (by first | omega | (have q1 := findP_in (by assumption : _ ∈ findP _ 0 s.idx.names); omega)) <| .r 1 <| .d <| ah (out, r_out, n_out, c_out, k + 1) _ _ ⟨by kernel_rfl, by kernel_rfl, by kernel_rfl, by kernel_rfl, by kernel_rfl, by kernel_rfl, by kernel_rfl, trivial⟩ ⟨O, J, ac, (by omega), (by first | omega | (simp; omega)), (by first | exact askStepI p0 (by assumption) (by assumption) (by assumption) (by assumption) (by assumption) | exact askSkipI p0 (by assumption) (by assumption) (by assumption) (by assumption))⟩ (by first | omega | (simp only []; omega)))
   refine .d <| .ct <| .g <| .r 3 <| .lb E <| .r 1 <| RG.int (Z - 1) (by kernel_rfl) (by first | omega | (have q1 := findP_in (by assumption : _ ∈ findP _ 0 s.idx.names); omega)) ?_
   have av : (Z - 1).toNat < s.idx.names.length := (by first | omega | (have q1 := findP_in (by assumption : _ ∈ findP _ 0 s.idx.names); omega))
   refine RG.idx ((Z - 1).toNat) (len := s.idx.names.length) (i := Z - 1) (sz := 1) (by kernel_rfl) (by first | omega | (have q1 := findP_in (by assumption : _ ∈ findP _ 0 s.idx.names); omega)) av (h1.addr (Nat.zero_lt_of_lt av)) ?_
   obtain ⟨ai, ak⟩ : ∃ y, s.idx.names[(Z - 1).toNat]? = some y := ⟨_, List.getElem?_eq_getElem (by first | omega | (have q1 := findP_in (by assumption : _ ∈ findP _ 0 s.idx.names); omega))⟩
   have bH := drop_at ak; have bt := List.mem_of_getElem? ak
   obtain ⟨_, ⟨b7, b8, b9, rfl, aw⟩, aT⟩ := h1.elem ((Z - 1).toNat) ai ak
   have aU := aw.len
   subst aU
   have bI := aw.max
   refine .lh 0 aT <| .cl (c_impl_NameText ai aw.ta (p0.nm.sz _ (by assumption)) (w := bD) (F := all)) ?_
   rintro cd ce ⟨rfl, ax⟩
   replace ⟨E, J, aa, C, O⟩ := (se [r_out, V] ax).g5 E J aa C O
   clear ax
   refine .r 2 <| .ns 1 66 [.string (bs (textI ai)), .slice bE ((cutI (rowsOf s Z) from_ to_).length) bF] fun aP cg af ay aV aW => ?_
   have aX := nb_new af E.lt
   have az := nb_new af J.lt
   have aY := gb_new af C.size
   replace ⟨J, aa, C, O⟩ := (se [r_out, V] ay).g4 J aa C O
   clear ay aW af
   have ao : nin (ge w.heap.size) [r_out, V] aP ∧ aP ≠ r_out := hap_mk aY (all_cons az (all_cons aX all_nil)) az
   refine RG.append1 (T := 61) (ty := 61) (y := (⟨textI ai, cutI (rowsOf s Z) from_ to_⟩ : Hit)) J aV (by kernel_rfl) (by kernel_rfl) ⟨_, _, _, rfl, aa.oi⟩ ao (by have q1 := findP_len (fitsI f) s.idx.names 0; have q2 := p0.nm.len; omega) fun bu bv ci ae al aA => ?_
   have aZ := orb_or al ac O.size
   replace ⟨C, O⟩ := (s1 aA).g2 C O
   clear aA
   replace ae := ae.rn r_out
   clear al
   have bJ := ae.len; have bK := ae.max
   exact .r 1 <| .d <| .ib 1 <| .g <| RG.int ((k : Int) + 1) (by kernel_rfl) (by first | omega | (have q1 := findP_in (by assumption : _ ∈ findP _ 0 s.idx.names); omega)) <| .r 1 <| .d <| ah ((out ++ [(⟨textI ai, cutI (rowsOf s Z) from_ to_⟩ : Hit)]), bu, n_out + 1, bv, k + 1) _ _ ⟨by kernel_rfl, by kernel_rfl, by kernel_rfl, by kernel_rfl, by kernel_rfl, by kernel_rfl, by kernel_rfl, trivial⟩ ⟨O, ae, aZ, (by omega), (by first | omega | (simp; omega)), (by first | exact askStepI p0 (by assumption) (by assumption) (by assumption) (by assumption) (by assumption) | exact askSkipI p0 (by assumption) (by assumption) (by assumption) (by assumption))⟩ (by first | omega | (simp only []; omega))
 refine .d <| .s <| .cf <| .x 0 rfl <| .s <| .g <| .r 2 <| .d ?_
 have bw := J.sl bk
 exact .rt Tryz.func33 Tryz.results33 (vS r_out n_out c_out) ⟨(bw.vl (by first | rw [askS_1 (.inl (by assumption))] | exact (askEndI p0 (by assumption) (by assumption) (by omega)).symm) (fun _ _ h => h.1)), C⟩
end Go.Proofs.YtfnpaglcnmcnbaaGreat
