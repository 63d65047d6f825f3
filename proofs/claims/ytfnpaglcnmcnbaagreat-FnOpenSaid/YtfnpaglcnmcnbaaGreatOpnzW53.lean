/- walks; hints pruned; squeezed -/
import Derived.Test.YtfnpaglcnmcnbaaGreatOpnzMod42
set_option linter.unusedVariables false
set_option linter.unusedSimpArgs false
namespace Go.Proofs.YtfnpaglcnmcnbaaGreat
set_option maxRecDepth 100000
set_option maxHeartbeats 4000000
theorem c_spec_l71TagX  {w : World} {F : Nat → Prop} {b : Nat} {ad : Option Addr} {cd p : Nat} {D : List UInt8} (hr : Box w b 140 [.slice ad D.length cd, .int .i64 (p : Int)]) (hD : RepS w (nin all [b]) ad D.length cd D) (hp : p + 2 ≤ 1000000000)  : Calls Tryz.prog 131 [.pointer (some ⟨b, 0, none⟩)].toArray w (rets fun rv w' => (∃ (y : Tag), VS (ge w.heap.size) w' (y : Tag) rv ∧ TagD y ∧ tagOk y = true) ∧ ∃ p' : Nat, p' ≤ p + 2 ∧ Box w' b 140 [.slice ad D.length cd, .int .i64 (p' : Int)] ∧ Chg (one b) w w') := by
 refine goT Tryz.func131 ?_
 have aG := hD.max
 refine .s <| .g <| .np 112 [.string (bs []), .string (bs [])] fun J aE V aa E al => ?_
 have aH := nb_new V hr.lt
 have aI : Cov (one b) w J := cov_new V (Nat.le_refl _)
 replace ⟨hD, hr⟩ := (sn [b] aa V).g2 hD hr
 have C : Chg (one b) w aE := Chg.stepN (Chg.refl (one b) w) aa
 clear aa al V
 refine .d <| .s <| .g <| .r 1 <| .ns 3 9 [.string (bs [97]), .string (bs [98]), .string (bs [99])] fun O am ab ag ao aq => ?_
 have ar := nb_new ab hr.lt
 replace ⟨hD, hr, E, C⟩ := (sn [J, b] ag ab).g4 hD hr E C
 clear ag aq ab
 have au : Own (α := Txt) am O 9 (nin (ge w.heap.size) [O, J, b]) 3 3 [(⟨[97]⟩ : Txt), (⟨[98]⟩ : Txt), (⟨[99]⟩ : Txt)] := Own.lit ao rfl (by decide) ⟨rfl, rfl, rfl, rfl⟩
 refine .cl (c_spec_l6Rd_of ([(⟨[97]⟩ : Txt), (⟨[98]⟩ : Txt), (⟨[99]⟩ : Txt)] : List Txt) hr (hD.toAll (.tail _ (.tail _ (.head _)))) (by omega) (au.toAll (.tail _ (.tail _ (.head _))) ar) (by simp) (w := am) (F := all)) ?_
 rintro aN aO ⟨⟨av, rfl, aJ⟩, aP, aK, W, ah⟩
 replace ⟨hD, E, C⟩ := (so [O, J, b] ah).g3 hD E C
 clear ah
 refine .r 1 <| .ns 3 9 [.string (bs [112]), .string (bs [113]), .string (bs [122])] fun af aw ac ai ax ay => ?_
 have az := nb_new ac W.lt
 replace ⟨hD, W, E, C⟩ := (sn [O, J, b] ai ac).g4 hD W E C
 clear ai ay ac
 have aA : Own (α := Txt) aw af 9 (nin (ge w.heap.size) [af, O, J, b]) 3 3 [(⟨[112]⟩ : Txt), (⟨[113]⟩ : Txt), (⟨[122]⟩ : Txt)] := Own.lit ax rfl (by decide) ⟨rfl, rfl, rfl, rfl⟩
 refine .cl (c_spec_l6Rd_of ([(⟨[112]⟩ : Txt), (⟨[113]⟩ : Txt), (⟨[122]⟩ : Txt)] : List Txt) W (hD.toAll (.tail _ (.tail _ (.tail _ (.head _))))) (by omega) (aA.toAll (.tail _ (.tail _ (.tail _ (.head _)))) az) (by simp) (w := aw) (F := all)) ?_
 rintro aQ aR ⟨⟨aB, rfl, aL⟩, aF, aM, ae, aj⟩
 replace ⟨hD, E, C⟩ := (so [af, O, J, b] aj).g3 hD E C
 clear aj
 refine .r 1 <| .sc [vT av, vT aB] E fun aS ak aC aD => ?_
 replace ⟨hD, ae, C⟩ := (so [af, O, J, b] ak).g3 hD ae C
 clear ak aD
 exact .d <| .rb Tryz.func131 Tryz.results131 aC ⟨⟨((⟨av, aB⟩ : Tag) : Tag), ⟨_, rfl, rfl⟩, (by exact tag_x9 (by assumption) (by assumption))⟩, aF, by omega, ae, C⟩
theorem c_spec_l71NameX  {w : World} {F : Nat → Prop} {b : Nat} {ad : Option Addr} {cd p : Nat} {D : List UInt8} (hr : Box w b 140 [.slice ad D.length cd, .int .i64 (p : Int)]) (hD : RepS w (nin all [b]) ad D.length cd D) (hp : p + 20 ≤ 1000000000)  : Calls Tryz.prog 102 [.pointer (some ⟨b, 0, none⟩)].toArray w (rets fun rv w' => (∃ (y : List Tag), VL (ge w.heap.size) w' (y : List Tag) rv ∧ NmX y) ∧ ∃ p' : Nat, p' ≤ p + 20 ∧ Box w' b 140 [.slice ad D.length cd, .int .i64 (p' : Int)] ∧ Chg (one b) w w') := by
 refine goT Tryz.func102 ?_
 have eR := hD.max
 refine .s <| .g <| .r 1 <| .d <| .s <| .g <| .ns 0 112 [] fun ao dp aH bg dq dr => ?_
 have dt := nb_new aH hr.lt
 have du := gb_new aH (Nat.le_refl _)
 have dv : Cov (one b) w ao := cov_new aH (Nat.le_refl _)
 replace ⟨hD, hr⟩ := (sn [b] bg aH).g2 hD hr
 have C : Chg (one b) w dp := Chg.stepN (Chg.refl (one b) w) bg
 clear bg dr aH
 have aS : Own (α := Tag) dp ao 112 (nin (ge w.heap.size) [ao, b]) 0 0 [] := Own.nil' dq
 refine .r 1 <| .d <| .s <| .s <| .g <| .ns 3 9 [.string (bs [97]), .string (bs [98]), .string (bs [99])] fun O aY aT bU dw dx => ?_
 have eS := nb_new aT hr.lt
 have dy := nb_new aT aS.lt
 replace ⟨hD, hr, aS, C⟩ := (sn [ao, b] bU aT).g4 hD hr aS C
 clear bU dx aT
 have E : Own (α := Txt) aY O 9 (nin (ge w.heap.size) [O, ao, b]) 3 3 [(⟨[97]⟩ : Txt), (⟨[98]⟩ : Txt), (⟨[99]⟩ : Txt)] := Own.lit dw rfl (by decide) ⟨rfl, rfl, rfl, rfl⟩
 refine .r 2 <| .d <| .b 0 <| T.loop (X := (List Tag) × Nat × Nat × Nat × Nat × Nat) (([] : List Tag), ao, 0, 0, 0, p) (fun (out, r_out, n_out, c_out, k, p_) => [(0, .pointer (some ⟨b, 0, none⟩)), (3, vS r_out n_out c_out), (7, vS O 3 3), (8, vI 3), (9, vI (k : Int))]) (fun (out, r_out, n_out, c_out, k, p_) aB => Chg (ins [ao, b]) aY aB ∧ Own aB r_out 112 (nin (ge w.heap.size) [O, r_out, b]) n_out c_out out ∧ OrB r_out ao aY.heap.size ∧ Box aB b 140 [.slice ad D.length cd, vI (p_ : Int)] ∧ (k ≤ 3) ∧ (out.length ≤ k) ∧ (∀ t ∈ out, TagD t) ∧ (∀ t ∈ out, tagOk t = true) ∧ (p_ ≤ p + 2 * k)) (fun (out, r_out, n_out, c_out, k, p_) => 3 - k) (by kernel_rfl) ⟨by kernel_rfl, by kernel_rfl, by kernel_rfl, by kernel_rfl, by kernel_rfl, trivial⟩ ⟨Chg.refl _ _, aS, orb_refl, hr, (by simp), (by simp), (by simp), (by simp), (by simp)⟩ ?_
 rintro ⟨out, r_out, n_out, c_out, k, p_⟩ fw aB ⟨aa, J, am, bh, eT, eU, eV, eW, eX⟩ aI
 have bV := nb_or' am dt hr.lt
 have bW := nb_or' am (Nb.symm dy) E.lt
 have aU := gb_or' am du C.size
 have dz := cov_or' am dv C.size
 have dA : Cov (ins [ao, b]) aY ao := ⟨.inl (.head _)⟩
 have eY : Cov (ins [ao, b]) aY b := ⟨.inl (.tail _ (.head _))⟩
 have eZ := cov_or' am dA (Nat.le_refl _)
 have bX : Mv [O, ao, b] [O, r_out, b] aY aB := Mv.inl aa (all_cons (.tail _ (.head _)) (all_cons (.tail _ (.tail _ (.head _))) all_nil)) (all_cons (.inl (.head _)) (all_cons (orb_mem am (.tail _ (.head _))) (all_cons (.inl (.tail _ (.tail _ (.head _)))) all_nil)))
 replace ⟨hD, E, C⟩ := (sp bX aa).g3 hD E C
 clear bX
 have e0 := J.len; have e7 := J.max
 refine .s <| .g <| .bp ((k : Int) < 3) (fun dB => ?_) (fun dB => ?_)
 ·refine .d <| .s <| .ct <| .sk <| .s <| .b 1 <| .s <| .g ?_
  have dC : k < 3 := (by omega)
  refine RG.idx (b := O) (o := 0) k (len := 3) (i := (k : Int)) (sz := 1) (by kernel_rfl) (by omega) dC rfl ?_
  obtain ⟨bi, bj⟩ : ∃ y, ([(⟨[97]⟩ : Txt), (⟨[98]⟩ : Txt), (⟨[99]⟩ : Txt)] : List Txt)[k]? = some y := ⟨_, List.getElem?_eq_getElem (by omega)⟩
  have e8 := drop_at bj; have bT := List.mem_of_getElem? bj
  simp only [List.mem_cons, List.not_mem_nil, or_false] at bT
  obtain ⟨_, rfl, bk⟩ := E.elem k bi bj
  replace bk : Has aB ⟨O, 0 + k * Rep.sz Txt, none⟩ [vT bi.s] := by rw [Nat.zero_add]; exact bk
  refine .lh 0 bk <| .r 1 <| .d <| .s <| .g <| .r 1 <| .cl (c_spec_l6Rd_pick 2 bh (hD.toAll (.tail _ (.tail _ (.head _)))) (by omega) (w := aB) (F := all)) ?_
  rintro fx fy ⟨⟨d9, rfl, fa⟩, ec, fb, aJ, bY⟩
  replace ⟨hD, J, E, C, aa⟩ := (so [O, r_out, b] bY).g5 hD J E C aa
  clear bY
  refine .eq d9 0 (fun dD => ?_) (fun dD => .d <| .cf <| .sk <| .ib 1 <| .g <| .it ((k : Int) + 1) <| .r 1 <| .d <| aI (out, r_out, n_out, c_out, k + 1, ec) _ _ ⟨by kernel_rfl, by kernel_rfl, by kernel_rfl, by kernel_rfl, by kernel_rfl, trivial⟩ ⟨aa, J, am, aJ, (by omega), (by omega), (by assumption), (by assumption), (by omega)⟩ (by (simp only []; omega)))
  refine .d <| .ct <| .g <| .r 3 <| .ns 3 9 [.string (bs [112]), .string (bs [113]), .string (bs [122])] fun aM dE bm bZ dF dG => ?_
  have dH := nb_new bm aJ.lt
  replace ⟨hD, aJ, J, E, C, aa⟩ := (sn [O, r_out, b] bZ bm).g6 hD aJ J E C aa
  clear bZ dG bm
  have aV : Own (α := Txt) dE aM 9 (nin (ge w.heap.size) [aM, O, r_out, b]) 3 3 [(⟨[112]⟩ : Txt), (⟨[113]⟩ : Txt), (⟨[122]⟩ : Txt)] := Own.lit dF rfl (by decide) ⟨rfl, rfl, rfl, rfl⟩
  refine .cl (c_spec_l6Rd_of ([(⟨[112]⟩ : Txt), (⟨[113]⟩ : Txt), (⟨[122]⟩ : Txt)] : List Txt) aJ (hD.toAll (.tail _ (.tail _ (.tail _ (.head _))))) (by omega) (aV.toAll (.tail _ (.tail _ (.tail _ (.head _)))) dH) (by simp) (w := dE) (F := all)) ?_
  rintro fz fA ⟨⟨cp, rfl, fc⟩, ed, fd, aA, b0⟩
  replace ⟨hD, J, E, aV, C, aa⟩ := (so [aM, O, r_out, b] b0).g6 hD J E aV C aa
  clear b0
  refine .r 1 <| .ns 1 112 [vT bi.s, vT cp] fun dI fB aj bn cq cr => ?_
  have cu := nb_new aj aA.lt
  have bo := nb_new aj J.lt
  have cv := nb_new aj E.lt
  have cw := nb_new aj aV.lt
  have cx := gb_new aj C.size
  replace ⟨hD, aA, J, E, C, aa⟩ := (se [aM, O, r_out, b] bn).g6 hD aA J E C aa
  clear bn cr aj
  have aZ : nin (ge w.heap.size) [aM, O, r_out, b] dI ∧ dI ≠ r_out := hap_mk cx (all_cons cw (all_cons cv (all_cons bo (all_cons cu all_nil)))) bo
  refine RG.append1 (T := 31) (ty := 31) (y := (⟨bi.s, cp⟩ : Tag)) J cq (by kernel_rfl) (by kernel_rfl) rfl aZ (by omega) fun bq dJ b6 ac aC br => ?_
  have cy := orb_or aC am aa.size
  replace ⟨hD, aA, E, C, aa⟩ := (sa [aM, O, r_out, b] br aC).g5 hD aA E C aa
  clear br
  replace ac := ac.rn r_out
  clear aC
  have ee := ac.len; have ef := ac.max
  refine .r 1 <| .d <| .ib 1 <| .g <| .it ((k : Int) + 1) <| .r 1 <| .d ?_
  have cz : Mv [aM, O, bq, b] [O, bq, b] b6 b6 := Mv.less (all_cons (.tail _ (.head _)) (all_cons (.tail _ (.tail _ (.head _))) (all_cons (.tail _ (.tail _ (.tail _ (.head _)))) all_nil)))
  replace ⟨hD, ac, E⟩ := (sp cz (Chg.refl nil _)).g3 hD ac E
  exact aI ((out ++ [(⟨bi.s, cp⟩ : Tag)]), bq, n_out + 1, dJ, k + 1, ed) _ _ ⟨by kernel_rfl, by kernel_rfl, by kernel_rfl, by kernel_rfl, by kernel_rfl, trivial⟩ ⟨aa, ac, cy, aA, (by omega), (by omega), (by exact all_snoc (by assumption) (tag_y9 (by assumption) (by assumption)).1), (by exact all_snoc (by assumption) (tag_y9 (by assumption) (by assumption)).2), (by omega)⟩ (by (simp only []; omega))
 refine .d <| .s <| .cf <| .x 0 rfl <| .s <| .s <| .g <| .r 2 <| .eq (n_out : Int) 0 (fun cA => ?_) (fun cA => ?_)
 ·refine .d <| .ct <| .g <| .r 2 <| .cl (c_spec_l71TagX bh (hD.toAll (.tail _ (.tail _ (.head _)))) (by omega) (w := aB) (F := all)) ?_
  rintro fe ff ⟨⟨aq, ⟨_, rfl, rfl⟩, eg⟩, fg, eh, ae, bt⟩
  replace ⟨hD, J, E, C⟩ := (so [O, r_out, b] bt).g4 hD J E C
  clear bt
  refine .ns 1 112 [vT aq.key, vT aq.val] fun b7 fh ar bu cB cC => ?_
  have cD := nb_new ar ae.lt
  have bv := nb_new ar J.lt
  have cE := nb_new ar E.lt
  have cF := gb_new ar C.size
  replace ⟨hD, ae, J, E, C⟩ := (se [O, r_out, b] bu).g5 hD ae J E C
  clear bu cC ar
  have ba : nin (ge w.heap.size) [O, r_out, b] b7 ∧ b7 ≠ r_out := hap_mk cF (all_cons cE (all_cons bv (all_cons cD all_nil))) bv
  refine RG.append1 (T := 31) (ty := 31) (y := aq) J cB (by kernel_rfl) (by kernel_rfl) rfl ba (by omega) fun W b8 dK V ab bw => ?_
  have cG := nb_or ab bV ae.lt
  have cH := nb_or ab bW E.lt
  have aN := gb_or ab aU C.size
  have ei := cov_or ab dz C.size
  replace ⟨hD, ae, E, C⟩ := (sa [O, r_out, b] bw ab).g4 hD ae E C
  clear bw
  replace V := V.rn r_out
  clear ab
  have ej := V.len; have ek := V.max
  refine .r 1 <| .d <| .s <| .s <| .g <| .r 1 <| .cl (c_spec_l6Rd_pick 40 ae (hD.toAll (.tail _ (.tail _ (.head _)))) (by omega) (w := dK) (F := all)) ?_
  rintro fi b9 ⟨⟨ce, rfl, en⟩, dL, eo, ak, bz⟩
  replace ⟨hD, V, E, C⟩ := (so [O, W, b] bz).g4 hD V E C
  clear bz
  refine .d <| .b 2 <| .s <| .g <| .eq ce 0 (fun cI => ?_) (fun cI => ?_)
  ·refine .r 1 <| .d <| .ct <| .s <| .g <| .r 2 <| .cl (c_spec_l71TagX ak (hD.toAll (.tail _ (.tail _ (.head _)))) (by omega) (w := b9) (F := all)) ?_
   rintro fj fk ⟨⟨aW, ⟨_, rfl, rfl⟩, es⟩, dM, et, af, bA⟩
   replace ⟨hD, V, E, C⟩ := (so [O, W, b] bA).g4 hD V E C
   clear bA
   refine .ns 1 112 [vT aW.key, vT aW.val] fun cg fl au bB cJ cK => ?_
   have cL := nb_new au af.lt
   have bC := nb_new au V.lt
   have cM := nb_new au E.lt
   have cN := gb_new au C.size
   replace ⟨hD, af, V, E, C⟩ := (se [O, W, b] bB).g5 hD af V E C
   clear bB cK au
   have bc : nin (ge w.heap.size) [O, W, b] cg ∧ cg ≠ W := hap_mk cN (all_cons cM (all_cons bC (all_cons cL all_nil))) bC
   refine RG.append1 (T := 31) (ty := 31) (y := aW) V cJ (by kernel_rfl) (by kernel_rfl) rfl bc (by omega) fun bD dN dO av ah bE => ?_
   have ew := nb_or ah cG af.lt
   have ey := nb_or ah cH E.lt
   have cO := gb_or ah aN C.size
   replace ⟨hD, af, E, C⟩ := (sa [O, W, b] bE ah).g4 hD af E C
   clear bE
   replace av := av.rn W
   clear ah
   have ez := av.len; have eA := av.max
   refine .r 1 <| .d ?_
   have dP := av.sl cO
   replace ⟨hD, E⟩ := (sd dO [O, bD, b] bD).g2 hD E
   exact .rt Tryz.func102 Tryz.results102 (vS bD (n_out + 1 + 1) dN) ⟨⟨(((out ++ [aq]) ++ [aW]) : List Tag), (dP.vl (by rfl) (fun _ _ h => h.1)), (by exact nmx_all (by omega) (by grind [TagD]) (by grind))⟩, dM, by omega, af, C⟩
  refine .r 1 <| .d <| .cf <| .s <| .g <| .eq ce 1 (fun cP => ?_) (fun cP => ?_)
  ·refine .r 1 <| .d <| .ct <| .g <| .r 2 <| .ns 3 9 [.string (bs []), .string (bs [111]), .string (bs [112, 112])] fun aK ci aD bF cQ cR => ?_
   have cS := nb_new aD ak.lt
   have eB := nb_new aD V.lt
   replace ⟨hD, ak, V, E, C⟩ := (sn [O, W, b] bF aD).g5 hD ak V E C
   clear bF cR aD
   have cT : Own (α := Txt) ci aK 9 (nin (ge w.heap.size) [aK, O, W, b]) 3 3 [(⟨[]⟩ : Txt), (⟨[111]⟩ : Txt), (⟨[112, 112]⟩ : Txt)] := Own.lit cQ rfl (by decide) ⟨rfl, rfl, rfl, rfl⟩
   refine .cl (c_spec_l6Rd_of ([(⟨[]⟩ : Txt), (⟨[111]⟩ : Txt), (⟨[112, 112]⟩ : Txt)] : List Txt) ak (hD.toAll (.tail _ (.tail _ (.tail _ (.head _))))) (by omega) (cT.toAll (.tail _ (.tail _ (.tail _ (.head _)))) cS) (by simp) (w := ci) (F := all)) ?_
   rintro fm dQ ⟨⟨bG, rfl, eC⟩, dR, eD, aO, bH⟩
   replace ⟨hD, V, E, C⟩ := (so [aK, O, W, b] bH).g4 hD V E C
   clear bH
   have cU : 0 < n_out + 1 := (by omega)
   refine RG.idx (b := W) (o := 0) 0 (len := n_out + 1) (i := 0) (sz := 2) (by kernel_rfl) (by omega) cU rfl <| .r 1 ?_
   obtain ⟨aw, aE⟩ : ∃ y, (out ++ [aq])[0]? = some y := ⟨_, List.getElem?_eq_getElem (by omega)⟩
   have eE := drop_at aE; have dS := List.mem_of_getElem? aE
   obtain ⟨_, rfl, aP⟩ := V.elem 0 aw aE
   replace aP : Has dQ ⟨W, 0 + 0 * Rep.sz Tag, none⟩ [vT aw.key, vT aw.val] := by rw [Nat.zero_add]; exact aP
   refine RG.storeO (t' := 9) (i := 0) (k := 1) (v := vT bG) (cs := [vT aw.key, vT aw.val]) (⟨aw.key, bG⟩ : Tag) V aE aP (by kernel_rfl) (by kernel_rfl) (by kernel_rfl) rfl fun dT cV bI cW => ?_
   replace ⟨hD, aO, E, C⟩ := (so [aK, O, W, b] bI).g4 hD aO E C
   clear bI cW
   refine .d <| .ib 2 <| .s <| .g <| .r 2 <| .d ?_
   have dU := cV.sl aN
   replace ⟨hD, E⟩ := (sd dT [aK, O, W, b] W).g2 hD E
   exact .rt Tryz.func102 Tryz.results102 (vS W (n_out + 1) b8) ⟨⟨(((out ++ [aq]).set 0 (⟨aw.key, bG⟩ : Tag)) : List Tag), (dU.vl (by rfl) (fun _ _ h => h.1)), (by exact nmx_set (by omega) (by grind [TagD]) (by grind))⟩, dR, by omega, aO, C⟩
  refine .r 1 <| .d <| .cf <| .sk <| .ib 2 <| .s <| .g <| .r 2 <| .d ?_
  have dV := V.sl aN
  replace ⟨hD, E⟩ := (sd b9 [O, W, b] W).g2 hD E
  exact .rt Tryz.func102 Tryz.results102 (vS W (n_out + 1) b8) ⟨⟨((out ++ [aq]) : List Tag), (dV.vl (by rfl) (fun _ _ h => h.1)), (by exact nmx_all (by omega) (by grind [TagD]) (by grind))⟩, dL, by omega, ak, C⟩
 refine .d <| .cf <| .sk <| .s <| .s <| .g <| .r 1 <| .cl (c_spec_l6Rd_pick 40 bh (hD.toAll (.tail _ (.tail _ (.head _)))) (by omega) (w := aB) (F := all)) ?_
 rintro fp cj ⟨⟨ck, rfl, eF⟩, dW, eG, al, bJ⟩
 replace ⟨hD, J, E, C⟩ := (so [O, r_out, b] bJ).g4 hD J E C
 clear bJ
 refine .d <| .b 2 <| .s <| .g <| .eq ck 0 (fun cX => ?_) (fun cX => ?_)
 ·refine .r 1 <| .d <| .ct <| .s <| .g <| .r 2 <| .cl (c_spec_l71TagX al (hD.toAll (.tail _ (.tail _ (.head _)))) (by omega) (w := cj) (F := all)) ?_
  rintro fq ft ⟨⟨aX, ⟨_, rfl, rfl⟩, eH⟩, dX, eI, ag, bK⟩
  replace ⟨hD, J, E, C⟩ := (so [O, r_out, b] bK).g4 hD J E C
  clear bK
  refine .ns 1 112 [vT aX.key, vT aX.val] fun cm fu ax bL cY cZ => ?_
  have c7 := nb_new ax ag.lt
  have bM := nb_new ax J.lt
  have c8 := nb_new ax E.lt
  have c9 := gb_new ax C.size
  replace ⟨hD, ag, J, E, C⟩ := (se [O, r_out, b] bL).g5 hD ag J E C
  clear bL cZ ax
  have bd : nin (ge w.heap.size) [O, r_out, b] cm ∧ cm ≠ r_out := hap_mk c9 (all_cons c8 (all_cons bM (all_cons c7 all_nil))) bM
  refine RG.append1 (T := 31) (ty := 31) (y := aX) J cY (by kernel_rfl) (by kernel_rfl) rfl bd (by omega) fun bN dY dZ ay ai bO => ?_
  have eJ := nb_or ai bV ag.lt
  have eK := nb_or ai bW E.lt
  have da := gb_or ai aU C.size
  replace ⟨hD, ag, C⟩ := (sa [O, r_out, b] bO ai).g3 hD ag C
  clear bO
  replace ay := ay.rn r_out
  clear ai
  have eL := ay.len; have eM := ay.max
  refine .r 1 <| .d ?_
  have d0 := ay.sl da
  replace hD := (sd dZ [O, bN, b] bN).g1 hD
  exact .rt Tryz.func102 Tryz.results102 (vS bN (n_out + 1) dY) ⟨⟨((out ++ [aX]) : List Tag), (d0.vl (by rfl) (fun _ _ h => h.1)), (by exact nmx_all (by omega) (by grind [TagD]) (by grind))⟩, dX, by omega, ag, C⟩
 refine .r 1 <| .d <| .cf <| .s <| .g <| .eq ck 1 (fun db => ?_) (fun db => ?_)
 ·refine .r 1 <| .d <| .ct <| .g <| .r 2 <| .ns 3 9 [.string (bs []), .string (bs [111]), .string (bs [112, 112])] fun aL co aF bP de df => ?_
  have dg := nb_new aF al.lt
  have eN := nb_new aF J.lt
  replace ⟨hD, al, J, C⟩ := (sn [O, r_out, b] bP aF).g4 hD al J C
  clear bP df aF
  have dh : Own (α := Txt) co aL 9 (nin (ge w.heap.size) [aL, O, r_out, b]) 3 3 [(⟨[]⟩ : Txt), (⟨[111]⟩ : Txt), (⟨[112, 112]⟩ : Txt)] := Own.lit de rfl (by decide) ⟨rfl, rfl, rfl, rfl⟩
  refine .cl (c_spec_l6Rd_of ([(⟨[]⟩ : Txt), (⟨[111]⟩ : Txt), (⟨[112, 112]⟩ : Txt)] : List Txt) al (hD.toAll (.tail _ (.tail _ (.tail _ (.head _))))) (by omega) (dh.toAll (.tail _ (.tail _ (.tail _ (.head _)))) dg) (by simp) (w := co) (F := all)) ?_
  rintro fv d3 ⟨⟨bQ, rfl, eO⟩, d4, eP, aQ, bR⟩
  replace ⟨hD, J, C⟩ := (so [aL, O, r_out, b] bR).g3 hD J C
  clear bR
  have di : 0 < n_out := (by omega)
  refine RG.idx (b := r_out) (o := 0) 0 (len := n_out) (i := 0) (sz := 2) (by kernel_rfl) (by omega) di rfl <| .r 1 ?_
  obtain ⟨az, aG⟩ : ∃ y, out[0]? = some y := ⟨_, List.getElem?_eq_getElem (by omega)⟩
  have eQ := drop_at aG; have d5 := List.mem_of_getElem? aG
  obtain ⟨_, rfl, aR⟩ := J.elem 0 az aG
  replace aR : Has d3 ⟨r_out, 0 + 0 * Rep.sz Tag, none⟩ [vT az.key, vT az.val] := by rw [Nat.zero_add]; exact aR
  refine RG.storeO (t' := 9) (i := 0) (k := 1) (v := vT bQ) (cs := [vT az.key, vT az.val]) (⟨az.key, bQ⟩ : Tag) J aG aR (by kernel_rfl) (by kernel_rfl) (by kernel_rfl) rfl fun d6 dj bS dm => ?_
  replace ⟨hD, aQ, C⟩ := (so [aL, O, r_out, b] bS).g3 hD aQ C
  clear bS dm
  refine .d <| .ib 2 <| .s <| .g <| .r 2 <| .d ?_
  have d7 := dj.sl aU
  replace hD := (sd d6 [aL, O, r_out, b] r_out).g1 hD
  exact .rt Tryz.func102 Tryz.results102 (vS r_out n_out c_out) ⟨⟨((out.set 0 (⟨az.key, bQ⟩ : Tag)) : List Tag), (d7.vl (by rfl) (fun _ _ h => h.1)), (by exact nmx_set (by omega) (by grind [TagD]) (by assumption))⟩, d4, by omega, aQ, C⟩
 refine .r 1 <| .d <| .cf <| .sk <| .ib 2 <| .s <| .g <| .r 2 <| .d ?_
 have d8 := J.sl aU
 replace hD := (sd cj [O, r_out, b] r_out).g1 hD
 exact .rt Tryz.func102 Tryz.results102 (vS r_out n_out c_out) ⟨⟨(out : List Tag), (d8.vl (by rfl) (fun _ _ h => h.1)), (by exact nmx_all (by omega) (by assumption) (by assumption))⟩, dW, by omega, al, C⟩
theorem c_spec_l72WorldX  {w : World} {F : Nat → Prop} {b : Nat} {ad : Option Addr} {cd p : Nat} {D : List UInt8} (hr : Box w b 140 [.slice ad D.length cd, .int .i64 (p : Int)]) (hD : RepS w (nin all [b]) ad D.length cd D) (hp : p + 3100 ≤ 1000000000)  : Calls Tryz.prog 56 [.pointer (some ⟨b, 0, none⟩)].toArray w (rets fun rv w' => (∃ (y : Wld), (∃ (a0 : Option Addr) (n0 c0 : Nat) (a1 : Option Addr) (n1 c1 : Nat) (a2 : Option Addr) (n2 c2 : Nat) (r3 n3 c3 : Nat) (a4 : Option Addr) (n4 c4 : Nat) (a5 : Option Addr) (n5 c5 : Nat) (a6 : Option Addr) (n6 c6 : Nat), rv = .agg #[.slice a0 n0 c0, .slice a1 n1 c1, .slice a2 n2 c2, .slice (some ⟨r3, 0, none⟩) n3 c3, .slice a4 n4 c4, .slice a5 n5 c5, .slice a6 n6 c6, .int .i64 (y.disk.next)] ∧ RepS w' (nin (ge w.heap.size) [r3]) a0 n0 c0 (y.store.idx.names) ∧ RepS w' (nin (ge w.heap.size) [r3]) a1 n1 c1 (y.store.idx.posts) ∧ RepS w' (nin (ge w.heap.size) [r3]) a2 n2 c2 (y.store.parts) ∧ Own w' r3 51 (nin (ge w.heap.size) [r3]) n3 c3 (y.store.mem) ∧ w.heap.size ≤ r3 ∧ RepS w' (nin (ge w.heap.size) [r3]) a4 n4 c4 (y.disk.files) ∧ RepS w' (nin (ge w.heap.size) [r3]) a5 n5 c5 (y.disk.list) ∧ RepS w' (nin (ge w.heap.size) [r3]) a6 n6 c6 (y.disk.names)) ∧ WG y) ∧ ∃ p' : Nat, p' ≤ p + 3100 ∧ Box w' b 140 [.slice ad D.length cd, .int .i64 (p' : Int)] ∧ Chg (one b) w w') := by
 refine goT Tryz.func56 ?_
 have fT := hD.max
 refine .s <| .g <| .np 100 [.slice none 0 0, .slice none 0 0, .slice none 0 0, .slice none 0 0, .slice none 0 0, .slice none 0 0, .slice none 0 0, vI 0] fun al da bU b6 ae eI => ?_
 have fU := nb_new bU hr.lt
 have fV : Cov (one b) w al := cov_new bU (Nat.le_refl _)
 replace ⟨hD, hr⟩ := (sn [b] b6 bU).g2 hD hr
 have J : Chg (one b) w da := Chg.stepN (Chg.refl (one b) w) b6
 clear b6 eI bU
 refine .d <| .s <| .g <| .r 1 <| .cl (c_spec_l72Play hr (hD.toAll (.tail _ (.head _))) (by omega) (w := da) (F := all)) ?_
 rintro gR bz ⟨⟨aj, ⟨gS, gT, rfl, -, ⟨aN, gU, aO, aP, gV, aQ, aR, gW, aS, ah, aJ, aW, ak, aG, aX, ai, aK, aY, ag, aL, aZ, rfl, W, aa, ab, C, bc, ac, bA, eJ, V, bd, db, eK, E, bg, de, eL, df⟩⟩, fW⟩, gX, fX, bh, b7⟩
 have aT := al2 ae.lt hr.lt
 have ba : Gb w.heap.size da.heap.size := J.size
 have fY := nb_ge bc hr.lt
 have eM := nb_ge bc ae.lt
 have bi := gb_ge bc J.size
 have fZ : Cov (one b) w ah := cov_ge bc J.size
 have f0 := nb_ge bA hr.lt
 have f3 := nb_ge bA ae.lt
 have bj := gb_ge bA J.size
 have eN := nb_ge bd hr.lt
 have eO := nb_ge bd ae.lt
 have bk := gb_ge bd J.size
 have f4 : Cov (one b) w ai := cov_ge bd J.size
 have eP := nb_ge bg hr.lt
 have eQ := nb_ge bg ae.lt
 have bm := gb_ge bg J.size
 have f5 : Cov (one b) w ag := cov_ge bg J.size
 have dg : Mv [al, b] [ah, ak, ai, ag, al, b] da bz := Mv.cons (Mv.cons (Mv.cons (Mv.cons (Mv.on b7 (.tail _ (.head _))) bg) bd) bA) bc
 replace ⟨hD, ae, J⟩ := (sp dg b7).g3 hD ae J
 clear dg b7 bc bA bd bg
 replace W : RepS bz (nin (ge w.heap.size) [ah, ak, ai, ag, al, b]) _ _ _ _ := RepS.takeM (s0 := w.heap.size) (M := [al, b]) W aT ba
 have f6 := W.max
 replace aa : RepS bz (nin (ge w.heap.size) [ah, ak, ai, ag, al, b]) _ _ _ _ := RepS.takeM (s0 := w.heap.size) (M := [al, b]) aa aT ba
 have f7 := aa.max
 replace ab : RepS bz (nin (ge w.heap.size) [ah, ak, ai, ag, al, b]) _ _ _ _ := RepS.takeM (s0 := w.heap.size) (M := [al, b]) ab aT ba
 have f8 := ab.max
 replace C : Own bz ah 51 (nin (ge w.heap.size) [ah, ak, ai, ag, al, b]) _ _ _ := Own.takeM (s0 := w.heap.size) (M := [al, b]) C aT ba
 have f9 := C.max
 have ga := C.len
 replace ac : Own bz ak 88 (nin (ge w.heap.size) [ah, ak, ai, ag, al, b]) _ _ _ := Own.takeM (s0 := w.heap.size) (M := [al, b]) ac aT ba
 have gb := ac.max
 have gf := ac.len
 replace V : Own bz ai 3 (nin (ge w.heap.size) [ah, ak, ai, ag, al, b]) _ _ _ := Own.takeM (s0 := w.heap.size) (M := [al, b]) V aT ba
 have gg := V.max
 have gh := V.len
 replace E : Own bz ag 31 (nin (ge w.heap.size) [ah, ak, ai, ag, al, b]) _ _ _ := Own.takeM (s0 := w.heap.size) (M := [al, b]) E aT ba
 have fb := E.max
 have fc := E.len
 clear aT
 have dt := W.len
 subst dt
 have du := aa.len
 subst du
 have dv := ab.len
 subst dv
 refine .r 3 <| .np 100 [.slice none 0 0, .slice none 0 0, .slice none 0 0, .slice none 0 0, .slice none 0 0, .slice none 0 0, .slice none 0 0, vI 0] fun af gi aC b8 dw dx => ?_
 have bG := nb_new aC bh.lt
 have fd := nb_new aC ae.lt
 have bo := nb_new aC C.lt
 have bH := nb_new aC ac.lt
 have bq := nb_new aC V.lt
 have br := nb_new aC E.lt
 have fe := J.cn aC
 replace ⟨hD, bh, ae, W, aa, ab, C, ac, V, E, J⟩ := (sn [ah, ak, ai, ag, al, b] b8 aC).g11 hD bh ae W aa ab C ac V E J
 clear b8 dx aC
 refine .r 1 <| .sc [.slice aN aj.store.idx.names.length aO, .slice aP aj.store.idx.posts.length aQ, .slice aR aj.store.parts.length aS, vS ah aJ aW, vS ak aG aX, vS ai aK aY, vS ag aL aZ, vI aj.disk.next] dw fun eR b9 O dy => ?_
 replace ⟨hD, bh, ae, W, aa, ab, C, ac, V, E, J⟩ := (so [af, ah, ak, ai, ag, al, b] b9).g11 hD bh ae W aa ab C ac V E J
 clear b9 dy
 refine .d <| .s <| .s <| .g <| .r 1 <| .cl (c_spec_l6Rd_pick 40 bh (hD.toAll (.tail _ (.tail _ (.tail _ (.tail _ (.tail _ (.tail _ (.head _)))))))) (by omega) (w := eR) (F := all)) ?_
 rintro gj aB ⟨⟨bV, rfl, ff⟩, ce, fg, am, cg⟩
 replace ⟨hD, ae, W, aa, ab, C, ac, V, E, O, J⟩ := (so [af, ah, ak, ai, ag, al, b] cg).g11 hD ae W aa ab C ac V E O J
 clear cg
 refine .d <| .b 0 <| .s <| .g <| .eq bV 0 (fun dz => ?_) (fun dz => ?_)
 ·refine .r 1 <| .d <| .ct ?_
  replace hD := hD.into
  replace W := W.into
  replace aa := aa.into
  replace ab := ab.into
  have dA : Cov (mtb [ah, ak, ai, ag, b] aB.heap.size) aB b := ⟨.inl (.inl (.tail _ (.tail _ (.tail _ (.tail _ (.head _))))))⟩
  have dB : Gb (af + 1) aB.heap.size := O.lt
  refine .gd (mtb [ah, ak, ai, ag, b] aB.heap.size) 7 fun gk ci => ?_
  replace ⟨hD, am, ae, W, aa, ab, C, ac, V, E, O, J⟩ := (se [af, ah, ak, ai, ag, al, b] ci).g12 hD am ae W aa ab C ac V E O J
  clear ci
  refine .r [0, 1] <| .lb 2 O (nS_of (all_cons bo (all_cons bH (all_cons bq (all_cons br (all_cons bG all_nil))))) dB) <| .r [3] <| .go 4 <| .cl (fun dh bt => c_spec_l6Rd_pick 6 (am.ext bt) ((hD.toAll (.tail _ (.tail _ (.tail _ (.tail _ (.tail _ (.tail _ (.head _)))))))).ext bt) (by omega) (w := dh) (F := all)) ?_
  intro dh bt
  replace ⟨hD, am, ae, W, aa, ab, C, ac, V, E, O, J⟩ := (se [af, ah, ak, ai, ag, al, b] bt).g12 hD am ae W aa ab C ac V E O J
  rintro gl gm ⟨⟨bW, rfl, fh⟩, eS, fi, ao, bI⟩
  have hkeep_ := bI
  replace ⟨hD, ae, W, aa, ab, C, ac, V, E, O, J⟩ := (so [af, ah, ak, ai, ag, al, b] bI).g11 hD ae W aa ab C ac V E O J
  clear bI
  refine ⟨Chg.toS hkeep_ (Cov.toS dA), ?_⟩
  refine GA.int (i := 5) (1 + bW) (by kernel_rfl) (by omega) <| .go 6 <| .ns 1 3 [vI (1 + bW)] fun gn cj => ?_
  replace ⟨hD, ao, ae, W, aa, ab, C, ac, V, E, O, J⟩ := (se [af, ah, ak, ai, ag, al, b] cj).g12 hD ao ae W aa ab C ac V E O J
  clear cj
  intro di gp aD ck bJ dC
  have dD := nb_new aD ao.lt
  have dE := nb_new aD ae.lt
  have dF := nb_new aD C.lt
  have dG := nb_new aD ac.lt
  have cm := nb_new aD V.lt
  have dH := nb_new aD E.lt
  have dI := nb_new aD O.lt
  have dJ := gb_new aD J.size
  replace ⟨hD, ao, ae, W, aa, ab, C, ac, V, E, O, J⟩ := (se [af, ah, ak, ai, ag, al, b] ck).g12 hD ao ae W aa ab C ac V E O J
  clear ck dC aD
  refine .d fun gq bK => ?_
  replace ⟨hD, ao, ae, W, aa, ab, C, ac, V, E, O, bJ⟩ := (se [af, ah, ak, ai, ag, al, b] bK).g12 hD ao ae W aa ab C ac V E O bJ
  replace J := (se [af, ah, ak, ai, ag, al, b] bK).g1 J
  clear bK
  replace hD := hD.outof
  replace W := W.outof
  replace aa := aa.outof
  replace ab := ab.outof
  have bY : nin (ge w.heap.size) [af, ah, ak, ai, ag, al, b] di ∧ di ≠ ai := hap_mk dJ (all_cons dI (all_cons dF (all_cons dG (all_cons cm (all_cons dH (all_cons dE (all_cons dD all_nil))))))) cm
  refine RG.append1 (T := 68) (ty := 68) (y := 1 + bW) V bJ (by kernel_rfl) (by kernel_rfl) rfl bY (by have q1 : WD _ := (by assumption); have q2 := q1.wi.dsk.nl; have q3 := q1.wi.dsk.nm.len; have q4 := q1.wi.sto.nm2; omega) fun aU co gu az aw cp => ?_
  have fj := nb_or aw eN ao.lt
  have fk := nb_or aw eO ae.lt
  have fl := nb_or aw db C.lt
  have fm := nb_or aw eK ac.lt
  have fp := nb_or aw (Nb.symm df) E.lt
  have fq := nb_or aw (Nb.symm bq) O.lt
  have dK := gb_or aw bk J.size
  replace ⟨hD, ao, ae, W, aa, ab, C, ac, E, O, J⟩ := (sa [af, ah, ak, ai, ag, al, b] cp aw).g11 hD ao ae W aa ab C ac E O J
  clear cp
  replace az := az.rn ai
  clear aw
  have ft := az.len; have fu := az.max
  refine .r 2 <| .ss 5 (vS aU (aK + 1) co) O fun gv cq dL dM => ?_
  replace ⟨hD, ao, ae, W, aa, ab, C, ac, az, E, J⟩ := (so [af, ah, ak, aU, ag, al, b] cq).g11 hD ao ae W aa ab C ac az E J
  clear cq dM
  refine .d <| .ib 0 <| .s <| .g <| .ln dL <| .sc [.slice aN aj.store.idx.names.length aO, .slice aP aj.store.idx.posts.length aQ, .slice aR aj.store.parts.length aS, vS ah aJ aW, vS ak aG aX, vS aU (aK + 1) co, vS ag aL aZ, vI aj.disk.next] ae fun cr cu dN dO => ?_
  replace ⟨hD, ao, W, aa, ab, C, ac, az, E, J⟩ := (so [af, ah, ak, aU, ag, al, b] cu).g10 hD ao W aa ab C ac az E J
  clear cu dO
  refine .d ?_
  have bB := ac.sl bj
  replace ⟨hD, W, aa, ab, C, az, E⟩ := (sd cr [af, ah, ak, aU, ag, al, b] ak).g7 hD W aa ab C az E
  have cv := az.sl dK
  replace ⟨hD, W, aa, ab, C, bB, E⟩ := (sd cr [af, ah, aU, ag, al, b] aU).g7 hD W aa ab C bB E
  have eT := E.sl bm
  replace ⟨hD, W, aa, ab, C, bB, cv⟩ := (sd cr [af, ah, ag, al, b] ag).g7 hD W aa ab C bB cv
  exact .rb Tryz.func56 Tryz.results56 dN ⟨⟨((⟨(⟨(⟨aj.store.idx.names, aj.store.idx.posts⟩ : Idx), aj.store.parts, aj.store.mem⟩ : Sto), (⟨aj.disk.files, (aj.disk.list ++ [1 + bW]), aj.disk.names, aj.disk.next⟩ : Dsk)⟩ : Wld) : Wld), ⟨aN, aj.store.idx.names.length, aO, aP, aj.store.idx.posts.length, aQ, aR, aj.store.parts.length, aS, ah, aJ, aW, (some ⟨ak, 0, none⟩), aG, aX, (some ⟨aU, 0, none⟩), (aK + 1), co, (some ⟨ag, 0, none⟩), aL, aZ, rfl, ((RepS.lessM W (all_cons (.tail _ (.head _)) all_nil)).eqx (by rfl)), ((RepS.lessM aa (all_cons (.tail _ (.head _)) all_nil)).eqx (by rfl)), ((RepS.lessM ab (all_cons (.tail _ (.head _)) all_nil)).eqx (by rfl)), ((Own.lessM C (all_cons (.tail _ (.head _)) all_nil)).eqx (by rfl)), bi, ((RepS.lessM bB (all_cons (.tail _ (.head _)) all_nil)).eqx (by rfl)), ((RepS.lessM cv (all_cons (.tail _ (.head _)) all_nil)).eqx (by rfl)), ((RepS.lessM eT (all_cons (.tail _ (.head _)) all_nil)).eqx (by rfl))⟩, (by have q1 : WD _ := (by assumption); exact q1.wg1 _)⟩, eS, by omega, ao, J⟩
 refine .r 1 <| .d <| .cf <| .s <| .g <| .eq bV 1 (fun dP => ?_) (fun dP => ?_)
 ·refine .r 1 <| .d <| .ct ?_
  replace hD := hD.into
  replace W := W.into
  replace aa := aa.into
  replace ab := ab.into
  have cw : Cov (mtb [ah, ak, ai, ag, b] aB.heap.size) aB b := ⟨.inl (.inl (.tail _ (.tail _ (.tail _ (.tail _ (.head _))))))⟩
  have dQ : Gb (af + 1) aB.heap.size := O.lt
  refine .gd (mtb [ah, ak, ai, ag, b] aB.heap.size) 10 fun gw cx => ?_
  replace ⟨hD, am, ae, W, aa, ab, C, ac, V, E, O, J⟩ := (se [af, ah, ak, ai, ag, al, b] cx).g12 hD am ae W aa ab C ac V E O J
  clear cx
  refine .r [0, 1] <| .lb 2 O (nS_of (all_cons bo (all_cons bH (all_cons bq (all_cons br (all_cons bG all_nil))))) dQ) <| .r [3, 6] <| .go 4 <| .cl (fun dj bu => c_spec_l6Rd_pick 7 (am.ext bu) ((hD.toAll (.tail _ (.tail _ (.tail _ (.tail _ (.tail _ (.tail _ (.head _)))))))).ext bu) (by omega) (w := dj) (F := all)) ?_
  intro dj bu
  replace ⟨hD, am, ae, W, aa, ab, C, ac, V, E, O, J⟩ := (se [af, ah, ak, ai, ag, al, b] bu).g12 hD am ae W aa ab C ac V E O J
  rintro gx gy ⟨⟨bX, rfl, fv⟩, gz, fw, dR, bL⟩
  have hkeep_ := bL
  replace ⟨hD, ae, W, aa, ab, C, ac, V, E, O, J⟩ := (so [af, ah, ak, ai, ag, al, b] bL).g11 hD ae W aa ab C ac V E O J
  clear bL
  refine ⟨Chg.toS hkeep_ (Cov.toS cw), ?_⟩
  refine GA.int (i := 5) (1 + bX) (by kernel_rfl) (by omega) <| .go 7 <| .cl (fun dm bv => c_spec_l71Row (dR.ext bv) ((hD.toAll (.tail _ (.tail _ (.tail _ (.tail _ (.tail _ (.tail _ (.head _)))))))).ext bv) (by omega) (w := dm) (F := all)) ?_
  intro dm bv
  replace ⟨hD, ae, W, aa, ab, C, ac, V, E, O, J⟩ := (se [af, ah, ak, ai, ag, al, b] bv).g11 hD ae W aa ab C ac V E O J
  rintro gA gC ⟨⟨bn, ⟨_, rfl, rfl⟩, fx⟩, eU, fy, au, bM⟩
  have hkeep_ := bM
  replace ⟨hD, ae, W, aa, ab, C, ac, V, E, O, J⟩ := (so [af, ah, ak, ai, ag, al, b] bM).g11 hD ae W aa ab C ac V E O J
  clear bM
  refine ⟨Chg.toS hkeep_ (Cov.toS cw), ?_⟩
  refine .r [8] <| .go 9 <| .ns 1 51 [vI (1 + bX), vI bn.t, vI bn.v] fun gD cy => ?_
  replace ⟨hD, au, ae, W, aa, ab, C, ac, V, E, O, J⟩ := (se [af, ah, ak, ai, ag, al, b] cy).g12 hD au ae W aa ab C ac V E O J
  clear cy
  intro dp gE aE cz bN dS
  have dT := nb_new aE au.lt
  have dU := nb_new aE ae.lt
  have cA := nb_new aE C.lt
  have dV := nb_new aE ac.lt
  have dW := nb_new aE V.lt
  have dX := nb_new aE E.lt
  have dY := nb_new aE O.lt
  have dZ := gb_new aE J.size
  replace ⟨hD, au, ae, W, aa, ab, C, ac, V, E, O, J⟩ := (se [af, ah, ak, ai, ag, al, b] cz).g12 hD au ae W aa ab C ac V E O J
  clear cz dS aE
  refine .d fun gF bO => ?_
  replace ⟨hD, au, ae, W, aa, ab, C, ac, V, E, O, bN⟩ := (se [af, ah, ak, ai, ag, al, b] bO).g12 hD au ae W aa ab C ac V E O bN
  replace J := (se [af, ah, ak, ai, ag, al, b] bO).g1 J
  clear bO
  replace hD := hD.outof
  replace W := W.outof
  replace aa := aa.outof
  replace ab := ab.outof
  have bZ : nin (ge w.heap.size) [af, ah, ak, ai, ag, al, b] dp ∧ dp ≠ ah := hap_mk dZ (all_cons dY (all_cons cA (all_cons dV (all_cons dW (all_cons dX (all_cons dU (all_cons dT all_nil))))))) cA
  refine RG.append1 (T := 28) (ty := 28) (y := (⟨1 + bX, (⟨bn.t, bn.v⟩ : Row)⟩ : Smp)) C bN (by kernel_rfl) (by kernel_rfl) rfl bZ (by have q1 : WD _ := (by assumption); have q2 := q1.wi.dsk.nl; have q3 := q1.wi.dsk.nm.len; have q4 := q1.wi.sto.nm2; omega) fun aV cB gG aq aA cC => ?_
  have fz := nb_or aA eM ae.lt
  have fA := nb_or aA (Nb.symm eJ) ac.lt
  have fB := nb_or aA (Nb.symm db) V.lt
  have fC := nb_or aA (Nb.symm de) E.lt
  have fD := nb_or aA (Nb.symm bo) O.lt
  have d0 := gb_or aA bi J.size
  replace ⟨hD, au, ae, W, aa, ab, ac, V, E, O, J⟩ := (sa [af, ah, ak, ai, ag, al, b] cC aA).g11 hD au ae W aa ab ac V E O J
  clear cC
  replace aq := aq.rn ah
  clear aA
  have fE := aq.len; have fF := aq.max
  refine .r 2 <| .ss 3 (vS aV (aJ + 1) cB) O fun gH cD d3 d4 => ?_
  replace ⟨hD, au, ae, W, aa, ab, aq, ac, V, E, J⟩ := (so [af, aV, ak, ai, ag, al, b] cD).g11 hD au ae W aa ab aq ac V E J
  clear cD d4
  refine .d <| .ib 0 <| .s <| .g <| .ln d3 <| .sc [.slice aN aj.store.idx.names.length aO, .slice aP aj.store.idx.posts.length aQ, .slice aR aj.store.parts.length aS, vS aV (aJ + 1) cB, vS ak aG aX, vS ai aK aY, vS ag aL aZ, vI aj.disk.next] ae fun cE cF d5 d6 => ?_
  replace ⟨hD, au, W, aa, ab, aq, ac, V, E, J⟩ := (so [af, aV, ak, ai, ag, al, b] cF).g10 hD au W aa ab aq ac V E J
  clear cF d6
  refine .d ?_
  have bC := ac.sl bj
  replace ⟨hD, W, aa, ab, aq, V, E⟩ := (sd cE [af, aV, ak, ai, ag, al, b] ak).g7 hD W aa ab aq V E
  have cG := V.sl bk
  replace ⟨hD, W, aa, ab, aq, bC, E⟩ := (sd cE [af, aV, ai, ag, al, b] ai).g7 hD W aa ab aq bC E
  have eV := E.sl bm
  replace ⟨hD, W, aa, ab, aq, bC, cG⟩ := (sd cE [af, aV, ag, al, b] ag).g7 hD W aa ab aq bC cG
  exact .rb Tryz.func56 Tryz.results56 d5 ⟨⟨((⟨(⟨(⟨aj.store.idx.names, aj.store.idx.posts⟩ : Idx), aj.store.parts, (aj.store.mem ++ [(⟨1 + bX, (⟨bn.t, bn.v⟩ : Row)⟩ : Smp)])⟩ : Sto), (⟨aj.disk.files, aj.disk.list, aj.disk.names, aj.disk.next⟩ : Dsk)⟩ : Wld) : Wld), ⟨aN, aj.store.idx.names.length, aO, aP, aj.store.idx.posts.length, aQ, aR, aj.store.parts.length, aS, aV, (aJ + 1), cB, (some ⟨ak, 0, none⟩), aG, aX, (some ⟨ai, 0, none⟩), aK, aY, (some ⟨ag, 0, none⟩), aL, aZ, rfl, ((RepS.lessM W (all_cons (.tail _ (.head _)) all_nil)).eqx (by rfl)), ((RepS.lessM aa (all_cons (.tail _ (.head _)) all_nil)).eqx (by rfl)), ((RepS.lessM ab (all_cons (.tail _ (.head _)) all_nil)).eqx (by rfl)), ((Own.lessM aq (all_cons (.tail _ (.head _)) all_nil)).eqx (by rfl)), d0, ((RepS.lessM bC (all_cons (.tail _ (.head _)) all_nil)).eqx (by rfl)), ((RepS.lessM cG (all_cons (.tail _ (.head _)) all_nil)).eqx (by rfl)), ((RepS.lessM eV (all_cons (.tail _ (.head _)) all_nil)).eqx (by rfl))⟩, (by have q1 : WD _ := (by assumption); exact q1.wg2 (by omega) (by assumption))⟩, eU, by omega, au, J⟩
 refine .r 1 <| .d <| .cf <| .s <| .g <| .eq bV 2 (fun d7 => ?_) (fun d7 => ?_)
 ·refine .r 1 <| .d <| .ct <| .s <| .g <| .r 2 <| .lb O <| .r 1 <| .bp ((aG : Int) > 0) (fun d8 => ?_) (fun d8 => ?_)
  ·refine .d <| .ct <| .g <| .r 2 <| .lb O ?_
   have eW := ac.sl bj
   replace ⟨hD, W, aa, ab, C, V, E⟩ := (sd aB [af, ah, ak, ai, ag, al, b] ak).g7 hD W aa ab C V E
   refine RG.sub (t := 81) (lo := some (vI 1)) (hi := none) eW 1 aG (by kernel_rfl) (by kernel_rfl) (.inr ⟨_, _, rfl, by omega⟩) (.inl ⟨rfl, rfl⟩) (by omega) (by omega) fun cH cI aH => ?_
   have fG := aH.len; have fH := aH.max
   refine .r 2 <| .ss 4 (.slice cH (aG - 1) cI) O fun gI cJ d9 ec => ?_
   replace ⟨hD, am, ae, W, aa, ab, C, V, E, aH, J⟩ := (so [af, ah, ai, ag, al, b] cJ).g11 hD am ae W aa ab C V E aH J
   clear cJ ec
   refine .d <| .ib 0 <| .s <| .g <| .ln d9 <| .sc [.slice aN aj.store.idx.names.length aO, .slice aP aj.store.idx.posts.length aQ, .slice aR aj.store.parts.length aS, vS ah aJ aW, .slice cH (aG - 1) cI, vS ai aK aY, vS ag aL aZ, vI aj.disk.next] ae fun dq cK ed ee => ?_
   replace ⟨hD, am, W, aa, ab, C, V, E, aH, J⟩ := (so [af, ah, ai, ag, al, b] cK).g10 hD am W aa ab C V E aH J
   clear cK ee
   refine .d ?_
   have cL := V.sl bk
   replace ⟨hD, W, aa, ab, C, E, aH⟩ := (sd dq [af, ah, ai, ag, al, b] ai).g7 hD W aa ab C E aH
   have eX := E.sl bm
   replace ⟨hD, W, aa, ab, C, cL, aH⟩ := (sd dq [af, ah, ag, al, b] ag).g7 hD W aa ab C cL aH
   exact .rb Tryz.func56 Tryz.results56 ed ⟨⟨((⟨(⟨(⟨aj.store.idx.names, aj.store.idx.posts⟩ : Idx), aj.store.parts, aj.store.mem⟩ : Sto), (⟨((aj.disk.files.take aG).drop 1), aj.disk.list, aj.disk.names, aj.disk.next⟩ : Dsk)⟩ : Wld) : Wld), ⟨aN, aj.store.idx.names.length, aO, aP, aj.store.idx.posts.length, aQ, aR, aj.store.parts.length, aS, ah, aJ, aW, cH, (aG - 1), cI, (some ⟨ai, 0, none⟩), aK, aY, (some ⟨ag, 0, none⟩), aL, aZ, rfl, ((RepS.lessM W (all_cons (.tail _ (.head _)) all_nil)).eqx (by rfl)), ((RepS.lessM aa (all_cons (.tail _ (.head _)) all_nil)).eqx (by rfl)), ((RepS.lessM ab (all_cons (.tail _ (.head _)) all_nil)).eqx (by rfl)), ((Own.lessM C (all_cons (.tail _ (.head _)) all_nil)).eqx (by rfl)), bi, ((RepS.lessM aH (all_cons (.tail _ (.head _)) all_nil)).eqx (by rfl)), ((RepS.lessM cL (all_cons (.tail _ (.head _)) all_nil)).eqx (by rfl)), ((RepS.lessM eX (all_cons (.tail _ (.head _)) all_nil)).eqx (by rfl))⟩, (by have q1 : WD _ := (by assumption); exact q1.wg3)⟩, ce, by omega, am, J⟩
  refine .d <| .cf <| .sk <| .ib 0 <| .s <| .g <| .ln O <| .sc [.slice aN aj.store.idx.names.length aO, .slice aP aj.store.idx.posts.length aQ, .slice aR aj.store.parts.length aS, vS ah aJ aW, vS ak aG aX, vS ai aK aY, vS ag aL aZ, vI aj.disk.next] ae fun cM cN ef eg => ?_
  replace ⟨hD, am, W, aa, ab, C, ac, V, E, O, J⟩ := (so [af, ah, ak, ai, ag, al, b] cN).g11 hD am W aa ab C ac V E O J
  clear cN eg
  refine .d ?_
  have bD := ac.sl bj
  replace ⟨hD, W, aa, ab, C, V, E⟩ := (sd cM [af, ah, ak, ai, ag, al, b] ak).g7 hD W aa ab C V E
  have cO := V.sl bk
  replace ⟨hD, W, aa, ab, C, bD, E⟩ := (sd cM [af, ah, ai, ag, al, b] ai).g7 hD W aa ab C bD E
  have eY := E.sl bm
  replace ⟨hD, W, aa, ab, C, bD, cO⟩ := (sd cM [af, ah, ag, al, b] ag).g7 hD W aa ab C bD cO
  exact .rb Tryz.func56 Tryz.results56 ef ⟨⟨(aj : Wld), ⟨aN, aj.store.idx.names.length, aO, aP, aj.store.idx.posts.length, aQ, aR, aj.store.parts.length, aS, ah, aJ, aW, (some ⟨ak, 0, none⟩), aG, aX, (some ⟨ai, 0, none⟩), aK, aY, (some ⟨ag, 0, none⟩), aL, aZ, rfl, ((RepS.lessM W (all_cons (.tail _ (.head _)) all_nil)).eqx (by rfl)), ((RepS.lessM aa (all_cons (.tail _ (.head _)) all_nil)).eqx (by rfl)), ((RepS.lessM ab (all_cons (.tail _ (.head _)) all_nil)).eqx (by rfl)), ((Own.lessM C (all_cons (.tail _ (.head _)) all_nil)).eqx (by rfl)), bi, ((RepS.lessM bD (all_cons (.tail _ (.head _)) all_nil)).eqx (by rfl)), ((RepS.lessM cO (all_cons (.tail _ (.head _)) all_nil)).eqx (by rfl)), ((RepS.lessM eY (all_cons (.tail _ (.head _)) all_nil)).eqx (by rfl))⟩, (by have q1 : WD _ := (by assumption); exact q1.wg)⟩, ce, by omega, am, J⟩
 refine .r 1 <| .d <| .cf <| .s <| .g <| .eq bV 3 (fun eh => ?_) (fun eh => ?_)
 ·refine .r 1 <| .d <| .ct ?_
  replace hD := hD.into
  replace W := W.into
  replace aa := aa.into
  replace ab := ab.into
  have ei : Cov (mtb [ah, ak, ai, ag, b] aB.heap.size) aB b := ⟨.inl (.inl (.tail _ (.tail _ (.tail _ (.tail _ (.head _))))))⟩
  have ej : Gb (af + 1) aB.heap.size := O.lt
  refine .gd (mtb [ah, ak, ai, ag, b] aB.heap.size) 6 fun gJ cP => ?_
  replace ⟨hD, am, ae, W, aa, ab, C, ac, V, E, O, J⟩ := (se [af, ah, ak, ai, ag, al, b] cP).g12 hD am ae W aa ab C ac V E O J
  clear cP
  refine .r [0, 1] <| .lb 2 O (nS_of (all_cons bo (all_cons bH (all_cons bq (all_cons br (all_cons bG all_nil))))) ej) <| .r [3] <| .go 4 <| .cl (fun cQ bw => c_spec_l71NameX (am.ext bw) ((hD.toAll (.tail _ (.tail _ (.tail _ (.tail _ (.tail _ (.tail _ (.head _)))))))).ext bw) (by omega) (w := cQ) (F := all)) ?_
  intro cQ bw
  replace ⟨hD, am, ae, W, aa, ab, C, ac, V, E, O, J⟩ := (se [af, ah, ak, ai, ag, al, b] bw).g12 hD am ae W aa ab C ac V E O J
  rintro gK gL ⟨⟨cR, ⟨eZ, e0, rfl, aI⟩, fI⟩, e7, fJ, ar, bP⟩
  have cS := al7 O.lt C.lt ac.lt V.lt E.lt ae.lt am.lt
  have ek : Gb w.heap.size cQ.heap.size := J.size
  have hkeep_ := bP
  replace ⟨hD, ae, W, aa, ab, C, ac, V, E, O, J⟩ := (so [af, ah, ak, ai, ag, al, b] bP).g11 hD ae W aa ab C ac V E O J
  clear bP
  refine ⟨Chg.toS hkeep_ (Cov.toS ei), ?_⟩
  have aI := aI.fr cS ek
  have fK := aI.max
  clear cS
  refine .go 5 <| .ns 1 31 [.slice eZ cR.length e0] fun gM bQ => ?_
  replace ⟨hD, ar, ae, W, aa, ab, C, ac, V, E, O, aI⟩ := (se [af, ah, ak, ai, ag, al, b] bQ).g12 hD ar ae W aa ab C ac V E O aI
  replace J := (se [af, ah, ak, ai, ag, al, b] bQ).g1 J
  clear bQ
  intro dr gN aF bR bS en
  have eo := nb_new aF ar.lt
  have es := nb_new aF ae.lt
  have et := nb_new aF C.lt
  have ew := nb_new aF ac.lt
  have ey := nb_new aF V.lt
  have cT := nb_new aF E.lt
  have ez := nb_new aF O.lt
  have eA := gb_new aF J.size
  replace ⟨hD, ar, ae, W, aa, ab, C, ac, V, E, O, aI⟩ := (se [af, ah, ak, ai, ag, al, b] bR).g12 hD ar ae W aa ab C ac V E O aI
  replace J := (se [af, ah, ak, ai, ag, al, b] bR).g1 J
  clear bR en aF
  refine .d fun gO bT => ?_
  replace ⟨hD, ar, ae, W, aa, ab, C, ac, V, E, O, aI⟩ := (se [af, ah, ak, ai, ag, al, b] bT).g12 hD ar ae W aa ab C ac V E O aI
  replace ⟨bS, J⟩ := (se [af, ah, ak, ai, ag, al, b] bT).g2 bS J
  clear bT
  replace hD := hD.outof
  replace W := W.outof
  replace aa := aa.outof
  replace ab := ab.outof
  have b0 : nin (ge w.heap.size) [af, ah, ak, ai, ag, al, b] dr ∧ dr ≠ ag := hap_mk eA (all_cons ez (all_cons et (all_cons ew (all_cons ey (all_cons cT (all_cons es (all_cons eo all_nil))))))) cT
  refine RG.append1 (T := 23) (ty := 23) (y := cR) E bS (by kernel_rfl) (by kernel_rfl) ⟨_, _, _, rfl, aI.oi⟩ b0 (by have q1 : WD _ := (by assumption); have q2 := q1.wi.dsk.nl; have q3 := q1.wi.dsk.nm.len; have q4 := q1.wi.sto.nm2; omega) fun aM cU gP av ax cV => ?_
  have fL := nb_or ax eP ar.lt
  have fM := nb_or ax eQ ae.lt
  have fN := nb_or ax de C.lt
  have fO := nb_or ax eL ac.lt
  have fP := nb_or ax df V.lt
  have fQ := nb_or ax (Nb.symm br) O.lt
  have eB := gb_or ax bm J.size
  replace ⟨hD, ar, ae, W, aa, ab, C, ac, V, O, J⟩ := (sa [af, ah, ak, ai, ag, al, b] cV ax).g11 hD ar ae W aa ab C ac V O J
  clear cV
  replace av := av.rn ag
  clear ax
  have fR := av.len; have fS := av.max
  refine .r 2 <| .ss 6 (vS aM (aL + 1) cU) O fun gQ cW eC eD => ?_
  replace ⟨hD, ar, ae, W, aa, ab, C, ac, V, av, J⟩ := (so [af, ah, ak, ai, aM, al, b] cW).g11 hD ar ae W aa ab C ac V av J
  clear cW eD
  refine .d <| .ib 0 <| .s <| .g <| .ln eC <| .sc [.slice aN aj.store.idx.names.length aO, .slice aP aj.store.idx.posts.length aQ, .slice aR aj.store.parts.length aS, vS ah aJ aW, vS ak aG aX, vS ai aK aY, vS aM (aL + 1) cU, vI aj.disk.next] ae fun cX cY eE eF => ?_
  replace ⟨hD, ar, W, aa, ab, C, ac, V, av, J⟩ := (so [af, ah, ak, ai, aM, al, b] cY).g10 hD ar W aa ab C ac V av J
  clear cY eF
  refine .d ?_
  have bE := ac.sl bj
  replace ⟨hD, W, aa, ab, C, V, av⟩ := (sd cX [af, ah, ak, ai, aM, al, b] ak).g7 hD W aa ab C V av
  have cZ := V.sl bk
  replace ⟨hD, W, aa, ab, C, bE, av⟩ := (sd cX [af, ah, ai, aM, al, b] ai).g7 hD W aa ab C bE av
  have e8 := av.sl eB
  replace ⟨hD, W, aa, ab, C, bE, cZ⟩ := (sd cX [af, ah, aM, al, b] aM).g7 hD W aa ab C bE cZ
  exact .rb Tryz.func56 Tryz.results56 eE ⟨⟨((⟨(⟨(⟨aj.store.idx.names, aj.store.idx.posts⟩ : Idx), aj.store.parts, aj.store.mem⟩ : Sto), (⟨aj.disk.files, aj.disk.list, (aj.disk.names ++ [cR]), aj.disk.next⟩ : Dsk)⟩ : Wld) : Wld), ⟨aN, aj.store.idx.names.length, aO, aP, aj.store.idx.posts.length, aQ, aR, aj.store.parts.length, aS, ah, aJ, aW, (some ⟨ak, 0, none⟩), aG, aX, (some ⟨ai, 0, none⟩), aK, aY, (some ⟨aM, 0, none⟩), (aL + 1), cU, rfl, ((RepS.lessM W (all_cons (.tail _ (.head _)) all_nil)).eqx (by rfl)), ((RepS.lessM aa (all_cons (.tail _ (.head _)) all_nil)).eqx (by rfl)), ((RepS.lessM ab (all_cons (.tail _ (.head _)) all_nil)).eqx (by rfl)), ((Own.lessM C (all_cons (.tail _ (.head _)) all_nil)).eqx (by rfl)), bi, ((RepS.lessM bE (all_cons (.tail _ (.head _)) all_nil)).eqx (by rfl)), ((RepS.lessM cZ (all_cons (.tail _ (.head _)) all_nil)).eqx (by rfl)), ((RepS.lessM e8 (all_cons (.tail _ (.head _)) all_nil)).eqx (by rfl))⟩, (by have q1 : WD _ := (by assumption); exact q1.wg4 (by assumption))⟩, e7, by omega, ar, J⟩
 refine .r 1 <| .d <| .cf <| .sk <| .ib 0 <| .s <| .g <| .ln O <| .sc [.slice aN aj.store.idx.names.length aO, .slice aP aj.store.idx.posts.length aQ, .slice aR aj.store.parts.length aS, vS ah aJ aW, vS ak aG aX, vS ai aK aY, vS ag aL aZ, vI aj.disk.next] ae fun c7 c8 eG eH => ?_
 replace ⟨hD, am, W, aa, ab, C, ac, V, E, J⟩ := (so [af, ah, ak, ai, ag, al, b] c8).g10 hD am W aa ab C ac V E J
 clear c8 eH
 refine .d ?_
 have bF := ac.sl bj
 replace ⟨hD, W, aa, ab, C, V, E⟩ := (sd c7 [af, ah, ak, ai, ag, al, b] ak).g7 hD W aa ab C V E
 have c9 := V.sl bk
 replace ⟨hD, W, aa, ab, C, bF, E⟩ := (sd c7 [af, ah, ai, ag, al, b] ai).g7 hD W aa ab C bF E
 have fa := E.sl bm
 replace ⟨hD, W, aa, ab, C, bF, c9⟩ := (sd c7 [af, ah, ag, al, b] ag).g7 hD W aa ab C bF c9
 exact .rb Tryz.func56 Tryz.results56 eG ⟨⟨(aj : Wld), ⟨aN, aj.store.idx.names.length, aO, aP, aj.store.idx.posts.length, aQ, aR, aj.store.parts.length, aS, ah, aJ, aW, (some ⟨ak, 0, none⟩), aG, aX, (some ⟨ai, 0, none⟩), aK, aY, (some ⟨ag, 0, none⟩), aL, aZ, rfl, ((RepS.lessM W (all_cons (.tail _ (.head _)) all_nil)).eqx (by rfl)), ((RepS.lessM aa (all_cons (.tail _ (.head _)) all_nil)).eqx (by rfl)), ((RepS.lessM ab (all_cons (.tail _ (.head _)) all_nil)).eqx (by rfl)), ((Own.lessM C (all_cons (.tail _ (.head _)) all_nil)).eqx (by rfl)), bi, ((RepS.lessM bF (all_cons (.tail _ (.head _)) all_nil)).eqx (by rfl)), ((RepS.lessM c9 (all_cons (.tail _ (.head _)) all_nil)).eqx (by rfl)), ((RepS.lessM fa (all_cons (.tail _ (.head _)) all_nil)).eqx (by rfl))⟩, (by have q1 : WD _ := (by assumption); exact q1.wg)⟩, ce, by omega, am, J⟩
end Go.Proofs.YtfnpaglcnmcnbaaGreat
namespace Go.Proofs.YtfnpaglcnmcnbaaGreat
theorem RG.b2s {P : Program} {n : Nat} {K : Env → World → Prop} {ops : Array Oper} {j : Nat} {e : Env} {w : World} {s d : TypeId} {r c : Nat} {y : UInt8} {t : TypeId} {F : Nat → Prop}
 (ho : Own w r t F 1 c [y]) (h : cvtAt n ops j e = some (s, d, .slice (some ⟨r, 0, none⟩) 1 c)) (ht : b2sB P s d = true)
 (H : RG P n K ops (j + 1) (putE e (opAt ops j).dst (.string (bs [y]))) w) : RG P n K ops j e w := by
 obtain ⟨cs, h1, h2⟩ := ho.elem 0 y rfl
 cases h1
 have h3 : Has w ⟨r, 0, none⟩ [.int .u8 (y.toNat : Int)] := by simpa using h2
 have h4 := run_cvtAt (P := P) (w := w) h (run_b2s1 h3 ht)
 exact RG.val h4.1 h4.2 H
theorem to_byte {n : Int} (h : 0 ≤ n ∧ n ≤ 255) : ∃ y : UInt8, (y.toNat : Int) = n := by
 refine ⟨UInt8.ofNat n.toNat, ?_⟩
 rw [UInt8.toNat_ofNat']
 omega
theorem to_byte_v {n : Int} {y : UInt8} (h : (y.toNat : Int) = n) : Value.int .u8 (IntKind.u8.wrap n) = Value.int .u8 (y.toNat : Int) := by
 have := UInt8.toNat_lt y
 rw [← h, IntWalk.u8_in _ (by omega)]
def zigI (n : Int) : Int := if n < 0 then -2 * n - 1 else 2 * n
theorem zigI_b {n m : Int} (h : -m ≤ n ∧ n ≤ m) (hm : 0 ≤ m) : 0 ≤ zigI n ∧ zigI n ≤ 2 * m := by unfold zigI; split <;> omega
theorem zig_put {n : Int} (h : -10000 ≤ n ∧ n ≤ 10000) : 0 ≤ zigI n ∧ zigI n ≤ 1000000 := by have := zigI_b h (by omega); omega
theorem row_t {r : Row} (h : rowOk r = true) : -1000 ≤ r.t ∧ r.t ≤ 1000 := by have := rowOk_t h; omega
theorem row_v {r : Row} (h : rowOk r = true) : -1000 ≤ r.v ∧ r.v ≤ 1000 := by have := rowOk_v h; omega
theorem and_r {a b : Bool} (h : (a && b) = true) : b = true := by cases a <;> simp_all
theorem td128 {z : Int} (h : 0 ≤ z) : 0 ≤ Int.tdiv z 128 ∧ Int.tdiv z 128 * 128 ≤ z ∧ 0 ≤ Int.tmod z 128 ∧ Int.tmod z 128 < 128 := by
 obtain ⟨k, rfl⟩ : ∃ k : Nat, z = k := ⟨z.toNat, by omega⟩
 have e : Int.tdiv (k : Int) 128 = ((k / 128 : Nat) : Int) := rfl
 have e2 : Int.tmod (k : Int) 128 = ((k % 128 : Nat) : Int) := rfl
 rw [e, e2]
 omega
theorem fileF_ok : ∀ (fs : List Fil) (nx : Int) (o : Option Int), fileF nx o fs = true → ∀ f ∈ fs, 1 ≤ f.num ∧ f.num ≤ nx - 1 ∧ partOk f.part = true := by
 intro fs
 induction fs with
 | nil => intro nx o _ f hf; cases hf
 | cons x xs ih =>
   intro nx o h f hf
   unfold fileF at h
   simp only [Bool.and_eq_true] at h
   rcases List.mem_cons.1 hf with rfl | hf
   ·have := inR_t h.1.1.1
    exact ⟨this.1, this.2, h.1.2⟩
   ·exact ih nx _ h.2 f hf
theorem pMerge_nil {p : Prt} (h : PrtI p) (hk : partOk p = true) : pMerge p ⟨[], []⟩ = p := by
 have hb : ∀ id : Int, (partOf p id).length ≤ 24 := fun id => by
  have := partOk_of hk id
  unfold blockOk at this
  simp only [Bool.and_eq_true, decide_eq_true_eq] at this
  exact this.2
 have e : ∀ id : Int, partOf (⟨[], []⟩ : Prt) id = [] := fun id => by unfold partOf partF; rfl
 have hz : ∀ id : Int, ¬ (1 ≤ id ∧ id ≤ 6) → ∀ q : Prt, partOk q = true → partOf q id = [] := fun id hid q hq => by
  unfold partOk at hq
  simp only [Bool.and_eq_true, decide_eq_true_eq] at hq
  have key : ∀ (is : List Int) (bs : List (List Row)) (o : Option Int), partG o is bs = true → partF id is bs = [] := by
   intro is
   induction is with
   | nil => intro bs o _; unfold partF; rfl
   | cons i is ih =>
     intro bs o hg
     cases bs with
     | nil => unfold partF; rfl
     | cons b bs =>
       simp only [partG, Bool.and_eq_true] at hg
       have h5 := inR_t hg.1.1.1.1
       unfold partF
       rw [if_neg (by simp; omega)]
       exact ih bs _ hg.2
  exact key _ _ _ hq.2
 have hm : partOk (pMerge p ⟨[], []⟩) = true := by
  unfold pMerge
  refine pMake_ok (fun b hb2 => ?_) (by rw [pMergeL_len]; omega)
  unfold pMergeL at hb2
  obtain ⟨i, _, rfl⟩ := List.mem_map.1 hb2
  rw [e, sMerge_nil]
  exact ⟨h.of _, hb _⟩
 refine part_ext hm hk (fun id => ?_)
 by_cases hid : 1 ≤ id ∧ id ≤ 6
 ·rw [pMerge_of _ _ hid.1 hid.2, e, sMerge_nil]
 ·rw [hz id hid _ hm, hz id hid _ hk]
theorem diskOk_f {d : Dsk} (h : diskOk d = true) : (1 ≤ d.next ∧ d.next ≤ 999) ∧ d.list.length ≤ 6 ∧ fileF d.next none d.files = true ∧ lstOk d = true := by
 unfold diskOk at h
 simp only [Bool.and_eq_true, decide_eq_true_eq] at h
 exact ⟨inR_t h.1.1.1.1.1, h.1.1.1.2, h.1.1.2, h.1.2⟩
theorem DD.copyd {d : Dsk} (h : DD d) (hk : diskOk d = true) : copyD d = d := by
 have hf := (diskOk_f hk).2.2.1
 have : d.files.map copyF = d.files := by
  have key : ∀ f ∈ d.files, copyF f = f := fun f hm => by
   unfold copyF
   rw [pMerge_nil (h.file f hm) (fileF_ok _ _ _ hf f hm).2.2]
  exact (List.map_congr_left key).trans (List.map_id _)
 unfold copyD
 rw [this]
theorem DD.di {d : Dsk} (h : DD d) (hk : diskOk d = true) : DskI d := by
 obtain ⟨h1, h2, h3, h4⟩ := diskOk_f hk
 have hth : ∀ n ∈ d.list, ∃ f ∈ d.files, f.num = n := fun n hn => (numAt_spec d n).1 (lstOk_at h4 n hn)
 refine ⟨(diskOk_nm hk).1, h.nf, h.file, h2, hth, fun n hn => ?_, h1⟩
 obtain ⟨f, hf, rfl⟩ := hth n hn
 have := fileF_ok _ _ _ h3 f hf
 omega
def StG (d : Dsk) (st : List Stp) : Prop := diskOk d = true → StI d st ∧ ∀ x ∈ st, x.kind = 2 → NsD x.names
theorem stG_flush {d : Dsk} {s : Sto} {st : List Stp} (h : DD d) (hs : SD s) (hq : st = [] ∨ (diskOk d = true ∧ storeOk s = true ∧ st = flushSt d s)) : StG d st := fun hk => by
 have hd := h.di hk
 rcases hq with rfl | ⟨_, h2, rfl⟩
 ·exact ⟨StI.nil hd, by simp⟩
 ·refine ⟨StI.flush (w := ⟨s, d⟩) ⟨(StoK.of hs h2).stoI, hd⟩, fun x hx hk2 => ?_⟩
  unfold flushSt at hx
  split at hx
  ·cases hx
  ·simp at hx
   rcases hx with rfl | rfl
   ·simp at hk2
   ·exact hs.nd
theorem stG_merge {d : Dsk} {st : List Stp} {a : Int} (h : DD d) (hq : st = [] ∨ (diskOk d = true ∧ st = mergeSt d a)) : StG d st := fun hk => by
 have hd := h.di hk
 rcases hq with rfl | ⟨_, rfl⟩
 ·exact ⟨StI.nil hd, by simp⟩
 ·exact ⟨StI.merge hd a, mergeSt_n h.g.nd a⟩
theorem toD_dd {d : Dsk} {st : List Stp} (h : DD d) (hk : diskOk d = true) (hs : StG d st) (c : Int) : DD (toD (copyD d) st c) := by
 rw [h.copyd hk]
 obtain ⟨h1, h2⟩ := hs hk
 have hi : DskI (toD d st c) := h1.ok c.toNat
 have hn : NsD (toD d st c).names := toD_names NsD _ _ h.g.nd (fun x hx hk => h2 x (List.mem_of_mem_take hx) hk)
 exact ⟨NmG.of hi.nm hn, by have := hi.nl; omega, hi.nf, hi.file, by have := hi.next; omega⟩
theorem copy_dd {d : Dsk} (h : DD d) : DD (copyD d) := ⟨h.g, h.nl, by unfold copyD; rw [List.length_map]; exact h.nf, fun f hf => by
 unfold copyD at hf
 obtain ⟨x, hx, rfl⟩ := List.mem_map.1 hf
 exact (h.file x hx).merge PrtI.nil, h.next⟩
theorem bldF_nil : (bldF 0 [] []).length ≤ 12 := by decide
theorem dd_nil : DD ⟨[], [], [], 0⟩ := ⟨⟨by simp, NsD.nil, bldF_nil⟩, by simp, by simp, by simp, by simp⟩
end Go.Proofs.YtfnpaglcnmcnbaaGreat
namespace Go.Proofs.YtfnpaglcnmcnbaaGreat
set_option maxRecDepth 100000
set_option maxHeartbeats 4000000
theorem c_spec_l1Byte (n : Int) {w : World} {F : Nat → Prop}  (p0 : 0 ≤ n ∧ n ≤ 255) : Calls Tryz.prog 177 [.int .i64 n].toArray w (rets fun rv w' => (∃ (y : Str), rv = .string (bs (y)) ∧ (y.length = 1)) ∧ Ext w w') := by
 refine goT Tryz.func177 <| .s <| .g <| .r 1 <| .d <| .s <| .g <| .r 1 ?_
 obtain ⟨C, J⟩ : ∃ y : UInt8, (y.toNat : Int) = n := to_byte (by omega)
 refine RG.eqv (v := .int .u8 (C.toNat : Int)) (v' := .int .u8 (IntKind.u8.wrap n)) (by kernel_rfl) (to_byte_v J) <| .ns 1 5 [.int .u8 (C.toNat : Int)] fun O ae V E W aa => ?_
 have ab := E
 clear E aa V
 have ac : Own (α := UInt8) ae O 5 (nin (ge w.heap.size) [O]) 1 1 [C] := Own.lit W rfl (by decide) ⟨rfl, rfl⟩
 exact RG.b2s (s := 22) (d := 9) (y := C) ac (by kernel_rfl) (by kernel_rfl) <| .r 1 <| .d <| .rt Tryz.func177 Tryz.results177 (.string (bs [C])) ⟨⟨([C] : Str), (congrArg (fun s => Value.string (bs s)) (by rfl)), (by rfl)⟩, ab⟩
theorem c_spec_l1Zig (n : Int) {w : World} {F : Nat → Prop}  (p0 : -1000000 ≤ n ∧ n ≤ 1000000) : Calls Tryz.prog 199 [.int .i64 n].toArray w (rets fun rv w' => rv = .int .i64 (zigI n) ∧ Ext w w') := by
 exact goT Tryz.func199 <| .s <| .g <| .r 1 <| .d <| .s <| .s <| .g <| .r 1 <| .bp (n < 0) (fun C => .d <| .ct <| .s <| .g <| .r 1 <| .it ((-2) * n) <| .it (((-2) * n) - 1) <| .r 1 <| .d <| .rt Tryz.func199 Tryz.results199 (vI (((-2) * n) - 1)) ⟨(congrArg (Value.int .i64) (by unfold zigI; (rw [if_pos (by assumption)]; done))), (Chg.refl _ _)⟩) fun C => .d <| .cf <| .sk <| .s <| .g <| .r 1 <| .it (2 * n) <| .r 1 <| .d <| .rt Tryz.func199 Tryz.results199 (vI (2 * n)) ⟨(congrArg (Value.int .i64) (by unfold zigI; (rw [if_neg (by assumption)]; done))), (Chg.refl _ _)⟩
theorem c_spec_l1Put (z : Int) {w : World} {F : Nat → Prop}  (p0 : 0 ≤ z ∧ z ≤ 1000000) : Calls Tryz.prog 198 [.int .i64 z].toArray w (rets fun rv w' => (∃ (y : Str), rv = .string (bs (y)) ∧ (y.length ≤ 10)) ∧ Ext w w') := by
 refine goT Tryz.func198 <| .s <| .g <| .r 1 <| .d <| .s <| .g <| .r 1 <| .d <| .s <| .b 0 <| T.loop (X := Int × Str) (z, []) (fun (C, out) => [(0, vI C), (3, vT out)]) (fun (C, out) O => Chg (ins []) w O ∧ (0 ≤ C) ∧ ((out.length = 0 ∧ C ≤ 1000000) ∨ (out.length = 1 ∧ C ≤ 7813) ∨ (out.length = 2 ∧ C ≤ 62))) (fun (C, out) => C.toNat) (by kernel_rfl) ⟨by kernel_rfl, by kernel_rfl, trivial⟩ ⟨Chg.refl _ _, (by omega), (by (simp; omega))⟩ ?_
 rintro ⟨C, out⟩ ak O ⟨J, ag, ah⟩ V
 have E : Chg nil w O := Chg.stepI (Chg.refl nil w) J all_nil
 refine .s <| .s <| .g <| .r 1 <| .bp (C ≥ 128) (fun ae => ?_) (fun ae => ?_)
 ·refine .d <| .ct <| .sk <| .b 1 <| .s <| .g <| .r 3 <| RG.int (Int.tmod C 128 + 128) (by kernel_rfl) (by (have q1 := td128 (z := C) (by omega); omega)) <| .cl (c_spec_l1Byte (Int.tmod C 128 + 128) (by (have q1 := td128 (z := C) (by omega); omega)) (w := O) (F := all)) ?_
  rintro al am ⟨⟨af, rfl, ai⟩, W⟩
  replace ⟨E, J⟩ := (se [] W).g2 E J
  clear W
  exact RG.cat (t := 9) (s := out) (u := af) (by kernel_rfl) (by omega) <| .r 1 <| .d <| .g <| .r 1 <| RG.quo (t := 3) (a := C) (b := 128) (by kernel_rfl) (by omega) (by (have q1 := td128 (z := C) (by omega); omega)) <| .r 1 <| .d <| .ib 1 <| V ((Int.tdiv C 128), (out ++ af)) _ _ ⟨by kernel_rfl, by kernel_rfl, trivial⟩ ⟨J, (by have q1 := td128 (z := C) (by omega); omega), (by have q1 := td128 (z := C) (by omega); simp only [List.length_append]; omega)⟩ (by simp only []; have q1 := td128 (z := C) (by omega); omega)
 refine .d <| .cf <| .x 0 rfl <| .s <| .g <| .r 2 <| .cl (c_spec_l1Byte C (by omega) (w := O) (F := all)) ?_
 rintro ao aq ⟨⟨ab, rfl, aj⟩, aa⟩
 replace E := (se [] aa).g1 E
 clear aa
 exact RG.cat (t := 9) (s := out) (u := ab) (by kernel_rfl) (by omega) <| .r 1 <| .d <| .rt Tryz.func198 Tryz.results198 (.string (bs (out ++ ab))) ⟨⟨((out ++ ab) : Str), (congrArg (fun s => Value.string (bs s)) (by rfl)), (by (simp only [List.length_append]; omega))⟩, E⟩
theorem c_spec_l1Pack (list : List Int) {w : World} {F : Nat → Prop} {a1 : Option Addr} {n1 c1 : Nat} (h1 : RepS w F a1 n1 c1 list) (p0 : list.length ≤ 1000) (p1 : ∀ x ∈ list, -1000 ≤ x ∧ x ≤ 1000) : Calls Tryz.prog 176 [.slice a1 n1 c1].toArray w (rets fun rv w' => (∃ (y : Str), rv = .string (bs (y)) ∧ (y.length ≤ 10 * list.length)) ∧ Ext w w') := by
 refine goT Tryz.func176 ?_
 obtain ⟨rfl, ay, h1⟩ := h1.tp
 refine .s <| .g <| .r 1 <| .d <| .s <| .g <| .r 1 <| .d <| .s <| .g <| .r 1 <| .d <| .s <| .g <| .r 1 <| .d <| .s <| .s <| .g <| .r 1 <| .d <| .b 0 <| T.loop (X := Str × Int × Int × Nat) ([], 0, 0, 0) (fun (out, last, step, i) => [(0, .slice a1 list.length c1), (3, vT out), (4, vI last), (5, vI step), (6, vI (i : Int))]) (fun (out, last, step, i) W => Chg (ins []) w W ∧ (i ≤ list.length) ∧ (out.length ≤ 10 * i) ∧ (-1000 ≤ last ∧ last ≤ 1000) ∧ (-2000 ≤ step ∧ step ≤ 2000)) (fun (out, last, step, i) => list.length - i) (by kernel_rfl) ⟨by kernel_rfl, by kernel_rfl, by kernel_rfl, by kernel_rfl, by kernel_rfl, trivial⟩ ⟨Chg.refl _ _, (by omega), (by (simp; done)), (by omega), (by omega)⟩ ?_
 rintro ⟨out, last, step, i⟩ aG W ⟨C, az, aA, aB, aC⟩ O
 have ab : Mv [] [] w W := Mv.inl C all_nil all_nil
 replace h1 := (sp ab C).g1 h1
 have E : Chg nil w W := Chg.stepI (Chg.refl nil w) C all_nil
 clear ab
 refine .s <| .s <| .g <| .r 3 <| .bp ((i : Int) < (list.length : Int)) (fun ah => ?_) (fun ah => .d <| .cf <| .x 0 rfl <| .s <| .g <| .r 2 <| .d <| .rt Tryz.func176 Tryz.results176 (vT out) ⟨⟨(out : Str), (congrArg (fun s => Value.string (bs s)) (by rfl)), (by omega)⟩, E⟩)
 refine .d <| .ct <| .sk <| .s <| .b 1 <| .s <| .g <| .r 2 ?_
 have ai : i < list.length := (by omega)
 refine .ix i 1 h1 ai ?_
 obtain ⟨J, V⟩ : ∃ y, list[i]? = some y := ⟨_, List.getElem?_eq_getElem (by omega)⟩
 have aD := drop_at V; have av := List.mem_of_getElem? V
 obtain ⟨_, rfl, aj⟩ := h1.elem i J V
 refine .lh 0 aj <| .r 1 <| RG.int (J - last) (by kernel_rfl) (by (have q1 := p1 _ (by assumption); omega)) <| .r 1 <| .d <| .s <| .s <| .g <| .r 1 <| .bp ((i : Int) < 2) (fun ak => ?_) (fun ak => ?_)
 ·refine .d <| .ct <| .g <| .r 2 <| .cl (c_spec_l1Zig (J - last) (by have q1 := p1 _ (by assumption); omega) (w := W) (F := all)) ?_
  rintro aH aw ⟨rfl, ac⟩
  replace ⟨h1, E, C⟩ := (se [] ac).g3 h1 E C
  clear ac
  refine .cl (c_spec_l1Put (zigI (J - last)) (by have q1 := p1 _ (by assumption); exact zig_put (by omega)) (w := aw) (F := all)) ?_
  rintro aI aJ ⟨⟨al, rfl, aE⟩, ae⟩
  replace ⟨h1, E, C⟩ := (se [] ae).g3 h1 E C
  clear ae
  refine RG.cat (t := 9) (s := out) (u := al) (by kernel_rfl) (by omega) <| .r 1 <| .d <| .s <| .g <| .r 2 <| .d <| .g <| .r 2 ?_
  have am : i < list.length := (by omega)
  refine .ix i 1 h1 am ?_
  obtain ⟨_, rfl, ao⟩ := h1.elem i J V
  exact .lh 0 ao <| .r 1 <| .d <| .ib 1 <| .g <| .r 1 <| RG.int ((i : Int) + 1) (by kernel_rfl) (by omega) <| .r 1 <| .d <| O ((out ++ al), J, J - last, i + 1) _ _ ⟨by kernel_rfl, by kernel_rfl, by kernel_rfl, by kernel_rfl, by kernel_rfl, trivial⟩ ⟨C, (by omega), (by (simp only [List.length_append]; omega)), (by exact p1 _ (by assumption)), (by have q1 := p1 _ (by assumption); omega)⟩ (by (simp only []; omega))
 refine .d <| .cf <| .g <| .r 3 <| RG.int ((J - last) - step) (by kernel_rfl) (by (have q1 := p1 _ (by assumption); omega)) <| .cl (c_spec_l1Zig ((J - last) - step) (by have q1 := p1 _ (by assumption); omega) (w := W) (F := all)) ?_
 rintro aK ax ⟨rfl, af⟩
 replace ⟨h1, E, C⟩ := (se [] af).g3 h1 E C
 clear af
 refine .cl (c_spec_l1Put (zigI ((J - last) - step)) (by have q1 := p1 _ (by assumption); exact zig_put (by omega)) (w := ax) (F := all)) ?_
 rintro aL aM ⟨⟨aq, rfl, aF⟩, ag⟩
 replace ⟨h1, E, C⟩ := (se [] ag).g3 h1 E C
 clear ag
 refine RG.cat (t := 9) (s := out) (u := aq) (by kernel_rfl) (by omega) <| .r 1 <| .d <| .s <| .g <| .r 2 <| .d <| .g <| .r 2 ?_
 have ar : i < list.length := (by omega)
 refine .ix i 1 h1 ar ?_
 obtain ⟨_, rfl, au⟩ := h1.elem i J V
 exact .lh 0 au <| .r 1 <| .d <| .ib 1 <| .g <| .r 1 <| RG.int ((i : Int) + 1) (by kernel_rfl) (by omega) <| .r 1 <| .d <| O ((out ++ aq), J, J - last, i + 1) _ _ ⟨by kernel_rfl, by kernel_rfl, by kernel_rfl, by kernel_rfl, by kernel_rfl, trivial⟩ ⟨C, (by omega), (by (simp only [List.length_append]; omega)), (by exact p1 _ (by assumption)), (by have q1 := p1 _ (by assumption); omega)⟩ (by (simp only []; omega))
theorem c_spec_BlockPack (b : List Row) {w : World} {F : Nat → Prop} {a1 : Option Addr} {n1 c1 : Nat} (h1 : RepS w F a1 n1 c1 b) (p0 : b.length ≤ 1000) : Calls Tryz.prog 150 [.slice a1 n1 c1].toArray w (rets fun rv w' => (∃ (y : Str), rv = .string (bs (y)) ∧ (True)) ∧ Ext w w') := by
 refine goT Tryz.func150 ?_
 obtain ⟨rfl, bN, h1⟩ := h1.tp
 refine .s <| .g <| .r 1 <| .d <| .s <| .s <| .g <| .r 1 <| .cl (c_spec_BlockOk b h1.ta (w := w) (F := all)) ?_
 rintro ck cm ⟨rfl, aw⟩
 replace h1 := (se [] aw).g1 h1
 have C := aw
 clear aw
 cases bO : (blockOk b)
 ·exact .r 1 <| .d <| .ct <| .s <| .g <| .r 1 <| .d <| .rt Tryz.func150 Tryz.results150 (.string (bs [])) ⟨⟨([] : Str), (congrArg (fun s => Value.string (bs s)) (by rfl)), (by trivial)⟩, C⟩
 refine .r 1 <| .d <| .cf <| .sk <| .s <| .g <| .ns 0 3 [] fun W bF ax aI aX aY => ?_
 have aZ := C.cn ax
 replace ⟨h1, C⟩ := (sn [] aI ax).g2 h1 C
 clear aI aY ax
 have aj : Own (α := Int) bF W 3 (nin (ge w.heap.size) [W]) 0 0 [] := Own.nil' aX
 refine .r 1 <| .d <| .s <| .g <| .ns 0 3 [] fun ae ai ak aJ ba bc => ?_
 have bd := nb_new ak aj.lt
 have bg := C.cn ak
 replace ⟨h1, aj, C⟩ := (sn [W] aJ ak).g3 h1 aj C
 clear aJ bc ak
 have bh : Own (α := Int) ai ae 3 (nin (ge w.heap.size) [ae, W]) 0 0 [] := Own.nil' ba
 refine .r 1 <| .d <| .s <| .s <| .g <| .r 1 <| .d <| .b 0 <| T.loop (X := (List Int) × Nat × Nat × Nat × (List Int) × Nat × Nat × Nat × Nat) (([] : List Int), W, 0, 0, ([] : List Int), ae, 0, 0, 0) (fun (ts, r_ts, n_ts, c_ts, vs, r_vs, n_vs, c_vs, i) => [(0, .slice a1 b.length c1), (3, vS r_ts n_ts c_ts), (4, vS r_vs n_vs c_vs), (5, vI (i : Int))]) (fun (ts, r_ts, n_ts, c_ts, vs, r_vs, n_vs, c_vs, i) au => Chg (ins [W, ae]) ai au ∧ Own au r_ts 3 (nin (ge w.heap.size) [r_vs, r_ts]) n_ts c_ts ts ∧ OrB r_ts W ai.heap.size ∧ Own au r_vs 3 (nin (ge w.heap.size) [r_vs, r_ts]) n_vs c_vs vs ∧ OrB r_vs ae ai.heap.size ∧ Nb r_vs r_ts ∧ (i ≤ b.length) ∧ (ts.length = i) ∧ (vs.length = i) ∧ (∀ x ∈ ts, -1000 ≤ x ∧ x ≤ 1000) ∧ (∀ x ∈ vs, -1000 ≤ x ∧ x ≤ 1000)) (fun (ts, r_ts, n_ts, c_ts, vs, r_vs, n_vs, c_vs, i) => b.length - i) (by kernel_rfl) ⟨by kernel_rfl, by kernel_rfl, by kernel_rfl, by kernel_rfl, trivial⟩ ⟨Chg.refl _ _, aj, orb_refl, bh, orb_refl, bd, (by omega), (by (simp; done)), (by (simp; done)), (by (simp; done)), (by (simp; done))⟩ ?_
 rintro ⟨ts, r_ts, n_ts, c_ts, vs, r_vs, n_vs, c_vs, i⟩ co au ⟨J, aa, al, E, am, bi, bP, bQ, bR, bS, bT⟩ ay
 have bU := cov_or' al aZ C.size
 have bV := cov_or' am bg C.size
 have bj : Cov (ins [W, ae]) ai W := ⟨.inl (.head _)⟩
 have bk : Cov (ins [W, ae]) ai ae := ⟨.inl (.tail _ (.head _))⟩
 have bW := cov_or' al bj (Nat.le_refl _)
 have bX := cov_or' am bk (Nat.le_refl _)
 have aK : Mv [ae, W] [r_vs, r_ts] ai au := Mv.inl J (all_cons (.tail _ (.head _)) (all_cons (.head _) all_nil)) (all_cons (orb_mem am (.head _)) (all_cons (orb_mem al (.tail _ (.head _))) all_nil))
 replace ⟨h1, C⟩ := (sp aK J).g2 h1 C
 clear aK
 have bY := aa.len; have bZ := aa.max
 have b0 := E.len; have b6 := E.max
 refine .s <| .s <| .g <| .r 3 <| .bp ((i : Int) < (b.length : Int)) (fun bm => ?_) (fun bm => ?_)
 ·refine .d <| .ct <| .sk <| .s <| .b 1 <| .s <| .g <| .r 3 ?_
  have bn : i < b.length := (by omega)
  refine .ix i 2 h1 bn <| .r 1 ?_
  obtain ⟨ah, ao⟩ : ∃ y, b[i]? = some y := ⟨_, List.getElem?_eq_getElem (by omega)⟩
  have b7 := drop_at ao; have bE := List.mem_of_getElem? ao
  obtain ⟨_, rfl, bo⟩ := h1.elem i ah ao
  refine .lh 0 bo <| .ns 1 3 [vI ah.t] fun bq cp aq aL br bt => ?_
  have aM := nb_new aq aa.lt
  have bu := nb_new aq E.lt
  have bv := gb_new aq C.size
  replace ⟨h1, aa, E, C, J⟩ := (se [r_vs, r_ts] aL).g5 h1 aa E C J
  clear aL bt aq
  have az : nin (ge w.heap.size) [r_vs, r_ts] bq ∧ bq ≠ r_ts := hap_mk bv (all_cons bu (all_cons aM all_nil)) aM
  refine RG.append1 (T := 68) (ty := 68) (y := ah.t) aa br (by kernel_rfl) (by kernel_rfl) rfl az (by omega) fun aH bG cq O af aN => ?_
  have bw := nb_or af (Nb.symm bi) E.lt
  have bz := orb_or af al J.size
  replace ⟨h1, E, C, J⟩ := (sa [r_vs, r_ts] aN af).g4 h1 E C J
  clear aN
  replace O := O.rn r_ts
  clear af
  have b8 := O.len; have bH := O.max
  refine .r 1 <| .d <| .g <| .r 3 ?_
  have aP : i < b.length := (by omega)
  refine .ix i 2 h1 aP <| .r 1 ?_
  obtain ⟨_, rfl, aQ⟩ := h1.elem i ah ao
  refine .lh 1 aQ <| .ns 1 3 [vI ah.v] fun aO b9 ag aA aR aS => ?_
  have aT := nb_new ag O.lt
  have aB := nb_new ag E.lt
  have aU := gb_new ag C.size
  replace ⟨O, E, C, J⟩ := (se [r_vs, aH] aA).g4 O E C J
  clear aA aS ag
  have av : nin (ge w.heap.size) [r_vs, aH] aO ∧ aO ≠ r_vs := hap_mk aU (all_cons aB (all_cons aT all_nil)) aB
  refine RG.append1 (T := 68) (ty := 68) (y := ah.v) E aR (by kernel_rfl) (by kernel_rfl) rfl av (by omega) fun bA bB cd ab V aC => ?_
  have aV := nb_or V (Nb.symm bw) O.lt
  have aW := orb_or V am J.size
  replace ⟨O, C, J⟩ := (sa [r_vs, aH] aC V).g3 O C J
  clear aC
  replace ab := ab.rn r_vs
  clear V
  have bI := ab.len; have bJ := ab.max
  exact .r 1 <| .d <| .ib 1 <| .g <| .r 1 <| .it ((i : Int) + 1) <| .r 1 <| .d <| ay ((ts ++ [ah.t]), aH, n_ts + 1, bG, (vs ++ [ah.v]), bA, n_vs + 1, bB, i + 1) _ _ ⟨by kernel_rfl, by kernel_rfl, by kernel_rfl, by kernel_rfl, trivial⟩ ⟨J, O, bz, ab, aW, aV, (by omega), (by (simp; omega)), (by (simp; omega)), (by exact all_snoc (by assumption) (row_t ((blkOf (by assumption)).rows _ (by assumption)))), (by exact all_snoc (by assumption) (row_v ((blkOf (by assumption)).rows _ (by assumption))))⟩ (by (simp only []; omega))
 refine .d <| .cf <| .x 0 rfl <| .s <| .g <| .r 1 <| .cl (c_spec_l1Pack ts (aa.rep) (by omega) (by assumption) (w := au) (F := all)) ?_
 rintro ce bC ⟨⟨ac, rfl, bK⟩, aD⟩
 replace ⟨E, C⟩ := (se [r_vs, r_ts] aD).g2 E C
 clear aD
 refine .r 1 <| .d <| .s <| .g <| .r 1 <| RG.eqv (v := vI (ac.length : Int)) (by kernel_rfl) (s_len ac) <| .cl (c_spec_l1Byte (ac.length : Int) (by have q1 := bok (by assumption : blockOk b = true); omega) (w := bC) (F := all)) ?_
 rintro cg bD ⟨⟨ar, rfl, bL⟩, aE⟩
 replace ⟨E, C⟩ := (se [r_vs, r_ts] aE).g2 E C
 clear aE
 refine .r 1 <| RG.cat (t := 9) (s := ar) (u := ac) (by kernel_rfl) (by omega) <| .r 1 <| .cl (c_spec_l1Pack vs (E.rep) (by omega) (by assumption) (w := bD) (F := all)) ?_
 rintro ci cj ⟨⟨aF, rfl, bM⟩, aG⟩
 replace C := (se [] aG).g1 C
 clear aG
 exact RG.cat (t := 9) (s := (ar ++ ac)) (u := aF) (by kernel_rfl) (by (simp only [List.length_append]; omega)) <| .r 1 <| .d <| .rt Tryz.func150 Tryz.results150 (.string (bs ((ar ++ ac) ++ aF))) ⟨⟨(((ar ++ ac) ++ aF) : Str), (congrArg (fun s => Value.string (bs s)) (by rfl)), (by trivial)⟩, C⟩
theorem c_spec_l21Fits (d : Dsk) (s : Sto) {w : World} {F : Nat → Prop} {a1 : Option Addr} {n1 c1 : Nat} (h1 : RepS w F a1 n1 c1 d.files) {a2 : Option Addr} {n2 c2 : Nat} (h2 : RepS w F a2 n2 c2 d.list) {a3 : Option Addr} {n3 c3 : Nat} (h3 : RepS w F a3 n3 c3 d.names) {a4 : Option Addr} {n4 c4 : Nat} (h4 : RepS w F a4 n4 c4 s.idx.names) {a5 : Option Addr} {n5 c5 : Nat} (h5 : RepS w F a5 n5 c5 s.idx.posts) {a6 : Option Addr} {n6 c6 : Nat} (h6 : RepS w F a6 n6 c6 s.parts) {a7 : Option Addr} {n7 c7 : Nat} (h7 : RepS w F a7 n7 c7 s.mem) (p0 : DD d) (p1 : SD s) : Calls Tryz.prog 99 [.agg #[.slice a1 n1 c1, .slice a2 n2 c2, .slice a3 n3 c3, .int .i64 d.next], .agg #[.slice a4 n4 c4, .slice a5 n5 c5, .slice a6 n6 c6, .slice a7 n7 c7]].toArray w (rets fun rv w' => (∃ (y : Bool), rv = .bool (y) ∧ ((y = true → diskOk d = true ∧ storeOk s = true))) ∧ Ext w w') := by
 refine goT Tryz.func99 ?_
 obtain ⟨rfl, cR, h1⟩ := h1.tp
 obtain ⟨rfl, cS, h2⟩ := h2.tp
 obtain ⟨rfl, cT, h3⟩ := h3.tp
 obtain ⟨rfl, cU, h4⟩ := h4.tp
 obtain ⟨rfl, cV, h5⟩ := h5.tp
 obtain ⟨rfl, cW, h6⟩ := h6.tp
 obtain ⟨rfl, cX, h7⟩ := h7.tp
 refine .s <| .g <| .np 83 [.slice a1 d.files.length c1, .slice a2 d.list.length c2, .slice a3 d.names.length c3, vI d.next] fun aa dL bn aE E bT => ?_
 replace ⟨h1, h2, h3, h4, h5, h6, h7⟩ := (sn [] aE bn).g7 h1 h2 h3 h4 h5 h6 h7
 have C := aE
 clear aE bT bn
 refine .np 30 [.slice a4 s.idx.names.length c4, .slice a5 s.idx.posts.length c5, .slice a6 s.parts.length c6, .slice a7 s.mem.length c7] fun ab cr bo bq J bU => ?_
 replace ⟨h1, h2, h3, h4, h5, h6, h7, E, C⟩ := (sn [aa] bq bo).g9 h1 h2 h3 h4 h5 h6 h7 E C
 clear bq bU bo
 refine .r 1 <| .d <| .s <| .s <| .g <| .ln E <| .cl (c_spec_DiskOk d h1.ta h2.ta h3.ta p0 (w := cr) (F := all)) ?_
 rintro dM cu ⟨rfl, br⟩
 replace ⟨h1, h2, h3, h4, h5, h6, h7, E, J, C⟩ := (se [ab, aa] br).g10 h1 h2 h3 h4 h5 h6 h7 E J C
 clear br
 cases cY : (diskOk d)
 ·exact .r 25 <| .d <| .ct <| .s <| .g <| .r 1 <| .d <| .rt Tryz.func99 Tryz.results99 (.bool false) ⟨⟨(false : Bool), (congrArg Value.bool (by rfl)), (by (intro h; cases h; done))⟩, C⟩
 refine .r 2 <| .ln J <| .cl (c_spec_StoreOkG s h4.ta h5.ta h6.ta h7.ta (SG.of p1) (w := cu) (F := all)) ?_
 rintro dN bV ⟨rfl, bt⟩
 replace ⟨h1, h2, h3, h4, h6, E, J, C⟩ := (se [ab, aa] bt).g8 h1 h2 h3 h4 h6 E J C
 clear bt
 cases cZ : (nmB s.idx.names && storeOk s)
 ·exact .r 21 <| .d <| .ct <| .s <| .g <| .r 1 <| .d <| .rt Tryz.func99 Tryz.results99 (.bool false) ⟨⟨(false : Bool), (congrArg Value.bool (by rfl)), (by (intro h; cases h; done))⟩, C⟩
 refine .r 4 <| .lb J <| .r 2 <| .lb E <| .r 1 <| .ne (s.parts.length : Int) (d.list.length : Int) (fun bW => .r 11 <| .d <| .ct <| .s <| .g <| .r 1 <| .d <| .rt Tryz.func99 Tryz.results99 (.bool false) ⟨⟨(false : Bool), (congrArg Value.bool (by rfl)), (by (intro h; cases h; done))⟩, C⟩) fun bW => .r 4 <| .lb J <| .r 2 <| .lb E <| .r 1 <| .bp ((s.idx.names.length : Int) < (d.names.length : Int)) (fun bX => .r 1 <| .d <| .ct <| .s <| .g <| .r 1 <| .d <| .rt Tryz.func99 Tryz.results99 (.bool false) ⟨⟨(false : Bool), (congrArg Value.bool (by rfl)), (by (intro h; cases h; done))⟩, C⟩) fun bX => .r 1 <| .d <| .cf <| .sk <| .s <| .s <| .g <| .r 1 <| .d <| .b 0 <| T.loop (X := Nat) 0 (fun k => [(2, .pointer (some ⟨aa, 0, none⟩)), (3, .pointer (some ⟨ab, 0, none⟩)), (5, vI (k : Int))]) (fun k aF => Chg (ins []) bV aF ∧ (k ≤ d.names.length)) (fun k => d.names.length - k) (by kernel_rfl) ⟨by kernel_rfl, by kernel_rfl, by kernel_rfl, trivial⟩ ⟨Chg.refl _ _, (by omega)⟩ ?_
 rintro k dO aF ⟨ai, c8⟩ aG
 have bu : Mv [ab, aa] [ab, aa] bV aF := Mv.inl ai all_nil (all_cons (.inl (.head _)) (all_cons (.inl (.tail _ (.head _))) all_nil))
 replace ⟨h1, h2, h3, h4, h6, E, J, C⟩ := (sp bu ai).g8 h1 h2 h3 h4 h6 E J C
 clear bu
 refine .s <| .s <| .g <| .r 2 <| .lb E <| .r 1 <| .bp ((k : Int) < (d.names.length : Int)) (fun bY => ?_) (fun bY => ?_)
 ·refine .d <| .ct <| .sk <| .s <| .b 1 <| .s <| .gd nil 12 fun dP bv => ?_
  replace ⟨h1, h2, h3, h4, h6, E, J, C, ai⟩ := (se [ab, aa] bv).g9 h1 h2 h3 h4 h6 E J C ai
  clear bv
  refine .r [0] <| .lb 1 E id <| .r [2] ?_
  have bw : k < d.names.length := (by omega)
  refine GA.idx (i := 3) k (len := d.names.length) (z := (k : Int)) (sz := 1) (by kernel_rfl) (by omega) bw (h3.addr (Nat.zero_lt_of_lt bw)) ?_
  obtain ⟨aH, aI⟩ : ∃ y, d.names[k]? = some y := ⟨_, List.getElem?_eq_getElem (by omega)⟩
  have c9 := drop_at aI; have cp := List.mem_of_getElem? aI
  obtain ⟨_, ⟨dQ, dR, dS, rfl, bF⟩, bZ⟩ := h3.elem k aH aI
  have b0 := bF.len
  subst b0
  have da := bF.max
  refine .lh 4 0 bZ id <| GA.call1 (i := 5) (by kernel_rfl) (fun cv b6 => c_spec_l3Text aH (bF.ta.ext b6) (by (have q1 := (p0.g.sz _ (by assumption)).1; omega)) (fun t ht => by (have q1 := (p0.g.sz _ (by assumption)).2 t ht; omega)) (w := cv) (F := all)) <| .r [6, 7] <| .lb 8 J id <| .r [9] ?_
  have bz : k < s.idx.names.length := (by omega)
  refine GA.idx (i := 10) k (len := s.idx.names.length) (z := (k : Int)) (sz := 1) (by kernel_rfl) (by omega) bz (h4.addr (Nat.zero_lt_of_lt bz)) ?_
  obtain ⟨aK, aL⟩ : ∃ y, s.idx.names[k]? = some y := ⟨_, List.getElem?_eq_getElem (by omega)⟩
  have db := drop_at aL; have cq := List.mem_of_getElem? aL
  obtain ⟨_, ⟨dT, dU, dV, rfl, aM⟩, b7⟩ := h4.elem k aK aL
  have b8 := aM.len
  subst b8
  have de := aM.max
  refine .lh 11 0 b7 id <| .d fun cw bA => ?_
  replace ⟨h1, h2, h3, h6, E, J, aM, C, ai⟩ := (se [ab, aa] bA).g9 h1 h2 h3 h6 E J aM C ai
  clear bA
  refine .cl (c_spec_l3Text aK aM.ta (by (have q1 := (p1.nm.sz _ (by assumption)).1; omega)) (fun t ht => by (have q1 := (p1.nm.sz _ (by assumption)).2 t ht; omega)) (w := cw) (F := all)) ?_
  rintro dW dX ⟨rfl, bB⟩
  replace ⟨h1, h2, h3, h6, E, J, C, ai⟩ := (se [ab, aa] bB).g8 h1 h2 h3 h6 E J C ai
  clear bB
  refine RG.eqv (v := .bool (!(text aH == text aK))) (by kernel_rfl) (s_ne (text aH) (text aK)) ?_
  cases cx : (text aH == text aK)
  ·exact .d <| .ct <| .s <| .g <| .r 1 <| .d <| .rt Tryz.func99 Tryz.results99 (.bool false) ⟨⟨(false : Bool), (congrArg Value.bool (by rfl)), (by (intro h; cases h; done))⟩, C⟩
  exact .d <| .cf <| .sk <| .ib 1 <| .g <| .r 1 <| .it ((k : Int) + 1) <| .r 1 <| .d <| aG (k + 1) _ _ ⟨by kernel_rfl, by kernel_rfl, by kernel_rfl, trivial⟩ ⟨ai, (by omega)⟩ (by omega)
 refine .d <| .cf <| .x 0 rfl <| .s <| .s <| .g <| .r 1 <| .d <| .b 2 <| T.loop (X := Nat) 0 (fun k => [(2, .pointer (some ⟨aa, 0, none⟩)), (3, .pointer (some ⟨ab, 0, none⟩)), (6, vI (k : Int))]) (fun k aN => Chg (ins []) aF aN ∧ (k ≤ d.list.length)) (fun k => d.list.length - k) (by kernel_rfl) ⟨by kernel_rfl, by kernel_rfl, by kernel_rfl, trivial⟩ ⟨Chg.refl _ _, (by omega)⟩ ?_
 rintro k df aN ⟨O, cy⟩ aC
 have aO : Mv [ab, aa] [ab, aa] aF aN := Mv.inl O all_nil (all_cons (.inl (.head _)) (all_cons (.inl (.tail _ (.head _))) all_nil))
 replace ⟨h1, h2, h3, h6, E, J, C⟩ := (sp aO O).g7 h1 h2 h3 h6 E J C
 clear aO
 refine .s <| .s <| .g <| .r 2 <| .lb E <| .r 1 <| .bp ((k : Int) < (d.list.length : Int)) (fun bG => ?_) (fun bG => .d <| .cf <| .x 2 rfl <| .s <| .g <| .r 1 <| .d <| .rt Tryz.func99 Tryz.results99 (.bool true) ⟨⟨(true : Bool), (congrArg Value.bool (by rfl)), (by (intro _; exact ⟨by assumption, and_r (a := nmB s.idx.names) (by assumption)⟩))⟩, C⟩)
 refine .d <| .ct <| .sk <| .s <| .b 3 <| .s <| .gd nil 13 fun dg aP => ?_
 replace ⟨h1, h2, h3, h6, E, J, C, O⟩ := (se [ab, aa] aP).g8 h1 h2 h3 h6 E J C O
 clear aP
 refine .r [0] <| .lb 1 E id <| .ln 2 E id <| .r [3] <| .lb 4 E id <| .r [5] ?_
 have aQ : k < d.list.length := (by omega)
 refine GA.idx (i := 6) k (len := d.list.length) (z := (k : Int)) (sz := 1) (by kernel_rfl) (by omega) aQ (h2.addr (Nat.zero_lt_of_lt aQ)) ?_
 obtain ⟨ak, ao⟩ : ∃ y, d.list[k]? = some y := ⟨_, List.getElem?_eq_getElem (by omega)⟩
 have cz := drop_at ao; have b9 := List.mem_of_getElem? ao
 obtain ⟨_, rfl, bH⟩ := h2.elem k ak ao
 refine .lh 7 0 bH id <| GA.call1 (i := 8) (by kernel_rfl) (fun cd aq => c_spec_l21At d ak (h1.ta.ext aq) (h2.ta.ext aq) (h3.ta.ext aq) (w := cd) (F := all)) ?_
 have aR : (numAt d ak).toNat < d.files.length := (by exact (numAt_i (lstOk_at (diskOk_f (by assumption)).2.2.2 _ (by assumption))).1)
 refine GA.idx (i := 9) ((numAt d ak).toNat) (len := d.files.length) (z := numAt d ak) (sz := 3) (by kernel_rfl) (by exact (numAt_i (lstOk_at (diskOk_f (by assumption)).2.2.2 _ (by assumption))).2) aR (h1.addr (Nat.zero_lt_of_lt aR)) <| .r [10] ?_
 obtain ⟨am, ar⟩ : ∃ y, d.files[(numAt d ak).toNat]? = some y := ⟨_, List.getElem?_eq_getElem (by omega)⟩
 have cA := drop_at ar; have ce := List.mem_of_getElem? ar
 obtain ⟨_, ⟨cg, dh, ci, cj, dj, ck, rfl, ac, ae⟩, bI⟩ := h1.elem ((numAt d ak).toNat) am ar
 have bJ := ac.len
 subst bJ
 have cB := ac.max
 have bK := ae.len
 subst bK
 have cC := ae.max
 refine .lg 11 1 bI id <| .go 12 <| .nw (fun b => .pointer (some ⟨b, 0, none⟩)) 75 [.slice none 0 0, .slice none 0 0] fun dm aS => ?_
 replace ⟨h6, E, J, ac, ae, C, O⟩ := (se [ab, aa] aS).g7 h6 E J ac ae C O
 clear aS
 intro af dp aj aT au bL
 have cD := nb_new aj E.lt
 have cE := nb_new aj J.lt
 have cF := C.cn aj
 have cG := O.cn aj
 replace ⟨h6, E, J, ac, ae, C, O⟩ := (sn [ab, aa] aT aj).g7 h6 E J ac ae C O
 clear aT bL aj
 refine .d fun dq aU => ?_
 replace ⟨h6, E, J, ac, ae, au, C, O⟩ := (se [af, ab, aa] aU).g8 h6 E J ac ae au C O
 clear aU
 refine .sc [.slice cg am.part.ids.length ci, .slice cj am.part.blocks.length ck] au fun bC aV W bM => ?_
 replace ⟨h6, E, J, ac, ae, C, O⟩ := (so [af, ab, aa] aV).g7 h6 E J ac ae C O
 clear aV bM
 refine .d <| .s <| .g <| .r 1 <| .d <| .b 4 <| T.loop (X := Nat) 1 (fun k1 => [(2, .pointer (some ⟨aa, 0, none⟩)), (3, .pointer (some ⟨ab, 0, none⟩)), (6, vI (k : Int)), (7, .pointer (some ⟨af, 0, none⟩)), (8, vI (k1 : Int))]) (fun k1 aW => Chg (ins []) bC aW ∧ (1 ≤ k1) ∧ (k1 ≤ 7)) (fun k1 => 7 - k1) (by kernel_rfl) ⟨by kernel_rfl, by kernel_rfl, by kernel_rfl, by kernel_rfl, by kernel_rfl, trivial⟩ ⟨Chg.refl _ _, (by omega), (by omega)⟩ ?_
 rintro k1 dr aW ⟨V, cH, cI⟩ aD
 have aX : Mv [af, ab, aa] [af, ab, aa] bC aW := Mv.inl V all_nil (all_cons (.inl (.head _)) (all_cons (.inl (.tail _ (.head _))) (all_cons (.inl (.tail _ (.tail _ (.head _)))) all_nil)))
 replace ⟨h6, E, J, ac, ae, W, C, O⟩ := (sp aX V).g8 h6 E J ac ae W C O
 clear aX
 refine .s <| .s <| .g <| .r 1 <| .bp ((k1 : Int) ≤ 6) (fun bN => ?_) (fun bN => .d <| .cf <| .x 4 rfl <| .ib 3 <| .g <| .r 1 <| .it ((k : Int) + 1) <| .r 1 <| .d <| aC (k + 1) _ _ ⟨by kernel_rfl, by kernel_rfl, by kernel_rfl, trivial⟩ ⟨O, (by omega)⟩ (by omega))
 refine .d <| .ct <| .sk <| .s <| .b 5 <| .s <| .gd nil 10 fun dt aY => ?_
 replace ⟨h6, E, J, ac, ae, W, C, O, V⟩ := (se [af, ab, aa] aY).g9 h6 E J ac ae W C O V
 clear aY
 refine .ln 0 W id <| .r [1, 4] <| .lb 5 J id <| .r [6] ?_
 have aZ : k < s.parts.length := (by omega)
 refine GA.idx (i := 7) k (len := s.parts.length) (z := (k : Int)) (sz := 2) (by kernel_rfl) (by omega) aZ (h6.addr (Nat.zero_lt_of_lt aZ)) ?_
 obtain ⟨ba, av⟩ : ∃ y, s.parts[k]? = some y := ⟨_, List.getElem?_eq_getElem (by omega)⟩
 have cJ := drop_at av; have cm := List.mem_of_getElem? av
 obtain ⟨_, ⟨du, dv, dw, dx, dy, dz, rfl, ag, ah⟩, bO⟩ := h6.elem k ba av
 have bP := ag.len
 subst bP
 have cK := ag.max
 have bQ := ah.len
 subst bQ
 have cL := ah.max
 refine .lg 8 0 bO id <| .r [9] <| .go 2 <| .cl (fun bc al => c_spec_l12Of am.part (k1 : Int) (ac.ext al) (ae.ext al) (by (have q1 := (p0.file _ (by assumption)).sz.1; omega)) (w := bc) (F := nin (fo F w.heap.size) [af, ab, aa])) ?_
 intro bc al
 replace ⟨E, J, W, ag, ah, C, O, V⟩ := (se [af, ab, aa] al).g8 E J W ag ah C O V
 rintro dA dB ⟨⟨dC, dD, rfl, aA⟩, aw⟩
 have bd := al3 W.lt J.lt E.lt
 have bR : Gb w.heap.size bc.heap.size := C.size
 have hkeep_ := aw
 replace ⟨E, J, W, ag, ah, C, O, V⟩ := (se [af, ab, aa] aw).g8 E J W ag ah C O V
 clear aw
 refine ⟨Ext.chg hkeep_, ?_⟩
 replace aA := RepS.mixed' (M := [af, ab, aa]) aA bd bR
 have cM := aA.max
 clear bd
 refine .go 3 <| .cl (fun bD ax => c_spec_BlockPack (partOf am.part (k1 : Int)) (aA.ta.ext ax) (by exact partOf_len (p0.file _ (by assumption)).sz _) (w := bD) (F := all)) ?_
 intro bD ax
 replace ⟨E, J, W, ag, ah, C, O, V⟩ := (se [af, ab, aa] ax).g8 E J W ag ah C O V
 rintro dE dF ⟨⟨bg, rfl, cN⟩, ay⟩
 have hkeep_ := ay
 replace ⟨E, J, W, ag, ah, C, O, V⟩ := (se [af, ab, aa] ay).g8 E J W ag ah C O V
 clear ay
 refine ⟨Ext.chg hkeep_, ?_⟩
 refine .d fun bE bh => ?_
 replace ⟨E, J, W, ag, ah, C, O, V⟩ := (se [af, ab, aa] bh).g8 E J W ag ah C O V
 clear bh
 refine .cl (c_spec_l12Of ba (k1 : Int) ag ah (by (have q1 := (p1.part _ (by assumption)).sz.1; omega)) (w := bE) (F := nin (fo F w.heap.size) [af, ab, aa])) ?_
 rintro dG co ⟨⟨dH, dI, rfl, aB⟩, bi⟩
 have bj := al3 W.lt J.lt E.lt
 have bS : Gb w.heap.size bE.heap.size := C.size
 replace ⟨C, O, V⟩ := (se [] bi).g3 C O V
 clear bi
 replace aB := RepS.mixed' (M := [af, ab, aa]) aB bj bS
 have cO := aB.max
 clear bj
 refine .cl (c_spec_BlockPack (partOf ba (k1 : Int)) aB.ta (by exact partOf_len (p1.part _ (by assumption)).sz _) (w := co) (F := all)) ?_
 rintro dJ dK ⟨⟨bk, rfl, cP⟩, bm⟩
 replace ⟨C, O, V⟩ := (se [] bm).g3 C O V
 clear bm
 refine RG.eqv (v := .bool (!(bg == bk))) (by kernel_rfl) (s_ne bg bk) ?_
 cases cQ : (bg == bk)
 ·exact .d <| .ct <| .s <| .g <| .r 1 <| .d <| .rt Tryz.func99 Tryz.results99 (.bool false) ⟨⟨(false : Bool), (congrArg Value.bool (by rfl)), (by (intro h; cases h; done))⟩, C⟩
 exact .d <| .cf <| .sk <| .ib 5 <| .g <| .r 1 <| .it ((k1 : Int) + 1) <| .r 1 <| .d <| aD (k1 + 1) _ _ ⟨by kernel_rfl, by kernel_rfl, by kernel_rfl, by kernel_rfl, by kernel_rfl, trivial⟩ ⟨V, (by omega), (by omega)⟩ (by omega)
theorem c_spec_StepsFlush (d : Dsk) (s : Sto) {w : World} {F : Nat → Prop} {a1 : Option Addr} {n1 c1 : Nat} (h1 : RepS w F a1 n1 c1 d.files) {a2 : Option Addr} {n2 c2 : Nat} (h2 : RepS w F a2 n2 c2 d.list) {a3 : Option Addr} {n3 c3 : Nat} (h3 : RepS w F a3 n3 c3 d.names) {a4 : Option Addr} {n4 c4 : Nat} (h4 : RepS w F a4 n4 c4 s.idx.names) {a5 : Option Addr} {n5 c5 : Nat} (h5 : RepS w F a5 n5 c5 s.idx.posts) {a6 : Option Addr} {n6 c6 : Nat} (h6 : RepS w F a6 n6 c6 s.parts) {a7 : Option Addr} {n7 c7 : Nat} (h7 : RepS w F a7 n7 c7 s.mem) (p0 : DD d) (p1 : SD s) : Calls Tryz.prog 53 [.agg #[.slice a1 n1 c1, .slice a2 n2 c2, .slice a3 n3 c3, .int .i64 d.next], .agg #[.slice a4 n4 c4, .slice a5 n5 c5, .slice a6 n6 c6, .slice a7 n7 c7]].toArray w (rets fun rv w' => (∃ (y : List Stp), VL (ge w.heap.size) w' (y : List Stp) rv ∧ (y = [] ∨ (diskOk d = true ∧ storeOk s = true ∧ y = flushSt d s))) ∧ Ext w w') := by
 refine goT Tryz.func53 ?_
 obtain ⟨rfl, aD, h1⟩ := h1.tp
 obtain ⟨rfl, aE, h2⟩ := h2.tp
 obtain ⟨rfl, aF, h3⟩ := h3.tp
 obtain ⟨rfl, aG, h4⟩ := h4.tp
 obtain ⟨rfl, aH, h5⟩ := h5.tp
 obtain ⟨rfl, aI, h6⟩ := h6.tp
 obtain ⟨rfl, aJ, h7⟩ := h7.tp
 refine .s <| .g <| .np 83 [.slice a1 d.files.length c1, .slice a2 d.list.length c2, .slice a3 d.names.length c3, vI d.next] fun W aP af aa E am => ?_
 replace ⟨h1, h2, h3, h4, h5, h6, h7⟩ := (sn [] aa af).g7 h1 h2 h3 h4 h5 h6 h7
 have C := aa
 clear aa am af
 refine .np 30 [.slice a4 s.idx.names.length c4, .slice a5 s.idx.posts.length c5, .slice a6 s.parts.length c6, .slice a7 s.mem.length c7] fun ac az ag ah J ao => ?_
 replace ⟨h1, h2, h3, h4, h5, h6, h7, E, C⟩ := (sn [W] ah ag).g9 h1 h2 h3 h4 h5 h6 h7 E C
 clear ah ao ag
 refine .r 1 <| .d <| .s <| .s <| .g <| .ln E <| .ln J <| .cl (c_spec_l21Fits d s h1.ta h2.ta h3.ta h4.ta h5.ta h6.ta h7.ta p0 p1 (w := az) (F := all)) ?_
 rintro aQ aq ⟨⟨V, rfl, aK⟩, ai⟩
 replace ⟨h1, h2, h3, h4, h5, h6, h7, E, J, C⟩ := (se [ac, W] ai).g10 h1 h2 h3 h4 h5 h6 h7 E J C
 clear ai
 cases aL : V
 ·refine .r 1 <| .d <| .ct <| .s <| .g <| .ns 0 95 [] fun ab ar O aj au av => ?_
  have aM := nb_new O E.lt
  have aN := nb_new O J.lt
  have aw := gb_new O C.size
  replace ⟨h1, h2, h3, h4, h5, h6, h7, E, J, C⟩ := (sn [ac, W] aj O).g10 h1 h2 h3 h4 h5 h6 h7 E J C
  clear aj av O
  have ax : Own (α := Stp) ar ab 95 (nin (ge w.heap.size) [ab, ac, W]) 0 0 [] := Own.nil' au
  refine .r 1 <| .d ?_
  have aA := ax.sl aw
  replace ⟨h1, h2, h3, h4, h5, h6, h7⟩ := (sd ar [ab, ac, W] ab).g7 h1 h2 h3 h4 h5 h6 h7
  exact .rt Tryz.func53 Tryz.results53 (vS ab 0 0) ⟨⟨([] : List Stp), (aA.vl (by rfl) (fun _ _ h => h.1)), (by exact .inl rfl)⟩, C⟩
 refine .r 1 <| .d <| .cf <| .sk <| .s <| .g <| .ln E <| .ln J <| .cl (c_spec_l21Flush d s h1.ta h2.ta h3.ta h4.ta h5.ta h6.ta h7.ta (by have := p1.nm2; omega) (StoK.of p1 ((by assumption : V = true → diskOk d = true ∧ storeOk s = true) (by assumption)).2).stoI.mem6 (by have := p0.nl; omega) (by have := p1.nm.len; omega) (fun n hn => (p1.nm.sz n hn).1) (w := aq) (F := all)) ?_
 rintro aR aS ⟨⟨aB, aC, rfl, ae⟩, ak⟩
 have al := al2 J.lt E.lt
 have ay : Gb w.heap.size aq.heap.size := C.size
 replace C := (se [] ak).g1 C
 clear ak
 have ae := ae.fr al ay
 have aO := ae.max
 clear al
 exact .r 1 <| .d <| .rt Tryz.func53 Tryz.results53 (.slice aB ((flushSt d s).length) aC) ⟨⟨(flushSt d s : List Stp), (ae.vl (by rfl) (fun _ _ h => h.1)), (by exact .inr ⟨((by assumption : V = true → diskOk d = true ∧ storeOk s = true) (by assumption)).1, ((by assumption : V = true → diskOk d = true ∧ storeOk s = true) (by assumption)).2, rfl⟩)⟩, C⟩
theorem c_spec_StepsMerge (d : Dsk) (at_ : Int) {w : World} {F : Nat → Prop} {a1 : Option Addr} {n1 c1 : Nat} (h1 : RepS w F a1 n1 c1 d.files) {a2 : Option Addr} {n2 c2 : Nat} (h2 : RepS w F a2 n2 c2 d.list) {a3 : Option Addr} {n3 c3 : Nat} (h3 : RepS w F a3 n3 c3 d.names) (p0 : DD d) : Calls Tryz.prog 142 [.agg #[.slice a1 n1 c1, .slice a2 n2 c2, .slice a3 n3 c3, .int .i64 d.next], .int .i64 at_].toArray w (rets fun rv w' => (∃ (y : List Stp), VL (ge w.heap.size) w' (y : List Stp) rv ∧ (y = [] ∨ (diskOk d = true ∧ y = mergeSt d at_))) ∧ Ext w w') := by
 refine goT Tryz.func142 ?_
 obtain ⟨rfl, ax, h1⟩ := h1.tp
 obtain ⟨rfl, ay, h2⟩ := h2.tp
 obtain ⟨rfl, az, h3⟩ := h3.tp
 refine .s <| .g <| .np 83 [.slice a1 d.files.length c1, .slice a2 d.list.length c2, .slice a3 d.names.length c3, vI d.next] fun W ar ab O E ah => ?_
 replace ⟨h1, h2, h3⟩ := (sn [] O ab).g3 h1 h2 h3
 have C := O
 clear O ah ab
 refine .r 1 <| .d <| .s <| .s <| .g <| .ln E <| .cl (c_spec_DiskOk d h1.ta h2.ta h3.ta p0 (w := ar) (F := all)) ?_
 rintro aD ai ⟨rfl, ac⟩
 replace ⟨h1, h2, h3, E, C⟩ := (se [W] ac).g5 h1 h2 h3 E C
 clear ac
 cases aA : (diskOk d)
 ·refine .r 1 <| .d <| .ct <| .s <| .g <| .ns 0 95 [] fun V aj J ae ak al => ?_
  have aB := nb_new J E.lt
  have am := gb_new J C.size
  replace ⟨h1, h2, h3, E, C⟩ := (sn [W] ae J).g5 h1 h2 h3 E C
  clear ae al J
  have ao : Own (α := Stp) aj V 95 (nin (ge w.heap.size) [V, W]) 0 0 [] := Own.nil' ak
  refine .r 1 <| .d ?_
  have au := ao.sl am
  replace ⟨h1, h2, h3⟩ := (sd aj [V, W] V).g3 h1 h2 h3
  exact .rt Tryz.func142 Tryz.results142 (vS V 0 0) ⟨⟨([] : List Stp), (au.vl (by rfl) (fun _ _ h => h.1)), (by exact .inl rfl)⟩, C⟩
 refine .r 1 <| .d <| .cf <| .sk <| .s <| .g <| .ln E <| .r 1 <| .cl (c_spec_l21Merge d at_ h1.ta h2.ta h3.ta (by have := p0.g.len; omega) (fun n hn => (p0.g.sz n hn).1) (by have := p0.nl; omega) (lstOk_at (diskOk_f (by assumption)).2.2.2) (fun f hf => (p0.file f hf).sz) (w := ai) (F := all)) ?_
 rintro aE aF ⟨⟨av, aw, rfl, aa⟩, af⟩
 have ag := al1 E.lt
 have aq : Gb w.heap.size ai.heap.size := C.size
 replace C := (se [] af).g1 C
 clear af
 have aa := aa.fr ag aq
 have aC := aa.max
 clear ag
 exact .r 1 <| .d <| .rt Tryz.func142 Tryz.results142 (.slice av ((mergeSt d at_).length) aw) ⟨⟨(mergeSt d at_ : List Stp), (aa.vl (by rfl) (fun _ _ h => h.1)), (by exact .inr ⟨rfl, rfl⟩)⟩, C⟩
theorem c_spec_DiskTo (d : Dsk) (steps : List Stp) (cut : Int) {w : World} {F : Nat → Prop} {a1 : Option Addr} {n1 c1 : Nat} (h1 : RepS w F a1 n1 c1 d.files) {a2 : Option Addr} {n2 c2 : Nat} (h2 : RepS w F a2 n2 c2 d.list) {a3 : Option Addr} {n3 c3 : Nat} (h3 : RepS w F a3 n3 c3 d.names) {a4 : Option Addr} {n4 c4 : Nat} (h4 : RepS w F a4 n4 c4 steps) (p0 : DD d) (p1 : StG d steps) : Calls Tryz.prog 141 [.agg #[.slice a1 n1 c1, .slice a2 n2 c2, .slice a3 n3 c3, .int .i64 d.next], .slice a4 n4 c4, .int .i64 cut].toArray w (rets fun rv w' => (∃ (y : Dsk), VS (ge w.heap.size) w' (y : Dsk) rv ∧ (DD y)) ∧ Ext w w') := by
 refine goT Tryz.func141 ?_
 obtain ⟨rfl, cF, h1⟩ := h1.tp
 obtain ⟨rfl, cG, h2⟩ := h2.tp
 obtain ⟨rfl, cH, h3⟩ := h3.tp
 obtain ⟨rfl, cI, h4⟩ := h4.tp
 refine .s <| .g <| .np 83 [.slice a1 d.files.length c1, .slice a2 d.list.length c2, .slice a3 d.names.length c3, vI d.next] fun O dm aZ aK E bC => ?_
 replace ⟨h1, h2, h3, h4⟩ := (sn [] aK aZ).g4 h1 h2 h3 h4
 have C := aK
 clear aK bC aZ
 refine .np 83 [.slice none 0 0, .slice none 0 0, .slice none 0 0, vI 0] fun V b6 aI ba J bD => ?_
 have cJ := nb_new aI E.lt
 have cK := C.cn aI
 replace ⟨h1, h2, h3, h4, E, C⟩ := (sn [O] ba aI).g6 h1 h2 h3 h4 E C
 clear ba bD aI
 refine .d <| .s <| .s <| .g <| .ln E <| .cl (c_spec_DiskOk d h1.ta h2.ta h3.ta (by exact p0) (w := b6) (F := all)) ?_
 rintro dp bj ⟨rfl, bc⟩
 replace ⟨h1, h2, h3, h4, E, J, C⟩ := (se [V, O] bc).g7 h1 h2 h3 h4 E J C
 clear bc
 cases cL : (diskOk d)
 ·refine .r 5 <| .d <| .ct <| .s <| .g <| .r 1 <| .sc [.slice none 0 0, .slice none 0 0, .slice none 0 0, vI 0] J fun dq bd bE bF => ?_
  replace ⟨h1, h2, h3, h4, E, C⟩ := (so [V, O] bd).g6 h1 h2 h3 h4 E C
  clear bd bF
  exact .d <| .rb Tryz.func141 Tryz.results141 bE ⟨⟨((⟨([] : List Fil), ([] : List Int), ([] : List (List Tag)), 0⟩ : Dsk) : Dsk), ⟨_, rfl, ⟨_, _, _, _, _, _, _, _, _, rfl, (RepS.nil' _ _ none 0 (by decide)), (RepS.nil' _ _ none 0 (by decide)), (RepS.nil' _ _ none 0 (by decide))⟩⟩, (by exact dd_nil)⟩, C⟩
 refine .r 3 <| .bp (cut < 0) (fun bG => ?_) (fun bG => ?_)
 ·refine .r 1 <| .d <| .ct <| .s <| .g <| .r 1 <| .sc [.slice none 0 0, .slice none 0 0, .slice none 0 0, vI 0] J fun dr bg bH bI => ?_
  replace ⟨h1, h2, h3, h4, E, C⟩ := (so [V, O] bg).g6 h1 h2 h3 h4 E C
  clear bg bI
  exact .d <| .rb Tryz.func141 Tryz.results141 bH ⟨⟨((⟨([] : List Fil), ([] : List Int), ([] : List (List Tag)), 0⟩ : Dsk) : Dsk), ⟨_, rfl, ⟨_, _, _, _, _, _, _, _, _, rfl, (RepS.nil' _ _ none 0 (by decide)), (RepS.nil' _ _ none 0 (by decide)), (RepS.nil' _ _ none 0 (by decide))⟩⟩, (by exact dd_nil)⟩, C⟩
 refine .r 1 <| .d <| .cf <| .sk <| .s <| .g <| .ln E <| .cl (c_spec_l21Copy d h1.ta h2.ta h3.ta (by (have := p0.g.len; omega)) (by exact (fun n hn => (p0.g.sz n hn).1)) (by (have := p0.nl; omega)) (by (have := p0.nf; omega)) (by exact (fun f hf => (p0.file f hf).sz)) (w := bj) (F := all)) ?_
 rintro dt av ⟨⟨aF, du, dv, az, dw, dx, aw, dy, dz, rfl, aA, aB, am, aC, cM, aj, aD, cN, cO⟩, aL⟩
 have aJ := al2 J.lt E.lt
 have aM : Gb w.heap.size bj.heap.size := C.size
 have cP := nb_ge aB E.lt
 have cQ := nb_ge aB J.lt
 have bJ := gb_ge aB C.size
 have cR := nb_ge aC E.lt
 have cS := nb_ge aC J.lt
 have bK := gb_ge aC C.size
 have cT := nb_ge aD E.lt
 have cU := nb_ge aD J.lt
 have bL := gb_ge aD C.size
 have bh : Mv [V, O] [aF, az, aw, V, O] bj av := Mv.cons (Mv.cons (Mv.cons (Mv.ext aL) aD) aC) aB
 replace ⟨h4, E, J, C⟩ := (sp bh aL).g4 h4 E J C
 clear bh aL aB aC aD
 replace aA : Own av aF 88 (nin (ge w.heap.size) [aF, az, aw, V, O]) _ _ _ := Own.takeM (s0 := w.heap.size) (M := [V, O]) aA aJ aM
 have cV := aA.max
 have cW := aA.len
 replace am : Own av az 3 (nin (ge w.heap.size) [aF, az, aw, V, O]) _ _ _ := Own.takeM (s0 := w.heap.size) (M := [V, O]) am aJ aM
 have cX := am.max
 have cY := am.len
 replace aj : Own av aw 31 (nin (ge w.heap.size) [aF, az, aw, V, O]) _ _ _ := Own.takeM (s0 := w.heap.size) (M := [V, O]) aj aJ aM
 have cZ := aj.max
 have c7 := aj.len
 clear aJ
 refine .r 2 ?_
 have aN := aA.sl bJ
 replace ⟨h4, am, aj⟩ := (sd av [aF, az, aw, V, O] aF).g3 h4 am aj
 have aO := am.sl bK
 replace ⟨h4, aN, aj⟩ := (sd av [az, aw, V, O] az).g3 h4 aN aj
 have bM := aj.sl bL
 replace ⟨h4, aN, aO⟩ := (sd av [aw, V, O] aw).g3 h4 aN aO
 refine .cl (c_spec_l21To ((copyD d)) steps cut (aN.base (fun _ _ h => .inr h)) (aO.base (fun _ _ h => .inr h)) (bM.base (fun _ _ h => .inr h)) h4 (by have := (copy_dd p0).nf; omega) (by have := (p1 (by assumption)).1.len; omega) (by have := (copy_dd p0).nl; omega) (p1 (by assumption)).1.sz (w := av) (F := nin (fo F w.heap.size) [V, O])) ?_
 rintro c8 c9 ⟨⟨_, rfl, ⟨bN, da, bO, bP, db, bQ, bR, de, bS, rfl, aa, ab, ac⟩⟩, aP⟩
 have ax := al2 J.lt E.lt
 have aG : Gb w.heap.size av.heap.size := C.size
 replace ⟨E, J, C⟩ := (se [] aP).g3 E J C
 clear aP
 replace aa := RepS.mixed' (M := [V, O]) aa ax aG
 have b7 := aa.max
 replace ab := RepS.mixed' (M := [V, O]) ab ax aG
 have b8 := ab.max
 replace ac := RepS.mixed' (M := [V, O]) ac ax aG
 have b9 := ac.max
 clear ax
 have bk := aa.len
 subst bk
 have bm := ab.len
 subst bm
 have bn := ac.len
 subst bn
 refine .np 83 [.slice none 0 0, .slice none 0 0, .slice none 0 0, vI 0] fun af df ao aQ bo bq => ?_
 have cd := nb_new ao E.lt
 have ce := nb_new ao J.lt
 have cg := C.cn ao
 replace ⟨E, J, aa, ab, ac, C⟩ := (sn [V, O] aQ ao).g6 E J aa ab ac C
 clear aQ bq ao
 refine .sc [.slice bN (((toD ((copyD d)) steps cut).files).length) bO, .slice bP (((toD ((copyD d)) steps cut).list).length) bQ, .slice bR (((toD ((copyD d)) steps cut).names).length) bS, vI ((toD ((copyD d)) steps cut).next)] bo fun bT aR ae br => ?_
 replace ⟨E, J, aa, ab, ac, C⟩ := (so [af, V, O] aR).g6 E J aa ab ac C
 clear aR br
 refine .d <| .s <| .s <| .g <| .ln ae <| .cl (c_spec_DiskOk (toD ((copyD d)) steps cut) aa.ta ab.ta ac.ta (by exact toD_dd p0 (by assumption) p1 _) (w := bT) (F := all)) ?_
 rintro dg bi ⟨rfl, aS⟩
 replace ⟨E, J, aa, ab, ac, ae, C⟩ := (se [af, V, O] aS).g7 E J aa ab ac ae C
 clear aS
 cases ci : (diskOk (toD ((copyD d)) steps cut))
 ·refine .r 1 <| .d <| .ct <| .s <| .g <| .r 1 <| .sc [.slice none 0 0, .slice none 0 0, .slice none 0 0, vI 0] J fun dh aT bt bu => ?_
  replace ⟨E, aa, ab, ac, ae, C⟩ := (so [af, V, O] aT).g6 E aa ab ac ae C
  clear aT bu
  exact .d <| .rb Tryz.func141 Tryz.results141 bt ⟨⟨((⟨([] : List Fil), ([] : List Int), ([] : List (List Tag)), 0⟩ : Dsk) : Dsk), ⟨_, rfl, ⟨_, _, _, _, _, _, _, _, _, rfl, (RepS.nil' _ _ none 0 (by decide)), (RepS.nil' _ _ none 0 (by decide)), (RepS.nil' _ _ none 0 (by decide))⟩⟩, (by exact dd_nil)⟩, C⟩
 refine .r 1 <| .d <| .cf <| .sk <| .s <| .g <| .ln ae <| .cl (c_spec_l21Copy (toD ((copyD d)) steps cut) aa.ta ab.ta ac.ta (by (have := (toD_dd p0 (by assumption) p1 cut).g.len; omega)) (by exact (fun n hn => ((toD_dd p0 (by assumption) p1 cut).g.sz n hn).1)) (by (have := (toD_dd p0 (by assumption) p1 cut).nl; omega)) (by (have := (toD_dd p0 (by assumption) p1 cut).nf; omega)) (by exact (fun f hf => ((toD_dd p0 (by assumption) p1 cut).file f hf).sz)) (w := bi) (F := all)) ?_
 rintro dj aU ⟨⟨al, bU, bV, ak, bW, bX, ah, bY, bZ, rfl, ai, aq, ag, ar, cj, W, au, ck, cm⟩, aV⟩
 have ay := al3 ae.lt J.lt E.lt
 have aH : Gb w.heap.size bi.heap.size := C.size
 have co := nb_ge aq E.lt
 have cp := nb_ge aq J.lt
 have cq := nb_ge aq ae.lt
 have bv := gb_ge aq C.size
 have cr := nb_ge ar E.lt
 have cu := nb_ge ar J.lt
 have cv := nb_ge ar ae.lt
 have bw := gb_ge ar C.size
 have cw := nb_ge au E.lt
 have cx := nb_ge au J.lt
 have cy := nb_ge au ae.lt
 have bz := gb_ge au C.size
 replace ⟨J, C⟩ := (se [] aV).g2 J C
 clear aV aq ar au
 replace ai : Own aU al 88 (nin (ge w.heap.size) [al, ak, ah, af, V, O]) _ _ _ := Own.takeM (s0 := w.heap.size) (M := [af, V, O]) ai ay aH
 have cz := ai.max
 have cA := ai.len
 replace ag : Own aU ak 3 (nin (ge w.heap.size) [al, ak, ah, af, V, O]) _ _ _ := Own.takeM (s0 := w.heap.size) (M := [af, V, O]) ag ay aH
 have cB := ag.max
 have cC := ag.len
 replace W : Own aU ah 31 (nin (ge w.heap.size) [al, ak, ah, af, V, O]) _ _ _ := Own.takeM (s0 := w.heap.size) (M := [af, V, O]) W ay aH
 have cD := W.max
 have cE := W.len
 clear ay
 refine .sc [vS al bU bV, vS ak bW bX, vS ah bY bZ, vI (((copyD (toD ((copyD d)) steps cut))).next)] J fun aW aX bA bB => ?_
 replace ⟨ai, ag, W, C⟩ := (so [al, ak, ah, af, V, O] aX).g4 ai ag W C
 clear aX bB
 refine .d ?_
 have aE := ai.sl bv
 replace ⟨ag, W⟩ := (sd aW [al, ak, ah, af, V, O] al).g2 ag W
 have aY := ag.sl bw
 replace ⟨aE, W⟩ := (sd aW [ak, ah, af, V, O] ak).g2 aE W
 have b0 := W.sl bz
 replace ⟨aE, aY⟩ := (sd aW [ah, af, V, O] ah).g2 aE aY
 exact .rb Tryz.func141 Tryz.results141 bA ⟨⟨(((copyD (toD ((copyD d)) steps cut))) : Dsk), ⟨_, rfl, ⟨_, _, _, _, _, _, _, _, _, rfl, aE.w1, aY.w1, b0.w1⟩⟩, (by exact copy_dd (toD_dd p0 (by assumption) p1 cut))⟩, C⟩
theorem c_spec_l72Disk  {w : World} {F : Nat → Prop} {b : Nat} {ad : Option Addr} {cd p : Nat} {D : List UInt8} (hr : Box w b 140 [.slice ad D.length cd, .int .i64 (p : Int)]) (hD : RepS w (nin all [b]) ad D.length cd D) (hp : p + 3200 ≤ 1000000000)  : Calls Tryz.prog 91 [.pointer (some ⟨b, 0, none⟩)].toArray w (rets fun rv w' => (∃ (y : Dsk), VS (ge w.heap.size) w' (y : Dsk) rv ∧ (DD y)) ∧ ∃ p' : Nat, p' ≤ p + 3200 ∧ Box w' b 140 [.slice ad D.length cd, .int .i64 (p' : Int)] ∧ Chg (one b) w w') := by
 refine goT Tryz.func91 ?_
 have dj := hD.max
 refine .s <| .g <| .np 83 [.slice none 0 0, .slice none 0 0, .slice none 0 0, vI 0] fun ab bq aQ aT E bT => ?_
 have dm := nb_new aQ hr.lt
 have dp : Cov (one b) w ab := cov_new aQ (Nat.le_refl _)
 replace ⟨hD, hr⟩ := (sn [b] aT aQ).g2 hD hr
 have C : Chg (one b) w bq := Chg.stepN (Chg.refl (one b) w) aT
 clear aT bT aQ
 refine .d <| .s <| .g <| .r 1 <| .cl (c_spec_l72WorldX hr (hD.toAll (.tail _ (.head _))) (by omega) (w := bq) (F := all)) ?_
 rintro d9 aI ⟨⟨ai, ⟨cH, ec, cI, cJ, ed, cK, cL, ee, cM, ae, cN, cO, bU, ef, bV, bW, eg, bX, bY, eh, bZ, rfl, al, am, ao, O, aR, V, W, aa⟩, dq⟩, ei, dr, aC, aU⟩
 have aq := al2 E.lt hr.lt
 have ar : Gb w.heap.size bq.heap.size := C.size
 have dt := nb_ge aR hr.lt
 have du := nb_ge aR E.lt
 have br : Mv [ab, b] [ae, ab, b] bq aI := Mv.cons (Mv.on aU (.tail _ (.head _))) aR
 replace ⟨hD, E, C⟩ := (sp br aU).g3 hD E C
 clear br aU aR
 replace al : RepS aI (nin (ge w.heap.size) [ae, ab, b]) _ _ _ _ := RepS.takeM (s0 := w.heap.size) (M := [ab, b]) al aq ar
 have dv := al.max
 replace am : RepS aI (nin (ge w.heap.size) [ae, ab, b]) _ _ _ _ := RepS.takeM (s0 := w.heap.size) (M := [ab, b]) am aq ar
 have dw := am.max
 replace ao : RepS aI (nin (ge w.heap.size) [ae, ab, b]) _ _ _ _ := RepS.takeM (s0 := w.heap.size) (M := [ab, b]) ao aq ar
 have dx := ao.max
 replace O : Own aI ae 51 (nin (ge w.heap.size) [ae, ab, b]) _ _ _ := Own.takeM (s0 := w.heap.size) (M := [ab, b]) O aq ar
 have dy := O.max
 have dz := O.len
 replace V : RepS aI (nin (ge w.heap.size) [ae, ab, b]) _ _ _ _ := RepS.takeM (s0 := w.heap.size) (M := [ab, b]) V aq ar
 have dA := V.max
 replace W : RepS aI (nin (ge w.heap.size) [ae, ab, b]) _ _ _ _ := RepS.takeM (s0 := w.heap.size) (M := [ab, b]) W aq ar
 have dB := W.max
 replace aa : RepS aI (nin (ge w.heap.size) [ae, ab, b]) _ _ _ _ := RepS.takeM (s0 := w.heap.size) (M := [ab, b]) aa aq ar
 have dC := aa.max
 clear aq
 have b0 := al.len
 subst b0
 have b6 := am.len
 subst b6
 have b7 := ao.len
 subst b7
 have b8 := V.len
 subst b8
 have b9 := W.len
 subst b9
 have ce := aa.len
 subst ce
 refine .np 100 [.slice none 0 0, .slice none 0 0, .slice none 0 0, .slice none 0 0, .slice none 0 0, .slice none 0 0, .slice none 0 0, vI 0] fun ag ej aD bt cg ci => ?_
 have bu := nb_new aD aC.lt
 have dD := nb_new aD E.lt
 have dE := nb_new aD O.lt
 have dF := C.cn aD
 replace ⟨hD, aC, E, al, am, ao, O, V, W, aa, C⟩ := (sn [ae, ab, b] bt aD).g11 hD aC E al am ao O V W aa C
 clear bt ci aD
 refine .sc [.slice cH ai.store.idx.names.length cI, .slice cJ ai.store.idx.posts.length cK, .slice cL ai.store.parts.length cM, vS ae cN cO, .slice bU ai.disk.files.length bV, .slice bW ai.disk.list.length bX, .slice bY ai.disk.names.length bZ, vI ai.disk.next] cg fun cP bv J cj => ?_
 replace ⟨hD, aC, E, al, am, ao, O, V, W, aa, C⟩ := (so [ag, ae, ab, b] bv).g11 hD aC E al am ao O V W aa C
 clear bv cj
 refine .d <| .s <| .s <| .g <| .r 1 <| .cl (c_spec_l6Rd_pick 3 aC (hD.toAll (.tail _ (.tail _ (.tail _ (.head _))))) (by omega) (w := cP) (F := all)) ?_
 rintro dG cQ ⟨⟨ck, rfl, cR⟩, cm, cS, ac, aV⟩
 replace ⟨hD, E, al, am, ao, O, V, W, aa, J, C⟩ := (so [ag, ae, ab, b] aV).g11 hD E al am ao O V W aa J C
 clear aV
 refine .eq ck 0 (fun bC => ?_) (fun bC => ?_)
 ·refine .d <| .ct <| .s <| .gd nil 7 fun dH aW => ?_
  replace ⟨hD, ac, E, al, am, ao, O, V, W, aa, J, C⟩ := (se [ag, ae, ab, b] aW).g12 hD ac E al am ao O V W aa J C
  clear aW
  refine .r [0] <| .ln 1 J id <| .r [2] <| .ln 3 J id <| .r [4] <| .ln 5 J id <| .go 6 <| .cl (fun aX ah => c_spec_StepsFlush ai.disk ai.store (V.ta.ext ah) (W.ta.ext ah) (aa.ta.ext ah) (al.ta.ext ah) (am.ta.ext ah) (ao.ta.ext ah) ((O.rep).ext ah) (by have q1 : WG _ := (by assumption); exact q1.2) (by have q1 : WG _ := (by assumption); exact q1.1) (w := aX) (F := all)) ?_
  intro aX ah
  replace ⟨hD, ac, E, O, V, W, aa, J, C⟩ := (se [ag, ae, ab, b] ah).g9 hD ac E O V W aa J C
  rintro dI dJ ⟨⟨co, ⟨dK, dL, rfl, aE⟩, cT⟩, aL⟩
  have aY := al4 J.lt O.lt E.lt ac.lt
  have bD : Gb w.heap.size aX.heap.size := C.size
  have hkeep_ := aL
  replace ⟨hD, ac, E, O, V, W, aa, J, C⟩ := (se [ag, ae, ab, b] aL).g9 hD ac E O V W aa J C
  clear aL
  refine ⟨Ext.chg hkeep_, ?_⟩
  have aE := aE.fr aY bD
  have cU := aE.max
  clear aY
  refine .d fun bw aZ => ?_
  replace ⟨hD, ac, E, O, V, W, aa, J, aE, C⟩ := (se [ag, ae, ab, b] aZ).g10 hD ac E O V W aa J aE C
  clear aZ
  refine .cl (c_spec_DiskTo ai.disk co 1 V.ta W.ta aa.ta aE.ta (by have q1 : WG _ := (by assumption); exact q1.2) (by have q1 : WG _ := (by assumption); exact stG_flush q1.2 q1.1 (by assumption)) (w := bw) (F := all)) ?_
  rintro dM dN ⟨⟨aJ, ⟨_, rfl, ⟨cp, dO, cq, cr, dP, cu, cv, dQ, cw, rfl, av, aw, ax⟩⟩, cV⟩, ba⟩
  have aF := al4 J.lt O.lt E.lt ac.lt
  have aM : Gb w.heap.size bw.heap.size := C.size
  replace ⟨hD, ac, E, O, V, W, aa, J, C⟩ := (se [ag, ae, ab, b] ba).g9 hD ac E O V W aa J C
  clear ba
  have av := av.fr aF aM
  have cW := av.max
  have aw := aw.fr aF aM
  have cX := aw.max
  have ax := ax.fr aF aM
  have cY := ax.max
  clear aF
  have bE := av.len
  subst bE
  have bF := aw.len
  subst bF
  have bG := ax.len
  subst bG
  refine .sc [.slice cp aJ.files.length cq, .slice cr aJ.list.length cu, .slice cv aJ.names.length cw, vI aJ.next] E fun dR bc bH bI => ?_
  replace ⟨hD, ac, O, V, W, aa, J, av, aw, ax, C⟩ := (so [ag, ae, ab, b] bc).g11 hD ac O V W aa J av aw ax C
  clear bc bI
  exact .d <| .rb Tryz.func91 Tryz.results91 bH ⟨⟨(aJ : Dsk), ⟨_, rfl, ⟨_, _, _, _, _, _, _, _, _, rfl, av.w1, aw.w1, ax.w1⟩⟩, (by assumption)⟩, cm, by omega, ac, C⟩
 refine .d <| .cf <| .sk <| .s <| .s <| .g <| .r 1 <| .cl (c_spec_l6Rd_pick 3 ac (hD.toAll (.tail _ (.tail _ (.tail _ (.head _))))) (by omega) (w := cQ) (F := all)) ?_
 rintro dS aS ⟨⟨cx, rfl, cZ⟩, cy, c7, af, bd⟩
 replace ⟨hD, E, O, V, W, aa, J, C⟩ := (so [ag, ae, ab, b] bd).g8 hD E O V W aa J C
 clear bd
 refine .eq cx 0 (fun bJ => ?_) (fun bJ => ?_)
 ·refine .d <| .ct <| .s ?_
  replace hD := hD.into
  replace V := V.into
  replace W := W.into
  replace aa := aa.into
  have bK : Cov (mtb [b] aS.heap.size) aS b := ⟨.inl (.inl (.head _))⟩
  have bg : Gb (ag + 1) aS.heap.size := J.lt
  refine .gd (mtb [b] aS.heap.size) 8 fun dT bh => ?_
  replace ⟨hD, af, E, O, V, W, aa, J, C⟩ := (se [ag, ae, ab, b] bh).g9 hD af E O V W aa J C
  clear bh
  refine .r [0] <| .ln 1 J (nS_of (all_cons bu all_nil) bg) <| .r [2] <| .ln 3 J (nS_of (all_cons bu all_nil) bg) <| .r [5] <| .go 4 <| .cl (fun bi ay => c_spec_StepsMerge ai.disk 0 (V.ta.ext ay) (W.ta.ext ay) (aa.ta.ext ay) (by have q1 : WG _ := (by assumption); exact q1.2) (w := bi) (F := all)) ?_
  intro bi ay
  replace ⟨hD, af, E, O, V, W, aa, J, C⟩ := (se [ag, ae, ab, b] ay).g9 hD af E O V W aa J C
  rintro dU dV ⟨⟨cz, ⟨dW, dX, rfl, ak⟩, c8⟩, aN⟩
  have bj := al4 J.lt O.lt E.lt af.lt
  have bL : Gb w.heap.size bi.heap.size := C.size
  have hkeep_ := aN
  replace ⟨hD, af, E, O, V, W, aa, J, C⟩ := (se [ag, ae, ab, b] aN).g9 hD af E O V W aa J C
  clear aN
  refine ⟨Ext.chg hkeep_, ?_⟩
  have ak := ak.fr bj bL
  have c9 := ak.max
  clear bj
  refine .go 6 <| .cl (fun bz aG => c_spec_l6Rd_pick 3 (af.ext aG) ((hD.toAll (.tail _ (.tail _ (.tail _ (.head _))))).ext aG) (by omega) (w := bz) (F := all)) ?_
  intro bz aG
  replace ⟨hD, af, E, O, V, W, aa, J, ak, C⟩ := (se [ag, ae, ab, b] aG).g10 hD af E O V W aa J ak C
  rintro dY dZ ⟨⟨bA, rfl, da⟩, cA, db, aj, aO⟩
  have hkeep_ := aO
  replace ⟨hD, E, O, V, W, aa, J, ak, C⟩ := (so [ag, ae, ab, b] aO).g9 hD E O V W aa J ak C
  clear aO
  refine ⟨Chg.toS hkeep_ (Cov.toS bK), ?_⟩
  refine GA.int (i := 7) (1 + bA) (by kernel_rfl) (by omega) <| .d fun bB bk => ?_
  replace ⟨hD, aj, E, O, V, W, aa, J, ak, C⟩ := (se [ag, ae, ab, b] bk).g10 hD aj E O V W aa J ak C
  clear bk
  replace hD := hD.outof
  replace V := V.outof
  replace W := W.outof
  replace aa := aa.outof
  refine .cl (c_spec_DiskTo ai.disk cz (1 + bA) V.ta W.ta aa.ta ak.ta (by have q1 : WG _ := (by assumption); exact q1.2) (by have q1 : WG _ := (by assumption); exact stG_merge q1.2 (by assumption)) (w := bB) (F := all)) ?_
  rintro d0 d3 ⟨⟨aK, ⟨_, rfl, ⟨cB, d4, cC, cD, d5, cE, cF, d6, cG, rfl, az, aA, aB⟩⟩, de⟩, bm⟩
  have aH := al4 J.lt O.lt E.lt aj.lt
  have aP : Gb w.heap.size bB.heap.size := C.size
  replace ⟨hD, aj, E, V, W, aa, J, C⟩ := (se [ag, ae, ab, b] bm).g8 hD aj E V W aa J C
  clear bm
  have az := az.fr aH aP
  have df := az.max
  have aA := aA.fr aH aP
  have dg := aA.max
  have aB := aB.fr aH aP
  have dh := aB.max
  clear aH
  have bM := az.len
  subst bM
  have bN := aA.len
  subst bN
  have bO := aB.len
  subst bO
  refine .sc [.slice cB aK.files.length cC, .slice cD aK.list.length cE, .slice cF aK.names.length cG, vI aK.next] E fun d7 bn bP bQ => ?_
  replace ⟨hD, aj, V, W, aa, J, az, aA, aB, C⟩ := (so [ag, ae, ab, b] bn).g10 hD aj V W aa J az aA aB C
  clear bn bQ
  exact .d <| .rb Tryz.func91 Tryz.results91 bP ⟨⟨(aK : Dsk), ⟨_, rfl, ⟨_, _, _, _, _, _, _, _, _, rfl, az.w1, aA.w1, aB.w1⟩⟩, (by assumption)⟩, cA, by omega, aj, C⟩
 refine .d <| .cf <| .sk <| .s <| .g <| .r 1 <| .ln J <| .sc [.slice bU ai.disk.files.length bV, .slice bW ai.disk.list.length bX, .slice bY ai.disk.names.length bZ, vI ai.disk.next] E fun d8 bo bR bS => ?_
 replace ⟨hD, af, V, W, aa, C⟩ := (so [ag, ae, ab, b] bo).g6 hD af V W aa C
 clear bo bS
 exact .d <| .rb Tryz.func91 Tryz.results91 bR ⟨⟨(ai.disk : Dsk), ⟨_, rfl, ⟨_, _, _, _, _, _, _, _, _, rfl, V.w1, W.w1, aa.w1⟩⟩, (by (have q1 : WG _ := (by assumption); exact q1.2))⟩, cy, by omega, af, C⟩
theorem c_spec_DrawDiskOpen (code : List UInt8) {w : World} {F : Nat → Prop} {a1 : Option Addr} {n1 c1 : Nat} (h1 : RepS w F a1 n1 c1 code)  : Calls Tryz.prog 46 [.slice a1 n1 c1].toArray w (rets fun rv w' => (∃ (d : Dsk), VS (fo F w.heap.size) w' (d : Dsk) rv ∧ (DD d)) ∧ Ext w w') := by
 refine goT Tryz.func46 ?_
 obtain ⟨rfl, aH, h1⟩ := h1.tp
 refine .s <| .g <| .np 83 [.slice none 0 0, .slice none 0 0, .slice none 0 0, vI 0] fun ah aq aa ab E ar => ?_
 have aI : Cov nil w ah := cov_new aa (Nat.le_refl _)
 replace h1 := (sn [] ab aa).g1 h1
 have C := ab
 clear ab ar aa
 refine .d <| .s <| .g <| .r 1 <| .cl (c_spec_l6Open code h1 (w := aq) (F := nin (fo F w.heap.size) [ah])) ?_
 rintro aR au ⟨⟨aS, ao, aT, aU, rfl, ac, ai, ae⟩, aj⟩
 have ak := al1 E.lt
 have av : Gb w.heap.size aq.heap.size := C.size
 have aJ := nb_ge ac E.lt
 have aK : Cov nil w ao := cov_ge ac C.size
 replace ⟨E, C⟩ := (se [] aj).g2 E C
 clear aj ac
 replace ae := RepS.mixedR (b := ao) (M := [ah]) ae ak av
 clear ak
 refine .cl (c_spec_l72Disk ai (ae.toAll (.head _)) (by omega) (w := au) (F := all)) ?_
 rintro aV aW ⟨⟨af, ⟨_, rfl, ⟨aB, aX, aC, aD, aY, aE, aF, aZ, aG, rfl, J, O, V⟩⟩, aL⟩, ba, aM, aN, al⟩
 have W := al2 ai.lt E.lt
 have ag : Gb w.heap.size au.heap.size := C.size
 replace ⟨E, C⟩ := (s1 al).g2 E C
 clear al
 have J := J.fr W ag
 replace J := J.base (G' := fo F w.heap.size) (fun _ _ h => .inr h)
 have aO := J.max
 have O := O.fr W ag
 replace O := O.base (G' := fo F w.heap.size) (fun _ _ h => .inr h)
 have aP := O.max
 have V := V.fr W ag
 replace V := V.base (G' := fo F w.heap.size) (fun _ _ h => .inr h)
 have aQ := V.max
 clear W
 have aw := J.len
 subst aw
 have ax := O.len
 subst ax
 have ay := V.len
 subst ay
 refine .sc [.slice aB af.files.length aC, .slice aD af.list.length aE, .slice aF af.names.length aG, vI af.next] E fun bc am az aA => ?_
 replace ⟨J, O, V, C⟩ := (so [ao, ah] am).g4 J O V C
 clear am aA
 exact .d <| .rb Tryz.func46 Tryz.results46 az ⟨⟨(af : Dsk), ⟨_, rfl, ⟨_, _, _, _, _, _, _, _, _, rfl, J.w1, O.w1, V.w1⟩⟩, (by assumption)⟩, C⟩
end Go.Proofs.YtfnpaglcnmcnbaaGreat
namespace Go.Proofs.YtfnpaglcnmcnbaaGreat
def fndF (d : Dsk) (i k : Nat) : Bool := (d.files.take k).any (fun f => decide (d.list[i]? = some f.num) && decide ((dopenS d).parts[i]? = some f.part))
theorem fndF_0 (d : Dsk) (i : Nat) : false = fndF d i 0 := by unfold fndF; simp
theorem fndF_s {d : Dsk} {i k : Nat} {f : Fil} (hf : d.files[k]? = some f) : fndF d i (k + 1) = (fndF d i k || (decide (d.list[i]? = some f.num) && decide ((dopenS d).parts[i]? = some f.part))) := by
 unfold fndF
 rw [List.take_add_one, hf, List.any_append]
 simp
theorem fndF_1 {d : Dsk} {i k : Nat} {b : Bool} (hk : k < d.files.length) (h : b = fndF d i k) (hb : b = true) : true = fndF d i (k + 1) := by rw [fndF_s (List.getElem?_eq_getElem hk), ← h, hb]; rfl
theorem fndF_2 {d : Dsk} {i k : Nat} {f : Fil} {n : Int} {b : Bool} (hf : d.files[k]? = some f) (h : b = fndF d i k) (hb : b = false) (hn : d.list[i]? = some n) (hne : ¬ f.num = n) : false = fndF d i (k + 1) := by
 rw [fndF_s hf, ← h, hb, hn, decide_eq_false (fun e => hne (by cases e; rfl))]; rfl
theorem fndF_3 {d : Dsk} {i k : Nat} {f : Fil} {n : Int} {p : Prt} {b : Bool} (hf : d.files[k]? = some f) (h : b = fndF d i k) (hb : b = false) (hn : d.list[i]? = some n) (he : f.num = n) (hp : (dopenS d).parts[i]? = some p) {c : Bool} (hc : (f.part == p) = c) : c = fndF d i (k + 1) := by
 rw [← hc, fndF_s hf, ← h, hb, hn, hp, he, decide_eq_true rfl, Bool.false_or, Bool.true_and]
 by_cases e : f.part = p
 ·rw [e, decide_eq_true rfl]; exact beq_self_eq_true _
 ·rw [decide_eq_false (fun x => e (Option.some.inj x).symm)]
  exact beq_eq_false_iff_ne.2 e
theorem dopen_0 {d : Dsk} (h : diskOk d = true) : dopenS d = openS d := by unfold dopenS; rw [if_pos h]
theorem dopen_len {d : Dsk} (h : diskOk d = true) : (dopenS d).parts.length = d.list.length := by rw [dopen_0 h]; unfold openS; rw [List.length_map]
theorem dopen_mem {d : Dsk} (h : diskOk d = true) : (dopenS d).mem = [] := by rw [dopen_0 h]; rfl
theorem dopen_nm {d : Dsk} (h : diskOk d = true) : (dopenS d).idx.names = d.names := by rw [dopen_0 h]; rfl
theorem dopen_ok {d : Dsk} (h : DD d) (hk : diskOk d = true) : (nmB (dopenS d).idx.names && storeOk (dopenS d)) = true := by
 rw [dopen_0 hk]
 unfold diskOk at hk
 rw [Bool.and_eq_true] at hk
 exact hk.2
theorem numF_at : ∀ (fs : List Fil) (n : Int) (i : Nat), 0 ≤ numF n i fs → ∃ f, fs[(numF n i fs).toNat - i]? = some f ∧ f.num = n ∧ i ≤ (numF n i fs).toNat := by
 intro fs
 induction fs with
 | nil => intro n i h; exact absurd h (by unfold numF; omega)
 | cons x xs ih =>
   intro n i h
   unfold numF at h ⊢
   split at h
   ·next e =>
    rw [if_pos e]
    exact ⟨x, by simp, by simpa using e, by simp⟩
   ·next e =>
    rw [if_neg e]
    obtain ⟨f, h1, h2, h3⟩ := ih n (i + 1) h
    refine ⟨f, ?_, h2, by omega⟩
    rw [show (numF n (i + 1) xs).toNat - i = ((numF n (i + 1) xs).toNat - (i + 1)) + 1 by omega, List.getElem?_cons_succ]
    exact h1
theorem fndF_all {d : Dsk} {i k : Nat} (hk : diskOk d = true) (hi : i < d.list.length) (hl : d.files.length ≤ k) : fndF d i k = true := by
 have hn := List.getElem?_eq_getElem hi
 have h0 := lstOk_at (diskOk_f hk).2.2.2 d.list[i] (List.getElem_mem hi)
 obtain ⟨f, h1, h2, _⟩ := numF_at d.files d.list[i] 0 h0
 have h4 : d.files[(numAt d d.list[i]).toNat]? = some f := h1
 unfold fndF
 rw [List.take_of_length_le hl, List.any_eq_true]
 refine ⟨f, List.mem_of_getElem? h4, ?_⟩
 rw [hn, dopen_0 hk, h2, decide_eq_true rfl, Bool.true_and]
 apply decide_eq_true
 unfold openS
 rw [List.getElem?_map, hn]
 show some (partNo d d.list[i]) = some f.part
 rw [partNo_at h4]
theorem fndF_no {d : Dsk} {i k : Nat} {b : Bool} (hk : diskOk d = true) (h : b = fndF d i k) (hb : b = false) (hi : i < d.list.length) (hl : d.files.length ≤ k) : False := by
 rw [fndF_all hk hi hl, hb] at h
 cases h
theorem dopen_sd {d : Dsk} (h : DD d) (hk : diskOk d = true) : SD (dopenS d) := by rw [dopen_0 hk]; exact h.sd hk
end Go.Proofs.YtfnpaglcnmcnbaaGreat
namespace Go.Proofs.YtfnpaglcnmcnbaaGreat
set_option maxRecDepth 100000
set_option maxHeartbeats 4000000
theorem c_laws_FnOpen (code : List UInt8) {w : World} {F : Nat → Prop} {a1 : Option Addr} {n1 c1 : Nat} (h1 : RepS w F a1 n1 c1 code)  : Calls Tryz.prog 12 [.slice a1 n1 c1].toArray w (rets fun rv w' => rv = .bool (true) ∧ Ext w w') := by
 refine goT Tryz.func12 ?_
 obtain ⟨rfl, dj, h1⟩ := h1.tp
 refine .s <| .g <| .r 1 <| .d <| .s <| .s <| .g <| .r 2 <| .bp ((code.length : Int) > 1048576) (fun cg => .d <| .ct <| .s <| .g <| .r 1 <| .d <| .rt Tryz.func12 Tryz.results12 (.bool true) ⟨(congrArg Value.bool (by rfl)), (Chg.refl _ _)⟩) fun cg => .d <| .cf <| .sk <| .s <| .g <| .r 1 <| .cl (c_spec_DrawDiskOpen code h1 (w := w) (F := nin (fo F w.heap.size) [])) ?_
 rintro eH eI ⟨⟨J, ⟨_, rfl, ⟨cG, eJ, cH, cI, eK, cJ, cK, eL, cL, rfl, V, aa, ai⟩⟩, dm⟩, bD⟩
 have aT : ∀ q_ ∈ ([] : List Nat), q_ < w.heap.size := all_nil
 have aY : Gb w.heap.size w.heap.size := (Nat.le_refl _)
 have E := bD
 clear bD
 replace V := RepS.mixed' (M := []) V aT aY
 have dp := V.max
 replace aa := RepS.mixed' (M := []) aa aT aY
 have dq := aa.max
 replace ai := RepS.mixed' (M := []) ai aT aY
 have dr := ai.max
 clear aT
 have ci := V.len
 subst ci
 have cj := aa.len
 subst cj
 have ck := ai.len
 subst ck
 refine .np 83 [.slice none 0 0, .slice none 0 0, .slice none 0 0, vI 0] fun af eM aZ bE cm co => ?_
 have dt := E.cn aZ
 replace ⟨V, aa, ai, E⟩ := (sn [] bE aZ).g4 V aa ai E
 clear bE co aZ
 refine .sc [.slice cG J.files.length cH, .slice cI J.list.length cJ, .slice cK J.names.length cL, vI J.next] cm fun cp bF C cq => ?_
 replace ⟨V, aa, ai, E⟩ := (so [af] bF).g4 V aa ai E
 clear bF cq
 refine .d <| .s <| .g <| .ln C <| .cl (c_impl_DiskOpen J V aa ai (by assumption) (w := cp) (F := nin (fo F w.heap.size) [af])) ?_
 rintro eN eO ⟨⟨_, rfl, ⟨cM, eP, cN, cO, eQ, cP, cQ, eR, cR, cS, eS, cT, rfl, ab, ac, W, ae⟩⟩, bG⟩
 have aG := al1 C.lt
 have aU : Gb w.heap.size cp.heap.size := E.size
 replace ⟨V, aa, ai, C, E⟩ := (se [af] bG).g5 V aa ai C E
 clear bG
 replace ab := RepS.mixed' (M := [af]) ab aG aU
 have du := ab.max
 replace ac := RepS.mixed' (M := [af]) ac aG aU
 have dv := ac.max
 replace W := RepS.mixed' (M := [af]) W aG aU
 have dw := W.max
 replace ae := RepS.mixed' (M := [af]) ae aG aU
 have dx := ae.max
 clear aG
 have cr := ab.len
 subst cr
 have cu := ac.len
 subst cu
 have cv := W.len
 subst cv
 have cw := ae.len
 subst cw
 refine .np 30 [.slice none 0 0, .slice none 0 0, .slice none 0 0, .slice none 0 0] fun ag eT aV bH cx cy => ?_
 have dy := nb_new aV C.lt
 have dz := E.cn aV
 replace ⟨V, aa, ai, C, ab, ac, W, ae, E⟩ := (sn [af] bH aV).g9 V aa ai C ab ac W ae E
 clear bH cy aV
 refine .sc [.slice cM ((((dopenS J).idx).names).length) cN, .slice cO ((((dopenS J).idx).posts).length) cP, .slice cQ (((dopenS J).parts).length) cR, .slice cS (((dopenS J).mem).length) cT] cx fun eU bI O bL => ?_
 replace ⟨V, aa, ai, C, ab, ac, W, ae, E⟩ := (so [ag, af] bI).g9 V aa ai C ab ac W ae E
 clear bI bL
 refine .d <| .s <| .s <| .gd nil 3 fun dA ba => ?_
 replace ⟨V, aa, ai, C, ab, ac, W, ae, O, E⟩ := (se [ag, af] ba).g10 V aa ai C ab ac W ae O E
 clear ba
 refine .ln 0 O id <| .ln 1 C id <| .go 2 <| .cl (fun bc am => c_spec_DiskOpen J (V.ext am) (aa.ext am) (ai.ext am) (by assumption) (w := bc) (F := nin (fo F w.heap.size) [ag, af])) ?_
 intro bc am
 replace ⟨V, aa, ai, C, ab, ac, W, ae, O, E⟩ := (se [ag, af] am).g10 V aa ai C ab ac W ae O E
 rintro dB dC ⟨⟨_, rfl, ⟨dD, dE, dF, dG, dH, dI, dJ, dK, dL, dM, dN, dO, rfl, av, aw, ax, ay⟩⟩, aL⟩
 have ao := al2 O.lt C.lt
 have aE : Gb w.heap.size bc.heap.size := E.size
 have hkeep_ := aL
 replace ⟨V, aa, ai, C, ab, ac, W, ae, O, E⟩ := (se [ag, af] aL).g10 V aa ai C ab ac W ae O E
 clear aL
 refine ⟨Ext.chg hkeep_, ?_⟩
 replace av := RepS.mixed' (M := [ag, af]) av ao aE
 replace aw := RepS.mixed' (M := [ag, af]) aw ao aE
 replace ax := RepS.mixed' (M := [ag, af]) ax ao aE
 replace ay := RepS.mixed' (M := [ag, af]) ay ao aE
 clear ao
 have bM := av.len
 subst bM
 have bN := aw.len
 subst bN
 have bO := ax.len
 subst bO
 have bP := ay.len
 subst bP
 refine .d fun cz aM => ?_
 replace ⟨V, aa, ai, C, ab, ac, W, ae, O, av, aw, ax⟩ := (se [ag, af] aM).g12 V aa ai C ab ac W ae O av aw ax
 replace ⟨ay, E⟩ := (se [ag, af] aM).g2 ay E
 clear aM
 refine .cl (c_laws_lyStore (dopenS J) (dopenS J) ab.ta ac.ta W.ta ae.ta av.ta aw.ta ax.ta ay.ta (w := cz) (F := all)) ?_
 rintro dP cA ⟨rfl, bd⟩
 replace ⟨V, aa, ai, C, ab, ac, W, ae, O, E⟩ := (se [ag, af] bd).g10 V aa ai C ab ac W ae O E
 clear bd
 rw [show (((dopenS J) == (dopenS J))) = true from beq_self_eq_true _]
 refine .r 2 <| .ln C <| .cl (c_spec_DiskOk J V.ta aa.ta ai.ta (by assumption) (w := cA) (F := all)) ?_
 rintro dQ bJ ⟨rfl, bg⟩
 replace ⟨V, aa, ai, C, ab, ac, W, ae, O, E⟩ := (se [ag, af] bg).g10 V aa ai C ab ac W ae O E
 clear bg
 cases cU : (diskOk J)
 ·refine .r 2 <| .d <| .ct <| .s <| .gd nil 3 fun dR bh => ?_
  replace ⟨V, aa, ai, C, ab, ac, W, ae, O, E⟩ := (se [ag, af] bh).g10 V aa ai C ab ac W ae O E
  clear bh
  refine .ln 0 O id <| .ln 1 C id <| .go 2 <| .cl (fun bi aq => c_spec_DiskOpen J (V.ext aq) (aa.ext aq) (ai.ext aq) (by assumption) (w := bi) (F := nin (fo F w.heap.size) [ag, af])) ?_
  intro bi aq
  replace ⟨V, aa, C, ab, ac, W, ae, O, E⟩ := (se [ag, af] aq).g9 V aa C ab ac W ae O E
  rintro dS dT ⟨⟨_, rfl, ⟨dU, dV, dW, dX, dY, dZ, d0, d3, d4, d5, d6, d7, rfl, az, aA, aB, aC⟩⟩, aN⟩
  have ar := al2 O.lt C.lt
  have aF : Gb w.heap.size bi.heap.size := E.size
  have hkeep_ := aN
  replace ⟨V, aa, C, ab, ac, W, ae, O, E⟩ := (se [ag, af] aN).g9 V aa C ab ac W ae O E
  clear aN
  refine ⟨Ext.chg hkeep_, ?_⟩
  replace az := RepS.mixed' (M := [ag, af]) az ar aF
  replace aA := RepS.mixed' (M := [ag, af]) aA ar aF
  replace aB := RepS.mixed' (M := [ag, af]) aB ar aF
  replace aC := RepS.mixed' (M := [ag, af]) aC ar aF
  clear ar
  have bQ := az.len
  subst bQ
  have bR := aA.len
  subst bR
  have bS := aB.len
  subst bS
  have bT := aC.len
  subst bT
  refine .d fun cB aO => ?_
  replace ⟨V, aa, C, ab, ac, W, ae, O, az, aA, aB, aC⟩ := (se [ag, af] aO).g12 V aa C ab ac W ae O az aA aB aC
  replace E := (se [ag, af] aO).g1 E
  clear aO
  refine .cl (c_laws_lyStore (dopenS J) (dopenS J) ab.ta ac.ta W.ta ae.ta az.ta aA.ta aB.ta aC.ta (w := cB) (F := all)) ?_
  rintro d8 d9 ⟨rfl, bj⟩
  replace ⟨V, aa, C, ab, ac, W, ae, O, E⟩ := (se [ag, af] bj).g9 V aa C ab ac W ae O E
  clear bj
  rw [show (((dopenS J) == (dopenS J))) = true from beq_self_eq_true _]
  exact .r 1 <| .d <| .rt Tryz.func12 Tryz.results12 (.bool true) ⟨(congrArg Value.bool (by rfl)), E⟩
 refine .r 2 <| .d <| .cf <| .sk <| .s <| .s <| .g <| .r 1 <| .d <| .b 0 <| T.loop (X := Nat) 0 (fun k => [(3, .pointer (some ⟨af, 0, none⟩)), (4, .pointer (some ⟨ag, 0, none⟩)), (5, vI (k : Int))]) (fun k aD => Chg (ins []) bJ aD ∧ (k ≤ J.list.length)) (fun k => J.list.length - k) (by kernel_rfl) ⟨by kernel_rfl, by kernel_rfl, by kernel_rfl, trivial⟩ ⟨Chg.refl _ _, (by omega)⟩ ?_
 rintro k ec aD ⟨aj, cV⟩ aX
 have bk : Mv [ag, af] [ag, af] bJ aD := Mv.inl aj all_nil (all_cons (.inl (.head _)) (all_cons (.inl (.tail _ (.head _))) all_nil))
 replace ⟨V, aa, C, ab, ac, W, ae, O, E⟩ := (sp bk aj).g9 V aa C ab ac W ae O E
 clear bk
 refine .s <| .s <| .g <| .r 2 <| .lb C <| .r 1 <| .bp ((k : Int) < (J.list.length : Int)) (fun bU => ?_) (fun bU => ?_)
 ·refine .d <| .ct <| .sk <| .s <| .b 1 <| .s <| .g <| .r 1 <| .d <| .s <| .s <| .g <| .r 1 <| .d <| .b 2 <| T.loop (X := Bool × Nat) (false, 0) (fun (k1, k2) => [(3, .pointer (some ⟨af, 0, none⟩)), (4, .pointer (some ⟨ag, 0, none⟩)), (5, vI (k : Int)), (6, .bool k1), (7, vI (k2 : Int))]) (fun (k1, k2) bm => Chg (ins []) aD bm ∧ (k2 ≤ J.files.length) ∧ (k1 = fndF J k k2)) (fun (k1, k2) => J.files.length - k2) (by kernel_rfl) ⟨by kernel_rfl, by kernel_rfl, by kernel_rfl, by kernel_rfl, by kernel_rfl, trivial⟩ ⟨Chg.refl _ _, (by omega), (by exact fndF_0 _ _)⟩ ?_
  rintro ⟨k1, k2⟩ ed bm ⟨ah, cW, cX⟩ ak
  have bn : Mv [ag, af] [ag, af] aD bm := Mv.inl ah all_nil (all_cons (.inl (.head _)) (all_cons (.inl (.tail _ (.head _))) all_nil))
  replace ⟨V, aa, C, ab, ac, W, ae, O, E, aj⟩ := (sp bn ah).g10 V aa C ab ac W ae O E aj
  clear bn
  refine .s <| .s <| .g <| .r 2 <| .lb C <| .r 1 <| .bp ((k2 : Int) < (J.files.length : Int)) (fun bW => ?_) (fun bW => ?_)
  ·refine .d <| .ct <| .sk <| .s <| .b 3 <| .gd nil 26 fun ee bo => ?_
   replace ⟨V, aa, C, ab, ac, W, ae, O, E, aj, ah⟩ := (se [ag, af] bo).g11 V aa C ab ac W ae O E aj ah
   clear bo
   cases cY : k1
   ·refine .r [0, 1, 2] <| .lb 3 C id <| .r [4] ?_
    have bq : k2 < J.files.length := (by omega)
    refine GA.idx (i := 5) k2 (len := J.files.length) (z := (k2 : Int)) (sz := 3) (by kernel_rfl) (by omega) bq (V.addr (Nat.zero_lt_of_lt bq)) <| .r [6] ?_
    obtain ⟨aW, aP⟩ : ∃ y, J.files[k2]? = some y := ⟨_, List.getElem?_eq_getElem (by omega)⟩
    have cZ := drop_at aP; have cC := List.mem_of_getElem? aP
    obtain ⟨_, ⟨ef, eg, eh, ei, ej, ek, rfl, aH, aI⟩, br⟩ := V.elem k2 aW aP
    have bX := aH.len
    subst bX
    have c7 := aH.max
    have bY := aI.len
    subst bY
    have c8 := aI.max
    refine .lh 7 0 br id <| .r [8] <| .lb 9 C id <| .r [10] ?_
    have bt : k < J.list.length := (by omega)
    refine GA.idx (i := 11) k (len := J.list.length) (z := (k : Int)) (sz := 1) (by kernel_rfl) (by omega) bt (aa.addr (Nat.zero_lt_of_lt bt)) ?_
    obtain ⟨bK, aQ⟩ : ∃ y, J.list[k]? = some y := ⟨_, List.getElem?_eq_getElem (by omega)⟩
    have c9 := drop_at aQ; have cD := List.mem_of_getElem? aQ
    obtain ⟨_, rfl, bZ⟩ := aa.elem k bK aQ
    refine .lh 12 0 bZ id <| GA.eqI (i := 13) (a := aW.num) (b := bK) (by kernel_rfl) (fun b0 => ?_) (fun b0 => ?_)
    ·refine .r [14, 15] <| .lb 16 C id <| .r [17] ?_
     have bu : k2 < J.files.length := (by omega)
     refine GA.idx (i := 18) k2 (len := J.files.length) (z := (k2 : Int)) (sz := 3) (by kernel_rfl) (by omega) bu (V.addr (Nat.zero_lt_of_lt bu)) <| .r [19] <| .lg 20 1 br id <| .r [21] <| .lb 22 O id <| .r [23] ?_
     have bv : k < ((dopenS J).parts).length := (by (have q2 := dopen_len (by assumption : diskOk J = true); omega))
     refine GA.idx (i := 24) k (len := ((dopenS J).parts).length) (z := (k : Int)) (sz := 2) (by kernel_rfl) (by omega) bv (W.addr (Nat.zero_lt_of_lt bv)) ?_
     obtain ⟨bw, aR⟩ : ∃ y, ((dopenS J).parts)[k]? = some y := ⟨_, List.getElem?_eq_getElem (by omega)⟩
     have da := drop_at aR; have cE := List.mem_of_getElem? aR
     obtain ⟨_, ⟨en, eo, es, et, ew, ey, rfl, aJ, aK⟩, b6⟩ := W.elem k bw aR
     have b7 := aJ.len
     subst b7
     have db := aJ.max
     have b8 := aK.len
     subst b8
     have de := aK.max
     refine .lg 25 0 b6 id <| .d fun cF aS => ?_
     replace ⟨C, ab, ac, W, ae, O, aH, aI, aJ, aK, E, aj⟩ := (se [ag, af] aS).g12 C ab ac W ae O aH aI aJ aK E aj
     replace ah := (se [ag, af] aS).g1 ah
     clear aS
     refine .cl (c_laws_lyPart (aW.part) bw aH.ta aI.ta aJ.ta aK.ta (w := cF) (F := all)) ?_
     rintro ez eA ⟨rfl, bz⟩
     replace ⟨C, ab, ac, W, ae, O, E, aj, ah⟩ := (se [ag, af] bz).g9 C ab ac W ae O E aj ah
     clear bz
     cases df : ((aW.part) == bw)
     ·exact .r 3 <| .d <| .ib 3 <| .g <| .r 1 <| RG.int ((k2 : Int) + 1) (by kernel_rfl) (by omega) <| .r 1 <| .d <| ak (false, k2 + 1) _ _ ⟨by kernel_rfl, by kernel_rfl, by kernel_rfl, by kernel_rfl, by kernel_rfl, trivial⟩ ⟨ah, (by omega), (by exact fndF_3 (by assumption) (by assumption) (by assumption) (by assumption) (by assumption) (by assumption) (by assumption))⟩ (by (simp only []; omega))
     exact .r 3 <| .d <| .ib 3 <| .g <| .r 1 <| RG.int ((k2 : Int) + 1) (by kernel_rfl) (by omega) <| .r 1 <| .d <| ak (true, k2 + 1) _ _ ⟨by kernel_rfl, by kernel_rfl, by kernel_rfl, by kernel_rfl, by kernel_rfl, trivial⟩ ⟨ah, (by omega), (by exact fndF_3 (by assumption) (by assumption) (by assumption) (by assumption) (by assumption) (by assumption) (by assumption))⟩ (by (simp only []; omega))
    refine .r [14, 15, 16, 17, 18, 19, 20, 21, 22, 23, 24, 25] <| .d fun eB bA => ?_
    replace ⟨C, ab, ac, W, ae, O, E, aj, ah⟩ := (se [ag, af] bA).g9 C ab ac W ae O E aj ah
    clear bA
    exact .r 4 <| .d <| .ib 3 <| .g <| .r 1 <| RG.int ((k2 : Int) + 1) (by kernel_rfl) (by omega) <| .r 1 <| .d <| ak (false, k2 + 1) _ _ ⟨by kernel_rfl, by kernel_rfl, by kernel_rfl, by kernel_rfl, by kernel_rfl, trivial⟩ ⟨ah, (by omega), (by exact fndF_2 (by assumption) (by assumption) (by assumption) (by assumption) (by assumption))⟩ (by (simp only []; omega))
   refine .r [0, 1, 2, 3, 4, 5, 6, 7, 8, 9, 10, 11, 12, 13, 14, 15, 16, 17, 18, 19, 20, 21, 22, 23, 24, 25] <| .d fun eC bB => ?_
   replace ⟨C, ab, ac, W, ae, O, E, aj, ah⟩ := (se [ag, af] bB).g9 C ab ac W ae O E aj ah
   clear bB
   exact .r 4 <| .d <| .ib 3 <| .g <| .r 1 <| RG.int ((k2 : Int) + 1) (by kernel_rfl) (by omega) <| .r 1 <| .d <| ak (true, k2 + 1) _ _ ⟨by kernel_rfl, by kernel_rfl, by kernel_rfl, by kernel_rfl, by kernel_rfl, trivial⟩ ⟨ah, (by omega), (by exact fndF_1 (by omega) (by assumption) (by assumption))⟩ (by (simp only []; omega))
  refine .d <| .cf <| .x 2 rfl <| .s <| .g ?_
  cases dg : k1
  ·exact .r 2 <| .d <| .ct <| .s <| .g <| .r 1 <| .d <| .rt Tryz.func12 Tryz.results12 (.bool false) ⟨(congrArg Value.bool (by exfalso; exact fndF_no (by assumption) (by assumption) (by assumption) (by omega) (by omega))), E⟩
  exact .r 2 <| .d <| .cf <| .sk <| .ib 1 <| .g <| .r 1 <| RG.int ((k : Int) + 1) (by kernel_rfl) (by omega) <| .r 1 <| .d <| aX (k + 1) _ _ ⟨by kernel_rfl, by kernel_rfl, by kernel_rfl, trivial⟩ ⟨aj, (by omega)⟩ (by omega)
 refine .d <| .cf <| .x 0 rfl <| .s <| .g <| .ln O <| .cl (c_impl_StoreOkG (dopenS J) ab.ta ac.ta W.ta ae.ta (SG.of (by have q1 : DD J := (by assumption); exact dopen_sd q1 (by assumption))) (w := aD) (F := all)) ?_
 rintro eF eG ⟨rfl, bC⟩
 replace ⟨C, O, E⟩ := (se [] bC).g3 C O E
 clear bC
 have b9 : (nmB (dopenS J).idx.names && storeOk (dopenS J)) = true := (by have q1 : DD J := (by assumption); exact dopen_ok q1 (by assumption))
 rw [b9]
 exact .r 2 <| .lb O <| .r 2 <| .lb C <| .r 1 <| .eq ((((dopenS J).parts).length) : Int) (J.list.length : Int) (fun cd => .r 3 <| .lb O <| .r 1 <| .eq ((((dopenS J).mem).length) : Int) 0 (fun ce => .r 4 <| .lb O <| .r 2 <| .lb C <| .r 4 <| .d <| .rt Tryz.func12 Tryz.results12 (.bool ((((((dopenS J).idx).names).length) : Int) == (J.names.length : Int))) ⟨(congrArg Value.bool (by rw [dopen_nm (by assumption : diskOk J = true)]; exact beq_self_eq_true _)), E⟩) fun ce => .r 12 <| .d <| .rt Tryz.func12 Tryz.results12 (.bool false) ⟨(congrArg Value.bool (by exfalso; (have q2 := dopen_len (by assumption : diskOk J = true); have q3 := dopen_mem (by assumption : diskOk J = true); have q4 := dopen_nm (by assumption : diskOk J = true); simp_all; done))), E⟩) fun cd => .r 18 <| .d <| .rt Tryz.func12 Tryz.results12 (.bool false) ⟨(congrArg Value.bool (by exfalso; (have q2 := dopen_len (by assumption : diskOk J = true); have q3 := dopen_mem (by assumption : diskOk J = true); have q4 := dopen_nm (by assumption : diskOk J = true); simp_all; done))), E⟩
end Go.Proofs.YtfnpaglcnmcnbaaGreat
