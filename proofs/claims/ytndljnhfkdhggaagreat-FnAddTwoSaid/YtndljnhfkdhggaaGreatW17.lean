/- walks; squeezed -/
import Derived.Test.YtndljnhfkdhggaaGreatMod17
set_option linter.unusedVariables false
set_option linter.unusedSimpArgs false
namespace Go.Proofs.YtndljnhfkdhggaaGreat
set_option maxRecDepth 100000
set_option maxHeartbeats 4000000
theorem c_impl_put (b : List Row) (r : Row) {w : World} {F : Nat → Prop} {a1 : Option Addr} {n1 c1 : Nat} (h1 : RepS w F a1 n1 c1 b) (p0 : b.length ≤ 100000) : Calls Tryz.prog 49 [.slice a1 n1 c1, .agg #[.int .i64 r.t, .int .i64 r.v]].toArray w (rets fun rv w' => VL (ge w.heap.size) w' (insR r b : List Row) rv ∧ Ext w w') := by
 refine goT Tryz.func49 ?_
 obtain ⟨rfl, eJ, h1⟩ := h1.tp
 refine .s <| .g <| .np 33 [vI r.t, vI r.v] fun O fe bT bg E df => ?_
 replace h1 := (sn [] bg bT).g1 h1
 have C := bg
 clear bg df bT
 refine .r 1 <| .d <| .s <| .g <| .ns 0 33 [] fun cm d0 aW bU dg dh => ?_
 have di := nb_new aW E.lt
 have dj := gb_new aW C.size
 have dk := C.cn aW
 replace ⟨h1, E, C⟩ := (sn [O] bU aW).g3 h1 E C
 clear bU dh aW
 have dm : Own (α := Row) d0 cm 33 (nin (ge w.heap.size) [cm, O]) 0 0 [] := Own.nil' dg
 refine .r 1 <| RG.appendF (T := 41) (ty := 41) flat_row dm h1 (by kernel_rfl) (by kernel_rfl) (fun b h e => h.2 (e ▸ (.head _))) (by omega) fun V co dp J aI bV => ?_
 have eK := nb_or aI di E.lt
 have bW := gb_or aI dj C.size
 have eL := cov_or aI dk C.size
 replace ⟨E, C⟩ := (s1 bV).g2 E C
 clear bV
 replace J := J.rn cm
 clear aI
 have eM := J.len; have eN := J.max
 refine .r 1 <| .d <| .s <| .g <| .r 1 <| .d <| .s <| .b 0 <| T.loop (X := Nat) 0 (fun at_ => [(3, .pointer (some ⟨O, 0, none⟩)), (5, vS V (0 + b.length) co), (6, vI (at_ : Int))]) (fun at_ cp => Chg (ins []) dp cp ∧ (at_ ≤ b.length) ∧ (b.take at_ ++ insR r (b.drop at_) = insR r b)) (fun at_ => b.length - at_) (by kernel_rfl) ⟨by kernel_rfl, by kernel_rfl, by kernel_rfl, trivial⟩ ⟨Chg.refl _ _, (by omega), (by simp)⟩ ?_
 rintro at_ ff cp ⟨aw, eO, eP⟩ bh
 have bX : Mv [V, O] [V, O] dp cp := Mv.inl aw all_nil (all_cons (.inl (.head _)) (all_cons (.inl (.tail _ (.head _))) all_nil))
 replace ⟨E, J, C⟩ := (sp bX aw).g3 E J C
 clear bX
 refine .s <| .s <| .gd nil 12 fun d3 bY => ?_
 replace ⟨E, J, C, aw⟩ := (se [V, O] bY).g4 E J C aw
 clear bY
 refine .r [0, 1, 2] <| GA.boolP (i := 3) ((at_ : Int) < ((0 + b.length) : Int)) (by kernel_rfl) (fun dq => ?_) (fun dq => ?_)
 · refine .r [4, 5, 6] ?_
   have dr : at_ < 0 + b.length := (by first | omega | (simp; omega))
   refine GA.idx (i := 7) (b := V) (o := 0) at_ (len := 0 + b.length) (z := (at_ : Int)) (sz := 2) (by kernel_rfl) (by first | omega | (simp; omega)) dr rfl <| .r [8] ?_
   obtain ⟨ak, aD⟩ : ∃ y, ([] ++ b)[at_]? = some y := ⟨_, List.getElem?_eq_getElem (by first | omega | (simp; omega))⟩
   have eQ := drop_at aD; have dZ := List.mem_of_getElem? aD
   obtain ⟨_, rfl, bi⟩ := J.elem at_ ak aD
   replace bi : Has d3 ⟨V, 0 + at_ * Rep.sz Row, none⟩ [vI ak.t, vI ak.v] := by rw [Nat.zero_add]; exact bi
   refine .lh 9 0 bi id <| .r [10] <| .lb 11 E id <| .d fun fg bZ => ?_
   replace ⟨E, J, C, aw⟩ := (se [V, O] bZ).g4 E J C aw
   clear bZ
   refine .bp (ak.t < r.t) (fun dt => .r 1 <| .d <| .ct <| .sk <| .b 1 <| .g <| .r 1 <| .it ((at_ : Int) + 1) <| .r 1 <| .d <| .ib 1 <| bh (at_ + 1) _ _ ⟨by kernel_rfl, by kernel_rfl, by kernel_rfl, trivial⟩ ⟨aw, (by omega), (by exact insStep (by assumption) (by assumption) (by assumption))⟩ (by first | omega | (simp only []; omega))) fun dt => .r 1 <| .d <| .cf <| .x 0 rfl <| .s <| .s <| .gd nil 12 fun d4 b0 => ?_
   replace ⟨E, J, C⟩ := (se [V, O] b0).g3 E J C
   clear b0
   refine .r [0, 1, 2] <| GA.boolP (i := 3) ((at_ : Int) < ((0 + b.length) : Int)) (by kernel_rfl) (fun du => ?_) (fun du => ?_)
   · refine .r [4, 5, 6] ?_
     have dv : at_ < 0 + b.length := (by first | omega | (simp; omega))
     refine GA.idx (i := 7) (b := V) (o := 0) at_ (len := 0 + b.length) (z := (at_ : Int)) (sz := 2) (by kernel_rfl) (by first | omega | (simp; omega)) dv rfl <| .r [8] ?_
     obtain ⟨_, rfl, bj⟩ := J.elem at_ ak aD
     replace bj : Has d4 ⟨V, 0 + at_ * Rep.sz Row, none⟩ [vI ak.t, vI ak.v] := by rw [Nat.zero_add]; exact bj
     refine .lh 9 0 bj id <| .r [10] <| .lb 11 E id <| .d fun d5 b6 => ?_
     replace ⟨E, J, C⟩ := (se [V, O] b6).g3 E J C
     clear b6
     refine .eq ak.t r.t (fun dw => ?_) (fun dw => ?_)
     · refine .r 1 <| .d <| .ct <| .s <| .g <| .r 2 <| .ln E ?_
       have dx : at_ < 0 + b.length := (by first | omega | (simp; omega))
       refine RG.idx (b := V) (o := 0) at_ (len := 0 + b.length) (i := (at_ : Int)) (sz := 2) (by kernel_rfl) (by first | omega | (simp; omega)) dx rfl ?_
       obtain ⟨_, rfl, bk⟩ := J.elem at_ ak aD
       replace bk : Has d5 ⟨V, 0 + at_ * Rep.sz Row, none⟩ [vI ak.t, vI ak.v] := by rw [Nat.zero_add]; exact bk
       refine RG.storeO (t' := 33) (i := at_) (k := 0) (v := .agg #[vI r.t, vI r.v]) (cs := [vI ak.t, vI ak.v]) r J aD bk (by kernel_rfl) (by kernel_rfl) (by kernel_rfl) rfl fun fh dy b7 dz => ?_
       replace ⟨E, C⟩ := (s1 b7).g2 E C
       clear b7 dz
       refine .d <| .s <| .g <| .r 2 <| .d ?_
       have d6 := dy.sl bW
       exact .rt Tryz.func49 Tryz.results49 (vS V (0 + b.length) co) ⟨(d6.vl (by first | exact insHit (by assumption) (by assumption) (by assumption) | exact insNew (by assumption) (by assumption) (by assumption) (by assumption) | exact insTop (by assumption) (by omega)) (fun _ _ h => h.1)), C⟩
     refine .r 1 <| .d <| .cf <| .sk <| .s <| .g <| .ns 0 33 [] fun aJ d7 aE b8 dA dB => ?_
     have dC := nb_new aE E.lt
     have dD := nb_new aE J.lt
     have dE := gb_new aE C.size
     have eR := C.cn aE
     replace ⟨E, J, C⟩ := (sn [V, O] b8 aE).g3 E J C
     clear b8 dB aE
     have ax : Own (α := Row) d7 aJ 33 (nin (ge w.heap.size) [aJ, V, O]) 0 0 [] := Own.nil' dA
     refine .r 2 <| .ln E <| .ns 1 33 [vI r.t, vI r.v] fun bd dF aK bm cq cr => ?_
     have cu := nb_new aK J.lt
     have cv := nb_new aK ax.lt
     replace ⟨E, J, ax, C⟩ := (sn [aJ, V, O] bm aK).g4 E J ax C
     clear bm cr aK
     have aL : Own (α := Row) dF bd 33 (nin (ge w.heap.size) [bd, aJ, V, O]) 1 1 [r] := Own.lit cq rfl (by decide) ⟨rfl, rfl⟩
     refine .cl (c_slices_Insert (i := at_) (y := r) J (Own.box1 aL) cu (by omega) (by omega)) ?_
     rintro eS b9 ⟨⟨bn, eT, rfl, al, aM⟩, aX⟩
     have bo := nb_or' aM (Nb.symm dD) ax.lt
     have bq : Mv [bd, aJ, V, O] [bd, aJ, bn, O] dF b9 := Mv.appO [bd, aJ] [O] aX aM
     replace ⟨E, ax, aL, C⟩ := (sp bq aX).g4 E ax aL C
     clear bq aX
     replace al : Own b9 bn 33 (nin (ge w.heap.size) [bd, aJ, bn, O]) _ _ _ := al.flat flat_row
     clear aM
     have d8 := al.len; have d9 := al.max
     refine RG.appendF (T := 41) (ty := 41) flat_row ax (al.repF flat_row) (by kernel_rfl) (by kernel_rfl) (fun b h e => bo (h.symm.trans e)) (by omega) fun dG dH eU ay ab br => ?_
     have ea := nb_or ab dC E.lt
     have eb := nb_or ab (Nb.symm bo) al.lt
     have ec := nb_or ab (Nb.symm cv) aL.lt
     have cw := gb_or ab dE C.size
     replace ⟨E, C⟩ := (s1 br).g2 E C
     clear br
     replace ay := ay.rn aJ
     clear ab
     have ed := ay.len; have ee := ay.max
     refine .r 1 <| .d ?_
     have dI := ay.sl cw
     exact .rt Tryz.func49 Tryz.results49 (vS dG (0 + (0 + b.length + 1)) dH) ⟨(dI.vl (by first | exact insHit (by assumption) (by assumption) (by assumption) | exact insNew (by assumption) (by assumption) (by assumption) (by assumption) | exact insTop (by assumption) (by omega)) (fun _ _ h => h.1)), C⟩
   refine .r [4, 5, 6, 7, 8, 9, 10, 11] <| .d fun eV bt => ?_
   replace ⟨E, J, C⟩ := (se [V, O] bt).g3 E J C
   clear bt
   refine .r 2 <| .d <| .cf <| .sk <| .s <| .g <| .ns 0 33 [] fun ac dJ am bu cx cy => ?_
   have cz := nb_new am E.lt
   have cA := nb_new am J.lt
   have cB := gb_new am C.size
   have ef := C.cn am
   replace ⟨E, J, C⟩ := (sn [V, O] bu am).g3 E J C
   clear bu cy am
   have W : Own (α := Row) dJ ac 33 (nin (ge w.heap.size) [ac, V, O]) 0 0 [] := Own.nil' cx
   refine .r 2 <| .ln E <| .ns 1 33 [vI r.t, vI r.v] fun aF cd aN bv cC cD => ?_
   have cE := nb_new aN J.lt
   have cF := nb_new aN W.lt
   replace ⟨E, J, W, C⟩ := (sn [ac, V, O] bv aN).g4 E J W C
   clear bv cD aN
   have aO : Own (α := Row) cd aF 33 (nin (ge w.heap.size) [aF, ac, V, O]) 1 1 [r] := Own.lit cC rfl (by decide) ⟨rfl, rfl⟩
   refine .cl (c_slices_Insert (i := at_) (y := r) J (Own.box1 aO) cE (by omega) (by omega)) ?_
   rintro eW ce ⟨⟨bw, eX, rfl, ao, aP⟩, aY⟩
   have bz := nb_or' aP (Nb.symm cA) W.lt
   have bA : Mv [aF, ac, V, O] [aF, ac, bw, O] cd ce := Mv.appO [aF, ac] [O] aY aP
   replace ⟨E, W, aO, C⟩ := (sp bA aY).g4 E W aO C
   clear bA aY
   replace ao : Own ce bw 33 (nin (ge w.heap.size) [aF, ac, bw, O]) _ _ _ := ao.flat flat_row
   clear aP
   have eg := ao.len; have eh := ao.max
   refine RG.appendF (T := 41) (ty := 41) flat_row W (ao.repF flat_row) (by kernel_rfl) (by kernel_rfl) (fun b h e => bz (h.symm.trans e)) (by omega) fun dK dL eY az ae bB => ?_
   have ei := nb_or ae cz E.lt
   have ej := nb_or ae (Nb.symm bz) ao.lt
   have ek := nb_or ae (Nb.symm cF) aO.lt
   have cG := gb_or ae cB C.size
   replace ⟨E, C⟩ := (s1 bB).g2 E C
   clear bB
   replace az := az.rn ac
   clear ae
   have em := az.len; have en := az.max
   refine .r 1 <| .d ?_
   have dM := az.sl cG
   exact .rt Tryz.func49 Tryz.results49 (vS dK (0 + (0 + b.length + 1)) dL) ⟨(dM.vl (by first | exact insHit (by assumption) (by assumption) (by assumption) | exact insNew (by assumption) (by assumption) (by assumption) (by assumption) | exact insTop (by assumption) (by omega)) (fun _ _ h => h.1)), C⟩
 refine .r [4, 5, 6, 7, 8, 9, 10, 11] <| .d fun eZ bC => ?_
 replace ⟨E, J, C⟩ := (se [V, O] bC).g3 E J C
 clear bC
 refine .r 2 <| .d <| .cf <| .x 0 rfl <| .s <| .s <| .gd nil 12 fun dN bD => ?_
 replace ⟨E, J, C⟩ := (se [V, O] bD).g3 E J C
 clear bD
 refine .r [0, 1, 2] <| GA.boolP (i := 3) ((at_ : Int) < ((0 + b.length) : Int)) (by kernel_rfl) (fun cH => ?_) (fun cH => ?_)
 · refine .r [4, 5, 6] ?_
   have cI : at_ < 0 + b.length := (by first | omega | (simp; omega))
   refine GA.idx (i := 7) (b := V) (o := 0) at_ (len := 0 + b.length) (z := (at_ : Int)) (sz := 2) (by kernel_rfl) (by first | omega | (simp; omega)) cI rfl <| .r [8] ?_
   obtain ⟨af, aA⟩ : ∃ y, ([] ++ b)[at_]? = some y := ⟨_, List.getElem?_eq_getElem (by first | omega | (simp; omega))⟩
   have eo := drop_at aA; have dO := List.mem_of_getElem? aA
   obtain ⟨_, rfl, aZ⟩ := J.elem at_ af aA
   replace aZ : Has dN ⟨V, 0 + at_ * Rep.sz Row, none⟩ [vI af.t, vI af.v] := by rw [Nat.zero_add]; exact aZ
   refine .lh 9 0 aZ id <| .r [10] <| .lb 11 E id <| .d fun dP bE => ?_
   replace ⟨E, J, C⟩ := (se [V, O] bE).g3 E J C
   clear bE
   refine .eq af.t r.t (fun cJ => ?_) (fun cJ => ?_)
   · refine .r 1 <| .d <| .ct <| .s <| .g <| .r 2 <| .ln E ?_
     have cK : at_ < 0 + b.length := (by first | omega | (simp; omega))
     refine RG.idx (b := V) (o := 0) at_ (len := 0 + b.length) (i := (at_ : Int)) (sz := 2) (by kernel_rfl) (by first | omega | (simp; omega)) cK rfl ?_
     obtain ⟨_, rfl, ba⟩ := J.elem at_ af aA
     replace ba : Has dP ⟨V, 0 + at_ * Rep.sz Row, none⟩ [vI af.t, vI af.v] := by rw [Nat.zero_add]; exact ba
     refine RG.storeO (t' := 33) (i := at_) (k := 0) (v := .agg #[vI r.t, vI r.v]) (cs := [vI af.t, vI af.v]) r J aA ba (by kernel_rfl) (by kernel_rfl) (by kernel_rfl) rfl fun e0 cL bF cM => ?_
     replace ⟨E, C⟩ := (s1 bF).g2 E C
     clear bF cM
     refine .d <| .s <| .g <| .r 2 <| .d ?_
     have dQ := cL.sl bW
     exact .rt Tryz.func49 Tryz.results49 (vS V (0 + b.length) co) ⟨(dQ.vl (by first | exact insHit (by assumption) (by assumption) (by assumption) | exact insNew (by assumption) (by assumption) (by assumption) (by assumption) | exact insTop (by assumption) (by omega)) (fun _ _ h => h.1)), C⟩
   refine .r 1 <| .d <| .cf <| .sk <| .s <| .g <| .ns 0 33 [] fun ag dR aq bG cN cO => ?_
   have cP := nb_new aq E.lt
   have cQ := nb_new aq J.lt
   have cR := gb_new aq C.size
   have ep := C.cn aq
   replace ⟨E, J, C⟩ := (sn [V, O] bG aq).g3 E J C
   clear bG cO aq
   have Z : Own (α := Row) dR ag 33 (nin (ge w.heap.size) [ag, V, O]) 0 0 [] := Own.nil' cN
   refine .r 2 <| .ln E <| .ns 1 33 [vI r.t, vI r.v] fun aG cg aQ bH cS cT => ?_
   have cU := nb_new aQ J.lt
   have cV := nb_new aQ Z.lt
   replace ⟨E, J, Z, C⟩ := (sn [ag, V, O] bH aQ).g4 E J Z C
   clear bH cT aQ
   have aR : Own (α := Row) cg aG 33 (nin (ge w.heap.size) [aG, ag, V, O]) 1 1 [r] := Own.lit cS rfl (by decide) ⟨rfl, rfl⟩
   refine .cl (c_slices_Insert (i := at_) (y := r) J (Own.box1 aR) cU (by omega) (by omega)) ?_
   rintro e7 ci ⟨⟨bI, e8, rfl, ar, aS⟩, bb⟩
   have bJ := nb_or' aS (Nb.symm cQ) Z.lt
   have bK : Mv [aG, ag, V, O] [aG, ag, bI, O] cg ci := Mv.appO [aG, ag] [O] bb aS
   replace ⟨E, Z, aR, C⟩ := (sp bK bb).g4 E Z aR C
   clear bK bb
   replace ar : Own ci bI 33 (nin (ge w.heap.size) [aG, ag, bI, O]) _ _ _ := ar.flat flat_row
   clear aS
   have es := ar.len; have et := ar.max
   refine RG.appendF (T := 41) (ty := 41) flat_row Z (ar.repF flat_row) (by kernel_rfl) (by kernel_rfl) (fun b h e => bJ (h.symm.trans e)) (by omega) fun dS dT e9 aB ah bL => ?_
   have ew := nb_or ah cP E.lt
   have ex := nb_or ah (Nb.symm bJ) ar.lt
   have ey := nb_or ah (Nb.symm cV) aR.lt
   have cW := gb_or ah cR C.size
   replace ⟨E, C⟩ := (s1 bL).g2 E C
   clear bL
   replace aB := aB.rn ag
   clear ah
   have ez := aB.len; have eA := aB.max
   refine .r 1 <| .d ?_
   have dU := aB.sl cW
   exact .rt Tryz.func49 Tryz.results49 (vS dS (0 + (0 + b.length + 1)) dT) ⟨(dU.vl (by first | exact insHit (by assumption) (by assumption) (by assumption) | exact insNew (by assumption) (by assumption) (by assumption) (by assumption) | exact insTop (by assumption) (by omega)) (fun _ _ h => h.1)), C⟩
 refine .r [4, 5, 6, 7, 8, 9, 10, 11] <| .d fun fa bM => ?_
 replace ⟨E, J, C⟩ := (se [V, O] bM).g3 E J C
 clear bM
 refine .r 2 <| .d <| .cf <| .sk <| .s <| .g <| .ns 0 33 [] fun ai dV au bN cX cY => ?_
 have cZ := nb_new au E.lt
 have c7 := nb_new au J.lt
 have c8 := gb_new au C.size
 have eB := C.cn au
 replace ⟨E, J, C⟩ := (sn [V, O] bN au).g3 E J C
 clear bN cY au
 have aa : Own (α := Row) dV ai 33 (nin (ge w.heap.size) [ai, V, O]) 0 0 [] := Own.nil' cX
 refine .r 2 <| .ln E <| .ns 1 33 [vI r.t, vI r.v] fun aH cj aT bO c9 da => ?_
 have db := nb_new aT J.lt
 have dd := nb_new aT aa.lt
 replace ⟨E, J, aa, C⟩ := (sn [ai, V, O] bO aT).g4 E J aa C
 clear bO da aT
 have aU : Own (α := Row) cj aH 33 (nin (ge w.heap.size) [aH, ai, V, O]) 1 1 [r] := Own.lit c9 rfl (by decide) ⟨rfl, rfl⟩
 refine .cl (c_slices_Insert (i := at_) (y := r) J (Own.box1 aU) db (by omega) (by omega)) ?_
 rintro fb ck ⟨⟨bP, fc, rfl, av, aV⟩, bc⟩
 have bQ := nb_or' aV (Nb.symm c7) aa.lt
 have bR : Mv [aH, ai, V, O] [aH, ai, bP, O] cj ck := Mv.appO [aH, ai] [O] bc aV
 replace ⟨E, aa, aU, C⟩ := (sp bR bc).g4 E aa aU C
 clear bR bc
 replace av : Own ck bP 33 (nin (ge w.heap.size) [aH, ai, bP, O]) _ _ _ := av.flat flat_row
 clear aV
 have eC := av.len; have eD := av.max
 refine RG.appendF (T := 41) (ty := 41) flat_row aa (av.repF flat_row) (by kernel_rfl) (by kernel_rfl) (fun b h e => bQ (h.symm.trans e)) (by omega) fun dW dX fd aC aj bS => ?_
 have eE := nb_or aj cZ E.lt
 have eF := nb_or aj (Nb.symm bQ) av.lt
 have eG := nb_or aj (Nb.symm dd) aU.lt
 have de := gb_or aj c8 C.size
 replace C := (s1 bS).g1 C
 clear bS
 replace aC := aC.rn ai
 clear aj
 have eH := aC.len; have eI := aC.max
 refine .r 1 <| .d ?_
 have dY := aC.sl de
 exact .rt Tryz.func49 Tryz.results49 (vS dW (0 + (0 + b.length + 1)) dX) ⟨(dY.vl (by first | exact insHit (by assumption) (by assumption) (by assumption) | exact insNew (by assumption) (by assumption) (by assumption) (by assumption) | exact insTop (by assumption) (by omega)) (fun _ _ h => h.1)), C⟩
theorem c_impl_PartOf (p : Prt) (id : Int) {w : World} {F : Nat → Prop} {a1 : Option Addr} {n1 c1 : Nat} (h1 : RepS w F a1 n1 c1 p.ids) {a2 : Option Addr} {n2 c2 : Nat} (h2 : RepS w F a2 n2 c2 p.blocks) (p0 : PrtSz p) : Calls Tryz.prog 48 [.agg #[.slice a1 n1 c1, .slice a2 n2 c2], .int .i64 id].toArray w (rets fun rv w' => VL (ge w.heap.size) w' (partI p id : List Row) rv ∧ Ext w w') := by
 refine goT Tryz.func48 ?_
 obtain ⟨rfl, aY, h1⟩ := h1.tp
 obtain ⟨rfl, aZ, h2⟩ := h2.tp
 refine .s <| .g <| .np 68 [.slice a1 p.ids.length c1, .slice a2 p.blocks.length c2] fun J aQ ag ab E au => ?_
 replace ⟨h1, h2⟩ := (sn [] ab ag).g2 h1 h2
 have C := ab
 clear ab au ag
 refine .r 1 <| .d <| .s <| .g <| .r 1 <| .lb E <| .r 1 <| .cl (c_slices_Index_int_int p.ids id h1.ta (w := aQ) (F := all)) ?_
 rintro bm aR ⟨rfl, ah⟩
 replace ⟨h1, h2, E, C⟩ := (se [J] ah).g4 h1 h2 E C
 clear ah
 refine .r 1 <| .d <| .s <| .s <| .g <| .ln E <| .cl (c_impl_PartOk p h1.ta h2.ta (w := aR) (F := all)) ?_
 rintro bn bo ⟨rfl, ai⟩
 replace ⟨h2, E, C⟩ := (se [J] ai).g3 h2 E C
 clear ai
 cases ba : (partOk p)
 · refine .r 5 <| .d <| .ct <| .s <| .g <| .ns 0 33 [] fun ac av Z aj aw ax => ?_
   have bb := nb_new Z E.lt
   have ay := gb_new Z C.size
   replace ⟨h2, E, C⟩ := (sn [J] aj Z).g3 h2 E C
   clear aj ax Z
   have az : Own (α := Row) av ac 33 (nin (ge w.heap.size) [ac, J]) 0 0 [] := Own.nil' aw
   refine .r 1 <| .d ?_
   have aS := az.sl ay
   replace h2 := (sd av [ac, J] ac).g1 h2
   exact .rt Tryz.func48 Tryz.results48 (vS ac 0 0) ⟨(aS.vl (by first | rw [partI_1 (by assumption)] | rw [partI_2 (by assumption) (by assumption)] | (rw [partI_3 (by assumption) (by assumption) (by assumption)]; rfl)) (fun _ _ h => h.1)), C⟩
 refine .r 3 <| .bp (idxF id 0 p.ids < 0) (fun aA => ?_) (fun aA => ?_)
 · refine .r 1 <| .d <| .ct <| .s <| .g <| .ns 0 33 [] fun ae aB aa ak aC aD => ?_
   have bc := nb_new aa E.lt
   have aE := gb_new aa C.size
   replace ⟨h2, E, C⟩ := (sn [J] ak aa).g3 h2 E C
   clear ak aD aa
   have aF : Own (α := Row) aB ae 33 (nin (ge w.heap.size) [ae, J]) 0 0 [] := Own.nil' aC
   refine .r 1 <| .d ?_
   have aT := aF.sl aE
   replace h2 := (sd aB [ae, J] ae).g1 h2
   exact .rt Tryz.func48 Tryz.results48 (vS ae 0 0) ⟨(aT.vl (by first | rw [partI_1 (by assumption)] | rw [partI_2 (by assumption) (by assumption)] | (rw [partI_3 (by assumption) (by assumption) (by assumption)]; rfl)) (fun _ _ h => h.1)), C⟩
 refine .r 1 <| .d <| .cf <| .sk <| .s <| .g <| .ns 0 33 [] fun aq aU O al aG aH => ?_
 have aI := nb_new O E.lt
 have aJ := gb_new O C.size
 have bd := C.cn O
 replace ⟨h2, E, C⟩ := (sn [J] al O).g3 h2 E C
 clear al aH O
 have aK : Own (α := Row) aU aq 33 (nin (ge w.heap.size) [aq, J]) 0 0 [] := Own.nil' aG
 refine .r 1 <| .lb E <| .r 1 ?_
 have am : (idxF id 0 p.ids).toNat < p.blocks.length := (by first | omega | exact partI_i (by assumption) (by assumption))
 refine RG.idx ((idxF id 0 p.ids).toNat) (len := p.blocks.length) (i := idxF id 0 p.ids) (sz := 1) (by kernel_rfl) (by first | omega | exact partI_i (by assumption) (by assumption)) am (h2.addr (Nat.zero_lt_of_lt am)) ?_
 obtain ⟨aL, af⟩ : ∃ y, p.blocks[(idxF id 0 p.ids).toNat]? = some y := ⟨_, List.getElem?_eq_getElem (by first | omega | exact partI_i (by assumption) (by assumption))⟩
 have bg := drop_at af; have aP := List.mem_of_getElem? af
 obtain ⟨_, ⟨bq, br, bt, rfl, ar⟩, aM⟩ := h2.elem ((idxF id 0 p.ids).toNat) aL af
 have aN := ar.len
 subst aN
 have bh := ar.max
 refine .lh 0 aM <| RG.appendF (T := 41) (ty := 41) flat_row aK ar (by kernel_rfl) (by kernel_rfl) (fun b h e => h.2 (e ▸ (.head _))) (by first | omega | (have q1 := p0.2.2 _ (by assumption); omega)) fun aV aW bu V W ao => ?_
 have bi := nb_or W aI E.lt
 have aO := gb_or W aJ C.size
 replace C := (s1 ao).g1 C
 clear ao
 replace V := V.rn aq
 clear W
 have bj := V.len; have bk := V.max
 refine .r 1 <| .d ?_
 have aX := V.sl aO
 exact .rt Tryz.func48 Tryz.results48 (vS aV (0 + aL.length) aW) ⟨(aX.vl (by first | rw [partI_1 (by assumption)] | rw [partI_2 (by assumption) (by assumption)] | (rw [partI_3 (by assumption) (by assumption) (by assumption)]; rfl)) (fun _ _ h => h.1)), C⟩
theorem c_impl_clonePart (p : Prt) {w : World} {F : Nat → Prop} {a1 : Option Addr} {n1 c1 : Nat} (h1 : RepS w F a1 n1 c1 p.ids) {a2 : Option Addr} {n2 c2 : Nat} (h2 : RepS w F a2 n2 c2 p.blocks) (p0 : PrtSz p) : Calls Tryz.prog 83 [.agg #[.slice a1 n1 c1, .slice a2 n2 c2]].toArray w (rets fun rv w' => VS (ge w.heap.size) w' (p : Prt) rv ∧ Ext w w') := by
 refine goT Tryz.func83 ?_
 obtain ⟨rfl, du, h1⟩ := h1.tp
 obtain ⟨rfl, dv, h2⟩ := h2.tp
 refine .s <| .g <| .np 68 [.slice a1 p.ids.length c1, .slice a2 p.blocks.length c2] fun aa dT bj aO J cd => ?_
 replace ⟨h1, h2⟩ := (sn [] aO bj).g2 h1 h2
 have C := aO
 clear aO cd bj
 refine .np 68 [.slice none 0 0, .slice none 0 0] fun ab dU aP bk E ce => ?_
 have dw := C.cn aP
 replace ⟨h1, h2, J, C⟩ := (sn [aa] bk aP).g4 h1 h2 J C
 clear bk ce aP
 refine .d <| .s <| .g <| .ns 0 3 [] fun bi cR az bm cg ci => ?_
 have cj := nb_new az J.lt
 have ck := nb_new az E.lt
 have cm := gb_new az C.size
 have co := C.cn az
 replace ⟨h1, h2, J, E, C⟩ := (sn [ab, aa] bm az).g5 h1 h2 J E C
 clear bm ci az
 have cp : Own (α := Int) cR bi 3 (nin (ge w.heap.size) [bi, ab, aa]) 0 0 [] := Own.nil' cg
 refine .r 1 <| .lb J <| RG.appendF (T := 49) (ty := 49) flat_int cp h1 (by kernel_rfl) (by kernel_rfl) (fun b h e => h.2 (e ▸ (.head _))) (by have q1 := p0.1; have q2 := p0.2.1; first | omega | (have q3 := p0.2.2 _ (by assumption); omega)) fun aw cq dV ah ar bn => ?_
 have cr := nb_or ar cj J.lt
 have cu := nb_or ar ck E.lt
 have cv := gb_or ar cm C.size
 have dA := cov_or ar co C.size
 replace ⟨h2, J, E, C⟩ := (sa [bi, ab, aa] bn ar).g4 h2 J E C
 clear bn
 replace ah := ah.rn bi
 clear ar
 have dB := ah.len; have dC := ah.max
 refine .ns 0 41 [] fun au cS ax bo cw cx => ?_
 have cy := nb_new ax J.lt
 have cz := nb_new ax E.lt
 have cA := nb_new ax ah.lt
 have cB := gb_new ax C.size
 have cC := C.cn ax
 replace ⟨h2, J, E, ah, C⟩ := (sn [aw, ab, aa] bo ax).g5 h2 J E ah C
 clear bo cx ax
 have aA : Own (α := List Row) cS au 41 (nin (ge w.heap.size) [au, aw, ab, aa]) 0 0 [] := Own.nil' cw
 refine .r 1 <| .np 68 [.slice none 0 0, .slice none 0 0] fun ac dW ay bq cD cE => ?_
 have dD := nb_new ay J.lt
 have dE := nb_new ay E.lt
 have cF := nb_new ay ah.lt
 have cG := nb_new ay aA.lt
 have dF := C.cn ay
 replace ⟨h2, J, E, ah, aA, C⟩ := (sn [au, aw, ab, aa] bq ay).g6 h2 J E ah aA C
 clear bq cE ay
 refine .sc [vS aw (0 + p.ids.length) cq, vS au 0 0] cD fun aL br aQ cH => ?_
 replace ⟨h2, J, E, ah, aA, C⟩ := (so [ac, au, aw, ab, aa] br).g6 h2 J E ah aA C
 clear br cH
 refine .d <| .s <| .s <| .g <| .r 1 <| .lb J <| .r 2 <| .d <| .b 0 <| T.loop (X := Nat × (List Int) × Nat × Nat × Nat × (List (List Row)) × Nat × Nat × Nat) (0, (([] ++ p.ids) : List Int), aw, 0 + p.ids.length, cq, ([] : List (List Row)), au, 0, 0) (fun (k, al, r_out_0, n_out_0, c_out_0, aj, r_out_1, n_out_1, c_out_1) => [(2, .pointer (some ⟨ab, 0, none⟩)), (3, .pointer (some ⟨ac, 0, none⟩)), (13, .slice a2 p.blocks.length c2), (14, vI (p.blocks.length : Int)), (15, vI (k : Int))]) (fun (k, al, r_out_0, n_out_0, c_out_0, aj, r_out_1, n_out_1, c_out_1) av => Chg (ins [aw, au, ac]) aL av ∧ Own av r_out_0 3 (nin (ge w.heap.size) [ac, r_out_1, r_out_0, ab, aa]) n_out_0 c_out_0 al ∧ OrB r_out_0 aw aL.heap.size ∧ Own av r_out_1 41 (nin (ge w.heap.size) [ac, r_out_1, r_out_0, ab, aa]) n_out_1 c_out_1 aj ∧ OrB r_out_1 au aL.heap.size ∧ Nb r_out_1 r_out_0 ∧ Box av ac 68 [vS r_out_0 n_out_0 c_out_0, vS r_out_1 n_out_1 c_out_1] ∧ (k ≤ p.blocks.length) ∧ (al = p.ids) ∧ (aj.length ≤ k) ∧ (aj ++ p.blocks.drop k = p.blocks)) (fun (k, al, r_out_0, n_out_0, c_out_0, aj, r_out_1, n_out_1, c_out_1) => p.blocks.length - k) (by kernel_rfl) ⟨by kernel_rfl, by kernel_rfl, by kernel_rfl, by kernel_rfl, by kernel_rfl, trivial⟩ ⟨Chg.refl _ _, ah, orb_refl, aA, orb_refl, cA, aQ, (by first | omega | rfl | simp), (by first | omega | rfl | simp), (by first | omega | rfl | simp), (by first | omega | rfl | simp)⟩ ?_
 rintro ⟨k, al, r_out_0, n_out_0, c_out_0, aj, r_out_1, n_out_1, c_out_1⟩ dG av ⟨Z, V, aB, W, ak, bw, O, dH, dI, dJ, dK⟩ aM
 have cT := nb_or' aB cr J.lt
 have cU := nb_or' aB cu E.lt
 have bz := nb_or' aB (Nb.symm cF) aQ.lt
 have bA := gb_or' aB cv C.size
 have cV := nb_or' ak cy J.lt
 have cW := nb_or' ak cz E.lt
 have aR := nb_or' ak (Nb.symm cG) aQ.lt
 have bB := gb_or' ak cB C.size
 have cX := cov_or' ak cC C.size
 have bC : Cov (ins [aw, au, ac]) aL au := ⟨.inl (.tail _ (.head _))⟩
 have cY : Cov (ins [aw, au, ac]) aL ac := ⟨.inl (.tail _ (.tail _ (.head _)))⟩
 have cZ := cov_or' ak bC (Nat.le_refl _)
 have aS : Mv [ac, au, aw, ab, aa] [ac, r_out_1, r_out_0, ab, aa] aL av := Mv.inl Z (all_cons (.tail _ (.tail _ (.head _))) (all_cons (.tail _ (.head _)) (all_cons (.head _) all_nil))) (all_cons (.inl (.head _)) (all_cons (orb_mem ak (.tail _ (.head _))) (all_cons (orb_mem aB (.tail _ (.tail _ (.head _)))) (all_cons (.inl (.tail _ (.tail _ (.tail _ (.head _))))) (all_cons (.inl (.tail _ (.tail _ (.tail _ (.tail _ (.head _)))))) all_nil)))))
 replace ⟨h2, J, E, C⟩ := (sp aS Z).g4 h2 J E C
 clear aS
 have c7 := V.len; have c8 := V.max
 have c9 := W.len; have da := W.max
 refine .s <| .g <| .bp ((k : Int) < (p.blocks.length : Int)) (fun bD => ?_) (fun bD => ?_)
 · refine .d <| .s <| .ct <| .sk <| .s <| .b 1 <| .s <| .g ?_
   have bE : k < p.blocks.length := (by omega)
   refine .ix k 1 h2 bE ?_
   obtain ⟨aE, aF⟩ : ∃ y, p.blocks[k]? = some y := ⟨_, List.getElem?_eq_getElem (by omega)⟩
   have db := drop_at aF; have cI := List.mem_of_getElem? aF
   obtain ⟨_, ⟨cJ, dL, cK, rfl, ai⟩, bF⟩ := h2.elem k aE aF
   have bG := ai.len
   subst bG
   have dd := ai.max
   refine .lh 0 bF <| .r 1 <| .d ?_
   replace ai := ai.into
   have bH : Gb (ac + 1) av.heap.size := O.lt
   refine .gd (mtb [r_out_0, r_out_1] av.heap.size) 6 fun cL aG => ?_
   replace ⟨J, E, V, W, O, ai, C, Z⟩ := (se [ac, r_out_1, r_out_0, ab, aa] aG).g8 J E V W O ai C Z
   have aH : Chg (mtb [r_out_0, r_out_1] av.heap.size) av cL := Chg.stepN (Chg.refl (mtb [r_out_0, r_out_1] av.heap.size) av) aG
   clear aG
   refine .r [0] <| .lb 1 O (nS_of (all_cons (Nb.symm bz) (all_cons (Nb.symm aR) all_nil)) bH) <| .r [3] <| .go 2 <| .ns 0 33 [] fun dM aT => ?_
   replace ⟨J, E, V, W, O, ai, C, Z, aH⟩ := (se [ac, r_out_1, r_out_0, ab, aa] aT).g9 J E V W O ai C Z aH
   clear aT
   intro aC cM ae aU bI bJ
   have bK := nb_new ae J.lt
   have bL := nb_new ae E.lt
   have bM := nb_new ae V.lt
   have bN := nb_new ae W.lt
   have bO := nb_new ae O.lt
   have bP := gb_new ae C.size
   have de := C.cn ae
   have df := Z.cn ae
   have bQ := aH.cn ae
   replace ⟨J, E, V, W, O, ai, C, Z⟩ := (sn [ac, r_out_1, r_out_0, ab, aa] aU ae).g8 J E V W O ai C Z
   clear aU bJ ae
   have aI : Own (α := Row) cM aC 33 (nin (ge w.heap.size) [aC, ac, r_out_1, r_out_0, ab, aa]) 0 0 [] := Own.nil' bI
   refine .go 4 <| GE.append (T := 41) (ty := 41) (args := [vS aC 0 0, .slice cJ aE.length cK]) (by kernel_rfl) fun dN aV => ?_
   replace ⟨J, E, V, W, O, ai, aI, C, Z⟩ := (se [aC, ac, r_out_1, r_out_0, ab, aa] aV).g9 J E V W O ai aI C Z
   clear aV
   obtain ⟨aD, cN, dO, aW, af, ag, aJ, bR⟩ := Own.appendF (P := Tryz.prog) (T := 41) (ty := 41) flat_row aI (by kernel_rfl) ai (fun b h e => h.2 (e ▸ (.head _))) (by have q1 := p0.1; have q2 := p0.2.1; first | omega | (have q3 := p0.2.2 _ (by assumption); omega))
   refine ⟨_, _, aW, Chg.toS aJ (Cov.toS bQ), ?_⟩
   clear bR
   have dg := nb_or ag bK J.lt
   have dh := nb_or ag bL E.lt
   have di := nb_or ag bM V.lt
   have dj := nb_or ag bN W.lt
   have dk := nb_or ag bO O.lt
   have bS := gb_or ag bP C.size
   replace ⟨J, E, V, W, O, C, Z⟩ := (sa [aC, ac, r_out_1, r_out_0, ab, aa] aJ ag).g7 J E V W O C Z
   clear aJ
   replace af := af.rn aC
   clear ag
   have dm := af.len; have dp := af.max
   refine .go 5 <| .ns 1 41 [vS aD (0 + aE.length) cN] fun dP aX => ?_
   replace ⟨J, E, V, W, O, af, C, Z⟩ := (se [aD, ac, r_out_1, r_out_0, ab, aa] aX).g8 J E V W O af C Z
   clear aX
   intro bt dQ am aY aK bT
   have bU := nb_new am J.lt
   have bV := nb_new am E.lt
   have bW := nb_new am V.lt
   have aZ := nb_new am W.lt
   have bX := nb_new am O.lt
   have bY := gb_new am C.size
   replace ⟨E, V, W, O, af, C, Z⟩ := (se [aD, ac, r_out_1, r_out_0, ab, aa] aY).g7 E V W O af C Z
   clear aY bT am
   refine .d fun cO ba => ?_
   replace ⟨E, V, W, O, af, aK, C, Z⟩ := (se [aD, ac, r_out_1, r_out_0, ab, aa] ba).g8 E V W O af aK C Z
   clear ba
   have cP := af.sl bS
   replace ⟨V, W⟩ := (sd cO [aD, ac, r_out_1, r_out_0, ab, aa] aD).g2 V W
   have aN : nin (ge w.heap.size) [ac, r_out_1, r_out_0, ab, aa] bt ∧ bt ≠ r_out_1 := hap_mk bY (all_cons bX (all_cons aZ (all_cons bW (all_cons bV (all_cons bU all_nil))))) aZ
   refine RG.append1 (T := 66) (ty := 66) (y := ([] ++ aE)) W aK (by kernel_rfl) (by kernel_rfl) ⟨_, _, _, rfl, cP.oi⟩ aN (by have q1 := p0.1; have q2 := p0.2.1; first | omega | (have q3 := p0.2.2 _ (by assumption); omega)) fun bb bu dR ao aq bc => ?_
   have bZ := nb_or aq bw V.lt
   have dq := nb_or aq aR O.lt
   have b0 := orb_or aq ak Z.size
   replace ⟨E, V, O, C, Z⟩ := (sa [ac, r_out_1, r_out_0, ab, aa] bc aq).g5 E V O C Z
   clear bc
   replace ao := ao.rn r_out_1
   clear aq
   have dr := ao.len; have dt := ao.max
   refine .r 1 <| .ss 1 (vS bb (n_out_1 + 1) bu) O fun dS bd b6 b7 => ?_
   replace ⟨E, V, ao, C, Z⟩ := (so [ac, bb, r_out_0, ab, aa] bd).g5 E V ao C Z
   clear bd b7
   exact .d <| .ib 1 <| .g <| .it ((k : Int) + 1) <| .r 1 <| .d <| aM (k + 1, al, r_out_0, n_out_0, c_out_0, (aj ++ [([] ++ aE)]), bb, n_out_1 + 1, bu) _ _ ⟨by kernel_rfl, by kernel_rfl, by kernel_rfl, by kernel_rfl, by kernel_rfl, trivial⟩ ⟨Z, V, aB, ao, b0, bZ, b6, (by omega), (by assumption), (by simp; omega), (by exact appStep (by assumption) (by assumption))⟩ (by first | omega | (simp only []; omega))
 refine .d <| .s <| .cf <| .x 0 rfl <| .s <| .g <| .ln O <| .sc [vS r_out_0 n_out_0 c_out_0, vS r_out_1 n_out_1 c_out_1] E fun bv bg b8 b9 => ?_
 replace ⟨V, W, C⟩ := (so [ac, r_out_1, r_out_0, ab, aa] bg).g3 V W C
 clear bg b9
 refine .d ?_
 have bh := V.sl bA
 replace W := (sd bv [ac, r_out_1, r_out_0, ab, aa] r_out_0).g1 W
 have cQ := W.sl bB
 replace bh := (sd bv [ac, r_out_1, ab, aa] r_out_1).g1 bh
 exact .rb Tryz.func83 Tryz.results83 b8 ⟨(VS.of (y := (⟨al, aj⟩ : Prt)) ⟨_, rfl, ⟨_, _, _, _, _, _, rfl, bh.w1, cQ.w1⟩⟩ (by exact copyI (by assumption) (appEnd (by assumption) (by omega)))), C⟩
theorem c_impl_cloneParts (list : List Prt) {w : World} {F : Nat → Prop} {a1 : Option Addr} {n1 c1 : Nat} (h1 : RepS w F a1 n1 c1 list) (p0 : list.length ≤ 1000) (p1 : ∀ p ∈ list, PrtSz p) : Calls Tryz.prog 47 [.slice a1 n1 c1].toArray w (rets fun rv w' => VO 68 w.heap.size w' (list : List Prt) rv ∧ Ext w w') := by
 refine goT Tryz.func47 ?_
 obtain ⟨rfl, bw, h1⟩ := h1.tp
 refine .s <| .g <| .r 1 <| .d <| .s <| .g <| .ns 0 68 [] fun V al af am aJ aK => ?_
 have aL := gb_new af (Nat.le_refl _)
 have aM : Cov nil w V := cov_new af (Nat.le_refl _)
 replace h1 := (sn [] am af).g1 h1
 have C := am
 clear am aK af
 have aN : Own (α := Prt) al V 68 (nin (ge w.heap.size) [V]) 0 0 [] := Own.nil' aJ
 refine .r 1 <| .d <| .s <| .s <| .g <| .r 3 <| .d <| .b 0 <| T.loop (X := (List Prt) × Nat × Nat × Nat × Nat) (([] : List Prt), V, 0, 0, 0) (fun (out, r_out, n_out, c_out, k) => [(3, vS r_out n_out c_out), (7, .slice a1 list.length c1), (8, vI (list.length : Int)), (9, vI (k : Int))]) (fun (out, r_out, n_out, c_out, k) ax => Chg (ins [V]) al ax ∧ Own ax r_out 68 (nin (ge w.heap.size) [r_out]) n_out c_out out ∧ OrB r_out V al.heap.size ∧ (k ≤ list.length) ∧ (out.length ≤ k) ∧ (out ++ list.drop k = list)) (fun (out, r_out, n_out, c_out, k) => list.length - k) (by kernel_rfl) ⟨by kernel_rfl, by kernel_rfl, by kernel_rfl, by kernel_rfl, trivial⟩ ⟨Chg.refl _ _, aN, orb_refl, (by first | omega | rfl | simp), (by first | omega | rfl | simp), (by first | omega | rfl | simp)⟩ ?_
 rintro ⟨out, r_out, n_out, c_out, k⟩ bM ax ⟨E, J, W, bz, bA, bB⟩ ao
 have aO := gb_or' W aL C.size
 have bC := cov_or' W aM C.size
 have aP : Cov (ins [V]) al V := ⟨.inl (.head _)⟩
 have bD := cov_or' W aP (Nat.le_refl _)
 have ay : Mv [V] [r_out] al ax := Mv.inl E (all_cons (.head _) all_nil) (all_cons (orb_mem W (.head _)) all_nil)
 replace ⟨h1, C⟩ := (sp ay E).g2 h1 C
 clear ay
 have bE := J.len; have bF := J.max
 refine .s <| .g <| .bp ((k : Int) < (list.length : Int)) (fun aQ => ?_) (fun aQ => .d <| .s <| .cf <| .x 0 rfl <| .s <| .g <| .r 2 <| .d <| .rt Tryz.func47 Tryz.results47 (vS r_out n_out c_out) ⟨(VO.of J (by exact appEnd (by assumption) (by omega)) aO), C⟩)
 refine .d <| .s <| .ct <| .sk <| .s <| .b 1 <| .s <| .g ?_
 have aR : k < list.length := (by omega)
 refine .ix k 2 h1 aR ?_
 obtain ⟨Z, aq⟩ : ∃ y, list[k]? = some y := ⟨_, List.getElem?_eq_getElem (by omega)⟩
 have bG := drop_at aq; have bi := List.mem_of_getElem? aq
 obtain ⟨_, ⟨bj, bN, bk, bm, bO, bn, rfl, ac, ae⟩, aS⟩ := h1.elem k Z aq
 have aT := ac.len
 subst aT
 have bH := ac.max
 have aU := ae.len
 subst aU
 have bI := ae.max
 refine .lg 0 aS <| .np 68 [.slice none 0 0, .slice none 0 0] fun ar bP aa az aV aW => ?_
 have bJ := nb_new aa J.lt
 have bK := C.cn aa
 have bL := E.cn aa
 replace ⟨J, ac, ae, C, E⟩ := (sn [r_out] az aa).g5 J ac ae C E
 clear az aW aa
 refine .sc [.slice bj Z.ids.length bk, .slice bm Z.blocks.length bn] aV fun aX aA ab aY => ?_
 replace ⟨J, ac, ae, C, E⟩ := (so [ar, r_out] aA).g5 J ac ae C E
 clear aA aY
 refine .d <| .g <| .r 1 <| .ln ab <| .cl (c_impl_clonePart Z ac.ta ae.ta (p1 _ (by assumption)) (w := aX) (F := all)) ?_
 rintro bQ bR ⟨⟨_, rfl, ⟨bo, bS, bq, br, bT, bt, rfl, ai, aj⟩⟩, aB⟩
 have au := al2 ab.lt J.lt
 have aC : Gb w.heap.size aX.heap.size := C.size
 replace ⟨J, ab, C, E⟩ := (se [ar, r_out] aB).g4 J ab C E
 clear aB
 have ai := ai.fr au aC
 have aj := aj.fr au aC
 clear au
 have aZ := ai.len
 subst aZ
 have ba := aj.len
 subst ba
 refine .ns 1 68 [.slice bo Z.ids.length bq, .slice br Z.blocks.length bt] fun bb bU ag aD bc bd => ?_
 have aE := nb_new ag J.lt
 have bg := nb_new ag ab.lt
 have aG := gb_new ag C.size
 replace ⟨J, ai, aj, C, E⟩ := (se [ar, r_out] aD).g5 J ai aj C E
 clear aD bd ag
 have ak : nin (ge w.heap.size) [ar, r_out] bb ∧ bb ≠ r_out := hap_mk aG (all_cons bg (all_cons aE all_nil)) aE
 refine RG.append1 (T := 27) (ty := 27) (y := Z) J bc (by kernel_rfl) (by kernel_rfl) ⟨_, _, _, _, _, _, rfl, ai.oi, aj.oi⟩ ak (by omega) fun av bh aF O ah aw => ?_
 have aH := orb_or ah W E.size
 replace ⟨C, E⟩ := (s1 aw).g2 C E
 clear aw
 replace O := O.rn r_out
 clear ah
 have bu := O.len; have bv := O.max
 refine .r 1 <| .d <| .ib 1 <| .g <| .it ((k : Int) + 1) <| .r 1 <| .d ?_
 have aI : Mv [ar, av] [av] aF aF := Mv.less (all_cons (.tail _ (.head _)) all_nil)
 replace O := (sp aI (Chg.refl nil _)).g1 O
 exact ao ((out ++ [Z]), av, n_out + 1, bh, k + 1) _ _ ⟨by kernel_rfl, by kernel_rfl, by kernel_rfl, by kernel_rfl, trivial⟩ ⟨E, O, aH, (by omega), (by simp; omega), (by exact app1Step (by assumption) (by assumption))⟩ (by first | omega | (simp only []; omega))
theorem c_impl_Store_rows (s : Sto) (id : Int) {w : World} {F : Nat → Prop} {a1 : Option Addr} {n1 c1 : Nat} (h1 : RepS w F a1 n1 c1 s.idx.names) {a2 : Option Addr} {n2 c2 : Nat} (h2 : RepS w F a2 n2 c2 s.idx.posts) {a3 : Option Addr} {n3 c3 : Nat} (h3 : RepS w F a3 n3 c3 s.parts) {a4 : Option Addr} {n4 c4 : Nat} (h4 : RepS w F a4 n4 c4 s.mem) (p0 : ∀ p ∈ s.parts, PrtI p ∧ partOk p = true) (p1 : ∀ m ∈ s.mem, rowOk m.row = true) (p2 : s.parts.length ≤ 1000) (p3 : s.mem.length ≤ 1000) : Calls Tryz.prog 23 [.agg #[.slice a1 n1 c1, .slice a2 n2 c2, .slice a3 n3 c3, .slice a4 n4 c4], .int .i64 id].toArray w (rets fun rv w' => VL (ge w.heap.size) w' (rowsOf s id : List Row) rv ∧ Ext w w') := by
 refine goT Tryz.func23 ?_
 obtain ⟨rfl, cN, h1⟩ := h1.tp
 obtain ⟨rfl, cO, h2⟩ := h2.tp
 obtain ⟨rfl, cP, h3⟩ := h3.tp
 obtain ⟨rfl, cQ, h4⟩ := h4.tp
 refine .s <| .g <| .np 30 [.slice a1 s.idx.names.length c1, .slice a2 s.idx.posts.length c2, .slice a3 s.parts.length c3, .slice a4 s.mem.length c4] fun O dj aZ aI E bJ => ?_
 replace ⟨h3, h4⟩ := (sn [] aI aZ).g2 h3 h4
 have C := aI
 clear aI bJ aZ
 refine .r 1 <| .d <| .s <| .g <| .ns 0 33 [] fun aJ aY aB ba bK bL => ?_
 have cR := nb_new aB E.lt
 have bM := gb_new aB C.size
 replace ⟨h3, h4, E, C⟩ := (sn [O] ba aB).g4 h3 h4 E C
 clear ba bL aB
 have bN : Own (α := Row) aY aJ 33 (nin (ge w.heap.size) [aJ, O]) 0 0 [] := Own.nil' bK
 refine .r 1 <| .d <| .s <| .s <| .g <| .r 1 <| .lb E <| .r 2 <| .d <| .b 0 ?_
 have ce := bN.sl bM
 replace ⟨h3, h4⟩ := (sd aY [aJ, O] aJ).g2 h3 h4
 refine T.loop (X := (List Row) × (Option Addr) × Nat × Nat × Nat) (([] : List Row), some ⟨aJ, 0, none⟩, 0, 0, 0) (fun (out, a_out, n_out, c_out, k) => [(1, vI id), (2, .pointer (some ⟨O, 0, none⟩)), (5, .slice a_out n_out c_out), (14, .slice a3 s.parts.length c3), (15, vI (s.parts.length : Int)), (16, vI (k : Int))]) (fun (out, a_out, n_out, c_out, k) aF => Chg (ins []) aY aF ∧ RepS aF (nin (ge w.heap.size) [O]) a_out n_out c_out out ∧ (k ≤ s.parts.length) ∧ (Blk out) ∧ ((s.parts.drop k).foldl (rowsP id) out = s.parts.foldl (rowsP id) [])) (fun (out, a_out, n_out, c_out, k) => s.parts.length - k) (by kernel_rfl) ⟨by kernel_rfl, by kernel_rfl, by kernel_rfl, by kernel_rfl, by kernel_rfl, by kernel_rfl, trivial⟩ ⟨Chg.refl _ _, ce, (by first | omega | rfl | exact Blk.nil), (by first | omega | rfl | exact Blk.nil), (by first | omega | rfl | exact Blk.nil)⟩ ?_
 rintro ⟨out, a_out, n_out, c_out, k⟩ dk aF ⟨W, J, cS, cT, cU⟩ aK
 have bb : Mv [O] [O] aY aF := Mv.inl W all_nil (all_cons (.inl (.head _)) all_nil)
 replace ⟨h3, h4, E, C⟩ := (sp bb W).g4 h3 h4 E C
 clear bb
 have cV := J.len; have cW := J.max
 refine .s <| .g <| .bp ((k : Int) < (s.parts.length : Int)) (fun bO => ?_) (fun bO => ?_)
 · refine .d <| .s <| .ct <| .sk <| .s <| .b 1 <| .s <| .g ?_
   have bP : k < s.parts.length := (by omega)
   refine .ix k 2 h3 bP ?_
   obtain ⟨af, aL⟩ : ∃ y, s.parts[k]? = some y := ⟨_, List.getElem?_eq_getElem (by omega)⟩
   have cX := drop_at aL; have cd := List.mem_of_getElem? aL
   obtain ⟨_, ⟨cg, dm, ci, cj, dp, ck, rfl, au, av⟩, bQ⟩ := h3.elem k af aL
   have bR := au.len
   subst bR
   have cY := au.max
   have bS := av.len
   subst bS
   have cZ := av.max
   refine .lg 0 bQ <| .np 68 [.slice none 0 0, .slice none 0 0] fun ai dq aq bc bT bU => ?_
   have c7 := nb_new aq E.lt
   have c8 := C.cn aq
   have c9 := W.cn aq
   replace ⟨h4, E, J, au, av, C, W⟩ := (sn [O] bc aq).g7 h4 E J au av C W
   clear bc bU aq
   refine .sc [.slice cg af.ids.length ci, .slice cj af.blocks.length ck] bT fun bV bd ae bW => ?_
   replace ⟨h4, E, J, au, av, C, W⟩ := (so [ai, O] bd).g7 h4 E J au av C W
   clear bd bW
   refine .d <| .s <| .g <| .ln ae <| .r 1 <| .cl (c_impl_PartOf af id au.ta av.ta (p0 _ (by assumption)).1.sz (w := bV) (F := all)) ?_
   rintro dr bX ⟨⟨cm, co, rfl, aw⟩, bg⟩
   have bh := al2 ae.lt E.lt
   have bY : Gb w.heap.size bV.heap.size := C.size
   replace ⟨h4, E, J, ae, C, W⟩ := (se [ai, O] bg).g6 h4 E J ae C W
   clear bg
   have aw := aw.fr bh bY
   have da := aw.max
   clear bh
   refine .r 2 <| .d <| .b 2 <| T.loop (X := (List Row) × (Option Addr) × Nat × Nat × Nat) ((out : List Row), a_out, n_out, c_out, 0) (fun (ac, a_out1, n_out1, c_out1, k1) => [(1, vI id), (2, .pointer (some ⟨O, 0, none⟩)), (5, .slice a_out1 n_out1 c_out1), (14, .slice a3 s.parts.length c3), (15, vI (s.parts.length : Int)), (16, vI (k : Int)), (22, .slice cm ((partI af id).length) co), (23, vI (((partI af id).length) : Int)), (24, vI (k1 : Int))]) (fun (ac, a_out1, n_out1, c_out1, k1) aG => Chg (ins []) bX aG ∧ RepS aG (nin (ge w.heap.size) [ai, O]) a_out1 n_out1 c_out1 ac ∧ (k1 ≤ (partI af id).length) ∧ (Blk ac) ∧ (((partI af id).drop k1).foldl sPut ac = rowsP id out af)) (fun (ac, a_out1, n_out1, c_out1, k1) => (partI af id).length - k1) (by kernel_rfl) ⟨by kernel_rfl, by kernel_rfl, by kernel_rfl, by kernel_rfl, by kernel_rfl, by kernel_rfl, by kernel_rfl, by kernel_rfl, by kernel_rfl, trivial⟩ ⟨Chg.refl _ _, J, (by omega), (by assumption), (by unfold partI rowsP; rw [if_pos (p0 _ (by assumption)).2]; rfl)⟩ ?_
   rintro ⟨ac, a_out1, n_out1, c_out1, k1⟩ db aG ⟨ab, Z, cp, cq, cr⟩ aH
   have aM : Mv [ai, O] [ai, O] bX aG := Mv.inl ab all_nil (all_cons (.inl (.head _)) (all_cons (.inl (.tail _ (.head _))) all_nil))
   replace ⟨h4, E, J, ae, aw, C, W⟩ := (sp aM ab).g7 h4 E J ae aw C W
   clear aM
   have cu := Z.len; have cv := Z.max
   refine .s <| .g <| .bp ((k1 : Int) < (((partI af id).length) : Int)) (fun bm => ?_) (fun bm => ?_)
   · refine .d <| .s <| .ct <| .sk <| .s <| .b 3 <| .s <| .g ?_
     have bn : k1 < (partI af id).length := (by omega)
     refine .ix k1 2 aw bn ?_
     obtain ⟨ak, ay⟩ : ∃ y, (partI af id)[k1]? = some y := ⟨_, List.getElem?_eq_getElem (by omega)⟩
     have cw := drop_at ay; have bZ := List.mem_of_getElem? ay
     obtain ⟨_, rfl, bo⟩ := aw.elem k1 ak ay
     refine .lg 0 bo <| .np 33 [vI 0, vI 0] fun aN dd ag aO bq br => ?_
     have cx := nb_new ag E.lt
     have cy := nb_new ag ae.lt
     have cz := C.cn ag
     have cA := W.cn ag
     have cB := ab.cn ag
     replace ⟨h4, E, J, ae, Z, C, W, ab⟩ := (sn [ai, O] aO ag).g8 h4 E J ae Z C W ab
     clear aO br ag
     refine .sc [vI ak.t, vI ak.v] bq fun bi aP aQ bt => ?_
     replace ⟨h4, E, J, ae, Z, C, W, ab⟩ := (so [aN, ai, O] aP).g8 h4 E J ae Z C W ab
     clear aP bt
     refine .d <| .g <| .r 1 <| .ln aQ <| .cl (c_impl_put ac ak Z.ta (by first | (have q1 := Blk.len (by assumption : Blk ac); omega) | (have q1 := Blk.len (by assumption : Blk out); omega)) (w := bi) (F := all)) ?_
     rintro de bj ⟨⟨b0, b6, rfl, al⟩, aR⟩
     have aS := al3 aQ.lt ae.lt E.lt
     have bu : Gb w.heap.size bi.heap.size := C.size
     replace ⟨h4, E, J, Z, C, W, ab⟩ := (se [aN, ai, O] aR).g7 h4 E J Z C W ab
     clear aR
     have al := al.fr aS bu
     have cC := al.max
     clear aS
     refine .r 1 <| .d <| .ib 3 <| .g <| .it ((k1 : Int) + 1) <| .r 1 <| .d ?_
     have bv : Mv [aN, ai, O] [ai, O] bj bj := Mv.less (all_cons (.tail _ (.head _)) (all_cons (.tail _ (.tail _ (.head _))) all_nil))
     replace ⟨h4, J, Z, al⟩ := (sp bv (Chg.refl nil _)).g4 h4 J Z al
     exact aH (insR ak ac, b0, (insR ak ac).length, b6, k1 + 1) _ _ ⟨by kernel_rfl, by kernel_rfl, by kernel_rfl, by kernel_rfl, by kernel_rfl, by kernel_rfl, by kernel_rfl, by kernel_rfl, by kernel_rfl, trivial⟩ ⟨ab, al, (by omega), (by exact Blk.ins (by assumption) (((p0 af (by assumption)).1.ofI id).rows _ (by assumption))), (by rw [← sPut_ins (by assumption)]; exact foldStep (by assumption) (by assumption))⟩ (by first | omega | (simp only []; omega))
   refine .d <| .s <| .cf <| .x 2 rfl <| .ib 1 <| .g <| .it ((k : Int) + 1) <| .r 1 <| .d ?_
   have bw : Mv [ai, O] [O] aG aG := Mv.less (all_cons (.tail _ (.head _)) all_nil)
   replace ⟨h4, J, Z⟩ := (sp bw (Chg.refl nil _)).g3 h4 J Z
   exact aK (ac, a_out1, n_out1, c_out1, k + 1) _ _ ⟨by kernel_rfl, by kernel_rfl, by kernel_rfl, by kernel_rfl, by kernel_rfl, by kernel_rfl, trivial⟩ ⟨W, Z, (by omega), (by assumption), (by have q1 := foldEnd (by assumption : ((partI af id).drop k1).foldl sPut ac = _) (by omega); have q2 := foldStep (by assumption : (s.parts.drop k).foldl (rowsP id) out = _) (by assumption); rw [← q1] at q2; exact q2)⟩ (by first | omega | (simp only []; omega))
 refine .d <| .s <| .cf <| .x 0 rfl <| .s <| .s <| .g <| .r 1 <| .lb E <| .r 2 <| .d <| .b 4 <| T.loop (X := (List Row) × (Option Addr) × Nat × Nat × Nat) ((out : List Row), a_out, n_out, c_out, 0) (fun (out, a_out, n_out, c_out, k) => [(1, vI id), (5, .slice a_out n_out c_out), (34, .slice a4 s.mem.length c4), (35, vI (s.mem.length : Int)), (36, vI (k : Int))]) (fun (out, a_out, n_out, c_out, k) aC => Chg (ins []) aF aC ∧ RepS aC (nin (ge w.heap.size) [O]) a_out n_out c_out out ∧ (k ≤ s.mem.length) ∧ (Blk out) ∧ ((s.mem.drop k).foldl (rowsM id) out = rowsOf s id)) (fun (out, a_out, n_out, c_out, k) => s.mem.length - k) (by kernel_rfl) ⟨by kernel_rfl, by kernel_rfl, by kernel_rfl, by kernel_rfl, by kernel_rfl, trivial⟩ ⟨Chg.refl _ _, J, (by omega), (by assumption), (by have q1 : out = s.parts.foldl (rowsP id) [] := foldEnd (by assumption : (s.parts.drop k).foldl (rowsP id) out = _) (by omega); rw [q1]; rfl)⟩ ?_
 rintro ⟨out, a_out, n_out, c_out, k⟩ dg aC ⟨aa, V, cD, cE, cF⟩ am
 have aT : Mv [O] [O] aF aC := Mv.inl aa all_nil (all_cons (.inl (.head _)) all_nil)
 replace ⟨h4, E, C⟩ := (sp aT aa).g3 h4 E C
 clear aT
 have cG := V.len; have cH := V.max
 refine .s <| .g <| .bp ((k : Int) < (s.mem.length : Int)) (fun bz => ?_) (fun bz => .d <| .s <| .cf <| .x 4 rfl <| .s <| .g <| .r 2 <| .d <| .rt Tryz.func23 Tryz.results23 (.slice a_out n_out c_out) ⟨(V.vl (by exact foldEnd (by assumption) (by omega)) (fun _ _ h => h.1)), C⟩)
 refine .d <| .s <| .ct <| .sk <| .s <| .b 5 <| .s <| .g ?_
 have bA : k < s.mem.length := (by omega)
 refine .ix k 3 h4 bA ?_
 obtain ⟨ah, az⟩ : ∃ y, s.mem[k]? = some y := ⟨_, List.getElem?_eq_getElem (by omega)⟩
 have cI := drop_at az; have b7 := List.mem_of_getElem? az
 obtain ⟨_, rfl, bB⟩ := h4.elem k ah az
 refine .lg 0 bB <| .np 62 [vI 0, vI 0, vI 0] fun aD dh aj aU bC bD => ?_
 have cJ := nb_new aj E.lt
 have cK := C.cn aj
 have cL := aa.cn aj
 replace ⟨E, V, C, aa⟩ := (sn [O] aU aj).g4 E V C aa
 clear aU bD aj
 refine .sc [vI ah.id, vI ah.row.t, vI ah.row.v] bC fun aE aV aA bE => ?_
 replace ⟨E, V, C, aa⟩ := (so [aD, O] aV).g4 E V C aa
 clear aV bE
 refine .d <| .s <| .g <| .r 1 <| .lb aA <| .r 1 <| .eq ah.id id (fun bF => ?_) (fun bF => ?_)
 · refine .d <| .ct <| .g <| .r 2 <| .ln aA <| .cl (c_impl_put out ah.row V.ta (by first | (have q1 := Blk.len (by assumption : Blk ac); omega) | (have q1 := Blk.len (by assumption : Blk out); omega)) (w := aE) (F := all)) ?_
   rintro di bk ⟨⟨b8, b9, rfl, ao⟩, aW⟩
   have aX := al2 aA.lt E.lt
   have bG : Gb w.heap.size aE.heap.size := C.size
   replace ⟨V, C, aa⟩ := (se [aD, O] aW).g3 V C aa
   clear aW
   have ao := ao.fr aX bG
   have cM := ao.max
   clear aX
   refine .r 1 <| .d <| .ib 5 <| .g <| .it ((k : Int) + 1) <| .r 1 <| .d ?_
   have bH : Mv [aD, O] [O] bk bk := Mv.less (all_cons (.tail _ (.head _)) all_nil)
   replace ⟨V, ao⟩ := (sp bH (Chg.refl nil _)).g2 V ao
   exact am (insR ah.row out, b8, (insR ah.row out).length, b9, k + 1) _ _ ⟨by kernel_rfl, by kernel_rfl, by kernel_rfl, by kernel_rfl, by kernel_rfl, trivial⟩ ⟨aa, ao, (by omega), (by first | assumption | exact Blk.ins (by assumption) (p1 _ (by assumption))), (by have q1 := foldStep (by assumption : (s.mem.drop k).foldl (rowsM id) out = _) (by assumption); first | (rw [rowsM_hit (by assumption) (by assumption)] at q1; exact q1) | (rw [rowsM_no (by assumption)] at q1; exact q1))⟩ (by first | omega | (simp only []; omega))
 refine .d <| .cf <| .sk <| .ib 5 <| .g <| .it ((k : Int) + 1) <| .r 1 <| .d ?_
 have bI : Mv [aD, O] [O] aE aE := Mv.less (all_cons (.tail _ (.head _)) all_nil)
 replace V := (sp bI (Chg.refl nil _)).g1 V
 exact am (out, a_out, n_out, c_out, k + 1) _ _ ⟨by kernel_rfl, by kernel_rfl, by kernel_rfl, by kernel_rfl, by kernel_rfl, trivial⟩ ⟨aa, V, (by omega), (by first | assumption | exact Blk.ins (by assumption) (p1 _ (by assumption))), (by have q1 := foldStep (by assumption : (s.mem.drop k).foldl (rowsM id) out = _) (by assumption); first | (rw [rowsM_hit (by assumption) (by assumption)] at q1; exact q1) | (rw [rowsM_no (by assumption)] at q1; exact q1))⟩ (by first | omega | (simp only []; omega))
end Go.Proofs.YtndljnhfkdhggaaGreat