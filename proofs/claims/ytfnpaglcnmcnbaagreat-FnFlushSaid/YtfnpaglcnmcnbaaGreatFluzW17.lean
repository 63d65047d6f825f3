/- walks; squeezed -/
import Derived.Test.YtfnpaglcnmcnbaaGreatFluzMod17
set_option linter.unusedVariables false
set_option linter.unusedSimpArgs false
namespace Go.Proofs.YtfnpaglcnmcnbaaGreat
set_option maxRecDepth 100000
set_option maxHeartbeats 4000000
theorem c_impl_put (b : List Row) (r : Row) {w : World} {F : Nat → Prop} {a1 : Option Addr} {n1 c1 : Nat} (h1 : RepS w F a1 n1 c1 b) (p0 : b.length ≤ 100000) : Calls Tryz.prog 75 [.slice a1 n1 c1, .agg #[.int .i64 r.t, .int .i64 r.v]].toArray w (rets fun rv w' => VL (ge w.heap.size) w' (insR r b : List Row) rv ∧ Ext w w') := by
 refine goT Tryz.func75 ?_
 obtain ⟨rfl, eK, h1⟩ := h1.tp
 refine .s <| .g <| .np 33 [vI r.t, vI r.v] fun O ff bU bh E dg => ?_
 replace h1 := (sn [] bh bU).g1 h1
 have C := bh
 clear bh dg bU
 refine .r 1 <| .d <| .s <| .g <| .ns 0 33 [] fun co d3 aW bV dh di => ?_
 have dj := nb_new aW E.lt
 have dk := gb_new aW C.size
 have dm := C.cn aW
 replace ⟨h1, E, C⟩ := (sn [O] bV aW).g3 h1 E C
 clear bV di aW
 have dp : Own (α := Row) d3 co 33 (nin (ge w.heap.size) [co, O]) 0 0 [] := Own.nil' dh
 refine .r 1 <| RG.appendF (T := 42) (ty := 42) flat_row dp h1 (by kernel_rfl) (by kernel_rfl) (fun b h e => h.2 (e ▸ (.head _))) (by omega) fun V cp dq J aI bW => ?_
 have eL := nb_or aI dj E.lt
 have bX := gb_or aI dk C.size
 have eM := cov_or aI dm C.size
 replace ⟨E, C⟩ := (s1 bW).g2 E C
 clear bW
 replace J := J.rn co
 clear aI
 have eN := J.len; have eO := J.max
 refine .r 1 <| .d <| .s <| .g <| .r 1 <| .d <| .s <| .b 0 <| T.loop (X := Nat) 0 (fun at_ => [(3, .pointer (some ⟨O, 0, none⟩)), (5, vS V (0 + b.length) cp), (6, vI (at_ : Int))]) (fun at_ cq => Chg (ins []) dq cq ∧ (at_ ≤ b.length) ∧ (b.take at_ ++ insR r (b.drop at_) = insR r b)) (fun at_ => b.length - at_) (by kernel_rfl) ⟨by kernel_rfl, by kernel_rfl, by kernel_rfl, trivial⟩ ⟨Chg.refl _ _, (by omega), (by simp)⟩ ?_
 rintro at_ fg cq ⟨aw, eP, eQ⟩ bi
 have bY : Mv [V, O] [V, O] dq cq := Mv.inl aw all_nil (all_cons (.inl (.head _)) (all_cons (.inl (.tail _ (.head _))) all_nil))
 replace ⟨E, J, C⟩ := (sp bY aw).g3 E J C
 clear bY
 refine .s <| .s <| .gd nil 12 fun d4 bZ => ?_
 replace ⟨E, J, C, aw⟩ := (se [V, O] bZ).g4 E J C aw
 clear bZ
 refine .r [0, 1, 2] <| GA.boolP (i := 3) ((at_ : Int) < ((0 + b.length) : Int)) (by kernel_rfl) (fun dr => ?_) (fun dr => ?_)
 · refine .r [4, 5, 6] ?_
   have dt : at_ < 0 + b.length := (by first | omega | (simp; omega))
   refine GA.idx (i := 7) (b := V) (o := 0) at_ (len := 0 + b.length) (z := (at_ : Int)) (sz := 2) (by kernel_rfl) (by first | omega | (simp; omega)) dt rfl <| .r [8] ?_
   obtain ⟨ak, aD⟩ : ∃ y, ([] ++ b)[at_]? = some y := ⟨_, List.getElem?_eq_getElem (by first | omega | (simp; omega))⟩
   have eR := drop_at aD; have d0 := List.mem_of_getElem? aD
   obtain ⟨_, rfl, bj⟩ := J.elem at_ ak aD
   replace bj : Has d4 ⟨V, 0 + at_ * Rep.sz Row, none⟩ [vI ak.t, vI ak.v] := by rw [Nat.zero_add]; exact bj
   refine .lh 9 0 bj id <| .r [10] <| .lb 11 E id <| .d fun fh b0 => ?_
   replace ⟨E, J, C, aw⟩ := (se [V, O] b0).g4 E J C aw
   clear b0
   refine .bp (ak.t < r.t) (fun du => .r 1 <| .d <| .ct <| .sk <| .b 1 <| .g <| .r 1 <| .it ((at_ : Int) + 1) <| .r 1 <| .d <| .ib 1 <| bi (at_ + 1) _ _ ⟨by kernel_rfl, by kernel_rfl, by kernel_rfl, trivial⟩ ⟨aw, (by omega), (by exact insStep (by assumption) (by assumption) (by assumption))⟩ (by first | omega | (simp only []; omega))) fun du => .r 1 <| .d <| .cf <| .x 0 rfl <| .s <| .s <| .gd nil 12 fun d5 b6 => ?_
   replace ⟨E, J, C⟩ := (se [V, O] b6).g3 E J C
   clear b6
   refine .r [0, 1, 2] <| GA.boolP (i := 3) ((at_ : Int) < ((0 + b.length) : Int)) (by kernel_rfl) (fun dv => ?_) (fun dv => ?_)
   · refine .r [4, 5, 6] ?_
     have dw : at_ < 0 + b.length := (by first | omega | (simp; omega))
     refine GA.idx (i := 7) (b := V) (o := 0) at_ (len := 0 + b.length) (z := (at_ : Int)) (sz := 2) (by kernel_rfl) (by first | omega | (simp; omega)) dw rfl <| .r [8] ?_
     obtain ⟨_, rfl, bk⟩ := J.elem at_ ak aD
     replace bk : Has d5 ⟨V, 0 + at_ * Rep.sz Row, none⟩ [vI ak.t, vI ak.v] := by rw [Nat.zero_add]; exact bk
     refine .lh 9 0 bk id <| .r [10] <| .lb 11 E id <| .d fun d6 b7 => ?_
     replace ⟨E, J, C⟩ := (se [V, O] b7).g3 E J C
     clear b7
     refine .eq ak.t r.t (fun dx => ?_) (fun dx => ?_)
     · refine .r 1 <| .d <| .ct <| .s <| .g <| .r 2 <| .ln E ?_
       have dy : at_ < 0 + b.length := (by first | omega | (simp; omega))
       refine RG.idx (b := V) (o := 0) at_ (len := 0 + b.length) (i := (at_ : Int)) (sz := 2) (by kernel_rfl) (by first | omega | (simp; omega)) dy rfl ?_
       obtain ⟨_, rfl, bm⟩ := J.elem at_ ak aD
       replace bm : Has d6 ⟨V, 0 + at_ * Rep.sz Row, none⟩ [vI ak.t, vI ak.v] := by rw [Nat.zero_add]; exact bm
       refine RG.storeO (t' := 33) (i := at_) (k := 0) (v := .agg #[vI r.t, vI r.v]) (cs := [vI ak.t, vI ak.v]) r J aD bm (by kernel_rfl) (by kernel_rfl) (by kernel_rfl) rfl fun fi dz b8 dA => ?_
       replace ⟨E, C⟩ := (s1 b8).g2 E C
       clear b8 dA
       refine .d <| .s <| .g <| .r 2 <| .d ?_
       have d7 := dz.sl bX
       exact .rt Tryz.func75 Tryz.results75 (vS V (0 + b.length) cp) ⟨(d7.vl (by first | exact insHit (by assumption) (by assumption) (by assumption) | exact insNew (by assumption) (by assumption) (by assumption) (by assumption) | exact insTop (by assumption) (by omega)) (fun _ _ h => h.1)), C⟩
     refine .r 1 <| .d <| .cf <| .sk <| .s <| .g <| .ns 0 33 [] fun aJ d8 aE b9 dB dC => ?_
     have dD := nb_new aE E.lt
     have dE := nb_new aE J.lt
     have dF := gb_new aE C.size
     have eS := C.cn aE
     replace ⟨E, J, C⟩ := (sn [V, O] b9 aE).g3 E J C
     clear b9 dC aE
     have ax : Own (α := Row) d8 aJ 33 (nin (ge w.heap.size) [aJ, V, O]) 0 0 [] := Own.nil' dB
     refine .r 2 <| .ln E <| .ns 1 33 [vI r.t, vI r.v] fun bg dG aK bn cr cu => ?_
     have cv := nb_new aK J.lt
     have cw := nb_new aK ax.lt
     replace ⟨E, J, ax, C⟩ := (sn [aJ, V, O] bn aK).g4 E J ax C
     clear bn cu aK
     have aL : Own (α := Row) dG bg 33 (nin (ge w.heap.size) [bg, aJ, V, O]) 1 1 [r] := Own.lit cr rfl (by decide) ⟨rfl, rfl⟩
     refine .cl (c_slices_Insert (i := at_) (y := r) J (Own.box1 aL) cv (by omega) (by omega)) ?_
     rintro eT cd ⟨⟨bo, eU, rfl, al, aM⟩, aX⟩
     have bq := nb_or' aM (Nb.symm dE) ax.lt
     have br : Mv [bg, aJ, V, O] [bg, aJ, bo, O] dG cd := Mv.appO [bg, aJ] [O] aX aM
     replace ⟨E, ax, aL, C⟩ := (sp br aX).g4 E ax aL C
     clear br aX
     replace al : Own cd bo 33 (nin (ge w.heap.size) [bg, aJ, bo, O]) _ _ _ := al.flat flat_row
     clear aM
     have d9 := al.len; have ea := al.max
     refine RG.appendF (T := 42) (ty := 42) flat_row ax (al.repF flat_row) (by kernel_rfl) (by kernel_rfl) (fun b h e => bq (h.symm.trans e)) (by omega) fun dH dI eV ay ab bt => ?_
     have eb := nb_or ab dD E.lt
     have ec := nb_or ab (Nb.symm bq) al.lt
     have ed := nb_or ab (Nb.symm cw) aL.lt
     have cx := gb_or ab dF C.size
     replace ⟨E, C⟩ := (s1 bt).g2 E C
     clear bt
     replace ay := ay.rn aJ
     clear ab
     have ee := ay.len; have ef := ay.max
     refine .r 1 <| .d ?_
     have dJ := ay.sl cx
     exact .rt Tryz.func75 Tryz.results75 (vS dH (0 + (0 + b.length + 1)) dI) ⟨(dJ.vl (by first | exact insHit (by assumption) (by assumption) (by assumption) | exact insNew (by assumption) (by assumption) (by assumption) (by assumption) | exact insTop (by assumption) (by omega)) (fun _ _ h => h.1)), C⟩
   refine .r [4, 5, 6, 7, 8, 9, 10, 11] <| .d fun eW bu => ?_
   replace ⟨E, J, C⟩ := (se [V, O] bu).g3 E J C
   clear bu
   refine .r 2 <| .d <| .cf <| .sk <| .s <| .g <| .ns 0 33 [] fun ac dK am bv cy cz => ?_
   have cA := nb_new am E.lt
   have cB := nb_new am J.lt
   have cC := gb_new am C.size
   have eg := C.cn am
   replace ⟨E, J, C⟩ := (sn [V, O] bv am).g3 E J C
   clear bv cz am
   have W : Own (α := Row) dK ac 33 (nin (ge w.heap.size) [ac, V, O]) 0 0 [] := Own.nil' cy
   refine .r 2 <| .ln E <| .ns 1 33 [vI r.t, vI r.v] fun aF ce aN bw cD cE => ?_
   have cF := nb_new aN J.lt
   have cG := nb_new aN W.lt
   replace ⟨E, J, W, C⟩ := (sn [ac, V, O] bw aN).g4 E J W C
   clear bw cE aN
   have aO : Own (α := Row) ce aF 33 (nin (ge w.heap.size) [aF, ac, V, O]) 1 1 [r] := Own.lit cD rfl (by decide) ⟨rfl, rfl⟩
   refine .cl (c_slices_Insert (i := at_) (y := r) J (Own.box1 aO) cF (by omega) (by omega)) ?_
   rintro eX cg ⟨⟨bz, eY, rfl, ao, aP⟩, aY⟩
   have bA := nb_or' aP (Nb.symm cB) W.lt
   have bB : Mv [aF, ac, V, O] [aF, ac, bz, O] ce cg := Mv.appO [aF, ac] [O] aY aP
   replace ⟨E, W, aO, C⟩ := (sp bB aY).g4 E W aO C
   clear bB aY
   replace ao : Own cg bz 33 (nin (ge w.heap.size) [aF, ac, bz, O]) _ _ _ := ao.flat flat_row
   clear aP
   have eh := ao.len; have ei := ao.max
   refine RG.appendF (T := 42) (ty := 42) flat_row W (ao.repF flat_row) (by kernel_rfl) (by kernel_rfl) (fun b h e => bA (h.symm.trans e)) (by omega) fun dL dM eZ az ae bC => ?_
   have ej := nb_or ae cA E.lt
   have ek := nb_or ae (Nb.symm bA) ao.lt
   have em := nb_or ae (Nb.symm cG) aO.lt
   have cH := gb_or ae cC C.size
   replace ⟨E, C⟩ := (s1 bC).g2 E C
   clear bC
   replace az := az.rn ac
   clear ae
   have en := az.len; have eo := az.max
   refine .r 1 <| .d ?_
   have dN := az.sl cH
   exact .rt Tryz.func75 Tryz.results75 (vS dL (0 + (0 + b.length + 1)) dM) ⟨(dN.vl (by first | exact insHit (by assumption) (by assumption) (by assumption) | exact insNew (by assumption) (by assumption) (by assumption) (by assumption) | exact insTop (by assumption) (by omega)) (fun _ _ h => h.1)), C⟩
 refine .r [4, 5, 6, 7, 8, 9, 10, 11] <| .d fun e0 bD => ?_
 replace ⟨E, J, C⟩ := (se [V, O] bD).g3 E J C
 clear bD
 refine .r 2 <| .d <| .cf <| .x 0 rfl <| .s <| .s <| .gd nil 12 fun dO bE => ?_
 replace ⟨E, J, C⟩ := (se [V, O] bE).g3 E J C
 clear bE
 refine .r [0, 1, 2] <| GA.boolP (i := 3) ((at_ : Int) < ((0 + b.length) : Int)) (by kernel_rfl) (fun cI => ?_) (fun cI => ?_)
 · refine .r [4, 5, 6] ?_
   have cJ : at_ < 0 + b.length := (by first | omega | (simp; omega))
   refine GA.idx (i := 7) (b := V) (o := 0) at_ (len := 0 + b.length) (z := (at_ : Int)) (sz := 2) (by kernel_rfl) (by first | omega | (simp; omega)) cJ rfl <| .r [8] ?_
   obtain ⟨af, aA⟩ : ∃ y, ([] ++ b)[at_]? = some y := ⟨_, List.getElem?_eq_getElem (by first | omega | (simp; omega))⟩
   have ep := drop_at aA; have dP := List.mem_of_getElem? aA
   obtain ⟨_, rfl, aZ⟩ := J.elem at_ af aA
   replace aZ : Has dO ⟨V, 0 + at_ * Rep.sz Row, none⟩ [vI af.t, vI af.v] := by rw [Nat.zero_add]; exact aZ
   refine .lh 9 0 aZ id <| .r [10] <| .lb 11 E id <| .d fun dQ bF => ?_
   replace ⟨E, J, C⟩ := (se [V, O] bF).g3 E J C
   clear bF
   refine .eq af.t r.t (fun cK => ?_) (fun cK => ?_)
   · refine .r 1 <| .d <| .ct <| .s <| .g <| .r 2 <| .ln E ?_
     have cL : at_ < 0 + b.length := (by first | omega | (simp; omega))
     refine RG.idx (b := V) (o := 0) at_ (len := 0 + b.length) (i := (at_ : Int)) (sz := 2) (by kernel_rfl) (by first | omega | (simp; omega)) cL rfl ?_
     obtain ⟨_, rfl, ba⟩ := J.elem at_ af aA
     replace ba : Has dQ ⟨V, 0 + at_ * Rep.sz Row, none⟩ [vI af.t, vI af.v] := by rw [Nat.zero_add]; exact ba
     refine RG.storeO (t' := 33) (i := at_) (k := 0) (v := .agg #[vI r.t, vI r.v]) (cs := [vI af.t, vI af.v]) r J aA ba (by kernel_rfl) (by kernel_rfl) (by kernel_rfl) rfl fun e7 cM bG cN => ?_
     replace ⟨E, C⟩ := (s1 bG).g2 E C
     clear bG cN
     refine .d <| .s <| .g <| .r 2 <| .d ?_
     have dR := cM.sl bX
     exact .rt Tryz.func75 Tryz.results75 (vS V (0 + b.length) cp) ⟨(dR.vl (by first | exact insHit (by assumption) (by assumption) (by assumption) | exact insNew (by assumption) (by assumption) (by assumption) (by assumption) | exact insTop (by assumption) (by omega)) (fun _ _ h => h.1)), C⟩
   refine .r 1 <| .d <| .cf <| .sk <| .s <| .g <| .ns 0 33 [] fun ag dS aq bH cO cP => ?_
   have cQ := nb_new aq E.lt
   have cR := nb_new aq J.lt
   have cS := gb_new aq C.size
   have es := C.cn aq
   replace ⟨E, J, C⟩ := (sn [V, O] bH aq).g3 E J C
   clear bH cP aq
   have Z : Own (α := Row) dS ag 33 (nin (ge w.heap.size) [ag, V, O]) 0 0 [] := Own.nil' cO
   refine .r 2 <| .ln E <| .ns 1 33 [vI r.t, vI r.v] fun aG ci aQ bI cT cU => ?_
   have cV := nb_new aQ J.lt
   have cW := nb_new aQ Z.lt
   replace ⟨E, J, Z, C⟩ := (sn [ag, V, O] bI aQ).g4 E J Z C
   clear bI cU aQ
   have aR : Own (α := Row) ci aG 33 (nin (ge w.heap.size) [aG, ag, V, O]) 1 1 [r] := Own.lit cT rfl (by decide) ⟨rfl, rfl⟩
   refine .cl (c_slices_Insert (i := at_) (y := r) J (Own.box1 aR) cV (by omega) (by omega)) ?_
   rintro e8 cj ⟨⟨bJ, e9, rfl, ar, aS⟩, bc⟩
   have bK := nb_or' aS (Nb.symm cR) Z.lt
   have bL : Mv [aG, ag, V, O] [aG, ag, bJ, O] ci cj := Mv.appO [aG, ag] [O] bc aS
   replace ⟨E, Z, aR, C⟩ := (sp bL bc).g4 E Z aR C
   clear bL bc
   replace ar : Own cj bJ 33 (nin (ge w.heap.size) [aG, ag, bJ, O]) _ _ _ := ar.flat flat_row
   clear aS
   have et := ar.len; have ew := ar.max
   refine RG.appendF (T := 42) (ty := 42) flat_row Z (ar.repF flat_row) (by kernel_rfl) (by kernel_rfl) (fun b h e => bK (h.symm.trans e)) (by omega) fun dT dU fa aB ah bM => ?_
   have ex := nb_or ah cQ E.lt
   have ey := nb_or ah (Nb.symm bK) ar.lt
   have ez := nb_or ah (Nb.symm cW) aR.lt
   have cX := gb_or ah cS C.size
   replace ⟨E, C⟩ := (s1 bM).g2 E C
   clear bM
   replace aB := aB.rn ag
   clear ah
   have eA := aB.len; have eB := aB.max
   refine .r 1 <| .d ?_
   have dV := aB.sl cX
   exact .rt Tryz.func75 Tryz.results75 (vS dT (0 + (0 + b.length + 1)) dU) ⟨(dV.vl (by first | exact insHit (by assumption) (by assumption) (by assumption) | exact insNew (by assumption) (by assumption) (by assumption) (by assumption) | exact insTop (by assumption) (by omega)) (fun _ _ h => h.1)), C⟩
 refine .r [4, 5, 6, 7, 8, 9, 10, 11] <| .d fun fb bN => ?_
 replace ⟨E, J, C⟩ := (se [V, O] bN).g3 E J C
 clear bN
 refine .r 2 <| .d <| .cf <| .sk <| .s <| .g <| .ns 0 33 [] fun ai dW au bO cY cZ => ?_
 have c7 := nb_new au E.lt
 have c8 := nb_new au J.lt
 have c9 := gb_new au C.size
 have eC := C.cn au
 replace ⟨E, J, C⟩ := (sn [V, O] bO au).g3 E J C
 clear bO cZ au
 have aa : Own (α := Row) dW ai 33 (nin (ge w.heap.size) [ai, V, O]) 0 0 [] := Own.nil' cY
 refine .r 2 <| .ln E <| .ns 1 33 [vI r.t, vI r.v] fun aH ck aT bP da db => ?_
 have dd := nb_new aT J.lt
 have de := nb_new aT aa.lt
 replace ⟨E, J, aa, C⟩ := (sn [ai, V, O] bP aT).g4 E J aa C
 clear bP db aT
 have aU : Own (α := Row) ck aH 33 (nin (ge w.heap.size) [aH, ai, V, O]) 1 1 [r] := Own.lit da rfl (by decide) ⟨rfl, rfl⟩
 refine .cl (c_slices_Insert (i := at_) (y := r) J (Own.box1 aU) dd (by omega) (by omega)) ?_
 rintro fc cm ⟨⟨bQ, fd, rfl, av, aV⟩, bd⟩
 have bR := nb_or' aV (Nb.symm c8) aa.lt
 have bS : Mv [aH, ai, V, O] [aH, ai, bQ, O] ck cm := Mv.appO [aH, ai] [O] bd aV
 replace ⟨E, aa, aU, C⟩ := (sp bS bd).g4 E aa aU C
 clear bS bd
 replace av : Own cm bQ 33 (nin (ge w.heap.size) [aH, ai, bQ, O]) _ _ _ := av.flat flat_row
 clear aV
 have eD := av.len; have eE := av.max
 refine RG.appendF (T := 42) (ty := 42) flat_row aa (av.repF flat_row) (by kernel_rfl) (by kernel_rfl) (fun b h e => bR (h.symm.trans e)) (by omega) fun dX dY fe aC aj bT => ?_
 have eF := nb_or aj c7 E.lt
 have eG := nb_or aj (Nb.symm bR) av.lt
 have eH := nb_or aj (Nb.symm de) aU.lt
 have df := gb_or aj c9 C.size
 replace C := (s1 bT).g1 C
 clear bT
 replace aC := aC.rn ai
 clear aj
 have eI := aC.len; have eJ := aC.max
 refine .r 1 <| .d ?_
 have dZ := aC.sl df
 exact .rt Tryz.func75 Tryz.results75 (vS dX (0 + (0 + b.length + 1)) dY) ⟨(dZ.vl (by first | exact insHit (by assumption) (by assumption) (by assumption) | exact insNew (by assumption) (by assumption) (by assumption) (by assumption) | exact insTop (by assumption) (by omega)) (fun _ _ h => h.1)), C⟩
theorem c_impl_PartOf (p : Prt) (id : Int) {w : World} {F : Nat → Prop} {a1 : Option Addr} {n1 c1 : Nat} (h1 : RepS w F a1 n1 c1 p.ids) {a2 : Option Addr} {n2 c2 : Nat} (h2 : RepS w F a2 n2 c2 p.blocks) (p0 : PrtSz p) : Calls Tryz.prog 90 [.agg #[.slice a1 n1 c1, .slice a2 n2 c2], .int .i64 id].toArray w (rets fun rv w' => VL (ge w.heap.size) w' (partI p id : List Row) rv ∧ Ext w w') := by
 refine goT Tryz.func90 ?_
 obtain ⟨rfl, aY, h1⟩ := h1.tp
 obtain ⟨rfl, aZ, h2⟩ := h2.tp
 refine .s <| .g <| .np 75 [.slice a1 p.ids.length c1, .slice a2 p.blocks.length c2] fun J aQ ag ab E au => ?_
 replace ⟨h1, h2⟩ := (sn [] ab ag).g2 h1 h2
 have C := ab
 clear ab au ag
 refine .r 1 <| .d <| .s <| .g <| .r 1 <| .lb E <| .r 1 <| .cl (c_slices_Index_int_int p.ids id h1.ta (w := aQ) (F := all)) ?_
 rintro bn aR ⟨rfl, ah⟩
 replace ⟨h1, h2, E, C⟩ := (se [J] ah).g4 h1 h2 E C
 clear ah
 refine .r 1 <| .d <| .s <| .s <| .g <| .ln E <| .cl (c_impl_PartOk p h1.ta h2.ta (w := aR) (F := all)) ?_
 rintro bo bq ⟨rfl, ai⟩
 replace ⟨h2, E, C⟩ := (se [J] ai).g3 h2 E C
 clear ai
 cases ba : (partOk p)
 · refine .r 5 <| .d <| .ct <| .s <| .g <| .ns 0 33 [] fun ac av Z aj aw ax => ?_
   have bc := nb_new Z E.lt
   have ay := gb_new Z C.size
   replace ⟨h2, E, C⟩ := (sn [J] aj Z).g3 h2 E C
   clear aj ax Z
   have az : Own (α := Row) av ac 33 (nin (ge w.heap.size) [ac, J]) 0 0 [] := Own.nil' aw
   refine .r 1 <| .d ?_
   have aS := az.sl ay
   replace h2 := (sd av [ac, J] ac).g1 h2
   exact .rt Tryz.func90 Tryz.results90 (vS ac 0 0) ⟨(aS.vl (by first | rw [partI_1 (by assumption)] | rw [partI_2 (by assumption) (by assumption)] | (rw [partI_3 (by assumption) (by assumption) (by assumption)]; rfl)) (fun _ _ h => h.1)), C⟩
 refine .r 3 <| .bp (idxF id 0 p.ids < 0) (fun aA => ?_) (fun aA => ?_)
 · refine .r 1 <| .d <| .ct <| .s <| .g <| .ns 0 33 [] fun ae aB aa ak aC aD => ?_
   have bd := nb_new aa E.lt
   have aE := gb_new aa C.size
   replace ⟨h2, E, C⟩ := (sn [J] ak aa).g3 h2 E C
   clear ak aD aa
   have aF : Own (α := Row) aB ae 33 (nin (ge w.heap.size) [ae, J]) 0 0 [] := Own.nil' aC
   refine .r 1 <| .d ?_
   have aT := aF.sl aE
   replace h2 := (sd aB [ae, J] ae).g1 h2
   exact .rt Tryz.func90 Tryz.results90 (vS ae 0 0) ⟨(aT.vl (by first | rw [partI_1 (by assumption)] | rw [partI_2 (by assumption) (by assumption)] | (rw [partI_3 (by assumption) (by assumption) (by assumption)]; rfl)) (fun _ _ h => h.1)), C⟩
 refine .r 1 <| .d <| .cf <| .sk <| .s <| .g <| .ns 0 33 [] fun aq aU O al aG aH => ?_
 have aI := nb_new O E.lt
 have aJ := gb_new O C.size
 have bg := C.cn O
 replace ⟨h2, E, C⟩ := (sn [J] al O).g3 h2 E C
 clear al aH O
 have aK : Own (α := Row) aU aq 33 (nin (ge w.heap.size) [aq, J]) 0 0 [] := Own.nil' aG
 refine .r 1 <| .lb E <| .r 1 ?_
 have am : (idxF id 0 p.ids).toNat < p.blocks.length := (by first | omega | exact partI_i (by assumption) (by assumption))
 refine RG.idx ((idxF id 0 p.ids).toNat) (len := p.blocks.length) (i := idxF id 0 p.ids) (sz := 1) (by kernel_rfl) (by first | omega | exact partI_i (by assumption) (by assumption)) am (h2.addr (Nat.zero_lt_of_lt am)) ?_
 obtain ⟨aL, af⟩ : ∃ y, p.blocks[(idxF id 0 p.ids).toNat]? = some y := ⟨_, List.getElem?_eq_getElem (by first | omega | exact partI_i (by assumption) (by assumption))⟩
 have bh := drop_at af; have aP := List.mem_of_getElem? af
 obtain ⟨_, ⟨br, bt, bu, rfl, ar⟩, aM⟩ := h2.elem ((idxF id 0 p.ids).toNat) aL af
 have aN := ar.len
 subst aN
 have bi := ar.max
 refine .lh 0 aM <| RG.appendF (T := 42) (ty := 42) flat_row aK ar (by kernel_rfl) (by kernel_rfl) (fun b h e => h.2 (e ▸ (.head _))) (by first | omega | (have q1 := p0.2.2 _ (by assumption); omega)) fun aV aW bv V W ao => ?_
 have bj := nb_or W aI E.lt
 have aO := gb_or W aJ C.size
 replace C := (s1 ao).g1 C
 clear ao
 replace V := V.rn aq
 clear W
 have bk := V.len; have bm := V.max
 refine .r 1 <| .d ?_
 have aX := V.sl aO
 exact .rt Tryz.func90 Tryz.results90 (vS aV (0 + aL.length) aW) ⟨(aX.vl (by first | rw [partI_1 (by assumption)] | rw [partI_2 (by assumption) (by assumption)] | (rw [partI_3 (by assumption) (by assumption) (by assumption)]; rfl)) (fun _ _ h => h.1)), C⟩
theorem c_impl_clonePart (p : Prt) {w : World} {F : Nat → Prop} {a1 : Option Addr} {n1 c1 : Nat} (h1 : RepS w F a1 n1 c1 p.ids) {a2 : Option Addr} {n2 c2 : Nat} (h2 : RepS w F a2 n2 c2 p.blocks) (p0 : PrtSz p) : Calls Tryz.prog 145 [.agg #[.slice a1 n1 c1, .slice a2 n2 c2]].toArray w (rets fun rv w' => VS (ge w.heap.size) w' (p : Prt) rv ∧ Ext w w') := by
 refine goT Tryz.func145 ?_
 obtain ⟨rfl, dv, h1⟩ := h1.tp
 obtain ⟨rfl, dw, h2⟩ := h2.tp
 refine .s <| .g <| .np 75 [.slice a1 p.ids.length c1, .slice a2 p.blocks.length c2] fun aa dU bk aO J ce => ?_
 replace ⟨h1, h2⟩ := (sn [] aO bk).g2 h1 h2
 have C := aO
 clear aO ce bk
 refine .np 75 [.slice none 0 0, .slice none 0 0] fun ab dV aP bm E cg => ?_
 have dx := C.cn aP
 replace ⟨h1, h2, J, C⟩ := (sn [aa] bm aP).g4 h1 h2 J C
 clear bm cg aP
 refine .d <| .s <| .g <| .ns 0 3 [] fun bj cS az bn ci cj => ?_
 have ck := nb_new az J.lt
 have cm := nb_new az E.lt
 have co := gb_new az C.size
 have cp := C.cn az
 replace ⟨h1, h2, J, E, C⟩ := (sn [ab, aa] bn az).g5 h1 h2 J E C
 clear bn cj az
 have cq : Own (α := Int) cS bj 3 (nin (ge w.heap.size) [bj, ab, aa]) 0 0 [] := Own.nil' ci
 refine .r 1 <| .lb J <| RG.appendF (T := 68) (ty := 68) flat_int cq h1 (by kernel_rfl) (by kernel_rfl) (fun b h e => h.2 (e ▸ (.head _))) (by have q1 := p0.1; have q2 := p0.2.1; first | omega | (have q3 := p0.2.2 _ (by assumption); omega)) fun aw cr dW ah ar bo => ?_
 have cu := nb_or ar ck J.lt
 have cv := nb_or ar cm E.lt
 have cw := gb_or ar co C.size
 have dB := cov_or ar cp C.size
 replace ⟨h2, J, E, C⟩ := (sa [bj, ab, aa] bo ar).g4 h2 J E C
 clear bo
 replace ah := ah.rn bj
 clear ar
 have dC := ah.len; have dD := ah.max
 refine .ns 0 42 [] fun au cT ax bq cx cy => ?_
 have cz := nb_new ax J.lt
 have cA := nb_new ax E.lt
 have cB := nb_new ax ah.lt
 have cC := gb_new ax C.size
 have cD := C.cn ax
 replace ⟨h2, J, E, ah, C⟩ := (sn [aw, ab, aa] bq ax).g5 h2 J E ah C
 clear bq cy ax
 have aA : Own (α := List Row) cT au 42 (nin (ge w.heap.size) [au, aw, ab, aa]) 0 0 [] := Own.nil' cx
 refine .r 1 <| .np 75 [.slice none 0 0, .slice none 0 0] fun ac dX ay br cE cF => ?_
 have dE := nb_new ay J.lt
 have dF := nb_new ay E.lt
 have cG := nb_new ay ah.lt
 have cH := nb_new ay aA.lt
 have dG := C.cn ay
 replace ⟨h2, J, E, ah, aA, C⟩ := (sn [au, aw, ab, aa] br ay).g6 h2 J E ah aA C
 clear br cF ay
 refine .sc [vS aw (0 + p.ids.length) cr, vS au 0 0] cE fun aL bt aQ cI => ?_
 replace ⟨h2, J, E, ah, aA, C⟩ := (so [ac, au, aw, ab, aa] bt).g6 h2 J E ah aA C
 clear bt cI
 refine .d <| .s <| .s <| .g <| .r 1 <| .lb J <| .r 2 <| .d <| .b 0 <| T.loop (X := Nat × (List Int) × Nat × Nat × Nat × (List (List Row)) × Nat × Nat × Nat) (0, (([] ++ p.ids) : List Int), aw, 0 + p.ids.length, cr, ([] : List (List Row)), au, 0, 0) (fun (k, al, r_out_0, n_out_0, c_out_0, aj, r_out_1, n_out_1, c_out_1) => [(2, .pointer (some ⟨ab, 0, none⟩)), (3, .pointer (some ⟨ac, 0, none⟩)), (13, .slice a2 p.blocks.length c2), (14, vI (p.blocks.length : Int)), (15, vI (k : Int))]) (fun (k, al, r_out_0, n_out_0, c_out_0, aj, r_out_1, n_out_1, c_out_1) av => Chg (ins [aw, au, ac]) aL av ∧ Own av r_out_0 3 (nin (ge w.heap.size) [ac, r_out_1, r_out_0, ab, aa]) n_out_0 c_out_0 al ∧ OrB r_out_0 aw aL.heap.size ∧ Own av r_out_1 42 (nin (ge w.heap.size) [ac, r_out_1, r_out_0, ab, aa]) n_out_1 c_out_1 aj ∧ OrB r_out_1 au aL.heap.size ∧ Nb r_out_1 r_out_0 ∧ Box av ac 75 [vS r_out_0 n_out_0 c_out_0, vS r_out_1 n_out_1 c_out_1] ∧ (k ≤ p.blocks.length) ∧ (al = p.ids) ∧ (aj.length ≤ k) ∧ (aj ++ p.blocks.drop k = p.blocks)) (fun (k, al, r_out_0, n_out_0, c_out_0, aj, r_out_1, n_out_1, c_out_1) => p.blocks.length - k) (by kernel_rfl) ⟨by kernel_rfl, by kernel_rfl, by kernel_rfl, by kernel_rfl, by kernel_rfl, trivial⟩ ⟨Chg.refl _ _, ah, orb_refl, aA, orb_refl, cB, aQ, (by first | omega | rfl | simp), (by first | omega | rfl | simp), (by first | omega | rfl | simp), (by first | omega | rfl | simp)⟩ ?_
 rintro ⟨k, al, r_out_0, n_out_0, c_out_0, aj, r_out_1, n_out_1, c_out_1⟩ dH av ⟨Z, V, aB, W, ak, bz, O, dI, dJ, dK, dL⟩ aM
 have cU := nb_or' aB cu J.lt
 have cV := nb_or' aB cv E.lt
 have bA := nb_or' aB (Nb.symm cG) aQ.lt
 have bB := gb_or' aB cw C.size
 have cW := nb_or' ak cz J.lt
 have cX := nb_or' ak cA E.lt
 have aR := nb_or' ak (Nb.symm cH) aQ.lt
 have bC := gb_or' ak cC C.size
 have cY := cov_or' ak cD C.size
 have bD : Cov (ins [aw, au, ac]) aL au := ⟨.inl (.tail _ (.head _))⟩
 have cZ : Cov (ins [aw, au, ac]) aL ac := ⟨.inl (.tail _ (.tail _ (.head _)))⟩
 have c7 := cov_or' ak bD (Nat.le_refl _)
 have aS : Mv [ac, au, aw, ab, aa] [ac, r_out_1, r_out_0, ab, aa] aL av := Mv.inl Z (all_cons (.tail _ (.tail _ (.head _))) (all_cons (.tail _ (.head _)) (all_cons (.head _) all_nil))) (all_cons (.inl (.head _)) (all_cons (orb_mem ak (.tail _ (.head _))) (all_cons (orb_mem aB (.tail _ (.tail _ (.head _)))) (all_cons (.inl (.tail _ (.tail _ (.tail _ (.head _))))) (all_cons (.inl (.tail _ (.tail _ (.tail _ (.tail _ (.head _)))))) all_nil)))))
 replace ⟨h2, J, E, C⟩ := (sp aS Z).g4 h2 J E C
 clear aS
 have c8 := V.len; have c9 := V.max
 have da := W.len; have db := W.max
 refine .s <| .g <| .bp ((k : Int) < (p.blocks.length : Int)) (fun bE => ?_) (fun bE => ?_)
 · refine .d <| .s <| .ct <| .sk <| .s <| .b 1 <| .s <| .g ?_
   have bF : k < p.blocks.length := (by omega)
   refine .ix k 1 h2 bF ?_
   obtain ⟨aE, aF⟩ : ∃ y, p.blocks[k]? = some y := ⟨_, List.getElem?_eq_getElem (by omega)⟩
   have dd := drop_at aF; have cJ := List.mem_of_getElem? aF
   obtain ⟨_, ⟨cK, dM, cL, rfl, ai⟩, bG⟩ := h2.elem k aE aF
   have bH := ai.len
   subst bH
   have de := ai.max
   refine .lh 0 bG <| .r 1 <| .d ?_
   replace ai := ai.into
   have bI : Gb (ac + 1) av.heap.size := O.lt
   refine .gd (mtb [r_out_0, r_out_1] av.heap.size) 6 fun cM aG => ?_
   replace ⟨J, E, V, W, O, ai, C, Z⟩ := (se [ac, r_out_1, r_out_0, ab, aa] aG).g8 J E V W O ai C Z
   have aH : Chg (mtb [r_out_0, r_out_1] av.heap.size) av cM := Chg.stepN (Chg.refl (mtb [r_out_0, r_out_1] av.heap.size) av) aG
   clear aG
   refine .r [0] <| .lb 1 O (nS_of (all_cons (Nb.symm bA) (all_cons (Nb.symm aR) all_nil)) bI) <| .r [3] <| .go 2 <| .ns 0 33 [] fun dN aT => ?_
   replace ⟨J, E, V, W, O, ai, C, Z, aH⟩ := (se [ac, r_out_1, r_out_0, ab, aa] aT).g9 J E V W O ai C Z aH
   clear aT
   intro aC cN ae aU bJ bK
   have bL := nb_new ae J.lt
   have bM := nb_new ae E.lt
   have bN := nb_new ae V.lt
   have bO := nb_new ae W.lt
   have bP := nb_new ae O.lt
   have bQ := gb_new ae C.size
   have df := C.cn ae
   have dg := Z.cn ae
   have bR := aH.cn ae
   replace ⟨J, E, V, W, O, ai, C, Z⟩ := (sn [ac, r_out_1, r_out_0, ab, aa] aU ae).g8 J E V W O ai C Z
   clear aU bK ae
   have aI : Own (α := Row) cN aC 33 (nin (ge w.heap.size) [aC, ac, r_out_1, r_out_0, ab, aa]) 0 0 [] := Own.nil' bJ
   refine .go 4 <| GE.append (T := 42) (ty := 42) (args := [vS aC 0 0, .slice cK aE.length cL]) (by kernel_rfl) fun dO aV => ?_
   replace ⟨J, E, V, W, O, ai, aI, C, Z⟩ := (se [aC, ac, r_out_1, r_out_0, ab, aa] aV).g9 J E V W O ai aI C Z
   clear aV
   obtain ⟨aD, cO, dP, aW, af, ag, aJ, bS⟩ := Own.appendF (P := Tryz.prog) (T := 42) (ty := 42) flat_row aI (by kernel_rfl) ai (fun b h e => h.2 (e ▸ (.head _))) (by have q1 := p0.1; have q2 := p0.2.1; first | omega | (have q3 := p0.2.2 _ (by assumption); omega))
   refine ⟨_, _, aW, Chg.toS aJ (Cov.toS bR), ?_⟩
   clear bS
   have dh := nb_or ag bL J.lt
   have di := nb_or ag bM E.lt
   have dj := nb_or ag bN V.lt
   have dk := nb_or ag bO W.lt
   have dm := nb_or ag bP O.lt
   have bT := gb_or ag bQ C.size
   replace ⟨J, E, V, W, O, C, Z⟩ := (sa [aC, ac, r_out_1, r_out_0, ab, aa] aJ ag).g7 J E V W O C Z
   clear aJ
   replace af := af.rn aC
   clear ag
   have dp := af.len; have dq := af.max
   refine .go 5 <| .ns 1 42 [vS aD (0 + aE.length) cO] fun dQ aX => ?_
   replace ⟨J, E, V, W, O, af, C, Z⟩ := (se [aD, ac, r_out_1, r_out_0, ab, aa] aX).g8 J E V W O af C Z
   clear aX
   intro bu dR am aY aK bU
   have bV := nb_new am J.lt
   have bW := nb_new am E.lt
   have bX := nb_new am V.lt
   have aZ := nb_new am W.lt
   have bY := nb_new am O.lt
   have bZ := gb_new am C.size
   replace ⟨E, V, W, O, af, C, Z⟩ := (se [aD, ac, r_out_1, r_out_0, ab, aa] aY).g7 E V W O af C Z
   clear aY bU am
   refine .d fun cP ba => ?_
   replace ⟨E, V, W, O, af, aK, C, Z⟩ := (se [aD, ac, r_out_1, r_out_0, ab, aa] ba).g8 E V W O af aK C Z
   clear ba
   have cQ := af.sl bT
   replace ⟨V, W⟩ := (sd cP [aD, ac, r_out_1, r_out_0, ab, aa] aD).g2 V W
   have aN : nin (ge w.heap.size) [ac, r_out_1, r_out_0, ab, aa] bu ∧ bu ≠ r_out_1 := hap_mk bZ (all_cons bY (all_cons aZ (all_cons bX (all_cons bW (all_cons bV all_nil))))) aZ
   refine RG.append1 (T := 73) (ty := 73) (y := ([] ++ aE)) W aK (by kernel_rfl) (by kernel_rfl) ⟨_, _, _, rfl, cQ.oi⟩ aN (by have q1 := p0.1; have q2 := p0.2.1; first | omega | (have q3 := p0.2.2 _ (by assumption); omega)) fun bc bv dS ao aq bd => ?_
   have b0 := nb_or aq bz V.lt
   have dr := nb_or aq aR O.lt
   have b6 := orb_or aq ak Z.size
   replace ⟨E, V, O, C, Z⟩ := (sa [ac, r_out_1, r_out_0, ab, aa] bd aq).g5 E V O C Z
   clear bd
   replace ao := ao.rn r_out_1
   clear aq
   have dt := ao.len; have du := ao.max
   refine .r 1 <| .ss 1 (vS bc (n_out_1 + 1) bv) O fun dT bg b7 b8 => ?_
   replace ⟨E, V, ao, C, Z⟩ := (so [ac, bc, r_out_0, ab, aa] bg).g5 E V ao C Z
   clear bg b8
   exact .d <| .ib 1 <| .g <| .it ((k : Int) + 1) <| .r 1 <| .d <| aM (k + 1, al, r_out_0, n_out_0, c_out_0, (aj ++ [([] ++ aE)]), bc, n_out_1 + 1, bv) _ _ ⟨by kernel_rfl, by kernel_rfl, by kernel_rfl, by kernel_rfl, by kernel_rfl, trivial⟩ ⟨Z, V, aB, ao, b6, b0, b7, (by omega), (by assumption), (by simp; omega), (by exact appStep (by assumption) (by assumption))⟩ (by first | omega | (simp only []; omega))
 refine .d <| .s <| .cf <| .x 0 rfl <| .s <| .g <| .ln O <| .sc [vS r_out_0 n_out_0 c_out_0, vS r_out_1 n_out_1 c_out_1] E fun bw bh b9 cd => ?_
 replace ⟨V, W, C⟩ := (so [ac, r_out_1, r_out_0, ab, aa] bh).g3 V W C
 clear bh cd
 refine .d ?_
 have bi := V.sl bB
 replace W := (sd bw [ac, r_out_1, r_out_0, ab, aa] r_out_0).g1 W
 have cR := W.sl bC
 replace bi := (sd bw [ac, r_out_1, ab, aa] r_out_1).g1 bi
 exact .rb Tryz.func145 Tryz.results145 b9 ⟨(VS.of (y := (⟨al, aj⟩ : Prt)) ⟨_, rfl, ⟨_, _, _, _, _, _, rfl, bi.w1, cR.w1⟩⟩ (by exact copyI (by assumption) (appEnd (by assumption) (by omega)))), C⟩
theorem c_impl_cloneParts (list : List Prt) {w : World} {F : Nat → Prop} {a1 : Option Addr} {n1 c1 : Nat} (h1 : RepS w F a1 n1 c1 list) (p0 : list.length ≤ 1000) (p1 : ∀ p ∈ list, PrtSz p) : Calls Tryz.prog 108 [.slice a1 n1 c1].toArray w (rets fun rv w' => VO 75 w.heap.size w' (list : List Prt) rv ∧ Ext w w') := by
 refine goT Tryz.func108 ?_
 obtain ⟨rfl, bz, h1⟩ := h1.tp
 refine .s <| .g <| .r 1 <| .d <| .s <| .g <| .ns 0 75 [] fun V al af am aJ aK => ?_
 have aL := gb_new af (Nat.le_refl _)
 have aM : Cov nil w V := cov_new af (Nat.le_refl _)
 replace h1 := (sn [] am af).g1 h1
 have C := am
 clear am aK af
 have aN : Own (α := Prt) al V 75 (nin (ge w.heap.size) [V]) 0 0 [] := Own.nil' aJ
 refine .r 1 <| .d <| .s <| .s <| .g <| .r 3 <| .d <| .b 0 <| T.loop (X := (List Prt) × Nat × Nat × Nat × Nat) (([] : List Prt), V, 0, 0, 0) (fun (out, r_out, n_out, c_out, k) => [(3, vS r_out n_out c_out), (7, .slice a1 list.length c1), (8, vI (list.length : Int)), (9, vI (k : Int))]) (fun (out, r_out, n_out, c_out, k) ax => Chg (ins [V]) al ax ∧ Own ax r_out 75 (nin (ge w.heap.size) [r_out]) n_out c_out out ∧ OrB r_out V al.heap.size ∧ (k ≤ list.length) ∧ (out.length ≤ k) ∧ (out ++ list.drop k = list)) (fun (out, r_out, n_out, c_out, k) => list.length - k) (by kernel_rfl) ⟨by kernel_rfl, by kernel_rfl, by kernel_rfl, by kernel_rfl, trivial⟩ ⟨Chg.refl _ _, aN, orb_refl, (by first | omega | rfl | simp), (by first | omega | rfl | simp), (by first | omega | rfl | simp)⟩ ?_
 rintro ⟨out, r_out, n_out, c_out, k⟩ bN ax ⟨E, J, W, bA, bB, bC⟩ ao
 have aO := gb_or' W aL C.size
 have bD := cov_or' W aM C.size
 have aP : Cov (ins [V]) al V := ⟨.inl (.head _)⟩
 have bE := cov_or' W aP (Nat.le_refl _)
 have ay : Mv [V] [r_out] al ax := Mv.inl E (all_cons (.head _) all_nil) (all_cons (orb_mem W (.head _)) all_nil)
 replace ⟨h1, C⟩ := (sp ay E).g2 h1 C
 clear ay
 have bF := J.len; have bG := J.max
 refine .s <| .g <| .bp ((k : Int) < (list.length : Int)) (fun aQ => ?_) (fun aQ => .d <| .s <| .cf <| .x 0 rfl <| .s <| .g <| .r 2 <| .d <| .rt Tryz.func108 Tryz.results108 (vS r_out n_out c_out) ⟨(VO.of J (by exact appEnd (by assumption) (by omega)) aO), C⟩)
 refine .d <| .s <| .ct <| .sk <| .s <| .b 1 <| .s <| .g ?_
 have aR : k < list.length := (by omega)
 refine .ix k 2 h1 aR ?_
 obtain ⟨Z, aq⟩ : ∃ y, list[k]? = some y := ⟨_, List.getElem?_eq_getElem (by omega)⟩
 have bH := drop_at aq; have bj := List.mem_of_getElem? aq
 obtain ⟨_, ⟨bk, bO, bm, bn, bP, bo, rfl, ac, ae⟩, aS⟩ := h1.elem k Z aq
 have aT := ac.len
 subst aT
 have bI := ac.max
 have aU := ae.len
 subst aU
 have bJ := ae.max
 refine .lg 0 aS <| .np 75 [.slice none 0 0, .slice none 0 0] fun ar bQ aa az aV aW => ?_
 have bK := nb_new aa J.lt
 have bL := C.cn aa
 have bM := E.cn aa
 replace ⟨J, ac, ae, C, E⟩ := (sn [r_out] az aa).g5 J ac ae C E
 clear az aW aa
 refine .sc [.slice bk Z.ids.length bm, .slice bn Z.blocks.length bo] aV fun aX aA ab aY => ?_
 replace ⟨J, ac, ae, C, E⟩ := (so [ar, r_out] aA).g5 J ac ae C E
 clear aA aY
 refine .d <| .g <| .r 1 <| .ln ab <| .cl (c_impl_clonePart Z ac.ta ae.ta (p1 _ (by assumption)) (w := aX) (F := all)) ?_
 rintro bR bS ⟨⟨_, rfl, ⟨bq, bT, br, bt, bU, bu, rfl, ai, aj⟩⟩, aB⟩
 have au := al2 ab.lt J.lt
 have aC : Gb w.heap.size aX.heap.size := C.size
 replace ⟨J, ab, C, E⟩ := (se [ar, r_out] aB).g4 J ab C E
 clear aB
 have ai := ai.fr au aC
 have aj := aj.fr au aC
 clear au
 have aZ := ai.len
 subst aZ
 have ba := aj.len
 subst ba
 refine .ns 1 75 [.slice bq Z.ids.length br, .slice bt Z.blocks.length bu] fun bc bV ag aD bd bg => ?_
 have aE := nb_new ag J.lt
 have bh := nb_new ag ab.lt
 have aG := gb_new ag C.size
 replace ⟨J, ai, aj, C, E⟩ := (se [ar, r_out] aD).g5 J ai aj C E
 clear aD bg ag
 have ak : nin (ge w.heap.size) [ar, r_out] bc ∧ bc ≠ r_out := hap_mk aG (all_cons bh (all_cons aE all_nil)) aE
 refine RG.append1 (T := 27) (ty := 27) (y := Z) J bd (by kernel_rfl) (by kernel_rfl) ⟨_, _, _, _, _, _, rfl, ai.oi, aj.oi⟩ ak (by omega) fun av bi aF O ah aw => ?_
 have aH := orb_or ah W E.size
 replace ⟨C, E⟩ := (s1 aw).g2 C E
 clear aw
 replace O := O.rn r_out
 clear ah
 have bv := O.len; have bw := O.max
 refine .r 1 <| .d <| .ib 1 <| .g <| .it ((k : Int) + 1) <| .r 1 <| .d ?_
 have aI : Mv [ar, av] [av] aF aF := Mv.less (all_cons (.tail _ (.head _)) all_nil)
 replace O := (sp aI (Chg.refl nil _)).g1 O
 exact ao ((out ++ [Z]), av, n_out + 1, bi, k + 1) _ _ ⟨by kernel_rfl, by kernel_rfl, by kernel_rfl, by kernel_rfl, trivial⟩ ⟨E, O, aH, (by omega), (by simp; omega), (by exact app1Step (by assumption) (by assumption))⟩ (by first | omega | (simp only []; omega))
theorem c_impl_Store_rows (s : Sto) (id : Int) {w : World} {F : Nat → Prop} {a1 : Option Addr} {n1 c1 : Nat} (h1 : RepS w F a1 n1 c1 s.idx.names) {a2 : Option Addr} {n2 c2 : Nat} (h2 : RepS w F a2 n2 c2 s.idx.posts) {a3 : Option Addr} {n3 c3 : Nat} (h3 : RepS w F a3 n3 c3 s.parts) {a4 : Option Addr} {n4 c4 : Nat} (h4 : RepS w F a4 n4 c4 s.mem) (p0 : ∀ p ∈ s.parts, PrtI p ∧ partOk p = true) (p1 : ∀ m ∈ s.mem, rowOk m.row = true) (p2 : s.parts.length ≤ 1000) (p3 : s.mem.length ≤ 1000) : Calls Tryz.prog 64 [.agg #[.slice a1 n1 c1, .slice a2 n2 c2, .slice a3 n3 c3, .slice a4 n4 c4], .int .i64 id].toArray w (rets fun rv w' => VL (ge w.heap.size) w' (rowsOf s id : List Row) rv ∧ Ext w w') := by
 refine goT Tryz.func64 ?_
 obtain ⟨rfl, cO, h1⟩ := h1.tp
 obtain ⟨rfl, cP, h2⟩ := h2.tp
 obtain ⟨rfl, cQ, h3⟩ := h3.tp
 obtain ⟨rfl, cR, h4⟩ := h4.tp
 refine .s <| .g <| .np 30 [.slice a1 s.idx.names.length c1, .slice a2 s.idx.posts.length c2, .slice a3 s.parts.length c3, .slice a4 s.mem.length c4] fun O dk aZ aI E bK => ?_
 replace ⟨h3, h4⟩ := (sn [] aI aZ).g2 h3 h4
 have C := aI
 clear aI bK aZ
 refine .r 1 <| .d <| .s <| .g <| .ns 0 33 [] fun aJ aY aB ba bL bM => ?_
 have cS := nb_new aB E.lt
 have bN := gb_new aB C.size
 replace ⟨h3, h4, E, C⟩ := (sn [O] ba aB).g4 h3 h4 E C
 clear ba bM aB
 have bO : Own (α := Row) aY aJ 33 (nin (ge w.heap.size) [aJ, O]) 0 0 [] := Own.nil' bL
 refine .r 1 <| .d <| .s <| .s <| .g <| .r 1 <| .lb E <| .r 2 <| .d <| .b 0 ?_
 have cg := bO.sl bN
 replace ⟨h3, h4⟩ := (sd aY [aJ, O] aJ).g2 h3 h4
 refine T.loop (X := (List Row) × (Option Addr) × Nat × Nat × Nat) (([] : List Row), some ⟨aJ, 0, none⟩, 0, 0, 0) (fun (out, a_out, n_out, c_out, k) => [(1, vI id), (2, .pointer (some ⟨O, 0, none⟩)), (5, .slice a_out n_out c_out), (14, .slice a3 s.parts.length c3), (15, vI (s.parts.length : Int)), (16, vI (k : Int))]) (fun (out, a_out, n_out, c_out, k) aF => Chg (ins []) aY aF ∧ RepS aF (nin (ge w.heap.size) [O]) a_out n_out c_out out ∧ (k ≤ s.parts.length) ∧ (Blk out) ∧ ((s.parts.drop k).foldl (rowsP id) out = s.parts.foldl (rowsP id) [])) (fun (out, a_out, n_out, c_out, k) => s.parts.length - k) (by kernel_rfl) ⟨by kernel_rfl, by kernel_rfl, by kernel_rfl, by kernel_rfl, by kernel_rfl, by kernel_rfl, trivial⟩ ⟨Chg.refl _ _, cg, (by first | omega | rfl | exact Blk.nil), (by first | omega | rfl | exact Blk.nil), (by first | omega | rfl | exact Blk.nil)⟩ ?_
 rintro ⟨out, a_out, n_out, c_out, k⟩ dm aF ⟨W, J, cT, cU, cV⟩ aK
 have bc : Mv [O] [O] aY aF := Mv.inl W all_nil (all_cons (.inl (.head _)) all_nil)
 replace ⟨h3, h4, E, C⟩ := (sp bc W).g4 h3 h4 E C
 clear bc
 have cW := J.len; have cX := J.max
 refine .s <| .g <| .bp ((k : Int) < (s.parts.length : Int)) (fun bP => ?_) (fun bP => ?_)
 · refine .d <| .s <| .ct <| .sk <| .s <| .b 1 <| .s <| .g ?_
   have bQ : k < s.parts.length := (by omega)
   refine .ix k 2 h3 bQ ?_
   obtain ⟨af, aL⟩ : ∃ y, s.parts[k]? = some y := ⟨_, List.getElem?_eq_getElem (by omega)⟩
   have cY := drop_at aL; have ce := List.mem_of_getElem? aL
   obtain ⟨_, ⟨ci, dp, cj, ck, dq, cm, rfl, au, av⟩, bR⟩ := h3.elem k af aL
   have bS := au.len
   subst bS
   have cZ := au.max
   have bT := av.len
   subst bT
   have c7 := av.max
   refine .lg 0 bR <| .np 75 [.slice none 0 0, .slice none 0 0] fun ai dr aq bd bU bV => ?_
   have c8 := nb_new aq E.lt
   have c9 := C.cn aq
   have da := W.cn aq
   replace ⟨h4, E, J, au, av, C, W⟩ := (sn [O] bd aq).g7 h4 E J au av C W
   clear bd bV aq
   refine .sc [.slice ci af.ids.length cj, .slice ck af.blocks.length cm] bU fun bW bg ae bX => ?_
   replace ⟨h4, E, J, au, av, C, W⟩ := (so [ai, O] bg).g7 h4 E J au av C W
   clear bg bX
   refine .d <| .s <| .g <| .ln ae <| .r 1 <| .cl (c_impl_PartOf af id au.ta av.ta (p0 _ (by assumption)).1.sz (w := bW) (F := all)) ?_
   rintro dt bY ⟨⟨co, cp, rfl, aw⟩, bh⟩
   have bi := al2 ae.lt E.lt
   have bZ : Gb w.heap.size bW.heap.size := C.size
   replace ⟨h4, E, J, ae, C, W⟩ := (se [ai, O] bh).g6 h4 E J ae C W
   clear bh
   have aw := aw.fr bi bZ
   have db := aw.max
   clear bi
   refine .r 2 <| .d <| .b 2 <| T.loop (X := (List Row) × (Option Addr) × Nat × Nat × Nat) ((out : List Row), a_out, n_out, c_out, 0) (fun (ac, a_out1, n_out1, c_out1, k1) => [(1, vI id), (2, .pointer (some ⟨O, 0, none⟩)), (5, .slice a_out1 n_out1 c_out1), (14, .slice a3 s.parts.length c3), (15, vI (s.parts.length : Int)), (16, vI (k : Int)), (22, .slice co ((partI af id).length) cp), (23, vI (((partI af id).length) : Int)), (24, vI (k1 : Int))]) (fun (ac, a_out1, n_out1, c_out1, k1) aG => Chg (ins []) bY aG ∧ RepS aG (nin (ge w.heap.size) [ai, O]) a_out1 n_out1 c_out1 ac ∧ (k1 ≤ (partI af id).length) ∧ (Blk ac) ∧ (((partI af id).drop k1).foldl sPut ac = rowsP id out af)) (fun (ac, a_out1, n_out1, c_out1, k1) => (partI af id).length - k1) (by kernel_rfl) ⟨by kernel_rfl, by kernel_rfl, by kernel_rfl, by kernel_rfl, by kernel_rfl, by kernel_rfl, by kernel_rfl, by kernel_rfl, by kernel_rfl, trivial⟩ ⟨Chg.refl _ _, J, (by omega), (by assumption), (by unfold partI rowsP; rw [if_pos (p0 _ (by assumption)).2]; rfl)⟩ ?_
   rintro ⟨ac, a_out1, n_out1, c_out1, k1⟩ dd aG ⟨ab, Z, cq, cr, cu⟩ aH
   have aM : Mv [ai, O] [ai, O] bY aG := Mv.inl ab all_nil (all_cons (.inl (.head _)) (all_cons (.inl (.tail _ (.head _))) all_nil))
   replace ⟨h4, E, J, ae, aw, C, W⟩ := (sp aM ab).g7 h4 E J ae aw C W
   clear aM
   have cv := Z.len; have cw := Z.max
   refine .s <| .g <| .bp ((k1 : Int) < (((partI af id).length) : Int)) (fun bn => ?_) (fun bn => ?_)
   · refine .d <| .s <| .ct <| .sk <| .s <| .b 3 <| .s <| .g ?_
     have bo : k1 < (partI af id).length := (by omega)
     refine .ix k1 2 aw bo ?_
     obtain ⟨ak, ay⟩ : ∃ y, (partI af id)[k1]? = some y := ⟨_, List.getElem?_eq_getElem (by omega)⟩
     have cx := drop_at ay; have b0 := List.mem_of_getElem? ay
     obtain ⟨_, rfl, bq⟩ := aw.elem k1 ak ay
     refine .lg 0 bq <| .np 33 [vI 0, vI 0] fun aN de ag aO br bt => ?_
     have cy := nb_new ag E.lt
     have cz := nb_new ag ae.lt
     have cA := C.cn ag
     have cB := W.cn ag
     have cC := ab.cn ag
     replace ⟨h4, E, J, ae, Z, C, W, ab⟩ := (sn [ai, O] aO ag).g8 h4 E J ae Z C W ab
     clear aO bt ag
     refine .sc [vI ak.t, vI ak.v] br fun bj aP aQ bu => ?_
     replace ⟨h4, E, J, ae, Z, C, W, ab⟩ := (so [aN, ai, O] aP).g8 h4 E J ae Z C W ab
     clear aP bu
     refine .d <| .g <| .r 1 <| .ln aQ <| .cl (c_impl_put ac ak Z.ta (by first | (have q1 := Blk.len (by assumption : Blk ac); omega) | (have q1 := Blk.len (by assumption : Blk out); omega)) (w := bj) (F := all)) ?_
     rintro df bk ⟨⟨b6, b7, rfl, al⟩, aR⟩
     have aS := al3 aQ.lt ae.lt E.lt
     have bv : Gb w.heap.size bj.heap.size := C.size
     replace ⟨h4, E, J, Z, C, W, ab⟩ := (se [aN, ai, O] aR).g7 h4 E J Z C W ab
     clear aR
     have al := al.fr aS bv
     have cD := al.max
     clear aS
     refine .r 1 <| .d <| .ib 3 <| .g <| .it ((k1 : Int) + 1) <| .r 1 <| .d ?_
     have bw : Mv [aN, ai, O] [ai, O] bk bk := Mv.less (all_cons (.tail _ (.head _)) (all_cons (.tail _ (.tail _ (.head _))) all_nil))
     replace ⟨h4, J, Z, al⟩ := (sp bw (Chg.refl nil _)).g4 h4 J Z al
     exact aH (insR ak ac, b6, (insR ak ac).length, b7, k1 + 1) _ _ ⟨by kernel_rfl, by kernel_rfl, by kernel_rfl, by kernel_rfl, by kernel_rfl, by kernel_rfl, by kernel_rfl, by kernel_rfl, by kernel_rfl, trivial⟩ ⟨ab, al, (by omega), (by exact Blk.ins (by assumption) (((p0 af (by assumption)).1.ofI id).rows _ (by assumption))), (by rw [← sPut_ins (by assumption)]; exact foldStep (by assumption) (by assumption))⟩ (by first | omega | (simp only []; omega))
   refine .d <| .s <| .cf <| .x 2 rfl <| .ib 1 <| .g <| .it ((k : Int) + 1) <| .r 1 <| .d ?_
   have bz : Mv [ai, O] [O] aG aG := Mv.less (all_cons (.tail _ (.head _)) all_nil)
   replace ⟨h4, J, Z⟩ := (sp bz (Chg.refl nil _)).g3 h4 J Z
   exact aK (ac, a_out1, n_out1, c_out1, k + 1) _ _ ⟨by kernel_rfl, by kernel_rfl, by kernel_rfl, by kernel_rfl, by kernel_rfl, by kernel_rfl, trivial⟩ ⟨W, Z, (by omega), (by assumption), (by have q1 := foldEnd (by assumption : ((partI af id).drop k1).foldl sPut ac = _) (by omega); have q2 := foldStep (by assumption : (s.parts.drop k).foldl (rowsP id) out = _) (by assumption); rw [← q1] at q2; exact q2)⟩ (by first | omega | (simp only []; omega))
 refine .d <| .s <| .cf <| .x 0 rfl <| .s <| .s <| .g <| .r 1 <| .lb E <| .r 2 <| .d <| .b 4 <| T.loop (X := (List Row) × (Option Addr) × Nat × Nat × Nat) ((out : List Row), a_out, n_out, c_out, 0) (fun (out, a_out, n_out, c_out, k) => [(1, vI id), (5, .slice a_out n_out c_out), (34, .slice a4 s.mem.length c4), (35, vI (s.mem.length : Int)), (36, vI (k : Int))]) (fun (out, a_out, n_out, c_out, k) aC => Chg (ins []) aF aC ∧ RepS aC (nin (ge w.heap.size) [O]) a_out n_out c_out out ∧ (k ≤ s.mem.length) ∧ (Blk out) ∧ ((s.mem.drop k).foldl (rowsM id) out = rowsOf s id)) (fun (out, a_out, n_out, c_out, k) => s.mem.length - k) (by kernel_rfl) ⟨by kernel_rfl, by kernel_rfl, by kernel_rfl, by kernel_rfl, by kernel_rfl, trivial⟩ ⟨Chg.refl _ _, J, (by omega), (by assumption), (by have q1 : out = s.parts.foldl (rowsP id) [] := foldEnd (by assumption : (s.parts.drop k).foldl (rowsP id) out = _) (by omega); rw [q1]; rfl)⟩ ?_
 rintro ⟨out, a_out, n_out, c_out, k⟩ dh aC ⟨aa, V, cE, cF, cG⟩ am
 have aT : Mv [O] [O] aF aC := Mv.inl aa all_nil (all_cons (.inl (.head _)) all_nil)
 replace ⟨h4, E, C⟩ := (sp aT aa).g3 h4 E C
 clear aT
 have cH := V.len; have cI := V.max
 refine .s <| .g <| .bp ((k : Int) < (s.mem.length : Int)) (fun bA => ?_) (fun bA => .d <| .s <| .cf <| .x 4 rfl <| .s <| .g <| .r 2 <| .d <| .rt Tryz.func64 Tryz.results64 (.slice a_out n_out c_out) ⟨(V.vl (by exact foldEnd (by assumption) (by omega)) (fun _ _ h => h.1)), C⟩)
 refine .d <| .s <| .ct <| .sk <| .s <| .b 5 <| .s <| .g ?_
 have bB : k < s.mem.length := (by omega)
 refine .ix k 3 h4 bB ?_
 obtain ⟨ah, az⟩ : ∃ y, s.mem[k]? = some y := ⟨_, List.getElem?_eq_getElem (by omega)⟩
 have cJ := drop_at az; have b8 := List.mem_of_getElem? az
 obtain ⟨_, rfl, bC⟩ := h4.elem k ah az
 refine .lg 0 bC <| .np 51 [vI 0, vI 0, vI 0] fun aD di aj aU bD bE => ?_
 have cK := nb_new aj E.lt
 have cL := C.cn aj
 have cM := aa.cn aj
 replace ⟨E, V, C, aa⟩ := (sn [O] aU aj).g4 E V C aa
 clear aU bE aj
 refine .sc [vI ah.id, vI ah.row.t, vI ah.row.v] bD fun aE aV aA bF => ?_
 replace ⟨E, V, C, aa⟩ := (so [aD, O] aV).g4 E V C aa
 clear aV bF
 refine .d <| .s <| .g <| .r 1 <| .lb aA <| .r 1 <| .eq ah.id id (fun bG => ?_) (fun bG => ?_)
 · refine .d <| .ct <| .g <| .r 2 <| .ln aA <| .cl (c_impl_put out ah.row V.ta (by first | (have q1 := Blk.len (by assumption : Blk ac); omega) | (have q1 := Blk.len (by assumption : Blk out); omega)) (w := aE) (F := all)) ?_
   rintro dj bm ⟨⟨b9, cd, rfl, ao⟩, aW⟩
   have aX := al2 aA.lt E.lt
   have bH : Gb w.heap.size aE.heap.size := C.size
   replace ⟨V, C, aa⟩ := (se [aD, O] aW).g3 V C aa
   clear aW
   have ao := ao.fr aX bH
   have cN := ao.max
   clear aX
   refine .r 1 <| .d <| .ib 5 <| .g <| .it ((k : Int) + 1) <| .r 1 <| .d ?_
   have bI : Mv [aD, O] [O] bm bm := Mv.less (all_cons (.tail _ (.head _)) all_nil)
   replace ⟨V, ao⟩ := (sp bI (Chg.refl nil _)).g2 V ao
   exact am (insR ah.row out, b9, (insR ah.row out).length, cd, k + 1) _ _ ⟨by kernel_rfl, by kernel_rfl, by kernel_rfl, by kernel_rfl, by kernel_rfl, trivial⟩ ⟨aa, ao, (by omega), (by first | assumption | exact Blk.ins (by assumption) (p1 _ (by assumption))), (by have q1 := foldStep (by assumption : (s.mem.drop k).foldl (rowsM id) out = _) (by assumption); first | (rw [rowsM_hit (by assumption) (by assumption)] at q1; exact q1) | (rw [rowsM_no (by assumption)] at q1; exact q1))⟩ (by first | omega | (simp only []; omega))
 refine .d <| .cf <| .sk <| .ib 5 <| .g <| .it ((k : Int) + 1) <| .r 1 <| .d ?_
 have bJ : Mv [aD, O] [O] aE aE := Mv.less (all_cons (.tail _ (.head _)) all_nil)
 replace V := (sp bJ (Chg.refl nil _)).g1 V
 exact am (out, a_out, n_out, c_out, k + 1) _ _ ⟨by kernel_rfl, by kernel_rfl, by kernel_rfl, by kernel_rfl, by kernel_rfl, trivial⟩ ⟨aa, V, (by omega), (by first | assumption | exact Blk.ins (by assumption) (p1 _ (by assumption))), (by have q1 := foldStep (by assumption : (s.mem.drop k).foldl (rowsM id) out = _) (by assumption); first | (rw [rowsM_hit (by assumption) (by assumption)] at q1; exact q1) | (rw [rowsM_no (by assumption)] at q1; exact q1))⟩ (by first | omega | (simp only []; omega))
end Go.Proofs.YtfnpaglcnmcnbaaGreat
