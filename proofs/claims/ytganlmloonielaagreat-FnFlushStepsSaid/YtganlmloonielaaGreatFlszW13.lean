/- walks; hints pruned; squeezed -/
import Derived.Test.YtganlmloonielaaGreatFlszW9
set_option linter.unusedVariables false
set_option linter.unusedSimpArgs false
namespace Go.Proofs.YtganlmloonielaaGreat
set_option maxRecDepth 100000
set_option maxHeartbeats 4000000
theorem c_spec_l72Known  {w : World} {F : Nat → Prop} {b : Nat} {ad : Option Addr} {cd p : Nat} {D : List UInt8} (hr : Box w b 122 [.slice ad D.length cd, .int .i64 (p : Int)]) (hD : RepS w (nin all [b]) ad D.length cd D) (hp : p + 25 ≤ 1000000000)  : Calls Tryz.prog 166 [.pointer (some ⟨b, 0, none⟩)].toArray w (rets fun rv w' => (∃ (y : List Tag), VL (ge w.heap.size) w' (y : List Tag) rv ∧ (NmD y)) ∧ ∃ p' : Nat, p' ≤ p + 25 ∧ Box w' b 122 [.slice ad D.length cd, .int .i64 (p' : Int)] ∧ Chg (one b) w w') := by
 refine goT Tryz.func166 ?_
 have aI := hD.max
 refine .s <| .g <| .r 1 <| .d <| .s <| .s <| .g <| .r 1 <| .cl (c_spec_l6Rd_pick 4 hr (hD.toAll (.head _)) (by omega) (w := w) (F := all)) ?_
 rintro aS al ⟨⟨aB, rfl, aJ⟩, aT, aK, E, W⟩
 replace hD := (so [b] W).g1 hD
 have C : Chg (one b) w al := Chg.stepO (Chg.refl (one b) w) W (Cov.mk1 w b)
 refine .eq aB 0 (fun ao => ?_) (fun ao => ?_)
 ·refine .d <| .ct <| .s <| .g <| .r 1 <| .cl (c_spec_l71Name E (hD.toAll (.head _)) (by omega) (w := al) (F := all)) ?_
  rintro aU aV ⟨⟨aq, ⟨aC, aD, rfl, ab⟩, aL⟩, aE, aM, ar, af⟩
  have ag := al1 E.lt
  have au : Gb w.heap.size al.heap.size := C.size
  replace ⟨hD, C⟩ := (so [b] af).g2 hD C
  have ab := ab.fr ag au
  have aN := ab.max
  exact .r 1 <| .d <| .rt Tryz.func166 Tryz.results166 (.slice aC aq.length aD) ⟨⟨(aq : List Tag), (ab.vl (by rfl) (fun _ _ h => h.1)), (by exact (by assumption : NmX _).1)⟩, aE, by omega, ar, C⟩
 refine .d <| .cf <| .sk <| .s <| .g <| .r 1 <| .ns 3 9 [.string (bs [97, 61, 112]), .string (bs [97, 61, 113, 44, 98, 61, 112]), .string (bs [98, 61, 122, 44, 99, 61, 113])] fun ac av aa ah aw ax => ?_
 have ay := nb_new aa E.lt
 replace ⟨hD, E, C⟩ := (sn [b] ah aa).g3 hD E C
 have J : Own (α := Txt) av ac 9 (nin (ge w.heap.size) [ac, b]) 3 3 [(⟨[97, 61, 112]⟩ : Txt), (⟨[97, 61, 113, 44, 98, 61, 112]⟩ : Txt), (⟨[98, 61, 122, 44, 99, 61, 113]⟩ : Txt)] := Own.lit aw rfl (by decide) ⟨rfl, rfl, rfl, rfl⟩
 refine .cl (c_spec_l6Rd_of ([(⟨[97, 61, 112]⟩ : Txt), (⟨[97, 61, 113, 44, 98, 61, 112]⟩ : Txt), (⟨[98, 61, 122, 44, 99, 61, 113]⟩ : Txt)] : List Txt) E (hD.toAll (.tail _ (.head _))) (by omega) (J.toAll (.tail _ (.head _)) ay) (by simp) (w := av) (F := all)) ?_
 rintro aW az ⟨⟨am, rfl, aO⟩, aF, aP, O, ai⟩
 replace ⟨hD, J, C⟩ := (so [ac, b] ai).g3 hD J C
 refine .cl (c_spec_NameRead am (known_D ‹_›).2 (w := az) (F := all)) ?_
 rintro aX aY ⟨⟨aZ, ⟨ba, rfl, ⟨aG, aH, rfl, ae⟩⟩, aQ⟩, aj⟩
 have ak := al2 J.lt O.lt
 have aA : Gb w.heap.size az.heap.size := C.size
 replace ⟨hD, O, C⟩ := (se [ac, b] aj).g3 hD O C
 have ae := ae.fr ak aA
 have aR := ae.max
 exact .r 5 <| .d <| .s <| .g <| .r 2 <| .d <| .rt Tryz.func166 Tryz.results166 (.slice aG ((nameR am).length) aH) ⟨⟨(nameR am : List Tag), (ae.vl (by rfl) (fun _ _ h => h.1)), (by exact (known_D ‹_›).1)⟩, aF, by omega, O, C⟩
theorem c_spec_l72Event (w_ : Wld) {w : World} {F : Nat → Prop} {b : Nat} {ad : Option Addr} {cd p : Nat} {D : List UInt8} (hr : Box w b 122 [.slice ad D.length cd, .int .i64 (p : Int)]) (hD : RepS w (nin all [b]) ad D.length cd D) (hp : p + 60 ≤ 1000000000) {a1 : Option Addr} {n1 c1 : Nat} (h1 : RepS w (nin F [b]) a1 n1 c1 w_.store.idx.names) {a2 : Option Addr} {n2 c2 : Nat} (h2 : RepS w (nin F [b]) a2 n2 c2 w_.store.idx.posts) {a3 : Option Addr} {n3 c3 : Nat} (h3 : RepS w (nin F [b]) a3 n3 c3 w_.store.parts) {a4 : Option Addr} {n4 c4 : Nat} (h4 : RepS w (nin F [b]) a4 n4 c4 w_.store.mem) {a5 : Option Addr} {n5 c5 : Nat} (h5 : RepS w (nin F [b]) a5 n5 c5 w_.disk.files) {a6 : Option Addr} {n6 c6 : Nat} (h6 : RepS w (nin F [b]) a6 n6 c6 w_.disk.list) {a7 : Option Addr} {n7 c7 : Nat} (h7 : RepS w (nin F [b]) a7 n7 c7 w_.disk.names) (p0 : w_.disk.list.length ≤ 1000) : Calls Tryz.prog 127 [.pointer (some ⟨b, 0, none⟩), .agg #[.slice a1 n1 c1, .slice a2 n2 c2, .slice a3 n3 c3, .slice a4 n4 c4, .slice a5 n5 c5, .slice a6 n6 c6, .slice a7 n7 c7, .int .i64 w_.disk.next]].toArray w (rets fun rv w' => (∃ (y : Evt), VS (ge w.heap.size) w' (y : Evt) rv ∧ (EvD y)) ∧ ∃ p' : Nat, p' ≤ p + 60 ∧ Box w' b 122 [.slice ad D.length cd, .int .i64 (p' : Int)] ∧ Chg (one b) w w') := by
 refine goT Tryz.func127 ?_
 have dF := hD.max
 obtain rfl := h1.len
 replace h1 := h1.topR (s := w.heap.size)
 have dG := h1.max
 obtain rfl := h2.len
 replace h2 := h2.topR (s := w.heap.size)
 have dH := h2.max
 obtain rfl := h3.len
 replace h3 := h3.topR (s := w.heap.size)
 have dI := h3.max
 obtain rfl := h4.len
 replace h4 := h4.topR (s := w.heap.size)
 have dJ := h4.max
 obtain rfl := h5.len
 replace h5 := h5.topR (s := w.heap.size)
 have dK := h5.max
 obtain rfl := h6.len
 replace h6 := h6.topR (s := w.heap.size)
 have dL := h6.max
 obtain rfl := h7.len
 replace h7 := h7.topR (s := w.heap.size)
 have dM := h7.max
 refine .s <| .g <| .np 70 [.slice a1 w_.store.idx.names.length c1, .slice a2 w_.store.idx.posts.length c2, .slice a3 w_.store.parts.length c3, .slice a4 w_.store.mem.length c4, .slice a5 w_.disk.files.length c5, .slice a6 w_.disk.list.length c6, .slice a7 w_.disk.names.length c7, vI w_.disk.next] fun O cV aK aL E co => ?_
 have dN := nb_new aK hr.lt
 replace ⟨hD, hr⟩ := (sn [b] aL aK).g2 hD hr
 have C : Chg (one b) w cV := Chg.stepN (Chg.refl (one b) w) aL
 refine .np 114 [vI 0, vI 0, vI 0, .slice none 0 0, vI 0, vI 0] fun W cW ak bz J cp => ?_
 have dO := nb_new ak hr.lt
 have dP := nb_new ak E.lt
 have dQ := C.cn ak
 replace ⟨hD, hr, E, C⟩ := (sn [O, b] bz ak).g4 hD hr E C
 refine .d <| .s <| .s <| .g <| .r 1 <| .cl (c_spec_l6Rd_pick 10 hr (hD.toAll (.tail _ (.tail _ (.head _)))) (by omega) (w := cW) (F := all)) ?_
 rintro eC aG ⟨⟨bu, rfl, dR⟩, eD, dS, aa, bA⟩
 replace ⟨hD, E, J, C⟩ := (so [W, O, b] bA).g4 hD E J C
 refine .d <| .b 0 <| .s <| .s <| .g <| .eq bu 0 (fun cq => ?_) (fun cq => ?_)
 ·refine .r 1 <| .d <| .ct <| .sk <| .ct <| .s <| .g <| .ns 5 3 [vI 2, vI 2, vI 2, vI 0, vI 1] fun aH cr aM bB cu cv => ?_
  have dT := nb_new aM aa.lt
  replace ⟨hD, aa, E, J, C⟩ := (sn [W, O, b] bB aM).g5 hD aa E J C
  have aN : Own (α := Int) cr aH 3 (nin (ge w.heap.size) [aH, W, O, b]) 5 5 [2, 2, 2, 0, 1] := Own.lit cu rfl (by decide) ⟨rfl, rfl, rfl, rfl, rfl, rfl⟩
  refine .r 1 <| .cl (c_spec_l6Rd_pick 5 aa (hD.toAll (.tail _ (.tail _ (.tail _ (.head _))))) (by omega) (w := cr) (F := all)) ?_
  rintro eE cX ⟨⟨aI, rfl, dU⟩, cY, dV, aO, bC⟩
  replace ⟨hD, E, J, aN, C⟩ := (so [aH, W, O, b] bC).g5 hD E J aN C
  have cw : (aI).toNat < 5 := (by omega)
  refine RG.idx (b := aH) (o := 0) ((aI).toNat) (len := 5) (i := aI) (sz := 1) (by kernel_rfl) (by omega) cw rfl ?_
  obtain ⟨bv, aP⟩ : ∃ y, ([2, 2, 2, 0, 1] : List Int)[(aI).toNat]? = some y := ⟨_, List.getElem?_eq_getElem (by omega)⟩
  have dW := drop_at aP; have bw := List.mem_of_getElem? aP
  simp only [List.mem_cons, List.not_mem_nil, or_false] at bw
  obtain ⟨_, rfl, aQ⟩ := aN.elem ((aI).toNat) bv aP
  replace aQ : Has cX ⟨aH, 0 + ((aI).toNat) * Rep.sz Int, none⟩ [vI bv] := by rw [Nat.zero_add]; exact aQ
  refine .lh 0 aQ <| .r 1 <| .sc [vI 2, vI 0, vI bv, .slice none 0 0, vI 0, vI 0] J fun eF bD cx cy => ?_
  replace ⟨hD, aO, E, C⟩ := (so [aH, W, O, b] bD).g4 hD aO E C
  exact .d <| .rb Tryz.func127 Tryz.results127 cx ⟨⟨((⟨2, 0, bv, ([] : List Tag), (⟨0, 0⟩ : Row)⟩ : Evt) : Evt), ⟨_, rfl, ⟨_, _, _, rfl, (RepS.nil' _ _ none 0 (by decide))⟩⟩, (by exact ⟨NmD.nil, by simp [RowSm]⟩)⟩, cY, by omega, aO, C⟩
 refine .r 1 <| .d <| .cf <| .g <| .eq bu 1 (fun cz => ?_) (fun cz => ?_)
 ·refine .r 1 <| .d <| .ct <| .s <| .g <| .ns 5 3 [vI 2, vI 2, vI 2, vI 0, vI 1] fun aJ cA aR bE cB cC => ?_
  have dX := nb_new aR aa.lt
  replace ⟨hD, aa, E, J, C⟩ := (sn [W, O, b] bE aR).g5 hD aa E J C
  have al : Own (α := Int) cA aJ 3 (nin (ge w.heap.size) [aJ, W, O, b]) 5 5 [2, 2, 2, 0, 1] := Own.lit cB rfl (by decide) ⟨rfl, rfl, rfl, rfl, rfl, rfl⟩
  refine .r 1 <| .cl (c_spec_l6Rd_pick 5 aa (hD.toAll (.tail _ (.tail _ (.tail _ (.head _))))) (by omega) (w := cA) (F := all)) ?_
  rintro dY cD ⟨⟨ag, rfl, cZ⟩, cE, c8, am, aS⟩
  replace ⟨hD, E, J, al, C⟩ := (so [aJ, W, O, b] aS).g5 hD E J al C
  have bL : (ag).toNat < 5 := (by omega)
  refine RG.idx (b := aJ) (o := 0) ((ag).toNat) (len := 5) (i := ag) (sz := 1) (by kernel_rfl) (by omega) bL rfl ?_
  obtain ⟨aB, ao⟩ : ∃ y, ([2, 2, 2, 0, 1] : List Int)[(ag).toNat]? = some y := ⟨_, List.getElem?_eq_getElem (by omega)⟩
  have c9 := drop_at ao; have aT := List.mem_of_getElem? ao
  simp only [List.mem_cons, List.not_mem_nil, or_false] at aT
  obtain ⟨_, rfl, aq⟩ := al.elem ((ag).toNat) aB ao
  replace aq : Has cD ⟨aJ, 0 + ((ag).toNat) * Rep.sz Int, none⟩ [vI aB] := by rw [Nat.zero_add]; exact aq
  refine .lh 0 aq <| .r 1 <| .sc [vI 2, vI 0, vI aB, .slice none 0 0, vI 0, vI 0] J fun dZ aU bM bN => ?_
  replace ⟨hD, am, E, C⟩ := (so [aJ, W, O, b] aU).g4 hD am E C
  exact .d <| .rb Tryz.func127 Tryz.results127 bM ⟨⟨((⟨2, 0, aB, ([] : List Tag), (⟨0, 0⟩ : Row)⟩ : Evt) : Evt), ⟨_, rfl, ⟨_, _, _, rfl, (RepS.nil' _ _ none 0 (by decide))⟩⟩, (by exact ⟨NmD.nil, by simp [RowSm]⟩)⟩, cE, by omega, am, C⟩
 refine .r 1 <| .d <| .cf <| .s <| .g <| .eq bu 2 (fun bO => ?_) (fun bO => ?_)
 ·refine .r 1 <| .d <| .ct <| .s <| .g <| .r 2 <| .lb E <| .r 1 <| .bp ((w_.disk.list.length : Int) > 1) (fun bP => ?_) (fun bP => ?_)
  ·refine .d <| .ct <| .s <| .g <| .r 3 <| .lb E <| .r 1 <| .it ((w_.disk.list.length : Int) - 1) <| .cl (c_spec_l6Rd_pick ((w_.disk.list.length : Int) - 1) aa (hD.toAll (.tail _ (.tail _ (.head _)))) (by omega) (w := aG) (F := all)) ?_
   rintro d0 d3 ⟨⟨bF, rfl, da⟩, d4, db, aj, aV⟩
   replace ⟨hD, E, J, C⟩ := (so [W, O, b] aV).g4 hD E J C
   refine .ns 6 3 [vI 4, vI 4, vI 0, vI 1, vI 2, vI 3] fun ah bG ar aW bQ bR => ?_
   have de := nb_new ar aj.lt
   replace ⟨hD, aj, E, J, C⟩ := (sn [W, O, b] aW ar).g5 hD aj E J C
   have au : Own (α := Int) bG ah 3 (nin (ge w.heap.size) [ah, W, O, b]) 6 6 [4, 4, 0, 1, 2, 3] := Own.lit bQ rfl (by decide) ⟨rfl, rfl, rfl, rfl, rfl, rfl, rfl⟩
   refine .r 1 <| .cl (c_spec_l6Rd_pick 6 aj (hD.toAll (.tail _ (.tail _ (.tail _ (.head _))))) (by omega) (w := bG) (F := all)) ?_
   rintro d5 cF ⟨⟨ai, rfl, df⟩, cG, dg, av, aX⟩
   replace ⟨hD, E, J, au, C⟩ := (so [ah, W, O, b] aX).g5 hD E J au C
   have bS : (ai).toNat < 6 := (by omega)
   refine RG.idx (b := ah) (o := 0) ((ai).toNat) (len := 6) (i := ai) (sz := 1) (by kernel_rfl) (by omega) bS rfl ?_
   obtain ⟨aC, aw⟩ : ∃ y, ([4, 4, 0, 1, 2, 3] : List Int)[(ai).toNat]? = some y := ⟨_, List.getElem?_eq_getElem (by omega)⟩
   have dh := drop_at aw; have aY := List.mem_of_getElem? aw
   simp only [List.mem_cons, List.not_mem_nil, or_false] at aY
   obtain ⟨_, rfl, ax⟩ := au.elem ((ai).toNat) aC aw
   replace ax : Has cF ⟨ah, 0 + ((ai).toNat) * Rep.sz Int, none⟩ [vI aC] := by rw [Nat.zero_add]; exact ax
   refine .lh 0 ax <| .r 1 <| .sc [vI 3, vI bF, vI aC, .slice none 0 0, vI 0, vI 0] J fun d6 aZ bT bU => ?_
   replace ⟨hD, av, E, C⟩ := (so [ah, W, O, b] aZ).g4 hD av E C
   exact .d <| .rb Tryz.func127 Tryz.results127 bT ⟨⟨((⟨3, bF, aC, ([] : List Tag), (⟨0, 0⟩ : Row)⟩ : Evt) : Evt), ⟨_, rfl, ⟨_, _, _, rfl, (RepS.nil' _ _ none 0 (by decide))⟩⟩, (by exact ⟨NmD.nil, by simp [RowSm]⟩)⟩, cG, by omega, av, C⟩
  refine .d <| .cf <| .sk <| .ib 0 <| .s <| .g <| .r 1 <| .cl (c_spec_l72Known aa (hD.toAll (.tail _ (.tail _ (.head _)))) (by omega) (w := aG) (F := all)) ?_
  rintro d7 cH ⟨⟨bH, ⟨cI, cJ, rfl, ab⟩, dj⟩, d8, dm, bV, ba⟩
  have bc := al3 J.lt E.lt aa.lt
  have bW : Gb w.heap.size aG.heap.size := C.size
  replace ⟨hD, E, J, C⟩ := (so [W, O, b] ba).g4 hD E J C
  have ab := ab.fr bc bW
  have dp := ab.max
  refine .r 1 <| .cl (c_spec_l71Row bV (hD.toAll (.tail _ (.tail _ (.head _)))) (by omega) (w := cH) (F := all)) ?_
  rintro d9 ec ⟨⟨aD, ⟨_, rfl, rfl⟩, dq⟩, cK, dr, ay, bd⟩
  replace ⟨hD, E, J, ab, C⟩ := (so [W, O, b] bd).g5 hD E J ab C
  refine .r 1 <| .sc [vI 1, vI 0, vI 0, .slice cI bH.length cJ, vI aD.t, vI aD.v] J fun ed bg bX bY => ?_
  replace ⟨hD, ay, E, ab, C⟩ := (so [W, O, b] bg).g5 hD ay E ab C
  exact .d <| .rb Tryz.func127 Tryz.results127 bX ⟨⟨((⟨1, 0, 0, bH, (⟨aD.t, aD.v⟩ : Row)⟩ : Evt) : Evt), ⟨_, rfl, ⟨_, _, _, rfl, ab.w1⟩⟩, (by exact ⟨by assumption, by assumption⟩)⟩, cK, by omega, ay, C⟩
 refine .r 1 <| .d <| .cf <| .s <| .g <| .eq bu 3 (fun bZ => ?_) (fun bZ => ?_)
 ·refine .r 1 <| .d <| .ct <| .s <| .g <| .r 1 <| .cl (c_spec_l6Rd_pick 4 aa (hD.toAll (.tail _ (.tail _ (.head _)))) (by omega) (w := aG) (F := all)) ?_
  rintro ee bI ⟨⟨cL, rfl, dt⟩, cM, du, af, bh⟩
  replace ⟨hD, E, J, C⟩ := (so [W, O, b] bh).g4 hD E J C
  refine .eq cL 0 (fun b0 => ?_) (fun b0 => ?_)
  ·refine .d <| .ct <| .s <| .g <| .r 1 <| .sc [vI 4, vI 0, vI 0, .slice none 0 0, vI 0, vI 0] J fun ef bi b6 b7 => ?_
   replace ⟨hD, af, E, C⟩ := (so [W, O, b] bi).g4 hD af E C
   exact .d <| .rb Tryz.func127 Tryz.results127 b6 ⟨⟨((⟨4, 0, 0, ([] : List Tag), (⟨0, 0⟩ : Row)⟩ : Evt) : Evt), ⟨_, rfl, ⟨_, _, _, rfl, (RepS.nil' _ _ none 0 (by decide))⟩⟩, (by exact ⟨NmD.nil, by simp [RowSm]⟩)⟩, cM, by omega, af, C⟩
  refine .d <| .cf <| .sk <| .ib 0 <| .s <| .g <| .r 1 <| .cl (c_spec_l72Known af (hD.toAll (.tail _ (.tail _ (.head _)))) (by omega) (w := bI) (F := all)) ?_
  rintro eg cN ⟨⟨bJ, ⟨cO, cP, rfl, ac⟩, dv⟩, eh, dw, b8, bj⟩
  have bk := al3 J.lt E.lt af.lt
  have b9 : Gb w.heap.size bI.heap.size := C.size
  replace ⟨hD, E, J, C⟩ := (so [W, O, b] bj).g4 hD E J C
  have ac := ac.fr bk b9
  have dx := ac.max
  refine .r 1 <| .cl (c_spec_l71Row b8 (hD.toAll (.tail _ (.tail _ (.head _)))) (by omega) (w := cN) (F := all)) ?_
  rintro ej ek ⟨⟨aE, ⟨_, rfl, rfl⟩, dy⟩, cQ, dz, az, bm⟩
  replace ⟨hD, E, J, ac, C⟩ := (so [W, O, b] bm).g5 hD E J ac C
  refine .r 1 <| .sc [vI 1, vI 0, vI 0, .slice cO bJ.length cP, vI aE.t, vI aE.v] J fun en bn ce cg => ?_
  replace ⟨hD, az, E, ac, C⟩ := (so [W, O, b] bn).g5 hD az E ac C
  exact .d <| .rb Tryz.func127 Tryz.results127 ce ⟨⟨((⟨1, 0, 0, bJ, (⟨aE.t, aE.v⟩ : Row)⟩ : Evt) : Evt), ⟨_, rfl, ⟨_, _, _, rfl, ac.w1⟩⟩, (by exact ⟨by assumption, by assumption⟩)⟩, cQ, by omega, az, C⟩
 refine .r 1 <| .d <| .cf <| .sk <| .ib 0 <| .s <| .g <| .r 1 <| .cl (c_spec_l72Known aa (hD.toAll (.tail _ (.tail _ (.head _)))) (by omega) (w := aG) (F := all)) ?_
 rintro et cR ⟨⟨bK, ⟨cS, cT, rfl, ae⟩, dA⟩, ey, dB, ci, bo⟩
 have bq := al3 J.lt E.lt aa.lt
 have cj : Gb w.heap.size aG.heap.size := C.size
 replace ⟨hD, J, C⟩ := (so [W, O, b] bo).g3 hD J C
 have ae := ae.fr bq cj
 have dC := ae.max
 refine .r 1 <| .cl (c_spec_l71Row ci (hD.toAll (.tail _ (.tail _ (.head _)))) (by omega) (w := cR) (F := all)) ?_
 rintro ez eA ⟨⟨aF, ⟨_, rfl, rfl⟩, dD⟩, cU, dE, aA, br⟩
 replace ⟨hD, J, ae, C⟩ := (so [W, O, b] br).g4 hD J ae C
 refine .r 1 <| .sc [vI 1, vI 0, vI 0, .slice cS bK.length cT, vI aF.t, vI aF.v] J fun eB bt ck cm => ?_
 replace ⟨hD, aA, ae, C⟩ := (so [W, O, b] bt).g4 hD aA ae C
 exact .d <| .rb Tryz.func127 Tryz.results127 ck ⟨⟨((⟨1, 0, 0, bK, (⟨aF.t, aF.v⟩ : Row)⟩ : Evt) : Evt), ⟨_, rfl, ⟨_, _, _, rfl, ae.w1⟩⟩, (by exact ⟨by assumption, by assumption⟩)⟩, cU, by omega, aA, C⟩
theorem c_spec_l72Play  {w : World} {F : Nat → Prop} {b : Nat} {ad : Option Addr} {cd p : Nat} {D : List UInt8} (hr : Box w b 122 [.slice ad D.length cd, .int .i64 (p : Int)]) (hD : RepS w (nin all [b]) ad D.length cd D) (hp : p + 3000 ≤ 1000000000)  : Calls Tryz.prog 85 [.pointer (some ⟨b, 0, none⟩)].toArray w (rets fun rv w' => (∃ (y : Wld), (∃ v0 v1, rv = .tuple #[v0, v1] ∧ True ∧ (∃ (a0 : Option Addr) (n0 c0 : Nat) (a1 : Option Addr) (n1 c1 : Nat) (a2 : Option Addr) (n2 c2 : Nat) (r3 n3 c3 : Nat) (r4 n4 c4 : Nat) (r5 n5 c5 : Nat) (r6 n6 c6 : Nat), v1 = .agg #[.slice a0 n0 c0, .slice a1 n1 c1, .slice a2 n2 c2, .slice (some ⟨r3, 0, none⟩) n3 c3, .slice (some ⟨r4, 0, none⟩) n4 c4, .slice (some ⟨r5, 0, none⟩) n5 c5, .slice (some ⟨r6, 0, none⟩) n6 c6, .int .i64 (y.disk.next)] ∧ RepS w' (nin (ge w.heap.size) [r3, r4, r5, r6]) a0 n0 c0 (y.store.idx.names) ∧ RepS w' (nin (ge w.heap.size) [r3, r4, r5, r6]) a1 n1 c1 (y.store.idx.posts) ∧ RepS w' (nin (ge w.heap.size) [r3, r4, r5, r6]) a2 n2 c2 (y.store.parts) ∧ Own w' r3 107 (nin (ge w.heap.size) [r3, r4, r5, r6]) n3 c3 (y.store.mem) ∧ w.heap.size ≤ r3 ∧ Own w' r4 66 (nin (ge w.heap.size) [r3, r4, r5, r6]) n4 c4 (y.disk.files) ∧ w.heap.size ≤ r4 ∧ Nb r4 r3 ∧ Own w' r5 3 (nin (ge w.heap.size) [r3, r4, r5, r6]) n5 c5 (y.disk.list) ∧ w.heap.size ≤ r5 ∧ Nb r5 r3 ∧ Nb r5 r4 ∧ Own w' r6 77 (nin (ge w.heap.size) [r3, r4, r5, r6]) n6 c6 (y.disk.names) ∧ w.heap.size ≤ r6 ∧ Nb r6 r3 ∧ Nb r6 r4 ∧ Nb r6 r5)) ∧ (WD y)) ∧ ∃ p' : Nat, p' ≤ p + 3000 ∧ Box w' b 122 [.slice ad D.length cd, .int .i64 (p' : Int)] ∧ Chg (one b) w w') := by
 refine goT Tryz.func85 ?_
 have fR := hD.max
 refine .s <| .g <| .r 1 <| .np 70 [.slice none 0 0, .slice none 0 0, .slice none 0 0, .slice none 0 0, .slice none 0 0, .slice none 0 0, .slice none 0 0, vI 0] fun O cR bP bS E dL => ?_
 have fS := nb_new bP hr.lt
 have fT : Cov (one b) w O := cov_new bP (Nat.le_refl _)
 replace ⟨hD, hr⟩ := (sn [b] bS bP).g2 hD hr
 have C : Chg (one b) w cR := Chg.stepN (Chg.refl (one b) w) bS
 refine .d <| .s <| .g <| .cl (c_spec_WorldNew (w := cR) (F := all)) ?_
 rintro gz gA ⟨⟨_, rfl, ⟨dM, gC, dN, dO, gD, dP, dQ, gE, dR, dS, gF, dT, dU, gG, dV, dW, gH, dX, dY, gI, dZ, rfl, bd, bg, bh, bi, bj, bk, bm⟩⟩, b6⟩
 have bn := al2 E.lt hr.lt
 have bq : Gb w.heap.size cR.heap.size := C.size
 replace ⟨hD, hr, E, C⟩ := (se [O, b] b6).g4 hD hr E C
 have bd := bd.fr bn bq
 have fU := bd.max
 have bg := bg.fr bn bq
 have fV := bg.max
 have bh := bh.fr bn bq
 have fW := bh.max
 have bi := bi.fr bn bq
 have fX := bi.max
 have bj := bj.fr bn bq
 have fY := bj.max
 have bk := bk.fr bn bq
 have fZ := bk.max
 have bm := bm.fr bn bq
 have f0 := bm.max
 have d0 := bd.len
 subst d0
 have d3 := bg.len
 subst d3
 have d4 := bh.len
 subst d4
 have d5 := bi.len
 subst d5
 have d6 := bj.len
 subst d6
 have d7 := bk.len
 subst d7
 have d8 := bm.len
 subst d8
 refine .np 70 [.slice none 0 0, .slice none 0 0, .slice none 0 0, .slice none 0 0, .slice none 0 0, .slice none 0 0, .slice none 0 0, vI 0] fun J gJ bF b7 d9 ec => ?_
 have f5 := nb_new bF hr.lt
 have f6 := nb_new bF E.lt
 have f7 := C.cn bF
 replace ⟨hD, hr, E, bd, bg, bh, bi, bj, bk, bm, C⟩ := (sn [O, b] b7 bF).g11 hD hr E bd bg bh bi bj bk bm C
 refine .sc [.slice dM ((((((⟨⟨⟨[], []⟩, [], []⟩, ⟨[], [], [], 1⟩⟩ : Wld)).store).idx).names).length) dN, .slice dO ((((((⟨⟨⟨[], []⟩, [], []⟩, ⟨[], [], [], 1⟩⟩ : Wld)).store).idx).posts).length) dP, .slice dQ (((((⟨⟨⟨[], []⟩, [], []⟩, ⟨[], [], [], 1⟩⟩ : Wld)).store).parts).length) dR, .slice dS (((((⟨⟨⟨[], []⟩, [], []⟩, ⟨[], [], [], 1⟩⟩ : Wld)).store).mem).length) dT, .slice dU (((((⟨⟨⟨[], []⟩, [], []⟩, ⟨[], [], [], 1⟩⟩ : Wld)).disk).files).length) dV, .slice dW (((((⟨⟨⟨[], []⟩, [], []⟩, ⟨[], [], [], 1⟩⟩ : Wld)).disk).list).length) dX, .slice dY (((((⟨⟨⟨[], []⟩, [], []⟩, ⟨[], [], [], 1⟩⟩ : Wld)).disk).names).length) dZ, vI ((((⟨⟨⟨[], []⟩, [], []⟩, ⟨[], [], [], 1⟩⟩ : Wld)).disk).next)] d9 fun gK b8 br ed => ?_
 replace ⟨hD, hr, E, bd, bg, bh, bi, bj, bk, bm, C⟩ := (so [J, O, b] b8).g11 hD hr E bd bg bh bi bj bk bm C
 refine .d <| .s <| .g <| .ns 0 114 [] fun bt ee bz b9 ef eg => ?_
 have eh := nb_new bz hr.lt
 have ej := nb_new bz E.lt
 have ek := nb_new bz br.lt
 have en := C.cn bz
 replace ⟨hD, hr, E, bd, bg, bh, bi, bj, bk, bm, br, C⟩ := (sn [J, O, b] b9 bz).g12 hD hr E bd bg bh bi bj bk bm br C
 have bG : Own (α := Evt) ee bt 114 (nin (ge w.heap.size) [bt, J, O, b]) 0 0 [] := Own.nil' ef
 refine .r 1 <| .d <| .s <| .s <| .g <| .r 1 <| .cl (c_spec_l6Rd_pick 46 hr (hD.toAll (.tail _ (.tail _ (.tail _ (.head _))))) (by omega) (w := ee) (F := all)) ?_
 rintro f8 bA ⟨⟨et, rfl, eB⟩, ey, eC, bT, bU⟩
 replace ⟨hD, E, bd, bg, bh, bi, bj, bk, bm, br, bG, C⟩ := (so [bt, J, O, b] bU).g12 hD E bd bg bh bi bj bk bm br bG C
 refine .r 1 <| .d <| .b 0 <| T.loop (X := (List Evt) × Nat × Nat × Nat × Int × Nat × (List (List Tag)) × (Option Addr) × Nat × Nat × (List Pst) × (Option Addr) × Nat × Nat × (List Prt) × (Option Addr) × Nat × Nat × (List Smp) × (Option Addr) × Nat × Nat × (List Fil) × (Option Addr) × Nat × Nat × (List Int) × (Option Addr) × Nat × Nat × (List (List Tag)) × (Option Addr) × Nat × Nat × Int) (([] : List Evt), bt, 0, 0, et, ey, (((((⟨⟨⟨[], []⟩, [], []⟩, ⟨[], [], [], 1⟩⟩ : Wld)).store).idx).names : List (List Tag)), dM, (((((⟨⟨⟨[], []⟩, [], []⟩, ⟨[], [], [], 1⟩⟩ : Wld)).store).idx).names).length, dN, (((((⟨⟨⟨[], []⟩, [], []⟩, ⟨[], [], [], 1⟩⟩ : Wld)).store).idx).posts : List Pst), dO, (((((⟨⟨⟨[], []⟩, [], []⟩, ⟨[], [], [], 1⟩⟩ : Wld)).store).idx).posts).length, dP, ((((⟨⟨⟨[], []⟩, [], []⟩, ⟨[], [], [], 1⟩⟩ : Wld)).store).parts : List Prt), dQ, ((((⟨⟨⟨[], []⟩, [], []⟩, ⟨[], [], [], 1⟩⟩ : Wld)).store).parts).length, dR, ((((⟨⟨⟨[], []⟩, [], []⟩, ⟨[], [], [], 1⟩⟩ : Wld)).store).mem : List Smp), dS, ((((⟨⟨⟨[], []⟩, [], []⟩, ⟨[], [], [], 1⟩⟩ : Wld)).store).mem).length, dT, ((((⟨⟨⟨[], []⟩, [], []⟩, ⟨[], [], [], 1⟩⟩ : Wld)).disk).files : List Fil), dU, ((((⟨⟨⟨[], []⟩, [], []⟩, ⟨[], [], [], 1⟩⟩ : Wld)).disk).files).length, dV, ((((⟨⟨⟨[], []⟩, [], []⟩, ⟨[], [], [], 1⟩⟩ : Wld)).disk).list : List Int), dW, ((((⟨⟨⟨[], []⟩, [], []⟩, ⟨[], [], [], 1⟩⟩ : Wld)).disk).list).length, dX, ((((⟨⟨⟨[], []⟩, [], []⟩, ⟨[], [], [], 1⟩⟩ : Wld)).disk).names : List (List Tag)), dY, ((((⟨⟨⟨[], []⟩, [], []⟩, ⟨[], [], [], 1⟩⟩ : Wld)).disk).names).length, dZ, (((⟨⟨⟨[], []⟩, [], []⟩, ⟨[], [], [], 1⟩⟩ : Wld)).disk).next) (fun (events, r_events, n_events, c_events, n, p_, aa, a_w_0, n_w_0, c_w_0, ab, a_w_1, n_w_1, c_w_1, ac, a_w_2, n_w_2, c_w_2, ae, a_w_3, n_w_3, c_w_3, af, a_w_4, n_w_4, c_w_4, ag, a_w_5, n_w_5, c_w_5, ah, a_w_6, n_w_6, c_w_6, ai) => [(0, .pointer (some ⟨b, 0, none⟩)), (3, .pointer (some ⟨O, 0, none⟩)), (4, .pointer (some ⟨J, 0, none⟩)), (5, vS r_events n_events c_events), (6, vI n)]) (fun (events, r_events, n_events, c_events, n, p_, aa, a_w_0, n_w_0, c_w_0, ab, a_w_1, n_w_1, c_w_1, ac, a_w_2, n_w_2, c_w_2, ae, a_w_3, n_w_3, c_w_3, af, a_w_4, n_w_4, c_w_4, ag, a_w_5, n_w_5, c_w_5, ah, a_w_6, n_w_6, c_w_6, ai) az => Chg (ins [bt, b, J]) bA az ∧ Own az r_events 114 (nin (ge w.heap.size) [r_events, J, O, b]) n_events c_events events ∧ OrB r_events bt bA.heap.size ∧ RepS az (nin (ge w.heap.size) [r_events, J, O, b]) a_w_0 n_w_0 c_w_0 aa ∧ RepS az (nin (ge w.heap.size) [r_events, J, O, b]) a_w_1 n_w_1 c_w_1 ab ∧ RepS az (nin (ge w.heap.size) [r_events, J, O, b]) a_w_2 n_w_2 c_w_2 ac ∧ RepS az (nin (ge w.heap.size) [r_events, J, O, b]) a_w_3 n_w_3 c_w_3 ae ∧ RepS az (nin (ge w.heap.size) [r_events, J, O, b]) a_w_4 n_w_4 c_w_4 af ∧ RepS az (nin (ge w.heap.size) [r_events, J, O, b]) a_w_5 n_w_5 c_w_5 ag ∧ RepS az (nin (ge w.heap.size) [r_events, J, O, b]) a_w_6 n_w_6 c_w_6 ah ∧ Box az b 122 [.slice ad D.length cd, vI (p_ : Int)] ∧ Box az J 70 [.slice a_w_0 n_w_0 c_w_0, .slice a_w_1 n_w_1 c_w_1, .slice a_w_2 n_w_2 c_w_2, .slice a_w_3 n_w_3 c_w_3, .slice a_w_4 n_w_4 c_w_4, .slice a_w_5 n_w_5 c_w_5, .slice a_w_6 n_w_6 c_w_6, vI ai] ∧ (n ≤ 46) ∧ ((events.length : Int) + n ≤ 46 ∨ n < 0) ∧ ((p_ : Int) + 61 * n ≤ p + 2900 ∨ n < 0) ∧ (p_ ≤ p + 2900) ∧ (WD ⟨⟨⟨aa, ab⟩, ac, ae⟩, ⟨af, ag, ah, ai⟩⟩)) (fun (events, r_events, n_events, c_events, n, p_, aa, a_w_0, n_w_0, c_w_0, ab, a_w_1, n_w_1, c_w_1, ac, a_w_2, n_w_2, c_w_2, ae, a_w_3, n_w_3, c_w_3, af, a_w_4, n_w_4, c_w_4, ag, a_w_5, n_w_5, c_w_5, ah, a_w_6, n_w_6, c_w_6, ai) => n.toNat) (by kernel_rfl) ⟨by kernel_rfl, by kernel_rfl, by kernel_rfl, by kernel_rfl, by kernel_rfl, trivial⟩ ⟨Chg.refl _ _, bG, orb_refl, bd, bg, bh, bi, bj, bk, bm, bT, br, (by omega), (by (simp; omega)), (by omega), (by omega), (by exact WD.new)⟩ ?_
 rintro ⟨events, r_events, n_events, c_events, n, p_, aa, a_w_0, n_w_0, c_w_0, ab, a_w_1, n_w_1, c_w_1, ac, a_w_2, n_w_2, c_w_2, ae, a_w_3, n_w_3, c_w_3, af, a_w_4, n_w_4, c_w_4, ag, a_w_5, n_w_5, c_w_5, ah, a_w_6, n_w_6, c_w_6, ai⟩ f9 az ⟨av, ax, aM, ak, al, am, ao, aq, ar, au, aI, aj, eD, eE, eF, eG, eH⟩ bQ
 have eI := nb_or' aM eh bT.lt
 have eJ := nb_or' aM ej E.lt
 have cS := nb_or' aM ek br.lt
 have eK := cov_or' aM en C.size
 have cT : Cov (ins [bt, b, J]) bA bt := ⟨.inl (.head _)⟩
 have eL : Cov (ins [bt, b, J]) bA b := ⟨.inl (.tail _ (.head _))⟩
 have eM : Cov (ins [bt, b, J]) bA J := ⟨.inl (.tail _ (.tail _ (.head _)))⟩
 have eN := cov_or' aM cT (Nat.le_refl _)
 have bV : Mv [bt, J, O, b] [r_events, J, O, b] bA az := Mv.inl av (all_cons (.head _) (all_cons (.tail _ (.tail _ (.tail _ (.head _)))) (all_cons (.tail _ (.head _)) all_nil))) (all_cons (orb_mem aM (.head _)) (all_cons (.inl (.tail _ (.head _))) (all_cons (.inl (.tail _ (.tail _ (.head _)))) (all_cons (.inl (.tail _ (.tail _ (.tail _ (.head _))))) all_nil))))
 replace ⟨hD, E, C⟩ := (sp bV av).g3 hD E C
 have eO := ax.len; have eP := ax.max
 have eQ := ak.len; have eR := ak.max
 have eS := al.len; have eT := al.max
 have eU := am.len; have eV := am.max
 have eW := ao.len; have eX := ao.max
 have eY := aq.len; have eZ := aq.max
 have e7 := ar.len; have e8 := ar.max
 have fa := au.len; have fb := au.max
 refine .s <| .s <| .g <| .r 1 <| .bp (n > 0) (fun cU => ?_) (fun cU => ?_)
 ·refine .d <| .ct <| .sk <| .s <| .b 1 <| .s <| .g <| .r 1 <| .ln aj <| .cl (c_spec_l72Event (⟨(⟨(⟨aa, ab⟩ : Idx), ac, ae⟩ : Sto), (⟨af, ag, ah, ai⟩ : Dsk)⟩ : Wld) aI (hD.toAll (.tail _ (.tail _ (.tail _ (.head _))))) (by omega) (ak.toAll (.tail _ (.tail _ (.tail _ (.head _))))) (al.toAll (.tail _ (.tail _ (.tail _ (.head _))))) (am.toAll (.tail _ (.tail _ (.tail _ (.head _))))) (ao.toAll (.tail _ (.tail _ (.tail _ (.head _))))) (aq.toAll (.tail _ (.tail _ (.tail _ (.head _))))) (ar.toAll (.tail _ (.tail _ (.tail _ (.head _))))) (au.toAll (.tail _ (.tail _ (.tail _ (.head _))))) (by have q1 : WD ⟨⟨⟨aa, ab⟩, ac, ae⟩, ⟨af, ag, ah, ai⟩⟩ := ‹_›; have q2 := q1.wi.dsk.nl; dsimp only at q2 ⊢; omega) (w := az) (F := all)) ?_
  rintro ga gb ⟨⟨W, ⟨_, rfl, ⟨ce, gf, cg, rfl, aC⟩⟩, fc⟩, ez, fd, aw, bH⟩
  have bW := al4 ax.lt aj.lt E.lt aI.lt
  have cV : Gb w.heap.size az.heap.size := C.size
  replace ⟨hD, E, aj, ax, ak, al, am, ao, aq, ar, au, C⟩ := (so [r_events, J, O, b] bH).g12 hD E aj ax ak al am ao aq ar au C
  replace av := (so [r_events, J, O, b] bH).g1 av
  have aC := aC.fr bW cV
  have fe := aC.max
  have cW := aC.len
  subst cW
  refine .np 114 [vI 0, vI 0, vI 0, .slice none 0 0, vI 0, vI 0] fun ay gh aD bI cX cY => ?_
  have ff := nb_new aD aw.lt
  have fg := nb_new aD E.lt
  have fh := nb_new aD aj.lt
  have fi := nb_new aD ax.lt
  have fj := C.cn aD
  have fk := av.cn aD
  replace ⟨hD, aw, E, aj, ax, ak, al, am, ao, aq, ar, au⟩ := (sn [r_events, J, O, b] bI aD).g12 hD aw E aj ax ak al am ao aq ar au
  replace ⟨aC, C, av⟩ := (sn [r_events, J, O, b] bI aD).g3 aC C av
  refine .sc [vI W.kind, vI W.at_, vI W.cut, .slice ce W.name.length cg, vI W.row.t, vI W.row.v] cX fun gi bJ aJ cZ => ?_
  replace ⟨hD, aw, E, aj, ax, ak, al, am, ao, aq, ar, au⟩ := (so [ay, r_events, J, O, b] bJ).g12 hD aw E aj ax ak al am ao aq ar au
  replace ⟨aC, C, av⟩ := (so [ay, r_events, J, O, b] bJ).g3 aC C av
  refine .d <| .s <| .g <| .r 1 <| .ln aJ <| .ns 1 114 [vI W.kind, vI W.at_, vI W.cut, .slice ce W.name.length cg, vI W.row.t, vI W.row.v] fun ci gj aN bK c7 c8 => ?_
  have c9 := nb_new aN aw.lt
  have da := nb_new aN E.lt
  have db := nb_new aN aj.lt
  have bX := nb_new aN ax.lt
  have de := nb_new aN aJ.lt
  have df := gb_new aN C.size
  replace ⟨hD, aw, E, aj, ax, ak, al, am, ao, aq, ar, au⟩ := (se [ay, r_events, J, O, b] bK).g12 hD aw E aj ax ak al am ao aq ar au
  replace ⟨aC, aJ, C, av⟩ := (se [ay, r_events, J, O, b] bK).g4 aC aJ C av
  have bR : nin (ge w.heap.size) [ay, r_events, J, O, b] ci ∧ ci ≠ r_events := hap_mk df (all_cons de (all_cons bX (all_cons db (all_cons da (all_cons c9 all_nil))))) bX
  refine RG.append1 (T := 71) (ty := 71) (y := W) ax c7 (by kernel_rfl) (by kernel_rfl) ⟨_, _, _, rfl, aC.oi⟩ bR (by omega) fun aB eA cj aA aU bL => ?_
  have fm := nb_or aU cS aj.lt
  have dg := orb_or aU aM av.size
  replace ⟨hD, aw, E, aj, ak, al, am, ao, aq, ar, au, aC⟩ := (sa [ay, r_events, J, O, b] bL aU).g12 hD aw E aj ak al am ao aq ar au aC
  replace ⟨aJ, C, av⟩ := (sa [ay, r_events, J, O, b] bL aU).g3 aJ C av
  replace aA := aA.rn r_events
  have fp := aA.len; have fq := aA.max
  refine .r 1 <| .d <| .g <| .ln aj <| .ln aJ <| .cl (c_spec_l22Do (⟨(⟨(⟨aa, ab⟩ : Idx), ac, ae⟩ : Sto), (⟨af, ag, ah, ai⟩ : Dsk)⟩ : Wld) W ak al am ao aq ar au aC (by assumption : WD _).wi (NmD.sz (by assumption : EvD _).1) (w := cj) (F := nin (ge w.heap.size) [ay, aB, J, O, b])) ?_
  rintro gk gl ⟨⟨_, rfl, ⟨ck, gm, cm, co, gn, cp, cq, gp, cr, cu, gq, cv, cw, gr, cx, cy, gs, cz, cA, gt, cB, rfl, aV, aW, aX, aY, aZ, ba, bc⟩⟩, bM⟩
  have aK := al5 aJ.lt aA.lt aj.lt E.lt aw.lt
  have aO : Gb w.heap.size cj.heap.size := C.size
  replace ⟨hD, aw, E, aj, aA, ak, al, am, ao, aq, ar, au⟩ := (se [ay, aB, J, O, b] bM).g12 hD aw E aj aA ak al am ao aq ar au
  replace ⟨C, av⟩ := (se [ay, aB, J, O, b] bM).g2 C av
  replace aV := RepS.mixedG (M := [ay, aB, J, O, b]) aV aK (fun _ h => Nat.le_trans aO h)
  have ft := aV.max
  replace aW := RepS.mixedG (M := [ay, aB, J, O, b]) aW aK (fun _ h => Nat.le_trans aO h)
  have fu := aW.max
  replace aX := RepS.mixedG (M := [ay, aB, J, O, b]) aX aK (fun _ h => Nat.le_trans aO h)
  have fv := aX.max
  replace aY := RepS.mixedG (M := [ay, aB, J, O, b]) aY aK (fun _ h => Nat.le_trans aO h)
  have fw := aY.max
  replace aZ := RepS.mixedG (M := [ay, aB, J, O, b]) aZ aK (fun _ h => Nat.le_trans aO h)
  have fz := aZ.max
  replace ba := RepS.mixedG (M := [ay, aB, J, O, b]) ba aK (fun _ h => Nat.le_trans aO h)
  have fA := ba.max
  replace bc := RepS.mixedG (M := [ay, aB, J, O, b]) bc aK (fun _ h => Nat.le_trans aO h)
  have fB := bc.max
  have dh := aV.len
  subst dh
  have dj := aW.len
  subst dj
  have dm := aX.len
  subst dm
  have dp := aY.len
  subst dp
  have dq := aZ.len
  subst dq
  have dr := ba.len
  subst dr
  have dt := bc.len
  subst dt
  refine .sc [.slice ck (((((doW (⟨(⟨(⟨aa, ab⟩ : Idx), ac, ae⟩ : Sto), (⟨af, ag, ah, ai⟩ : Dsk)⟩ : Wld) W).store).idx).names).length) cm, .slice co (((((doW (⟨(⟨(⟨aa, ab⟩ : Idx), ac, ae⟩ : Sto), (⟨af, ag, ah, ai⟩ : Dsk)⟩ : Wld) W).store).idx).posts).length) cp, .slice cq ((((doW (⟨(⟨(⟨aa, ab⟩ : Idx), ac, ae⟩ : Sto), (⟨af, ag, ah, ai⟩ : Dsk)⟩ : Wld) W).store).parts).length) cr, .slice cu ((((doW (⟨(⟨(⟨aa, ab⟩ : Idx), ac, ae⟩ : Sto), (⟨af, ag, ah, ai⟩ : Dsk)⟩ : Wld) W).store).mem).length) cv, .slice cw ((((doW (⟨(⟨(⟨aa, ab⟩ : Idx), ac, ae⟩ : Sto), (⟨af, ag, ah, ai⟩ : Dsk)⟩ : Wld) W).disk).files).length) cx, .slice cy ((((doW (⟨(⟨(⟨aa, ab⟩ : Idx), ac, ae⟩ : Sto), (⟨af, ag, ah, ai⟩ : Dsk)⟩ : Wld) W).disk).list).length) cz, .slice cA ((((doW (⟨(⟨(⟨aa, ab⟩ : Idx), ac, ae⟩ : Sto), (⟨af, ag, ah, ai⟩ : Dsk)⟩ : Wld) W).disk).names).length) cB, vI (((doW (⟨(⟨(⟨aa, ab⟩ : Idx), ac, ae⟩ : Sto), (⟨af, ag, ah, ai⟩ : Dsk)⟩ : Wld) W).disk).next)] aj fun cC bN du dv => ?_
  replace ⟨hD, aw, E, aA, ak, al, am, ao, aq, ar, au, aV⟩ := (so [ay, aB, J, O, b] bN).g12 hD aw E aA ak al am ao aq ar au aV
  replace ⟨aW, aX, aY, aZ, ba, bc, C, av⟩ := (so [ay, aB, J, O, b] bN).g8 aW aX aY aZ ba bc C av
  refine .d <| .ib 1 <| .g <| .r 1 <| .it (n - 1) <| .r 1 <| .d ?_
  have bY : Mv [ay, aB, J, O, b] [aB, J, O, b] cC cC := Mv.less (all_cons (.tail _ (.head _)) (all_cons (.tail _ (.tail _ (.head _))) (all_cons (.tail _ (.tail _ (.tail _ (.head _)))) (all_cons (.tail _ (.tail _ (.tail _ (.tail _ (.head _))))) all_nil))))
  replace ⟨hD, aA, ak, al, am, ao, aq, ar, au, aV, aW, aX⟩ := (sp bY (Chg.refl nil _)).g12 hD aA ak al am ao aq ar au aV aW aX
  replace ⟨aY, aZ, ba, bc⟩ := (sp bY (Chg.refl nil _)).g4 aY aZ ba bc
  exact bQ ((events ++ [W]), aB, n_events + 1, eA, n - 1, ez, (((doW (⟨(⟨(⟨aa, ab⟩ : Idx), ac, ae⟩ : Sto), (⟨af, ag, ah, ai⟩ : Dsk)⟩ : Wld) W).store).idx).names, ck, ((((doW (⟨(⟨(⟨aa, ab⟩ : Idx), ac, ae⟩ : Sto), (⟨af, ag, ah, ai⟩ : Dsk)⟩ : Wld) W).store).idx).names).length, cm, (((doW (⟨(⟨(⟨aa, ab⟩ : Idx), ac, ae⟩ : Sto), (⟨af, ag, ah, ai⟩ : Dsk)⟩ : Wld) W).store).idx).posts, co, ((((doW (⟨(⟨(⟨aa, ab⟩ : Idx), ac, ae⟩ : Sto), (⟨af, ag, ah, ai⟩ : Dsk)⟩ : Wld) W).store).idx).posts).length, cp, ((doW (⟨(⟨(⟨aa, ab⟩ : Idx), ac, ae⟩ : Sto), (⟨af, ag, ah, ai⟩ : Dsk)⟩ : Wld) W).store).parts, cq, (((doW (⟨(⟨(⟨aa, ab⟩ : Idx), ac, ae⟩ : Sto), (⟨af, ag, ah, ai⟩ : Dsk)⟩ : Wld) W).store).parts).length, cr, ((doW (⟨(⟨(⟨aa, ab⟩ : Idx), ac, ae⟩ : Sto), (⟨af, ag, ah, ai⟩ : Dsk)⟩ : Wld) W).store).mem, cu, (((doW (⟨(⟨(⟨aa, ab⟩ : Idx), ac, ae⟩ : Sto), (⟨af, ag, ah, ai⟩ : Dsk)⟩ : Wld) W).store).mem).length, cv, ((doW (⟨(⟨(⟨aa, ab⟩ : Idx), ac, ae⟩ : Sto), (⟨af, ag, ah, ai⟩ : Dsk)⟩ : Wld) W).disk).files, cw, (((doW (⟨(⟨(⟨aa, ab⟩ : Idx), ac, ae⟩ : Sto), (⟨af, ag, ah, ai⟩ : Dsk)⟩ : Wld) W).disk).files).length, cx, ((doW (⟨(⟨(⟨aa, ab⟩ : Idx), ac, ae⟩ : Sto), (⟨af, ag, ah, ai⟩ : Dsk)⟩ : Wld) W).disk).list, cy, (((doW (⟨(⟨(⟨aa, ab⟩ : Idx), ac, ae⟩ : Sto), (⟨af, ag, ah, ai⟩ : Dsk)⟩ : Wld) W).disk).list).length, cz, ((doW (⟨(⟨(⟨aa, ab⟩ : Idx), ac, ae⟩ : Sto), (⟨af, ag, ah, ai⟩ : Dsk)⟩ : Wld) W).disk).names, cA, (((doW (⟨(⟨(⟨aa, ab⟩ : Idx), ac, ae⟩ : Sto), (⟨af, ag, ah, ai⟩ : Dsk)⟩ : Wld) W).disk).names).length, cB, ((doW (⟨(⟨(⟨aa, ab⟩ : Idx), ac, ae⟩ : Sto), (⟨af, ag, ah, ai⟩ : Dsk)⟩ : Wld) W).disk).next) _ _ ⟨by kernel_rfl, by kernel_rfl, by kernel_rfl, by kernel_rfl, by kernel_rfl, trivial⟩ ⟨av, aA, dg, aV, aW, aX, aY, aZ, ba, bc, aw, du, (by omega), (by omega), (by omega), (by omega), (by exact WD.do ‹_› (by assumption : EvD _).1)⟩ (by (simp only []; omega))
 refine .d <| .cf <| .x 0 rfl <| .s <| .g <| .r 1 <| .ln aj <| .cl (c_spec_l22Copy (⟨(⟨(⟨aa, ab⟩ : Idx), ac, ae⟩ : Sto), (⟨af, ag, ah, ai⟩ : Dsk)⟩ : Wld) ak.ta al.ta am.ta ao.ta aq.ta ar.ta au.ta (by assumption : WD _).wi (w := az) (F := all)) ?_
 rintro gu bo ⟨⟨cD, gv, cE, cF, gw, cG, cH, gx, cI, aE, cJ, cK, aF, cL, cM, aG, cN, cO, aH, cP, cQ, rfl, bu, bv, bw, aP, bB, aQ, bC, dw, aR, bD, dx, dy, aS, bE, dz, dA, dB⟩, bO⟩
 have aL := al4 ax.lt aj.lt E.lt aI.lt
 have aT : Gb w.heap.size az.heap.size := C.size
 have fC := nb_ge bB E.lt
 have dC := gb_ge bB C.size
 have fD := nb_ge bC E.lt
 have dD := gb_ge bC C.size
 have fE := nb_ge bD E.lt
 have dE := gb_ge bD C.size
 have fF := nb_ge bE E.lt
 have dF := gb_ge bE C.size
 have bZ : Mv [r_events, J, O, b] [aE, aF, aG, aH, r_events, J, O, b] az bo := Mv.cons (Mv.cons (Mv.cons (Mv.cons (Mv.ext bO) bE) bD) bC) bB
 replace ⟨hD, aI, E, C⟩ := (sp bZ bO).g4 hD aI E C
 replace bu : RepS bo (nin (ge w.heap.size) [aE, aF, aG, aH, r_events, J, O, b]) _ _ _ _ := RepS.takeM (s0 := w.heap.size) (M := [r_events, J, O, b]) bu aL aT
 have fG := bu.max
 replace bv : RepS bo (nin (ge w.heap.size) [aE, aF, aG, aH, r_events, J, O, b]) _ _ _ _ := RepS.takeM (s0 := w.heap.size) (M := [r_events, J, O, b]) bv aL aT
 have fH := bv.max
 replace bw : RepS bo (nin (ge w.heap.size) [aE, aF, aG, aH, r_events, J, O, b]) _ _ _ _ := RepS.takeM (s0 := w.heap.size) (M := [r_events, J, O, b]) bw aL aT
 have fI := bw.max
 replace aP : Own bo aE 107 (nin (ge w.heap.size) [aE, aF, aG, aH, r_events, J, O, b]) _ _ _ := Own.takeM (s0 := w.heap.size) (M := [r_events, J, O, b]) aP aL aT
 have fJ := aP.max
 have fK := aP.len
 replace aQ : Own bo aF 66 (nin (ge w.heap.size) [aE, aF, aG, aH, r_events, J, O, b]) _ _ _ := Own.takeM (s0 := w.heap.size) (M := [r_events, J, O, b]) aQ aL aT
 have fL := aQ.max
 have fM := aQ.len
 replace aR : Own bo aG 3 (nin (ge w.heap.size) [aE, aF, aG, aH, r_events, J, O, b]) _ _ _ := Own.takeM (s0 := w.heap.size) (M := [r_events, J, O, b]) aR aL aT
 have fN := aR.max
 have fO := aR.len
 replace aS : Own bo aH 77 (nin (ge w.heap.size) [aE, aF, aG, aH, r_events, J, O, b]) _ _ _ := Own.takeM (s0 := w.heap.size) (M := [r_events, J, O, b]) aS aL aT
 have fP := aS.max
 have fQ := aS.len
 have dG := bu.len
 subst dG
 have dH := bv.len
 subst dH
 have dI := bw.len
 subst dI
 refine .r 1 <| .sc [.slice cD ((((((copyW (⟨(⟨(⟨aa, ab⟩ : Idx), ac, ae⟩ : Sto), (⟨af, ag, ah, ai⟩ : Dsk)⟩ : Wld))).store).idx).names).length) cE, .slice cF ((((((copyW (⟨(⟨(⟨aa, ab⟩ : Idx), ac, ae⟩ : Sto), (⟨af, ag, ah, ai⟩ : Dsk)⟩ : Wld))).store).idx).posts).length) cG, .slice cH (((((copyW (⟨(⟨(⟨aa, ab⟩ : Idx), ac, ae⟩ : Sto), (⟨af, ag, ah, ai⟩ : Dsk)⟩ : Wld))).store).parts).length) cI, vS aE cJ cK, vS aF cL cM, vS aG cN cO, vS aH cP cQ, vI ((((copyW (⟨(⟨(⟨aa, ab⟩ : Idx), ac, ae⟩ : Sto), (⟨af, ag, ah, ai⟩ : Dsk)⟩ : Wld))).disk).next)] E fun gy b0 dJ dK => ?_
 replace ⟨hD, aI, bu, bv, bw, aP, aQ, aR, aS, C⟩ := (so [aE, aF, aG, aH, r_events, J, O, b] b0).g10 hD aI bu bv bw aP aQ aR aS C
 exact .d <| .r2 Tryz.func85 Tryz.results85 (.t (vS r_events n_events c_events)) (.bx dJ) ⟨⟨((⟨(⟨(⟨((((copyW (⟨(⟨(⟨aa, ab⟩ : Idx), ac, ae⟩ : Sto), (⟨af, ag, ah, ai⟩ : Dsk)⟩ : Wld))).store).idx).names, ((((copyW (⟨(⟨(⟨aa, ab⟩ : Idx), ac, ae⟩ : Sto), (⟨af, ag, ah, ai⟩ : Dsk)⟩ : Wld))).store).idx).posts⟩ : Idx), (((copyW (⟨(⟨(⟨aa, ab⟩ : Idx), ac, ae⟩ : Sto), (⟨af, ag, ah, ai⟩ : Dsk)⟩ : Wld))).store).parts, (((copyW (⟨(⟨(⟨aa, ab⟩ : Idx), ac, ae⟩ : Sto), (⟨af, ag, ah, ai⟩ : Dsk)⟩ : Wld))).store).mem⟩ : Sto), (⟨(((copyW (⟨(⟨(⟨aa, ab⟩ : Idx), ac, ae⟩ : Sto), (⟨af, ag, ah, ai⟩ : Dsk)⟩ : Wld))).disk).files, (((copyW (⟨(⟨(⟨aa, ab⟩ : Idx), ac, ae⟩ : Sto), (⟨af, ag, ah, ai⟩ : Dsk)⟩ : Wld))).disk).list, (((copyW (⟨(⟨(⟨aa, ab⟩ : Idx), ac, ae⟩ : Sto), (⟨af, ag, ah, ai⟩ : Dsk)⟩ : Wld))).disk).names, (((copyW (⟨(⟨(⟨aa, ab⟩ : Idx), ac, ae⟩ : Sto), (⟨af, ag, ah, ai⟩ : Dsk)⟩ : Wld))).disk).next⟩ : Dsk)⟩ : Wld) : Wld), ⟨_, _, (tup2 rfl rfl), trivial, ⟨cD, (((((copyW (⟨(⟨(⟨aa, ab⟩ : Idx), ac, ae⟩ : Sto), (⟨af, ag, ah, ai⟩ : Dsk)⟩ : Wld))).store).idx).names).length, cE, cF, (((((copyW (⟨(⟨(⟨aa, ab⟩ : Idx), ac, ae⟩ : Sto), (⟨af, ag, ah, ai⟩ : Dsk)⟩ : Wld))).store).idx).posts).length, cG, cH, ((((copyW (⟨(⟨(⟨aa, ab⟩ : Idx), ac, ae⟩ : Sto), (⟨af, ag, ah, ai⟩ : Dsk)⟩ : Wld))).store).parts).length, cI, aE, cJ, cK, aF, cL, cM, aG, cN, cO, aH, cP, cQ, rfl, ((RepS.lessM bu (all_cons (.head _) (all_cons (.tail _ (.head _)) (all_cons (.tail _ (.tail _ (.head _))) (all_cons (.tail _ (.tail _ (.tail _ (.head _)))) all_nil))))).eqx (by rfl)), ((RepS.lessM bv (all_cons (.head _) (all_cons (.tail _ (.head _)) (all_cons (.tail _ (.tail _ (.head _))) (all_cons (.tail _ (.tail _ (.tail _ (.head _)))) all_nil))))).eqx (by rfl)), ((RepS.lessM bw (all_cons (.head _) (all_cons (.tail _ (.head _)) (all_cons (.tail _ (.tail _ (.head _))) (all_cons (.tail _ (.tail _ (.tail _ (.head _)))) all_nil))))).eqx (by rfl)), ((Own.lessM aP (all_cons (.head _) (all_cons (.tail _ (.head _)) (all_cons (.tail _ (.tail _ (.head _))) (all_cons (.tail _ (.tail _ (.tail _ (.head _)))) all_nil))))).eqx (by rfl)), dC, ((Own.lessM aQ (all_cons (.head _) (all_cons (.tail _ (.head _)) (all_cons (.tail _ (.tail _ (.head _))) (all_cons (.tail _ (.tail _ (.tail _ (.head _)))) all_nil))))).eqx (by rfl)), dD, dw, ((Own.lessM aR (all_cons (.head _) (all_cons (.tail _ (.head _)) (all_cons (.tail _ (.tail _ (.head _))) (all_cons (.tail _ (.tail _ (.tail _ (.head _)))) all_nil))))).eqx (by rfl)), dE, dx, dy, ((Own.lessM aS (all_cons (.head _) (all_cons (.tail _ (.head _)) (all_cons (.tail _ (.tail _ (.head _))) (all_cons (.tail _ (.tail _ (.tail _ (.head _)))) all_nil))))).eqx (by rfl)), dF, dz, dA, dB⟩⟩, (by exact WD.copy ‹_›)⟩, p_, by omega, aI, C⟩
end Go.Proofs.YtganlmloonielaaGreat
namespace Go.Proofs.YtganlmloonielaaGreat
def tagsU : List Tag := (List.range' 97 4).flatMap (fun k => (List.range' 112 11).map (tagAt k))
theorem postsV_eq (names : List (List Tag)) (k : Nat) : ∀ f v, postsV names k f v = ((List.range' v f).map (tagAt k)).flatMap (post1 names) := by
 intro f
 induction f with
 | zero => intro v; rfl
 | succ f ih => intro v; rw [postsV, ih, List.range'_succ]; rfl
theorem postsK_eq (names : List (List Tag)) : ∀ f k, postsK names f k = ((List.range' k f).flatMap (fun k => (List.range' 112 11).map (tagAt k))).flatMap (post1 names) := by
 intro f
 induction f with
 | zero => intro k; rfl
 | succ f ih => intro k; rw [postsK, ih, postsV_eq, show List.range' k (f + 1) = k :: List.range' (k + 1) f from rfl, List.flatMap_cons, List.flatMap_append]
theorem postsOf_eq (names : List (List Tag)) : postsOf names = tagsU.flatMap (post1 names) := postsK_eq names 4 97
theorem tagsU_sorted : tagsU.Pairwise (fun a b => tagLt a b = true) := by decide +kernel
theorem tagsU_mem {t : Tag} (h : tagOk t = true) : t ∈ tagsU := by
 simp only [tagOk, Bool.and_eq_true] at h
 obtain ⟨h1, h2⟩ := h
 obtain ⟨x, hx⟩ : ∃ x, t.key = [x] := by
  have := one1_len h1
  match t.key, this with
  | [x], _ => exact ⟨x, rfl⟩
 obtain ⟨y, hy⟩ : ∃ y, t.val = [y] := by
  have := one1_len h2
  match t.val, this with
  | [y], _ => exact ⟨y, rfl⟩
 rw [hx] at h1
 rw [hy] at h2
 have g1 := inR_t h1
 have g2 := inR_t h2
 unfold tagsU
 refine List.mem_flatMap.2 ⟨x.toNat, ?_, List.mem_map.2 ⟨y.toNat, ?_, ?_⟩⟩
 ·rw [List.mem_range'_1]; omega
 ·rw [List.mem_range'_1]; omega
 ·cases t
  simp only at hx hy
  subst hx hy
  simp [tagAt]
theorem posts_mem {names : List (List Tag)} {p : Pst} (h : p ∈ postsOf names) : p.ids = ids names p.tag ∧ 0 < p.ids.length ∧ p.tag ∈ tagsU := by
 rw [postsOf_eq] at h
 obtain ⟨t, ht, hp⟩ := List.mem_flatMap.1 h
 unfold post1 at hp
 split at hp
 ·simp at hp
  subst hp
  exact ⟨rfl, by assumption, ht⟩
 ·cases hp
theorem posts_in {names : List (List Tag)} {t : Tag} (h : t ∈ tagsU) (h2 : 0 < (ids names t).length) : ⟨t, ids names t⟩ ∈ postsOf names := by
 rw [postsOf_eq]
 refine List.mem_flatMap.2 ⟨t, h, ?_⟩
 unfold post1
 rw [if_pos h2]
 simp
theorem posts_sorted (names : List (List Tag)) : (postsOf names).Pairwise (fun a b => tagLt a.tag b.tag = true) := by
 rw [postsOf_eq, List.pairwise_flatMap]
 refine ⟨fun t _ => ?_, tagsU_sorted.imp ?_⟩
 ·unfold post1
  split <;> simp
 ·intro a b hab x hx y hy
  have h1 : x.tag = a := by
   unfold post1 at hx
   split at hx
   ·simp at hx; rw [hx]
   ·cases hx
  have h2 : y.tag = b := by
   unfold post1 at hy
   split at hy
   ·simp at hy; rw [hy]
   ·cases hy
  rw [h1, h2]
  exact hab
def lenSum (names : List (List Tag)) : Nat := (names.map List.length).sum
def idSum (ps : List Pst) : Nat := (ps.map (fun p => p.ids.length)).sum
theorem idsF_len (t : Tag) : ∀ (ns : List (List Tag)) (i : Nat), (idsF t i ns).length = (ns.map (fun n => if has n t then 1 else 0)).sum := by
 intro ns
 induction ns with
 | nil => intro i; rfl
 | cons n ns ih =>
   intro i
   rw [idsF, List.length_append, ih, List.map_cons, List.sum_cons]
   split <;> simp_all
theorem idSum_posts (names : List (List Tag)) : idSum (postsOf names) = (tagsU.map (fun t => (ids names t).length)).sum := by
 rw [postsOf_eq]
 generalize tagsU = U
 induction U with
 | nil => rfl
 | cons t ts ih =>
   rw [List.flatMap_cons]
   unfold idSum at ih ⊢
   rw [List.map_append, List.sum_append, ih, List.map_cons, List.sum_cons]
   congr 1
   unfold post1
   split
   ·simp
   ·simp; omega
theorem sum_zero {α : Type} (U : List α) (f : α → Nat) (h : ∀ a ∈ U, f a = 0) : (U.map f).sum = 0 := by
 induction U with
 | nil => rfl
 | cons a U ih => rw [List.map_cons, List.sum_cons, h a (by simp), ih (fun b hb => h b (by simp [hb]))]
theorem sum_add {α : Type} (U : List α) (f g : α → Nat) : (U.map (fun a => f a + g a)).sum = (U.map f).sum + (U.map g).sum := by
 induction U with
 | nil => rfl
 | cons a U ih => simp only [List.map_cons, List.sum_cons, ih]; omega
theorem sum_one {U : List Tag} (hU : U.Nodup) {t : Tag} (ht : t ∈ U) : (U.map (fun u => if t == u then 1 else 0)).sum = 1 := by
 induction U with
 | nil => cases ht
 | cons a U ih =>
   rw [List.map_cons, List.sum_cons]
   obtain ⟨h1, h2⟩ := List.nodup_cons.1 hU
   rcases List.mem_cons.1 ht with rfl | ht
   ·rw [sum_zero U _ (fun b hb => by
     have : ¬ (t == b) = true := fun e => h1 (by rw [eq_of_beq e]; exact hb)
     simp only [this]; rfl)]
    simp
   ·have : ¬ (t == a) = true := fun e => h1 (by rw [← eq_of_beq e]; exact ht)
    rw [ih h2 ht, if_neg this]
theorem has_sum {U : List Tag} (hU : U.Nodup) : ∀ (n : List Tag), n.Nodup → (∀ t ∈ n, t ∈ U) → (U.map (fun u => if has n u then 1 else 0)).sum = n.length := by
 intro n
 induction n with
 | nil => intro _ _; exact sum_zero U _ (fun a _ => by simp [has])
 | cons t ts ih =>
   intro hn hm
   obtain ⟨h1, h2⟩ := List.nodup_cons.1 hn
   have e : (U.map (fun u => if has (t :: ts) u then 1 else 0)) = U.map (fun u => (if t == u then 1 else 0) + (if has ts u then 1 else 0)) := by
    apply List.map_congr_left
    intro u _
    by_cases hu : (t == u) = true
    ·have h3 : has ts u = false := by
      rw [← eq_of_beq hu]
      unfold has
      rw [List.any_eq_false]
      intro x hx hxt
      exact h1 (by rw [← eq_of_beq hxt]; exact hx)
     simp [has, hu]
     unfold has at h3
     rw [List.any_eq_false] at h3
     exact fun hm => h3 u hm (by simp)
    ·simp [has, hu]
   rw [e, sum_add, sum_one hU (hm t (by simp)), ih h2 (fun x hx => hm x (by simp [hx])), List.length_cons]
   omega
theorem strLt_irr : ∀ (s : Str), strLt s s = false := by
 intro s
 induction s with
 | nil => rfl
 | cons x xs ih =>
   have ih' : Op.bytesLess xs xs = false := ih
   show (decide (x < x) || x == x && Op.bytesLess xs xs) = false
   simp [ih']
theorem strLt_key {a b : Tag} (ha : tagOk a = true) (hb : tagOk b = true) (h : strLt a.key b.key = true) : ∃ x y, a.key = [x] ∧ b.key = [y] ∧ x.toNat < y.toNat := by
 simp only [tagOk, Bool.and_eq_true] at ha hb
 have h1 := one1_len ha.1
 have h2 := one1_len hb.1
 match ha' : a.key, h1, hb' : b.key, h2 with
 | [x], _, [y], _ =>
   rw [ha', hb', strLt1] at h
   exact ⟨x, y, rfl, rfl, by simpa using h⟩
theorem nameF_keys : ∀ (n : List Tag) (o : Option Tag), nameF o n = true → (∀ q, o = some q → tagOk q = true) → (∀ q, o = some q → ∀ t ∈ n, strLt q.key t.key = true) ∧ n.Nodup := by
 intro n
 induction n with
 | nil => intro o _ _; exact ⟨fun _ _ t ht => (by cases ht), by simp⟩
 | cons t ts ih =>
   intro o h ho
   simp only [nameF, Bool.and_eq_true] at h
   obtain ⟨⟨h1, h2⟩, h3⟩ := h
   obtain ⟨g1, g2⟩ := ih (some t) h3 (fun q hq => by cases hq; exact h1)
   refine ⟨fun q hq u hu => ?_, List.nodup_cons.2 ⟨fun hm => ?_, g2⟩⟩
   ·subst hq
    have h4 : strLt q.key t.key = true := h2
    rcases List.mem_cons.1 hu with rfl | hu
    ·exact h4
    ·have h5 := g1 t rfl u hu
     obtain ⟨x, y, e1, e2, l1⟩ := strLt_key (ho q rfl) h1 h4
     obtain ⟨y', z, e3, e4, l2⟩ := strLt_key h1 (nameF_tags ts (some t) h3 u hu) h5
     rw [e2] at e3
     cases e3
     rw [e1, e4, strLt1]
     simp; omega
   ·have h5 := g1 t rfl t hm
    rw [strLt_irr] at h5
    cases h5
theorem nameOk_nodup {n : List Tag} (h : nameOk n = true) : n.Nodup ∧ ∀ t ∈ n, t ∈ tagsU := by
 simp only [nameOk, Bool.and_eq_true] at h
 exact ⟨(nameF_keys n none h.1 (by simp)).2, fun t ht => tagsU_mem (nameF_tags n none h.1 t ht)⟩
theorem tagsU_nodup : tagsU.Nodup := tagsU_sorted.imp (fun {a b} h e => by
 subst e
 unfold tagLt at h
 simp [strLt_irr] at h)
theorem idSum_eq {names : List (List Tag)} (h : ∀ n ∈ names, nameOk n = true) : idSum (postsOf names) = lenSum names := by
 rw [idSum_posts]
 unfold ids
 have e : (tagsU.map (fun t => (idsF t 0 names).length)) = tagsU.map (fun t => (names.map (fun n => if has n t then 1 else 0)).sum) := by
  apply List.map_congr_left
  intro t _
  exact idsF_len t names 0
 rw [e]
 clear e
 induction names with
 | nil => exact sum_zero _ _ (fun _ _ => rfl)
 | cons n ns ih =>
   have e : (tagsU.map (fun t => ((n :: ns).map (fun n => if has n t then 1 else 0)).sum)) = tagsU.map (fun t => (if has n t then 1 else 0) + (ns.map (fun n => if has n t then 1 else 0)).sum) := by
    apply List.map_congr_left
    intro t _
    rfl
   have g := nameOk_nodup (h n (by simp))
   rw [e, sum_add, has_sum tagsU_nodup n g.1 g.2, ih (fun m hm => h m (by simp [hm]))]
   rfl
end Go.Proofs.YtganlmloonielaaGreat
namespace Go.Proofs.YtganlmloonielaaGreat
structure IxI (x : Idx) : Prop where
 eq : x = idxOf x.names
 nm : NmI x.names
theorem IxI.posts {x : Idx} (h : IxI x) : x.posts = postsOf x.names := by have := h.eq; rw [this]; rfl
theorem IxI.sz {x : Idx} (h : IxI x) : IdxSz x := ⟨by have := h.nm.len; omega, h.nm.sz⟩
theorem SD.ix {s : Sto} (h : SD s) : IxI s.idx := ⟨h.idx, h.nm⟩
theorem SD.sz {s : Sto} (h : SD s) : StoSz s := ⟨h.ix.sz, by have := h.np; omega, fun p hp => (h.part p hp).sz, by have := h.nm2; omega⟩
theorem nodup_at {names : List (List Tag)} (h : (names.map text).Nodup) {i k : Nat} {x y : List Tag} (hx : names[i]? = some x) (hy : names[k]? = some y) (hk : k < i) : ¬ (text x = text y) := by
 intro e
 have h1 : (names.map text)[i]? = some (text x) := by rw [List.getElem?_map, hx]; rfl
 have h2 : (names.map text)[k]? = some (text y) := by rw [List.getElem?_map, hy]; rfl
 obtain ⟨g1, g2⟩ := List.getElem?_eq_some_iff.1 h1
 obtain ⟨g3, g4⟩ := List.getElem?_eq_some_iff.1 h2
 exact (List.pairwise_iff_getElem.1 h) k i g3 g1 hk (by rw [g2, g4, e])
theorem ids_len (names : List (List Tag)) (t : Tag) : (ids names t).length ≤ names.length := by
 unfold ids
 have : ∀ (ns : List (List Tag)) (i : Nat), (idsF t i ns).length ≤ ns.length := by
  intro ns
  induction ns with
  | nil => intro i; simp [idsF]
  | cons n ns ih =>
    intro i
    have := ih (i + 1)
    rw [idsF, List.length_append, List.length_cons]
    split <;> simp <;> omega
 exact this names 0
theorem lenStep {α : Type} {f : α → Nat} {l : List α} {i : Nat} {x : α} (h : l[i]? = some x) : ((l.take (i + 1)).map f).sum = ((l.take i).map f).sum + f x := by
 obtain ⟨h1, h2⟩ := List.getElem?_eq_some_iff.1 h
 rw [List.take_add_one, h]
 simp
theorem posts_prev {names : List (List Tag)} {i : Nat} {x y : Pst} (hx : (postsOf names)[i]? = some x) (hy : (postsOf names)[i - 1]? = some y) (hi : 0 < i) : tagLt y.tag x.tag = true := by
 have h := posts_sorted names
 rw [List.pairwise_iff_getElem] at h
 obtain ⟨g1, g2⟩ := List.getElem?_eq_some_iff.1 hx
 obtain ⟨g3, g4⟩ := List.getElem?_eq_some_iff.1 hy
 have := h (i - 1) i g3 g1 (by omega)
 rw [g2, g4] at this
 exact this
theorem posts_len (names : List (List Tag)) : (postsOf names).length ≤ 44 := by
 rw [postsOf_eq]
 have h : ∀ U : List Tag, (U.flatMap (post1 names)).length ≤ U.length := by
  intro U
  induction U with
  | nil => simp
  | cons t ts ih =>
    rw [List.flatMap_cons, List.length_append, List.length_cons]
    have : (post1 names t).length ≤ 1 := by unfold post1; split <;> simp
    omega
 have h2 : tagsU.length = 44 := by decide +kernel
 have := h tagsU
 omega
theorem ix_sum {x : Idx} (h : IxI x) : idSum x.posts = lenSum x.names := by rw [h.posts]; exact idSum_eq h.nm.ok
theorem allStep {α : Type} {f : α → Bool} {l : List α} {i : Nat} {x : α} {b : Bool} (h : (l.drop i).all f = b) (hd : l.drop i = x :: l.drop (i + 1)) (hx : f x = true) : (l.drop (i + 1)).all f = b := by
 rw [hd, List.all_cons, hx, Bool.true_and] at h
 exact h
theorem allNo {α : Type} {f : α → Bool} {l : List α} {i : Nat} {x : α} {b : Bool} (h : (l.drop i).all f = b) (hd : l.drop i = x :: l.drop (i + 1)) (hx : f x = false) : b = false := by
 rw [hd, List.all_cons, hx, Bool.false_and] at h
 exact h.symm
theorem allEnd {α : Type} {f : α → Bool} {l : List α} {i : Nat} {b : Bool} (h : (l.drop i).all f = b) (hi : l.length ≤ i) : b = true := by
 rw [drop_end hi] at h
 exact h.symm
def memOk (n : Nat) (m : Smp) : Bool := inR m.id 1 n && rowOk m.row
def cntOk (s : Sto) (i : Nat) : Bool := decide ((rowsOf s ((i : Int) + 1)).length ≤ 24)
def storeOk (s : Sto) : Bool :=
 decide (s.parts.length ≤ 6) && decide (s.mem.length ≤ 20) && s.parts.all (fun p => partIn p s.idx.names.length) && s.mem.all (memOk s.idx.names.length) && (List.range s.idx.names.length).all (cntOk s)
theorem storeOk_1 {s : Sto} (h : (s.parts.length : Int) > 6 ∨ (s.mem.length : Int) > 20) : storeOk s = false := by
 unfold storeOk
 rcases h with h | h
 ·rw [decide_eq_false (by omega)]; simp
 ·rw [decide_eq_false (p := s.mem.length ≤ 20) (by omega)]; simp
theorem storeOk_2 {s : Sto} (h : s.parts.all (fun p => partIn p s.idx.names.length) = false) : storeOk s = false := by unfold storeOk; rw [h]; simp
theorem storeOk_3 {s : Sto} (h : s.mem.all (memOk s.idx.names.length) = false) : storeOk s = false := by unfold storeOk; rw [h]; simp
theorem storeOk_4 {s : Sto} (h : (List.range s.idx.names.length).all (cntOk s) = false) : storeOk s = false := by unfold storeOk; rw [h]; simp
theorem storeOk_5 {s : Sto} (h1 : ¬ (s.parts.length : Int) > 6) (h2 : ¬ (s.mem.length : Int) > 20) (h3 : s.parts.all (fun p => partIn p s.idx.names.length) = true) (h4 : s.mem.all (memOk s.idx.names.length) = true) (h5 : (List.range s.idx.names.length).all (cntOk s) = true) : storeOk s = true := by
 unfold storeOk
 rw [h3, h4, h5, decide_eq_true (by omega), decide_eq_true (by omega)]
 rfl
theorem range_at {n i : Nat} (h : i < n) : (List.range n).drop i = i :: (List.range n).drop (i + 1) := by
 rw [List.drop_eq_getElem_cons (by simpa using h)]
 simp
theorem SD.copy {s : Sto} (h : SD s) : copyS s = s := by
 have := h.idx
 unfold copyS
 rw [← this]
theorem cntStep {s : Sto} {n k : Nat} {b : Bool} (h : ((List.range n).drop (k - 1)).all (cntOk s) = b) (h1 : 1 ≤ k) (h2 : k ≤ n) (h3 : ((rowsOf s (k : Int)).length : Int) ≤ 24) : ((List.range n).drop (k + 1 - 1)).all (cntOk s) = b := by
 have hd := range_at (n := n) (i := k - 1) (by omega)
 have := allStep h hd (by unfold cntOk; rw [show ((k - 1 : Nat) : Int) + 1 = (k : Int) by omega]; simp; omega)
 rw [show k + 1 - 1 = k - 1 + 1 by omega]
 exact this
theorem cntNo {s : Sto} {n k : Nat} {b : Bool} (h : ((List.range n).drop (k - 1)).all (cntOk s) = b) (h1 : 1 ≤ k) (h2 : k ≤ n) (h3 : ((rowsOf s (k : Int)).length : Int) > 24) : b = false := by
 have hd := range_at (n := n) (i := k - 1) (by omega)
 exact allNo h hd (by unfold cntOk; rw [show ((k - 1 : Nat) : Int) + 1 = (k : Int) by omega]; simp; omega)
theorem cntEnd {s : Sto} {n k : Nat} {b : Bool} (h : ((List.range n).drop (k - 1)).all (cntOk s) = b) (h1 : n + 1 ≤ k) : b = true := allEnd h (by simp; omega)
end Go.Proofs.YtganlmloonielaaGreat
