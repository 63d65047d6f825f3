/- walks; hints pruned; squeezed -/
import Derived.Test.YtfnpaglcnmcnbaaGreatOpnzMod9
set_option linter.unusedVariables false
set_option linter.unusedSimpArgs false
namespace Go.Proofs.YtfnpaglcnmcnbaaGreat
set_option maxRecDepth 100000
set_option maxHeartbeats 4000000
theorem c_spec_l72Known  {w : World} {F : Nat → Prop} {b : Nat} {ad : Option Addr} {cd p : Nat} {D : List UInt8} (hr : Box w b 140 [.slice ad D.length cd, .int .i64 (p : Int)]) (hD : RepS w (nin all [b]) ad D.length cd D) (hp : p + 25 ≤ 1000000000)  : Calls Tryz.prog 57 [.pointer (some ⟨b, 0, none⟩)].toArray w (rets fun rv w' => (∃ (y : List Tag), VL (ge w.heap.size) w' (y : List Tag) rv ∧ NmD y) ∧ ∃ p' : Nat, p' ≤ p + 25 ∧ Box w' b 140 [.slice ad D.length cd, .int .i64 (p' : Int)] ∧ Chg (one b) w w') := by
 refine goT Tryz.func57 ?_
 have aG := hD.max
 refine .s <| .g <| .r 1 <| .d <| .s <| .s <| .g <| .r 1 <| .cl (c_spec_l6Rd_pick 4 hr (hD.toAll (.head _)) (by omega) (w := w) (F := all)) ?_
 rintro aQ aj ⟨⟨az, rfl, aH⟩, aR, aI, E, V⟩
 replace hD := (so [b] V).g1 hD
 have C : Chg (one b) w aj := Chg.stepO (Chg.refl (one b) w) V (Cov.mk1 w b)
 clear V
 refine .eq az 0 (fun al => ?_) (fun al => ?_)
 ·refine .d <| .ct <| .s <| .g <| .r 1 <| .cl (c_spec_l71Name E (hD.toAll (.head _)) (by omega) (w := aj) (F := all)) ?_
  rintro aS aT ⟨⟨am, ⟨aA, aB, rfl, Z⟩, aJ⟩, aC, aK, ao, ac⟩
  have ae := al1 E.lt
  have aq : Gb w.heap.size aj.heap.size := C.size
  replace ⟨hD, C⟩ := (so [b] ac).g2 hD C
  clear ac
  have Z := Z.fr ae aq
  have aL := Z.max
  clear ae
  exact .r 1 <| .d <| .rt Tryz.func57 Tryz.results57 (.slice aA am.length aB) ⟨⟨(am : List Tag), (Z.vl (by rfl) (fun _ _ h => h.1)), (by assumption)⟩, aC, by omega, ao, C⟩
 refine .d <| .cf <| .sk <| .s <| .g <| .r 1 <| .ns 3 9 [.string (bs [97, 61, 112]), .string (bs [97, 61, 113, 44, 98, 61, 112]), .string (bs [98, 61, 122, 44, 99, 61, 113])] fun aa ar W af au av => ?_
 have aw := nb_new W E.lt
 replace ⟨hD, E, C⟩ := (sn [b] af W).g3 hD E C
 clear af av W
 have J : Own (α := Txt) ar aa 9 (nin (ge w.heap.size) [aa, b]) 3 3 [(⟨[97, 61, 112]⟩ : Txt), (⟨[97, 61, 113, 44, 98, 61, 112]⟩ : Txt), (⟨[98, 61, 122, 44, 99, 61, 113]⟩ : Txt)] := Own.lit au rfl (by decide) ⟨rfl, rfl, rfl, rfl⟩
 refine .cl (c_spec_l6Rd_of ([(⟨[97, 61, 112]⟩ : Txt), (⟨[97, 61, 113, 44, 98, 61, 112]⟩ : Txt), (⟨[98, 61, 122, 44, 99, 61, 113]⟩ : Txt)] : List Txt) E (hD.toAll (.tail _ (.head _))) (by omega) (J.toAll (.tail _ (.head _)) aw) (by simp) (w := ar) (F := all)) ?_
 rintro aU ax ⟨⟨ak, rfl, aM⟩, aD, aN, O, ag⟩
 replace ⟨hD, J, C⟩ := (so [aa, b] ag).g3 hD J C
 clear ag
 refine .cl (c_spec_NameRead ak (known_D (by assumption)).2 (w := ax) (F := all)) ?_
 rintro aV aW ⟨⟨aX, ⟨aY, rfl, ⟨aE, aF, rfl, ab⟩⟩, aO⟩, ah⟩
 have ai := al2 J.lt O.lt
 have ay : Gb w.heap.size ax.heap.size := C.size
 replace ⟨hD, O, C⟩ := (se [aa, b] ah).g3 hD O C
 clear ah
 have ab := ab.fr ai ay
 have aP := ab.max
 clear ai
 exact .r 5 <| .d <| .s <| .g <| .r 2 <| .d <| .rt Tryz.func57 Tryz.results57 (.slice aE ((nameR ak).length) aF) ⟨⟨(nameR ak : List Tag), (ab.vl (by rfl) (fun _ _ h => h.1)), (by exact (known_D (by assumption)).1)⟩, aD, by omega, O, C⟩
theorem c_spec_l72Event (w_ : Wld) {w : World} {F : Nat → Prop} {b : Nat} {ad : Option Addr} {cd p : Nat} {D : List UInt8} (hr : Box w b 140 [.slice ad D.length cd, .int .i64 (p : Int)]) (hD : RepS w (nin all [b]) ad D.length cd D) (hp : p + 60 ≤ 1000000000) {a1 : Option Addr} {n1 c1 : Nat} (h1 : RepS w (nin F [b]) a1 n1 c1 w_.store.idx.names) {a2 : Option Addr} {n2 c2 : Nat} (h2 : RepS w (nin F [b]) a2 n2 c2 w_.store.idx.posts) {a3 : Option Addr} {n3 c3 : Nat} (h3 : RepS w (nin F [b]) a3 n3 c3 w_.store.parts) {a4 : Option Addr} {n4 c4 : Nat} (h4 : RepS w (nin F [b]) a4 n4 c4 w_.store.mem) {a5 : Option Addr} {n5 c5 : Nat} (h5 : RepS w (nin F [b]) a5 n5 c5 w_.disk.files) {a6 : Option Addr} {n6 c6 : Nat} (h6 : RepS w (nin F [b]) a6 n6 c6 w_.disk.list) {a7 : Option Addr} {n7 c7 : Nat} (h7 : RepS w (nin F [b]) a7 n7 c7 w_.disk.names) (p0 : w_.disk.list.length ≤ 1000) : Calls Tryz.prog 153 [.pointer (some ⟨b, 0, none⟩), .agg #[.slice a1 n1 c1, .slice a2 n2 c2, .slice a3 n3 c3, .slice a4 n4 c4, .slice a5 n5 c5, .slice a6 n6 c6, .slice a7 n7 c7, .int .i64 w_.disk.next]].toArray w (rets fun rv w' => (∃ (y : Evt), VS (ge w.heap.size) w' (y : Evt) rv ∧ EvD y) ∧ ∃ p' : Nat, p' ≤ p + 60 ∧ Box w' b 140 [.slice ad D.length cd, .int .i64 (p' : Int)] ∧ Chg (one b) w w') := by
 refine goT Tryz.func153 ?_
 have dA := hD.max
 obtain rfl := h1.len
 replace h1 := h1.topR (s := w.heap.size)
 have dB := h1.max
 obtain rfl := h2.len
 replace h2 := h2.topR (s := w.heap.size)
 have dC := h2.max
 obtain rfl := h3.len
 replace h3 := h3.topR (s := w.heap.size)
 have dD := h3.max
 obtain rfl := h4.len
 replace h4 := h4.topR (s := w.heap.size)
 have dE := h4.max
 obtain rfl := h5.len
 replace h5 := h5.topR (s := w.heap.size)
 have dF := h5.max
 obtain rfl := h6.len
 replace h6 := h6.topR (s := w.heap.size)
 have dG := h6.max
 obtain rfl := h7.len
 replace h7 := h7.topR (s := w.heap.size)
 have dH := h7.max
 refine .s <| .g <| .np 100 [.slice a1 w_.store.idx.names.length c1, .slice a2 w_.store.idx.posts.length c2, .slice a3 w_.store.parts.length c3, .slice a4 w_.store.mem.length c4, .slice a5 w_.disk.files.length c5, .slice a6 w_.disk.list.length c6, .slice a7 w_.disk.names.length c7, vI w_.disk.next] fun O cT aI aJ E ck => ?_
 have dI := nb_new aI hr.lt
 replace ⟨hD, hr⟩ := (sn [b] aJ aI).g2 hD hr
 have C : Chg (one b) w cT := Chg.stepN (Chg.refl (one b) w) aJ
 clear aJ ck aI
 refine .np 185 [vI 0, vI 0, vI 0, .slice none 0 0, vI 0, vI 0] fun V cU ai bv J cm => ?_
 have dJ := nb_new ai hr.lt
 have dK := nb_new ai E.lt
 have dL := C.cn ai
 replace ⟨hD, hr, E, C⟩ := (sn [O, b] bv ai).g4 hD hr E C
 clear bv cm ai
 refine .d <| .s <| .s <| .g <| .r 1 <| .cl (c_spec_l6Rd_pick 10 hr (hD.toAll (.tail _ (.tail _ (.head _)))) (by omega) (w := cU) (F := all)) ?_
 rintro ej aE ⟨⟨br, rfl, dM⟩, ek, dN, W, bw⟩
 replace ⟨hD, E, J, C⟩ := (so [V, O, b] bw).g4 hD E J C
 clear bw
 refine .d <| .b 0 <| .s <| .s <| .g <| .eq br 0 (fun co => ?_) (fun co => ?_)
 ·refine .r 1 <| .d <| .ct <| .sk <| .ct <| .s <| .g <| .ns 5 3 [vI 2, vI 2, vI 2, vI 0, vI 1] fun aF cp aK bz cq cr => ?_
  have dO := nb_new aK W.lt
  replace ⟨hD, W, E, J, C⟩ := (sn [V, O, b] bz aK).g5 hD W E J C
  clear bz cr aK
  have aL : Own (α := Int) cp aF 3 (nin (ge w.heap.size) [aF, V, O, b]) 5 5 [2, 2, 2, 0, 1] := Own.lit cq rfl (by decide) ⟨rfl, rfl, rfl, rfl, rfl, rfl⟩
  refine .r 1 <| .cl (c_spec_l6Rd_pick 5 W (hD.toAll (.tail _ (.tail _ (.tail _ (.head _))))) (by omega) (w := cp) (F := all)) ?_
  rintro em cV ⟨⟨aG, rfl, dP⟩, cW, dQ, aM, bA⟩
  replace ⟨hD, E, J, aL, C⟩ := (so [aF, V, O, b] bA).g5 hD E J aL C
  clear bA
  have cu : (aG).toNat < 5 := (by omega)
  refine RG.idx (b := aF) (o := 0) ((aG).toNat) (len := 5) (i := aG) (sz := 1) (by kernel_rfl) (by omega) cu rfl ?_
  obtain ⟨bt, aN⟩ : ∃ y, ([2, 2, 2, 0, 1] : List Int)[(aG).toNat]? = some y := ⟨_, List.getElem?_eq_getElem (by omega)⟩
  have dR := drop_at aN; have bu := List.mem_of_getElem? aN
  simp only [List.mem_cons, List.not_mem_nil, or_false] at bu
  obtain ⟨_, rfl, aO⟩ := aL.elem ((aG).toNat) bt aN
  replace aO : Has cV ⟨aF, 0 + ((aG).toNat) * Rep.sz Int, none⟩ [vI bt] := by rw [Nat.zero_add]; exact aO
  refine .lh 0 aO <| .r 1 <| .sc [vI 2, vI 0, vI bt, .slice none 0 0, vI 0, vI 0] J fun en bB cv cw => ?_
  replace ⟨hD, aM, E, C⟩ := (so [aF, V, O, b] bB).g4 hD aM E C
  clear bB cw
  exact .d <| .rb Tryz.func153 Tryz.results153 cv ⟨⟨((⟨2, 0, bt, ([] : List Tag), (⟨0, 0⟩ : Row)⟩ : Evt) : Evt), ⟨_, rfl, ⟨_, _, _, rfl, (RepS.nil' _ _ none 0 (by decide))⟩⟩, (by exact ⟨NmD.nil, by simp [RowSm]⟩)⟩, cW, by omega, aM, C⟩
 refine .r 1 <| .d <| .cf <| .g <| .eq br 1 (fun cx => ?_) (fun cx => ?_)
 ·refine .r 1 <| .d <| .ct <| .s <| .g <| .ns 5 3 [vI 2, vI 2, vI 2, vI 0, vI 1] fun aH cy aP bC cz cA => ?_
  have dS := nb_new aP W.lt
  replace ⟨hD, W, E, J, C⟩ := (sn [V, O, b] bC aP).g5 hD W E J C
  clear bC cA aP
  have aj : Own (α := Int) cy aH 3 (nin (ge w.heap.size) [aH, V, O, b]) 5 5 [2, 2, 2, 0, 1] := Own.lit cz rfl (by decide) ⟨rfl, rfl, rfl, rfl, rfl, rfl⟩
  refine .r 1 <| .cl (c_spec_l6Rd_pick 5 W (hD.toAll (.tail _ (.tail _ (.tail _ (.head _))))) (by omega) (w := cy) (F := all)) ?_
  rintro dT cB ⟨⟨ae, rfl, cX⟩, cC, cY, ak, aQ⟩
  replace ⟨hD, E, J, aj, C⟩ := (so [aH, V, O, b] aQ).g5 hD E J aj C
  clear aQ
  have bJ : (ae).toNat < 5 := (by omega)
  refine RG.idx (b := aH) (o := 0) ((ae).toNat) (len := 5) (i := ae) (sz := 1) (by kernel_rfl) (by omega) bJ rfl ?_
  obtain ⟨az, al⟩ : ∃ y, ([2, 2, 2, 0, 1] : List Int)[(ae).toNat]? = some y := ⟨_, List.getElem?_eq_getElem (by omega)⟩
  have cZ := drop_at al; have aR := List.mem_of_getElem? al
  simp only [List.mem_cons, List.not_mem_nil, or_false] at aR
  obtain ⟨_, rfl, am⟩ := aj.elem ((ae).toNat) az al
  replace am : Has cB ⟨aH, 0 + ((ae).toNat) * Rep.sz Int, none⟩ [vI az] := by rw [Nat.zero_add]; exact am
  refine .lh 0 am <| .r 1 <| .sc [vI 2, vI 0, vI az, .slice none 0 0, vI 0, vI 0] J fun dU aS bK bL => ?_
  replace ⟨hD, ak, E, C⟩ := (so [aH, V, O, b] aS).g4 hD ak E C
  clear aS bL
  exact .d <| .rb Tryz.func153 Tryz.results153 bK ⟨⟨((⟨2, 0, az, ([] : List Tag), (⟨0, 0⟩ : Row)⟩ : Evt) : Evt), ⟨_, rfl, ⟨_, _, _, rfl, (RepS.nil' _ _ none 0 (by decide))⟩⟩, (by exact ⟨NmD.nil, by simp [RowSm]⟩)⟩, cC, by omega, ak, C⟩
 refine .r 1 <| .d <| .cf <| .s <| .g <| .eq br 2 (fun bM => ?_) (fun bM => ?_)
 ·refine .r 1 <| .d <| .ct <| .s <| .g <| .r 2 <| .lb E <| .r 1 <| .bp ((w_.disk.list.length : Int) > 1) (fun bN => ?_) (fun bN => ?_)
  ·refine .d <| .ct <| .s <| .g <| .r 3 <| .lb E <| .r 1 <| .it ((w_.disk.list.length : Int) - 1) <| .cl (c_spec_l6Rd_pick ((w_.disk.list.length : Int) - 1) W (hD.toAll (.tail _ (.tail _ (.head _)))) (by omega) (w := aE) (F := all)) ?_
   rintro dV dW ⟨⟨bD, rfl, c8⟩, dX, c9, ah, aT⟩
   replace ⟨hD, E, J, C⟩ := (so [V, O, b] aT).g4 hD E J C
   clear aT
   refine .ns 6 3 [vI 4, vI 4, vI 0, vI 1, vI 2, vI 3] fun af bE ao aU bO bP => ?_
   have da := nb_new ao ah.lt
   replace ⟨hD, ah, E, J, C⟩ := (sn [V, O, b] aU ao).g5 hD ah E J C
   clear aU bP ao
   have aq : Own (α := Int) bE af 3 (nin (ge w.heap.size) [af, V, O, b]) 6 6 [4, 4, 0, 1, 2, 3] := Own.lit bO rfl (by decide) ⟨rfl, rfl, rfl, rfl, rfl, rfl, rfl⟩
   refine .r 1 <| .cl (c_spec_l6Rd_pick 6 ah (hD.toAll (.tail _ (.tail _ (.tail _ (.head _))))) (by omega) (w := bE) (F := all)) ?_
   rintro dY cD ⟨⟨ag, rfl, db⟩, cE, dd, ar, aV⟩
   replace ⟨hD, E, J, aq, C⟩ := (so [af, V, O, b] aV).g5 hD E J aq C
   clear aV
   have bQ : (ag).toNat < 6 := (by omega)
   refine RG.idx (b := af) (o := 0) ((ag).toNat) (len := 6) (i := ag) (sz := 1) (by kernel_rfl) (by omega) bQ rfl ?_
   obtain ⟨aA, au⟩ : ∃ y, ([4, 4, 0, 1, 2, 3] : List Int)[(ag).toNat]? = some y := ⟨_, List.getElem?_eq_getElem (by omega)⟩
   have de := drop_at au; have aW := List.mem_of_getElem? au
   simp only [List.mem_cons, List.not_mem_nil, or_false] at aW
   obtain ⟨_, rfl, av⟩ := aq.elem ((ag).toNat) aA au
   replace av : Has cD ⟨af, 0 + ((ag).toNat) * Rep.sz Int, none⟩ [vI aA] := by rw [Nat.zero_add]; exact av
   refine .lh 0 av <| .r 1 <| .sc [vI 3, vI bD, vI aA, .slice none 0 0, vI 0, vI 0] J fun dZ aX bR bS => ?_
   replace ⟨hD, ar, E, C⟩ := (so [af, V, O, b] aX).g4 hD ar E C
   clear aX bS
   exact .d <| .rb Tryz.func153 Tryz.results153 bR ⟨⟨((⟨3, bD, aA, ([] : List Tag), (⟨0, 0⟩ : Row)⟩ : Evt) : Evt), ⟨_, rfl, ⟨_, _, _, rfl, (RepS.nil' _ _ none 0 (by decide))⟩⟩, (by exact ⟨NmD.nil, by simp [RowSm]⟩)⟩, cE, by omega, ar, C⟩
  refine .d <| .cf <| .sk <| .ib 0 <| .s <| .g <| .r 1 <| .cl (c_spec_l72Known W (hD.toAll (.tail _ (.tail _ (.head _)))) (by omega) (w := aE) (F := all)) ?_
  rintro d0 cF ⟨⟨bF, ⟨cG, cH, rfl, Z⟩, df⟩, d3, dg, bT, aY⟩
  have aZ := al3 J.lt E.lt W.lt
  have bU : Gb w.heap.size aE.heap.size := C.size
  replace ⟨hD, E, J, C⟩ := (so [V, O, b] aY).g4 hD E J C
  clear aY
  have Z := Z.fr aZ bU
  have dh := Z.max
  clear aZ
  refine .r 1 <| .cl (c_spec_l71Row bT (hD.toAll (.tail _ (.tail _ (.head _)))) (by omega) (w := cF) (F := all)) ?_
  rintro d4 d5 ⟨⟨aB, ⟨_, rfl, rfl⟩, di⟩, cI, dj, aw, ba⟩
  replace ⟨hD, E, J, Z, C⟩ := (so [V, O, b] ba).g5 hD E J Z C
  clear ba
  refine .r 1 <| .sc [vI 1, vI 0, vI 0, .slice cG bF.length cH, vI aB.t, vI aB.v] J fun d6 bc bV bW => ?_
  replace ⟨hD, aw, E, Z, C⟩ := (so [V, O, b] bc).g5 hD aw E Z C
  clear bc bW
  exact .d <| .rb Tryz.func153 Tryz.results153 bV ⟨⟨((⟨1, 0, 0, bF, (⟨aB.t, aB.v⟩ : Row)⟩ : Evt) : Evt), ⟨_, rfl, ⟨_, _, _, rfl, Z.w1⟩⟩, (by exact ⟨by assumption, by assumption⟩)⟩, cI, by omega, aw, C⟩
 refine .r 1 <| .d <| .cf <| .s <| .g <| .eq br 3 (fun bX => ?_) (fun bX => ?_)
 ·refine .r 1 <| .d <| .ct <| .s <| .g <| .r 1 <| .cl (c_spec_l6Rd_pick 4 W (hD.toAll (.tail _ (.tail _ (.head _)))) (by omega) (w := aE) (F := all)) ?_
  rintro d7 bG ⟨⟨cJ, rfl, dk⟩, cK, dm, ac, bd⟩
  replace ⟨hD, E, J, C⟩ := (so [V, O, b] bd).g4 hD E J C
  clear bd
  refine .eq cJ 0 (fun bY => ?_) (fun bY => ?_)
  ·refine .d <| .ct <| .s <| .g <| .r 1 <| .sc [vI 4, vI 0, vI 0, .slice none 0 0, vI 0, vI 0] J fun d8 bg bZ b0 => ?_
   replace ⟨hD, ac, E, C⟩ := (so [V, O, b] bg).g4 hD ac E C
   clear bg b0
   exact .d <| .rb Tryz.func153 Tryz.results153 bZ ⟨⟨((⟨4, 0, 0, ([] : List Tag), (⟨0, 0⟩ : Row)⟩ : Evt) : Evt), ⟨_, rfl, ⟨_, _, _, rfl, (RepS.nil' _ _ none 0 (by decide))⟩⟩, (by exact ⟨NmD.nil, by simp [RowSm]⟩)⟩, cK, by omega, ac, C⟩
  refine .d <| .cf <| .sk <| .ib 0 <| .s <| .g <| .r 1 <| .cl (c_spec_l72Known ac (hD.toAll (.tail _ (.tail _ (.head _)))) (by omega) (w := bG) (F := all)) ?_
  rintro d9 cL ⟨⟨bH, ⟨cM, cN, rfl, aa⟩, dp⟩, ea, dq, b6, bh⟩
  have bi := al3 J.lt E.lt ac.lt
  have b7 : Gb w.heap.size bG.heap.size := C.size
  replace ⟨hD, E, J, C⟩ := (so [V, O, b] bh).g4 hD E J C
  clear bh
  have aa := aa.fr bi b7
  have dr := aa.max
  clear bi
  refine .r 1 <| .cl (c_spec_l71Row b6 (hD.toAll (.tail _ (.tail _ (.head _)))) (by omega) (w := cL) (F := all)) ?_
  rintro eb ec ⟨⟨aC, ⟨_, rfl, rfl⟩, dt⟩, cO, du, ax, bj⟩
  replace ⟨hD, E, J, aa, C⟩ := (so [V, O, b] bj).g5 hD E J aa C
  clear bj
  refine .r 1 <| .sc [vI 1, vI 0, vI 0, .slice cM bH.length cN, vI aC.t, vI aC.v] J fun ed bk b8 b9 => ?_
  replace ⟨hD, ax, E, aa, C⟩ := (so [V, O, b] bk).g5 hD ax E aa C
  clear bk b9
  exact .d <| .rb Tryz.func153 Tryz.results153 b8 ⟨⟨((⟨1, 0, 0, bH, (⟨aC.t, aC.v⟩ : Row)⟩ : Evt) : Evt), ⟨_, rfl, ⟨_, _, _, rfl, aa.w1⟩⟩, (by exact ⟨by assumption, by assumption⟩)⟩, cO, by omega, ax, C⟩
 refine .r 1 <| .d <| .cf <| .sk <| .ib 0 <| .s <| .g <| .r 1 <| .cl (c_spec_l72Known W (hD.toAll (.tail _ (.tail _ (.head _)))) (by omega) (w := aE) (F := all)) ?_
 rintro ee cP ⟨⟨bI, ⟨cQ, cR, rfl, ab⟩, dv⟩, ef, dw, ce, bm⟩
 have bn := al3 J.lt E.lt W.lt
 have cg : Gb w.heap.size aE.heap.size := C.size
 replace ⟨hD, J, C⟩ := (so [V, O, b] bm).g3 hD J C
 clear bm
 have ab := ab.fr bn cg
 have dx := ab.max
 clear bn
 refine .r 1 <| .cl (c_spec_l71Row ce (hD.toAll (.tail _ (.tail _ (.head _)))) (by omega) (w := cP) (F := all)) ?_
 rintro eg eh ⟨⟨aD, ⟨_, rfl, rfl⟩, dy⟩, cS, dz, ay, bo⟩
 replace ⟨hD, J, ab, C⟩ := (so [V, O, b] bo).g4 hD J ab C
 clear bo
 refine .r 1 <| .sc [vI 1, vI 0, vI 0, .slice cQ bI.length cR, vI aD.t, vI aD.v] J fun ei bq ci cj => ?_
 replace ⟨hD, ay, ab, C⟩ := (so [V, O, b] bq).g4 hD ay ab C
 clear bq cj
 exact .d <| .rb Tryz.func153 Tryz.results153 ci ⟨⟨((⟨1, 0, 0, bI, (⟨aD.t, aD.v⟩ : Row)⟩ : Evt) : Evt), ⟨_, rfl, ⟨_, _, _, rfl, ab.w1⟩⟩, (by exact ⟨by assumption, by assumption⟩)⟩, cS, by omega, ay, C⟩
theorem c_spec_l72Play  {w : World} {F : Nat → Prop} {b : Nat} {ad : Option Addr} {cd p : Nat} {D : List UInt8} (hr : Box w b 140 [.slice ad D.length cd, .int .i64 (p : Int)]) (hD : RepS w (nin all [b]) ad D.length cd D) (hp : p + 3000 ≤ 1000000000)  : Calls Tryz.prog 101 [.pointer (some ⟨b, 0, none⟩)].toArray w (rets fun rv w' => (∃ (y : Wld), (∃ v0 v1, rv = .tuple #[v0, v1] ∧ True ∧ (∃ (a0 : Option Addr) (n0 c0 : Nat) (a1 : Option Addr) (n1 c1 : Nat) (a2 : Option Addr) (n2 c2 : Nat) (r3 n3 c3 : Nat) (r4 n4 c4 : Nat) (r5 n5 c5 : Nat) (r6 n6 c6 : Nat), v1 = .agg #[.slice a0 n0 c0, .slice a1 n1 c1, .slice a2 n2 c2, .slice (some ⟨r3, 0, none⟩) n3 c3, .slice (some ⟨r4, 0, none⟩) n4 c4, .slice (some ⟨r5, 0, none⟩) n5 c5, .slice (some ⟨r6, 0, none⟩) n6 c6, .int .i64 (y.disk.next)] ∧ RepS w' (nin (ge w.heap.size) [r3, r4, r5, r6]) a0 n0 c0 (y.store.idx.names) ∧ RepS w' (nin (ge w.heap.size) [r3, r4, r5, r6]) a1 n1 c1 (y.store.idx.posts) ∧ RepS w' (nin (ge w.heap.size) [r3, r4, r5, r6]) a2 n2 c2 (y.store.parts) ∧ Own w' r3 51 (nin (ge w.heap.size) [r3, r4, r5, r6]) n3 c3 (y.store.mem) ∧ w.heap.size ≤ r3 ∧ Own w' r4 88 (nin (ge w.heap.size) [r3, r4, r5, r6]) n4 c4 (y.disk.files) ∧ w.heap.size ≤ r4 ∧ Nb r4 r3 ∧ Own w' r5 3 (nin (ge w.heap.size) [r3, r4, r5, r6]) n5 c5 (y.disk.list) ∧ w.heap.size ≤ r5 ∧ Nb r5 r3 ∧ Nb r5 r4 ∧ Own w' r6 31 (nin (ge w.heap.size) [r3, r4, r5, r6]) n6 c6 (y.disk.names) ∧ w.heap.size ≤ r6 ∧ Nb r6 r3 ∧ Nb r6 r4 ∧ Nb r6 r5)) ∧ WD y) ∧ ∃ p' : Nat, p' ≤ p + 3000 ∧ Box w' b 140 [.slice ad D.length cd, .int .i64 (p' : Int)] ∧ Chg (one b) w w') := by
 refine goT Tryz.func101 ?_
 have fy := hD.max
 refine .s <| .g <| .r 1 <| .np 100 [.slice none 0 0, .slice none 0 0, .slice none 0 0, .slice none 0 0, .slice none 0 0, .slice none 0 0, .slice none 0 0, vI 0] fun O cP bN bQ E dG => ?_
 have fz := nb_new bN hr.lt
 have fA : Cov (one b) w O := cov_new bN (Nat.le_refl _)
 replace ⟨hD, hr⟩ := (sn [b] bQ bN).g2 hD hr
 have C : Chg (one b) w cP := Chg.stepN (Chg.refl (one b) w) bQ
 clear bQ dG bN
 refine .d <| .s <| .g <| .cl (c_spec_WorldNew (w := cP) (F := all)) ?_
 rintro f9 ga ⟨⟨_, rfl, ⟨dH, gb, dI, dJ, gf, dK, dL, gg, dM, dN, gh, dO, dP, gi, dQ, dR, gj, dS, dT, gk, dU, rfl, ba, bc, bd, bg, bh, bi, bj⟩⟩, bZ⟩
 have bk := al2 E.lt hr.lt
 have bn : Gb w.heap.size cP.heap.size := C.size
 replace ⟨hD, hr, E, C⟩ := (se [O, b] bZ).g4 hD hr E C
 clear bZ
 have ba := ba.fr bk bn
 have fB := ba.max
 have bc := bc.fr bk bn
 have fC := bc.max
 have bd := bd.fr bk bn
 have fD := bd.max
 have bg := bg.fr bk bn
 have fE := bg.max
 have bh := bh.fr bk bn
 have fF := bh.max
 have bi := bi.fr bk bn
 have fG := bi.max
 have bj := bj.fr bk bn
 have fH := bj.max
 clear bk
 have dV := ba.len
 subst dV
 have dW := bc.len
 subst dW
 have dX := bd.len
 subst dX
 have dY := bg.len
 subst dY
 have dZ := bh.len
 subst dZ
 have d0 := bi.len
 subst d0
 have d3 := bj.len
 subst d3
 refine .np 100 [.slice none 0 0, .slice none 0 0, .slice none 0 0, .slice none 0 0, .slice none 0 0, .slice none 0 0, .slice none 0 0, vI 0] fun J gl bD b0 d4 d5 => ?_
 have fI := nb_new bD hr.lt
 have fJ := nb_new bD E.lt
 have fK := C.cn bD
 replace ⟨hD, hr, E, ba, bc, bd, bg, bh, bi, bj, C⟩ := (sn [O, b] b0 bD).g11 hD hr E ba bc bd bg bh bi bj C
 clear b0 d5 bD
 refine .sc [.slice dH ((((((⟨⟨⟨[], []⟩, [], []⟩, ⟨[], [], [], 1⟩⟩ : Wld)).store).idx).names).length) dI, .slice dJ ((((((⟨⟨⟨[], []⟩, [], []⟩, ⟨[], [], [], 1⟩⟩ : Wld)).store).idx).posts).length) dK, .slice dL (((((⟨⟨⟨[], []⟩, [], []⟩, ⟨[], [], [], 1⟩⟩ : Wld)).store).parts).length) dM, .slice dN (((((⟨⟨⟨[], []⟩, [], []⟩, ⟨[], [], [], 1⟩⟩ : Wld)).store).mem).length) dO, .slice dP (((((⟨⟨⟨[], []⟩, [], []⟩, ⟨[], [], [], 1⟩⟩ : Wld)).disk).files).length) dQ, .slice dR (((((⟨⟨⟨[], []⟩, [], []⟩, ⟨[], [], [], 1⟩⟩ : Wld)).disk).list).length) dS, .slice dT (((((⟨⟨⟨[], []⟩, [], []⟩, ⟨[], [], [], 1⟩⟩ : Wld)).disk).names).length) dU, vI ((((⟨⟨⟨[], []⟩, [], []⟩, ⟨[], [], [], 1⟩⟩ : Wld)).disk).next)] d4 fun gm b6 bo d6 => ?_
 replace ⟨hD, hr, E, ba, bc, bd, bg, bh, bi, bj, C⟩ := (so [J, O, b] b6).g11 hD hr E ba bc bd bg bh bi bj C
 clear b6 d6
 refine .d <| .s <| .g <| .ns 0 185 [] fun bq d7 bv b7 d8 d9 => ?_
 have ea := nb_new bv hr.lt
 have eb := nb_new bv E.lt
 have ec := nb_new bv bo.lt
 have ed := C.cn bv
 replace ⟨hD, hr, E, ba, bc, bd, bg, bh, bi, bj, bo, C⟩ := (sn [J, O, b] b7 bv).g12 hD hr E ba bc bd bg bh bi bj bo C
 clear b7 d9 bv
 have bE : Own (α := Evt) d7 bq 185 (nin (ge w.heap.size) [bq, J, O, b]) 0 0 [] := Own.nil' d8
 refine .r 1 <| .d <| .s <| .s <| .g <| .r 1 <| .cl (c_spec_l6Rd_pick 46 hr (hD.toAll (.tail _ (.tail _ (.tail _ (.head _))))) (by omega) (w := d7) (F := all)) ?_
 rintro fL bw ⟨⟨ee, rfl, ei⟩, ef, ej, bR, bS⟩
 replace ⟨hD, E, ba, bc, bd, bg, bh, bi, bj, bo, bE, C⟩ := (so [bq, J, O, b] bS).g12 hD E ba bc bd bg bh bi bj bo bE C
 clear bS
 refine .r 1 <| .d <| .b 0 <| T.loop (X := (List Evt) × Nat × Nat × Nat × Int × Nat × (List (List Tag)) × (Option Addr) × Nat × Nat × (List Pst) × (Option Addr) × Nat × Nat × (List Prt) × (Option Addr) × Nat × Nat × (List Smp) × (Option Addr) × Nat × Nat × (List Fil) × (Option Addr) × Nat × Nat × (List Int) × (Option Addr) × Nat × Nat × (List (List Tag)) × (Option Addr) × Nat × Nat × Int) (([] : List Evt), bq, 0, 0, ee, ef, (((((⟨⟨⟨[], []⟩, [], []⟩, ⟨[], [], [], 1⟩⟩ : Wld)).store).idx).names : List (List Tag)), dH, (((((⟨⟨⟨[], []⟩, [], []⟩, ⟨[], [], [], 1⟩⟩ : Wld)).store).idx).names).length, dI, (((((⟨⟨⟨[], []⟩, [], []⟩, ⟨[], [], [], 1⟩⟩ : Wld)).store).idx).posts : List Pst), dJ, (((((⟨⟨⟨[], []⟩, [], []⟩, ⟨[], [], [], 1⟩⟩ : Wld)).store).idx).posts).length, dK, ((((⟨⟨⟨[], []⟩, [], []⟩, ⟨[], [], [], 1⟩⟩ : Wld)).store).parts : List Prt), dL, ((((⟨⟨⟨[], []⟩, [], []⟩, ⟨[], [], [], 1⟩⟩ : Wld)).store).parts).length, dM, ((((⟨⟨⟨[], []⟩, [], []⟩, ⟨[], [], [], 1⟩⟩ : Wld)).store).mem : List Smp), dN, ((((⟨⟨⟨[], []⟩, [], []⟩, ⟨[], [], [], 1⟩⟩ : Wld)).store).mem).length, dO, ((((⟨⟨⟨[], []⟩, [], []⟩, ⟨[], [], [], 1⟩⟩ : Wld)).disk).files : List Fil), dP, ((((⟨⟨⟨[], []⟩, [], []⟩, ⟨[], [], [], 1⟩⟩ : Wld)).disk).files).length, dQ, ((((⟨⟨⟨[], []⟩, [], []⟩, ⟨[], [], [], 1⟩⟩ : Wld)).disk).list : List Int), dR, ((((⟨⟨⟨[], []⟩, [], []⟩, ⟨[], [], [], 1⟩⟩ : Wld)).disk).list).length, dS, ((((⟨⟨⟨[], []⟩, [], []⟩, ⟨[], [], [], 1⟩⟩ : Wld)).disk).names : List (List Tag)), dT, ((((⟨⟨⟨[], []⟩, [], []⟩, ⟨[], [], [], 1⟩⟩ : Wld)).disk).names).length, dU, (((⟨⟨⟨[], []⟩, [], []⟩, ⟨[], [], [], 1⟩⟩ : Wld)).disk).next) (fun (events, r_events, n_events, c_events, n, p_, W, a_w_0, n_w_0, c_w_0, Z, a_w_1, n_w_1, c_w_1, aa, a_w_2, n_w_2, c_w_2, ab, a_w_3, n_w_3, c_w_3, ac, a_w_4, n_w_4, c_w_4, ae, a_w_5, n_w_5, c_w_5, af, a_w_6, n_w_6, c_w_6, ag) => [(0, .pointer (some ⟨b, 0, none⟩)), (3, .pointer (some ⟨O, 0, none⟩)), (4, .pointer (some ⟨J, 0, none⟩)), (5, vS r_events n_events c_events), (6, vI n)]) (fun (events, r_events, n_events, c_events, n, p_, W, a_w_0, n_w_0, c_w_0, Z, a_w_1, n_w_1, c_w_1, aa, a_w_2, n_w_2, c_w_2, ab, a_w_3, n_w_3, c_w_3, ac, a_w_4, n_w_4, c_w_4, ae, a_w_5, n_w_5, c_w_5, af, a_w_6, n_w_6, c_w_6, ag) ax => Chg (ins [bq, b, J]) bw ax ∧ Own ax r_events 185 (nin (ge w.heap.size) [r_events, J, O, b]) n_events c_events events ∧ OrB r_events bq bw.heap.size ∧ RepS ax (nin (ge w.heap.size) [r_events, J, O, b]) a_w_0 n_w_0 c_w_0 W ∧ RepS ax (nin (ge w.heap.size) [r_events, J, O, b]) a_w_1 n_w_1 c_w_1 Z ∧ RepS ax (nin (ge w.heap.size) [r_events, J, O, b]) a_w_2 n_w_2 c_w_2 aa ∧ RepS ax (nin (ge w.heap.size) [r_events, J, O, b]) a_w_3 n_w_3 c_w_3 ab ∧ RepS ax (nin (ge w.heap.size) [r_events, J, O, b]) a_w_4 n_w_4 c_w_4 ac ∧ RepS ax (nin (ge w.heap.size) [r_events, J, O, b]) a_w_5 n_w_5 c_w_5 ae ∧ RepS ax (nin (ge w.heap.size) [r_events, J, O, b]) a_w_6 n_w_6 c_w_6 af ∧ Box ax b 140 [.slice ad D.length cd, vI (p_ : Int)] ∧ Box ax J 100 [.slice a_w_0 n_w_0 c_w_0, .slice a_w_1 n_w_1 c_w_1, .slice a_w_2 n_w_2 c_w_2, .slice a_w_3 n_w_3 c_w_3, .slice a_w_4 n_w_4 c_w_4, .slice a_w_5 n_w_5 c_w_5, .slice a_w_6 n_w_6 c_w_6, vI ag] ∧ (n ≤ 46) ∧ ((events.length : Int) + n ≤ 46 ∨ n < 0) ∧ ((p_ : Int) + 61 * n ≤ p + 2900 ∨ n < 0) ∧ (p_ ≤ p + 2900) ∧ (WD ⟨⟨⟨W, Z⟩, aa, ab⟩, ⟨ac, ae, af, ag⟩⟩)) (fun (events, r_events, n_events, c_events, n, p_, W, a_w_0, n_w_0, c_w_0, Z, a_w_1, n_w_1, c_w_1, aa, a_w_2, n_w_2, c_w_2, ab, a_w_3, n_w_3, c_w_3, ac, a_w_4, n_w_4, c_w_4, ae, a_w_5, n_w_5, c_w_5, af, a_w_6, n_w_6, c_w_6, ag) => n.toNat) (by kernel_rfl) ⟨by kernel_rfl, by kernel_rfl, by kernel_rfl, by kernel_rfl, by kernel_rfl, trivial⟩ ⟨Chg.refl _ _, bE, orb_refl, ba, bc, bd, bg, bh, bi, bj, bR, bo, (by omega), (by (simp; omega)), (by omega), (by omega), (by exact WD.new)⟩ ?_
 rintro ⟨events, r_events, n_events, c_events, n, p_, W, a_w_0, n_w_0, c_w_0, Z, a_w_1, n_w_1, c_w_1, aa, a_w_2, n_w_2, c_w_2, ab, a_w_3, n_w_3, c_w_3, ac, a_w_4, n_w_4, c_w_4, ae, a_w_5, n_w_5, c_w_5, af, a_w_6, n_w_6, c_w_6, ag⟩ fM ax ⟨ar, av, aK, ai, aj, ak, al, am, ao, aq, aG, ah, ek, em, en, eo, ep⟩ bO
 have es := nb_or' aK ea bR.lt
 have et := nb_or' aK eb E.lt
 have cQ := nb_or' aK ec bo.lt
 have ew := cov_or' aK ed C.size
 have cR : Cov (ins [bq, b, J]) bw bq := ⟨.inl (.head _)⟩
 have ex : Cov (ins [bq, b, J]) bw b := ⟨.inl (.tail _ (.head _))⟩
 have ey : Cov (ins [bq, b, J]) bw J := ⟨.inl (.tail _ (.tail _ (.head _)))⟩
 have ez := cov_or' aK cR (Nat.le_refl _)
 have bT : Mv [bq, J, O, b] [r_events, J, O, b] bw ax := Mv.inl ar (all_cons (.head _) (all_cons (.tail _ (.tail _ (.tail _ (.head _)))) (all_cons (.tail _ (.head _)) all_nil))) (all_cons (orb_mem aK (.head _)) (all_cons (.inl (.tail _ (.head _))) (all_cons (.inl (.tail _ (.tail _ (.head _)))) (all_cons (.inl (.tail _ (.tail _ (.tail _ (.head _))))) all_nil))))
 replace ⟨hD, E, C⟩ := (sp bT ar).g3 hD E C
 clear bT
 have eA := av.len; have eB := av.max
 have eC := ai.len; have eD := ai.max
 have eE := aj.len; have eF := aj.max
 have eG := ak.len; have eH := ak.max
 have eI := al.len; have eJ := al.max
 have eK := am.len; have eL := am.max
 have eM := ao.len; have eN := ao.max
 have eO := aq.len; have eP := aq.max
 refine .s <| .s <| .g <| .r 1 <| .bp (n > 0) (fun cS => ?_) (fun cS => ?_)
 ·refine .d <| .ct <| .sk <| .s <| .b 1 <| .s <| .g <| .r 1 <| .ln ah <| .cl (c_spec_l72Event (⟨(⟨(⟨W, Z⟩ : Idx), aa, ab⟩ : Sto), (⟨ac, ae, af, ag⟩ : Dsk)⟩ : Wld) aG (hD.toAll (.tail _ (.tail _ (.tail _ (.head _))))) (by omega) (ai.toAll (.tail _ (.tail _ (.tail _ (.head _))))) (aj.toAll (.tail _ (.tail _ (.tail _ (.head _))))) (ak.toAll (.tail _ (.tail _ (.tail _ (.head _))))) (al.toAll (.tail _ (.tail _ (.tail _ (.head _))))) (am.toAll (.tail _ (.tail _ (.tail _ (.head _))))) (ao.toAll (.tail _ (.tail _ (.tail _ (.head _))))) (aq.toAll (.tail _ (.tail _ (.tail _ (.head _))))) (by have q1 : WD ⟨⟨⟨W, Z⟩, aa, ab⟩, ⟨ac, ae, af, ag⟩⟩ := (by assumption); have q2 := q1.wi.dsk.nl; dsimp only at q2 ⊢; omega) (w := ax) (F := all)) ?_
  rintro fN fO ⟨⟨V, ⟨_, rfl, ⟨b8, fP, b9, rfl, aA⟩⟩, eQ⟩, eg, eR, au, bF⟩
  have bU := al4 av.lt ah.lt E.lt aG.lt
  have cT : Gb w.heap.size ax.heap.size := C.size
  replace ⟨hD, E, ah, av, ai, aj, ak, al, am, ao, aq, C⟩ := (so [r_events, J, O, b] bF).g12 hD E ah av ai aj ak al am ao aq C
  replace ar := (so [r_events, J, O, b] bF).g1 ar
  clear bF
  have aA := aA.fr bU cT
  have eS := aA.max
  clear bU
  have cU := aA.len
  subst cU
  refine .np 185 [vI 0, vI 0, vI 0, .slice none 0 0, vI 0, vI 0] fun aw fQ aB bG cV cW => ?_
  have eT := nb_new aB au.lt
  have eU := nb_new aB E.lt
  have eV := nb_new aB ah.lt
  have eW := nb_new aB av.lt
  have eX := C.cn aB
  have eY := ar.cn aB
  replace ⟨hD, au, E, ah, av, ai, aj, ak, al, am, ao, aq⟩ := (sn [r_events, J, O, b] bG aB).g12 hD au E ah av ai aj ak al am ao aq
  replace ⟨aA, C, ar⟩ := (sn [r_events, J, O, b] bG aB).g3 aA C ar
  clear bG cW aB
  refine .sc [vI V.kind, vI V.at_, vI V.cut, .slice b8 V.name.length b9, vI V.row.t, vI V.row.v] cV fun fR bH aH cX => ?_
  replace ⟨hD, au, E, ah, av, ai, aj, ak, al, am, ao, aq⟩ := (so [aw, r_events, J, O, b] bH).g12 hD au E ah av ai aj ak al am ao aq
  replace ⟨aA, C, ar⟩ := (so [aw, r_events, J, O, b] bH).g3 aA C ar
  clear bH cX
  refine .d <| .s <| .g <| .r 1 <| .ln aH <| .ns 1 185 [vI V.kind, vI V.at_, vI V.cut, .slice b8 V.name.length b9, vI V.row.t, vI V.row.v] fun ce fS aL bI cY cZ => ?_
  have c7 := nb_new aL au.lt
  have c8 := nb_new aL E.lt
  have c9 := nb_new aL ah.lt
  have bV := nb_new aL av.lt
  have da := nb_new aL aH.lt
  have db := gb_new aL C.size
  replace ⟨hD, au, E, ah, av, ai, aj, ak, al, am, ao, aq⟩ := (se [aw, r_events, J, O, b] bI).g12 hD au E ah av ai aj ak al am ao aq
  replace ⟨aA, aH, C, ar⟩ := (se [aw, r_events, J, O, b] bI).g4 aA aH C ar
  clear bI cZ aL
  have bP : nin (ge w.heap.size) [aw, r_events, J, O, b] ce ∧ ce ≠ r_events := hap_mk db (all_cons da (all_cons bV (all_cons c9 (all_cons c8 (all_cons c7 all_nil))))) bV
  refine RG.append1 (T := 141) (ty := 141) (y := V) av cY (by kernel_rfl) (by kernel_rfl) ⟨_, _, _, rfl, aA.oi⟩ bP (by omega) fun az eh cg ay aS bJ => ?_
  have eZ := nb_or aS cQ ah.lt
  have dd := orb_or aS aK ar.size
  replace ⟨hD, au, E, ah, ai, aj, ak, al, am, ao, aq, aA⟩ := (sa [aw, r_events, J, O, b] bJ aS).g12 hD au E ah ai aj ak al am ao aq aA
  replace ⟨aH, C, ar⟩ := (sa [aw, r_events, J, O, b] bJ aS).g3 aH C ar
  clear bJ
  replace ay := ay.rn r_events
  clear aS
  have e0 := ay.len; have e7 := ay.max
  refine .r 1 <| .d <| .g <| .ln ah <| .ln aH <| .cl (c_spec_l22Do (⟨(⟨(⟨W, Z⟩ : Idx), aa, ab⟩ : Sto), (⟨ac, ae, af, ag⟩ : Dsk)⟩ : Wld) V ai aj ak al am ao aq aA (by assumption : WD _).wi (NmD.sz (by assumption : EvD _).1) (w := cg) (F := nin (ge w.heap.size) [aw, az, J, O, b])) ?_
  rintro fT fU ⟨⟨_, rfl, ⟨ci, fV, cj, ck, fW, cm, co, fX, cp, cq, fY, cr, cu, fZ, cv, cw, f0, cx, cy, f3, cz, rfl, aT, aU, aV, aW, aX, aY, aZ⟩⟩, bK⟩
  have aI := al5 aH.lt ay.lt ah.lt E.lt au.lt
  have aM : Gb w.heap.size cg.heap.size := C.size
  replace ⟨hD, au, E, ah, ay, ai, aj, ak, al, am, ao, aq⟩ := (se [aw, az, J, O, b] bK).g12 hD au E ah ay ai aj ak al am ao aq
  replace ⟨C, ar⟩ := (se [aw, az, J, O, b] bK).g2 C ar
  clear bK
  replace aT := RepS.mixedG (M := [aw, az, J, O, b]) aT aI (fun _ h => Nat.le_trans aM h)
  have e8 := aT.max
  replace aU := RepS.mixedG (M := [aw, az, J, O, b]) aU aI (fun _ h => Nat.le_trans aM h)
  have e9 := aU.max
  replace aV := RepS.mixedG (M := [aw, az, J, O, b]) aV aI (fun _ h => Nat.le_trans aM h)
  have fa := aV.max
  replace aW := RepS.mixedG (M := [aw, az, J, O, b]) aW aI (fun _ h => Nat.le_trans aM h)
  have fb := aW.max
  replace aX := RepS.mixedG (M := [aw, az, J, O, b]) aX aI (fun _ h => Nat.le_trans aM h)
  have fc := aX.max
  replace aY := RepS.mixedG (M := [aw, az, J, O, b]) aY aI (fun _ h => Nat.le_trans aM h)
  have fd := aY.max
  replace aZ := RepS.mixedG (M := [aw, az, J, O, b]) aZ aI (fun _ h => Nat.le_trans aM h)
  have fe := aZ.max
  clear aI
  have de := aT.len
  subst de
  have df := aU.len
  subst df
  have dg := aV.len
  subst dg
  have dh := aW.len
  subst dh
  have di := aX.len
  subst di
  have dj := aY.len
  subst dj
  have dk := aZ.len
  subst dk
  refine .sc [.slice ci (((((doW (⟨(⟨(⟨W, Z⟩ : Idx), aa, ab⟩ : Sto), (⟨ac, ae, af, ag⟩ : Dsk)⟩ : Wld) V).store).idx).names).length) cj, .slice ck (((((doW (⟨(⟨(⟨W, Z⟩ : Idx), aa, ab⟩ : Sto), (⟨ac, ae, af, ag⟩ : Dsk)⟩ : Wld) V).store).idx).posts).length) cm, .slice co ((((doW (⟨(⟨(⟨W, Z⟩ : Idx), aa, ab⟩ : Sto), (⟨ac, ae, af, ag⟩ : Dsk)⟩ : Wld) V).store).parts).length) cp, .slice cq ((((doW (⟨(⟨(⟨W, Z⟩ : Idx), aa, ab⟩ : Sto), (⟨ac, ae, af, ag⟩ : Dsk)⟩ : Wld) V).store).mem).length) cr, .slice cu ((((doW (⟨(⟨(⟨W, Z⟩ : Idx), aa, ab⟩ : Sto), (⟨ac, ae, af, ag⟩ : Dsk)⟩ : Wld) V).disk).files).length) cv, .slice cw ((((doW (⟨(⟨(⟨W, Z⟩ : Idx), aa, ab⟩ : Sto), (⟨ac, ae, af, ag⟩ : Dsk)⟩ : Wld) V).disk).list).length) cx, .slice cy ((((doW (⟨(⟨(⟨W, Z⟩ : Idx), aa, ab⟩ : Sto), (⟨ac, ae, af, ag⟩ : Dsk)⟩ : Wld) V).disk).names).length) cz, vI (((doW (⟨(⟨(⟨W, Z⟩ : Idx), aa, ab⟩ : Sto), (⟨ac, ae, af, ag⟩ : Dsk)⟩ : Wld) V).disk).next)] ah fun cA bL dm dp => ?_
  replace ⟨hD, au, E, ay, ai, aj, ak, al, am, ao, aq, aT⟩ := (so [aw, az, J, O, b] bL).g12 hD au E ay ai aj ak al am ao aq aT
  replace ⟨aU, aV, aW, aX, aY, aZ, C, ar⟩ := (so [aw, az, J, O, b] bL).g8 aU aV aW aX aY aZ C ar
  clear bL dp
  refine .d <| .ib 1 <| .g <| .r 1 <| .it (n - 1) <| .r 1 <| .d ?_
  have bW : Mv [aw, az, J, O, b] [az, J, O, b] cA cA := Mv.less (all_cons (.tail _ (.head _)) (all_cons (.tail _ (.tail _ (.head _))) (all_cons (.tail _ (.tail _ (.tail _ (.head _)))) (all_cons (.tail _ (.tail _ (.tail _ (.tail _ (.head _))))) all_nil))))
  replace ⟨hD, ay, ai, aj, ak, al, am, ao, aq, aT, aU, aV⟩ := (sp bW (Chg.refl nil _)).g12 hD ay ai aj ak al am ao aq aT aU aV
  replace ⟨aW, aX, aY, aZ⟩ := (sp bW (Chg.refl nil _)).g4 aW aX aY aZ
  exact bO ((events ++ [V]), az, n_events + 1, eh, n - 1, eg, (((doW (⟨(⟨(⟨W, Z⟩ : Idx), aa, ab⟩ : Sto), (⟨ac, ae, af, ag⟩ : Dsk)⟩ : Wld) V).store).idx).names, ci, ((((doW (⟨(⟨(⟨W, Z⟩ : Idx), aa, ab⟩ : Sto), (⟨ac, ae, af, ag⟩ : Dsk)⟩ : Wld) V).store).idx).names).length, cj, (((doW (⟨(⟨(⟨W, Z⟩ : Idx), aa, ab⟩ : Sto), (⟨ac, ae, af, ag⟩ : Dsk)⟩ : Wld) V).store).idx).posts, ck, ((((doW (⟨(⟨(⟨W, Z⟩ : Idx), aa, ab⟩ : Sto), (⟨ac, ae, af, ag⟩ : Dsk)⟩ : Wld) V).store).idx).posts).length, cm, ((doW (⟨(⟨(⟨W, Z⟩ : Idx), aa, ab⟩ : Sto), (⟨ac, ae, af, ag⟩ : Dsk)⟩ : Wld) V).store).parts, co, (((doW (⟨(⟨(⟨W, Z⟩ : Idx), aa, ab⟩ : Sto), (⟨ac, ae, af, ag⟩ : Dsk)⟩ : Wld) V).store).parts).length, cp, ((doW (⟨(⟨(⟨W, Z⟩ : Idx), aa, ab⟩ : Sto), (⟨ac, ae, af, ag⟩ : Dsk)⟩ : Wld) V).store).mem, cq, (((doW (⟨(⟨(⟨W, Z⟩ : Idx), aa, ab⟩ : Sto), (⟨ac, ae, af, ag⟩ : Dsk)⟩ : Wld) V).store).mem).length, cr, ((doW (⟨(⟨(⟨W, Z⟩ : Idx), aa, ab⟩ : Sto), (⟨ac, ae, af, ag⟩ : Dsk)⟩ : Wld) V).disk).files, cu, (((doW (⟨(⟨(⟨W, Z⟩ : Idx), aa, ab⟩ : Sto), (⟨ac, ae, af, ag⟩ : Dsk)⟩ : Wld) V).disk).files).length, cv, ((doW (⟨(⟨(⟨W, Z⟩ : Idx), aa, ab⟩ : Sto), (⟨ac, ae, af, ag⟩ : Dsk)⟩ : Wld) V).disk).list, cw, (((doW (⟨(⟨(⟨W, Z⟩ : Idx), aa, ab⟩ : Sto), (⟨ac, ae, af, ag⟩ : Dsk)⟩ : Wld) V).disk).list).length, cx, ((doW (⟨(⟨(⟨W, Z⟩ : Idx), aa, ab⟩ : Sto), (⟨ac, ae, af, ag⟩ : Dsk)⟩ : Wld) V).disk).names, cy, (((doW (⟨(⟨(⟨W, Z⟩ : Idx), aa, ab⟩ : Sto), (⟨ac, ae, af, ag⟩ : Dsk)⟩ : Wld) V).disk).names).length, cz, ((doW (⟨(⟨(⟨W, Z⟩ : Idx), aa, ab⟩ : Sto), (⟨ac, ae, af, ag⟩ : Dsk)⟩ : Wld) V).disk).next) _ _ ⟨by kernel_rfl, by kernel_rfl, by kernel_rfl, by kernel_rfl, by kernel_rfl, trivial⟩ ⟨ar, ay, dd, aT, aU, aV, aW, aX, aY, aZ, au, dm, (by omega), (by omega), (by omega), (by omega), (by exact WD.do (by assumption) (by assumption : EvD _).1)⟩ (by (simp only []; omega))
 refine .d <| .cf <| .x 0 rfl <| .s <| .g <| .r 1 <| .ln ah <| .cl (c_spec_l22Copy (⟨(⟨(⟨W, Z⟩ : Idx), aa, ab⟩ : Sto), (⟨ac, ae, af, ag⟩ : Dsk)⟩ : Wld) ai.ta aj.ta ak.ta al.ta am.ta ao.ta aq.ta (by assumption : WD _).wi (w := ax) (F := all)) ?_
 rintro f4 bm ⟨⟨cB, f5, cC, cD, f6, cE, cF, f7, cG, aC, cH, cI, aD, cJ, cK, aE, cL, cM, aF, cN, cO, rfl, br, bt, bu, aN, bz, aO, bA, dq, aP, bB, dr, dt, aQ, bC, du, dv, dw⟩, bM⟩
 have aJ := al4 av.lt ah.lt E.lt aG.lt
 have aR : Gb w.heap.size ax.heap.size := C.size
 have ff := nb_ge bz E.lt
 have dx := gb_ge bz C.size
 have fg := nb_ge bA E.lt
 have dy := gb_ge bA C.size
 have fh := nb_ge bB E.lt
 have dz := gb_ge bB C.size
 have fi := nb_ge bC E.lt
 have dA := gb_ge bC C.size
 have bX : Mv [r_events, J, O, b] [aC, aD, aE, aF, r_events, J, O, b] ax bm := Mv.cons (Mv.cons (Mv.cons (Mv.cons (Mv.ext bM) bC) bB) bA) bz
 replace ⟨hD, aG, E, C⟩ := (sp bX bM).g4 hD aG E C
 clear bX bM bz bA bB bC
 replace br : RepS bm (nin (ge w.heap.size) [aC, aD, aE, aF, r_events, J, O, b]) _ _ _ _ := RepS.takeM (s0 := w.heap.size) (M := [r_events, J, O, b]) br aJ aR
 have fj := br.max
 replace bt : RepS bm (nin (ge w.heap.size) [aC, aD, aE, aF, r_events, J, O, b]) _ _ _ _ := RepS.takeM (s0 := w.heap.size) (M := [r_events, J, O, b]) bt aJ aR
 have fk := bt.max
 replace bu : RepS bm (nin (ge w.heap.size) [aC, aD, aE, aF, r_events, J, O, b]) _ _ _ _ := RepS.takeM (s0 := w.heap.size) (M := [r_events, J, O, b]) bu aJ aR
 have fl := bu.max
 replace aN : Own bm aC 51 (nin (ge w.heap.size) [aC, aD, aE, aF, r_events, J, O, b]) _ _ _ := Own.takeM (s0 := w.heap.size) (M := [r_events, J, O, b]) aN aJ aR
 have fm := aN.max
 have fp := aN.len
 replace aO : Own bm aD 88 (nin (ge w.heap.size) [aC, aD, aE, aF, r_events, J, O, b]) _ _ _ := Own.takeM (s0 := w.heap.size) (M := [r_events, J, O, b]) aO aJ aR
 have fq := aO.max
 have ft := aO.len
 replace aP : Own bm aE 3 (nin (ge w.heap.size) [aC, aD, aE, aF, r_events, J, O, b]) _ _ _ := Own.takeM (s0 := w.heap.size) (M := [r_events, J, O, b]) aP aJ aR
 have fu := aP.max
 have fv := aP.len
 replace aQ : Own bm aF 31 (nin (ge w.heap.size) [aC, aD, aE, aF, r_events, J, O, b]) _ _ _ := Own.takeM (s0 := w.heap.size) (M := [r_events, J, O, b]) aQ aJ aR
 have fw := aQ.max
 have fx := aQ.len
 clear aJ
 have dB := br.len
 subst dB
 have dC := bt.len
 subst dC
 have dD := bu.len
 subst dD
 refine .r 1 <| .sc [.slice cB ((((((copyW (⟨(⟨(⟨W, Z⟩ : Idx), aa, ab⟩ : Sto), (⟨ac, ae, af, ag⟩ : Dsk)⟩ : Wld))).store).idx).names).length) cC, .slice cD ((((((copyW (⟨(⟨(⟨W, Z⟩ : Idx), aa, ab⟩ : Sto), (⟨ac, ae, af, ag⟩ : Dsk)⟩ : Wld))).store).idx).posts).length) cE, .slice cF (((((copyW (⟨(⟨(⟨W, Z⟩ : Idx), aa, ab⟩ : Sto), (⟨ac, ae, af, ag⟩ : Dsk)⟩ : Wld))).store).parts).length) cG, vS aC cH cI, vS aD cJ cK, vS aE cL cM, vS aF cN cO, vI ((((copyW (⟨(⟨(⟨W, Z⟩ : Idx), aa, ab⟩ : Sto), (⟨ac, ae, af, ag⟩ : Dsk)⟩ : Wld))).disk).next)] E fun f8 bY dE dF => ?_
 replace ⟨hD, aG, br, bt, bu, aN, aO, aP, aQ, C⟩ := (so [aC, aD, aE, aF, r_events, J, O, b] bY).g10 hD aG br bt bu aN aO aP aQ C
 clear bY dF
 exact .d <| .r2 Tryz.func101 Tryz.results101 (.t (vS r_events n_events c_events)) (.bx dE) ⟨⟨((⟨(⟨(⟨((((copyW (⟨(⟨(⟨W, Z⟩ : Idx), aa, ab⟩ : Sto), (⟨ac, ae, af, ag⟩ : Dsk)⟩ : Wld))).store).idx).names, ((((copyW (⟨(⟨(⟨W, Z⟩ : Idx), aa, ab⟩ : Sto), (⟨ac, ae, af, ag⟩ : Dsk)⟩ : Wld))).store).idx).posts⟩ : Idx), (((copyW (⟨(⟨(⟨W, Z⟩ : Idx), aa, ab⟩ : Sto), (⟨ac, ae, af, ag⟩ : Dsk)⟩ : Wld))).store).parts, (((copyW (⟨(⟨(⟨W, Z⟩ : Idx), aa, ab⟩ : Sto), (⟨ac, ae, af, ag⟩ : Dsk)⟩ : Wld))).store).mem⟩ : Sto), (⟨(((copyW (⟨(⟨(⟨W, Z⟩ : Idx), aa, ab⟩ : Sto), (⟨ac, ae, af, ag⟩ : Dsk)⟩ : Wld))).disk).files, (((copyW (⟨(⟨(⟨W, Z⟩ : Idx), aa, ab⟩ : Sto), (⟨ac, ae, af, ag⟩ : Dsk)⟩ : Wld))).disk).list, (((copyW (⟨(⟨(⟨W, Z⟩ : Idx), aa, ab⟩ : Sto), (⟨ac, ae, af, ag⟩ : Dsk)⟩ : Wld))).disk).names, (((copyW (⟨(⟨(⟨W, Z⟩ : Idx), aa, ab⟩ : Sto), (⟨ac, ae, af, ag⟩ : Dsk)⟩ : Wld))).disk).next⟩ : Dsk)⟩ : Wld) : Wld), ⟨_, _, (tup2 rfl rfl), trivial, ⟨cB, (((((copyW (⟨(⟨(⟨W, Z⟩ : Idx), aa, ab⟩ : Sto), (⟨ac, ae, af, ag⟩ : Dsk)⟩ : Wld))).store).idx).names).length, cC, cD, (((((copyW (⟨(⟨(⟨W, Z⟩ : Idx), aa, ab⟩ : Sto), (⟨ac, ae, af, ag⟩ : Dsk)⟩ : Wld))).store).idx).posts).length, cE, cF, ((((copyW (⟨(⟨(⟨W, Z⟩ : Idx), aa, ab⟩ : Sto), (⟨ac, ae, af, ag⟩ : Dsk)⟩ : Wld))).store).parts).length, cG, aC, cH, cI, aD, cJ, cK, aE, cL, cM, aF, cN, cO, rfl, ((RepS.lessM br (all_cons (.head _) (all_cons (.tail _ (.head _)) (all_cons (.tail _ (.tail _ (.head _))) (all_cons (.tail _ (.tail _ (.tail _ (.head _)))) all_nil))))).eqx (by rfl)), ((RepS.lessM bt (all_cons (.head _) (all_cons (.tail _ (.head _)) (all_cons (.tail _ (.tail _ (.head _))) (all_cons (.tail _ (.tail _ (.tail _ (.head _)))) all_nil))))).eqx (by rfl)), ((RepS.lessM bu (all_cons (.head _) (all_cons (.tail _ (.head _)) (all_cons (.tail _ (.tail _ (.head _))) (all_cons (.tail _ (.tail _ (.tail _ (.head _)))) all_nil))))).eqx (by rfl)), ((Own.lessM aN (all_cons (.head _) (all_cons (.tail _ (.head _)) (all_cons (.tail _ (.tail _ (.head _))) (all_cons (.tail _ (.tail _ (.tail _ (.head _)))) all_nil))))).eqx (by rfl)), dx, ((Own.lessM aO (all_cons (.head _) (all_cons (.tail _ (.head _)) (all_cons (.tail _ (.tail _ (.head _))) (all_cons (.tail _ (.tail _ (.tail _ (.head _)))) all_nil))))).eqx (by rfl)), dy, dq, ((Own.lessM aP (all_cons (.head _) (all_cons (.tail _ (.head _)) (all_cons (.tail _ (.tail _ (.head _))) (all_cons (.tail _ (.tail _ (.tail _ (.head _)))) all_nil))))).eqx (by rfl)), dz, dr, dt, ((Own.lessM aQ (all_cons (.head _) (all_cons (.tail _ (.head _)) (all_cons (.tail _ (.tail _ (.head _))) (all_cons (.tail _ (.tail _ (.tail _ (.head _)))) all_nil))))).eqx (by rfl)), dA, du, dv, dw⟩⟩, (by exact WD.copy (by assumption))⟩, p_, by omega, aG, C⟩
end Go.Proofs.YtfnpaglcnmcnbaaGreat
namespace Go.Proofs.YtfnpaglcnmcnbaaGreat
def tagsU : List Tag := (List.range' 97 4).flatMap (fun k => (List.range' 112 11).map (tagAt k))
theorem postsV_eq (names : List (List Tag)) (k : Nat) : ∀ f v, postsV names k f v = ((List.range' v f).map (tagAt k)).flatMap (post1 names) := by
 intro f
 induction f with
 | zero => intro v; rfl
 | succ f ih => intro v; rw [postsV, ih, List.range'_succ]; rfl
theorem postsK_eq (names : List (List Tag)) : ∀ f k, postsK names f k = ((List.range' k f).flatMap (fun k => (List.range' 112 11).map (tagAt k))).flatMap (post1 names) := by
 intro f
 induction f with
 | zero => intro k; rfl
 | succ f ih => intro k; rw [postsK, ih, postsV_eq, show List.range' k (f + 1) = k :: List.range' (k + 1) f from rfl, List.flatMap_cons, List.flatMap_append]
theorem postsOf_eq (names : List (List Tag)) : postsOf names = tagsU.flatMap (post1 names) := postsK_eq names 4 97
theorem tagsU_sorted : tagsU.Pairwise (fun a b => tagLt a b = true) := by decide +kernel
theorem tagsU_mem {t : Tag} (h : tagOk t = true) : t ∈ tagsU := by
 simp only [tagOk, Bool.and_eq_true] at h
 obtain ⟨h1, h2⟩ := h
 obtain ⟨x, hx⟩ : ∃ x, t.key = [x] := by
  have := one1_len h1
  match t.key, this with
  | [x], _ => exact ⟨x, rfl⟩
 obtain ⟨y, hy⟩ : ∃ y, t.val = [y] := by
  have := one1_len h2
  match t.val, this with
  | [y], _ => exact ⟨y, rfl⟩
 rw [hx] at h1
 rw [hy] at h2
 have g1 := inR_t h1
 have g2 := inR_t h2
 unfold tagsU
 refine List.mem_flatMap.2 ⟨x.toNat, ?_, List.mem_map.2 ⟨y.toNat, ?_, ?_⟩⟩
 ·rw [List.mem_range'_1]; omega
 ·rw [List.mem_range'_1]; omega
 ·cases t
  simp only at hx hy
  subst hx hy
  simp [tagAt]
theorem posts_mem {names : List (List Tag)} {p : Pst} (h : p ∈ postsOf names) : p.ids = ids names p.tag ∧ 0 < p.ids.length ∧ p.tag ∈ tagsU := by
 rw [postsOf_eq] at h
 obtain ⟨t, ht, hp⟩ := List.mem_flatMap.1 h
 unfold post1 at hp
 split at hp
 ·simp at hp
  subst hp
  exact ⟨rfl, by assumption, ht⟩
 ·cases hp
theorem posts_in {names : List (List Tag)} {t : Tag} (h : t ∈ tagsU) (h2 : 0 < (ids names t).length) : ⟨t, ids names t⟩ ∈ postsOf names := by
 rw [postsOf_eq]
 refine List.mem_flatMap.2 ⟨t, h, ?_⟩
 unfold post1
 rw [if_pos h2]
 simp
theorem posts_sorted (names : List (List Tag)) : (postsOf names).Pairwise (fun a b => tagLt a.tag b.tag = true) := by
 rw [postsOf_eq, List.pairwise_flatMap]
 refine ⟨fun t _ => ?_, tagsU_sorted.imp ?_⟩
 ·unfold post1
  split <;> simp
 ·intro a b hab x hx y hy
  have h1 : x.tag = a := by
   unfold post1 at hx
   split at hx
   ·simp at hx; rw [hx]
   ·cases hx
  have h2 : y.tag = b := by
   unfold post1 at hy
   split at hy
   ·simp at hy; rw [hy]
   ·cases hy
  rw [h1, h2]
  exact hab
def lenSum (names : List (List Tag)) : Nat := (names.map List.length).sum
def idSum (ps : List Pst) : Nat := (ps.map (fun p => p.ids.length)).sum
theorem idsF_len (t : Tag) : ∀ (ns : List (List Tag)) (i : Nat), (idsF t i ns).length = (ns.map (fun n => if has n t then 1 else 0)).sum := by
 intro ns
 induction ns with
 | nil => intro i; rfl
 | cons n ns ih =>
   intro i
   rw [idsF, List.length_append, ih, List.map_cons, List.sum_cons]
   split <;> simp_all
theorem idSum_posts (names : List (List Tag)) : idSum (postsOf names) = (tagsU.map (fun t => (ids names t).length)).sum := by
 rw [postsOf_eq]
 generalize tagsU = U
 induction U with
 | nil => rfl
 | cons t ts ih =>
   rw [List.flatMap_cons]
   unfold idSum at ih ⊢
   rw [List.map_append, List.sum_append, ih, List.map_cons, List.sum_cons]
   congr 1
   unfold post1
   split
   ·simp
   ·simp; omega
theorem sum_zero {α : Type} (U : List α) (f : α → Nat) (h : ∀ a ∈ U, f a = 0) : (U.map f).sum = 0 := by
 induction U with
 | nil => rfl
 | cons a U ih => rw [List.map_cons, List.sum_cons, h a (by simp), ih (fun b hb => h b (by simp [hb]))]
theorem sum_add {α : Type} (U : List α) (f g : α → Nat) : (U.map (fun a => f a + g a)).sum = (U.map f).sum + (U.map g).sum := by
 induction U with
 | nil => rfl
 | cons a U ih => simp only [List.map_cons, List.sum_cons, ih]; omega
theorem sum_one {U : List Tag} (hU : U.Nodup) {t : Tag} (ht : t ∈ U) : (U.map (fun u => if t == u then 1 else 0)).sum = 1 := by
 induction U with
 | nil => cases ht
 | cons a U ih =>
   rw [List.map_cons, List.sum_cons]
   obtain ⟨h1, h2⟩ := List.nodup_cons.1 hU
   rcases List.mem_cons.1 ht with rfl | ht
   ·rw [sum_zero U _ (fun b hb => by
     have : ¬ (t == b) = true := fun e => h1 (by rw [eq_of_beq e]; exact hb)
     simp only [this]; rfl)]
    simp
   ·have : ¬ (t == a) = true := fun e => h1 (by rw [← eq_of_beq e]; exact ht)
    rw [ih h2 ht, if_neg this]
theorem has_sum {U : List Tag} (hU : U.Nodup) : ∀ (n : List Tag), n.Nodup → (∀ t ∈ n, t ∈ U) → (U.map (fun u => if has n u then 1 else 0)).sum = n.length := by
 intro n
 induction n with
 | nil => intro _ _; exact sum_zero U _ (fun a _ => by simp [has])
 | cons t ts ih =>
   intro hn hm
   obtain ⟨h1, h2⟩ := List.nodup_cons.1 hn
   have e : (U.map (fun u => if has (t :: ts) u then 1 else 0)) = U.map (fun u => (if t == u then 1 else 0) + (if has ts u then 1 else 0)) := by
    apply List.map_congr_left
    intro u _
    by_cases hu : (t == u) = true
    ·have h3 : has ts u = false := by
      rw [← eq_of_beq hu]
      unfold has
      rw [List.any_eq_false]
      intro x hx hxt
      exact h1 (by rw [← eq_of_beq hxt]; exact hx)
     simp [has, hu]
     unfold has at h3
     rw [List.any_eq_false] at h3
     exact fun hm => h3 u hm (by simp)
    ·simp [has, hu]
   rw [e, sum_add, sum_one hU (hm t (by simp)), ih h2 (fun x hx => hm x (by simp [hx])), List.length_cons]
   omega
theorem strLt_irr : ∀ (s : Str), strLt s s = false := by
 intro s
 induction s with
 | nil => rfl
 | cons x xs ih =>
   have ih' : Op.bytesLess xs xs = false := ih
   show (decide (x < x) || x == x && Op.bytesLess xs xs) = false
   simp [ih']
theorem strLt_key {a b : Tag} (ha : tagOk a = true) (hb : tagOk b = true) (h : strLt a.key b.key = true) : ∃ x y, a.key = [x] ∧ b.key = [y] ∧ x.toNat < y.toNat := by
 simp only [tagOk, Bool.and_eq_true] at ha hb
 have h1 := one1_len ha.1
 have h2 := one1_len hb.1
 match ha' : a.key, h1, hb' : b.key, h2 with
 | [x], _, [y], _ =>
   rw [ha', hb', strLt1] at h
   exact ⟨x, y, rfl, rfl, by simpa using h⟩
theorem nameF_keys : ∀ (n : List Tag) (o : Option Tag), nameF o n = true → (∀ q, o = some q → tagOk q = true) → (∀ q, o = some q → ∀ t ∈ n, strLt q.key t.key = true) ∧ n.Nodup := by
 intro n
 induction n with
 | nil => intro o _ _; exact ⟨fun _ _ t ht => (by cases ht), by simp⟩
 | cons t ts ih =>
   intro o h ho
   simp only [nameF, Bool.and_eq_true] at h
   obtain ⟨⟨h1, h2⟩, h3⟩ := h
   obtain ⟨g1, g2⟩ := ih (some t) h3 (fun q hq => by cases hq; exact h1)
   refine ⟨fun q hq u hu => ?_, List.nodup_cons.2 ⟨fun hm => ?_, g2⟩⟩
   ·subst hq
    have h4 : strLt q.key t.key = true := h2
    rcases List.mem_cons.1 hu with rfl | hu
    ·exact h4
    ·have h5 := g1 t rfl u hu
     obtain ⟨x, y, e1, e2, l1⟩ := strLt_key (ho q rfl) h1 h4
     obtain ⟨y', z, e3, e4, l2⟩ := strLt_key h1 (nameF_tags ts (some t) h3 u hu) h5
     rw [e2] at e3
     cases e3
     rw [e1, e4, strLt1]
     simp; omega
   ·have h5 := g1 t rfl t hm
    rw [strLt_irr] at h5
    cases h5
theorem nameOk_nodup {n : List Tag} (h : nameOk n = true) : n.Nodup ∧ ∀ t ∈ n, t ∈ tagsU := by
 simp only [nameOk, Bool.and_eq_true] at h
 exact ⟨(nameF_keys n none h.1 (by simp)).2, fun t ht => tagsU_mem (nameF_tags n none h.1 t ht)⟩
theorem tagsU_nodup : tagsU.Nodup := tagsU_sorted.imp (fun {a b} h e => by
 subst e
 unfold tagLt at h
 simp [strLt_irr] at h)
theorem idSum_eq {names : List (List Tag)} (h : ∀ n ∈ names, nameOk n = true) : idSum (postsOf names) = lenSum names := by
 rw [idSum_posts]
 unfold ids
 have e : (tagsU.map (fun t => (idsF t 0 names).length)) = tagsU.map (fun t => (names.map (fun n => if has n t then 1 else 0)).sum) := by
  apply List.map_congr_left
  intro t _
  exact idsF_len t names 0
 rw [e]
 clear e
 induction names with
 | nil => exact sum_zero _ _ (fun _ _ => rfl)
 | cons n ns ih =>
   have e : (tagsU.map (fun t => ((n :: ns).map (fun n => if has n t then 1 else 0)).sum)) = tagsU.map (fun t => (if has n t then 1 else 0) + (ns.map (fun n => if has n t then 1 else 0)).sum) := by
    apply List.map_congr_left
    intro t _
    rfl
   have g := nameOk_nodup (h n (by simp))
   rw [e, sum_add, has_sum tagsU_nodup n g.1 g.2, ih (fun m hm => h m (by simp [hm]))]
   rfl
end Go.Proofs.YtfnpaglcnmcnbaaGreat
namespace Go.Proofs.YtfnpaglcnmcnbaaGreat
structure IxI (x : Idx) : Prop where
 eq : x = idxOf x.names
 nm : NmI x.names
theorem IxI.posts {x : Idx} (h : IxI x) : x.posts = postsOf x.names := by have := h.eq; rw [this]; rfl
theorem IxI.sz {x : Idx} (h : IxI x) : IdxSz x := ⟨by have := h.nm.len; omega, h.nm.sz⟩
theorem SD.ix {s : Sto} (h : SD s) : IxI s.idx := ⟨h.idx, h.nm⟩
theorem SD.sz {s : Sto} (h : SD s) : StoSz s := ⟨h.ix.sz, by have := h.np; omega, fun p hp => (h.part p hp).sz, by have := h.nm2; omega⟩
theorem nodup_at {names : List (List Tag)} (h : (names.map text).Nodup) {i k : Nat} {x y : List Tag} (hx : names[i]? = some x) (hy : names[k]? = some y) (hk : k < i) : ¬ (text x = text y) := by
 intro e
 have h1 : (names.map text)[i]? = some (text x) := by rw [List.getElem?_map, hx]; rfl
 have h2 : (names.map text)[k]? = some (text y) := by rw [List.getElem?_map, hy]; rfl
 obtain ⟨g1, g2⟩ := List.getElem?_eq_some_iff.1 h1
 obtain ⟨g3, g4⟩ := List.getElem?_eq_some_iff.1 h2
 exact (List.pairwise_iff_getElem.1 h) k i g3 g1 hk (by rw [g2, g4, e])
theorem ids_len (names : List (List Tag)) (t : Tag) : (ids names t).length ≤ names.length := by
 unfold ids
 have : ∀ (ns : List (List Tag)) (i : Nat), (idsF t i ns).length ≤ ns.length := by
  intro ns
  induction ns with
  | nil => intro i; simp [idsF]
  | cons n ns ih =>
    intro i
    have := ih (i + 1)
    rw [idsF, List.length_append, List.length_cons]
    split <;> simp <;> omega
 exact this names 0
theorem lenStep {α : Type} {f : α → Nat} {l : List α} {i : Nat} {x : α} (h : l[i]? = some x) : ((l.take (i + 1)).map f).sum = ((l.take i).map f).sum + f x := by
 obtain ⟨h1, h2⟩ := List.getElem?_eq_some_iff.1 h
 rw [List.take_add_one, h]
 simp
theorem posts_prev {names : List (List Tag)} {i : Nat} {x y : Pst} (hx : (postsOf names)[i]? = some x) (hy : (postsOf names)[i - 1]? = some y) (hi : 0 < i) : tagLt y.tag x.tag = true := by
 have h := posts_sorted names
 rw [List.pairwise_iff_getElem] at h
 obtain ⟨g1, g2⟩ := List.getElem?_eq_some_iff.1 hx
 obtain ⟨g3, g4⟩ := List.getElem?_eq_some_iff.1 hy
 have := h (i - 1) i g3 g1 (by omega)
 rw [g2, g4] at this
 exact this
theorem posts_len (names : List (List Tag)) : (postsOf names).length ≤ 44 := by
 rw [postsOf_eq]
 have h : ∀ U : List Tag, (U.flatMap (post1 names)).length ≤ U.length := by
  intro U
  induction U with
  | nil => simp
  | cons t ts ih =>
    rw [List.flatMap_cons, List.length_append, List.length_cons]
    have : (post1 names t).length ≤ 1 := by unfold post1; split <;> simp
    omega
 have h2 : tagsU.length = 44 := by decide +kernel
 have := h tagsU
 omega
theorem ix_sum {x : Idx} (h : IxI x) : idSum x.posts = lenSum x.names := by rw [h.posts]; exact idSum_eq h.nm.ok
theorem allStep {α : Type} {f : α → Bool} {l : List α} {i : Nat} {x : α} {b : Bool} (h : (l.drop i).all f = b) (hd : l.drop i = x :: l.drop (i + 1)) (hx : f x = true) : (l.drop (i + 1)).all f = b := by
 rw [hd, List.all_cons, hx, Bool.true_and] at h
 exact h
theorem allNo {α : Type} {f : α → Bool} {l : List α} {i : Nat} {x : α} {b : Bool} (h : (l.drop i).all f = b) (hd : l.drop i = x :: l.drop (i + 1)) (hx : f x = false) : b = false := by
 rw [hd, List.all_cons, hx, Bool.false_and] at h
 exact h.symm
theorem allEnd {α : Type} {f : α → Bool} {l : List α} {i : Nat} {b : Bool} (h : (l.drop i).all f = b) (hi : l.length ≤ i) : b = true := by
 rw [drop_end hi] at h
 exact h.symm
def memOk (n : Nat) (m : Smp) : Bool := inR m.id 1 n && rowOk m.row
def cntOk (s : Sto) (i : Nat) : Bool := decide ((rowsOf s ((i : Int) + 1)).length ≤ 24)
def storeOk (s : Sto) : Bool :=
 decide (s.parts.length ≤ 6) && decide (s.mem.length ≤ 20) && s.parts.all (fun p => partIn p s.idx.names.length) && s.mem.all (memOk s.idx.names.length) && (List.range s.idx.names.length).all (cntOk s)
theorem storeOk_1 {s : Sto} (h : (s.parts.length : Int) > 6 ∨ (s.mem.length : Int) > 20) : storeOk s = false := by
 unfold storeOk
 rcases h with h | h
 ·rw [decide_eq_false (by omega)]; simp
 ·rw [decide_eq_false (p := s.mem.length ≤ 20) (by omega)]; simp
theorem storeOk_2 {s : Sto} (h : s.parts.all (fun p => partIn p s.idx.names.length) = false) : storeOk s = false := by unfold storeOk; rw [h]; simp
theorem storeOk_3 {s : Sto} (h : s.mem.all (memOk s.idx.names.length) = false) : storeOk s = false := by unfold storeOk; rw [h]; simp
theorem storeOk_4 {s : Sto} (h : (List.range s.idx.names.length).all (cntOk s) = false) : storeOk s = false := by unfold storeOk; rw [h]; simp
theorem storeOk_5 {s : Sto} (h1 : ¬ (s.parts.length : Int) > 6) (h2 : ¬ (s.mem.length : Int) > 20) (h3 : s.parts.all (fun p => partIn p s.idx.names.length) = true) (h4 : s.mem.all (memOk s.idx.names.length) = true) (h5 : (List.range s.idx.names.length).all (cntOk s) = true) : storeOk s = true := by
 unfold storeOk
 rw [h3, h4, h5, decide_eq_true (by omega), decide_eq_true (by omega)]
 rfl
theorem range_at {n i : Nat} (h : i < n) : (List.range n).drop i = i :: (List.range n).drop (i + 1) := by
 rw [List.drop_eq_getElem_cons (by simpa using h)]
 simp
theorem SD.copy {s : Sto} (h : SD s) : copyS s = s := by
 have := h.idx
 unfold copyS
 rw [← this]
theorem cntStep {s : Sto} {n k : Nat} {b : Bool} (h : ((List.range n).drop (k - 1)).all (cntOk s) = b) (h1 : 1 ≤ k) (h2 : k ≤ n) (h3 : ((rowsOf s (k : Int)).length : Int) ≤ 24) : ((List.range n).drop (k + 1 - 1)).all (cntOk s) = b := by
 have hd := range_at (n := n) (i := k - 1) (by omega)
 have := allStep h hd (by unfold cntOk; rw [show ((k - 1 : Nat) : Int) + 1 = (k : Int) by omega]; simp; omega)
 rw [show k + 1 - 1 = k - 1 + 1 by omega]
 exact this
theorem cntNo {s : Sto} {n k : Nat} {b : Bool} (h : ((List.range n).drop (k - 1)).all (cntOk s) = b) (h1 : 1 ≤ k) (h2 : k ≤ n) (h3 : ((rowsOf s (k : Int)).length : Int) > 24) : b = false := by
 have hd := range_at (n := n) (i := k - 1) (by omega)
 exact allNo h hd (by unfold cntOk; rw [show ((k - 1 : Nat) : Int) + 1 = (k : Int) by omega]; simp; omega)
theorem cntEnd {s : Sto} {n k : Nat} {b : Bool} (h : ((List.range n).drop (k - 1)).all (cntOk s) = b) (h1 : n + 1 ≤ k) : b = true := allEnd h (by simp; omega)
end Go.Proofs.YtfnpaglcnmcnbaaGreat
