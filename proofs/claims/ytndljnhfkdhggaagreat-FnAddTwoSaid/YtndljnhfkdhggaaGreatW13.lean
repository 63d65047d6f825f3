/- walks; squeezed -/
import Derived.Test.YtndljnhfkdhggaaGreatMod13
set_option linter.unusedVariables false
set_option linter.unusedSimpArgs false
namespace Go.Proofs.YtndljnhfkdhggaaGreat
set_option maxRecDepth 100000
set_option maxHeartbeats 4000000
theorem c_spec_l72Known  {w : World} {F : Nat → Prop} {b : Nat} {ad : Option Addr} {cd p : Nat} {D : List UInt8} (hr : Box w b 75 [.slice ad D.length cd, .int .i64 (p : Int)]) (hD : RepS w (nin all [b]) ad D.length cd D) (hp : p + 25 ≤ 1000000000)  : Calls Tryz.prog 13 [.pointer (some ⟨b, 0, none⟩)].toArray w (rets fun rv w' => (∃ (y : List Tag), VL (ge w.heap.size) w' (y : List Tag) rv ∧ NmD y) ∧ ∃ p' : Nat, p' ≤ p + 25 ∧ Box w' b 75 [.slice ad D.length cd, .int .i64 (p' : Int)] ∧ Chg (one b) w w') := by
 refine goT Tryz.func13 ?_
 have aG := hD.max
 refine .s <| .g <| .r 1 <| .d <| .s <| .s <| .g <| .r 1 <| .cl (c_spec_l6Rd_pick 4 hr (hD.toAll (.head _)) (by omega) (w := w) (F := all)) ?_
 rintro aQ aj ⟨⟨az, rfl, aH⟩, aR, aI, E, V⟩
 replace hD := (so [b] V).g1 hD
 have C : Chg (one b) w aj := Chg.stepO (Chg.refl (one b) w) V (Cov.mk1 w b)
 clear V
 refine .eq az 0 (fun al => ?_) (fun al => ?_)
 · refine .d <| .ct <| .s <| .g <| .r 1 <| .cl (c_spec_l71Name E (hD.toAll (.head _)) (by omega) (w := aj) (F := all)) ?_
   rintro aS aT ⟨⟨am, ⟨aA, aB, rfl, Z⟩, aJ⟩, aC, aK, ao, ac⟩
   have ae := al1 E.lt
   have aq : Gb w.heap.size aj.heap.size := C.size
   replace ⟨hD, C⟩ := (so [b] ac).g2 hD C
   clear ac
   have Z := Z.fr ae aq
   have aL := Z.max
   clear ae
   exact .r 1 <| .d <| .rt Tryz.func13 Tryz.results13 (.slice aA am.length aB) ⟨⟨(am : List Tag), (Z.vl (by rfl) (fun _ _ h => h.1)), (by first | assumption | exact (known_D (by assumption)).1)⟩, aC, by omega, ao, C⟩
 refine .d <| .cf <| .sk <| .s <| .g <| .r 1 <| .ns 3 9 [.string (bs [97, 61, 112]), .string (bs [97, 61, 113, 44, 98, 61, 112]), .string (bs [98, 61, 122, 44, 99, 61, 113])] fun aa ar W af au av => ?_
 have aw := nb_new W E.lt
 replace ⟨hD, E, C⟩ := (sn [b] af W).g3 hD E C
 clear af av W
 have J : Own (α := Txt) ar aa 9 (nin (ge w.heap.size) [aa, b]) 3 3 [(⟨[97, 61, 112]⟩ : Txt), (⟨[97, 61, 113, 44, 98, 61, 112]⟩ : Txt), (⟨[98, 61, 122, 44, 99, 61, 113]⟩ : Txt)] := Own.lit au rfl (by decide) ⟨rfl, rfl, rfl, rfl⟩
 refine .cl (c_spec_l6Rd_of ([(⟨[97, 61, 112]⟩ : Txt), (⟨[97, 61, 113, 44, 98, 61, 112]⟩ : Txt), (⟨[98, 61, 122, 44, 99, 61, 113]⟩ : Txt)] : List Txt) E (hD.toAll (.tail _ (.head _))) (by omega) (J.toAll (.tail _ (.head _)) aw) (by simp) (w := ar) (F := all)) ?_
 rintro aU ax ⟨⟨ak, rfl, aM⟩, aD, aN, O, ag⟩
 replace ⟨hD, J, C⟩ := (so [aa, b] ag).g3 hD J C
 clear ag
 refine .cl (c_spec_NameRead ak (known_D (by assumption)).2 (w := ax) (F := all)) ?_
 rintro aV aW ⟨⟨aX, ⟨aY, rfl, ⟨aE, aF, rfl, ab⟩⟩, aO⟩, ah⟩
 have ai := al2 J.lt O.lt
 have ay : Gb w.heap.size ax.heap.size := C.size
 replace ⟨hD, O, C⟩ := (se [aa, b] ah).g3 hD O C
 clear ah
 have ab := ab.fr ai ay
 have aP := ab.max
 clear ai
 exact .r 5 <| .d <| .s <| .g <| .r 2 <| .d <| .rt Tryz.func13 Tryz.results13 (.slice aE ((nameR ak).length) aF) ⟨⟨(nameR ak : List Tag), (ab.vl (by rfl) (fun _ _ h => h.1)), (by first | assumption | exact (known_D (by assumption)).1)⟩, aD, by omega, O, C⟩
theorem c_spec_l72Event (w_ : Wld) {w : World} {F : Nat → Prop} {b : Nat} {ad : Option Addr} {cd p : Nat} {D : List UInt8} (hr : Box w b 75 [.slice ad D.length cd, .int .i64 (p : Int)]) (hD : RepS w (nin all [b]) ad D.length cd D) (hp : p + 60 ≤ 1000000000) {a1 : Option Addr} {n1 c1 : Nat} (h1 : RepS w (nin F [b]) a1 n1 c1 w_.store.idx.names) {a2 : Option Addr} {n2 c2 : Nat} (h2 : RepS w (nin F [b]) a2 n2 c2 w_.store.idx.posts) {a3 : Option Addr} {n3 c3 : Nat} (h3 : RepS w (nin F [b]) a3 n3 c3 w_.store.parts) {a4 : Option Addr} {n4 c4 : Nat} (h4 : RepS w (nin F [b]) a4 n4 c4 w_.store.mem) {a5 : Option Addr} {n5 c5 : Nat} (h5 : RepS w (nin F [b]) a5 n5 c5 w_.disk.files) {a6 : Option Addr} {n6 c6 : Nat} (h6 : RepS w (nin F [b]) a6 n6 c6 w_.disk.list) {a7 : Option Addr} {n7 c7 : Nat} (h7 : RepS w (nin F [b]) a7 n7 c7 w_.disk.names) (p0 : w_.disk.list.length ≤ 1000) : Calls Tryz.prog 67 [.pointer (some ⟨b, 0, none⟩), .agg #[.slice a1 n1 c1, .slice a2 n2 c2, .slice a3 n3 c3, .slice a4 n4 c4, .slice a5 n5 c5, .slice a6 n6 c6, .slice a7 n7 c7, .int .i64 w_.disk.next]].toArray w (rets fun rv w' => (∃ (y : Evt), VS (ge w.heap.size) w' (y : Evt) rv ∧ EvD y) ∧ ∃ p' : Nat, p' ≤ p + 60 ∧ Box w' b 75 [.slice ad D.length cd, .int .i64 (p' : Int)] ∧ Chg (one b) w w') := by
 refine goT Tryz.func67 ?_
 have dz := hD.max
 obtain rfl := h1.len
 replace h1 := h1.topR (s := w.heap.size)
 have dA := h1.max
 obtain rfl := h2.len
 replace h2 := h2.topR (s := w.heap.size)
 have dB := h2.max
 obtain rfl := h3.len
 replace h3 := h3.topR (s := w.heap.size)
 have dC := h3.max
 obtain rfl := h4.len
 replace h4 := h4.topR (s := w.heap.size)
 have dD := h4.max
 obtain rfl := h5.len
 replace h5 := h5.topR (s := w.heap.size)
 have dE := h5.max
 obtain rfl := h6.len
 replace h6 := h6.topR (s := w.heap.size)
 have dF := h6.max
 obtain rfl := h7.len
 replace h7 := h7.topR (s := w.heap.size)
 have dG := h7.max
 refine .s <| .g <| .np 53 [.slice a1 w_.store.idx.names.length c1, .slice a2 w_.store.idx.posts.length c2, .slice a3 w_.store.parts.length c3, .slice a4 w_.store.mem.length c4, .slice a5 w_.disk.files.length c5, .slice a6 w_.disk.list.length c6, .slice a7 w_.disk.names.length c7, vI w_.disk.next] fun O cS aI aJ E cj => ?_
 have dH := nb_new aI hr.lt
 replace ⟨hD, hr⟩ := (sn [b] aJ aI).g2 hD hr
 have C : Chg (one b) w cS := Chg.stepN (Chg.refl (one b) w) aJ
 clear aJ cj aI
 refine .np 110 [vI 0, vI 0, vI 0, .slice none 0 0, vI 0, vI 0] fun V cT ai bu J ck => ?_
 have dI := nb_new ai hr.lt
 have dJ := nb_new ai E.lt
 have dK := C.cn ai
 replace ⟨hD, hr, E, C⟩ := (sn [O, b] bu ai).g4 hD hr E C
 clear bu ck ai
 refine .d <| .s <| .s <| .g <| .r 1 <| .cl (c_spec_l6Rd_pick 10 hr (hD.toAll (.tail _ (.tail _ (.head _)))) (by omega) (w := cT) (F := all)) ?_
 rintro ei aE ⟨⟨bq, rfl, dL⟩, ej, dM, W, bv⟩
 replace ⟨hD, E, J, C⟩ := (so [V, O, b] bv).g4 hD E J C
 clear bv
 refine .d <| .b 0 <| .s <| .s <| .g <| .eq bq 0 (fun cm => ?_) (fun cm => ?_)
 · refine .r 1 <| .d <| .ct <| .sk <| .ct <| .s <| .g <| .ns 5 3 [vI 2, vI 2, vI 2, vI 0, vI 1] fun aF co aK bw cp cq => ?_
   have dN := nb_new aK W.lt
   replace ⟨hD, W, E, J, C⟩ := (sn [V, O, b] bw aK).g5 hD W E J C
   clear bw cq aK
   have aL : Own (α := Int) co aF 3 (nin (ge w.heap.size) [aF, V, O, b]) 5 5 [2, 2, 2, 0, 1] := Own.lit cp rfl (by decide) ⟨rfl, rfl, rfl, rfl, rfl, rfl⟩
   refine .r 1 <| .cl (c_spec_l6Rd_pick 5 W (hD.toAll (.tail _ (.tail _ (.tail _ (.head _))))) (by omega) (w := co) (F := all)) ?_
   rintro ek cU ⟨⟨aG, rfl, dO⟩, cV, dP, aM, bz⟩
   replace ⟨hD, E, J, aL, C⟩ := (so [aF, V, O, b] bz).g5 hD E J aL C
   clear bz
   have cr : (aG).toNat < 5 := (by omega)
   refine RG.idx (b := aF) (o := 0) ((aG).toNat) (len := 5) (i := aG) (sz := 1) (by kernel_rfl) (by omega) cr rfl ?_
   obtain ⟨br, aN⟩ : ∃ y, ([2, 2, 2, 0, 1] : List Int)[(aG).toNat]? = some y := ⟨_, List.getElem?_eq_getElem (by omega)⟩
   have dQ := drop_at aN; have bt := List.mem_of_getElem? aN
   simp only [List.mem_cons, List.not_mem_nil, or_false] at bt
   obtain ⟨_, rfl, aO⟩ := aL.elem ((aG).toNat) br aN
   replace aO : Has cU ⟨aF, 0 + ((aG).toNat) * Rep.sz Int, none⟩ [vI br] := by rw [Nat.zero_add]; exact aO
   refine .lh 0 aO <| .r 1 <| .sc [vI 2, vI 0, vI br, .slice none 0 0, vI 0, vI 0] J fun em bA cu cv => ?_
   replace ⟨hD, aM, E, C⟩ := (so [aF, V, O, b] bA).g4 hD aM E C
   clear bA cv
   exact .d <| .rb Tryz.func67 Tryz.results67 cu ⟨⟨((⟨2, 0, br, ([] : List Tag), (⟨0, 0⟩ : Row)⟩ : Evt) : Evt), ⟨_, rfl, ⟨_, _, _, rfl, (RepS.nil' _ _ none 0 (by decide))⟩⟩, (by first | exact ⟨by assumption, by assumption⟩ | exact ⟨NmD.nil, by simp [RowSm]⟩)⟩, cV, by omega, aM, C⟩
 refine .r 1 <| .d <| .cf <| .g <| .eq bq 1 (fun cw => ?_) (fun cw => ?_)
 · refine .r 1 <| .d <| .ct <| .s <| .g <| .ns 5 3 [vI 2, vI 2, vI 2, vI 0, vI 1] fun aH cx aP bB cy cz => ?_
   have dR := nb_new aP W.lt
   replace ⟨hD, W, E, J, C⟩ := (sn [V, O, b] bB aP).g5 hD W E J C
   clear bB cz aP
   have aj : Own (α := Int) cx aH 3 (nin (ge w.heap.size) [aH, V, O, b]) 5 5 [2, 2, 2, 0, 1] := Own.lit cy rfl (by decide) ⟨rfl, rfl, rfl, rfl, rfl, rfl⟩
   refine .r 1 <| .cl (c_spec_l6Rd_pick 5 W (hD.toAll (.tail _ (.tail _ (.tail _ (.head _))))) (by omega) (w := cx) (F := all)) ?_
   rintro dS cA ⟨⟨ae, rfl, cW⟩, cB, cX, ak, aQ⟩
   replace ⟨hD, E, J, aj, C⟩ := (so [aH, V, O, b] aQ).g5 hD E J aj C
   clear aQ
   have bI : (ae).toNat < 5 := (by omega)
   refine RG.idx (b := aH) (o := 0) ((ae).toNat) (len := 5) (i := ae) (sz := 1) (by kernel_rfl) (by omega) bI rfl ?_
   obtain ⟨az, al⟩ : ∃ y, ([2, 2, 2, 0, 1] : List Int)[(ae).toNat]? = some y := ⟨_, List.getElem?_eq_getElem (by omega)⟩
   have cY := drop_at al; have aR := List.mem_of_getElem? al
   simp only [List.mem_cons, List.not_mem_nil, or_false] at aR
   obtain ⟨_, rfl, am⟩ := aj.elem ((ae).toNat) az al
   replace am : Has cA ⟨aH, 0 + ((ae).toNat) * Rep.sz Int, none⟩ [vI az] := by rw [Nat.zero_add]; exact am
   refine .lh 0 am <| .r 1 <| .sc [vI 2, vI 0, vI az, .slice none 0 0, vI 0, vI 0] J fun dT aS bJ bK => ?_
   replace ⟨hD, ak, E, C⟩ := (so [aH, V, O, b] aS).g4 hD ak E C
   clear aS bK
   exact .d <| .rb Tryz.func67 Tryz.results67 bJ ⟨⟨((⟨2, 0, az, ([] : List Tag), (⟨0, 0⟩ : Row)⟩ : Evt) : Evt), ⟨_, rfl, ⟨_, _, _, rfl, (RepS.nil' _ _ none 0 (by decide))⟩⟩, (by first | exact ⟨by assumption, by assumption⟩ | exact ⟨NmD.nil, by simp [RowSm]⟩)⟩, cB, by omega, ak, C⟩
 refine .r 1 <| .d <| .cf <| .s <| .g <| .eq bq 2 (fun bL => ?_) (fun bL => ?_)
 · refine .r 1 <| .d <| .ct <| .s <| .g <| .r 2 <| .lb E <| .r 1 <| .bp ((w_.disk.list.length : Int) > 1) (fun bM => ?_) (fun bM => ?_)
   · refine .d <| .ct <| .s <| .g <| .r 3 <| .lb E <| .r 1 <| .it ((w_.disk.list.length : Int) - 1) <| .cl (c_spec_l6Rd_pick ((w_.disk.list.length : Int) - 1) W (hD.toAll (.tail _ (.tail _ (.head _)))) (by omega) (w := aE) (F := all)) ?_
     rintro dU dV ⟨⟨bC, rfl, cZ⟩, dW, c8, ah, aT⟩
     replace ⟨hD, E, J, C⟩ := (so [V, O, b] aT).g4 hD E J C
     clear aT
     refine .ns 6 3 [vI 4, vI 4, vI 0, vI 1, vI 2, vI 3] fun af bD ao aU bN bO => ?_
     have c9 := nb_new ao ah.lt
     replace ⟨hD, ah, E, J, C⟩ := (sn [V, O, b] aU ao).g5 hD ah E J C
     clear aU bO ao
     have aq : Own (α := Int) bD af 3 (nin (ge w.heap.size) [af, V, O, b]) 6 6 [4, 4, 0, 1, 2, 3] := Own.lit bN rfl (by decide) ⟨rfl, rfl, rfl, rfl, rfl, rfl, rfl⟩
     refine .r 1 <| .cl (c_spec_l6Rd_pick 6 ah (hD.toAll (.tail _ (.tail _ (.tail _ (.head _))))) (by omega) (w := bD) (F := all)) ?_
     rintro dX cC ⟨⟨ag, rfl, da⟩, cD, db, ar, aV⟩
     replace ⟨hD, E, J, aq, C⟩ := (so [af, V, O, b] aV).g5 hD E J aq C
     clear aV
     have bP : (ag).toNat < 6 := (by omega)
     refine RG.idx (b := af) (o := 0) ((ag).toNat) (len := 6) (i := ag) (sz := 1) (by kernel_rfl) (by omega) bP rfl ?_
     obtain ⟨aA, au⟩ : ∃ y, ([4, 4, 0, 1, 2, 3] : List Int)[(ag).toNat]? = some y := ⟨_, List.getElem?_eq_getElem (by omega)⟩
     have dd := drop_at au; have aW := List.mem_of_getElem? au
     simp only [List.mem_cons, List.not_mem_nil, or_false] at aW
     obtain ⟨_, rfl, av⟩ := aq.elem ((ag).toNat) aA au
     replace av : Has cC ⟨af, 0 + ((ag).toNat) * Rep.sz Int, none⟩ [vI aA] := by rw [Nat.zero_add]; exact av
     refine .lh 0 av <| .r 1 <| .sc [vI 3, vI bC, vI aA, .slice none 0 0, vI 0, vI 0] J fun dY aX bQ bR => ?_
     replace ⟨hD, ar, E, C⟩ := (so [af, V, O, b] aX).g4 hD ar E C
     clear aX bR
     exact .d <| .rb Tryz.func67 Tryz.results67 bQ ⟨⟨((⟨3, bC, aA, ([] : List Tag), (⟨0, 0⟩ : Row)⟩ : Evt) : Evt), ⟨_, rfl, ⟨_, _, _, rfl, (RepS.nil' _ _ none 0 (by decide))⟩⟩, (by first | exact ⟨by assumption, by assumption⟩ | exact ⟨NmD.nil, by simp [RowSm]⟩)⟩, cD, by omega, ar, C⟩
   refine .d <| .cf <| .sk <| .ib 0 <| .s <| .g <| .r 1 <| .cl (c_spec_l72Known W (hD.toAll (.tail _ (.tail _ (.head _)))) (by omega) (w := aE) (F := all)) ?_
   rintro dZ cE ⟨⟨bE, ⟨cF, cG, rfl, Z⟩, de⟩, d0, df, bS, aY⟩
   have aZ := al3 J.lt E.lt W.lt
   have bT : Gb w.heap.size aE.heap.size := C.size
   replace ⟨hD, E, J, C⟩ := (so [V, O, b] aY).g4 hD E J C
   clear aY
   have Z := Z.fr aZ bT
   have dg := Z.max
   clear aZ
   refine .r 1 <| .cl (c_spec_l71Row bS (hD.toAll (.tail _ (.tail _ (.head _)))) (by omega) (w := cE) (F := all)) ?_
   rintro d3 d4 ⟨⟨aB, ⟨_, rfl, rfl⟩, dh⟩, cH, di, aw, ba⟩
   replace ⟨hD, E, J, Z, C⟩ := (so [V, O, b] ba).g5 hD E J Z C
   clear ba
   refine .r 1 <| .sc [vI 1, vI 0, vI 0, .slice cF bE.length cG, vI aB.t, vI aB.v] J fun d5 bb bU bV => ?_
   replace ⟨hD, aw, E, Z, C⟩ := (so [V, O, b] bb).g5 hD aw E Z C
   clear bb bV
   exact .d <| .rb Tryz.func67 Tryz.results67 bU ⟨⟨((⟨1, 0, 0, bE, (⟨aB.t, aB.v⟩ : Row)⟩ : Evt) : Evt), ⟨_, rfl, ⟨_, _, _, rfl, Z.w1⟩⟩, (by first | exact ⟨by assumption, by assumption⟩ | exact ⟨NmD.nil, by simp [RowSm]⟩)⟩, cH, by omega, aw, C⟩
 refine .r 1 <| .d <| .cf <| .s <| .g <| .eq bq 3 (fun bW => ?_) (fun bW => ?_)
 · refine .r 1 <| .d <| .ct <| .s <| .g <| .r 1 <| .cl (c_spec_l6Rd_pick 4 W (hD.toAll (.tail _ (.tail _ (.head _)))) (by omega) (w := aE) (F := all)) ?_
   rintro d6 bF ⟨⟨cI, rfl, dj⟩, cJ, dk, ac, bc⟩
   replace ⟨hD, E, J, C⟩ := (so [V, O, b] bc).g4 hD E J C
   clear bc
   refine .eq cI 0 (fun bX => ?_) (fun bX => ?_)
   · refine .d <| .ct <| .s <| .g <| .r 1 <| .sc [vI 4, vI 0, vI 0, .slice none 0 0, vI 0, vI 0] J fun d7 bd bY bZ => ?_
     replace ⟨hD, ac, E, C⟩ := (so [V, O, b] bd).g4 hD ac E C
     clear bd bZ
     exact .d <| .rb Tryz.func67 Tryz.results67 bY ⟨⟨((⟨4, 0, 0, ([] : List Tag), (⟨0, 0⟩ : Row)⟩ : Evt) : Evt), ⟨_, rfl, ⟨_, _, _, rfl, (RepS.nil' _ _ none 0 (by decide))⟩⟩, (by first | exact ⟨by assumption, by assumption⟩ | exact ⟨NmD.nil, by simp [RowSm]⟩)⟩, cJ, by omega, ac, C⟩
   refine .d <| .cf <| .sk <| .ib 0 <| .s <| .g <| .r 1 <| .cl (c_spec_l72Known ac (hD.toAll (.tail _ (.tail _ (.head _)))) (by omega) (w := bF) (F := all)) ?_
   rintro d8 cK ⟨⟨bG, ⟨cL, cM, rfl, aa⟩, dm⟩, d9, dp, b0, bg⟩
   have bh := al3 J.lt E.lt ac.lt
   have b6 : Gb w.heap.size bF.heap.size := C.size
   replace ⟨hD, E, J, C⟩ := (so [V, O, b] bg).g4 hD E J C
   clear bg
   have aa := aa.fr bh b6
   have dq := aa.max
   clear bh
   refine .r 1 <| .cl (c_spec_l71Row b0 (hD.toAll (.tail _ (.tail _ (.head _)))) (by omega) (w := cK) (F := all)) ?_
   rintro ea eb ⟨⟨aC, ⟨_, rfl, rfl⟩, dr⟩, cN, dt, ax, bi⟩
   replace ⟨hD, E, J, aa, C⟩ := (so [V, O, b] bi).g5 hD E J aa C
   clear bi
   refine .r 1 <| .sc [vI 1, vI 0, vI 0, .slice cL bG.length cM, vI aC.t, vI aC.v] J fun ec bj b7 b8 => ?_
   replace ⟨hD, ax, E, aa, C⟩ := (so [V, O, b] bj).g5 hD ax E aa C
   clear bj b8
   exact .d <| .rb Tryz.func67 Tryz.results67 b7 ⟨⟨((⟨1, 0, 0, bG, (⟨aC.t, aC.v⟩ : Row)⟩ : Evt) : Evt), ⟨_, rfl, ⟨_, _, _, rfl, aa.w1⟩⟩, (by first | exact ⟨by assumption, by assumption⟩ | exact ⟨NmD.nil, by simp [RowSm]⟩)⟩, cN, by omega, ax, C⟩
 refine .r 1 <| .d <| .cf <| .sk <| .ib 0 <| .s <| .g <| .r 1 <| .cl (c_spec_l72Known W (hD.toAll (.tail _ (.tail _ (.head _)))) (by omega) (w := aE) (F := all)) ?_
 rintro ed cO ⟨⟨bH, ⟨cP, cQ, rfl, ab⟩, du⟩, ee, dv, b9, bk⟩
 have bm := al3 J.lt E.lt W.lt
 have ce : Gb w.heap.size aE.heap.size := C.size
 replace ⟨hD, J, C⟩ := (so [V, O, b] bk).g3 hD J C
 clear bk
 have ab := ab.fr bm ce
 have dw := ab.max
 clear bm
 refine .r 1 <| .cl (c_spec_l71Row b9 (hD.toAll (.tail _ (.tail _ (.head _)))) (by omega) (w := cO) (F := all)) ?_
 rintro ef eg ⟨⟨aD, ⟨_, rfl, rfl⟩, dx⟩, cR, dy, ay, bn⟩
 replace ⟨hD, J, ab, C⟩ := (so [V, O, b] bn).g4 hD J ab C
 clear bn
 refine .r 1 <| .sc [vI 1, vI 0, vI 0, .slice cP bH.length cQ, vI aD.t, vI aD.v] J fun eh bo cg ci => ?_
 replace ⟨hD, ay, ab, C⟩ := (so [V, O, b] bo).g4 hD ay ab C
 clear bo ci
 exact .d <| .rb Tryz.func67 Tryz.results67 cg ⟨⟨((⟨1, 0, 0, bH, (⟨aD.t, aD.v⟩ : Row)⟩ : Evt) : Evt), ⟨_, rfl, ⟨_, _, _, rfl, ab.w1⟩⟩, (by first | exact ⟨by assumption, by assumption⟩ | exact ⟨NmD.nil, by simp [RowSm]⟩)⟩, cR, by omega, ay, C⟩
theorem c_spec_l72Play  {w : World} {F : Nat → Prop} {b : Nat} {ad : Option Addr} {cd p : Nat} {D : List UInt8} (hr : Box w b 75 [.slice ad D.length cd, .int .i64 (p : Int)]) (hD : RepS w (nin all [b]) ad D.length cd D) (hp : p + 3000 ≤ 1000000000)  : Calls Tryz.prog 31 [.pointer (some ⟨b, 0, none⟩)].toArray w (rets fun rv w' => (∃ (y : Wld), (∃ v0 v1, rv = .tuple #[v0, v1] ∧ True ∧ (∃ (a0 : Option Addr) (n0 c0 : Nat) (a1 : Option Addr) (n1 c1 : Nat) (a2 : Option Addr) (n2 c2 : Nat) (r3 n3 c3 : Nat) (r4 n4 c4 : Nat) (r5 n5 c5 : Nat) (r6 n6 c6 : Nat), v1 = .agg #[.slice a0 n0 c0, .slice a1 n1 c1, .slice a2 n2 c2, .slice (some ⟨r3, 0, none⟩) n3 c3, .slice (some ⟨r4, 0, none⟩) n4 c4, .slice (some ⟨r5, 0, none⟩) n5 c5, .slice (some ⟨r6, 0, none⟩) n6 c6, .int .i64 (y.disk.next)] ∧ RepS w' (nin (ge w.heap.size) [r3, r4, r5, r6]) a0 n0 c0 (y.store.idx.names) ∧ RepS w' (nin (ge w.heap.size) [r3, r4, r5, r6]) a1 n1 c1 (y.store.idx.posts) ∧ RepS w' (nin (ge w.heap.size) [r3, r4, r5, r6]) a2 n2 c2 (y.store.parts) ∧ Own w' r3 62 (nin (ge w.heap.size) [r3, r4, r5, r6]) n3 c3 (y.store.mem) ∧ w.heap.size ≤ r3 ∧ Own w' r4 165 (nin (ge w.heap.size) [r3, r4, r5, r6]) n4 c4 (y.disk.files) ∧ w.heap.size ≤ r4 ∧ Nb r4 r3 ∧ Own w' r5 3 (nin (ge w.heap.size) [r3, r4, r5, r6]) n5 c5 (y.disk.list) ∧ w.heap.size ≤ r5 ∧ Nb r5 r3 ∧ Nb r5 r4 ∧ Own w' r6 31 (nin (ge w.heap.size) [r3, r4, r5, r6]) n6 c6 (y.disk.names) ∧ w.heap.size ≤ r6 ∧ Nb r6 r3 ∧ Nb r6 r4 ∧ Nb r6 r5)) ∧ WD y) ∧ ∃ p' : Nat, p' ≤ p + 3000 ∧ Box w' b 75 [.slice ad D.length cd, .int .i64 (p' : Int)] ∧ Chg (one b) w w') := by
 refine goT Tryz.func31 ?_
 have fx := hD.max
 refine .s <| .g <| .r 1 <| .np 53 [.slice none 0 0, .slice none 0 0, .slice none 0 0, .slice none 0 0, .slice none 0 0, .slice none 0 0, .slice none 0 0, vI 0] fun O cO bM bP E dF => ?_
 have fy := nb_new bM hr.lt
 have fz : Cov (one b) w O := cov_new bM (Nat.le_refl _)
 replace ⟨hD, hr⟩ := (sn [b] bP bM).g2 hD hr
 have C : Chg (one b) w cO := Chg.stepN (Chg.refl (one b) w) bP
 clear bP dF bM
 refine .d <| .s <| .g <| .cl (c_spec_WorldNew (w := cO) (F := all)) ?_
 rintro f8 f9 ⟨⟨_, rfl, ⟨dG, ga, dH, dI, gb, dJ, dK, gf, dL, dM, gg, dN, dO, gh, dP, dQ, gi, dR, dS, gj, dT, rfl, ba, bb, bc, bd, bg, bh, bi⟩⟩, bY⟩
 have bj := al2 E.lt hr.lt
 have bm : Gb w.heap.size cO.heap.size := C.size
 replace ⟨hD, hr, E, C⟩ := (se [O, b] bY).g4 hD hr E C
 clear bY
 have ba := ba.fr bj bm
 have fA := ba.max
 have bb := bb.fr bj bm
 have fB := bb.max
 have bc := bc.fr bj bm
 have fC := bc.max
 have bd := bd.fr bj bm
 have fD := bd.max
 have bg := bg.fr bj bm
 have fE := bg.max
 have bh := bh.fr bj bm
 have fF := bh.max
 have bi := bi.fr bj bm
 have fG := bi.max
 clear bj
 have dU := ba.len
 subst dU
 have dV := bb.len
 subst dV
 have dW := bc.len
 subst dW
 have dX := bd.len
 subst dX
 have dY := bg.len
 subst dY
 have dZ := bh.len
 subst dZ
 have d0 := bi.len
 subst d0
 refine .np 53 [.slice none 0 0, .slice none 0 0, .slice none 0 0, .slice none 0 0, .slice none 0 0, .slice none 0 0, .slice none 0 0, vI 0] fun J gk bC bZ d3 d4 => ?_
 have fH := nb_new bC hr.lt
 have fI := nb_new bC E.lt
 have fJ := C.cn bC
 replace ⟨hD, hr, E, ba, bb, bc, bd, bg, bh, bi, C⟩ := (sn [O, b] bZ bC).g11 hD hr E ba bb bc bd bg bh bi C
 clear bZ d4 bC
 refine .sc [.slice dG ((((((⟨⟨⟨[], []⟩, [], []⟩, ⟨[], [], [], 1⟩⟩ : Wld)).store).idx).names).length) dH, .slice dI ((((((⟨⟨⟨[], []⟩, [], []⟩, ⟨[], [], [], 1⟩⟩ : Wld)).store).idx).posts).length) dJ, .slice dK (((((⟨⟨⟨[], []⟩, [], []⟩, ⟨[], [], [], 1⟩⟩ : Wld)).store).parts).length) dL, .slice dM (((((⟨⟨⟨[], []⟩, [], []⟩, ⟨[], [], [], 1⟩⟩ : Wld)).store).mem).length) dN, .slice dO (((((⟨⟨⟨[], []⟩, [], []⟩, ⟨[], [], [], 1⟩⟩ : Wld)).disk).files).length) dP, .slice dQ (((((⟨⟨⟨[], []⟩, [], []⟩, ⟨[], [], [], 1⟩⟩ : Wld)).disk).list).length) dR, .slice dS (((((⟨⟨⟨[], []⟩, [], []⟩, ⟨[], [], [], 1⟩⟩ : Wld)).disk).names).length) dT, vI ((((⟨⟨⟨[], []⟩, [], []⟩, ⟨[], [], [], 1⟩⟩ : Wld)).disk).next)] d3 fun gl b0 bn d5 => ?_
 replace ⟨hD, hr, E, ba, bb, bc, bd, bg, bh, bi, C⟩ := (so [J, O, b] b0).g11 hD hr E ba bb bc bd bg bh bi C
 clear b0 d5
 refine .d <| .s <| .g <| .ns 0 110 [] fun bo d6 bu b6 d7 d8 => ?_
 have d9 := nb_new bu hr.lt
 have ea := nb_new bu E.lt
 have eb := nb_new bu bn.lt
 have ec := C.cn bu
 replace ⟨hD, hr, E, ba, bb, bc, bd, bg, bh, bi, bn, C⟩ := (sn [J, O, b] b6 bu).g12 hD hr E ba bb bc bd bg bh bi bn C
 clear b6 d8 bu
 have bD : Own (α := Evt) d6 bo 110 (nin (ge w.heap.size) [bo, J, O, b]) 0 0 [] := Own.nil' d7
 refine .r 1 <| .d <| .s <| .s <| .g <| .r 1 <| .cl (c_spec_l6Rd_pick 46 hr (hD.toAll (.tail _ (.tail _ (.tail _ (.head _))))) (by omega) (w := d6) (F := all)) ?_
 rintro fK bv ⟨⟨ed, rfl, eh⟩, ee, ei, bQ, bR⟩
 replace ⟨hD, E, ba, bb, bc, bd, bg, bh, bi, bn, bD, C⟩ := (so [bo, J, O, b] bR).g12 hD E ba bb bc bd bg bh bi bn bD C
 clear bR
 refine .r 1 <| .d <| .b 0 <| T.loop (X := (List Evt) × Nat × Nat × Nat × Int × Nat × (List (List Tag)) × (Option Addr) × Nat × Nat × (List Pst) × (Option Addr) × Nat × Nat × (List Prt) × (Option Addr) × Nat × Nat × (List Smp) × (Option Addr) × Nat × Nat × (List Fil) × (Option Addr) × Nat × Nat × (List Int) × (Option Addr) × Nat × Nat × (List (List Tag)) × (Option Addr) × Nat × Nat × Int) (([] : List Evt), bo, 0, 0, ed, ee, (((((⟨⟨⟨[], []⟩, [], []⟩, ⟨[], [], [], 1⟩⟩ : Wld)).store).idx).names : List (List Tag)), dG, (((((⟨⟨⟨[], []⟩, [], []⟩, ⟨[], [], [], 1⟩⟩ : Wld)).store).idx).names).length, dH, (((((⟨⟨⟨[], []⟩, [], []⟩, ⟨[], [], [], 1⟩⟩ : Wld)).store).idx).posts : List Pst), dI, (((((⟨⟨⟨[], []⟩, [], []⟩, ⟨[], [], [], 1⟩⟩ : Wld)).store).idx).posts).length, dJ, ((((⟨⟨⟨[], []⟩, [], []⟩, ⟨[], [], [], 1⟩⟩ : Wld)).store).parts : List Prt), dK, ((((⟨⟨⟨[], []⟩, [], []⟩, ⟨[], [], [], 1⟩⟩ : Wld)).store).parts).length, dL, ((((⟨⟨⟨[], []⟩, [], []⟩, ⟨[], [], [], 1⟩⟩ : Wld)).store).mem : List Smp), dM, ((((⟨⟨⟨[], []⟩, [], []⟩, ⟨[], [], [], 1⟩⟩ : Wld)).store).mem).length, dN, ((((⟨⟨⟨[], []⟩, [], []⟩, ⟨[], [], [], 1⟩⟩ : Wld)).disk).files : List Fil), dO, ((((⟨⟨⟨[], []⟩, [], []⟩, ⟨[], [], [], 1⟩⟩ : Wld)).disk).files).length, dP, ((((⟨⟨⟨[], []⟩, [], []⟩, ⟨[], [], [], 1⟩⟩ : Wld)).disk).list : List Int), dQ, ((((⟨⟨⟨[], []⟩, [], []⟩, ⟨[], [], [], 1⟩⟩ : Wld)).disk).list).length, dR, ((((⟨⟨⟨[], []⟩, [], []⟩, ⟨[], [], [], 1⟩⟩ : Wld)).disk).names : List (List Tag)), dS, ((((⟨⟨⟨[], []⟩, [], []⟩, ⟨[], [], [], 1⟩⟩ : Wld)).disk).names).length, dT, (((⟨⟨⟨[], []⟩, [], []⟩, ⟨[], [], [], 1⟩⟩ : Wld)).disk).next) (fun (events, r_events, n_events, c_events, n, p_, W, a_w_0, n_w_0, c_w_0, Z, a_w_1, n_w_1, c_w_1, aa, a_w_2, n_w_2, c_w_2, ab, a_w_3, n_w_3, c_w_3, ac, a_w_4, n_w_4, c_w_4, ae, a_w_5, n_w_5, c_w_5, af, a_w_6, n_w_6, c_w_6, ag) => [(0, .pointer (some ⟨b, 0, none⟩)), (3, .pointer (some ⟨O, 0, none⟩)), (4, .pointer (some ⟨J, 0, none⟩)), (5, vS r_events n_events c_events), (6, vI n)]) (fun (events, r_events, n_events, c_events, n, p_, W, a_w_0, n_w_0, c_w_0, Z, a_w_1, n_w_1, c_w_1, aa, a_w_2, n_w_2, c_w_2, ab, a_w_3, n_w_3, c_w_3, ac, a_w_4, n_w_4, c_w_4, ae, a_w_5, n_w_5, c_w_5, af, a_w_6, n_w_6, c_w_6, ag) ax => Chg (ins [bo, b, J]) bv ax ∧ Own ax r_events 110 (nin (ge w.heap.size) [r_events, J, O, b]) n_events c_events events ∧ OrB r_events bo bv.heap.size ∧ RepS ax (nin (ge w.heap.size) [r_events, J, O, b]) a_w_0 n_w_0 c_w_0 W ∧ RepS ax (nin (ge w.heap.size) [r_events, J, O, b]) a_w_1 n_w_1 c_w_1 Z ∧ RepS ax (nin (ge w.heap.size) [r_events, J, O, b]) a_w_2 n_w_2 c_w_2 aa ∧ RepS ax (nin (ge w.heap.size) [r_events, J, O, b]) a_w_3 n_w_3 c_w_3 ab ∧ RepS ax (nin (ge w.heap.size) [r_events, J, O, b]) a_w_4 n_w_4 c_w_4 ac ∧ RepS ax (nin (ge w.heap.size) [r_events, J, O, b]) a_w_5 n_w_5 c_w_5 ae ∧ RepS ax (nin (ge w.heap.size) [r_events, J, O, b]) a_w_6 n_w_6 c_w_6 af ∧ Box ax b 75 [.slice ad D.length cd, vI (p_ : Int)] ∧ Box ax J 53 [.slice a_w_0 n_w_0 c_w_0, .slice a_w_1 n_w_1 c_w_1, .slice a_w_2 n_w_2 c_w_2, .slice a_w_3 n_w_3 c_w_3, .slice a_w_4 n_w_4 c_w_4, .slice a_w_5 n_w_5 c_w_5, .slice a_w_6 n_w_6 c_w_6, vI ag] ∧ (n ≤ 46) ∧ ((events.length : Int) + n ≤ 46 ∨ n < 0) ∧ ((p_ : Int) + 61 * n ≤ p + 2900 ∨ n < 0) ∧ (p_ ≤ p + 2900) ∧ (WD ⟨⟨⟨W, Z⟩, aa, ab⟩, ⟨ac, ae, af, ag⟩⟩)) (fun (events, r_events, n_events, c_events, n, p_, W, a_w_0, n_w_0, c_w_0, Z, a_w_1, n_w_1, c_w_1, aa, a_w_2, n_w_2, c_w_2, ab, a_w_3, n_w_3, c_w_3, ac, a_w_4, n_w_4, c_w_4, ae, a_w_5, n_w_5, c_w_5, af, a_w_6, n_w_6, c_w_6, ag) => n.toNat) (by kernel_rfl) ⟨by kernel_rfl, by kernel_rfl, by kernel_rfl, by kernel_rfl, by kernel_rfl, trivial⟩ ⟨Chg.refl _ _, bD, orb_refl, ba, bb, bc, bd, bg, bh, bi, bQ, bn, (by first | omega | exact WD.new | (simp; omega)), (by first | omega | exact WD.new | (simp; omega)), (by first | omega | exact WD.new | (simp; omega)), (by first | omega | exact WD.new | (simp; omega)), (by first | omega | exact WD.new | (simp; omega))⟩ ?_
 rintro ⟨events, r_events, n_events, c_events, n, p_, W, a_w_0, n_w_0, c_w_0, Z, a_w_1, n_w_1, c_w_1, aa, a_w_2, n_w_2, c_w_2, ab, a_w_3, n_w_3, c_w_3, ac, a_w_4, n_w_4, c_w_4, ae, a_w_5, n_w_5, c_w_5, af, a_w_6, n_w_6, c_w_6, ag⟩ fL ax ⟨ar, av, aK, ai, aj, ak, al, am, ao, aq, aG, ah, ej, ek, em, en, eo⟩ bN
 have ep := nb_or' aK d9 bQ.lt
 have es := nb_or' aK ea E.lt
 have cP := nb_or' aK eb bn.lt
 have et := cov_or' aK ec C.size
 have cQ : Cov (ins [bo, b, J]) bv bo := ⟨.inl (.head _)⟩
 have ew : Cov (ins [bo, b, J]) bv b := ⟨.inl (.tail _ (.head _))⟩
 have ex : Cov (ins [bo, b, J]) bv J := ⟨.inl (.tail _ (.tail _ (.head _)))⟩
 have ey := cov_or' aK cQ (Nat.le_refl _)
 have bS : Mv [bo, J, O, b] [r_events, J, O, b] bv ax := Mv.inl ar (all_cons (.head _) (all_cons (.tail _ (.tail _ (.tail _ (.head _)))) (all_cons (.tail _ (.head _)) all_nil))) (all_cons (orb_mem aK (.head _)) (all_cons (.inl (.tail _ (.head _))) (all_cons (.inl (.tail _ (.tail _ (.head _)))) (all_cons (.inl (.tail _ (.tail _ (.tail _ (.head _))))) all_nil))))
 replace ⟨hD, E, C⟩ := (sp bS ar).g3 hD E C
 clear bS
 have ez := av.len; have eA := av.max
 have eB := ai.len; have eC := ai.max
 have eD := aj.len; have eE := aj.max
 have eF := ak.len; have eG := ak.max
 have eH := al.len; have eI := al.max
 have eJ := am.len; have eK := am.max
 have eL := ao.len; have eM := ao.max
 have eN := aq.len; have eO := aq.max
 refine .s <| .s <| .g <| .r 1 <| .bp (n > 0) (fun cR => ?_) (fun cR => ?_)
 · refine .d <| .ct <| .sk <| .s <| .b 1 <| .s <| .g <| .r 1 <| .ln ah <| .cl (c_spec_l72Event (⟨(⟨(⟨W, Z⟩ : Idx), aa, ab⟩ : Sto), (⟨ac, ae, af, ag⟩ : Dsk)⟩ : Wld) aG (hD.toAll (.tail _ (.tail _ (.tail _ (.head _))))) (by omega) (ai.toAll (.tail _ (.tail _ (.tail _ (.head _))))) (aj.toAll (.tail _ (.tail _ (.tail _ (.head _))))) (ak.toAll (.tail _ (.tail _ (.tail _ (.head _))))) (al.toAll (.tail _ (.tail _ (.tail _ (.head _))))) (am.toAll (.tail _ (.tail _ (.tail _ (.head _))))) (ao.toAll (.tail _ (.tail _ (.tail _ (.head _))))) (aq.toAll (.tail _ (.tail _ (.tail _ (.head _))))) (by have q1 : WD ⟨⟨⟨W, Z⟩, aa, ab⟩, ⟨ac, ae, af, ag⟩⟩ := (by assumption); have q2 := q1.wi.dsk.nl; dsimp only at q2 ⊢; omega) (w := ax) (F := all)) ?_
   rintro fM fN ⟨⟨V, ⟨_, rfl, ⟨b7, fO, b8, rfl, aA⟩⟩, eP⟩, ef, eQ, au, bE⟩
   have bT := al4 av.lt ah.lt E.lt aG.lt
   have cS : Gb w.heap.size ax.heap.size := C.size
   replace ⟨hD, E, ah, av, ai, aj, ak, al, am, ao, aq, C⟩ := (so [r_events, J, O, b] bE).g12 hD E ah av ai aj ak al am ao aq C
   replace ar := (so [r_events, J, O, b] bE).g1 ar
   clear bE
   have aA := aA.fr bT cS
   have eR := aA.max
   clear bT
   have cT := aA.len
   subst cT
   refine .np 110 [vI 0, vI 0, vI 0, .slice none 0 0, vI 0, vI 0] fun aw fP aB bF cU cV => ?_
   have eS := nb_new aB au.lt
   have eT := nb_new aB E.lt
   have eU := nb_new aB ah.lt
   have eV := nb_new aB av.lt
   have eW := C.cn aB
   have eX := ar.cn aB
   replace ⟨hD, au, E, ah, av, ai, aj, ak, al, am, ao, aq⟩ := (sn [r_events, J, O, b] bF aB).g12 hD au E ah av ai aj ak al am ao aq
   replace ⟨aA, C, ar⟩ := (sn [r_events, J, O, b] bF aB).g3 aA C ar
   clear bF cV aB
   refine .sc [vI V.kind, vI V.at_, vI V.cut, .slice b7 V.name.length b8, vI V.row.t, vI V.row.v] cU fun fQ bG aH cW => ?_
   replace ⟨hD, au, E, ah, av, ai, aj, ak, al, am, ao, aq⟩ := (so [aw, r_events, J, O, b] bG).g12 hD au E ah av ai aj ak al am ao aq
   replace ⟨aA, C, ar⟩ := (so [aw, r_events, J, O, b] bG).g3 aA C ar
   clear bG cW
   refine .d <| .s <| .g <| .r 1 <| .ln aH <| .ns 1 110 [vI V.kind, vI V.at_, vI V.cut, .slice b7 V.name.length b8, vI V.row.t, vI V.row.v] fun b9 fR aL bH cX cY => ?_
   have cZ := nb_new aL au.lt
   have c7 := nb_new aL E.lt
   have c8 := nb_new aL ah.lt
   have bU := nb_new aL av.lt
   have c9 := nb_new aL aH.lt
   have da := gb_new aL C.size
   replace ⟨hD, au, E, ah, av, ai, aj, ak, al, am, ao, aq⟩ := (se [aw, r_events, J, O, b] bH).g12 hD au E ah av ai aj ak al am ao aq
   replace ⟨aA, aH, C, ar⟩ := (se [aw, r_events, J, O, b] bH).g4 aA aH C ar
   clear bH cY aL
   have bO : nin (ge w.heap.size) [aw, r_events, J, O, b] b9 ∧ b9 ≠ r_events := hap_mk da (all_cons c9 (all_cons bU (all_cons c8 (all_cons c7 (all_cons cZ all_nil))))) bU
   refine RG.append1 (T := 76) (ty := 76) (y := V) av cX (by kernel_rfl) (by kernel_rfl) ⟨_, _, _, rfl, aA.oi⟩ bO (by omega) fun az eg ce ay aS bI => ?_
   have eY := nb_or aS cP ah.lt
   have db := orb_or aS aK ar.size
   replace ⟨hD, au, E, ah, ai, aj, ak, al, am, ao, aq, aA⟩ := (sa [aw, r_events, J, O, b] bI aS).g12 hD au E ah ai aj ak al am ao aq aA
   replace ⟨aH, C, ar⟩ := (sa [aw, r_events, J, O, b] bI aS).g3 aH C ar
   clear bI
   replace ay := ay.rn r_events
   clear aS
   have eZ := ay.len; have e0 := ay.max
   refine .r 1 <| .d <| .g <| .ln ah <| .ln aH <| .cl (c_spec_l22Do (⟨(⟨(⟨W, Z⟩ : Idx), aa, ab⟩ : Sto), (⟨ac, ae, af, ag⟩ : Dsk)⟩ : Wld) V ai aj ak al am ao aq aA (by assumption : WD _).wi (NmD.sz (by assumption : EvD _).1) (w := ce) (F := nin (ge w.heap.size) [aw, az, J, O, b])) ?_
   rintro fS fT ⟨⟨_, rfl, ⟨cg, fU, ci, cj, fV, ck, cm, fW, co, cp, fX, cq, cr, fY, cu, cv, fZ, cw, cx, f0, cy, rfl, aT, aU, aV, aW, aX, aY, aZ⟩⟩, bJ⟩
   have aI := al5 aH.lt ay.lt ah.lt E.lt au.lt
   have aM : Gb w.heap.size ce.heap.size := C.size
   replace ⟨hD, au, E, ah, ay, ai, aj, ak, al, am, ao, aq⟩ := (se [aw, az, J, O, b] bJ).g12 hD au E ah ay ai aj ak al am ao aq
   replace ⟨C, ar⟩ := (se [aw, az, J, O, b] bJ).g2 C ar
   clear bJ
   replace aT := RepS.mixedG (M := [aw, az, J, O, b]) aT aI (fun _ h => Nat.le_trans aM h)
   have e7 := aT.max
   replace aU := RepS.mixedG (M := [aw, az, J, O, b]) aU aI (fun _ h => Nat.le_trans aM h)
   have e8 := aU.max
   replace aV := RepS.mixedG (M := [aw, az, J, O, b]) aV aI (fun _ h => Nat.le_trans aM h)
   have e9 := aV.max
   replace aW := RepS.mixedG (M := [aw, az, J, O, b]) aW aI (fun _ h => Nat.le_trans aM h)
   have fa := aW.max
   replace aX := RepS.mixedG (M := [aw, az, J, O, b]) aX aI (fun _ h => Nat.le_trans aM h)
   have fb := aX.max
   replace aY := RepS.mixedG (M := [aw, az, J, O, b]) aY aI (fun _ h => Nat.le_trans aM h)
   have fc := aY.max
   replace aZ := RepS.mixedG (M := [aw, az, J, O, b]) aZ aI (fun _ h => Nat.le_trans aM h)
   have fd := aZ.max
   clear aI
   have dd := aT.len
   subst dd
   have de := aU.len
   subst de
   have df := aV.len
   subst df
   have dg := aW.len
   subst dg
   have dh := aX.len
   subst dh
   have di := aY.len
   subst di
   have dj := aZ.len
   subst dj
   refine .sc [.slice cg (((((doW (⟨(⟨(⟨W, Z⟩ : Idx), aa, ab⟩ : Sto), (⟨ac, ae, af, ag⟩ : Dsk)⟩ : Wld) V).store).idx).names).length) ci, .slice cj (((((doW (⟨(⟨(⟨W, Z⟩ : Idx), aa, ab⟩ : Sto), (⟨ac, ae, af, ag⟩ : Dsk)⟩ : Wld) V).store).idx).posts).length) ck, .slice cm ((((doW (⟨(⟨(⟨W, Z⟩ : Idx), aa, ab⟩ : Sto), (⟨ac, ae, af, ag⟩ : Dsk)⟩ : Wld) V).store).parts).length) co, .slice cp ((((doW (⟨(⟨(⟨W, Z⟩ : Idx), aa, ab⟩ : Sto), (⟨ac, ae, af, ag⟩ : Dsk)⟩ : Wld) V).store).mem).length) cq, .slice cr ((((doW (⟨(⟨(⟨W, Z⟩ : Idx), aa, ab⟩ : Sto), (⟨ac, ae, af, ag⟩ : Dsk)⟩ : Wld) V).disk).files).length) cu, .slice cv ((((doW (⟨(⟨(⟨W, Z⟩ : Idx), aa, ab⟩ : Sto), (⟨ac, ae, af, ag⟩ : Dsk)⟩ : Wld) V).disk).list).length) cw, .slice cx ((((doW (⟨(⟨(⟨W, Z⟩ : Idx), aa, ab⟩ : Sto), (⟨ac, ae, af, ag⟩ : Dsk)⟩ : Wld) V).disk).names).length) cy, vI (((doW (⟨(⟨(⟨W, Z⟩ : Idx), aa, ab⟩ : Sto), (⟨ac, ae, af, ag⟩ : Dsk)⟩ : Wld) V).disk).next)] ah fun cz bK dk dm => ?_
   replace ⟨hD, au, E, ay, ai, aj, ak, al, am, ao, aq, aT⟩ := (so [aw, az, J, O, b] bK).g12 hD au E ay ai aj ak al am ao aq aT
   replace ⟨aU, aV, aW, aX, aY, aZ, C, ar⟩ := (so [aw, az, J, O, b] bK).g8 aU aV aW aX aY aZ C ar
   clear bK dm
   refine .d <| .ib 1 <| .g <| .r 1 <| .it (n - 1) <| .r 1 <| .d ?_
   have bV : Mv [aw, az, J, O, b] [az, J, O, b] cz cz := Mv.less (all_cons (.tail _ (.head _)) (all_cons (.tail _ (.tail _ (.head _))) (all_cons (.tail _ (.tail _ (.tail _ (.head _)))) (all_cons (.tail _ (.tail _ (.tail _ (.tail _ (.head _))))) all_nil))))
   replace ⟨hD, ay, ai, aj, ak, al, am, ao, aq, aT, aU, aV⟩ := (sp bV (Chg.refl nil _)).g12 hD ay ai aj ak al am ao aq aT aU aV
   replace ⟨aW, aX, aY, aZ⟩ := (sp bV (Chg.refl nil _)).g4 aW aX aY aZ
   exact bN ((events ++ [V]), az, n_events + 1, eg, n - 1, ef, (((doW (⟨(⟨(⟨W, Z⟩ : Idx), aa, ab⟩ : Sto), (⟨ac, ae, af, ag⟩ : Dsk)⟩ : Wld) V).store).idx).names, cg, ((((doW (⟨(⟨(⟨W, Z⟩ : Idx), aa, ab⟩ : Sto), (⟨ac, ae, af, ag⟩ : Dsk)⟩ : Wld) V).store).idx).names).length, ci, (((doW (⟨(⟨(⟨W, Z⟩ : Idx), aa, ab⟩ : Sto), (⟨ac, ae, af, ag⟩ : Dsk)⟩ : Wld) V).store).idx).posts, cj, ((((doW (⟨(⟨(⟨W, Z⟩ : Idx), aa, ab⟩ : Sto), (⟨ac, ae, af, ag⟩ : Dsk)⟩ : Wld) V).store).idx).posts).length, ck, ((doW (⟨(⟨(⟨W, Z⟩ : Idx), aa, ab⟩ : Sto), (⟨ac, ae, af, ag⟩ : Dsk)⟩ : Wld) V).store).parts, cm, (((doW (⟨(⟨(⟨W, Z⟩ : Idx), aa, ab⟩ : Sto), (⟨ac, ae, af, ag⟩ : Dsk)⟩ : Wld) V).store).parts).length, co, ((doW (⟨(⟨(⟨W, Z⟩ : Idx), aa, ab⟩ : Sto), (⟨ac, ae, af, ag⟩ : Dsk)⟩ : Wld) V).store).mem, cp, (((doW (⟨(⟨(⟨W, Z⟩ : Idx), aa, ab⟩ : Sto), (⟨ac, ae, af, ag⟩ : Dsk)⟩ : Wld) V).store).mem).length, cq, ((doW (⟨(⟨(⟨W, Z⟩ : Idx), aa, ab⟩ : Sto), (⟨ac, ae, af, ag⟩ : Dsk)⟩ : Wld) V).disk).files, cr, (((doW (⟨(⟨(⟨W, Z⟩ : Idx), aa, ab⟩ : Sto), (⟨ac, ae, af, ag⟩ : Dsk)⟩ : Wld) V).disk).files).length, cu, ((doW (⟨(⟨(⟨W, Z⟩ : Idx), aa, ab⟩ : Sto), (⟨ac, ae, af, ag⟩ : Dsk)⟩ : Wld) V).disk).list, cv, (((doW (⟨(⟨(⟨W, Z⟩ : Idx), aa, ab⟩ : Sto), (⟨ac, ae, af, ag⟩ : Dsk)⟩ : Wld) V).disk).list).length, cw, ((doW (⟨(⟨(⟨W, Z⟩ : Idx), aa, ab⟩ : Sto), (⟨ac, ae, af, ag⟩ : Dsk)⟩ : Wld) V).disk).names, cx, (((doW (⟨(⟨(⟨W, Z⟩ : Idx), aa, ab⟩ : Sto), (⟨ac, ae, af, ag⟩ : Dsk)⟩ : Wld) V).disk).names).length, cy, ((doW (⟨(⟨(⟨W, Z⟩ : Idx), aa, ab⟩ : Sto), (⟨ac, ae, af, ag⟩ : Dsk)⟩ : Wld) V).disk).next) _ _ ⟨by kernel_rfl, by kernel_rfl, by kernel_rfl, by kernel_rfl, by kernel_rfl, trivial⟩ ⟨ar, ay, db, aT, aU, aV, aW, aX, aY, aZ, au, dk, (by first | omega | (simp; omega)), (by first | omega | (simp; omega)), (by first | omega | (simp; omega)), (by first | omega | (simp; omega)), (by exact WD.do (by assumption) (by assumption : EvD _).1)⟩ (by first | omega | (simp only []; omega))
 refine .d <| .cf <| .x 0 rfl <| .s <| .g <| .r 1 <| .ln ah <| .cl (c_spec_l22Copy (⟨(⟨(⟨W, Z⟩ : Idx), aa, ab⟩ : Sto), (⟨ac, ae, af, ag⟩ : Dsk)⟩ : Wld) ai.ta aj.ta ak.ta al.ta am.ta ao.ta aq.ta (by assumption : WD _).wi (w := ax) (F := all)) ?_
 rintro f3 bk ⟨⟨cA, f4, cB, cC, f5, cD, cE, f6, cF, aC, cG, cH, aD, cI, cJ, aE, cK, cL, aF, cM, cN, rfl, bq, br, bt, aN, bw, aO, bz, dp, aP, bA, dq, dr, aQ, bB, dt, du, dv⟩, bL⟩
 have aJ := al4 av.lt ah.lt E.lt aG.lt
 have aR : Gb w.heap.size ax.heap.size := C.size
 have fe := nb_ge bw E.lt
 have dw := gb_ge bw C.size
 have ff := nb_ge bz E.lt
 have dx := gb_ge bz C.size
 have fg := nb_ge bA E.lt
 have dy := gb_ge bA C.size
 have fh := nb_ge bB E.lt
 have dz := gb_ge bB C.size
 have bW : Mv [r_events, J, O, b] [aC, aD, aE, aF, r_events, J, O, b] ax bk := Mv.cons (Mv.cons (Mv.cons (Mv.cons (Mv.ext bL) bB) bA) bz) bw
 replace ⟨hD, aG, E, C⟩ := (sp bW bL).g4 hD aG E C
 clear bW bL bw bz bA bB
 replace bq : RepS bk (nin (ge w.heap.size) [aC, aD, aE, aF, r_events, J, O, b]) _ _ _ _ := RepS.takeM (s0 := w.heap.size) (M := [r_events, J, O, b]) bq aJ aR
 have fi := bq.max
 replace br : RepS bk (nin (ge w.heap.size) [aC, aD, aE, aF, r_events, J, O, b]) _ _ _ _ := RepS.takeM (s0 := w.heap.size) (M := [r_events, J, O, b]) br aJ aR
 have fj := br.max
 replace bt : RepS bk (nin (ge w.heap.size) [aC, aD, aE, aF, r_events, J, O, b]) _ _ _ _ := RepS.takeM (s0 := w.heap.size) (M := [r_events, J, O, b]) bt aJ aR
 have fk := bt.max
 replace aN : Own bk aC 62 (nin (ge w.heap.size) [aC, aD, aE, aF, r_events, J, O, b]) _ _ _ := Own.takeM (s0 := w.heap.size) (M := [r_events, J, O, b]) aN aJ aR
 have fl := aN.max
 have fm := aN.len
 replace aO : Own bk aD 165 (nin (ge w.heap.size) [aC, aD, aE, aF, r_events, J, O, b]) _ _ _ := Own.takeM (s0 := w.heap.size) (M := [r_events, J, O, b]) aO aJ aR
 have fp := aO.max
 have fq := aO.len
 replace aP : Own bk aE 3 (nin (ge w.heap.size) [aC, aD, aE, aF, r_events, J, O, b]) _ _ _ := Own.takeM (s0 := w.heap.size) (M := [r_events, J, O, b]) aP aJ aR
 have ft := aP.max
 have fu := aP.len
 replace aQ : Own bk aF 31 (nin (ge w.heap.size) [aC, aD, aE, aF, r_events, J, O, b]) _ _ _ := Own.takeM (s0 := w.heap.size) (M := [r_events, J, O, b]) aQ aJ aR
 have fv := aQ.max
 have fw := aQ.len
 clear aJ
 have dA := bq.len
 subst dA
 have dB := br.len
 subst dB
 have dC := bt.len
 subst dC
 refine .r 1 <| .sc [.slice cA ((((((copyW (⟨(⟨(⟨W, Z⟩ : Idx), aa, ab⟩ : Sto), (⟨ac, ae, af, ag⟩ : Dsk)⟩ : Wld))).store).idx).names).length) cB, .slice cC ((((((copyW (⟨(⟨(⟨W, Z⟩ : Idx), aa, ab⟩ : Sto), (⟨ac, ae, af, ag⟩ : Dsk)⟩ : Wld))).store).idx).posts).length) cD, .slice cE (((((copyW (⟨(⟨(⟨W, Z⟩ : Idx), aa, ab⟩ : Sto), (⟨ac, ae, af, ag⟩ : Dsk)⟩ : Wld))).store).parts).length) cF, vS aC cG cH, vS aD cI cJ, vS aE cK cL, vS aF cM cN, vI ((((copyW (⟨(⟨(⟨W, Z⟩ : Idx), aa, ab⟩ : Sto), (⟨ac, ae, af, ag⟩ : Dsk)⟩ : Wld))).disk).next)] E fun f7 bX dD dE => ?_
 replace ⟨hD, aG, bq, br, bt, aN, aO, aP, aQ, C⟩ := (so [aC, aD, aE, aF, r_events, J, O, b] bX).g10 hD aG bq br bt aN aO aP aQ C
 clear bX dE
 exact .d <| .r2 Tryz.func31 Tryz.results31 (.t (vS r_events n_events c_events)) (.bx dD) ⟨⟨((⟨(⟨(⟨((((copyW (⟨(⟨(⟨W, Z⟩ : Idx), aa, ab⟩ : Sto), (⟨ac, ae, af, ag⟩ : Dsk)⟩ : Wld))).store).idx).names, ((((copyW (⟨(⟨(⟨W, Z⟩ : Idx), aa, ab⟩ : Sto), (⟨ac, ae, af, ag⟩ : Dsk)⟩ : Wld))).store).idx).posts⟩ : Idx), (((copyW (⟨(⟨(⟨W, Z⟩ : Idx), aa, ab⟩ : Sto), (⟨ac, ae, af, ag⟩ : Dsk)⟩ : Wld))).store).parts, (((copyW (⟨(⟨(⟨W, Z⟩ : Idx), aa, ab⟩ : Sto), (⟨ac, ae, af, ag⟩ : Dsk)⟩ : Wld))).store).mem⟩ : Sto), (⟨(((copyW (⟨(⟨(⟨W, Z⟩ : Idx), aa, ab⟩ : Sto), (⟨ac, ae, af, ag⟩ : Dsk)⟩ : Wld))).disk).files, (((copyW (⟨(⟨(⟨W, Z⟩ : Idx), aa, ab⟩ : Sto), (⟨ac, ae, af, ag⟩ : Dsk)⟩ : Wld))).disk).list, (((copyW (⟨(⟨(⟨W, Z⟩ : Idx), aa, ab⟩ : Sto), (⟨ac, ae, af, ag⟩ : Dsk)⟩ : Wld))).disk).names, (((copyW (⟨(⟨(⟨W, Z⟩ : Idx), aa, ab⟩ : Sto), (⟨ac, ae, af, ag⟩ : Dsk)⟩ : Wld))).disk).next⟩ : Dsk)⟩ : Wld) : Wld), ⟨_, _, (tup2 rfl rfl), trivial, ⟨cA, (((((copyW (⟨(⟨(⟨W, Z⟩ : Idx), aa, ab⟩ : Sto), (⟨ac, ae, af, ag⟩ : Dsk)⟩ : Wld))).store).idx).names).length, cB, cC, (((((copyW (⟨(⟨(⟨W, Z⟩ : Idx), aa, ab⟩ : Sto), (⟨ac, ae, af, ag⟩ : Dsk)⟩ : Wld))).store).idx).posts).length, cD, cE, ((((copyW (⟨(⟨(⟨W, Z⟩ : Idx), aa, ab⟩ : Sto), (⟨ac, ae, af, ag⟩ : Dsk)⟩ : Wld))).store).parts).length, cF, aC, cG, cH, aD, cI, cJ, aE, cK, cL, aF, cM, cN, rfl, ((RepS.lessM bq (all_cons (.head _) (all_cons (.tail _ (.head _)) (all_cons (.tail _ (.tail _ (.head _))) (all_cons (.tail _ (.tail _ (.tail _ (.head _)))) all_nil))))).eqx (by rfl)), ((RepS.lessM br (all_cons (.head _) (all_cons (.tail _ (.head _)) (all_cons (.tail _ (.tail _ (.head _))) (all_cons (.tail _ (.tail _ (.tail _ (.head _)))) all_nil))))).eqx (by rfl)), ((RepS.lessM bt (all_cons (.head _) (all_cons (.tail _ (.head _)) (all_cons (.tail _ (.tail _ (.head _))) (all_cons (.tail _ (.tail _ (.tail _ (.head _)))) all_nil))))).eqx (by rfl)), ((Own.lessM aN (all_cons (.head _) (all_cons (.tail _ (.head _)) (all_cons (.tail _ (.tail _ (.head _))) (all_cons (.tail _ (.tail _ (.tail _ (.head _)))) all_nil))))).eqx (by rfl)), dw, ((Own.lessM aO (all_cons (.head _) (all_cons (.tail _ (.head _)) (all_cons (.tail _ (.tail _ (.head _))) (all_cons (.tail _ (.tail _ (.tail _ (.head _)))) all_nil))))).eqx (by rfl)), dx, dp, ((Own.lessM aP (all_cons (.head _) (all_cons (.tail _ (.head _)) (all_cons (.tail _ (.tail _ (.head _))) (all_cons (.tail _ (.tail _ (.tail _ (.head _)))) all_nil))))).eqx (by rfl)), dy, dq, dr, ((Own.lessM aQ (all_cons (.head _) (all_cons (.tail _ (.head _)) (all_cons (.tail _ (.tail _ (.head _))) (all_cons (.tail _ (.tail _ (.tail _ (.head _)))) all_nil))))).eqx (by rfl)), dz, dt, du, dv⟩⟩, (by exact WD.copy (by assumption))⟩, p_, by omega, aG, C⟩
theorem c_spec_l72World  {w : World} {F : Nat → Prop} {b : Nat} {ad : Option Addr} {cd p : Nat} {D : List UInt8} (hr : Box w b 75 [.slice ad D.length cd, .int .i64 (p : Int)]) (hD : RepS w (nin all [b]) ad D.length cd D) (hp : p + 3100 ≤ 1000000000)  : Calls Tryz.prog 12 [.pointer (some ⟨b, 0, none⟩)].toArray w (rets fun rv w' => (∃ (y : Wld), (∃ (a0 : Option Addr) (n0 c0 : Nat) (a1 : Option Addr) (n1 c1 : Nat) (a2 : Option Addr) (n2 c2 : Nat) (r3 n3 c3 : Nat) (a4 : Option Addr) (n4 c4 : Nat) (a5 : Option Addr) (n5 c5 : Nat) (a6 : Option Addr) (n6 c6 : Nat), rv = .agg #[.slice a0 n0 c0, .slice a1 n1 c1, .slice a2 n2 c2, .slice (some ⟨r3, 0, none⟩) n3 c3, .slice a4 n4 c4, .slice a5 n5 c5, .slice a6 n6 c6, .int .i64 (y.disk.next)] ∧ RepS w' (nin (ge w.heap.size) [r3]) a0 n0 c0 (y.store.idx.names) ∧ RepS w' (nin (ge w.heap.size) [r3]) a1 n1 c1 (y.store.idx.posts) ∧ RepS w' (nin (ge w.heap.size) [r3]) a2 n2 c2 (y.store.parts) ∧ Own w' r3 62 (nin (ge w.heap.size) [r3]) n3 c3 (y.store.mem) ∧ w.heap.size ≤ r3 ∧ RepS w' (nin (ge w.heap.size) [r3]) a4 n4 c4 (y.disk.files) ∧ RepS w' (nin (ge w.heap.size) [r3]) a5 n5 c5 (y.disk.list) ∧ RepS w' (nin (ge w.heap.size) [r3]) a6 n6 c6 (y.disk.names)) ∧ SD y.store) ∧ ∃ p' : Nat, p' ≤ p + 3100 ∧ Box w' b 75 [.slice ad D.length cd, .int .i64 (p' : Int)] ∧ Chg (one b) w w') := by
 refine goT Tryz.func12 ?_
 have fJ := hD.max
 refine .s <| .g <| .np 53 [.slice none 0 0, .slice none 0 0, .slice none 0 0, .slice none 0 0, .slice none 0 0, .slice none 0 0, .slice none 0 0, vI 0] fun ak c8 bS bZ ac ez => ?_
 have fK := nb_new bS hr.lt
 have fL : Cov (one b) w ak := cov_new bS (Nat.le_refl _)
 replace ⟨hD, hr⟩ := (sn [b] bZ bS).g2 hD hr
 have J : Chg (one b) w c8 := Chg.stepN (Chg.refl (one b) w) bZ
 clear bZ ez bS
 refine .d <| .s <| .g <| .r 1 <| .cl (c_spec_l72Play hr (hD.toAll (.tail _ (.head _))) (by omega) (w := c8) (F := all)) ?_
 rintro gH bv ⟨⟨ai, ⟨gI, gJ, rfl, -, ⟨aM, gK, aN, aO, gL, aP, aQ, gM, aR, ag, aH, aV, aj, aE, aW, ah, aI, aX, af, aJ, aY, rfl, W, Z, aa, C, ba, ab, bw, eA, V, bb, c9, eB, E, bc, da, eC, db⟩⟩, fM⟩, gN, fN, bd, b0⟩
 have aS := al2 ac.lt hr.lt
 have aZ : Gb w.heap.size c8.heap.size := J.size
 have fO := nb_ge ba hr.lt
 have eD := nb_ge ba ac.lt
 have bg := gb_ge ba J.size
 have fP : Cov (one b) w ag := cov_ge ba J.size
 have fQ := nb_ge bw hr.lt
 have fR := nb_ge bw ac.lt
 have bh := gb_ge bw J.size
 have eE := nb_ge bb hr.lt
 have eF := nb_ge bb ac.lt
 have bi := gb_ge bb J.size
 have fS : Cov (one b) w ah := cov_ge bb J.size
 have eG := nb_ge bc hr.lt
 have eH := nb_ge bc ac.lt
 have bj := gb_ge bc J.size
 have fT : Cov (one b) w af := cov_ge bc J.size
 have dd : Mv [ak, b] [ag, aj, ah, af, ak, b] c8 bv := Mv.cons (Mv.cons (Mv.cons (Mv.cons (Mv.on b0 (.tail _ (.head _))) bc) bb) bw) ba
 replace ⟨hD, ac, J⟩ := (sp dd b0).g3 hD ac J
 clear dd b0 ba bw bb bc
 replace W : RepS bv (nin (ge w.heap.size) [ag, aj, ah, af, ak, b]) _ _ _ _ := RepS.takeM (s0 := w.heap.size) (M := [ak, b]) W aS aZ
 have fU := W.max
 replace Z : RepS bv (nin (ge w.heap.size) [ag, aj, ah, af, ak, b]) _ _ _ _ := RepS.takeM (s0 := w.heap.size) (M := [ak, b]) Z aS aZ
 have fV := Z.max
 replace aa : RepS bv (nin (ge w.heap.size) [ag, aj, ah, af, ak, b]) _ _ _ _ := RepS.takeM (s0 := w.heap.size) (M := [ak, b]) aa aS aZ
 have fW := aa.max
 replace C : Own bv ag 62 (nin (ge w.heap.size) [ag, aj, ah, af, ak, b]) _ _ _ := Own.takeM (s0 := w.heap.size) (M := [ak, b]) C aS aZ
 have fX := C.max
 have fY := C.len
 replace ab : Own bv aj 165 (nin (ge w.heap.size) [ag, aj, ah, af, ak, b]) _ _ _ := Own.takeM (s0 := w.heap.size) (M := [ak, b]) ab aS aZ
 have fZ := ab.max
 have f0 := ab.len
 replace V : Own bv ah 3 (nin (ge w.heap.size) [ag, aj, ah, af, ak, b]) _ _ _ := Own.takeM (s0 := w.heap.size) (M := [ak, b]) V aS aZ
 have f3 := V.max
 have f4 := V.len
 replace E : Own bv af 31 (nin (ge w.heap.size) [ag, aj, ah, af, ak, b]) _ _ _ := Own.takeM (s0 := w.heap.size) (M := [ak, b]) E aS aZ
 have eV := E.max
 have eW := E.len
 clear aS
 have dm := W.len
 subst dm
 have dp := Z.len
 subst dp
 have dq := aa.len
 subst dq
 refine .r 3 <| .np 53 [.slice none 0 0, .slice none 0 0, .slice none 0 0, .slice none 0 0, .slice none 0 0, .slice none 0 0, .slice none 0 0, vI 0] fun ae f5 aA b6 dr dt => ?_
 have bE := nb_new aA bd.lt
 have eX := nb_new aA ac.lt
 have bm := nb_new aA C.lt
 have bF := nb_new aA ab.lt
 have bn := nb_new aA V.lt
 have bo := nb_new aA E.lt
 have eY := J.cn aA
 replace ⟨hD, bd, ac, W, Z, aa, C, ab, V, E, J⟩ := (sn [ag, aj, ah, af, ak, b] b6 aA).g11 hD bd ac W Z aa C ab V E J
 clear b6 dt aA
 refine .r 1 <| .sc [.slice aM ai.store.idx.names.length aN, .slice aO ai.store.idx.posts.length aP, .slice aQ ai.store.parts.length aR, vS ag aH aV, vS aj aE aW, vS ah aI aX, vS af aJ aY, vI ai.disk.next] dr fun eI b7 O du => ?_
 replace ⟨hD, bd, ac, W, Z, aa, C, ab, V, E, J⟩ := (so [ae, ag, aj, ah, af, ak, b] b7).g11 hD bd ac W Z aa C ab V E J
 clear b7 du
 refine .d <| .s <| .s <| .g <| .r 1 <| .cl (c_spec_l6Rd_pick 40 bd (hD.toAll (.tail _ (.tail _ (.tail _ (.tail _ (.tail _ (.tail _ (.head _)))))))) (by omega) (w := eI) (F := all)) ?_
 rintro f6 az ⟨⟨bT, rfl, eZ⟩, b8, e0, al, b9⟩
 replace ⟨hD, ac, W, Z, aa, C, ab, V, E, O, J⟩ := (so [ae, ag, aj, ah, af, ak, b] b9).g11 hD ac W Z aa C ab V E O J
 clear b9
 refine .d <| .b 0 <| .s <| .g <| .eq bT 0 (fun dv => ?_) (fun dv => ?_)
 · refine .r 1 <| .d <| .ct ?_
   replace hD := hD.into
   replace W := W.into
   replace Z := Z.into
   replace aa := aa.into
   have dw : Cov (mtb [ag, aj, ah, af, b] az.heap.size) az b := ⟨.inl (.inl (.tail _ (.tail _ (.tail _ (.tail _ (.head _))))))⟩
   have dx : Gb (ae + 1) az.heap.size := O.lt
   refine .gd (mtb [ag, aj, ah, af, b] az.heap.size) 7 fun f7 ce => ?_
   replace ⟨hD, al, ac, W, Z, aa, C, ab, V, E, O, J⟩ := (se [ae, ag, aj, ah, af, ak, b] ce).g12 hD al ac W Z aa C ab V E O J
   clear ce
   refine .r [0, 1] <| .lb 2 O (nS_of (all_cons bm (all_cons bF (all_cons bn (all_cons bo (all_cons bE all_nil))))) dx) <| .r [3] <| .go 4 <| .cl (fun de bq => c_spec_l6Rd_pick 6 (al.ext bq) ((hD.toAll (.tail _ (.tail _ (.tail _ (.tail _ (.tail _ (.tail _ (.head _)))))))).ext bq) (by omega) (w := de) (F := all)) ?_
   intro de bq
   replace ⟨hD, al, ac, W, Z, aa, C, ab, V, E, O, J⟩ := (se [ae, ag, aj, ah, af, ak, b] bq).g12 hD al ac W Z aa C ab V E O J
   rintro f8 f9 ⟨⟨bU, rfl, e7⟩, eJ, e8, am, bG⟩
   have hkeep_ := bG
   replace ⟨hD, ac, W, Z, aa, C, ab, V, E, O, J⟩ := (so [ae, ag, aj, ah, af, ak, b] bG).g11 hD ac W Z aa C ab V E O J
   clear bG
   refine ⟨Chg.toS hkeep_ (Cov.toS dw), ?_⟩
   refine GA.int (i := 5) (1 + bU) (by kernel_rfl) (by omega) <| .go 6 <| .ns 1 3 [vI (1 + bU)] fun ga cg => ?_
   replace ⟨hD, am, ac, W, Z, aa, C, ab, V, E, O, J⟩ := (se [ae, ag, aj, ah, af, ak, b] cg).g12 hD am ac W Z aa C ab V E O J
   clear cg
   intro df gb aB ci bH dy
   have dz := nb_new aB am.lt
   have dA := nb_new aB ac.lt
   have dB := nb_new aB C.lt
   have dC := nb_new aB ab.lt
   have cj := nb_new aB V.lt
   have dD := nb_new aB E.lt
   have dE := nb_new aB O.lt
   have dF := gb_new aB J.size
   replace ⟨hD, am, ac, W, Z, aa, C, ab, V, E, O, J⟩ := (se [ae, ag, aj, ah, af, ak, b] ci).g12 hD am ac W Z aa C ab V E O J
   clear ci dy aB
   refine .d fun gf bI => ?_
   replace ⟨hD, am, ac, W, Z, aa, C, ab, V, E, O, bH⟩ := (se [ae, ag, aj, ah, af, ak, b] bI).g12 hD am ac W Z aa C ab V E O bH
   replace J := (se [ae, ag, aj, ah, af, ak, b] bI).g1 J
   clear bI
   replace hD := hD.outof
   replace W := W.outof
   replace Z := Z.outof
   replace aa := aa.outof
   have bW : nin (ge w.heap.size) [ae, ag, aj, ah, af, ak, b] df ∧ df ≠ ah := hap_mk dF (all_cons dE (all_cons dB (all_cons dC (all_cons cj (all_cons dD (all_cons dA (all_cons dz all_nil))))))) cj
   refine RG.append1 (T := 49) (ty := 49) (y := 1 + bU) V bH (by kernel_rfl) (by kernel_rfl) rfl bW (by have q1 : WD _ := (by assumption); have q2 := q1.wi.dsk.nl; have q3 := q1.wi.dsk.nm.len; have q4 := q1.wi.sto.nm2; omega) fun aT ck gj ax av cm => ?_
   have e9 := nb_or av eE am.lt
   have fa := nb_or av eF ac.lt
   have fb := nb_or av c9 C.lt
   have fc := nb_or av eB ab.lt
   have fd := nb_or av (Nb.symm db) E.lt
   have fe := nb_or av (Nb.symm bn) O.lt
   have dG := gb_or av bi J.size
   replace ⟨hD, am, ac, W, Z, aa, C, ab, E, O, J⟩ := (sa [ae, ag, aj, ah, af, ak, b] cm av).g11 hD am ac W Z aa C ab E O J
   clear cm
   replace ax := ax.rn ah
   clear av
   have ff := ax.len; have fg := ax.max
   refine .r 2 <| .ss 5 (vS aT (aI + 1) ck) O fun gk co dH dI => ?_
   replace ⟨hD, am, ac, W, Z, aa, C, ab, ax, E, J⟩ := (so [ae, ag, aj, aT, af, ak, b] co).g11 hD am ac W Z aa C ab ax E J
   clear co dI
   refine .d <| .ib 0 <| .s <| .g <| .ln dH <| .sc [.slice aM ai.store.idx.names.length aN, .slice aO ai.store.idx.posts.length aP, .slice aQ ai.store.parts.length aR, vS ag aH aV, vS aj aE aW, vS aT (aI + 1) ck, vS af aJ aY, vI ai.disk.next] ac fun cp cq dJ dK => ?_
   replace ⟨hD, am, W, Z, aa, C, ab, ax, E, J⟩ := (so [ae, ag, aj, aT, af, ak, b] cq).g10 hD am W Z aa C ab ax E J
   clear cq dK
   refine .d ?_
   have bz := ab.sl bh
   replace ⟨hD, W, Z, aa, C, ax, E⟩ := (sd cp [ae, ag, aj, aT, af, ak, b] aj).g7 hD W Z aa C ax E
   have cr := ax.sl dG
   replace ⟨hD, W, Z, aa, C, bz, E⟩ := (sd cp [ae, ag, aT, af, ak, b] aT).g7 hD W Z aa C bz E
   have eK := E.sl bj
   replace ⟨hD, W, Z, aa, C, bz, cr⟩ := (sd cp [ae, ag, af, ak, b] af).g7 hD W Z aa C bz cr
   exact .rb Tryz.func12 Tryz.results12 dJ ⟨⟨((⟨(⟨(⟨ai.store.idx.names, ai.store.idx.posts⟩ : Idx), ai.store.parts, ai.store.mem⟩ : Sto), (⟨ai.disk.files, (ai.disk.list ++ [1 + bU]), ai.disk.names, ai.disk.next⟩ : Dsk)⟩ : Wld) : Wld), ⟨aM, ai.store.idx.names.length, aN, aO, ai.store.idx.posts.length, aP, aQ, ai.store.parts.length, aR, ag, aH, aV, (some ⟨aj, 0, none⟩), aE, aW, (some ⟨aT, 0, none⟩), (aI + 1), ck, (some ⟨af, 0, none⟩), aJ, aY, rfl, ((RepS.lessM W (all_cons (.tail _ (.head _)) all_nil)).eqx (by rfl)), ((RepS.lessM Z (all_cons (.tail _ (.head _)) all_nil)).eqx (by rfl)), ((RepS.lessM aa (all_cons (.tail _ (.head _)) all_nil)).eqx (by rfl)), ((Own.lessM C (all_cons (.tail _ (.head _)) all_nil)).eqx (by rfl)), bg, ((RepS.lessM bz (all_cons (.tail _ (.head _)) all_nil)).eqx (by rfl)), ((RepS.lessM cr (all_cons (.tail _ (.head _)) all_nil)).eqx (by rfl)), ((RepS.lessM eK (all_cons (.tail _ (.head _)) all_nil)).eqx (by rfl))⟩, (by have q1 : WD _ := (by assumption); first | exact q1.sd | exact q1.spoil (by omega) (by assumption))⟩, eJ, by omega, am, J⟩
 refine .r 1 <| .d <| .cf <| .s <| .g <| .eq bT 1 (fun dL => ?_) (fun dL => ?_)
 · refine .r 1 <| .d <| .ct ?_
   replace hD := hD.into
   replace W := W.into
   replace Z := Z.into
   replace aa := aa.into
   have cu : Cov (mtb [ag, aj, ah, af, b] az.heap.size) az b := ⟨.inl (.inl (.tail _ (.tail _ (.tail _ (.tail _ (.head _))))))⟩
   have dM : Gb (ae + 1) az.heap.size := O.lt
   refine .gd (mtb [ag, aj, ah, af, b] az.heap.size) 10 fun gl cv => ?_
   replace ⟨hD, al, ac, W, Z, aa, C, ab, V, E, O, J⟩ := (se [ae, ag, aj, ah, af, ak, b] cv).g12 hD al ac W Z aa C ab V E O J
   clear cv
   refine .r [0, 1] <| .lb 2 O (nS_of (all_cons bm (all_cons bF (all_cons bn (all_cons bo (all_cons bE all_nil))))) dM) <| .r [3, 6] <| .go 4 <| .cl (fun dg br => c_spec_l6Rd_pick 7 (al.ext br) ((hD.toAll (.tail _ (.tail _ (.tail _ (.tail _ (.tail _ (.tail _ (.head _)))))))).ext br) (by omega) (w := dg) (F := all)) ?_
   intro dg br
   replace ⟨hD, al, ac, W, Z, aa, C, ab, V, E, O, J⟩ := (se [ae, ag, aj, ah, af, ak, b] br).g12 hD al ac W Z aa C ab V E O J
   rintro gm gn ⟨⟨bV, rfl, fh⟩, gp, fi, dN, bJ⟩
   have hkeep_ := bJ
   replace ⟨hD, ac, W, Z, aa, C, ab, V, E, O, J⟩ := (so [ae, ag, aj, ah, af, ak, b] bJ).g11 hD ac W Z aa C ab V E O J
   clear bJ
   refine ⟨Chg.toS hkeep_ (Cov.toS cu), ?_⟩
   refine GA.int (i := 5) (1 + bV) (by kernel_rfl) (by omega) <| .go 7 <| .cl (fun dh bt => c_spec_l71Row (dN.ext bt) ((hD.toAll (.tail _ (.tail _ (.tail _ (.tail _ (.tail _ (.tail _ (.head _)))))))).ext bt) (by omega) (w := dh) (F := all)) ?_
   intro dh bt
   replace ⟨hD, ac, W, Z, aa, C, ab, V, E, O, J⟩ := (se [ae, ag, aj, ah, af, ak, b] bt).g11 hD ac W Z aa C ab V E O J
   rintro gq gr ⟨⟨bk, ⟨_, rfl, rfl⟩, fj⟩, eL, fk, ar, bK⟩
   have hkeep_ := bK
   replace ⟨hD, ac, W, Z, aa, C, ab, V, E, O, J⟩ := (so [ae, ag, aj, ah, af, ak, b] bK).g11 hD ac W Z aa C ab V E O J
   clear bK
   refine ⟨Chg.toS hkeep_ (Cov.toS cu), ?_⟩
   refine .r [8] <| .go 9 <| .ns 1 62 [vI (1 + bV), vI bk.t, vI bk.v] fun gs cw => ?_
   replace ⟨hD, ar, ac, W, Z, aa, C, ab, V, E, O, J⟩ := (se [ae, ag, aj, ah, af, ak, b] cw).g12 hD ar ac W Z aa C ab V E O J
   clear cw
   intro di gt aC cx bL dO
   have dP := nb_new aC ar.lt
   have dQ := nb_new aC ac.lt
   have cy := nb_new aC C.lt
   have dR := nb_new aC ab.lt
   have dS := nb_new aC V.lt
   have dT := nb_new aC E.lt
   have dU := nb_new aC O.lt
   have dV := gb_new aC J.size
   replace ⟨hD, ar, ac, W, Z, aa, C, ab, V, E, O, J⟩ := (se [ae, ag, aj, ah, af, ak, b] cx).g12 hD ar ac W Z aa C ab V E O J
   clear cx dO aC
   refine .d fun gu bM => ?_
   replace ⟨hD, ar, ac, W, Z, aa, C, ab, V, E, O, bL⟩ := (se [ae, ag, aj, ah, af, ak, b] bM).g12 hD ar ac W Z aa C ab V E O bL
   replace J := (se [ae, ag, aj, ah, af, ak, b] bM).g1 J
   clear bM
   replace hD := hD.outof
   replace W := W.outof
   replace Z := Z.outof
   replace aa := aa.outof
   have bX : nin (ge w.heap.size) [ae, ag, aj, ah, af, ak, b] di ∧ di ≠ ag := hap_mk dV (all_cons dU (all_cons cy (all_cons dR (all_cons dS (all_cons dT (all_cons dQ (all_cons dP all_nil))))))) cy
   refine RG.append1 (T := 28) (ty := 28) (y := (⟨1 + bV, (⟨bk.t, bk.v⟩ : Row)⟩ : Smp)) C bL (by kernel_rfl) (by kernel_rfl) rfl bX (by have q1 : WD _ := (by assumption); have q2 := q1.wi.dsk.nl; have q3 := q1.wi.dsk.nm.len; have q4 := q1.wi.sto.nm2; omega) fun aU cz gv ao ay cA => ?_
   have fl := nb_or ay eD ac.lt
   have fm := nb_or ay (Nb.symm eA) ab.lt
   have fp := nb_or ay (Nb.symm c9) V.lt
   have fq := nb_or ay (Nb.symm da) E.lt
   have ft := nb_or ay (Nb.symm bm) O.lt
   have dW := gb_or ay bg J.size
   replace ⟨hD, ar, ac, W, Z, aa, ab, V, E, O, J⟩ := (sa [ae, ag, aj, ah, af, ak, b] cA ay).g11 hD ar ac W Z aa ab V E O J
   clear cA
   replace ao := ao.rn ag
   clear ay
   have fu := ao.len; have fv := ao.max
   refine .r 2 <| .ss 3 (vS aU (aH + 1) cz) O fun gw cB dX dY => ?_
   replace ⟨hD, ar, ac, W, Z, aa, ao, ab, V, E, J⟩ := (so [ae, aU, aj, ah, af, ak, b] cB).g11 hD ar ac W Z aa ao ab V E J
   clear cB dY
   refine .d <| .ib 0 <| .s <| .g <| .ln dX <| .sc [.slice aM ai.store.idx.names.length aN, .slice aO ai.store.idx.posts.length aP, .slice aQ ai.store.parts.length aR, vS aU (aH + 1) cz, vS aj aE aW, vS ah aI aX, vS af aJ aY, vI ai.disk.next] ac fun cC cD dZ d0 => ?_
   replace ⟨hD, ar, W, Z, aa, ao, ab, V, E, J⟩ := (so [ae, aU, aj, ah, af, ak, b] cD).g10 hD ar W Z aa ao ab V E J
   clear cD d0
   refine .d ?_
   have bA := ab.sl bh
   replace ⟨hD, W, Z, aa, ao, V, E⟩ := (sd cC [ae, aU, aj, ah, af, ak, b] aj).g7 hD W Z aa ao V E
   have cE := V.sl bi
   replace ⟨hD, W, Z, aa, ao, bA, E⟩ := (sd cC [ae, aU, ah, af, ak, b] ah).g7 hD W Z aa ao bA E
   have eM := E.sl bj
   replace ⟨hD, W, Z, aa, ao, bA, cE⟩ := (sd cC [ae, aU, af, ak, b] af).g7 hD W Z aa ao bA cE
   exact .rb Tryz.func12 Tryz.results12 dZ ⟨⟨((⟨(⟨(⟨ai.store.idx.names, ai.store.idx.posts⟩ : Idx), ai.store.parts, (ai.store.mem ++ [(⟨1 + bV, (⟨bk.t, bk.v⟩ : Row)⟩ : Smp)])⟩ : Sto), (⟨ai.disk.files, ai.disk.list, ai.disk.names, ai.disk.next⟩ : Dsk)⟩ : Wld) : Wld), ⟨aM, ai.store.idx.names.length, aN, aO, ai.store.idx.posts.length, aP, aQ, ai.store.parts.length, aR, aU, (aH + 1), cz, (some ⟨aj, 0, none⟩), aE, aW, (some ⟨ah, 0, none⟩), aI, aX, (some ⟨af, 0, none⟩), aJ, aY, rfl, ((RepS.lessM W (all_cons (.tail _ (.head _)) all_nil)).eqx (by rfl)), ((RepS.lessM Z (all_cons (.tail _ (.head _)) all_nil)).eqx (by rfl)), ((RepS.lessM aa (all_cons (.tail _ (.head _)) all_nil)).eqx (by rfl)), ((Own.lessM ao (all_cons (.tail _ (.head _)) all_nil)).eqx (by rfl)), dW, ((RepS.lessM bA (all_cons (.tail _ (.head _)) all_nil)).eqx (by rfl)), ((RepS.lessM cE (all_cons (.tail _ (.head _)) all_nil)).eqx (by rfl)), ((RepS.lessM eM (all_cons (.tail _ (.head _)) all_nil)).eqx (by rfl))⟩, (by have q1 : WD _ := (by assumption); first | exact q1.sd | exact q1.spoil (by omega) (by assumption))⟩, eL, by omega, ar, J⟩
 refine .r 1 <| .d <| .cf <| .s <| .g <| .eq bT 2 (fun d3 => ?_) (fun d3 => ?_)
 · refine .r 1 <| .d <| .ct <| .s <| .g <| .r 2 <| .lb O <| .r 1 <| .bp ((aE : Int) > 0) (fun d4 => ?_) (fun d4 => ?_)
   · refine .d <| .ct <| .g <| .r 2 <| .lb O ?_
     have eN := ab.sl bh
     replace ⟨hD, W, Z, aa, C, V, E⟩ := (sd az [ae, ag, aj, ah, af, ak, b] aj).g7 hD W Z aa C V E
     refine RG.sub (t := 48) (lo := some (vI 1)) (hi := none) eN 1 aE (by kernel_rfl) (by kernel_rfl) (.inr ⟨_, _, rfl, by omega⟩) (.inl ⟨rfl, rfl⟩) (by omega) (by omega) fun cF cG aF => ?_
     have fw := aF.len; have fx := aF.max
     refine .r 2 <| .ss 4 (.slice cF (aE - 1) cG) O fun gx cH d5 d6 => ?_
     replace ⟨hD, al, ac, W, Z, aa, C, V, E, aF, J⟩ := (so [ae, ag, ah, af, ak, b] cH).g11 hD al ac W Z aa C V E aF J
     clear cH d6
     refine .d <| .ib 0 <| .s <| .g <| .ln d5 <| .sc [.slice aM ai.store.idx.names.length aN, .slice aO ai.store.idx.posts.length aP, .slice aQ ai.store.parts.length aR, vS ag aH aV, .slice cF (aE - 1) cG, vS ah aI aX, vS af aJ aY, vI ai.disk.next] ac fun dj cI d7 d8 => ?_
     replace ⟨hD, al, W, Z, aa, C, V, E, aF, J⟩ := (so [ae, ag, ah, af, ak, b] cI).g10 hD al W Z aa C V E aF J
     clear cI d8
     refine .d ?_
     have cJ := V.sl bi
     replace ⟨hD, W, Z, aa, C, E, aF⟩ := (sd dj [ae, ag, ah, af, ak, b] ah).g7 hD W Z aa C E aF
     have eO := E.sl bj
     replace ⟨hD, W, Z, aa, C, cJ, aF⟩ := (sd dj [ae, ag, af, ak, b] af).g7 hD W Z aa C cJ aF
     exact .rb Tryz.func12 Tryz.results12 d7 ⟨⟨((⟨(⟨(⟨ai.store.idx.names, ai.store.idx.posts⟩ : Idx), ai.store.parts, ai.store.mem⟩ : Sto), (⟨((ai.disk.files.take aE).drop 1), ai.disk.list, ai.disk.names, ai.disk.next⟩ : Dsk)⟩ : Wld) : Wld), ⟨aM, ai.store.idx.names.length, aN, aO, ai.store.idx.posts.length, aP, aQ, ai.store.parts.length, aR, ag, aH, aV, cF, (aE - 1), cG, (some ⟨ah, 0, none⟩), aI, aX, (some ⟨af, 0, none⟩), aJ, aY, rfl, ((RepS.lessM W (all_cons (.tail _ (.head _)) all_nil)).eqx (by rfl)), ((RepS.lessM Z (all_cons (.tail _ (.head _)) all_nil)).eqx (by rfl)), ((RepS.lessM aa (all_cons (.tail _ (.head _)) all_nil)).eqx (by rfl)), ((Own.lessM C (all_cons (.tail _ (.head _)) all_nil)).eqx (by rfl)), bg, ((RepS.lessM aF (all_cons (.tail _ (.head _)) all_nil)).eqx (by rfl)), ((RepS.lessM cJ (all_cons (.tail _ (.head _)) all_nil)).eqx (by rfl)), ((RepS.lessM eO (all_cons (.tail _ (.head _)) all_nil)).eqx (by rfl))⟩, (by have q1 : WD _ := (by assumption); first | exact q1.sd | exact q1.spoil (by omega) (by assumption))⟩, b8, by omega, al, J⟩
   refine .d <| .cf <| .sk <| .ib 0 <| .s <| .g <| .ln O <| .sc [.slice aM ai.store.idx.names.length aN, .slice aO ai.store.idx.posts.length aP, .slice aQ ai.store.parts.length aR, vS ag aH aV, vS aj aE aW, vS ah aI aX, vS af aJ aY, vI ai.disk.next] ac fun cK cL d9 ea => ?_
   replace ⟨hD, al, W, Z, aa, C, ab, V, E, O, J⟩ := (so [ae, ag, aj, ah, af, ak, b] cL).g11 hD al W Z aa C ab V E O J
   clear cL ea
   refine .d ?_
   have bB := ab.sl bh
   replace ⟨hD, W, Z, aa, C, V, E⟩ := (sd cK [ae, ag, aj, ah, af, ak, b] aj).g7 hD W Z aa C V E
   have cM := V.sl bi
   replace ⟨hD, W, Z, aa, C, bB, E⟩ := (sd cK [ae, ag, ah, af, ak, b] ah).g7 hD W Z aa C bB E
   have eP := E.sl bj
   replace ⟨hD, W, Z, aa, C, bB, cM⟩ := (sd cK [ae, ag, af, ak, b] af).g7 hD W Z aa C bB cM
   exact .rb Tryz.func12 Tryz.results12 d9 ⟨⟨(ai : Wld), ⟨aM, ai.store.idx.names.length, aN, aO, ai.store.idx.posts.length, aP, aQ, ai.store.parts.length, aR, ag, aH, aV, (some ⟨aj, 0, none⟩), aE, aW, (some ⟨ah, 0, none⟩), aI, aX, (some ⟨af, 0, none⟩), aJ, aY, rfl, ((RepS.lessM W (all_cons (.tail _ (.head _)) all_nil)).eqx (by rfl)), ((RepS.lessM Z (all_cons (.tail _ (.head _)) all_nil)).eqx (by rfl)), ((RepS.lessM aa (all_cons (.tail _ (.head _)) all_nil)).eqx (by rfl)), ((Own.lessM C (all_cons (.tail _ (.head _)) all_nil)).eqx (by rfl)), bg, ((RepS.lessM bB (all_cons (.tail _ (.head _)) all_nil)).eqx (by rfl)), ((RepS.lessM cM (all_cons (.tail _ (.head _)) all_nil)).eqx (by rfl)), ((RepS.lessM eP (all_cons (.tail _ (.head _)) all_nil)).eqx (by rfl))⟩, (by have q1 : WD _ := (by assumption); first | exact q1.sd | exact q1.spoil (by omega) (by assumption))⟩, b8, by omega, al, J⟩
 refine .r 1 <| .d <| .cf <| .s <| .g <| .eq bT 3 (fun eb => ?_) (fun eb => ?_)
 · refine .r 1 <| .d <| .ct ?_
   replace hD := hD.into
   replace W := W.into
   replace Z := Z.into
   replace aa := aa.into
   have ec : Cov (mtb [ag, aj, ah, af, b] az.heap.size) az b := ⟨.inl (.inl (.tail _ (.tail _ (.tail _ (.tail _ (.head _))))))⟩
   have ed : Gb (ae + 1) az.heap.size := O.lt
   refine .gd (mtb [ag, aj, ah, af, b] az.heap.size) 6 fun gy cN => ?_
   replace ⟨hD, al, ac, W, Z, aa, C, ab, V, E, O, J⟩ := (se [ae, ag, aj, ah, af, ak, b] cN).g12 hD al ac W Z aa C ab V E O J
   clear cN
   refine .r [0, 1] <| .lb 2 O (nS_of (all_cons bm (all_cons bF (all_cons bn (all_cons bo (all_cons bE all_nil))))) ed) <| .r [3] <| .go 4 <| .cl (fun cO bu => c_spec_l71Name (al.ext bu) ((hD.toAll (.tail _ (.tail _ (.tail _ (.tail _ (.tail _ (.tail _ (.head _)))))))).ext bu) (by omega) (w := cO) (F := all)) ?_
   intro cO bu
   replace ⟨hD, al, ac, W, Z, aa, C, ab, V, E, O, J⟩ := (se [ae, ag, aj, ah, af, ak, b] bu).g12 hD al ac W Z aa C ab V E O J
   rintro gz gA ⟨⟨cP, ⟨eQ, eR, rfl, aG⟩, fy⟩, eS, fz, aq, bN⟩
   have cQ := al7 O.lt C.lt ab.lt V.lt E.lt ac.lt al.lt
   have ee : Gb w.heap.size cO.heap.size := J.size
   have hkeep_ := bN
   replace ⟨hD, ac, W, Z, aa, C, ab, V, E, O, J⟩ := (so [ae, ag, aj, ah, af, ak, b] bN).g11 hD ac W Z aa C ab V E O J
   clear bN
   refine ⟨Chg.toS hkeep_ (Cov.toS ec), ?_⟩
   have aG := aG.fr cQ ee
   have fA := aG.max
   clear cQ
   refine .go 5 <| .ns 1 31 [.slice eQ cP.length eR] fun gC bO => ?_
   replace ⟨hD, aq, ac, W, Z, aa, C, ab, V, E, O, aG⟩ := (se [ae, ag, aj, ah, af, ak, b] bO).g12 hD aq ac W Z aa C ab V E O aG
   replace J := (se [ae, ag, aj, ah, af, ak, b] bO).g1 J
   clear bO
   intro dk gD aD bP bQ ef
   have eg := nb_new aD aq.lt
   have eh := nb_new aD ac.lt
   have ei := nb_new aD C.lt
   have ej := nb_new aD ab.lt
   have ek := nb_new aD V.lt
   have cR := nb_new aD E.lt
   have em := nb_new aD O.lt
   have en := gb_new aD J.size
   replace ⟨hD, aq, ac, W, Z, aa, C, ab, V, E, O, aG⟩ := (se [ae, ag, aj, ah, af, ak, b] bP).g12 hD aq ac W Z aa C ab V E O aG
   replace J := (se [ae, ag, aj, ah, af, ak, b] bP).g1 J
   clear bP ef aD
   refine .d fun gE bR => ?_
   replace ⟨hD, aq, ac, W, Z, aa, C, ab, V, E, O, aG⟩ := (se [ae, ag, aj, ah, af, ak, b] bR).g12 hD aq ac W Z aa C ab V E O aG
   replace ⟨bQ, J⟩ := (se [ae, ag, aj, ah, af, ak, b] bR).g2 bQ J
   clear bR
   replace hD := hD.outof
   replace W := W.outof
   replace Z := Z.outof
   replace aa := aa.outof
   have bY : nin (ge w.heap.size) [ae, ag, aj, ah, af, ak, b] dk ∧ dk ≠ af := hap_mk en (all_cons em (all_cons ei (all_cons ej (all_cons ek (all_cons cR (all_cons eh (all_cons eg all_nil))))))) cR
   refine RG.append1 (T := 23) (ty := 23) (y := cP) E bQ (by kernel_rfl) (by kernel_rfl) ⟨_, _, _, rfl, aG.oi⟩ bY (by have q1 : WD _ := (by assumption); have q2 := q1.wi.dsk.nl; have q3 := q1.wi.dsk.nm.len; have q4 := q1.wi.sto.nm2; omega) fun aL cS gF au aw cT => ?_
   have fB := nb_or aw eG aq.lt
   have fC := nb_or aw eH ac.lt
   have fD := nb_or aw da C.lt
   have fE := nb_or aw eC ab.lt
   have fF := nb_or aw db V.lt
   have fG := nb_or aw (Nb.symm bo) O.lt
   have eo := gb_or aw bj J.size
   replace ⟨hD, aq, ac, W, Z, aa, C, ab, V, O, J⟩ := (sa [ae, ag, aj, ah, af, ak, b] cT aw).g11 hD aq ac W Z aa C ab V O J
   clear cT
   replace au := au.rn af
   clear aw
   have fH := au.len; have fI := au.max
   refine .r 2 <| .ss 6 (vS aL (aJ + 1) cS) O fun gG cU ep es => ?_
   replace ⟨hD, aq, ac, W, Z, aa, C, ab, V, au, J⟩ := (so [ae, ag, aj, ah, aL, ak, b] cU).g11 hD aq ac W Z aa C ab V au J
   clear cU es
   refine .d <| .ib 0 <| .s <| .g <| .ln ep <| .sc [.slice aM ai.store.idx.names.length aN, .slice aO ai.store.idx.posts.length aP, .slice aQ ai.store.parts.length aR, vS ag aH aV, vS aj aE aW, vS ah aI aX, vS aL (aJ + 1) cS, vI ai.disk.next] ac fun cV cW et ew => ?_
   replace ⟨hD, aq, W, Z, aa, C, ab, V, au, J⟩ := (so [ae, ag, aj, ah, aL, ak, b] cW).g10 hD aq W Z aa C ab V au J
   clear cW ew
   refine .d ?_
   have bC := ab.sl bh
   replace ⟨hD, W, Z, aa, C, V, au⟩ := (sd cV [ae, ag, aj, ah, aL, ak, b] aj).g7 hD W Z aa C V au
   have cX := V.sl bi
   replace ⟨hD, W, Z, aa, C, bC, au⟩ := (sd cV [ae, ag, ah, aL, ak, b] ah).g7 hD W Z aa C bC au
   have eT := au.sl eo
   replace ⟨hD, W, Z, aa, C, bC, cX⟩ := (sd cV [ae, ag, aL, ak, b] aL).g7 hD W Z aa C bC cX
   exact .rb Tryz.func12 Tryz.results12 et ⟨⟨((⟨(⟨(⟨ai.store.idx.names, ai.store.idx.posts⟩ : Idx), ai.store.parts, ai.store.mem⟩ : Sto), (⟨ai.disk.files, ai.disk.list, (ai.disk.names ++ [cP]), ai.disk.next⟩ : Dsk)⟩ : Wld) : Wld), ⟨aM, ai.store.idx.names.length, aN, aO, ai.store.idx.posts.length, aP, aQ, ai.store.parts.length, aR, ag, aH, aV, (some ⟨aj, 0, none⟩), aE, aW, (some ⟨ah, 0, none⟩), aI, aX, (some ⟨aL, 0, none⟩), (aJ + 1), cS, rfl, ((RepS.lessM W (all_cons (.tail _ (.head _)) all_nil)).eqx (by rfl)), ((RepS.lessM Z (all_cons (.tail _ (.head _)) all_nil)).eqx (by rfl)), ((RepS.lessM aa (all_cons (.tail _ (.head _)) all_nil)).eqx (by rfl)), ((Own.lessM C (all_cons (.tail _ (.head _)) all_nil)).eqx (by rfl)), bg, ((RepS.lessM bC (all_cons (.tail _ (.head _)) all_nil)).eqx (by rfl)), ((RepS.lessM cX (all_cons (.tail _ (.head _)) all_nil)).eqx (by rfl)), ((RepS.lessM eT (all_cons (.tail _ (.head _)) all_nil)).eqx (by rfl))⟩, (by have q1 : WD _ := (by assumption); first | exact q1.sd | exact q1.spoil (by omega) (by assumption))⟩, eS, by omega, aq, J⟩
 refine .r 1 <| .d <| .cf <| .sk <| .ib 0 <| .s <| .g <| .ln O <| .sc [.slice aM ai.store.idx.names.length aN, .slice aO ai.store.idx.posts.length aP, .slice aQ ai.store.parts.length aR, vS ag aH aV, vS aj aE aW, vS ah aI aX, vS af aJ aY, vI ai.disk.next] ac fun cY cZ ex ey => ?_
 replace ⟨hD, al, W, Z, aa, C, ab, V, E, J⟩ := (so [ae, ag, aj, ah, af, ak, b] cZ).g10 hD al W Z aa C ab V E J
 clear cZ ey
 refine .d ?_
 have bD := ab.sl bh
 replace ⟨hD, W, Z, aa, C, V, E⟩ := (sd cY [ae, ag, aj, ah, af, ak, b] aj).g7 hD W Z aa C V E
 have c7 := V.sl bi
 replace ⟨hD, W, Z, aa, C, bD, E⟩ := (sd cY [ae, ag, ah, af, ak, b] ah).g7 hD W Z aa C bD E
 have eU := E.sl bj
 replace ⟨hD, W, Z, aa, C, bD, c7⟩ := (sd cY [ae, ag, af, ak, b] af).g7 hD W Z aa C bD c7
 exact .rb Tryz.func12 Tryz.results12 ex ⟨⟨(ai : Wld), ⟨aM, ai.store.idx.names.length, aN, aO, ai.store.idx.posts.length, aP, aQ, ai.store.parts.length, aR, ag, aH, aV, (some ⟨aj, 0, none⟩), aE, aW, (some ⟨ah, 0, none⟩), aI, aX, (some ⟨af, 0, none⟩), aJ, aY, rfl, ((RepS.lessM W (all_cons (.tail _ (.head _)) all_nil)).eqx (by rfl)), ((RepS.lessM Z (all_cons (.tail _ (.head _)) all_nil)).eqx (by rfl)), ((RepS.lessM aa (all_cons (.tail _ (.head _)) all_nil)).eqx (by rfl)), ((Own.lessM C (all_cons (.tail _ (.head _)) all_nil)).eqx (by rfl)), bg, ((RepS.lessM bD (all_cons (.tail _ (.head _)) all_nil)).eqx (by rfl)), ((RepS.lessM c7 (all_cons (.tail _ (.head _)) all_nil)).eqx (by rfl)), ((RepS.lessM eU (all_cons (.tail _ (.head _)) all_nil)).eqx (by rfl))⟩, (by have q1 : WD _ := (by assumption); first | exact q1.sd | exact q1.spoil (by omega) (by assumption))⟩, b8, by omega, al, J⟩
theorem c_spec_DrawStoreAdd (code : List UInt8) {w : World} {F : Nat → Prop} {a1 : Option Addr} {n1 c1 : Nat} (h1 : RepS w F a1 n1 c1 code)  : Calls Tryz.prog 4 [.slice a1 n1 c1].toArray w (rets fun rv w' => (∃ (s : Sto) (n : List Tag) (x : Row), (∃ v0 v1 v2, rv = .tuple #[v0, v1, v2] ∧ VS (fo F w.heap.size) w' (s : Sto) v0 ∧ VL (fo F w.heap.size) w' (n : List Tag) v1 ∧ VS (fo F w.heap.size) w' (x : Row) v2) ∧ SD s ∧ NmD n ∧ RowSm x) ∧ Ext w w') := by
 refine goT Tryz.func4 ?_
 obtain ⟨rfl, bI, h1⟩ := h1.tp
 refine .s <| .g <| .np 30 [.slice none 0 0, .slice none 0 0, .slice none 0 0, .slice none 0 0] fun E b8 ax ay J bi => ?_
 have bJ : Cov nil w E := cov_new ax (Nat.le_refl _)
 replace h1 := (sn [] ay ax).g1 h1
 have C := ay
 clear ay bi ax
 refine .r 1 <| .np 33 [vI 0, vI 0] fun W bj aq aG O bk => ?_
 have bK := nb_new aq J.lt
 have bL := C.cn aq
 replace ⟨h1, J, C⟩ := (sn [E] aG aq).g3 h1 J C
 clear aG bk aq
 refine .d <| .s <| .g <| .r 1 <| .cl (c_spec_l6Open code h1 (w := bj) (F := nin (fo F w.heap.size) [W, E])) ?_
 rintro b9 aM ⟨⟨cd, Z, ce, cg, rfl, ar, az, ag⟩, aH⟩
 have aI := al2 O.lt J.lt
 have bm : Gb w.heap.size bj.heap.size := C.size
 have bM := nb_ge ar J.lt
 have bN := nb_ge ar O.lt
 have bO : Cov nil w Z := cov_ge ar C.size
 replace ⟨J, O, C⟩ := (se [] aH).g3 J O C
 clear aH ar
 replace ag := RepS.mixedR (b := Z) (M := [W, E]) ag aI bm
 clear aI
 refine .r 1 <| .d <| .s <| .g <| .r 1 <| .cl (c_spec_l72World az (ag.toAll (.head _)) (by omega) (w := aM) (F := all)) ?_
 rintro ci ak ⟨⟨al, ⟨aN, cj, aO, aP, ck, aQ, aR, cm, aS, ab, aT, aU, co, cp, cq, cr, cu, cv, cw, cx, cy, rfl, ac, ae, af, V, am, au, av, aw⟩, bP⟩, cz, bQ, aJ, aA⟩
 have ah := al3 az.lt O.lt J.lt
 have ai : Gb w.heap.size aM.heap.size := C.size
 have bR := nb_ge am J.lt
 have bS := nb_ge am O.lt
 have bT := nb_ge am az.lt
 have bn := gb_ge am C.size
 have aK : Mv [Z, W, E] [ab, Z, W, E] aM ak := Mv.cons (Mv.on aA (.head _)) am
 replace ⟨J, O, ag, C⟩ := (sp aK aA).g4 J O ag C
 clear aK aA am
 replace ac : RepS ak (nin (ge w.heap.size) [ab, Z, W, E]) _ _ _ _ := RepS.takeM (s0 := w.heap.size) (M := [Z, W, E]) ac ah ai
 replace ac := ac.base (G' := fo F w.heap.size) (fun _ _ h => .inr h)
 have bU := ac.max
 replace ae : RepS ak (nin (ge w.heap.size) [ab, Z, W, E]) _ _ _ _ := RepS.takeM (s0 := w.heap.size) (M := [Z, W, E]) ae ah ai
 replace ae := ae.base (G' := fo F w.heap.size) (fun _ _ h => .inr h)
 have bV := ae.max
 replace af : RepS ak (nin (ge w.heap.size) [ab, Z, W, E]) _ _ _ _ := RepS.takeM (s0 := w.heap.size) (M := [Z, W, E]) af ah ai
 replace af := af.base (G' := fo F w.heap.size) (fun _ _ h => .inr h)
 have bW := af.max
 replace V : Own ak ab 62 (nin (ge w.heap.size) [ab, Z, W, E]) _ _ _ := Own.takeM (s0 := w.heap.size) (M := [Z, W, E]) V ah ai
 replace V := V.base (G' := fo F w.heap.size) (fun _ _ h => .inr h)
 have bv := V.max
 have bw := V.len
 replace au : RepS ak (nin (ge w.heap.size) [ab, Z, W, E]) _ _ _ _ := RepS.takeM (s0 := w.heap.size) (M := [Z, W, E]) au ah ai
 replace au := au.base (G' := fo F w.heap.size) (fun _ _ h => .inr h)
 have bz := au.max
 replace av : RepS ak (nin (ge w.heap.size) [ab, Z, W, E]) _ _ _ _ := RepS.takeM (s0 := w.heap.size) (M := [Z, W, E]) av ah ai
 replace av := av.base (G' := fo F w.heap.size) (fun _ _ h => .inr h)
 have bA := av.max
 replace aw : RepS ak (nin (ge w.heap.size) [ab, Z, W, E]) _ _ _ _ := RepS.takeM (s0 := w.heap.size) (M := [Z, W, E]) aw ah ai
 replace aw := aw.base (G' := fo F w.heap.size) (fun _ _ h => .inr h)
 have bB := aw.max
 clear ah
 have aV := ac.len
 subst aV
 have aW := ae.len
 subst aW
 have aX := af.len
 subst aX
 have aY := au.len
 subst aY
 have aZ := av.len
 subst aZ
 have ba := aw.len
 subst ba
 refine .r 2 <| .cl (c_spec_l72Known aJ (ag.toAll (.tail _ (.head _))) (by omega) (w := ak) (F := all)) ?_
 rintro bX bo ⟨⟨aL, ⟨bq, br, rfl, aa⟩, bC⟩, bY, bD, bb, aB⟩
 have aC := al4 V.lt aJ.lt O.lt J.lt
 have bc : Gb w.heap.size ak.heap.size := C.size
 replace ⟨J, O, ag, ac, ae, af, V, C⟩ := (so [ab, Z, W, E] aB).g8 J O ag ac ae af V C
 clear aB
 have aa := aa.fr aC bc
 replace aa := aa.base (G' := fo F w.heap.size) (fun _ _ h => .inr h)
 have bE := aa.max
 clear aC
 refine .r 1 <| .cl (c_spec_l71Row bb (ag.toAll (.tail _ (.head _))) (by omega) (w := bo) (F := all)) ?_
 rintro bZ b0 ⟨⟨aj, ⟨_, rfl, rfl⟩, bF⟩, b6, bG, bH, aD⟩
 replace ⟨J, O, ac, ae, af, V, aa, C⟩ := (so [ab, Z, W, E] aD).g8 J O ac ae af V aa C
 clear aD
 refine .sc [.slice aN al.store.idx.names.length aO, .slice aP al.store.idx.posts.length aQ, .slice aR al.store.parts.length aS, vS ab aT aU] J fun b7 aE ao bd => ?_
 replace ⟨O, ac, ae, af, V, aa, C⟩ := (so [ab, Z, W, E] aE).g7 O ac ae af V aa C
 clear aE bd
 refine .r 1 <| .sc [vI aj.t, vI aj.v] O fun bt aF bg bh => ?_
 replace ⟨ao, ac, ae, af, V, aa, C⟩ := (so [ab, Z, W, E] aF).g7 ao ac ae af V aa C
 clear aF bh
 refine .d ?_
 have bu := V.sl (.inr bn)
 replace ⟨ac, ae, af, aa⟩ := (sd bt [ab, Z, W, E] ab).g4 ac ae af aa
 exact T.ret3 (v := .agg #[.slice aN al.store.idx.names.length aO, .slice aP al.store.idx.posts.length aQ, .slice aR al.store.parts.length aS, vS ab aT aU]) (v' := .slice bq aL.length br) (v'' := .agg #[vI aj.t, vI aj.v]) (by kernel_rfl) Tryz.func4 Tryz.results4 (Res1.cell (ad := ⟨E, 0, none⟩) (by kernel_rfl) ((ao.has 0 [.slice aN al.store.idx.names.length aO, .slice aP al.store.idx.posts.length aQ, .slice aR al.store.parts.length aS, vS ab aT aU] (by kernel_rfl)).loadN (by kernel_rfl))) (Res1.tmp (by kernel_rfl)) (Res1.cell (ad := ⟨W, 0, none⟩) (by kernel_rfl) ((bg.has 0 [vI aj.t, vI aj.v] (by kernel_rfl)).loadN (by kernel_rfl))) ⟨⟨(al.store : Sto), (aL : List Tag), (aj : Row), ⟨_, _, _, (tup3 rfl rfl rfl), ⟨_, rfl, ⟨_, _, _, _, _, _, _, _, _, _, _, _, rfl, ac.w1, ae.w1, af.w1, bu.w1⟩⟩, (aa.vl (by rfl) (fun _ _ h => h.1)), ⟨_, rfl, rfl⟩⟩, (by simp_all)⟩, C⟩
end Go.Proofs.YtndljnhfkdhggaaGreat