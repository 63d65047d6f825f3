/- walks; squeezed -/
import Derived.Test.YtfnpaglcnmcnbaaGreatFluzMod10
set_option linter.unusedVariables false
set_option linter.unusedSimpArgs false
namespace Go.Proofs.YtfnpaglcnmcnbaaGreat
set_option maxRecDepth 100000
set_option maxHeartbeats 4000000
theorem c_spec_l6Open (code : List UInt8) {w : World} {F : Nat → Prop} {a1 : Option Addr} {n1 c1 : Nat} (h1 : RepS w F a1 n1 c1 code)  : Calls Tryz.prog 55 [.slice a1 n1 c1].toArray w (rets fun rv w' => (∃ (D : List UInt8) (b : Nat) (a : Option Addr) (c : Nat), rv = .pointer (some ⟨b, 0, none⟩) ∧ w.heap.size ≤ b ∧ Box w' b 140 [.slice a D.length c, .int .i64 ((0 : Nat) : Int)] ∧ RepS w' (nin (fo F w.heap.size) [b]) a D.length c D) ∧ Ext w w') := by
 refine goT Tryz.func55 ?_
 obtain ⟨rfl, ao, h1⟩ := h1.tp
 refine .s <| .g <| .r 1 <| .d <| .s <| .s <| .g <| .r 2 <| .bp ((code.length : Int) > 2000) (fun Z => ?_) (fun Z => ?_)
 · refine .d <| .ct <| .g <| .r 1 <| RG.sub (t := 22) (lo := none) (hi := some (vI 2000)) h1 0 2000 (by kernel_rfl) (by kernel_rfl) (.inl ⟨rfl, rfl⟩) (.inr ⟨_, _, rfl, by omega⟩) (by omega) (by omega) fun aj ak C => ?_
   have aq := C.len; have ar := C.max
   refine .r 1 <| .d <| .s <| .g <| .r 2 <| .np 140 [.slice aj (2000 - 0) ak, vI 0] fun al au E J W aa => ?_
   have ab := gb_new E (Nat.le_refl _)
   replace ⟨h1, C⟩ := (sn [] J E).g2 h1 C
   have ac := J
   clear J aa E
   refine .r 1 <| .d ?_
   have ae := C.len; rw [ae] at C W
   exact .rt Tryz.func55 Tryz.results55 (.pointer (some ⟨al, 0, none⟩)) ⟨⟨_, _, _, _, rfl, ab, W, (RepS.toRd C (.head _))⟩, ac⟩
 refine .d <| .cf <| .sk <| .s <| .g <| .r 2 <| .np 140 [.slice a1 code.length c1, vI 0] fun am av O V af ag => ?_
 have ah := gb_new O (Nat.le_refl _)
 replace h1 := (sn [] V O).g1 h1
 have ai := V
 clear V ag O
 exact .r 1 <| .d <| .rt Tryz.func55 Tryz.results55 (.pointer (some ⟨am, 0, none⟩)) ⟨⟨_, _, _, _, rfl, ah, af, (RepS.toRd h1 (.head _))⟩, ai⟩
theorem c_spec_l6Rd_pick (n : Int) {w : World} {F : Nat → Prop} {b : Nat} {ad : Option Addr} {cd p : Nat} {D : List UInt8} (hr : Box w b 140 [.slice ad D.length cd, .int .i64 (p : Int)]) (hD : RepS w (nin all [b]) ad D.length cd D) (hp : p + 1 ≤ 1000000000)  : Calls Tryz.prog 79 [.pointer (some ⟨b, 0, none⟩), .int .i64 n].toArray w (rets fun rv w' => (∃ (y : Int), rv = .int .i64 (y) ∧ 0 ≤ y ∧ (y < n ∨ y = 0)) ∧ ∃ p' : Nat, p' ≤ p + 1 ∧ Box w' b 140 [.slice ad D.length cd, .int .i64 (p' : Int)] ∧ Chg (one b) w w') := by
 refine goT Tryz.func79 ?_
 have ay := hD.max
 refine .s <| .g <| .r 1 <| .d <| .s <| .g <| .r 4 <| .lb hr <| .it ((p : Int) + 1) <| .r 2 <| .ss 1 (vI ((p : Int) + 1)) hr fun ax W C aj => ?_
 replace hD := (so [b] W).g1 hD
 have O : Chg (one b) w ax := Chg.stepO (Chg.refl (one b) w) W (Cov.mk1 w b)
 clear W aj
 refine .d <| .s <| .s <| .g <| .r 1 <| .bp (n < 1) (fun ak => .r 8 <| .d <| .ct <| .s <| .g <| .r 1 <| .d <| .rt Tryz.func79 Tryz.results79 (vI 0) ⟨⟨(0 : Int), (congrArg (Value.int .i64) (by rfl)), (by first | omega | exact tm_lt (by omega) (by assumption))⟩, p + 1, by omega, C, O⟩) fun ak => .r 4 <| .lb C <| .r 1 <| .eq (D.length : Int) 0 (fun al => .r 1 <| .d <| .ct <| .s <| .g <| .r 1 <| .d <| .rt Tryz.func79 Tryz.results79 (vI 0) ⟨⟨(0 : Int), (congrArg (Value.int .i64) (by rfl)), (by first | omega | exact tm_lt (by omega) (by assumption))⟩, p + 1, by omega, C, O⟩) fun al => .r 1 <| .d <| .cf <| .sk <| .s <| .g <| .r 3 <| .lb C <| .it (((p : Int) + 1) - 1) <| .r 1 <| .d <| .s <| .s <| .g <| .r 4 <| .lb C <| .r 1 <| .bp (((p : Int) + 1) - 1 < (D.length : Int)) (fun am => ?_) (fun am => ?_)
 · refine .d <| .ct <| .s <| .g <| .r 3 <| .lb C <| .r 1 ?_
   have ac : (((p : Int) + 1) - 1).toNat < D.length := (by first | omega | exact tm_idx (by omega) (by omega) | exact tm_nat (by omega))
   refine RG.idx ((((p : Int) + 1) - 1).toNat) (len := D.length) (i := ((p : Int) + 1) - 1) (sz := 1) (by kernel_rfl) (by first | omega | exact tm_idx (by omega) (by omega) | exact tm_nat (by omega)) ac (hD.addr (Nat.zero_lt_of_lt ac)) ?_
   obtain ⟨V, Z⟩ : ∃ y, D[(((p : Int) + 1) - 1).toNat]? = some y := ⟨_, List.getElem?_eq_getElem (by first | omega | exact tm_idx (by omega) (by omega) | exact tm_nat (by omega))⟩
   have az := drop_at Z; have au := List.mem_of_getElem? Z
   have aA := UInt8.toNat_lt V
   obtain ⟨_, rfl, ao⟩ := hD.elem ((((p : Int) + 1) - 1).toNat) V Z
   exact .lh 0 ao <| .it ((V.toNat : Int)) <| .r 1 <| RG.rem (t := 3) (k := .i64) (a := (V.toNat : Int)) (b := n) (by kernel_rfl) (by omega) <| .r 1 <| .d <| .rt Tryz.func79 Tryz.results79 (vI (Int.tmod (V.toNat : Int) n)) ⟨⟨((Int.tmod (V.toNat : Int) n) : Int), (congrArg (Value.int .i64) (by rfl)), (by first | omega | exact tm_lt (by omega) (by assumption))⟩, p + 1, by omega, C, O⟩
 refine .d <| .cf <| .sk <| .s <| .gd nil 44 fun aI ae => ?_
 replace ⟨hD, C, O⟩ := (se [b] ae).g3 hD C O
 clear ae
 refine .r [0, 1, 2] <| .lb 3 C id <| .r [4, 5, 6, 7] <| .lb 8 C id <| .r [9] <| GA.rem (i := 10) (t := 3) (k := .i64) (a := ((p : Int) + 1) - 1) (b := (D.length : Int)) (by kernel_rfl) (by kernel_rfl) (by omega) ?_
 have af : ((Int.tmod (((p : Int) + 1) - 1) (D.length : Int))).toNat < D.length := (by first | omega | exact tm_idx (by omega) (by omega) | exact tm_nat (by omega))
 refine GA.idx (i := 11) (((Int.tmod (((p : Int) + 1) - 1) (D.length : Int))).toNat) (len := D.length) (z := (Int.tmod (((p : Int) + 1) - 1) (D.length : Int))) (sz := 1) (by kernel_rfl) (by first | omega | exact tm_idx (by omega) (by omega) | exact tm_nat (by omega)) af (hD.addr (Nat.zero_lt_of_lt af)) ?_
 obtain ⟨E, aa⟩ : ∃ y, D[((Int.tmod (((p : Int) + 1) - 1) (D.length : Int))).toNat]? = some y := ⟨_, List.getElem?_eq_getElem (by first | omega | exact tm_idx (by omega) (by omega) | exact tm_nat (by omega))⟩
 have aB := drop_at aa; have av := List.mem_of_getElem? aa
 have aC := UInt8.toNat_lt E
 obtain ⟨_, rfl, aq⟩ := hD.elem (((Int.tmod (((p : Int) + 1) - 1) (D.length : Int))).toNat) E aa
 refine .lh 12 0 aq id <| GA.int (i := 13) ((E.toNat : Int)) (by kernel_rfl) (by omega) <| GA.int (i := 14) ((E.toNat : Int) * 131) (by kernel_rfl) (by omega) <| .r [15, 16, 17] <| .lb 18 C id <| .r [19] <| GA.int (i := 20) ((((p : Int) + 1) - 1) * 7) (by kernel_rfl) (by omega) <| GA.int (i := 21) ((((p : Int) + 1) - 1) * 7 + 3) (by kernel_rfl) (by omega) <| .r [22, 23, 24] <| .lb 25 C id <| .r [26] <| GA.rem (i := 27) (t := 3) (k := .i64) (a := (((p : Int) + 1) - 1) * 7 + 3) (b := (D.length : Int)) (by kernel_rfl) (by kernel_rfl) (by omega) ?_
 have ag : ((Int.tmod ((((p : Int) + 1) - 1) * 7 + 3) (D.length : Int))).toNat < D.length := (by first | omega | exact tm_idx (by omega) (by omega) | exact tm_nat (by omega))
 refine GA.idx (i := 28) (((Int.tmod ((((p : Int) + 1) - 1) * 7 + 3) (D.length : Int))).toNat) (len := D.length) (z := (Int.tmod ((((p : Int) + 1) - 1) * 7 + 3) (D.length : Int))) (sz := 1) (by kernel_rfl) (by first | omega | exact tm_idx (by omega) (by omega) | exact tm_nat (by omega)) ag (hD.addr (Nat.zero_lt_of_lt ag)) ?_
 obtain ⟨J, ab⟩ : ∃ y, D[((Int.tmod ((((p : Int) + 1) - 1) * 7 + 3) (D.length : Int))).toNat]? = some y := ⟨_, List.getElem?_eq_getElem (by first | omega | exact tm_idx (by omega) (by omega) | exact tm_nat (by omega))⟩
 have aD := drop_at ab; have aw := List.mem_of_getElem? ab
 have aE := UInt8.toNat_lt J
 obtain ⟨_, rfl, ar⟩ := hD.elem (((Int.tmod ((((p : Int) + 1) - 1) * 7 + 3) (D.length : Int))).toNat) J ab
 refine .lh 29 0 ar id <| GA.int (i := 30) ((J.toNat : Int)) (by kernel_rfl) (by omega) <| GA.int (i := 31) ((J.toNat : Int) * 1117) (by kernel_rfl) (by omega) <| GA.int (i := 32) ((E.toNat : Int) * 131 + ((J.toNat : Int) * 1117)) (by kernel_rfl) (by omega) <| .r [33] <| GA.int (i := 34) ((((p : Int) + 1) - 1) * 29) (by kernel_rfl) (by omega) <| GA.int (i := 35) ((E.toNat : Int) * 131 + ((J.toNat : Int) * 1117) + ((((p : Int) + 1) - 1) * 29)) (by kernel_rfl) (by omega) <| .r [36, 37, 38, 39] <| .lb 40 C id <| .r [41] ?_
 have aF := td_le (a := ((p : Int) + 1) - 1) (n := (D.length : Int)) (by omega) (by omega)
 refine GA.quo (i := 42) (t := 3) (a := ((p : Int) + 1) - 1) (b := (D.length : Int)) (by kernel_rfl) (by kernel_rfl) (by omega) (by omega) <| GA.int (i := 43) ((Int.tdiv (((p : Int) + 1) - 1) (D.length : Int)) * 53) (by kernel_rfl) (by omega) <| .d fun aJ ah => ?_
 replace ⟨hD, C, O⟩ := (se [b] ah).g3 hD C O
 clear ah
 refine .it ((E.toNat : Int) * 131 + ((J.toNat : Int) * 1117) + ((((p : Int) + 1) - 1) * 29) + ((Int.tdiv (((p : Int) + 1) - 1) (D.length : Int)) * 53)) <| .r 1 <| .d <| .s <| .g <| .r 2 ?_
 have aG := td_le (a := (E.toNat : Int) * 131 + ((J.toNat : Int) * 1117) + ((((p : Int) + 1) - 1) * 29) + ((Int.tdiv (((p : Int) + 1) - 1) (D.length : Int)) * 53)) (n := 64) (by omega) (by omega)
 refine RG.quo (t := 3) (a := (E.toNat : Int) * 131 + ((J.toNat : Int) * 1117) + ((((p : Int) + 1) - 1) * 29) + ((Int.tdiv (((p : Int) + 1) - 1) (D.length : Int)) * 53)) (b := 64) (by kernel_rfl) (by omega) (by omega) <| RG.xor (t := 3) (a := (E.toNat : Int) * 131 + ((J.toNat : Int) * 1117) + ((((p : Int) + 1) - 1) * 29) + ((Int.tdiv (((p : Int) + 1) - 1) (D.length : Int)) * 53)) (b := (Int.tdiv ((E.toNat : Int) * 131 + ((J.toNat : Int) * 1117) + ((((p : Int) + 1) - 1) * 29) + ((Int.tdiv (((p : Int) + 1) - 1) (D.length : Int)) * 53)) 64)) (by kernel_rfl) (by omega) (by omega) ?_
 obtain ⟨ai, aH, hz51e⟩ : ∃ z : Nat, z < 4611686018427387904 ∧ ((((E.toNat : Int) * 131 + ((J.toNat : Int) * 1117) + ((((p : Int) + 1) - 1) * 29) + ((Int.tdiv (((p : Int) + 1) - 1) (D.length : Int)) * 53)).toNat ^^^ ((Int.tdiv ((E.toNat : Int) * 131 + ((J.toNat : Int) * 1117) + ((((p : Int) + 1) - 1) * 29) + ((Int.tdiv (((p : Int) + 1) - 1) (D.length : Int)) * 53)) 64)).toNat : Nat) : Int) = (z : Int) := ⟨_, (xor_nat (by omega) (by omega)).2, rfl⟩
 rw [hz51e]
 exact .r 1 <| .d <| .s <| .g <| .r 2 <| RG.rem (t := 3) (k := .i64) (a := (ai : Int)) (b := n) (by kernel_rfl) (by omega) <| .r 1 <| .d <| .rt Tryz.func79 Tryz.results79 (vI (Int.tmod (ai : Int) n)) ⟨⟨((Int.tmod (ai : Int) n) : Int), (congrArg (Value.int .i64) (by rfl)), (by first | omega | exact tm_lt (by omega) (by assumption))⟩, p + 1, by omega, C, O⟩
theorem c_spec_l6Rd_of (list : List Txt) {w : World} {F : Nat → Prop} {b : Nat} {ad : Option Addr} {cd p : Nat} {D : List UInt8} (hr : Box w b 140 [.slice ad D.length cd, .int .i64 (p : Int)]) (hD : RepS w (nin all [b]) ad D.length cd D) (hp : p + 1 ≤ 1000000000) {a1 : Option Addr} {n1 c1 : Nat} (h1 : RepS w (nin F [b]) a1 n1 c1 list) (p0 : 0 < list.length) : Calls Tryz.prog 104 [.pointer (some ⟨b, 0, none⟩), .slice a1 n1 c1].toArray w (rets fun rv w' => (∃ (y : Str), rv = .string (bs (y)) ∧ (⟨y⟩ : Txt) ∈ list) ∧ ∃ p' : Nat, p' ≤ p + 1 ∧ Box w' b 140 [.slice ad D.length cd, .int .i64 (p' : Int)] ∧ Chg (one b) w w') := by
 refine goT Tryz.func104 ?_
 have af := hD.max
 obtain rfl := h1.len
 replace h1 := h1.topR (s := w.heap.size)
 have ag := h1.max
 refine .s <| .g <| .r 1 <| .d <| .s <| .g <| .r 4 <| .cl (c_spec_l6Rd_pick (list.length : Int) hr (hD.toAll (.head _)) (by omega) (w := w) (F := all)) ?_
 rintro ak ac ⟨⟨C, rfl, ah⟩, ae, ai, W, E⟩
 replace ⟨hD, h1⟩ := (so [b] E).g2 hD h1
 have Z : Chg (one b) w ac := Chg.stepO (Chg.refl (one b) w) E (Cov.mk1 w b)
 clear E
 have O : (C).toNat < list.length := (by omega)
 refine RG.idx ((C).toNat) (len := list.length) (i := C) (sz := 1) (by kernel_rfl) (by omega) O (h1.addr (Nat.zero_lt_of_lt O)) ?_
 obtain ⟨V, J⟩ : ∃ y, list[(C).toNat]? = some y := ⟨_, List.getElem?_eq_getElem (by omega)⟩
 have aj := drop_at J; have ab := List.mem_of_getElem? J
 obtain ⟨_, rfl, aa⟩ := h1.elem ((C).toNat) V J
 exact .lh 0 aa <| .r 1 <| .d <| .rt Tryz.func104 Tryz.results104 (vT V.s) ⟨⟨(V.s : Str), (congrArg (fun s => Value.string (bs s)) (by rfl)), (by assumption)⟩, ae, by omega, W, Z⟩
theorem c_spec_l71Row  {w : World} {F : Nat → Prop} {b : Nat} {ad : Option Addr} {cd p : Nat} {D : List UInt8} (hr : Box w b 140 [.slice ad D.length cd, .int .i64 (p : Int)]) (hD : RepS w (nin all [b]) ad D.length cd D) (hp : p + 4 ≤ 1000000000)  : Calls Tryz.prog 58 [.pointer (some ⟨b, 0, none⟩)].toArray w (rets fun rv w' => (∃ (y : Row), VS (ge w.heap.size) w' (y : Row) rv ∧ RowSm y) ∧ ∃ p' : Nat, p' ≤ p + 4 ∧ Box w' b 140 [.slice ad D.length cd, .int .i64 (p' : Int)] ∧ Chg (one b) w w') := by
 refine goT Tryz.func58 ?_
 have bK := hD.max
 refine .s <| .g <| .np 33 [vI 0, vI 0] fun O bg am ar E bh => ?_
 have bL := nb_new am hr.lt
 have bM : Cov (one b) w O := cov_new am (Nat.le_refl _)
 replace ⟨hD, hr⟩ := (sn [b] ar am).g2 hD hr
 have C : Chg (one b) w bg := Chg.stepN (Chg.refl (one b) w) ar
 clear ar bh am
 refine .d <| .s <| .g <| .r 1 <| .cl (c_spec_l6Rd_pick 40 hr (hD.toAll (.tail _ (.head _))) (by omega) (w := bg) (F := all)) ?_
 rintro ce bB ⟨⟨au, rfl, bN⟩, cg, bO, bi, aI⟩
 replace ⟨hD, E, C⟩ := (so [O, b] aI).g3 hD E C
 clear aI
 refine .r 1 <| .cl (c_spec_l6Rd_pick 20 bi (hD.toAll (.tail _ (.head _))) (by omega) (w := bB) (F := all)) ?_
 rintro ci cj ⟨⟨ao, rfl, bP⟩, ck, bQ, ab, aJ⟩
 replace ⟨hD, E, C⟩ := (so [O, b] aJ).g3 hD E C
 clear aJ
 refine .it (ao - 6) <| .r 1 <| .np 33 [vI 0, vI 0] fun W cm ae aK bj bk => ?_
 have bR := nb_new ae ab.lt
 have bS := nb_new ae E.lt
 have bT := C.cn ae
 replace ⟨hD, ab, E, C⟩ := (sn [O, b] aK ae).g4 hD ab E C
 clear aK bk ae
 refine .sc [vI au, vI (ao - 6)] bj fun bC aL J bm => ?_
 replace ⟨hD, ab, E, C⟩ := (so [W, O, b] aL).g4 hD ab E C
 clear aL bm
 refine .d <| .s <| .s <| .g <| .r 1 <| .cl (c_spec_l6Rd_pick 40 ab (hD.toAll (.tail _ (.tail _ (.head _)))) (by omega) (w := bC) (F := all)) ?_
 rintro co cp ⟨⟨bn, rfl, bU⟩, bD, bV, V, aM⟩
 replace ⟨hD, E, J, C⟩ := (so [W, O, b] aM).g4 hD E J C
 clear aM
 refine .d <| .b 0 <| .s <| .g <| .eq bn 0 (fun bo => ?_) (fun bo => ?_)
 · refine .r 1 <| .d <| .ct <| .g <| .ns 3 3 [vI (-1), vI 99, vI 100] fun ah bq av aN br bt => ?_
   have bW := nb_new av V.lt
   replace ⟨hD, V, E, J, C⟩ := (sn [W, O, b] aN av).g5 hD V E J C
   clear aN bt av
   have aw : Own (α := Int) bq ah 3 (nin (ge w.heap.size) [ah, W, O, b]) 3 3 [(-1), 99, 100] := Own.lit br rfl (by decide) ⟨rfl, rfl, rfl, rfl⟩
   refine .r 1 <| .cl (c_spec_l6Rd_pick 3 V (hD.toAll (.tail _ (.tail _ (.tail _ (.head _))))) (by omega) (w := bq) (F := all)) ?_
   rintro cq bE ⟨⟨aq, rfl, bX⟩, bF, bY, af, aO⟩
   replace ⟨hD, E, J, aw, C⟩ := (so [ah, W, O, b] aO).g5 hD E J aw C
   clear aO
   have bu : (aq).toNat < 3 := (by omega)
   refine RG.idx (b := ah) (o := 0) ((aq).toNat) (len := 3) (i := aq) (sz := 1) (by kernel_rfl) (by omega) bu rfl ?_
   obtain ⟨ax, ay⟩ : ∃ y, ([(-1), 99, 100] : List Int)[(aq).toNat]? = some y := ⟨_, List.getElem?_eq_getElem (by omega)⟩
   have bZ := drop_at ay; have aH := List.mem_of_getElem? ay
   simp only [List.mem_cons, List.not_mem_nil, or_false] at aH
   obtain ⟨_, rfl, az⟩ := aw.elem ((aq).toNat) ax ay
   replace az : Has bE ⟨ah, 0 + ((aq).toNat) * Rep.sz Int, none⟩ [vI ax] := by rw [Nat.zero_add]; exact az
   refine .lh 0 az <| .r 1 <| .ss 0 (vI ax) J fun cr aP bv bw => ?_
   replace ⟨hD, af, E, C⟩ := (so [ah, W, O, b] aP).g4 hD af E C
   clear aP bw
   refine .d <| .ib 0 <| .s <| .g <| .ln bv <| .sc [vI ax, vI (ao - 6)] E fun b0 aA aR aS => ?_
   replace ⟨hD, af, C⟩ := (so [ah, W, O, b] aA).g3 hD af C
   clear aA aS
   exact .d <| .rb Tryz.func58 Tryz.results58 aR ⟨⟨((⟨ax, ao - 6⟩ : Row) : Row), ⟨_, rfl, rfl⟩, (by (unfold RowSm; dsimp only; omega))⟩, bF, by omega, af, C⟩
 refine .r 1 <| .d <| .cf <| .s <| .g <| .eq bn 1 (fun aT => ?_) (fun aT => ?_)
 · refine .r 1 <| .d <| .ct <| .g <| .ns 3 3 [vI (-99), vI 99, vI 100] fun Z aQ ai aB aU aV => ?_
   have bG := nb_new ai V.lt
   replace ⟨hD, V, E, J, C⟩ := (sn [W, O, b] aB ai).g5 hD V E J C
   clear aB aV ai
   have aj : Own (α := Int) aQ Z 3 (nin (ge w.heap.size) [Z, W, O, b]) 3 3 [(-99), 99, 100] := Own.lit aU rfl (by decide) ⟨rfl, rfl, rfl, rfl⟩
   refine .r 1 <| .cl (c_spec_l6Rd_pick 3 V (hD.toAll (.tail _ (.tail _ (.tail _ (.head _))))) (by omega) (w := aQ) (F := all)) ?_
   rintro b6 bz ⟨⟨ac, rfl, bH⟩, bA, bI, aa, aC⟩
   replace ⟨hD, E, J, aj, C⟩ := (so [Z, W, O, b] aC).g5 hD E J aj C
   clear aC
   have aW : (ac).toNat < 3 := (by omega)
   refine RG.idx (b := Z) (o := 0) ((ac).toNat) (len := 3) (i := ac) (sz := 1) (by kernel_rfl) (by omega) aW rfl ?_
   obtain ⟨ag, ak⟩ : ∃ y, ([(-99), 99, 100] : List Int)[(ac).toNat]? = some y := ⟨_, List.getElem?_eq_getElem (by omega)⟩
   have bJ := drop_at ak; have aD := List.mem_of_getElem? ak
   simp only [List.mem_cons, List.not_mem_nil, or_false] at aD
   obtain ⟨_, rfl, al⟩ := aj.elem ((ac).toNat) ag ak
   replace al : Has bz ⟨Z, 0 + ((ac).toNat) * Rep.sz Int, none⟩ [vI ag] := by rw [Nat.zero_add]; exact al
   refine .lh 0 al <| .r 1 <| .ss 1 (vI ag) J fun b7 aE aX aY => ?_
   replace ⟨hD, aa, E, C⟩ := (so [Z, W, O, b] aE).g4 hD aa E C
   clear aE aY
   refine .d <| .ib 0 <| .s <| .g <| .ln aX <| .sc [vI au, vI ag] E fun b8 aF aZ ba => ?_
   replace ⟨hD, aa, C⟩ := (so [Z, W, O, b] aF).g3 hD aa C
   clear aF ba
   exact .d <| .rb Tryz.func58 Tryz.results58 aZ ⟨⟨((⟨au, ag⟩ : Row) : Row), ⟨_, rfl, rfl⟩, (by (unfold RowSm; dsimp only; omega))⟩, bA, by omega, aa, C⟩
 refine .r 1 <| .d <| .cf <| .sk <| .ib 0 <| .s <| .g <| .ln J <| .sc [vI au, vI (ao - 6)] E fun b9 aG bc bd => ?_
 replace ⟨hD, V, C⟩ := (so [W, O, b] aG).g3 hD V C
 clear aG bd
 exact .d <| .rb Tryz.func58 Tryz.results58 bc ⟨⟨((⟨au, ao - 6⟩ : Row) : Row), ⟨_, rfl, rfl⟩, (by (unfold RowSm; dsimp only; omega))⟩, bD, by omega, V, C⟩
theorem c_spec_l71Tag  {w : World} {F : Nat → Prop} {b : Nat} {ad : Option Addr} {cd p : Nat} {D : List UInt8} (hr : Box w b 140 [.slice ad D.length cd, .int .i64 (p : Int)]) (hD : RepS w (nin all [b]) ad D.length cd D) (hp : p + 2 ≤ 1000000000)  : Calls Tryz.prog 131 [.pointer (some ⟨b, 0, none⟩)].toArray w (rets fun rv w' => (∃ (y : Tag), VS (ge w.heap.size) w' (y : Tag) rv ∧ TagD y) ∧ ∃ p' : Nat, p' ≤ p + 2 ∧ Box w' b 140 [.slice ad D.length cd, .int .i64 (p' : Int)] ∧ Chg (one b) w w') := by
 refine goT Tryz.func131 ?_
 have aF := hD.max
 refine .s <| .g <| .np 112 [.string (bs []), .string (bs [])] fun J aD V Z E ak => ?_
 have aG := nb_new V hr.lt
 have aH : Cov (one b) w J := cov_new V (Nat.le_refl _)
 replace ⟨hD, hr⟩ := (sn [b] Z V).g2 hD hr
 have C : Chg (one b) w aD := Chg.stepN (Chg.refl (one b) w) Z
 clear Z ak V
 refine .d <| .s <| .g <| .r 1 <| .ns 3 9 [.string (bs [97]), .string (bs [98]), .string (bs [99])] fun O al aa af am ao => ?_
 have aq := nb_new aa hr.lt
 replace ⟨hD, hr, E, C⟩ := (sn [J, b] af aa).g4 hD hr E C
 clear af ao aa
 have ar : Own (α := Txt) al O 9 (nin (ge w.heap.size) [O, J, b]) 3 3 [(⟨[97]⟩ : Txt), (⟨[98]⟩ : Txt), (⟨[99]⟩ : Txt)] := Own.lit am rfl (by decide) ⟨rfl, rfl, rfl, rfl⟩
 refine .cl (c_spec_l6Rd_of ([(⟨[97]⟩ : Txt), (⟨[98]⟩ : Txt), (⟨[99]⟩ : Txt)] : List Txt) hr (hD.toAll (.tail _ (.tail _ (.head _)))) (by omega) (ar.toAll (.tail _ (.tail _ (.head _))) aq) (by simp) (w := al) (F := all)) ?_
 rintro aM aN ⟨⟨au, rfl, aI⟩, aO, aJ, W, ag⟩
 replace ⟨hD, E, C⟩ := (so [O, J, b] ag).g3 hD E C
 clear ag
 refine .r 1 <| .ns 3 9 [.string (bs [112]), .string (bs [113]), .string (bs [122])] fun ae av ab ah aw ax => ?_
 have ay := nb_new ab W.lt
 replace ⟨hD, W, E, C⟩ := (sn [O, J, b] ah ab).g4 hD W E C
 clear ah ax ab
 have az : Own (α := Txt) av ae 9 (nin (ge w.heap.size) [ae, O, J, b]) 3 3 [(⟨[112]⟩ : Txt), (⟨[113]⟩ : Txt), (⟨[122]⟩ : Txt)] := Own.lit aw rfl (by decide) ⟨rfl, rfl, rfl, rfl⟩
 refine .cl (c_spec_l6Rd_of ([(⟨[112]⟩ : Txt), (⟨[113]⟩ : Txt), (⟨[122]⟩ : Txt)] : List Txt) W (hD.toAll (.tail _ (.tail _ (.tail _ (.head _))))) (by omega) (az.toAll (.tail _ (.tail _ (.tail _ (.head _)))) ay) (by simp) (w := av) (F := all)) ?_
 rintro aP aQ ⟨⟨aA, rfl, aK⟩, aE, aL, ac, ai⟩
 replace ⟨hD, E, C⟩ := (so [ae, O, J, b] ai).g3 hD E C
 clear ai
 refine .r 1 <| .sc [vT au, vT aA] E fun aR aj aB aC => ?_
 replace ⟨hD, ac, C⟩ := (so [ae, O, J, b] aj).g3 hD ac C
 clear aj aC
 exact .d <| .rb Tryz.func131 Tryz.results131 aB ⟨⟨((⟨au, aA⟩ : Tag) : Tag), ⟨_, rfl, rfl⟩, (by grind [TagD])⟩, aE, by omega, ac, C⟩
theorem c_spec_l71Name  {w : World} {F : Nat → Prop} {b : Nat} {ad : Option Addr} {cd p : Nat} {D : List UInt8} (hr : Box w b 140 [.slice ad D.length cd, .int .i64 (p : Int)]) (hD : RepS w (nin all [b]) ad D.length cd D) (hp : p + 20 ≤ 1000000000)  : Calls Tryz.prog 102 [.pointer (some ⟨b, 0, none⟩)].toArray w (rets fun rv w' => (∃ (y : List Tag), VL (ge w.heap.size) w' (y : List Tag) rv ∧ NmD y) ∧ ∃ p' : Nat, p' ≤ p + 20 ∧ Box w' b 140 [.slice ad D.length cd, .int .i64 (p' : Int)] ∧ Chg (one b) w w') := by
 refine goT Tryz.func102 ?_
 have eJ := hD.max
 refine .s <| .g <| .r 1 <| .d <| .s <| .g <| .ns 0 112 [] fun al dj aG bd dk dm => ?_
 have dp := nb_new aG hr.lt
 have dq := gb_new aG (Nat.le_refl _)
 have dr : Cov (one b) w al := cov_new aG (Nat.le_refl _)
 replace ⟨hD, hr⟩ := (sn [b] bd aG).g2 hD hr
 have C : Chg (one b) w dj := Chg.stepN (Chg.refl (one b) w) bd
 clear bd dm aG
 have aR : Own (α := Tag) dj al 112 (nin (ge w.heap.size) [al, b]) 0 0 [] := Own.nil' dk
 refine .r 1 <| .d <| .s <| .s <| .g <| .ns 3 9 [.string (bs [97]), .string (bs [98]), .string (bs [99])] fun O aX aS bT dt du => ?_
 have eK := nb_new aS hr.lt
 have dv := nb_new aS aR.lt
 replace ⟨hD, hr, aR, C⟩ := (sn [al, b] bT aS).g4 hD hr aR C
 clear bT du aS
 have E : Own (α := Txt) aX O 9 (nin (ge w.heap.size) [O, al, b]) 3 3 [(⟨[97]⟩ : Txt), (⟨[98]⟩ : Txt), (⟨[99]⟩ : Txt)] := Own.lit dt rfl (by decide) ⟨rfl, rfl, rfl, rfl⟩
 refine .r 2 <| .d <| .b 0 <| T.loop (X := (List Tag) × Nat × Nat × Nat × Nat × Nat) (([] : List Tag), al, 0, 0, 0, p) (fun (out, r_out, n_out, c_out, k, p_) => [(0, .pointer (some ⟨b, 0, none⟩)), (3, vS r_out n_out c_out), (7, vS O 3 3), (8, vI 3), (9, vI (k : Int))]) (fun (out, r_out, n_out, c_out, k, p_) aA => Chg (ins [al, b]) aX aA ∧ Own aA r_out 112 (nin (ge w.heap.size) [O, r_out, b]) n_out c_out out ∧ OrB r_out al aX.heap.size ∧ Box aA b 140 [.slice ad D.length cd, vI (p_ : Int)] ∧ (k ≤ 3) ∧ (out.length ≤ k) ∧ (∀ t ∈ out, TagD t) ∧ (p_ ≤ p + 2 * k)) (fun (out, r_out, n_out, c_out, k, p_) => 3 - k) (by kernel_rfl) ⟨by kernel_rfl, by kernel_rfl, by kernel_rfl, by kernel_rfl, by kernel_rfl, trivial⟩ ⟨Chg.refl _ _, aR, orb_refl, hr, (by simp), (by simp), (by simp), (by simp)⟩ ?_
 rintro ⟨out, r_out, n_out, c_out, k, p_⟩ fi aA ⟨Z, J, ak, bg, eL, eM, eN, eO⟩ aH
 have bU := nb_or' ak dp hr.lt
 have bV := nb_or' ak (Nb.symm dv) E.lt
 have aT := gb_or' ak dq C.size
 have dw := cov_or' ak dr C.size
 have dx : Cov (ins [al, b]) aX al := ⟨.inl (.head _)⟩
 have eP : Cov (ins [al, b]) aX b := ⟨.inl (.tail _ (.head _))⟩
 have eQ := cov_or' ak dx (Nat.le_refl _)
 have bW : Mv [O, al, b] [O, r_out, b] aX aA := Mv.inl Z (all_cons (.tail _ (.head _)) (all_cons (.tail _ (.tail _ (.head _))) all_nil)) (all_cons (.inl (.head _)) (all_cons (orb_mem ak (.tail _ (.head _))) (all_cons (.inl (.tail _ (.tail _ (.head _)))) all_nil)))
 replace ⟨hD, E, C⟩ := (sp bW Z).g3 hD E C
 clear bW
 have eR := J.len; have eS := J.max
 refine .s <| .g <| .bp ((k : Int) < 3) (fun dy => ?_) (fun dy => ?_)
 · refine .d <| .s <| .ct <| .sk <| .s <| .b 1 <| .s <| .g ?_
   have dz : k < 3 := (by omega)
   refine RG.idx (b := O) (o := 0) k (len := 3) (i := (k : Int)) (sz := 1) (by kernel_rfl) (by omega) dz rfl ?_
   obtain ⟨bh, bi⟩ : ∃ y, ([(⟨[97]⟩ : Txt), (⟨[98]⟩ : Txt), (⟨[99]⟩ : Txt)] : List Txt)[k]? = some y := ⟨_, List.getElem?_eq_getElem (by omega)⟩
   have eT := drop_at bi; have bS := List.mem_of_getElem? bi
   simp only [List.mem_cons, List.not_mem_nil, or_false] at bS
   obtain ⟨_, rfl, bj⟩ := E.elem k bh bi
   replace bj : Has aA ⟨O, 0 + k * Rep.sz Txt, none⟩ [vT bh.s] := by rw [Nat.zero_add]; exact bj
   refine .lh 0 bj <| .r 1 <| .d <| .s <| .g <| .r 1 <| .cl (c_spec_l6Rd_pick 2 bg (hD.toAll (.tail _ (.tail _ (.head _)))) (by omega) (w := aA) (F := all)) ?_
   rintro fj fk ⟨⟨d6, rfl, eU⟩, d7, eV, aI, bX⟩
   replace ⟨hD, J, E, C, Z⟩ := (so [O, r_out, b] bX).g5 hD J E C Z
   clear bX
   refine .eq d6 0 (fun dA => ?_) (fun dA => .d <| .cf <| .sk <| .ib 1 <| .g <| .it ((k : Int) + 1) <| .r 1 <| .d <| aH (out, r_out, n_out, c_out, k + 1, d7) _ _ ⟨by kernel_rfl, by kernel_rfl, by kernel_rfl, by kernel_rfl, by kernel_rfl, trivial⟩ ⟨Z, J, ak, aI, (by first | omega | (simp; omega) | grind [TagD]), (by first | omega | (simp; omega) | grind [TagD]), (by first | omega | (simp; omega) | grind [TagD]), (by first | omega | (simp; omega) | grind [TagD])⟩ (by first | omega | (simp only []; omega)))
   refine .d <| .ct <| .g <| .r 3 <| .ns 3 9 [.string (bs [112]), .string (bs [113]), .string (bs [122])] fun aL dB bk bY dC dD => ?_
   have dE := nb_new bk aI.lt
   replace ⟨hD, aI, J, E, C, Z⟩ := (sn [O, r_out, b] bY bk).g6 hD aI J E C Z
   clear bY dD bk
   have aU : Own (α := Txt) dB aL 9 (nin (ge w.heap.size) [aL, O, r_out, b]) 3 3 [(⟨[112]⟩ : Txt), (⟨[113]⟩ : Txt), (⟨[122]⟩ : Txt)] := Own.lit dC rfl (by decide) ⟨rfl, rfl, rfl, rfl⟩
   refine .cl (c_spec_l6Rd_of ([(⟨[112]⟩ : Txt), (⟨[113]⟩ : Txt), (⟨[122]⟩ : Txt)] : List Txt) aI (hD.toAll (.tail _ (.tail _ (.tail _ (.head _))))) (by omega) (aU.toAll (.tail _ (.tail _ (.tail _ (.head _)))) dE) (by simp) (w := dB) (F := all)) ?_
   rintro fl fm ⟨⟨co, rfl, eW⟩, d8, eX, ay, bZ⟩
   replace ⟨hD, J, E, aU, C, Z⟩ := (so [aL, O, r_out, b] bZ).g6 hD J E aU C Z
   clear bZ
   refine .r 1 <| .ns 1 112 [vT bh.s, vT co] fun dF fp az bm cp cq => ?_
   have cr := nb_new az ay.lt
   have bn := nb_new az J.lt
   have cu := nb_new az E.lt
   have cv := nb_new az aU.lt
   have cw := gb_new az C.size
   replace ⟨hD, ay, J, E, C, Z⟩ := (se [aL, O, r_out, b] bm).g6 hD ay J E C Z
   clear bm cq az
   have aY : nin (ge w.heap.size) [aL, O, r_out, b] dF ∧ dF ≠ r_out := hap_mk cw (all_cons cv (all_cons cu (all_cons bn (all_cons cr all_nil)))) bn
   refine RG.append1 (T := 31) (ty := 31) (y := (⟨bh.s, co⟩ : Tag)) J cp (by kernel_rfl) (by kernel_rfl) rfl aY (by omega) fun bo dG b0 ab aB bq => ?_
   have cx := orb_or aB ak Z.size
   replace ⟨hD, ay, E, C, Z⟩ := (sa [aL, O, r_out, b] bq aB).g5 hD ay E C Z
   clear bq
   replace ab := ab.rn r_out
   clear aB
   have d9 := ab.len; have ea := ab.max
   refine .r 1 <| .d <| .ib 1 <| .g <| .it ((k : Int) + 1) <| .r 1 <| .d ?_
   have cy : Mv [aL, O, bo, b] [O, bo, b] b0 b0 := Mv.less (all_cons (.tail _ (.head _)) (all_cons (.tail _ (.tail _ (.head _))) (all_cons (.tail _ (.tail _ (.tail _ (.head _)))) all_nil)))
   replace ⟨hD, ab, E⟩ := (sp cy (Chg.refl nil _)).g3 hD ab E
   exact aH ((out ++ [(⟨bh.s, co⟩ : Tag)]), bo, n_out + 1, dG, k + 1, d8) _ _ ⟨by kernel_rfl, by kernel_rfl, by kernel_rfl, by kernel_rfl, by kernel_rfl, trivial⟩ ⟨Z, ab, cx, ay, (by first | omega | (simp; omega) | grind [TagD]), (by first | omega | (simp; omega) | grind [TagD]), (by first | omega | (simp; omega) | grind [TagD]), (by first | omega | (simp; omega) | grind [TagD])⟩ (by first | omega | (simp only []; omega))
 refine .d <| .s <| .cf <| .x 0 rfl <| .s <| .s <| .g <| .r 2 <| .eq (n_out : Int) 0 (fun cz => ?_) (fun cz => ?_)
 · refine .d <| .ct <| .g <| .r 2 <| .cl (c_spec_l71Tag bg (hD.toAll (.tail _ (.tail _ (.head _)))) (by omega) (w := aA) (F := all)) ?_
   rintro eY eZ ⟨⟨am, ⟨_, rfl, rfl⟩, eb⟩, e0, ec, ac, br⟩
   replace ⟨hD, J, E, C⟩ := (so [O, r_out, b] br).g4 hD J E C
   clear br
   refine .ns 1 112 [vT am.key, vT am.val] fun b6 e7 ao bt cA cB => ?_
   have cC := nb_new ao ac.lt
   have bu := nb_new ao J.lt
   have cD := nb_new ao E.lt
   have cE := gb_new ao C.size
   replace ⟨hD, ac, J, E, C⟩ := (se [O, r_out, b] bt).g5 hD ac J E C
   clear bt cB ao
   have aZ : nin (ge w.heap.size) [O, r_out, b] b6 ∧ b6 ≠ r_out := hap_mk cE (all_cons cD (all_cons bu (all_cons cC all_nil))) bu
   refine RG.append1 (T := 31) (ty := 31) (y := am) J cA (by kernel_rfl) (by kernel_rfl) rfl aZ (by omega) fun W b7 dH V aa bv => ?_
   have cF := nb_or aa bU ac.lt
   have cG := nb_or aa bV E.lt
   have aM := gb_or aa aT C.size
   have ed := cov_or aa dw C.size
   replace ⟨hD, ac, E, C⟩ := (sa [O, r_out, b] bv aa).g4 hD ac E C
   clear bv
   replace V := V.rn r_out
   clear aa
   have ee := V.len; have ef := V.max
   refine .r 1 <| .d <| .s <| .s <| .g <| .r 1 <| .cl (c_spec_l6Rd_pick 40 ac (hD.toAll (.tail _ (.tail _ (.head _)))) (by omega) (w := dH) (F := all)) ?_
   rintro e8 b8 ⟨⟨b9, rfl, eg⟩, dI, eh, ai, bw⟩
   replace ⟨hD, V, E, C⟩ := (so [O, W, b] bw).g4 hD V E C
   clear bw
   refine .d <| .b 2 <| .s <| .g <| .eq b9 0 (fun cH => ?_) (fun cH => ?_)
   · refine .r 1 <| .d <| .ct <| .s <| .g <| .r 2 <| .cl (c_spec_l71Tag ai (hD.toAll (.tail _ (.tail _ (.head _)))) (by omega) (w := b8) (F := all)) ?_
     rintro e9 fa ⟨⟨aV, ⟨_, rfl, rfl⟩, ei⟩, dJ, ej, ae, bz⟩
     replace ⟨hD, V, E, C⟩ := (so [O, W, b] bz).g4 hD V E C
     clear bz
     refine .ns 1 112 [vT aV.key, vT aV.val] fun ce fb aq bA cI cJ => ?_
     have cK := nb_new aq ae.lt
     have bB := nb_new aq V.lt
     have cL := nb_new aq E.lt
     have cM := gb_new aq C.size
     replace ⟨hD, ae, V, E, C⟩ := (se [O, W, b] bA).g5 hD ae V E C
     clear bA cJ aq
     have ba : nin (ge w.heap.size) [O, W, b] ce ∧ ce ≠ W := hap_mk cM (all_cons cL (all_cons bB (all_cons cK all_nil))) bB
     refine RG.append1 (T := 31) (ty := 31) (y := aV) V cI (by kernel_rfl) (by kernel_rfl) rfl ba (by omega) fun bC dK dL ar ag bD => ?_
     have ek := nb_or ag cF ae.lt
     have em := nb_or ag cG E.lt
     have cN := gb_or ag aM C.size
     replace ⟨hD, ae, E, C⟩ := (sa [O, W, b] bD ag).g4 hD ae E C
     clear bD
     replace ar := ar.rn W
     clear ag
     have en := ar.len; have eo := ar.max
     refine .r 1 <| .d ?_
     have dM := ar.sl cN
     replace ⟨hD, E⟩ := (sd dL [O, bC, b] bC).g2 hD E
     exact .rt Tryz.func102 Tryz.results102 (vS bC (n_out + 1 + 1) dK) ⟨⟨(((out ++ [am]) ++ [aV]) : List Tag), (dM.vl (by rfl) (fun _ _ h => h.1)), (by first | (refine ⟨by simp; omega, ?_⟩; grind [TagD]) | grind [NmD])⟩, dJ, by omega, ae, C⟩
   refine .r 1 <| .d <| .cf <| .s <| .g <| .eq b9 1 (fun cO => ?_) (fun cO => ?_)
   · refine .r 1 <| .d <| .ct <| .g <| .r 2 <| .ns 3 9 [.string (bs []), .string (bs [111]), .string (bs [112, 112])] fun aJ cg aC bE cP cQ => ?_
     have cR := nb_new aC ai.lt
     have ep := nb_new aC V.lt
     replace ⟨hD, ai, V, E, C⟩ := (sn [O, W, b] bE aC).g5 hD ai V E C
     clear bE cQ aC
     have cS : Own (α := Txt) cg aJ 9 (nin (ge w.heap.size) [aJ, O, W, b]) 3 3 [(⟨[]⟩ : Txt), (⟨[111]⟩ : Txt), (⟨[112, 112]⟩ : Txt)] := Own.lit cP rfl (by decide) ⟨rfl, rfl, rfl, rfl⟩
     refine .cl (c_spec_l6Rd_of ([(⟨[]⟩ : Txt), (⟨[111]⟩ : Txt), (⟨[112, 112]⟩ : Txt)] : List Txt) ai (hD.toAll (.tail _ (.tail _ (.tail _ (.head _))))) (by omega) (cS.toAll (.tail _ (.tail _ (.tail _ (.head _)))) cR) (by simp) (w := cg) (F := all)) ?_
     rintro fc dN ⟨⟨bF, rfl, es⟩, dO, et, aN, bG⟩
     replace ⟨hD, V, E, C⟩ := (so [aJ, O, W, b] bG).g4 hD V E C
     clear bG
     have cT : 0 < n_out + 1 := (by omega)
     refine RG.idx (b := W) (o := 0) 0 (len := n_out + 1) (i := 0) (sz := 2) (by kernel_rfl) (by omega) cT rfl <| .r 1 ?_
     obtain ⟨au, aD⟩ : ∃ y, (out ++ [am])[0]? = some y := ⟨_, List.getElem?_eq_getElem (by omega)⟩
     have ew := drop_at aD; have dP := List.mem_of_getElem? aD
     obtain ⟨_, rfl, aO⟩ := V.elem 0 au aD
     replace aO : Has dN ⟨W, 0 + 0 * Rep.sz Tag, none⟩ [vT au.key, vT au.val] := by rw [Nat.zero_add]; exact aO
     refine RG.storeO (t' := 9) (i := 0) (k := 1) (v := vT bF) (cs := [vT au.key, vT au.val]) (⟨au.key, bF⟩ : Tag) V aD aO (by kernel_rfl) (by kernel_rfl) (by kernel_rfl) rfl fun dQ cU bH cV => ?_
     replace ⟨hD, aN, E, C⟩ := (so [aJ, O, W, b] bH).g4 hD aN E C
     clear bH cV
     refine .d <| .ib 2 <| .s <| .g <| .r 2 <| .d ?_
     have dR := cU.sl aM
     replace ⟨hD, E⟩ := (sd dQ [aJ, O, W, b] W).g2 hD E
     exact .rt Tryz.func102 Tryz.results102 (vS W (n_out + 1) b7) ⟨⟨(((out ++ [am]).set 0 (⟨au.key, bF⟩ : Tag)) : List Tag), (dR.vl (by rfl) (fun _ _ h => h.1)), (by first | (refine ⟨by simp; omega, ?_⟩; grind [TagD]) | grind [NmD])⟩, dO, by omega, aN, C⟩
   refine .r 1 <| .d <| .cf <| .sk <| .ib 2 <| .s <| .g <| .r 2 <| .d ?_
   have dS := V.sl aM
   replace ⟨hD, E⟩ := (sd b8 [O, W, b] W).g2 hD E
   exact .rt Tryz.func102 Tryz.results102 (vS W (n_out + 1) b7) ⟨⟨((out ++ [am]) : List Tag), (dS.vl (by rfl) (fun _ _ h => h.1)), (by first | (refine ⟨by simp; omega, ?_⟩; grind [TagD]) | grind [NmD])⟩, dI, by omega, ai, C⟩
 refine .d <| .cf <| .sk <| .s <| .s <| .g <| .r 1 <| .cl (c_spec_l6Rd_pick 40 bg (hD.toAll (.tail _ (.tail _ (.head _)))) (by omega) (w := aA) (F := all)) ?_
 rintro fd ci ⟨⟨cj, rfl, ex⟩, dT, ey, aj, bI⟩
 replace ⟨hD, J, E, C⟩ := (so [O, r_out, b] bI).g4 hD J E C
 clear bI
 refine .d <| .b 2 <| .s <| .g <| .eq cj 0 (fun cW => ?_) (fun cW => ?_)
 · refine .r 1 <| .d <| .ct <| .s <| .g <| .r 2 <| .cl (c_spec_l71Tag aj (hD.toAll (.tail _ (.tail _ (.head _)))) (by omega) (w := ci) (F := all)) ?_
   rintro fe ff ⟨⟨aW, ⟨_, rfl, rfl⟩, ez⟩, dU, eA, af, bJ⟩
   replace ⟨hD, J, E, C⟩ := (so [O, r_out, b] bJ).g4 hD J E C
   clear bJ
   refine .ns 1 112 [vT aW.key, vT aW.val] fun ck fg av bK cX cY => ?_
   have cZ := nb_new av af.lt
   have bL := nb_new av J.lt
   have c7 := nb_new av E.lt
   have c8 := gb_new av C.size
   replace ⟨hD, af, J, E, C⟩ := (se [O, r_out, b] bK).g5 hD af J E C
   clear bK cY av
   have bc : nin (ge w.heap.size) [O, r_out, b] ck ∧ ck ≠ r_out := hap_mk c8 (all_cons c7 (all_cons bL (all_cons cZ all_nil))) bL
   refine RG.append1 (T := 31) (ty := 31) (y := aW) J cX (by kernel_rfl) (by kernel_rfl) rfl bc (by omega) fun bM dV dW aw ah bN => ?_
   have eB := nb_or ah bU af.lt
   have eC := nb_or ah bV E.lt
   have c9 := gb_or ah aT C.size
   replace ⟨hD, af, C⟩ := (sa [O, r_out, b] bN ah).g3 hD af C
   clear bN
   replace aw := aw.rn r_out
   clear ah
   have eD := aw.len; have eE := aw.max
   refine .r 1 <| .d ?_
   have dX := aw.sl c9
   replace hD := (sd dW [O, bM, b] bM).g1 hD
   exact .rt Tryz.func102 Tryz.results102 (vS bM (n_out + 1) dV) ⟨⟨((out ++ [aW]) : List Tag), (dX.vl (by rfl) (fun _ _ h => h.1)), (by first | (refine ⟨by simp; omega, ?_⟩; grind [TagD]) | grind [NmD])⟩, dU, by omega, af, C⟩
 refine .r 1 <| .d <| .cf <| .s <| .g <| .eq cj 1 (fun da => ?_) (fun da => ?_)
 · refine .r 1 <| .d <| .ct <| .g <| .r 2 <| .ns 3 9 [.string (bs []), .string (bs [111]), .string (bs [112, 112])] fun aK cm aE bO db dd => ?_
   have de := nb_new aE aj.lt
   have eF := nb_new aE J.lt
   replace ⟨hD, aj, J, C⟩ := (sn [O, r_out, b] bO aE).g4 hD aj J C
   clear bO dd aE
   have df : Own (α := Txt) cm aK 9 (nin (ge w.heap.size) [aK, O, r_out, b]) 3 3 [(⟨[]⟩ : Txt), (⟨[111]⟩ : Txt), (⟨[112, 112]⟩ : Txt)] := Own.lit db rfl (by decide) ⟨rfl, rfl, rfl, rfl⟩
   refine .cl (c_spec_l6Rd_of ([(⟨[]⟩ : Txt), (⟨[111]⟩ : Txt), (⟨[112, 112]⟩ : Txt)] : List Txt) aj (hD.toAll (.tail _ (.tail _ (.tail _ (.head _))))) (by omega) (df.toAll (.tail _ (.tail _ (.tail _ (.head _)))) de) (by simp) (w := cm) (F := all)) ?_
   rintro fh dY ⟨⟨bP, rfl, eG⟩, dZ, eH, aP, bQ⟩
   replace ⟨hD, J, C⟩ := (so [aK, O, r_out, b] bQ).g3 hD J C
   clear bQ
   have dg : 0 < n_out := (by omega)
   refine RG.idx (b := r_out) (o := 0) 0 (len := n_out) (i := 0) (sz := 2) (by kernel_rfl) (by omega) dg rfl <| .r 1 ?_
   obtain ⟨ax, aF⟩ : ∃ y, out[0]? = some y := ⟨_, List.getElem?_eq_getElem (by omega)⟩
   have eI := drop_at aF; have d0 := List.mem_of_getElem? aF
   obtain ⟨_, rfl, aQ⟩ := J.elem 0 ax aF
   replace aQ : Has dY ⟨r_out, 0 + 0 * Rep.sz Tag, none⟩ [vT ax.key, vT ax.val] := by rw [Nat.zero_add]; exact aQ
   refine RG.storeO (t' := 9) (i := 0) (k := 1) (v := vT bP) (cs := [vT ax.key, vT ax.val]) (⟨ax.key, bP⟩ : Tag) J aF aQ (by kernel_rfl) (by kernel_rfl) (by kernel_rfl) rfl fun d3 dh bR di => ?_
   replace ⟨hD, aP, C⟩ := (so [aK, O, r_out, b] bR).g3 hD aP C
   clear bR di
   refine .d <| .ib 2 <| .s <| .g <| .r 2 <| .d ?_
   have d4 := dh.sl aT
   replace hD := (sd d3 [aK, O, r_out, b] r_out).g1 hD
   exact .rt Tryz.func102 Tryz.results102 (vS r_out n_out c_out) ⟨⟨((out.set 0 (⟨ax.key, bP⟩ : Tag)) : List Tag), (d4.vl (by rfl) (fun _ _ h => h.1)), (by first | (refine ⟨by simp; omega, ?_⟩; grind [TagD]) | grind [NmD])⟩, dZ, by omega, aP, C⟩
 refine .r 1 <| .d <| .cf <| .sk <| .ib 2 <| .s <| .g <| .r 2 <| .d ?_
 have d5 := J.sl aT
 replace hD := (sd ci [O, r_out, b] r_out).g1 hD
 exact .rt Tryz.func102 Tryz.results102 (vS r_out n_out c_out) ⟨⟨(out : List Tag), (d5.vl (by rfl) (fun _ _ h => h.1)), (by first | (refine ⟨by simp; omega, ?_⟩; grind [TagD]) | grind [NmD])⟩, dT, by omega, aj, C⟩
end Go.Proofs.YtfnpaglcnmcnbaaGreat
