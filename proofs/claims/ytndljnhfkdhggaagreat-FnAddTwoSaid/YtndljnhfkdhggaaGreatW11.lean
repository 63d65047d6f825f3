/- walks; squeezed -/
import Derived.Test.YtndljnhfkdhggaaGreatMod10
set_option linter.unusedVariables false
set_option linter.unusedSimpArgs false
namespace Go.Proofs.YtndljnhfkdhggaaGreat
set_option maxRecDepth 100000
set_option maxHeartbeats 4000000
theorem c_spec_l6Open (code : List UInt8) {w : World} {F : Nat → Prop} {a1 : Option Addr} {n1 c1 : Nat} (h1 : RepS w F a1 n1 c1 code)  : Calls Tryz.prog 11 [.slice a1 n1 c1].toArray w (rets fun rv w' => (∃ (D : List UInt8) (b : Nat) (a : Option Addr) (c : Nat), rv = .pointer (some ⟨b, 0, none⟩) ∧ w.heap.size ≤ b ∧ Box w' b 75 [.slice a D.length c, .int .i64 ((0 : Nat) : Int)] ∧ RepS w' (nin (fo F w.heap.size) [b]) a D.length c D) ∧ Ext w w') := by
 refine goT Tryz.func11 ?_
 obtain ⟨rfl, ao, h1⟩ := h1.tp
 refine .s <| .g <| .r 1 <| .d <| .s <| .s <| .g <| .r 2 <| .bp ((code.length : Int) > 2000) (fun Z => ?_) (fun Z => ?_)
 · refine .d <| .ct <| .g <| .r 1 <| RG.sub (t := 22) (lo := none) (hi := some (vI 2000)) h1 0 2000 (by kernel_rfl) (by kernel_rfl) (.inl ⟨rfl, rfl⟩) (.inr ⟨_, _, rfl, by omega⟩) (by omega) (by omega) fun aj ak C => ?_
   have aq := C.len; have ar := C.max
   refine .r 1 <| .d <| .s <| .g <| .r 2 <| .np 75 [.slice aj (2000 - 0) ak, vI 0] fun al au E J W aa => ?_
   have ab := gb_new E (Nat.le_refl _)
   replace ⟨h1, C⟩ := (sn [] J E).g2 h1 C
   have ac := J
   clear J aa E
   refine .r 1 <| .d ?_
   have ae := C.len; rw [ae] at C W
   exact .rt Tryz.func11 Tryz.results11 (.pointer (some ⟨al, 0, none⟩)) ⟨⟨_, _, _, _, rfl, ab, W, (RepS.toRd C (.head _))⟩, ac⟩
 refine .d <| .cf <| .sk <| .s <| .g <| .r 2 <| .np 75 [.slice a1 code.length c1, vI 0] fun am av O V af ag => ?_
 have ah := gb_new O (Nat.le_refl _)
 replace h1 := (sn [] V O).g1 h1
 have ai := V
 clear V ag O
 exact .r 1 <| .d <| .rt Tryz.func11 Tryz.results11 (.pointer (some ⟨am, 0, none⟩)) ⟨⟨_, _, _, _, rfl, ah, af, (RepS.toRd h1 (.head _))⟩, ai⟩
theorem c_spec_l6Rd_pick (n : Int) {w : World} {F : Nat → Prop} {b : Nat} {ad : Option Addr} {cd p : Nat} {D : List UInt8} (hr : Box w b 75 [.slice ad D.length cd, .int .i64 (p : Int)]) (hD : RepS w (nin all [b]) ad D.length cd D) (hp : p + 1 ≤ 1000000000)  : Calls Tryz.prog 32 [.pointer (some ⟨b, 0, none⟩), .int .i64 n].toArray w (rets fun rv w' => (∃ (y : Int), rv = .int .i64 (y) ∧ 0 ≤ y ∧ (y < n ∨ y = 0)) ∧ ∃ p' : Nat, p' ≤ p + 1 ∧ Box w' b 75 [.slice ad D.length cd, .int .i64 (p' : Int)] ∧ Chg (one b) w w') := by
 refine goT Tryz.func32 ?_
 have ay := hD.max
 refine .s <| .g <| .r 1 <| .d <| .s <| .g <| .r 4 <| .lb hr <| .it ((p : Int) + 1) <| .r 2 <| .ss 1 (vI ((p : Int) + 1)) hr fun ax W C aj => ?_
 replace hD := (so [b] W).g1 hD
 have O : Chg (one b) w ax := Chg.stepO (Chg.refl (one b) w) W (Cov.mk1 w b)
 clear W aj
 refine .d <| .s <| .s <| .g <| .r 1 <| .bp (n < 1) (fun ak => .r 8 <| .d <| .ct <| .s <| .g <| .r 1 <| .d <| .rt Tryz.func32 Tryz.results32 (vI 0) ⟨⟨(0 : Int), (congrArg (Value.int .i64) (by rfl)), (by first | omega | exact tm_lt (by omega) (by assumption))⟩, p + 1, by omega, C, O⟩) fun ak => .r 4 <| .lb C <| .r 1 <| .eq (D.length : Int) 0 (fun al => .r 1 <| .d <| .ct <| .s <| .g <| .r 1 <| .d <| .rt Tryz.func32 Tryz.results32 (vI 0) ⟨⟨(0 : Int), (congrArg (Value.int .i64) (by rfl)), (by first | omega | exact tm_lt (by omega) (by assumption))⟩, p + 1, by omega, C, O⟩) fun al => .r 1 <| .d <| .cf <| .sk <| .s <| .g <| .r 3 <| .lb C <| .it (((p : Int) + 1) - 1) <| .r 1 <| .d <| .s <| .s <| .g <| .r 4 <| .lb C <| .r 1 <| .bp (((p : Int) + 1) - 1 < (D.length : Int)) (fun am => ?_) (fun am => ?_)
 · refine .d <| .ct <| .s <| .g <| .r 3 <| .lb C <| .r 1 ?_
   have ac : (((p : Int) + 1) - 1).toNat < D.length := (by first | omega | exact tm_idx (by omega) (by omega) | exact tm_nat (by omega))
   refine RG.idx ((((p : Int) + 1) - 1).toNat) (len := D.length) (i := ((p : Int) + 1) - 1) (sz := 1) (by kernel_rfl) (by first | omega | exact tm_idx (by omega) (by omega) | exact tm_nat (by omega)) ac (hD.addr (Nat.zero_lt_of_lt ac)) ?_
   obtain ⟨V, Z⟩ : ∃ y, D[(((p : Int) + 1) - 1).toNat]? = some y := ⟨_, List.getElem?_eq_getElem (by first | omega | exact tm_idx (by omega) (by omega) | exact tm_nat (by omega))⟩
   have az := drop_at Z; have au := List.mem_of_getElem? Z
   have aA := UInt8.toNat_lt V
   obtain ⟨_, rfl, ao⟩ := hD.elem ((((p : Int) + 1) - 1).toNat) V Z
   exact .lh 0 ao <| .it ((V.toNat : Int)) <| .r 1 <| RG.rem (t := 3) (k := .i64) (a := (V.toNat : Int)) (b := n) (by kernel_rfl) (by omega) <| .r 1 <| .d <| .rt Tryz.func32 Tryz.results32 (vI (Int.tmod (V.toNat : Int) n)) ⟨⟨((Int.tmod (V.toNat : Int) n) : Int), (congrArg (Value.int .i64) (by rfl)), (by first | omega | exact tm_lt (by omega) (by assumption))⟩, p + 1, by omega, C, O⟩
 refine .d <| .cf <| .sk <| .s <| .gd nil 44 fun aI ae => ?_
 replace ⟨hD, C, O⟩ := (se [b] ae).g3 hD C O
 clear ae
 refine .r [0, 1, 2] <| .lb 3 C id <| .r [4, 5, 6, 7] <| .lb 8 C id <| .r [9] <| GA.rem (i := 10) (t := 3) (k := .i64) (a := ((p : Int) + 1) - 1) (b := (D.length : Int)) (by kernel_rfl) (by kernel_rfl) (by omega) ?_
 have af : ((Int.tmod (((p : Int) + 1) - 1) (D.length : Int))).toNat < D.length := (by first | omega | exact tm_idx (by omega) (by omega) | exact tm_nat (by omega))
 refine GA.idx (i := 11) (((Int.tmod (((p : Int) + 1) - 1) (D.length : Int))).toNat) (len := D.length) (z := (Int.tmod (((p : Int) + 1) - 1) (D.length : Int))) (sz := 1) (by kernel_rfl) (by first | omega | exact tm_idx (by omega) (by omega) | exact tm_nat (by omega)) af (hD.addr (Nat.zero_lt_of_lt af)) ?_
 obtain ⟨E, aa⟩ : ∃ y, D[((Int.tmod (((p : Int) + 1) - 1) (D.length : Int))).toNat]? = some y := ⟨_, List.getElem?_eq_getElem (by first | omega | exact tm_idx (by omega) (by omega) | exact tm_nat (by omega))⟩
 have aB := drop_at aa; have av := List.mem_of_getElem? aa
 have aC := UInt8.toNat_lt E
 obtain ⟨_, rfl, aq⟩ := hD.elem (((Int.tmod (((p : Int) + 1) - 1) (D.length : Int))).toNat) E aa
 refine .lh 12 0 aq id <| GA.int (i := 13) ((E.toNat : Int)) (by kernel_rfl) (by omega) <| GA.int (i := 14) ((E.toNat : Int) * 131) (by kernel_rfl) (by omega) <| .r [15, 16, 17] <| .lb 18 C id <| .r [19] <| GA.int (i := 20) ((((p : Int) + 1) - 1) * 7) (by kernel_rfl) (by omega) <| GA.int (i := 21) ((((p : Int) + 1) - 1) * 7 + 3) (by kernel_rfl) (by omega) <| .r [22, 23, 24] <| .lb 25 C id <| .r [26] <| GA.rem (i := 27) (t := 3) (k := .i64) (a := (((p : Int) + 1) - 1) * 7 + 3) (b := (D.length : Int)) (by kernel_rfl) (by kernel_rfl) (by omega) ?_
 have ag : ((Int.tmod ((((p : Int) + 1) - 1) * 7 + 3) (D.length : Int))).toNat < D.length := (by first | omega | exact tm_idx (by omega) (by omega) | exact tm_nat (by omega))
 refine GA.idx (i := 28) (((Int.tmod ((((p : Int) + 1) - 1) * 7 + 3) (D.length : Int))).toNat) (len := D.length) (z := (Int.tmod ((((p : Int) + 1) - 1) * 7 + 3) (D.length : Int))) (sz := 1) (by kernel_rfl) (by first | omega | exact tm_idx (by omega) (by omega) | exact tm_nat (by omega)) ag (hD.addr (Nat.zero_lt_of_lt ag)) ?_
 obtain ⟨J, ab⟩ : ∃ y, D[((Int.tmod ((((p : Int) + 1) - 1) * 7 + 3) (D.length : Int))).toNat]? = some y := ⟨_, List.getElem?_eq_getElem (by first | omega | exact tm_idx (by omega) (by omega) | exact tm_nat (by omega))⟩
 have aD := drop_at ab; have aw := List.mem_of_getElem? ab
 have aE := UInt8.toNat_lt J
 obtain ⟨_, rfl, ar⟩ := hD.elem (((Int.tmod ((((p : Int) + 1) - 1) * 7 + 3) (D.length : Int))).toNat) J ab
 refine .lh 29 0 ar id <| GA.int (i := 30) ((J.toNat : Int)) (by kernel_rfl) (by omega) <| GA.int (i := 31) ((J.toNat : Int) * 1117) (by kernel_rfl) (by omega) <| GA.int (i := 32) ((E.toNat : Int) * 131 + ((J.toNat : Int) * 1117)) (by kernel_rfl) (by omega) <| .r [33] <| GA.int (i := 34) ((((p : Int) + 1) - 1) * 29) (by kernel_rfl) (by omega) <| GA.int (i := 35) ((E.toNat : Int) * 131 + ((J.toNat : Int) * 1117) + ((((p : Int) + 1) - 1) * 29)) (by kernel_rfl) (by omega) <| .r [36, 37, 38, 39] <| .lb 40 C id <| .r [41] ?_
 have aF := td_le (a := ((p : Int) + 1) - 1) (n := (D.length : Int)) (by omega) (by omega)
 refine GA.quo (i := 42) (t := 3) (a := ((p : Int) + 1) - 1) (b := (D.length : Int)) (by kernel_rfl) (by kernel_rfl) (by omega) (by omega) <| GA.int (i := 43) ((Int.tdiv (((p : Int) + 1) - 1) (D.length : Int)) * 53) (by kernel_rfl) (by omega) <| .d fun aJ ah => ?_
 replace ⟨hD, C, O⟩ := (se [b] ah).g3 hD C O
 clear ah
 refine .it ((E.toNat : Int) * 131 + ((J.toNat : Int) * 1117) + ((((p : Int) + 1) - 1) * 29) + ((Int.tdiv (((p : Int) + 1) - 1) (D.length : Int)) * 53)) <| .r 1 <| .d <| .s <| .g <| .r 2 ?_
 have aG := td_le (a := (E.toNat : Int) * 131 + ((J.toNat : Int) * 1117) + ((((p : Int) + 1) - 1) * 29) + ((Int.tdiv (((p : Int) + 1) - 1) (D.length : Int)) * 53)) (n := 64) (by omega) (by omega)
 refine RG.quo (t := 3) (a := (E.toNat : Int) * 131 + ((J.toNat : Int) * 1117) + ((((p : Int) + 1) - 1) * 29) + ((Int.tdiv (((p : Int) + 1) - 1) (D.length : Int)) * 53)) (b := 64) (by kernel_rfl) (by omega) (by omega) <| RG.xor (t := 3) (a := (E.toNat : Int) * 131 + ((J.toNat : Int) * 1117) + ((((p : Int) + 1) - 1) * 29) + ((Int.tdiv (((p : Int) + 1) - 1) (D.length : Int)) * 53)) (b := (Int.tdiv ((E.toNat : Int) * 131 + ((J.toNat : Int) * 1117) + ((((p : Int) + 1) - 1) * 29) + ((Int.tdiv (((p : Int) + 1) - 1) (D.length : Int)) * 53)) 64)) (by kernel_rfl) (by omega) (by omega) ?_
 obtain ⟨ai, aH, hz51e⟩ : ∃ z : Nat, z < 4611686018427387904 ∧ ((((E.toNat : Int) * 131 + ((J.toNat : Int) * 1117) + ((((p : Int) + 1) - 1) * 29) + ((Int.tdiv (((p : Int) + 1) - 1) (D.length : Int)) * 53)).toNat ^^^ ((Int.tdiv ((E.toNat : Int) * 131 + ((J.toNat : Int) * 1117) + ((((p : Int) + 1) - 1) * 29) + ((Int.tdiv (((p : Int) + 1) - 1) (D.length : Int)) * 53)) 64)).toNat : Nat) : Int) = (z : Int) := ⟨_, (xor_nat (by omega) (by omega)).2, rfl⟩
 rw [hz51e]
 exact .r 1 <| .d <| .s <| .g <| .r 2 <| RG.rem (t := 3) (k := .i64) (a := (ai : Int)) (b := n) (by kernel_rfl) (by omega) <| .r 1 <| .d <| .rt Tryz.func32 Tryz.results32 (vI (Int.tmod (ai : Int) n)) ⟨⟨((Int.tmod (ai : Int) n) : Int), (congrArg (Value.int .i64) (by rfl)), (by first | omega | exact tm_lt (by omega) (by assumption))⟩, p + 1, by omega, C, O⟩
theorem c_spec_l6Rd_of (list : List Txt) {w : World} {F : Nat → Prop} {b : Nat} {ad : Option Addr} {cd p : Nat} {D : List UInt8} (hr : Box w b 75 [.slice ad D.length cd, .int .i64 (p : Int)]) (hD : RepS w (nin all [b]) ad D.length cd D) (hp : p + 1 ≤ 1000000000) {a1 : Option Addr} {n1 c1 : Nat} (h1 : RepS w (nin F [b]) a1 n1 c1 list) (p0 : 0 < list.length) : Calls Tryz.prog 35 [.pointer (some ⟨b, 0, none⟩), .slice a1 n1 c1].toArray w (rets fun rv w' => (∃ (y : Str), rv = .string (bs (y)) ∧ (⟨y⟩ : Txt) ∈ list) ∧ ∃ p' : Nat, p' ≤ p + 1 ∧ Box w' b 75 [.slice ad D.length cd, .int .i64 (p' : Int)] ∧ Chg (one b) w w') := by
 refine goT Tryz.func35 ?_
 have af := hD.max
 obtain rfl := h1.len
 replace h1 := h1.topR (s := w.heap.size)
 have ag := h1.max
 refine .s <| .g <| .r 1 <| .d <| .s <| .g <| .r 4 <| .cl (c_spec_l6Rd_pick (list.length : Int) hr (hD.toAll (.head _)) (by omega) (w := w) (F := all)) ?_
 rintro ak ac ⟨⟨C, rfl, ah⟩, ae, ai, W, E⟩
 replace ⟨hD, h1⟩ := (so [b] E).g2 hD h1
 have Z : Chg (one b) w ac := Chg.stepO (Chg.refl (one b) w) E (Cov.mk1 w b)
 clear E
 have O : (C).toNat < list.length := (by omega)
 refine RG.idx ((C).toNat) (len := list.length) (i := C) (sz := 1) (by kernel_rfl) (by omega) O (h1.addr (Nat.zero_lt_of_lt O)) ?_
 obtain ⟨V, J⟩ : ∃ y, list[(C).toNat]? = some y := ⟨_, List.getElem?_eq_getElem (by omega)⟩
 have aj := drop_at J; have ab := List.mem_of_getElem? J
 obtain ⟨_, rfl, aa⟩ := h1.elem ((C).toNat) V J
 exact .lh 0 aa <| .r 1 <| .d <| .rt Tryz.func35 Tryz.results35 (vT V.s) ⟨⟨(V.s : Str), (congrArg (fun s => Value.string (bs s)) (by rfl)), (by assumption)⟩, ae, by omega, W, Z⟩
theorem c_spec_l71Row  {w : World} {F : Nat → Prop} {b : Nat} {ad : Option Addr} {cd p : Nat} {D : List UInt8} (hr : Box w b 75 [.slice ad D.length cd, .int .i64 (p : Int)]) (hD : RepS w (nin all [b]) ad D.length cd D) (hp : p + 4 ≤ 1000000000)  : Calls Tryz.prog 14 [.pointer (some ⟨b, 0, none⟩)].toArray w (rets fun rv w' => (∃ (y : Row), VS (ge w.heap.size) w' (y : Row) rv ∧ RowSm y) ∧ ∃ p' : Nat, p' ≤ p + 4 ∧ Box w' b 75 [.slice ad D.length cd, .int .i64 (p' : Int)] ∧ Chg (one b) w w') := by
 refine goT Tryz.func14 ?_
 have bJ := hD.max
 refine .s <| .g <| .np 33 [vI 0, vI 0] fun O bd am ar E bg => ?_
 have bK := nb_new am hr.lt
 have bL : Cov (one b) w O := cov_new am (Nat.le_refl _)
 replace ⟨hD, hr⟩ := (sn [b] ar am).g2 hD hr
 have C : Chg (one b) w bd := Chg.stepN (Chg.refl (one b) w) ar
 clear ar bg am
 refine .d <| .s <| .g <| .r 1 <| .cl (c_spec_l6Rd_pick 40 hr (hD.toAll (.tail _ (.head _))) (by omega) (w := bd) (F := all)) ?_
 rintro b9 bA ⟨⟨au, rfl, bM⟩, ce, bN, bh, aI⟩
 replace ⟨hD, E, C⟩ := (so [O, b] aI).g3 hD E C
 clear aI
 refine .r 1 <| .cl (c_spec_l6Rd_pick 20 bh (hD.toAll (.tail _ (.head _))) (by omega) (w := bA) (F := all)) ?_
 rintro cg ci ⟨⟨ao, rfl, bO⟩, cj, bP, ab, aJ⟩
 replace ⟨hD, E, C⟩ := (so [O, b] aJ).g3 hD E C
 clear aJ
 refine .it (ao - 6) <| .r 1 <| .np 33 [vI 0, vI 0] fun W ck ae aK bi bj => ?_
 have bQ := nb_new ae ab.lt
 have bR := nb_new ae E.lt
 have bS := C.cn ae
 replace ⟨hD, ab, E, C⟩ := (sn [O, b] aK ae).g4 hD ab E C
 clear aK bj ae
 refine .sc [vI au, vI (ao - 6)] bi fun bB aL J bk => ?_
 replace ⟨hD, ab, E, C⟩ := (so [W, O, b] aL).g4 hD ab E C
 clear aL bk
 refine .d <| .s <| .s <| .g <| .r 1 <| .cl (c_spec_l6Rd_pick 40 ab (hD.toAll (.tail _ (.tail _ (.head _)))) (by omega) (w := bB) (F := all)) ?_
 rintro cm co ⟨⟨bm, rfl, bT⟩, bC, bU, V, aM⟩
 replace ⟨hD, E, J, C⟩ := (so [W, O, b] aM).g4 hD E J C
 clear aM
 refine .d <| .b 0 <| .s <| .g <| .eq bm 0 (fun bn => ?_) (fun bn => ?_)
 · refine .r 1 <| .d <| .ct <| .g <| .ns 3 3 [vI (-1), vI 99, vI 100] fun ah bo av aN bq br => ?_
   have bV := nb_new av V.lt
   replace ⟨hD, V, E, J, C⟩ := (sn [W, O, b] aN av).g5 hD V E J C
   clear aN br av
   have aw : Own (α := Int) bo ah 3 (nin (ge w.heap.size) [ah, W, O, b]) 3 3 [(-1), 99, 100] := Own.lit bq rfl (by decide) ⟨rfl, rfl, rfl, rfl⟩
   refine .r 1 <| .cl (c_spec_l6Rd_pick 3 V (hD.toAll (.tail _ (.tail _ (.tail _ (.head _))))) (by omega) (w := bo) (F := all)) ?_
   rintro cp bD ⟨⟨aq, rfl, bW⟩, bE, bX, af, aO⟩
   replace ⟨hD, E, J, aw, C⟩ := (so [ah, W, O, b] aO).g5 hD E J aw C
   clear aO
   have bt : (aq).toNat < 3 := (by omega)
   refine RG.idx (b := ah) (o := 0) ((aq).toNat) (len := 3) (i := aq) (sz := 1) (by kernel_rfl) (by omega) bt rfl ?_
   obtain ⟨ax, ay⟩ : ∃ y, ([(-1), 99, 100] : List Int)[(aq).toNat]? = some y := ⟨_, List.getElem?_eq_getElem (by omega)⟩
   have bY := drop_at ay; have aH := List.mem_of_getElem? ay
   simp only [List.mem_cons, List.not_mem_nil, or_false] at aH
   obtain ⟨_, rfl, az⟩ := aw.elem ((aq).toNat) ax ay
   replace az : Has bD ⟨ah, 0 + ((aq).toNat) * Rep.sz Int, none⟩ [vI ax] := by rw [Nat.zero_add]; exact az
   refine .lh 0 az <| .r 1 <| .ss 0 (vI ax) J fun cq aP bu bv => ?_
   replace ⟨hD, af, E, C⟩ := (so [ah, W, O, b] aP).g4 hD af E C
   clear aP bv
   refine .d <| .ib 0 <| .s <| .g <| .ln bu <| .sc [vI ax, vI (ao - 6)] E fun bZ aA aR aS => ?_
   replace ⟨hD, af, C⟩ := (so [ah, W, O, b] aA).g3 hD af C
   clear aA aS
   exact .d <| .rb Tryz.func14 Tryz.results14 aR ⟨⟨((⟨ax, ao - 6⟩ : Row) : Row), ⟨_, rfl, rfl⟩, (by (unfold RowSm; dsimp only; omega))⟩, bE, by omega, af, C⟩
 refine .r 1 <| .d <| .cf <| .s <| .g <| .eq bm 1 (fun aT => ?_) (fun aT => ?_)
 · refine .r 1 <| .d <| .ct <| .g <| .ns 3 3 [vI (-99), vI 99, vI 100] fun Z aQ ai aB aU aV => ?_
   have bF := nb_new ai V.lt
   replace ⟨hD, V, E, J, C⟩ := (sn [W, O, b] aB ai).g5 hD V E J C
   clear aB aV ai
   have aj : Own (α := Int) aQ Z 3 (nin (ge w.heap.size) [Z, W, O, b]) 3 3 [(-99), 99, 100] := Own.lit aU rfl (by decide) ⟨rfl, rfl, rfl, rfl⟩
   refine .r 1 <| .cl (c_spec_l6Rd_pick 3 V (hD.toAll (.tail _ (.tail _ (.tail _ (.head _))))) (by omega) (w := aQ) (F := all)) ?_
   rintro b0 bw ⟨⟨ac, rfl, bG⟩, bz, bH, aa, aC⟩
   replace ⟨hD, E, J, aj, C⟩ := (so [Z, W, O, b] aC).g5 hD E J aj C
   clear aC
   have aW : (ac).toNat < 3 := (by omega)
   refine RG.idx (b := Z) (o := 0) ((ac).toNat) (len := 3) (i := ac) (sz := 1) (by kernel_rfl) (by omega) aW rfl ?_
   obtain ⟨ag, ak⟩ : ∃ y, ([(-99), 99, 100] : List Int)[(ac).toNat]? = some y := ⟨_, List.getElem?_eq_getElem (by omega)⟩
   have bI := drop_at ak; have aD := List.mem_of_getElem? ak
   simp only [List.mem_cons, List.not_mem_nil, or_false] at aD
   obtain ⟨_, rfl, al⟩ := aj.elem ((ac).toNat) ag ak
   replace al : Has bw ⟨Z, 0 + ((ac).toNat) * Rep.sz Int, none⟩ [vI ag] := by rw [Nat.zero_add]; exact al
   refine .lh 0 al <| .r 1 <| .ss 1 (vI ag) J fun b6 aE aX aY => ?_
   replace ⟨hD, aa, E, C⟩ := (so [Z, W, O, b] aE).g4 hD aa E C
   clear aE aY
   refine .d <| .ib 0 <| .s <| .g <| .ln aX <| .sc [vI au, vI ag] E fun b7 aF aZ ba => ?_
   replace ⟨hD, aa, C⟩ := (so [Z, W, O, b] aF).g3 hD aa C
   clear aF ba
   exact .d <| .rb Tryz.func14 Tryz.results14 aZ ⟨⟨((⟨au, ag⟩ : Row) : Row), ⟨_, rfl, rfl⟩, (by (unfold RowSm; dsimp only; omega))⟩, bz, by omega, aa, C⟩
 refine .r 1 <| .d <| .cf <| .sk <| .ib 0 <| .s <| .g <| .ln J <| .sc [vI au, vI (ao - 6)] E fun b8 aG bb bc => ?_
 replace ⟨hD, V, C⟩ := (so [W, O, b] aG).g3 hD V C
 clear aG bc
 exact .d <| .rb Tryz.func14 Tryz.results14 bb ⟨⟨((⟨au, ao - 6⟩ : Row) : Row), ⟨_, rfl, rfl⟩, (by (unfold RowSm; dsimp only; omega))⟩, bC, by omega, V, C⟩
theorem c_spec_l71Tag  {w : World} {F : Nat → Prop} {b : Nat} {ad : Option Addr} {cd p : Nat} {D : List UInt8} (hr : Box w b 75 [.slice ad D.length cd, .int .i64 (p : Int)]) (hD : RepS w (nin all [b]) ad D.length cd D) (hp : p + 2 ≤ 1000000000)  : Calls Tryz.prog 70 [.pointer (some ⟨b, 0, none⟩)].toArray w (rets fun rv w' => (∃ (y : Tag), VS (ge w.heap.size) w' (y : Tag) rv ∧ TagD y) ∧ ∃ p' : Nat, p' ≤ p + 2 ∧ Box w' b 75 [.slice ad D.length cd, .int .i64 (p' : Int)] ∧ Chg (one b) w w') := by
 refine goT Tryz.func70 ?_
 have aF := hD.max
 refine .s <| .g <| .np 87 [.string (bs []), .string (bs [])] fun J aD V Z E ak => ?_
 have aG := nb_new V hr.lt
 have aH : Cov (one b) w J := cov_new V (Nat.le_refl _)
 replace ⟨hD, hr⟩ := (sn [b] Z V).g2 hD hr
 have C : Chg (one b) w aD := Chg.stepN (Chg.refl (one b) w) Z
 clear Z ak V
 refine .d <| .s <| .g <| .r 1 <| .ns 3 9 [.string (bs [97]), .string (bs [98]), .string (bs [99])] fun O al aa af am ao => ?_
 have aq := nb_new aa hr.lt
 replace ⟨hD, hr, E, C⟩ := (sn [J, b] af aa).g4 hD hr E C
 clear af ao aa
 have ar : Own (α := Txt) al O 9 (nin (ge w.heap.size) [O, J, b]) 3 3 [(⟨[97]⟩ : Txt), (⟨[98]⟩ : Txt), (⟨[99]⟩ : Txt)] := Own.lit am rfl (by decide) ⟨rfl, rfl, rfl, rfl⟩
 refine .cl (c_spec_l6Rd_of ([(⟨[97]⟩ : Txt), (⟨[98]⟩ : Txt), (⟨[99]⟩ : Txt)] : List Txt) hr (hD.toAll (.tail _ (.tail _ (.head _)))) (by omega) (ar.toAll (.tail _ (.tail _ (.head _))) aq) (by simp) (w := al) (F := all)) ?_
 rintro aM aN ⟨⟨au, rfl, aI⟩, aO, aJ, W, ag⟩
 replace ⟨hD, E, C⟩ := (so [O, J, b] ag).g3 hD E C
 clear ag
 refine .r 1 <| .ns 3 9 [.string (bs [112]), .string (bs [113]), .string (bs [122])] fun ae av ab ah aw ax => ?_
 have ay := nb_new ab W.lt
 replace ⟨hD, W, E, C⟩ := (sn [O, J, b] ah ab).g4 hD W E C
 clear ah ax ab
 have az : Own (α := Txt) av ae 9 (nin (ge w.heap.size) [ae, O, J, b]) 3 3 [(⟨[112]⟩ : Txt), (⟨[113]⟩ : Txt), (⟨[122]⟩ : Txt)] := Own.lit aw rfl (by decide) ⟨rfl, rfl, rfl, rfl⟩
 refine .cl (c_spec_l6Rd_of ([(⟨[112]⟩ : Txt), (⟨[113]⟩ : Txt), (⟨[122]⟩ : Txt)] : List Txt) W (hD.toAll (.tail _ (.tail _ (.tail _ (.head _))))) (by omega) (az.toAll (.tail _ (.tail _ (.tail _ (.head _)))) ay) (by simp) (w := av) (F := all)) ?_
 rintro aP aQ ⟨⟨aA, rfl, aK⟩, aE, aL, ac, ai⟩
 replace ⟨hD, E, C⟩ := (so [ae, O, J, b] ai).g3 hD E C
 clear ai
 refine .r 1 <| .sc [vT au, vT aA] E fun aR aj aB aC => ?_
 replace ⟨hD, ac, C⟩ := (so [ae, O, J, b] aj).g3 hD ac C
 clear aj aC
 exact .d <| .rb Tryz.func70 Tryz.results70 aB ⟨⟨((⟨au, aA⟩ : Tag) : Tag), ⟨_, rfl, rfl⟩, (by grind [TagD])⟩, aE, by omega, ac, C⟩
theorem c_spec_l71Name  {w : World} {F : Nat → Prop} {b : Nat} {ad : Option Addr} {cd p : Nat} {D : List UInt8} (hr : Box w b 75 [.slice ad D.length cd, .int .i64 (p : Int)]) (hD : RepS w (nin all [b]) ad D.length cd D) (hp : p + 20 ≤ 1000000000)  : Calls Tryz.prog 33 [.pointer (some ⟨b, 0, none⟩)].toArray w (rets fun rv w' => (∃ (y : List Tag), VL (ge w.heap.size) w' (y : List Tag) rv ∧ NmD y) ∧ ∃ p' : Nat, p' ≤ p + 20 ∧ Box w' b 75 [.slice ad D.length cd, .int .i64 (p' : Int)] ∧ Chg (one b) w w') := by
 refine goT Tryz.func33 ?_
 have eI := hD.max
 refine .s <| .g <| .r 1 <| .d <| .s <| .g <| .ns 0 87 [] fun al di aG bc dj dk => ?_
 have dm := nb_new aG hr.lt
 have dp := gb_new aG (Nat.le_refl _)
 have dq : Cov (one b) w al := cov_new aG (Nat.le_refl _)
 replace ⟨hD, hr⟩ := (sn [b] bc aG).g2 hD hr
 have C : Chg (one b) w di := Chg.stepN (Chg.refl (one b) w) bc
 clear bc dk aG
 have aR : Own (α := Tag) di al 87 (nin (ge w.heap.size) [al, b]) 0 0 [] := Own.nil' dj
 refine .r 1 <| .d <| .s <| .s <| .g <| .ns 3 9 [.string (bs [97]), .string (bs [98]), .string (bs [99])] fun O aX aS bS dr dt => ?_
 have eJ := nb_new aS hr.lt
 have du := nb_new aS aR.lt
 replace ⟨hD, hr, aR, C⟩ := (sn [al, b] bS aS).g4 hD hr aR C
 clear bS dt aS
 have E : Own (α := Txt) aX O 9 (nin (ge w.heap.size) [O, al, b]) 3 3 [(⟨[97]⟩ : Txt), (⟨[98]⟩ : Txt), (⟨[99]⟩ : Txt)] := Own.lit dr rfl (by decide) ⟨rfl, rfl, rfl, rfl⟩
 refine .r 2 <| .d <| .b 0 <| T.loop (X := (List Tag) × Nat × Nat × Nat × Nat × Nat) (([] : List Tag), al, 0, 0, 0, p) (fun (out, r_out, n_out, c_out, k, p_) => [(0, .pointer (some ⟨b, 0, none⟩)), (3, vS r_out n_out c_out), (7, vS O 3 3), (8, vI 3), (9, vI (k : Int))]) (fun (out, r_out, n_out, c_out, k, p_) aA => Chg (ins [al, b]) aX aA ∧ Own aA r_out 87 (nin (ge w.heap.size) [O, r_out, b]) n_out c_out out ∧ OrB r_out al aX.heap.size ∧ Box aA b 75 [.slice ad D.length cd, vI (p_ : Int)] ∧ (k ≤ 3) ∧ (out.length ≤ k) ∧ (∀ t ∈ out, TagD t) ∧ (p_ ≤ p + 2 * k)) (fun (out, r_out, n_out, c_out, k, p_) => 3 - k) (by kernel_rfl) ⟨by kernel_rfl, by kernel_rfl, by kernel_rfl, by kernel_rfl, by kernel_rfl, trivial⟩ ⟨Chg.refl _ _, aR, orb_refl, hr, (by simp), (by simp), (by simp), (by simp)⟩ ?_
 rintro ⟨out, r_out, n_out, c_out, k, p_⟩ fh aA ⟨Z, J, ak, bd, eK, eL, eM, eN⟩ aH
 have bT := nb_or' ak dm hr.lt
 have bU := nb_or' ak (Nb.symm du) E.lt
 have aT := gb_or' ak dp C.size
 have dv := cov_or' ak dq C.size
 have dw : Cov (ins [al, b]) aX al := ⟨.inl (.head _)⟩
 have eO : Cov (ins [al, b]) aX b := ⟨.inl (.tail _ (.head _))⟩
 have eP := cov_or' ak dw (Nat.le_refl _)
 have bV : Mv [O, al, b] [O, r_out, b] aX aA := Mv.inl Z (all_cons (.tail _ (.head _)) (all_cons (.tail _ (.tail _ (.head _))) all_nil)) (all_cons (.inl (.head _)) (all_cons (orb_mem ak (.tail _ (.head _))) (all_cons (.inl (.tail _ (.tail _ (.head _)))) all_nil)))
 replace ⟨hD, E, C⟩ := (sp bV Z).g3 hD E C
 clear bV
 have eQ := J.len; have eR := J.max
 refine .s <| .g <| .bp ((k : Int) < 3) (fun dx => ?_) (fun dx => ?_)
 · refine .d <| .s <| .ct <| .sk <| .s <| .b 1 <| .s <| .g ?_
   have dy : k < 3 := (by omega)
   refine RG.idx (b := O) (o := 0) k (len := 3) (i := (k : Int)) (sz := 1) (by kernel_rfl) (by omega) dy rfl ?_
   obtain ⟨bg, bh⟩ : ∃ y, ([(⟨[97]⟩ : Txt), (⟨[98]⟩ : Txt), (⟨[99]⟩ : Txt)] : List Txt)[k]? = some y := ⟨_, List.getElem?_eq_getElem (by omega)⟩
   have eS := drop_at bh; have bR := List.mem_of_getElem? bh
   simp only [List.mem_cons, List.not_mem_nil, or_false] at bR
   obtain ⟨_, rfl, bi⟩ := E.elem k bg bh
   replace bi : Has aA ⟨O, 0 + k * Rep.sz Txt, none⟩ [vT bg.s] := by rw [Nat.zero_add]; exact bi
   refine .lh 0 bi <| .r 1 <| .d <| .s <| .g <| .r 1 <| .cl (c_spec_l6Rd_pick 2 bd (hD.toAll (.tail _ (.tail _ (.head _)))) (by omega) (w := aA) (F := all)) ?_
   rintro fi fj ⟨⟨d5, rfl, eT⟩, d6, eU, aI, bW⟩
   replace ⟨hD, J, E, C, Z⟩ := (so [O, r_out, b] bW).g5 hD J E C Z
   clear bW
   refine .eq d5 0 (fun dz => ?_) (fun dz => .d <| .cf <| .sk <| .ib 1 <| .g <| .it ((k : Int) + 1) <| .r 1 <| .d <| aH (out, r_out, n_out, c_out, k + 1, d6) _ _ ⟨by kernel_rfl, by kernel_rfl, by kernel_rfl, by kernel_rfl, by kernel_rfl, trivial⟩ ⟨Z, J, ak, aI, (by first | omega | (simp; omega) | grind [TagD]), (by first | omega | (simp; omega) | grind [TagD]), (by first | omega | (simp; omega) | grind [TagD]), (by first | omega | (simp; omega) | grind [TagD])⟩ (by first | omega | (simp only []; omega)))
   refine .d <| .ct <| .g <| .r 3 <| .ns 3 9 [.string (bs [112]), .string (bs [113]), .string (bs [122])] fun aL dA bj bX dB dC => ?_
   have dD := nb_new bj aI.lt
   replace ⟨hD, aI, J, E, C, Z⟩ := (sn [O, r_out, b] bX bj).g6 hD aI J E C Z
   clear bX dC bj
   have aU : Own (α := Txt) dA aL 9 (nin (ge w.heap.size) [aL, O, r_out, b]) 3 3 [(⟨[112]⟩ : Txt), (⟨[113]⟩ : Txt), (⟨[122]⟩ : Txt)] := Own.lit dB rfl (by decide) ⟨rfl, rfl, rfl, rfl⟩
   refine .cl (c_spec_l6Rd_of ([(⟨[112]⟩ : Txt), (⟨[113]⟩ : Txt), (⟨[122]⟩ : Txt)] : List Txt) aI (hD.toAll (.tail _ (.tail _ (.tail _ (.head _))))) (by omega) (aU.toAll (.tail _ (.tail _ (.tail _ (.head _)))) dD) (by simp) (w := dA) (F := all)) ?_
   rintro fk fl ⟨⟨cm, rfl, eV⟩, d7, eW, ay, bY⟩
   replace ⟨hD, J, E, aU, C, Z⟩ := (so [aL, O, r_out, b] bY).g6 hD J E aU C Z
   clear bY
   refine .r 1 <| .ns 1 87 [vT bg.s, vT cm] fun dE fm az bk co cp => ?_
   have cq := nb_new az ay.lt
   have bm := nb_new az J.lt
   have cr := nb_new az E.lt
   have cu := nb_new az aU.lt
   have cv := gb_new az C.size
   replace ⟨hD, ay, J, E, C, Z⟩ := (se [aL, O, r_out, b] bk).g6 hD ay J E C Z
   clear bk cp az
   have aY : nin (ge w.heap.size) [aL, O, r_out, b] dE ∧ dE ≠ r_out := hap_mk cv (all_cons cu (all_cons cr (all_cons bm (all_cons cq all_nil)))) bm
   refine RG.append1 (T := 31) (ty := 31) (y := (⟨bg.s, cm⟩ : Tag)) J co (by kernel_rfl) (by kernel_rfl) rfl aY (by omega) fun bn dF bZ ab aB bo => ?_
   have cw := orb_or aB ak Z.size
   replace ⟨hD, ay, E, C, Z⟩ := (sa [aL, O, r_out, b] bo aB).g5 hD ay E C Z
   clear bo
   replace ab := ab.rn r_out
   clear aB
   have d8 := ab.len; have d9 := ab.max
   refine .r 1 <| .d <| .ib 1 <| .g <| .it ((k : Int) + 1) <| .r 1 <| .d ?_
   have cx : Mv [aL, O, bn, b] [O, bn, b] bZ bZ := Mv.less (all_cons (.tail _ (.head _)) (all_cons (.tail _ (.tail _ (.head _))) (all_cons (.tail _ (.tail _ (.tail _ (.head _)))) all_nil)))
   replace ⟨hD, ab, E⟩ := (sp cx (Chg.refl nil _)).g3 hD ab E
   exact aH ((out ++ [(⟨bg.s, cm⟩ : Tag)]), bn, n_out + 1, dF, k + 1, d7) _ _ ⟨by kernel_rfl, by kernel_rfl, by kernel_rfl, by kernel_rfl, by kernel_rfl, trivial⟩ ⟨Z, ab, cw, ay, (by first | omega | (simp; omega) | grind [TagD]), (by first | omega | (simp; omega) | grind [TagD]), (by first | omega | (simp; omega) | grind [TagD]), (by first | omega | (simp; omega) | grind [TagD])⟩ (by first | omega | (simp only []; omega))
 refine .d <| .s <| .cf <| .x 0 rfl <| .s <| .s <| .g <| .r 2 <| .eq (n_out : Int) 0 (fun cy => ?_) (fun cy => ?_)
 · refine .d <| .ct <| .g <| .r 2 <| .cl (c_spec_l71Tag bd (hD.toAll (.tail _ (.tail _ (.head _)))) (by omega) (w := aA) (F := all)) ?_
   rintro eX eY ⟨⟨am, ⟨_, rfl, rfl⟩, ea⟩, eZ, eb, ac, bq⟩
   replace ⟨hD, J, E, C⟩ := (so [O, r_out, b] bq).g4 hD J E C
   clear bq
   refine .ns 1 87 [vT am.key, vT am.val] fun b0 e0 ao br cz cA => ?_
   have cB := nb_new ao ac.lt
   have bt := nb_new ao J.lt
   have cC := nb_new ao E.lt
   have cD := gb_new ao C.size
   replace ⟨hD, ac, J, E, C⟩ := (se [O, r_out, b] br).g5 hD ac J E C
   clear br cA ao
   have aZ : nin (ge w.heap.size) [O, r_out, b] b0 ∧ b0 ≠ r_out := hap_mk cD (all_cons cC (all_cons bt (all_cons cB all_nil))) bt
   refine RG.append1 (T := 31) (ty := 31) (y := am) J cz (by kernel_rfl) (by kernel_rfl) rfl aZ (by omega) fun W b6 dG V aa bu => ?_
   have cE := nb_or aa bT ac.lt
   have cF := nb_or aa bU E.lt
   have aM := gb_or aa aT C.size
   have ec := cov_or aa dv C.size
   replace ⟨hD, ac, E, C⟩ := (sa [O, r_out, b] bu aa).g4 hD ac E C
   clear bu
   replace V := V.rn r_out
   clear aa
   have ed := V.len; have ee := V.max
   refine .r 1 <| .d <| .s <| .s <| .g <| .r 1 <| .cl (c_spec_l6Rd_pick 40 ac (hD.toAll (.tail _ (.tail _ (.head _)))) (by omega) (w := dG) (F := all)) ?_
   rintro e7 b7 ⟨⟨b8, rfl, ef⟩, dH, eg, ai, bv⟩
   replace ⟨hD, V, E, C⟩ := (so [O, W, b] bv).g4 hD V E C
   clear bv
   refine .d <| .b 2 <| .s <| .g <| .eq b8 0 (fun cG => ?_) (fun cG => ?_)
   · refine .r 1 <| .d <| .ct <| .s <| .g <| .r 2 <| .cl (c_spec_l71Tag ai (hD.toAll (.tail _ (.tail _ (.head _)))) (by omega) (w := b7) (F := all)) ?_
     rintro e8 e9 ⟨⟨aV, ⟨_, rfl, rfl⟩, eh⟩, dI, ei, ae, bw⟩
     replace ⟨hD, V, E, C⟩ := (so [O, W, b] bw).g4 hD V E C
     clear bw
     refine .ns 1 87 [vT aV.key, vT aV.val] fun b9 fa aq bz cH cI => ?_
     have cJ := nb_new aq ae.lt
     have bA := nb_new aq V.lt
     have cK := nb_new aq E.lt
     have cL := gb_new aq C.size
     replace ⟨hD, ae, V, E, C⟩ := (se [O, W, b] bz).g5 hD ae V E C
     clear bz cI aq
     have ba : nin (ge w.heap.size) [O, W, b] b9 ∧ b9 ≠ W := hap_mk cL (all_cons cK (all_cons bA (all_cons cJ all_nil))) bA
     refine RG.append1 (T := 31) (ty := 31) (y := aV) V cH (by kernel_rfl) (by kernel_rfl) rfl ba (by omega) fun bB dJ dK ar ag bC => ?_
     have ej := nb_or ag cE ae.lt
     have ek := nb_or ag cF E.lt
     have cM := gb_or ag aM C.size
     replace ⟨hD, ae, E, C⟩ := (sa [O, W, b] bC ag).g4 hD ae E C
     clear bC
     replace ar := ar.rn W
     clear ag
     have em := ar.len; have en := ar.max
     refine .r 1 <| .d ?_
     have dL := ar.sl cM
     replace ⟨hD, E⟩ := (sd dK [O, bB, b] bB).g2 hD E
     exact .rt Tryz.func33 Tryz.results33 (vS bB (n_out + 1 + 1) dJ) ⟨⟨(((out ++ [am]) ++ [aV]) : List Tag), (dL.vl (by rfl) (fun _ _ h => h.1)), (by first | (refine ⟨by simp; omega, ?_⟩; grind [TagD]) | grind [NmD])⟩, dI, by omega, ae, C⟩
   refine .r 1 <| .d <| .cf <| .s <| .g <| .eq b8 1 (fun cN => ?_) (fun cN => ?_)
   · refine .r 1 <| .d <| .ct <| .g <| .r 2 <| .ns 3 9 [.string (bs []), .string (bs [111]), .string (bs [112, 112])] fun aJ ce aC bD cO cP => ?_
     have cQ := nb_new aC ai.lt
     have eo := nb_new aC V.lt
     replace ⟨hD, ai, V, E, C⟩ := (sn [O, W, b] bD aC).g5 hD ai V E C
     clear bD cP aC
     have cR : Own (α := Txt) ce aJ 9 (nin (ge w.heap.size) [aJ, O, W, b]) 3 3 [(⟨[]⟩ : Txt), (⟨[111]⟩ : Txt), (⟨[112, 112]⟩ : Txt)] := Own.lit cO rfl (by decide) ⟨rfl, rfl, rfl, rfl⟩
     refine .cl (c_spec_l6Rd_of ([(⟨[]⟩ : Txt), (⟨[111]⟩ : Txt), (⟨[112, 112]⟩ : Txt)] : List Txt) ai (hD.toAll (.tail _ (.tail _ (.tail _ (.head _))))) (by omega) (cR.toAll (.tail _ (.tail _ (.tail _ (.head _)))) cQ) (by simp) (w := ce) (F := all)) ?_
     rintro fb dM ⟨⟨bE, rfl, ep⟩, dN, es, aN, bF⟩
     replace ⟨hD, V, E, C⟩ := (so [aJ, O, W, b] bF).g4 hD V E C
     clear bF
     have cS : 0 < n_out + 1 := (by omega)
     refine RG.idx (b := W) (o := 0) 0 (len := n_out + 1) (i := 0) (sz := 2) (by kernel_rfl) (by omega) cS rfl <| .r 1 ?_
     obtain ⟨au, aD⟩ : ∃ y, (out ++ [am])[0]? = some y := ⟨_, List.getElem?_eq_getElem (by omega)⟩
     have et := drop_at aD; have dO := List.mem_of_getElem? aD
     obtain ⟨_, rfl, aO⟩ := V.elem 0 au aD
     replace aO : Has dM ⟨W, 0 + 0 * Rep.sz Tag, none⟩ [vT au.key, vT au.val] := by rw [Nat.zero_add]; exact aO
     refine RG.storeO (t' := 9) (i := 0) (k := 1) (v := vT bE) (cs := [vT au.key, vT au.val]) (⟨au.key, bE⟩ : Tag) V aD aO (by kernel_rfl) (by kernel_rfl) (by kernel_rfl) rfl fun dP cT bG cU => ?_
     replace ⟨hD, aN, E, C⟩ := (so [aJ, O, W, b] bG).g4 hD aN E C
     clear bG cU
     refine .d <| .ib 2 <| .s <| .g <| .r 2 <| .d ?_
     have dQ := cT.sl aM
     replace ⟨hD, E⟩ := (sd dP [aJ, O, W, b] W).g2 hD E
     exact .rt Tryz.func33 Tryz.results33 (vS W (n_out + 1) b6) ⟨⟨(((out ++ [am]).set 0 (⟨au.key, bE⟩ : Tag)) : List Tag), (dQ.vl (by rfl) (fun _ _ h => h.1)), (by first | (refine ⟨by simp; omega, ?_⟩; grind [TagD]) | grind [NmD])⟩, dN, by omega, aN, C⟩
   refine .r 1 <| .d <| .cf <| .sk <| .ib 2 <| .s <| .g <| .r 2 <| .d ?_
   have dR := V.sl aM
   replace ⟨hD, E⟩ := (sd b7 [O, W, b] W).g2 hD E
   exact .rt Tryz.func33 Tryz.results33 (vS W (n_out + 1) b6) ⟨⟨((out ++ [am]) : List Tag), (dR.vl (by rfl) (fun _ _ h => h.1)), (by first | (refine ⟨by simp; omega, ?_⟩; grind [TagD]) | grind [NmD])⟩, dH, by omega, ai, C⟩
 refine .d <| .cf <| .sk <| .s <| .s <| .g <| .r 1 <| .cl (c_spec_l6Rd_pick 40 bd (hD.toAll (.tail _ (.tail _ (.head _)))) (by omega) (w := aA) (F := all)) ?_
 rintro fc cg ⟨⟨ci, rfl, ew⟩, dS, ex, aj, bH⟩
 replace ⟨hD, J, E, C⟩ := (so [O, r_out, b] bH).g4 hD J E C
 clear bH
 refine .d <| .b 2 <| .s <| .g <| .eq ci 0 (fun cV => ?_) (fun cV => ?_)
 · refine .r 1 <| .d <| .ct <| .s <| .g <| .r 2 <| .cl (c_spec_l71Tag aj (hD.toAll (.tail _ (.tail _ (.head _)))) (by omega) (w := cg) (F := all)) ?_
   rintro fd fe ⟨⟨aW, ⟨_, rfl, rfl⟩, ey⟩, dT, ez, af, bI⟩
   replace ⟨hD, J, E, C⟩ := (so [O, r_out, b] bI).g4 hD J E C
   clear bI
   refine .ns 1 87 [vT aW.key, vT aW.val] fun cj ff av bJ cW cX => ?_
   have cY := nb_new av af.lt
   have bK := nb_new av J.lt
   have cZ := nb_new av E.lt
   have c7 := gb_new av C.size
   replace ⟨hD, af, J, E, C⟩ := (se [O, r_out, b] bJ).g5 hD af J E C
   clear bJ cX av
   have bb : nin (ge w.heap.size) [O, r_out, b] cj ∧ cj ≠ r_out := hap_mk c7 (all_cons cZ (all_cons bK (all_cons cY all_nil))) bK
   refine RG.append1 (T := 31) (ty := 31) (y := aW) J cW (by kernel_rfl) (by kernel_rfl) rfl bb (by omega) fun bL dU dV aw ah bM => ?_
   have eA := nb_or ah bT af.lt
   have eB := nb_or ah bU E.lt
   have c8 := gb_or ah aT C.size
   replace ⟨hD, af, C⟩ := (sa [O, r_out, b] bM ah).g3 hD af C
   clear bM
   replace aw := aw.rn r_out
   clear ah
   have eC := aw.len; have eD := aw.max
   refine .r 1 <| .d ?_
   have dW := aw.sl c8
   replace hD := (sd dV [O, bL, b] bL).g1 hD
   exact .rt Tryz.func33 Tryz.results33 (vS bL (n_out + 1) dU) ⟨⟨((out ++ [aW]) : List Tag), (dW.vl (by rfl) (fun _ _ h => h.1)), (by first | (refine ⟨by simp; omega, ?_⟩; grind [TagD]) | grind [NmD])⟩, dT, by omega, af, C⟩
 refine .r 1 <| .d <| .cf <| .s <| .g <| .eq ci 1 (fun c9 => ?_) (fun c9 => ?_)
 · refine .r 1 <| .d <| .ct <| .g <| .r 2 <| .ns 3 9 [.string (bs []), .string (bs [111]), .string (bs [112, 112])] fun aK ck aE bN da db => ?_
   have dd := nb_new aE aj.lt
   have eE := nb_new aE J.lt
   replace ⟨hD, aj, J, C⟩ := (sn [O, r_out, b] bN aE).g4 hD aj J C
   clear bN db aE
   have de : Own (α := Txt) ck aK 9 (nin (ge w.heap.size) [aK, O, r_out, b]) 3 3 [(⟨[]⟩ : Txt), (⟨[111]⟩ : Txt), (⟨[112, 112]⟩ : Txt)] := Own.lit da rfl (by decide) ⟨rfl, rfl, rfl, rfl⟩
   refine .cl (c_spec_l6Rd_of ([(⟨[]⟩ : Txt), (⟨[111]⟩ : Txt), (⟨[112, 112]⟩ : Txt)] : List Txt) aj (hD.toAll (.tail _ (.tail _ (.tail _ (.head _))))) (by omega) (de.toAll (.tail _ (.tail _ (.tail _ (.head _)))) dd) (by simp) (w := ck) (F := all)) ?_
   rintro fg dX ⟨⟨bO, rfl, eF⟩, dY, eG, aP, bP⟩
   replace ⟨hD, J, C⟩ := (so [aK, O, r_out, b] bP).g3 hD J C
   clear bP
   have df : 0 < n_out := (by omega)
   refine RG.idx (b := r_out) (o := 0) 0 (len := n_out) (i := 0) (sz := 2) (by kernel_rfl) (by omega) df rfl <| .r 1 ?_
   obtain ⟨ax, aF⟩ : ∃ y, out[0]? = some y := ⟨_, List.getElem?_eq_getElem (by omega)⟩
   have eH := drop_at aF; have dZ := List.mem_of_getElem? aF
   obtain ⟨_, rfl, aQ⟩ := J.elem 0 ax aF
   replace aQ : Has dX ⟨r_out, 0 + 0 * Rep.sz Tag, none⟩ [vT ax.key, vT ax.val] := by rw [Nat.zero_add]; exact aQ
   refine RG.storeO (t' := 9) (i := 0) (k := 1) (v := vT bO) (cs := [vT ax.key, vT ax.val]) (⟨ax.key, bO⟩ : Tag) J aF aQ (by kernel_rfl) (by kernel_rfl) (by kernel_rfl) rfl fun d0 dg bQ dh => ?_
   replace ⟨hD, aP, C⟩ := (so [aK, O, r_out, b] bQ).g3 hD aP C
   clear bQ dh
   refine .d <| .ib 2 <| .s <| .g <| .r 2 <| .d ?_
   have d3 := dg.sl aT
   replace hD := (sd d0 [aK, O, r_out, b] r_out).g1 hD
   exact .rt Tryz.func33 Tryz.results33 (vS r_out n_out c_out) ⟨⟨((out.set 0 (⟨ax.key, bO⟩ : Tag)) : List Tag), (d3.vl (by rfl) (fun _ _ h => h.1)), (by first | (refine ⟨by simp; omega, ?_⟩; grind [TagD]) | grind [NmD])⟩, dY, by omega, aP, C⟩
 refine .r 1 <| .d <| .cf <| .sk <| .ib 2 <| .s <| .g <| .r 2 <| .d ?_
 have d4 := J.sl aT
 replace hD := (sd cg [O, r_out, b] r_out).g1 hD
 exact .rt Tryz.func33 Tryz.results33 (vS r_out n_out c_out) ⟨⟨(out : List Tag), (d4.vl (by rfl) (fun _ _ h => h.1)), (by first | (refine ⟨by simp; omega, ?_⟩; grind [TagD]) | grind [NmD])⟩, dS, by omega, aj, C⟩
end Go.Proofs.YtndljnhfkdhggaaGreat