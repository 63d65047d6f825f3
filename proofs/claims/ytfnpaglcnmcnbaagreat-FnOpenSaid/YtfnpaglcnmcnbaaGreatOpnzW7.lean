/- walks; hints pruned; squeezed -/
import Derived.Test.YtfnpaglcnmcnbaaGreatOpnzW3
set_option linter.unusedVariables false
set_option linter.unusedSimpArgs false
namespace Go.Proofs.YtfnpaglcnmcnbaaGreat
set_option maxRecDepth 100000
set_option maxHeartbeats 4000000
theorem c_spec_l21Tidy (d : Dsk) {w : World} {F : Nat → Prop} {a1 : Option Addr} {n1 c1 : Nat} (h1 : RepS w F a1 n1 c1 d.files) {a2 : Option Addr} {n2 c2 : Nat} (h2 : RepS w F a2 n2 c2 d.list) {a3 : Option Addr} {n3 c3 : Nat} (h3 : RepS w F a3 n3 c3 d.names) (p0 : d.files.length ≤ 1000) : Calls Tryz.prog 201 [.agg #[.slice a1 n1 c1, .slice a2 n2 c2, .slice a3 n3 c3, .int .i64 d.next]].toArray w (rets fun rv w' => VS (fo F w.heap.size) w' (tidyD d : Dsk) rv ∧ Ext w w') := by
 refine goT Tryz.func201 ?_
 obtain ⟨rfl, bI, h1⟩ := h1.tp
 obtain ⟨rfl, bJ, h2⟩ := h2.tp
 obtain ⟨rfl, bK, h3⟩ := h3.tp
 refine .s <| .g <| .np 83 [.slice a1 d.files.length c1, .slice a2 d.list.length c2, .slice a3 d.names.length c3, vI d.next] fun W ce aq ar E aU => ?_
 have bL : Cov nil w W := cov_new aq (Nat.le_refl _)
 replace ⟨h1, h2, h3⟩ := (sn [] ar aq).g3 h1 h2 h3
 have C := ar
 clear ar aU aq
 refine .np 83 [.slice none 0 0, .slice none 0 0, .slice none 0 0, vI 0] fun Z cg aj aB J aV => ?_
 have bM := nb_new aj E.lt
 have bN := C.cn aj
 replace ⟨h1, h2, h3, E, C⟩ := (sn [W] aB aj).g5 h1 h2 h3 E C
 clear aB aV aj
 refine .d <| .s <| .g <| .ns 0 88 [] fun ah au ae aC aW aX => ?_
 have aY := nb_new ae E.lt
 have aZ := nb_new ae J.lt
 have ba := gb_new ae C.size
 have bc := C.cn ae
 replace ⟨h1, h2, h3, E, J, C⟩ := (sn [Z, W] aC ae).g6 h1 h2 h3 E J C
 clear aC aX ae
 have bd : Own (α := Fil) au ah 88 (nin (fo F w.heap.size) [ah, Z, W]) 0 0 [] := Own.nil' aW
 refine .r 1 <| .d <| .s <| .s <| .g <| .r 1 <| .d <| .b 0 <| T.loop (X := (List Fil) × Nat × Nat × Nat × Nat) (([] : List Fil), ah, 0, 0, 0) (fun (files, r_files, n_files, c_files, i) => [(1, .pointer (some ⟨W, 0, none⟩)), (2, .pointer (some ⟨Z, 0, none⟩)), (3, vS r_files n_files c_files), (4, vI (i : Int))]) (fun (files, r_files, n_files, c_files, i) aA => Chg (ins [ah]) au aA ∧ Own aA r_files 88 (nin (fo F w.heap.size) [r_files, Z, W]) n_files c_files files ∧ OrB r_files ah au.heap.size ∧ (i ≤ d.files.length) ∧ (files.length ≤ i) ∧ (files ++ (d.files.drop i).filter (fun f => d.list.contains f.num) = d.files.filter (fun f => d.list.contains f.num))) (fun (files, r_files, n_files, c_files, i) => d.files.length - i) (by kernel_rfl) ⟨by kernel_rfl, by kernel_rfl, by kernel_rfl, by kernel_rfl, trivial⟩ ⟨Chg.refl _ _, bd, orb_refl, (by simp), (by simp), (by simp)⟩ ?_
 rintro ⟨files, r_files, n_files, c_files, i⟩ ci aA ⟨V, O, aa, bO, bP, bQ⟩ ai
 have bR := nb_or' aa aY E.lt
 have bS := nb_or' aa aZ J.lt
 have bg := gb_or' aa ba C.size
 have bT := cov_or' aa bc C.size
 have bh : Cov (ins [ah]) au ah := ⟨.inl (.head _)⟩
 have bU := cov_or' aa bh (Nat.le_refl _)
 have aD : Mv [ah, Z, W] [r_files, Z, W] au aA := Mv.inl V (all_cons (.head _) all_nil) (all_cons (orb_mem aa (.head _)) (all_cons (.inl (.tail _ (.head _))) (all_cons (.inl (.tail _ (.tail _ (.head _)))) all_nil)))
 replace ⟨h1, h2, h3, E, J, C⟩ := (sp aD V).g6 h1 h2 h3 E J C
 clear aD
 have bV := O.len; have bW := O.max
 refine .s <| .s <| .g <| .r 2 <| .lb E <| .r 1 <| .bp ((i : Int) < (d.files.length : Int)) (fun bi => ?_) (fun bi => ?_)
 ·refine .d <| .ct <| .sk <| .s <| .b 1 <| .s <| .gd nil 7 fun cj aE => ?_
  replace ⟨h1, h2, h3, E, J, O, C, V⟩ := (se [r_files, Z, W] aE).g8 h1 h2 h3 E J O C V
  clear aE
  refine .ln 0 E id <| .r [1] <| .lb 2 E id <| .r [3] ?_
  have bj : i < d.files.length := (by omega)
  refine .ix 4 i 3 h1 bj <| .r [5] ?_
  obtain ⟨af, ak⟩ : ∃ y, d.files[i]? = some y := ⟨_, List.getElem?_eq_getElem (by omega)⟩
  have bX := drop_at ak; have bD := List.mem_of_getElem? ak
  obtain ⟨_, ⟨ck, cm, co, cp, cq, cr, rfl, bk, bm⟩, bn⟩ := h1.elem i af ak
  have bo := bk.len
  subst bo
  have bY := bk.max
  have bq := bm.len
  subst bq
  have bZ := bm.max
  refine .lh 6 0 bn id <| .d fun bE aF => ?_
  replace ⟨h1, h2, h3, E, J, O, C, V⟩ := (se [r_files, Z, W] aF).g8 h1 h2 h3 E J O C V
  clear aF
  refine .cl (c_spec_l21Counts d af.num h1.ta h2.ta h3.ta (w := bE) (F := all)) ?_
  rintro cu cv ⟨rfl, aG⟩
  replace ⟨h1, h2, h3, E, J, O, C, V⟩ := (se [r_files, Z, W] aG).g8 h1 h2 h3 E J O C V
  clear aG
  cases b0 : (d.list.contains af.num)
  ·exact .d <| .cf <| .sk <| .ib 1 <| .g <| .r 1 <| .it ((i : Int) + 1) <| .r 1 <| .d <| ai (files, r_files, n_files, c_files, i + 1) _ _ ⟨by kernel_rfl, by kernel_rfl, by kernel_rfl, by kernel_rfl, trivial⟩ ⟨V, O, aa, (by omega), (by omega), (by grind)⟩ (by (simp only []; omega))
  refine .d <| .ct <| .g <| .r 2 <| .lb E <| .r 1 ?_
  have br : i < d.files.length := (by omega)
  refine .ix i 3 h1 br ?_
  obtain ⟨_, ⟨bF, b6, bt, bu, b7, bv, rfl, al, am⟩, bw⟩ := h1.elem i af ak
  have aI := al.len
  subst aI
  have aJ := am.len
  subst aJ
  refine .lg 0 bw <| .ns 1 88 [vI af.num, .slice bF af.part.ids.length bt, .slice bu af.part.blocks.length bv] fun aH b8 ab av aK aL => ?_
  have aM := nb_new ab E.lt
  have aN := nb_new ab J.lt
  have aw := nb_new ab O.lt
  have aO := gb_new ab C.size
  replace ⟨h2, h3, E, J, O, al, am, C, V⟩ := (se [r_files, Z, W] av).g9 h2 h3 E J O al am C V
  clear av aL ab
  have ao : nin (fo F w.heap.size) [r_files, Z, W] aH ∧ aH ≠ r_files := hap_mk (.inr aO) (all_cons aw (all_cons aN (all_cons aM all_nil))) aw
  refine RG.append1 (T := 81) (ty := 81) (y := af) O aK (by kernel_rfl) (by kernel_rfl) ⟨_, _, _, _, _, _, rfl, al.oi, am.oi⟩ ao (by omega) fun bz bA b9 ac ag ax => ?_
  have aP := orb_or ag aa V.size
  replace ⟨h2, h3, E, J, C, V⟩ := (sa [r_files, Z, W] ax ag).g6 h2 h3 E J C V
  clear ax
  replace ac := ac.rn r_files
  clear ag
  have bG := ac.len; have bH := ac.max
  exact .r 1 <| .d <| .ib 1 <| .g <| .r 1 <| .it ((i : Int) + 1) <| .r 1 <| .d <| ai ((files ++ [af]), bz, n_files + 1, bA, i + 1) _ _ ⟨by kernel_rfl, by kernel_rfl, by kernel_rfl, by kernel_rfl, trivial⟩ ⟨V, ac, aP, (by omega), (by omega), (by grind)⟩ (by (simp only []; omega))
 refine .d <| .cf <| .x 0 rfl <| .s <| .g <| .r 2 <| .ss 0 (vS r_files n_files c_files) E fun cd ay aQ aR => ?_
 replace ⟨h2, h3, J, O, C⟩ := (so [r_files, Z, W] ay).g5 h2 h3 J O C
 clear ay aR
 refine .d <| .s <| .g <| .ln aQ <| .sc [vS r_files n_files c_files, .slice a2 d.list.length c2, .slice a3 d.names.length c3, vI d.next] J fun bB az aS aT => ?_
 replace ⟨h2, h3, O, C⟩ := (so [r_files, Z, W] az).g4 h2 h3 O C
 clear az aT
 refine .d ?_
 have bC := O.sl (.inr bg)
 replace ⟨h2, h3⟩ := (sd bB [r_files, Z, W] r_files).g2 h2 h3
 exact .rb Tryz.func201 Tryz.results201 aS ⟨(VS.of (y := (⟨files, d.list, d.names, d.next⟩ : Dsk)) ⟨_, rfl, ⟨_, _, _, _, _, _, _, _, _, rfl, bC.w1, h2.w1, h3.w1⟩⟩ (by grind [tidyD, drop_end])), C⟩
theorem c_spec_l21Flush (d : Dsk) (s : Sto) {w : World} {F : Nat → Prop} {a1 : Option Addr} {n1 c1 : Nat} (h1 : RepS w F a1 n1 c1 d.files) {a2 : Option Addr} {n2 c2 : Nat} (h2 : RepS w F a2 n2 c2 d.list) {a3 : Option Addr} {n3 c3 : Nat} (h3 : RepS w F a3 n3 c3 d.names) {a4 : Option Addr} {n4 c4 : Nat} (h4 : RepS w F a4 n4 c4 s.idx.names) {a5 : Option Addr} {n5 c5 : Nat} (h5 : RepS w F a5 n5 c5 s.idx.posts) {a6 : Option Addr} {n6 c6 : Nat} (h6 : RepS w F a6 n6 c6 s.parts) {a7 : Option Addr} {n7 c7 : Nat} (h7 : RepS w F a7 n7 c7 s.mem) (p0 : s.mem.length ≤ 1000) (p1 : ∀ m ∈ s.mem, 1 ≤ m.id ∧ m.id ≤ 6) (p2 : d.list.length ≤ 1000) (p3 : s.idx.names.length ≤ 1000) (p4 : ∀ n ∈ s.idx.names, n.length ≤ 1000) : Calls Tryz.prog 100 [.agg #[.slice a1 n1 c1, .slice a2 n2 c2, .slice a3 n3 c3, .int .i64 d.next], .agg #[.slice a4 n4 c4, .slice a5 n5 c5, .slice a6 n6 c6, .slice a7 n7 c7]].toArray w (rets fun rv w' => VL (ge w.heap.size) w' (flushSt d s : List Stp) rv ∧ Ext w w') := by
 refine goT Tryz.func100 ?_
 obtain ⟨rfl, gC, h1⟩ := h1.tp
 obtain ⟨rfl, gD, h2⟩ := h2.tp
 obtain ⟨rfl, gE, h3⟩ := h3.tp
 obtain ⟨rfl, gF, h4⟩ := h4.tp
 obtain ⟨rfl, gG, h5⟩ := h5.tp
 obtain ⟨rfl, gH, h6⟩ := h6.tp
 obtain ⟨rfl, gI, h7⟩ := h7.tp
 refine .s <| .g <| .np 83 [.slice a1 d.files.length c1, .slice a2 d.list.length c2, .slice a3 d.names.length c3, vI d.next] fun O iG c9 bO E ew => ?_
 replace ⟨h2, h4, h5, h6, h7⟩ := (sn [] bO c9).g5 h2 h4 h5 h6 h7
 have C := bO
 clear bO ew c9
 refine .np 30 [.slice a4 s.idx.names.length c4, .slice a5 s.idx.posts.length c5, .slice a6 s.parts.length c6, .slice a7 s.mem.length c7] fun V bK da db J ex => ?_
 replace ⟨h2, h4, h5, h6, h7, E, C⟩ := (sn [O] db da).g7 h2 h4 h5 h6 h7 E C
 clear db ex da
 refine .r 1 <| .d <| .s <| .s <| .g <| .r 1 <| .lb J <| .r 1 <| .eq (s.mem.length : Int) 0 (fun ey => ?_) (fun ey => ?_)
 ·refine .r 17 <| .d <| .ct <| .s <| .g <| .ns 0 95 [] fun bP ez bc dd eA eB => ?_
  have gJ := nb_new bc E.lt
  have gK := nb_new bc J.lt
  have eC := gb_new bc C.size
  replace ⟨h2, h4, h5, h6, h7, E, J, C⟩ := (sn [V, O] dd bc).g8 h2 h4 h5 h6 h7 E J C
  clear dd eB bc
  have eD : Own (α := Stp) ez bP 95 (nin (ge w.heap.size) [bP, V, O]) 0 0 [] := Own.nil' eA
  refine .r 1 <| .d ?_
  have fA := eD.sl eC
  replace ⟨h2, h4, h5, h6, h7⟩ := (sd ez [bP, V, O] bP).g5 h2 h4 h5 h6 h7
  exact .rt Tryz.func100 Tryz.results100 (vS bP 0 0) ⟨(fA.vl (by rw [flushSt_no (by omega)]) (fun _ _ h => h.1)), C⟩
 refine .r 2 <| .lb E <| .r 1 <| .bp ((d.list.length : Int) ≥ 6) (fun eE => ?_) (fun eE => ?_)
 ·refine .r 12 <| .d <| .ct <| .s <| .g <| .ns 0 95 [] fun bQ eF bd de eG eH => ?_
  have gL := nb_new bd E.lt
  have gM := nb_new bd J.lt
  have eI := gb_new bd C.size
  replace ⟨h2, h4, h5, h6, h7, E, J, C⟩ := (sn [V, O] de bd).g8 h2 h4 h5 h6 h7 E J C
  clear de eH bd
  have eJ : Own (α := Stp) eF bQ 95 (nin (ge w.heap.size) [bQ, V, O]) 0 0 [] := Own.nil' eG
  refine .r 1 <| .d ?_
  have fB := eJ.sl eI
  replace ⟨h2, h4, h5, h6, h7⟩ := (sd eF [bQ, V, O] bQ).g5 h2 h4 h5 h6 h7
  exact .rt Tryz.func100 Tryz.results100 (vS bQ 0 0) ⟨(fB.vl (by rw [flushSt_no (by omega)]) (fun _ _ h => h.1)), C⟩
 refine .r 3 <| .lb E <| .bp (d.next ≥ 999) (fun eK => ?_) (fun eK => ?_)
 ·refine .r 7 <| .d <| .ct <| .s <| .g <| .ns 0 95 [] fun bR eL bg df eM eN => ?_
  have gN := nb_new bg E.lt
  have gO := nb_new bg J.lt
  have eO := gb_new bg C.size
  replace ⟨h2, h4, h5, h6, h7, E, J, C⟩ := (sn [V, O] df bg).g8 h2 h4 h5 h6 h7 E J C
  clear df eN bg
  have eP : Own (α := Stp) eL bR 95 (nin (ge w.heap.size) [bR, V, O]) 0 0 [] := Own.nil' eM
  refine .r 1 <| .d ?_
  have fC := eP.sl eO
  replace ⟨h2, h4, h5, h6, h7⟩ := (sd eL [bR, V, O] bR).g5 h2 h4 h5 h6 h7
  exact .rt Tryz.func100 Tryz.results100 (vS bR 0 0) ⟨(fC.vl (by rw [flushSt_no (by omega)]) (fun _ _ h => h.1)), C⟩
 refine .r 3 <| .lb E <| .r 1 <| .bp ((d.files.length : Int) ≥ 20) (fun eQ => ?_) (fun eQ => ?_)
 ·refine .r 1 <| .d <| .ct <| .s <| .g <| .ns 0 95 [] fun bS eR bh dg eS eT => ?_
  have gP := nb_new bh E.lt
  have gQ := nb_new bh J.lt
  have eU := gb_new bh C.size
  replace ⟨h2, h4, h5, h6, h7, E, J, C⟩ := (sn [V, O] dg bh).g8 h2 h4 h5 h6 h7 E J C
  clear dg eT bh
  have dk : Own (α := Stp) eR bS 95 (nin (ge w.heap.size) [bS, V, O]) 0 0 [] := Own.nil' eS
  refine .r 1 <| .d ?_
  have eV := dk.sl eU
  replace ⟨h2, h4, h5, h6, h7⟩ := (sd eR [bS, V, O] bS).g5 h2 h4 h5 h6 h7
  exact .rt Tryz.func100 Tryz.results100 (vS bS 0 0) ⟨(eV.vl (by rw [flushSt_no (by omega)]) (fun _ _ h => h.1)), C⟩
 refine .r 1 <| .d <| .cf <| .sk <| .s ?_
 replace h2 := h2.into
 replace h4 := h4.into
 replace h5 := h5.into
 replace h6 := h6.into
 replace h7 := h7.into
 have bT : Gb (O + 1) bK.heap.size := E.lt
 refine .gd (mtb [] bK.heap.size) 7 fun eW bm => ?_
 replace ⟨h2, h4, h5, h6, h7, E, J, C⟩ := (se [V, O] bm).g8 h2 h4 h5 h6 h7 E J C
 have W : Chg (mtb [] bK.heap.size) bK eW := Chg.stepN (Chg.refl (mtb [] bK.heap.size) bK) bm
 clear bm
 refine .r [1] <| .lb 2 E (nS_of all_nil bT) <| .r [4] <| .lb 5 E (nS_of all_nil bT) <| .tw 0 6 ?_ ?_
 ·refine .ns 0 3 [] fun gR bU => ?_
  replace ⟨h2, h4, h5, h6, h7, E, J, C, W⟩ := (se [V, O] bU).g9 h2 h4 h5 h6 h7 E J C W
  clear bU
  intro av eX aC bV dm dp
  have bW := nb_new aC E.lt
  have bX := nb_new aC J.lt
  have bY := gb_new aC C.size
  have bZ := C.cn aC
  have b0 := W.cn aC
  replace ⟨h2, h4, h5, h6, h7, E, J, C, W⟩ := (sn [V, O] bV aC).g9 h2 h4 h5 h6 h7 E J C W
  clear bV dp aC
  have aq : Own (α := Int) eX av 3 (nin (ge w.heap.size) [av, V, O]) 0 0 [] := Own.nil' dm
  refine .tw 3 6 ?_ ?_
  ·refine GE.append (T := 68) (ty := 68) (args := [vS av 0 0, .slice a2 d.list.length c2]) (by kernel_rfl) fun gS b6 => ?_
   replace ⟨h2, h4, h5, h6, h7, E, J, aq, C, W⟩ := (se [av, V, O] b6).g10 h2 h4 h5 h6 h7 E J aq C W
   clear b6
   obtain ⟨aR, gT, gU, b7, ak, aB, bn, dq⟩ := Own.appendF (P := Tryz.prog) (T := 68) (ty := 68) flat_int aq (by kernel_rfl) h2 (fun b h e => h.2 (e ▸ (.head _))) (by omega)
   refine ⟨_, _, b7, Chg.toS bn (Cov.toS b0), ?_⟩
   clear dq
   have dr := nb_or aB bW E.lt
   have dt := nb_or aB bX J.lt
   have du := gb_or aB bY C.size
   have fD := cov_or aB bZ C.size
   replace ⟨h2, h4, h5, h6, h7, E, J, C, W⟩ := (sa [av, V, O] bn aB).g9 h2 h4 h5 h6 h7 E J C W
   clear bn
   replace ak := ak.rn av
   clear aB
   have fE := ak.len; have fF := ak.max
   refine .go 6 <| .ns 1 3 [vI d.next] fun gV b8 => ?_
   replace ⟨h2, h4, h5, h6, h7, E, J, ak, C, W⟩ := (se [aR, V, O] b8).g10 h2 h4 h5 h6 h7 E J ak C W
   clear b8
   intro dh gW aS b9 bo dv
   have dw := nb_new aS E.lt
   have dx := nb_new aS J.lt
   have cd := nb_new aS ak.lt
   have dy := gb_new aS C.size
   replace ⟨h2, h4, h5, h6, h7, E, J, ak, C, W⟩ := (se [aR, V, O] b9).g10 h2 h4 h5 h6 h7 E J ak C W
   clear b9 dv aS
   refine .d fun gX ce => ?_
   replace ⟨h2, h4, h5, h6, h7, E, J, ak, bo, C, W⟩ := (se [aR, V, O] ce).g11 h2 h4 h5 h6 h7 E J ak bo C W
   clear ce
   replace h2 := h2.outof
   replace h4 := h4.outof
   replace h5 := h5.outof
   replace h6 := h6.outof
   replace h7 := h7.outof
   have bL : nin (ge w.heap.size) [aR, V, O] dh ∧ dh ≠ aR := hap_mk dy (all_cons cd (all_cons dx (all_cons dw all_nil))) cd
   refine RG.append1 (T := 68) (ty := 68) (y := d.next) ak bo (by kernel_rfl) (by kernel_rfl) rfl bL (by omega) fun aw eY gY Z aI cg => ?_
   have fG := nb_or aI dr E.lt
   have fH := nb_or aI dt J.lt
   have dz := gb_or aI du C.size
   replace ⟨h2, h4, h5, h6, h7, E, J, C⟩ := (sa [aR, V, O] cg aI).g8 h2 h4 h5 h6 h7 E J C
   clear cg
   replace Z := Z.rn aR
   clear aI
   have fI := Z.len; have fJ := Z.max
   refine .r 1 <| .d <| .s <| .gd nil 11 fun gZ ci => ?_
   replace ⟨h2, h4, h5, h6, h7, E, J, Z, C⟩ := (se [aw, V, O] ci).g9 h2 h4 h5 h6 h7 E J Z C
   clear ci
   refine .r [0] <| .lb 1 E id <| .ln 2 J id <| .r [5, 6, 7] <| .lb 8 J id <| .go 3 <| .cl (fun cj aL => c_spec_l13Mem s (h4.ta.ext aL) (h5.ta.ext aL) (h6.ta.ext aL) (h7.ta.ext aL) p0 p1 (w := cj) (F := all)) ?_
   intro cj aL
   replace ⟨h2, h4, h5, h6, h7, E, J, Z, C⟩ := (se [aw, V, O] aL).g9 h2 h4 h5 h6 h7 E J Z C
   rintro g0 hC ⟨⟨_, rfl, ⟨eZ, hD, e0, e7, hE, e8, rfl, ae, af⟩⟩, bq⟩
   have br := al3 Z.lt J.lt E.lt
   have ck : Gb w.heap.size cj.heap.size := C.size
   have hkeep_ := bq
   replace ⟨h2, h4, h5, h6, h7, E, J, Z, C⟩ := (se [aw, V, O] bq).g9 h2 h4 h5 h6 h7 E J Z C
   clear bq
   refine ⟨Ext.chg hkeep_, ?_⟩
   have ae := ae.fr br ck
   have fK := ae.max
   have af := af.fr br ck
   have fL := af.max
   clear br
   have dA := ae.len
   subst dA
   have dB := af.len
   subst dB
   refine .r [4] <| .go 9 <| .cl (fun cm bt => c_spec_l11Names s.idx.names (h4.ta.ext bt) (by omega) (by intro n hn; have := p4 n hn; omega) (w := cm) (F := all)) ?_
   intro cm bt
   replace ⟨h2, h4, h5, h6, h7, E, J, Z, ae, af, C⟩ := (se [aw, V, O] bt).g11 h2 h4 h5 h6 h7 E J Z ae af C
   rintro hH hJ ⟨⟨aW, e9, fa, rfl, al, aM⟩, bu⟩
   have co := al3 Z.lt J.lt E.lt
   have dC : Gb w.heap.size cm.heap.size := C.size
   have hkeep_ := bu
   have fM := nb_ge aM E.lt
   have fN := nb_ge aM J.lt
   have fO := nb_ge aM Z.lt
   have dD := gb_ge aM C.size
   replace ⟨h2, h4, h5, h6, h7, E, J, Z, ae, af, C⟩ := (sz [aw, V, O] bu aM).g11 h2 h4 h5 h6 h7 E J Z ae af C
   clear bu aM
   refine ⟨Ext.chg hkeep_, ?_⟩
   replace al := Own.take (s0 := w.heap.size) (M := [aw, V, O]) al co dC
   have fP := al.len; have fQ := al.max
   clear co
   refine .r [10] <| .d fun hN cp => ?_
   replace ⟨h2, h4, h5, h6, h7, E, J, Z, ae, af, al, C⟩ := (se [aW, aw, V, O] cp).g12 h2 h4 h5 h6 h7 E J Z ae af al C
   clear cp
   refine .ns 2 95 [vI 1, vI d.next, .slice eZ (((memPart s.mem).ids).length) e0, .slice e7 (((memPart s.mem).blocks).length) e8, .slice none 0 0, .slice none 0 0, vI 2, vI 0, .slice none 0 0, .slice none 0 0, vS aw (0 + d.list.length + 1) eY, vS aW e9 fa] fun aT bI aD cq dE dF => ?_
   have fR := nb_new aD E.lt
   have fS := nb_new aD J.lt
   have fT := nb_new aD Z.lt
   have fU := nb_new aD al.lt
   have dG := gb_new aD C.size
   replace ⟨h2, h4, h5, h6, h7, E, J, Z, ae, af, al, C⟩ := (sn [aW, aw, V, O] cq aD).g12 h2 h4 h5 h6 h7 E J Z ae af al C
   clear cq dF aD
   have cr := Z.sl dz
   replace ⟨h2, h4, h5, h6, h7, ae, af, al⟩ := (sd bI [aT, aW, aw, V, O] aw).g8 h2 h4 h5 h6 h7 ae af al
   have fb := al.sl dD
   replace ⟨h2, h4, h5, h6, h7, cr, ae, af⟩ := (sd bI [aT, aW, V, O] aW).g8 h2 h4 h5 h6 h7 cr ae af
   have dH : Own (α := Stp) bI aT 95 (nin (ge w.heap.size) [aT, V, O]) 2 2 [(⟨1, d.next, (⟨(memPart s.mem).ids, (memPart s.mem).blocks⟩ : Prt), ([] : List Int), ([] : List (List Tag))⟩ : Stp), (⟨2, 0, (⟨([] : List Int), ([] : List (List Row))⟩ : Prt), (([] ++ d.list) ++ [d.next]), s.idx.names⟩ : Stp)] := Own.lit dE rfl (by decide) ⟨⟨_, _, _, _, _, _, _, _, _, _, _, _, rfl, ae.oi, af.oi, (RepS.nil' _ _ none 0 (by decide)), (RepS.nil' _ _ none 0 (by decide))⟩, ⟨_, _, _, _, _, _, _, _, _, _, _, _, rfl, (RepS.nil' _ _ none 0 (by decide)), (RepS.nil' _ _ none 0 (by decide)), cr.oi, fb.oi⟩, rfl⟩
   refine .r 1 <| .d ?_
   have fc := dH.sl dG
   replace ⟨h2, h4, h5, h6, h7⟩ := (sd bI [aT, V, O] aT).g5 h2 h4 h5 h6 h7
   exact .rt Tryz.func100 Tryz.results100 (vS aT 2 2) ⟨(fc.vl (by (rw [flushSt_yes (by assumption) (by assumption) (by assumption) (by assumption)] <;> simp)) (fun _ _ h => h.1)), C⟩
  refine .ns 1 3 [vI d.next] fun hO cu => ?_
  replace ⟨h2, h4, h5, h6, h7, E, J, aq, C, W⟩ := (se [av, V, O] cu).g10 h2 h4 h5 h6 h7 E J aq C W
  clear cu
  intro di hP aU cv ax dI
  have dJ := nb_new aU E.lt
  have dK := nb_new aU J.lt
  have dL := nb_new aU aq.lt
  have dM := gb_new aU C.size
  replace ⟨h2, h4, h5, h6, h7, E, J, aq, C, W⟩ := (se [av, V, O] cv).g10 h2 h4 h5 h6 h7 E J aq C W
  clear cv dI aU
  refine .go 3 <| GE.append (T := 68) (ty := 68) (args := [vS av 0 0, .slice a2 d.list.length c2]) (by kernel_rfl) fun hQ cw => ?_
  replace ⟨h2, h4, h5, h6, h7, E, J, aq, ax, C, W⟩ := (se [av, V, O] cw).g11 h2 h4 h5 h6 h7 E J aq ax C W
  clear cw
  obtain ⟨bi, hV, hW, cx, aE, ar, bv, dN⟩ := Own.appendF (P := Tryz.prog) (T := 68) (ty := 68) flat_int aq (by kernel_rfl) h2 (fun b h e => h.2 (e ▸ (.head _))) (by omega)
  refine ⟨_, _, cx, Chg.toS bv (Cov.toS b0), ?_⟩
  clear dN
  have dO := nb_or ar bW E.lt
  have dP := nb_or ar bX J.lt
  have cy := nb_or ar (Nb.symm dL) ax.lt
  have dQ := gb_or ar bY C.size
  have fV := cov_or ar bZ C.size
  replace ⟨h2, h4, h5, h6, h7, E, J, ax, C, W⟩ := (sa [av, V, O] bv ar).g10 h2 h4 h5 h6 h7 E J ax C W
  clear bv
  replace aE := aE.rn av
  clear ar
  have fW := aE.len; have fX := aE.max
  refine .d fun hX cz => ?_
  replace ⟨h2, h4, h5, h6, h7, E, J, aE, ax, C, W⟩ := (se [bi, V, O] cz).g11 h2 h4 h5 h6 h7 E J aE ax C W
  clear cz
  replace h2 := h2.outof
  replace h4 := h4.outof
  replace h5 := h5.outof
  replace h6 := h6.outof
  replace h7 := h7.outof
  have bM : nin (ge w.heap.size) [bi, V, O] di ∧ di ≠ bi := hap_mk dM (all_cons (Nb.symm cy) (all_cons dK (all_cons dJ all_nil))) (Nb.symm cy)
  refine RG.append1 (T := 68) (ty := 68) (y := d.next) aE ax (by kernel_rfl) (by kernel_rfl) rfl bM (by omega) fun ay fd hY aa aJ cA => ?_
  have fY := nb_or aJ dO E.lt
  have fZ := nb_or aJ dP J.lt
  have dR := gb_or aJ dQ C.size
  replace ⟨h2, h4, h5, h6, h7, E, J, C⟩ := (sa [bi, V, O] cA aJ).g8 h2 h4 h5 h6 h7 E J C
  clear cA
  replace aa := aa.rn bi
  clear aJ
  have f0 := aa.len; have f3 := aa.max
  refine .r 1 <| .d <| .s <| .gd nil 11 fun hZ cB => ?_
  replace ⟨h2, h4, h5, h6, h7, E, J, aa, C⟩ := (se [ay, V, O] cB).g9 h2 h4 h5 h6 h7 E J aa C
  clear cB
  refine .r [0] <| .lb 1 E id <| .ln 2 J id <| .r [5, 6, 7] <| .lb 8 J id <| .go 3 <| .cl (fun cC aN => c_spec_l13Mem s (h4.ta.ext aN) (h5.ta.ext aN) (h6.ta.ext aN) (h7.ta.ext aN) p0 p1 (w := cC) (F := all)) ?_
  intro cC aN
  replace ⟨h2, h4, h5, h6, h7, E, J, aa, C⟩ := (se [ay, V, O] aN).g9 h2 h4 h5 h6 h7 E J aa C
  rintro ia ic ⟨⟨_, rfl, ⟨fe, ie, ff, fg, ig, fh, rfl, ag, ah⟩⟩, bw⟩
  have bz := al3 aa.lt J.lt E.lt
  have cD : Gb w.heap.size cC.heap.size := C.size
  have hkeep_ := bw
  replace ⟨h2, h4, h5, h6, h7, E, J, aa, C⟩ := (se [ay, V, O] bw).g9 h2 h4 h5 h6 h7 E J aa C
  clear bw
  refine ⟨Ext.chg hkeep_, ?_⟩
  have ag := ag.fr bz cD
  have f4 := ag.max
  have ah := ah.fr bz cD
  have f5 := ah.max
  clear bz
  have dS := ag.len
  subst dS
  have dT := ah.len
  subst dT
  refine .r [4] <| .go 9 <| .cl (fun cE bA => c_spec_l11Names s.idx.names (h4.ta.ext bA) (by omega) (by intro n hn; have := p4 n hn; omega) (w := cE) (F := all)) ?_
  intro cE bA
  replace ⟨h2, h4, h5, h6, h7, E, J, aa, ag, ah, C⟩ := (se [ay, V, O] bA).g11 h2 h4 h5 h6 h7 E J aa ag ah C
  rintro ii ij ⟨⟨aX, fi, fj, rfl, am, aO⟩, bB⟩
  have cF := al3 aa.lt J.lt E.lt
  have dU : Gb w.heap.size cE.heap.size := C.size
  have hkeep_ := bB
  have f6 := nb_ge aO E.lt
  have f7 := nb_ge aO J.lt
  have f8 := nb_ge aO aa.lt
  have dV := gb_ge aO C.size
  replace ⟨h2, h4, h5, h6, h7, E, J, aa, ag, ah, C⟩ := (sz [ay, V, O] bB aO).g11 h2 h4 h5 h6 h7 E J aa ag ah C
  clear bB aO
  refine ⟨Ext.chg hkeep_, ?_⟩
  replace am := Own.take (s0 := w.heap.size) (M := [ay, V, O]) am cF dU
  have f9 := am.len; have ga := am.max
  clear cF
  refine .r [10] <| .d fun ik cG => ?_
  replace ⟨h2, h4, h5, h6, h7, E, J, aa, ag, ah, am, C⟩ := (se [aX, ay, V, O] cG).g12 h2 h4 h5 h6 h7 E J aa ag ah am C
  clear cG
  refine .ns 2 95 [vI 1, vI d.next, .slice fe (((memPart s.mem).ids).length) ff, .slice fg (((memPart s.mem).blocks).length) fh, .slice none 0 0, .slice none 0 0, vI 2, vI 0, .slice none 0 0, .slice none 0 0, vS ay (0 + d.list.length + 1) fd, vS aX fi fj] fun aV bJ aF cH dW dX => ?_
  have gb := nb_new aF E.lt
  have gf := nb_new aF J.lt
  have gg := nb_new aF aa.lt
  have gh := nb_new aF am.lt
  have dY := gb_new aF C.size
  replace ⟨h2, h4, h5, h6, h7, E, J, aa, ag, ah, am, C⟩ := (sn [aX, ay, V, O] cH aF).g12 h2 h4 h5 h6 h7 E J aa ag ah am C
  clear cH dX aF
  have cI := aa.sl dR
  replace ⟨h2, h4, h5, h6, h7, ag, ah, am⟩ := (sd bJ [aV, aX, ay, V, O] ay).g8 h2 h4 h5 h6 h7 ag ah am
  have fk := am.sl dV
  replace ⟨h2, h4, h5, h6, h7, cI, ag, ah⟩ := (sd bJ [aV, aX, V, O] aX).g8 h2 h4 h5 h6 h7 cI ag ah
  have dZ : Own (α := Stp) bJ aV 95 (nin (ge w.heap.size) [aV, V, O]) 2 2 [(⟨1, d.next, (⟨(memPart s.mem).ids, (memPart s.mem).blocks⟩ : Prt), ([] : List Int), ([] : List (List Tag))⟩ : Stp), (⟨2, 0, (⟨([] : List Int), ([] : List (List Row))⟩ : Prt), (([] ++ d.list) ++ [d.next]), s.idx.names⟩ : Stp)] := Own.lit dW rfl (by decide) ⟨⟨_, _, _, _, _, _, _, _, _, _, _, _, rfl, ag.oi, ah.oi, (RepS.nil' _ _ none 0 (by decide)), (RepS.nil' _ _ none 0 (by decide))⟩, ⟨_, _, _, _, _, _, _, _, _, _, _, _, rfl, (RepS.nil' _ _ none 0 (by decide)), (RepS.nil' _ _ none 0 (by decide)), cI.oi, fk.oi⟩, rfl⟩
  refine .r 1 <| .d ?_
  have fl := dZ.sl dY
  replace ⟨h2, h4, h5, h6, h7⟩ := (sd bJ [aV, V, O] aV).g5 h2 h4 h5 h6 h7
  exact .rt Tryz.func100 Tryz.results100 (vS aV 2 2) ⟨(fl.vl (by (rw [flushSt_yes (by assumption) (by assumption) (by assumption) (by assumption)] <;> simp)) (fun _ _ h => h.1)), C⟩
 refine .ns 1 3 [vI d.next] fun il cJ => ?_
 replace ⟨h2, h4, h5, h6, h7, E, J, C, W⟩ := (se [V, O] cJ).g9 h2 h4 h5 h6 h7 E J C W
 clear cJ
 intro dj im ba cK ac d0
 have d3 := nb_new ba E.lt
 have d4 := nb_new ba J.lt
 have d5 := gb_new ba C.size
 replace ⟨h2, h4, h5, h6, h7, E, J, C, W⟩ := (se [V, O] cK).g9 h2 h4 h5 h6 h7 E J C W
 clear cK d0 ba
 refine .go 0 <| .ns 0 3 [] fun io cL => ?_
 replace ⟨h2, h4, h5, h6, h7, E, J, ac, C, W⟩ := (se [V, O] cL).g10 h2 h4 h5 h6 h7 E J ac C W
 clear cL
 intro aY fm az cM d6 d7
 have d8 := nb_new az E.lt
 have d9 := nb_new az J.lt
 have ea := nb_new az ac.lt
 have eb := gb_new az C.size
 have ec := C.cn az
 have ed := W.cn az
 replace ⟨h2, h4, h5, h6, h7, E, J, ac, C⟩ := (sn [V, O] cM az).g9 h2 h4 h5 h6 h7 E J ac C
 clear cM d7 az
 have bC : Own (α := Int) fm aY 3 (nin (ge w.heap.size) [aY, V, O]) 0 0 [] := Own.nil' d6
 refine .go 3 <| GE.append (T := 68) (ty := 68) (args := [vS aY 0 0, .slice a2 d.list.length c2]) (by kernel_rfl) fun ip cN => ?_
 replace ⟨h2, h4, h5, h6, h7, E, J, ac, bC, C⟩ := (se [aY, V, O] cN).g10 h2 h4 h5 h6 h7 E J ac bC C
 clear cN
 obtain ⟨bj, iq, ir, cO, aG, au, bD, ee⟩ := Own.appendF (P := Tryz.prog) (T := 68) (ty := 68) flat_int bC (by kernel_rfl) h2 (fun b h e => h.2 (e ▸ (.head _))) (by omega)
 refine ⟨_, _, cO, Chg.toS bD (Cov.toS ed), ?_⟩
 clear ee
 have ef := nb_or au d8 E.lt
 have eg := nb_or au d9 J.lt
 have cP := nb_or au ea ac.lt
 have eh := gb_or au eb C.size
 have gi := cov_or au ec C.size
 replace ⟨h4, h5, h6, h7, E, J, ac, C⟩ := (sa [aY, V, O] bD au).g8 h4 h5 h6 h7 E J ac C
 clear bD
 replace aG := aG.rn aY
 clear au
 have gj := aG.len; have gk := aG.max
 refine .d fun iu cQ => ?_
 replace ⟨h4, h5, h6, h7, E, J, ac, aG, C⟩ := (se [bj, V, O] cQ).g9 h4 h5 h6 h7 E J ac aG C
 clear cQ
 replace h4 := h4.outof
 replace h5 := h5.outof
 replace h6 := h6.outof
 replace h7 := h7.outof
 have bN : nin (ge w.heap.size) [bj, V, O] dj ∧ dj ≠ bj := hap_mk d5 (all_cons (Nb.symm cP) (all_cons d4 (all_cons d3 all_nil))) (Nb.symm cP)
 refine RG.append1 (T := 68) (ty := 68) (y := d.next) aG ac (by kernel_rfl) (by kernel_rfl) rfl bN (by omega) fun aA fp iw ab aK cR => ?_
 have gl := nb_or aK ef E.lt
 have gm := nb_or aK eg J.lt
 have ei := gb_or aK eh C.size
 replace ⟨h4, h5, h6, h7, E, J, C⟩ := (sa [bj, V, O] cR aK).g7 h4 h5 h6 h7 E J C
 clear cR
 replace ab := ab.rn bj
 clear aK
 have gn := ab.len; have gp := ab.max
 refine .r 1 <| .d <| .s <| .gd nil 11 fun iy cS => ?_
 replace ⟨h4, h5, h6, h7, E, J, ab, C⟩ := (se [aA, V, O] cS).g8 h4 h5 h6 h7 E J ab C
 clear cS
 refine .r [0] <| .lb 1 E id <| .ln 2 J id <| .r [5, 6, 7] <| .lb 8 J id <| .go 3 <| .cl (fun cT aP => c_spec_l13Mem s (h4.ta.ext aP) (h5.ta.ext aP) (h6.ta.ext aP) (h7.ta.ext aP) p0 p1 (w := cT) (F := all)) ?_
 intro cT aP
 replace ⟨h4, E, J, ab, C⟩ := (se [aA, V, O] aP).g5 h4 E J ab C
 rintro iz iA ⟨⟨_, rfl, ⟨fq, iB, ft, fu, iC, fv, rfl, ai, aj⟩⟩, bE⟩
 have bF := al3 ab.lt J.lt E.lt
 have cU : Gb w.heap.size cT.heap.size := C.size
 have hkeep_ := bE
 replace ⟨h4, E, J, ab, C⟩ := (se [aA, V, O] bE).g5 h4 E J ab C
 clear bE
 refine ⟨Ext.chg hkeep_, ?_⟩
 have ai := ai.fr bF cU
 have gq := ai.max
 have aj := aj.fr bF cU
 have gr := aj.max
 clear bF
 have ej := ai.len
 subst ej
 have ek := aj.len
 subst ek
 refine .r [4] <| .go 9 <| .cl (fun cV bG => c_spec_l11Names s.idx.names (h4.ta.ext bG) (by omega) (by intro n hn; have := p4 n hn; omega) (w := cV) (F := all)) ?_
 intro cV bG
 replace ⟨E, J, ab, ai, aj, C⟩ := (se [aA, V, O] bG).g6 E J ab ai aj C
 rintro iD iE ⟨⟨aZ, fw, fx, rfl, ao, aQ⟩, bH⟩
 have cW := al3 ab.lt J.lt E.lt
 have em : Gb w.heap.size cV.heap.size := C.size
 have hkeep_ := bH
 have gs := nb_ge aQ E.lt
 have gt := nb_ge aQ J.lt
 have gu := nb_ge aQ ab.lt
 have en := gb_ge aQ C.size
 replace ⟨E, J, ab, ai, aj, C⟩ := (sz [aA, V, O] bH aQ).g6 E J ab ai aj C
 clear bH aQ
 refine ⟨Ext.chg hkeep_, ?_⟩
 replace ao := Own.take (s0 := w.heap.size) (M := [aA, V, O]) ao cW em
 have gv := ao.len; have gw := ao.max
 clear cW
 refine .r [10] <| .d fun iF cX => ?_
 replace ⟨E, J, ab, ai, aj, ao, C⟩ := (se [aZ, aA, V, O] cX).g7 E J ab ai aj ao C
 clear cX
 refine .ns 2 95 [vI 1, vI d.next, .slice fq (((memPart s.mem).ids).length) ft, .slice fu (((memPart s.mem).blocks).length) fv, .slice none 0 0, .slice none 0 0, vI 2, vI 0, .slice none 0 0, .slice none 0 0, vS aA (0 + d.list.length + 1) fp, vS aZ fw fx] fun bk cY aH cZ eo ep => ?_
 have gx := nb_new aH E.lt
 have gy := nb_new aH J.lt
 have gz := nb_new aH ab.lt
 have gA := nb_new aH ao.lt
 have es := gb_new aH C.size
 replace ⟨ab, ai, aj, ao, C⟩ := (sn [aZ, aA, V, O] cZ aH).g5 ab ai aj ao C
 clear cZ ep aH
 have c8 := ab.sl ei
 replace ⟨ai, aj, ao⟩ := (sd cY [bk, aZ, aA, V, O] aA).g3 ai aj ao
 have fy := ao.sl en
 replace ⟨c8, ai, aj⟩ := (sd cY [bk, aZ, V, O] aZ).g3 c8 ai aj
 have et : Own (α := Stp) cY bk 95 (nin (ge w.heap.size) [bk, V, O]) 2 2 [(⟨1, d.next, (⟨(memPart s.mem).ids, (memPart s.mem).blocks⟩ : Prt), ([] : List Int), ([] : List (List Tag))⟩ : Stp), (⟨2, 0, (⟨([] : List Int), ([] : List (List Row))⟩ : Prt), (([] ++ d.list) ++ [d.next]), s.idx.names⟩ : Stp)] := Own.lit eo rfl (by decide) ⟨⟨_, _, _, _, _, _, _, _, _, _, _, _, rfl, ai.oi, aj.oi, (RepS.nil' _ _ none 0 (by decide)), (RepS.nil' _ _ none 0 (by decide))⟩, ⟨_, _, _, _, _, _, _, _, _, _, _, _, rfl, (RepS.nil' _ _ none 0 (by decide)), (RepS.nil' _ _ none 0 (by decide)), c8.oi, fy.oi⟩, rfl⟩
 refine .r 1 <| .d ?_
 have fz := et.sl es
 exact .rt Tryz.func100 Tryz.results100 (vS bk 2 2) ⟨(fz.vl (by (rw [flushSt_yes (by assumption) (by assumption) (by assumption) (by assumption)] <;> simp)) (fun _ _ h => h.1)), C⟩
theorem c_spec_l13Copy (s : Sto) {w : World} {F : Nat → Prop} {a1 : Option Addr} {n1 c1 : Nat} (h1 : RepS w F a1 n1 c1 s.idx.names) {a2 : Option Addr} {n2 c2 : Nat} (h2 : RepS w F a2 n2 c2 s.idx.posts) {a3 : Option Addr} {n3 c3 : Nat} (h3 : RepS w F a3 n3 c3 s.parts) {a4 : Option Addr} {n4 c4 : Nat} (h4 : RepS w F a4 n4 c4 s.mem) (p0 : StoSz s) : Calls Tryz.prog 60 [.agg #[.slice a1 n1 c1, .slice a2 n2 c2, .slice a3 n3 c3, .slice a4 n4 c4]].toArray w (rets fun rv w' => (∃ (a0 : Option Addr) (n0 c0 : Nat) (a1 : Option Addr) (n1 c1 : Nat) (a2 : Option Addr) (n2 c2 : Nat) (r3 n3 c3 : Nat), rv = .agg #[.slice a0 n0 c0, .slice a1 n1 c1, .slice a2 n2 c2, .slice (some ⟨r3, 0, none⟩) n3 c3] ∧ RepS w' (nin (ge w.heap.size) [r3]) a0 n0 c0 ((((copyS s)).idx).names) ∧ RepS w' (nin (ge w.heap.size) [r3]) a1 n1 c1 ((((copyS s)).idx).posts) ∧ RepS w' (nin (ge w.heap.size) [r3]) a2 n2 c2 (((copyS s)).parts) ∧ Own w' r3 51 (nin (ge w.heap.size) [r3]) n3 c3 (((copyS s)).mem) ∧ w.heap.size ≤ r3) ∧ Ext w w') := by
 refine goT Tryz.func60 ?_
 obtain ⟨rfl, hC, h1⟩ := h1.tp
 obtain ⟨rfl, hD, h2⟩ := h2.tp
 obtain ⟨rfl, hE, h3⟩ := h3.tp
 obtain ⟨rfl, hH, h4⟩ := h4.tp
 refine .s <| .g <| .np 30 [.slice a1 s.idx.names.length c1, .slice a2 s.idx.posts.length c2, .slice a3 s.parts.length c3, .slice a4 s.mem.length c4] fun W iY cM bS J e0 => ?_
 replace ⟨h1, h3, h4⟩ := (sn [] bS cM).g3 h1 h3 h4
 have C := bS
 clear bS e0 cM
 refine .np 30 [.slice none 0 0, .slice none 0 0, .slice none 0 0, .slice none 0 0] fun aa iZ bM cN O e7 => ?_
 have hJ := nb_new bM J.lt
 have hN := C.cn bM
 replace ⟨h1, h3, h4, J, C⟩ := (sn [W] cN bM).g5 h1 h3 h4 J C
 clear cN e7 bM
 refine .d <| .s <| .g <| .ns 0 75 [] fun bi bT aZ cO e8 e9 => ?_
 have fa := nb_new aZ J.lt
 have fb := nb_new aZ O.lt
 have fc := gb_new aZ C.size
 have fd := C.cn aZ
 replace ⟨h1, h3, h4, J, O, C⟩ := (sn [aa, W] cO aZ).g6 h1 h3 h4 J O C
 clear cO e9 aZ
 have fe : Own (α := Prt) bT bi 75 (nin (ge w.heap.size) [bi, aa, W]) 0 0 [] := Own.nil' e8
 refine .r 1 <| .d <| .s <| .s <| .g <| .r 1 <| .d <| .b 0 <| T.loop (X := (List Prt) × Nat × Nat × Nat × Nat) (([] : List Prt), bi, 0, 0, 0) (fun (k, r_k, n_k, c_k, k1) => [(1, .pointer (some ⟨W, 0, none⟩)), (2, .pointer (some ⟨aa, 0, none⟩)), (3, vS r_k n_k c_k), (4, vI (k1 : Int))]) (fun (k, r_k, n_k, c_k, k1) aX => Chg (ins [bi]) bT aX ∧ Own aX r_k 75 (nin (ge w.heap.size) [r_k, aa, W]) n_k c_k k ∧ OrB r_k bi bT.heap.size ∧ (k1 ≤ s.parts.length) ∧ (k.length ≤ k1) ∧ (k ++ s.parts.drop k1 = s.parts)) (fun (k, r_k, n_k, c_k, k1) => s.parts.length - k1) (by kernel_rfl) ⟨by kernel_rfl, by kernel_rfl, by kernel_rfl, by kernel_rfl, trivial⟩ ⟨Chg.refl _ _, fe, orb_refl, (by simp), (by simp), (by simp)⟩ ?_
 rintro ⟨k, r_k, n_k, c_k, k1⟩ ja aX ⟨V, E, aT, hO, hP, hQ⟩ bU
 have bV := nb_or' aT fa J.lt
 have hV := nb_or' aT fb O.lt
 have cP := gb_or' aT fc C.size
 have hW := cov_or' aT fd C.size
 have ff : Cov (ins [bi]) bT bi := ⟨.inl (.head _)⟩
 have hX := cov_or' aT ff (Nat.le_refl _)
 have cQ : Mv [bi, aa, W] [r_k, aa, W] bT aX := Mv.inl V (all_cons (.head _) all_nil) (all_cons (orb_mem aT (.head _)) (all_cons (.inl (.tail _ (.head _))) (all_cons (.inl (.tail _ (.tail _ (.head _)))) all_nil)))
 replace ⟨h1, h3, h4, J, O, C⟩ := (sp cQ V).g6 h1 h3 h4 J O C
 clear cQ
 have hY := E.len; have hZ := E.max
 refine .s <| .s <| .g <| .r 2 <| .lb J <| .r 1 <| .bp ((k1 : Int) < (s.parts.length : Int)) (fun fg => ?_) (fun fg => ?_)
 ·refine .d <| .ct <| .sk <| .s <| .b 1 <| .s <| .g <| .ns 0 3 [] fun cL fX aR cR fh fi => ?_
  have fj := nb_new aR J.lt
  have fk := nb_new aR O.lt
  have fl := nb_new aR E.lt
  have fm := gb_new aR C.size
  have fp := C.cn aR
  have fq := V.cn aR
  replace ⟨h1, h3, h4, J, O, E, C, V⟩ := (sn [r_k, aa, W] cR aR).g8 h1 h3 h4 J O E C V
  clear cR fi aR
  have ft : Own (α := Int) fX cL 3 (nin (ge w.heap.size) [cL, r_k, aa, W]) 0 0 [] := Own.nil' fh
  refine .r 1 <| .lb J <| .r 1 ?_
  have fu : k1 < s.parts.length := (by omega)
  refine .ix k1 2 h3 fu <| .r 1 ?_
  obtain ⟨aB, ba⟩ : ∃ y, s.parts[k1]? = some y := ⟨_, List.getElem?_eq_getElem (by omega)⟩
  have ia := drop_at ba; have fW := List.mem_of_getElem? ba
  obtain ⟨_, ⟨jb, jc, jd, je, jf, jg, rfl, dg, fv⟩, fw⟩ := h3.elem k1 aB ba
  have fx := dg.len
  subst fx
  have ic := dg.max
  have dh := fv.len
  subst dh
  have fY := fv.max
  refine .lh 0 fw <| RG.appendF (T := 68) (ty := 68) flat_int ft dg (by kernel_rfl) (by kernel_rfl) (fun b h e => h.2 (e ▸ (.head _))) (by have q1 := p0.2.1; have q2 := p0.2.2.2; (have q3 := p0.2.2.1 _ (by assumption); have q4 := q3.1; have q5 := q3.2.1; omega)) fun aC cS ie aj av bX => ?_
  have di := nb_or av fj J.lt
  have dj := nb_or av fk O.lt
  have dk := nb_or av fl E.lt
  have dm := gb_or av fm C.size
  have fZ := cov_or av fp C.size
  have f0 := cov_or av fq V.size
  replace ⟨h1, h3, h4, J, O, E, C, V⟩ := (sa [cL, r_k, aa, W] bX av).g8 h1 h3 h4 J O E C V
  clear bX
  replace aj := aj.rn cL
  clear av
  have f3 := aj.len; have f4 := aj.max
  refine .ns 0 42 [] fun aA fB ay bY dp dq => ?_
  have dr := nb_new ay J.lt
  have dt := nb_new ay O.lt
  have du := nb_new ay E.lt
  have dv := nb_new ay aj.lt
  have dw := gb_new ay C.size
  have dx := C.cn ay
  have dy := V.cn ay
  replace ⟨h1, h3, h4, J, O, E, aj, C, V⟩ := (sn [aC, r_k, aa, W] bY ay).g9 h1 h3 h4 J O E aj C V
  clear bY dq ay
  have aO : Own (α := List Row) fB aA 42 (nin (ge w.heap.size) [aA, aC, r_k, aa, W]) 0 0 [] := Own.nil' dp
  refine .r 1 <| .np 75 [.slice none 0 0, .slice none 0 0] fun ae ig az bZ dz dA => ?_
  have f5 := nb_new az J.lt
  have f6 := nb_new az O.lt
  have dB := nb_new az E.lt
  have dC := nb_new az aj.lt
  have dD := nb_new az aO.lt
  have f7 := C.cn az
  have f8 := V.cn az
  replace ⟨h1, h3, h4, J, O, E, aj, aO, C, V⟩ := (sn [aA, aC, r_k, aa, W] bZ az).g10 h1 h3 h4 J O E aj aO C V
  clear bZ dA az
  refine .sc [vS aC (0 + aB.ids.length) cS, vS aA 0 0] dz fun bc b0 bq dE => ?_
  replace ⟨h1, h3, h4, J, O, E, aj, aO, C, V⟩ := (so [ae, aA, aC, r_k, aa, W] b0).g10 h1 h3 h4 J O E aj aO C V
  clear b0 dE
  refine .d <| .s <| .s <| .g <| .r 1 <| .d <| .b 2 <| T.loop (X := Nat × (List Int) × Nat × Nat × Nat × (List (List Row)) × Nat × Nat × Nat) (0, (([] ++ aB.ids) : List Int), aC, 0 + aB.ids.length, cS, ([] : List (List Row)), aA, 0, 0) (fun (k2, bk, r_k_0, n_k_0, c_k_0, aY, r_k_1, n_k_1, c_k_1) => [(1, .pointer (some ⟨W, 0, none⟩)), (2, .pointer (some ⟨aa, 0, none⟩)), (3, vS r_k n_k c_k), (4, vI (k1 : Int)), (5, .pointer (some ⟨ae, 0, none⟩)), (6, vI (k2 : Int))]) (fun (k2, bk, r_k_0, n_k_0, c_k_0, aY, r_k_1, n_k_1, c_k_1) ax => Chg (ins [aC, aA, ae]) bc ax ∧ Own ax r_k_0 3 (nin (ge w.heap.size) [ae, r_k_1, r_k_0, r_k, aa, W]) n_k_0 c_k_0 bk ∧ OrB r_k_0 aC bc.heap.size ∧ Own ax r_k_1 42 (nin (ge w.heap.size) [ae, r_k_1, r_k_0, r_k, aa, W]) n_k_1 c_k_1 aY ∧ OrB r_k_1 aA bc.heap.size ∧ Nb r_k_1 r_k_0 ∧ Box ax ae 75 [vS r_k_0 n_k_0 c_k_0, vS r_k_1 n_k_1 c_k_1] ∧ (k2 ≤ aB.blocks.length) ∧ (bk = aB.ids) ∧ (aY.length ≤ k2) ∧ (aY ++ aB.blocks.drop k2 = aB.blocks)) (fun (k2, bk, r_k_0, n_k_0, c_k_0, aY, r_k_1, n_k_1, c_k_1) => aB.blocks.length - k2) (by kernel_rfl) ⟨by kernel_rfl, by kernel_rfl, by kernel_rfl, by kernel_rfl, by kernel_rfl, by kernel_rfl, trivial⟩ ⟨Chg.refl _ _, aj, orb_refl, aO, orb_refl, dv, bq, (by simp), (by simp), (by simp), (by simp)⟩ ?_
  rintro ⟨k2, bk, r_k_0, n_k_0, c_k_0, aY, r_k_1, n_k_1, c_k_1⟩ ii ax ⟨af, Z, aG, ab, aw, dF, ac, f9, ga, gb, gf⟩ bP
  have dG := nb_or' aG di J.lt
  have gg := nb_or' aG dj O.lt
  have gh := nb_or' aG dk E.lt
  have dH := nb_or' aG (Nb.symm dC) bq.lt
  have dI := gb_or' aG dm C.size
  have dJ := nb_or' aw dr J.lt
  have gi := nb_or' aw dt O.lt
  have gj := nb_or' aw du E.lt
  have b6 := nb_or' aw (Nb.symm dD) bq.lt
  have dK := gb_or' aw dw C.size
  have gk := cov_or' aw dx C.size
  have gl := cov_or' aw dy V.size
  have dL : Cov (ins [aC, aA, ae]) bc aA := ⟨.inl (.tail _ (.head _))⟩
  have gm : Cov (ins [aC, aA, ae]) bc ae := ⟨.inl (.tail _ (.tail _ (.head _)))⟩
  have gn := cov_or' aw dL (Nat.le_refl _)
  have b7 : Mv [ae, aA, aC, r_k, aa, W] [ae, r_k_1, r_k_0, r_k, aa, W] bc ax := Mv.inl af (all_cons (.tail _ (.tail _ (.head _))) (all_cons (.tail _ (.head _)) (all_cons (.head _) all_nil))) (all_cons (.inl (.head _)) (all_cons (orb_mem aw (.tail _ (.head _))) (all_cons (orb_mem aG (.tail _ (.tail _ (.head _)))) (all_cons (.inl (.tail _ (.tail _ (.tail _ (.head _))))) (all_cons (.inl (.tail _ (.tail _ (.tail _ (.tail _ (.head _)))))) (all_cons (.inl (.tail _ (.tail _ (.tail _ (.tail _ (.tail _ (.head _))))))) all_nil))))))
  replace ⟨h1, h3, h4, J, O, E, C, V⟩ := (sp b7 af).g8 h1 h3 h4 J O E C V
  clear b7
  have gp := Z.len; have gq := Z.max
  have gr := ab.len; have gs := ab.max
  refine .s <| .s <| .g <| .r 2 <| .lb J <| .r 1 ?_
  have dM : k1 < s.parts.length := (by omega)
  refine .ix k1 2 h3 dM <| .r 1 ?_
  obtain ⟨_, ⟨ij, ik, il, im, io, ip, rfl, fC, fD⟩, dN⟩ := h3.elem k1 aB ba
  have dO := fC.len
  subst dO
  have dP := fD.len
  subst dP
  refine .lh 1 dN <| .r 1 <| .bp ((k2 : Int) < (aB.blocks.length : Int)) (fun dQ => ?_) (fun dQ => ?_)
  ·refine .d <| .ct <| .sk <| .s <| .b 3 ?_
   replace h1 := h1.into
   replace h3 := h3.into
   replace h4 := h4.into
   have dR : Gb (W + 1) ax.heap.size := J.lt
   have dS : Gb (ae + 1) ax.heap.size := ac.lt
   refine .gd (mtb [r_k, r_k_0, r_k_1] ax.heap.size) 14 fun fE br => ?_
   replace ⟨h1, h3, h4, J, O, E, Z, ab, ac, C, V, af⟩ := (se [ae, r_k_1, r_k_0, r_k, aa, W] br).g12 h1 h3 h4 J O E Z ab ac C V af
   have bt : Chg (mtb [r_k, r_k_0, r_k_1] ax.heap.size) ax fE := Chg.stepN (Chg.refl (mtb [r_k, r_k_0, r_k_1] ax.heap.size) ax) br
   clear br
   refine .r [0] <| .lb 1 ac (nS_of (all_cons dB (all_cons (Nb.symm dH) (all_cons (Nb.symm b6) all_nil))) dS) <| .r [3] <| .lb 4 J (nS_of (all_cons (Nb.symm bV) (all_cons (Nb.symm dG) (all_cons (Nb.symm dJ) all_nil))) dR) <| .r [5] ?_
   have dT : k1 < s.parts.length := (by omega)
   refine .ix 6 k1 2 h3 dT <| .r [7] ?_
   obtain ⟨_, ⟨iq, ir, iu, iw, iy, iz, rfl, fF, bO⟩, dU⟩ := h3.elem k1 aB ba
   have dV := fF.len
   subst dV
   have dW := bO.len
   subst dW
   refine .lh 8 1 dU (h3.nS (pos_of ba) (all_cons (.tail _ (.tail _ (.tail _ (.head _)))) (all_cons (.tail _ (.tail _ (.head _))) (all_cons (.tail _ (.head _)) all_nil)))) <| .r [9] ?_
   have dX : k2 < aB.blocks.length := (by omega)
   refine .ix 10 k2 1 bO dX ?_
   obtain ⟨bm, bg⟩ : ∃ y, aB.blocks[k2]? = some y := ⟨_, List.getElem?_eq_getElem (by omega)⟩
   have gt := drop_at bg; have fG := List.mem_of_getElem? bg
   obtain ⟨_, ⟨fH, iA, fI, rfl, aK⟩, dY⟩ := bO.elem k2 bm bg
   have dZ := aK.len
   subst dZ
   have gu := aK.max
   refine .lh 11 0 dY (bO.nS (pos_of bg) (all_cons (.tail _ (.tail _ (.tail _ (.head _)))) (all_cons (.tail _ (.tail _ (.head _))) (all_cons (.tail _ (.head _)) all_nil)))) <| .go 2 <| .ns 0 33 [] fun iB bu => ?_
   replace ⟨h1, h4, J, O, E, Z, ab, ac, aK, C, V, af⟩ := (se [ae, r_k_1, r_k_0, r_k, aa, W] bu).g12 h1 h4 J O E Z ab ac aK C V af
   replace bt := (se [ae, r_k_1, r_k_0, r_k, aa, W] bu).g1 bt
   clear bu
   intro aV fJ ak b8 d0 d3
   have d4 := nb_new ak J.lt
   have d5 := nb_new ak O.lt
   have d6 := nb_new ak E.lt
   have d7 := nb_new ak Z.lt
   have d8 := nb_new ak ab.lt
   have d9 := nb_new ak ac.lt
   have ea := gb_new ak C.size
   have gv := C.cn ak
   have gw := V.cn ak
   have gx := af.cn ak
   have eb := bt.cn ak
   replace ⟨h1, h4, J, O, E, Z, ab, ac, aK, C, V, af⟩ := (sn [ae, r_k_1, r_k_0, r_k, aa, W] b8 ak).g12 h1 h4 J O E Z ab ac aK C V af
   clear b8 d3 ak
   have bv : Own (α := Row) fJ aV 33 (nin (ge w.heap.size) [aV, ae, r_k_1, r_k_0, r_k, aa, W]) 0 0 [] := Own.nil' d0
   refine .go 12 <| GE.append (T := 42) (ty := 42) (args := [vS aV 0 0, .slice fH bm.length fI]) (by kernel_rfl) fun iC bw => ?_
   replace ⟨h1, h4, J, O, E, Z, ab, ac, aK, bv, C, V⟩ := (se [aV, ae, r_k_1, r_k_0, r_k, aa, W] bw).g12 h1 h4 J O E Z ab ac aK bv C V
   replace af := (se [aV, ae, r_k_1, r_k_0, r_k, aa, W] bw).g1 af
   clear bw
   obtain ⟨aW, fK, iD, b9, am, al, bz, ec⟩ := Own.appendF (P := Tryz.prog) (T := 42) (ty := 42) flat_row bv (by kernel_rfl) aK (fun b h e => h.2 (e ▸ (.head _))) (by have q1 := p0.2.1; have q2 := p0.2.2.2; (have q3 := p0.2.2.1 _ (by assumption); have q4 := q3.1; have q5 := q3.2.1; (have q6 := q3.2.2 _ (by assumption); omega)))
   refine ⟨_, _, b9, Chg.toS bz (Cov.toS eb), ?_⟩
   clear ec
   have gy := nb_or al d4 J.lt
   have gz := nb_or al d5 O.lt
   have gA := nb_or al d6 E.lt
   have gC := nb_or al d7 Z.lt
   have gD := nb_or al d8 ab.lt
   have gE := nb_or al d9 ac.lt
   have ed := gb_or al ea C.size
   replace ⟨h1, h4, J, O, E, Z, ab, ac, C, V, af⟩ := (sa [aV, ae, r_k_1, r_k_0, r_k, aa, W] bz al).g11 h1 h4 J O E Z ab ac C V af
   clear bz
   replace am := am.rn aV
   clear al
   have gF := am.len; have gG := am.max
   refine .go 13 <| .ns 1 42 [vS aW (0 + bm.length) fK] fun iE cd => ?_
   replace ⟨h1, h4, J, O, E, Z, ab, ac, am, C, V, af⟩ := (se [aW, ae, r_k_1, r_k_0, r_k, aa, W] cd).g12 h1 h4 J O E Z ab ac am C V af
   clear cd
   intro cT iF aD ce bA ee
   have ef := nb_new aD J.lt
   have eg := nb_new aD O.lt
   have eh := nb_new aD E.lt
   have ei := nb_new aD Z.lt
   have cg := nb_new aD ab.lt
   have ej := nb_new aD ac.lt
   have ek := gb_new aD C.size
   replace ⟨h1, h4, J, O, E, Z, ab, ac, am, C, V, af⟩ := (se [aW, ae, r_k_1, r_k_0, r_k, aa, W] ce).g12 h1 h4 J O E Z ab ac am C V af
   clear ce ee aD
   refine .d fun fL bB => ?_
   replace ⟨h1, h4, J, O, E, Z, ab, ac, am, bA, C, V⟩ := (se [aW, ae, r_k_1, r_k_0, r_k, aa, W] bB).g12 h1 h4 J O E Z ab ac am bA C V
   replace af := (se [aW, ae, r_k_1, r_k_0, r_k, aa, W] bB).g1 af
   clear bB
   replace h1 := h1.outof
   replace h4 := h4.outof
   have fM := am.sl ed
   replace ⟨h1, h4, E, Z, ab⟩ := (sd fL [aW, ae, r_k_1, r_k_0, r_k, aa, W] aW).g5 h1 h4 E Z ab
   have bQ : nin (ge w.heap.size) [ae, r_k_1, r_k_0, r_k, aa, W] cT ∧ cT ≠ r_k_1 := hap_mk ek (all_cons ej (all_cons cg (all_cons ei (all_cons eh (all_cons eg (all_cons ef all_nil)))))) cg
   refine RG.append1 (T := 73) (ty := 73) (y := ([] ++ bm)) ab bA (by kernel_rfl) (by kernel_rfl) ⟨_, _, _, rfl, fM.oi⟩ bQ (by have q1 := p0.2.1; have q2 := p0.2.2.2; (have q3 := p0.2.2.1 _ (by assumption); have q4 := q3.1; have q5 := q3.2.1; omega)) fun ci cU iG aH aL cj => ?_
   have em := nb_or aL dF Z.lt
   have gH := nb_or aL b6 ac.lt
   have en := orb_or aL aw af.size
   replace ⟨h1, h4, J, O, E, Z, ac, C, V, af⟩ := (sa [ae, r_k_1, r_k_0, r_k, aa, W] cj aL).g10 h1 h4 J O E Z ac C V af
   clear cj
   replace aH := aH.rn r_k_1
   clear aL
   have gI := aH.len; have gJ := aH.max
   refine .r 1 <| .ss 1 (vS ci (n_k_1 + 1) cU) ac fun iH ck eo ep => ?_
   replace ⟨h1, h4, J, O, E, Z, aH, C, V, af⟩ := (so [ae, ci, r_k_0, r_k, aa, W] ck).g10 h1 h4 J O E Z aH C V af
   clear ck ep
   exact .d <| .ib 3 <| .g <| .r 1 <| .it ((k2 : Int) + 1) <| .r 1 <| .d <| bP (k2 + 1, bk, r_k_0, n_k_0, c_k_0, (aY ++ [([] ++ bm)]), ci, n_k_1 + 1, cU) _ _ ⟨by kernel_rfl, by kernel_rfl, by kernel_rfl, by kernel_rfl, by kernel_rfl, by kernel_rfl, trivial⟩ ⟨af, Z, aG, aH, en, em, eo, (by omega), (by assumption), (by simp; omega), (by exact appStep (by assumption) (by assumption))⟩ (by (simp only []; omega))
  refine .d <| .cf <| .x 2 rfl <| .g <| .r 1 <| .ln ac <| .ns 1 75 [vS r_k_0 n_k_0 c_k_0, vS r_k_1 n_k_1 c_k_1] fun cV cW aP cm es et => ?_
  have ew := nb_new aP J.lt
  have ex := nb_new aP O.lt
  have co := nb_new aP E.lt
  have ey := nb_new aP ac.lt
  have ez := gb_new aP C.size
  replace ⟨h1, h4, J, O, E, Z, ab, C, V⟩ := (se [ae, r_k_1, r_k_0, r_k, aa, W] cm).g9 h1 h4 J O E Z ab C V
  clear cm et aP
  have cp := Z.sl dI
  replace ⟨h1, h4, E, ab⟩ := (sd cW [ae, r_k_1, r_k_0, r_k, aa, W] r_k_0).g4 h1 h4 E ab
  have fN := ab.sl dK
  replace ⟨h1, h4, E, cp⟩ := (sd cW [ae, r_k_1, r_k, aa, W] r_k_1).g4 h1 h4 E cp
  have bR : nin (ge w.heap.size) [ae, r_k, aa, W] cV ∧ cV ≠ r_k := hap_mk ez (all_cons ey (all_cons co (all_cons ex (all_cons ew all_nil)))) co
  refine RG.append1 (T := 27) (ty := 27) (y := (⟨bk, aY⟩ : Prt)) E es (by kernel_rfl) (by kernel_rfl) ⟨_, _, _, _, _, _, rfl, cp.oi, fN.oi⟩ bR (by have q1 := p0.2.1; have q2 := p0.2.2.2; omega) fun cq fO cX aI bh cr => ?_
  have eA := orb_or bh aT V.size
  replace ⟨h1, h4, J, O, C, V⟩ := (sa [ae, r_k, aa, W] cr bh).g6 h1 h4 J O C V
  clear cr
  replace aI := aI.rn r_k
  clear bh
  have gK := aI.len; have gL := aI.max
  refine .r 1 <| .d <| .ib 1 <| .g <| .r 1 <| .it ((k1 : Int) + 1) <| .r 1 <| .d ?_
  have eB : Mv [ae, cq, aa, W] [cq, aa, W] cX cX := Mv.less (all_cons (.tail _ (.head _)) (all_cons (.tail _ (.tail _ (.head _))) (all_cons (.tail _ (.tail _ (.tail _ (.head _)))) all_nil)))
  replace ⟨h1, h4, aI⟩ := (sp eB (Chg.refl nil _)).g3 h1 h4 aI
  exact bU ((k ++ [(⟨bk, aY⟩ : Prt)]), cq, n_k + 1, fO, k1 + 1) _ _ ⟨by kernel_rfl, by kernel_rfl, by kernel_rfl, by kernel_rfl, trivial⟩ ⟨V, aI, eA, (by omega), (by simp; omega), (by exact copyStep (by assumption) (by assumption) (by assumption) (by have q1 := drop_end (xs := aB.blocks) (k := k2) (by omega); have q2 : aY ++ aB.blocks.drop k2 = aB.blocks := (by assumption); rw [q1, List.append_nil] at q2; exact q2))⟩ (by (simp only []; omega))
 refine .d <| .cf <| .x 0 rfl <| .s ?_
 replace h1 := h1.into
 replace h4 := h4.into
 have cu : Gb (W + 1) aX.heap.size := J.lt
 refine .gd (mtb [r_k] aX.heap.size) 9 fun fP bC => ?_
 replace ⟨h1, h4, J, O, E, C⟩ := (se [r_k, aa, W] bC).g6 h1 h4 J O E C
 have ag : Chg (mtb [r_k] aX.heap.size) aX fP := Chg.stepN (Chg.refl (mtb [r_k] aX.heap.size) aX) bC
 clear bC
 refine .r [0, 1] <| .lb 2 J (nS_of (all_cons (Nb.symm bV) all_nil) cu) <| .r [4, 6] <| .lb 7 J (nS_of (all_cons (Nb.symm bV) all_nil) cu) <| .tw 3 5 ?_ ?_
 ·refine .cl (fun cv bD => c_spec_l11Of s.idx.names (h1.ta.ext bD) p0.1.1 p0.1.2 (w := cv) (F := all)) ?_
  intro cv bD
  replace ⟨h1, h4, J, O, E, C, ag⟩ := (se [r_k, aa, W] bD).g7 h1 h4 J O E C ag
  rintro iI iJ ⟨⟨_, rfl, ⟨cY, iK, cZ, c7, iL, c8, rfl, ah, ai⟩⟩, bE⟩
  have bF := al3 E.lt O.lt J.lt
  have cw : Gb w.heap.size cv.heap.size := C.size
  have hkeep_ := bE
  replace ⟨h1, h4, J, O, E, C, ag⟩ := (se [r_k, aa, W] bE).g7 h1 h4 J O E C ag
  clear bE
  refine ⟨Ext.chg hkeep_, ?_⟩
  have ah := ah.fr bF cw
  have gM := ah.max
  have ai := ai.fr bF cw
  have gN := ai.max
  clear bF
  have eC := ah.len
  subst eC
  have eD := ai.len
  subst eD
  refine .go 5 <| .ns 0 51 [] fun iM cx => ?_
  replace ⟨h1, h4, J, O, E, ah, ai, C, ag⟩ := (se [r_k, aa, W] cx).g9 h1 h4 J O E ah ai C ag
  clear cx
  intro bd fQ aE cy eE eF
  have gO := nb_new aE J.lt
  have eG := nb_new aE O.lt
  have eH := nb_new aE E.lt
  have eI := gb_new aE C.size
  have gP := C.cn aE
  have eJ := ag.cn aE
  replace ⟨h1, h4, J, O, E, ah, ai, C, ag⟩ := (sn [r_k, aa, W] cy aE).g9 h1 h4 J O E ah ai C ag
  clear cy eF aE
  have bG : Own (α := Smp) fQ bd 51 (nin (ge w.heap.size) [bd, r_k, aa, W]) 0 0 [] := Own.nil' eE
  refine .go 8 <| GE.append (T := 28) (ty := 28) (args := [vS bd 0 0, .slice a4 s.mem.length c4]) (by kernel_rfl) fun iN cz => ?_
  replace ⟨h1, h4, J, O, E, ah, ai, bG, C, ag⟩ := (se [bd, r_k, aa, W] cz).g10 h1 h4 J O E ah ai bG C ag
  clear cz
  obtain ⟨bn, c9, iO, cA, ao, aM, bH, eK⟩ := Own.appendF (P := Tryz.prog) (T := 28) (ty := 28) flat_smp bG (by kernel_rfl) h4 (fun b h e => h.2 (e ▸ (.head _))) (by have q1 := p0.2.1; have q2 := p0.2.2.2; omega)
  refine ⟨_, _, cA, Chg.toS bH (Cov.toS eJ), ?_⟩
  clear eK
  have gQ := nb_or aM eG O.lt
  have gR := nb_or aM eH E.lt
  have eL := gb_or aM eI C.size
  replace ⟨h1, h4, J, O, E, ah, ai, C, ag⟩ := (sa [bd, r_k, aa, W] bH aM).g9 h1 h4 J O E ah ai C ag
  clear bH
  replace ao := ao.rn bd
  clear aM
  have gS := ao.len; have gT := ao.max
  refine .d fun iP cB => ?_
  replace ⟨h1, h4, J, O, E, ah, ai, ao, C, ag⟩ := (se [bn, r_k, aa, W] cB).g10 h1 h4 J O E ah ai ao C ag
  clear cB
  replace h1 := h1.outof
  replace h4 := h4.outof
  refine .r 1 <| .sc [.slice cY (((idxOf s.idx.names).names).length) cZ, .slice c7 (((idxOf s.idx.names).posts).length) c8, vS r_k n_k c_k, vS bn (0 + s.mem.length) c9] O fun fR cC eM eN => ?_
  replace ⟨h1, h4, J, E, ah, ai, ao, C⟩ := (so [bn, r_k, aa, W] cC).g8 h1 h4 J E ah ai ao C
  clear cC eN
  refine .d ?_
  have fS := E.sl cP
  replace ⟨h1, h4, ah, ai, ao⟩ := (sd fR [bn, r_k, aa, W] r_k).g5 h1 h4 ah ai ao
  exact .rb Tryz.func60 Tryz.results60 eM ⟨⟨cY, ((idxOf s.idx.names).names).length, cZ, c7, ((idxOf s.idx.names).posts).length, c8, (some ⟨r_k, 0, none⟩), n_k, c_k, bn, (0 + s.mem.length), c9, rfl, ((RepS.lessM ah (all_cons (.head _) all_nil)).eqx (by rfl)), ((RepS.lessM ai (all_cons (.head _) all_nil)).eqx (by rfl)), ((RepS.lessM fS (all_cons (.head _) all_nil)).eqx (by have q1 := drop_end (xs := s.parts) (k := k1) (by omega); have q2 : k ++ s.parts.drop k1 = s.parts := (by assumption); rw [q1, List.append_nil] at q2; exact q2)), ((Own.lessM ao (all_cons (.head _) all_nil)).eqx (by rfl)), eL⟩, C⟩
 refine .ns 0 51 [] fun iQ cD => ?_
 replace ⟨h1, h4, J, O, E, C, ag⟩ := (se [r_k, aa, W] cD).g7 h1 h4 J O E C ag
 clear cD
 intro aS fT aJ cE eO eP
 have eQ := nb_new aJ O.lt
 have eR := nb_new aJ E.lt
 have eS := gb_new aJ C.size
 have gU := C.cn aJ
 have eT := ag.cn aJ
 replace ⟨h1, h4, J, O, E, C⟩ := (sn [r_k, aa, W] cE aJ).g6 h1 h4 J O E C
 clear cE eP aJ
 have aF : Own (α := Smp) fT aS 51 (nin (ge w.heap.size) [aS, r_k, aa, W]) 0 0 [] := Own.nil' eO
 refine .go 3 <| .cl (fun cF bI => c_spec_l11Of s.idx.names (h1.ta.ext bI) p0.1.1 p0.1.2 (w := cF) (F := all)) ?_
 intro cF bI
 replace ⟨h4, J, O, E, aF, C⟩ := (se [aS, r_k, aa, W] bI).g6 h4 J O E aF C
 rintro iR iS ⟨⟨_, rfl, ⟨da, iT, db, dd, iU, de, rfl, aq, ar⟩⟩, bJ⟩
 have bK := al4 aF.lt E.lt O.lt J.lt
 have cG : Gb w.heap.size cF.heap.size := C.size
 have hkeep_ := bJ
 replace ⟨h4, O, E, aF, C⟩ := (se [aS, r_k, aa, W] bJ).g5 h4 O E aF C
 clear bJ
 refine ⟨Ext.chg hkeep_, ?_⟩
 have aq := aq.fr bK cG
 have gV := aq.max
 have ar := ar.fr bK cG
 have gW := ar.max
 clear bK
 have eU := aq.len
 subst eU
 have eV := ar.len
 subst eV
 refine .go 8 <| GE.append (T := 28) (ty := 28) (args := [vS aS 0 0, .slice a4 s.mem.length c4]) (by kernel_rfl) fun iV cH => ?_
 replace ⟨h4, O, E, aF, aq, ar, C⟩ := (se [aS, r_k, aa, W] cH).g7 h4 O E aF aq ar C
 clear cH
 obtain ⟨bo, df, iW, cI, au, aN, bL, eW⟩ := Own.appendF (P := Tryz.prog) (T := 28) (ty := 28) flat_smp aF (by kernel_rfl) h4 (fun b h e => h.2 (e ▸ (.head _))) (by have q1 := p0.2.1; have q2 := p0.2.2.2; omega)
 refine ⟨_, _, cI, Chg.toS bL (Cov.toS eT), ?_⟩
 clear eW
 have gX := nb_or aN eQ O.lt
 have gY := nb_or aN eR E.lt
 have eX := gb_or aN eS C.size
 replace ⟨O, E, aq, ar, C⟩ := (sa [aS, r_k, aa, W] bL aN).g5 O E aq ar C
 clear bL
 replace au := au.rn aS
 clear aN
 have gZ := au.len; have g0 := au.max
 refine .d fun iX cJ => ?_
 replace ⟨O, E, au, aq, ar, C⟩ := (se [bo, r_k, aa, W] cJ).g6 O E au aq ar C
 clear cJ
 refine .r 1 <| .sc [.slice da (((idxOf s.idx.names).names).length) db, .slice dd (((idxOf s.idx.names).posts).length) de, vS r_k n_k c_k, vS bo (0 + s.mem.length) df] O fun fU cK eY eZ => ?_
 replace ⟨E, au, aq, ar, C⟩ := (so [bo, r_k, aa, W] cK).g5 E au aq ar C
 clear cK eZ
 refine .d ?_
 have fV := E.sl cP
 replace ⟨au, aq, ar⟩ := (sd fU [bo, r_k, aa, W] r_k).g3 au aq ar
 exact .rb Tryz.func60 Tryz.results60 eY ⟨⟨da, ((idxOf s.idx.names).names).length, db, dd, ((idxOf s.idx.names).posts).length, de, (some ⟨r_k, 0, none⟩), n_k, c_k, bo, (0 + s.mem.length), df, rfl, ((RepS.lessM aq (all_cons (.head _) all_nil)).eqx (by rfl)), ((RepS.lessM ar (all_cons (.head _) all_nil)).eqx (by rfl)), ((RepS.lessM fV (all_cons (.head _) all_nil)).eqx (by have q1 := drop_end (xs := s.parts) (k := k1) (by omega); have q2 : k ++ s.parts.drop k1 = s.parts := (by assumption); rw [q1, List.append_nil] at q2; exact q2)), ((Own.lessM au (all_cons (.head _) all_nil)).eqx (by rfl)), eX⟩, C⟩
end Go.Proofs.YtfnpaglcnmcnbaaGreat
namespace Go.Proofs.YtfnpaglcnmcnbaaGreat
def partNo (d : Dsk) (n : Int) : Prt := (d.files.getD (numAt d n).toNat default).part
def openS (d : Dsk) : Sto := ⟨idxOf d.names, d.list.map (partNo d), []⟩
def copyF (f : Fil) : Fil := ⟨f.num, pMerge f.part ⟨[], []⟩⟩
def copyD (d : Dsk) : Dsk := ⟨d.files.map copyF, d.list, d.names, d.next⟩
def goneF (d : Dsk) (n : Int) : List Fil := if numAt d n ≥ 0 ∧ d.list.contains n = false then d.files.take (numAt d n).toNat ++ d.files.drop ((numAt d n).toNat + 1) else d.files
def doD (d : Dsk) (x : Stp) : Dsk :=
 if x.kind = 1 then ⟨d.files ++ [⟨x.num, x.part⟩], d.list, d.names, x.num + 1⟩
 else if x.kind = 2 then ⟨d.files, x.list, x.names, d.next⟩
 else if x.kind = 3 then ⟨goneF d x.num, d.list, d.names, d.next⟩
 else d
def toD (d : Dsk) (steps : List Stp) (cut : Int) : Dsk := (steps.take cut.toNat).foldl doD d
def mergeSt (d : Dsk) (at_ : Int) : List Stp :=
 if !(inR at_ 0 ((d.list.length : Int) - 2)) || decide (d.next ≥ 999) || decide (d.files.length ≥ 20) then []
 else
  let a := d.list.getD at_.toNat 0
  let b := d.list.getD (at_.toNat + 1) 0
  [⟨1, d.next, pMerge (partNo d a) (partNo d b), [], []⟩, ⟨2, 0, ⟨[], []⟩, d.list.take at_.toNat ++ [d.next] ++ d.list.drop (at_.toNat + 2), d.names⟩, ⟨3, a, ⟨[], []⟩, [], []⟩, ⟨3, b, ⟨[], []⟩, [], []⟩]
def fallW (w : Wld) : Wld := ⟨copyS (openS (copyD (tidyD w.disk))), copyD (tidyD w.disk)⟩
def stepsW (w : Wld) (steps : List Stp) (cut : Int) (s : Sto) : Wld :=
 if steps.length = 0 ∨ cut < 0 then w
 else if cut < steps.length then fallW ⟨w.store, toD w.disk steps cut⟩ else ⟨s, toD w.disk steps cut⟩
def doW (w : Wld) (e : Evt) : Wld :=
 if e.kind = 1 then (if nameOk e.name then ⟨(addS w.store e.name e.row).1, w.disk⟩ else w)
 else if e.kind = 2 then stepsW w (flushSt w.disk w.store) e.cut (flushR w.store).1
 else if e.kind = 3 then stepsW w (mergeSt w.disk e.at_) e.cut (mergeR w.store e.at_).1
 else if e.kind = 4 then fallW w
 else w
def copyW (w : Wld) : Wld := ⟨copyS w.store, copyD w.disk⟩
theorem numF_lt (n : Int) : ∀ (fs : List Fil) (i : Nat), numF n i fs < (i : Int) + fs.length ∧ (numF n i fs = -1 ∨ (i : Int) ≤ numF n i fs) := by
 intro fs
 induction fs with
 | nil => intro i; simp [numF]; omega
 | cons f fs ih =>
   intro i
   have h := ih (i + 1)
   simp only [numF, List.length_cons]
   split <;> omega
theorem numAt_lt (d : Dsk) (n : Int) : numAt d n < d.files.length := by have := numF_lt n d.files 0; unfold numAt; omega
theorem numAt_idx {d : Dsk} {n : Int} (h : ∀ n ∈ d.list, 0 ≤ numAt d n) (hm : n ∈ d.list) : (numAt d n).toNat < d.files.length := by
 have h1 := h n hm
 have h2 := numAt_lt d n
 omega
theorem numAt_nat {d : Dsk} {n : Int} (h : ∀ n ∈ d.list, 0 ≤ numAt d n) (hm : n ∈ d.list) : numAt d n = ((numAt d n).toNat : Int) := by
 have h1 := h n hm
 omega
theorem partNo_at {d : Dsk} {n : Int} {f : Fil} (h : d.files[(numAt d n).toNat]? = some f) : partNo d n = f.part := by
 unfold partNo; rw [List.getD_eq_getElem?_getD, h]; rfl
theorem mapStep {α β : Type} {l : List α} {f : α → β} {i : Nat} {k : List β} {q : α} {y : β} (h : k ++ (l.drop i).map f = l.map f) (hd : l.drop i = q :: l.drop (i + 1)) (hy : y = f q) : (k ++ [y]) ++ (l.drop (i + 1)).map f = l.map f := by
 subst hy
 rw [hd] at h
 simpa using h
theorem mapEnd {α β : Type} {l : List α} {f : α → β} {i : Nat} {k : List β} (h : k ++ (l.drop i).map f = l.map f) (hi : l.length ≤ i) : k = l.map f := by
 rw [drop_end hi] at h
 simpa using h
theorem toStep {l : List Stp} {c : Nat} {i : Nat} {d : Dsk} {q : Stp} {Y : Dsk} (h : ((l.take c).drop i).foldl doD d = Y) (hd : l.drop i = q :: l.drop (i + 1)) (hc : i < c) : ((l.take c).drop (i + 1)).foldl doD (doD d q) = Y := by
 have h1 : (l.take c).drop i = q :: (l.take c).drop (i + 1) := by
  rw [List.drop_take, List.drop_take, hd, show c - i = (c - (i + 1)) + 1 by omega]
  rfl
 rw [h1] at h
 exact h
theorem toEnd {l : List Stp} {c : Nat} {i : Nat} {d : Dsk} {Y : Dsk} (h : ((l.take c).drop i).foldl doD d = Y) (hc : l.length ≤ i ∨ c ≤ i) : d = Y := by
 rw [List.drop_of_length_le (by rw [List.length_take]; omega)] at h
 exact h
theorem doD_1 {d : Dsk} {x : Stp} (h : x.kind = 1) : doD d x = ⟨d.files ++ [⟨x.num, x.part⟩], d.list, d.names, x.num + 1⟩ := by unfold doD; rw [if_pos h]
theorem doD_2 {d : Dsk} {x : Stp} (h : x.kind = 2) : doD d x = ⟨d.files, x.list, x.names, d.next⟩ := by unfold doD; rw [if_neg (by omega), if_pos h]
theorem doD_3 {d : Dsk} {x : Stp} (h : x.kind = 3) : doD d x = ⟨goneF d x.num, d.list, d.names, d.next⟩ := by unfold doD; rw [if_neg (by omega), if_neg (by omega), if_pos h]
theorem doD_0 {d : Dsk} {x : Stp} (h : x.kind ≠ 1) (h2 : x.kind ≠ 2) (h3 : x.kind ≠ 3) : doD d x = d := by unfold doD; rw [if_neg h, if_neg h2, if_neg h3]
theorem gone_t {d : Dsk} {n : Int} (h : numAt d n ≥ 0) (h2 : d.list.contains n = false) : goneF d n = d.files.take (numAt d n).toNat ++ d.files.drop ((numAt d n).toNat + 1) := by unfold goneF; rw [if_pos ⟨h, h2⟩]
theorem gone_f {d : Dsk} {n : Int} (h : ¬ numAt d n ≥ 0 ∨ d.list.contains n = true) : goneF d n = d.files := by unfold goneF; rw [if_neg]; rintro ⟨h1, h2⟩; rcases h with h | h; exact h h1; rw [h2] at h; cases h
theorem merge_no {d : Dsk} {a : Int} (h : inR a 0 ((d.list.length : Int) - 2) = false ∨ d.next ≥ 999 ∨ (d.files.length : Int) ≥ 20) : mergeSt d a = [] := by
 unfold mergeSt
 rw [if_pos]
 rcases h with h | h | h
 ·simp [h]
 ·simp [h]
 ·have h : d.files.length ≥ 20 := by omega
  simp [h]
theorem merge_yes {d : Dsk} {at_ a b : Int} {f g : Fil} (h : inR at_ 0 ((d.list.length : Int) - 2) = true) (h2 : ¬ d.next ≥ 999) (h3 : ¬ (d.files.length : Int) ≥ 20) (ha : d.list[at_.toNat]? = some a) (hb : d.list[(at_ + 1).toNat]? = some b)
 (hf : d.files[(numAt d a).toNat]? = some f) (hg : d.files[(numAt d b).toNat]? = some g) :
 mergeSt d at_ = [⟨1, d.next, pMerge f.part g.part, [], []⟩, ⟨2, 0, ⟨[], []⟩, (([] ++ (d.list.take at_.toNat).drop 0) ++ [d.next]) ++ (d.list.take d.list.length).drop (at_ + 2).toNat, d.names⟩, ⟨3, a, ⟨[], []⟩, [], []⟩, ⟨3, b, ⟨[], []⟩, [], []⟩] := by
 have h0 := inR_t h
 have e1 : (at_ + 1).toNat = at_.toNat + 1 := by omega
 have e2 : (at_ + 2).toNat = at_.toNat + 2 := by omega
 rw [e1] at hb
 have h4 : ¬ d.files.length ≥ 20 := by omega
 unfold mergeSt
 rw [if_neg (by simp [h]; omega), ← partNo_at hf, ← partNo_at hg, e2, List.getD_eq_getElem?_getD, List.getD_eq_getElem?_getD, ha, hb]
 simp
theorem doD_len {d : Dsk} {x : Stp} (h : x.list.length ≤ 1000) (hd : d.list.length ≤ 1000) : (doD d x).files.length ≤ d.files.length + 1 ∧ (doD d x).list.length ≤ 1000 := by
 unfold doD goneF
 split
 ·simp; exact hd
 ·split
  ·simp; exact h
  ·split
   ·simp only
    split <;> simp <;> omega
   ·omega
def StpSz (x : Stp) : Prop := x.list.length ≤ 1000 ∧ x.names.length ≤ 1000 ∧ (∀ n ∈ x.names, n.length ≤ 1000) ∧ -9000000 ≤ x.num ∧ x.num ≤ 9000000
end Go.Proofs.YtfnpaglcnmcnbaaGreat
namespace Go.Proofs.YtfnpaglcnmcnbaaGreat
set_option maxRecDepth 100000
set_option maxHeartbeats 4000000
theorem c_spec_l21Open (d : Dsk) {w : World} {F : Nat → Prop} {a1 : Option Addr} {n1 c1 : Nat} (h1 : RepS w F a1 n1 c1 d.files) {a2 : Option Addr} {n2 c2 : Nat} (h2 : RepS w F a2 n2 c2 d.list) {a3 : Option Addr} {n3 c3 : Nat} (h3 : RepS w F a3 n3 c3 d.names) (p0 : d.names.length ≤ 1000) (p1 : ∀ n ∈ d.names, NmSz n) (p2 : d.list.length ≤ 1000) (p3 : ∀ n ∈ d.list, 0 ≤ numAt d n) : Calls Tryz.prog 94 [.agg #[.slice a1 n1 c1, .slice a2 n2 c2, .slice a3 n3 c3, .int .i64 d.next]].toArray w (rets fun rv w' => VS (fo F w.heap.size) w' (openS d : Sto) rv ∧ Ext w w') := by
 refine goT Tryz.func94 ?_
 obtain ⟨rfl, dm, h1⟩ := h1.tp
 obtain ⟨rfl, dp, h2⟩ := h2.tp
 obtain ⟨rfl, dq, h3⟩ := h3.tp
 refine .s <| .g <| .np 83 [.slice a1 d.files.length c1, .slice a2 d.list.length c2, .slice a3 d.names.length c3, vI d.next] fun ac dI bn aR V bZ => ?_
 replace ⟨h1, h2, h3⟩ := (sn [] aR bn).g3 h1 h2 h3
 have C := aR
 clear aR bZ bn
 refine .np 30 [.slice none 0 0, .slice none 0 0, .slice none 0 0, .slice none 0 0] fun ae b0 aS bo O b6 => ?_
 have dr := C.cn aS
 replace ⟨h1, h2, h3, V, C⟩ := (sn [ac] bo aS).g5 h1 h2 h3 V C
 clear bo b6 aS
 refine .d <| .s <| .g <| .r 1 <| .lb V <| .cl (c_spec_l11Of d.names h3.ta p0 p1 (w := b0) (F := all)) ?_
 rintro dJ dK ⟨⟨_, rfl, ⟨b7, dL, b8, b9, dM, cd, rfl, aj, ak⟩⟩, bq⟩
 have aT := al2 O.lt V.lt
 have br : Gb w.heap.size b0.heap.size := C.size
 replace ⟨h1, h2, h3, V, O, C⟩ := (se [ae, ac] bq).g6 h1 h2 h3 V O C
 clear bq
 have aj := aj.fr aT br
 replace aj := aj.base (G' := fo F w.heap.size) (fun _ _ h => .inr h)
 have dt := aj.max
 have ak := ak.fr aT br
 replace ak := ak.base (G' := fo F w.heap.size) (fun _ _ h => .inr h)
 have du := ak.max
 clear aT
 have ce := aj.len
 subst ce
 have cg := ak.len
 subst cg
 refine .ns 0 75 [] fun ao cL aA bt ci cj => ?_
 have ck := nb_new aA V.lt
 have cm := nb_new aA O.lt
 have co := gb_new aA C.size
 have cp := C.cn aA
 replace ⟨h1, h2, h3, V, O, aj, ak, C⟩ := (sn [ae, ac] bt aA).g8 h1 h2 h3 V O aj ak C
 clear bt cj aA
 have aq : Own (α := Prt) cL ao 75 (nin (fo F w.heap.size) [ao, ae, ac]) 0 0 [] := Own.nil' ci
 refine .ns 0 51 [] fun av cM aw bu cq cr => ?_
 have cu := nb_new aw V.lt
 have cv := nb_new aw O.lt
 have cw := nb_new aw aq.lt
 have cx := gb_new aw C.size
 have dv := C.cn aw
 replace ⟨h1, h2, h3, V, O, aj, ak, aq, C⟩ := (sn [ao, ae, ac] bu aw).g9 h1 h2 h3 V O aj ak aq C
 clear bu cr aw
 have aB : Own (α := Smp) cM av 51 (nin (fo F w.heap.size) [av, ao, ae, ac]) 0 0 [] := Own.nil' cq
 refine .r 1 <| .np 30 [.slice none 0 0, .slice none 0 0, .slice none 0 0, .slice none 0 0] fun af dN ax bv cy cz => ?_
 have dw := nb_new ax V.lt
 have dx := nb_new ax O.lt
 have cA := nb_new ax aq.lt
 have cB := nb_new ax aB.lt
 have dy := C.cn ax
 replace ⟨h1, h2, h3, V, O, aj, ak, aq, aB, C⟩ := (sn [av, ao, ae, ac] bv ax).g10 h1 h2 h3 V O aj ak aq aB C
 clear bv cz ax
 refine .sc [.slice b7 (((idxOf d.names).names).length) b8, .slice b9 (((idxOf d.names).posts).length) cd, vS ao 0 0, vS av 0 0] cy fun aO bw aU cC => ?_
 replace ⟨h1, h2, h3, V, O, aj, ak, aq, aB, C⟩ := (so [af, av, ao, ae, ac] bw).g10 h1 h2 h3 V O aj ak aq aB C
 clear bw cC
 refine .d <| .s <| .s <| .g <| .r 1 <| .d <| .b 0 <| T.loop (X := Nat × (List (List Tag)) × (Option Addr) × Nat × Nat × (List Pst) × (Option Addr) × Nat × Nat × (List Prt) × Nat × Nat × Nat × (List Smp) × Nat × Nat × Nat) (0, ((idxOf d.names).names : List (List Tag)), b7, ((idxOf d.names).names).length, b8, ((idxOf d.names).posts : List Pst), b9, ((idxOf d.names).posts).length, cd, ([] : List Prt), ao, 0, 0, ([] : List Smp), av, 0, 0) (fun (i, aG, a_s_0, n_s_0, c_s_0, aH, a_s_1, n_s_1, c_s_1, aC, r_s_2, n_s_2, c_s_2, aI, r_s_3, n_s_3, c_s_3) => [(1, .pointer (some ⟨ac, 0, none⟩)), (2, .pointer (some ⟨ae, 0, none⟩)), (3, .pointer (some ⟨af, 0, none⟩)), (4, vI (i : Int))]) (fun (i, aG, a_s_0, n_s_0, c_s_0, aH, a_s_1, n_s_1, c_s_1, aC, r_s_2, n_s_2, c_s_2, aI, r_s_3, n_s_3, c_s_3) ay => Chg (ins [ao, av, af]) aO ay ∧ Own ay r_s_2 75 (nin (fo F w.heap.size) [af, r_s_3, r_s_2, ae, ac]) n_s_2 c_s_2 aC ∧ OrB r_s_2 ao aO.heap.size ∧ Own ay r_s_3 51 (nin (fo F w.heap.size) [af, r_s_3, r_s_2, ae, ac]) n_s_3 c_s_3 aI ∧ OrB r_s_3 av aO.heap.size ∧ Nb r_s_3 r_s_2 ∧ RepS ay (nin (fo F w.heap.size) [af, r_s_3, r_s_2, ae, ac]) a_s_0 n_s_0 c_s_0 aG ∧ RepS ay (nin (fo F w.heap.size) [af, r_s_3, r_s_2, ae, ac]) a_s_1 n_s_1 c_s_1 aH ∧ Box ay af 30 [.slice a_s_0 n_s_0 c_s_0, .slice a_s_1 n_s_1 c_s_1, vS r_s_2 n_s_2 c_s_2, vS r_s_3 n_s_3 c_s_3] ∧ (i ≤ d.list.length) ∧ (aG = d.names) ∧ (aH = postsOf d.names) ∧ (aI = []) ∧ (aC.length ≤ i) ∧ (aC ++ (d.list.drop i).map (partNo d) = d.list.map (partNo d))) (fun (i, aG, a_s_0, n_s_0, c_s_0, aH, a_s_1, n_s_1, c_s_1, aC, r_s_2, n_s_2, c_s_2, aI, r_s_3, n_s_3, c_s_3) => d.list.length - i) (by kernel_rfl) ⟨by kernel_rfl, by kernel_rfl, by kernel_rfl, by kernel_rfl, trivial⟩ ⟨Chg.refl _ _, aq, orb_refl, aB, orb_refl, cw, aj, ak, aU, (by simp), (by rfl), (by rfl), (by rfl), (by simp), (by rfl)⟩ ?_
 rintro ⟨i, aG, a_s_0, n_s_0, c_s_0, aH, a_s_1, n_s_1, c_s_1, aC, r_s_2, n_s_2, c_s_2, aI, r_s_3, n_s_3, c_s_3⟩ dz ay ⟨Z, ab, ag, W, au, bC, E, J, aa, cN, cO, cP, cQ, cR, cS⟩ aP
 have aJ := nb_or' ag ck V.lt
 have cT := nb_or' ag cm O.lt
 have aV := nb_or' ag (Nb.symm cA) aU.lt
 have bD := gb_or' ag co C.size
 have cU := cov_or' ag cp C.size
 have aK := nb_or' au cu V.lt
 have cV := nb_or' au cv O.lt
 have bE := nb_or' au (Nb.symm cB) aU.lt
 have bF := gb_or' au cx C.size
 have bG : Cov (ins [ao, av, af]) aO ao := ⟨.inl (.head _)⟩
 have cW : Cov (ins [ao, av, af]) aO af := ⟨.inl (.tail _ (.tail _ (.head _)))⟩
 have cX := cov_or' ag bG (Nat.le_refl _)
 have aW : Mv [af, av, ao, ae, ac] [af, r_s_3, r_s_2, ae, ac] aO ay := Mv.inl Z (all_cons (.tail _ (.tail _ (.head _))) (all_cons (.tail _ (.head _)) (all_cons (.head _) all_nil))) (all_cons (.inl (.head _)) (all_cons (orb_mem au (.tail _ (.head _))) (all_cons (orb_mem ag (.tail _ (.tail _ (.head _)))) (all_cons (.inl (.tail _ (.tail _ (.tail _ (.head _))))) (all_cons (.inl (.tail _ (.tail _ (.tail _ (.tail _ (.head _)))))) all_nil)))))
 replace ⟨h1, h2, h3, V, O, C⟩ := (sp aW Z).g6 h1 h2 h3 V O C
 clear aW
 have cY := ab.len; have cZ := ab.max
 have c7 := W.len; have c8 := W.max
 have c9 := E.len; have da := E.max
 have db := J.len; have dd := J.max
 refine .s <| .s <| .g <| .r 2 <| .lb V <| .r 1 <| .bp ((i : Int) < (d.list.length : Int)) (fun bH => ?_) (fun bH => ?_)
 ·refine .d <| .ct <| .sk <| .s <| .b 1 ?_
  replace h1 := h1.into
  replace h2 := h2.into
  replace h3 := h3.into
  replace E := E.into
  replace J := J.into
  have aL : Gb (ac + 1) ay.heap.size := V.lt
  have bI : Gb (af + 1) ay.heap.size := aa.lt
  refine .gd (mtb [r_s_2, r_s_3] ay.heap.size) 15 fun dA aX => ?_
  replace ⟨h1, h2, h3, V, O, ab, W, aa, E, J, C, Z⟩ := (se [af, r_s_3, r_s_2, ae, ac] aX).g12 h1 h2 h3 V O ab W aa E J C Z
  clear aX
  refine .r [0] <| .lb 1 aa (nS_of (all_cons (Nb.symm aV) (all_cons (Nb.symm bE) all_nil)) bI) <| .r [2] <| .lb 3 V (nS_of (all_cons (Nb.symm aJ) (all_cons (Nb.symm aK) all_nil)) aL) <| .ln 4 V (nS_of (all_cons (Nb.symm aJ) (all_cons (Nb.symm aK) all_nil)) aL) <| .r [5] <| .lb 6 V (nS_of (all_cons (Nb.symm aJ) (all_cons (Nb.symm aK) all_nil)) aL) <| .r [7] ?_
  have aY : i < d.list.length := (by omega)
  refine GA.idx (i := 8) i (len := d.list.length) (z := (i : Int)) (sz := 1) (by kernel_rfl) (by omega) aY (h2.addr (Nat.zero_lt_of_lt aY)) ?_
  obtain ⟨az, aD⟩ : ∃ y, d.list[i]? = some y := ⟨_, List.getElem?_eq_getElem (by omega)⟩
  have de := drop_at aD; have cD := List.mem_of_getElem? aD
  obtain ⟨_, rfl, bJ⟩ := h2.elem i az aD
  refine .lh 9 0 bJ (h2.nS (pos_of aD) (all_cons (.tail _ (.tail _ (.head _))) (all_cons (.tail _ (.head _)) all_nil))) <| GA.call1 (i := 10) (by kernel_rfl) (fun cE aM => c_spec_l21At d az (h1.chgS aM (all_cons (.tail _ (.tail _ (.head _))) (all_cons (.tail _ (.head _)) all_nil))) (h2.chgS aM (all_cons (.tail _ (.tail _ (.head _))) (all_cons (.tail _ (.head _)) all_nil))) (h3.chgS aM (all_cons (.tail _ (.tail _ (.head _))) (all_cons (.tail _ (.head _)) all_nil))) (w := cE) (F := all)) ?_
  have aZ : (numAt d az).toNat < d.files.length := (by exact numAt_idx p3 (by assumption))
  refine GA.idx (i := 11) ((numAt d az).toNat) (len := d.files.length) (z := numAt d az) (sz := 3) (by kernel_rfl) (by exact numAt_nat p3 (by assumption)) aZ (h1.addr (Nat.zero_lt_of_lt aZ)) <| .r [12] ?_
  obtain ⟨aF, aE⟩ : ∃ y, d.files[(numAt d az).toNat]? = some y := ⟨_, List.getElem?_eq_getElem (by omega)⟩
  have df := drop_at aE; have cF := List.mem_of_getElem? aE
  obtain ⟨_, ⟨cG, dB, cH, cI, dC, cJ, rfl, ah, ai⟩, bK⟩ := h1.elem ((numAt d az).toNat) aF aE
  have bL := ah.len
  subst bL
  have dg := ah.max
  have bM := ai.len
  subst bM
  have dh := ai.max
  refine .lg 13 1 bK (h1.nS (pos_of aE) (all_cons (.tail _ (.tail _ (.head _))) (all_cons (.tail _ (.head _)) all_nil))) <| .go 14 <| .ns 1 75 [.slice cG aF.part.ids.length cH, .slice cI aF.part.blocks.length cJ] fun dD ba => ?_
  replace ⟨V, O, ab, W, aa, E, J, ah, ai, C, Z⟩ := (se [af, r_s_3, r_s_2, ae, ac] ba).g11 V O ab W aa E J ah ai C Z
  clear ba
  intro bz dE al bc aN bN
  have bO := nb_new al V.lt
  have bP := nb_new al O.lt
  have bd := nb_new al ab.lt
  have bQ := nb_new al W.lt
  have bR := nb_new al aa.lt
  have bS := gb_new al C.size
  replace ⟨O, ab, W, aa, E, J, ah, ai, C, Z⟩ := (se [af, r_s_3, r_s_2, ae, ac] bc).g10 O ab W aa E J ah ai C Z
  clear bc bN al
  refine .d fun dF bg => ?_
  replace ⟨O, ab, W, aa, E, J, ah, ai, aN, C, Z⟩ := (se [af, r_s_3, r_s_2, ae, ac] bg).g11 O ab W aa E J ah ai aN C Z
  clear bg
  replace E := E.outof
  replace J := J.outof
  replace ah := ah.outof
  replace ai := ai.outof
  have aQ : nin (fo F w.heap.size) [af, r_s_3, r_s_2, ae, ac] bz ∧ bz ≠ r_s_2 := hap_mk (.inr bS) (all_cons bR (all_cons bQ (all_cons bd (all_cons bP (all_cons bO all_nil))))) bd
  refine RG.append1 (T := 27) (ty := 27) (y := aF.part) ab aN (by kernel_rfl) (by kernel_rfl) ⟨_, _, _, _, _, _, rfl, ah.oi, ai.oi⟩ aQ (by omega) fun bh bA dG am ar bi => ?_
  have bT := nb_or ar (Nb.symm bC) W.lt
  have di := nb_or ar aV aa.lt
  have bU := orb_or ar ag Z.size
  replace ⟨O, W, aa, E, J, C, Z⟩ := (sa [af, r_s_3, r_s_2, ae, ac] bi ar).g7 O W aa E J C Z
  clear bi
  replace am := am.rn r_s_2
  clear ar
  have dj := am.len; have dk := am.max
  refine .r 1 <| .ss 2 (vS bh (n_s_2 + 1) bA) aa fun dH bj bV bW => ?_
  replace ⟨O, am, W, E, J, C, Z⟩ := (so [af, r_s_3, bh, ae, ac] bj).g7 O am W E J C Z
  clear bj bW
  exact .d <| .ib 1 <| .g <| .r 1 <| .it ((i : Int) + 1) <| .r 1 <| .d <| aP (i + 1, aG, a_s_0, n_s_0, c_s_0, aH, a_s_1, n_s_1, c_s_1, (aC ++ [aF.part]), bh, n_s_2 + 1, bA, aI, r_s_3, n_s_3, c_s_3) _ _ ⟨by kernel_rfl, by kernel_rfl, by kernel_rfl, by kernel_rfl, trivial⟩ ⟨Z, am, bU, W, au, (Nb.symm bT), E, J, bV, (by omega), (by assumption), (by assumption), (by assumption), (by simp; omega), (by exact mapStep (by assumption) (by assumption) (partNo_at (by assumption)).symm)⟩ (by (simp only []; omega))
 refine .d <| .cf <| .x 0 rfl <| .s <| .g <| .ln aa <| .sc [.slice a_s_0 n_s_0 c_s_0, .slice a_s_1 n_s_1 c_s_1, vS r_s_2 n_s_2 c_s_2, vS r_s_3 n_s_3 c_s_3] O fun bB bk bX bY => ?_
 replace ⟨ab, W, E, J, C⟩ := (so [af, r_s_3, r_s_2, ae, ac] bk).g5 ab W E J C
 clear bk bY
 refine .d ?_
 have bm := ab.sl (.inr bD)
 replace ⟨W, E, J⟩ := (sd bB [af, r_s_3, r_s_2, ae, ac] r_s_2).g3 W E J
 have cK := W.sl (.inr bF)
 replace ⟨bm, E, J⟩ := (sd bB [af, r_s_3, ae, ac] r_s_3).g3 bm E J
 exact .rb Tryz.func94 Tryz.results94 bX ⟨(VS.of (y := (⟨(⟨aG, aH⟩ : Idx), aC, aI⟩ : Sto)) ⟨_, rfl, ⟨_, _, _, _, _, _, _, _, _, _, _, _, rfl, E.w1, J.w1, bm.w1, cK.w1⟩⟩ (by have q1 : aC = _ := mapEnd (by assumption) (by omega); subst_vars; rfl)), C⟩
theorem c_spec_l21Copy (d : Dsk) {w : World} {F : Nat → Prop} {a1 : Option Addr} {n1 c1 : Nat} (h1 : RepS w F a1 n1 c1 d.files) {a2 : Option Addr} {n2 c2 : Nat} (h2 : RepS w F a2 n2 c2 d.list) {a3 : Option Addr} {n3 c3 : Nat} (h3 : RepS w F a3 n3 c3 d.names) (p0 : d.names.length ≤ 1000) (p1 : ∀ n ∈ d.names, n.length ≤ 1000) (p2 : d.list.length ≤ 1000) (p3 : d.files.length ≤ 1000) (p4 : ∀ f ∈ d.files, PrtSz f.part) : Calls Tryz.prog 170 [.agg #[.slice a1 n1 c1, .slice a2 n2 c2, .slice a3 n3 c3, .int .i64 d.next]].toArray w (rets fun rv w' => (∃ (r0 n0 c0 : Nat) (r1 n1 c1 : Nat) (r2 n2 c2 : Nat), rv = .agg #[.slice (some ⟨r0, 0, none⟩) n0 c0, .slice (some ⟨r1, 0, none⟩) n1 c1, .slice (some ⟨r2, 0, none⟩) n2 c2, .int .i64 (((copyD d)).next)] ∧ Own w' r0 88 (nin (ge w.heap.size) [r0, r1, r2]) n0 c0 (((copyD d)).files) ∧ w.heap.size ≤ r0 ∧ Own w' r1 3 (nin (ge w.heap.size) [r0, r1, r2]) n1 c1 (((copyD d)).list) ∧ w.heap.size ≤ r1 ∧ Nb r1 r0 ∧ Own w' r2 31 (nin (ge w.heap.size) [r0, r1, r2]) n2 c2 (((copyD d)).names) ∧ w.heap.size ≤ r2 ∧ Nb r2 r0 ∧ Nb r2 r1) ∧ Ext w w') := by
 refine goT Tryz.func170 ?_
 obtain ⟨rfl, cK, h1⟩ := h1.tp
 obtain ⟨rfl, cL, h2⟩ := h2.tp
 obtain ⟨rfl, cM, h3⟩ := h3.tp
 refine .s <| .g <| .np 83 [.slice a1 d.files.length c1, .slice a2 d.list.length c2, .slice a3 d.names.length c3, vI d.next] fun W dk bg aK E bV => ?_
 replace ⟨h1, h2, h3⟩ := (sn [] aK bg).g3 h1 h2 h3
 have C := aK
 clear aK bV bg
 refine .np 83 [.slice none 0 0, .slice none 0 0, .slice none 0 0, vI 0] fun aa dm aL bh J bW => ?_
 have cN := C.cn aL
 replace ⟨h1, h2, h3, E, C⟩ := (sn [W] bh aL).g5 h1 h2 h3 E C
 clear bh bW aL
 refine .d <| .s <| .g <| .ns 0 88 [] fun aw aM aq bi bX bY => ?_
 have bZ := nb_new aq E.lt
 have b0 := nb_new aq J.lt
 have b6 := gb_new aq C.size
 have b7 := C.cn aq
 replace ⟨h1, h2, h3, E, J, C⟩ := (sn [aa, W] bi aq).g6 h1 h2 h3 E J C
 clear bi bY aq
 have b8 : Own (α := Fil) aM aw 88 (nin (ge w.heap.size) [aw, aa, W]) 0 0 [] := Own.nil' bX
 refine .r 1 <| .d <| .s <| .s <| .g <| .r 1 <| .d <| .b 0 <| T.loop (X := (List Fil) × Nat × Nat × Nat × Nat) (([] : List Fil), aw, 0, 0, 0) (fun (files, r_files, n_files, c_files, i) => [(1, .pointer (some ⟨W, 0, none⟩)), (2, .pointer (some ⟨aa, 0, none⟩)), (3, vS r_files n_files c_files), (4, vI (i : Int))]) (fun (files, r_files, n_files, c_files, i) ai => Chg (ins [aw]) aM ai ∧ Own ai r_files 88 (nin (ge w.heap.size) [r_files, aa, W]) n_files c_files files ∧ OrB r_files aw aM.heap.size ∧ (i ≤ d.files.length) ∧ (files.length ≤ i) ∧ (files ++ (d.files.drop i).map copyF = d.files.map copyF)) (fun (files, r_files, n_files, c_files, i) => d.files.length - i) (by kernel_rfl) ⟨by kernel_rfl, by kernel_rfl, by kernel_rfl, by kernel_rfl, trivial⟩ ⟨Chg.refl _ _, b8, orb_refl, (by simp), (by simp), (by simp)⟩ ?_
 rintro ⟨files, r_files, n_files, c_files, i⟩ dp ai ⟨Z, O, aj, cO, cP, cQ⟩ aN
 have ax := nb_or' aj bZ E.lt
 have cR := nb_or' aj b0 J.lt
 have b9 := gb_or' aj b6 C.size
 have cS := cov_or' aj b7 C.size
 have cd : Cov (ins [aw]) aM aw := ⟨.inl (.head _)⟩
 have cT := cov_or' aj cd (Nat.le_refl _)
 have bj : Mv [aw, aa, W] [r_files, aa, W] aM ai := Mv.inl Z (all_cons (.head _) all_nil) (all_cons (orb_mem aj (.head _)) (all_cons (.inl (.tail _ (.head _))) (all_cons (.inl (.tail _ (.tail _ (.head _)))) all_nil)))
 replace ⟨h1, h2, h3, E, J, C⟩ := (sp bj Z).g6 h1 h2 h3 E J C
 clear bj
 have cU := O.len; have cV := O.max
 refine .s <| .s <| .g <| .r 2 <| .lb E <| .r 1 <| .bp ((i : Int) < (d.files.length : Int)) (fun ce => ?_) (fun ce => ?_)
 ·refine .d <| .ct <| .sk <| .s <| .b 1 ?_
  replace h1 := h1.into
  replace h2 := h2.into
  replace h3 := h3.into
  have bk : Gb (W + 1) ai.heap.size := E.lt
  refine .gd (mtb [r_files] ai.heap.size) 17 fun dq bm => ?_
  replace ⟨h1, h2, h3, E, J, O, C, Z⟩ := (se [r_files, aa, W] bm).g8 h1 h2 h3 E J O C Z
  clear bm
  refine .r [0, 1] <| .lb 2 E (nS_of (all_cons (Nb.symm ax) all_nil) bk) <| .r [3] ?_
  have cg : i < d.files.length := (by omega)
  refine .ix 4 i 3 h1 cg <| .r [5] ?_
  obtain ⟨ak, ay⟩ : ∃ y, d.files[i]? = some y := ⟨_, List.getElem?_eq_getElem (by omega)⟩
  have cW := drop_at ay; have cx := List.mem_of_getElem? ay
  obtain ⟨_, ⟨dr, dt, du, dv, dw, dx, rfl, bu, bv⟩, bn⟩ := h1.elem i ak ay
  have ci := bu.len
  subst ci
  have cX := bu.max
  have cj := bv.len
  subst cj
  have cY := bv.max
  refine .lh 6 0 bn (h1.nS (pos_of ay) (all_cons (.head _) all_nil)) <| .r [7] <| .lb 8 E (nS_of (all_cons (Nb.symm ax) all_nil) bk) <| .r [9] ?_
  have ck : i < d.files.length := (by omega)
  refine .ix 10 i 3 h1 ck <| .r [11] <| .lg 12 1 bn (h1.nS (pos_of ay) (all_cons (.head _) all_nil)) <| .r [13] <| .go 14 <| .cl (fun bw ar => c_spec_l12Merge ak.part (⟨([] : List Int), ([] : List (List Row))⟩ : Prt) (bu.ta.ext ar) (bv.ta.ext ar) ((RepS.nil' _ all none 0 (by decide)).ext ar) ((RepS.nil' _ all none 0 (by decide)).ext ar) (p4 _ (by assumption)) (by simp [PrtSz]) (w := bw) (F := all)) ?_
  intro bw ar
  replace ⟨h2, h3, E, J, O, C, Z⟩ := (se [r_files, aa, W] ar).g7 h2 h3 E J O C Z
  rintro dy dz ⟨⟨_, rfl, ⟨cm, cZ, co, cp, c7, cq, rfl, ac, ae⟩⟩, aO⟩
  have az := al3 O.lt J.lt E.lt
  have aP : Gb w.heap.size bw.heap.size := C.size
  have hkeep_ := aO
  replace ⟨h2, h3, E, J, O, C, Z⟩ := (se [r_files, aa, W] aO).g7 h2 h3 E J O C Z
  clear aO
  refine ⟨Ext.chg hkeep_, ?_⟩
  have ac := ac.fr az aP
  have cy := ac.max
  have ae := ae.fr az aP
  have cz := ae.max
  clear az
  have bz := ac.len
  subst bz
  have bA := ae.len
  subst bA
  refine .r [15] <| .go 16 <| .ns 1 88 [vI ak.num, .slice cm (((pMerge ak.part (⟨([] : List Int), ([] : List (List Row))⟩ : Prt)).ids).length) co, .slice cp (((pMerge ak.part (⟨([] : List Int), ([] : List (List Row))⟩ : Prt)).blocks).length) cq] fun c8 aQ => ?_
  replace ⟨h2, h3, E, J, O, ac, ae, C, Z⟩ := (se [r_files, aa, W] aQ).g9 h2 h3 E J O ac ae C Z
  clear aQ
  intro bo c9 al aR aA bB
  have bC := nb_new al E.lt
  have bD := nb_new al J.lt
  have aS := nb_new al O.lt
  have bE := gb_new al C.size
  replace ⟨h2, h3, E, J, O, ac, ae, C, Z⟩ := (se [r_files, aa, W] aR).g9 h2 h3 E J O ac ae C Z
  clear aR bB al
  refine .d fun da aT => ?_
  replace ⟨h2, h3, E, J, O, ac, ae, aA, C, Z⟩ := (se [r_files, aa, W] aT).g10 h2 h3 E J O ac ae aA C Z
  clear aT
  replace h2 := h2.outof
  replace h3 := h3.outof
  have aJ : nin (ge w.heap.size) [r_files, aa, W] bo ∧ bo ≠ r_files := hap_mk bE (all_cons aS (all_cons bD (all_cons bC all_nil))) aS
  refine RG.append1 (T := 81) (ty := 81) (y := (⟨ak.num, (⟨(pMerge ak.part (⟨([] : List Int), ([] : List (List Row))⟩ : Prt)).ids, (pMerge ak.part (⟨([] : List Int), ([] : List (List Row))⟩ : Prt)).blocks⟩ : Prt)⟩ : Fil)) O aA (by kernel_rfl) (by kernel_rfl) ⟨_, _, _, _, _, _, rfl, ac.oi, ae.oi⟩ aJ (by omega) fun cr cu db am av aU => ?_
  have bF := orb_or av aj Z.size
  replace ⟨h2, h3, E, J, C, Z⟩ := (sa [r_files, aa, W] aU av).g6 h2 h3 E J C Z
  clear aU
  replace am := am.rn r_files
  clear av
  have cA := am.len; have cB := am.max
  exact .r 1 <| .d <| .ib 1 <| .g <| .r 1 <| .it ((i : Int) + 1) <| .r 1 <| .d <| aN ((files ++ [(⟨ak.num, (⟨(pMerge ak.part (⟨([] : List Int), ([] : List (List Row))⟩ : Prt)).ids, (pMerge ak.part (⟨([] : List Int), ([] : List (List Row))⟩ : Prt)).blocks⟩ : Prt)⟩ : Fil)]), cr, n_files + 1, cu, i + 1) _ _ ⟨by kernel_rfl, by kernel_rfl, by kernel_rfl, by kernel_rfl, trivial⟩ ⟨Z, am, bF, (by omega), (by simp; omega), (by exact mapStep (by assumption) (by assumption) rfl)⟩ (by (simp only []; omega))
 refine .d <| .cf <| .x 0 rfl <| .s ?_
 replace h2 := h2.into
 replace h3 := h3.into
 have aB : Gb (W + 1) ai.heap.size := E.lt
 refine .gd (mtb [r_files] ai.heap.size) 10 fun cv aC => ?_
 replace ⟨h2, h3, E, J, O, C⟩ := (se [r_files, aa, W] aC).g6 h2 h3 E J O C
 have aD : Chg (mtb [r_files] ai.heap.size) ai cv := Chg.stepN (Chg.refl (mtb [r_files] ai.heap.size) ai) aC
 clear aC
 refine .r [0, 2] <| .lb 3 E (nS_of (all_cons (Nb.symm ax) all_nil) aB) <| .r [5] <| .lb 6 E (nS_of (all_cons (Nb.symm ax) all_nil) aB) <| .r [8] <| .lb 9 E (nS_of (all_cons (Nb.symm ax) all_nil) aB) <| .go 1 <| .ns 0 3 [] fun dd aV => ?_
 replace ⟨h2, h3, E, J, O, C, aD⟩ := (se [r_files, aa, W] aV).g7 h2 h3 E J O C aD
 clear aV
 intro au cw af aW bG bH
 have cC := nb_new af E.lt
 have bI := nb_new af J.lt
 have bJ := nb_new af O.lt
 have bK := gb_new af C.size
 have cD := C.cn af
 have bL := aD.cn af
 replace ⟨h2, h3, E, J, O, C⟩ := (sn [r_files, aa, W] aW af).g6 h2 h3 E J O C
 clear aW bH af
 have aE : Own (α := Int) cw au 3 (nin (ge w.heap.size) [au, r_files, aa, W]) 0 0 [] := Own.nil' bG
 refine .go 4 <| GE.append (T := 68) (ty := 68) (args := [vS au 0 0, .slice a2 d.list.length c2]) (by kernel_rfl) fun de aX => ?_
 replace ⟨h2, h3, E, J, O, aE, C⟩ := (se [au, r_files, aa, W] aX).g7 h2 h3 E J O aE C
 clear aX
 obtain ⟨ao, bq, df, aY, V, ag, aF, bM⟩ := Own.appendF (P := Tryz.prog) (T := 68) (ty := 68) flat_int aE (by kernel_rfl) h2 (fun b h e => h.2 (e ▸ (.head _))) (by omega)
 refine ⟨_, _, aY, Chg.toS aF (Cov.toS bL), ?_⟩
 clear bM
 have cE := nb_or ag bI J.lt
 have bN := nb_or ag bJ O.lt
 have bO := gb_or ag bK C.size
 replace ⟨h3, E, J, O, C⟩ := (sa [au, r_files, aa, W] aF ag).g5 h3 E J O C
 clear aF
 replace V := V.rn au
 clear ag
 have cF := V.len; have cG := V.max
 refine .go 7 <| .cl (fun aZ aG => c_spec_l11Names d.names (h3.ta.ext aG) (by omega) (by intro n hn; have := p1 n hn; omega) (w := aZ) (F := all)) ?_
 intro aZ aG
 replace ⟨E, J, O, V, C⟩ := (se [ao, r_files, aa, W] aG).g5 E J O V C
 rintro dg dh ⟨⟨aI, br, bt, rfl, ab, ah⟩, aH⟩
 have ba := al4 V.lt O.lt J.lt E.lt
 have bP : Gb w.heap.size aZ.heap.size := C.size
 have hkeep_ := aH
 have cH := nb_ge ah J.lt
 have bQ := nb_ge ah O.lt
 have bR := nb_ge ah V.lt
 have bS := gb_ge ah C.size
 replace ⟨J, O, V, C⟩ := (sz [ao, r_files, aa, W] aH ah).g4 J O V C
 clear aH ah
 refine ⟨Ext.chg hkeep_, ?_⟩
 replace ab := Own.take (s0 := w.heap.size) (M := [ao, r_files, aa, W]) ab ba bP
 have cI := ab.len; have cJ := ab.max
 clear ba
 refine .d fun di bc => ?_
 replace ⟨J, O, V, ab, C⟩ := (se [aI, ao, r_files, aa, W] bc).g5 J O V ab C
 clear bc
 refine .r 1 <| .sc [vS r_files n_files c_files, vS ao (0 + d.list.length) bq, vS aI br bt, vI d.next] J fun dj bd bT bU => ?_
 replace ⟨O, V, ab, C⟩ := (so [aI, ao, r_files, aa, W] bd).g4 O V ab C
 clear bd bU
 exact .d <| .rb Tryz.func170 Tryz.results170 bT ⟨⟨r_files, n_files, c_files, ao, (0 + d.list.length), bq, aI, br, bt, rfl, ((Own.lessM O (all_cons (.tail _ (.tail _ (.head _))) (all_cons (.tail _ (.head _)) (all_cons (.head _) all_nil)))).eqx (by exact mapEnd (by assumption) (by omega))), b9, ((Own.lessM V (all_cons (.tail _ (.tail _ (.head _))) (all_cons (.tail _ (.head _)) (all_cons (.head _) all_nil)))).eqx (by rfl)), bO, bN, ((Own.lessM ab (all_cons (.tail _ (.tail _ (.head _))) (all_cons (.tail _ (.head _)) (all_cons (.head _) all_nil)))).eqx (by rfl)), bS, bQ, bR⟩, C⟩
theorem c_spec_l21Do (d : Dsk) (x : Stp) {w : World} {F : Nat → Prop} {a1 : Option Addr} {n1 c1 : Nat} (h1 : RepS w F a1 n1 c1 d.files) {a2 : Option Addr} {n2 c2 : Nat} (h2 : RepS w F a2 n2 c2 d.list) {a3 : Option Addr} {n3 c3 : Nat} (h3 : RepS w F a3 n3 c3 d.names) {a4 : Option Addr} {n4 c4 : Nat} (h4 : RepS w F a4 n4 c4 x.part.ids) {a5 : Option Addr} {n5 c5 : Nat} (h5 : RepS w F a5 n5 c5 x.part.blocks) {a6 : Option Addr} {n6 c6 : Nat} (h6 : RepS w F a6 n6 c6 x.list) {a7 : Option Addr} {n7 c7 : Nat} (h7 : RepS w F a7 n7 c7 x.names) (p0 : d.files.length ≤ 2000) (p1 : d.list.length ≤ 2000) (p2 : StpSz x) : Calls Tryz.prog 197 [.agg #[.slice a1 n1 c1, .slice a2 n2 c2, .slice a3 n3 c3, .int .i64 d.next], .agg #[.int .i64 x.kind, .int .i64 x.num, .slice a4 n4 c4, .slice a5 n5 c5, .slice a6 n6 c6, .slice a7 n7 c7]].toArray w (rets fun rv w' => VS (fo F w.heap.size) w' (doD d x : Dsk) rv ∧ Ext w w') := by
 refine goT Tryz.func197 ?_
 obtain ⟨rfl, gx, h1⟩ := h1.tp
 obtain ⟨rfl, gy, h2⟩ := h2.tp
 obtain ⟨rfl, gz, h3⟩ := h3.tp
 obtain ⟨rfl, gA, h4⟩ := h4.tp
 obtain ⟨rfl, gC, h5⟩ := h5.tp
 obtain ⟨rfl, gD, h6⟩ := h6.tp
 obtain ⟨rfl, gE, h7⟩ := h7.tp
 refine .s <| .g <| .np 83 [.slice a1 d.files.length c1, .slice a2 d.list.length c2, .slice a3 d.names.length c3, vI d.next] fun V iw bI bJ O e7 => ?_
 have gF : Cov nil w V := cov_new bI (Nat.le_refl _)
 replace ⟨h1, h2, h3, h4, h5, h6, h7⟩ := (sn [] bJ bI).g7 h1 h2 h3 h4 h5 h6 h7
 have C := bJ
 clear bJ e7 bI
 refine .np 95 [vI x.kind, vI x.num, .slice a4 x.part.ids.length c4, .slice a5 x.part.blocks.length c5, .slice a6 x.list.length c6, .slice a7 x.names.length c7] fun W iy bK cK E e8 => ?_
 have gG := nb_new bK O.lt
 replace ⟨h1, h2, h3, h4, h5, h6, h7, O, C⟩ := (sn [V] cK bK).g9 h1 h2 h3 h4 h5 h6 h7 O C
 clear cK e8 bK
 refine .np 83 [.slice none 0 0, .slice none 0 0, .slice none 0 0, vI 0] fun Z bc bd cL J e9 => ?_
 have gH := nb_new bd O.lt
 have gI := nb_new bd E.lt
 have gJ := C.cn bd
 replace ⟨h1, h2, h3, h4, h5, h6, h7, O, E, C⟩ := (sn [W, V] cL bd).g10 h1 h2 h3 h4 h5 h6 h7 O E C
 clear cL e9 bd
 refine .d <| .s <| .s <| .g <| .r 1 <| .lb E <| .d <| .b 0 <| .s <| .g <| .eq x.kind 1 (fun fa => ?_) (fun fa => ?_)
 ·refine .r 1 <| .d <| .ct <| .s ?_
  replace h1 := h1.into
  replace h2 := h2.into
  replace h3 := h3.into
  replace h4 := h4.into
  replace h5 := h5.into
  replace h6 := h6.into
  replace h7 := h7.into
  have fb : Gb (V + 1) bc.heap.size := O.lt
  have cM : Gb (W + 1) bc.heap.size := E.lt
  refine .gd (mtb [] bc.heap.size) 10 fun fD bL => ?_
  replace ⟨h1, h2, h3, h4, h5, h6, h7, O, E, J, C⟩ := (se [Z, W, V] bL).g11 h1 h2 h3 h4 h5 h6 h7 O E J C
  have aa : Chg (mtb [] bc.heap.size) bc fD := Chg.stepN (Chg.refl (mtb [] bc.heap.size) bc) bL
  clear bL
  refine .r [1] <| .lb 2 O (nS_of all_nil fb) <| .r [4] <| .lb 5 E (nS_of all_nil cM) <| .r [6] <| .ln 7 E (nS_of all_nil cM) <| .r [8] <| .tw 0 9 ?_ ?_
  ·refine .ns 0 88 [] fun iz cN => ?_
   replace ⟨h1, h2, h3, h4, h5, h6, h7, O, E, J, C, aa⟩ := (se [Z, W, V] cN).g12 h1 h2 h3 h4 h5 h6 h7 O E J C aa
   clear cN
   intro ar fE aM cO fc fd
   have cP := nb_new aM O.lt
   have cQ := nb_new aM E.lt
   have cR := nb_new aM J.lt
   have cS := gb_new aM C.size
   have cT := C.cn aM
   have cU := aa.cn aM
   replace ⟨h1, h2, h3, h4, h5, h6, h7, O, E, J, C, aa⟩ := (sn [Z, W, V] cO aM).g12 h1 h2 h3 h4 h5 h6 h7 O E J C aa
   clear cO fd aM
   have au : Own (α := Fil) fE ar 88 (nin (fo F w.heap.size) [ar, Z, W, V]) 0 0 [] := Own.nil' fc
   refine .tw 3 9 ?_ ?_
   ·refine GE.append (T := 81) (ty := 81) (args := [vS ar 0 0, .slice a1 d.files.length c1]) (by kernel_rfl) fun iA bM => ?_
    replace ⟨h1, h2, h3, h4, h5, h6, h7, O, E, J, au, C⟩ := (se [ar, Z, W, V] bM).g12 h1 h2 h3 h4 h5 h6 h7 O E J au C
    replace aa := (se [ar, Z, W, V] bM).g1 aa
    clear bM
    obtain ⟨aU, iB, iC, cJ, aq, aC, bN, fe⟩ := au.append (P := Tryz.prog) (T := 81) (ty := 81) (by kernel_rfl) (h1.base (fun _ _ h => h.1)) (fun b _ h => own_in (.head _) h) (by have := p2.1; have q1 := numAt_lt d x.num; omega)
    refine ⟨_, _, cJ, Chg.toS bN (Cov.toS cU), ?_⟩
    clear fe
    have ff := nb_or aC cP O.lt
    have fg := nb_or aC cQ E.lt
    have fh := nb_or aC cR J.lt
    have fi := gb_or aC cS C.size
    have gK := cov_or aC cT C.size
    replace ⟨h1, h2, h3, h4, h5, h6, h7, O, E, J, C, aa⟩ := (sa [ar, Z, W, V] bN aC).g12 h1 h2 h3 h4 h5 h6 h7 O E J C aa
    clear bN
    replace aq := aq.rn ar
    clear aC
    have gL := aq.len; have fF := aq.max
    refine .go 9 <| .ns 1 88 [vI x.num, .slice a4 x.part.ids.length c4, .slice a5 x.part.blocks.length c5] fun gM bh => ?_
    replace ⟨h1, h2, h3, h4, h5, h6, h7, O, E, J, aq, C⟩ := (se [aU, Z, W, V] bh).g12 h1 h2 h3 h4 h5 h6 h7 O E J aq C
    replace aa := (se [aU, Z, W, V] bh).g1 aa
    clear bh
    intro cV gN aK bi bj dg
    have dh := nb_new aK O.lt
    have di := nb_new aK E.lt
    have dj := nb_new aK J.lt
    have bO := nb_new aK aq.lt
    have dk := gb_new aK C.size
    replace ⟨h1, h2, h3, h4, h5, h6, h7, O, E, J, aq, C⟩ := (se [aU, Z, W, V] bi).g12 h1 h2 h3 h4 h5 h6 h7 O E J aq C
    replace aa := (se [aU, Z, W, V] bi).g1 aa
    clear bi dg aK
    refine .d fun gO bk => ?_
    replace ⟨h1, h2, h3, h4, h5, h6, h7, O, E, J, aq, bj⟩ := (se [aU, Z, W, V] bk).g12 h1 h2 h3 h4 h5 h6 h7 O E J aq bj
    replace ⟨C, aa⟩ := (se [aU, Z, W, V] bk).g2 C aa
    clear bk
    replace h1 := h1.outof
    replace h2 := h2.outof
    replace h3 := h3.outof
    replace h4 := h4.outof
    replace h5 := h5.outof
    replace h6 := h6.outof
    replace h7 := h7.outof
    have bF : nin (fo F w.heap.size) [aU, Z, W, V] cV ∧ cV ≠ aU := hap_mk (.inr dk) (all_cons bO (all_cons dj (all_cons di (all_cons dh all_nil)))) bO
    refine RG.append1 (T := 81) (ty := 81) (y := (⟨x.num, (⟨x.part.ids, x.part.blocks⟩ : Prt)⟩ : Fil)) aq bj (by kernel_rfl) (by kernel_rfl) ⟨_, _, _, _, _, _, rfl, h4.oi, h5.oi⟩ bF (by have := p2.1; have q1 := numAt_lt d x.num; omega) fun aN cW gP ag ax bP => ?_
    have fG := nb_or ax ff O.lt
    have fH := nb_or ax fg E.lt
    have fI := nb_or ax fh J.lt
    have dm := gb_or ax fi C.size
    replace ⟨h1, h2, h3, h4, h5, h6, h7, O, E, J, C⟩ := (sa [aU, Z, W, V] bP ax).g11 h1 h2 h3 h4 h5 h6 h7 O E J C
    clear bP
    replace ag := ag.rn aU
    clear ax
    have fJ := ag.len; have fK := ag.max
    refine .r 1 <| .ss 0 (vS aN (0 + d.files.length + 1) cW) O fun gQ bQ dp dq => ?_
    replace ⟨h1, h2, h3, h4, h5, h6, h7, E, J, ag, C⟩ := (so [aN, Z, W, V] bQ).g11 h1 h2 h3 h4 h5 h6 h7 E J ag C
    clear bQ dq
    refine .d <| .g <| .r 1 <| .lb E <| RG.int (x.num + 1) (by kernel_rfl) (by have q1 := numAt_lt d x.num; have q2 := p2.2.2.2; omega) <| .r 1 <| .ss 3 (vI (x.num + 1)) dp fun gR bR dr dt => ?_
    replace ⟨h1, h2, h3, h4, h5, h6, h7, E, J, ag, C⟩ := (so [aN, Z, W, V] bR).g11 h1 h2 h3 h4 h5 h6 h7 E J ag C
    clear bR dt
    refine .d <| .ib 0 <| .s <| .g <| .ln dr <| .sc [vS aN (0 + d.files.length + 1) cW, .slice a2 d.list.length c2, .slice a3 d.names.length c3, vI (x.num + 1)] J fun fj bS du dv => ?_
    replace ⟨h1, h2, h3, h4, h5, h6, h7, E, ag, C⟩ := (so [aN, Z, W, V] bS).g10 h1 h2 h3 h4 h5 h6 h7 E ag C
    clear bS dv
    refine .d ?_
    have fk := ag.sl (.inr dm)
    replace ⟨h1, h2, h3, h4, h5, h6, h7⟩ := (sd fj [aN, Z, W, V] aN).g7 h1 h2 h3 h4 h5 h6 h7
    exact .rb Tryz.func197 Tryz.results197 du ⟨(VS.of (y := (⟨(([] ++ d.files) ++ [(⟨x.num, (⟨x.part.ids, x.part.blocks⟩ : Prt)⟩ : Fil)]), d.list, d.names, x.num + 1⟩ : Dsk)) ⟨_, rfl, ⟨_, _, _, _, _, _, _, _, _, rfl, fk.w1, h2.w1, h3.w1⟩⟩ (by (rw [doD_1 (by assumption)]; simp; done))), C⟩
   refine .ns 1 88 [vI x.num, .slice a4 x.part.ids.length c4, .slice a5 x.part.blocks.length c5] fun gS bn => ?_
   replace ⟨h1, h2, h3, h4, h5, h6, h7, O, E, J, au, C⟩ := (se [ar, Z, W, V] bn).g12 h1 h2 h3 h4 h5 h6 h7 O E J au C
   replace aa := (se [ar, Z, W, V] bn).g1 aa
   clear bn
   intro cX gT aL bo av dw
   have dx := nb_new aL O.lt
   have dy := nb_new aL E.lt
   have dz := nb_new aL J.lt
   have dA := nb_new aL au.lt
   have dB := gb_new aL C.size
   replace ⟨h1, h2, h3, h4, h5, h6, h7, O, E, J, au, C⟩ := (se [ar, Z, W, V] bo).g12 h1 h2 h3 h4 h5 h6 h7 O E J au C
   replace aa := (se [ar, Z, W, V] bo).g1 aa
   clear bo dw aL
   refine .go 3 <| GE.append (T := 81) (ty := 81) (args := [vS ar 0 0, .slice a1 d.files.length c1]) (by kernel_rfl) fun gU bq => ?_
   replace ⟨h1, h2, h3, h4, h5, h6, h7, O, E, J, au, av⟩ := (se [ar, Z, W, V] bq).g12 h1 h2 h3 h4 h5 h6 h7 O E J au av
   replace ⟨C, aa⟩ := (se [ar, Z, W, V] bq).g2 C aa
   clear bq
   obtain ⟨aV, gV, gW, bT, aD, af, ba, dC⟩ := au.append (P := Tryz.prog) (T := 81) (ty := 81) (by kernel_rfl) (h1.base (fun _ _ h => h.1)) (fun b _ h => own_in (.head _) h) (by have := p2.1; have q1 := numAt_lt d x.num; omega)
   refine ⟨_, _, bT, Chg.toS ba (Cov.toS cU), ?_⟩
   clear dC
   have dD := nb_or af cP O.lt
   have dE := nb_or af cQ E.lt
   have dF := nb_or af cR J.lt
   have bU := nb_or af (Nb.symm dA) av.lt
   have dG := gb_or af cS C.size
   have fM := cov_or af cT C.size
   replace ⟨h1, h2, h3, h4, h5, h6, h7, O, E, J, av, C⟩ := (sa [ar, Z, W, V] ba af).g12 h1 h2 h3 h4 h5 h6 h7 O E J av C
   replace aa := (sa [ar, Z, W, V] ba af).g1 aa
   clear ba
   replace aD := aD.rn ar
   clear af
   have fN := aD.len; have fO := aD.max
   refine .d fun gX br => ?_
   replace ⟨h1, h2, h3, h4, h5, h6, h7, O, E, J, aD, av⟩ := (se [aV, Z, W, V] br).g12 h1 h2 h3 h4 h5 h6 h7 O E J aD av
   replace ⟨C, aa⟩ := (se [aV, Z, W, V] br).g2 C aa
   clear br
   replace h1 := h1.outof
   replace h2 := h2.outof
   replace h3 := h3.outof
   replace h4 := h4.outof
   replace h5 := h5.outof
   replace h6 := h6.outof
   replace h7 := h7.outof
   have bG : nin (fo F w.heap.size) [aV, Z, W, V] cX ∧ cX ≠ aV := hap_mk (.inr dB) (all_cons (Nb.symm bU) (all_cons dz (all_cons dy (all_cons dx all_nil)))) (Nb.symm bU)
   refine RG.append1 (T := 81) (ty := 81) (y := (⟨x.num, (⟨x.part.ids, x.part.blocks⟩ : Prt)⟩ : Fil)) aD av (by kernel_rfl) (by kernel_rfl) ⟨_, _, _, _, _, _, rfl, h4.oi, h5.oi⟩ bG (by have := p2.1; have q1 := numAt_lt d x.num; omega) fun aO cY gY ah ay bV => ?_
   have fP := nb_or ay dD O.lt
   have fQ := nb_or ay dE E.lt
   have fR := nb_or ay dF J.lt
   have dH := gb_or ay dG C.size
   replace ⟨h1, h2, h3, h4, h5, h6, h7, O, E, J, C⟩ := (sa [aV, Z, W, V] bV ay).g11 h1 h2 h3 h4 h5 h6 h7 O E J C
   clear bV
   replace ah := ah.rn aV
   clear ay
   have fS := ah.len; have fT := ah.max
   refine .r 1 <| .ss 0 (vS aO (0 + d.files.length + 1) cY) O fun gZ bW dI dJ => ?_
   replace ⟨h1, h2, h3, h4, h5, h6, h7, E, J, ah, C⟩ := (so [aO, Z, W, V] bW).g11 h1 h2 h3 h4 h5 h6 h7 E J ah C
   clear bW dJ
   refine .d <| .g <| .r 1 <| .lb E <| RG.int (x.num + 1) (by kernel_rfl) (by have q1 := numAt_lt d x.num; have q2 := p2.2.2.2; omega) <| .r 1 <| .ss 3 (vI (x.num + 1)) dI fun g0 bX dK dL => ?_
   replace ⟨h1, h2, h3, h4, h5, h6, h7, E, J, ah, C⟩ := (so [aO, Z, W, V] bX).g11 h1 h2 h3 h4 h5 h6 h7 E J ah C
   clear bX dL
   refine .d <| .ib 0 <| .s <| .g <| .ln dK <| .sc [vS aO (0 + d.files.length + 1) cY, .slice a2 d.list.length c2, .slice a3 d.names.length c3, vI (x.num + 1)] J fun fl bY dM dN => ?_
   replace ⟨h1, h2, h3, h4, h5, h6, h7, E, ah, C⟩ := (so [aO, Z, W, V] bY).g10 h1 h2 h3 h4 h5 h6 h7 E ah C
   clear bY dN
   refine .d ?_
   have fm := ah.sl (.inr dH)
   replace ⟨h1, h2, h3, h4, h5, h6, h7⟩ := (sd fl [aO, Z, W, V] aO).g7 h1 h2 h3 h4 h5 h6 h7
   exact .rb Tryz.func197 Tryz.results197 dM ⟨(VS.of (y := (⟨(([] ++ d.files) ++ [(⟨x.num, (⟨x.part.ids, x.part.blocks⟩ : Prt)⟩ : Fil)]), d.list, d.names, x.num + 1⟩ : Dsk)) ⟨_, rfl, ⟨_, _, _, _, _, _, _, _, _, rfl, fm.w1, h2.w1, h3.w1⟩⟩ (by (rw [doD_1 (by assumption)]; simp; done))), C⟩
  refine .ns 1 88 [vI x.num, .slice a4 x.part.ids.length c4, .slice a5 x.part.blocks.length c5] fun hC bZ => ?_
  replace ⟨h1, h2, h3, h4, h5, h6, h7, O, E, J, C, aa⟩ := (se [Z, W, V] bZ).g12 h1 h2 h3 h4 h5 h6 h7 O E J C aa
  clear bZ
  intro cZ hD aP b0 ac dO
  have dP := nb_new aP O.lt
  have dQ := nb_new aP E.lt
  have dR := nb_new aP J.lt
  have dS := gb_new aP C.size
  replace ⟨h1, h2, h3, h4, h5, h6, h7, O, E, J, C, aa⟩ := (se [Z, W, V] b0).g12 h1 h2 h3 h4 h5 h6 h7 O E J C aa
  clear b0 dO aP
  refine .go 0 <| .ns 0 88 [] fun hE bt => ?_
  replace ⟨h1, h2, h3, h4, h5, h6, h7, O, E, J, ac, C⟩ := (se [Z, W, V] bt).g12 h1 h2 h3 h4 h5 h6 h7 O E J ac C
  replace aa := (se [Z, W, V] bt).g1 aa
  clear bt
  intro aQ fp al b6 dT dU
  have dV := nb_new al O.lt
  have dW := nb_new al E.lt
  have dX := nb_new al J.lt
  have dY := nb_new al ac.lt
  have dZ := gb_new al C.size
  have d0 := C.cn al
  have d3 := aa.cn al
  replace ⟨h1, h2, h3, h4, h5, h6, h7, O, E, J, ac, C⟩ := (sn [Z, W, V] b6 al).g12 h1 h2 h3 h4 h5 h6 h7 O E J ac C
  clear b6 dU al
  have bu : Own (α := Fil) fp aQ 88 (nin (fo F w.heap.size) [aQ, Z, W, V]) 0 0 [] := Own.nil' dT
  refine .go 3 <| GE.append (T := 81) (ty := 81) (args := [vS aQ 0 0, .slice a1 d.files.length c1]) (by kernel_rfl) fun hH bv => ?_
  replace ⟨h1, h2, h3, h4, h5, h6, h7, O, E, J, ac, bu⟩ := (se [aQ, Z, W, V] bv).g12 h1 h2 h3 h4 h5 h6 h7 O E J ac bu
  replace C := (se [aQ, Z, W, V] bv).g1 C
  clear bv
  obtain ⟨aW, hJ, hN, b7, aE, ak, bw, d4⟩ := bu.append (P := Tryz.prog) (T := 81) (ty := 81) (by kernel_rfl) (h1.base (fun _ _ h => h.1)) (fun b _ h => own_in (.head _) h) (by have := p2.1; have q1 := numAt_lt d x.num; omega)
  refine ⟨_, _, b7, Chg.toS bw (Cov.toS d3), ?_⟩
  clear d4
  have d5 := nb_or ak dV O.lt
  have d6 := nb_or ak dW E.lt
  have d7 := nb_or ak dX J.lt
  have b8 := nb_or ak dY ac.lt
  have d8 := gb_or ak dZ C.size
  have fU := cov_or ak d0 C.size
  replace ⟨h1, h2, h3, h4, h5, h6, h7, O, E, J, ac, C⟩ := (sa [aQ, Z, W, V] bw ak).g12 h1 h2 h3 h4 h5 h6 h7 O E J ac C
  clear bw
  replace aE := aE.rn aQ
  clear ak
  have fV := aE.len; have fW := aE.max
  refine .d fun hO bz => ?_
  replace ⟨h1, h2, h3, h4, h5, h6, h7, O, E, J, ac, aE⟩ := (se [aW, Z, W, V] bz).g12 h1 h2 h3 h4 h5 h6 h7 O E J ac aE
  replace C := (se [aW, Z, W, V] bz).g1 C
  clear bz
  replace h1 := h1.outof
  replace h2 := h2.outof
  replace h3 := h3.outof
  replace h4 := h4.outof
  replace h5 := h5.outof
  replace h6 := h6.outof
  replace h7 := h7.outof
  have bH : nin (fo F w.heap.size) [aW, Z, W, V] cZ ∧ cZ ≠ aW := hap_mk (.inr dS) (all_cons (Nb.symm b8) (all_cons dR (all_cons dQ (all_cons dP all_nil)))) (Nb.symm b8)
  refine RG.append1 (T := 81) (ty := 81) (y := (⟨x.num, (⟨x.part.ids, x.part.blocks⟩ : Prt)⟩ : Fil)) aE ac (by kernel_rfl) (by kernel_rfl) ⟨_, _, _, _, _, _, rfl, h4.oi, h5.oi⟩ bH (by have := p2.1; have q1 := numAt_lt d x.num; omega) fun aR c8 hP ai az b9 => ?_
  have fX := nb_or az d5 O.lt
  have fY := nb_or az d6 E.lt
  have fZ := nb_or az d7 J.lt
  have d9 := gb_or az d8 C.size
  replace ⟨h1, h2, h3, h6, h7, O, E, J, C⟩ := (sa [aW, Z, W, V] b9 az).g9 h1 h2 h3 h6 h7 O E J C
  clear b9
  replace ai := ai.rn aW
  clear az
  have f0 := ai.len; have f3 := ai.max
  refine .r 1 <| .ss 0 (vS aR (0 + d.files.length + 1) c8) O fun hQ cd ea eb => ?_
  replace ⟨h1, h2, h3, h6, h7, E, J, ai, C⟩ := (so [aR, Z, W, V] cd).g9 h1 h2 h3 h6 h7 E J ai C
  clear cd eb
  refine .d <| .g <| .r 1 <| .lb E <| RG.int (x.num + 1) (by kernel_rfl) (by have q1 := numAt_lt d x.num; have q2 := p2.2.2.2; omega) <| .r 1 <| .ss 3 (vI (x.num + 1)) ea fun hV ce ec ed => ?_
  replace ⟨h1, h2, h3, h6, h7, E, J, ai, C⟩ := (so [aR, Z, W, V] ce).g9 h1 h2 h3 h6 h7 E J ai C
  clear ce ed
  refine .d <| .ib 0 <| .s <| .g <| .ln ec <| .sc [vS aR (0 + d.files.length + 1) c8, .slice a2 d.list.length c2, .slice a3 d.names.length c3, vI (x.num + 1)] J fun fq cg ee ef => ?_
  replace ⟨h1, h2, h3, h6, h7, E, ai, C⟩ := (so [aR, Z, W, V] cg).g8 h1 h2 h3 h6 h7 E ai C
  clear cg ef
  refine .d ?_
  have ft := ai.sl (.inr d9)
  replace ⟨h1, h2, h3, h6, h7⟩ := (sd fq [aR, Z, W, V] aR).g5 h1 h2 h3 h6 h7
  exact .rb Tryz.func197 Tryz.results197 ee ⟨(VS.of (y := (⟨(([] ++ d.files) ++ [(⟨x.num, (⟨x.part.ids, x.part.blocks⟩ : Prt)⟩ : Fil)]), d.list, d.names, x.num + 1⟩ : Dsk)) ⟨_, rfl, ⟨_, _, _, _, _, _, _, _, _, rfl, ft.w1, h2.w1, h3.w1⟩⟩ (by (rw [doD_1 (by assumption)]; simp; done))), C⟩
 refine .r 1 <| .d <| .cf <| .s <| .g <| .eq x.kind 2 (fun eg => ?_) (fun eg => ?_)
 ·refine .r 1 <| .d <| .ct <| .s <| .g <| .ns 0 3 [] fun bE fu aF ci eh ei => ?_
  have ej := nb_new aF O.lt
  have ek := nb_new aF E.lt
  have em := nb_new aF J.lt
  have en := gb_new aF C.size
  have f4 := C.cn aF
  replace ⟨h1, h2, h3, h6, h7, O, E, J, C⟩ := (sn [Z, W, V] ci aF).g9 h1 h2 h3 h6 h7 O E J C
  clear ci ei aF
  have eo : Own (α := Int) fu bE 3 (nin (fo F w.heap.size) [bE, Z, W, V]) 0 0 [] := Own.nil' eh
  refine .r 1 <| .lb E <| RG.appendF (T := 68) (ty := 68) flat_int eo h6 (by kernel_rfl) (by kernel_rfl) (fun b h e => h.2 (e ▸ (.head _))) (by have := p2.1; have q1 := numAt_lt d x.num; omega) fun aI c9 hW ab aA cj => ?_
  have f5 := nb_or aA ej O.lt
  have f6 := nb_or aA ek E.lt
  have f7 := nb_or aA em J.lt
  have ep := gb_or aA en C.size
  replace ⟨h1, h2, h3, h7, O, E, J, C⟩ := (sa [bE, Z, W, V] cj aA).g8 h1 h2 h3 h7 O E J C
  clear cj
  replace ab := ab.rn bE
  clear aA
  have f8 := ab.len; have f9 := ab.max
  refine .r 1 <| .ss 1 (vS aI (0 + x.list.length) c9) O fun da ck aS es => ?_
  replace ⟨h1, h2, h3, h7, E, J, ab, C⟩ := (so [aI, Z, W, V] ck).g8 h1 h2 h3 h7 E J ab C
  clear ck es
  refine .d <| .g <| .r 1 <| .lb E <| .cl (c_spec_l11Names x.names h7.ta (by have := p2.2.1; omega) (by intro n hn; have := p2.2.2.1 n hn; omega) (w := da) (F := all)) ?_
  rintro hX hY ⟨⟨aT, db, dd, rfl, ae, aG⟩, cm⟩
  have co := al4 ab.lt J.lt E.lt aS.lt
  have et : Gb w.heap.size da.heap.size := C.size
  have ga := nb_ge aG aS.lt
  have gb := nb_ge aG E.lt
  have gf := nb_ge aG J.lt
  have gg := nb_ge aG ab.lt
  have ew := gb_ge aG C.size
  replace ⟨h1, h2, h3, aS, E, J, ab, C⟩ := (sz [aI, Z, W, V] cm aG).g8 h1 h2 h3 aS E J ab C
  clear cm aG
  replace ae := Own.take (s0 := w.heap.size) (M := [aI, Z, W, V]) ae co et
  replace ae := ae.base (G' := fo F w.heap.size) (fun _ _ h => .inr h)
  have gh := ae.len; have gi := ae.max
  clear co
  refine .r 1 <| .ss 2 (vS aT db dd) aS fun hZ cp ex ey => ?_
  replace ⟨h1, h2, h3, E, J, ab, ae, C⟩ := (so [aT, aI, Z, W, V] cp).g8 h1 h2 h3 E J ab ae C
  clear cp ey
  refine .d <| .ib 0 <| .s <| .g <| .ln ex <| .sc [.slice a1 d.files.length c1, vS aI (0 + x.list.length) c9, vS aT db dd, vI d.next] J fun de cq ez eA => ?_
  replace ⟨h1, h2, h3, E, ab, ae, C⟩ := (so [aT, aI, Z, W, V] cq).g7 h1 h2 h3 E ab ae C
  clear cq eA
  refine .d ?_
  have cr := ab.sl (.inr ep)
  replace ⟨h1, h2, h3, ae⟩ := (sd de [aT, aI, Z, W, V] aI).g4 h1 h2 h3 ae
  have fv := ae.sl (.inr ew)
  replace ⟨h1, h2, h3, cr⟩ := (sd de [aT, Z, W, V] aT).g4 h1 h2 h3 cr
  exact .rb Tryz.func197 Tryz.results197 ez ⟨(VS.of (y := (⟨d.files, ([] ++ x.list), x.names, d.next⟩ : Dsk)) ⟨_, rfl, ⟨_, _, _, _, _, _, _, _, _, rfl, h1.w1, cr.w1, fv.w1⟩⟩ (by (rw [doD_2 (by assumption)]; simp; done))), C⟩
 refine .r 1 <| .d <| .cf <| .s <| .g <| .eq x.kind 3 (fun eB => ?_) (fun eB => ?_)
 ·refine .r 1 <| .d <| .ct <| .s <| .g <| .ln O <| .r 1 <| .lb E <| .cl (c_spec_l21At d x.num h1.ta h2.ta h3.ta (w := bc) (F := all)) ?_
  rintro ia fw ⟨rfl, cu⟩
  replace ⟨h1, h2, h3, O, E, J, C⟩ := (se [Z, W, V] cu).g7 h1 h2 h3 O E J C
  clear cu
  refine .r 1 <| .d <| .s <| .g <| .r 1 <| .bp (numAt d x.num ≥ 0) (fun eC => ?_) (fun eC => ?_)
  ·refine .r 1 <| .ln O <| .r 1 <| .lb E <| .cl (c_spec_l21Counts d x.num h1.ta h2.ta h3.ta (w := fw) (F := all)) ?_
   rintro ic aX ⟨rfl, cv⟩
   replace ⟨h1, h2, h3, O, E, J, C⟩ := (se [Z, W, V] cv).g7 h1 h2 h3 O E J C
   clear cv
   cases gj : (d.list.contains x.num)
   ·refine .r 2 <| .d <| .ct ?_
    replace h1 := h1.into
    replace h2 := h2.into
    replace h3 := h3.into
    have cw : Gb (V + 1) aX.heap.size := O.lt
    refine .gd (mtb [] aX.heap.size) 11 fun fx bA => ?_
    replace ⟨h1, h2, h3, O, E, J, C⟩ := (se [Z, W, V] bA).g7 h1 h2 h3 O E J C
    have bB : Chg (mtb [] aX.heap.size) aX fx := Chg.stepN (Chg.refl (mtb [] aX.heap.size) aX) bA
    clear bA
    refine .r [1] <| .lb 2 O (nS_of all_nil cw) <| .r [3] <| GA.sub (i := 4) (t := 81) (lo := none) (hi := some (vI (numAt d x.num))) (by kernel_rfl) h1 0 ((numAt d x.num).toNat) (by kernel_rfl) (by kernel_rfl) (.inl ⟨rfl, rfl⟩) (.inr ⟨_, _, rfl, by omega⟩) (by have q1 := numAt_lt d x.num; omega) (by have q1 := numAt_lt d x.num; omega) fun fy fz aJ => ?_
    have gk := aJ.len; have gl := aJ.max
    refine .r [6] <| .lb 7 O (nS_of all_nil cw) <| .r [8] <| GA.int (i := 9) (numAt d x.num + 1) (by kernel_rfl) (by have q1 := numAt_lt d x.num; have q2 := p2.2.2.2; omega) <| GA.sub (i := 10) (t := 81) (lo := some (vI (numAt d x.num + 1))) (hi := none) (by kernel_rfl) h1 ((numAt d x.num + 1).toNat) d.files.length (by kernel_rfl) (by kernel_rfl) (.inr ⟨_, _, rfl, by omega⟩) (.inl ⟨rfl, rfl⟩) (by have q1 := numAt_lt d x.num; omega) (by have q1 := numAt_lt d x.num; omega) fun ie ig aj => ?_
    have gm := aj.len; have gn := aj.max
    refine .go 0 <| .ns 0 88 [] fun ii cx => ?_
    replace ⟨h1, h2, h3, O, E, J, aJ, aj, C, bB⟩ := (se [Z, W, V] cx).g10 h1 h2 h3 O E J aJ aj C bB
    clear cx
    intro aY fA aw cy eD eE
    have eF := nb_new aw O.lt
    have eG := nb_new aw E.lt
    have eH := nb_new aw J.lt
    have eI := gb_new aw C.size
    have eJ := C.cn aw
    have eK := bB.cn aw
    replace ⟨h1, h2, h3, O, E, J, aJ, aj, C⟩ := (sn [Z, W, V] cy aw).g9 h1 h2 h3 O E J aJ aj C
    clear cy eE aw
    have bC : Own (α := Fil) fA aY 88 (nin (fo F w.heap.size) [aY, Z, W, V]) 0 0 [] := Own.nil' eD
    refine .go 5 <| GE.append (T := 81) (ty := 81) (args := [vS aY 0 0, .slice fy ((numAt d x.num).toNat - 0) fz]) (by kernel_rfl) fun ij cz => ?_
    replace ⟨h1, h2, h3, O, E, J, aJ, aj, bC, C⟩ := (se [aY, Z, W, V] cz).g10 h1 h2 h3 O E J aJ aj bC C
    clear cz
    obtain ⟨cA, ik, il, cB, aH, am, bD, eL⟩ := bC.append (P := Tryz.prog) (T := 81) (ty := 81) (by kernel_rfl) (aJ.base (fun _ _ h => h.1)) (fun b _ h => own_in (.head _) h) (by have := p2.1; have q1 := numAt_lt d x.num; omega)
    refine ⟨_, _, cB, Chg.toS bD (Cov.toS eK), ?_⟩
    clear eL
    have eM := nb_or am eF O.lt
    have eN := nb_or am eG E.lt
    have eO := nb_or am eH J.lt
    have eP := gb_or am eI C.size
    have gp := cov_or am eJ C.size
    replace ⟨h1, h2, h3, O, E, J, aj, C⟩ := (sa [aY, Z, W, V] bD am).g8 h1 h2 h3 O E J aj C
    clear bD
    replace aH := aH.rn aY
    clear am
    have gq := aH.len; have gr := aH.max
    refine .d fun im cC => ?_
    replace ⟨h1, h2, h3, O, E, J, aj, aH, C⟩ := (se [cA, Z, W, V] cC).g9 h1 h2 h3 O E J aj aH C
    clear cC
    replace h1 := h1.outof
    replace h2 := h2.outof
    replace h3 := h3.outof
    replace aj := aj.outof
    refine RG.appendN (T := 81) (ty := 81) aH aj (by kernel_rfl) (by kernel_rfl) (fun b _ h => own_in (.head _) h) (by have := p2.1; have q1 := numAt_lt d x.num; omega) fun aZ df io ao aB cD => ?_
    have gs := nb_or aB eM O.lt
    have gt := nb_or aB eN E.lt
    have gu := nb_or aB eO J.lt
    have eQ := gb_or aB eP C.size
    replace ⟨h1, h2, h3, O, J, C⟩ := (sa [cA, Z, W, V] cD aB).g6 h1 h2 h3 O J C
    clear cD
    replace ao := ao.rn cA
    clear aB
    have gv := ao.len; have gw := ao.max
    refine .r 1 <| .ss 0 (vS aZ (0 + ((numAt d x.num).toNat - 0) + (d.files.length - (numAt d x.num + 1).toNat)) df) O fun ip cE eR eS => ?_
    replace ⟨h1, h2, h3, J, ao, C⟩ := (so [aZ, Z, W, V] cE).g6 h1 h2 h3 J ao C
    clear cE eS
    refine .d <| .ib 0 <| .s <| .g <| .ln eR <| .sc [vS aZ (0 + ((numAt d x.num).toNat - 0) + (d.files.length - (numAt d x.num + 1).toNat)) df, .slice a2 d.list.length c2, .slice a3 d.names.length c3, vI d.next] J fun fB cF eT eU => ?_
    replace ⟨h1, h2, h3, ao, C⟩ := (so [aZ, Z, W, V] cF).g5 h1 h2 h3 ao C
    clear cF eU
    refine .d ?_
    have fC := ao.sl (.inr eQ)
    replace ⟨h1, h2, h3⟩ := (sd fB [aZ, Z, W, V] aZ).g3 h1 h2 h3
    exact .rb Tryz.func197 Tryz.results197 eT ⟨(VS.of (y := (⟨(([] ++ ((d.files.take ((numAt d x.num).toNat)).drop 0)) ++ ((d.files.take d.files.length).drop ((numAt d x.num + 1).toNat))), d.list, d.names, d.next⟩ : Dsk)) ⟨_, rfl, ⟨_, _, _, _, _, _, _, _, _, rfl, fC.w1, h2.w1, h3.w1⟩⟩ (by (rw [doD_3 (by assumption), gone_t (by assumption) (by assumption)]; have e1 : (numAt d x.num + 1).toNat = (numAt d x.num).toNat + 1 := (by omega); simp [e1]; done))), C⟩
   refine .r 2 <| .d <| .cf <| .sk <| .ib 0 <| .s <| .g <| .ln O <| .sc [.slice a1 d.files.length c1, .slice a2 d.list.length c2, .slice a3 d.names.length c3, vI d.next] J fun iq cG eV eW => ?_
   replace ⟨h1, h2, h3, O, C⟩ := (so [Z, W, V] cG).g5 h1 h2 h3 O C
   clear cG eW
   exact .d <| .rb Tryz.func197 Tryz.results197 eV ⟨(VS.of (y := d) ⟨_, rfl, ⟨_, _, _, _, _, _, _, _, _, rfl, h1.w1, h2.w1, h3.w1⟩⟩ (by (rw [doD_3 (by assumption), gone_f (.inr (by assumption))]))), C⟩
  refine .r 7 <| .d <| .cf <| .sk <| .ib 0 <| .s <| .g <| .ln O <| .sc [.slice a1 d.files.length c1, .slice a2 d.list.length c2, .slice a3 d.names.length c3, vI d.next] J fun ir cH eX eY => ?_
  replace ⟨h1, h2, h3, O, C⟩ := (so [Z, W, V] cH).g5 h1 h2 h3 O C
  clear cH eY
  exact .d <| .rb Tryz.func197 Tryz.results197 eX ⟨(VS.of (y := d) ⟨_, rfl, ⟨_, _, _, _, _, _, _, _, _, rfl, h1.w1, h2.w1, h3.w1⟩⟩ (by (rw [doD_3 (by assumption), gone_f (.inl (by assumption))]))), C⟩
 refine .r 1 <| .d <| .cf <| .sk <| .ib 0 <| .s <| .g <| .ln O <| .sc [.slice a1 d.files.length c1, .slice a2 d.list.length c2, .slice a3 d.names.length c3, vI d.next] J fun iu cI eZ e0 => ?_
 replace ⟨h1, h2, h3, C⟩ := (so [Z, W, V] cI).g4 h1 h2 h3 C
 clear cI e0
 exact .d <| .rb Tryz.func197 Tryz.results197 eZ ⟨(VS.of (y := d) ⟨_, rfl, ⟨_, _, _, _, _, _, _, _, _, rfl, h1.w1, h2.w1, h3.w1⟩⟩ (by rw [doD_0 (by assumption) (by assumption) (by assumption)])), C⟩
theorem c_spec_l21To (d : Dsk) (steps : List Stp) (cut : Int) {w : World} {F : Nat → Prop} {a1 : Option Addr} {n1 c1 : Nat} (h1 : RepS w F a1 n1 c1 d.files) {a2 : Option Addr} {n2 c2 : Nat} (h2 : RepS w F a2 n2 c2 d.list) {a3 : Option Addr} {n3 c3 : Nat} (h3 : RepS w F a3 n3 c3 d.names) {a4 : Option Addr} {n4 c4 : Nat} (h4 : RepS w F a4 n4 c4 steps) (p0 : d.files.length ≤ 1000) (p1 : steps.length ≤ 1000) (p2 : d.list.length ≤ 1000) (p3 : ∀ x ∈ steps, StpSz x) : Calls Tryz.prog 169 [.agg #[.slice a1 n1 c1, .slice a2 n2 c2, .slice a3 n3 c3, .int .i64 d.next], .slice a4 n4 c4, .int .i64 cut].toArray w (rets fun rv w' => VS (fo F w.heap.size) w' (toD d steps cut : Dsk) rv ∧ Ext w w') := by
 refine goT Tryz.func169 ?_
 obtain ⟨rfl, bz, h1⟩ := h1.tp
 obtain ⟨rfl, bA, h2⟩ := h2.tp
 obtain ⟨rfl, bB, h3⟩ := h3.tp
 obtain ⟨rfl, bC, h4⟩ := h4.tp
 refine .s <| .g <| .np 83 [.slice a1 d.files.length c1, .slice a2 d.list.length c2, .slice a3 d.names.length c3, vI d.next] fun W b7 au av aq ba => ?_
 have bD : Cov nil w W := cov_new au (Nat.le_refl _)
 replace ⟨h1, h2, h3, h4⟩ := (sn [] av au).g4 h1 h2 h3 h4
 have C := av
 clear av ba au
 refine .np 83 [.slice none 0 0, .slice none 0 0, .slice none 0 0, vI 0] fun ag aQ ar aF ac bc => ?_
 have bE := nb_new ar aq.lt
 have bF := C.cn ar
 replace ⟨h1, h2, h3, h4, aq, C⟩ := (sn [W] aF ar).g6 h1 h2 h3 h4 aq C
 clear aF bc ar
 refine .d <| .s <| .s <| .g <| .r 1 <| .d <| .b 0 <| T.loop (X := Nat × (List Fil) × (Option Addr) × Nat × Nat × (List Int) × (Option Addr) × Nat × Nat × (List (List Tag)) × (Option Addr) × Nat × Nat × Int) (0, (d.files : List Fil), a1, d.files.length, c1, (d.list : List Int), a2, d.list.length, c2, (d.names : List (List Tag)), a3, d.names.length, c3, d.next) (fun (i, Z, a_d_0, n_d_0, c_d_0, aa, a_d_1, n_d_1, c_d_1, ab, a_d_2, n_d_2, c_d_2, V) => [(1, .slice a4 steps.length c4), (2, vI cut), (3, .pointer (some ⟨W, 0, none⟩)), (6, .pointer (some ⟨ag, 0, none⟩)), (7, vI (i : Int))]) (fun (i, Z, a_d_0, n_d_0, c_d_0, aa, a_d_1, n_d_1, c_d_1, ab, a_d_2, n_d_2, c_d_2, V) am => Chg (ins [W]) aQ am ∧ RepS am (nin (fo F w.heap.size) [ag, W]) a_d_0 n_d_0 c_d_0 Z ∧ RepS am (nin (fo F w.heap.size) [ag, W]) a_d_1 n_d_1 c_d_1 aa ∧ RepS am (nin (fo F w.heap.size) [ag, W]) a_d_2 n_d_2 c_d_2 ab ∧ Box am W 83 [.slice a_d_0 n_d_0 c_d_0, .slice a_d_1 n_d_1 c_d_1, .slice a_d_2 n_d_2 c_d_2, vI V] ∧ (i ≤ steps.length) ∧ (Z.length ≤ d.files.length + i) ∧ (aa.length ≤ 1000) ∧ (((steps.take cut.toNat).drop i).foldl doD ⟨Z, aa, ab, V⟩ = toD d steps cut)) (fun (i, Z, a_d_0, n_d_0, c_d_0, aa, a_d_1, n_d_1, c_d_1, ab, a_d_2, n_d_2, c_d_2, V) => steps.length - i) (by kernel_rfl) ⟨by kernel_rfl, by kernel_rfl, by kernel_rfl, by kernel_rfl, by kernel_rfl, trivial⟩ ⟨Chg.refl _ _, h1, h2, h3, aq, (by omega), (by omega), (by omega), (by rfl)⟩ ?_
 rintro ⟨i, Z, a_d_0, n_d_0, c_d_0, aa, a_d_1, n_d_1, c_d_1, ab, a_d_2, n_d_2, c_d_2, V⟩ b8 am ⟨af, E, J, O, ae, bG, bH, bI, bJ⟩ aw
 have bK : Cov (ins [W]) aQ W := ⟨.inl (.head _)⟩
 have aG : Mv [ag, W] [ag, W] aQ am := Mv.inl af (all_cons (.tail _ (.head _)) all_nil) (all_cons (.inl (.head _)) (all_cons (.inl (.tail _ (.head _))) all_nil))
 replace ⟨h4, ac, C⟩ := (sp aG af).g3 h4 ac C
 clear aG
 have bL := E.len; have bM := E.max
 have bN := J.len; have bO := J.max
 have bP := O.len; have bQ := O.max
 refine .s <| .s <| .g <| .r 3 <| .bp ((i : Int) < (steps.length : Int)) (fun bd => ?_) (fun bd => ?_)
 ·refine .r 3 <| .bp ((i : Int) < cut) (fun bg => ?_) (fun bg => ?_)
  ·refine .r 1 <| .d <| .ct <| .sk <| .s <| .b 1 <| .gd nil 5 fun b9 aH => ?_
   replace ⟨h4, ae, ac, E, J, O, C, af⟩ := (se [ag, W] aH).g8 h4 ae ac E J O C af
   clear aH
   refine .ln 0 ae id <| .r [1, 2] ?_
   have bh : i < steps.length := (by omega)
   refine .ix 3 i 6 h4 bh ?_
   obtain ⟨ah, ax⟩ : ∃ y, steps[i]? = some y := ⟨_, List.getElem?_eq_getElem (by omega)⟩
   have bR := drop_at ax; have bq := List.mem_of_getElem? ax
   obtain ⟨_, ⟨cd, ce, cg, ci, cj, ck, cm, co, cp, cq, cr, cu, rfl, ay, az, aA, aB⟩, bi⟩ := h4.elem i ah ax
   have bj := ay.len
   subst bj
   have bS := ay.max
   have bk := az.len
   subst bk
   have bT := az.max
   have bm := aA.len
   subst bm
   have bU := aA.max
   have bn := aB.len
   subst bn
   have bV := aB.max
   refine .lg 4 0 bi id <| .d fun bo aI => ?_
   replace ⟨ae, ac, E, J, O, ay, az, aA, aB, C, af⟩ := (se [ag, W] aI).g11 ae ac E J O ay az aA aB C af
   clear aI
   refine .cl (c_spec_l21Do (⟨Z, aa, ab, V⟩ : Dsk) ah E J O ay az aA aB (by simp only; omega) (by simp only; omega) (p3 _ (by assumption)) (w := bo) (F := nin (fo F w.heap.size) [ag, W])) ?_
   rintro cv cw ⟨⟨_, rfl, ⟨aJ, bW, aK, aL, bX, aM, aN, bY, aO, rfl, ai, aj, ak⟩⟩, aP⟩
   have al := al2 ac.lt ae.lt
   have ao : Gb w.heap.size bo.heap.size := C.size
   replace ⟨ae, ac, E, J, O, C, af⟩ := (se [ag, W] aP).g7 ae ac E J O C af
   clear aP
   replace ai := RepS.mixed' (M := [ag, W]) ai al ao
   have br := ai.max
   replace aj := RepS.mixed' (M := [ag, W]) aj al ao
   have bt := aj.max
   replace ak := RepS.mixed' (M := [ag, W]) ak al ao
   have bu := ak.max
   clear al
   have aR := ai.len
   subst aR
   have aS := aj.len
   subst aS
   have aT := ak.len
   subst aT
   refine .sc [.slice aJ (((doD (⟨Z, aa, ab, V⟩ : Dsk) ah).files).length) aK, .slice aL (((doD (⟨Z, aa, ab, V⟩ : Dsk) ah).list).length) aM, .slice aN (((doD (⟨Z, aa, ab, V⟩ : Dsk) ah).names).length) aO, vI ((doD (⟨Z, aa, ab, V⟩ : Dsk) ah).next)] ae fun bZ aC aU aV => ?_
   replace ⟨ac, E, J, O, ai, aj, ak, C, af⟩ := (so [ag, W] aC).g9 ac E J O ai aj ak C af
   clear aC aV
   exact .d <| .ib 1 <| .g <| .r 1 <| .it ((i : Int) + 1) <| .r 1 <| .d <| aw (i + 1, (doD (⟨Z, aa, ab, V⟩ : Dsk) ah).files, aJ, ((doD (⟨Z, aa, ab, V⟩ : Dsk) ah).files).length, aK, (doD (⟨Z, aa, ab, V⟩ : Dsk) ah).list, aL, ((doD (⟨Z, aa, ab, V⟩ : Dsk) ah).list).length, aM, (doD (⟨Z, aa, ab, V⟩ : Dsk) ah).names, aN, ((doD (⟨Z, aa, ab, V⟩ : Dsk) ah).names).length, aO, (doD (⟨Z, aa, ab, V⟩ : Dsk) ah).next) _ _ ⟨by kernel_rfl, by kernel_rfl, by kernel_rfl, by kernel_rfl, by kernel_rfl, trivial⟩ ⟨af, ai, aj, ak, aU, (by omega), (by have q1 := p3 _ (by assumption); have q2 := doD_len (d := ⟨Z, aa, ab, V⟩) q1.1 (by assumption); dsimp only at q2; omega), (by have q1 := p3 _ (by assumption); have q2 := doD_len (d := ⟨Z, aa, ab, V⟩) q1.1 (by assumption); dsimp only at q2; omega), (by exact toStep (by assumption) (by assumption) (by omega))⟩ (by (simp only []; omega))
  refine .r 1 <| .d <| .cf <| .x 0 rfl <| .s <| .g <| .ln ae <| .sc [.slice a_d_0 n_d_0 c_d_0, .slice a_d_1 n_d_1 c_d_1, .slice a_d_2 n_d_2 c_d_2, vI V] ac fun b0 aD aW aX => ?_
  replace ⟨ae, E, J, O, C⟩ := (so [ag, W] aD).g5 ae E J O C
  clear aD aX
  exact .d <| .rb Tryz.func169 Tryz.results169 aW ⟨(VS.of (y := (⟨Z, aa, ab, V⟩ : Dsk)) ⟨_, rfl, ⟨_, _, _, _, _, _, _, _, _, rfl, E.w1, J.w1, O.w1⟩⟩ (by exact toEnd (by assumption) (by omega))), C⟩
 refine .r 5 <| .d <| .cf <| .x 0 rfl <| .s <| .g <| .ln ae <| .sc [.slice a_d_0 n_d_0 c_d_0, .slice a_d_1 n_d_1 c_d_1, .slice a_d_2 n_d_2 c_d_2, vI V] ac fun b6 aE aY aZ => ?_
 replace ⟨E, J, O, C⟩ := (so [ag, W] aE).g4 E J O C
 clear aE aZ
 exact .d <| .rb Tryz.func169 Tryz.results169 aY ⟨(VS.of (y := (⟨Z, aa, ab, V⟩ : Dsk)) ⟨_, rfl, ⟨_, _, _, _, _, _, _, _, _, rfl, E.w1, J.w1, O.w1⟩⟩ (by exact toEnd (by assumption) (by omega))), C⟩
theorem c_spec_l21Merge (d : Dsk) (at_ : Int) {w : World} {F : Nat → Prop} {a1 : Option Addr} {n1 c1 : Nat} (h1 : RepS w F a1 n1 c1 d.files) {a2 : Option Addr} {n2 c2 : Nat} (h2 : RepS w F a2 n2 c2 d.list) {a3 : Option Addr} {n3 c3 : Nat} (h3 : RepS w F a3 n3 c3 d.names) (p0 : d.names.length ≤ 1000) (p1 : ∀ n ∈ d.names, n.length ≤ 1000) (p2 : d.list.length ≤ 1000) (p3 : ∀ n ∈ d.list, 0 ≤ numAt d n) (p4 : ∀ f ∈ d.files, PrtSz f.part) : Calls Tryz.prog 171 [.agg #[.slice a1 n1 c1, .slice a2 n2 c2, .slice a3 n3 c3, .int .i64 d.next], .int .i64 at_].toArray w (rets fun rv w' => VL (ge w.heap.size) w' (mergeSt d at_ : List Stp) rv ∧ Ext w w') := by
 refine goT Tryz.func171 ?_
 obtain ⟨rfl, oN, h1⟩ := h1.tp
 obtain ⟨rfl, oO, h2⟩ := h2.tp
 obtain ⟨rfl, oP, h3⟩ := h3.tp
 refine .s <| .g <| .np 83 [.slice a1 d.files.length c1, .slice a2 d.list.length c2, .slice a3 d.names.length c3, vI d.next] fun ae l8 gN eF C kJ => ?_
 replace ⟨h1, h2, h3⟩ := (sn [] eF gN).g3 h1 h2 h3
 have E := eF
 clear eF kJ gN
 refine .r 1 <| .d <| .s <| .s <| .g <| .r 2 <| .lb C <| .r 1 <| .it ((d.list.length : Int) - 2) <| .cl (c_spec_l6In at_ 0 ((d.list.length : Int) - 2) (w := l8) (F := all)) ?_
 rintro qO qP ⟨rfl, gO⟩
 replace ⟨h1, h2, h3, C, E⟩ := (se [ae] gO).g5 h1 h2 h3 C E
 clear gO
 cases gP : (inR at_ 0 ((d.list.length : Int) - 2))
 ·have oQ := inR_f gP
  refine .r 12 <| .d <| .ct <| .s <| .g <| .ns 0 95 [] fun eG kK ea gQ kL kM => ?_
  have oR := nb_new ea C.lt
  have kN := gb_new ea E.size
  replace ⟨h1, h2, h3, C, E⟩ := (sn [ae] gQ ea).g5 h1 h2 h3 C E
  clear gQ kM ea
  have kO : Own (α := Stp) kK eG 95 (nin (ge w.heap.size) [eG, ae]) 0 0 [] := Own.nil' kL
  refine .r 1 <| .d ?_
  have l9 := kO.sl kN
  replace ⟨h1, h2, h3⟩ := (sd kK [eG, ae] eG).g3 h1 h2 h3
  exact .rt Tryz.func171 Tryz.results171 (vS eG 0 0) ⟨(l9.vl (by rw [merge_no (.inl (by assumption))]) (fun _ _ h => h.1)), E⟩
 have oS := inR_t gP
 refine .r 3 <| .lb C <| .bp (d.next ≥ 999) (fun kP => ?_) (fun kP => ?_)
 ·refine .r 7 <| .d <| .ct <| .s <| .g <| .ns 0 95 [] fun eH kQ eb gR kR kS => ?_
  have oT := nb_new eb C.lt
  have kT := gb_new eb E.size
  replace ⟨h1, h2, h3, C, E⟩ := (sn [ae] gR eb).g5 h1 h2 h3 C E
  clear gR kS eb
  have kU : Own (α := Stp) kQ eH 95 (nin (ge w.heap.size) [eH, ae]) 0 0 [] := Own.nil' kR
  refine .r 1 <| .d ?_
  have ma := kU.sl kT
  replace ⟨h1, h2, h3⟩ := (sd kQ [eH, ae] eH).g3 h1 h2 h3
  exact .rt Tryz.func171 Tryz.results171 (vS eH 0 0) ⟨(ma.vl (by rw [merge_no (.inr (.inl (by assumption)))]) (fun _ _ h => h.1)), E⟩
 refine .r 3 <| .lb C <| .r 1 <| .bp ((d.files.length : Int) ≥ 20) (fun kV => ?_) (fun kV => ?_)
 ·refine .r 1 <| .d <| .ct <| .s <| .g <| .ns 0 95 [] fun eI kW ec gS kX kY => ?_
  have oU := nb_new ec C.lt
  have kZ := gb_new ec E.size
  replace ⟨h1, h2, h3, C, E⟩ := (sn [ae] gS ec).g5 h1 h2 h3 C E
  clear gS kY ec
  have k0 : Own (α := Stp) kW eI 95 (nin (ge w.heap.size) [eI, ae]) 0 0 [] := Own.nil' kX
  refine .r 1 <| .d ?_
  have mb := k0.sl kZ
  replace ⟨h1, h2, h3⟩ := (sd kW [eI, ae] eI).g3 h1 h2 h3
  exact .rt Tryz.func171 Tryz.results171 (vS eI 0 0) ⟨(mb.vl (by rw [merge_no (.inr (.inr (by assumption)))]) (fun _ _ h => h.1)), E⟩
 refine .r 1 <| .d <| .cf <| .sk <| .s <| .g <| .r 1 <| .lb C <| .r 1 ?_
 have gT : (at_).toNat < d.list.length := (by omega)
 refine RG.idx ((at_).toNat) (len := d.list.length) (i := at_) (sz := 1) (by kernel_rfl) (by omega) gT (h2.addr (Nat.zero_lt_of_lt gT)) ?_
 obtain ⟨aV, eJ⟩ : ∃ y, d.list[(at_).toNat]? = some y := ⟨_, List.getElem?_eq_getElem (by omega)⟩
 have oV := drop_at eJ; have lU := List.mem_of_getElem? eJ
 obtain ⟨_, rfl, k3⟩ := h2.elem ((at_).toNat) aV eJ
 refine .lh 0 k3 <| .r 1 <| .d <| .s <| .g <| .r 1 <| .lb C <| .r 1 <| .it (at_ + 1) ?_
 have gU : (at_ + 1).toNat < d.list.length := (by omega)
 refine RG.idx ((at_ + 1).toNat) (len := d.list.length) (i := at_ + 1) (sz := 1) (by kernel_rfl) (by omega) gU (h2.addr (Nat.zero_lt_of_lt gU)) ?_
 obtain ⟨aW, eK⟩ : ∃ y, d.list[(at_ + 1).toNat]? = some y := ⟨_, List.getElem?_eq_getElem (by omega)⟩
 have oW := drop_at eK; have lV := List.mem_of_getElem? eK
 obtain ⟨_, rfl, k4⟩ := h2.elem ((at_ + 1).toNat) aW eK
 refine .lh 0 k4 <| .r 1 <| .d <| .s <| .gd nil 18 fun qQ gV => ?_
 replace ⟨h1, h2, h3, C, E⟩ := (se [ae] gV).g5 h1 h2 h3 C E
 clear gV
 refine .r [0] <| .lb 1 C id <| .ln 2 C id <| .r [3] <| GA.call1 (i := 4) (by kernel_rfl) (fun mc eL => c_spec_l21At d aV (h1.ta.ext eL) (h2.ta.ext eL) (h3.ta.ext eL) (w := mc) (F := all)) ?_
 have gW : (numAt d aV).toNat < d.files.length := (by exact numAt_idx p3 (by assumption))
 refine GA.idx (i := 5) ((numAt d aV).toNat) (len := d.files.length) (z := numAt d aV) (sz := 3) (by kernel_rfl) (by exact numAt_nat p3 (by assumption)) gW (h1.addr (Nat.zero_lt_of_lt gW)) <| .r [6] ?_
 obtain ⟨aB, eM⟩ : ∃ y, d.files[(numAt d aV).toNat]? = some y := ⟨_, List.getElem?_eq_getElem (by omega)⟩
 have oX := drop_at eM; have lW := List.mem_of_getElem? eM
 obtain ⟨_, ⟨qR, qS, oY, oZ, o0, o1, rfl, V, W⟩, k5⟩ := h1.elem ((numAt d aV).toNat) aB eM
 have gX := V.len
 subst gX
 have me := V.max
 have gY := W.len
 subst gY
 have mf := W.max
 refine .lg 7 1 k5 id <| .r [8] <| .lb 9 C id <| .ln 10 C id <| .r [11] <| GA.call1 (i := 12) (by kernel_rfl) (fun k6 cZ => c_spec_l21At d aW (h1.ta.ext cZ) (h2.ta.ext cZ) (h3.ta.ext cZ) (w := k6) (F := all)) ?_
 have eN : (numAt d aW).toNat < d.files.length := (by exact numAt_idx p3 (by assumption))
 refine GA.idx (i := 13) ((numAt d aW).toNat) (len := d.files.length) (z := numAt d aW) (sz := 3) (by kernel_rfl) (by exact numAt_nat p3 (by assumption)) eN (h1.addr (Nat.zero_lt_of_lt eN)) <| .r [14] ?_
 obtain ⟨ar, c7⟩ : ∃ y, d.files[(numAt d aW).toNat]? = some y := ⟨_, List.getElem?_eq_getElem (by omega)⟩
 have mg := drop_at c7; have k7 := List.mem_of_getElem? c7
 obtain ⟨_, ⟨o2, o3, o4, o5, o6, o7, rfl, Z, aa⟩, gZ⟩ := h1.elem ((numAt d aW).toNat) ar c7
 have g0 := Z.len
 subst g0
 have mh := Z.max
 have hC := aa.len
 subst hC
 have mj := aa.max
 refine .lg 15 1 gZ id <| .tw 16 17 ?_ ?_
 ·refine .cl (fun eO bY => c_spec_l12Merge aB.part ar.part (V.ta.ext bY) (W.ta.ext bY) (Z.ta.ext bY) (aa.ta.ext bY) (p4 _ (by assumption)) (p4 _ (by assumption)) (w := eO) (F := all)) ?_
  intro eO bY
  replace ⟨h2, h3, C, V, W, Z, aa, E⟩ := (se [ae] bY).g8 h2 h3 C V W Z aa E
  rintro o8 o9 ⟨⟨_, rfl, ⟨ed, pa, ee, ef, pb, eg, rfl, ab, ac⟩⟩, c8⟩
  have c9 := al1 C.lt
  have eP : Gb w.heap.size eO.heap.size := E.size
  have hkeep_ := c8
  replace ⟨h2, h3, C, V, W, Z, aa, E⟩ := (se [ae] c8).g8 h2 h3 C V W Z aa E
  clear c8
  refine ⟨Ext.chg hkeep_, ?_⟩
  have ab := ab.fr c9 eP
  have ml := ab.max
  have ac := ac.fr c9 eP
  have mm := ac.max
  clear c9
  have hD := ab.len
  subst hD
  have hE := ac.len
  subst hE
  refine .go 17 <| .nw (fun b => .pointer (some ⟨b, 0, none⟩)) 75 [.slice none 0 0, .slice none 0 0] fun pc eQ => ?_
  replace ⟨h2, h3, C, V, W, Z, aa, ab, ac, E⟩ := (se [ae] eQ).g10 h2 h3 C V W Z aa ab ac E
  clear eQ
  intro ah pd cG eR da hH
  have mn := nb_new cG C.lt
  have mo := E.cn cG
  replace ⟨h2, h3, C, V, W, Z, aa, ab, ac, E⟩ := (sn [ae] eR cG).g10 h2 h3 C V W Z aa ab ac E
  clear eR hH cG
  refine .d fun pe eS => ?_
  replace ⟨h2, h3, C, V, W, Z, aa, ab, ac, da, E⟩ := (se [ah, ae] eS).g11 h2 h3 C V W Z aa ab ac da E
  clear eS
  refine .sc [.slice ed (((pMerge aB.part ar.part).ids).length) ee, .slice ef (((pMerge aB.part ar.part).blocks).length) eg] da fun cz eT J hJ => ?_
  replace ⟨h2, h3, C, V, W, Z, aa, ab, ac, E⟩ := (so [ah, ae] eT).g10 h2 h3 C V W Z aa ab ac E
  clear eT hJ
  refine .d <| .s ?_
  replace h2 := h2.into
  replace h3 := h3.into
  replace V := V.into
  replace W := W.into
  replace Z := Z.into
  replace aa := aa.into
  replace ab := ab.into
  replace ac := ac.into
  have db : Gb (ae + 1) cz.heap.size := C.lt
  refine .gd (mtb [] cz.heap.size) 15 fun k8 dd => ?_
  replace ⟨h2, h3, C, V, W, Z, aa, ab, ac, J, E⟩ := (se [ah, ae] dd).g11 h2 h3 C V W Z aa ab ac J E
  have ao : Chg (mtb [] cz.heap.size) cz k8 := Chg.stepN (Chg.refl (mtb [] cz.heap.size) cz) dd
  clear dd
  refine .r [1] <| .lb 2 C (nS_of all_nil db) <| .r [3] <| GA.sub (i := 4) (t := 68) (lo := none) (hi := some (vI at_)) (by kernel_rfl) h2 0 ((at_).toNat) (by kernel_rfl) (by kernel_rfl) (.inl ⟨rfl, rfl⟩) (.inr ⟨_, _, rfl, by omega⟩) (by omega) (by omega) fun eU eV ak => ?_
  have mp := ak.len; have mq := ak.max
  refine .r [6] <| .lb 7 C (nS_of all_nil db) <| .r [10] <| .lb 11 C (nS_of all_nil db) <| .r [12] <| GA.int (i := 13) (at_ + 2) (by kernel_rfl) (by omega) <| GA.sub (i := 14) (t := 68) (lo := some (vI (at_ + 2))) (hi := none) (by kernel_rfl) h2 ((at_ + 2).toNat) d.list.length (by kernel_rfl) (by kernel_rfl) (.inr ⟨_, _, rfl, by omega⟩) (.inl ⟨rfl, rfl⟩) (by omega) (by omega) fun pf pg ai => ?_
  have mr := ai.len; have mt := ai.max
  refine .tw 0 8 ?_ ?_
  ·refine .ns 0 3 [] fun ph de => ?_
   replace ⟨h2, h3, C, V, W, Z, aa, ab, ac, J, ak, ai⟩ := (se [ah, ae] de).g12 h2 h3 C V W Z aa ab ac J ak ai
   replace ⟨E, ao⟩ := (se [ah, ae] de).g2 E ao
   clear de
   intro aC k9 bh df hN hO
   have eW := nb_new bh C.lt
   have eX := nb_new bh J.lt
   have eY := gb_new bh E.size
   have eZ := E.cn bh
   have cH := ao.cn bh
   replace ⟨h2, h3, C, V, W, Z, aa, ab, ac, J, ak, ai⟩ := (sn [ah, ae] df bh).g12 h2 h3 C V W Z aa ab ac J ak ai
   replace ⟨E, ao⟩ := (sn [ah, ae] df bh).g2 E ao
   clear df hO bh
   have aO : Own (α := Int) k9 aC 3 (nin (ge w.heap.size) [aC, ah, ae]) 0 0 [] := Own.nil' hN
   refine .tw 5 8 ?_ ?_
   ·refine GE.append (T := 68) (ty := 68) (args := [vS aC 0 0, .slice eU ((at_).toNat - 0) eV]) (by kernel_rfl) fun pi dg => ?_
    replace ⟨h2, h3, C, V, W, Z, aa, ab, ac, J, ak, ai⟩ := (se [aC, ah, ae] dg).g12 h2 h3 C V W Z aa ab ac J ak ai
    replace ⟨aO, E, ao⟩ := (se [aC, ah, ae] dg).g3 aO E ao
    clear dg
    obtain ⟨bd, lc, pj, e0, aF, aQ, cI, hP⟩ := Own.appendF (P := Tryz.prog) (T := 68) (ty := 68) flat_int aO (by kernel_rfl) ak (fun b h e => h.2 (e ▸ (.head _))) (by omega)
    refine ⟨_, _, e0, Chg.toS cI (Cov.toS cH), ?_⟩
    clear hP
    have hQ := nb_or aQ eW C.lt
    have hV := nb_or aQ eX J.lt
    have hW := gb_or aQ eY E.size
    have hX := cov_or aQ eZ E.size
    have hY := cov_or aQ cH ao.size
    replace ⟨h2, h3, C, V, W, Z, aa, ab, ac, J, ak, ai⟩ := (sa [aC, ah, ae] cI aQ).g12 h2 h3 C V W Z aa ab ac J ak ai
    replace ⟨E, ao⟩ := (sa [aC, ah, ae] cI aQ).g2 E ao
    clear cI
    replace aF := aF.rn aC
    clear aQ
    have mu := aF.len; have mw := aF.max
    refine .go 8 <| .ns 1 3 [vI d.next] fun pk dh => ?_
    replace ⟨h2, h3, C, V, W, Z, aa, ab, ac, J, ak, ai⟩ := (se [bd, ah, ae] dh).g12 h2 h3 C V W Z aa ab ac J ak ai
    replace ⟨aF, E, ao⟩ := (se [bd, ah, ae] dh).g3 aF E ao
    clear dh
    intro e7 pl cj di dj hZ
    have ia := nb_new cj C.lt
    have ic := nb_new cj J.lt
    have e8 := nb_new cj aF.lt
    have ie := gb_new cj E.size
    replace ⟨h2, h3, C, V, W, Z, aa, ab, ac, J, ak, ai⟩ := (se [bd, ah, ae] di).g12 h2 h3 C V W Z aa ab ac J ak ai
    replace ⟨aF, E, ao⟩ := (se [bd, ah, ae] di).g3 aF E ao
    clear di hZ cj
    refine .go 9 <| GE.append (T := 68) (ty := 68) (args := [vS bd (0 + ((at_).toNat - 0)) lc, vS e7 1 1]) (by kernel_rfl) fun pm dk => ?_
    replace ⟨h2, h3, C, V, W, Z, aa, ab, ac, J, ak, ai⟩ := (se [bd, ah, ae] dk).g12 h2 h3 C V W Z aa ab ac J ak ai
    replace ⟨aF, dj, E, ao⟩ := (se [bd, ah, ae] dk).g4 aF dj E ao
    clear dk
    have ez : nin (ge w.heap.size) [bd, ah, ae] e7 ∧ e7 ≠ bd := hap_mk ie (all_cons e8 (all_cons ic (all_cons ia all_nil))) e8
    obtain ⟨cX, pn, po, e9, bB, aX, cJ, ig⟩ := aF.append1 (P := Tryz.prog) (T := 68) (ty := 68) (y := d.next) (by kernel_rfl) dj rfl ez (by omega)
    refine ⟨_, _, e9, Chg.toS cJ (Cov.toS hY), ?_⟩
    clear ig
    have ii := nb_or aX hQ C.lt
    have ij := nb_or aX hV J.lt
    have ik := gb_or aX hW E.size
    have mx := cov_or aX hX E.size
    replace ⟨h2, h3, C, V, W, Z, aa, ab, ac, J, ak, ai⟩ := (sa [bd, ah, ae] cJ aX).g12 h2 h3 C V W Z aa ab ac J ak ai
    replace ⟨E, ao⟩ := (sa [bd, ah, ae] cJ aX).g2 E ao
    clear cJ
    replace bB := bB.rn bd
    clear aX
    have my := bB.len; have mz := bB.max
    refine .d fun pp dm => ?_
    replace ⟨h2, h3, C, V, W, Z, aa, ab, ac, J, ak, ai⟩ := (se [cX, ah, ae] dm).g12 h2 h3 C V W Z aa ab ac J ak ai
    replace ⟨bB, E, ao⟩ := (se [cX, ah, ae] dm).g3 bB E ao
    clear dm
    replace h2 := h2.outof
    replace h3 := h3.outof
    replace V := V.outof
    replace W := W.outof
    replace Z := Z.outof
    replace aa := aa.outof
    replace ab := ab.outof
    replace ac := ac.outof
    replace ak := ak.outof
    replace ai := ai.outof
    refine RG.appendF (T := 68) (ty := 68) flat_int bB ai (by kernel_rfl) (by kernel_rfl) (fun b h e => h.2 (e ▸ (.head _))) (by omega) fun aR ld pq au bq dp => ?_
    have mA := nb_or bq ii C.lt
    have mB := nb_or bq ij J.lt
    have il := gb_or bq ik E.size
    replace ⟨h2, h3, C, V, W, Z, aa, ab, ac, J, ak, ai⟩ := (sa [cX, ah, ae] dp bq).g12 h2 h3 C V W Z aa ab ac J ak ai
    replace E := (sa [cX, ah, ae] dp bq).g1 E
    clear dp
    replace au := au.rn cX
    clear bq
    have mC := au.len; have mD := au.max
    refine .r 1 <| .d <| .s <| .gd nil 13 fun pr dq => ?_
    replace ⟨h2, h3, C, V, W, Z, aa, ab, ac, J, ak, ai⟩ := (se [aR, ah, ae] dq).g12 h2 h3 C V W Z aa ab ac J ak ai
    replace ⟨au, E⟩ := (se [aR, ah, ae] dq).g2 au E
    clear dq
    refine .r [0] <| .lb 1 C id <| .ln 2 J id <| .r [3, 4, 5] <| .lb 6 C id <| .r [9, 10, 11, 12] <| .go 7 <| .cl (fun fa cK => c_spec_l11Names d.names (h3.ta.ext cK) (by omega) (by intro n hn; have := p1 n hn; omega) (w := fa) (F := all)) ?_
    intro fa cK
    replace ⟨h2, h3, C, V, W, Z, aa, ab, ac, J, ak, ai⟩ := (se [aR, ah, ae] cK).g12 h2 h3 C V W Z aa ab ac J ak ai
    replace ⟨au, E⟩ := (se [aR, ah, ae] cK).g2 au E
    rintro pu pv ⟨⟨b9, lf, li, rfl, aG, bC⟩, cL⟩
    have fb := al3 au.lt J.lt C.lt
    have im : Gb w.heap.size fa.heap.size := E.size
    have hkeep_ := cL
    have mE := nb_ge bC C.lt
    have mF := nb_ge bC J.lt
    have mG := nb_ge bC au.lt
    have io := gb_ge bC E.size
    replace ⟨h2, h3, C, V, W, Z, aa, ab, ac, J, ak, ai⟩ := (sz [aR, ah, ae] cL bC).g12 h2 h3 C V W Z aa ab ac J ak ai
    replace ⟨au, E⟩ := (sz [aR, ah, ae] cL bC).g2 au E
    clear cL bC
    refine ⟨Ext.chg hkeep_, ?_⟩
    replace aG := Own.take (s0 := w.heap.size) (M := [aR, ah, ae]) aG fb im
    have mH := aG.len; have mI := aG.max
    clear fb
    refine .r [8] <| .d fun pw dr => ?_
    replace ⟨h2, h3, C, V, W, Z, aa, ab, ac, J, ak, ai⟩ := (se [b9, aR, ah, ae] dr).g12 h2 h3 C V W Z aa ab ac J ak ai
    replace ⟨au, aG, E⟩ := (se [b9, aR, ah, ae] dr).g3 au aG E
    clear dr
    refine .ns 4 95 [vI 1, vI d.next, .slice ed (((pMerge aB.part ar.part).ids).length) ee, .slice ef (((pMerge aB.part ar.part).blocks).length) eg, .slice none 0 0, .slice none 0 0, vI 2, vI 0, .slice none 0 0, .slice none 0 0, vS aR (0 + ((at_).toNat - 0) + 1 + (d.list.length - (at_ + 2).toNat)) ld, vS b9 lf li, vI 3, vI aV, .slice none 0 0, .slice none 0 0, .slice none 0 0, .slice none 0 0, vI 3, vI aW, .slice none 0 0, .slice none 0 0, .slice none 0 0, .slice none 0 0] fun ck eh bi dt ip iq => ?_
    have mJ := nb_new bi C.lt
    have mK := nb_new bi J.lt
    have mL := nb_new bi au.lt
    have mM := nb_new bi aG.lt
    have ir := gb_new bi E.size
    replace ⟨h2, h3, C, V, W, Z, aa, ab, ac, J, ak, ai⟩ := (sn [b9, aR, ah, ae] dt bi).g12 h2 h3 C V W Z aa ab ac J ak ai
    replace ⟨au, aG, E⟩ := (sn [b9, aR, ah, ae] dt bi).g3 au aG E
    clear dt iq bi
    have fc := au.sl il
    replace ⟨h2, h3, V, W, Z, aa, ab, ac, ak, ai, aG⟩ := (sd eh [ck, b9, aR, ah, ae] aR).g11 h2 h3 V W Z aa ab ac ak ai aG
    have lj := aG.sl io
    replace ⟨h2, h3, V, W, Z, aa, ab, ac, ak, ai, fc⟩ := (sd eh [ck, b9, ah, ae] b9).g11 h2 h3 V W Z aa ab ac ak ai fc
    have iu : Own (α := Stp) eh ck 95 (nin (ge w.heap.size) [ck, ah, ae]) 4 4 [(⟨1, d.next, (⟨(pMerge aB.part ar.part).ids, (pMerge aB.part ar.part).blocks⟩ : Prt), ([] : List Int), ([] : List (List Tag))⟩ : Stp), (⟨2, 0, (⟨([] : List Int), ([] : List (List Row))⟩ : Prt), ((([] ++ ((d.list.take ((at_).toNat)).drop 0)) ++ [d.next]) ++ ((d.list.take d.list.length).drop ((at_ + 2).toNat))), d.names⟩ : Stp), (⟨3, aV, (⟨([] : List Int), ([] : List (List Row))⟩ : Prt), ([] : List Int), ([] : List (List Tag))⟩ : Stp), (⟨3, aW, (⟨([] : List Int), ([] : List (List Row))⟩ : Prt), ([] : List Int), ([] : List (List Tag))⟩ : Stp)] := Own.lit ip rfl (by decide) ⟨⟨_, _, _, _, _, _, _, _, _, _, _, _, rfl, ab.oi, ac.oi, (RepS.nil' _ _ none 0 (by decide)), (RepS.nil' _ _ none 0 (by decide))⟩, ⟨_, _, _, _, _, _, _, _, _, _, _, _, rfl, (RepS.nil' _ _ none 0 (by decide)), (RepS.nil' _ _ none 0 (by decide)), fc.oi, lj.oi⟩, ⟨_, _, _, _, _, _, _, _, _, _, _, _, rfl, (RepS.nil' _ _ none 0 (by decide)), (RepS.nil' _ _ none 0 (by decide)), (RepS.nil' _ _ none 0 (by decide)), (RepS.nil' _ _ none 0 (by decide))⟩, ⟨_, _, _, _, _, _, _, _, _, _, _, _, rfl, (RepS.nil' _ _ none 0 (by decide)), (RepS.nil' _ _ none 0 (by decide)), (RepS.nil' _ _ none 0 (by decide)), (RepS.nil' _ _ none 0 (by decide))⟩, rfl⟩
    refine .r 1 <| .d ?_
    have lk := iu.sl ir
    replace ⟨h2, h3, V, W, Z, aa, ab, ac, ak, ai⟩ := (sd eh [ck, ah, ae] ck).g10 h2 h3 V W Z aa ab ac ak ai
    exact .rt Tryz.func171 Tryz.results171 (vS ck 4 4) ⟨(lk.vl (by rw [merge_yes (by assumption) (by assumption) (by assumption) (by assumption) (by assumption) (by assumption) (by assumption)]) (fun _ _ h => h.1)), E⟩
   refine .ns 1 3 [vI d.next] fun px du => ?_
   replace ⟨h2, h3, C, V, W, Z, aa, ab, ac, J, ak, ai⟩ := (se [aC, ah, ae] du).g12 h2 h3 C V W Z aa ab ac J ak ai
   replace ⟨aO, E, ao⟩ := (se [aC, ah, ae] du).g3 aO E ao
   clear du
   intro fd py cm dv bj iw
   have iy := nb_new cm C.lt
   have iz := nb_new cm J.lt
   have iA := nb_new cm aO.lt
   have iB := gb_new cm E.size
   replace ⟨h2, h3, C, V, W, Z, aa, ab, ac, J, ak, ai⟩ := (se [aC, ah, ae] dv).g12 h2 h3 C V W Z aa ab ac J ak ai
   replace ⟨aO, E, ao⟩ := (se [aC, ah, ae] dv).g3 aO E ao
   clear dv iw cm
   refine .go 5 <| GE.append (T := 68) (ty := 68) (args := [vS aC 0 0, .slice eU ((at_).toNat - 0) eV]) (by kernel_rfl) fun pz dw => ?_
   replace ⟨h2, h3, C, V, W, Z, aa, ab, ac, J, ak, ai⟩ := (se [aC, ah, ae] dw).g12 h2 h3 C V W Z aa ab ac J ak ai
   replace ⟨aO, bj, E, ao⟩ := (se [aC, ah, ae] dw).g4 aO bj E ao
   clear dw
   obtain ⟨cd, ll, pA, fe, bD, aM, cM, iC⟩ := Own.appendF (P := Tryz.prog) (T := 68) (ty := 68) flat_int aO (by kernel_rfl) ak (fun b h e => h.2 (e ▸ (.head _))) (by omega)
   refine ⟨_, _, fe, Chg.toS cM (Cov.toS cH), ?_⟩
   clear iC
   have iD := nb_or aM eW C.lt
   have iE := nb_or aM eX J.lt
   have ff := nb_or aM (Nb.symm iA) bj.lt
   have iF := gb_or aM eY E.size
   have iG := cov_or aM eZ E.size
   have iH := cov_or aM cH ao.size
   replace ⟨h2, h3, C, V, W, Z, aa, ab, ac, J, ak, ai⟩ := (sa [aC, ah, ae] cM aM).g12 h2 h3 C V W Z aa ab ac J ak ai
   replace ⟨bj, E, ao⟩ := (sa [aC, ah, ae] cM aM).g3 bj E ao
   clear cM
   replace bD := bD.rn aC
   clear aM
   have mN := bD.len; have mO := bD.max
   refine .go 9 <| GE.append (T := 68) (ty := 68) (args := [vS cd (0 + ((at_).toNat - 0)) ll, vS fd 1 1]) (by kernel_rfl) fun pB dx => ?_
   replace ⟨h2, h3, C, V, W, Z, aa, ab, ac, J, ak, ai⟩ := (se [cd, ah, ae] dx).g12 h2 h3 C V W Z aa ab ac J ak ai
   replace ⟨bD, bj, E, ao⟩ := (se [cd, ah, ae] dx).g4 bD bj E ao
   clear dx
   have eA : nin (ge w.heap.size) [cd, ah, ae] fd ∧ fd ≠ cd := hap_mk iB (all_cons (Nb.symm ff) (all_cons iz (all_cons iy all_nil))) (Nb.symm ff)
   obtain ⟨cY, pC, pD, fg, bE, aY, cN, iI⟩ := bD.append1 (P := Tryz.prog) (T := 68) (ty := 68) (y := d.next) (by kernel_rfl) bj rfl eA (by omega)
   refine ⟨_, _, fg, Chg.toS cN (Cov.toS iH), ?_⟩
   clear iI
   have iJ := nb_or aY iD C.lt
   have iK := nb_or aY iE J.lt
   have iL := gb_or aY iF E.size
   have mP := cov_or aY iG E.size
   replace ⟨h2, h3, C, V, W, Z, aa, ab, ac, J, ak, ai⟩ := (sa [cd, ah, ae] cN aY).g12 h2 h3 C V W Z aa ab ac J ak ai
   replace ⟨E, ao⟩ := (sa [cd, ah, ae] cN aY).g2 E ao
   clear cN
   replace bE := bE.rn cd
   clear aY
   have mQ := bE.len; have mR := bE.max
   refine .d fun pE dy => ?_
   replace ⟨h2, h3, C, V, W, Z, aa, ab, ac, J, ak, ai⟩ := (se [cY, ah, ae] dy).g12 h2 h3 C V W Z aa ab ac J ak ai
   replace ⟨bE, E, ao⟩ := (se [cY, ah, ae] dy).g3 bE E ao
   clear dy
   replace h2 := h2.outof
   replace h3 := h3.outof
   replace V := V.outof
   replace W := W.outof
   replace Z := Z.outof
   replace aa := aa.outof
   replace ab := ab.outof
   replace ac := ac.outof
   replace ak := ak.outof
   replace ai := ai.outof
   refine RG.appendF (T := 68) (ty := 68) flat_int bE ai (by kernel_rfl) (by kernel_rfl) (fun b h e => h.2 (e ▸ (.head _))) (by omega) fun aS lm pF av br dz => ?_
   have mS := nb_or br iJ C.lt
   have mT := nb_or br iK J.lt
   have iM := gb_or br iL E.size
   replace ⟨h2, h3, C, V, W, Z, aa, ab, ac, J, ak, ai⟩ := (sa [cY, ah, ae] dz br).g12 h2 h3 C V W Z aa ab ac J ak ai
   replace E := (sa [cY, ah, ae] dz br).g1 E
   clear dz
   replace av := av.rn cY
   clear br
   have mU := av.len; have mV := av.max
   refine .r 1 <| .d <| .s <| .gd nil 13 fun pG dA => ?_
   replace ⟨h2, h3, C, V, W, Z, aa, ab, ac, J, ak, ai⟩ := (se [aS, ah, ae] dA).g12 h2 h3 C V W Z aa ab ac J ak ai
   replace ⟨av, E⟩ := (se [aS, ah, ae] dA).g2 av E
   clear dA
   refine .r [0] <| .lb 1 C id <| .ln 2 J id <| .r [3, 4, 5] <| .lb 6 C id <| .r [9, 10, 11, 12] <| .go 7 <| .cl (fun fh cO => c_spec_l11Names d.names (h3.ta.ext cO) (by omega) (by intro n hn; have := p1 n hn; omega) (w := fh) (F := all)) ?_
   intro fh cO
   replace ⟨h2, h3, C, V, W, Z, aa, ab, ac, J, ak, ai⟩ := (se [aS, ah, ae] cO).g12 h2 h3 C V W Z aa ab ac J ak ai
   replace ⟨av, E⟩ := (se [aS, ah, ae] cO).g2 av E
   rintro pH pI ⟨⟨ce, lp, lq, rfl, aH, bF⟩, cP⟩
   have fi := al3 av.lt J.lt C.lt
   have iN : Gb w.heap.size fh.heap.size := E.size
   have hkeep_ := cP
   have mW := nb_ge bF C.lt
   have mX := nb_ge bF J.lt
   have mY := nb_ge bF av.lt
   have iO := gb_ge bF E.size
   replace ⟨h2, h3, C, V, W, Z, aa, ab, ac, J, ak, ai⟩ := (sz [aS, ah, ae] cP bF).g12 h2 h3 C V W Z aa ab ac J ak ai
   replace ⟨av, E⟩ := (sz [aS, ah, ae] cP bF).g2 av E
   clear cP bF
   refine ⟨Ext.chg hkeep_, ?_⟩
   replace aH := Own.take (s0 := w.heap.size) (M := [aS, ah, ae]) aH fi iN
   have mZ := aH.len; have m0 := aH.max
   clear fi
   refine .r [8] <| .d fun pJ dB => ?_
   replace ⟨h2, h3, C, V, W, Z, aa, ab, ac, J, ak, ai⟩ := (se [ce, aS, ah, ae] dB).g12 h2 h3 C V W Z aa ab ac J ak ai
   replace ⟨av, aH, E⟩ := (se [ce, aS, ah, ae] dB).g3 av aH E
   clear dB
   refine .ns 4 95 [vI 1, vI d.next, .slice ed (((pMerge aB.part ar.part).ids).length) ee, .slice ef (((pMerge aB.part ar.part).blocks).length) eg, .slice none 0 0, .slice none 0 0, vI 2, vI 0, .slice none 0 0, .slice none 0 0, vS aS (0 + ((at_).toNat - 0) + 1 + (d.list.length - (at_ + 2).toNat)) lm, vS ce lp lq, vI 3, vI aV, .slice none 0 0, .slice none 0 0, .slice none 0 0, .slice none 0 0, vI 3, vI aW, .slice none 0 0, .slice none 0 0, .slice none 0 0, .slice none 0 0] fun co ei bk dC iP iQ => ?_
   have m1 := nb_new bk C.lt
   have m2 := nb_new bk J.lt
   have m3 := nb_new bk av.lt
   have m4 := nb_new bk aH.lt
   have iR := gb_new bk E.size
   replace ⟨h2, h3, C, V, W, Z, aa, ab, ac, J, ak, ai⟩ := (sn [ce, aS, ah, ae] dC bk).g12 h2 h3 C V W Z aa ab ac J ak ai
   replace ⟨av, aH, E⟩ := (sn [ce, aS, ah, ae] dC bk).g3 av aH E
   clear dC iQ bk
   have fj := av.sl iM
   replace ⟨h2, h3, V, W, Z, aa, ab, ac, ak, ai, aH⟩ := (sd ei [co, ce, aS, ah, ae] aS).g11 h2 h3 V W Z aa ab ac ak ai aH
   have ls := aH.sl iO
   replace ⟨h2, h3, V, W, Z, aa, ab, ac, ak, ai, fj⟩ := (sd ei [co, ce, ah, ae] ce).g11 h2 h3 V W Z aa ab ac ak ai fj
   have iS : Own (α := Stp) ei co 95 (nin (ge w.heap.size) [co, ah, ae]) 4 4 [(⟨1, d.next, (⟨(pMerge aB.part ar.part).ids, (pMerge aB.part ar.part).blocks⟩ : Prt), ([] : List Int), ([] : List (List Tag))⟩ : Stp), (⟨2, 0, (⟨([] : List Int), ([] : List (List Row))⟩ : Prt), ((([] ++ ((d.list.take ((at_).toNat)).drop 0)) ++ [d.next]) ++ ((d.list.take d.list.length).drop ((at_ + 2).toNat))), d.names⟩ : Stp), (⟨3, aV, (⟨([] : List Int), ([] : List (List Row))⟩ : Prt), ([] : List Int), ([] : List (List Tag))⟩ : Stp), (⟨3, aW, (⟨([] : List Int), ([] : List (List Row))⟩ : Prt), ([] : List Int), ([] : List (List Tag))⟩ : Stp)] := Own.lit iP rfl (by decide) ⟨⟨_, _, _, _, _, _, _, _, _, _, _, _, rfl, ab.oi, ac.oi, (RepS.nil' _ _ none 0 (by decide)), (RepS.nil' _ _ none 0 (by decide))⟩, ⟨_, _, _, _, _, _, _, _, _, _, _, _, rfl, (RepS.nil' _ _ none 0 (by decide)), (RepS.nil' _ _ none 0 (by decide)), fj.oi, ls.oi⟩, ⟨_, _, _, _, _, _, _, _, _, _, _, _, rfl, (RepS.nil' _ _ none 0 (by decide)), (RepS.nil' _ _ none 0 (by decide)), (RepS.nil' _ _ none 0 (by decide)), (RepS.nil' _ _ none 0 (by decide))⟩, ⟨_, _, _, _, _, _, _, _, _, _, _, _, rfl, (RepS.nil' _ _ none 0 (by decide)), (RepS.nil' _ _ none 0 (by decide)), (RepS.nil' _ _ none 0 (by decide)), (RepS.nil' _ _ none 0 (by decide))⟩, rfl⟩
   refine .r 1 <| .d ?_
   have lu := iS.sl iR
   replace ⟨h2, h3, V, W, Z, aa, ab, ac, ak, ai⟩ := (sd ei [co, ah, ae] co).g10 h2 h3 V W Z aa ab ac ak ai
   exact .rt Tryz.func171 Tryz.results171 (vS co 4 4) ⟨(lu.vl (by rw [merge_yes (by assumption) (by assumption) (by assumption) (by assumption) (by assumption) (by assumption) (by assumption)]) (fun _ _ h => h.1)), E⟩
  refine .ns 1 3 [vI d.next] fun pK dD => ?_
  replace ⟨h2, h3, C, V, W, Z, aa, ab, ac, J, ak, ai⟩ := (se [ah, ae] dD).g12 h2 h3 C V W Z aa ab ac J ak ai
  replace ⟨E, ao⟩ := (se [ah, ae] dD).g2 E ao
  clear dD
  intro fk pL cQ dE aD iT
  have iU := nb_new cQ C.lt
  have iV := nb_new cQ J.lt
  have iW := gb_new cQ E.size
  replace ⟨h2, h3, C, V, W, Z, aa, ab, ac, J, ak, ai⟩ := (se [ah, ae] dE).g12 h2 h3 C V W Z aa ab ac J ak ai
  replace ⟨E, ao⟩ := (se [ah, ae] dE).g2 E ao
  clear dE iT cQ
  refine .go 0 <| .ns 0 3 [] fun pM dF => ?_
  replace ⟨h2, h3, C, V, W, Z, aa, ab, ac, J, ak, ai⟩ := (se [ah, ae] dF).g12 h2 h3 C V W Z aa ab ac J ak ai
  replace ⟨aD, E, ao⟩ := (se [ah, ae] dF).g3 aD E ao
  clear dF
  intro cg lv aZ dG iX iY
  have iZ := nb_new aZ C.lt
  have ja := nb_new aZ J.lt
  have jb := nb_new aZ aD.lt
  have jc := gb_new aZ E.size
  have jd := E.cn aZ
  have fl := ao.cn aZ
  replace ⟨h2, h3, C, V, W, Z, aa, ab, ac, J, ak, ai⟩ := (sn [ah, ae] dG aZ).g12 h2 h3 C V W Z aa ab ac J ak ai
  replace ⟨aD, E, ao⟩ := (sn [ah, ae] dG aZ).g3 aD E ao
  clear dG iY aZ
  have dH : Own (α := Int) lv cg 3 (nin (ge w.heap.size) [cg, ah, ae]) 0 0 [] := Own.nil' iX
  refine .go 5 <| GE.append (T := 68) (ty := 68) (args := [vS cg 0 0, .slice eU ((at_).toNat - 0) eV]) (by kernel_rfl) fun pN dI => ?_
  replace ⟨h2, h3, C, V, W, Z, aa, ab, ac, J, ak, ai⟩ := (se [cg, ah, ae] dI).g12 h2 h3 C V W Z aa ab ac J ak ai
  replace ⟨aD, dH, E, ao⟩ := (se [cg, ah, ae] dI).g4 aD dH E ao
  clear dI
  obtain ⟨cp, lw, pO, fm, bG, aN, cR, je⟩ := Own.appendF (P := Tryz.prog) (T := 68) (ty := 68) flat_int dH (by kernel_rfl) ak (fun b h e => h.2 (e ▸ (.head _))) (by omega)
  refine ⟨_, _, fm, Chg.toS cR (Cov.toS fl), ?_⟩
  clear je
  have jf := nb_or aN iZ C.lt
  have jg := nb_or aN ja J.lt
  have fp := nb_or aN jb aD.lt
  have jh := gb_or aN jc E.size
  have ji := cov_or aN jd E.size
  have jj := cov_or aN fl ao.size
  replace ⟨h2, h3, C, V, W, Z, aa, ab, ac, J, ai, aD⟩ := (sa [cg, ah, ae] cR aN).g12 h2 h3 C V W Z aa ab ac J ai aD
  replace E := (sa [cg, ah, ae] cR aN).g1 E
  clear cR
  replace bG := bG.rn cg
  clear aN
  have m5 := bG.len; have m6 := bG.max
  refine .go 9 <| GE.append (T := 68) (ty := 68) (args := [vS cp (0 + ((at_).toNat - 0)) lw, vS fk 1 1]) (by kernel_rfl) fun pP dJ => ?_
  replace ⟨h2, h3, C, V, W, Z, aa, ab, ac, J, ai, aD⟩ := (se [cp, ah, ae] dJ).g12 h2 h3 C V W Z aa ab ac J ai aD
  replace ⟨bG, E⟩ := (se [cp, ah, ae] dJ).g2 bG E
  clear dJ
  have eB : nin (ge w.heap.size) [cp, ah, ae] fk ∧ fk ≠ cp := hap_mk iW (all_cons (Nb.symm fp) (all_cons iV (all_cons iU all_nil))) (Nb.symm fp)
  obtain ⟨ej, pQ, pR, fq, bH, bt, dK, jk⟩ := bG.append1 (P := Tryz.prog) (T := 68) (ty := 68) (y := d.next) (by kernel_rfl) aD rfl eB (by omega)
  refine ⟨_, _, fq, Chg.toS dK (Cov.toS jj), ?_⟩
  clear jk
  have jl := nb_or bt jf C.lt
  have jm := nb_or bt jg J.lt
  have jn := gb_or bt jh E.size
  have m7 := cov_or bt ji E.size
  replace ⟨h2, h3, C, V, W, Z, aa, ab, ac, J, ai, E⟩ := (sa [cp, ah, ae] dK bt).g12 h2 h3 C V W Z aa ab ac J ai E
  clear dK
  replace bH := bH.rn cp
  clear bt
  have m8 := bH.len; have m9 := bH.max
  refine .d fun pS dL => ?_
  replace ⟨h2, h3, C, V, W, Z, aa, ab, ac, J, ai, bH⟩ := (se [ej, ah, ae] dL).g12 h2 h3 C V W Z aa ab ac J ai bH
  replace E := (se [ej, ah, ae] dL).g1 E
  clear dL
  replace h2 := h2.outof
  replace h3 := h3.outof
  replace V := V.outof
  replace W := W.outof
  replace Z := Z.outof
  replace aa := aa.outof
  replace ab := ab.outof
  replace ac := ac.outof
  replace ai := ai.outof
  refine RG.appendF (T := 68) (ty := 68) flat_int bH ai (by kernel_rfl) (by kernel_rfl) (fun b h e => h.2 (e ▸ (.head _))) (by omega) fun bA ly pT aw bR ft => ?_
  have nc := nb_or bR jl C.lt
  have ng := nb_or bR jm J.lt
  have jo := gb_or bR jn E.size
  replace ⟨h2, h3, C, V, W, Z, aa, ab, ac, J, E⟩ := (sa [ej, ah, ae] ft bR).g11 h2 h3 C V W Z aa ab ac J E
  clear ft
  replace aw := aw.rn ej
  clear bR
  have nh := aw.len; have ni := aw.max
  refine .r 1 <| .d <| .s <| .gd nil 13 fun pU fu => ?_
  replace ⟨h2, h3, C, V, W, Z, aa, ab, ac, J, aw, E⟩ := (se [bA, ah, ae] fu).g12 h2 h3 C V W Z aa ab ac J aw E
  clear fu
  refine .r [0] <| .lb 1 C id <| .ln 2 J id <| .r [3, 4, 5] <| .lb 6 C id <| .r [9, 10, 11, 12] <| .go 7 <| .cl (fun fv dM => c_spec_l11Names d.names (h3.ta.ext dM) (by omega) (by intro n hn; have := p1 n hn; omega) (w := fv) (F := all)) ?_
  intro fv dM
  replace ⟨h2, h3, C, V, W, Z, aa, ab, ac, J, aw, E⟩ := (se [bA, ah, ae] dM).g12 h2 h3 C V W Z aa ab ac J aw E
  rintro pV pW ⟨⟨cq, lz, lA, rfl, aI, bZ⟩, dN⟩
  have fw := al3 aw.lt J.lt C.lt
  have jp : Gb w.heap.size fv.heap.size := E.size
  have hkeep_ := dN
  have nj := nb_ge bZ C.lt
  have nk := nb_ge bZ J.lt
  have nq := nb_ge bZ aw.lt
  have jq := gb_ge bZ E.size
  replace ⟨h2, h3, C, V, W, Z, aa, ab, ac, J, aw, E⟩ := (sz [bA, ah, ae] dN bZ).g12 h2 h3 C V W Z aa ab ac J aw E
  clear dN bZ
  refine ⟨Ext.chg hkeep_, ?_⟩
  replace aI := Own.take (s0 := w.heap.size) (M := [bA, ah, ae]) aI fw jp
  have nt := aI.len; have nu := aI.max
  clear fw
  refine .r [8] <| .d fun pX dO => ?_
  replace ⟨h2, h3, C, V, W, Z, aa, ab, ac, J, aw, aI⟩ := (se [cq, bA, ah, ae] dO).g12 h2 h3 C V W Z aa ab ac J aw aI
  replace E := (se [cq, bA, ah, ae] dO).g1 E
  clear dO
  refine .ns 4 95 [vI 1, vI d.next, .slice ed (((pMerge aB.part ar.part).ids).length) ee, .slice ef (((pMerge aB.part ar.part).blocks).length) eg, .slice none 0 0, .slice none 0 0, vI 2, vI 0, .slice none 0 0, .slice none 0 0, vS bA (0 + ((at_).toNat - 0) + 1 + (d.list.length - (at_ + 2).toNat)) ly, vS cq lz lA, vI 3, vI aV, .slice none 0 0, .slice none 0 0, .slice none 0 0, .slice none 0 0, vI 3, vI aW, .slice none 0 0, .slice none 0 0, .slice none 0 0, .slice none 0 0] fun cr ek bI fx jr js => ?_
  have nv := nb_new bI C.lt
  have ny := nb_new bI J.lt
  have nz := nb_new bI aw.lt
  have nA := nb_new bI aI.lt
  have jt := gb_new bI E.size
  replace ⟨h2, h3, C, V, W, Z, aa, ab, ac, aw, aI, E⟩ := (sn [cq, bA, ah, ae] fx bI).g12 h2 h3 C V W Z aa ab ac aw aI E
  clear fx js bI
  have fy := aw.sl jo
  replace ⟨h2, h3, V, W, Z, aa, ab, ac, aI⟩ := (sd ek [cr, cq, bA, ah, ae] bA).g9 h2 h3 V W Z aa ab ac aI
  have lB := aI.sl jq
  replace ⟨h2, h3, V, W, Z, aa, ab, ac, fy⟩ := (sd ek [cr, cq, ah, ae] cq).g9 h2 h3 V W Z aa ab ac fy
  have ju : Own (α := Stp) ek cr 95 (nin (ge w.heap.size) [cr, ah, ae]) 4 4 [(⟨1, d.next, (⟨(pMerge aB.part ar.part).ids, (pMerge aB.part ar.part).blocks⟩ : Prt), ([] : List Int), ([] : List (List Tag))⟩ : Stp), (⟨2, 0, (⟨([] : List Int), ([] : List (List Row))⟩ : Prt), ((([] ++ ((d.list.take ((at_).toNat)).drop 0)) ++ [d.next]) ++ ((d.list.take d.list.length).drop ((at_ + 2).toNat))), d.names⟩ : Stp), (⟨3, aV, (⟨([] : List Int), ([] : List (List Row))⟩ : Prt), ([] : List Int), ([] : List (List Tag))⟩ : Stp), (⟨3, aW, (⟨([] : List Int), ([] : List (List Row))⟩ : Prt), ([] : List Int), ([] : List (List Tag))⟩ : Stp)] := Own.lit jr rfl (by decide) ⟨⟨_, _, _, _, _, _, _, _, _, _, _, _, rfl, ab.oi, ac.oi, (RepS.nil' _ _ none 0 (by decide)), (RepS.nil' _ _ none 0 (by decide))⟩, ⟨_, _, _, _, _, _, _, _, _, _, _, _, rfl, (RepS.nil' _ _ none 0 (by decide)), (RepS.nil' _ _ none 0 (by decide)), fy.oi, lB.oi⟩, ⟨_, _, _, _, _, _, _, _, _, _, _, _, rfl, (RepS.nil' _ _ none 0 (by decide)), (RepS.nil' _ _ none 0 (by decide)), (RepS.nil' _ _ none 0 (by decide)), (RepS.nil' _ _ none 0 (by decide))⟩, ⟨_, _, _, _, _, _, _, _, _, _, _, _, rfl, (RepS.nil' _ _ none 0 (by decide)), (RepS.nil' _ _ none 0 (by decide)), (RepS.nil' _ _ none 0 (by decide)), (RepS.nil' _ _ none 0 (by decide))⟩, rfl⟩
  refine .r 1 <| .d ?_
  have lC := ju.sl jt
  replace ⟨h2, h3, V, W, Z, aa⟩ := (sd ek [cr, ah, ae] cr).g6 h2 h3 V W Z aa
  exact .rt Tryz.func171 Tryz.results171 (vS cr 4 4) ⟨(lC.vl (by rw [merge_yes (by assumption) (by assumption) (by assumption) (by assumption) (by assumption) (by assumption) (by assumption)]) (fun _ _ h => h.1)), E⟩
 refine .nw (fun b => .pointer (some ⟨b, 0, none⟩)) 75 [.slice none 0 0, .slice none 0 0] fun pY fz => ?_
 replace ⟨h2, h3, C, V, W, Z, aa, E⟩ := (se [ae] fz).g8 h2 h3 C V W Z aa E
 clear fz
 intro am pZ cS fA bm jv
 have nB := nb_new cS C.lt
 have nC := E.cn cS
 replace ⟨h2, h3, C, V, W, Z, aa, E⟩ := (sn [ae] fA cS).g8 h2 h3 C V W Z aa E
 clear fA jv cS
 refine .go 16 <| .cl (fun fB b0 => c_spec_l12Merge aB.part ar.part (V.ta.ext b0) (W.ta.ext b0) (Z.ta.ext b0) (aa.ta.ext b0) (p4 _ (by assumption)) (p4 _ (by assumption)) (w := fB) (F := all)) ?_
 intro fB b0
 replace ⟨h2, h3, C, bm, E⟩ := (se [am, ae] b0).g5 h2 h3 C bm E
 rintro p5 p6 ⟨⟨_, rfl, ⟨em, p7, en, eo, p8, ep, rfl, af, ag⟩⟩, dP⟩
 have dQ := al2 bm.lt C.lt
 have fC : Gb w.heap.size fB.heap.size := E.size
 have hkeep_ := dP
 replace ⟨h2, h3, C, bm, E⟩ := (se [am, ae] dP).g5 h2 h3 C bm E
 clear dP
 refine ⟨Ext.chg hkeep_, ?_⟩
 have af := af.fr dQ fC
 have nD := af.max
 have ag := ag.fr dQ fC
 have nE := ag.max
 clear dQ
 have jw := af.len
 subst jw
 have jx := ag.len
 subst jx
 refine .d fun p9 fD => ?_
 replace ⟨h2, h3, C, bm, af, ag, E⟩ := (se [am, ae] fD).g7 h2 h3 C bm af ag E
 clear fD
 refine .sc [.slice em (((pMerge aB.part ar.part).ids).length) en, .slice eo (((pMerge aB.part ar.part).blocks).length) ep] bm fun cA fE O jy => ?_
 replace ⟨h2, h3, C, af, ag, E⟩ := (so [am, ae] fE).g6 h2 h3 C af ag E
 clear fE jy
 refine .d <| .s ?_
 replace h2 := h2.into
 replace h3 := h3.into
 replace af := af.into
 replace ag := ag.into
 have dR : Gb (ae + 1) cA.heap.size := C.lt
 refine .gd (mtb [] cA.heap.size) 15 fun lD dS => ?_
 replace ⟨h2, h3, C, O, af, ag, E⟩ := (se [am, ae] dS).g7 h2 h3 C O af ag E
 have aq : Chg (mtb [] cA.heap.size) cA lD := Chg.stepN (Chg.refl (mtb [] cA.heap.size) cA) dS
 clear dS
 refine .r [1] <| .lb 2 C (nS_of all_nil dR) <| .r [3] <| GA.sub (i := 4) (t := 68) (lo := none) (hi := some (vI at_)) (by kernel_rfl) h2 0 ((at_).toNat) (by kernel_rfl) (by kernel_rfl) (.inl ⟨rfl, rfl⟩) (.inr ⟨_, _, rfl, by omega⟩) (by omega) (by omega) fun fF fG al => ?_
 have nF := al.len; have nG := al.max
 refine .r [6] <| .lb 7 C (nS_of all_nil dR) <| .r [10] <| .lb 11 C (nS_of all_nil dR) <| .r [12] <| GA.int (i := 13) (at_ + 2) (by kernel_rfl) (by omega) <| GA.sub (i := 14) (t := 68) (lo := some (vI (at_ + 2))) (hi := none) (by kernel_rfl) h2 ((at_ + 2).toNat) d.list.length (by kernel_rfl) (by kernel_rfl) (.inr ⟨_, _, rfl, by omega⟩) (.inl ⟨rfl, rfl⟩) (by omega) (by omega) fun qa qb aj => ?_
 have nH := aj.len; have nI := aj.max
 refine .tw 0 8 ?_ ?_
 ·refine .ns 0 3 [] fun qc fH => ?_
  replace ⟨h3, C, O, af, ag, al, aj, E, aq⟩ := (se [am, ae] fH).g9 h3 C O af ag al aj E aq
  clear fH
  intro bg lE bJ fI jz jA
  have fJ := nb_new bJ C.lt
  have fK := nb_new bJ O.lt
  have fL := gb_new bJ E.size
  have fM := E.cn bJ
  have cT := aq.cn bJ
  replace ⟨h3, C, O, af, ag, al, aj, E, aq⟩ := (sn [am, ae] fI bJ).g9 h3 C O af ag al aj E aq
  clear fI jA bJ
  have aP : Own (α := Int) lE bg 3 (nin (ge w.heap.size) [bg, am, ae]) 0 0 [] := Own.nil' jz
  refine .tw 5 8 ?_ ?_
  ·refine GE.append (T := 68) (ty := 68) (args := [vS bg 0 0, .slice fF ((at_).toNat - 0) fG]) (by kernel_rfl) fun qd fN => ?_
   replace ⟨h3, C, O, af, ag, al, aj, aP, E, aq⟩ := (se [bg, am, ae] fN).g10 h3 C O af ag al aj aP E aq
   clear fN
   obtain ⟨ci, lF, qe, fO, aJ, ba, dT, jB⟩ := Own.appendF (P := Tryz.prog) (T := 68) (ty := 68) flat_int aP (by kernel_rfl) al (fun b h e => h.2 (e ▸ (.head _))) (by omega)
   refine ⟨_, _, fO, Chg.toS dT (Cov.toS cT), ?_⟩
   clear jB
   have jC := nb_or ba fJ C.lt
   have jD := nb_or ba fK O.lt
   have jE := gb_or ba fL E.size
   have jF := cov_or ba fM E.size
   have jG := cov_or ba cT aq.size
   replace ⟨h3, C, O, af, ag, al, aj, E, aq⟩ := (sa [bg, am, ae] dT ba).g9 h3 C O af ag al aj E aq
   clear dT
   replace aJ := aJ.rn bg
   clear ba
   have nJ := aJ.len; have nK := aJ.max
   refine .go 8 <| .ns 1 3 [vI d.next] fun qf fP => ?_
   replace ⟨h3, C, O, af, ag, al, aj, aJ, E, aq⟩ := (se [ci, am, ae] fP).g10 h3 C O af ag al aj aJ E aq
   clear fP
   intro fQ qg cu fR dU jH
   have jI := nb_new cu C.lt
   have jJ := nb_new cu O.lt
   have fS := nb_new cu aJ.lt
   have jK := gb_new cu E.size
   replace ⟨h3, C, O, af, ag, al, aj, aJ, E, aq⟩ := (se [ci, am, ae] fR).g10 h3 C O af ag al aj aJ E aq
   clear fR jH cu
   refine .go 9 <| GE.append (T := 68) (ty := 68) (args := [vS ci (0 + ((at_).toNat - 0)) lF, vS fQ 1 1]) (by kernel_rfl) fun qh fT => ?_
   replace ⟨h3, C, O, af, ag, al, aj, aJ, dU, E, aq⟩ := (se [ci, am, ae] fT).g11 h3 C O af ag al aj aJ dU E aq
   clear fT
   have eC : nin (ge w.heap.size) [ci, am, ae] fQ ∧ fQ ≠ ci := hap_mk jK (all_cons fS (all_cons jJ (all_cons jI all_nil))) fS
   obtain ⟨fU, qi, qj, fV, bK, bu, dV, jL⟩ := aJ.append1 (P := Tryz.prog) (T := 68) (ty := 68) (y := d.next) (by kernel_rfl) dU rfl eC (by omega)
   refine ⟨_, _, fV, Chg.toS dV (Cov.toS jG), ?_⟩
   clear jL
   have jM := nb_or bu jC C.lt
   have jN := nb_or bu jD O.lt
   have jO := gb_or bu jE E.size
   have nL := cov_or bu jF E.size
   replace ⟨h3, C, O, af, ag, al, aj, E, aq⟩ := (sa [ci, am, ae] dV bu).g9 h3 C O af ag al aj E aq
   clear dV
   replace bK := bK.rn ci
   clear bu
   have nM := bK.len; have nN := bK.max
   refine .d fun qk fW => ?_
   replace ⟨h3, C, O, af, ag, al, aj, bK, E, aq⟩ := (se [fU, am, ae] fW).g10 h3 C O af ag al aj bK E aq
   clear fW
   replace h3 := h3.outof
   replace af := af.outof
   replace ag := ag.outof
   replace al := al.outof
   replace aj := aj.outof
   refine RG.appendF (T := 68) (ty := 68) flat_int bK aj (by kernel_rfl) (by kernel_rfl) (fun b h e => h.2 (e ▸ (.head _))) (by omega) fun bS lG ql ax bT fX => ?_
   have nO := nb_or bT jM C.lt
   have nP := nb_or bT jN O.lt
   have jP := gb_or bT jO E.size
   replace ⟨h3, C, O, af, ag, al, aj, E⟩ := (sa [fU, am, ae] fX bT).g8 h3 C O af ag al aj E
   clear fX
   replace ax := ax.rn fU
   clear bT
   have nQ := ax.len; have nR := ax.max
   refine .r 1 <| .d <| .s <| .gd nil 13 fun qm fY => ?_
   replace ⟨h3, C, O, af, ag, al, aj, ax, E⟩ := (se [bS, am, ae] fY).g9 h3 C O af ag al aj ax E
   clear fY
   refine .r [0] <| .lb 1 C id <| .ln 2 O id <| .r [3, 4, 5] <| .lb 6 C id <| .r [9, 10, 11, 12] <| .go 7 <| .cl (fun fZ dW => c_spec_l11Names d.names (h3.ta.ext dW) (by omega) (by intro n hn; have := p1 n hn; omega) (w := fZ) (F := all)) ?_
   intro fZ dW
   replace ⟨h3, C, O, af, ag, al, aj, ax, E⟩ := (se [bS, am, ae] dW).g9 h3 C O af ag al aj ax E
   rintro qn qo ⟨⟨cB, lH, lI, rfl, aK, b6⟩, dX⟩
   have f0 := al3 ax.lt O.lt C.lt
   have jQ : Gb w.heap.size fZ.heap.size := E.size
   have hkeep_ := dX
   have nT := nb_ge b6 C.lt
   have nU := nb_ge b6 O.lt
   have nV := nb_ge b6 ax.lt
   have jR := gb_ge b6 E.size
   replace ⟨h3, C, O, af, ag, al, aj, ax, E⟩ := (sz [bS, am, ae] dX b6).g9 h3 C O af ag al aj ax E
   clear dX b6
   refine ⟨Ext.chg hkeep_, ?_⟩
   replace aK := Own.take (s0 := w.heap.size) (M := [bS, am, ae]) aK f0 jQ
   have nW := aK.len; have nX := aK.max
   clear f0
   refine .r [8] <| .d fun qp f3 => ?_
   replace ⟨h3, C, O, af, ag, al, aj, ax, aK, E⟩ := (se [cB, bS, am, ae] f3).g10 h3 C O af ag al aj ax aK E
   clear f3
   refine .ns 4 95 [vI 1, vI d.next, .slice em (((pMerge aB.part ar.part).ids).length) en, .slice eo (((pMerge aB.part ar.part).blocks).length) ep, .slice none 0 0, .slice none 0 0, vI 2, vI 0, .slice none 0 0, .slice none 0 0, vS bS (0 + ((at_).toNat - 0) + 1 + (d.list.length - (at_ + 2).toNat)) lG, vS cB lH lI, vI 3, vI aV, .slice none 0 0, .slice none 0 0, .slice none 0 0, .slice none 0 0, vI 3, vI aW, .slice none 0 0, .slice none 0 0, .slice none 0 0, .slice none 0 0] fun cv es bL f4 jS jT => ?_
   have nY := nb_new bL C.lt
   have nZ := nb_new bL O.lt
   have n7 := nb_new bL ax.lt
   have n8 := nb_new bL aK.lt
   have jU := gb_new bL E.size
   replace ⟨h3, C, O, af, ag, al, aj, ax, aK, E⟩ := (sn [cB, bS, am, ae] f4 bL).g10 h3 C O af ag al aj ax aK E
   clear f4 jT bL
   have f5 := ax.sl jP
   replace ⟨h3, af, ag, al, aj, aK⟩ := (sd es [cv, cB, bS, am, ae] bS).g6 h3 af ag al aj aK
   have lJ := aK.sl jR
   replace ⟨h3, af, ag, al, aj, f5⟩ := (sd es [cv, cB, am, ae] cB).g6 h3 af ag al aj f5
   have jV : Own (α := Stp) es cv 95 (nin (ge w.heap.size) [cv, am, ae]) 4 4 [(⟨1, d.next, (⟨(pMerge aB.part ar.part).ids, (pMerge aB.part ar.part).blocks⟩ : Prt), ([] : List Int), ([] : List (List Tag))⟩ : Stp), (⟨2, 0, (⟨([] : List Int), ([] : List (List Row))⟩ : Prt), ((([] ++ ((d.list.take ((at_).toNat)).drop 0)) ++ [d.next]) ++ ((d.list.take d.list.length).drop ((at_ + 2).toNat))), d.names⟩ : Stp), (⟨3, aV, (⟨([] : List Int), ([] : List (List Row))⟩ : Prt), ([] : List Int), ([] : List (List Tag))⟩ : Stp), (⟨3, aW, (⟨([] : List Int), ([] : List (List Row))⟩ : Prt), ([] : List Int), ([] : List (List Tag))⟩ : Stp)] := Own.lit jS rfl (by decide) ⟨⟨_, _, _, _, _, _, _, _, _, _, _, _, rfl, af.oi, ag.oi, (RepS.nil' _ _ none 0 (by decide)), (RepS.nil' _ _ none 0 (by decide))⟩, ⟨_, _, _, _, _, _, _, _, _, _, _, _, rfl, (RepS.nil' _ _ none 0 (by decide)), (RepS.nil' _ _ none 0 (by decide)), f5.oi, lJ.oi⟩, ⟨_, _, _, _, _, _, _, _, _, _, _, _, rfl, (RepS.nil' _ _ none 0 (by decide)), (RepS.nil' _ _ none 0 (by decide)), (RepS.nil' _ _ none 0 (by decide)), (RepS.nil' _ _ none 0 (by decide))⟩, ⟨_, _, _, _, _, _, _, _, _, _, _, _, rfl, (RepS.nil' _ _ none 0 (by decide)), (RepS.nil' _ _ none 0 (by decide)), (RepS.nil' _ _ none 0 (by decide)), (RepS.nil' _ _ none 0 (by decide))⟩, rfl⟩
   refine .r 1 <| .d ?_
   have lK := jV.sl jU
   replace ⟨h3, af, ag, al, aj⟩ := (sd es [cv, am, ae] cv).g5 h3 af ag al aj
   exact .rt Tryz.func171 Tryz.results171 (vS cv 4 4) ⟨(lK.vl (by rw [merge_yes (by assumption) (by assumption) (by assumption) (by assumption) (by assumption) (by assumption) (by assumption)]) (fun _ _ h => h.1)), E⟩
  refine .ns 1 3 [vI d.next] fun qq f6 => ?_
  replace ⟨h3, C, O, af, ag, al, aj, aP, E, aq⟩ := (se [bg, am, ae] f6).g10 h3 C O af ag al aj aP E aq
  clear f6
  intro f7 qr cw f8 bn jW
  have jX := nb_new cw C.lt
  have jY := nb_new cw O.lt
  have jZ := nb_new cw aP.lt
  have j0 := gb_new cw E.size
  replace ⟨h3, C, O, af, ag, al, aj, aP, E, aq⟩ := (se [bg, am, ae] f8).g10 h3 C O af ag al aj aP E aq
  clear f8 jW cw
  refine .go 5 <| GE.append (T := 68) (ty := 68) (args := [vS bg 0 0, .slice fF ((at_).toNat - 0) fG]) (by kernel_rfl) fun qs f9 => ?_
  replace ⟨h3, C, O, af, ag, al, aj, aP, bn, E, aq⟩ := (se [bg, am, ae] f9).g11 h3 C O af ag al aj aP bn E aq
  clear f9
  obtain ⟨cC, lL, qt, ga, bM, aT, dY, j1⟩ := Own.appendF (P := Tryz.prog) (T := 68) (ty := 68) flat_int aP (by kernel_rfl) al (fun b h e => h.2 (e ▸ (.head _))) (by omega)
  refine ⟨_, _, ga, Chg.toS dY (Cov.toS cT), ?_⟩
  clear j1
  have j2 := nb_or aT fJ C.lt
  have j3 := nb_or aT fK O.lt
  have gb := nb_or aT (Nb.symm jZ) bn.lt
  have j4 := gb_or aT fL E.size
  have j5 := cov_or aT fM E.size
  have j6 := cov_or aT cT aq.size
  replace ⟨h3, C, O, af, ag, al, aj, bn, E, aq⟩ := (sa [bg, am, ae] dY aT).g10 h3 C O af ag al aj bn E aq
  clear dY
  replace bM := bM.rn bg
  clear aT
  have n9 := bM.len; have oa := bM.max
  refine .go 9 <| GE.append (T := 68) (ty := 68) (args := [vS cC (0 + ((at_).toNat - 0)) lL, vS f7 1 1]) (by kernel_rfl) fun qu gf => ?_
  replace ⟨h3, C, O, af, ag, al, aj, bM, bn, E, aq⟩ := (se [cC, am, ae] gf).g11 h3 C O af ag al aj bM bn E aq
  clear gf
  have eD : nin (ge w.heap.size) [cC, am, ae] f7 ∧ f7 ≠ cC := hap_mk j0 (all_cons (Nb.symm gb) (all_cons jY (all_cons jX all_nil))) (Nb.symm gb)
  obtain ⟨gg, qv, qw, gh, bN, bv, dZ, j7⟩ := bM.append1 (P := Tryz.prog) (T := 68) (ty := 68) (y := d.next) (by kernel_rfl) bn rfl eD (by omega)
  refine ⟨_, _, gh, Chg.toS dZ (Cov.toS j6), ?_⟩
  clear j7
  have j8 := nb_or bv j2 C.lt
  have j9 := nb_or bv j3 O.lt
  have ka := gb_or bv j4 E.size
  have oc := cov_or bv j5 E.size
  replace ⟨h3, C, O, af, ag, al, aj, E, aq⟩ := (sa [cC, am, ae] dZ bv).g9 h3 C O af ag al aj E aq
  clear dZ
  replace bN := bN.rn cC
  clear bv
  have od := bN.len; have oe := bN.max
  refine .d fun qx gi => ?_
  replace ⟨h3, C, O, af, ag, al, aj, bN, E, aq⟩ := (se [gg, am, ae] gi).g10 h3 C O af ag al aj bN E aq
  clear gi
  replace h3 := h3.outof
  replace af := af.outof
  replace ag := ag.outof
  replace al := al.outof
  replace aj := aj.outof
  refine RG.appendF (T := 68) (ty := 68) flat_int bN aj (by kernel_rfl) (by kernel_rfl) (fun b h e => h.2 (e ▸ (.head _))) (by omega) fun bU lM qy ay bV gj => ?_
  have og := nb_or bV j8 C.lt
  have oh := nb_or bV j9 O.lt
  have kb := gb_or bV ka E.size
  replace ⟨h3, C, O, af, ag, al, aj, E⟩ := (sa [gg, am, ae] gj bV).g8 h3 C O af ag al aj E
  clear gj
  replace ay := ay.rn gg
  clear bV
  have ol := ay.len; have om := ay.max
  refine .r 1 <| .d <| .s <| .gd nil 13 fun qz gk => ?_
  replace ⟨h3, C, O, af, ag, al, aj, ay, E⟩ := (se [bU, am, ae] gk).g9 h3 C O af ag al aj ay E
  clear gk
  refine .r [0] <| .lb 1 C id <| .ln 2 O id <| .r [3, 4, 5] <| .lb 6 C id <| .r [9, 10, 11, 12] <| .go 7 <| .cl (fun gl d0 => c_spec_l11Names d.names (h3.ta.ext d0) (by omega) (by intro n hn; have := p1 n hn; omega) (w := gl) (F := all)) ?_
  intro gl d0
  replace ⟨h3, C, O, af, ag, al, aj, ay, E⟩ := (se [bU, am, ae] d0).g9 h3 C O af ag al aj ay E
  rintro qA qB ⟨⟨cD, lN, lO, rfl, aL, b7⟩, d3⟩
  have gm := al3 ay.lt O.lt C.lt
  have kc : Gb w.heap.size gl.heap.size := E.size
  have hkeep_ := d3
  have oo := nb_ge b7 C.lt
  have oq := nb_ge b7 O.lt
  have ou := nb_ge b7 ay.lt
  have kd := gb_ge b7 E.size
  replace ⟨h3, C, O, af, ag, al, aj, ay, E⟩ := (sz [bU, am, ae] d3 b7).g9 h3 C O af ag al aj ay E
  clear d3 b7
  refine ⟨Ext.chg hkeep_, ?_⟩
  replace aL := Own.take (s0 := w.heap.size) (M := [bU, am, ae]) aL gm kc
  have ov := aL.len; have ow := aL.max
  clear gm
  refine .r [8] <| .d fun qC gn => ?_
  replace ⟨h3, C, O, af, ag, al, aj, ay, aL, E⟩ := (se [cD, bU, am, ae] gn).g10 h3 C O af ag al aj ay aL E
  clear gn
  refine .ns 4 95 [vI 1, vI d.next, .slice em (((pMerge aB.part ar.part).ids).length) en, .slice eo (((pMerge aB.part ar.part).blocks).length) ep, .slice none 0 0, .slice none 0 0, vI 2, vI 0, .slice none 0 0, .slice none 0 0, vS bU (0 + ((at_).toNat - 0) + 1 + (d.list.length - (at_ + 2).toNat)) lM, vS cD lN lO, vI 3, vI aV, .slice none 0 0, .slice none 0 0, .slice none 0 0, .slice none 0 0, vI 3, vI aW, .slice none 0 0, .slice none 0 0, .slice none 0 0, .slice none 0 0] fun cx et bO gp ke kf => ?_
  have ox := nb_new bO C.lt
  have oy := nb_new bO O.lt
  have oz := nb_new bO ay.lt
  have oA := nb_new bO aL.lt
  have kg := gb_new bO E.size
  replace ⟨h3, C, O, af, ag, al, aj, ay, aL, E⟩ := (sn [cD, bU, am, ae] gp bO).g10 h3 C O af ag al aj ay aL E
  clear gp kf bO
  have gq := ay.sl kb
  replace ⟨h3, af, ag, al, aj, aL⟩ := (sd et [cx, cD, bU, am, ae] bU).g6 h3 af ag al aj aL
  have lP := aL.sl kd
  replace ⟨h3, af, ag, al, aj, gq⟩ := (sd et [cx, cD, am, ae] cD).g6 h3 af ag al aj gq
  have kh : Own (α := Stp) et cx 95 (nin (ge w.heap.size) [cx, am, ae]) 4 4 [(⟨1, d.next, (⟨(pMerge aB.part ar.part).ids, (pMerge aB.part ar.part).blocks⟩ : Prt), ([] : List Int), ([] : List (List Tag))⟩ : Stp), (⟨2, 0, (⟨([] : List Int), ([] : List (List Row))⟩ : Prt), ((([] ++ ((d.list.take ((at_).toNat)).drop 0)) ++ [d.next]) ++ ((d.list.take d.list.length).drop ((at_ + 2).toNat))), d.names⟩ : Stp), (⟨3, aV, (⟨([] : List Int), ([] : List (List Row))⟩ : Prt), ([] : List Int), ([] : List (List Tag))⟩ : Stp), (⟨3, aW, (⟨([] : List Int), ([] : List (List Row))⟩ : Prt), ([] : List Int), ([] : List (List Tag))⟩ : Stp)] := Own.lit ke rfl (by decide) ⟨⟨_, _, _, _, _, _, _, _, _, _, _, _, rfl, af.oi, ag.oi, (RepS.nil' _ _ none 0 (by decide)), (RepS.nil' _ _ none 0 (by decide))⟩, ⟨_, _, _, _, _, _, _, _, _, _, _, _, rfl, (RepS.nil' _ _ none 0 (by decide)), (RepS.nil' _ _ none 0 (by decide)), gq.oi, lP.oi⟩, ⟨_, _, _, _, _, _, _, _, _, _, _, _, rfl, (RepS.nil' _ _ none 0 (by decide)), (RepS.nil' _ _ none 0 (by decide)), (RepS.nil' _ _ none 0 (by decide)), (RepS.nil' _ _ none 0 (by decide))⟩, ⟨_, _, _, _, _, _, _, _, _, _, _, _, rfl, (RepS.nil' _ _ none 0 (by decide)), (RepS.nil' _ _ none 0 (by decide)), (RepS.nil' _ _ none 0 (by decide)), (RepS.nil' _ _ none 0 (by decide))⟩, rfl⟩
  refine .r 1 <| .d ?_
  have lQ := kh.sl kg
  replace ⟨h3, af, ag, al, aj⟩ := (sd et [cx, am, ae] cx).g5 h3 af ag al aj
  exact .rt Tryz.func171 Tryz.results171 (vS cx 4 4) ⟨(lQ.vl (by rw [merge_yes (by assumption) (by assumption) (by assumption) (by assumption) (by assumption) (by assumption) (by assumption)]) (fun _ _ h => h.1)), E⟩
 refine .ns 1 3 [vI d.next] fun qD gr => ?_
 replace ⟨h3, C, O, af, ag, al, aj, E, aq⟩ := (se [am, ae] gr).g9 h3 C O af ag al aj E aq
 clear gr
 intro gs qE cU gt aE ki
 have kj := nb_new cU C.lt
 have kk := nb_new cU O.lt
 have kl := gb_new cU E.size
 replace ⟨h3, C, O, af, ag, al, aj, E, aq⟩ := (se [am, ae] gt).g9 h3 C O af ag al aj E aq
 clear gt ki cU
 refine .go 0 <| .ns 0 3 [] fun qF gu => ?_
 replace ⟨h3, C, O, af, ag, al, aj, aE, E, aq⟩ := (se [am, ae] gu).g10 h3 C O af ag al aj aE E aq
 clear gu
 intro cE lR bo gv km ko
 have kp := nb_new bo C.lt
 have kq := nb_new bo O.lt
 have kr := nb_new bo aE.lt
 have ks := gb_new bo E.size
 have kt := E.cn bo
 have gw := aq.cn bo
 replace ⟨h3, C, O, af, ag, al, aj, aE, E, aq⟩ := (sn [am, ae] gv bo).g10 h3 C O af ag al aj aE E aq
 clear gv ko bo
 have d4 : Own (α := Int) lR cE 3 (nin (ge w.heap.size) [cE, am, ae]) 0 0 [] := Own.nil' km
 refine .go 5 <| GE.append (T := 68) (ty := 68) (args := [vS cE 0 0, .slice fF ((at_).toNat - 0) fG]) (by kernel_rfl) fun qG gx => ?_
 replace ⟨h3, C, O, af, ag, al, aj, aE, d4, E, aq⟩ := (se [cE, am, ae] gx).g11 h3 C O af ag al aj aE d4 E aq
 clear gx
 obtain ⟨cF, lS, qH, gy, bP, aU, d5, ku⟩ := Own.appendF (P := Tryz.prog) (T := 68) (ty := 68) flat_int d4 (by kernel_rfl) al (fun b h e => h.2 (e ▸ (.head _))) (by omega)
 refine ⟨_, _, gy, Chg.toS d5 (Cov.toS gw), ?_⟩
 clear ku
 have kv := nb_or aU kp C.lt
 have kw := nb_or aU kq O.lt
 have gz := nb_or aU kr aE.lt
 have kx := gb_or aU ks E.size
 have ky := cov_or aU kt E.size
 have kz := cov_or aU gw aq.size
 replace ⟨h3, C, O, af, ag, aj, aE, E⟩ := (sa [cE, am, ae] d5 aU).g8 h3 C O af ag aj aE E
 clear d5
 replace bP := bP.rn cE
 clear aU
 have oB := bP.len; have oC := bP.max
 refine .go 9 <| GE.append (T := 68) (ty := 68) (args := [vS cF (0 + ((at_).toNat - 0)) lS, vS gs 1 1]) (by kernel_rfl) fun qI gA => ?_
 replace ⟨h3, C, O, af, ag, aj, aE, bP, E⟩ := (se [cF, am, ae] gA).g9 h3 C O af ag aj aE bP E
 clear gA
 have eE : nin (ge w.heap.size) [cF, am, ae] gs ∧ gs ≠ cF := hap_mk kl (all_cons (Nb.symm gz) (all_cons kk (all_cons kj all_nil))) (Nb.symm gz)
 obtain ⟨gC, qJ, qK, gD, bQ, bw, d6, kA⟩ := bP.append1 (P := Tryz.prog) (T := 68) (ty := 68) (y := d.next) (by kernel_rfl) aE rfl eE (by omega)
 refine ⟨_, _, gD, Chg.toS d6 (Cov.toS kz), ?_⟩
 clear kA
 have kB := nb_or bw kv C.lt
 have kC := nb_or bw kw O.lt
 have kD := gb_or bw kx E.size
 have oD := cov_or bw ky E.size
 replace ⟨h3, C, O, af, ag, aj, E⟩ := (sa [cF, am, ae] d6 bw).g7 h3 C O af ag aj E
 clear d6
 replace bQ := bQ.rn cF
 clear bw
 have oE := bQ.len; have oF := bQ.max
 refine .d fun qL gE => ?_
 replace ⟨h3, C, O, af, ag, aj, bQ, E⟩ := (se [gC, am, ae] gE).g8 h3 C O af ag aj bQ E
 clear gE
 replace h3 := h3.outof
 replace af := af.outof
 replace ag := ag.outof
 replace aj := aj.outof
 refine RG.appendF (T := 68) (ty := 68) flat_int bQ aj (by kernel_rfl) (by kernel_rfl) (fun b h e => h.2 (e ▸ (.head _))) (by omega) fun bW lT qM az bX gF => ?_
 have oG := nb_or bX kB C.lt
 have oH := nb_or bX kC O.lt
 have kE := gb_or bX kD E.size
 replace ⟨h3, C, O, af, ag, E⟩ := (sa [gC, am, ae] gF bX).g6 h3 C O af ag E
 clear gF
 replace az := az.rn gC
 clear bX
 have oI := az.len; have oJ := az.max
 refine .r 1 <| .d <| .s <| .gd nil 13 fun qN gG => ?_
 replace ⟨h3, C, O, af, ag, az, E⟩ := (se [bW, am, ae] gG).g7 h3 C O af ag az E
 clear gG
 refine .r [0] <| .lb 1 C id <| .ln 2 O id <| .r [3, 4, 5] <| .lb 6 C id <| .r [9, 10, 11, 12] <| .go 7 <| .cl (fun d7 cV => c_spec_l11Names d.names (h3.ta.ext cV) (by omega) (by intro n hn; have := p1 n hn; omega) (w := d7) (F := all)) ?_
 intro d7 cV
 replace ⟨C, O, af, ag, az, E⟩ := (se [bW, am, ae] cV).g6 C O af ag az E
 rintro oK oL ⟨⟨b8, kF, kG, rfl, aA, bz⟩, cW⟩
 have ew := al3 az.lt O.lt C.lt
 have gH : Gb w.heap.size d7.heap.size := E.size
 have hkeep_ := cW
 have lX := nb_ge bz C.lt
 have lY := nb_ge bz O.lt
 have lZ := nb_ge bz az.lt
 have gI := gb_ge bz E.size
 replace ⟨C, O, af, ag, az, E⟩ := (sz [bW, am, ae] cW bz).g6 C O af ag az E
 clear cW bz
 refine ⟨Ext.chg hkeep_, ?_⟩
 replace aA := Own.take (s0 := w.heap.size) (M := [bW, am, ae]) aA ew gH
 have l0 := aA.len; have l3 := aA.max
 clear ew
 refine .r [8] <| .d fun oM ex => ?_
 replace ⟨C, O, af, ag, az, aA, E⟩ := (se [b8, bW, am, ae] ex).g7 C O af ag az aA E
 clear ex
 refine .ns 4 95 [vI 1, vI d.next, .slice em (((pMerge aB.part ar.part).ids).length) en, .slice eo (((pMerge aB.part ar.part).blocks).length) ep, .slice none 0 0, .slice none 0 0, vI 2, vI 0, .slice none 0 0, .slice none 0 0, vS bW (0 + ((at_).toNat - 0) + 1 + (d.list.length - (at_ + 2).toNat)) lT, vS b8 kF kG, vI 3, vI aV, .slice none 0 0, .slice none 0 0, .slice none 0 0, .slice none 0 0, vI 3, vI aW, .slice none 0 0, .slice none 0 0, .slice none 0 0, .slice none 0 0] fun cy d8 bc ey gJ gK => ?_
 have l4 := nb_new bc C.lt
 have l5 := nb_new bc O.lt
 have l6 := nb_new bc az.lt
 have l7 := nb_new bc aA.lt
 have gL := gb_new bc E.size
 replace ⟨af, ag, az, aA, E⟩ := (sn [b8, bW, am, ae] ey bc).g5 af ag az aA E
 clear ey gK bc
 have d9 := az.sl kE
 replace ⟨af, ag, aA⟩ := (sd d8 [cy, b8, bW, am, ae] bW).g3 af ag aA
 have kH := aA.sl gI
 replace ⟨af, ag, d9⟩ := (sd d8 [cy, b8, am, ae] b8).g3 af ag d9
 have gM : Own (α := Stp) d8 cy 95 (nin (ge w.heap.size) [cy, am, ae]) 4 4 [(⟨1, d.next, (⟨(pMerge aB.part ar.part).ids, (pMerge aB.part ar.part).blocks⟩ : Prt), ([] : List Int), ([] : List (List Tag))⟩ : Stp), (⟨2, 0, (⟨([] : List Int), ([] : List (List Row))⟩ : Prt), ((([] ++ ((d.list.take ((at_).toNat)).drop 0)) ++ [d.next]) ++ ((d.list.take d.list.length).drop ((at_ + 2).toNat))), d.names⟩ : Stp), (⟨3, aV, (⟨([] : List Int), ([] : List (List Row))⟩ : Prt), ([] : List Int), ([] : List (List Tag))⟩ : Stp), (⟨3, aW, (⟨([] : List Int), ([] : List (List Row))⟩ : Prt), ([] : List Int), ([] : List (List Tag))⟩ : Stp)] := Own.lit gJ rfl (by decide) ⟨⟨_, _, _, _, _, _, _, _, _, _, _, _, rfl, af.oi, ag.oi, (RepS.nil' _ _ none 0 (by decide)), (RepS.nil' _ _ none 0 (by decide))⟩, ⟨_, _, _, _, _, _, _, _, _, _, _, _, rfl, (RepS.nil' _ _ none 0 (by decide)), (RepS.nil' _ _ none 0 (by decide)), d9.oi, kH.oi⟩, ⟨_, _, _, _, _, _, _, _, _, _, _, _, rfl, (RepS.nil' _ _ none 0 (by decide)), (RepS.nil' _ _ none 0 (by decide)), (RepS.nil' _ _ none 0 (by decide)), (RepS.nil' _ _ none 0 (by decide))⟩, ⟨_, _, _, _, _, _, _, _, _, _, _, _, rfl, (RepS.nil' _ _ none 0 (by decide)), (RepS.nil' _ _ none 0 (by decide)), (RepS.nil' _ _ none 0 (by decide)), (RepS.nil' _ _ none 0 (by decide))⟩, rfl⟩
 refine .r 1 <| .d ?_
 have kI := gM.sl gL
 exact .rt Tryz.func171 Tryz.results171 (vS cy 4 4) ⟨(kI.vl (by rw [merge_yes (by assumption) (by assumption) (by assumption) (by assumption) (by assumption) (by assumption) (by assumption)]) (fun _ _ h => h.1)), E⟩
end Go.Proofs.YtfnpaglcnmcnbaaGreat
