/- walks; squeezed -/
import Derived.Test.YtfnpaglcnmcnbaaGreatFluzMod7
set_option linter.unusedVariables false
set_option linter.unusedSimpArgs false
namespace Go.Proofs.YtfnpaglcnmcnbaaGreat
set_option maxRecDepth 100000
set_option maxHeartbeats 4000000
theorem c_spec_l21Tidy (d : Dsk) {w : World} {F : Nat → Prop} {a1 : Option Addr} {n1 c1 : Nat} (h1 : RepS w F a1 n1 c1 d.files) {a2 : Option Addr} {n2 c2 : Nat} (h2 : RepS w F a2 n2 c2 d.list) {a3 : Option Addr} {n3 c3 : Nat} (h3 : RepS w F a3 n3 c3 d.names) (p0 : d.files.length ≤ 1000) : Calls Tryz.prog 201 [.agg #[.slice a1 n1 c1, .slice a2 n2 c2, .slice a3 n3 c3, .int .i64 d.next]].toArray w (rets fun rv w' => VS (fo F w.heap.size) w' (tidyD d : Dsk) rv ∧ Ext w w') := by
 refine goT Tryz.func201 ?_
 obtain ⟨rfl, bI, h1⟩ := h1.tp
 obtain ⟨rfl, bJ, h2⟩ := h2.tp
 obtain ⟨rfl, bK, h3⟩ := h3.tp
 refine .s <| .g <| .np 83 [.slice a1 d.files.length c1, .slice a2 d.list.length c2, .slice a3 d.names.length c3, vI d.next] fun W ce aq ar E aU => ?_
 have bL : Cov nil w W := cov_new aq (Nat.le_refl _)
 replace ⟨h1, h2, h3⟩ := (sn [] ar aq).g3 h1 h2 h3
 have C := ar
 clear ar aU aq
 refine .np 83 [.slice none 0 0, .slice none 0 0, .slice none 0 0, vI 0] fun Z cg aj aB J aV => ?_
 have bM := nb_new aj E.lt
 have bN := C.cn aj
 replace ⟨h1, h2, h3, E, C⟩ := (sn [W] aB aj).g5 h1 h2 h3 E C
 clear aB aV aj
 refine .d <| .s <| .g <| .ns 0 88 [] fun ah au ae aC aW aX => ?_
 have aY := nb_new ae E.lt
 have aZ := nb_new ae J.lt
 have ba := gb_new ae C.size
 have bc := C.cn ae
 replace ⟨h1, h2, h3, E, J, C⟩ := (sn [Z, W] aC ae).g6 h1 h2 h3 E J C
 clear aC aX ae
 have bd : Own (α := Fil) au ah 88 (nin (fo F w.heap.size) [ah, Z, W]) 0 0 [] := Own.nil' aW
 refine .r 1 <| .d <| .s <| .s <| .g <| .r 1 <| .d <| .b 0 <| T.loop (X := (List Fil) × Nat × Nat × Nat × Nat) (([] : List Fil), ah, 0, 0, 0) (fun (files, r_files, n_files, c_files, i) => [(1, .pointer (some ⟨W, 0, none⟩)), (2, .pointer (some ⟨Z, 0, none⟩)), (3, vS r_files n_files c_files), (4, vI (i : Int))]) (fun (files, r_files, n_files, c_files, i) aA => Chg (ins [ah]) au aA ∧ Own aA r_files 88 (nin (fo F w.heap.size) [r_files, Z, W]) n_files c_files files ∧ OrB r_files ah au.heap.size ∧ (i ≤ d.files.length) ∧ (files.length ≤ i) ∧ (files ++ (d.files.drop i).filter (fun f => d.list.contains f.num) = d.files.filter (fun f => d.list.contains f.num))) (fun (files, r_files, n_files, c_files, i) => d.files.length - i) (by kernel_rfl) ⟨by kernel_rfl, by kernel_rfl, by kernel_rfl, by kernel_rfl, trivial⟩ ⟨Chg.refl _ _, bd, orb_refl, (by simp), (by simp), (by simp)⟩ ?_
 rintro ⟨files, r_files, n_files, c_files, i⟩ ci aA ⟨V, O, aa, bO, bP, bQ⟩ ai
 have bR := nb_or' aa aY E.lt
 have bS := nb_or' aa aZ J.lt
 have bg := gb_or' aa ba C.size
 have bT := cov_or' aa bc C.size
 have bh : Cov (ins [ah]) au ah := ⟨.inl (.head _)⟩
 have bU := cov_or' aa bh (Nat.le_refl _)
 have aD : Mv [ah, Z, W] [r_files, Z, W] au aA := Mv.inl V (all_cons (.head _) all_nil) (all_cons (orb_mem aa (.head _)) (all_cons (.inl (.tail _ (.head _))) (all_cons (.inl (.tail _ (.tail _ (.head _)))) all_nil)))
 replace ⟨h1, h2, h3, E, J, C⟩ := (sp aD V).g6 h1 h2 h3 E J C
 clear aD
 have bV := O.len; have bW := O.max
 refine .s <| .s <| .g <| .r 2 <| .lb E <| .r 1 <| .bp ((i : Int) < (d.files.length : Int)) (fun bi => ?_) (fun bi => ?_)
 · refine .d <| .ct <| .sk <| .s <| .b 1 <| .s <| .gd nil 7 fun cj aE => ?_
   replace ⟨h1, h2, h3, E, J, O, C, V⟩ := (se [r_files, Z, W] aE).g8 h1 h2 h3 E J O C V
   clear aE
   refine .ln 0 E id <| .r [1] <| .lb 2 E id <| .r [3] ?_
   have bj : i < d.files.length := (by omega)
   refine .ix 4 i 3 h1 bj <| .r [5] ?_
   obtain ⟨af, ak⟩ : ∃ y, d.files[i]? = some y := ⟨_, List.getElem?_eq_getElem (by omega)⟩
   have bX := drop_at ak; have bD := List.mem_of_getElem? ak
   obtain ⟨_, ⟨ck, cm, co, cp, cq, cr, rfl, bk, bm⟩, bn⟩ := h1.elem i af ak
   have bo := bk.len
   subst bo
   have bY := bk.max
   have bq := bm.len
   subst bq
   have bZ := bm.max
   refine .lh 6 0 bn id <| .d fun bE aF => ?_
   replace ⟨h1, h2, h3, E, J, O, C, V⟩ := (se [r_files, Z, W] aF).g8 h1 h2 h3 E J O C V
   clear aF
   refine .cl (c_spec_l21Counts d af.num h1.ta h2.ta h3.ta (w := bE) (F := all)) ?_
   rintro cu cv ⟨rfl, aG⟩
   replace ⟨h1, h2, h3, E, J, O, C, V⟩ := (se [r_files, Z, W] aG).g8 h1 h2 h3 E J O C V
   clear aG
   cases b0 : (d.list.contains af.num)
   · exact .d <| .cf <| .sk <| .ib 1 <| .g <| .r 1 <| .it ((i : Int) + 1) <| .r 1 <| .d <| ai (files, r_files, n_files, c_files, i + 1) _ _ ⟨by kernel_rfl, by kernel_rfl, by kernel_rfl, by kernel_rfl, trivial⟩ ⟨V, O, aa, (by omega), (by first | omega | (simp; omega)), (by grind)⟩ (by first | omega | (simp only []; omega))
   refine .d <| .ct <| .g <| .r 2 <| .lb E <| .r 1 ?_
   have br : i < d.files.length := (by omega)
   refine .ix i 3 h1 br ?_
   obtain ⟨_, ⟨bF, b6, bt, bu, b7, bv, rfl, al, am⟩, bw⟩ := h1.elem i af ak
   have aI := al.len
   subst aI
   have aJ := am.len
   subst aJ
   refine .lg 0 bw <| .ns 1 88 [vI af.num, .slice bF af.part.ids.length bt, .slice bu af.part.blocks.length bv] fun aH b8 ab av aK aL => ?_
   have aM := nb_new ab E.lt
   have aN := nb_new ab J.lt
   have aw := nb_new ab O.lt
   have aO := gb_new ab C.size
   replace ⟨h2, h3, E, J, O, al, am, C, V⟩ := (se [r_files, Z, W] av).g9 h2 h3 E J O al am C V
   clear av aL ab
   have ao : nin (fo F w.heap.size) [r_files, Z, W] aH ∧ aH ≠ r_files := hap_mk (.inr aO) (all_cons aw (all_cons aN (all_cons aM all_nil))) aw
   refine RG.append1 (T := 81) (ty := 81) (y := af) O aK (by kernel_rfl) (by kernel_rfl) ⟨_, _, _, _, _, _, rfl, al.oi, am.oi⟩ ao (by omega) fun bz bA b9 ac ag ax => ?_
   have aP := orb_or ag aa V.size
   replace ⟨h2, h3, E, J, C, V⟩ := (sa [r_files, Z, W] ax ag).g6 h2 h3 E J C V
   clear ax
   replace ac := ac.rn r_files
   clear ag
   have bG := ac.len; have bH := ac.max
   exact .r 1 <| .d <| .ib 1 <| .g <| .r 1 <| .it ((i : Int) + 1) <| .r 1 <| .d <| ai ((files ++ [af]), bz, n_files + 1, bA, i + 1) _ _ ⟨by kernel_rfl, by kernel_rfl, by kernel_rfl, by kernel_rfl, trivial⟩ ⟨V, ac, aP, (by omega), (by first | omega | (simp; omega)), (by grind)⟩ (by first | omega | (simp only []; omega))
 refine .d <| .cf <| .x 0 rfl <| .s <| .g <| .r 2 <| .ss 0 (vS r_files n_files c_files) E fun cd ay aQ aR => ?_
 replace ⟨h2, h3, J, O, C⟩ := (so [r_files, Z, W] ay).g5 h2 h3 J O C
 clear ay aR
 refine .d <| .s <| .g <| .ln aQ <| .sc [vS r_files n_files c_files, .slice a2 d.list.length c2, .slice a3 d.names.length c3, vI d.next] J fun bB az aS aT => ?_
 replace ⟨h2, h3, O, C⟩ := (so [r_files, Z, W] az).g4 h2 h3 O C
 clear az aT
 refine .d ?_
 have bC := O.sl (.inr bg)
 replace ⟨h2, h3⟩ := (sd bB [r_files, Z, W] r_files).g2 h2 h3
 exact .rb Tryz.func201 Tryz.results201 aS ⟨(VS.of (y := (⟨files, d.list, d.names, d.next⟩ : Dsk)) ⟨_, rfl, ⟨_, _, _, _, _, _, _, _, _, rfl, bC.w1, h2.w1, h3.w1⟩⟩ (by grind [tidyD, drop_end])), C⟩
theorem c_spec_l21Flush (d : Dsk) (s : Sto) {w : World} {F : Nat → Prop} {a1 : Option Addr} {n1 c1 : Nat} (h1 : RepS w F a1 n1 c1 d.files) {a2 : Option Addr} {n2 c2 : Nat} (h2 : RepS w F a2 n2 c2 d.list) {a3 : Option Addr} {n3 c3 : Nat} (h3 : RepS w F a3 n3 c3 d.names) {a4 : Option Addr} {n4 c4 : Nat} (h4 : RepS w F a4 n4 c4 s.idx.names) {a5 : Option Addr} {n5 c5 : Nat} (h5 : RepS w F a5 n5 c5 s.idx.posts) {a6 : Option Addr} {n6 c6 : Nat} (h6 : RepS w F a6 n6 c6 s.parts) {a7 : Option Addr} {n7 c7 : Nat} (h7 : RepS w F a7 n7 c7 s.mem) (p0 : s.mem.length ≤ 1000) (p1 : ∀ m ∈ s.mem, 1 ≤ m.id ∧ m.id ≤ 6) (p2 : d.list.length ≤ 1000) (p3 : s.idx.names.length ≤ 1000) (p4 : ∀ n ∈ s.idx.names, n.length ≤ 1000) : Calls Tryz.prog 100 [.agg #[.slice a1 n1 c1, .slice a2 n2 c2, .slice a3 n3 c3, .int .i64 d.next], .agg #[.slice a4 n4 c4, .slice a5 n5 c5, .slice a6 n6 c6, .slice a7 n7 c7]].toArray w (rets fun rv w' => VL (ge w.heap.size) w' (flushSt d s : List Stp) rv ∧ Ext w w') := by
 refine goT Tryz.func100 ?_
 obtain ⟨rfl, gC, h1⟩ := h1.tp
 obtain ⟨rfl, gD, h2⟩ := h2.tp
 obtain ⟨rfl, gE, h3⟩ := h3.tp
 obtain ⟨rfl, gF, h4⟩ := h4.tp
 obtain ⟨rfl, gG, h5⟩ := h5.tp
 obtain ⟨rfl, gH, h6⟩ := h6.tp
 obtain ⟨rfl, gI, h7⟩ := h7.tp
 refine .s <| .g <| .np 83 [.slice a1 d.files.length c1, .slice a2 d.list.length c2, .slice a3 d.names.length c3, vI d.next] fun O iG c9 bO E ew => ?_
 replace ⟨h2, h4, h5, h6, h7⟩ := (sn [] bO c9).g5 h2 h4 h5 h6 h7
 have C := bO
 clear bO ew c9
 refine .np 30 [.slice a4 s.idx.names.length c4, .slice a5 s.idx.posts.length c5, .slice a6 s.parts.length c6, .slice a7 s.mem.length c7] fun V bK da db J ex => ?_
 replace ⟨h2, h4, h5, h6, h7, E, C⟩ := (sn [O] db da).g7 h2 h4 h5 h6 h7 E C
 clear db ex da
 refine .r 1 <| .d <| .s <| .s <| .g <| .r 1 <| .lb J <| .r 1 <| .eq (s.mem.length : Int) 0 (fun ey => ?_) (fun ey => ?_)
 · refine .r 17 <| .d <| .ct <| .s <| .g <| .ns 0 95 [] fun bP ez bc dd eA eB => ?_
   have gJ := nb_new bc E.lt
   have gK := nb_new bc J.lt
   have eC := gb_new bc C.size
   replace ⟨h2, h4, h5, h6, h7, E, J, C⟩ := (sn [V, O] dd bc).g8 h2 h4 h5 h6 h7 E J C
   clear dd eB bc
   have eD : Own (α := Stp) ez bP 95 (nin (ge w.heap.size) [bP, V, O]) 0 0 [] := Own.nil' eA
   refine .r 1 <| .d ?_
   have fA := eD.sl eC
   replace ⟨h2, h4, h5, h6, h7⟩ := (sd ez [bP, V, O] bP).g5 h2 h4 h5 h6 h7
   exact .rt Tryz.func100 Tryz.results100 (vS bP 0 0) ⟨(fA.vl (by first | rw [flushSt_no (by omega)] | (rw [flushSt_yes (by assumption) (by assumption) (by assumption) (by assumption)] <;> simp)) (fun _ _ h => h.1)), C⟩
 refine .r 2 <| .lb E <| .r 1 <| .bp ((d.list.length : Int) ≥ 6) (fun eE => ?_) (fun eE => ?_)
 · refine .r 12 <| .d <| .ct <| .s <| .g <| .ns 0 95 [] fun bQ eF bd de eG eH => ?_
   have gL := nb_new bd E.lt
   have gM := nb_new bd J.lt
   have eI := gb_new bd C.size
   replace ⟨h2, h4, h5, h6, h7, E, J, C⟩ := (sn [V, O] de bd).g8 h2 h4 h5 h6 h7 E J C
   clear de eH bd
   have eJ : Own (α := Stp) eF bQ 95 (nin (ge w.heap.size) [bQ, V, O]) 0 0 [] := Own.nil' eG
   refine .r 1 <| .d ?_
   have fB := eJ.sl eI
   replace ⟨h2, h4, h5, h6, h7⟩ := (sd eF [bQ, V, O] bQ).g5 h2 h4 h5 h6 h7
   exact .rt Tryz.func100 Tryz.results100 (vS bQ 0 0) ⟨(fB.vl (by first | rw [flushSt_no (by omega)] | (rw [flushSt_yes (by assumption) (by assumption) (by assumption) (by assumption)] <;> simp)) (fun _ _ h => h.1)), C⟩
 refine .r 3 <| .lb E <| .bp (d.next ≥ 999) (fun eK => ?_) (fun eK => ?_)
 · refine .r 7 <| .d <| .ct <| .s <| .g <| .ns 0 95 [] fun bR eL bg df eM eN => ?_
   have gN := nb_new bg E.lt
   have gO := nb_new bg J.lt
   have eO := gb_new bg C.size
   replace ⟨h2, h4, h5, h6, h7, E, J, C⟩ := (sn [V, O] df bg).g8 h2 h4 h5 h6 h7 E J C
   clear df eN bg
   have eP : Own (α := Stp) eL bR 95 (nin (ge w.heap.size) [bR, V, O]) 0 0 [] := Own.nil' eM
   refine .r 1 <| .d ?_
   have fC := eP.sl eO
   replace ⟨h2, h4, h5, h6, h7⟩ := (sd eL [bR, V, O] bR).g5 h2 h4 h5 h6 h7
   exact .rt Tryz.func100 Tryz.results100 (vS bR 0 0) ⟨(fC.vl (by first | rw [flushSt_no (by omega)] | (rw [flushSt_yes (by assumption) (by assumption) (by assumption) (by assumption)] <;> simp)) (fun _ _ h => h.1)), C⟩
 refine .r 3 <| .lb E <| .r 1 <| .bp ((d.files.length : Int) ≥ 20) (fun eQ => ?_) (fun eQ => ?_)
 · refine .r 1 <| .d <| .ct <| .s <| .g <| .ns 0 95 [] fun bS eR bh dg eS eT => ?_
   have gP := nb_new bh E.lt
   have gQ := nb_new bh J.lt
   have eU := gb_new bh C.size
   replace ⟨h2, h4, h5, h6, h7, E, J, C⟩ := (sn [V, O] dg bh).g8 h2 h4 h5 h6 h7 E J C
   clear dg eT bh
   have dk : Own (α := Stp) eR bS 95 (nin (ge w.heap.size) [bS, V, O]) 0 0 [] := Own.nil' eS
   refine .r 1 <| .d ?_
   have eV := dk.sl eU
   replace ⟨h2, h4, h5, h6, h7⟩ := (sd eR [bS, V, O] bS).g5 h2 h4 h5 h6 h7
   exact .rt Tryz.func100 Tryz.results100 (vS bS 0 0) ⟨(eV.vl (by first | rw [flushSt_no (by omega)] | (rw [flushSt_yes (by assumption) (by assumption) (by assumption) (by assumption)] <;> simp)) (fun _ _ h => h.1)), C⟩
 refine .r 1 <| .d <| .cf <| .sk <| .s ?_
 replace h2 := h2.into
 replace h4 := h4.into
 replace h5 := h5.into
 replace h6 := h6.into
 replace h7 := h7.into
 have bT : Gb (O + 1) bK.heap.size := E.lt
 refine .gd (mtb [] bK.heap.size) 7 fun eW bm => ?_
 replace ⟨h2, h4, h5, h6, h7, E, J, C⟩ := (se [V, O] bm).g8 h2 h4 h5 h6 h7 E J C
 have W : Chg (mtb [] bK.heap.size) bK eW := Chg.stepN (Chg.refl (mtb [] bK.heap.size) bK) bm
 clear bm
 refine .r [1] <| .lb 2 E (nS_of all_nil bT) <| .r [4] <| .lb 5 E (nS_of all_nil bT) <| .tw 0 6 ?_ ?_
 · refine .ns 0 3 [] fun gR bU => ?_
   replace ⟨h2, h4, h5, h6, h7, E, J, C, W⟩ := (se [V, O] bU).g9 h2 h4 h5 h6 h7 E J C W
   clear bU
   intro av eX aC bV dm dp
   have bW := nb_new aC E.lt
   have bX := nb_new aC J.lt
   have bY := gb_new aC C.size
   have bZ := C.cn aC
   have b0 := W.cn aC
   replace ⟨h2, h4, h5, h6, h7, E, J, C, W⟩ := (sn [V, O] bV aC).g9 h2 h4 h5 h6 h7 E J C W
   clear bV dp aC
   have aq : Own (α := Int) eX av 3 (nin (ge w.heap.size) [av, V, O]) 0 0 [] := Own.nil' dm
   refine .tw 3 6 ?_ ?_
   · refine GE.append (T := 68) (ty := 68) (args := [vS av 0 0, .slice a2 d.list.length c2]) (by kernel_rfl) fun gS b6 => ?_
     replace ⟨h2, h4, h5, h6, h7, E, J, aq, C, W⟩ := (se [av, V, O] b6).g10 h2 h4 h5 h6 h7 E J aq C W
     clear b6
     obtain ⟨aR, gT, gU, b7, ak, aB, bn, dq⟩ := Own.appendF (P := Tryz.prog) (T := 68) (ty := 68) flat_int aq (by kernel_rfl) h2 (fun b h e => h.2 (e ▸ (.head _))) (by omega)
     refine ⟨_, _, b7, Chg.toS bn (Cov.toS b0), ?_⟩
     clear dq
     have dr := nb_or aB bW E.lt
     have dt := nb_or aB bX J.lt
     have du := gb_or aB bY C.size
     have fD := cov_or aB bZ C.size
     replace ⟨h2, h4, h5, h6, h7, E, J, C, W⟩ := (sa [av, V, O] bn aB).g9 h2 h4 h5 h6 h7 E J C W
     clear bn
     replace ak := ak.rn av
     clear aB
     have fE := ak.len; have fF := ak.max
     refine .go 6 <| .ns 1 3 [vI d.next] fun gV b8 => ?_
     replace ⟨h2, h4, h5, h6, h7, E, J, ak, C, W⟩ := (se [aR, V, O] b8).g10 h2 h4 h5 h6 h7 E J ak C W
     clear b8
     intro dh gW aS b9 bo dv
     have dw := nb_new aS E.lt
     have dx := nb_new aS J.lt
     have cd := nb_new aS ak.lt
     have dy := gb_new aS C.size
     replace ⟨h2, h4, h5, h6, h7, E, J, ak, C, W⟩ := (se [aR, V, O] b9).g10 h2 h4 h5 h6 h7 E J ak C W
     clear b9 dv aS
     refine .d fun gX ce => ?_
     replace ⟨h2, h4, h5, h6, h7, E, J, ak, bo, C, W⟩ := (se [aR, V, O] ce).g11 h2 h4 h5 h6 h7 E J ak bo C W
     clear ce
     replace h2 := h2.outof
     replace h4 := h4.outof
     replace h5 := h5.outof
     replace h6 := h6.outof
     replace h7 := h7.outof
     have bL : nin (ge w.heap.size) [aR, V, O] dh ∧ dh ≠ aR := hap_mk dy (all_cons cd (all_cons dx (all_cons dw all_nil))) cd
     refine RG.append1 (T := 68) (ty := 68) (y := d.next) ak bo (by kernel_rfl) (by kernel_rfl) rfl bL (by omega) fun aw eY gY Z aI cg => ?_
     have fG := nb_or aI dr E.lt
     have fH := nb_or aI dt J.lt
     have dz := gb_or aI du C.size
     replace ⟨h2, h4, h5, h6, h7, E, J, C⟩ := (sa [aR, V, O] cg aI).g8 h2 h4 h5 h6 h7 E J C
     clear cg
     replace Z := Z.rn aR
     clear aI
     have fI := Z.len; have fJ := Z.max
     refine .r 1 <| .d <| .s <| .gd nil 11 fun gZ ci => ?_
     replace ⟨h2, h4, h5, h6, h7, E, J, Z, C⟩ := (se [aw, V, O] ci).g9 h2 h4 h5 h6 h7 E J Z C
     clear ci
     refine .r [0] <| .lb 1 E id <| .ln 2 J id <| .r [5, 6, 7] <| .lb 8 J id <| .go 3 <| .cl (fun cj aL => c_spec_l13Mem s (h4.ta.ext aL) (h5.ta.ext aL) (h6.ta.ext aL) (h7.ta.ext aL) p0 p1 (w := cj) (F := all)) ?_
     intro cj aL
     replace ⟨h2, h4, h5, h6, h7, E, J, Z, C⟩ := (se [aw, V, O] aL).g9 h2 h4 h5 h6 h7 E J Z C
     rintro g0 hC ⟨⟨_, rfl, ⟨eZ, hD, e0, e7, hE, e8, rfl, ae, af⟩⟩, bq⟩
     have br := al3 Z.lt J.lt E.lt
     have ck : Gb w.heap.size cj.heap.size := C.size
     have hkeep_ := bq
     replace ⟨h2, h4, h5, h6, h7, E, J, Z, C⟩ := (se [aw, V, O] bq).g9 h2 h4 h5 h6 h7 E J Z C
     clear bq
     refine ⟨Ext.chg hkeep_, ?_⟩
     have ae := ae.fr br ck
     have fK := ae.max
     have af := af.fr br ck
     have fL := af.max
     clear br
     have dA := ae.len
     subst dA
     have dB := af.len
     subst dB
     refine .r [4] <| .go 9 <| .cl (fun cm bt => c_spec_l11Names s.idx.names (h4.ta.ext bt) (by omega) (by intro n hn; have := p4 n hn; omega) (w := cm) (F := all)) ?_
     intro cm bt
     replace ⟨h2, h4, h5, h6, h7, E, J, Z, ae, af, C⟩ := (se [aw, V, O] bt).g11 h2 h4 h5 h6 h7 E J Z ae af C
     rintro hH hJ ⟨⟨aW, e9, fa, rfl, al, aM⟩, bu⟩
     have co := al3 Z.lt J.lt E.lt
     have dC : Gb w.heap.size cm.heap.size := C.size
     have hkeep_ := bu
     have fM := nb_ge aM E.lt
     have fN := nb_ge aM J.lt
     have fO := nb_ge aM Z.lt
     have dD := gb_ge aM C.size
     replace ⟨h2, h4, h5, h6, h7, E, J, Z, ae, af, C⟩ := (sz [aw, V, O] bu aM).g11 h2 h4 h5 h6 h7 E J Z ae af C
     clear bu aM
     refine ⟨Ext.chg hkeep_, ?_⟩
     replace al := Own.take (s0 := w.heap.size) (M := [aw, V, O]) al co dC
     have fP := al.len; have fQ := al.max
     clear co
     refine .r [10] <| .d fun hN cp => ?_
     replace ⟨h2, h4, h5, h6, h7, E, J, Z, ae, af, al, C⟩ := (se [aW, aw, V, O] cp).g12 h2 h4 h5 h6 h7 E J Z ae af al C
     clear cp
     refine .ns 2 95 [vI 1, vI d.next, .slice eZ (((memPart s.mem).ids).length) e0, .slice e7 (((memPart s.mem).blocks).length) e8, .slice none 0 0, .slice none 0 0, vI 2, vI 0, .slice none 0 0, .slice none 0 0, vS aw (0 + d.list.length + 1) eY, vS aW e9 fa] fun aT bI aD cq dE dF => ?_
     have fR := nb_new aD E.lt
     have fS := nb_new aD J.lt
     have fT := nb_new aD Z.lt
     have fU := nb_new aD al.lt
     have dG := gb_new aD C.size
     replace ⟨h2, h4, h5, h6, h7, E, J, Z, ae, af, al, C⟩ := (sn [aW, aw, V, O] cq aD).g12 h2 h4 h5 h6 h7 E J Z ae af al C
     clear cq dF aD
     have cr := Z.sl dz
     replace ⟨h2, h4, h5, h6, h7, ae, af, al⟩ := (sd bI [aT, aW, aw, V, O] aw).g8 h2 h4 h5 h6 h7 ae af al
     have fb := al.sl dD
     replace ⟨h2, h4, h5, h6, h7, cr, ae, af⟩ := (sd bI [aT, aW, V, O] aW).g8 h2 h4 h5 h6 h7 cr ae af
     have dH : Own (α := Stp) bI aT 95 (nin (ge w.heap.size) [aT, V, O]) 2 2 [(⟨1, d.next, (⟨(memPart s.mem).ids, (memPart s.mem).blocks⟩ : Prt), ([] : List Int), ([] : List (List Tag))⟩ : Stp), (⟨2, 0, (⟨([] : List Int), ([] : List (List Row))⟩ : Prt), (([] ++ d.list) ++ [d.next]), s.idx.names⟩ : Stp)] := Own.lit dE rfl (by decide) ⟨⟨_, _, _, _, _, _, _, _, _, _, _, _, rfl, ae.oi, af.oi, (RepS.nil' _ _ none 0 (by decide)), (RepS.nil' _ _ none 0 (by decide))⟩, ⟨_, _, _, _, _, _, _, _, _, _, _, _, rfl, (RepS.nil' _ _ none 0 (by decide)), (RepS.nil' _ _ none 0 (by decide)), cr.oi, fb.oi⟩, rfl⟩
     refine .r 1 <| .d ?_
     have fc := dH.sl dG
     replace ⟨h2, h4, h5, h6, h7⟩ := (sd bI [aT, V, O] aT).g5 h2 h4 h5 h6 h7
     exact .rt Tryz.func100 Tryz.results100 (vS aT 2 2) ⟨(fc.vl (by first | rw [flushSt_no (by omega)] | (rw [flushSt_yes (by assumption) (by assumption) (by assumption) (by assumption)] <;> simp)) (fun _ _ h => h.1)), C⟩
   refine .ns 1 3 [vI d.next] fun hO cu => ?_
   replace ⟨h2, h4, h5, h6, h7, E, J, aq, C, W⟩ := (se [av, V, O] cu).g10 h2 h4 h5 h6 h7 E J aq C W
   clear cu
   intro di hP aU cv ax dI
   have dJ := nb_new aU E.lt
   have dK := nb_new aU J.lt
   have dL := nb_new aU aq.lt
   have dM := gb_new aU C.size
   replace ⟨h2, h4, h5, h6, h7, E, J, aq, C, W⟩ := (se [av, V, O] cv).g10 h2 h4 h5 h6 h7 E J aq C W
   clear cv dI aU
   refine .go 3 <| GE.append (T := 68) (ty := 68) (args := [vS av 0 0, .slice a2 d.list.length c2]) (by kernel_rfl) fun hQ cw => ?_
   replace ⟨h2, h4, h5, h6, h7, E, J, aq, ax, C, W⟩ := (se [av, V, O] cw).g11 h2 h4 h5 h6 h7 E J aq ax C W
   clear cw
   obtain ⟨bi, hV, hW, cx, aE, ar, bv, dN⟩ := Own.appendF (P := Tryz.prog) (T := 68) (ty := 68) flat_int aq (by kernel_rfl) h2 (fun b h e => h.2 (e ▸ (.head _))) (by omega)
   refine ⟨_, _, cx, Chg.toS bv (Cov.toS b0), ?_⟩
   clear dN
   have dO := nb_or ar bW E.lt
   have dP := nb_or ar bX J.lt
   have cy := nb_or ar (Nb.symm dL) ax.lt
   have dQ := gb_or ar bY C.size
   have fV := cov_or ar bZ C.size
   replace ⟨h2, h4, h5, h6, h7, E, J, ax, C, W⟩ := (sa [av, V, O] bv ar).g10 h2 h4 h5 h6 h7 E J ax C W
   clear bv
   replace aE := aE.rn av
   clear ar
   have fW := aE.len; have fX := aE.max
   refine .d fun hX cz => ?_
   replace ⟨h2, h4, h5, h6, h7, E, J, aE, ax, C, W⟩ := (se [bi, V, O] cz).g11 h2 h4 h5 h6 h7 E J aE ax C W
   clear cz
   replace h2 := h2.outof
   replace h4 := h4.outof
   replace h5 := h5.outof
   replace h6 := h6.outof
   replace h7 := h7.outof
   have bM : nin (ge w.heap.size) [bi, V, O] di ∧ di ≠ bi := hap_mk dM (all_cons (Nb.symm cy) (all_cons dK (all_cons dJ all_nil))) (Nb.symm cy)
   refine RG.append1 (T := 68) (ty := 68) (y := d.next) aE ax (by kernel_rfl) (by kernel_rfl) rfl bM (by omega) fun ay fd hY aa aJ cA => ?_
   have fY := nb_or aJ dO E.lt
   have fZ := nb_or aJ dP J.lt
   have dR := gb_or aJ dQ C.size
   replace ⟨h2, h4, h5, h6, h7, E, J, C⟩ := (sa [bi, V, O] cA aJ).g8 h2 h4 h5 h6 h7 E J C
   clear cA
   replace aa := aa.rn bi
   clear aJ
   have f0 := aa.len; have f3 := aa.max
   refine .r 1 <| .d <| .s <| .gd nil 11 fun hZ cB => ?_
   replace ⟨h2, h4, h5, h6, h7, E, J, aa, C⟩ := (se [ay, V, O] cB).g9 h2 h4 h5 h6 h7 E J aa C
   clear cB
   refine .r [0] <| .lb 1 E id <| .ln 2 J id <| .r [5, 6, 7] <| .lb 8 J id <| .go 3 <| .cl (fun cC aN => c_spec_l13Mem s (h4.ta.ext aN) (h5.ta.ext aN) (h6.ta.ext aN) (h7.ta.ext aN) p0 p1 (w := cC) (F := all)) ?_
   intro cC aN
   replace ⟨h2, h4, h5, h6, h7, E, J, aa, C⟩ := (se [ay, V, O] aN).g9 h2 h4 h5 h6 h7 E J aa C
   rintro ia ic ⟨⟨_, rfl, ⟨fe, ie, ff, fg, ig, fh, rfl, ag, ah⟩⟩, bw⟩
   have bz := al3 aa.lt J.lt E.lt
   have cD : Gb w.heap.size cC.heap.size := C.size
   have hkeep_ := bw
   replace ⟨h2, h4, h5, h6, h7, E, J, aa, C⟩ := (se [ay, V, O] bw).g9 h2 h4 h5 h6 h7 E J aa C
   clear bw
   refine ⟨Ext.chg hkeep_, ?_⟩
   have ag := ag.fr bz cD
   have f4 := ag.max
   have ah := ah.fr bz cD
   have f5 := ah.max
   clear bz
   have dS := ag.len
   subst dS
   have dT := ah.len
   subst dT
   refine .r [4] <| .go 9 <| .cl (fun cE bA => c_spec_l11Names s.idx.names (h4.ta.ext bA) (by omega) (by intro n hn; have := p4 n hn; omega) (w := cE) (F := all)) ?_
   intro cE bA
   replace ⟨h2, h4, h5, h6, h7, E, J, aa, ag, ah, C⟩ := (se [ay, V, O] bA).g11 h2 h4 h5 h6 h7 E J aa ag ah C
   rintro ii ij ⟨⟨aX, fi, fj, rfl, am, aO⟩, bB⟩
   have cF := al3 aa.lt J.lt E.lt
   have dU : Gb w.heap.size cE.heap.size := C.size
   have hkeep_ := bB
   have f6 := nb_ge aO E.lt
   have f7 := nb_ge aO J.lt
   have f8 := nb_ge aO aa.lt
   have dV := gb_ge aO C.size
   replace ⟨h2, h4, h5, h6, h7, E, J, aa, ag, ah, C⟩ := (sz [ay, V, O] bB aO).g11 h2 h4 h5 h6 h7 E J aa ag ah C
   clear bB aO
   refine ⟨Ext.chg hkeep_, ?_⟩
   replace am := Own.take (s0 := w.heap.size) (M := [ay, V, O]) am cF dU
   have f9 := am.len; have ga := am.max
   clear cF
   refine .r [10] <| .d fun ik cG => ?_
   replace ⟨h2, h4, h5, h6, h7, E, J, aa, ag, ah, am, C⟩ := (se [aX, ay, V, O] cG).g12 h2 h4 h5 h6 h7 E J aa ag ah am C
   clear cG
   refine .ns 2 95 [vI 1, vI d.next, .slice fe (((memPart s.mem).ids).length) ff, .slice fg (((memPart s.mem).blocks).length) fh, .slice none 0 0, .slice none 0 0, vI 2, vI 0, .slice none 0 0, .slice none 0 0, vS ay (0 + d.list.length + 1) fd, vS aX fi fj] fun aV bJ aF cH dW dX => ?_
   have gb := nb_new aF E.lt
   have gf := nb_new aF J.lt
   have gg := nb_new aF aa.lt
   have gh := nb_new aF am.lt
   have dY := gb_new aF C.size
   replace ⟨h2, h4, h5, h6, h7, E, J, aa, ag, ah, am, C⟩ := (sn [aX, ay, V, O] cH aF).g12 h2 h4 h5 h6 h7 E J aa ag ah am C
   clear cH dX aF
   have cI := aa.sl dR
   replace ⟨h2, h4, h5, h6, h7, ag, ah, am⟩ := (sd bJ [aV, aX, ay, V, O] ay).g8 h2 h4 h5 h6 h7 ag ah am
   have fk := am.sl dV
   replace ⟨h2, h4, h5, h6, h7, cI, ag, ah⟩ := (sd bJ [aV, aX, V, O] aX).g8 h2 h4 h5 h6 h7 cI ag ah
   have dZ : Own (α := Stp) bJ aV 95 (nin (ge w.heap.size) [aV, V, O]) 2 2 [(⟨1, d.next, (⟨(memPart s.mem).ids, (memPart s.mem).blocks⟩ : Prt), ([] : List Int), ([] : List (List Tag))⟩ : Stp), (⟨2, 0, (⟨([] : List Int), ([] : List (List Row))⟩ : Prt), (([] ++ d.list) ++ [d.next]), s.idx.names⟩ : Stp)] := Own.lit dW rfl (by decide) ⟨⟨_, _, _, _, _, _, _, _, _, _, _, _, rfl, ag.oi, ah.oi, (RepS.nil' _ _ none 0 (by decide)), (RepS.nil' _ _ none 0 (by decide))⟩, ⟨_, _, _, _, _, _, _, _, _, _, _, _, rfl, (RepS.nil' _ _ none 0 (by decide)), (RepS.nil' _ _ none 0 (by decide)), cI.oi, fk.oi⟩, rfl⟩
   refine .r 1 <| .d ?_
   have fl := dZ.sl dY
   replace ⟨h2, h4, h5, h6, h7⟩ := (sd bJ [aV, V, O] aV).g5 h2 h4 h5 h6 h7
   exact .rt Tryz.func100 Tryz.results100 (vS aV 2 2) ⟨(fl.vl (by first | rw [flushSt_no (by omega)] | (rw [flushSt_yes (by assumption) (by assumption) (by assumption) (by assumption)] <;> simp)) (fun _ _ h => h.1)), C⟩
 refine .ns 1 3 [vI d.next] fun il cJ => ?_
 replace ⟨h2, h4, h5, h6, h7, E, J, C, W⟩ := (se [V, O] cJ).g9 h2 h4 h5 h6 h7 E J C W
 clear cJ
 intro dj im ba cK ac d0
 have d3 := nb_new ba E.lt
 have d4 := nb_new ba J.lt
 have d5 := gb_new ba C.size
 replace ⟨h2, h4, h5, h6, h7, E, J, C, W⟩ := (se [V, O] cK).g9 h2 h4 h5 h6 h7 E J C W
 clear cK d0 ba
 refine .go 0 <| .ns 0 3 [] fun io cL => ?_
 replace ⟨h2, h4, h5, h6, h7, E, J, ac, C, W⟩ := (se [V, O] cL).g10 h2 h4 h5 h6 h7 E J ac C W
 clear cL
 intro aY fm az cM d6 d7
 have d8 := nb_new az E.lt
 have d9 := nb_new az J.lt
 have ea := nb_new az ac.lt
 have eb := gb_new az C.size
 have ec := C.cn az
 have ed := W.cn az
 replace ⟨h2, h4, h5, h6, h7, E, J, ac, C⟩ := (sn [V, O] cM az).g9 h2 h4 h5 h6 h7 E J ac C
 clear cM d7 az
 have bC : Own (α := Int) fm aY 3 (nin (ge w.heap.size) [aY, V, O]) 0 0 [] := Own.nil' d6
 refine .go 3 <| GE.append (T := 68) (ty := 68) (args := [vS aY 0 0, .slice a2 d.list.length c2]) (by kernel_rfl) fun ip cN => ?_
 replace ⟨h2, h4, h5, h6, h7, E, J, ac, bC, C⟩ := (se [aY, V, O] cN).g10 h2 h4 h5 h6 h7 E J ac bC C
 clear cN
 obtain ⟨bj, iq, ir, cO, aG, au, bD, ee⟩ := Own.appendF (P := Tryz.prog) (T := 68) (ty := 68) flat_int bC (by kernel_rfl) h2 (fun b h e => h.2 (e ▸ (.head _))) (by omega)
 refine ⟨_, _, cO, Chg.toS bD (Cov.toS ed), ?_⟩
 clear ee
 have ef := nb_or au d8 E.lt
 have eg := nb_or au d9 J.lt
 have cP := nb_or au ea ac.lt
 have eh := gb_or au eb C.size
 have gi := cov_or au ec C.size
 replace ⟨h4, h5, h6, h7, E, J, ac, C⟩ := (sa [aY, V, O] bD au).g8 h4 h5 h6 h7 E J ac C
 clear bD
 replace aG := aG.rn aY
 clear au
 have gj := aG.len; have gk := aG.max
 refine .d fun iu cQ => ?_
 replace ⟨h4, h5, h6, h7, E, J, ac, aG, C⟩ := (se [bj, V, O] cQ).g9 h4 h5 h6 h7 E J ac aG C
 clear cQ
 replace h4 := h4.outof
 replace h5 := h5.outof
 replace h6 := h6.outof
 replace h7 := h7.outof
 have bN : nin (ge w.heap.size) [bj, V, O] dj ∧ dj ≠ bj := hap_mk d5 (all_cons (Nb.symm cP) (all_cons d4 (all_cons d3 all_nil))) (Nb.symm cP)
 refine RG.append1 (T := 68) (ty := 68) (y := d.next) aG ac (by kernel_rfl) (by kernel_rfl) rfl bN (by omega) fun aA fp iw ab aK cR => ?_
 have gl := nb_or aK ef E.lt
 have gm := nb_or aK eg J.lt
 have ei := gb_or aK eh C.size
 replace ⟨h4, h5, h6, h7, E, J, C⟩ := (sa [bj, V, O] cR aK).g7 h4 h5 h6 h7 E J C
 clear cR
 replace ab := ab.rn bj
 clear aK
 have gn := ab.len; have gp := ab.max
 refine .r 1 <| .d <| .s <| .gd nil 11 fun iy cS => ?_
 replace ⟨h4, h5, h6, h7, E, J, ab, C⟩ := (se [aA, V, O] cS).g8 h4 h5 h6 h7 E J ab C
 clear cS
 refine .r [0] <| .lb 1 E id <| .ln 2 J id <| .r [5, 6, 7] <| .lb 8 J id <| .go 3 <| .cl (fun cT aP => c_spec_l13Mem s (h4.ta.ext aP) (h5.ta.ext aP) (h6.ta.ext aP) (h7.ta.ext aP) p0 p1 (w := cT) (F := all)) ?_
 intro cT aP
 replace ⟨h4, E, J, ab, C⟩ := (se [aA, V, O] aP).g5 h4 E J ab C
 rintro iz iA ⟨⟨_, rfl, ⟨fq, iB, ft, fu, iC, fv, rfl, ai, aj⟩⟩, bE⟩
 have bF := al3 ab.lt J.lt E.lt
 have cU : Gb w.heap.size cT.heap.size := C.size
 have hkeep_ := bE
 replace ⟨h4, E, J, ab, C⟩ := (se [aA, V, O] bE).g5 h4 E J ab C
 clear bE
 refine ⟨Ext.chg hkeep_, ?_⟩
 have ai := ai.fr bF cU
 have gq := ai.max
 have aj := aj.fr bF cU
 have gr := aj.max
 clear bF
 have ej := ai.len
 subst ej
 have ek := aj.len
 subst ek
 refine .r [4] <| .go 9 <| .cl (fun cV bG => c_spec_l11Names s.idx.names (h4.ta.ext bG) (by omega) (by intro n hn; have := p4 n hn; omega) (w := cV) (F := all)) ?_
 intro cV bG
 replace ⟨E, J, ab, ai, aj, C⟩ := (se [aA, V, O] bG).g6 E J ab ai aj C
 rintro iD iE ⟨⟨aZ, fw, fx, rfl, ao, aQ⟩, bH⟩
 have cW := al3 ab.lt J.lt E.lt
 have em : Gb w.heap.size cV.heap.size := C.size
 have hkeep_ := bH
 have gs := nb_ge aQ E.lt
 have gt := nb_ge aQ J.lt
 have gu := nb_ge aQ ab.lt
 have en := gb_ge aQ C.size
 replace ⟨E, J, ab, ai, aj, C⟩ := (sz [aA, V, O] bH aQ).g6 E J ab ai aj C
 clear bH aQ
 refine ⟨Ext.chg hkeep_, ?_⟩
 replace ao := Own.take (s0 := w.heap.size) (M := [aA, V, O]) ao cW em
 have gv := ao.len; have gw := ao.max
 clear cW
 refine .r [10] <| .d fun iF cX => ?_
 replace ⟨E, J, ab, ai, aj, ao, C⟩ := (se [aZ, aA, V, O] cX).g7 E J ab ai aj ao C
 clear cX
 refine .ns 2 95 [vI 1, vI d.next, .slice fq (((memPart s.mem).ids).length) ft, .slice fu (((memPart s.mem).blocks).length) fv, .slice none 0 0, .slice none 0 0, vI 2, vI 0, .slice none 0 0, .slice none 0 0, vS aA (0 + d.list.length + 1) fp, vS aZ fw fx] fun bk cY aH cZ eo ep => ?_
 have gx := nb_new aH E.lt
 have gy := nb_new aH J.lt
 have gz := nb_new aH ab.lt
 have gA := nb_new aH ao.lt
 have es := gb_new aH C.size
 replace ⟨ab, ai, aj, ao, C⟩ := (sn [aZ, aA, V, O] cZ aH).g5 ab ai aj ao C
 clear cZ ep aH
 have c8 := ab.sl ei
 replace ⟨ai, aj, ao⟩ := (sd cY [bk, aZ, aA, V, O] aA).g3 ai aj ao
 have fy := ao.sl en
 replace ⟨c8, ai, aj⟩ := (sd cY [bk, aZ, V, O] aZ).g3 c8 ai aj
 have et : Own (α := Stp) cY bk 95 (nin (ge w.heap.size) [bk, V, O]) 2 2 [(⟨1, d.next, (⟨(memPart s.mem).ids, (memPart s.mem).blocks⟩ : Prt), ([] : List Int), ([] : List (List Tag))⟩ : Stp), (⟨2, 0, (⟨([] : List Int), ([] : List (List Row))⟩ : Prt), (([] ++ d.list) ++ [d.next]), s.idx.names⟩ : Stp)] := Own.lit eo rfl (by decide) ⟨⟨_, _, _, _, _, _, _, _, _, _, _, _, rfl, ai.oi, aj.oi, (RepS.nil' _ _ none 0 (by decide)), (RepS.nil' _ _ none 0 (by decide))⟩, ⟨_, _, _, _, _, _, _, _, _, _, _, _, rfl, (RepS.nil' _ _ none 0 (by decide)), (RepS.nil' _ _ none 0 (by decide)), c8.oi, fy.oi⟩, rfl⟩
 refine .r 1 <| .d ?_
 have fz := et.sl es
 exact .rt Tryz.func100 Tryz.results100 (vS bk 2 2) ⟨(fz.vl (by first | rw [flushSt_no (by omega)] | (rw [flushSt_yes (by assumption) (by assumption) (by assumption) (by assumption)] <;> simp)) (fun _ _ h => h.1)), C⟩
theorem c_spec_l13Copy (s : Sto) {w : World} {F : Nat → Prop} {a1 : Option Addr} {n1 c1 : Nat} (h1 : RepS w F a1 n1 c1 s.idx.names) {a2 : Option Addr} {n2 c2 : Nat} (h2 : RepS w F a2 n2 c2 s.idx.posts) {a3 : Option Addr} {n3 c3 : Nat} (h3 : RepS w F a3 n3 c3 s.parts) {a4 : Option Addr} {n4 c4 : Nat} (h4 : RepS w F a4 n4 c4 s.mem) (p0 : StoSz s) : Calls Tryz.prog 60 [.agg #[.slice a1 n1 c1, .slice a2 n2 c2, .slice a3 n3 c3, .slice a4 n4 c4]].toArray w (rets fun rv w' => (∃ (a0 : Option Addr) (n0 c0 : Nat) (a1 : Option Addr) (n1 c1 : Nat) (a2 : Option Addr) (n2 c2 : Nat) (r3 n3 c3 : Nat), rv = .agg #[.slice a0 n0 c0, .slice a1 n1 c1, .slice a2 n2 c2, .slice (some ⟨r3, 0, none⟩) n3 c3] ∧ RepS w' (nin (ge w.heap.size) [r3]) a0 n0 c0 ((((copyS s)).idx).names) ∧ RepS w' (nin (ge w.heap.size) [r3]) a1 n1 c1 ((((copyS s)).idx).posts) ∧ RepS w' (nin (ge w.heap.size) [r3]) a2 n2 c2 (((copyS s)).parts) ∧ Own w' r3 51 (nin (ge w.heap.size) [r3]) n3 c3 (((copyS s)).mem) ∧ w.heap.size ≤ r3) ∧ Ext w w') := by
 refine goT Tryz.func60 ?_
 obtain ⟨rfl, hC, h1⟩ := h1.tp
 obtain ⟨rfl, hD, h2⟩ := h2.tp
 obtain ⟨rfl, hE, h3⟩ := h3.tp
 obtain ⟨rfl, hH, h4⟩ := h4.tp
 refine .s <| .g <| .np 30 [.slice a1 s.idx.names.length c1, .slice a2 s.idx.posts.length c2, .slice a3 s.parts.length c3, .slice a4 s.mem.length c4] fun W iY cM bS J e0 => ?_
 replace ⟨h1, h3, h4⟩ := (sn [] bS cM).g3 h1 h3 h4
 have C := bS
 clear bS e0 cM
 refine .np 30 [.slice none 0 0, .slice none 0 0, .slice none 0 0, .slice none 0 0] fun aa iZ bM cN O e7 => ?_
 have hJ := nb_new bM J.lt
 have hN := C.cn bM
 replace ⟨h1, h3, h4, J, C⟩ := (sn [W] cN bM).g5 h1 h3 h4 J C
 clear cN e7 bM
 refine .d <| .s <| .g <| .ns 0 75 [] fun bi bT aZ cO e8 e9 => ?_
 have fa := nb_new aZ J.lt
 have fb := nb_new aZ O.lt
 have fc := gb_new aZ C.size
 have fd := C.cn aZ
 replace ⟨h1, h3, h4, J, O, C⟩ := (sn [aa, W] cO aZ).g6 h1 h3 h4 J O C
 clear cO e9 aZ
 have fe : Own (α := Prt) bT bi 75 (nin (ge w.heap.size) [bi, aa, W]) 0 0 [] := Own.nil' e8
 refine .r 1 <| .d <| .s <| .s <| .g <| .r 1 <| .d <| .b 0 <| T.loop (X := (List Prt) × Nat × Nat × Nat × Nat) (([] : List Prt), bi, 0, 0, 0) (fun (k, r_k, n_k, c_k, k1) => [(1, .pointer (some ⟨W, 0, none⟩)), (2, .pointer (some ⟨aa, 0, none⟩)), (3, vS r_k n_k c_k), (4, vI (k1 : Int))]) (fun (k, r_k, n_k, c_k, k1) aX => Chg (ins [bi]) bT aX ∧ Own aX r_k 75 (nin (ge w.heap.size) [r_k, aa, W]) n_k c_k k ∧ OrB r_k bi bT.heap.size ∧ (k1 ≤ s.parts.length) ∧ (k.length ≤ k1) ∧ (k ++ s.parts.drop k1 = s.parts)) (fun (k, r_k, n_k, c_k, k1) => s.parts.length - k1) (by kernel_rfl) ⟨by kernel_rfl, by kernel_rfl, by kernel_rfl, by kernel_rfl, trivial⟩ ⟨Chg.refl _ _, fe, orb_refl, (by simp), (by simp), (by simp)⟩ ?_
 rintro ⟨k, r_k, n_k, c_k, k1⟩ ja aX ⟨V, E, aT, hO, hP, hQ⟩ bU
 have bV := nb_or' aT fa J.lt
 have hV := nb_or' aT fb O.lt
 have cP := gb_or' aT fc C.size
 have hW := cov_or' aT fd C.size
 have ff : Cov (ins [bi]) bT bi := ⟨.inl (.head _)⟩
 have hX := cov_or' aT ff (Nat.le_refl _)
 have cQ : Mv [bi, aa, W] [r_k, aa, W] bT aX := Mv.inl V (all_cons (.head _) all_nil) (all_cons (orb_mem aT (.head _)) (all_cons (.inl (.tail _ (.head _))) (all_cons (.inl (.tail _ (.tail _ (.head _)))) all_nil)))
 replace ⟨h1, h3, h4, J, O, C⟩ := (sp cQ V).g6 h1 h3 h4 J O C
 clear cQ
 have hY := E.len; have hZ := E.max
 refine .s <| .s <| .g <| .r 2 <| .lb J <| .r 1 <| .bp ((k1 : Int) < (s.parts.length : Int)) (fun fg => ?_) (fun fg => ?_)
 · refine .d <| .ct <| .sk <| .s <| .b 1 <| .s <| .g <| .ns 0 3 [] fun cL fX aR cR fh fi => ?_
   have fj := nb_new aR J.lt
   have fk := nb_new aR O.lt
   have fl := nb_new aR E.lt
   have fm := gb_new aR C.size
   have fp := C.cn aR
   have fq := V.cn aR
   replace ⟨h1, h3, h4, J, O, E, C, V⟩ := (sn [r_k, aa, W] cR aR).g8 h1 h3 h4 J O E C V
   clear cR fi aR
   have ft : Own (α := Int) fX cL 3 (nin (ge w.heap.size) [cL, r_k, aa, W]) 0 0 [] := Own.nil' fh
   refine .r 1 <| .lb J <| .r 1 ?_
   have fu : k1 < s.parts.length := (by omega)
   refine .ix k1 2 h3 fu <| .r 1 ?_
   obtain ⟨aB, ba⟩ : ∃ y, s.parts[k1]? = some y := ⟨_, List.getElem?_eq_getElem (by omega)⟩
   have ia := drop_at ba; have fW := List.mem_of_getElem? ba
   obtain ⟨_, ⟨jb, jc, jd, je, jf, jg, rfl, dg, fv⟩, fw⟩ := h3.elem k1 aB ba
   have fx := dg.len
   subst fx
   have ic := dg.max
   have dh := fv.len
   subst dh
   have fY := fv.max
   refine .lh 0 fw <| RG.appendF (T := 68) (ty := 68) flat_int ft dg (by kernel_rfl) (by kernel_rfl) (fun b h e => h.2 (e ▸ (.head _))) (by have q1 := p0.2.1; have q2 := p0.2.2.2; first | omega | (have q3 := p0.2.2.1 _ (by assumption); have q4 := q3.1; have q5 := q3.2.1; first | omega | (have q6 := q3.2.2 _ (by assumption); omega))) fun aC cS ie aj av bX => ?_
   have di := nb_or av fj J.lt
   have dj := nb_or av fk O.lt
   have dk := nb_or av fl E.lt
   have dm := gb_or av fm C.size
   have fZ := cov_or av fp C.size
   have f0 := cov_or av fq V.size
   replace ⟨h1, h3, h4, J, O, E, C, V⟩ := (sa [cL, r_k, aa, W] bX av).g8 h1 h3 h4 J O E C V
   clear bX
   replace aj := aj.rn cL
   clear av
   have f3 := aj.len; have f4 := aj.max
   refine .ns 0 42 [] fun aA fB ay bY dp dq => ?_
   have dr := nb_new ay J.lt
   have dt := nb_new ay O.lt
   have du := nb_new ay E.lt
   have dv := nb_new ay aj.lt
   have dw := gb_new ay C.size
   have dx := C.cn ay
   have dy := V.cn ay
   replace ⟨h1, h3, h4, J, O, E, aj, C, V⟩ := (sn [aC, r_k, aa, W] bY ay).g9 h1 h3 h4 J O E aj C V
   clear bY dq ay
   have aO : Own (α := List Row) fB aA 42 (nin (ge w.heap.size) [aA, aC, r_k, aa, W]) 0 0 [] := Own.nil' dp
   refine .r 1 <| .np 75 [.slice none 0 0, .slice none 0 0] fun ae ig az bZ dz dA => ?_
   have f5 := nb_new az J.lt
   have f6 := nb_new az O.lt
   have dB := nb_new az E.lt
   have dC := nb_new az aj.lt
   have dD := nb_new az aO.lt
   have f7 := C.cn az
   have f8 := V.cn az
   replace ⟨h1, h3, h4, J, O, E, aj, aO, C, V⟩ := (sn [aA, aC, r_k, aa, W] bZ az).g10 h1 h3 h4 J O E aj aO C V
   clear bZ dA az
   refine .sc [vS aC (0 + aB.ids.length) cS, vS aA 0 0] dz fun bc b0 bq dE => ?_
   replace ⟨h1, h3, h4, J, O, E, aj, aO, C, V⟩ := (so [ae, aA, aC, r_k, aa, W] b0).g10 h1 h3 h4 J O E aj aO C V
   clear b0 dE
   refine .d <| .s <| .s <| .g <| .r 1 <| .d <| .b 2 <| T.loop (X := Nat × (List Int) × Nat × Nat × Nat × (List (List Row)) × Nat × Nat × Nat) (0, (([] ++ aB.ids) : List Int), aC, 0 + aB.ids.length, cS, ([] : List (List Row)), aA, 0, 0) (fun (k2, bk, r_k_0, n_k_0, c_k_0, aY, r_k_1, n_k_1, c_k_1) => [(1, .pointer (some ⟨W, 0, none⟩)), (2, .pointer (some ⟨aa, 0, none⟩)), (3, vS r_k n_k c_k), (4, vI (k1 : Int)), (5, .pointer (some ⟨ae, 0, none⟩)), (6, vI (k2 : Int))]) (fun (k2, bk, r_k_0, n_k_0, c_k_0, aY, r_k_1, n_k_1, c_k_1) ax => Chg (ins [aC, aA, ae]) bc ax ∧ Own ax r_k_0 3 (nin (ge w.heap.size) [ae, r_k_1, r_k_0, r_k, aa, W]) n_k_0 c_k_0 bk ∧ OrB r_k_0 aC bc.heap.size ∧ Own ax r_k_1 42 (nin (ge w.heap.size) [ae, r_k_1, r_k_0, r_k, aa, W]) n_k_1 c_k_1 aY ∧ OrB r_k_1 aA bc.heap.size ∧ Nb r_k_1 r_k_0 ∧ Box ax ae 75 [vS r_k_0 n_k_0 c_k_0, vS r_k_1 n_k_1 c_k_1] ∧ (k2 ≤ aB.blocks.length) ∧ (bk = aB.ids) ∧ (aY.length ≤ k2) ∧ (aY ++ aB.blocks.drop k2 = aB.blocks)) (fun (k2, bk, r_k_0, n_k_0, c_k_0, aY, r_k_1, n_k_1, c_k_1) => aB.blocks.length - k2) (by kernel_rfl) ⟨by kernel_rfl, by kernel_rfl, by kernel_rfl, by kernel_rfl, by kernel_rfl, by kernel_rfl, trivial⟩ ⟨Chg.refl _ _, aj, orb_refl, aO, orb_refl, dv, bq, (by simp), (by simp), (by simp), (by simp)⟩ ?_
   rintro ⟨k2, bk, r_k_0, n_k_0, c_k_0, aY, r_k_1, n_k_1, c_k_1⟩ ii ax ⟨af, Z, aG, ab, aw, dF, ac, f9, ga, gb, gf⟩ bP
   have dG := nb_or' aG di J.lt
   have gg := nb_or' aG dj O.lt
   have gh := nb_or' aG dk E.lt
   have dH := nb_or' aG (Nb.symm dC) bq.lt
   have dI := gb_or' aG dm C.size
   have dJ := nb_or' aw dr J.lt
   have gi := nb_or' aw dt O.lt
   have gj := nb_or' aw du E.lt
   have b6 := nb_or' aw (Nb.symm dD) bq.lt
   have dK := gb_or' aw dw C.size
   have gk := cov_or' aw dx C.size
   have gl := cov_or' aw dy V.size
   have dL : Cov (ins [aC, aA, ae]) bc aA := ⟨.inl (.tail _ (.head _))⟩
   have gm : Cov (ins [aC, aA, ae]) bc ae := ⟨.inl (.tail _ (.tail _ (.head _)))⟩
   have gn := cov_or' aw dL (Nat.le_refl _)
   have b7 : Mv [ae, aA, aC, r_k, aa, W] [ae, r_k_1, r_k_0, r_k, aa, W] bc ax := Mv.inl af (all_cons (.tail _ (.tail _ (.head _))) (all_cons (.tail _ (.head _)) (all_cons (.head _) all_nil))) (all_cons (.inl (.head _)) (all_cons (orb_mem aw (.tail _ (.head _))) (all_cons (orb_mem aG (.tail _ (.tail _ (.head _)))) (all_cons (.inl (.tail _ (.tail _ (.tail _ (.head _))))) (all_cons (.inl (.tail _ (.tail _ (.tail _ (.tail _ (.head _)))))) (all_cons (.inl (.tail _ (.tail _ (.tail _ (.tail _ (.tail _ (.head _))))))) all_nil))))))
   replace ⟨h1, h3, h4, J, O, E, C, V⟩ := (sp b7 af).g8 h1 h3 h4 J O E C V
   clear b7
   have gp := Z.len; have gq := Z.max
   have gr := ab.len; have gs := ab.max
   refine .s <| .s <| .g <| .r 2 <| .lb J <| .r 1 ?_
   have dM : k1 < s.parts.length := (by omega)
   refine .ix k1 2 h3 dM <| .r 1 ?_
   obtain ⟨_, ⟨ij, ik, il, im, io, ip, rfl, fC, fD⟩, dN⟩ := h3.elem k1 aB ba
   have dO := fC.len
   subst dO
   have dP := fD.len
   subst dP
   refine .lh 1 dN <| .r 1 <| .bp ((k2 : Int) < (aB.blocks.length : Int)) (fun dQ => ?_) (fun dQ => ?_)
   · refine .d <| .ct <| .sk <| .s <| .b 3 ?_
     replace h1 := h1.into
     replace h3 := h3.into
     replace h4 := h4.into
     have dR : Gb (W + 1) ax.heap.size := J.lt
     have dS : Gb (ae + 1) ax.heap.size := ac.lt
     refine .gd (mtb [r_k, r_k_0, r_k_1] ax.heap.size) 14 fun fE br => ?_
     replace ⟨h1, h3, h4, J, O, E, Z, ab, ac, C, V, af⟩ := (se [ae, r_k_1, r_k_0, r_k, aa, W] br).g12 h1 h3 h4 J O E Z ab ac C V af
     have bt : Chg (mtb [r_k, r_k_0, r_k_1] ax.heap.size) ax fE := Chg.stepN (Chg.refl (mtb [r_k, r_k_0, r_k_1] ax.heap.size) ax) br
     clear br
     refine .r [0] <| .lb 1 ac (nS_of (all_cons dB (all_cons (Nb.symm dH) (all_cons (Nb.symm b6) all_nil))) dS) <| .r [3] <| .lb 4 J (nS_of (all_cons (Nb.symm bV) (all_cons (Nb.symm dG) (all_cons (Nb.symm dJ) all_nil))) dR) <| .r [5] ?_
     have dT : k1 < s.parts.length := (by omega)
     refine .ix 6 k1 2 h3 dT <| .r [7] ?_
     obtain ⟨_, ⟨iq, ir, iu, iw, iy, iz, rfl, fF, bO⟩, dU⟩ := h3.elem k1 aB ba
     have dV := fF.len
     subst dV
     have dW := bO.len
     subst dW
     refine .lh 8 1 dU (h3.nS (pos_of ba) (all_cons (.tail _ (.tail _ (.tail _ (.head _)))) (all_cons (.tail _ (.tail _ (.head _))) (all_cons (.tail _ (.head _)) all_nil)))) <| .r [9] ?_
     have dX : k2 < aB.blocks.length := (by omega)
     refine .ix 10 k2 1 bO dX ?_
     obtain ⟨bm, bg⟩ : ∃ y, aB.blocks[k2]? = some y := ⟨_, List.getElem?_eq_getElem (by omega)⟩
     have gt := drop_at bg; have fG := List.mem_of_getElem? bg
     obtain ⟨_, ⟨fH, iA, fI, rfl, aK⟩, dY⟩ := bO.elem k2 bm bg
     have dZ := aK.len
     subst dZ
     have gu := aK.max
     refine .lh 11 0 dY (bO.nS (pos_of bg) (all_cons (.tail _ (.tail _ (.tail _ (.head _)))) (all_cons (.tail _ (.tail _ (.head _))) (all_cons (.tail _ (.head _)) all_nil)))) <| .go 2 <| .ns 0 33 [] fun iB bu => ?_
     replace ⟨h1, h4, J, O, E, Z, ab, ac, aK, C, V, af⟩ := (se [ae, r_k_1, r_k_0, r_k, aa, W] bu).g12 h1 h4 J O E Z ab ac aK C V af
     replace bt := (se [ae, r_k_1, r_k_0, r_k, aa, W] bu).g1 bt
     clear bu
     intro aV fJ ak b8 d0 d3
     have d4 := nb_new ak J.lt
     have d5 := nb_new ak O.lt
     have d6 := nb_new ak E.lt
     have d7 := nb_new ak Z.lt
     have d8 := nb_new ak ab.lt
     have d9 := nb_new ak ac.lt
     have ea := gb_new ak C.size
     have gv := C.cn ak
     have gw := V.cn ak
     have gx := af.cn ak
     have eb := bt.cn ak
     replace ⟨h1, h4, J, O, E, Z, ab, ac, aK, C, V, af⟩ := (sn [ae, r_k_1, r_k_0, r_k, aa, W] b8 ak).g12 h1 h4 J O E Z ab ac aK C V af
     clear b8 d3 ak
     have bv : Own (α := Row) fJ aV 33 (nin (ge w.heap.size) [aV, ae, r_k_1, r_k_0, r_k, aa, W]) 0 0 [] := Own.nil' d0
     refine .go 12 <| GE.append (T := 42) (ty := 42) (args := [vS aV 0 0, .slice fH bm.length fI]) (by kernel_rfl) fun iC bw => ?_
     replace ⟨h1, h4, J, O, E, Z, ab, ac, aK, bv, C, V⟩ := (se [aV, ae, r_k_1, r_k_0, r_k, aa, W] bw).g12 h1 h4 J O E Z ab ac aK bv C V
     replace af := (se [aV, ae, r_k_1, r_k_0, r_k, aa, W] bw).g1 af
     clear bw
     obtain ⟨aW, fK, iD, b9, am, al, bz, ec⟩ := Own.appendF (P := Tryz.prog) (T := 42) (ty := 42) flat_row bv (by kernel_rfl) aK (fun b h e => h.2 (e ▸ (.head _))) (by have q1 := p0.2.1; have q2 := p0.2.2.2; first | omega | (have q3 := p0.2.2.1 _ (by assumption); have q4 := q3.1; have q5 := q3.2.1; first | omega | (have q6 := q3.2.2 _ (by assumption); omega)))
     refine ⟨_, _, b9, Chg.toS bz (Cov.toS eb), ?_⟩
     clear ec
     have gy := nb_or al d4 J.lt
     have gz := nb_or al d5 O.lt
     have gA := nb_or al d6 E.lt
     have gC := nb_or al d7 Z.lt
     have gD := nb_or al d8 ab.lt
     have gE := nb_or al d9 ac.lt
     have ed := gb_or al ea C.size
     replace ⟨h1, h4, J, O, E, Z, ab, ac, C, V, af⟩ := (sa [aV, ae, r_k_1, r_k_0, r_k, aa, W] bz al).g11 h1 h4 J O E Z ab ac C V af
     clear bz
     replace am := am.rn aV
     clear al
     have gF := am.len; have gG := am.max
     refine .go 13 <| .ns 1 42 [vS aW (0 + bm.length) fK] fun iE cd => ?_
     replace ⟨h1, h4, J, O, E, Z, ab, ac, am, C, V, af⟩ := (se [aW, ae, r_k_1, r_k_0, r_k, aa, W] cd).g12 h1 h4 J O E Z ab ac am C V af
     clear cd
     intro cT iF aD ce bA ee
     have ef := nb_new aD J.lt
     have eg := nb_new aD O.lt
     have eh := nb_new aD E.lt
     have ei := nb_new aD Z.lt
     have cg := nb_new aD ab.lt
     have ej := nb_new aD ac.lt
     have ek := gb_new aD C.size
     replace ⟨h1, h4, J, O, E, Z, ab, ac, am, C, V, af⟩ := (se [aW, ae, r_k_1, r_k_0, r_k, aa, W] ce).g12 h1 h4 J O E Z ab ac am C V af
     clear ce ee aD
     refine .d fun fL bB => ?_
     replace ⟨h1, h4, J, O, E, Z, ab, ac, am, bA, C, V⟩ := (se [aW, ae, r_k_1, r_k_0, r_k, aa, W] bB).g12 h1 h4 J O E Z ab ac am bA C V
     replace af := (se [aW, ae, r_k_1, r_k_0, r_k, aa, W] bB).g1 af
     clear bB
     replace h1 := h1.outof
     replace h4 := h4.outof
     have fM := am.sl ed
     replace ⟨h1, h4, E, Z, ab⟩ := (sd fL [aW, ae, r_k_1, r_k_0, r_k, aa, W] aW).g5 h1 h4 E Z ab
     have bQ : nin (ge w.heap.size) [ae, r_k_1, r_k_0, r_k, aa, W] cT ∧ cT ≠ r_k_1 := hap_mk ek (all_cons ej (all_cons cg (all_cons ei (all_cons eh (all_cons eg (all_cons ef all_nil)))))) cg
     refine RG.append1 (T := 73) (ty := 73) (y := ([] ++ bm)) ab bA (by kernel_rfl) (by kernel_rfl) ⟨_, _, _, rfl, fM.oi⟩ bQ (by have q1 := p0.2.1; have q2 := p0.2.2.2; first | omega | (have q3 := p0.2.2.1 _ (by assumption); have q4 := q3.1; have q5 := q3.2.1; first | omega | (have q6 := q3.2.2 _ (by assumption); omega))) fun ci cU iG aH aL cj => ?_
     have em := nb_or aL dF Z.lt
     have gH := nb_or aL b6 ac.lt
     have en := orb_or aL aw af.size
     replace ⟨h1, h4, J, O, E, Z, ac, C, V, af⟩ := (sa [ae, r_k_1, r_k_0, r_k, aa, W] cj aL).g10 h1 h4 J O E Z ac C V af
     clear cj
     replace aH := aH.rn r_k_1
     clear aL
     have gI := aH.len; have gJ := aH.max
     refine .r 1 <| .ss 1 (vS ci (n_k_1 + 1) cU) ac fun iH ck eo ep => ?_
     replace ⟨h1, h4, J, O, E, Z, aH, C, V, af⟩ := (so [ae, ci, r_k_0, r_k, aa, W] ck).g10 h1 h4 J O E Z aH C V af
     clear ck ep
     exact .d <| .ib 3 <| .g <| .r 1 <| .it ((k2 : Int) + 1) <| .r 1 <| .d <| bP (k2 + 1, bk, r_k_0, n_k_0, c_k_0, (aY ++ [([] ++ bm)]), ci, n_k_1 + 1, cU) _ _ ⟨by kernel_rfl, by kernel_rfl, by kernel_rfl, by kernel_rfl, by kernel_rfl, by kernel_rfl, trivial⟩ ⟨af, Z, aG, aH, en, em, eo, (by omega), (by assumption), (by simp; omega), (by exact appStep (by assumption) (by assumption))⟩ (by first | omega | (simp only []; omega))
   refine .d <| .cf <| .x 2 rfl <| .g <| .r 1 <| .ln ac <| .ns 1 75 [vS r_k_0 n_k_0 c_k_0, vS r_k_1 n_k_1 c_k_1] fun cV cW aP cm es et => ?_
   have ew := nb_new aP J.lt
   have ex := nb_new aP O.lt
   have co := nb_new aP E.lt
   have ey := nb_new aP ac.lt
   have ez := gb_new aP C.size
   replace ⟨h1, h4, J, O, E, Z, ab, C, V⟩ := (se [ae, r_k_1, r_k_0, r_k, aa, W] cm).g9 h1 h4 J O E Z ab C V
   clear cm et aP
   have cp := Z.sl dI
   replace ⟨h1, h4, E, ab⟩ := (sd cW [ae, r_k_1, r_k_0, r_k, aa, W] r_k_0).g4 h1 h4 E ab
   have fN := ab.sl dK
   replace ⟨h1, h4, E, cp⟩ := (sd cW [ae, r_k_1, r_k, aa, W] r_k_1).g4 h1 h4 E cp
   have bR : nin (ge w.heap.size) [ae, r_k, aa, W] cV ∧ cV ≠ r_k := hap_mk ez (all_cons ey (all_cons co (all_cons ex (all_cons ew all_nil)))) co
   refine RG.append1 (T := 27) (ty := 27) (y := (⟨bk, aY⟩ : Prt)) E es (by kernel_rfl) (by kernel_rfl) ⟨_, _, _, _, _, _, rfl, cp.oi, fN.oi⟩ bR (by have q1 := p0.2.1; have q2 := p0.2.2.2; first | omega | (have q3 := p0.2.2.1 _ (by assumption); have q4 := q3.1; have q5 := q3.2.1; first | omega | (have q6 := q3.2.2 _ (by assumption); omega))) fun cq fO cX aI bh cr => ?_
   have eA := orb_or bh aT V.size
   replace ⟨h1, h4, J, O, C, V⟩ := (sa [ae, r_k, aa, W] cr bh).g6 h1 h4 J O C V
   clear cr
   replace aI := aI.rn r_k
   clear bh
   have gK := aI.len; have gL := aI.max
   refine .r 1 <| .d <| .ib 1 <| .g <| .r 1 <| .it ((k1 : Int) + 1) <| .r 1 <| .d ?_
   have eB : Mv [ae, cq, aa, W] [cq, aa, W] cX cX := Mv.less (all_cons (.tail _ (.head _)) (all_cons (.tail _ (.tail _ (.head _))) (all_cons (.tail _ (.tail _ (.tail _ (.head _)))) all_nil)))
   replace ⟨h1, h4, aI⟩ := (sp eB (Chg.refl nil _)).g3 h1 h4 aI
   exact bU ((k ++ [(⟨bk, aY⟩ : Prt)]), cq, n_k + 1, fO, k1 + 1) _ _ ⟨by kernel_rfl, by kernel_rfl, by kernel_rfl, by kernel_rfl, trivial⟩ ⟨V, aI, eA, (by omega), (by simp; omega), (by exact copyStep (by assumption) (by assumption) (by assumption) (by have q1 := drop_end (xs := aB.blocks) (k := k2) (by omega); have q2 : aY ++ aB.blocks.drop k2 = aB.blocks := (by assumption); rw [q1, List.append_nil] at q2; exact q2))⟩ (by first | omega | (simp only []; omega))
 refine .d <| .cf <| .x 0 rfl <| .s ?_
 replace h1 := h1.into
 replace h4 := h4.into
 have cu : Gb (W + 1) aX.heap.size := J.lt
 refine .gd (mtb [r_k] aX.heap.size) 9 fun fP bC => ?_
 replace ⟨h1, h4, J, O, E, C⟩ := (se [r_k, aa, W] bC).g6 h1 h4 J O E C
 have ag : Chg (mtb [r_k] aX.heap.size) aX fP := Chg.stepN (Chg.refl (mtb [r_k] aX.heap.size) aX) bC
 clear bC
 refine .r [0, 1] <| .lb 2 J (nS_of (all_cons (Nb.symm bV) all_nil) cu) <| .r [4, 6] <| .lb 7 J (nS_of (all_cons (Nb.symm bV) all_nil) cu) <| .tw 3 5 ?_ ?_
 · refine .cl (fun cv bD => c_spec_l11Of s.idx.names (h1.ta.ext bD) p0.1.1 p0.1.2 (w := cv) (F := all)) ?_
   intro cv bD
   replace ⟨h1, h4, J, O, E, C, ag⟩ := (se [r_k, aa, W] bD).g7 h1 h4 J O E C ag
   rintro iI iJ ⟨⟨_, rfl, ⟨cY, iK, cZ, c7, iL, c8, rfl, ah, ai⟩⟩, bE⟩
   have bF := al3 E.lt O.lt J.lt
   have cw : Gb w.heap.size cv.heap.size := C.size
   have hkeep_ := bE
   replace ⟨h1, h4, J, O, E, C, ag⟩ := (se [r_k, aa, W] bE).g7 h1 h4 J O E C ag
   clear bE
   refine ⟨Ext.chg hkeep_, ?_⟩
   have ah := ah.fr bF cw
   have gM := ah.max
   have ai := ai.fr bF cw
   have gN := ai.max
   clear bF
   have eC := ah.len
   subst eC
   have eD := ai.len
   subst eD
   refine .go 5 <| .ns 0 51 [] fun iM cx => ?_
   replace ⟨h1, h4, J, O, E, ah, ai, C, ag⟩ := (se [r_k, aa, W] cx).g9 h1 h4 J O E ah ai C ag
   clear cx
   intro bd fQ aE cy eE eF
   have gO := nb_new aE J.lt
   have eG := nb_new aE O.lt
   have eH := nb_new aE E.lt
   have eI := gb_new aE C.size
   have gP := C.cn aE
   have eJ := ag.cn aE
   replace ⟨h1, h4, J, O, E, ah, ai, C, ag⟩ := (sn [r_k, aa, W] cy aE).g9 h1 h4 J O E ah ai C ag
   clear cy eF aE
   have bG : Own (α := Smp) fQ bd 51 (nin (ge w.heap.size) [bd, r_k, aa, W]) 0 0 [] := Own.nil' eE
   refine .go 8 <| GE.append (T := 28) (ty := 28) (args := [vS bd 0 0, .slice a4 s.mem.length c4]) (by kernel_rfl) fun iN cz => ?_
   replace ⟨h1, h4, J, O, E, ah, ai, bG, C, ag⟩ := (se [bd, r_k, aa, W] cz).g10 h1 h4 J O E ah ai bG C ag
   clear cz
   obtain ⟨bn, c9, iO, cA, ao, aM, bH, eK⟩ := Own.appendF (P := Tryz.prog) (T := 28) (ty := 28) flat_smp bG (by kernel_rfl) h4 (fun b h e => h.2 (e ▸ (.head _))) (by have q1 := p0.2.1; have q2 := p0.2.2.2; first | omega | (have q3 := p0.2.2.1 _ (by assumption); have q4 := q3.1; have q5 := q3.2.1; first | omega | (have q6 := q3.2.2 _ (by assumption); omega)))
   refine ⟨_, _, cA, Chg.toS bH (Cov.toS eJ), ?_⟩
   clear eK
   have gQ := nb_or aM eG O.lt
   have gR := nb_or aM eH E.lt
   have eL := gb_or aM eI C.size
   replace ⟨h1, h4, J, O, E, ah, ai, C, ag⟩ := (sa [bd, r_k, aa, W] bH aM).g9 h1 h4 J O E ah ai C ag
   clear bH
   replace ao := ao.rn bd
   clear aM
   have gS := ao.len; have gT := ao.max
   refine .d fun iP cB => ?_
   replace ⟨h1, h4, J, O, E, ah, ai, ao, C, ag⟩ := (se [bn, r_k, aa, W] cB).g10 h1 h4 J O E ah ai ao C ag
   clear cB
   replace h1 := h1.outof
   replace h4 := h4.outof
   refine .r 1 <| .sc [.slice cY (((idxOf s.idx.names).names).length) cZ, .slice c7 (((idxOf s.idx.names).posts).length) c8, vS r_k n_k c_k, vS bn (0 + s.mem.length) c9] O fun fR cC eM eN => ?_
   replace ⟨h1, h4, J, E, ah, ai, ao, C⟩ := (so [bn, r_k, aa, W] cC).g8 h1 h4 J E ah ai ao C
   clear cC eN
   refine .d ?_
   have fS := E.sl cP
   replace ⟨h1, h4, ah, ai, ao⟩ := (sd fR [bn, r_k, aa, W] r_k).g5 h1 h4 ah ai ao
   exact .rb Tryz.func60 Tryz.results60 eM ⟨⟨cY, ((idxOf s.idx.names).names).length, cZ, c7, ((idxOf s.idx.names).posts).length, c8, (some ⟨r_k, 0, none⟩), n_k, c_k, bn, (0 + s.mem.length), c9, rfl, ((RepS.lessM ah (all_cons (.head _) all_nil)).eqx (by rfl)), ((RepS.lessM ai (all_cons (.head _) all_nil)).eqx (by rfl)), ((RepS.lessM fS (all_cons (.head _) all_nil)).eqx (by have q1 := drop_end (xs := s.parts) (k := k1) (by omega); have q2 : k ++ s.parts.drop k1 = s.parts := (by assumption); rw [q1, List.append_nil] at q2; exact q2)), ((Own.lessM ao (all_cons (.head _) all_nil)).eqx (by rfl)), eL⟩, C⟩
 refine .ns 0 51 [] fun iQ cD => ?_
 replace ⟨h1, h4, J, O, E, C, ag⟩ := (se [r_k, aa, W] cD).g7 h1 h4 J O E C ag
 clear cD
 intro aS fT aJ cE eO eP
 have eQ := nb_new aJ O.lt
 have eR := nb_new aJ E.lt
 have eS := gb_new aJ C.size
 have gU := C.cn aJ
 have eT := ag.cn aJ
 replace ⟨h1, h4, J, O, E, C⟩ := (sn [r_k, aa, W] cE aJ).g6 h1 h4 J O E C
 clear cE eP aJ
 have aF : Own (α := Smp) fT aS 51 (nin (ge w.heap.size) [aS, r_k, aa, W]) 0 0 [] := Own.nil' eO
 refine .go 3 <| .cl (fun cF bI => c_spec_l11Of s.idx.names (h1.ta.ext bI) p0.1.1 p0.1.2 (w := cF) (F := all)) ?_
 intro cF bI
 replace ⟨h4, J, O, E, aF, C⟩ := (se [aS, r_k, aa, W] bI).g6 h4 J O E aF C
 rintro iR iS ⟨⟨_, rfl, ⟨da, iT, db, dd, iU, de, rfl, aq, ar⟩⟩, bJ⟩
 have bK := al4 aF.lt E.lt O.lt J.lt
 have cG : Gb w.heap.size cF.heap.size := C.size
 have hkeep_ := bJ
 replace ⟨h4, O, E, aF, C⟩ := (se [aS, r_k, aa, W] bJ).g5 h4 O E aF C
 clear bJ
 refine ⟨Ext.chg hkeep_, ?_⟩
 have aq := aq.fr bK cG
 have gV := aq.max
 have ar := ar.fr bK cG
 have gW := ar.max
 clear bK
 have eU := aq.len
 subst eU
 have eV := ar.len
 subst eV
 refine .go 8 <| GE.append (T := 28) (ty := 28) (args := [vS aS 0 0, .slice a4 s.mem.length c4]) (by kernel_rfl) fun iV cH => ?_
 replace ⟨h4, O, E, aF, aq, ar, C⟩ := (se [aS, r_k, aa, W] cH).g7 h4 O E aF aq ar C
 clear cH
 obtain ⟨bo, df, iW, cI, au, aN, bL, eW⟩ := Own.appendF (P := Tryz.prog) (T := 28) (ty := 28) flat_smp aF (by kernel_rfl) h4 (fun b h e => h.2 (e ▸ (.head _))) (by have q1 := p0.2.1; have q2 := p0.2.2.2; first | omega | (have q3 := p0.2.2.1 _ (by assumption); have q4 := q3.1; have q5 := q3.2.1; first | omega | (have q6 := q3.2.2 _ (by assumption); omega)))
 refine ⟨_, _, cI, Chg.toS bL (Cov.toS eT), ?_⟩
 clear eW
 have gX := nb_or aN eQ O.lt
 have gY := nb_or aN eR E.lt
 have eX := gb_or aN eS C.size
 replace ⟨O, E, aq, ar, C⟩ := (sa [aS, r_k, aa, W] bL aN).g5 O E aq ar C
 clear bL
 replace au := au.rn aS
 clear aN
 have gZ := au.len; have g0 := au.max
 refine .d fun iX cJ => ?_
 replace ⟨O, E, au, aq, ar, C⟩ := (se [bo, r_k, aa, W] cJ).g6 O E au aq ar C
 clear cJ
 refine .r 1 <| .sc [.slice da (((idxOf s.idx.names).names).length) db, .slice dd (((idxOf s.idx.names).posts).length) de, vS r_k n_k c_k, vS bo (0 + s.mem.length) df] O fun fU cK eY eZ => ?_
 replace ⟨E, au, aq, ar, C⟩ := (so [bo, r_k, aa, W] cK).g5 E au aq ar C
 clear cK eZ
 refine .d ?_
 have fV := E.sl cP
 replace ⟨au, aq, ar⟩ := (sd fU [bo, r_k, aa, W] r_k).g3 au aq ar
 exact .rb Tryz.func60 Tryz.results60 eY ⟨⟨da, ((idxOf s.idx.names).names).length, db, dd, ((idxOf s.idx.names).posts).length, de, (some ⟨r_k, 0, none⟩), n_k, c_k, bo, (0 + s.mem.length), df, rfl, ((RepS.lessM aq (all_cons (.head _) all_nil)).eqx (by rfl)), ((RepS.lessM ar (all_cons (.head _) all_nil)).eqx (by rfl)), ((RepS.lessM fV (all_cons (.head _) all_nil)).eqx (by have q1 := drop_end (xs := s.parts) (k := k1) (by omega); have q2 : k ++ s.parts.drop k1 = s.parts := (by assumption); rw [q1, List.append_nil] at q2; exact q2)), ((Own.lessM au (all_cons (.head _) all_nil)).eqx (by rfl)), eX⟩, C⟩
end Go.Proofs.YtfnpaglcnmcnbaaGreat
