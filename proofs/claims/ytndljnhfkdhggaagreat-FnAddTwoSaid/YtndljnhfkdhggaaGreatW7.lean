/- walks; squeezed -/
import Derived.Test.YtndljnhfkdhggaaGreatMod7
set_option linter.unusedVariables false
set_option linter.unusedSimpArgs false
namespace Go.Proofs.YtndljnhfkdhggaaGreat
set_option maxRecDepth 100000
set_option maxHeartbeats 4000000
theorem c_spec_l21Tidy (d : Dsk) {w : World} {F : Nat → Prop} {a1 : Option Addr} {n1 c1 : Nat} (h1 : RepS w F a1 n1 c1 d.files) {a2 : Option Addr} {n2 c2 : Nat} (h2 : RepS w F a2 n2 c2 d.list) {a3 : Option Addr} {n3 c3 : Nat} (h3 : RepS w F a3 n3 c3 d.names) (p0 : d.files.length ≤ 1000) : Calls Tryz.prog 119 [.agg #[.slice a1 n1 c1, .slice a2 n2 c2, .slice a3 n3 c3, .int .i64 d.next]].toArray w (rets fun rv w' => VS (fo F w.heap.size) w' (tidyD d : Dsk) rv ∧ Ext w w') := by
 refine goT Tryz.func119 ?_
 obtain ⟨rfl, bH, h1⟩ := h1.tp
 obtain ⟨rfl, bI, h2⟩ := h2.tp
 obtain ⟨rfl, bJ, h3⟩ := h3.tp
 refine .s <| .g <| .np 51 [.slice a1 d.files.length c1, .slice a2 d.list.length c2, .slice a3 d.names.length c3, vI d.next] fun W cd aq ar E aU => ?_
 have bK : Cov nil w W := cov_new aq (Nat.le_refl _)
 replace ⟨h1, h2, h3⟩ := (sn [] ar aq).g3 h1 h2 h3
 have C := ar
 clear ar aU aq
 refine .np 51 [.slice none 0 0, .slice none 0 0, .slice none 0 0, vI 0] fun Z ce aj aB J aV => ?_
 have bL := nb_new aj E.lt
 have bM := C.cn aj
 replace ⟨h1, h2, h3, E, C⟩ := (sn [W] aB aj).g5 h1 h2 h3 E C
 clear aB aV aj
 refine .d <| .s <| .g <| .ns 0 165 [] fun ah au ae aC aW aX => ?_
 have aY := nb_new ae E.lt
 have aZ := nb_new ae J.lt
 have ba := gb_new ae C.size
 have bb := C.cn ae
 replace ⟨h1, h2, h3, E, J, C⟩ := (sn [Z, W] aC ae).g6 h1 h2 h3 E J C
 clear aC aX ae
 have bc : Own (α := Fil) au ah 165 (nin (fo F w.heap.size) [ah, Z, W]) 0 0 [] := Own.nil' aW
 refine .r 1 <| .d <| .s <| .s <| .g <| .r 1 <| .d <| .b 0 <| T.loop (X := (List Fil) × Nat × Nat × Nat × Nat) (([] : List Fil), ah, 0, 0, 0) (fun (files, r_files, n_files, c_files, i) => [(1, .pointer (some ⟨W, 0, none⟩)), (2, .pointer (some ⟨Z, 0, none⟩)), (3, vS r_files n_files c_files), (4, vI (i : Int))]) (fun (files, r_files, n_files, c_files, i) aA => Chg (ins [ah]) au aA ∧ Own aA r_files 165 (nin (fo F w.heap.size) [r_files, Z, W]) n_files c_files files ∧ OrB r_files ah au.heap.size ∧ (i ≤ d.files.length) ∧ (files.length ≤ i) ∧ (files ++ (d.files.drop i).filter (fun f => d.list.contains f.num) = d.files.filter (fun f => d.list.contains f.num))) (fun (files, r_files, n_files, c_files, i) => d.files.length - i) (by kernel_rfl) ⟨by kernel_rfl, by kernel_rfl, by kernel_rfl, by kernel_rfl, trivial⟩ ⟨Chg.refl _ _, bc, orb_refl, (by simp), (by simp), (by simp)⟩ ?_
 rintro ⟨files, r_files, n_files, c_files, i⟩ cg aA ⟨V, O, aa, bN, bO, bP⟩ ai
 have bQ := nb_or' aa aY E.lt
 have bR := nb_or' aa aZ J.lt
 have bd := gb_or' aa ba C.size
 have bS := cov_or' aa bb C.size
 have bg : Cov (ins [ah]) au ah := ⟨.inl (.head _)⟩
 have bT := cov_or' aa bg (Nat.le_refl _)
 have aD : Mv [ah, Z, W] [r_files, Z, W] au aA := Mv.inl V (all_cons (.head _) all_nil) (all_cons (orb_mem aa (.head _)) (all_cons (.inl (.tail _ (.head _))) (all_cons (.inl (.tail _ (.tail _ (.head _)))) all_nil)))
 replace ⟨h1, h2, h3, E, J, C⟩ := (sp aD V).g6 h1 h2 h3 E J C
 clear aD
 have bU := O.len; have bV := O.max
 refine .s <| .s <| .g <| .r 2 <| .lb E <| .r 1 <| .bp ((i : Int) < (d.files.length : Int)) (fun bh => ?_) (fun bh => ?_)
 · refine .d <| .ct <| .sk <| .s <| .b 1 <| .s <| .gd nil 7 fun ci aE => ?_
   replace ⟨h1, h2, h3, E, J, O, C, V⟩ := (se [r_files, Z, W] aE).g8 h1 h2 h3 E J O C V
   clear aE
   refine .ln 0 E id <| .r [1] <| .lb 2 E id <| .r [3] ?_
   have bi : i < d.files.length := (by omega)
   refine .ix 4 i 3 h1 bi <| .r [5] ?_
   obtain ⟨af, ak⟩ : ∃ y, d.files[i]? = some y := ⟨_, List.getElem?_eq_getElem (by omega)⟩
   have bW := drop_at ak; have bC := List.mem_of_getElem? ak
   obtain ⟨_, ⟨cj, ck, cm, co, cp, cq, rfl, bj, bk⟩, bm⟩ := h1.elem i af ak
   have bn := bj.len
   subst bn
   have bX := bj.max
   have bo := bk.len
   subst bo
   have bY := bk.max
   refine .lh 6 0 bm id <| .d fun bD aF => ?_
   replace ⟨h1, h2, h3, E, J, O, C, V⟩ := (se [r_files, Z, W] aF).g8 h1 h2 h3 E J O C V
   clear aF
   refine .cl (c_spec_l21Counts d af.num h1.ta h2.ta h3.ta (w := bD) (F := all)) ?_
   rintro cr cu ⟨rfl, aG⟩
   replace ⟨h1, h2, h3, E, J, O, C, V⟩ := (se [r_files, Z, W] aG).g8 h1 h2 h3 E J O C V
   clear aG
   cases bZ : (d.list.contains af.num)
   · exact .d <| .cf <| .sk <| .ib 1 <| .g <| .r 1 <| .it ((i : Int) + 1) <| .r 1 <| .d <| ai (files, r_files, n_files, c_files, i + 1) _ _ ⟨by kernel_rfl, by kernel_rfl, by kernel_rfl, by kernel_rfl, trivial⟩ ⟨V, O, aa, (by omega), (by first | omega | (simp; omega)), (by grind)⟩ (by first | omega | (simp only []; omega))
   refine .d <| .ct <| .g <| .r 2 <| .lb E <| .r 1 ?_
   have bq : i < d.files.length := (by omega)
   refine .ix i 3 h1 bq ?_
   obtain ⟨_, ⟨bE, b0, br, bt, b6, bu, rfl, al, am⟩, bv⟩ := h1.elem i af ak
   have aI := al.len
   subst aI
   have aJ := am.len
   subst aJ
   refine .lg 0 bv <| .ns 1 165 [vI af.num, .slice bE af.part.ids.length br, .slice bt af.part.blocks.length bu] fun aH b7 ab av aK aL => ?_
   have aM := nb_new ab E.lt
   have aN := nb_new ab J.lt
   have aw := nb_new ab O.lt
   have aO := gb_new ab C.size
   replace ⟨h2, h3, E, J, O, al, am, C, V⟩ := (se [r_files, Z, W] av).g9 h2 h3 E J O al am C V
   clear av aL ab
   have ao : nin (fo F w.heap.size) [r_files, Z, W] aH ∧ aH ≠ r_files := hap_mk (.inr aO) (all_cons aw (all_cons aN (all_cons aM all_nil))) aw
   refine RG.append1 (T := 48) (ty := 48) (y := af) O aK (by kernel_rfl) (by kernel_rfl) ⟨_, _, _, _, _, _, rfl, al.oi, am.oi⟩ ao (by omega) fun bw bz b8 ac ag ax => ?_
   have aP := orb_or ag aa V.size
   replace ⟨h2, h3, E, J, C, V⟩ := (sa [r_files, Z, W] ax ag).g6 h2 h3 E J C V
   clear ax
   replace ac := ac.rn r_files
   clear ag
   have bF := ac.len; have bG := ac.max
   exact .r 1 <| .d <| .ib 1 <| .g <| .r 1 <| .it ((i : Int) + 1) <| .r 1 <| .d <| ai ((files ++ [af]), bw, n_files + 1, bz, i + 1) _ _ ⟨by kernel_rfl, by kernel_rfl, by kernel_rfl, by kernel_rfl, trivial⟩ ⟨V, ac, aP, (by omega), (by first | omega | (simp; omega)), (by grind)⟩ (by first | omega | (simp only []; omega))
 refine .d <| .cf <| .x 0 rfl <| .s <| .g <| .r 2 <| .ss 0 (vS r_files n_files c_files) E fun b9 ay aQ aR => ?_
 replace ⟨h2, h3, J, O, C⟩ := (so [r_files, Z, W] ay).g5 h2 h3 J O C
 clear ay aR
 refine .d <| .s <| .g <| .ln aQ <| .sc [vS r_files n_files c_files, .slice a2 d.list.length c2, .slice a3 d.names.length c3, vI d.next] J fun bA az aS aT => ?_
 replace ⟨h2, h3, O, C⟩ := (so [r_files, Z, W] az).g4 h2 h3 O C
 clear az aT
 refine .d ?_
 have bB := O.sl (.inr bd)
 replace ⟨h2, h3⟩ := (sd bA [r_files, Z, W] r_files).g2 h2 h3
 exact .rb Tryz.func119 Tryz.results119 aS ⟨(VS.of (y := (⟨files, d.list, d.names, d.next⟩ : Dsk)) ⟨_, rfl, ⟨_, _, _, _, _, _, _, _, _, rfl, bB.w1, h2.w1, h3.w1⟩⟩ (by grind [tidyD, drop_end])), C⟩
theorem c_spec_l21Flush (d : Dsk) (s : Sto) {w : World} {F : Nat → Prop} {a1 : Option Addr} {n1 c1 : Nat} (h1 : RepS w F a1 n1 c1 d.files) {a2 : Option Addr} {n2 c2 : Nat} (h2 : RepS w F a2 n2 c2 d.list) {a3 : Option Addr} {n3 c3 : Nat} (h3 : RepS w F a3 n3 c3 d.names) {a4 : Option Addr} {n4 c4 : Nat} (h4 : RepS w F a4 n4 c4 s.idx.names) {a5 : Option Addr} {n5 c5 : Nat} (h5 : RepS w F a5 n5 c5 s.idx.posts) {a6 : Option Addr} {n6 c6 : Nat} (h6 : RepS w F a6 n6 c6 s.parts) {a7 : Option Addr} {n7 c7 : Nat} (h7 : RepS w F a7 n7 c7 s.mem) (p0 : s.mem.length ≤ 1000) (p1 : ∀ m ∈ s.mem, 1 ≤ m.id ∧ m.id ≤ 6) (p2 : d.list.length ≤ 1000) (p3 : s.idx.names.length ≤ 1000) (p4 : ∀ n ∈ s.idx.names, n.length ≤ 1000) : Calls Tryz.prog 93 [.agg #[.slice a1 n1 c1, .slice a2 n2 c2, .slice a3 n3 c3, .int .i64 d.next], .agg #[.slice a4 n4 c4, .slice a5 n5 c5, .slice a6 n6 c6, .slice a7 n7 c7]].toArray w (rets fun rv w' => VL (ge w.heap.size) w' (flushSt d s : List Stp) rv ∧ Ext w w') := by
 refine goT Tryz.func93 ?_
 obtain ⟨rfl, gA, h1⟩ := h1.tp
 obtain ⟨rfl, gC, h2⟩ := h2.tp
 obtain ⟨rfl, gD, h3⟩ := h3.tp
 obtain ⟨rfl, gE, h4⟩ := h4.tp
 obtain ⟨rfl, gF, h5⟩ := h5.tp
 obtain ⟨rfl, gG, h6⟩ := h6.tp
 obtain ⟨rfl, gH, h7⟩ := h7.tp
 refine .s <| .g <| .np 51 [.slice a1 d.files.length c1, .slice a2 d.list.length c2, .slice a3 d.names.length c3, vI d.next] fun O iF c8 bN E et => ?_
 replace ⟨h2, h4, h5, h6, h7⟩ := (sn [] bN c8).g5 h2 h4 h5 h6 h7
 have C := bN
 clear bN et c8
 refine .np 30 [.slice a4 s.idx.names.length c4, .slice a5 s.idx.posts.length c5, .slice a6 s.parts.length c6, .slice a7 s.mem.length c7] fun V bJ c9 da J ew => ?_
 replace ⟨h2, h4, h5, h6, h7, E, C⟩ := (sn [O] da c9).g7 h2 h4 h5 h6 h7 E C
 clear da ew c9
 refine .r 1 <| .d <| .s <| .s <| .g <| .r 1 <| .lb J <| .r 1 <| .eq (s.mem.length : Int) 0 (fun ex => ?_) (fun ex => ?_)
 · refine .r 17 <| .d <| .ct <| .s <| .g <| .ns 0 162 [] fun bO ey bb db ez eA => ?_
   have gI := nb_new bb E.lt
   have gJ := nb_new bb J.lt
   have eB := gb_new bb C.size
   replace ⟨h2, h4, h5, h6, h7, E, J, C⟩ := (sn [V, O] db bb).g8 h2 h4 h5 h6 h7 E J C
   clear db eA bb
   have eC : Own (α := Stp) ey bO 162 (nin (ge w.heap.size) [bO, V, O]) 0 0 [] := Own.nil' ez
   refine .r 1 <| .d ?_
   have fz := eC.sl eB
   replace ⟨h2, h4, h5, h6, h7⟩ := (sd ey [bO, V, O] bO).g5 h2 h4 h5 h6 h7
   exact .rt Tryz.func93 Tryz.results93 (vS bO 0 0) ⟨(fz.vl (by first | rw [flushSt_no (by omega)] | (rw [flushSt_yes (by assumption) (by assumption) (by assumption) (by assumption)] <;> simp)) (fun _ _ h => h.1)), C⟩
 refine .r 2 <| .lb E <| .r 1 <| .bp ((d.list.length : Int) ≥ 6) (fun eD => ?_) (fun eD => ?_)
 · refine .r 12 <| .d <| .ct <| .s <| .g <| .ns 0 162 [] fun bP eE bc dd eF eG => ?_
   have gK := nb_new bc E.lt
   have gL := nb_new bc J.lt
   have eH := gb_new bc C.size
   replace ⟨h2, h4, h5, h6, h7, E, J, C⟩ := (sn [V, O] dd bc).g8 h2 h4 h5 h6 h7 E J C
   clear dd eG bc
   have eI : Own (α := Stp) eE bP 162 (nin (ge w.heap.size) [bP, V, O]) 0 0 [] := Own.nil' eF
   refine .r 1 <| .d ?_
   have fA := eI.sl eH
   replace ⟨h2, h4, h5, h6, h7⟩ := (sd eE [bP, V, O] bP).g5 h2 h4 h5 h6 h7
   exact .rt Tryz.func93 Tryz.results93 (vS bP 0 0) ⟨(fA.vl (by first | rw [flushSt_no (by omega)] | (rw [flushSt_yes (by assumption) (by assumption) (by assumption) (by assumption)] <;> simp)) (fun _ _ h => h.1)), C⟩
 refine .r 3 <| .lb E <| .bp (d.next ≥ 999) (fun eJ => ?_) (fun eJ => ?_)
 · refine .r 7 <| .d <| .ct <| .s <| .g <| .ns 0 162 [] fun bQ eK bd de eL eM => ?_
   have gM := nb_new bd E.lt
   have gN := nb_new bd J.lt
   have eN := gb_new bd C.size
   replace ⟨h2, h4, h5, h6, h7, E, J, C⟩ := (sn [V, O] de bd).g8 h2 h4 h5 h6 h7 E J C
   clear de eM bd
   have eO : Own (α := Stp) eK bQ 162 (nin (ge w.heap.size) [bQ, V, O]) 0 0 [] := Own.nil' eL
   refine .r 1 <| .d ?_
   have fB := eO.sl eN
   replace ⟨h2, h4, h5, h6, h7⟩ := (sd eK [bQ, V, O] bQ).g5 h2 h4 h5 h6 h7
   exact .rt Tryz.func93 Tryz.results93 (vS bQ 0 0) ⟨(fB.vl (by first | rw [flushSt_no (by omega)] | (rw [flushSt_yes (by assumption) (by assumption) (by assumption) (by assumption)] <;> simp)) (fun _ _ h => h.1)), C⟩
 refine .r 3 <| .lb E <| .r 1 <| .bp ((d.files.length : Int) ≥ 20) (fun eP => ?_) (fun eP => ?_)
 · refine .r 1 <| .d <| .ct <| .s <| .g <| .ns 0 162 [] fun bR eQ bg df eR eS => ?_
   have gO := nb_new bg E.lt
   have gP := nb_new bg J.lt
   have eT := gb_new bg C.size
   replace ⟨h2, h4, h5, h6, h7, E, J, C⟩ := (sn [V, O] df bg).g8 h2 h4 h5 h6 h7 E J C
   clear df eS bg
   have dj : Own (α := Stp) eQ bR 162 (nin (ge w.heap.size) [bR, V, O]) 0 0 [] := Own.nil' eR
   refine .r 1 <| .d ?_
   have eU := dj.sl eT
   replace ⟨h2, h4, h5, h6, h7⟩ := (sd eQ [bR, V, O] bR).g5 h2 h4 h5 h6 h7
   exact .rt Tryz.func93 Tryz.results93 (vS bR 0 0) ⟨(eU.vl (by first | rw [flushSt_no (by omega)] | (rw [flushSt_yes (by assumption) (by assumption) (by assumption) (by assumption)] <;> simp)) (fun _ _ h => h.1)), C⟩
 refine .r 1 <| .d <| .cf <| .sk <| .s ?_
 replace h2 := h2.into
 replace h4 := h4.into
 replace h5 := h5.into
 replace h6 := h6.into
 replace h7 := h7.into
 have bS : Gb (O + 1) bJ.heap.size := E.lt
 refine .gd (mtb [] bJ.heap.size) 7 fun eV bk => ?_
 replace ⟨h2, h4, h5, h6, h7, E, J, C⟩ := (se [V, O] bk).g8 h2 h4 h5 h6 h7 E J C
 have W : Chg (mtb [] bJ.heap.size) bJ eV := Chg.stepN (Chg.refl (mtb [] bJ.heap.size) bJ) bk
 clear bk
 refine .r [1] <| .lb 2 E (nS_of all_nil bS) <| .r [4] <| .lb 5 E (nS_of all_nil bS) <| .tw 0 6 ?_ ?_
 · refine .ns 0 3 [] fun gQ bT => ?_
   replace ⟨h2, h4, h5, h6, h7, E, J, C, W⟩ := (se [V, O] bT).g9 h2 h4 h5 h6 h7 E J C W
   clear bT
   intro av eW aC bU dk dm
   have bV := nb_new aC E.lt
   have bW := nb_new aC J.lt
   have bX := gb_new aC C.size
   have bY := C.cn aC
   have bZ := W.cn aC
   replace ⟨h2, h4, h5, h6, h7, E, J, C, W⟩ := (sn [V, O] bU aC).g9 h2 h4 h5 h6 h7 E J C W
   clear bU dm aC
   have aq : Own (α := Int) eW av 3 (nin (ge w.heap.size) [av, V, O]) 0 0 [] := Own.nil' dk
   refine .tw 3 6 ?_ ?_
   · refine GE.append (T := 49) (ty := 49) (args := [vS av 0 0, .slice a2 d.list.length c2]) (by kernel_rfl) fun gR b0 => ?_
     replace ⟨h2, h4, h5, h6, h7, E, J, aq, C, W⟩ := (se [av, V, O] b0).g10 h2 h4 h5 h6 h7 E J aq C W
     clear b0
     obtain ⟨aR, gS, gT, b6, ak, aB, bm, dp⟩ := Own.appendF (P := Tryz.prog) (T := 49) (ty := 49) flat_int aq (by kernel_rfl) h2 (fun b h e => h.2 (e ▸ (.head _))) (by omega)
     refine ⟨_, _, b6, Chg.toS bm (Cov.toS bZ), ?_⟩
     clear dp
     have dq := nb_or aB bV E.lt
     have dr := nb_or aB bW J.lt
     have dt := gb_or aB bX C.size
     have fC := cov_or aB bY C.size
     replace ⟨h2, h4, h5, h6, h7, E, J, C, W⟩ := (sa [av, V, O] bm aB).g9 h2 h4 h5 h6 h7 E J C W
     clear bm
     replace ak := ak.rn av
     clear aB
     have fD := ak.len; have fE := ak.max
     refine .go 6 <| .ns 1 3 [vI d.next] fun gU b7 => ?_
     replace ⟨h2, h4, h5, h6, h7, E, J, ak, C, W⟩ := (se [aR, V, O] b7).g10 h2 h4 h5 h6 h7 E J ak C W
     clear b7
     intro dg gV aS b8 bn du
     have dv := nb_new aS E.lt
     have dw := nb_new aS J.lt
     have b9 := nb_new aS ak.lt
     have dx := gb_new aS C.size
     replace ⟨h2, h4, h5, h6, h7, E, J, ak, C, W⟩ := (se [aR, V, O] b8).g10 h2 h4 h5 h6 h7 E J ak C W
     clear b8 du aS
     refine .d fun gW cd => ?_
     replace ⟨h2, h4, h5, h6, h7, E, J, ak, bn, C, W⟩ := (se [aR, V, O] cd).g11 h2 h4 h5 h6 h7 E J ak bn C W
     clear cd
     replace h2 := h2.outof
     replace h4 := h4.outof
     replace h5 := h5.outof
     replace h6 := h6.outof
     replace h7 := h7.outof
     have bK : nin (ge w.heap.size) [aR, V, O] dg ∧ dg ≠ aR := hap_mk dx (all_cons b9 (all_cons dw (all_cons dv all_nil))) b9
     refine RG.append1 (T := 49) (ty := 49) (y := d.next) ak bn (by kernel_rfl) (by kernel_rfl) rfl bK (by omega) fun aw eX gX Z aI ce => ?_
     have fF := nb_or aI dq E.lt
     have fG := nb_or aI dr J.lt
     have dy := gb_or aI dt C.size
     replace ⟨h2, h4, h5, h6, h7, E, J, C⟩ := (sa [aR, V, O] ce aI).g8 h2 h4 h5 h6 h7 E J C
     clear ce
     replace Z := Z.rn aR
     clear aI
     have fH := Z.len; have fI := Z.max
     refine .r 1 <| .d <| .s <| .gd nil 11 fun gY cg => ?_
     replace ⟨h2, h4, h5, h6, h7, E, J, Z, C⟩ := (se [aw, V, O] cg).g9 h2 h4 h5 h6 h7 E J Z C
     clear cg
     refine .r [0] <| .lb 1 E id <| .ln 2 J id <| .r [5, 6, 7] <| .lb 8 J id <| .go 3 <| .cl (fun ci aL => c_spec_l13Mem s (h4.ta.ext aL) (h5.ta.ext aL) (h6.ta.ext aL) (h7.ta.ext aL) p0 p1 (w := ci) (F := all)) ?_
     intro ci aL
     replace ⟨h2, h4, h5, h6, h7, E, J, Z, C⟩ := (se [aw, V, O] aL).g9 h2 h4 h5 h6 h7 E J Z C
     rintro gZ g0 ⟨⟨_, rfl, ⟨eY, hC, eZ, e0, hD, e7, rfl, ae, af⟩⟩, bo⟩
     have bq := al3 Z.lt J.lt E.lt
     have cj : Gb w.heap.size ci.heap.size := C.size
     have hkeep_ := bo
     replace ⟨h2, h4, h5, h6, h7, E, J, Z, C⟩ := (se [aw, V, O] bo).g9 h2 h4 h5 h6 h7 E J Z C
     clear bo
     refine ⟨Ext.chg hkeep_, ?_⟩
     have ae := ae.fr bq cj
     have fJ := ae.max
     have af := af.fr bq cj
     have fK := af.max
     clear bq
     have dz := ae.len
     subst dz
     have dA := af.len
     subst dA
     refine .r [4] <| .go 9 <| .cl (fun ck br => c_spec_l11Names s.idx.names (h4.ta.ext br) (by omega) (by intro n hn; have := p4 n hn; omega) (w := ck) (F := all)) ?_
     intro ck br
     replace ⟨h2, h4, h5, h6, h7, E, J, Z, ae, af, C⟩ := (se [aw, V, O] br).g11 h2 h4 h5 h6 h7 E J Z ae af C
     rintro hE hH ⟨⟨aW, e8, e9, rfl, al, aM⟩, bt⟩
     have cm := al3 Z.lt J.lt E.lt
     have dB : Gb w.heap.size ck.heap.size := C.size
     have hkeep_ := bt
     have fL := nb_ge aM E.lt
     have fM := nb_ge aM J.lt
     have fN := nb_ge aM Z.lt
     have dC := gb_ge aM C.size
     replace ⟨h2, h4, h5, h6, h7, E, J, Z, ae, af, C⟩ := (sz [aw, V, O] bt aM).g11 h2 h4 h5 h6 h7 E J Z ae af C
     clear bt aM
     refine ⟨Ext.chg hkeep_, ?_⟩
     replace al := Own.take (s0 := w.heap.size) (M := [aw, V, O]) al cm dB
     have fO := al.len; have fP := al.max
     clear cm
     refine .r [10] <| .d fun hJ co => ?_
     replace ⟨h2, h4, h5, h6, h7, E, J, Z, ae, af, al, C⟩ := (se [aW, aw, V, O] co).g12 h2 h4 h5 h6 h7 E J Z ae af al C
     clear co
     refine .ns 2 162 [vI 1, vI d.next, .slice eY (((memPart s.mem).ids).length) eZ, .slice e0 (((memPart s.mem).blocks).length) e7, .slice none 0 0, .slice none 0 0, vI 2, vI 0, .slice none 0 0, .slice none 0 0, vS aw (0 + d.list.length + 1) eX, vS aW e8 e9] fun aT bH aD cp dD dE => ?_
     have fQ := nb_new aD E.lt
     have fR := nb_new aD J.lt
     have fS := nb_new aD Z.lt
     have fT := nb_new aD al.lt
     have dF := gb_new aD C.size
     replace ⟨h2, h4, h5, h6, h7, E, J, Z, ae, af, al, C⟩ := (sn [aW, aw, V, O] cp aD).g12 h2 h4 h5 h6 h7 E J Z ae af al C
     clear cp dE aD
     have cq := Z.sl dy
     replace ⟨h2, h4, h5, h6, h7, ae, af, al⟩ := (sd bH [aT, aW, aw, V, O] aw).g8 h2 h4 h5 h6 h7 ae af al
     have fa := al.sl dC
     replace ⟨h2, h4, h5, h6, h7, cq, ae, af⟩ := (sd bH [aT, aW, V, O] aW).g8 h2 h4 h5 h6 h7 cq ae af
     have dG : Own (α := Stp) bH aT 162 (nin (ge w.heap.size) [aT, V, O]) 2 2 [(⟨1, d.next, (⟨(memPart s.mem).ids, (memPart s.mem).blocks⟩ : Prt), ([] : List Int), ([] : List (List Tag))⟩ : Stp), (⟨2, 0, (⟨([] : List Int), ([] : List (List Row))⟩ : Prt), (([] ++ d.list) ++ [d.next]), s.idx.names⟩ : Stp)] := Own.lit dD rfl (by decide) ⟨⟨_, _, _, _, _, _, _, _, _, _, _, _, rfl, ae.oi, af.oi, (RepS.nil' _ _ none 0 (by decide)), (RepS.nil' _ _ none 0 (by decide))⟩, ⟨_, _, _, _, _, _, _, _, _, _, _, _, rfl, (RepS.nil' _ _ none 0 (by decide)), (RepS.nil' _ _ none 0 (by decide)), cq.oi, fa.oi⟩, rfl⟩
     refine .r 1 <| .d ?_
     have fb := dG.sl dF
     replace ⟨h2, h4, h5, h6, h7⟩ := (sd bH [aT, V, O] aT).g5 h2 h4 h5 h6 h7
     exact .rt Tryz.func93 Tryz.results93 (vS aT 2 2) ⟨(fb.vl (by first | rw [flushSt_no (by omega)] | (rw [flushSt_yes (by assumption) (by assumption) (by assumption) (by assumption)] <;> simp)) (fun _ _ h => h.1)), C⟩
   refine .ns 1 3 [vI d.next] fun hN cr => ?_
   replace ⟨h2, h4, h5, h6, h7, E, J, aq, C, W⟩ := (se [av, V, O] cr).g10 h2 h4 h5 h6 h7 E J aq C W
   clear cr
   intro dh hO aU cu ax dH
   have dI := nb_new aU E.lt
   have dJ := nb_new aU J.lt
   have dK := nb_new aU aq.lt
   have dL := gb_new aU C.size
   replace ⟨h2, h4, h5, h6, h7, E, J, aq, C, W⟩ := (se [av, V, O] cu).g10 h2 h4 h5 h6 h7 E J aq C W
   clear cu dH aU
   refine .go 3 <| GE.append (T := 49) (ty := 49) (args := [vS av 0 0, .slice a2 d.list.length c2]) (by kernel_rfl) fun hP cv => ?_
   replace ⟨h2, h4, h5, h6, h7, E, J, aq, ax, C, W⟩ := (se [av, V, O] cv).g11 h2 h4 h5 h6 h7 E J aq ax C W
   clear cv
   obtain ⟨bh, hQ, hV, cw, aE, ar, bu, dM⟩ := Own.appendF (P := Tryz.prog) (T := 49) (ty := 49) flat_int aq (by kernel_rfl) h2 (fun b h e => h.2 (e ▸ (.head _))) (by omega)
   refine ⟨_, _, cw, Chg.toS bu (Cov.toS bZ), ?_⟩
   clear dM
   have dN := nb_or ar bV E.lt
   have dO := nb_or ar bW J.lt
   have cx := nb_or ar (Nb.symm dK) ax.lt
   have dP := gb_or ar bX C.size
   have fU := cov_or ar bY C.size
   replace ⟨h2, h4, h5, h6, h7, E, J, ax, C, W⟩ := (sa [av, V, O] bu ar).g10 h2 h4 h5 h6 h7 E J ax C W
   clear bu
   replace aE := aE.rn av
   clear ar
   have fV := aE.len; have fW := aE.max
   refine .d fun hW cy => ?_
   replace ⟨h2, h4, h5, h6, h7, E, J, aE, ax, C, W⟩ := (se [bh, V, O] cy).g11 h2 h4 h5 h6 h7 E J aE ax C W
   clear cy
   replace h2 := h2.outof
   replace h4 := h4.outof
   replace h5 := h5.outof
   replace h6 := h6.outof
   replace h7 := h7.outof
   have bL : nin (ge w.heap.size) [bh, V, O] dh ∧ dh ≠ bh := hap_mk dL (all_cons (Nb.symm cx) (all_cons dJ (all_cons dI all_nil))) (Nb.symm cx)
   refine RG.append1 (T := 49) (ty := 49) (y := d.next) aE ax (by kernel_rfl) (by kernel_rfl) rfl bL (by omega) fun ay fc hX aa aJ cz => ?_
   have fX := nb_or aJ dN E.lt
   have fY := nb_or aJ dO J.lt
   have dQ := gb_or aJ dP C.size
   replace ⟨h2, h4, h5, h6, h7, E, J, C⟩ := (sa [bh, V, O] cz aJ).g8 h2 h4 h5 h6 h7 E J C
   clear cz
   replace aa := aa.rn bh
   clear aJ
   have fZ := aa.len; have f0 := aa.max
   refine .r 1 <| .d <| .s <| .gd nil 11 fun hY cA => ?_
   replace ⟨h2, h4, h5, h6, h7, E, J, aa, C⟩ := (se [ay, V, O] cA).g9 h2 h4 h5 h6 h7 E J aa C
   clear cA
   refine .r [0] <| .lb 1 E id <| .ln 2 J id <| .r [5, 6, 7] <| .lb 8 J id <| .go 3 <| .cl (fun cB aN => c_spec_l13Mem s (h4.ta.ext aN) (h5.ta.ext aN) (h6.ta.ext aN) (h7.ta.ext aN) p0 p1 (w := cB) (F := all)) ?_
   intro cB aN
   replace ⟨h2, h4, h5, h6, h7, E, J, aa, C⟩ := (se [ay, V, O] aN).g9 h2 h4 h5 h6 h7 E J aa C
   rintro hZ ia ⟨⟨_, rfl, ⟨fd, ic, fe, ff, ie, fg, rfl, ag, ah⟩⟩, bv⟩
   have bw := al3 aa.lt J.lt E.lt
   have cC : Gb w.heap.size cB.heap.size := C.size
   have hkeep_ := bv
   replace ⟨h2, h4, h5, h6, h7, E, J, aa, C⟩ := (se [ay, V, O] bv).g9 h2 h4 h5 h6 h7 E J aa C
   clear bv
   refine ⟨Ext.chg hkeep_, ?_⟩
   have ag := ag.fr bw cC
   have f3 := ag.max
   have ah := ah.fr bw cC
   have f4 := ah.max
   clear bw
   have dR := ag.len
   subst dR
   have dS := ah.len
   subst dS
   refine .r [4] <| .go 9 <| .cl (fun cD bz => c_spec_l11Names s.idx.names (h4.ta.ext bz) (by omega) (by intro n hn; have := p4 n hn; omega) (w := cD) (F := all)) ?_
   intro cD bz
   replace ⟨h2, h4, h5, h6, h7, E, J, aa, ag, ah, C⟩ := (se [ay, V, O] bz).g11 h2 h4 h5 h6 h7 E J aa ag ah C
   rintro ig ii ⟨⟨aX, fh, fi, rfl, am, aO⟩, bA⟩
   have cE := al3 aa.lt J.lt E.lt
   have dT : Gb w.heap.size cD.heap.size := C.size
   have hkeep_ := bA
   have f5 := nb_ge aO E.lt
   have f6 := nb_ge aO J.lt
   have f7 := nb_ge aO aa.lt
   have dU := gb_ge aO C.size
   replace ⟨h2, h4, h5, h6, h7, E, J, aa, ag, ah, C⟩ := (sz [ay, V, O] bA aO).g11 h2 h4 h5 h6 h7 E J aa ag ah C
   clear bA aO
   refine ⟨Ext.chg hkeep_, ?_⟩
   replace am := Own.take (s0 := w.heap.size) (M := [ay, V, O]) am cE dT
   have f8 := am.len; have f9 := am.max
   clear cE
   refine .r [10] <| .d fun ij cF => ?_
   replace ⟨h2, h4, h5, h6, h7, E, J, aa, ag, ah, am, C⟩ := (se [aX, ay, V, O] cF).g12 h2 h4 h5 h6 h7 E J aa ag ah am C
   clear cF
   refine .ns 2 162 [vI 1, vI d.next, .slice fd (((memPart s.mem).ids).length) fe, .slice ff (((memPart s.mem).blocks).length) fg, .slice none 0 0, .slice none 0 0, vI 2, vI 0, .slice none 0 0, .slice none 0 0, vS ay (0 + d.list.length + 1) fc, vS aX fh fi] fun aV bI aF cG dV dW => ?_
   have ga := nb_new aF E.lt
   have gb := nb_new aF J.lt
   have gf := nb_new aF aa.lt
   have gg := nb_new aF am.lt
   have dX := gb_new aF C.size
   replace ⟨h2, h4, h5, h6, h7, E, J, aa, ag, ah, am, C⟩ := (sn [aX, ay, V, O] cG aF).g12 h2 h4 h5 h6 h7 E J aa ag ah am C
   clear cG dW aF
   have cH := aa.sl dQ
   replace ⟨h2, h4, h5, h6, h7, ag, ah, am⟩ := (sd bI [aV, aX, ay, V, O] ay).g8 h2 h4 h5 h6 h7 ag ah am
   have fj := am.sl dU
   replace ⟨h2, h4, h5, h6, h7, cH, ag, ah⟩ := (sd bI [aV, aX, V, O] aX).g8 h2 h4 h5 h6 h7 cH ag ah
   have dY : Own (α := Stp) bI aV 162 (nin (ge w.heap.size) [aV, V, O]) 2 2 [(⟨1, d.next, (⟨(memPart s.mem).ids, (memPart s.mem).blocks⟩ : Prt), ([] : List Int), ([] : List (List Tag))⟩ : Stp), (⟨2, 0, (⟨([] : List Int), ([] : List (List Row))⟩ : Prt), (([] ++ d.list) ++ [d.next]), s.idx.names⟩ : Stp)] := Own.lit dV rfl (by decide) ⟨⟨_, _, _, _, _, _, _, _, _, _, _, _, rfl, ag.oi, ah.oi, (RepS.nil' _ _ none 0 (by decide)), (RepS.nil' _ _ none 0 (by decide))⟩, ⟨_, _, _, _, _, _, _, _, _, _, _, _, rfl, (RepS.nil' _ _ none 0 (by decide)), (RepS.nil' _ _ none 0 (by decide)), cH.oi, fj.oi⟩, rfl⟩
   refine .r 1 <| .d ?_
   have fk := dY.sl dX
   replace ⟨h2, h4, h5, h6, h7⟩ := (sd bI [aV, V, O] aV).g5 h2 h4 h5 h6 h7
   exact .rt Tryz.func93 Tryz.results93 (vS aV 2 2) ⟨(fk.vl (by first | rw [flushSt_no (by omega)] | (rw [flushSt_yes (by assumption) (by assumption) (by assumption) (by assumption)] <;> simp)) (fun _ _ h => h.1)), C⟩
 refine .ns 1 3 [vI d.next] fun ik cI => ?_
 replace ⟨h2, h4, h5, h6, h7, E, J, C, W⟩ := (se [V, O] cI).g9 h2 h4 h5 h6 h7 E J C W
 clear cI
 intro di il ba cJ ac dZ
 have d0 := nb_new ba E.lt
 have d3 := nb_new ba J.lt
 have d4 := gb_new ba C.size
 replace ⟨h2, h4, h5, h6, h7, E, J, C, W⟩ := (se [V, O] cJ).g9 h2 h4 h5 h6 h7 E J C W
 clear cJ dZ ba
 refine .go 0 <| .ns 0 3 [] fun im cK => ?_
 replace ⟨h2, h4, h5, h6, h7, E, J, ac, C, W⟩ := (se [V, O] cK).g10 h2 h4 h5 h6 h7 E J ac C W
 clear cK
 intro aY fl az cL d5 d6
 have d7 := nb_new az E.lt
 have d8 := nb_new az J.lt
 have d9 := nb_new az ac.lt
 have ea := gb_new az C.size
 have eb := C.cn az
 have ec := W.cn az
 replace ⟨h2, h4, h5, h6, h7, E, J, ac, C⟩ := (sn [V, O] cL az).g9 h2 h4 h5 h6 h7 E J ac C
 clear cL d6 az
 have bB : Own (α := Int) fl aY 3 (nin (ge w.heap.size) [aY, V, O]) 0 0 [] := Own.nil' d5
 refine .go 3 <| GE.append (T := 49) (ty := 49) (args := [vS aY 0 0, .slice a2 d.list.length c2]) (by kernel_rfl) fun io cM => ?_
 replace ⟨h2, h4, h5, h6, h7, E, J, ac, bB, C⟩ := (se [aY, V, O] cM).g10 h2 h4 h5 h6 h7 E J ac bB C
 clear cM
 obtain ⟨bi, ip, iq, cN, aG, au, bC, ed⟩ := Own.appendF (P := Tryz.prog) (T := 49) (ty := 49) flat_int bB (by kernel_rfl) h2 (fun b h e => h.2 (e ▸ (.head _))) (by omega)
 refine ⟨_, _, cN, Chg.toS bC (Cov.toS ec), ?_⟩
 clear ed
 have ee := nb_or au d7 E.lt
 have ef := nb_or au d8 J.lt
 have cO := nb_or au d9 ac.lt
 have eg := gb_or au ea C.size
 have gh := cov_or au eb C.size
 replace ⟨h4, h5, h6, h7, E, J, ac, C⟩ := (sa [aY, V, O] bC au).g8 h4 h5 h6 h7 E J ac C
 clear bC
 replace aG := aG.rn aY
 clear au
 have gi := aG.len; have gj := aG.max
 refine .d fun ir cP => ?_
 replace ⟨h4, h5, h6, h7, E, J, ac, aG, C⟩ := (se [bi, V, O] cP).g9 h4 h5 h6 h7 E J ac aG C
 clear cP
 replace h4 := h4.outof
 replace h5 := h5.outof
 replace h6 := h6.outof
 replace h7 := h7.outof
 have bM : nin (ge w.heap.size) [bi, V, O] di ∧ di ≠ bi := hap_mk d4 (all_cons (Nb.symm cO) (all_cons d3 (all_cons d0 all_nil))) (Nb.symm cO)
 refine RG.append1 (T := 49) (ty := 49) (y := d.next) aG ac (by kernel_rfl) (by kernel_rfl) rfl bM (by omega) fun aA fm iu ab aK cQ => ?_
 have gk := nb_or aK ee E.lt
 have gl := nb_or aK ef J.lt
 have eh := gb_or aK eg C.size
 replace ⟨h4, h5, h6, h7, E, J, C⟩ := (sa [bi, V, O] cQ aK).g7 h4 h5 h6 h7 E J C
 clear cQ
 replace ab := ab.rn bi
 clear aK
 have gm := ab.len; have gn := ab.max
 refine .r 1 <| .d <| .s <| .gd nil 11 fun iw cR => ?_
 replace ⟨h4, h5, h6, h7, E, J, ab, C⟩ := (se [aA, V, O] cR).g8 h4 h5 h6 h7 E J ab C
 clear cR
 refine .r [0] <| .lb 1 E id <| .ln 2 J id <| .r [5, 6, 7] <| .lb 8 J id <| .go 3 <| .cl (fun cS aP => c_spec_l13Mem s (h4.ta.ext aP) (h5.ta.ext aP) (h6.ta.ext aP) (h7.ta.ext aP) p0 p1 (w := cS) (F := all)) ?_
 intro cS aP
 replace ⟨h4, E, J, ab, C⟩ := (se [aA, V, O] aP).g5 h4 E J ab C
 rintro iy iz ⟨⟨_, rfl, ⟨fp, iA, fq, ft, iB, fu, rfl, ai, aj⟩⟩, bD⟩
 have bE := al3 ab.lt J.lt E.lt
 have cT : Gb w.heap.size cS.heap.size := C.size
 have hkeep_ := bD
 replace ⟨h4, E, J, ab, C⟩ := (se [aA, V, O] bD).g5 h4 E J ab C
 clear bD
 refine ⟨Ext.chg hkeep_, ?_⟩
 have ai := ai.fr bE cT
 have gp := ai.max
 have aj := aj.fr bE cT
 have gq := aj.max
 clear bE
 have ei := ai.len
 subst ei
 have ej := aj.len
 subst ej
 refine .r [4] <| .go 9 <| .cl (fun cU bF => c_spec_l11Names s.idx.names (h4.ta.ext bF) (by omega) (by intro n hn; have := p4 n hn; omega) (w := cU) (F := all)) ?_
 intro cU bF
 replace ⟨E, J, ab, ai, aj, C⟩ := (se [aA, V, O] bF).g6 E J ab ai aj C
 rintro iC iD ⟨⟨aZ, fv, fw, rfl, ao, aQ⟩, bG⟩
 have cV := al3 ab.lt J.lt E.lt
 have ek : Gb w.heap.size cU.heap.size := C.size
 have hkeep_ := bG
 have gr := nb_ge aQ E.lt
 have gs := nb_ge aQ J.lt
 have gt := nb_ge aQ ab.lt
 have em := gb_ge aQ C.size
 replace ⟨E, J, ab, ai, aj, C⟩ := (sz [aA, V, O] bG aQ).g6 E J ab ai aj C
 clear bG aQ
 refine ⟨Ext.chg hkeep_, ?_⟩
 replace ao := Own.take (s0 := w.heap.size) (M := [aA, V, O]) ao cV ek
 have gu := ao.len; have gv := ao.max
 clear cV
 refine .r [10] <| .d fun iE cW => ?_
 replace ⟨E, J, ab, ai, aj, ao, C⟩ := (se [aZ, aA, V, O] cW).g7 E J ab ai aj ao C
 clear cW
 refine .ns 2 162 [vI 1, vI d.next, .slice fp (((memPart s.mem).ids).length) fq, .slice ft (((memPart s.mem).blocks).length) fu, .slice none 0 0, .slice none 0 0, vI 2, vI 0, .slice none 0 0, .slice none 0 0, vS aA (0 + d.list.length + 1) fm, vS aZ fv fw] fun bj cX aH cY en eo => ?_
 have gw := nb_new aH E.lt
 have gx := nb_new aH J.lt
 have gy := nb_new aH ab.lt
 have gz := nb_new aH ao.lt
 have ep := gb_new aH C.size
 replace ⟨ab, ai, aj, ao, C⟩ := (sn [aZ, aA, V, O] cY aH).g5 ab ai aj ao C
 clear cY eo aH
 have cZ := ab.sl eh
 replace ⟨ai, aj, ao⟩ := (sd cX [bj, aZ, aA, V, O] aA).g3 ai aj ao
 have fx := ao.sl em
 replace ⟨cZ, ai, aj⟩ := (sd cX [bj, aZ, V, O] aZ).g3 cZ ai aj
 have es : Own (α := Stp) cX bj 162 (nin (ge w.heap.size) [bj, V, O]) 2 2 [(⟨1, d.next, (⟨(memPart s.mem).ids, (memPart s.mem).blocks⟩ : Prt), ([] : List Int), ([] : List (List Tag))⟩ : Stp), (⟨2, 0, (⟨([] : List Int), ([] : List (List Row))⟩ : Prt), (([] ++ d.list) ++ [d.next]), s.idx.names⟩ : Stp)] := Own.lit en rfl (by decide) ⟨⟨_, _, _, _, _, _, _, _, _, _, _, _, rfl, ai.oi, aj.oi, (RepS.nil' _ _ none 0 (by decide)), (RepS.nil' _ _ none 0 (by decide))⟩, ⟨_, _, _, _, _, _, _, _, _, _, _, _, rfl, (RepS.nil' _ _ none 0 (by decide)), (RepS.nil' _ _ none 0 (by decide)), cZ.oi, fx.oi⟩, rfl⟩
 refine .r 1 <| .d ?_
 have fy := es.sl ep
 exact .rt Tryz.func93 Tryz.results93 (vS bj 2 2) ⟨(fy.vl (by first | rw [flushSt_no (by omega)] | (rw [flushSt_yes (by assumption) (by assumption) (by assumption) (by assumption)] <;> simp)) (fun _ _ h => h.1)), C⟩
theorem c_spec_l13Copy (s : Sto) {w : World} {F : Nat → Prop} {a1 : Option Addr} {n1 c1 : Nat} (h1 : RepS w F a1 n1 c1 s.idx.names) {a2 : Option Addr} {n2 c2 : Nat} (h2 : RepS w F a2 n2 c2 s.idx.posts) {a3 : Option Addr} {n3 c3 : Nat} (h3 : RepS w F a3 n3 c3 s.parts) {a4 : Option Addr} {n4 c4 : Nat} (h4 : RepS w F a4 n4 c4 s.mem) (p0 : StoSz s) : Calls Tryz.prog 18 [.agg #[.slice a1 n1 c1, .slice a2 n2 c2, .slice a3 n3 c3, .slice a4 n4 c4]].toArray w (rets fun rv w' => (∃ (a0 : Option Addr) (n0 c0 : Nat) (a1 : Option Addr) (n1 c1 : Nat) (a2 : Option Addr) (n2 c2 : Nat) (r3 n3 c3 : Nat), rv = .agg #[.slice a0 n0 c0, .slice a1 n1 c1, .slice a2 n2 c2, .slice (some ⟨r3, 0, none⟩) n3 c3] ∧ RepS w' (nin (ge w.heap.size) [r3]) a0 n0 c0 ((((copyS s)).idx).names) ∧ RepS w' (nin (ge w.heap.size) [r3]) a1 n1 c1 ((((copyS s)).idx).posts) ∧ RepS w' (nin (ge w.heap.size) [r3]) a2 n2 c2 (((copyS s)).parts) ∧ Own w' r3 62 (nin (ge w.heap.size) [r3]) n3 c3 (((copyS s)).mem) ∧ w.heap.size ≤ r3) ∧ Ext w w') := by
 refine goT Tryz.func18 ?_
 obtain ⟨rfl, g0, h1⟩ := h1.tp
 obtain ⟨rfl, hC, h2⟩ := h2.tp
 obtain ⟨rfl, hD, h3⟩ := h3.tp
 obtain ⟨rfl, hE, h4⟩ := h4.tp
 refine .s <| .g <| .np 30 [.slice a1 s.idx.names.length c1, .slice a2 s.idx.posts.length c2, .slice a3 s.parts.length c3, .slice a4 s.mem.length c4] fun W iX cL bR J eZ => ?_
 replace ⟨h1, h3, h4⟩ := (sn [] bR cL).g3 h1 h3 h4
 have C := bR
 clear bR eZ cL
 refine .np 30 [.slice none 0 0, .slice none 0 0, .slice none 0 0, .slice none 0 0] fun aa iY bL cM O e0 => ?_
 have hH := nb_new bL J.lt
 have hJ := C.cn bL
 replace ⟨h1, h3, h4, J, C⟩ := (sn [W] cM bL).g5 h1 h3 h4 J C
 clear cM e0 bL
 refine .d <| .s <| .g <| .ns 0 68 [] fun bh bS aZ cN e7 e8 => ?_
 have e9 := nb_new aZ J.lt
 have fa := nb_new aZ O.lt
 have fb := gb_new aZ C.size
 have fc := C.cn aZ
 replace ⟨h1, h3, h4, J, O, C⟩ := (sn [aa, W] cN aZ).g6 h1 h3 h4 J O C
 clear cN e8 aZ
 have fd : Own (α := Prt) bS bh 68 (nin (ge w.heap.size) [bh, aa, W]) 0 0 [] := Own.nil' e7
 refine .r 1 <| .d <| .s <| .s <| .g <| .r 1 <| .d <| .b 0 <| T.loop (X := (List Prt) × Nat × Nat × Nat × Nat) (([] : List Prt), bh, 0, 0, 0) (fun (k, r_k, n_k, c_k, k1) => [(1, .pointer (some ⟨W, 0, none⟩)), (2, .pointer (some ⟨aa, 0, none⟩)), (3, vS r_k n_k c_k), (4, vI (k1 : Int))]) (fun (k, r_k, n_k, c_k, k1) aX => Chg (ins [bh]) bS aX ∧ Own aX r_k 68 (nin (ge w.heap.size) [r_k, aa, W]) n_k c_k k ∧ OrB r_k bh bS.heap.size ∧ (k1 ≤ s.parts.length) ∧ (k.length ≤ k1) ∧ (k ++ s.parts.drop k1 = s.parts)) (fun (k, r_k, n_k, c_k, k1) => s.parts.length - k1) (by kernel_rfl) ⟨by kernel_rfl, by kernel_rfl, by kernel_rfl, by kernel_rfl, trivial⟩ ⟨Chg.refl _ _, fd, orb_refl, (by simp), (by simp), (by simp)⟩ ?_
 rintro ⟨k, r_k, n_k, c_k, k1⟩ iZ aX ⟨V, E, aT, hN, hO, hP⟩ bT
 have bU := nb_or' aT e9 J.lt
 have hQ := nb_or' aT fa O.lt
 have cO := gb_or' aT fb C.size
 have hV := cov_or' aT fc C.size
 have fe : Cov (ins [bh]) bS bh := ⟨.inl (.head _)⟩
 have hW := cov_or' aT fe (Nat.le_refl _)
 have cP : Mv [bh, aa, W] [r_k, aa, W] bS aX := Mv.inl V (all_cons (.head _) all_nil) (all_cons (orb_mem aT (.head _)) (all_cons (.inl (.tail _ (.head _))) (all_cons (.inl (.tail _ (.tail _ (.head _)))) all_nil)))
 replace ⟨h1, h3, h4, J, O, C⟩ := (sp cP V).g6 h1 h3 h4 J O C
 clear cP
 have hX := E.len; have hY := E.max
 refine .s <| .s <| .g <| .r 2 <| .lb J <| .r 1 <| .bp ((k1 : Int) < (s.parts.length : Int)) (fun ff => ?_) (fun ff => ?_)
 · refine .d <| .ct <| .sk <| .s <| .b 1 <| .s <| .g <| .ns 0 3 [] fun cK fW aR cQ fg fh => ?_
   have fi := nb_new aR J.lt
   have fj := nb_new aR O.lt
   have fk := nb_new aR E.lt
   have fl := gb_new aR C.size
   have fm := C.cn aR
   have fp := V.cn aR
   replace ⟨h1, h3, h4, J, O, E, C, V⟩ := (sn [r_k, aa, W] cQ aR).g8 h1 h3 h4 J O E C V
   clear cQ fh aR
   have fq : Own (α := Int) fW cK 3 (nin (ge w.heap.size) [cK, r_k, aa, W]) 0 0 [] := Own.nil' fg
   refine .r 1 <| .lb J <| .r 1 ?_
   have ft : k1 < s.parts.length := (by omega)
   refine .ix k1 2 h3 ft <| .r 1 ?_
   obtain ⟨aB, ba⟩ : ∃ y, s.parts[k1]? = some y := ⟨_, List.getElem?_eq_getElem (by omega)⟩
   have hZ := drop_at ba; have fV := List.mem_of_getElem? ba
   obtain ⟨_, ⟨ja, jb, jc, jd, je, jf, rfl, df, fu⟩, fv⟩ := h3.elem k1 aB ba
   have fw := df.len
   subst fw
   have ia := df.max
   have dg := fu.len
   subst dg
   have fX := fu.max
   refine .lh 0 fv <| RG.appendF (T := 49) (ty := 49) flat_int fq df (by kernel_rfl) (by kernel_rfl) (fun b h e => h.2 (e ▸ (.head _))) (by have q1 := p0.2.1; have q2 := p0.2.2.2; first | omega | (have q3 := p0.2.2.1 _ (by assumption); have q4 := q3.1; have q5 := q3.2.1; first | omega | (have q6 := q3.2.2 _ (by assumption); omega))) fun aC cR ic aj av bW => ?_
   have dh := nb_or av fi J.lt
   have di := nb_or av fj O.lt
   have dj := nb_or av fk E.lt
   have dk := gb_or av fl C.size
   have fY := cov_or av fm C.size
   have fZ := cov_or av fp V.size
   replace ⟨h1, h3, h4, J, O, E, C, V⟩ := (sa [cK, r_k, aa, W] bW av).g8 h1 h3 h4 J O E C V
   clear bW
   replace aj := aj.rn cK
   clear av
   have f0 := aj.len; have f3 := aj.max
   refine .ns 0 41 [] fun aA fA ay bX dm dp => ?_
   have dq := nb_new ay J.lt
   have dr := nb_new ay O.lt
   have dt := nb_new ay E.lt
   have du := nb_new ay aj.lt
   have dv := gb_new ay C.size
   have dw := C.cn ay
   have dx := V.cn ay
   replace ⟨h1, h3, h4, J, O, E, aj, C, V⟩ := (sn [aC, r_k, aa, W] bX ay).g9 h1 h3 h4 J O E aj C V
   clear bX dp ay
   have aO : Own (α := List Row) fA aA 41 (nin (ge w.heap.size) [aA, aC, r_k, aa, W]) 0 0 [] := Own.nil' dm
   refine .r 1 <| .np 68 [.slice none 0 0, .slice none 0 0] fun ae ie az bY dy dz => ?_
   have f4 := nb_new az J.lt
   have f5 := nb_new az O.lt
   have dA := nb_new az E.lt
   have dB := nb_new az aj.lt
   have dC := nb_new az aO.lt
   have f6 := C.cn az
   have f7 := V.cn az
   replace ⟨h1, h3, h4, J, O, E, aj, aO, C, V⟩ := (sn [aA, aC, r_k, aa, W] bY az).g10 h1 h3 h4 J O E aj aO C V
   clear bY dz az
   refine .sc [vS aC (0 + aB.ids.length) cR, vS aA 0 0] dy fun bb bZ bo dD => ?_
   replace ⟨h1, h3, h4, J, O, E, aj, aO, C, V⟩ := (so [ae, aA, aC, r_k, aa, W] bZ).g10 h1 h3 h4 J O E aj aO C V
   clear bZ dD
   refine .d <| .s <| .s <| .g <| .r 1 <| .d <| .b 2 <| T.loop (X := Nat × (List Int) × Nat × Nat × Nat × (List (List Row)) × Nat × Nat × Nat) (0, (([] ++ aB.ids) : List Int), aC, 0 + aB.ids.length, cR, ([] : List (List Row)), aA, 0, 0) (fun (k2, bj, r_k_0, n_k_0, c_k_0, aY, r_k_1, n_k_1, c_k_1) => [(1, .pointer (some ⟨W, 0, none⟩)), (2, .pointer (some ⟨aa, 0, none⟩)), (3, vS r_k n_k c_k), (4, vI (k1 : Int)), (5, .pointer (some ⟨ae, 0, none⟩)), (6, vI (k2 : Int))]) (fun (k2, bj, r_k_0, n_k_0, c_k_0, aY, r_k_1, n_k_1, c_k_1) ax => Chg (ins [aC, aA, ae]) bb ax ∧ Own ax r_k_0 3 (nin (ge w.heap.size) [ae, r_k_1, r_k_0, r_k, aa, W]) n_k_0 c_k_0 bj ∧ OrB r_k_0 aC bb.heap.size ∧ Own ax r_k_1 41 (nin (ge w.heap.size) [ae, r_k_1, r_k_0, r_k, aa, W]) n_k_1 c_k_1 aY ∧ OrB r_k_1 aA bb.heap.size ∧ Nb r_k_1 r_k_0 ∧ Box ax ae 68 [vS r_k_0 n_k_0 c_k_0, vS r_k_1 n_k_1 c_k_1] ∧ (k2 ≤ aB.blocks.length) ∧ (bj = aB.ids) ∧ (aY.length ≤ k2) ∧ (aY ++ aB.blocks.drop k2 = aB.blocks)) (fun (k2, bj, r_k_0, n_k_0, c_k_0, aY, r_k_1, n_k_1, c_k_1) => aB.blocks.length - k2) (by kernel_rfl) ⟨by kernel_rfl, by kernel_rfl, by kernel_rfl, by kernel_rfl, by kernel_rfl, by kernel_rfl, trivial⟩ ⟨Chg.refl _ _, aj, orb_refl, aO, orb_refl, du, bo, (by simp), (by simp), (by simp), (by simp)⟩ ?_
   rintro ⟨k2, bj, r_k_0, n_k_0, c_k_0, aY, r_k_1, n_k_1, c_k_1⟩ ig ax ⟨af, Z, aG, ab, aw, dE, ac, f8, f9, ga, gb⟩ bO
   have dF := nb_or' aG dh J.lt
   have gf := nb_or' aG di O.lt
   have gg := nb_or' aG dj E.lt
   have dG := nb_or' aG (Nb.symm dB) bo.lt
   have dH := gb_or' aG dk C.size
   have dI := nb_or' aw dq J.lt
   have gh := nb_or' aw dr O.lt
   have gi := nb_or' aw dt E.lt
   have b0 := nb_or' aw (Nb.symm dC) bo.lt
   have dJ := gb_or' aw dv C.size
   have gj := cov_or' aw dw C.size
   have gk := cov_or' aw dx V.size
   have dK : Cov (ins [aC, aA, ae]) bb aA := ⟨.inl (.tail _ (.head _))⟩
   have gl : Cov (ins [aC, aA, ae]) bb ae := ⟨.inl (.tail _ (.tail _ (.head _)))⟩
   have gm := cov_or' aw dK (Nat.le_refl _)
   have b6 : Mv [ae, aA, aC, r_k, aa, W] [ae, r_k_1, r_k_0, r_k, aa, W] bb ax := Mv.inl af (all_cons (.tail _ (.tail _ (.head _))) (all_cons (.tail _ (.head _)) (all_cons (.head _) all_nil))) (all_cons (.inl (.head _)) (all_cons (orb_mem aw (.tail _ (.head _))) (all_cons (orb_mem aG (.tail _ (.tail _ (.head _)))) (all_cons (.inl (.tail _ (.tail _ (.tail _ (.head _))))) (all_cons (.inl (.tail _ (.tail _ (.tail _ (.tail _ (.head _)))))) (all_cons (.inl (.tail _ (.tail _ (.tail _ (.tail _ (.tail _ (.head _))))))) all_nil))))))
   replace ⟨h1, h3, h4, J, O, E, C, V⟩ := (sp b6 af).g8 h1 h3 h4 J O E C V
   clear b6
   have gn := Z.len; have gp := Z.max
   have gq := ab.len; have gr := ab.max
   refine .s <| .s <| .g <| .r 2 <| .lb J <| .r 1 ?_
   have dL : k1 < s.parts.length := (by omega)
   refine .ix k1 2 h3 dL <| .r 1 ?_
   obtain ⟨_, ⟨ii, ij, ik, il, im, io, rfl, fB, fC⟩, dM⟩ := h3.elem k1 aB ba
   have dN := fB.len
   subst dN
   have dO := fC.len
   subst dO
   refine .lh 1 dM <| .r 1 <| .bp ((k2 : Int) < (aB.blocks.length : Int)) (fun dP => ?_) (fun dP => ?_)
   · refine .d <| .ct <| .sk <| .s <| .b 3 ?_
     replace h1 := h1.into
     replace h3 := h3.into
     replace h4 := h4.into
     have dQ : Gb (W + 1) ax.heap.size := J.lt
     have dR : Gb (ae + 1) ax.heap.size := ac.lt
     refine .gd (mtb [r_k, r_k_0, r_k_1] ax.heap.size) 14 fun fD bq => ?_
     replace ⟨h1, h3, h4, J, O, E, Z, ab, ac, C, V, af⟩ := (se [ae, r_k_1, r_k_0, r_k, aa, W] bq).g12 h1 h3 h4 J O E Z ab ac C V af
     have br : Chg (mtb [r_k, r_k_0, r_k_1] ax.heap.size) ax fD := Chg.stepN (Chg.refl (mtb [r_k, r_k_0, r_k_1] ax.heap.size) ax) bq
     clear bq
     refine .r [0] <| .lb 1 ac (nS_of (all_cons dA (all_cons (Nb.symm dG) (all_cons (Nb.symm b0) all_nil))) dR) <| .r [3] <| .lb 4 J (nS_of (all_cons (Nb.symm bU) (all_cons (Nb.symm dF) (all_cons (Nb.symm dI) all_nil))) dQ) <| .r [5] ?_
     have dS : k1 < s.parts.length := (by omega)
     refine .ix 6 k1 2 h3 dS <| .r [7] ?_
     obtain ⟨_, ⟨ip, iq, ir, iu, iw, iy, rfl, fE, bN⟩, dT⟩ := h3.elem k1 aB ba
     have dU := fE.len
     subst dU
     have dV := bN.len
     subst dV
     refine .lh 8 1 dT (h3.nS (pos_of ba) (all_cons (.tail _ (.tail _ (.tail _ (.head _)))) (all_cons (.tail _ (.tail _ (.head _))) (all_cons (.tail _ (.head _)) all_nil)))) <| .r [9] ?_
     have dW : k2 < aB.blocks.length := (by omega)
     refine .ix 10 k2 1 bN dW ?_
     obtain ⟨bk, bd⟩ : ∃ y, aB.blocks[k2]? = some y := ⟨_, List.getElem?_eq_getElem (by omega)⟩
     have gs := drop_at bd; have fF := List.mem_of_getElem? bd
     obtain ⟨_, ⟨fG, iz, fH, rfl, aK⟩, dX⟩ := bN.elem k2 bk bd
     have dY := aK.len
     subst dY
     have gt := aK.max
     refine .lh 11 0 dX (bN.nS (pos_of bd) (all_cons (.tail _ (.tail _ (.tail _ (.head _)))) (all_cons (.tail _ (.tail _ (.head _))) (all_cons (.tail _ (.head _)) all_nil)))) <| .go 2 <| .ns 0 33 [] fun iA bt => ?_
     replace ⟨h1, h4, J, O, E, Z, ab, ac, aK, C, V, af⟩ := (se [ae, r_k_1, r_k_0, r_k, aa, W] bt).g12 h1 h4 J O E Z ab ac aK C V af
     replace br := (se [ae, r_k_1, r_k_0, r_k, aa, W] bt).g1 br
     clear bt
     intro aV fI ak b7 dZ d0
     have d3 := nb_new ak J.lt
     have d4 := nb_new ak O.lt
     have d5 := nb_new ak E.lt
     have d6 := nb_new ak Z.lt
     have d7 := nb_new ak ab.lt
     have d8 := nb_new ak ac.lt
     have d9 := gb_new ak C.size
     have gu := C.cn ak
     have gv := V.cn ak
     have gw := af.cn ak
     have ea := br.cn ak
     replace ⟨h1, h4, J, O, E, Z, ab, ac, aK, C, V, af⟩ := (sn [ae, r_k_1, r_k_0, r_k, aa, W] b7 ak).g12 h1 h4 J O E Z ab ac aK C V af
     clear b7 d0 ak
     have bu : Own (α := Row) fI aV 33 (nin (ge w.heap.size) [aV, ae, r_k_1, r_k_0, r_k, aa, W]) 0 0 [] := Own.nil' dZ
     refine .go 12 <| GE.append (T := 41) (ty := 41) (args := [vS aV 0 0, .slice fG bk.length fH]) (by kernel_rfl) fun iB bv => ?_
     replace ⟨h1, h4, J, O, E, Z, ab, ac, aK, bu, C, V⟩ := (se [aV, ae, r_k_1, r_k_0, r_k, aa, W] bv).g12 h1 h4 J O E Z ab ac aK bu C V
     replace af := (se [aV, ae, r_k_1, r_k_0, r_k, aa, W] bv).g1 af
     clear bv
     obtain ⟨aW, fJ, iC, b8, am, al, bw, eb⟩ := Own.appendF (P := Tryz.prog) (T := 41) (ty := 41) flat_row bu (by kernel_rfl) aK (fun b h e => h.2 (e ▸ (.head _))) (by have q1 := p0.2.1; have q2 := p0.2.2.2; first | omega | (have q3 := p0.2.2.1 _ (by assumption); have q4 := q3.1; have q5 := q3.2.1; first | omega | (have q6 := q3.2.2 _ (by assumption); omega)))
     refine ⟨_, _, b8, Chg.toS bw (Cov.toS ea), ?_⟩
     clear eb
     have gx := nb_or al d3 J.lt
     have gy := nb_or al d4 O.lt
     have gz := nb_or al d5 E.lt
     have gA := nb_or al d6 Z.lt
     have gC := nb_or al d7 ab.lt
     have gD := nb_or al d8 ac.lt
     have ec := gb_or al d9 C.size
     replace ⟨h1, h4, J, O, E, Z, ab, ac, C, V, af⟩ := (sa [aV, ae, r_k_1, r_k_0, r_k, aa, W] bw al).g11 h1 h4 J O E Z ab ac C V af
     clear bw
     replace am := am.rn aV
     clear al
     have gE := am.len; have gF := am.max
     refine .go 13 <| .ns 1 41 [vS aW (0 + bk.length) fJ] fun iD b9 => ?_
     replace ⟨h1, h4, J, O, E, Z, ab, ac, am, C, V, af⟩ := (se [aW, ae, r_k_1, r_k_0, r_k, aa, W] b9).g12 h1 h4 J O E Z ab ac am C V af
     clear b9
     intro cS iE aD cd bz ed
     have ee := nb_new aD J.lt
     have ef := nb_new aD O.lt
     have eg := nb_new aD E.lt
     have eh := nb_new aD Z.lt
     have ce := nb_new aD ab.lt
     have ei := nb_new aD ac.lt
     have ej := gb_new aD C.size
     replace ⟨h1, h4, J, O, E, Z, ab, ac, am, C, V, af⟩ := (se [aW, ae, r_k_1, r_k_0, r_k, aa, W] cd).g12 h1 h4 J O E Z ab ac am C V af
     clear cd ed aD
     refine .d fun fK bA => ?_
     replace ⟨h1, h4, J, O, E, Z, ab, ac, am, bz, C, V⟩ := (se [aW, ae, r_k_1, r_k_0, r_k, aa, W] bA).g12 h1 h4 J O E Z ab ac am bz C V
     replace af := (se [aW, ae, r_k_1, r_k_0, r_k, aa, W] bA).g1 af
     clear bA
     replace h1 := h1.outof
     replace h4 := h4.outof
     have fL := am.sl ec
     replace ⟨h1, h4, E, Z, ab⟩ := (sd fK [aW, ae, r_k_1, r_k_0, r_k, aa, W] aW).g5 h1 h4 E Z ab
     have bP : nin (ge w.heap.size) [ae, r_k_1, r_k_0, r_k, aa, W] cS ∧ cS ≠ r_k_1 := hap_mk ej (all_cons ei (all_cons ce (all_cons eh (all_cons eg (all_cons ef (all_cons ee all_nil)))))) ce
     refine RG.append1 (T := 66) (ty := 66) (y := ([] ++ bk)) ab bz (by kernel_rfl) (by kernel_rfl) ⟨_, _, _, rfl, fL.oi⟩ bP (by have q1 := p0.2.1; have q2 := p0.2.2.2; first | omega | (have q3 := p0.2.2.1 _ (by assumption); have q4 := q3.1; have q5 := q3.2.1; first | omega | (have q6 := q3.2.2 _ (by assumption); omega))) fun cg cT iF aH aL ci => ?_
     have ek := nb_or aL dE Z.lt
     have gG := nb_or aL b0 ac.lt
     have em := orb_or aL aw af.size
     replace ⟨h1, h4, J, O, E, Z, ac, C, V, af⟩ := (sa [ae, r_k_1, r_k_0, r_k, aa, W] ci aL).g10 h1 h4 J O E Z ac C V af
     clear ci
     replace aH := aH.rn r_k_1
     clear aL
     have gH := aH.len; have gI := aH.max
     refine .r 1 <| .ss 1 (vS cg (n_k_1 + 1) cT) ac fun iG cj en eo => ?_
     replace ⟨h1, h4, J, O, E, Z, aH, C, V, af⟩ := (so [ae, cg, r_k_0, r_k, aa, W] cj).g10 h1 h4 J O E Z aH C V af
     clear cj eo
     exact .d <| .ib 3 <| .g <| .r 1 <| .it ((k2 : Int) + 1) <| .r 1 <| .d <| bO (k2 + 1, bj, r_k_0, n_k_0, c_k_0, (aY ++ [([] ++ bk)]), cg, n_k_1 + 1, cT) _ _ ⟨by kernel_rfl, by kernel_rfl, by kernel_rfl, by kernel_rfl, by kernel_rfl, by kernel_rfl, trivial⟩ ⟨af, Z, aG, aH, em, ek, en, (by omega), (by assumption), (by simp; omega), (by exact appStep (by assumption) (by assumption))⟩ (by first | omega | (simp only []; omega))
   refine .d <| .cf <| .x 2 rfl <| .g <| .r 1 <| .ln ac <| .ns 1 68 [vS r_k_0 n_k_0 c_k_0, vS r_k_1 n_k_1 c_k_1] fun cU cV aP ck ep es => ?_
   have et := nb_new aP J.lt
   have ew := nb_new aP O.lt
   have cm := nb_new aP E.lt
   have ex := nb_new aP ac.lt
   have ey := gb_new aP C.size
   replace ⟨h1, h4, J, O, E, Z, ab, C, V⟩ := (se [ae, r_k_1, r_k_0, r_k, aa, W] ck).g9 h1 h4 J O E Z ab C V
   clear ck es aP
   have co := Z.sl dH
   replace ⟨h1, h4, E, ab⟩ := (sd cV [ae, r_k_1, r_k_0, r_k, aa, W] r_k_0).g4 h1 h4 E ab
   have fM := ab.sl dJ
   replace ⟨h1, h4, E, co⟩ := (sd cV [ae, r_k_1, r_k, aa, W] r_k_1).g4 h1 h4 E co
   have bQ : nin (ge w.heap.size) [ae, r_k, aa, W] cU ∧ cU ≠ r_k := hap_mk ey (all_cons ex (all_cons cm (all_cons ew (all_cons et all_nil)))) cm
   refine RG.append1 (T := 27) (ty := 27) (y := (⟨bj, aY⟩ : Prt)) E ep (by kernel_rfl) (by kernel_rfl) ⟨_, _, _, _, _, _, rfl, co.oi, fM.oi⟩ bQ (by have q1 := p0.2.1; have q2 := p0.2.2.2; first | omega | (have q3 := p0.2.2.1 _ (by assumption); have q4 := q3.1; have q5 := q3.2.1; first | omega | (have q6 := q3.2.2 _ (by assumption); omega))) fun cp fN cW aI bg cq => ?_
   have ez := orb_or bg aT V.size
   replace ⟨h1, h4, J, O, C, V⟩ := (sa [ae, r_k, aa, W] cq bg).g6 h1 h4 J O C V
   clear cq
   replace aI := aI.rn r_k
   clear bg
   have gJ := aI.len; have gK := aI.max
   refine .r 1 <| .d <| .ib 1 <| .g <| .r 1 <| .it ((k1 : Int) + 1) <| .r 1 <| .d ?_
   have eA : Mv [ae, cp, aa, W] [cp, aa, W] cW cW := Mv.less (all_cons (.tail _ (.head _)) (all_cons (.tail _ (.tail _ (.head _))) (all_cons (.tail _ (.tail _ (.tail _ (.head _)))) all_nil)))
   replace ⟨h1, h4, aI⟩ := (sp eA (Chg.refl nil _)).g3 h1 h4 aI
   exact bT ((k ++ [(⟨bj, aY⟩ : Prt)]), cp, n_k + 1, fN, k1 + 1) _ _ ⟨by kernel_rfl, by kernel_rfl, by kernel_rfl, by kernel_rfl, trivial⟩ ⟨V, aI, ez, (by omega), (by simp; omega), (by exact copyStep (by assumption) (by assumption) (by assumption) (by have q1 := drop_end (xs := aB.blocks) (k := k2) (by omega); have q2 : aY ++ aB.blocks.drop k2 = aB.blocks := (by assumption); rw [q1, List.append_nil] at q2; exact q2))⟩ (by first | omega | (simp only []; omega))
 refine .d <| .cf <| .x 0 rfl <| .s ?_
 replace h1 := h1.into
 replace h4 := h4.into
 have cr : Gb (W + 1) aX.heap.size := J.lt
 refine .gd (mtb [r_k] aX.heap.size) 9 fun fO bB => ?_
 replace ⟨h1, h4, J, O, E, C⟩ := (se [r_k, aa, W] bB).g6 h1 h4 J O E C
 have ag : Chg (mtb [r_k] aX.heap.size) aX fO := Chg.stepN (Chg.refl (mtb [r_k] aX.heap.size) aX) bB
 clear bB
 refine .r [0, 1] <| .lb 2 J (nS_of (all_cons (Nb.symm bU) all_nil) cr) <| .r [4, 6] <| .lb 7 J (nS_of (all_cons (Nb.symm bU) all_nil) cr) <| .tw 3 5 ?_ ?_
 · refine .cl (fun cu bC => c_spec_l11Of s.idx.names (h1.ta.ext bC) p0.1.1 p0.1.2 (w := cu) (F := all)) ?_
   intro cu bC
   replace ⟨h1, h4, J, O, E, C, ag⟩ := (se [r_k, aa, W] bC).g7 h1 h4 J O E C ag
   rintro iH iI ⟨⟨_, rfl, ⟨cX, iJ, cY, cZ, iK, c7, rfl, ah, ai⟩⟩, bD⟩
   have bE := al3 E.lt O.lt J.lt
   have cv : Gb w.heap.size cu.heap.size := C.size
   have hkeep_ := bD
   replace ⟨h1, h4, J, O, E, C, ag⟩ := (se [r_k, aa, W] bD).g7 h1 h4 J O E C ag
   clear bD
   refine ⟨Ext.chg hkeep_, ?_⟩
   have ah := ah.fr bE cv
   have gL := ah.max
   have ai := ai.fr bE cv
   have gM := ai.max
   clear bE
   have eB := ah.len
   subst eB
   have eC := ai.len
   subst eC
   refine .go 5 <| .ns 0 62 [] fun iL cw => ?_
   replace ⟨h1, h4, J, O, E, ah, ai, C, ag⟩ := (se [r_k, aa, W] cw).g9 h1 h4 J O E ah ai C ag
   clear cw
   intro bc fP aE cx eD eE
   have gN := nb_new aE J.lt
   have eF := nb_new aE O.lt
   have eG := nb_new aE E.lt
   have eH := gb_new aE C.size
   have gO := C.cn aE
   have eI := ag.cn aE
   replace ⟨h1, h4, J, O, E, ah, ai, C, ag⟩ := (sn [r_k, aa, W] cx aE).g9 h1 h4 J O E ah ai C ag
   clear cx eE aE
   have bF : Own (α := Smp) fP bc 62 (nin (ge w.heap.size) [bc, r_k, aa, W]) 0 0 [] := Own.nil' eD
   refine .go 8 <| GE.append (T := 28) (ty := 28) (args := [vS bc 0 0, .slice a4 s.mem.length c4]) (by kernel_rfl) fun iM cy => ?_
   replace ⟨h1, h4, J, O, E, ah, ai, bF, C, ag⟩ := (se [bc, r_k, aa, W] cy).g10 h1 h4 J O E ah ai bF C ag
   clear cy
   obtain ⟨bm, c8, iN, cz, ao, aM, bG, eJ⟩ := Own.appendF (P := Tryz.prog) (T := 28) (ty := 28) flat_smp bF (by kernel_rfl) h4 (fun b h e => h.2 (e ▸ (.head _))) (by have q1 := p0.2.1; have q2 := p0.2.2.2; first | omega | (have q3 := p0.2.2.1 _ (by assumption); have q4 := q3.1; have q5 := q3.2.1; first | omega | (have q6 := q3.2.2 _ (by assumption); omega)))
   refine ⟨_, _, cz, Chg.toS bG (Cov.toS eI), ?_⟩
   clear eJ
   have gP := nb_or aM eF O.lt
   have gQ := nb_or aM eG E.lt
   have eK := gb_or aM eH C.size
   replace ⟨h1, h4, J, O, E, ah, ai, C, ag⟩ := (sa [bc, r_k, aa, W] bG aM).g9 h1 h4 J O E ah ai C ag
   clear bG
   replace ao := ao.rn bc
   clear aM
   have gR := ao.len; have gS := ao.max
   refine .d fun iO cA => ?_
   replace ⟨h1, h4, J, O, E, ah, ai, ao, C, ag⟩ := (se [bm, r_k, aa, W] cA).g10 h1 h4 J O E ah ai ao C ag
   clear cA
   replace h1 := h1.outof
   replace h4 := h4.outof
   refine .r 1 <| .sc [.slice cX (((idxOf s.idx.names).names).length) cY, .slice cZ (((idxOf s.idx.names).posts).length) c7, vS r_k n_k c_k, vS bm (0 + s.mem.length) c8] O fun fQ cB eL eM => ?_
   replace ⟨h1, h4, J, E, ah, ai, ao, C⟩ := (so [bm, r_k, aa, W] cB).g8 h1 h4 J E ah ai ao C
   clear cB eM
   refine .d ?_
   have fR := E.sl cO
   replace ⟨h1, h4, ah, ai, ao⟩ := (sd fQ [bm, r_k, aa, W] r_k).g5 h1 h4 ah ai ao
   exact .rb Tryz.func18 Tryz.results18 eL ⟨⟨cX, ((idxOf s.idx.names).names).length, cY, cZ, ((idxOf s.idx.names).posts).length, c7, (some ⟨r_k, 0, none⟩), n_k, c_k, bm, (0 + s.mem.length), c8, rfl, ((RepS.lessM ah (all_cons (.head _) all_nil)).eqx (by rfl)), ((RepS.lessM ai (all_cons (.head _) all_nil)).eqx (by rfl)), ((RepS.lessM fR (all_cons (.head _) all_nil)).eqx (by have q1 := drop_end (xs := s.parts) (k := k1) (by omega); have q2 : k ++ s.parts.drop k1 = s.parts := (by assumption); rw [q1, List.append_nil] at q2; exact q2)), ((Own.lessM ao (all_cons (.head _) all_nil)).eqx (by rfl)), eK⟩, C⟩
 refine .ns 0 62 [] fun iP cC => ?_
 replace ⟨h1, h4, J, O, E, C, ag⟩ := (se [r_k, aa, W] cC).g7 h1 h4 J O E C ag
 clear cC
 intro aS fS aJ cD eN eO
 have eP := nb_new aJ O.lt
 have eQ := nb_new aJ E.lt
 have eR := gb_new aJ C.size
 have gT := C.cn aJ
 have eS := ag.cn aJ
 replace ⟨h1, h4, J, O, E, C⟩ := (sn [r_k, aa, W] cD aJ).g6 h1 h4 J O E C
 clear cD eO aJ
 have aF : Own (α := Smp) fS aS 62 (nin (ge w.heap.size) [aS, r_k, aa, W]) 0 0 [] := Own.nil' eN
 refine .go 3 <| .cl (fun cE bH => c_spec_l11Of s.idx.names (h1.ta.ext bH) p0.1.1 p0.1.2 (w := cE) (F := all)) ?_
 intro cE bH
 replace ⟨h4, J, O, E, aF, C⟩ := (se [aS, r_k, aa, W] bH).g6 h4 J O E aF C
 rintro iQ iR ⟨⟨_, rfl, ⟨c9, iS, da, db, iT, dd, rfl, aq, ar⟩⟩, bI⟩
 have bJ := al4 aF.lt E.lt O.lt J.lt
 have cF : Gb w.heap.size cE.heap.size := C.size
 have hkeep_ := bI
 replace ⟨h4, O, E, aF, C⟩ := (se [aS, r_k, aa, W] bI).g5 h4 O E aF C
 clear bI
 refine ⟨Ext.chg hkeep_, ?_⟩
 have aq := aq.fr bJ cF
 have gU := aq.max
 have ar := ar.fr bJ cF
 have gV := ar.max
 clear bJ
 have eT := aq.len
 subst eT
 have eU := ar.len
 subst eU
 refine .go 8 <| GE.append (T := 28) (ty := 28) (args := [vS aS 0 0, .slice a4 s.mem.length c4]) (by kernel_rfl) fun iU cG => ?_
 replace ⟨h4, O, E, aF, aq, ar, C⟩ := (se [aS, r_k, aa, W] cG).g7 h4 O E aF aq ar C
 clear cG
 obtain ⟨bn, de, iV, cH, au, aN, bK, eV⟩ := Own.appendF (P := Tryz.prog) (T := 28) (ty := 28) flat_smp aF (by kernel_rfl) h4 (fun b h e => h.2 (e ▸ (.head _))) (by have q1 := p0.2.1; have q2 := p0.2.2.2; first | omega | (have q3 := p0.2.2.1 _ (by assumption); have q4 := q3.1; have q5 := q3.2.1; first | omega | (have q6 := q3.2.2 _ (by assumption); omega)))
 refine ⟨_, _, cH, Chg.toS bK (Cov.toS eS), ?_⟩
 clear eV
 have gW := nb_or aN eP O.lt
 have gX := nb_or aN eQ E.lt
 have eW := gb_or aN eR C.size
 replace ⟨O, E, aq, ar, C⟩ := (sa [aS, r_k, aa, W] bK aN).g5 O E aq ar C
 clear bK
 replace au := au.rn aS
 clear aN
 have gY := au.len; have gZ := au.max
 refine .d fun iW cI => ?_
 replace ⟨O, E, au, aq, ar, C⟩ := (se [bn, r_k, aa, W] cI).g6 O E au aq ar C
 clear cI
 refine .r 1 <| .sc [.slice c9 (((idxOf s.idx.names).names).length) da, .slice db (((idxOf s.idx.names).posts).length) dd, vS r_k n_k c_k, vS bn (0 + s.mem.length) de] O fun fT cJ eX eY => ?_
 replace ⟨E, au, aq, ar, C⟩ := (so [bn, r_k, aa, W] cJ).g5 E au aq ar C
 clear cJ eY
 refine .d ?_
 have fU := E.sl cO
 replace ⟨au, aq, ar⟩ := (sd fT [bn, r_k, aa, W] r_k).g3 au aq ar
 exact .rb Tryz.func18 Tryz.results18 eX ⟨⟨c9, ((idxOf s.idx.names).names).length, da, db, ((idxOf s.idx.names).posts).length, dd, (some ⟨r_k, 0, none⟩), n_k, c_k, bn, (0 + s.mem.length), de, rfl, ((RepS.lessM aq (all_cons (.head _) all_nil)).eqx (by rfl)), ((RepS.lessM ar (all_cons (.head _) all_nil)).eqx (by rfl)), ((RepS.lessM fU (all_cons (.head _) all_nil)).eqx (by have q1 := drop_end (xs := s.parts) (k := k1) (by omega); have q2 : k ++ s.parts.drop k1 = s.parts := (by assumption); rw [q1, List.append_nil] at q2; exact q2)), ((Own.lessM au (all_cons (.head _) all_nil)).eqx (by rfl)), eW⟩, C⟩
end Go.Proofs.YtndljnhfkdhggaaGreat