/- walks; squeezed -/
import Derived.Test.YtfnpaglcnmcnbaaGreatFluzMod5
set_option linter.unusedVariables false
set_option linter.unusedSimpArgs false
namespace Go.Proofs.YtfnpaglcnmcnbaaGreat
set_option maxRecDepth 100000
set_option maxHeartbeats 4000000
theorem c_spec_l11Of (names : List (List Tag)) {w : World} {F : Nat → Prop} {a1 : Option Addr} {n1 c1 : Nat} (h1 : RepS w F a1 n1 c1 names) (p0 : names.length ≤ 1000) (p1 : ∀ n ∈ names, NmSz n) : Calls Tryz.prog 106 [.slice a1 n1 c1].toArray w (rets fun rv w' => VS (ge w.heap.size) w' (idxOf names : Idx) rv ∧ Ext w w') := by
 refine goT Tryz.func106 ?_
 obtain ⟨rfl, bY, h1⟩ := h1.tp
 refine .s <| .g <| .np 26 [.slice none 0 0, .slice none 0 0] fun V cE ax ay E bm => ?_
 have bZ : Cov nil w V := cov_new ax (Nat.le_refl _)
 replace h1 := (sn [] ay ax).g1 h1
 have C := ay
 clear ay bm ax
 refine .d <| .s <| .g <| .ns 0 130 [] fun am az ao aL bn bo => ?_
 have bq := nb_new ao E.lt
 have br := gb_new ao C.size
 have bt := C.cn ao
 replace ⟨h1, E, C⟩ := (sn [V] aL ao).g3 h1 E C
 clear aL bo ao
 have bu : Own (α := Pst) az am 130 (nin (ge w.heap.size) [am, V]) 0 0 [] := Own.nil' bn
 refine .r 1 <| .d <| .s <| .s <| .g <| .r 1 <| .d <| .b 0 <| T.loop (X := (List Pst) × Nat × Nat × Nat × Nat) (([] : List Pst), am, 0, 0, 97) (fun (posts, r_posts, n_posts, c_posts, k) => [(0, .slice a1 names.length c1), (2, .pointer (some ⟨V, 0, none⟩)), (3, vS r_posts n_posts c_posts), (4, .int .i32 (k : Int))]) (fun (posts, r_posts, n_posts, c_posts, k) ai => Chg (ins [am]) az ai ∧ Own ai r_posts 130 (nin (ge w.heap.size) [r_posts, V]) n_posts c_posts posts ∧ OrB r_posts am az.heap.size ∧ (97 ≤ k) ∧ (k ≤ 101) ∧ (posts.length ≤ 11 * (k - 97)) ∧ (posts ++ postsK names (101 - k) k = postsOf names)) (fun (posts, r_posts, n_posts, c_posts, k) => 101 - k) (by kernel_rfl) ⟨by kernel_rfl, by kernel_rfl, by kernel_rfl, by kernel_rfl, trivial⟩ ⟨Chg.refl _ _, bu, orb_refl, (by first | omega | simp [postsOf]), (by first | omega | simp [postsOf]), (by first | omega | simp [postsOf]), (by first | omega | simp [postsOf])⟩ ?_
 rintro ⟨posts, r_posts, n_posts, c_posts, k⟩ cF ai ⟨J, aa, aj, b0, b6, b7, b8⟩ aA
 have bv := nb_or' aj bq E.lt
 have bw := gb_or' aj br C.size
 have bz := cov_or' aj bt C.size
 have bA : Cov (ins [am]) az am := ⟨.inl (.head _)⟩
 have bB := cov_or' aj bA (Nat.le_refl _)
 have aM : Mv [am, V] [r_posts, V] az ai := Mv.inl J (all_cons (.head _) all_nil) (all_cons (orb_mem aj (.head _)) (all_cons (.inl (.tail _ (.head _))) all_nil))
 replace ⟨h1, E, C⟩ := (sp aM J).g3 h1 E C
 clear aM
 have b9 := aa.len; have cd := aa.max
 refine .s <| .s <| .g <| .r 1 <| .bp ((k : Int) ≤ 100) (fun bC => ?_) (fun bC => ?_)
 · refine .d <| .ct <| .sk <| .s <| .b 1 <| .s <| .g <| .r 1 <| .d <| .b 2 <| T.loop (X := (List Pst) × Nat × Nat × Nat × Nat) ((posts : List Pst), r_posts, n_posts, c_posts, 112) (fun (Z, r_posts1, n_posts1, c_posts1, v) => [(0, .slice a1 names.length c1), (2, .pointer (some ⟨V, 0, none⟩)), (3, vS r_posts1 n_posts1 c_posts1), (4, .int .i32 (k : Int)), (5, .int .i32 (v : Int))]) (fun (Z, r_posts1, n_posts1, c_posts1, v) aK => Chg (ins [r_posts]) ai aK ∧ Own aK r_posts1 130 (nin (ge w.heap.size) [r_posts1, V]) n_posts1 c_posts1 Z ∧ OrB r_posts1 r_posts ai.heap.size ∧ (112 ≤ v) ∧ (v ≤ 123) ∧ (97 ≤ k) ∧ (k ≤ 100) ∧ (Z.length ≤ 11 * (k - 97) + (v - 112)) ∧ (Z ++ postsV names k (123 - v) v ++ postsK names (101 - (k + 1)) (k + 1) = postsOf names)) (fun (Z, r_posts1, n_posts1, c_posts1, v) => 123 - v) (by kernel_rfl) ⟨by kernel_rfl, by kernel_rfl, by kernel_rfl, by kernel_rfl, by kernel_rfl, trivial⟩ ⟨Chg.refl _ _, aa, orb_refl, (by first | omega | grind [postsK_at]), (by first | omega | grind [postsK_at]), (by first | omega | grind [postsK_at]), (by first | omega | grind [postsK_at]), (by first | omega | grind [postsK_at]), (by first | omega | grind [postsK_at])⟩ ?_
   rintro ⟨Z, r_posts1, n_posts1, c_posts1, v⟩ cG aK ⟨W, O, ae, ce, cg, ci, cj, ck, cm⟩ aq
   have co := nb_or' ae bv E.lt
   have cp := cov_or' ae bz C.size
   have cq := cov_or' ae bB J.size
   have bD := orb_or' ae aj J.size
   have bE : Cov (ins [r_posts]) ai r_posts := ⟨.inl (.head _)⟩
   have cr := cov_or' ae bE (Nat.le_refl _)
   have aN : Mv [r_posts, V] [r_posts1, V] ai aK := Mv.inl W (all_cons (.head _) all_nil) (all_cons (orb_mem ae (.head _)) (all_cons (.inl (.tail _ (.head _))) all_nil))
   replace ⟨h1, E, C, J⟩ := (sp aN W).g4 h1 E C J
   clear aN
   have cu := O.len; have cv := O.max
   refine .s <| .s <| .g <| .r 1 <| .bp ((v : Int) ≤ 122) (fun bF => ?_) (fun bF => .d <| .cf <| .x 2 rfl <| .ib 1 <| .g <| .r 1 <| RG.int32 ((k : Int) + 1) (by kernel_rfl) (by omega) <| .r 1 <| .d <| aA (Z, r_posts1, n_posts1, c_posts1, k + 1) _ _ ⟨by kernel_rfl, by kernel_rfl, by kernel_rfl, by kernel_rfl, trivial⟩ ⟨J, O, bD, (by first | omega | grind [postsV_end]), (by first | omega | grind [postsV_end]), (by first | omega | grind [postsV_end]), (by first | omega | grind [postsV_end])⟩ (by first | omega | (simp only []; omega)))
   refine .d <| .ct <| .sk <| .s <| .b 3 <| .s <| .g <| .r 1 <| RG.eqv (v := .string (bs [UInt8.ofNat k])) (by kernel_rfl) (rune1 k (by omega)) <| .r 1 <| RG.eqv (v := .string (bs [UInt8.ofNat v])) (by kernel_rfl) (rune1 v (by omega)) <| .r 1 <| .np 112 [.string (bs []), .string (bs [])] fun ar cH af aO bG bH => ?_
   have cw := nb_new af E.lt
   have cx := nb_new af O.lt
   have cy := C.cn af
   have cz := J.cn af
   have cA := W.cn af
   replace ⟨h1, E, O, C, J, W⟩ := (sn [r_posts1, V] aO af).g6 h1 E O C J W
   clear aO bH af
   refine .sc [.string (bs [UInt8.ofNat k]), .string (bs [UInt8.ofNat v])] bG fun bI aP ak bJ => ?_
   replace ⟨h1, E, O, C, J, W⟩ := (so [ar, r_posts1, V] aP).g6 h1 E O C J W
   clear aP bJ
   refine .d <| .s <| .g <| .r 1 <| .ln ak <| .cl (c_spec_l11Ids names (⟨[UInt8.ofNat k], [UInt8.ofNat v]⟩ : Tag) h1.ta (by omega) (w := bI) (F := all)) ?_
   rintro cI bK ⟨⟨bP, bQ, rfl, av⟩, aQ⟩
   have aB := al3 ak.lt O.lt E.lt
   have aU : Gb w.heap.size bI.heap.size := C.size
   replace ⟨h1, E, O, ak, C, J, W⟩ := (se [ar, r_posts1, V] aQ).g7 h1 E O ak C J W
   clear aQ
   have av := av.fr aB aU
   have bR := av.max
   clear aB
   refine .r 1 <| .d <| .s <| .g <| .r 2 <| .bp ((((ids names (⟨[UInt8.ofNat k], [UInt8.ofNat v]⟩ : Tag)).length) : Int) > 0) (fun aV => ?_) (fun aV => ?_)
   · refine .d <| .ct <| .g <| .r 1 <| .ln ak <| .r 2 <| .ns 1 130 [.string (bs [UInt8.ofNat k]), .string (bs [UInt8.ofNat v]), .slice bP ((ids names (⟨[UInt8.ofNat k], [UInt8.ofNat v]⟩ : Tag)).length) bQ] fun aR cB ag aC aW aX => ?_
     have aY := nb_new ag E.lt
     have aD := nb_new ag O.lt
     have aZ := nb_new ag ak.lt
     have ba := gb_new ag C.size
     replace ⟨h1, E, O, av, C, J, W⟩ := (se [ar, r_posts1, V] aC).g7 h1 E O av C J W
     clear aC aX ag
     have aw : nin (ge w.heap.size) [ar, r_posts1, V] aR ∧ aR ≠ r_posts1 := hap_mk ba (all_cons aZ (all_cons aD (all_cons aY all_nil))) aD
     refine RG.append1 (T := 24) (ty := 24) (y := (⟨(⟨[UInt8.ofNat k], [UInt8.ofNat v]⟩ : Tag), ids names (⟨[UInt8.ofNat k], [UInt8.ofNat v]⟩ : Tag)⟩ : Pst)) O aW (by kernel_rfl) (by kernel_rfl) ⟨_, _, _, rfl, av.oi⟩ aw (by omega) fun aE bL aS ab al aF => ?_
     have bc := orb_or al ae W.size
     replace ⟨h1, E, C, J, W⟩ := (sa [ar, r_posts1, V] aF al).g5 h1 E C J W
     clear aF
     replace ab := ab.rn r_posts1
     clear al
     have bS := ab.len; have bT := ab.max
     refine .r 1 <| .d <| .ib 3 <| .g <| .r 1 <| RG.int32 ((v : Int) + 1) (by kernel_rfl) (by omega) <| .r 1 <| .d ?_
     have bd : Mv [ar, aE, V] [aE, V] aS aS := Mv.less (all_cons (.tail _ (.head _)) (all_cons (.tail _ (.tail _ (.head _))) all_nil))
     replace ⟨h1, ab⟩ := (sp bd (Chg.refl nil _)).g2 h1 ab
     exact aq ((Z ++ [(⟨(⟨[UInt8.ofNat k], [UInt8.ofNat v]⟩ : Tag), ids names (⟨[UInt8.ofNat k], [UInt8.ofNat v]⟩ : Tag)⟩ : Pst)]), aE, n_posts1 + 1, bL, v + 1) _ _ ⟨by kernel_rfl, by kernel_rfl, by kernel_rfl, by kernel_rfl, by kernel_rfl, trivial⟩ ⟨W, ab, bc, (by first | omega | grind [postsV_at, post1, tagAt]), (by first | omega | grind [postsV_at, post1, tagAt]), (by first | omega | grind [postsV_at, post1, tagAt]), (by first | omega | grind [postsV_at, post1, tagAt]), (by first | omega | grind [postsV_at, post1, tagAt]), (by first | omega | grind [postsV_at, post1, tagAt])⟩ (by first | omega | (simp only []; omega))
   refine .d <| .cf <| .sk <| .ib 3 <| .g <| .r 1 <| RG.int32 ((v : Int) + 1) (by kernel_rfl) (by omega) <| .r 1 <| .d ?_
   have bg : Mv [ar, r_posts1, V] [r_posts1, V] bK bK := Mv.less (all_cons (.tail _ (.head _)) (all_cons (.tail _ (.tail _ (.head _))) all_nil))
   replace ⟨h1, O⟩ := (sp bg (Chg.refl nil _)).g2 h1 O
   exact aq (Z, r_posts1, n_posts1, c_posts1, v + 1) _ _ ⟨by kernel_rfl, by kernel_rfl, by kernel_rfl, by kernel_rfl, by kernel_rfl, trivial⟩ ⟨W, O, ae, (by first | omega | grind [postsV_at, post1, tagAt]), (by first | omega | grind [postsV_at, post1, tagAt]), (by first | omega | grind [postsV_at, post1, tagAt]), (by first | omega | grind [postsV_at, post1, tagAt]), (by first | omega | grind [postsV_at, post1, tagAt]), (by first | omega | grind [postsV_at, post1, tagAt])⟩ (by first | omega | (simp only []; omega))
 refine .d <| .cf <| .x 0 rfl <| .s <| .g <| .r 1 <| .cl (c_spec_l11Names names h1.ta (by grind [NmSz]) (by grind [NmSz]) (w := ai) (F := all)) ?_
 rintro cC cD ⟨⟨au, bM, bN, rfl, ac, ah⟩, aG⟩
 have aH := al2 aa.lt E.lt
 have bh : Gb w.heap.size ai.heap.size := C.size
 have bU := nb_ge ah E.lt
 have bV := nb_ge ah aa.lt
 have bi := gb_ge ah C.size
 replace ⟨E, aa, C⟩ := (sz [r_posts, V] aG ah).g3 E aa C
 clear aG ah
 replace ac := Own.take (s0 := w.heap.size) (M := [r_posts, V]) ac aH bh
 have bW := ac.len; have bX := ac.max
 clear aH
 refine .r 2 <| .sc [vS au bM bN, vS r_posts n_posts c_posts] E fun aT aI bj bk => ?_
 replace ⟨aa, ac, C⟩ := (so [au, r_posts, V] aI).g3 aa ac C
 clear aI bk
 refine .d ?_
 have aJ := ac.sl bi
 replace aa := (sd aT [au, r_posts, V] au).g1 aa
 have bO := aa.sl bw
 replace aJ := (sd aT [r_posts, V] r_posts).g1 aJ
 exact .rb Tryz.func106 Tryz.results106 bj ⟨(VS.of (y := (⟨names, posts⟩ : Idx)) ⟨_, rfl, ⟨_, _, _, _, _, _, rfl, aJ.w1, bO.w1⟩⟩ (by grind [idxOf, postsK_end])), C⟩
theorem c_spec_l13Mem (s : Sto) {w : World} {F : Nat → Prop} {a1 : Option Addr} {n1 c1 : Nat} (h1 : RepS w F a1 n1 c1 s.idx.names) {a2 : Option Addr} {n2 c2 : Nat} (h2 : RepS w F a2 n2 c2 s.idx.posts) {a3 : Option Addr} {n3 c3 : Nat} (h3 : RepS w F a3 n3 c3 s.parts) {a4 : Option Addr} {n4 c4 : Nat} (h4 : RepS w F a4 n4 c4 s.mem) (p0 : s.mem.length ≤ 1000) (p1 : ∀ m ∈ s.mem, 1 ≤ m.id ∧ m.id ≤ 6) : Calls Tryz.prog 130 [.agg #[.slice a1 n1 c1, .slice a2 n2 c2, .slice a3 n3 c3, .slice a4 n4 c4]].toArray w (rets fun rv w' => VS (ge w.heap.size) w' (memPart s.mem : Prt) rv ∧ Ext w w') := by
 refine goT Tryz.func130 ?_
 obtain ⟨rfl, bI, h1⟩ := h1.tp
 obtain ⟨rfl, bJ, h2⟩ := h2.tp
 obtain ⟨rfl, bK, h3⟩ := h3.tp
 obtain ⟨rfl, bL, h4⟩ := h4.tp
 refine .s <| .g <| .np 30 [.slice a1 s.idx.names.length c1, .slice a2 s.idx.posts.length c2, .slice a3 s.parts.length c3, .slice a4 s.mem.length c4] fun aa cg aF ao E aZ => ?_
 replace h4 := (sn [] ao aF).g1 h4
 have C := ao
 clear ao aZ aF
 refine .np 75 [.slice none 0 0, .slice none 0 0] fun ab ci aq aG J ba => ?_
 have bM := C.cn aq
 replace ⟨h4, E, C⟩ := (sn [aa] aG aq).g3 h4 E C
 clear aG ba aq
 refine .d <| .s <| .g <| .ns 6 42 [.slice none 0 0, .slice none 0 0, .slice none 0 0, .slice none 0 0, .slice none 0 0, .slice none 0 0] fun Z aE ag aH bc bd => ?_
 have bN := nb_new ag E.lt
 have bO := nb_new ag J.lt
 have bP := C.cn ag
 replace ⟨h4, E, J, C⟩ := (sn [ab, aa] aH ag).g4 h4 E J C
 clear aH bd ag
 have bg : Own (α := List Row) aE Z 42 (nin (ge w.heap.size) [Z, ab, aa]) 6 6 [([] : List Row), ([] : List Row), ([] : List Row), ([] : List Row), ([] : List Row), ([] : List Row)] := Own.lit bc rfl (by decide) ⟨⟨_, _, _, rfl, (RepS.nil' _ _ none 0 (by decide))⟩, ⟨_, _, _, rfl, (RepS.nil' _ _ none 0 (by decide))⟩, ⟨_, _, _, rfl, (RepS.nil' _ _ none 0 (by decide))⟩, ⟨_, _, _, rfl, (RepS.nil' _ _ none 0 (by decide))⟩, ⟨_, _, _, rfl, (RepS.nil' _ _ none 0 (by decide))⟩, ⟨_, _, _, rfl, (RepS.nil' _ _ none 0 (by decide))⟩, rfl⟩
 refine .r 1 <| .d <| .s <| .s <| .g <| .r 1 <| .d <| .b 0 <| T.loop (X := Nat × (List (List Row))) (0, ([([] : List Row), ([] : List Row), ([] : List Row), ([] : List Row), ([] : List Row), ([] : List Row)] : List (List Row))) (fun (i, xs) => [(1, .pointer (some ⟨aa, 0, none⟩)), (2, .pointer (some ⟨ab, 0, none⟩)), (3, vS Z 6 6), (4, vI (i : Int))]) (fun (i, xs) al => Chg (ins [Z]) aE al ∧ Own al Z 42 (nin (ge w.heap.size) [Z, ab, aa]) 6 6 xs ∧ (i ≤ s.mem.length) ∧ (xs.length = 6) ∧ (∀ b ∈ xs, b.length ≤ i) ∧ ((s.mem.drop i).foldl memF xs = s.mem.foldl memF [[], [], [], [], [], []])) (fun (i, xs) => s.mem.length - i) (by kernel_rfl) ⟨by kernel_rfl, by kernel_rfl, by kernel_rfl, by kernel_rfl, trivial⟩ ⟨Chg.refl _ _, bg, (by simp), (by simp), (by simp), (by simp)⟩ ?_
 rintro ⟨i, xs⟩ cj al ⟨W, O, bQ, bR, bS, bT⟩ ar
 have bU : Cov (ins [Z]) aE Z := ⟨.inl (.head _)⟩
 have aI : Mv [Z, ab, aa] [Z, ab, aa] aE al := Mv.inl W (all_cons (.head _) all_nil) (all_cons (.inl (.head _)) (all_cons (.inl (.tail _ (.head _))) (all_cons (.inl (.tail _ (.tail _ (.head _)))) all_nil)))
 replace ⟨h4, E, J, C⟩ := (sp aI W).g4 h4 E J C
 clear aI
 have bV := O.len; have bW := O.max
 refine .s <| .s <| .g <| .r 2 <| .lb E <| .r 1 <| .bp ((i : Int) < (s.mem.length : Int)) (fun bh => ?_) (fun bh => ?_)
 · refine .d <| .ct <| .sk <| .s <| .b 1 <| .s <| .g <| .r 1 <| .lb E <| .r 1 ?_
   have aJ : i < s.mem.length := (by first | omega | (have := p1 _ (by assumption); omega))
   refine RG.idx i (len := s.mem.length) (i := (i : Int)) (sz := 3) (by kernel_rfl) (by first | omega | (have := p1 _ (by assumption); omega)) aJ (h4.addr (Nat.zero_lt_of_lt aJ)) <| .r 1 ?_
   obtain ⟨V, ak⟩ : ∃ y, s.mem[i]? = some y := ⟨_, List.getElem?_eq_getElem (by first | omega | (have := p1 _ (by assumption); omega))⟩
   have bX := drop_at ak; have bw := List.mem_of_getElem? ak
   obtain ⟨_, rfl, bi⟩ := h4.elem i V ak
   refine .lh 0 bi <| .r 1 <| .d <| .gd nil 15 fun bA aK => ?_
   replace ⟨h4, E, J, O, C, W⟩ := (se [Z, ab, aa] aK).g6 h4 E J O C W
   clear aK
   refine .r [0, 1] <| GA.int (i := 2) (V.id - 1) (by kernel_rfl) (by first | omega | (have := p1 _ (by assumption); omega)) <| .r [3, 4] <| GA.int (i := 5) (V.id - 1) (by kernel_rfl) (by first | omega | (have := p1 _ (by assumption); omega)) ?_
   have bj : (V.id - 1).toNat < 6 := (by first | omega | (have := p1 _ (by assumption); omega))
   refine GA.idx (i := 6) (b := Z) (o := 0) ((V.id - 1).toNat) (len := 6) (z := V.id - 1) (sz := 1) (by kernel_rfl) (by first | omega | (have := p1 _ (by assumption); omega)) bj rfl ?_
   obtain ⟨af, ah⟩ : ∃ y, xs[(V.id - 1).toNat]? = some y := ⟨_, List.getElem?_eq_getElem (by first | omega | (have := p1 _ (by assumption); omega))⟩
   have bY := drop_at ah; have bz := List.mem_of_getElem? ah
   obtain ⟨_, ⟨bB, ck, bC, rfl, au⟩, av⟩ := O.elem ((V.id - 1).toNat) af ah
   replace au := au.weak (fun _ _ h => h.1)
   have bk := au.len
   subst bk
   have bZ := au.max
   replace av : Has bA ⟨Z, 0 + ((V.id - 1).toNat) * Rep.sz (List Row), none⟩ [.slice bB af.length bC] := by rw [Nat.zero_add]; exact av
   refine .lh 7 0 av id <| .r [8] <| .lb 9 E id <| .r [10] ?_
   have aL : i < s.mem.length := (by first | omega | (have := p1 _ (by assumption); omega))
   refine GA.idx (i := 11) i (len := s.mem.length) (z := (i : Int)) (sz := 3) (by kernel_rfl) (by first | omega | (have := p1 _ (by assumption); omega)) aL (h4.addr (Nat.zero_lt_of_lt aL)) <| .r [12] ?_
   obtain ⟨_, rfl, bm⟩ := h4.elem i V ak
   refine .lg 13 1 bm id <| .go 14 <| .cl (fun aP aw => c_spec_l2Put af V.row (au.ta.ext aw) (by have aQ := ‹∀ b ∈ xs, b.length ≤ i› _ (by assumption); omega) (w := aP) (F := all)) ?_
   intro aP aw
   replace ⟨E, J, O, C, W⟩ := (se [Z, ab, aa] aw).g5 E J O C W
   rintro cm co ⟨⟨bD, bE, rfl, am⟩, ax⟩
   have aM := al3 O.lt J.lt E.lt
   have bn : Gb w.heap.size aP.heap.size := C.size
   have hkeep_ := ax
   replace ⟨E, J, O, C, W⟩ := (se [Z, ab, aa] ax).g5 E J O C W
   clear ax
   refine ⟨Ext.chg hkeep_, ?_⟩
   have am := am.fr aM bn
   have bF := am.max
   clear aM
   refine .d fun bo ay => ?_
   replace ⟨E, J, O, am, C, W⟩ := (se [Z, ab, aa] ay).g6 E J O am C W
   clear ay
   have aR : (V.id - 1).toNat < 6 := (by first | omega | (have := p1 _ (by assumption); omega))
   refine RG.idx (b := Z) (o := 0) ((V.id - 1).toNat) (len := 6) (i := V.id - 1) (sz := 1) (by kernel_rfl) (by first | omega | (have := p1 _ (by assumption); omega)) aR rfl ?_
   obtain ⟨_, ⟨aN, b0, aO, rfl, az⟩, ai⟩ := O.elem ((V.id - 1).toNat) af ah
   replace az := az.weak (fun _ _ h => h.1)
   have aS := az.len
   subst aS
   replace ai : Has bo ⟨Z, 0 + ((V.id - 1).toNat) * Rep.sz (List Row), none⟩ [.slice aN af.length aO] := by rw [Nat.zero_add]; exact ai
   refine RG.storeO (t' := 42) (i := ((V.id - 1).toNat)) (k := 0) (v := .slice bD ((sPut af V.row).length) bE) (cs := [.slice aN af.length aO]) (sPut af V.row) O ah ai (by kernel_rfl) (by kernel_rfl) (by kernel_rfl) ⟨_, _, _, rfl, am.oi⟩ fun b6 aT aA aU => ?_
   replace ⟨E, J, C, W⟩ := (s1 aA).g4 E J C W
   clear aA aU
   exact .d <| .ib 1 <| .g <| .r 1 <| RG.int ((i : Int) + 1) (by kernel_rfl) (by first | omega | (have := p1 _ (by assumption); omega)) <| .r 1 <| .d <| ar (i + 1, (xs.set ((V.id - 1).toNat) (sPut af V.row))) _ _ ⟨by kernel_rfl, by kernel_rfl, by kernel_rfl, by kernel_rfl, trivial⟩ ⟨W, aT, (by omega), (by simp; omega), (by exact memLen (by assumption) (by assumption)), (by exact memStep (by assumption) (by assumption) (by assumption))⟩ (by first | omega | (simp only []; omega))
 refine .d <| .cf <| .x 0 rfl <| .s <| .g <| .r 1 <| .cl (c_spec_l12Make xs (O.rep) (by omega) (by intro b hb; have aQ := ‹∀ b ∈ xs, b.length ≤ i› _ hb; omega) (w := al) (F := all)) ?_
 rintro b7 b8 ⟨⟨_, rfl, ⟨bq, b9, br, bt, cd, bu, rfl, ac, ae⟩⟩, aB⟩
 have aj := al3 O.lt J.lt E.lt
 have aC : Gb w.heap.size al.heap.size := C.size
 replace ⟨J, C⟩ := (se [] aB).g2 J C
 clear aB
 have ac := ac.fr aj aC
 have bG := ac.max
 have ae := ae.fr aj aC
 have bH := ae.max
 clear aj
 have aV := ac.len
 subst aV
 have aW := ae.len
 subst aW
 refine .sc [.slice bq (((pMake xs).ids).length) br, .slice bt (((pMake xs).blocks).length) bu] J fun ce aD aX aY => ?_
 replace ⟨ac, ae, C⟩ := (so [Z, ab, aa] aD).g3 ac ae C
 clear aD aY
 exact .d <| .rb Tryz.func130 Tryz.results130 aX ⟨(VS.of (y := (pMake xs)) ⟨_, rfl, ⟨_, _, _, _, _, _, rfl, ac.w1, ae.w1⟩⟩ (by have aQ := drop_end (xs := s.mem) (k := i) (by omega); have bv : List.foldl memF xs (s.mem.drop i) = _ := (by assumption); rw [aQ] at bv; unfold memPart; rw [← bv]; rfl)), C⟩
end Go.Proofs.YtfnpaglcnmcnbaaGreat
