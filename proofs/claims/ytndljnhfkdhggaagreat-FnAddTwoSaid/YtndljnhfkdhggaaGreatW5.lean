/- walks; squeezed -/
import Derived.Test.YtndljnhfkdhggaaGreatMod5
set_option linter.unusedVariables false
set_option linter.unusedSimpArgs false
namespace Go.Proofs.YtndljnhfkdhggaaGreat
set_option maxRecDepth 100000
set_option maxHeartbeats 4000000
theorem c_spec_l11Of (names : List (List Tag)) {w : World} {F : Nat → Prop} {a1 : Option Addr} {n1 c1 : Nat} (h1 : RepS w F a1 n1 c1 names) (p0 : names.length ≤ 1000) (p1 : ∀ n ∈ names, NmSz n) : Calls Tryz.prog 43 [.slice a1 n1 c1].toArray w (rets fun rv w' => VS (ge w.heap.size) w' (idxOf names : Idx) rv ∧ Ext w w') := by
 refine goT Tryz.func43 ?_
 obtain ⟨rfl, bX, h1⟩ := h1.tp
 refine .s <| .g <| .np 26 [.slice none 0 0, .slice none 0 0] fun V cD ax ay E bk => ?_
 have bY : Cov nil w V := cov_new ax (Nat.le_refl _)
 replace h1 := (sn [] ay ax).g1 h1
 have C := ay
 clear ay bk ax
 refine .d <| .s <| .g <| .ns 0 95 [] fun am az ao aL bm bn => ?_
 have bo := nb_new ao E.lt
 have bq := gb_new ao C.size
 have br := C.cn ao
 replace ⟨h1, E, C⟩ := (sn [V] aL ao).g3 h1 E C
 clear aL bn ao
 have bt : Own (α := Pst) az am 95 (nin (ge w.heap.size) [am, V]) 0 0 [] := Own.nil' bm
 refine .r 1 <| .d <| .s <| .s <| .g <| .r 1 <| .d <| .b 0 <| T.loop (X := (List Pst) × Nat × Nat × Nat × Nat) (([] : List Pst), am, 0, 0, 97) (fun (posts, r_posts, n_posts, c_posts, k) => [(0, .slice a1 names.length c1), (2, .pointer (some ⟨V, 0, none⟩)), (3, vS r_posts n_posts c_posts), (4, .int .i32 (k : Int))]) (fun (posts, r_posts, n_posts, c_posts, k) ai => Chg (ins [am]) az ai ∧ Own ai r_posts 95 (nin (ge w.heap.size) [r_posts, V]) n_posts c_posts posts ∧ OrB r_posts am az.heap.size ∧ (97 ≤ k) ∧ (k ≤ 101) ∧ (posts.length ≤ 11 * (k - 97)) ∧ (posts ++ postsK names (101 - k) k = postsOf names)) (fun (posts, r_posts, n_posts, c_posts, k) => 101 - k) (by kernel_rfl) ⟨by kernel_rfl, by kernel_rfl, by kernel_rfl, by kernel_rfl, trivial⟩ ⟨Chg.refl _ _, bt, orb_refl, (by first | omega | simp [postsOf]), (by first | omega | simp [postsOf]), (by first | omega | simp [postsOf]), (by first | omega | simp [postsOf])⟩ ?_
 rintro ⟨posts, r_posts, n_posts, c_posts, k⟩ cE ai ⟨J, aa, aj, bZ, b0, b6, b7⟩ aA
 have bu := nb_or' aj bo E.lt
 have bv := gb_or' aj bq C.size
 have bw := cov_or' aj br C.size
 have bz : Cov (ins [am]) az am := ⟨.inl (.head _)⟩
 have bA := cov_or' aj bz (Nat.le_refl _)
 have aM : Mv [am, V] [r_posts, V] az ai := Mv.inl J (all_cons (.head _) all_nil) (all_cons (orb_mem aj (.head _)) (all_cons (.inl (.tail _ (.head _))) all_nil))
 replace ⟨h1, E, C⟩ := (sp aM J).g3 h1 E C
 clear aM
 have b8 := aa.len; have b9 := aa.max
 refine .s <| .s <| .g <| .r 1 <| .bp ((k : Int) ≤ 100) (fun bB => ?_) (fun bB => ?_)
 · refine .d <| .ct <| .sk <| .s <| .b 1 <| .s <| .g <| .r 1 <| .d <| .b 2 <| T.loop (X := (List Pst) × Nat × Nat × Nat × Nat) ((posts : List Pst), r_posts, n_posts, c_posts, 112) (fun (Z, r_posts1, n_posts1, c_posts1, v) => [(0, .slice a1 names.length c1), (2, .pointer (some ⟨V, 0, none⟩)), (3, vS r_posts1 n_posts1 c_posts1), (4, .int .i32 (k : Int)), (5, .int .i32 (v : Int))]) (fun (Z, r_posts1, n_posts1, c_posts1, v) aK => Chg (ins [r_posts]) ai aK ∧ Own aK r_posts1 95 (nin (ge w.heap.size) [r_posts1, V]) n_posts1 c_posts1 Z ∧ OrB r_posts1 r_posts ai.heap.size ∧ (112 ≤ v) ∧ (v ≤ 123) ∧ (97 ≤ k) ∧ (k ≤ 100) ∧ (Z.length ≤ 11 * (k - 97) + (v - 112)) ∧ (Z ++ postsV names k (123 - v) v ++ postsK names (101 - (k + 1)) (k + 1) = postsOf names)) (fun (Z, r_posts1, n_posts1, c_posts1, v) => 123 - v) (by kernel_rfl) ⟨by kernel_rfl, by kernel_rfl, by kernel_rfl, by kernel_rfl, by kernel_rfl, trivial⟩ ⟨Chg.refl _ _, aa, orb_refl, (by first | omega | grind [postsK_at]), (by first | omega | grind [postsK_at]), (by first | omega | grind [postsK_at]), (by first | omega | grind [postsK_at]), (by first | omega | grind [postsK_at]), (by first | omega | grind [postsK_at])⟩ ?_
   rintro ⟨Z, r_posts1, n_posts1, c_posts1, v⟩ cF aK ⟨W, O, ae, cd, ce, cg, ci, cj, ck⟩ aq
   have cm := nb_or' ae bu E.lt
   have co := cov_or' ae bw C.size
   have cp := cov_or' ae bA J.size
   have bC := orb_or' ae aj J.size
   have bD : Cov (ins [r_posts]) ai r_posts := ⟨.inl (.head _)⟩
   have cq := cov_or' ae bD (Nat.le_refl _)
   have aN : Mv [r_posts, V] [r_posts1, V] ai aK := Mv.inl W (all_cons (.head _) all_nil) (all_cons (orb_mem ae (.head _)) (all_cons (.inl (.tail _ (.head _))) all_nil))
   replace ⟨h1, E, C, J⟩ := (sp aN W).g4 h1 E C J
   clear aN
   have cr := O.len; have cu := O.max
   refine .s <| .s <| .g <| .r 1 <| .bp ((v : Int) ≤ 122) (fun bE => ?_) (fun bE => .d <| .cf <| .x 2 rfl <| .ib 1 <| .g <| .r 1 <| RG.int32 ((k : Int) + 1) (by kernel_rfl) (by omega) <| .r 1 <| .d <| aA (Z, r_posts1, n_posts1, c_posts1, k + 1) _ _ ⟨by kernel_rfl, by kernel_rfl, by kernel_rfl, by kernel_rfl, trivial⟩ ⟨J, O, bC, (by first | omega | grind [postsV_end]), (by first | omega | grind [postsV_end]), (by first | omega | grind [postsV_end]), (by first | omega | grind [postsV_end])⟩ (by first | omega | (simp only []; omega)))
   refine .d <| .ct <| .sk <| .s <| .b 3 <| .s <| .g <| .r 1 <| RG.eqv (v := .string (bs [UInt8.ofNat k])) (by kernel_rfl) (rune1 k (by omega)) <| .r 1 <| RG.eqv (v := .string (bs [UInt8.ofNat v])) (by kernel_rfl) (rune1 v (by omega)) <| .r 1 <| .np 87 [.string (bs []), .string (bs [])] fun ar cG af aO bF bG => ?_
   have cv := nb_new af E.lt
   have cw := nb_new af O.lt
   have cx := C.cn af
   have cy := J.cn af
   have cz := W.cn af
   replace ⟨h1, E, O, C, J, W⟩ := (sn [r_posts1, V] aO af).g6 h1 E O C J W
   clear aO bG af
   refine .sc [.string (bs [UInt8.ofNat k]), .string (bs [UInt8.ofNat v])] bF fun bH aP ak bI => ?_
   replace ⟨h1, E, O, C, J, W⟩ := (so [ar, r_posts1, V] aP).g6 h1 E O C J W
   clear aP bI
   refine .d <| .s <| .g <| .r 1 <| .ln ak <| .cl (c_spec_l11Ids names (⟨[UInt8.ofNat k], [UInt8.ofNat v]⟩ : Tag) h1.ta (by omega) (w := bH) (F := all)) ?_
   rintro cH bJ ⟨⟨bO, bP, rfl, av⟩, aQ⟩
   have aB := al3 ak.lt O.lt E.lt
   have aU : Gb w.heap.size bH.heap.size := C.size
   replace ⟨h1, E, O, ak, C, J, W⟩ := (se [ar, r_posts1, V] aQ).g7 h1 E O ak C J W
   clear aQ
   have av := av.fr aB aU
   have bQ := av.max
   clear aB
   refine .r 1 <| .d <| .s <| .g <| .r 2 <| .bp ((((ids names (⟨[UInt8.ofNat k], [UInt8.ofNat v]⟩ : Tag)).length) : Int) > 0) (fun aV => ?_) (fun aV => ?_)
   · refine .d <| .ct <| .g <| .r 1 <| .ln ak <| .r 2 <| .ns 1 95 [.string (bs [UInt8.ofNat k]), .string (bs [UInt8.ofNat v]), .slice bO ((ids names (⟨[UInt8.ofNat k], [UInt8.ofNat v]⟩ : Tag)).length) bP] fun aR cA ag aC aW aX => ?_
     have aY := nb_new ag E.lt
     have aD := nb_new ag O.lt
     have aZ := nb_new ag ak.lt
     have ba := gb_new ag C.size
     replace ⟨h1, E, O, av, C, J, W⟩ := (se [ar, r_posts1, V] aC).g7 h1 E O av C J W
     clear aC aX ag
     have aw : nin (ge w.heap.size) [ar, r_posts1, V] aR ∧ aR ≠ r_posts1 := hap_mk ba (all_cons aZ (all_cons aD (all_cons aY all_nil))) aD
     refine RG.append1 (T := 24) (ty := 24) (y := (⟨(⟨[UInt8.ofNat k], [UInt8.ofNat v]⟩ : Tag), ids names (⟨[UInt8.ofNat k], [UInt8.ofNat v]⟩ : Tag)⟩ : Pst)) O aW (by kernel_rfl) (by kernel_rfl) ⟨_, _, _, rfl, av.oi⟩ aw (by omega) fun aE bK aS ab al aF => ?_
     have bb := orb_or al ae W.size
     replace ⟨h1, E, C, J, W⟩ := (sa [ar, r_posts1, V] aF al).g5 h1 E C J W
     clear aF
     replace ab := ab.rn r_posts1
     clear al
     have bR := ab.len; have bS := ab.max
     refine .r 1 <| .d <| .ib 3 <| .g <| .r 1 <| RG.int32 ((v : Int) + 1) (by kernel_rfl) (by omega) <| .r 1 <| .d ?_
     have bc : Mv [ar, aE, V] [aE, V] aS aS := Mv.less (all_cons (.tail _ (.head _)) (all_cons (.tail _ (.tail _ (.head _))) all_nil))
     replace ⟨h1, ab⟩ := (sp bc (Chg.refl nil _)).g2 h1 ab
     exact aq ((Z ++ [(⟨(⟨[UInt8.ofNat k], [UInt8.ofNat v]⟩ : Tag), ids names (⟨[UInt8.ofNat k], [UInt8.ofNat v]⟩ : Tag)⟩ : Pst)]), aE, n_posts1 + 1, bK, v + 1) _ _ ⟨by kernel_rfl, by kernel_rfl, by kernel_rfl, by kernel_rfl, by kernel_rfl, trivial⟩ ⟨W, ab, bb, (by first | omega | grind [postsV_at, post1, tagAt]), (by first | omega | grind [postsV_at, post1, tagAt]), (by first | omega | grind [postsV_at, post1, tagAt]), (by first | omega | grind [postsV_at, post1, tagAt]), (by first | omega | grind [postsV_at, post1, tagAt]), (by first | omega | grind [postsV_at, post1, tagAt])⟩ (by first | omega | (simp only []; omega))
   refine .d <| .cf <| .sk <| .ib 3 <| .g <| .r 1 <| RG.int32 ((v : Int) + 1) (by kernel_rfl) (by omega) <| .r 1 <| .d ?_
   have bd : Mv [ar, r_posts1, V] [r_posts1, V] bJ bJ := Mv.less (all_cons (.tail _ (.head _)) (all_cons (.tail _ (.tail _ (.head _))) all_nil))
   replace ⟨h1, O⟩ := (sp bd (Chg.refl nil _)).g2 h1 O
   exact aq (Z, r_posts1, n_posts1, c_posts1, v + 1) _ _ ⟨by kernel_rfl, by kernel_rfl, by kernel_rfl, by kernel_rfl, by kernel_rfl, trivial⟩ ⟨W, O, ae, (by first | omega | grind [postsV_at, post1, tagAt]), (by first | omega | grind [postsV_at, post1, tagAt]), (by first | omega | grind [postsV_at, post1, tagAt]), (by first | omega | grind [postsV_at, post1, tagAt]), (by first | omega | grind [postsV_at, post1, tagAt]), (by first | omega | grind [postsV_at, post1, tagAt])⟩ (by first | omega | (simp only []; omega))
 refine .d <| .cf <| .x 0 rfl <| .s <| .g <| .r 1 <| .cl (c_spec_l11Names names h1.ta (by grind [NmSz]) (by grind [NmSz]) (w := ai) (F := all)) ?_
 rintro cB cC ⟨⟨au, bL, bM, rfl, ac, ah⟩, aG⟩
 have aH := al2 aa.lt E.lt
 have bg : Gb w.heap.size ai.heap.size := C.size
 have bT := nb_ge ah E.lt
 have bU := nb_ge ah aa.lt
 have bh := gb_ge ah C.size
 replace ⟨E, aa, C⟩ := (sz [r_posts, V] aG ah).g3 E aa C
 clear aG ah
 replace ac := Own.take (s0 := w.heap.size) (M := [r_posts, V]) ac aH bg
 have bV := ac.len; have bW := ac.max
 clear aH
 refine .r 2 <| .sc [vS au bL bM, vS r_posts n_posts c_posts] E fun aT aI bi bj => ?_
 replace ⟨aa, ac, C⟩ := (so [au, r_posts, V] aI).g3 aa ac C
 clear aI bj
 refine .d ?_
 have aJ := ac.sl bh
 replace aa := (sd aT [au, r_posts, V] au).g1 aa
 have bN := aa.sl bv
 replace aJ := (sd aT [r_posts, V] r_posts).g1 aJ
 exact .rb Tryz.func43 Tryz.results43 bi ⟨(VS.of (y := (⟨names, posts⟩ : Idx)) ⟨_, rfl, ⟨_, _, _, _, _, _, rfl, aJ.w1, bN.w1⟩⟩ (by grind [idxOf, postsK_end])), C⟩
theorem c_spec_l13Mem (s : Sto) {w : World} {F : Nat → Prop} {a1 : Option Addr} {n1 c1 : Nat} (h1 : RepS w F a1 n1 c1 s.idx.names) {a2 : Option Addr} {n2 c2 : Nat} (h2 : RepS w F a2 n2 c2 s.idx.posts) {a3 : Option Addr} {n3 c3 : Nat} (h3 : RepS w F a3 n3 c3 s.parts) {a4 : Option Addr} {n4 c4 : Nat} (h4 : RepS w F a4 n4 c4 s.mem) (p0 : s.mem.length ≤ 1000) (p1 : ∀ m ∈ s.mem, 1 ≤ m.id ∧ m.id ≤ 6) : Calls Tryz.prog 115 [.agg #[.slice a1 n1 c1, .slice a2 n2 c2, .slice a3 n3 c3, .slice a4 n4 c4]].toArray w (rets fun rv w' => VS (ge w.heap.size) w' (memPart s.mem : Prt) rv ∧ Ext w w') := by
 refine goT Tryz.func115 ?_
 obtain ⟨rfl, bH, h1⟩ := h1.tp
 obtain ⟨rfl, bI, h2⟩ := h2.tp
 obtain ⟨rfl, bJ, h3⟩ := h3.tp
 obtain ⟨rfl, bK, h4⟩ := h4.tp
 refine .s <| .g <| .np 30 [.slice a1 s.idx.names.length c1, .slice a2 s.idx.posts.length c2, .slice a3 s.parts.length c3, .slice a4 s.mem.length c4] fun aa ce aF ao E aZ => ?_
 replace h4 := (sn [] ao aF).g1 h4
 have C := ao
 clear ao aZ aF
 refine .np 68 [.slice none 0 0, .slice none 0 0] fun ab cg aq aG J ba => ?_
 have bL := C.cn aq
 replace ⟨h4, E, C⟩ := (sn [aa] aG aq).g3 h4 E C
 clear aG ba aq
 refine .d <| .s <| .g <| .ns 6 41 [.slice none 0 0, .slice none 0 0, .slice none 0 0, .slice none 0 0, .slice none 0 0, .slice none 0 0] fun Z aE ag aH bb bc => ?_
 have bM := nb_new ag E.lt
 have bN := nb_new ag J.lt
 have bO := C.cn ag
 replace ⟨h4, E, J, C⟩ := (sn [ab, aa] aH ag).g4 h4 E J C
 clear aH bc ag
 have bd : Own (α := List Row) aE Z 41 (nin (ge w.heap.size) [Z, ab, aa]) 6 6 [([] : List Row), ([] : List Row), ([] : List Row), ([] : List Row), ([] : List Row), ([] : List Row)] := Own.lit bb rfl (by decide) ⟨⟨_, _, _, rfl, (RepS.nil' _ _ none 0 (by decide))⟩, ⟨_, _, _, rfl, (RepS.nil' _ _ none 0 (by decide))⟩, ⟨_, _, _, rfl, (RepS.nil' _ _ none 0 (by decide))⟩, ⟨_, _, _, rfl, (RepS.nil' _ _ none 0 (by decide))⟩, ⟨_, _, _, rfl, (RepS.nil' _ _ none 0 (by decide))⟩, ⟨_, _, _, rfl, (RepS.nil' _ _ none 0 (by decide))⟩, rfl⟩
 refine .r 1 <| .d <| .s <| .s <| .g <| .r 1 <| .d <| .b 0 <| T.loop (X := Nat × (List (List Row))) (0, ([([] : List Row), ([] : List Row), ([] : List Row), ([] : List Row), ([] : List Row), ([] : List Row)] : List (List Row))) (fun (i, xs) => [(1, .pointer (some ⟨aa, 0, none⟩)), (2, .pointer (some ⟨ab, 0, none⟩)), (3, vS Z 6 6), (4, vI (i : Int))]) (fun (i, xs) al => Chg (ins [Z]) aE al ∧ Own al Z 41 (nin (ge w.heap.size) [Z, ab, aa]) 6 6 xs ∧ (i ≤ s.mem.length) ∧ (xs.length = 6) ∧ (∀ b ∈ xs, b.length ≤ i) ∧ ((s.mem.drop i).foldl memF xs = s.mem.foldl memF [[], [], [], [], [], []])) (fun (i, xs) => s.mem.length - i) (by kernel_rfl) ⟨by kernel_rfl, by kernel_rfl, by kernel_rfl, by kernel_rfl, trivial⟩ ⟨Chg.refl _ _, bd, (by simp), (by simp), (by simp), (by simp)⟩ ?_
 rintro ⟨i, xs⟩ ci al ⟨W, O, bP, bQ, bR, bS⟩ ar
 have bT : Cov (ins [Z]) aE Z := ⟨.inl (.head _)⟩
 have aI : Mv [Z, ab, aa] [Z, ab, aa] aE al := Mv.inl W (all_cons (.head _) all_nil) (all_cons (.inl (.head _)) (all_cons (.inl (.tail _ (.head _))) (all_cons (.inl (.tail _ (.tail _ (.head _)))) all_nil)))
 replace ⟨h4, E, J, C⟩ := (sp aI W).g4 h4 E J C
 clear aI
 have bU := O.len; have bV := O.max
 refine .s <| .s <| .g <| .r 2 <| .lb E <| .r 1 <| .bp ((i : Int) < (s.mem.length : Int)) (fun bg => ?_) (fun bg => ?_)
 · refine .d <| .ct <| .sk <| .s <| .b 1 <| .s <| .g <| .r 1 <| .lb E <| .r 1 ?_
   have aJ : i < s.mem.length := (by first | omega | (have := p1 _ (by assumption); omega))
   refine RG.idx i (len := s.mem.length) (i := (i : Int)) (sz := 3) (by kernel_rfl) (by first | omega | (have := p1 _ (by assumption); omega)) aJ (h4.addr (Nat.zero_lt_of_lt aJ)) <| .r 1 ?_
   obtain ⟨V, ak⟩ : ∃ y, s.mem[i]? = some y := ⟨_, List.getElem?_eq_getElem (by first | omega | (have := p1 _ (by assumption); omega))⟩
   have bW := drop_at ak; have bv := List.mem_of_getElem? ak
   obtain ⟨_, rfl, bh⟩ := h4.elem i V ak
   refine .lh 0 bh <| .r 1 <| .d <| .gd nil 15 fun bz aK => ?_
   replace ⟨h4, E, J, O, C, W⟩ := (se [Z, ab, aa] aK).g6 h4 E J O C W
   clear aK
   refine .r [0, 1] <| GA.int (i := 2) (V.id - 1) (by kernel_rfl) (by first | omega | (have := p1 _ (by assumption); omega)) <| .r [3, 4] <| GA.int (i := 5) (V.id - 1) (by kernel_rfl) (by first | omega | (have := p1 _ (by assumption); omega)) ?_
   have bi : (V.id - 1).toNat < 6 := (by first | omega | (have := p1 _ (by assumption); omega))
   refine GA.idx (i := 6) (b := Z) (o := 0) ((V.id - 1).toNat) (len := 6) (z := V.id - 1) (sz := 1) (by kernel_rfl) (by first | omega | (have := p1 _ (by assumption); omega)) bi rfl ?_
   obtain ⟨af, ah⟩ : ∃ y, xs[(V.id - 1).toNat]? = some y := ⟨_, List.getElem?_eq_getElem (by first | omega | (have := p1 _ (by assumption); omega))⟩
   have bX := drop_at ah; have bw := List.mem_of_getElem? ah
   obtain ⟨_, ⟨bA, cj, bB, rfl, au⟩, av⟩ := O.elem ((V.id - 1).toNat) af ah
   replace au := au.weak (fun _ _ h => h.1)
   have bj := au.len
   subst bj
   have bY := au.max
   replace av : Has bz ⟨Z, 0 + ((V.id - 1).toNat) * Rep.sz (List Row), none⟩ [.slice bA af.length bB] := by rw [Nat.zero_add]; exact av
   refine .lh 7 0 av id <| .r [8] <| .lb 9 E id <| .r [10] ?_
   have aL : i < s.mem.length := (by first | omega | (have := p1 _ (by assumption); omega))
   refine GA.idx (i := 11) i (len := s.mem.length) (z := (i : Int)) (sz := 3) (by kernel_rfl) (by first | omega | (have := p1 _ (by assumption); omega)) aL (h4.addr (Nat.zero_lt_of_lt aL)) <| .r [12] ?_
   obtain ⟨_, rfl, bk⟩ := h4.elem i V ak
   refine .lg 13 1 bk id <| .go 14 <| .cl (fun aP aw => c_spec_l2Put af V.row (au.ta.ext aw) (by have aQ := ‹∀ b ∈ xs, b.length ≤ i› _ (by assumption); omega) (w := aP) (F := all)) ?_
   intro aP aw
   replace ⟨E, J, O, C, W⟩ := (se [Z, ab, aa] aw).g5 E J O C W
   rintro ck cm ⟨⟨bC, bD, rfl, am⟩, ax⟩
   have aM := al3 O.lt J.lt E.lt
   have bm : Gb w.heap.size aP.heap.size := C.size
   have hkeep_ := ax
   replace ⟨E, J, O, C, W⟩ := (se [Z, ab, aa] ax).g5 E J O C W
   clear ax
   refine ⟨Ext.chg hkeep_, ?_⟩
   have am := am.fr aM bm
   have bE := am.max
   clear aM
   refine .d fun bn ay => ?_
   replace ⟨E, J, O, am, C, W⟩ := (se [Z, ab, aa] ay).g6 E J O am C W
   clear ay
   have aR : (V.id - 1).toNat < 6 := (by first | omega | (have := p1 _ (by assumption); omega))
   refine RG.idx (b := Z) (o := 0) ((V.id - 1).toNat) (len := 6) (i := V.id - 1) (sz := 1) (by kernel_rfl) (by first | omega | (have := p1 _ (by assumption); omega)) aR rfl ?_
   obtain ⟨_, ⟨aN, bZ, aO, rfl, az⟩, ai⟩ := O.elem ((V.id - 1).toNat) af ah
   replace az := az.weak (fun _ _ h => h.1)
   have aS := az.len
   subst aS
   replace ai : Has bn ⟨Z, 0 + ((V.id - 1).toNat) * Rep.sz (List Row), none⟩ [.slice aN af.length aO] := by rw [Nat.zero_add]; exact ai
   refine RG.storeO (t' := 41) (i := ((V.id - 1).toNat)) (k := 0) (v := .slice bC ((sPut af V.row).length) bD) (cs := [.slice aN af.length aO]) (sPut af V.row) O ah ai (by kernel_rfl) (by kernel_rfl) (by kernel_rfl) ⟨_, _, _, rfl, am.oi⟩ fun b0 aT aA aU => ?_
   replace ⟨E, J, C, W⟩ := (s1 aA).g4 E J C W
   clear aA aU
   exact .d <| .ib 1 <| .g <| .r 1 <| RG.int ((i : Int) + 1) (by kernel_rfl) (by first | omega | (have := p1 _ (by assumption); omega)) <| .r 1 <| .d <| ar (i + 1, (xs.set ((V.id - 1).toNat) (sPut af V.row))) _ _ ⟨by kernel_rfl, by kernel_rfl, by kernel_rfl, by kernel_rfl, trivial⟩ ⟨W, aT, (by omega), (by simp; omega), (by exact memLen (by assumption) (by assumption)), (by exact memStep (by assumption) (by assumption) (by assumption))⟩ (by first | omega | (simp only []; omega))
 refine .d <| .cf <| .x 0 rfl <| .s <| .g <| .r 1 <| .cl (c_spec_l12Make xs (O.rep) (by omega) (by intro b hb; have aQ := ‹∀ b ∈ xs, b.length ≤ i› _ hb; omega) (w := al) (F := all)) ?_
 rintro b6 b7 ⟨⟨_, rfl, ⟨bo, b8, bq, br, b9, bt, rfl, ac, ae⟩⟩, aB⟩
 have aj := al3 O.lt J.lt E.lt
 have aC : Gb w.heap.size al.heap.size := C.size
 replace ⟨J, C⟩ := (se [] aB).g2 J C
 clear aB
 have ac := ac.fr aj aC
 have bF := ac.max
 have ae := ae.fr aj aC
 have bG := ae.max
 clear aj
 have aV := ac.len
 subst aV
 have aW := ae.len
 subst aW
 refine .sc [.slice bo (((pMake xs).ids).length) bq, .slice br (((pMake xs).blocks).length) bt] J fun cd aD aX aY => ?_
 replace ⟨ac, ae, C⟩ := (so [Z, ab, aa] aD).g3 ac ae C
 clear aD aY
 exact .d <| .rb Tryz.func115 Tryz.results115 aX ⟨(VS.of (y := (pMake xs)) ⟨_, rfl, ⟨_, _, _, _, _, _, rfl, ac.w1, ae.w1⟩⟩ (by have aQ := drop_end (xs := s.mem) (k := i) (by omega); have bu : List.foldl memF xs (s.mem.drop i) = _ := (by assumption); rw [aQ] at bu; unfold memPart; rw [← bu]; rfl)), C⟩
end Go.Proofs.YtndljnhfkdhggaaGreat