/- walks; squeezed -/
import Derived.Test.YtfnpaglcnmcnbaaGreatFluzMod22
set_option linter.unusedVariables false
set_option linter.unusedSimpArgs false
namespace Go.Proofs.YtfnpaglcnmcnbaaGreat
set_option maxRecDepth 100000
set_option maxHeartbeats 4000000
theorem c_impl_IndexOk (ix : Idx) {w : World} {F : Nat → Prop} {a1 : Option Addr} {n1 c1 : Nat} (h1 : RepS w F a1 n1 c1 ix.names) {a2 : Option Addr} {n2 c2 : Nat} (h2 : RepS w F a2 n2 c2 ix.posts) (p0 : IxI ix) (p1 : NsD ix.names) : Calls Tryz.prog 71 [.agg #[.slice a1 n1 c1, .slice a2 n2 c2]].toArray w (rets fun rv w' => rv = .bool (true) ∧ Ext w w') := by
 refine goT Tryz.func71 ?_
 obtain ⟨rfl, ar, h1⟩ := h1.tp
 obtain ⟨rfl, au, h2⟩ := h2.tp
 refine .s <| .g <| .np 26 [.slice a1 ix.names.length c1, .slice a2 ix.posts.length c2] fun aa ax ac O E aj => ?_
 replace ⟨h1, h2⟩ := (sn [] O ac).g2 h1 h2
 have C := O
 clear O aj ac
 refine .r 1 <| .d <| .s <| .gd nil 10 fun ay ae => ?_
 replace ⟨h1, h2, E, C⟩ := (se [aa] ae).g4 h1 h2 E C
 clear ae
 refine .r [0] <| .lb 1 E id <| GA.call1 (i := 2) (by kernel_rfl) (fun ao ak => c_impl_namesOk ix.names (h1.ta.ext ak) p0.nm (w := ao) (F := all)) <| .r [3, 4] <| .lb 5 E id <| .r [6] <| .lb 7 E id <| .go 8 <| .cl (fun ai V => c_impl_indexOf ix.names (h1.ta.ext V) p0.nm p1 (w := ai) (F := all)) ?_
 intro ai V
 replace ⟨h2, E, C⟩ := (se [aa] V).g3 h2 E C
 rintro az aA ⟨⟨_, rfl, ⟨aB, aC, aD, aE, aF, aG, rfl, ab, J⟩⟩, W⟩
 have Z := al1 E.lt
 have af : Gb w.heap.size ai.heap.size := C.size
 have hkeep_ := W
 replace ⟨h2, C⟩ := (se [aa] W).g2 h2 C
 clear W
 refine ⟨Ext.chg hkeep_, ?_⟩
 have ab := ab.fr Z af
 have av := ab.max
 have J := J.fr Z af
 have aw := J.max
 clear Z
 have al := ab.len
 subst al
 have am := J.len
 subst am
 refine .r [9] <| .d fun aq ag => ?_
 replace ⟨h2, J, C⟩ := (se [aa] ag).g3 h2 J C
 clear ag
 refine .cl (c_EqualFunc_posts ix.posts ((idxOf ix.names).posts) h2.ta J.ta (w := aq) (F := all)) ?_
 rintro aH aI ⟨rfl, ah⟩
 replace C := (se [] ah).g1 C
 clear ah
 exact .r 2 <| .d <| .rt Tryz.func71 Tryz.results71 (.bool (ix.posts == ((idxOf ix.names).posts))) ⟨(congrArg Value.bool (by rw [p0.posts]; simp [idxOf])), C⟩
theorem c_impl_StoreOk (s : Sto) {w : World} {F : Nat → Prop} {a1 : Option Addr} {n1 c1 : Nat} (h1 : RepS w F a1 n1 c1 s.idx.names) {a2 : Option Addr} {n2 c2 : Nat} (h2 : RepS w F a2 n2 c2 s.idx.posts) {a3 : Option Addr} {n3 c3 : Nat} (h3 : RepS w F a3 n3 c3 s.parts) {a4 : Option Addr} {n4 c4 : Nat} (h4 : RepS w F a4 n4 c4 s.mem) (p0 : SD s) : Calls Tryz.prog 26 [.agg #[.slice a1 n1 c1, .slice a2 n2 c2, .slice a3 n3 c3, .slice a4 n4 c4]].toArray w (rets fun rv w' => rv = .bool (storeOk s) ∧ Ext w w') := by
 refine goT Tryz.func26 ?_
 obtain ⟨rfl, bV, h1⟩ := h1.tp
 obtain ⟨rfl, bW, h2⟩ := h2.tp
 obtain ⟨rfl, bX, h3⟩ := h3.tp
 obtain ⟨rfl, bY, h4⟩ := h4.tp
 refine .s <| .g <| .np 30 [.slice a1 s.idx.names.length c1, .slice a2 s.idx.posts.length c2, .slice a3 s.parts.length c3, .slice a4 s.mem.length c4] fun J bB aG am E aX => ?_
 replace ⟨h1, h2, h3, h4⟩ := (sn [] am aG).g4 h1 h2 h3 h4
 have C := am
 clear am aX aG
 refine .r 1 <| .d <| .s <| .s <| .g <| .r 1 <| .ln E <| .cl (c_impl_IndexOk s.idx h1.ta h2.ta p0.ix p0.nd (w := bB) (F := all)) ?_
 rintro cx aY ⟨rfl, aH⟩
 replace ⟨h1, h2, h3, h4, E, C⟩ := (se [J] aH).g6 h1 h2 h3 h4 E C
 clear aH
 refine .r 3 <| .lb E <| .r 1 <| .bp ((s.parts.length : Int) > 6) (fun aZ => .r 7 <| .d <| .ct <| .s <| .g <| .r 1 <| .d <| .rt Tryz.func26 Tryz.results26 (.bool false) ⟨(congrArg Value.bool (by symm; first | exact storeOk_1 (by omega) | exact storeOk_2 (allNo (by assumption) (by assumption) (by first | exact partIn_1 (by assumption) | exact partIn_2 (by assumption) | exact partIn_3 (by assumption) (by assumption) (by assumption))) | exact storeOk_3 (allNo (by assumption) (by assumption) (by simp [memOk, *])) | exact storeOk_4 (cntNo (by assumption) (by omega) (by omega) (by omega)))), C⟩) fun aZ => .r 3 <| .lb E <| .r 1 <| .bp ((s.mem.length : Int) > 20) (fun ba => .r 1 <| .d <| .ct <| .s <| .g <| .r 1 <| .d <| .rt Tryz.func26 Tryz.results26 (.bool false) ⟨(congrArg Value.bool (by symm; first | exact storeOk_1 (by omega) | exact storeOk_2 (allNo (by assumption) (by assumption) (by first | exact partIn_1 (by assumption) | exact partIn_2 (by assumption) | exact partIn_3 (by assumption) (by assumption) (by assumption))) | exact storeOk_3 (allNo (by assumption) (by assumption) (by simp [memOk, *])) | exact storeOk_4 (cntNo (by assumption) (by omega) (by omega) (by omega)))), C⟩) fun ba => .r 1 <| .d <| .cf <| .sk <| .s <| .g <| .r 2 <| .lb E <| .r 2 <| .d <| .s <| .s <| .g <| .r 1 <| .lb E <| .r 2 <| .d <| .b 0 <| T.loop (X := Nat) 0 (fun k => [(1, .pointer (some ⟨J, 0, none⟩)), (3, vI (s.idx.names.length : Int)), (30, .slice a3 s.parts.length c3), (31, vI (s.parts.length : Int)), (32, vI (k : Int))]) (fun k ao => Chg (ins []) aY ao ∧ (k ≤ s.parts.length) ∧ ((s.parts.drop k).all (fun p => partIn p s.idx.names.length) = s.parts.all (fun p => partIn p s.idx.names.length))) (fun k => s.parts.length - k) (by kernel_rfl) ⟨by kernel_rfl, by kernel_rfl, by kernel_rfl, by kernel_rfl, by kernel_rfl, trivial⟩ ⟨Chg.refl _ _, (by simp), (by simp)⟩ ?_
 rintro k cy ao ⟨O, bZ, b0⟩ aq
 have aI : Mv [J] [J] aY ao := Mv.inl O all_nil (all_cons (.inl (.head _)) all_nil)
 replace ⟨h1, h2, h3, h4, E, C⟩ := (sp aI O).g6 h1 h2 h3 h4 E C
 clear aI
 refine .s <| .g <| .bp ((k : Int) < (s.parts.length : Int)) (fun bc => ?_) (fun bc => ?_)
 · refine .d <| .s <| .ct <| .sk <| .s <| .b 1 <| .s <| .g ?_
   have bd : k < s.parts.length := (by omega)
   refine .ix k 2 h3 bd ?_
   obtain ⟨ac, ar⟩ : ∃ y, s.parts[k]? = some y := ⟨_, List.getElem?_eq_getElem (by omega)⟩
   have b6 := drop_at ar; have bA := List.mem_of_getElem? ar
   obtain ⟨_, ⟨bC, cz, bD, bE, cA, bF, rfl, aa, ai⟩, bg⟩ := h3.elem k ac ar
   have bh := aa.len
   subst bh
   have b7 := aa.max
   have bi := ai.len
   subst bi
   have b8 := ai.max
   refine .lg 0 bg <| .np 75 [.slice none 0 0, .slice none 0 0] fun aF cB ae aJ bj bk => ?_
   have b9 := nb_new ae E.lt
   have cd := C.cn ae
   have ce := O.cn ae
   replace ⟨h1, h2, h3, h4, E, aa, ai, C, O⟩ := (sn [J] aJ ae).g9 h1 h2 h3 h4 E aa ai C O
   clear aJ bk ae
   refine .sc [.slice bC ac.ids.length bD, .slice bE ac.blocks.length bF] bj fun bG aK af bm => ?_
   replace ⟨h1, h2, h3, h4, E, aa, ai, C, O⟩ := (so [aF, J] aK).g9 h1 h2 h3 h4 E aa ai C O
   clear aK bm
   refine .d <| .s <| .g <| .ln af <| .cl (c_impl_PartOk ac aa.ta ai.ta (w := bG) (F := all)) ?_
   rintro cC bH ⟨rfl, aL⟩
   replace ⟨h1, h2, h3, h4, E, aa, af, C, O⟩ := (se [aF, J] aL).g9 h1 h2 h3 h4 E aa af C O
   clear aL
   cases cg : (partOk ac)
   · exact .r 14 <| .d <| .ct <| .s <| .g <| .r 1 <| .d <| .rt Tryz.func26 Tryz.results26 (.bool false) ⟨(congrArg Value.bool (by symm; first | exact storeOk_1 (by omega) | exact storeOk_2 (allNo (by assumption) (by assumption) (by first | exact partIn_1 (by assumption) | exact partIn_2 (by assumption) | exact partIn_3 (by assumption) (by assumption) (by assumption))) | exact storeOk_3 (allNo (by assumption) (by assumption) (by simp [memOk, *])) | exact storeOk_4 (cntNo (by assumption) (by omega) (by omega) (by omega)))), C⟩
   refine .r 3 <| .lb af <| .r 1 <| .eq (ac.ids.length : Int) 0 (fun bn => .r 8 <| .d <| .ct <| .s <| .g <| .r 1 <| .d <| .rt Tryz.func26 Tryz.results26 (.bool false) ⟨(congrArg Value.bool (by symm; first | exact storeOk_1 (by omega) | exact storeOk_2 (allNo (by assumption) (by assumption) (by first | exact partIn_1 (by assumption) | exact partIn_2 (by assumption) | exact partIn_3 (by assumption) (by assumption) (by assumption))) | exact storeOk_3 (allNo (by assumption) (by assumption) (by simp [memOk, *])) | exact storeOk_4 (cntNo (by assumption) (by omega) (by omega) (by omega)))), C⟩) fun bn => .r 3 <| .lb af <| .cl (c_slices_Max_int_int ac.ids aa.ta (by omega) (w := bH) (F := all)) ?_
   rintro cD bo ⟨rfl, aM⟩
   replace ⟨h1, h2, h3, h4, E, C, O⟩ := (se [aF, J] aM).g7 h1 h2 h3 h4 E C O
   clear aM
   refine .r 1 <| .bp (maxOf ac.ids > (s.idx.names.length : Int)) (fun bq => .r 1 <| .d <| .ct <| .s <| .g <| .r 1 <| .d <| .rt Tryz.func26 Tryz.results26 (.bool false) ⟨(congrArg Value.bool (by symm; first | exact storeOk_1 (by omega) | exact storeOk_2 (allNo (by assumption) (by assumption) (by first | exact partIn_1 (by assumption) | exact partIn_2 (by assumption) | exact partIn_3 (by assumption) (by assumption) (by assumption))) | exact storeOk_3 (allNo (by assumption) (by assumption) (by simp [memOk, *])) | exact storeOk_4 (cntNo (by assumption) (by omega) (by omega) (by omega)))), C⟩) fun bq => .r 1 <| .d <| .cf <| .sk <| .ib 1 <| .g <| RG.int ((k : Int) + 1) (by kernel_rfl) (by have := p0.nm.len; omega) <| .r 1 <| .d ?_
   have br : Mv [aF, J] [J] bo bo := Mv.less (all_cons (.tail _ (.head _)) all_nil)
   replace ⟨h1, h2, h3, h4⟩ := (sp br (Chg.refl nil _)).g4 h1 h2 h3 h4
   exact aq (k + 1) _ _ ⟨by kernel_rfl, by kernel_rfl, by kernel_rfl, by kernel_rfl, by kernel_rfl, trivial⟩ ⟨O, (by omega), (by exact allStep (by assumption) (by assumption) (partIn_4 (by assumption) (by assumption) (by assumption)))⟩ (by first | omega | (simp only []; omega))
 refine .d <| .s <| .cf <| .x 0 rfl <| .s <| .s <| .g <| .r 1 <| .lb E <| .r 2 <| .d <| .b 2 <| T.loop (X := Nat) 0 (fun k => [(1, .pointer (some ⟨J, 0, none⟩)), (3, vI (s.idx.names.length : Int)), (54, .slice a4 s.mem.length c4), (55, vI (s.mem.length : Int)), (56, vI (k : Int))]) (fun k au => Chg (ins []) ao au ∧ (k ≤ s.mem.length) ∧ (s.parts.all (fun p => partIn p s.idx.names.length) = true) ∧ ((s.mem.drop k).all (memOk s.idx.names.length) = s.mem.all (memOk s.idx.names.length))) (fun k => s.mem.length - k) (by kernel_rfl) ⟨by kernel_rfl, by kernel_rfl, by kernel_rfl, by kernel_rfl, by kernel_rfl, trivial⟩ ⟨Chg.refl _ _, (by simp), (by exact allEnd (by assumption) (by omega)), (by simp)⟩ ?_
 rintro k cE au ⟨V, ci, cj, ck⟩ av
 have aN : Mv [J] [J] ao au := Mv.inl V all_nil (all_cons (.inl (.head _)) all_nil)
 replace ⟨h1, h2, h3, h4, E, C⟩ := (sp aN V).g6 h1 h2 h3 h4 E C
 clear aN
 refine .s <| .g <| .bp ((k : Int) < (s.mem.length : Int)) (fun bt => ?_) (fun bt => ?_)
 · refine .d <| .s <| .ct <| .sk <| .s <| .b 3 <| .s <| .g ?_
   have bu : k < s.mem.length := (by omega)
   refine .ix k 3 h4 bu ?_
   obtain ⟨ag, aj⟩ : ∃ y, s.mem[k]? = some y := ⟨_, List.getElem?_eq_getElem (by omega)⟩
   have bI := drop_at aj; have bv := List.mem_of_getElem? aj
   obtain ⟨_, rfl, aP⟩ := h4.elem k ag aj
   refine .lg 0 aP <| .np 51 [vI 0, vI 0, vI 0] fun ak cm W aw aQ aR => ?_
   have bJ := nb_new W E.lt
   have bK := C.cn W
   have bL := V.cn W
   replace ⟨h1, h2, h3, h4, E, C, V⟩ := (sn [J] aw W).g7 h1 h2 h3 h4 E C V
   clear aw aR W
   refine .sc [vI ag.id, vI ag.row.t, vI ag.row.v] aQ fun bw ax ab aS => ?_
   replace ⟨h1, h2, h3, h4, E, C, V⟩ := (so [ak, J] ax).g7 h1 h2 h3 h4 E C V
   clear ax aS
   refine .d <| .s <| .g <| .r 1 <| .lb ab <| .r 1 <| .cl (c_impl_within ag.id 1 (s.idx.names.length : Int) (w := bw) (F := all)) ?_
   rintro co bz ⟨rfl, ay⟩
   replace ⟨h1, h2, h3, h4, E, ab, C, V⟩ := (se [ak, J] ay).g8 h1 h2 h3 h4 E ab C V
   clear ay
   cases az : (inR ag.id 1 (s.idx.names.length : Int))
   · have bM := inR_f az
     exact .r 7 <| .d <| .ct <| .s <| .g <| .r 1 <| .d <| .rt Tryz.func26 Tryz.results26 (.bool false) ⟨(congrArg Value.bool (by symm; first | exact storeOk_1 (by omega) | exact storeOk_2 (allNo (by assumption) (by assumption) (by first | exact partIn_1 (by assumption) | exact partIn_2 (by assumption) | exact partIn_3 (by assumption) (by assumption) (by assumption))) | exact storeOk_3 (allNo (by assumption) (by assumption) (by simp [memOk, *])) | exact storeOk_4 (cntNo (by assumption) (by omega) (by omega) (by omega)))), C⟩
   have bN := inR_t az
   refine .r 3 <| .ln ab <| .cl (c_impl_rowOk ag.row (w := bz) (F := all)) ?_
   rintro cp aO ⟨rfl, aA⟩
   replace ⟨h1, h2, h3, h4, E, C, V⟩ := (se [ak, J] aA).g7 h1 h2 h3 h4 E C V
   clear aA
   cases bO : (rowOk ag.row)
   · exact .r 2 <| .d <| .ct <| .s <| .g <| .r 1 <| .d <| .rt Tryz.func26 Tryz.results26 (.bool false) ⟨(congrArg Value.bool (by symm; first | exact storeOk_1 (by omega) | exact storeOk_2 (allNo (by assumption) (by assumption) (by first | exact partIn_1 (by assumption) | exact partIn_2 (by assumption) | exact partIn_3 (by assumption) (by assumption) (by assumption))) | exact storeOk_3 (allNo (by assumption) (by assumption) (by simp [memOk, *])) | exact storeOk_4 (cntNo (by assumption) (by omega) (by omega) (by omega)))), C⟩
   refine .r 2 <| .d <| .cf <| .sk <| .ib 3 <| .g <| RG.int ((k : Int) + 1) (by kernel_rfl) (by have := p0.nm.len; omega) <| .r 1 <| .d ?_
   have aT : Mv [ak, J] [J] aO aO := Mv.less (all_cons (.tail _ (.head _)) all_nil)
   replace ⟨h1, h2, h3, h4⟩ := (sp aT (Chg.refl nil _)).g4 h1 h2 h3 h4
   exact av (k + 1) _ _ ⟨by kernel_rfl, by kernel_rfl, by kernel_rfl, by kernel_rfl, by kernel_rfl, trivial⟩ ⟨V, (by omega), (by assumption), (by exact allStep (by assumption) (by assumption) (by simp only [memOk, *]; rfl))⟩ (by first | omega | (simp only []; omega))
 refine .d <| .s <| .cf <| .x 2 rfl <| .s <| .s <| .g <| .r 1 <| .d <| .b 4 <| T.loop (X := Nat) 1 (fun k => [(1, .pointer (some ⟨J, 0, none⟩)), (3, vI (s.idx.names.length : Int)), (8, vI (k : Int))]) (fun k ah => Chg (ins []) au ah ∧ (1 ≤ k) ∧ (k ≤ s.idx.names.length + 1) ∧ (s.parts.all (fun p => partIn p s.idx.names.length) = true) ∧ (s.mem.all (memOk s.idx.names.length) = true) ∧ (((List.range s.idx.names.length).drop (k - 1)).all (cntOk s) = (List.range s.idx.names.length).all (cntOk s))) (fun k => s.idx.names.length + 1 - k) (by kernel_rfl) ⟨by kernel_rfl, by kernel_rfl, by kernel_rfl, trivial⟩ ⟨Chg.refl _ _, (by omega), (by omega), (by assumption), (by exact allEnd (by assumption) (by omega)), (by rfl)⟩ ?_
 rintro k cq ah ⟨Z, bP, bQ, bR, bS, bT⟩ al
 have aB : Mv [J] [J] au ah := Mv.inl Z all_nil (all_cons (.inl (.head _)) all_nil)
 replace ⟨h1, h2, h3, h4, E, C⟩ := (sp aB Z).g6 h1 h2 h3 h4 E C
 clear aB
 refine .s <| .s <| .g <| .r 2 <| .bp ((k : Int) ≤ (s.idx.names.length : Int)) (fun aU => ?_) (fun aU => .d <| .cf <| .x 4 rfl <| .s <| .g <| .r 1 <| .d <| .rt Tryz.func26 Tryz.results26 (.bool true) ⟨(congrArg Value.bool (by symm; exact storeOk_5 (by omega) (by omega) (by assumption) (by assumption) (cntEnd (by assumption) (by omega)))), C⟩)
 refine .d <| .ct <| .sk <| .s <| .b 5 <| .s <| .g <| .ln E <| .r 1 <| .cl (c_impl_Store_rows s (k : Int) h1.ta h2.ta h3.ta h4.ta (StoK.pt p0 (by assumption)) (StoK.rw (by assumption)) (by have := p0.np; omega) (by have := p0.nm2; omega) (w := ah) (F := all)) ?_
 rintro cr cu ⟨⟨cv, cw, rfl, aC⟩, aD⟩
 have aE := al1 E.lt
 have aV : Gb w.heap.size ah.heap.size := C.size
 replace ⟨C, Z⟩ := (se [] aD).g2 C Z
 clear aD
 have aC := aC.fr aE aV
 have bU := aC.max
 clear aE
 exact .r 1 <| .bp ((((rowsOf s (k : Int)).length) : Int) > 24) (fun aW => .d <| .ct <| .s <| .g <| .r 1 <| .d <| .rt Tryz.func26 Tryz.results26 (.bool false) ⟨(congrArg Value.bool (by symm; first | exact storeOk_1 (by omega) | exact storeOk_2 (allNo (by assumption) (by assumption) (by first | exact partIn_1 (by assumption) | exact partIn_2 (by assumption) | exact partIn_3 (by assumption) (by assumption) (by assumption))) | exact storeOk_3 (allNo (by assumption) (by assumption) (by simp [memOk, *])) | exact storeOk_4 (cntNo (by assumption) (by omega) (by omega) (by omega)))), C⟩) fun aW => .d <| .cf <| .sk <| .ib 5 <| .g <| .r 1 <| RG.int ((k : Int) + 1) (by kernel_rfl) (by have := p0.nm.len; omega) <| .r 1 <| .d <| al (k + 1) _ _ ⟨by kernel_rfl, by kernel_rfl, by kernel_rfl, trivial⟩ ⟨Z, (by omega), (by omega), (by assumption), (by assumption), (by exact cntStep (by assumption) (by omega) (by omega) (by omega))⟩ (by first | omega | (simp only []; omega))
end Go.Proofs.YtfnpaglcnmcnbaaGreat
