/- walks; squeezed -/
import Derived.Test.YtfnpaglcnmcnbaaGreatFluzW3
set_option linter.unusedVariables false
set_option linter.unusedSimpArgs false
namespace Go.Proofs.YtfnpaglcnmcnbaaGreat
set_option maxRecDepth 100000
set_option maxHeartbeats 4000000
theorem c_spec_l11New  {w : World} {F : Nat → Prop}   : Calls Tryz.prog 200 [].toArray w (rets fun rv w' => VS (ge w.heap.size) w' ((⟨[], []⟩ : Idx) : Idx) rv ∧ Ext w w') := by
 refine goT Tryz.func200 <| .s <| .g <| .np 26 [.slice none 0 0, .slice none 0 0] fun Z aE ac ae E aj => ?_
 have aA : Cov nil w Z := cov_new ac (Nat.le_refl _)
 have C := ae
 clear ae aj ac
 refine .d <| .s <| .g <| .ns 0 31 [] fun O ax ab af ak al => ?_
 have aB := nb_new ab E.lt
 have am := gb_new ab C.size
 replace ⟨E, C⟩ := (se [] af).g2 E C
 clear af al ab
 have J : Own (α := List Tag) ax O 31 (nin (ge w.heap.size) [O, Z]) 0 0 [] := Own.nil' ak
 refine .ns 0 130 [] fun aa ay V ag ao aq => ?_
 have aC := nb_new V E.lt
 have aD := nb_new V J.lt
 have ar := gb_new V C.size
 replace ⟨E, J, C⟩ := (sn [O, Z] ag V).g3 E J C
 clear ag aq V
 have W : Own (α := Pst) ay aa 130 (nin (ge w.heap.size) [aa, O, Z]) 0 0 [] := Own.nil' ao
 refine .r 1 <| .sc [vS O 0 0, vS aa 0 0] E fun au ah av aw => ?_
 replace ⟨J, W, C⟩ := (so [aa, O, Z] ah).g3 J W C
 clear ah aw
 refine .d ?_
 have ai := J.sl am
 replace W := (sd au [aa, O, Z] O).g1 W
 have az := W.sl ar
 replace ai := (sd au [aa, Z] aa).g1 ai
 exact .rb Tryz.func200 Tryz.results200 av ⟨⟨_, rfl, ⟨_, _, _, _, _, _, rfl, ai.w1, az.w1⟩⟩, C⟩
theorem c_spec_l13New  {w : World} {F : Nat → Prop}   : Calls Tryz.prog 178 [].toArray w (rets fun rv w' => VS (ge w.heap.size) w' ((⟨⟨[], []⟩, [], []⟩ : Sto) : Sto) rv ∧ Ext w w') := by
 refine goT Tryz.func178 <| .s <| .g <| .np 30 [.slice none 0 0, .slice none 0 0, .slice none 0 0, .slice none 0 0] fun W aq ag ah E ar => ?_
 have aM : Cov nil w W := cov_new ag (Nat.le_refl _)
 have C := ah
 clear ah ar ag
 refine .d <| .s <| .g <| .cl (c_spec_l11New (w := aq) (F := all)) ?_
 rintro aS aT ⟨⟨_, rfl, ⟨aF, aU, aG, aH, aV, aI, rfl, J, O⟩⟩, ai⟩
 have af := al1 E.lt
 have aj : Gb w.heap.size aq.heap.size := C.size
 replace ⟨E, C⟩ := (se [] ai).g2 E C
 clear ai
 have J := J.fr af aj
 have aN := J.max
 have O := O.fr af aj
 have aO := O.max
 clear af
 have au := J.len
 subst au
 have av := O.len
 subst av
 refine .ns 0 75 [] fun Z aJ ae ak aw ax => ?_
 have aP := nb_new ae E.lt
 have ay := gb_new ae C.size
 replace ⟨E, J, O, C⟩ := (sn [W] ak ae).g4 E J O C
 clear ak ax ae
 have V : Own (α := Prt) aJ Z 75 (nin (ge w.heap.size) [Z, W]) 0 0 [] := Own.nil' aw
 refine .ns 0 51 [] fun ac aK aa al az aA => ?_
 have aQ := nb_new aa E.lt
 have aR := nb_new aa V.lt
 have aB := gb_new aa C.size
 replace ⟨E, J, O, V, C⟩ := (sn [Z, W] al aa).g5 E J O V C
 clear al aA aa
 have ab : Own (α := Smp) aK ac 51 (nin (ge w.heap.size) [ac, Z, W]) 0 0 [] := Own.nil' az
 refine .r 1 <| .sc [.slice aF ((((⟨[], []⟩ : Idx)).names).length) aG, .slice aH ((((⟨[], []⟩ : Idx)).posts).length) aI, vS Z 0 0, vS ac 0 0] E fun aC am aD aE => ?_
 replace ⟨J, O, V, ab, C⟩ := (so [ac, Z, W] am).g5 J O V ab C
 clear am aE
 refine .d ?_
 have ao := V.sl ay
 replace ⟨J, O, ab⟩ := (sd aC [ac, Z, W] Z).g3 J O ab
 have aL := ab.sl aB
 replace ⟨J, O, ao⟩ := (sd aC [ac, W] ac).g3 J O ao
 exact .rb Tryz.func178 Tryz.results178 aD ⟨(VS.of (y := (⟨(⟨((⟨[], []⟩ : Idx)).names, ((⟨[], []⟩ : Idx)).posts⟩ : Idx), [], []⟩ : Sto)) ⟨_, rfl, ⟨_, _, _, _, _, _, _, _, _, _, _, _, rfl, J.w1, O.w1, ao.w1, aL.w1⟩⟩ (by rfl)), C⟩
theorem c_spec_DiskNew  {w : World} {F : Nat → Prop}   : Calls Tryz.prog 179 [].toArray w (rets fun rv w' => VS (ge w.heap.size) w' ((⟨[], [], [], 1⟩ : Dsk) : Dsk) rv ∧ Ext w w') := by
 refine goT Tryz.func179 <| .s <| .g <| .np 83 [.slice none 0 0, .slice none 0 0, .slice none 0 0, vI 0] fun W aQ ah ai E ar => ?_
 have aJ : Cov nil w W := cov_new ah (Nat.le_refl _)
 have C := ai
 clear ai ar ah
 refine .d <| .s <| .g <| .ns 0 88 [] fun Z aF af aj au av => ?_
 have aK := nb_new af E.lt
 have aw := gb_new af C.size
 replace ⟨E, C⟩ := (se [] aj).g2 E C
 clear aj av af
 have J : Own (α := Fil) aF Z 88 (nin (ge w.heap.size) [Z, W]) 0 0 [] := Own.nil' au
 refine .ns 0 3 [] fun ab aG ac ak ax ay => ?_
 have aL := nb_new ac E.lt
 have aM := nb_new ac J.lt
 have az := gb_new ac C.size
 replace ⟨E, J, C⟩ := (sn [Z, W] ak ac).g3 E J C
 clear ak ay ac
 have O : Own (α := Int) aG ab 3 (nin (ge w.heap.size) [ab, Z, W]) 0 0 [] := Own.nil' ax
 refine .ns 0 31 [] fun ae aH aa al aA aB => ?_
 have aN := nb_new aa E.lt
 have aO := nb_new aa J.lt
 have aP := nb_new aa O.lt
 have aC := gb_new aa C.size
 replace ⟨E, J, O, C⟩ := (sn [ab, Z, W] al aa).g4 E J O C
 clear al aB aa
 have V : Own (α := List Tag) aH ae 31 (nin (ge w.heap.size) [ae, ab, Z, W]) 0 0 [] := Own.nil' aA
 refine .r 1 <| .sc [vS Z 0 0, vS ab 0 0, vS ae 0 0, vI 1] E fun ao am aD aE => ?_
 replace ⟨J, O, V, C⟩ := (so [ae, ab, Z, W] am).g4 J O V C
 clear am aE
 refine .d ?_
 have ag := J.sl aw
 replace ⟨O, V⟩ := (sd ao [ae, ab, Z, W] Z).g2 O V
 have aq := O.sl az
 replace ⟨ag, V⟩ := (sd ao [ae, ab, W] ab).g2 ag V
 have aI := V.sl aC
 replace ⟨ag, aq⟩ := (sd ao [ae, W] ae).g2 ag aq
 exact .rb Tryz.func179 Tryz.results179 aD ⟨⟨_, rfl, ⟨_, _, _, _, _, _, _, _, _, rfl, ag.w1, aq.w1, aI.w1⟩⟩, C⟩
theorem c_spec_WorldNew  {w : World} {F : Nat → Prop}   : Calls Tryz.prog 152 [].toArray w (rets fun rv w' => VS (ge w.heap.size) w' ((⟨⟨⟨[], []⟩, [], []⟩, ⟨[], [], [], 1⟩⟩ : Wld) : Wld) rv ∧ Ext w w') := by
 refine goT Tryz.func152 <| .s <| .g <| .np 100 [.slice none 0 0, .slice none 0 0, .slice none 0 0, .slice none 0 0, .slice none 0 0, .slice none 0 0, .slice none 0 0, vI 0] fun am ao ah ai E aq => ?_
 have aR : Cov nil w am := cov_new ah (Nat.le_refl _)
 have C := ai
 clear ai aq ah
 refine .d <| .s <| .g <| .cl (c_spec_l13New (w := ao) (F := all)) ?_
 rintro aZ ar ⟨⟨_, rfl, ⟨aD, ba, aE, aF, bc, aG, aH, bd, aI, aJ, bg, aK, rfl, J, O, V, W⟩⟩, aj⟩
 have Z := al1 E.lt
 have ae : Gb w.heap.size ao.heap.size := C.size
 replace ⟨E, C⟩ := (se [] aj).g2 E C
 clear aj
 have J := J.fr Z ae
 have aS := J.max
 have O := O.fr Z ae
 have aT := O.max
 have V := V.fr Z ae
 have aU := V.max
 have W := W.fr Z ae
 have aV := W.max
 clear Z
 have au := J.len
 subst au
 have av := O.len
 subst av
 have aw := V.len
 subst aw
 have ax := W.len
 subst ax
 refine .cl (c_spec_DiskNew (w := ar) (F := all)) ?_
 rintro bh bi ⟨⟨_, rfl, ⟨aL, bj, aM, aN, bk, aO, aP, bm, aQ, rfl, aa, ab, ac⟩⟩, ak⟩
 have af := al1 E.lt
 have ag : Gb w.heap.size ar.heap.size := C.size
 replace ⟨E, J, O, V, W, C⟩ := (se [am] ak).g6 E J O V W C
 clear ak
 have aa := aa.fr af ag
 have aW := aa.max
 have ab := ab.fr af ag
 have aX := ab.max
 have ac := ac.fr af ag
 have aY := ac.max
 clear af
 have ay := aa.len
 subst ay
 have az := ab.len
 subst az
 have aA := ac.len
 subst aA
 refine .r 1 <| .sc [.slice aD (((((⟨⟨[], []⟩, [], []⟩ : Sto)).idx).names).length) aE, .slice aF (((((⟨⟨[], []⟩, [], []⟩ : Sto)).idx).posts).length) aG, .slice aH ((((⟨⟨[], []⟩, [], []⟩ : Sto)).parts).length) aI, .slice aJ ((((⟨⟨[], []⟩, [], []⟩ : Sto)).mem).length) aK, .slice aL ((((⟨[], [], [], 1⟩ : Dsk)).files).length) aM, .slice aN ((((⟨[], [], [], 1⟩ : Dsk)).list).length) aO, .slice aP ((((⟨[], [], [], 1⟩ : Dsk)).names).length) aQ, vI (((⟨[], [], [], 1⟩ : Dsk)).next)] E fun bn al aB aC => ?_
 replace ⟨J, O, V, W, aa, ab, ac, C⟩ := (so [am] al).g8 J O V W aa ab ac C
 clear al aC
 exact .d <| .rb Tryz.func152 Tryz.results152 aB ⟨(VS.of (y := (⟨(⟨(⟨(((⟨⟨[], []⟩, [], []⟩ : Sto)).idx).names, (((⟨⟨[], []⟩, [], []⟩ : Sto)).idx).posts⟩ : Idx), ((⟨⟨[], []⟩, [], []⟩ : Sto)).parts, ((⟨⟨[], []⟩, [], []⟩ : Sto)).mem⟩ : Sto), (⟨((⟨[], [], [], 1⟩ : Dsk)).files, ((⟨[], [], [], 1⟩ : Dsk)).list, ((⟨[], [], [], 1⟩ : Dsk)).names, ((⟨[], [], [], 1⟩ : Dsk)).next⟩ : Dsk)⟩ : Wld)) ⟨_, rfl, ⟨_, _, _, _, _, _, _, _, _, _, _, _, _, _, _, _, _, _, _, _, _, rfl, J.w1, O.w1, V.w1, W.w1, aa.w1, ab.w1, ac.w1⟩⟩ (by rfl)), C⟩
theorem c_laws_lyPart (a : Prt) (b : Prt) {w : World} {F : Nat → Prop} {a1 : Option Addr} {n1 c1 : Nat} (h1 : RepS w F a1 n1 c1 a.ids) {a2 : Option Addr} {n2 c2 : Nat} (h2 : RepS w F a2 n2 c2 a.blocks) {a3 : Option Addr} {n3 c3 : Nat} (h3 : RepS w F a3 n3 c3 b.ids) {a4 : Option Addr} {n4 c4 : Nat} (h4 : RepS w F a4 n4 c4 b.blocks)  : Calls Tryz.prog 40 [.agg #[.slice a1 n1 c1, .slice a2 n2 c2], .agg #[.slice a3 n3 c3, .slice a4 n4 c4]].toArray w (rets fun rv w' => rv = .bool ((a == b)) ∧ Ext w w') := by
 refine goT Tryz.func40 ?_
 obtain ⟨rfl, aK, h1⟩ := h1.tp
 obtain ⟨rfl, aL, h2⟩ := h2.tp
 obtain ⟨rfl, aM, h3⟩ := h3.tp
 obtain ⟨rfl, aN, h4⟩ := h4.tp
 refine .s <| .g <| .np 75 [.slice a1 a.ids.length c1, .slice a2 a.blocks.length c2] fun V aW ag Z E av => ?_
 replace ⟨h1, h2, h3, h4⟩ := (sn [] Z ag).g4 h1 h2 h3 h4
 have C := Z
 clear Z av ag
 refine .np 75 [.slice a3 b.ids.length c3, .slice a4 b.blocks.length c4] fun W aI ah ai J aw => ?_
 replace ⟨h1, h2, h3, h4, E, C⟩ := (sn [V] ai ah).g6 h1 h2 h3 h4 E C
 clear ai aw ah
 refine .r 1 <| .d <| .s <| .s <| .g <| .r 1 <| .lb E <| .r 1 <| .lb J <| .cl (c_laws_lyInts a.ids b.ids h1.ta h3.ta (w := aI) (F := all)) ?_
 rintro aX ax ⟨rfl, aj⟩
 replace ⟨h2, h4, E, J, C⟩ := (se [W, V] aj).g5 h2 h4 E J C
 clear aj
 cases aO : (a.ids == b.ids)
 · exact .r 10 <| .d <| .ct <| .s <| .g <| .r 1 <| .d <| .rt Tryz.func40 Tryz.results40 (.bool false) ⟨(congrArg Value.bool (by cases a; cases b; grind [drop_end])), C⟩
 refine .r 3 <| .lb E <| .r 2 <| .lb J <| .r 1 <| .ne (a.blocks.length : Int) (b.blocks.length : Int) (fun ay => .r 1 <| .d <| .ct <| .s <| .g <| .r 1 <| .d <| .rt Tryz.func40 Tryz.results40 (.bool false) ⟨(congrArg Value.bool (by cases a; cases b; grind [drop_end])), C⟩) fun ay => .r 1 <| .d <| .cf <| .sk <| .s <| .s <| .g <| .r 1 <| .d <| .b 0 <| T.loop (X := Nat) 0 (fun i => [(2, .pointer (some ⟨V, 0, none⟩)), (3, .pointer (some ⟨W, 0, none⟩)), (5, vI (i : Int))]) (fun i aq => Chg (ins []) ax aq ∧ (i ≤ a.blocks.length) ∧ (a.blocks.drop i = b.blocks.drop i ↔ a.blocks = b.blocks)) (fun i => a.blocks.length - i) (by kernel_rfl) ⟨by kernel_rfl, by kernel_rfl, by kernel_rfl, trivial⟩ ⟨Chg.refl _ _, (by simp), (by simp)⟩ ?_
 rintro i aY aq ⟨O, aP, aQ⟩ aa
 have ak : Mv [W, V] [W, V] ax aq := Mv.inl O all_nil (all_cons (.inl (.head _)) (all_cons (.inl (.tail _ (.head _))) all_nil))
 replace ⟨h2, h4, E, J, C⟩ := (sp ak O).g5 h2 h4 E J C
 clear ak
 refine .s <| .s <| .g <| .r 2 <| .lb E <| .r 1 <| .bp ((i : Int) < (a.blocks.length : Int)) (fun az => ?_) (fun az => .d <| .cf <| .x 0 rfl <| .s <| .g <| .r 1 <| .d <| .rt Tryz.func40 Tryz.results40 (.bool true) ⟨(congrArg Value.bool (by cases a; cases b; grind [drop_end])), C⟩)
 refine .d <| .ct <| .sk <| .s <| .b 1 <| .s <| .gd nil 10 fun aZ al => ?_
 replace ⟨h2, h4, E, J, C, O⟩ := (se [W, V] al).g6 h2 h4 E J C O
 clear al
 refine .r [0] <| .lb 1 E id <| .r [2] ?_
 have aA : i < a.blocks.length := (by omega)
 refine .ix 3 i 1 h2 aA ?_
 obtain ⟨ar, ab⟩ : ∃ y, a.blocks[i]? = some y := ⟨_, List.getElem?_eq_getElem (by omega)⟩
 have aR := drop_at ab; have aG := List.mem_of_getElem? ab
 obtain ⟨_, ⟨ba, bc, bd, rfl, ac⟩, aB⟩ := h2.elem i ar ab
 have aC := ac.len
 subst aC
 have aS := ac.max
 refine .lh 4 0 aB id <| .r [5] <| .lb 6 J id <| .r [7] ?_
 have aD : i < b.blocks.length := (by omega)
 refine .ix 8 i 1 h4 aD ?_
 obtain ⟨au, ae⟩ : ∃ y, b.blocks[i]? = some y := ⟨_, List.getElem?_eq_getElem (by omega)⟩
 have aT := drop_at ae; have aH := List.mem_of_getElem? ae
 obtain ⟨_, ⟨bg, bh, bi, rfl, af⟩, aE⟩ := h4.elem i au ae
 have aF := af.len
 subst aF
 have aU := af.max
 refine .lh 9 0 aE id <| .d fun aJ am => ?_
 replace ⟨ac, af, C, O⟩ := (se [W, V] am).g4 ac af C O
 clear am
 refine .cl (c_laws_lyRows ar au ac.ta af.ta (w := aJ) (F := all)) ?_
 rintro bj bk ⟨rfl, ao⟩
 replace ⟨C, O⟩ := (se [] ao).g2 C O
 clear ao
 cases aV : (ar == au)
 · exact .r 1 <| .d <| .ct <| .s <| .g <| .r 1 <| .d <| .rt Tryz.func40 Tryz.results40 (.bool false) ⟨(congrArg Value.bool (by cases a; cases b; grind [drop_end])), C⟩
 exact .r 1 <| .d <| .cf <| .sk <| .ib 1 <| .g <| .r 1 <| .it ((i : Int) + 1) <| .r 1 <| .d <| aa (i + 1) _ _ ⟨by kernel_rfl, by kernel_rfl, by kernel_rfl, trivial⟩ ⟨O, (by omega), (by grind)⟩ (by first | omega | (simp only []; omega))
theorem c_spec_l12Merge (a : Prt) (b : Prt) {w : World} {F : Nat → Prop} {a1 : Option Addr} {n1 c1 : Nat} (h1 : RepS w F a1 n1 c1 a.ids) {a2 : Option Addr} {n2 c2 : Nat} (h2 : RepS w F a2 n2 c2 a.blocks) {a3 : Option Addr} {n3 c3 : Nat} (h3 : RepS w F a3 n3 c3 b.ids) {a4 : Option Addr} {n4 c4 : Nat} (h4 : RepS w F a4 n4 c4 b.blocks) (p0 : PrtSz a) (p1 : PrtSz b) : Calls Tryz.prog 139 [.agg #[.slice a1 n1 c1, .slice a2 n2 c2], .agg #[.slice a3 n3 c3, .slice a4 n4 c4]].toArray w (rets fun rv w' => VS (ge w.heap.size) w' (pMerge a b : Prt) rv ∧ Ext w w') := by
 refine goT Tryz.func139 ?_
 obtain ⟨rfl, b7, h1⟩ := h1.tp
 obtain ⟨rfl, b8, h2⟩ := h2.tp
 obtain ⟨rfl, b9, h3⟩ := h3.tp
 obtain ⟨rfl, cd, h4⟩ := h4.tp
 refine .s <| .g <| .np 75 [.slice a1 a.ids.length c1, .slice a2 a.blocks.length c2] fun Z cI aT aB E bv => ?_
 replace ⟨h1, h2, h3, h4⟩ := (sn [] aB aT).g4 h1 h2 h3 h4
 have C := aB
 clear aB bv aT
 refine .np 75 [.slice a3 b.ids.length c3, .slice a4 b.blocks.length c4] fun aa cJ aU aV J bw => ?_
 replace ⟨h1, h2, h3, h4, E, C⟩ := (sn [Z] aV aU).g6 h1 h2 h3 h4 E C
 clear aV bw aU
 refine .np 75 [.slice none 0 0, .slice none 0 0] fun ab cK aC aW O bz => ?_
 have ce := C.cn aC
 replace ⟨h1, h2, h3, h4, E, J, C⟩ := (sn [aa, Z] aW aC).g7 h1 h2 h3 h4 E J C
 clear aW bz aC
 refine .d <| .s <| .g <| .ns 0 42 [] fun aq aD ak aX bA bB => ?_
 have bC := nb_new ak E.lt
 have bD := nb_new ak J.lt
 have bE := nb_new ak O.lt
 have bF := C.cn ak
 replace ⟨h1, h2, h3, h4, E, J, O, C⟩ := (sn [ab, aa, Z] aX ak).g8 h1 h2 h3 h4 E J O C
 clear aX bB ak
 have bG : Own (α := List Row) aD aq 42 (nin (ge w.heap.size) [aq, ab, aa, Z]) 0 0 [] := Own.nil' bA
 refine .r 1 <| .d <| .s <| .s <| .g <| .r 1 <| .d <| .b 0 <| T.loop (X := (List (List Row)) × Nat × Nat × Nat × Nat) (([] : List (List Row)), aq, 0, 0, 1) (fun (blocks, r_blocks, n_blocks, c_blocks, id) => [(2, .pointer (some ⟨Z, 0, none⟩)), (3, .pointer (some ⟨aa, 0, none⟩)), (4, .pointer (some ⟨ab, 0, none⟩)), (5, vS r_blocks n_blocks c_blocks), (6, vI (id : Int))]) (fun (blocks, r_blocks, n_blocks, c_blocks, id) al => Chg (ins [aq]) aD al ∧ Own al r_blocks 42 (nin (ge w.heap.size) [r_blocks, ab, aa, Z]) n_blocks c_blocks blocks ∧ OrB r_blocks aq aD.heap.size ∧ (1 ≤ id) ∧ (id ≤ 7) ∧ (blocks = pMergeL a b (id - 1))) (fun (blocks, r_blocks, n_blocks, c_blocks, id) => 7 - id) (by kernel_rfl) ⟨by kernel_rfl, by kernel_rfl, by kernel_rfl, by kernel_rfl, by kernel_rfl, trivial⟩ ⟨Chg.refl _ _, bG, orb_refl, (by simp [pMergeL]), (by simp [pMergeL]), (by simp [pMergeL])⟩ ?_
 rintro ⟨blocks, r_blocks, n_blocks, c_blocks, id⟩ cL al ⟨W, V, ag, cg, ci, cj⟩ aE
 have bH := nb_or' ag bC E.lt
 have bI := nb_or' ag bD J.lt
 have ck := nb_or' ag bE O.lt
 have cm := cov_or' ag bF C.size
 have bJ : Cov (ins [aq]) aD aq := ⟨.inl (.head _)⟩
 have co := cov_or' ag bJ (Nat.le_refl _)
 have aY : Mv [aq, ab, aa, Z] [r_blocks, ab, aa, Z] aD al := Mv.inl W (all_cons (.head _) all_nil) (all_cons (orb_mem ag (.head _)) (all_cons (.inl (.tail _ (.head _))) (all_cons (.inl (.tail _ (.tail _ (.head _)))) (all_cons (.inl (.tail _ (.tail _ (.tail _ (.head _))))) all_nil))))
 replace ⟨h1, h2, h3, h4, E, J, O, C⟩ := (sp aY W).g8 h1 h2 h3 h4 E J O C
 clear aY
 have cp := V.len; have cq := V.max
 refine .s <| .s <| .g <| .r 1 <| .bp ((id : Int) ≤ 6) (fun bK => ?_) (fun bK => ?_)
 · refine .d <| .ct <| .sk <| .s <| .b 1 ?_
   replace h1 := h1.into
   replace h2 := h2.into
   replace h3 := h3.into
   replace h4 := h4.into
   have bL : Gb (Z + 1) al.heap.size := E.lt
   have bM : Gb (aa + 1) al.heap.size := J.lt
   refine .gd (mtb [r_blocks] al.heap.size) 9 fun cM aZ => ?_
   replace ⟨h1, h2, h3, h4, E, J, O, V, C, W⟩ := (se [r_blocks, ab, aa, Z] aZ).g10 h1 h2 h3 h4 E J O V C W
   clear aZ
   refine .r [0] <| .ln 1 E (nS_of (all_cons (Nb.symm bH) all_nil) bL) <| .r [2] <| .ln 4 J (nS_of (all_cons (Nb.symm bI) all_nil) bM) <| .r [5] <| .go 3 <| .cl (fun bc ax => c_spec_l12Of a (id : Int) ((h1.base (fun _ _ h => h.1)).ext ax) ((h2.base (fun _ _ h => h.1)).ext ax) (by grind [PrtSz]) (w := bc) (F := nin (fo F w.heap.size) [r_blocks, ab, aa, Z])) ?_
   intro bc ax
   replace ⟨h3, h4, E, J, O, V, C, W⟩ := (se [r_blocks, ab, aa, Z] ax).g8 h3 h4 E J O V C W
   rintro cN cO ⟨⟨cP, cQ, rfl, af⟩, aF⟩
   have aG := al4 V.lt O.lt J.lt E.lt
   have bd : Gb w.heap.size bc.heap.size := C.size
   have hkeep_ := aF
   replace ⟨h3, h4, E, J, O, V, C, W⟩ := (se [r_blocks, ab, aa, Z] aF).g8 h3 h4 E J O V C W
   clear aF
   refine ⟨Ext.chg hkeep_, ?_⟩
   replace af := RepS.mixed' (M := [r_blocks, ab, aa, Z]) af aG bd
   have bV := af.max
   clear aG
   refine .go 6 <| .cl (fun aH am => c_spec_l12Of b (id : Int) ((h3.base (fun _ _ h => h.1)).ext am) ((h4.base (fun _ _ h => h.1)).ext am) (by grind [PrtSz]) (w := aH) (F := nin (fo F w.heap.size) [r_blocks, ab, aa, Z])) ?_
   intro aH am
   replace ⟨E, J, O, V, af, C, W⟩ := (se [r_blocks, ab, aa, Z] am).g7 E J O V af C W
   rintro cr cu ⟨⟨cv, cw, rfl, ay⟩, ar⟩
   have aI := al4 V.lt O.lt J.lt E.lt
   have bg : Gb w.heap.size aH.heap.size := C.size
   have hkeep_ := ar
   replace ⟨E, J, O, V, af, C, W⟩ := (se [r_blocks, ab, aa, Z] ar).g7 E J O V af C W
   clear ar
   refine ⟨Ext.chg hkeep_, ?_⟩
   replace ay := RepS.mixed' (M := [r_blocks, ab, aa, Z]) ay aI bg
   have bW := ay.max
   clear aI
   refine .go 7 <| .cl (fun aJ ao => c_spec_l2Merge (partOf a (id : Int)) (partOf b (id : Int)) (af.ta.ext ao) (ay.ta.ext ao) (by have q1 := partOf_len p0 id; have q2 := partOf_len p1 id; omega) (w := aJ) (F := all)) ?_
   intro aJ ao
   replace ⟨E, J, O, V, C, W⟩ := (se [r_blocks, ab, aa, Z] ao).g6 E J O V C W
   rintro cx cy ⟨⟨bN, bO, rfl, ac⟩, au⟩
   have aK := al4 V.lt O.lt J.lt E.lt
   have bh : Gb w.heap.size aJ.heap.size := C.size
   have hkeep_ := au
   replace ⟨E, J, O, V, C, W⟩ := (se [r_blocks, ab, aa, Z] au).g6 E J O V C W
   clear au
   refine ⟨Ext.chg hkeep_, ?_⟩
   have ac := ac.fr aK bh
   have bX := ac.max
   clear aK
   refine .go 8 <| .ns 1 42 [.slice bN ((sMerge (partOf a (id : Int)) (partOf b (id : Int))).length) bO] fun cz aL => ?_
   replace ⟨E, J, O, V, ac, C, W⟩ := (se [r_blocks, ab, aa, Z] aL).g7 E J O V ac C W
   clear aL
   intro ba cA ae aM av bi
   have bj := nb_new ae E.lt
   have bk := nb_new ae J.lt
   have bm := nb_new ae O.lt
   have aN := nb_new ae V.lt
   have bn := gb_new ae C.size
   replace ⟨E, J, O, V, ac, C, W⟩ := (se [r_blocks, ab, aa, Z] aM).g7 E J O V ac C W
   clear aM bi ae
   refine .d fun cB aO => ?_
   replace ⟨E, J, O, V, ac, av, C, W⟩ := (se [r_blocks, ab, aa, Z] aO).g8 E J O V ac av C W
   clear aO
   have aA : nin (ge w.heap.size) [r_blocks, ab, aa, Z] ba ∧ ba ≠ r_blocks := hap_mk bn (all_cons aN (all_cons bm (all_cons bk (all_cons bj all_nil)))) aN
   refine RG.append1 (T := 73) (ty := 73) (y := sMerge (partOf a (id : Int)) (partOf b (id : Int))) V av (by kernel_rfl) (by kernel_rfl) ⟨_, _, _, rfl, ac.oi⟩ aA (by grind [pMergeL_len]) fun bP bQ cC ah az aP => ?_
   have bo := orb_or az ag W.size
   replace ⟨E, J, O, C, W⟩ := (s1 aP).g5 E J O C W
   clear aP
   replace ah := ah.rn r_blocks
   clear az
   have bY := ah.len; have bZ := ah.max
   exact .r 1 <| .d <| .ib 1 <| .g <| .r 1 <| .it ((id : Int) + 1) <| .r 1 <| .d <| aE ((blocks ++ [sMerge (partOf a (id : Int)) (partOf b (id : Int))]), bP, n_blocks + 1, bQ, id + 1) _ _ ⟨by kernel_rfl, by kernel_rfl, by kernel_rfl, by kernel_rfl, by kernel_rfl, trivial⟩ ⟨W, ah, bo, (by omega), (by omega), (by obtain ⟨q, rfl⟩ : ∃ q, id = q + 1 := ⟨id - 1, by omega⟩; have := pMergeL_succ a b q; grind)⟩ (by first | omega | (simp only []; omega))
 refine .d <| .cf <| .x 0 rfl <| .s <| .g <| .r 1 <| .cl (c_spec_l12Make blocks (V.rep) (by grind [pMergeL_len]) (by have q := pMergeL_mem p0 p1 6; grind) (w := al) (F := all)) ?_
 rintro cD cE ⟨⟨_, rfl, ⟨bR, cF, bS, bT, cG, bU, rfl, ai, aj⟩⟩, aQ⟩
 have aw := al4 V.lt O.lt J.lt E.lt
 have aR : Gb w.heap.size al.heap.size := C.size
 replace ⟨O, C⟩ := (se [] aQ).g2 O C
 clear aQ
 have ai := ai.fr aw aR
 have b0 := ai.max
 have aj := aj.fr aw aR
 have b6 := aj.max
 clear aw
 have bq := ai.len
 subst bq
 have br := aj.len
 subst br
 refine .sc [.slice bR (((pMake blocks).ids).length) bS, .slice bT (((pMake blocks).blocks).length) bU] O fun cH aS bt bu => ?_
 replace ⟨ai, aj, C⟩ := (so [r_blocks, ab, aa, Z] aS).g3 ai aj C
 clear aS bu
 exact .d <| .rb Tryz.func139 Tryz.results139 bt ⟨(VS.of (y := (pMake blocks)) ⟨_, rfl, ⟨_, _, _, _, _, _, rfl, ai.w1, aj.w1⟩⟩ (by grind [pMerge])), C⟩
theorem c_spec_l13Rows (s : Sto) (id : Int) {w : World} {F : Nat → Prop} {a1 : Option Addr} {n1 c1 : Nat} (h1 : RepS w F a1 n1 c1 s.idx.names) {a2 : Option Addr} {n2 c2 : Nat} (h2 : RepS w F a2 n2 c2 s.idx.posts) {a3 : Option Addr} {n3 c3 : Nat} (h3 : RepS w F a3 n3 c3 s.parts) {a4 : Option Addr} {n4 c4 : Nat} (h4 : RepS w F a4 n4 c4 s.mem) (p0 : s.parts.length ≤ 100) (p1 : ∀ p ∈ s.parts, PrtSz p) (p2 : s.mem.length ≤ 1000) : Calls Tryz.prog 69 [.agg #[.slice a1 n1 c1, .slice a2 n2 c2, .slice a3 n3 c3, .slice a4 n4 c4], .int .i64 id].toArray w (rets fun rv w' => VL (ge w.heap.size) w' (rowsOf s id : List Row) rv ∧ Ext w w') := by
 refine goT Tryz.func69 ?_
 obtain ⟨rfl, bo, h1⟩ := h1.tp
 obtain ⟨rfl, bq, h2⟩ := h2.tp
 obtain ⟨rfl, br, h3⟩ := h3.tp
 obtain ⟨rfl, bt, h4⟩ := h4.tp
 refine .s <| .g <| .np 30 [.slice a1 s.idx.names.length c1, .slice a2 s.idx.posts.length c2, .slice a3 s.parts.length c3, .slice a4 s.mem.length c4] fun J bN ay ai C aM => ?_
 replace ⟨h3, h4⟩ := (sn [] ai ay).g2 h3 h4
 have E := ai
 clear ai aM ay
 refine .r 1 <| .d <| .s <| .g <| .ns 0 33 [] fun aj av af az aN aO => ?_
 have bu := nb_new af C.lt
 have aP := gb_new af E.size
 replace ⟨h3, h4, C, E⟩ := (sn [J] az af).g4 h3 h4 C E
 clear az aO af
 have aQ : Own (α := Row) av aj 33 (nin (ge w.heap.size) [aj, J]) 0 0 [] := Own.nil' aN
 refine .r 1 <| .d <| .s <| .s <| .g <| .r 1 <| .d <| .b 0 ?_
 have bg := aQ.sl aP
 replace ⟨h3, h4⟩ := (sd av [aj, J] aj).g2 h3 h4
 refine T.loop (X := (List Row) × (Option Addr) × Nat × Nat × Nat) (([] : List Row), some ⟨aj, 0, none⟩, 0, 0, 0) (fun (out, a_out, n_out, c_out, i) => [(1, vI id), (2, .pointer (some ⟨J, 0, none⟩)), (5, .slice a_out n_out c_out), (6, vI (i : Int))]) (fun (out, a_out, n_out, c_out, i) ab => Chg (ins []) av ab ∧ RepS ab (nin (ge w.heap.size) [J]) a_out n_out c_out out ∧ (i ≤ s.parts.length) ∧ (out.length ≤ 1000 * i) ∧ ((s.parts.drop i).foldl (rowsP id) out = s.parts.foldl (rowsP id) [])) (fun (out, a_out, n_out, c_out, i) => s.parts.length - i) (by kernel_rfl) ⟨by kernel_rfl, by kernel_rfl, by kernel_rfl, by kernel_rfl, trivial⟩ ⟨Chg.refl _ _, bg, (by simp), (by simp), (by simp)⟩ ?_
 rintro ⟨out, a_out, n_out, c_out, i⟩ bO ab ⟨V, O, bv, bw, bz⟩ ak
 have aA : Mv [J] [J] av ab := Mv.inl V all_nil (all_cons (.inl (.head _)) all_nil)
 replace ⟨h3, h4, C, E⟩ := (sp aA V).g4 h3 h4 C E
 clear aA
 have bA := O.len; have bB := O.max
 refine .s <| .s <| .g <| .r 2 <| .lb C <| .r 1 <| .bp ((i : Int) < (s.parts.length : Int)) (fun aR => ?_) (fun aR => ?_)
 · refine .d <| .ct <| .sk <| .s <| .b 1 <| .g <| .r 2 <| .lb C <| .r 1 ?_
   have aS : i < s.parts.length := (by omega)
   refine .ix i 2 h3 aS ?_
   obtain ⟨al, am⟩ : ∃ y, s.parts[i]? = some y := ⟨_, List.getElem?_eq_getElem (by omega)⟩
   have bC := drop_at am; have bd := List.mem_of_getElem? am
   obtain ⟨_, ⟨bP, bQ, bR, bS, bT, bU, rfl, aF, aG⟩, aT⟩ := h3.elem i al am
   have aU := aF.len
   subst aU
   have bD := aF.max
   have aV := aG.len
   subst aV
   have bE := aG.max
   refine .lg 0 aT <| .r 1 <| .cl (c_spec_l12Of al id aF aG (by grind [PrtSz]) (w := ab) (F := nin (fo F w.heap.size) [J])) ?_
   rintro bV aW ⟨⟨bW, bX, rfl, aw⟩, aB⟩
   have aC := al1 C.lt
   have aX : Gb w.heap.size ab.heap.size := E.size
   replace ⟨h4, C, O, E, V⟩ := (se [J] aB).g5 h4 C O E V
   clear aB
   replace aw := RepS.mixed' (M := [J]) aw aC aX
   have bF := aw.max
   clear aC
   refine .cl (c_spec_l2Merge out (partOf al id) O.ta aw.ta (by grind [partOf_len]) (w := aW) (F := all)) ?_
   rintro bY bZ ⟨⟨bh, bi, rfl, ax⟩, aD⟩
   have aE := al1 C.lt
   have aY : Gb w.heap.size aW.heap.size := E.size
   replace ⟨h4, C, O, E, V⟩ := (se [J] aD).g5 h4 C O E V
   clear aD
   have ax := ax.fr aE aY
   have bG := ax.max
   clear aE
   exact .r 1 <| .d <| .ib 1 <| .g <| .r 1 <| .it ((i : Int) + 1) <| .r 1 <| .d <| ak (sMerge out (partOf al id), bh, (sMerge out (partOf al id)).length, bi, i + 1) _ _ ⟨by kernel_rfl, by kernel_rfl, by kernel_rfl, by kernel_rfl, trivial⟩ ⟨V, ax, (by omega), (by grind [sMerge_len, partOf_len]), (by grind [rowsP, sMerge_len, partOf_len])⟩ (by first | omega | (simp only []; omega))
 refine .d <| .cf <| .x 0 rfl <| .s <| .s <| .g <| .r 1 <| .d <| .b 2 <| T.loop (X := (List Row) × (Option Addr) × Nat × Nat × Nat) ((out : List Row), a_out, n_out, c_out, 0) (fun (out, a_out, n_out, c_out, i) => [(1, vI id), (2, .pointer (some ⟨J, 0, none⟩)), (5, .slice a_out n_out c_out), (7, vI (i : Int))]) (fun (out, a_out, n_out, c_out, i) ah => Chg (ins []) ab ah ∧ RepS ah (nin (ge w.heap.size) [J]) a_out n_out c_out out ∧ (i ≤ s.mem.length) ∧ (out.length ≤ 100000 + i) ∧ ((s.mem.drop i).foldl (rowsM id) out = rowsOf s id)) (fun (out, a_out, n_out, c_out, i) => s.mem.length - i) (by kernel_rfl) ⟨by kernel_rfl, by kernel_rfl, by kernel_rfl, by kernel_rfl, trivial⟩ ⟨Chg.refl _ _, O, (by grind [rowsOf, drop_end]), (by grind [rowsOf, drop_end]), (by grind [rowsOf, drop_end])⟩ ?_
 rintro ⟨out, a_out, n_out, c_out, i⟩ bH ah ⟨Z, W, bI, bJ, bK⟩ aa
 have ao : Mv [J] [J] ab ah := Mv.inl Z all_nil (all_cons (.inl (.head _)) all_nil)
 replace ⟨h4, C, E⟩ := (sp ao Z).g3 h4 C E
 clear ao
 have bj := W.len; have bk := W.max
 refine .s <| .s <| .g <| .r 2 <| .lb C <| .r 1 <| .bp ((i : Int) < (s.mem.length : Int)) (fun aH => ?_) (fun aH => .d <| .cf <| .x 2 rfl <| .s <| .g <| .r 2 <| .d <| .rt Tryz.func69 Tryz.results69 (.slice a_out n_out c_out) ⟨(W.vl (by grind [drop_end]) (fun _ _ h => h.1)), E⟩)
 refine .d <| .ct <| .sk <| .s <| .b 3 <| .s <| .g <| .r 1 <| .lb C <| .r 1 ?_
 have aI : i < s.mem.length := (by omega)
 refine .ix i 3 h4 aI <| .r 1 ?_
 obtain ⟨ac, ae⟩ : ∃ y, s.mem[i]? = some y := ⟨_, List.getElem?_eq_getElem (by omega)⟩
 have bm := drop_at ae; have aZ := List.mem_of_getElem? ae
 obtain ⟨_, rfl, aq⟩ := h4.elem i ac ae
 refine .lh 0 aq <| .r 1 <| .eq ac.id id (fun aJ => ?_) (fun aJ => .d <| .cf <| .sk <| .ib 3 <| .g <| .r 1 <| .it ((i : Int) + 1) <| .r 1 <| .d <| aa (out, a_out, n_out, c_out, i + 1) _ _ ⟨by kernel_rfl, by kernel_rfl, by kernel_rfl, by kernel_rfl, trivial⟩ ⟨Z, W, (by grind [rowsM, sPut_len]), (by grind [rowsM, sPut_len]), (by grind [rowsM, sPut_len])⟩ (by first | omega | (simp only []; omega)))
 refine .d <| .ct <| .g <| .r 2 <| .lb C <| .r 1 ?_
 have aK : i < s.mem.length := (by omega)
 refine .ix i 3 h4 aK <| .r 1 <| .lg 1 aq <| .cl (c_spec_l2Put out ac.row W.ta (by omega) (w := ah) (F := all)) ?_
 rintro bL bM ⟨⟨ba, bc, rfl, ag⟩, ar⟩
 have au := al1 C.lt
 have aL : Gb w.heap.size ah.heap.size := E.size
 replace ⟨W, E, Z⟩ := (se [J] ar).g3 W E Z
 clear ar
 have ag := ag.fr au aL
 have bn := ag.max
 clear au
 exact .r 1 <| .d <| .ib 3 <| .g <| .r 1 <| .it ((i : Int) + 1) <| .r 1 <| .d <| aa (sPut out ac.row, ba, (sPut out ac.row).length, bc, i + 1) _ _ ⟨by kernel_rfl, by kernel_rfl, by kernel_rfl, by kernel_rfl, trivial⟩ ⟨Z, ag, (by grind [rowsM, sPut_len]), (by grind [rowsM, sPut_len]), (by grind [rowsM, sPut_len])⟩ (by first | omega | (simp only []; omega))
theorem c_spec_l21At (d : Dsk) (num : Int) {w : World} {F : Nat → Prop} {a1 : Option Addr} {n1 c1 : Nat} (h1 : RepS w F a1 n1 c1 d.files) {a2 : Option Addr} {n2 c2 : Nat} (h2 : RepS w F a2 n2 c2 d.list) {a3 : Option Addr} {n3 c3 : Nat} (h3 : RepS w F a3 n3 c3 d.names)  : Calls Tryz.prog 96 [.agg #[.slice a1 n1 c1, .slice a2 n2 c2, .slice a3 n3 c3, .int .i64 d.next], .int .i64 num].toArray w (rets fun rv w' => rv = .int .i64 (numAt d num) ∧ Ext w w') := by
 refine goT Tryz.func96 ?_
 obtain ⟨rfl, au, h1⟩ := h1.tp
 obtain ⟨rfl, av, h2⟩ := h2.tp
 obtain ⟨rfl, aw, h3⟩ := h3.tp
 refine .s <| .g <| .np 83 [.slice a1 d.files.length c1, .slice a2 d.list.length c2, .slice a3 d.names.length c3, vI d.next] fun ab ae Z J C af => ?_
 replace h1 := (sn [] J Z).g1 h1
 have E := J
 clear J af Z
 refine .r 1 <| .d <| .s <| .s <| .g <| .r 1 <| .d <| .b 0 <| T.loop (X := Nat) 0 (fun i => [(1, vI num), (2, .pointer (some ⟨ab, 0, none⟩)), (5, vI (i : Int))]) (fun i ac => Chg (ins []) ae ac ∧ (i ≤ d.files.length) ∧ (numF num i (d.files.drop i) = numAt d num)) (fun i => d.files.length - i) (by kernel_rfl) ⟨by kernel_rfl, by kernel_rfl, by kernel_rfl, trivial⟩ ⟨Chg.refl _ _, (by simp [numAt]), (by simp [numAt])⟩ ?_
 rintro i aC ac ⟨O, ax, ay⟩ V
 have aa : Mv [ab] [ab] ae ac := Mv.inl O all_nil (all_cons (.inl (.head _)) all_nil)
 replace ⟨h1, C, E⟩ := (sp aa O).g3 h1 C E
 clear aa
 refine .s <| .s <| .g <| .r 2 <| .lb C <| .r 1 <| .bp ((i : Int) < (d.files.length : Int)) (fun ag => ?_) (fun ag => .d <| .cf <| .x 0 rfl <| .s <| .g <| .r 1 <| .d <| .rt Tryz.func96 Tryz.results96 (vI (-1)) ⟨(congrArg (Value.int .i64) (by grind [numF, drop_end])), E⟩)
 refine .d <| .ct <| .sk <| .s <| .b 1 <| .s <| .g <| .r 1 <| .lb C <| .r 1 ?_
 have ah : i < d.files.length := (by omega)
 refine .ix i 3 h1 ah <| .r 1 ?_
 obtain ⟨ai, W⟩ : ∃ y, d.files[i]? = some y := ⟨_, List.getElem?_eq_getElem (by omega)⟩
 have az := drop_at W; have ar := List.mem_of_getElem? W
 obtain ⟨_, ⟨aD, aE, aF, aG, aH, aI, rfl, aj, ak⟩, al⟩ := h1.elem i ai W
 have am := aj.len
 subst am
 have aA := aj.max
 have ao := ak.len
 subst ao
 have aB := ak.max
 exact .lh 0 al <| .r 1 <| .eq ai.num num (fun aq => .d <| .ct <| .s <| .g <| .r 2 <| .d <| .rt Tryz.func96 Tryz.results96 (vI (i : Int)) ⟨(congrArg (Value.int .i64) (by grind [numF, drop_end])), E⟩) fun aq => .d <| .cf <| .sk <| .ib 1 <| .g <| .r 1 <| .it ((i : Int) + 1) <| .r 1 <| .d <| V (i + 1) _ _ ⟨by kernel_rfl, by kernel_rfl, by kernel_rfl, trivial⟩ ⟨O, (by omega), (by grind [numF])⟩ (by first | omega | (simp only []; omega))
theorem c_spec_l11At (ix : Idx) (n : List Tag) {w : World} {F : Nat → Prop} {a1 : Option Addr} {n1 c1 : Nat} (h1 : RepS w F a1 n1 c1 ix.names) {a2 : Option Addr} {n2 c2 : Nat} (h2 : RepS w F a2 n2 c2 ix.posts) {a3 : Option Addr} {n3 c3 : Nat} (h3 : RepS w F a3 n3 c3 n) (p0 : ix.names.length ≤ 1000) (p1 : ∀ n ∈ ix.names, NmSz n) (p2 : NmSz n) : Calls Tryz.prog 157 [.agg #[.slice a1 n1 c1, .slice a2 n2 c2], .slice a3 n3 c3].toArray w (rets fun rv w' => rv = .int .i64 (nmAt ix n) ∧ Ext w w') := by
 refine goT Tryz.func157 ?_
 obtain ⟨rfl, au, h1⟩ := h1.tp
 obtain ⟨rfl, av, h2⟩ := h2.tp
 obtain ⟨rfl, aw, h3⟩ := h3.tp
 refine .s <| .g <| .np 26 [.slice a1 ix.names.length c1, .slice a2 ix.posts.length c2] fun aa ai ac O J aj => ?_
 replace ⟨h1, h3⟩ := (sn [] O ac).g2 h1 h3
 have C := O
 clear O aj ac
 refine .r 1 <| .d <| .s <| .s <| .g <| .r 1 <| .d <| .b 0 <| T.loop (X := Nat) 0 (fun i => [(1, .slice a3 n.length c3), (2, .pointer (some ⟨aa, 0, none⟩)), (5, vI (i : Int))]) (fun i ab => Chg (ins []) ai ab ∧ (i ≤ ix.names.length) ∧ (nmF (text n) i (ix.names.drop i) = nmAt ix n)) (fun i => ix.names.length - i) (by kernel_rfl) ⟨by kernel_rfl, by kernel_rfl, by kernel_rfl, trivial⟩ ⟨Chg.refl _ _, (by simp [nmAt]), (by simp [nmAt])⟩ ?_
 rintro i aC ab ⟨E, ax, ay⟩ V
 have ae : Mv [aa] [aa] ai ab := Mv.inl E all_nil (all_cons (.inl (.head _)) all_nil)
 replace ⟨h1, h3, J, C⟩ := (sp ae E).g4 h1 h3 J C
 clear ae
 refine .s <| .s <| .g <| .r 2 <| .lb J <| .r 1 <| .bp ((i : Int) < (ix.names.length : Int)) (fun ak => ?_) (fun ak => .d <| .cf <| .x 0 rfl <| .s <| .g <| .r 1 <| .d <| .rt Tryz.func157 Tryz.results157 (vI 0) ⟨(congrArg (Value.int .i64) (by grind [nmF, drop_end])), C⟩)
 refine .d <| .ct <| .sk <| .s <| .b 1 <| .s <| .g <| .r 1 <| .lb J <| .r 1 ?_
 have al : i < ix.names.length := (by omega)
 refine .ix i 1 h1 al ?_
 obtain ⟨W, Z⟩ : ∃ y, ix.names[i]? = some y := ⟨_, List.getElem?_eq_getElem (by omega)⟩
 have az := drop_at Z; have aq := List.mem_of_getElem? Z
 obtain ⟨_, ⟨aD, aE, aF, rfl, ah⟩, am⟩ := h1.elem i W Z
 have ao := ah.len
 subst ao
 have aA := ah.max
 refine .lh 0 am <| .cl (c_spec_l3Text W ah.ta (by grind [NmSz]) (by grind [NmSz]) (w := ab) (F := all)) ?_
 rintro aG ar ⟨rfl, af⟩
 replace ⟨h3, C, E⟩ := (se [aa] af).g3 h3 C E
 clear af
 refine .r 1 <| .cl (c_spec_l3Text n h3.ta (by grind [NmSz]) (by grind [NmSz]) (w := ar) (F := all)) ?_
 rintro aH aI ⟨rfl, ag⟩
 replace ⟨C, E⟩ := (se [] ag).g2 C E
 clear ag
 refine RG.eqv (v := .bool ((text W == text n))) (by kernel_rfl) (s_eq (text W) (text n)) ?_
 cases aB : (text W == text n)
 · exact .d <| .cf <| .sk <| .ib 1 <| .g <| .r 1 <| .it ((i : Int) + 1) <| .r 1 <| .d <| V (i + 1) _ _ ⟨by kernel_rfl, by kernel_rfl, by kernel_rfl, trivial⟩ ⟨E, (by omega), (by grind [nmF])⟩ (by first | omega | (simp only []; omega))
 exact .d <| .ct <| .s <| .g <| .r 1 <| .it ((i : Int) + 1) <| .r 1 <| .d <| .rt Tryz.func157 Tryz.results157 (vI ((i : Int) + 1)) ⟨(congrArg (Value.int .i64) (by grind [nmF, drop_end])), C⟩
theorem c_spec_l21Counts (d : Dsk) (num : Int) {w : World} {F : Nat → Prop} {a1 : Option Addr} {n1 c1 : Nat} (h1 : RepS w F a1 n1 c1 d.files) {a2 : Option Addr} {n2 c2 : Nat} (h2 : RepS w F a2 n2 c2 d.list) {a3 : Option Addr} {n3 c3 : Nat} (h3 : RepS w F a3 n3 c3 d.names)  : Calls Tryz.prog 208 [.agg #[.slice a1 n1 c1, .slice a2 n2 c2, .slice a3 n3 c3, .int .i64 d.next], .int .i64 num].toArray w (rets fun rv w' => rv = .bool ((d.list.contains num)) ∧ Ext w w') := by
 refine goT Tryz.func208 ?_
 obtain ⟨rfl, am, h1⟩ := h1.tp
 obtain ⟨rfl, ao, h2⟩ := h2.tp
 obtain ⟨rfl, aq, h3⟩ := h3.tp
 refine .s <| .g <| .np 83 [.slice a1 d.files.length c1, .slice a2 d.list.length c2, .slice a3 d.names.length c3, vI d.next] fun ab ae Z J C af => ?_
 replace h2 := (sn [] J Z).g1 h2
 have E := J
 clear J af Z
 refine .r 1 <| .d <| .s <| .s <| .g <| .r 1 <| .d <| .b 0 <| T.loop (X := Nat) 0 (fun i => [(1, vI num), (2, .pointer (some ⟨ab, 0, none⟩)), (5, vI (i : Int))]) (fun i ac => Chg (ins []) ae ac ∧ (i ≤ d.list.length) ∧ ((d.list.drop i).contains num = d.list.contains num)) (fun i => d.list.length - i) (by kernel_rfl) ⟨by kernel_rfl, by kernel_rfl, by kernel_rfl, trivial⟩ ⟨Chg.refl _ _, (by simp), (by simp)⟩ ?_
 rintro i aw ac ⟨O, ar, au⟩ V
 have aa : Mv [ab] [ab] ae ac := Mv.inl O all_nil (all_cons (.inl (.head _)) all_nil)
 replace ⟨h2, C, E⟩ := (sp aa O).g3 h2 C E
 clear aa
 refine .s <| .s <| .g <| .r 2 <| .lb C <| .r 1 <| .bp ((i : Int) < (d.list.length : Int)) (fun ag => ?_) (fun ag => .d <| .cf <| .x 0 rfl <| .s <| .g <| .r 1 <| .d <| .rt Tryz.func208 Tryz.results208 (.bool false) ⟨(congrArg Value.bool (by grind [drop_end])), E⟩)
 refine .d <| .ct <| .sk <| .s <| .b 1 <| .s <| .g <| .r 1 <| .lb C <| .r 1 ?_
 have ah : i < d.list.length := (by omega)
 refine .ix i 1 h2 ah ?_
 obtain ⟨ai, W⟩ : ∃ y, d.list[i]? = some y := ⟨_, List.getElem?_eq_getElem (by omega)⟩
 have av := drop_at W; have al := List.mem_of_getElem? W
 obtain ⟨_, rfl, aj⟩ := h2.elem i ai W
 exact .lh 0 aj <| .r 1 <| .eq ai num (fun ak => .d <| .ct <| .s <| .g <| .r 1 <| .d <| .rt Tryz.func208 Tryz.results208 (.bool true) ⟨(congrArg Value.bool (by grind [drop_end])), E⟩) fun ak => .d <| .cf <| .sk <| .ib 1 <| .g <| .r 1 <| .it ((i : Int) + 1) <| .r 1 <| .d <| V (i + 1) _ _ ⟨by kernel_rfl, by kernel_rfl, by kernel_rfl, trivial⟩ ⟨O, (by omega), (by grind)⟩ (by first | omega | (simp only []; omega))
theorem c_laws_lyIndex (a : Idx) (b : Idx) {w : World} {F : Nat → Prop} {a1 : Option Addr} {n1 c1 : Nat} (h1 : RepS w F a1 n1 c1 a.names) {a2 : Option Addr} {n2 c2 : Nat} (h2 : RepS w F a2 n2 c2 a.posts) {a3 : Option Addr} {n3 c3 : Nat} (h3 : RepS w F a3 n3 c3 b.names) {a4 : Option Addr} {n4 c4 : Nat} (h4 : RepS w F a4 n4 c4 b.posts)  : Calls Tryz.prog 42 [.agg #[.slice a1 n1 c1, .slice a2 n2 c2], .agg #[.slice a3 n3 c3, .slice a4 n4 c4]].toArray w (rets fun rv w' => rv = .bool ((a == b)) ∧ Ext w w') := by
 refine goT Tryz.func42 ?_
 obtain ⟨rfl, bv, h1⟩ := h1.tp
 obtain ⟨rfl, bw, h2⟩ := h2.tp
 obtain ⟨rfl, bz, h3⟩ := h3.tp
 obtain ⟨rfl, bA, h4⟩ := h4.tp
 refine .s <| .g <| .np 26 [.slice a1 a.names.length c1, .slice a2 a.posts.length c2] fun W bU ay af E aP => ?_
 replace ⟨h1, h2, h3, h4⟩ := (sn [] af ay).g4 h1 h2 h3 h4
 have C := af
 clear af aP ay
 refine .np 26 [.slice a3 b.names.length c3, .slice a4 b.posts.length c4] fun Z aQ az aA J aR => ?_
 replace ⟨h1, h2, h3, h4, E, C⟩ := (sn [W] aA az).g6 h1 h2 h3 h4 E C
 clear aA aR az
 refine .r 1 <| .d <| .s <| .s <| .g <| .r 1 <| .lb E <| .r 2 <| .lb J <| .r 1 <| .ne (a.names.length : Int) (b.names.length : Int) (fun aS => .r 9 <| .d <| .ct <| .s <| .g <| .r 1 <| .d <| .rt Tryz.func42 Tryz.results42 (.bool false) ⟨(congrArg Value.bool (by cases a; cases b; grind [drop_end, pst_eq])), C⟩) fun aS => .r 2 <| .lb E <| .r 2 <| .lb J <| .r 1 <| .ne (a.posts.length : Int) (b.posts.length : Int) (fun aT => .r 1 <| .d <| .ct <| .s <| .g <| .r 1 <| .d <| .rt Tryz.func42 Tryz.results42 (.bool false) ⟨(congrArg Value.bool (by cases a; cases b; grind [drop_end, pst_eq])), C⟩) fun aT => .r 1 <| .d <| .cf <| .sk <| .s <| .s <| .g <| .r 1 <| .d <| .b 0 <| T.loop (X := Nat) 0 (fun k => [(2, .pointer (some ⟨W, 0, none⟩)), (3, .pointer (some ⟨Z, 0, none⟩)), (5, vI (k : Int))]) (fun k ag => Chg (ins []) aQ ag ∧ (k ≤ a.names.length) ∧ (a.names.drop k = b.names.drop k ↔ a.names = b.names)) (fun k => a.names.length - k) (by kernel_rfl) ⟨by kernel_rfl, by kernel_rfl, by kernel_rfl, trivial⟩ ⟨Chg.refl _ _, (by simp), (by simp)⟩ ?_
 rintro k bV ag ⟨V, bB, bC⟩ ah
 have aB : Mv [Z, W] [Z, W] aQ ag := Mv.inl V all_nil (all_cons (.inl (.head _)) (all_cons (.inl (.tail _ (.head _))) all_nil))
 replace ⟨h1, h2, h3, h4, E, J, C⟩ := (sp aB V).g7 h1 h2 h3 h4 E J C
 clear aB
 refine .s <| .s <| .g <| .r 2 <| .lb E <| .r 1 <| .bp ((k : Int) < (a.names.length : Int)) (fun aU => ?_) (fun aU => ?_)
 · refine .d <| .ct <| .sk <| .s <| .b 1 <| .s <| .gd nil 10 fun bW aC => ?_
   replace ⟨h1, h2, h3, h4, E, J, C, V⟩ := (se [Z, W] aC).g8 h1 h2 h3 h4 E J C V
   clear aC
   refine .r [0] <| .lb 1 E id <| .r [2] ?_
   have aV : k < a.names.length := (by omega)
   refine .ix 3 k 1 h1 aV ?_
   obtain ⟨aH, ai⟩ : ∃ y, a.names[k]? = some y := ⟨_, List.getElem?_eq_getElem (by omega)⟩
   have bD := drop_at ai; have bi := List.mem_of_getElem? ai
   obtain ⟨_, ⟨bX, bY, bZ, rfl, aj⟩, aW⟩ := h1.elem k aH ai
   have aX := aj.len
   subst aX
   have bE := aj.max
   refine .lh 4 0 aW id <| .r [5] <| .lb 6 J id <| .r [7] ?_
   have aY : k < b.names.length := (by omega)
   refine .ix 8 k 1 h3 aY ?_
   obtain ⟨aI, ak⟩ : ∃ y, b.names[k]? = some y := ⟨_, List.getElem?_eq_getElem (by omega)⟩
   have bF := drop_at ak; have bj := List.mem_of_getElem? ak
   obtain ⟨_, ⟨b0, b6, b7, rfl, al⟩, aZ⟩ := h3.elem k aI ak
   have ba := al.len
   subst ba
   have bG := al.max
   refine .lh 9 0 aZ id <| .d fun bm aD => ?_
   replace ⟨h2, h4, E, J, aj, al, C, V⟩ := (se [Z, W] aD).g8 h2 h4 E J aj al C V
   clear aD
   refine .cl (c_laws_lyName aH aI aj.ta al.ta (w := bm) (F := all)) ?_
   rintro b8 b9 ⟨rfl, aE⟩
   replace ⟨h2, h4, E, J, C, V⟩ := (se [Z, W] aE).g6 h2 h4 E J C V
   clear aE
   cases bH : (aH == aI)
   · exact .r 1 <| .d <| .ct <| .s <| .g <| .r 1 <| .d <| .rt Tryz.func42 Tryz.results42 (.bool false) ⟨(congrArg Value.bool (by cases a; cases b; grind [drop_end, pst_eq])), C⟩
   exact .r 1 <| .d <| .cf <| .sk <| .ib 1 <| .g <| .r 1 <| .it ((k : Int) + 1) <| .r 1 <| .d <| ah (k + 1) _ _ ⟨by kernel_rfl, by kernel_rfl, by kernel_rfl, trivial⟩ ⟨V, (by omega), (by grind)⟩ (by first | omega | (simp only []; omega))
 refine .d <| .cf <| .x 0 rfl <| .s <| .s <| .g <| .r 1 <| .d <| .b 2 <| T.loop (X := Nat) 0 (fun k => [(2, .pointer (some ⟨W, 0, none⟩)), (3, .pointer (some ⟨Z, 0, none⟩)), (6, vI (k : Int))]) (fun k aJ => Chg (ins []) ag aJ ∧ (k ≤ a.posts.length) ∧ (a.names = b.names) ∧ (a.posts.drop k = b.posts.drop k ↔ a.posts = b.posts)) (fun k => a.posts.length - k) (by kernel_rfl) ⟨by kernel_rfl, by kernel_rfl, by kernel_rfl, trivial⟩ ⟨Chg.refl _ _, (by grind [drop_end]), (by grind [drop_end]), (by grind [drop_end])⟩ ?_
 rintro k cd aJ ⟨O, bI, bJ, bK⟩ am
 have aF : Mv [Z, W] [Z, W] ag aJ := Mv.inl O all_nil (all_cons (.inl (.head _)) (all_cons (.inl (.tail _ (.head _))) all_nil))
 replace ⟨h2, h4, E, J, C⟩ := (sp aF O).g5 h2 h4 E J C
 clear aF
 refine .s <| .s <| .g <| .r 2 <| .lb E <| .r 1 <| .bp ((k : Int) < (a.posts.length : Int)) (fun bc => ?_) (fun bc => .d <| .cf <| .x 2 rfl <| .s <| .g <| .r 1 <| .d <| .rt Tryz.func42 Tryz.results42 (.bool true) ⟨(congrArg Value.bool (by cases a; cases b; grind [drop_end, pst_eq])), C⟩)
 refine .d <| .ct <| .sk <| .s <| .b 3 <| .s <| .gd nil 26 fun ce aG => ?_
 replace ⟨h2, h4, E, J, C, O⟩ := (se [Z, W] aG).g6 h2 h4 E J C O
 clear aG
 refine .r [0] <| .lb 1 E id <| .r [2] ?_
 have bd : k < a.posts.length := (by omega)
 refine .ix 3 k 3 h2 bd <| .r [4] ?_
 obtain ⟨ao, aq⟩ : ∃ y, a.posts[k]? = some y := ⟨_, List.getElem?_eq_getElem (by omega)⟩
 have bn := drop_at aq; have bk := List.mem_of_getElem? aq
 obtain ⟨_, ⟨bL, bM, bN, rfl, aa⟩, ar⟩ := h2.elem k ao aq
 have aK := aa.len
 subst aK
 have bo := aa.max
 refine .lg 5 0 ar id <| .r [6] <| .lb 7 J id <| .r [8] ?_
 have aL : k < b.posts.length := (by omega)
 refine .ix 9 k 3 h4 aL <| .r [10] ?_
 obtain ⟨ac, ae⟩ : ∃ y, b.posts[k]? = some y := ⟨_, List.getElem?_eq_getElem (by omega)⟩
 have bq := drop_at ae; have bg := List.mem_of_getElem? ae
 obtain ⟨_, ⟨bO, bP, bQ, rfl, ab⟩, au⟩ := h4.elem k ac ae
 have aM := ab.len
 subst aM
 have br := ab.max
 refine .lg 11 0 au id <| GA.tagNe (i := 12) (t := 112) (x := ao.tag) (y := ac.tag) (by kernel_rfl) (by kernel_rfl) (by kernel_rfl) ?_
 cases bt : (ao.tag == ac.tag)
 · refine .r [13, 14, 15, 16, 17, 18, 19, 20, 21, 22, 23, 24, 25] <| .d fun bR av => ?_
   replace ⟨h2, h4, E, J, aa, ab, C, O⟩ := (se [Z, W] av).g8 h2 h4 E J aa ab C O
   clear av
   exact .r 3 <| .d <| .ct <| .s <| .g <| .r 1 <| .d <| .rt Tryz.func42 Tryz.results42 (.bool false) ⟨(congrArg Value.bool (by cases a; cases b; grind [drop_end, pst_eq])), C⟩
 refine .r [13, 14] <| .lb 15 E id <| .r [16] ?_
 have aN : k < a.posts.length := (by omega)
 refine .ix 17 k 3 h2 aN <| .r [18] <| .lh 19 2 ar id <| .r [20] <| .lb 21 J id <| .r [22] ?_
 have aO : k < b.posts.length := (by omega)
 refine .ix 23 k 3 h4 aO <| .r [24] <| .lh 25 2 au id <| .d fun bh aw => ?_
 replace ⟨aa, ab, C, O⟩ := (se [Z, W] aw).g4 aa ab C O
 clear aw
 refine .cl (c_laws_lyInts ao.ids ac.ids aa.ta ab.ta (w := bh) (F := all)) ?_
 rintro bS bT ⟨rfl, ax⟩
 replace ⟨C, O⟩ := (se [] ax).g2 C O
 clear ax
 cases bu : (ao.ids == ac.ids)
 · exact .r 2 <| .d <| .ct <| .s <| .g <| .r 1 <| .d <| .rt Tryz.func42 Tryz.results42 (.bool false) ⟨(congrArg Value.bool (by cases a; cases b; grind [drop_end, pst_eq])), C⟩
 exact .r 2 <| .d <| .cf <| .sk <| .ib 3 <| .g <| .r 1 <| .it ((k : Int) + 1) <| .r 1 <| .d <| am (k + 1) _ _ ⟨by kernel_rfl, by kernel_rfl, by kernel_rfl, trivial⟩ ⟨O, (by grind [pst_eq]), (by grind [pst_eq]), (by grind [pst_eq])⟩ (by first | omega | (simp only []; omega))
theorem c_laws_lyStore (a : Sto) (b : Sto) {w : World} {F : Nat → Prop} {a1 : Option Addr} {n1 c1 : Nat} (h1 : RepS w F a1 n1 c1 a.idx.names) {a2 : Option Addr} {n2 c2 : Nat} (h2 : RepS w F a2 n2 c2 a.idx.posts) {a3 : Option Addr} {n3 c3 : Nat} (h3 : RepS w F a3 n3 c3 a.parts) {a4 : Option Addr} {n4 c4 : Nat} (h4 : RepS w F a4 n4 c4 a.mem) {a5 : Option Addr} {n5 c5 : Nat} (h5 : RepS w F a5 n5 c5 b.idx.names) {a6 : Option Addr} {n6 c6 : Nat} (h6 : RepS w F a6 n6 c6 b.idx.posts) {a7 : Option Addr} {n7 c7 : Nat} (h7 : RepS w F a7 n7 c7 b.parts) {a8 : Option Addr} {n8 c8 : Nat} (h8 : RepS w F a8 n8 c8 b.mem)  : Calls Tryz.prog 18 [.agg #[.slice a1 n1 c1, .slice a2 n2 c2, .slice a3 n3 c3, .slice a4 n4 c4], .agg #[.slice a5 n5 c5, .slice a6 n6 c6, .slice a7 n7 c7, .slice a8 n8 c8]].toArray w (rets fun rv w' => rv = .bool ((a == b)) ∧ Ext w w') := by
 refine goT Tryz.func18 ?_
 obtain ⟨rfl, bv, h1⟩ := h1.tp
 obtain ⟨rfl, bw, h2⟩ := h2.tp
 obtain ⟨rfl, bz, h3⟩ := h3.tp
 obtain ⟨rfl, bA, h4⟩ := h4.tp
 obtain ⟨rfl, bB, h5⟩ := h5.tp
 obtain ⟨rfl, bC, h6⟩ := h6.tp
 obtain ⟨rfl, bD, h7⟩ := h7.tp
 obtain ⟨rfl, bE, h8⟩ := h8.tp
 refine .s <| .g <| .np 30 [.slice a1 a.idx.names.length c1, .slice a2 a.idx.posts.length c2, .slice a3 a.parts.length c3, .slice a4 a.mem.length c4] fun W bT az ae E aN => ?_
 replace ⟨h1, h2, h3, h4, h5, h6, h7, h8⟩ := (sn [] ae az).g8 h1 h2 h3 h4 h5 h6 h7 h8
 have C := ae
 clear ae aN az
 refine .np 30 [.slice a5 b.idx.names.length c5, .slice a6 b.idx.posts.length c6, .slice a7 b.parts.length c7, .slice a8 b.mem.length c8] fun Z bi aA aB J aO => ?_
 replace ⟨h1, h2, h3, h4, h5, h6, h7, h8, E, C⟩ := (sn [W] aB aA).g10 h1 h2 h3 h4 h5 h6 h7 h8 E C
 clear aB aO aA
 refine .r 1 <| .d <| .s <| .s <| .g <| .r 1 <| .ln E <| .r 1 <| .ln J <| .cl (c_laws_lyIndex a.idx b.idx h1.ta h2.ta h5.ta h6.ta (w := bi) (F := all)) ?_
 rintro bU aP ⟨rfl, aC⟩
 replace ⟨h3, h4, h7, h8, E, J, C⟩ := (se [Z, W] aC).g7 h3 h4 h7 h8 E J C
 clear aC
 cases bF : (a.idx == b.idx)
 · exact .r 19 <| .d <| .ct <| .s <| .g <| .r 1 <| .d <| .rt Tryz.func18 Tryz.results18 (.bool false) ⟨(congrArg Value.bool (by cases a; cases b; grind [drop_end])), C⟩
 refine .r 3 <| .lb E <| .r 2 <| .lb J <| .r 1 <| .ne (a.parts.length : Int) (b.parts.length : Int) (fun aQ => .r 10 <| .d <| .ct <| .s <| .g <| .r 1 <| .d <| .rt Tryz.func18 Tryz.results18 (.bool false) ⟨(congrArg Value.bool (by cases a; cases b; grind [drop_end])), C⟩) fun aQ => .r 3 <| .lb E <| .r 2 <| .lb J <| .r 1 <| .ne (a.mem.length : Int) (b.mem.length : Int) (fun aR => .r 1 <| .d <| .ct <| .s <| .g <| .r 1 <| .d <| .rt Tryz.func18 Tryz.results18 (.bool false) ⟨(congrArg Value.bool (by cases a; cases b; grind [drop_end])), C⟩) fun aR => .r 1 <| .d <| .cf <| .sk <| .s <| .s <| .g <| .r 1 <| .d <| .b 0 <| T.loop (X := Nat) 0 (fun k => [(2, .pointer (some ⟨W, 0, none⟩)), (3, .pointer (some ⟨Z, 0, none⟩)), (5, vI (k : Int))]) (fun k af => Chg (ins []) aP af ∧ (k ≤ a.parts.length) ∧ (a.idx = b.idx) ∧ (a.parts.drop k = b.parts.drop k ↔ a.parts = b.parts)) (fun k => a.parts.length - k) (by kernel_rfl) ⟨by kernel_rfl, by kernel_rfl, by kernel_rfl, trivial⟩ ⟨Chg.refl _ _, (by grind), (by grind), (by grind)⟩ ?_
 rintro k bV af ⟨V, bG, bH, bI⟩ ag
 have aD : Mv [Z, W] [Z, W] aP af := Mv.inl V all_nil (all_cons (.inl (.head _)) (all_cons (.inl (.tail _ (.head _))) all_nil))
 replace ⟨h3, h4, h7, h8, E, J, C⟩ := (sp aD V).g7 h3 h4 h7 h8 E J C
 clear aD
 refine .s <| .s <| .g <| .r 2 <| .lb E <| .r 1 <| .bp ((k : Int) < (a.parts.length : Int)) (fun aS => ?_) (fun aS => ?_)
 · refine .d <| .ct <| .sk <| .s <| .b 1 <| .s <| .gd nil 10 fun bW aE => ?_
   replace ⟨h3, h4, h7, h8, E, J, C, V⟩ := (se [Z, W] aE).g8 h3 h4 h7 h8 E J C V
   clear aE
   refine .r [0] <| .lb 1 E id <| .r [2] ?_
   have aT : k < a.parts.length := (by omega)
   refine .ix 3 k 2 h3 aT ?_
   obtain ⟨aF, ah⟩ : ∃ y, a.parts[k]? = some y := ⟨_, List.getElem?_eq_getElem (by omega)⟩
   have bJ := drop_at ah; have bg := List.mem_of_getElem? ah
   obtain ⟨_, ⟨bX, bY, bZ, b0, b6, b7, rfl, ai, aj⟩, aU⟩ := h3.elem k aF ah
   have aV := ai.len
   subst aV
   have bK := ai.max
   have aW := aj.len
   subst aW
   have bL := aj.max
   refine .lg 4 0 aU id <| .r [5] <| .lb 6 J id <| .r [7] ?_
   have aX : k < b.parts.length := (by omega)
   refine .ix 8 k 2 h7 aX ?_
   obtain ⟨aG, ak⟩ : ∃ y, b.parts[k]? = some y := ⟨_, List.getElem?_eq_getElem (by omega)⟩
   have bM := drop_at ak; have bh := List.mem_of_getElem? ak
   obtain ⟨_, ⟨b8, b9, cd, ce, cg, ci, rfl, al, am⟩, aY⟩ := h7.elem k aG ak
   have aZ := al.len
   subst aZ
   have bN := al.max
   have aH := am.len
   subst aH
   have bj := am.max
   refine .lg 9 0 aY id <| .d fun ba ao => ?_
   replace ⟨h4, h8, E, J, ai, aj, al, am, C, V⟩ := (se [Z, W] ao).g10 h4 h8 E J ai aj al am C V
   clear ao
   refine .cl (c_laws_lyPart aF aG ai.ta aj.ta al.ta am.ta (w := ba) (F := all)) ?_
   rintro bO bP ⟨rfl, aq⟩
   replace ⟨h4, h8, E, J, C, V⟩ := (se [Z, W] aq).g6 h4 h8 E J C V
   clear aq
   cases bk : (aF == aG)
   · exact .r 1 <| .d <| .ct <| .s <| .g <| .r 1 <| .d <| .rt Tryz.func18 Tryz.results18 (.bool false) ⟨(congrArg Value.bool (by cases a; cases b; grind [drop_end])), C⟩
   exact .r 1 <| .d <| .cf <| .sk <| .ib 1 <| .g <| .r 1 <| .it ((k : Int) + 1) <| .r 1 <| .d <| ag (k + 1) _ _ ⟨by kernel_rfl, by kernel_rfl, by kernel_rfl, trivial⟩ ⟨V, (by grind), (by grind), (by grind)⟩ (by first | omega | (simp only []; omega))
 refine .d <| .cf <| .x 0 rfl <| .s <| .s <| .g <| .r 1 <| .d <| .b 2 <| T.loop (X := Nat) 0 (fun k => [(2, .pointer (some ⟨W, 0, none⟩)), (3, .pointer (some ⟨Z, 0, none⟩)), (6, vI (k : Int))]) (fun k ar => Chg (ins []) af ar ∧ (k ≤ a.mem.length) ∧ (a.idx = b.idx) ∧ (a.parts = b.parts) ∧ (a.mem.drop k = b.mem.drop k ↔ a.mem = b.mem)) (fun k => a.mem.length - k) (by kernel_rfl) ⟨by kernel_rfl, by kernel_rfl, by kernel_rfl, trivial⟩ ⟨Chg.refl _ _, (by grind [drop_end]), (by grind [drop_end]), (by grind [drop_end]), (by grind [drop_end])⟩ ?_
 rintro k bQ ar ⟨O, bm, bn, bo, bq⟩ ac
 have au : Mv [Z, W] [Z, W] af ar := Mv.inl O all_nil (all_cons (.inl (.head _)) (all_cons (.inl (.tail _ (.head _))) all_nil))
 replace ⟨h4, h8, E, J, C⟩ := (sp au O).g5 h4 h8 E J C
 clear au
 refine .s <| .s <| .g <| .r 2 <| .lb E <| .r 1 <| .bp ((k : Int) < (a.mem.length : Int)) (fun aI => ?_) (fun aI => .d <| .cf <| .x 2 rfl <| .s <| .g <| .r 1 <| .d <| .rt Tryz.func18 Tryz.results18 (.bool true) ⟨(congrArg Value.bool (by cases a; cases b; grind [drop_end])), C⟩)
 refine .d <| .ct <| .sk <| .s <| .b 3 <| .s <| .gd nil 10 fun bR av => ?_
 replace ⟨h4, h8, E, J, C, O⟩ := (se [Z, W] av).g6 h4 h8 E J C O
 clear av
 refine .r [0] <| .lb 1 E id <| .r [2] ?_
 have aJ : k < a.mem.length := (by omega)
 refine .ix 3 k 3 h4 aJ ?_
 obtain ⟨aw, aa⟩ : ∃ y, a.mem[k]? = some y := ⟨_, List.getElem?_eq_getElem (by omega)⟩
 have br := drop_at aa; have bc := List.mem_of_getElem? aa
 obtain ⟨_, rfl, aK⟩ := h4.elem k aw aa
 refine .lg 4 0 aK id <| .r [5] <| .lb 6 J id <| .r [7] ?_
 have aL : k < b.mem.length := (by omega)
 refine .ix 8 k 3 h8 aL ?_
 obtain ⟨ax, ab⟩ : ∃ y, b.mem[k]? = some y := ⟨_, List.getElem?_eq_getElem (by omega)⟩
 have bt := drop_at ab; have bd := List.mem_of_getElem? ab
 obtain ⟨_, rfl, aM⟩ := h8.elem k ax ab
 refine .lg 9 0 aM id <| .d fun bS ay => ?_
 replace ⟨C, O⟩ := (se [] ay).g2 C O
 clear ay
 refine RG.smpNe (t := 51) (x := aw) (y := ax) (by kernel_rfl) (by kernel_rfl) ?_
 cases bu : (aw == ax)
 · exact .d <| .ct <| .s <| .g <| .r 1 <| .d <| .rt Tryz.func18 Tryz.results18 (.bool false) ⟨(congrArg Value.bool (by cases a; cases b; grind [drop_end])), C⟩
 exact .d <| .cf <| .sk <| .ib 3 <| .g <| .r 1 <| .it ((k : Int) + 1) <| .r 1 <| .d <| ac (k + 1) _ _ ⟨by kernel_rfl, by kernel_rfl, by kernel_rfl, trivial⟩ ⟨O, (by grind), (by grind), (by grind), (by grind)⟩ (by first | omega | (simp only []; omega))
end Go.Proofs.YtfnpaglcnmcnbaaGreat
