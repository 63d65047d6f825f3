/- Blocks and parts merged, as the program does it: plain laws. -/
import Derived.Test.YtfnpaglcnmcnbaaGreatFadzMod30
import Derived.Test.YtfnpaglcnmcnbaaGreatFadzMod23
set_option linter.unusedVariables false
set_option linter.unusedSimpArgs false
namespace Go.Proofs.YtfnpaglcnmcnbaaGreat
theorem blkOf {b : List Row} (h : blockOk b = true) : Blk b := by
 unfold blockOk at h
 simp only [Bool.and_eq_true] at h
 exact h.1
def mergI (a b : List Row) : List Row × Bool := if blockOk a = true ∧ blockOk b = true ∧ ¬ ((sMerge a b).length : Int) > 24 then (sMerge a b, true) else ([], false)
theorem mergI_1 {a b : List Row} (h : blockOk a = false ∨ blockOk b = false) : mergI a b = ([], false) := by
 unfold mergI
 rw [if_neg]
 rintro ⟨h1, h2, _⟩
 rcases h with h | h
 ·rw [h] at h1; cases h1
 ·rw [h] at h2; cases h2
theorem mergO_2 {a b out : List Row} (e : out = sMerge a b) (_ha : blockOk a = true) (_hb : blockOk b = true) (h : (out.length : Int) > 24) : [] = (mergI a b).1 ∧ false = (mergI a b).2 := by
 subst e
 unfold mergI
 rw [if_neg (fun q => q.2.2 h)]
 exact ⟨rfl, rfl⟩
theorem mergO_3 {a b out : List Row} (e : out = sMerge a b) (ha : blockOk a = true) (hb : blockOk b = true) (h : ¬ (out.length : Int) > 24) : out = (mergI a b).1 ∧ true = (mergI a b).2 := by
 subst e
 unfold mergI
 rw [if_pos ⟨ha, hb, h⟩]
 exact ⟨rfl, rfl⟩
theorem mergI_ok {a b : List Row} (h : (mergI a b).2 = true) : (mergI a b).1 = sMerge a b := by
 unfold mergI at h ⊢
 split at h
 ·rename_i h1; rw [if_pos h1]
 ·cases h
def okM (a b : Prt) (n : Nat) : Bool := (List.range n).all (fun i => (mergI (partI a ((i : Int) + 1)) (partI b ((i : Int) + 1))).2)
theorem okM_succ (a b : Prt) (n : Nat) : okM a b (n + 1) = (okM a b n && (mergI (partI a ((n : Int) + 1)) (partI b ((n : Int) + 1))).2) := by simp [okM, List.range_succ]
def mergQ (a b : Prt) : Prt × Bool := if partOk a = true ∧ partOk b = true ∧ okM a b 6 = true then (pMerge a b, true) else (⟨[], []⟩, false)
theorem mergQ_1 {a b : Prt} (h : partOk a = false ∨ partOk b = false) : mergQ a b = (⟨[], []⟩, false) := by
 unfold mergQ
 rw [if_neg]
 rintro ⟨h1, h2, _⟩
 rcases h with h | h
 ·rw [h] at h1; cases h1
 ·rw [h] at h2; cases h2
theorem mergQ_2 {a b : Prt} {k : Nat} (h1 : 1 ≤ k) (h2 : k ≤ 6) (h : (mergI (partI a (k : Int)) (partI b (k : Int))).2 = false) : mergQ a b = (⟨[], []⟩, false) := by
 unfold mergQ
 rw [if_neg]
 rintro ⟨_, _, h3⟩
 unfold okM at h3
 rw [List.all_eq_true] at h3
 have := h3 (k - 1) (by simp; omega)
 rw [show ((k - 1 : Nat) : Int) + 1 = (k : Int) by omega, h] at this
 cases this
theorem okM_step {a b : Prt} {k : Nat} (h : okM a b (k - 1) = true) (h1 : 1 ≤ k) (h2 : (mergI (partI a (k : Int)) (partI b (k : Int))).2 = true) : okM a b (k + 1 - 1) = true := by
 rw [show k + 1 - 1 = (k - 1) + 1 by omega, okM_succ, h, show ((k - 1 : Nat) : Int) + 1 = (k : Int) by omega, h2]
 rfl
theorem mq_at {a b : Prt} (ha : partOk a = true) (hb : partOk b = true) {k : Nat} (hk : 1 ≤ k) (h : (mergI (partI a (k : Int)) (partI b (k : Int))).2 = true) : pMergeL a b (k + 1 - 1) = pMergeL a b (k - 1) ++ [(mergI (partI a (k : Int)) (partI b (k : Int))).1] := by
 have ea : partI a (k : Int) = partOf a (k : Int) := by unfold partI; rw [if_pos ha]
 have eb : partI b (k : Int) = partOf b (k : Int) := by unfold partI; rw [if_pos hb]
 rw [show k + 1 - 1 = (k - 1) + 1 by omega, pMergeL_succ, show ((k - 1 : Nat) : Int) + 1 = (k : Int) by omega, mergI_ok h, ea, eb]
section
variable {a b : Prt} {k : Nat}
theorem mqStep1 {o : List Int} (ha : partOk a = true) (hb : partOk b = true) (hk : 1 ≤ k) (h : (mergI (partI a (k : Int)) (partI b (k : Int))).2 = true) (e : o = (makeF 0 (pMergeL a b (k - 1))).1) (hl : ((mergI (partI a (k : Int)) (partI b (k : Int))).1.length : Int) > 0) : o ++ [(k : Int)] = (makeF 0 (pMergeL a b (k + 1 - 1))).1 := by
 rw [mq_at ha hb hk h, makeF_snoc, if_pos (by omega), e, pMergeL_len, show ((0 : Nat) : Int) + ((k - 1 : Nat) : Int) + 1 = (k : Int) by omega]
theorem mqSkip1 {o : List Int} (ha : partOk a = true) (hb : partOk b = true) (hk : 1 ≤ k) (h : (mergI (partI a (k : Int)) (partI b (k : Int))).2 = true) (e : o = (makeF 0 (pMergeL a b (k - 1))).1) (hl : ¬ ((mergI (partI a (k : Int)) (partI b (k : Int))).1.length : Int) > 0) : o = (makeF 0 (pMergeL a b (k + 1 - 1))).1 := by
 rw [mq_at ha hb hk h, makeF_snoc, if_neg (by omega), e]
theorem mqStep2 {o : List (List Row)} (ha : partOk a = true) (hb : partOk b = true) (hk : 1 ≤ k) (h : (mergI (partI a (k : Int)) (partI b (k : Int))).2 = true) (e : o = (makeF 0 (pMergeL a b (k - 1))).2) (hl : ((mergI (partI a (k : Int)) (partI b (k : Int))).1.length : Int) > 0) : o ++ [(mergI (partI a (k : Int)) (partI b (k : Int))).1] = (makeF 0 (pMergeL a b (k + 1 - 1))).2 := by
 rw [mq_at ha hb hk h, makeF_snoc, if_pos (by omega), e]
theorem mqSkip2 {o : List (List Row)} (ha : partOk a = true) (hb : partOk b = true) (hk : 1 ≤ k) (h : (mergI (partI a (k : Int)) (partI b (k : Int))).2 = true) (e : o = (makeF 0 (pMergeL a b (k - 1))).2) (hl : ¬ ((mergI (partI a (k : Int)) (partI b (k : Int))).1.length : Int) > 0) : o = (makeF 0 (pMergeL a b (k + 1 - 1))).2 := by
 rw [mq_at ha hb hk h, makeF_snoc, if_neg (by omega), e]
theorem mergQ_3 {x : List Int} {y : List (List Row)} (hk : k = 7) (ha : partOk a = true) (hb : partOk b = true) (e1 : x = (makeF 0 (pMergeL a b (k - 1))).1) (e2 : y = (makeF 0 (pMergeL a b (k - 1))).2) (h : okM a b (k - 1) = true) : (⟨x, y⟩ : Prt) = (mergQ a b).1 ∧ true = (mergQ a b).2 := by
 subst hk e1 e2
 unfold mergQ
 rw [if_pos ⟨ha, hb, h⟩]
 exact ⟨rfl, rfl⟩
end
theorem partI_len {p : Prt} (h : PrtSz p) (id : Int) : (partI p id).length ≤ 1000 := by
 unfold partI
 split
 ·exact partOf_len h id
 ·simp
def mergeT (s : Sto) (at_ : Int) : Sto × Bool := if storeOk s then mergeR (copyS s) at_ else (⟨⟨[], []⟩, [], []⟩, false)
theorem mergeT_no {s : Sto} {i : Int} (h : storeOk s = false) : mergeT s i = (⟨⟨[], []⟩, [], []⟩, false) := by unfold mergeT; rw [if_neg (by simp [h])]
theorem mergeT_yes {s : Sto} {i : Int} (h : storeOk s = true) : mergeT s i = mergeR (copyS s) i := by unfold mergeT; rw [if_pos h]
end Go.Proofs.YtfnpaglcnmcnbaaGreat
namespace Go.Proofs.YtfnpaglcnmcnbaaGreat
set_option maxRecDepth 100000
set_option maxHeartbeats 4000000
theorem c_impl_BlockMerge (a : List Row) (b : List Row) {w : World} {F : Nat → Prop} {a1 : Option Addr} {n1 c1 : Nat} (h1 : RepS w F a1 n1 c1 a) {a2 : Option Addr} {n2 c2 : Nat} (h2 : RepS w F a2 n2 c2 b) (p0 : a.length ≤ 1000) (p1 : b.length ≤ 1000) : Calls Tryz.prog 89 [.slice a1 n1 c1, .slice a2 n2 c2].toArray w (rets fun rv w' => (∃ v0, rv = .tuple #[v0, .bool ((mergI a b).2)] ∧ VL (ge w.heap.size) w' ((mergI a b).1 : List Row) v0) ∧ Ext w w') := by
 refine goT Tryz.func89 ?_
 obtain ⟨rfl, bF, h1⟩ := h1.tp
 obtain ⟨rfl, bG, h2⟩ := h2.tp
 refine .s <| .g <| .r 2 <| .d <| .s <| .s <| .g <| .r 1 <| .cl (c_impl_BlockOk a h1.ta (w := w) (F := all)) ?_
 rintro bV bw ⟨rfl, af⟩
 replace ⟨h1, h2⟩ := (se [] af).g2 h1 h2
 have C := af
 clear af
 cases bH : (blockOk a)
 ·refine .r 6 <| .d <| .ct <| .s <| .g <| .ns 0 33 [] fun ag aS ah ax aT aU => ?_
  have aV := gb_new ah C.size
  replace ⟨h1, h2, C⟩ := (sn [] ax ah).g3 h1 h2 C
  clear ax aU ah
  have aW : Own (α := Row) aS ag 33 (nin (ge w.heap.size) [ag]) 0 0 [] := Own.nil' aT
  refine .r 2 <| .d ?_
  have bz := aW.sl aV
  replace ⟨h1, h2⟩ := (sd aS [ag] ag).g2 h1 h2
  exact .r2 Tryz.func89 Tryz.results89 (.t (vS ag 0 0)) (.t (.bool false)) ⟨⟨_, (tup2 rfl (congrArg Value.bool (by exact (congrArg Prod.snd (mergI_1 (.inl (by assumption)))).symm))), (bz.vl (by exact (congrArg Prod.fst (mergI_1 (.inl (by assumption)))).symm) (fun _ _ h => h.1))⟩, C⟩
 refine .r 3 <| .cl (c_impl_BlockOk b h2.ta (w := bw) (F := all)) ?_
 rintro bW bX ⟨rfl, ay⟩
 replace ⟨h1, h2, C⟩ := (se [] ay).g3 h1 h2 C
 clear ay
 cases bI : (blockOk b)
 ·refine .r 2 <| .d <| .ct <| .s <| .g <| .ns 0 33 [] fun ai aX aj az aY aZ => ?_
  have ba := gb_new aj C.size
  replace ⟨h1, h2, C⟩ := (sn [] az aj).g3 h1 h2 C
  clear az aZ aj
  have bc : Own (α := Row) aX ai 33 (nin (ge w.heap.size) [ai]) 0 0 [] := Own.nil' aY
  refine .r 2 <| .d ?_
  have bA := bc.sl ba
  replace ⟨h1, h2⟩ := (sd aX [ai] ai).g2 h1 h2
  exact .r2 Tryz.func89 Tryz.results89 (.t (vS ai 0 0)) (.t (.bool false)) ⟨⟨_, (tup2 rfl (congrArg Value.bool (by exact (congrArg Prod.snd (mergI_1 (.inr (by assumption)))).symm))), (bA.vl (by exact (congrArg Prod.fst (mergI_1 (.inr (by assumption)))).symm) (fun _ _ h => h.1))⟩, C⟩
 refine .r 2 <| .d <| .cf <| .sk <| .s <| .g <| .ns 0 33 [] fun av bB ab aA bd bg => ?_
 have bh := gb_new ab C.size
 have bJ := C.cn ab
 replace ⟨h1, h2, C⟩ := (sn [] aA ab).g3 h1 h2 C
 clear aA bg ab
 have bi : Own (α := Row) bB av 33 (nin (ge w.heap.size) [av]) 0 0 [] := Own.nil' bd
 refine .r 1 <| RG.appendF (T := 42) (ty := 42) flat_row bi h1 (by kernel_rfl) (by kernel_rfl) (fun b h e => h.2 (e ▸ (.head _))) (by omega) fun aH bC aI V Z aB => ?_
 have bj := gb_or Z bh C.size
 replace ⟨h2, C⟩ := (sa [av] aB Z).g2 h2 C
 clear aB
 replace V := V.rn av
 clear Z
 have bK := V.len; have bL := V.max
 refine .r 1 <| .d <| .s <| .s <| .g <| .r 3 <| .d <| .b 0 ?_
 have bD := V.sl bj
 replace h2 := (sd aI [aH] aH).g1 h2
 refine T.loop (X := (List Row) × (Option Addr) × Nat × Nat × Nat) ((([] ++ a) : List Row), some ⟨aH, 0, none⟩, 0 + a.length, bC, 0) (fun (out, a_out, n_out, c_out, k) => [(6, .slice a_out n_out c_out), (21, .slice a2 b.length c2), (22, vI (b.length : Int)), (23, vI (k : Int))]) (fun (out, a_out, n_out, c_out, k) aw => Chg (ins []) aI aw ∧ RepS aw (nin (ge w.heap.size) []) a_out n_out c_out out ∧ (k ≤ b.length) ∧ (Blk out) ∧ ((b.drop k).foldl sPut out = sMerge a b)) (fun (out, a_out, n_out, c_out, k) => b.length - k) (by kernel_rfl) ⟨by kernel_rfl, by kernel_rfl, by kernel_rfl, by kernel_rfl, trivial⟩ ⟨Chg.refl _ _, bD, (by omega), (by exact blkOf (by assumption)), (by rfl)⟩ ?_
 rintro ⟨out, a_out, n_out, c_out, k⟩ bY aw ⟨J, E, bM, bN, bO⟩ ak
 have aC : Mv [] [] aI aw := Mv.inl J all_nil all_nil
 replace ⟨h2, C⟩ := (sp aC J).g2 h2 C
 clear aC
 have bP := E.len; have bQ := E.max
 refine .s <| .g <| .bp ((k : Int) < (b.length : Int)) (fun bk => ?_) (fun bk => ?_)
 ·refine .d <| .s <| .ct <| .sk <| .s <| .b 1 <| .s <| .g ?_
  have bm : k < b.length := (by omega)
  refine .ix k 2 h2 bm ?_
  obtain ⟨ae, al⟩ : ∃ y, b[k]? = some y := ⟨_, List.getElem?_eq_getElem (by omega)⟩
  have bR := drop_at al; have bv := List.mem_of_getElem? al
  obtain ⟨_, rfl, bn⟩ := h2.elem k ae al
  refine .lg 0 bn <| .np 33 [vI 0, vI 0] fun aJ bZ ac aD bo bq => ?_
  have bS := C.cn ac
  have bT := J.cn ac
  replace ⟨E, C, J⟩ := (sn [] aD ac).g3 E C J
  clear aD bq ac
  refine .sc [vI ae.t, vI ae.v] bo fun aE am ao aK => ?_
  replace ⟨E, C, J⟩ := (so [aJ] am).g3 E C J
  clear am aK
  refine .d <| .g <| .r 1 <| .ln ao <| .cl (c_impl_put out ae E.ta (by have := Blk.len (by assumption : Blk out); omega) (w := aE) (F := all)) ?_
  rintro bU aF ⟨⟨br, bt, rfl, O⟩, aq⟩
  have ar := al1 ao.lt
  have aL : Gb w.heap.size aE.heap.size := C.size
  replace ⟨E, C, J⟩ := (se [aJ] aq).g3 E C J
  clear aq
  have O := O.fr ar aL
  have bE := O.max
  clear ar
  refine .r 1 <| .d <| .ib 1 <| .g <| .it ((k : Int) + 1) <| .r 1 <| .d ?_
  have aM : Mv [aJ] [] aF aF := Mv.less all_nil
  replace ⟨E, O⟩ := (sp aM (Chg.refl nil _)).g2 E O
  exact ak (insR ae out, br, (insR ae out).length, bt, k + 1) _ _ ⟨by kernel_rfl, by kernel_rfl, by kernel_rfl, by kernel_rfl, trivial⟩ ⟨J, O, (by omega), (by exact Blk.ins (by assumption) ((blkOf (by assumption : blockOk b = true)).rows _ (by assumption))), (by rw [← sPut_ins (by assumption)]; exact foldStep (by assumption) (by assumption))⟩ (by (simp only []; omega))
 refine .d <| .s <| .cf <| .x 0 rfl <| .s <| .s <| .g <| .r 2 <| .bp ((n_out : Int) > 24) (fun aN => ?_) (fun aN => .d <| .cf <| .sk <| .s <| .g <| .r 3 <| .d <| .r2 Tryz.func89 Tryz.results89 (.t (.slice a_out n_out c_out)) (.t (.bool true)) ⟨⟨_, (tup2 rfl (congrArg Value.bool (by exact (mergO_3 (out := out) (foldEnd (by assumption) (by omega)) (by assumption) (by assumption) (by omega)).2))), (E.vl (by exact (mergO_3 (out := out) (foldEnd (by assumption) (by omega)) (by assumption) (by assumption) (by omega)).1) (fun _ _ h => h.1))⟩, C⟩)
 refine .d <| .ct <| .s <| .g <| .ns 0 33 [] fun W aG aa au aO aP => ?_
 have aQ := gb_new aa C.size
 replace ⟨E, C⟩ := (sn [] au aa).g2 E C
 clear au aP aa
 have aR : Own (α := Row) aG W 33 (nin (ge w.heap.size) [W]) 0 0 [] := Own.nil' aO
 refine .r 2 <| .d ?_
 have bu := aR.sl aQ
 replace E := (sd aG [W] W).g1 E
 exact .r2 Tryz.func89 Tryz.results89 (.t (vS W 0 0)) (.t (.bool false)) ⟨⟨_, (tup2 rfl (congrArg Value.bool (by exact (mergO_2 (out := out) (foldEnd (by assumption) (by omega)) (by assumption) (by assumption) (by omega)).2))), (bu.vl (by exact (mergO_2 (out := out) (foldEnd (by assumption) (by omega)) (by assumption) (by assumption) (by omega)).1) (fun _ _ h => h.1))⟩, C⟩
theorem c_impl_PartMerge (a : Prt) (b : Prt) {w : World} {F : Nat → Prop} {a1 : Option Addr} {n1 c1 : Nat} (h1 : RepS w F a1 n1 c1 a.ids) {a2 : Option Addr} {n2 c2 : Nat} (h2 : RepS w F a2 n2 c2 a.blocks) {a3 : Option Addr} {n3 c3 : Nat} (h3 : RepS w F a3 n3 c3 b.ids) {a4 : Option Addr} {n4 c4 : Nat} (h4 : RepS w F a4 n4 c4 b.blocks) (p0 : PrtSz a) (p1 : PrtSz b) : Calls Tryz.prog 45 [.agg #[.slice a1 n1 c1, .slice a2 n2 c2], .agg #[.slice a3 n3 c3, .slice a4 n4 c4]].toArray w (rets fun rv w' => (∃ v0, rv = .tuple #[v0, .bool ((mergQ a b).2)] ∧ VS (ge w.heap.size) w' ((mergQ a b).1 : Prt) v0) ∧ Ext w w') := by
 refine goT Tryz.func45 ?_
 obtain ⟨rfl, d0, h1⟩ := h1.tp
 obtain ⟨rfl, d3, h2⟩ := h2.tp
 obtain ⟨rfl, d4, h3⟩ := h3.tp
 obtain ⟨rfl, d5, h4⟩ := h4.tp
 refine .s <| .g <| .np 75 [.slice a1 a.ids.length c1, .slice a2 a.blocks.length c2] fun ab eE bB aT E cL => ?_
 replace ⟨h1, h2, h3, h4⟩ := (sn [] aT bB).g4 h1 h2 h3 h4
 have C := aT
 clear aT cL bB
 refine .np 75 [.slice a3 b.ids.length c3, .slice a4 b.blocks.length c4] fun ac eF bC bD J cM => ?_
 replace ⟨h1, h2, h3, h4, E, C⟩ := (sn [ab] bD bC).g6 h1 h2 h3 h4 E C
 clear bD cM bC
 refine .np 75 [.slice none 0 0, .slice none 0 0] fun ae di aL bE O cN => ?_
 have d6 := nb_new aL E.lt
 have d7 := nb_new aL J.lt
 have d8 := C.cn aL
 replace ⟨h1, h2, h3, h4, E, J, C⟩ := (sn [ac, ab] bE aL).g7 h1 h2 h3 h4 E J C
 clear bE cN aL
 refine .r 1 <| .d <| .s <| .s <| .g <| .ln E <| .cl (c_impl_PartOk a h1.ta h2.ta (w := di) (F := all)) ?_
 rintro eG dj ⟨rfl, bF⟩
 replace ⟨h1, h2, h3, h4, E, J, O, C⟩ := (se [ae, ac, ab] bF).g8 h1 h2 h3 h4 E J O C
 clear bF
 cases d9 : (partOk a)
 ·refine .r 6 <| .d <| .ct <| .s <| .g <| .r 1 <| .sc [.slice none 0 0, .slice none 0 0] O fun eH bG cO cP => ?_
  replace ⟨h1, h2, h3, h4, E, J, C⟩ := (so [ae, ac, ab] bG).g7 h1 h2 h3 h4 E J C
  clear bG cP
  exact .r 1 <| .d <| .r2 Tryz.func45 Tryz.results45 (.bx cO) (.t (.bool false)) ⟨⟨_, (tup2 rfl (congrArg Value.bool (by exact (congrArg Prod.snd (mergQ_1 (.inl (by assumption)))).symm))), (VS.of (y := (⟨([] : List Int), ([] : List (List Row))⟩ : Prt)) ⟨_, rfl, ⟨_, _, _, _, _, _, rfl, (RepS.nil' _ _ none 0 (by decide)), (RepS.nil' _ _ none 0 (by decide))⟩⟩ (by exact (congrArg Prod.fst (mergQ_1 (.inl (by assumption)))).symm))⟩, C⟩
 refine .r 2 <| .ln J <| .cl (c_impl_PartOk b h3.ta h4.ta (w := dj) (F := all)) ?_
 rintro eI eJ ⟨rfl, bH⟩
 replace ⟨h1, h2, h3, h4, E, J, O, C⟩ := (se [ae, ac, ab] bH).g8 h1 h2 h3 h4 E J O C
 clear bH
 cases ec : (partOk b)
 ·refine .r 2 <| .d <| .ct <| .s <| .g <| .r 1 <| .sc [.slice none 0 0, .slice none 0 0] O fun eK bI cQ cR => ?_
  replace ⟨h1, h2, h3, h4, E, J, C⟩ := (so [ae, ac, ab] bI).g7 h1 h2 h3 h4 E J C
  clear bI cR
  exact .r 1 <| .d <| .r2 Tryz.func45 Tryz.results45 (.bx cQ) (.t (.bool false)) ⟨⟨_, (tup2 rfl (congrArg Value.bool (by exact (congrArg Prod.snd (mergQ_1 (.inr (by assumption)))).symm))), (VS.of (y := (⟨([] : List Int), ([] : List (List Row))⟩ : Prt)) ⟨_, rfl, ⟨_, _, _, _, _, _, rfl, (RepS.nil' _ _ none 0 (by decide)), (RepS.nil' _ _ none 0 (by decide))⟩⟩ (by exact (congrArg Prod.fst (mergQ_1 (.inr (by assumption)))).symm))⟩, C⟩
 refine .r 2 <| .d <| .cf <| .sk <| .s <| .g <| .ns 0 3 [] fun ar dk aC bJ cS cT => ?_
 have cU := nb_new aC E.lt
 have cV := nb_new aC J.lt
 have cW := nb_new aC O.lt
 have cX := gb_new aC C.size
 have cY := C.cn aC
 replace ⟨h1, h2, h3, h4, E, J, O, C⟩ := (sn [ae, ac, ab] bJ aC).g8 h1 h2 h3 h4 E J O C
 clear bJ cT aC
 have av : Own (α := Int) dk ar 3 (nin (ge w.heap.size) [ar, ae, ac, ab]) 0 0 [] := Own.nil' cS
 refine .ns 0 42 [] fun ay dm az bK cZ c7 => ?_
 have c8 := nb_new az E.lt
 have c9 := nb_new az J.lt
 have da := nb_new az O.lt
 have db := nb_new az av.lt
 have dd := gb_new az C.size
 have de := C.cn az
 replace ⟨h1, h2, h3, h4, E, J, O, av, C⟩ := (sn [ar, ae, ac, ab] bK az).g9 h1 h2 h3 h4 E J O av C
 clear bK c7 az
 have aF : Own (α := List Row) dm ay 42 (nin (ge w.heap.size) [ay, ar, ae, ac, ab]) 0 0 [] := Own.nil' cZ
 refine .r 1 <| .np 75 [.slice none 0 0, .slice none 0 0] fun af eL aA aU bQ bR => ?_
 have dp := nb_new aA E.lt
 have dq := nb_new aA J.lt
 have dr := nb_new aA O.lt
 have bS := nb_new aA av.lt
 have bT := nb_new aA aF.lt
 have dt := C.cn aA
 replace ⟨h1, h2, h3, h4, E, J, O, av, aF, C⟩ := (sn [ay, ar, ae, ac, ab] aU aA).g10 h1 h2 h3 h4 E J O av aF C
 clear aU bR aA
 refine .sc [vS ar 0 0, vS ay 0 0] bQ fun aD aV aM bU => ?_
 replace ⟨h1, h2, h3, h4, E, J, O, av, aF, C⟩ := (so [af, ay, ar, ae, ac, ab] aV).g10 h1 h2 h3 h4 E J O av aF C
 clear aV bU
 refine .d <| .s <| .s <| .g <| .r 1 <| .d <| .b 0 <| T.loop (X := Nat × (List Int) × Nat × Nat × Nat × (List (List Row)) × Nat × Nat × Nat) (1, ([] : List Int), ar, 0, 0, ([] : List (List Row)), ay, 0, 0) (fun (j, ak, r_out_0, n_out_0, c_out_0, al, r_out_1, n_out_1, c_out_1) => [(2, .pointer (some ⟨ab, 0, none⟩)), (3, .pointer (some ⟨ac, 0, none⟩)), (4, .pointer (some ⟨ae, 0, none⟩)), (6, .pointer (some ⟨af, 0, none⟩)), (7, vI (j : Int))]) (fun (j, ak, r_out_0, n_out_0, c_out_0, al, r_out_1, n_out_1, c_out_1) aG => Chg (ins [ar, ay, af]) aD aG ∧ Own aG r_out_0 3 (nin (ge w.heap.size) [af, r_out_1, r_out_0, ae, ac, ab]) n_out_0 c_out_0 ak ∧ OrB r_out_0 ar aD.heap.size ∧ Own aG r_out_1 42 (nin (ge w.heap.size) [af, r_out_1, r_out_0, ae, ac, ab]) n_out_1 c_out_1 al ∧ OrB r_out_1 ay aD.heap.size ∧ Nb r_out_1 r_out_0 ∧ Box aG af 75 [vS r_out_0 n_out_0 c_out_0, vS r_out_1 n_out_1 c_out_1] ∧ (1 ≤ j) ∧ (j ≤ 7) ∧ (ak.length ≤ j) ∧ (al.length ≤ j) ∧ (ak = (makeF 0 (pMergeL a b (j - 1))).1) ∧ (al = (makeF 0 (pMergeL a b (j - 1))).2) ∧ (okM a b (j - 1) = true)) (fun (j, ak, r_out_0, n_out_0, c_out_0, al, r_out_1, n_out_1, c_out_1) => 7 - j) (by kernel_rfl) ⟨by kernel_rfl, by kernel_rfl, by kernel_rfl, by kernel_rfl, by kernel_rfl, trivial⟩ ⟨Chg.refl _ _, av, orb_refl, aF, orb_refl, db, aM, (by omega), (by omega), (by (simp; done)), (by (simp; done)), (by rfl), (by rfl), (by rfl)⟩ ?_
 rintro ⟨j, ak, r_out_0, n_out_0, c_out_0, al, r_out_1, n_out_1, c_out_1⟩ ed aG ⟨W, Z, ai, V, aj, aW, aa, du, dv, dw, dx, dy, dz, dA⟩ aH
 have dB := nb_or' ai cU E.lt
 have dC := nb_or' ai cV J.lt
 have dD := nb_or' ai cW O.lt
 have bV := nb_or' ai (Nb.symm bS) aM.lt
 have bW := gb_or' ai cX C.size
 have dE := cov_or' ai cY C.size
 have dF := nb_or' aj c8 E.lt
 have dG := nb_or' aj c9 J.lt
 have dH := nb_or' aj da O.lt
 have bX := nb_or' aj (Nb.symm bT) aM.lt
 have bY := gb_or' aj dd C.size
 have dI := cov_or' aj de C.size
 have bZ : Cov (ins [ar, ay, af]) aD ar := ⟨.inl (.head _)⟩
 have b0 : Cov (ins [ar, ay, af]) aD ay := ⟨.inl (.tail _ (.head _))⟩
 have dJ : Cov (ins [ar, ay, af]) aD af := ⟨.inl (.tail _ (.tail _ (.head _)))⟩
 have dK := cov_or' ai bZ (Nat.le_refl _)
 have dL := cov_or' aj b0 (Nat.le_refl _)
 have aX : Mv [af, ay, ar, ae, ac, ab] [af, r_out_1, r_out_0, ae, ac, ab] aD aG := Mv.inl W (all_cons (.tail _ (.tail _ (.head _))) (all_cons (.tail _ (.head _)) (all_cons (.head _) all_nil))) (all_cons (.inl (.head _)) (all_cons (orb_mem aj (.tail _ (.head _))) (all_cons (orb_mem ai (.tail _ (.tail _ (.head _)))) (all_cons (.inl (.tail _ (.tail _ (.tail _ (.head _))))) (all_cons (.inl (.tail _ (.tail _ (.tail _ (.tail _ (.head _)))))) (all_cons (.inl (.tail _ (.tail _ (.tail _ (.tail _ (.tail _ (.head _))))))) all_nil))))))
 replace ⟨h1, h2, h3, h4, E, J, O, C⟩ := (sp aX W).g8 h1 h2 h3 h4 E J O C
 clear aX
 have dM := Z.len; have dN := Z.max
 have dO := V.len; have dP := V.max
 refine .s <| .s <| .g <| .r 1 <| .bp ((j : Int) ≤ 6) (fun b6 => ?_) (fun b6 => ?_)
 ·refine .d <| .ct <| .sk <| .s <| .b 1 <| .s <| .gd nil 11 fun ee aY => ?_
  replace ⟨h1, h2, h3, h4, E, J, O, Z, V, aa, C, W⟩ := (se [af, r_out_1, r_out_0, ae, ac, ab] aY).g12 h1 h2 h3 h4 E J O Z V aa C W
  clear aY
  refine .ln 0 E id <| .r [1] <| .ln 3 J id <| .r [4] <| .go 2 <| .cl (fun aZ aI => c_impl_PartOf a (j : Int) (h1.ta.ext aI) (h2.ta.ext aI) (by exact p0) (w := aZ) (F := all)) ?_
  intro aZ aI
  replace ⟨h3, h4, E, J, O, Z, V, aa, C, W⟩ := (se [af, r_out_1, r_out_0, ae, ac, ab] aI).g10 h3 h4 E J O Z V aa C W
  rintro ef eg ⟨⟨eh, ei, rfl, aB⟩, aN⟩
  have ba := al6 aa.lt V.lt Z.lt O.lt J.lt E.lt
  have b7 : Gb w.heap.size aZ.heap.size := C.size
  have hkeep_ := aN
  replace ⟨h3, h4, E, J, O, Z, V, aa, C, W⟩ := (se [af, r_out_1, r_out_0, ae, ac, ab] aN).g10 h3 h4 E J O Z V aa C W
  clear aN
  refine ⟨Ext.chg hkeep_, ?_⟩
  have aB := aB.fr ba b7
  have dQ := aB.max
  clear ba
  refine .go 5 <| .cl (fun bc aJ => c_impl_PartOf b (j : Int) (h3.ta.ext aJ) (h4.ta.ext aJ) (by exact p1) (w := bc) (F := all)) ?_
  intro bc aJ
  replace ⟨E, J, O, Z, V, aa, aB, C, W⟩ := (se [af, r_out_1, r_out_0, ae, ac, ab] aJ).g9 E J O Z V aa aB C W
  rintro ej ek ⟨⟨em, en, rfl, aQ⟩, aO⟩
  have bd := al6 aa.lt V.lt Z.lt O.lt J.lt E.lt
  have b8 : Gb w.heap.size bc.heap.size := C.size
  have hkeep_ := aO
  replace ⟨E, J, O, Z, V, aa, aB, C, W⟩ := (se [af, r_out_1, r_out_0, ae, ac, ab] aO).g9 E J O Z V aa aB C W
  clear aO
  refine ⟨Ext.chg hkeep_, ?_⟩
  have aQ := aQ.fr bd b8
  have dR := aQ.max
  clear bd
  refine .go 6 <| .cl (fun bg aK => c_impl_BlockMerge (partI a (j : Int)) (partI b (j : Int)) (aB.ta.ext aK) (aQ.ta.ext aK) (by exact partI_len p0 _) (by exact partI_len p1 _) (w := bg) (F := all)) ?_
  intro bg aK
  replace ⟨E, J, O, Z, V, aa, C, W⟩ := (se [af, r_out_1, r_out_0, ae, ac, ab] aK).g8 E J O Z V aa C W
  rintro eo ep ⟨⟨es, rfl, ⟨df, dg, rfl, ah⟩⟩, aP⟩
  have bh := al6 aa.lt V.lt Z.lt O.lt J.lt E.lt
  have b9 : Gb w.heap.size bg.heap.size := C.size
  have hkeep_ := aP
  replace ⟨E, J, O, Z, V, aa, C, W⟩ := (se [af, r_out_1, r_out_0, ae, ac, ab] aP).g8 E J O Z V aa C W
  clear aP
  refine ⟨Ext.chg hkeep_, ?_⟩
  have ah := ah.fr bh b9
  have dS := ah.max
  clear bh
  refine .r [7, 8] ?_
  cases dT : (mergI (partI a (j : Int)) (partI b (j : Int))).2
  ·refine .r [9, 10] <| .d fun et bi => ?_
   replace ⟨E, J, O, Z, V, aa, ah, C, W⟩ := (se [af, r_out_1, r_out_0, ae, ac, ab] bi).g9 E J O Z V aa ah C W
   clear bi
   refine .r 1 <| .d <| .s <| .s <| .g <| .r 2 <| .d <| .ct <| .s <| .g <| .r 1 <| .sc [.slice none 0 0, .slice none 0 0] O fun ew bj cd ce => ?_
   replace ⟨E, J, Z, V, aa, ah, C⟩ := (so [af, r_out_1, r_out_0, ae, ac, ab] bj).g7 E J Z V aa ah C
   clear bj ce
   exact .r 1 <| .d <| .r2 Tryz.func45 Tryz.results45 (.bx cd) (.t (.bool false)) ⟨⟨_, (tup2 rfl (congrArg Value.bool (by exact (congrArg Prod.snd (mergQ_2 (k := j) (by omega) (by omega) (by assumption))).symm))), (VS.of (y := (⟨([] : List Int), ([] : List (List Row))⟩ : Prt)) ⟨_, rfl, ⟨_, _, _, _, _, _, rfl, (RepS.nil' _ _ none 0 (by decide)), (RepS.nil' _ _ none 0 (by decide))⟩⟩ (by exact (congrArg Prod.fst (mergQ_2 (k := j) (by omega) (by omega) (by assumption))).symm))⟩, C⟩
  refine .r [9, 10] <| .d fun ex bk => ?_
  replace ⟨E, J, O, Z, V, aa, ah, C, W⟩ := (se [af, r_out_1, r_out_0, ae, ac, ab] bk).g9 E J O Z V aa ah C W
  clear bk
  refine .r 1 <| .d <| .s <| .s <| .g <| .r 2 <| .d <| .cf <| .sk <| .s <| .g <| .r 2 <| .bp (((((mergI (partI a (j : Int)) (partI b (j : Int))).1).length) : Int) > 0) (fun cg => ?_) (fun cg => .d <| .cf <| .sk <| .ib 1 <| .g <| .r 1 <| .it ((j : Int) + 1) <| .r 1 <| .d <| aH (j + 1, ak, r_out_0, n_out_0, c_out_0, al, r_out_1, n_out_1, c_out_1) _ _ ⟨by kernel_rfl, by kernel_rfl, by kernel_rfl, by kernel_rfl, by kernel_rfl, trivial⟩ ⟨W, Z, ai, V, aj, aW, aa, (by omega), (by omega), (by omega), (by omega), (by exact mqSkip1 (by assumption) (by assumption) (by omega) (by assumption) (by assumption) (by assumption)), (by exact mqSkip2 (by assumption) (by assumption) (by omega) (by assumption) (by assumption) (by assumption)), (by exact okM_step (by assumption) (by omega) (by assumption))⟩ (by (simp only []; omega)))
  refine .d <| .ct <| .s <| .g <| .r 1 <| .lb aa <| .r 1 <| .ns 1 3 [vI (j : Int)] fun bL ey am bm ci cj => ?_
  have ck := nb_new am E.lt
  have cm := nb_new am J.lt
  have co := nb_new am O.lt
  have bn := nb_new am Z.lt
  have cp := nb_new am V.lt
  have cq := nb_new am aa.lt
  have cr := gb_new am C.size
  replace ⟨E, J, O, Z, V, aa, ah, C, W⟩ := (se [af, r_out_1, r_out_0, ae, ac, ab] bm).g9 E J O Z V aa ah C W
  clear bm cj am
  have aR : nin (ge w.heap.size) [af, r_out_1, r_out_0, ae, ac, ab] bL ∧ bL ≠ r_out_0 := hap_mk cr (all_cons cq (all_cons cp (all_cons bn (all_cons co (all_cons cm (all_cons ck all_nil)))))) bn
  refine RG.append1 (T := 68) (ty := 68) (y := (j : Int)) Z ci (by kernel_rfl) (by kernel_rfl) rfl aR (by omega) fun aE bM ez ag aw bo => ?_
  have cu := nb_or aw (Nb.symm aW) V.lt
  have dU := nb_or aw bV aa.lt
  have cv := orb_or aw ai W.size
  replace ⟨E, J, O, V, aa, ah, C, W⟩ := (sa [af, r_out_1, r_out_0, ae, ac, ab] bo aw).g8 E J O V aa ah C W
  clear bo
  replace ag := ag.rn r_out_0
  clear aw
  have dV := ag.len; have dW := ag.max
  refine .r 1 <| .ss 0 (vS aE (n_out_0 + 1) bM) aa fun eA bq ao cw => ?_
  replace ⟨E, J, O, ag, V, ah, C, W⟩ := (so [af, r_out_1, aE, ae, ac, ab] bq).g8 E J O ag V ah C W
  clear bq cw
  refine .d <| .g <| .r 1 <| .lb ao <| .r 1 <| .ns 1 42 [.slice df (((mergI (partI a (j : Int)) (partI b (j : Int))).1).length) dg] fun bN eB aq br cx cy => ?_
  have cz := nb_new aq E.lt
  have cA := nb_new aq J.lt
  have cB := nb_new aq O.lt
  have cC := nb_new aq ag.lt
  have bt := nb_new aq V.lt
  have cD := nb_new aq ao.lt
  have cE := gb_new aq C.size
  replace ⟨O, ag, V, ao, ah, C, W⟩ := (se [af, r_out_1, aE, ae, ac, ab] br).g7 O ag V ao ah C W
  clear br cy aq
  have aS : nin (ge w.heap.size) [af, r_out_1, aE, ae, ac, ab] bN ∧ bN ≠ r_out_1 := hap_mk cE (all_cons cD (all_cons bt (all_cons cC (all_cons cB (all_cons cA (all_cons cz all_nil)))))) bt
  refine RG.append1 (T := 73) (ty := 73) (y := (mergI (partI a (j : Int)) (partI b (j : Int))).1) V cx (by kernel_rfl) (by kernel_rfl) ⟨_, _, _, rfl, ah.oi⟩ aS (by omega) fun bu bO eC au ax bv => ?_
  have cF := nb_or ax (Nb.symm cu) ag.lt
  have dX := nb_or ax bX ao.lt
  have cG := orb_or ax aj W.size
  replace ⟨O, ag, ao, C, W⟩ := (sa [af, r_out_1, aE, ae, ac, ab] bv ax).g5 O ag ao C W
  clear bv
  replace au := au.rn r_out_1
  clear ax
  have dY := au.len; have dZ := au.max
  refine .r 1 <| .ss 1 (vS bu (n_out_1 + 1) bO) ao fun eD bw cH cI => ?_
  replace ⟨O, ag, au, C, W⟩ := (so [af, bu, aE, ae, ac, ab] bw).g5 O ag au C W
  clear bw cI
  exact .d <| .ib 1 <| .g <| .r 1 <| .it ((j : Int) + 1) <| .r 1 <| .d <| aH (j + 1, (ak ++ [(j : Int)]), aE, n_out_0 + 1, bM, (al ++ [(mergI (partI a (j : Int)) (partI b (j : Int))).1]), bu, n_out_1 + 1, bO) _ _ ⟨by kernel_rfl, by kernel_rfl, by kernel_rfl, by kernel_rfl, by kernel_rfl, trivial⟩ ⟨W, ag, cv, au, cG, cF, cH, (by omega), (by omega), (by omega), (by omega), (by exact mqStep1 (by assumption) (by assumption) (by omega) (by assumption) (by assumption) (by assumption)), (by exact mqStep2 (by assumption) (by assumption) (by omega) (by assumption) (by assumption) (by assumption)), (by exact okM_step (by assumption) (by omega) (by assumption))⟩ (by (simp only []; omega))
 refine .d <| .cf <| .x 0 rfl <| .s <| .g <| .ln aa <| .sc [vS r_out_0 n_out_0 c_out_0, vS r_out_1 n_out_1 c_out_1] O fun bP bz cJ cK => ?_
 replace ⟨Z, V, C⟩ := (so [af, r_out_1, r_out_0, ae, ac, ab] bz).g3 Z V C
 clear bz cK
 refine .r 1 <| .d ?_
 have bA := Z.sl bW
 replace V := (sd bP [af, r_out_1, r_out_0, ae, ac, ab] r_out_0).g1 V
 have dh := V.sl bY
 replace bA := (sd bP [af, r_out_1, ae, ac, ab] r_out_1).g1 bA
 exact .r2 Tryz.func45 Tryz.results45 (.bx cJ) (.t (.bool true)) ⟨⟨_, (tup2 rfl (congrArg Value.bool (by exact (mergQ_3 (k := j) (by omega) (by assumption) (by assumption) (by assumption) (by assumption) (by assumption)).2))), (VS.of (y := (⟨ak, al⟩ : Prt)) ⟨_, rfl, ⟨_, _, _, _, _, _, rfl, bA.w1, dh.w1⟩⟩ (by exact (mergQ_3 (k := j) (by omega) (by assumption) (by assumption) (by assumption) (by assumption) (by assumption)).1))⟩, C⟩
end Go.Proofs.YtfnpaglcnmcnbaaGreat
namespace Go.Proofs.YtfnpaglcnmcnbaaGreat
theorem run_appB {P : Program} {T ty t : TypeId} {sz : Nat} {w : World} {r i c m c' : Nat} {a2 : Option Addr} {cs vs : List Value} (hT : appB P T t sz = true) (hB : Box w r t cs) (hsrc : 0 < m → ∃ x, a2 = some x ∧ Has w x vs) (hvs : vs.length = m * sz) (hroom : i + m ≤ c) (hfit : i * sz + vs.length ≤ cs.length) (hone : ∀ v ∈ vs, oneC v = true) :
 ∃ w', (Builtin.append_ #[T, T] ty #[.slice (some ⟨r, 0, none⟩) i c, .slice a2 m c']).run P w = .ok (.slice (some ⟨r, 0, none⟩) (i + m) c) w' ∧ Box w' r t (splice cs (i * sz) vs) ∧ Chg (one r) w w' := by
 obtain ⟨g1, inf, z, hinf, hsz, _, _, _⟩ := appB_spec hT
 by_cases hm : m = 0
 ·subst hm
  have : vs = [] := List.length_eq_zero_iff.1 (by omega)
  subst this
  refine ⟨w, run_append_zero g1 hinf _ _ _ _ _ (by omega) w, ?_, Chg.refl _ _⟩
  unfold splice
  simpa using hB
 ·obtain ⟨x, rfl, hx⟩ := hsrc (by omega)
  unfold Box at hB
  have hr := run_append_room (P := P) w T ty t inf g1 hinf r i c cs.toArray hB x m c' vs (by rw [hsz]; exact hvs) hx (fun u hu => oneC_old (hone u hu)) hroom (by rw [hsz]; simpa using hfit)
  rw [hsz] at hr
  have hset : (w.setRow r (splice cs (i * sz) vs).toArray).heap[r]? = some (.cells (splice cs (i * sz) vs).toArray t (0, 0)) := setRow_heap w r cs.toArray _ t _ hB
  refine ⟨_, hr, hset, ⟨rfl, rfl, rfl, by simp [World.setRow], fun k _ hn => setRow_other w r k _ hn⟩⟩
def clrB (P : Program) (T t : TypeId) (sz : Nat) : Bool :=
 (match P.underlying T with | some (.slice e) => Nat.beq e t | _ => false) &&
 (match P.info? t with | some i => (match i.zero with | some z => Nat.beq z.cells.size sz && z.cells.toList.all oneC | none => false) | none => false)
theorem run_clrB {P : Program} {T ty t : TypeId} {sz : Nat} {w : World} {r o c : Nat} {cs : List Value} (hT : clrB P T t sz = true) (hB : Box w r t cs) (hfit : o + sz ≤ cs.length) :
 ∃ vs w', (Builtin.clear_ #[T] ty #[.slice (some ⟨r, o, none⟩) 1 c]).run P w = .ok (.tuple #[]) w' ∧ vs.length = sz ∧ Box w' r t (splice cs o vs) ∧ Chg (one r) w w' := by
 unfold clrB at hT
 simp only [Bool.and_eq_true] at hT
 obtain ⟨h1, h2⟩ := hT
 split at h1
 ·rename_i e he
  have := Nat.eq_of_beq_eq_true h1
  subst this
  split at h2
  ·rename_i inf hinf
   split at h2
   ·rename_i z hz
    simp only [Bool.and_eq_true, List.all_eq_true] at h2
    have hsz := Nat.eq_of_beq_eq_true h2.1
    have hl : (Builtin.zeroCells z.cells 1).toList.length = sz := by rw [Array.length_toList, size_zeroCells, hsz]; omega
    have ho : ∀ v ∈ (Builtin.zeroCells z.cells 1).toList, oneC v = true := fun v hv => by
     unfold Builtin.zeroCells at hv
     simp only [Array.toList_map, List.mem_map, Array.toList_range, List.mem_range] at hv
     obtain ⟨k, hk, rfl⟩ := hv
     have hk2 : k % z.cells.size < z.cells.size := Nat.mod_lt _ (by omega)
     refine h2.2 _ ?_
     rw [getElem!_pos z.cells _ hk2]
     exact Array.getElem_mem_toList hk2
    obtain ⟨w', g1, g2, g3, _⟩ := hB.storeL (P := P) (Builtin.zeroCells z.cells 1).toList (o := o) (i := 0) (by omega) ho
    refine ⟨_, w', ?_, hl, g2, g3⟩
    have hv : (zeroValue e).run P w = .ok z w := by simp [zeroValue, typeInfo, hinf, hz, go_sem]
    unfold Builtin.clear_
    simp only [List.getElem?_toArray, List.getElem?_cons_zero]
    rw [run_bind_ok (run_underlying he w)]
    simp only []
    rw [run_bind_ok hv, run_bind_ok g1]
    rfl
   ·cases h2
  ·cases h2
 ·cases h1
section
variable {P : Program} {n : Nat} {K : Env → World → Prop} {ops : Array Oper} {j : Nat} {e : Env} {w : World}
theorem RG.clear {ats : List TypeId} {ty : TypeId} {args : List Value} {v : Value} {w' : World} (h : bltAt n ops j e = some (.clear, ats, ty, args))
 (hr : (Builtin.clear_ ats.toArray ty args.toArray).run P w = .ok v w') (H : RG P n K ops (j + 1) (putE e (opAt ops j).dst v) w') : RG P n K ops j e w := by
 obtain ⟨hg, h⟩ := goAt_of h
 refine RG.val (v := v) hg ?_ H
 split at h
 ·rename_i c hop
  split at h
  ·rename_i b hcal
   simp only [Option.some.injEq, Prod.mk.injEq] at h
   obtain ⟨rfl, rfl, rfl, rfl⟩ := h
   have ha : (c.args.toList.map (ev e)).toArray = c.args.map (ev e) := by apply Array.toList_inj.1; simp
   rw [ha, Array.toArray_toList] at hr
   simp only [execOp, hop, resolve, hcal]
   exact run_bind_ok hr
  ·cases h
 ·cases h
def sl3At (n : Nat) (ops : Array Oper) (j : Nat) (e : Env) : Option (TypeId × Value × Value × Value × Value) :=
 bif goAt n ops j e then
  match (opAt ops j).op with
  | .slice t x (some lo) (some hi) (some mx) => some (t, ev e x, ev e lo, ev e hi, ev e mx)
  | _ => none
 else none
theorem RG.sub3 {t : TypeId} {sz : Nat} {a : Option Addr} {len cap : Nat} {k k2 k3 : IntKind} {i1 i2 i3 : Int} (l h' m : Nat) (h : sl3At n ops j e = some (t, .slice a len cap, .int k i1, .int k2 i2, .int k3 i3)) (ht : sliB P t sz = true) (e1 : i1 = (l : Int)) (e2 : i2 = (h' : Int)) (e3 : i3 = (m : Int)) (hlh : l ≤ h') (hh : h' ≤ m) (hm : m ≤ cap)
 (H : ∀ v, RG P n K ops (j + 1) (putE e (opAt ops j).dst v) w) : RG P n K ops j e w := by
 obtain ⟨hg, h⟩ := goAt_of h
 unfold sliB at ht
 split at ht
 ·rename_i el hu
  split at ht
  ·rename_i inf hinf
   have hun : (underlying t).run P w = .ok (.slice el) w := by simp [underlying, hu, go_sem]
   refine RG.val (v := .slice (if m = l then a else a.map (·.add (l * inf.size))) (h' - l) (m - l)) hg ?_ (H _)
   split at h
   ·rename_i t' x lo hi mx hop
    simp only [Option.some.injEq, Prod.mk.injEq] at h
    obtain ⟨rfl, hx, hlo, hhi, hmx⟩ := h
    simp only [execOp, hop]
    refine run_bind_ok ?_
    simp only [Option.map_some, hx, hlo, hhi, hmx]
    unfold Instr.sliceAt
    rw [run_bind_ok hun]
    simp only []
    unfold Instr.slice
    rw [run_bind_ok hun]
    simp only []
    have hb : (Instr.sliceBounds true len cap (some (.int k i1)) (some (.int k2 i2)) (some (.int k3 i3))).run P w = .ok (l, h', m) w := by
     unfold Instr.sliceBounds
     simp only []
     rw [run_bind_ok (run_bound e3 hm w), run_bind_ok (run_bound e2 hh w), run_bind_ok (run_bound e1 hlh w)]
     rfl
    rw [run_bind_ok hb]
    simp only []
    rw [run_bind_ok (show (sizeOf el).run P w = .ok inf.size w by simp [sizeOf, typeInfo, hinf, go_sem])]
    rfl
   ·cases h
  ·cases ht
 ·cases ht
end
theorem GA.subQ {P : Program} {S : Nat → Prop} {n m : Nat} {L : Env → World → Prop} {ops : Array Oper} {l : List Nat} {e : Env} {w : World} {i : Nat} {t : TypeId} {sz r len cap : Nat} {lo hi : Option Value} (l' h' : Nat) (hb : gB n m ops l i = true) (h : sliAt n ops i e = some (t, .slice (some ⟨r, 0, none⟩) len cap, lo, hi)) (ht : sliB P t sz = true) (hlo : bnd lo 0 l') (hhi : bnd hi len h') (hlh : l' ≤ h') (hh : h' ≤ cap)
 (H : ∀ a2 c2, (0 < h' - l' → a2 = some ⟨r, l' * sz, none⟩) → GA P S n m L ops (i :: l) (putE e (opAt ops i).dst (.slice a2 (h' - l') c2)) w) : GA P S n m L ops l e w := by
 refine GA.det' hb (fun w => ?_) (H (if cap = l' then some ⟨r, 0, none⟩ else some ⟨r, l' * sz, none⟩) (cap - l') (fun hp => by rw [if_neg (by omega)]))
 have h1 := run_sliAt h (run_sub ht hlo hhi hlh hh w)
 simp only [Option.map_some, add_lit, Nat.zero_add] at h1
 exact h1
theorem Own.boxC {α : Type} [Rep α] {w : World} {r : Nat} {t : TypeId} {F : Nat → Prop} {n c : Nat} {xs : List α} (h : Own w r t F n c xs) : ∃ cs, Box w r t cs ∧ cs.length = c * Rep.sz α := by
 obtain ⟨cur, h1, h2⟩ := h.row
 exact ⟨cur.toList, by unfold Box; simpa using h1, by simpa using h2⟩
theorem Own.delBox {α : Type} [Rep α] {w w' : World} {r : Nat} {t : TypeId} {F : Nat → Prop} {n c i : Nat} {xs : List α} {cs cs' : List Value} (h : Own w r t F n c xs) (hx : Chg (one r) w w') (hB : Box w r t cs) (hB' : Box w' r t cs') (hl : cs'.length = c * Rep.sz α) (hi : i < n)
 (hp : ∀ p, p < (n - 1) * Rep.sz α → cs'[p]? = if p < i * Rep.sz α then cs[p]? else cs[p + Rep.sz α]?) : Own w' r t F (n - 1) c (xs.take i ++ xs.drop (i + 1)) := by
 have hn := h.len
 have hle := h.le
 have hcap := h.cap
 unfold Box at hB hB'
 refine ⟨by rw [List.length_append, List.length_take, List.length_drop]; omega, by omega, hcap, ⟨cs'.toArray, hB', by simpa using hl⟩, fun k x hk => ?_⟩
 have hfr : ∀ b, b < w.heap.size → F b ∧ b ≠ r → (F b ∧ b ≠ r) ∧ w'.heap[b]? = w.heap[b]? := fun b hb hF => ⟨hF, hx.block b hb (fun e => hF.2 e)⟩
 have hk2 : k < (xs.take i ++ xs.drop (i + 1)).length := (List.getElem?_eq_some_iff.1 hk).1
 rw [List.length_append, List.length_take, List.length_drop] at hk2
 by_cases hki : k < i
 ·rw [List.getElem?_append_left (by rw [List.length_take]; omega), List.getElem?_take, if_pos hki] at hk
  obtain ⟨c1, g1, g2⟩ := h.elem k x hk
  refine ⟨c1, Rep.frame g1 hfr, fun u v hv => ?_⟩
  have h3 := g2 u v hv
  have hu : u < Rep.sz α := by have := (List.getElem?_eq_some_iff.1 hv).1; rw [Rep.len g1] at this; exact this
  have hm : k * Rep.sz α + Rep.sz α ≤ i * Rep.sz α := by rw [← Nat.succ_mul]; exact Nat.mul_le_mul_right _ hki
  have hm2 : i * Rep.sz α ≤ (n - 1) * Rep.sz α := Nat.mul_le_mul_right _ (by omega)
  rw [add_lit] at h3 ⊢
  simp only [World.cell?, hB] at h3
  simp only [World.cell?, hB']
  have := hp (k * Rep.sz α + u) (by omega)
  rw [if_pos (by omega)] at this
  simpa [this] using h3
 ·rw [List.getElem?_append_right (by rw [List.length_take]; omega), List.length_take, Nat.min_eq_left (by omega), List.getElem?_drop] at hk
  rw [show i + 1 + (k - i) = k + 1 by omega] at hk
  obtain ⟨c1, g1, g2⟩ := h.elem (k + 1) x hk
  refine ⟨c1, Rep.frame g1 hfr, fun u v hv => ?_⟩
  have h3 := g2 u v hv
  have hu : u < Rep.sz α := by have := (List.getElem?_eq_some_iff.1 hv).1; rw [Rep.len g1] at this; exact this
  have hm : k * Rep.sz α + Rep.sz α ≤ (n - 1) * Rep.sz α := by rw [← Nat.succ_mul]; exact Nat.mul_le_mul_right _ (by omega)
  have hm2 : i * Rep.sz α ≤ k * Rep.sz α := Nat.mul_le_mul_right _ (by omega)
  rw [add_lit] at h3 ⊢
  simp only [World.cell?, hB] at h3
  simp only [World.cell?, hB']
  have := hp (k * Rep.sz α + u) (by omega)
  rw [if_neg (by omega)] at this
  rw [Nat.succ_mul, show k * Rep.sz α + Rep.sz α + u = k * Rep.sz α + u + Rep.sz α by omega] at h3
  simpa [this] using h3
theorem del_cells {cs v1 v2 : List Value} {n c i sz : Nat} (hl : cs.length = c * sz) (hi : i < n) (hn : n ≤ c) (h1 : v1 = (cs.drop ((i + 1) * sz)).take ((n - (i + 1)) * sz)) (h2 : v2.length = sz) :
 (splice (splice cs (i * sz) v1) ((n - 1) * sz) v2).length = c * sz ∧ ∀ p, p < (n - 1) * sz → (splice (splice cs (i * sz) v1) ((n - 1) * sz) v2)[p]? = if p < i * sz then cs[p]? else cs[p + sz]? := by
 have m1 : (i + 1) * sz + (n - (i + 1)) * sz = n * sz := by rw [← Nat.add_mul]; congr 1; omega
 have m2 : (n - 1) * sz + sz = n * sz := by rw [← Nat.succ_mul]; congr 1; omega
 have m3 : n * sz ≤ c * sz := Nat.mul_le_mul_right _ hn
 have m4 : (i + 1) * sz = i * sz + sz := Nat.succ_mul _ _
 have l1 : v1.length = (n - (i + 1)) * sz := by rw [h1, List.length_take, List.length_drop]; omega
 have l2 : (splice cs (i * sz) v1).length = c * sz := by rw [spl_len (by omega)]; exact hl
 refine ⟨by rw [spl_len (by omega)]; exact l2, fun p hp => ?_⟩
 unfold splice
 rw [List.append_assoc, List.getElem?_append_left (by rw [List.length_take]; unfold splice at l2; omega), List.getElem?_take, if_pos hp, List.append_assoc]
 by_cases hpi : p < i * sz
 ·rw [if_pos hpi, List.getElem?_append_left (by rw [List.length_take]; omega), List.getElem?_take, if_pos hpi]
 ·rw [if_neg hpi, List.getElem?_append_right (by rw [List.length_take]; omega), List.length_take, Nat.min_eq_left (by omega), List.getElem?_append_left (by omega), h1, List.getElem?_take, if_pos (by omega), List.getElem?_drop]
  congr 1
  omega
theorem prt_one {w : World} {F : Nat → Prop} {x : Prt} {cs : List Value} (h : Rep.rep w F x cs) : ∀ v ∈ cs, oneC v = true := Rep.flat h
theorem Own.oneC {w : World} {r : Nat} {t : TypeId} {F : Nat → Prop} {n c i : Nat} {xs : List Prt} {cs : List Value} (h : Own w r t F n c xs) (hB : Box w r t cs) : ∀ v, i + (n - i) ≤ n → v ∈ (cs.drop (i * 2)).take ((n - i) * 2) → Go.Proofs.YtfnpaglcnmcnbaaGreat.oneC v = true := by
 intro v hin hv
 obtain ⟨k, hk⟩ := List.mem_iff_getElem?.1 hv
 rw [List.getElem?_take] at hk
 split at hk
 ·rename_i hlt
  rw [List.getElem?_drop] at hk
  have hn := h.len
  have hj : i + k / 2 < xs.length := by omega
  obtain ⟨c1, g1, g2⟩ := h.elem (i + k / 2) xs[i + k / 2] (List.getElem?_eq_getElem hj)
  have hl : c1.length = 2 := Rep.len g1
  have hk2 : k % 2 < c1.length := by omega
  have h3 := g2 (k % 2) c1[k % 2] (List.getElem?_eq_getElem hk2)
  have hz : Rep.sz Prt = 2 := rfl
  unfold Box at hB
  rw [add_lit, hz] at h3
  simp only [World.cell?, hB] at h3
  have e : (i + k / 2) * 2 + k % 2 = i * 2 + k := by omega
  rw [e] at h3
  have h4 : cs[i * 2 + k]? = some c1[k % 2] := by simpa using h3
  rw [hk] at h4
  cases h4
  exact prt_one g1 _ (List.getElem_mem hk2)
 ·cases hk
theorem partG_blk : ∀ (is : List Int) (bs : List (List Row)) (o : Option Int), partG o is bs = true → is.length = bs.length → ∀ b ∈ bs, blockOk b = true := by
 intro is
 induction is with
 | nil =>
   intro bs o _ hl b hb
   cases bs with
   | nil => cases hb
   | cons c cs => simp at hl
 | cons i is ih =>
   intro bs o h hl b hb
   cases bs with
   | nil => cases hb
   | cons c cs =>
     unfold partG at h
     simp only [Bool.and_eq_true] at h
     rcases List.mem_cons.1 hb with rfl | hb
     ·exact h.1.2
     ·exact ih cs (some i) h.2 (by simpa using hl) b hb
theorem partOk_of {p : Prt} (h : partOk p = true) (id : Int) : blockOk (partOf p id) = true := by
 rcases partF_mem id p.ids p.blocks with h1 | h1
 ·unfold partOf; rw [h1]; rfl
 ·unfold partOk at h
  simp only [Bool.and_eq_true, decide_eq_true_eq] at h
  exact partG_blk p.ids p.blocks none h.2 h.1 _ h1
theorem parts_some {id t : Int} : ∀ (ps : List Prt) (o : List Row), (∀ p ∈ ps, PrtI p) → Blk o → ((look t o).isSome = true ∨ ∃ p ∈ ps, (look t (partOf p id)).isSome = true) → (look t (ps.foldl (rowsP id) o)).isSome = true := by
 intro ps
 induction ps with
 | nil =>
   rintro o _ _ (h | ⟨p, hp, _⟩)
   ·exact h
   ·cases hp
 | cons p ps ih =>
   intro o hI ho h
   have hp : Blk (partOf p id) := (hI p (by simp)).of id
   refine ih _ (fun q hq => hI q (by simp [hq])) (ho.merge hp) ?_
   have e : look t (rowsP id o p) = (look t (partOf p id)).or (look t o) := look_merge t o ho hp
   rcases h with h | ⟨q, hq, h⟩
   ·refine .inl ?_
    rw [e]
    cases look t (partOf p id) with
    | none => exact h
    | some x => rfl
   ·rcases List.mem_cons.1 hq with rfl | hq
    ·refine .inl ?_
     rw [e]
     obtain ⟨x, hx⟩ := Option.isSome_iff_exists.1 h
     rw [hx]; rfl
    ·exact .inr ⟨q, hq, h⟩
theorem part_le {p : Prt} {n : Int} (h : partIn p n = true) : ∀ i ∈ p.ids, i ≤ n := by
 unfold partIn at h
 simp only [Bool.and_eq_true] at h
 obtain ⟨h1, h2⟩ := h
 unfold partOk at h1
 simp only [Bool.and_eq_true, decide_eq_true_eq] at h1
 have key : ∀ (is : List Int) (bs : List (List Row)) (o : Option Int), partG o is bs = true → (∀ q, o = some q → ∀ i ∈ is, q < i) ∧ ∀ l, is.getLast? = some l → ∀ i ∈ is, i ≤ l := by
  intro is
  induction is with
  | nil => intro bs o _; exact ⟨fun _ _ i hi => (by cases hi), fun l hl => (by simp at hl)⟩
  | cons x xs ih =>
    intro bs o hg
    cases bs with
    | nil => simp [partG] at hg
    | cons b bs =>
      simp only [partG, Bool.and_eq_true] at hg
      obtain ⟨k1, k2⟩ := ih bs (some x) hg.2
      have hx : ∀ q, o = some q → q < x := fun q hq => by
       have := hg.1.1.1.2
       rw [hq] at this
       simpa using this
      refine ⟨fun q hq i hi => ?_, fun l hl i hi => ?_⟩
      ·rcases List.mem_cons.1 hi with rfl | hi
       ·exact hx q hq
       ·have := k1 x rfl i hi; have := hx q hq; omega
      ·cases hc : xs.getLast? with
       | none =>
         have : xs = [] := List.getLast?_eq_none_iff.1 hc
         subst this
         simp at hl hi
         omega
       | some l2 =>
         have e : (x :: xs).getLast? = some l2 := by rw [List.getLast?_cons, hc]; rfl
         rw [e] at hl
         cases hl
         rcases List.mem_cons.1 hi with rfl | hi
         ·have := k1 i rfl l (List.mem_of_getLast? hc); omega
         ·exact k2 l hc i hi
 intro i hi
 cases hl : p.ids.getLast? with
 | none => rw [hl] at h2; cases h2
 | some l =>
   rw [hl] at h2
   have := (key p.ids p.blocks none h1.2).2 l hl i hi
   have h3 : l ≤ n := by simpa using h2
   omega
theorem partOf_gt {p : Prt} {id : Int} (h : ∀ i ∈ p.ids, i < id) : partOf p id = [] := by
 have key : ∀ (is : List Int) (bs : List (List Row)), (∀ i ∈ is, i < id) → partF id is bs = [] := by
  intro is
  induction is with
  | nil => intro bs _; unfold partF; rfl
  | cons i is ih =>
    intro bs h
    cases bs with
    | nil => unfold partF; rfl
    | cons b bs =>
      unfold partF
      rw [if_neg (by have := h i (by simp); simp; omega)]
      exact ih bs (fun j hj => h j (by simp [hj]))
 exact key _ _ h
theorem mergQ_ok {s : Sto} (h : SD s) (hk : storeOk s = true) {x y : Prt} (hx : x ∈ s.parts) (hy : y ∈ s.parts) : mergQ x y = (pMerge x y, true) := by
 have hK := StoK.of h hk
 have ox := (hK.part x hx).2
 have oy := (hK.part y hy).2
 unfold mergQ
 rw [if_pos]
 refine ⟨ox, oy, ?_⟩
 unfold okM
 rw [List.all_eq_true]
 intro i hi
 rw [List.mem_range] at hi
 have e1 : partI x ((i : Int) + 1) = partOf x ((i : Int) + 1) := by unfold partI; rw [if_pos ox]
 have e2 : partI y ((i : Int) + 1) = partOf y ((i : Int) + 1) := by unfold partI; rw [if_pos oy]
 rw [e1, e2]
 have b1 := partOk_of ox ((i : Int) + 1)
 have b2 := partOk_of oy ((i : Int) + 1)
 have hl : (sMerge (partOf x ((i : Int) + 1)) (partOf y ((i : Int) + 1))).length ≤ 24 := by
  unfold storeOk at hk
  simp only [Bool.and_eq_true, decide_eq_true_eq, List.all_eq_true, List.mem_range, cntOk] at hk
  by_cases hin : i < s.idx.names.length
  ·have bb := (blkOf b1).merge (blkOf b2)
   have hP : Blk (s.parts.foldl (rowsP ((i : Int) + 1)) []) := parts_blk h.part Blk.nil
   refine Nat.le_trans (look_le bb (b := rowsOf s ((i : Int) + 1)) ?_ (fun t ht => ?_)) (hk.2 i hin)
   ·exact (look_mem 0 _ s.mem _ hK.row hP).2
   ·refine rows_ge hK _ t (.inl (parts_some s.parts [] h.part Blk.nil (.inr ?_)))
    rw [look_merge t _ (blkOf b1) (blkOf b2)] at ht
    cases hc : look t (partOf y ((i : Int) + 1)) with
    | some q => exact ⟨y, hy, by rw [hc]; rfl⟩
    | none => rw [hc] at ht; exact ⟨x, hx, ht⟩
  ·have g := fun p hp => partOf_gt (p := p) (id := (i : Int) + 1) (fun j hj => by have := part_le (hk.1.1.2 p hp) j hj; omega)
   rw [g x hx, g y hy]
   decide
 unfold mergI
 rw [if_pos ⟨b1, b2, by omega⟩]
theorem mergeJ_1 {s : Sto} {i : Int} (_h : SD s) (hk : storeOk s = true) (h1 : inR i 0 ((s.parts.length : Int) - 2) = false) : mergeT s i = (copyS s, false) := by
 rw [mergeT_yes hk]; exact mergeR_f h1
theorem mergeJ_2 {s : Sto} {i : Int} {x y : Prt} (h : SD s) (hk : storeOk s = true) (h1 : inR i 0 ((s.parts.length : Int) - 2) = true) (hx : s.parts[i.toNat]? = some x) (hy : s.parts[(i + 1).toNat]? = some y) :
 mergeT s i = (⟨(copyS s).idx, [] ++ (((copyS s).parts.set i.toNat (mergQ x y).1).take (i.toNat + 1) ++ ((copyS s).parts.set i.toNat (mergQ x y).1).drop (i.toNat + 1 + 1)), (copyS s).mem⟩, true) := by
 have h2 := inR_t h1
 have hx2 := (List.getElem?_eq_some_iff.1 hx).1
 rw [mergeT_yes hk]
 have e := mergeR_t (s := copyS s) (a := i) (x := x) (y := y) h1 hx hy
 rw [e, mergQ_ok h hk (List.mem_of_getElem? hx) (List.mem_of_getElem? hy)]
 have ep : (copyS s).parts = s.parts := rfl
 rw [ep]
 have e2 : (i + 2).toNat = i.toNat + 2 := by omega
 congr 2
 rw [e2, List.nil_append, List.nil_append, List.drop_zero, List.take_length]
 congr 1
 ·rw [List.take_add_one, List.take_set_of_le (Nat.le_refl _), List.getElem?_set_self (by exact hx2)]
  rfl
 ·rw [List.drop_set_of_lt (by omega)]
end Go.Proofs.YtfnpaglcnmcnbaaGreat
namespace Go.Proofs.YtfnpaglcnmcnbaaGreat
set_option maxRecDepth 100000
set_option maxHeartbeats 4000000
theorem c_slices_Delete {w : World} {F : Nat → Prop} {r n c i : Nat} {xs : List Prt} {a b : Int} (ho : Own w r 75 F n c xs) (ha : a = (i : Int)) (hb : b = (i : Int) + 1) (hi : i < n) (hn : n ≤ 1000000) : Calls Tryz.prog 82 [.slice (some ⟨r, 0, none⟩) n c, .int .i64 a, .int .i64 b].toArray w (rets fun rv w' => (rv = .slice (some ⟨r, 0, none⟩) (n - 1) c ∧ Own w' r 75 F (n - 1) c (xs.take i ++ xs.drop (i + 1))) ∧ Chg (one r) w w') := by
 subst ha hb
 refine goT Tryz.func82 ?_
 have hle := ho.le
 obtain ⟨cs, hB, hl⟩ := ho.boxC
 have hz : Rep.sz Prt = 2 := rfl
 rw [hz] at hl
 refine .s <| .g <| .r 1 <| .d <| .s <| .g <| .r 5 <| RG.sub3 (t := 27) (k := .i64) (k2 := .i64) (k3 := .i64) (a := some ⟨r, 0, none⟩) (len := n) (cap := c) (i1 := (i : Int)) (i2 := (i : Int) + 1) (i3 := (n : Int)) (sz := 2) i (i + 1) n (by kernel_rfl) (by kernel_rfl) rfl (by omega) rfl (by omega) (by omega) hle fun v_ => .d <| .s <| .s <| .g <| .r 2 <| .eq (i : Int) ((i : Int) + 1) (fun h => absurd (show False by omega) id) fun _ => .d <| .cf <| .sk <| .s <| .g <| .r 3 <| .d <| .s <| .gd (one r) 7 fun w1 hx1 => ?_
 refine .r [0, 1] <| GA.subN (i := 2) (t := 27) (r := r) (o := 0) (len := n) (cap := c) (lo := none) (hi := some (vI (i : Int))) (sz := 2) 0 i (by kernel_rfl) (by kernel_rfl) (by kernel_rfl) (.inl ⟨rfl, rfl⟩) (.inr ⟨_, _, rfl, rfl⟩) (by omega) (by omega) (by omega) <| .r [3, 4] <| GA.subQ (i := 5) (t := 27) (r := r) (len := n) (cap := c) (lo := some (vI ((i : Int) + 1))) (hi := none) (sz := 2) (i + 1) n (by kernel_rfl) (by kernel_rfl) (by kernel_rfl) (.inr ⟨_, _, rfl, by omega⟩) (.inl ⟨rfl, rfl⟩) (by omega) (by omega) fun a2 c2 h2 => ?_
 refine .go 6 <| GE.append (T := 27) (ty := 27) (args := [.slice (some ⟨r, 0, none⟩) i c, .slice a2 (n - (i + 1)) c2]) (by kernel_rfl) fun w2 hx2 => ?_
 have hx12 : Ext w w2 := hx1.trans hx2
 have m1 : (i + 1) * 2 + (n - (i + 1)) * 2 = n * 2 := by omega
 have hB2 := hB.ext hx12
 obtain ⟨w3, hr, hB3, hx3⟩ := run_appB (P := Tryz.prog) (T := 27) (ty := 27) (t := 75) (sz := 2) (i := i) (c := c) (m := n - (i + 1)) (c' := c2) (a2 := a2) (vs := (cs.drop ((i + 1) * 2)).take ((n - (i + 1)) * 2)) (by kernel_rfl) hB2
  (fun hp => ⟨_, h2 hp, fun k u hu => by
   rw [add_lit]
   unfold Box at hB2
   simp only [World.cell?, hB2]
   rw [List.getElem?_take] at hu
   split at hu
   ·rw [List.getElem?_drop] at hu
    simpa using hu
   ·cases hu⟩) (by rw [List.length_take, List.length_drop]; omega) (by omega) (by rw [List.length_take, List.length_drop]; omega) (fun v hv => ho.oneC (i := i + 1) hB v (by omega) hv)
 refine ⟨_, w3, hr, hx3, .d fun w4 hx4 => .r 1 <| .d <| .s <| .g <| .r 4 <| ?_⟩
 have hB4 := hB3.ext hx4
 have hlen : i + (n - (i + 1)) = n - 1 := by omega
 rw [hlen]
 refine RG.subN (t := 27) (r := r) (o := 0) (len := n - 1) (cap := c) (lo := some (vI ((n - 1 : Nat) : Int))) (hi := some (vI (n : Int))) (sz := 2) (n - 1) n (by kernel_rfl) (by kernel_rfl) (.inr ⟨_, _, rfl, rfl⟩) (.inr ⟨_, _, rfl, rfl⟩) (by omega) (by omega) (by omega) ?_
 have h1 : n - (n - 1) = 1 := by omega
 rw [h1]
 have hl4 : (splice cs (i * 2) ((cs.drop ((i + 1) * 2)).take ((n - (i + 1)) * 2))).length = c * 2 := by rw [spl_len (by rw [List.length_take, List.length_drop]; omega)]; exact hl
 obtain ⟨vs, w5, hr5, hv5, hB5, hx5⟩ := run_clrB (P := Tryz.prog) (T := 27) (ty := 0) (t := 75) (sz := 2) (o := 0 + (n - 1) * 2) (c := c - (n - 1)) (by kernel_rfl) hB4 (by omega)
 rw [Nat.zero_add] at hB5
 have hd := del_cells (sz := 2) hl hi hle rfl hv5
 have hx : Chg (one r) w w5 := (((hx12.chg (S := one r)).trans hx3).trans hx4.chg).trans hx5
 refine RG.clear (ats := [27]) (ty := 0) (args := [.slice (some ⟨r, 0 + (n - 1) * 2, none⟩) 1 (c - (n - 1))]) (by kernel_rfl) hr5 <| .d <| .s <| .g <| .r 2 <| .d <| .rt Tryz.func82 Tryz.results82 (.slice (some ⟨r, 0, none⟩) (n - 1) c) ⟨⟨rfl, Own.delBox ho hx hB hB5 (by rw [hz]; exact hd.1) hi (by rw [hz]; exact hd.2)⟩, hx⟩
end Go.Proofs.YtfnpaglcnmcnbaaGreat
namespace Go.Proofs.YtfnpaglcnmcnbaaGreat
set_option maxRecDepth 100000
set_option maxHeartbeats 4000000
set_option maxRecDepth 100000 in
set_option maxHeartbeats 4000000 in
theorem c_impl_StoreMerge (s : Sto) (at_ : Int) {w : World} {F : Nat → Prop} {a1 : Option Addr} {n1 c1 : Nat} (h1 : RepS w F a1 n1 c1 s.idx.names) {a2 : Option Addr} {n2 c2 : Nat} (h2 : RepS w F a2 n2 c2 s.idx.posts) {a3 : Option Addr} {n3 c3 : Nat} (h3 : RepS w F a3 n3 c3 s.parts) {a4 : Option Addr} {n4 c4 : Nat} (h4 : RepS w F a4 n4 c4 s.mem) (p0 : SD s) : Calls Tryz.prog 30 [.agg #[.slice a1 n1 c1, .slice a2 n2 c2, .slice a3 n3 c3, .slice a4 n4 c4], .int .i64 at_].toArray w (rets fun rv w' => (∃ v0, rv = .tuple #[v0, .bool ((mergeT s at_).2)] ∧ VS (fo F w.heap.size) w' ((mergeT s at_).1 : Sto) v0) ∧ Ext w w') := by
 refine goT Tryz.func30 ?_
 obtain ⟨rfl, dH, h1⟩ := h1.tp
 obtain ⟨rfl, dI, h2⟩ := h2.tp
 obtain ⟨rfl, dJ, h3⟩ := h3.tp
 obtain ⟨rfl, dK, h4⟩ := h4.tp
 refine .s <| .g <| .np 30 [.slice a1 s.idx.names.length c1, .slice a2 s.idx.posts.length c2, .slice a3 s.parts.length c3, .slice a4 s.mem.length c4] fun ab eA bA aS J cH => ?_
 replace ⟨h1, h2, h3, h4⟩ := (sn [] aS bA).g4 h1 h2 h3 h4
 have C := aS
 clear aS cH bA
 refine .np 30 [.slice none 0 0, .slice none 0 0, .slice none 0 0, .slice none 0 0] fun ae dd aM bB V cI => ?_
 have dL := nb_new aM J.lt
 have dM := C.cn aM
 replace ⟨h1, h2, h3, h4, J, C⟩ := (sn [ab] bB aM).g6 h1 h2 h3 h4 J C
 clear bB cI aM
 refine .r 1 <| .d <| .s <| .s <| .g <| .ln J <| .cl (c_impl_StoreOk s h1.ta h2.ta h3.ta h4.ta p0 (w := dd) (F := all)) ?_
 rintro eB bR ⟨rfl, bC⟩
 replace ⟨h1, h2, h3, h4, J, V, C⟩ := (se [ae, ab] bC).g7 h1 h2 h3 h4 J V C
 clear bC
 cases dN : (storeOk s)
 ·refine .r 1 <| .d <| .ct <| .s <| .g <| .r 1 <| .sc [.slice none 0 0, .slice none 0 0, .slice none 0 0, .slice none 0 0] V fun eC bD cJ cK => ?_
  replace ⟨h1, h2, h3, h4, J, C⟩ := (so [ae, ab] bD).g6 h1 h2 h3 h4 J C
  clear bD cK
  exact .r 1 <| .d <| .r2 Tryz.func30 Tryz.results30 (.bx cJ) (.t (.bool false)) ⟨⟨_, (tup2 rfl (congrArg Value.bool (by rw [mergeT_no (by assumption)]))), (VS.of (y := (⟨(⟨([] : List (List Tag)), ([] : List Pst)⟩ : Idx), ([] : List Prt), ([] : List Smp)⟩ : Sto)) ⟨_, rfl, ⟨_, _, _, _, _, _, _, _, _, _, _, _, rfl, (RepS.nil' _ _ none 0 (by decide)), (RepS.nil' _ _ none 0 (by decide)), (RepS.nil' _ _ none 0 (by decide)), (RepS.nil' _ _ none 0 (by decide))⟩⟩ (by rw [mergeT_no (by assumption)]))⟩, C⟩
 refine .r 1 <| .d <| .cf <| .sk <| .s <| .g <| .ln J <| .cl (c_impl_cloneStore2 s h1.ta h2.ta h3.ta h4.ta p0.nm p0.nd p0.sz (w := bR) (F := all)) ?_
 rintro eD aT ⟨⟨bS, eE, bT, bU, eF, bV, af, aQ, cL, ac, bW, bX, rfl, W, Z, aa, aw, E, aC, dO⟩, aU⟩
 have aD := al2 V.lt J.lt
 have aN : Gb w.heap.size bR.heap.size := C.size
 have bE := nb_ge aw J.lt
 have dP := nb_ge aw V.lt
 have bF := gb_ge aw C.size
 have dQ : Cov nil w af := cov_ge aw C.size
 have bG := nb_ge aC J.lt
 have dR := nb_ge aC V.lt
 have bH := gb_ge aC C.size
 have bI : Mv [ae, ab] [af, ac, ae, ab] bR aT := Mv.cons (Mv.cons (Mv.ext aU) aC) aw
 replace ⟨h3, J, V, C⟩ := (sp bI aU).g4 h3 J V C
 clear bI aU aw aC
 replace W : RepS aT (nin (ge w.heap.size) [af, ac, ae, ab]) _ _ _ _ := RepS.takeM (s0 := w.heap.size) (M := [ae, ab]) W aD aN
 replace W := W.base (G' := fo F w.heap.size) (fun _ _ h => .inr h)
 have dS := W.max
 replace Z : RepS aT (nin (ge w.heap.size) [af, ac, ae, ab]) _ _ _ _ := RepS.takeM (s0 := w.heap.size) (M := [ae, ab]) Z aD aN
 replace Z := Z.base (G' := fo F w.heap.size) (fun _ _ h => .inr h)
 have dT := Z.max
 replace aa : Own aT af 75 (nin (ge w.heap.size) [af, ac, ae, ab]) _ _ _ := Own.takeM (s0 := w.heap.size) (M := [ae, ab]) aa aD aN
 replace aa := aa.base (G' := fo F w.heap.size) (fun _ _ h => .inr h)
 have dU := aa.max
 have dV := aa.len
 replace E : Own aT ac 51 (nin (ge w.heap.size) [af, ac, ae, ab]) _ _ _ := Own.takeM (s0 := w.heap.size) (M := [ae, ab]) E aD aN
 replace E := E.base (G' := fo F w.heap.size) (fun _ _ h => .inr h)
 have dW := E.max
 have dX := E.len
 clear aD
 have cM := W.len
 subst cM
 have cN := Z.len
 subst cN
 refine .np 30 [.slice none 0 0, .slice none 0 0, .slice none 0 0, .slice none 0 0] fun ag eG am bJ cO cP => ?_
 have dY := nb_new am J.lt
 have dZ := nb_new am V.lt
 have cQ := nb_new am aa.lt
 have bY := nb_new am E.lt
 have de := C.cn am
 replace ⟨h3, J, V, W, Z, aa, E, C⟩ := (sn [af, ac, ae, ab] bJ am).g8 h3 J V W Z aa E C
 clear bJ cP am
 refine .sc [.slice bS (((((copyS s)).idx).names).length) bT, .slice bU (((((copyS s)).idx).posts).length) bV, vS af aQ cL, vS ac bW bX] cO fun cR aV O bZ => ?_
 replace ⟨h3, J, V, W, Z, aa, E, C⟩ := (so [ag, af, ac, ae, ab] aV).g8 h3 J V W Z aa E C
 clear aV bZ
 refine .d <| .s <| .s <| .g <| .r 2 <| .lb J <| .r 1 <| RG.int ((s.parts.length : Int) - 2) (by kernel_rfl) (by have := p0.np; omega) <| .cl (c_impl_within at_ 0 ((s.parts.length : Int) - 2) (w := cR) (F := all)) ?_
 rintro d0 aF ⟨rfl, aW⟩
 replace ⟨h3, J, V, W, Z, aa, E, O, C⟩ := (se [ag, af, ac, ae, ab] aW).g9 h3 J V W Z aa E O C
 clear aW
 cases aX : (inR at_ 0 ((s.parts.length : Int) - 2))
 ·have df := inR_f aX
  refine .r 1 <| .d <| .ct <| .s <| .g <| .ln O <| .sc [.slice bS (((((copyS s)).idx).names).length) bT, .slice bU (((((copyS s)).idx).posts).length) bV, vS af aQ cL, vS ac bW bX] V fun bK aY b0 b6 => ?_
  replace ⟨h3, J, W, Z, aa, E, O, C⟩ := (so [ag, af, ac, ae, ab] aY).g8 h3 J W Z aa E O C
  clear aY b6
  refine .r 1 <| .d ?_
  have aZ := aa.sl (.inr bF)
  replace ⟨h3, W, Z, E⟩ := (sd bK [ag, af, ac, ae, ab] af).g4 h3 W Z E
  have cS := E.sl (.inr bH)
  replace ⟨h3, W, Z, aZ⟩ := (sd bK [ag, ac, ae, ab] ac).g4 h3 W Z aZ
  exact .r2 Tryz.func30 Tryz.results30 (.bx b0) (.t (.bool false)) ⟨⟨_, (tup2 rfl (congrArg Value.bool (by rw [mergeJ_1 p0 (by assumption) (by assumption)]))), (VS.of (y := (⟨(⟨(((copyS s)).idx).names, (((copyS s)).idx).posts⟩ : Idx), ((copyS s)).parts, ((copyS s)).mem⟩ : Sto)) ⟨_, rfl, ⟨_, _, _, _, _, _, _, _, _, _, _, _, rfl, W.w1, Z.w1, aZ.w1, cS.w1⟩⟩ (by rw [mergeJ_1 p0 (by assumption) (by assumption)]))⟩, C⟩
 have dg := inR_t aX
 refine .r 1 <| .d <| .cf <| .sk <| .s ?_
 replace h3 := h3.into
 replace W := W.into
 replace Z := Z.into
 have ba : Gb (ab + 1) aF.heap.size := J.lt
 have b7 : Cov (mtb [af, ac] aF.heap.size) aF af := ⟨.inl (.inl (.head _))⟩
 have b8 : Gb (ag + 1) aF.heap.size := O.lt
 refine .gd (mtb [af, ac] aF.heap.size) 20 fun d3 bc => ?_
 replace ⟨h3, J, V, W, Z, aa, E, O, C⟩ := (se [ag, af, ac, ae, ab] bc).g9 h3 J V W Z aa E O C
 clear bc
 refine .r [0] <| .lb 1 O (nS_of (all_cons cQ (all_cons bY all_nil)) b8) <| .r [2, 3] <| .lb 4 J (nS_of (all_cons (Nb.symm bE) (all_cons (Nb.symm bG) all_nil)) ba) <| .r [5] ?_
 have bd : (at_).toNat < s.parts.length := (by have q2 := inR_t (by assumption); have q3 : (copyS s).parts.length = s.parts.length := rfl; omega)
 refine GA.idx (i := 6) ((at_).toNat) (len := s.parts.length) (z := at_) (sz := 2) (by kernel_rfl) (by have q2 := inR_t (by assumption); have q3 : (copyS s).parts.length = s.parts.length := rfl; omega) bd (h3.addr (Nat.zero_lt_of_lt bd)) ?_
 obtain ⟨ao, az⟩ : ∃ y, s.parts[(at_).toNat]? = some y := ⟨_, List.getElem?_eq_getElem (by have q2 := inR_t (by assumption); have q3 : (copyS s).parts.length = s.parts.length := rfl; omega)⟩
 have dh := drop_at az; have cT := List.mem_of_getElem? az
 obtain ⟨_, ⟨d4, d5, d6, d7, d8, d9, rfl, bg, bh⟩, b9⟩ := h3.elem ((at_).toNat) ao az
 have cd := bg.len
 subst cd
 have di := bg.max
 have ce := bh.len
 subst ce
 have dj := bh.max
 refine .lg 7 0 b9 (h3.nS (pos_of az) (all_cons (.tail _ (.head _)) (all_cons (.tail _ (.tail _ (.head _))) all_nil))) <| .r [8] <| .lb 9 J (nS_of (all_cons (Nb.symm bE) (all_cons (Nb.symm bG) all_nil)) ba) <| .r [10] <| GA.int (i := 11) (at_ + 1) (by kernel_rfl) (by have := p0.np; omega) ?_
 have bi : (at_ + 1).toNat < s.parts.length := (by have q2 := inR_t (by assumption); have q3 : (copyS s).parts.length = s.parts.length := rfl; omega)
 refine GA.idx (i := 12) ((at_ + 1).toNat) (len := s.parts.length) (z := at_ + 1) (sz := 2) (by kernel_rfl) (by have q2 := inR_t (by assumption); have q3 : (copyS s).parts.length = s.parts.length := rfl; omega) bi (h3.addr (Nat.zero_lt_of_lt bi)) ?_
 obtain ⟨aq, aA⟩ : ∃ y, s.parts[(at_ + 1).toNat]? = some y := ⟨_, List.getElem?_eq_getElem (by have q2 := inR_t (by assumption); have q3 : (copyS s).parts.length = s.parts.length := rfl; omega)⟩
 have dk := drop_at aA; have cU := List.mem_of_getElem? aA
 obtain ⟨_, ⟨ec, ed, ee, ef, eg, eh, rfl, bj, bk⟩, cg⟩ := h3.elem ((at_ + 1).toNat) aq aA
 have ci := bj.len
 subst ci
 have dm := bj.max
 have cj := bk.len
 subst cj
 have dp := bk.max
 refine .lg 13 0 cg (h3.nS (pos_of aA) (all_cons (.tail _ (.head _)) (all_cons (.tail _ (.tail _ (.head _))) all_nil))) <| .go 14 <| .cl (fun bm al => c_impl_PartMerge ao aq (bg.ta.ext al) (bh.ta.ext al) (bj.ta.ext al) (bk.ta.ext al) (by exact (p0.part _ (by assumption)).sz) (by exact (p0.part _ (by assumption)).sz) (w := bm) (F := all)) ?_
 intro bm al
 replace ⟨J, V, W, Z, aa, E, O, C⟩ := (se [ag, af, ac, ae, ab] al).g8 J V W Z aa E O C
 rintro ei cV ⟨⟨ej, rfl, ⟨_, rfl, ⟨cW, ek, cX, cY, em, cZ, rfl, ar, au⟩⟩⟩, aH⟩
 have aI := al5 O.lt aa.lt E.lt V.lt J.lt
 have bn : Gb w.heap.size bm.heap.size := C.size
 have hkeep_ := aH
 replace ⟨J, V, W, Z, aa, E, O, C⟩ := (se [ag, af, ac, ae, ab] aH).g8 J V W Z aa E O C
 clear aH
 refine ⟨Ext.chg hkeep_, ?_⟩
 have ar := ar.fr aI bn
 replace ar := ar.base (G' := fo F w.heap.size) (fun _ _ h => .inr h)
 have dq := ar.max
 have au := au.fr aI bn
 replace au := au.base (G' := fo F w.heap.size) (fun _ _ h => .inr h)
 have dr := au.max
 clear aI
 have ck := ar.len
 subst ck
 have cm := au.len
 subst cm
 refine .r [15, 16, 17] ?_
 have co : (at_).toNat < aQ := (by have q2 := inR_t (by assumption); have q3 : (copyS s).parts.length = s.parts.length := rfl; omega)
 refine GA.idx (i := 18) (b := af) (o := 0) ((at_).toNat) (len := aQ) (z := at_) (sz := 2) (by kernel_rfl) (by have q2 := inR_t (by assumption); have q3 : (copyS s).parts.length = s.parts.length := rfl; omega) co rfl <| .go 19 ?_
 obtain ⟨aG, aB⟩ : ∃ y, (((copyS s)).parts)[(at_).toNat]? = some y := ⟨_, List.getElem?_eq_getElem (by have q2 := inR_t (by assumption); have q3 : (copyS s).parts.length = s.parts.length := rfl; omega)⟩
 have dt := drop_at aB; have c7 := List.mem_of_getElem? aB
 obtain ⟨_, ⟨bL, en, bM, bN, eo, bO, rfl, aO, aP⟩, aJ⟩ := aa.elem ((at_).toNat) aG aB
 replace aO := aO.weak (fun _ _ h => h.1)
 replace aP := aP.weak (fun _ _ h => h.1)
 have cp := aO.len
 subst cp
 have du := aO.max
 have cq := aP.len
 subst cq
 have dv := aP.max
 replace aJ : Has cV ⟨af, 0 + ((at_).toNat) * Rep.sz Prt, none⟩ [.slice bL aG.ids.length bM, .slice bN aG.blocks.length bO] := by rw [Nat.zero_add]; exact aJ
 refine GE.storeO (t' := 75) (q := ((at_).toNat)) (k := 0) (v := .agg #[.slice cW ((((mergQ ao aq).1).ids).length) cX, .slice cY ((((mergQ ao aq).1).blocks).length) cZ]) (cs := [.slice bL aG.ids.length bM, .slice bN aG.blocks.length bO]) ((mergQ ao aq).1) aa aB aJ ⟨_, _, _, _, _, _, rfl, ar.oi, au.oi⟩ (by kernel_rfl) (by kernel_rfl) (by kernel_rfl) fun es bo => ?_
 replace ⟨J, V, W, Z, E, O, C⟩ := (se [ag, af, ac, ae, ab] bo).g7 J V W Z E O C
 clear bo
 intro et ak aK cr
 have hkeep_ := Chg.toS aK (Cov.toS b7)
 replace ⟨J, V, W, Z, E, O, C⟩ := (so [ag, af, ac, ae, ab] aK).g7 J V W Z E O C
 clear aK
 refine ⟨hkeep_, ?_⟩
 clear cr
 refine .d fun ew bq => ?_
 replace ⟨J, V, W, Z, ak, E, O, C⟩ := (se [ag, af, ac, ae, ab] bq).g8 J V W Z ak E O C
 clear bq
 replace W := W.outof
 replace Z := Z.outof
 refine .d <| .s <| .g <| .ns 0 75 [] fun ax c8 ah br cu cv => ?_
 have cw := nb_new ah J.lt
 have cx := nb_new ah V.lt
 have dw := nb_new ah ak.lt
 have cy := nb_new ah E.lt
 have cz := nb_new ah O.lt
 have cA := gb_new ah C.size
 have dx := C.cn ah
 replace ⟨J, V, W, Z, ak, E, O, C⟩ := (sn [ag, af, ac, ae, ab] br ah).g8 J V W Z ak E O C
 clear br cv ah
 have av : Own (α := Prt) c8 ax 75 (nin (fo F w.heap.size) [ax, ag, af, ac, ae, ab]) 0 0 [] := Own.nil' cu
 refine .r 1 <| .lb O <| .r 1 <| RG.int (at_ + 1) (by kernel_rfl) (by have := p0.np; omega) <| .r 1 <| RG.int (at_ + 2) (by kernel_rfl) (by have := p0.np; omega) ?_
 have cB := ak.len; rw [List.length_set] at cB
 refine .cl (c_slices_Delete (i := (at_.toNat + 1)) (a := at_ + 1) (b := at_ + 2) ak (by have q2 := inR_t (by assumption); have q3 : (copyS s).parts.length = s.parts.length := rfl; have q4 := p0.np; omega) (by have q2 := inR_t (by assumption); have q3 : (copyS s).parts.length = s.parts.length := rfl; have q4 := p0.np; omega) (by have q2 := inR_t (by assumption); have q3 : (copyS s).parts.length = s.parts.length := rfl; have q4 := p0.np; omega) (by have q2 := inR_t (by assumption); have q3 : (copyS s).parts.length = s.parts.length := rfl; have q4 := p0.np; omega)) ?_
 rintro ex c9 ⟨⟨rfl, aL⟩, bt⟩
 replace ⟨J, V, W, Z, E, O, av, C⟩ := (so [ax, ag, af, ac, ae, ab] bt).g8 J V W Z E O av C
 clear bt
 have dz := aL.len; have dA := aL.max
 have da := aL.sl (.inr bF)
 replace ⟨W, Z, E, av⟩ := (sd c9 [ax, ag, af, ac, ae, ab] af).g4 W Z E av
 refine RG.appendN (T := 27) (ty := 27) av da (by kernel_rfl) (by kernel_rfl) (fun b _ h => own_in (.head _) h) (by have q1 := p0.np; have q2 : (copyS s).parts.length = s.parts.length := rfl; omega) fun ay bP ey ai aj bu => ?_
 have dB := nb_or aj cw J.lt
 have dC := nb_or aj cx V.lt
 have dD := nb_or aj cy E.lt
 have dE := nb_or aj cz O.lt
 have cC := gb_or aj cA C.size
 replace ⟨V, W, Z, E, O, C⟩ := (sa [ax, ag, ac, ae, ab] bu aj).g6 V W Z E O C
 clear bu
 replace ai := ai.rn ax
 clear aj
 have dF := ai.len; have dG := ai.max
 refine .r 1 <| .ss 2 (vS ay (0 + (aQ - 1)) bP) O fun ez bv cD cE => ?_
 replace ⟨V, W, Z, E, ai, C⟩ := (so [ay, ag, ac, ae, ab] bv).g6 V W Z E ai C
 clear bv cE
 refine .d <| .s <| .g <| .ln cD <| .sc [.slice bS (((((copyS s)).idx).names).length) bT, .slice bU (((((copyS s)).idx).posts).length) bV, vS ay (0 + (aQ - 1)) bP, vS ac bW bX] V fun bQ bw cF cG => ?_
 replace ⟨W, Z, E, ai, C⟩ := (so [ay, ag, ac, ae, ab] bw).g5 W Z E ai C
 clear bw cG
 refine .r 1 <| .d ?_
 have bz := ai.sl (.inr cC)
 replace ⟨W, Z, E⟩ := (sd bQ [ay, ag, ac, ae, ab] ay).g3 W Z E
 have db := E.sl (.inr bH)
 replace ⟨W, Z, bz⟩ := (sd bQ [ag, ac, ae, ab] ac).g3 W Z bz
 exact .r2 Tryz.func30 Tryz.results30 (.bx cF) (.t (.bool true)) ⟨⟨_, (tup2 rfl (congrArg Value.bool (by exact (congrArg Prod.snd (mergeJ_2 p0 (by assumption) (by assumption) (by assumption) (by assumption))).symm))), (VS.of (y := (⟨(⟨(((copyS s)).idx).names, (((copyS s)).idx).posts⟩ : Idx), ([] ++ (((((copyS s)).parts).set ((at_).toNat) ((mergQ ao aq).1)).take (at_.toNat + 1) ++ ((((copyS s)).parts).set ((at_).toNat) ((mergQ ao aq).1)).drop ((at_.toNat + 1) + 1))), ((copyS s)).mem⟩ : Sto)) ⟨_, rfl, ⟨_, _, _, _, _, _, _, _, _, _, _, _, rfl, W.w1, Z.w1, bz.w1, db.w1⟩⟩ (by exact (congrArg Prod.fst (mergeJ_2 p0 (by assumption) (by assumption) (by assumption) (by assumption))).symm))⟩, C⟩
end Go.Proofs.YtfnpaglcnmcnbaaGreat
namespace Go.Proofs.YtfnpaglcnmcnbaaGreat
theorem rowsI_cut {s : Sto} (h : SD s) (hk : storeOk s = true) {id : Int} {p : List Tag → Bool} (hid : id ∈ findP p 0 s.idx.names) (lo hi : Int) : cutI (rowsI s id) lo hi = cutB (rowsOf s id) lo hi := by
 have := findP_in hid
 rw [rowsI_in hk this.1 this.2, cutI_rows h hk this.1 this.2]
def askInv (s : Sto) (f : List Cnd) (lo hi : Int) (i k : Nat) : Prop := ((findP (fitsI f) 0 s.idx.names).drop i).flatMap (hit1 s lo hi) = (askS s f lo hi).drop k
theorem askInv.start {s : Sto} {f : List Cnd} {lo hi : Int} (h : SD s) (hk : storeOk s = true) : askInv s f lo hi 0 0 := by
 unfold askInv
 rw [askS_I h hk]
 rfl
theorem askInv.skip {s : Sto} {f : List Cnd} {lo hi : Int} {i k : Nat} {id : Int} (h : askInv s f lo hi i k) (hs : SD s) (hk : storeOk s = true) (hd : (findP (fitsI f) 0 s.idx.names).drop i = id :: (findP (fitsI f) 0 s.idx.names).drop (i + 1)) (hl : ((cutI (rowsI s id) lo hi).length : Int) = 0) : askInv s f lo hi (i + 1) k := by
 have hm : id ∈ findP (fitsI f) 0 s.idx.names := List.mem_of_mem_drop (by rw [hd]; simp)
 rw [rowsI_cut hs hk hm] at hl
 unfold askInv at h ⊢
 rw [hd, List.flatMap_cons] at h
 have e : hit1 s lo hi id = [] := by unfold hit1; rw [if_neg (by omega)]
 rw [e, List.nil_append] at h
 exact h
theorem askInv.hit {s : Sto} {f : List Cnd} {lo hi : Int} {i k : Nat} {id : Int} (h : askInv s f lo hi i k) (hs : SD s) (hk : storeOk s = true) (hd : (findP (fitsI f) 0 s.idx.names).drop i = id :: (findP (fitsI f) 0 s.idx.names).drop (i + 1)) (hl : ((cutI (rowsI s id) lo hi).length : Int) ≠ 0) {n : List Tag} (hn : s.idx.names[(id - 1).toNat]? = some n) :
 (askS s f lo hi)[k]? = some ⟨textI n, cutI (rowsI s id) lo hi⟩ ∧ askInv s f lo hi (i + 1) (k + 1) := by
 have hm : id ∈ findP (fitsI f) 0 s.idx.names := List.mem_of_mem_drop (by rw [hd]; simp)
 rw [rowsI_cut hs hk hm] at hl ⊢
 unfold askInv at h ⊢
 rw [hd, List.flatMap_cons] at h
 have e : hit1 s lo hi id = [⟨textI n, cutB (rowsOf s id) lo hi⟩] := by
  unfold hit1
  rw [if_pos (by omega), List.getD_eq_getElem?_getD, hn, textI_ok (hs.nm.ok n (List.mem_of_getElem? hn))]
  rfl
 rw [e, List.cons_append, List.nil_append] at h
 constructor
 ·have := congrArg (fun l => l[0]?) h
  simp only [List.getElem?_cons_zero, List.getElem?_drop, Nat.add_zero] at this
  exact this.symm
 ·have := congrArg List.tail h
  rw [List.tail_cons, List.tail_drop] at this
  exact this
theorem askInv.fin {s : Sto} {f : List Cnd} {lo hi : Int} {i k : Nat} (h : askInv s f lo hi i k) (hi2 : (findP (fitsI f) 0 s.idx.names).length ≤ i) : (askS s f lo hi).length ≤ k := by
 unfold askInv at h
 rw [drop_end hi2] at h
 have := congrArg List.length h
 simp only [List.flatMap_nil, List.length_nil, List.length_drop] at this
 omega
theorem askInv.no1 {s : Sto} {f : List Cnd} {lo hi : Int} {i k : Nat} {id : Int} (h : askInv s f lo hi i k) (hs : SD s) (hk : storeOk s = true) (hd : (findP (fitsI f) 0 s.idx.names).drop i = id :: (findP (fitsI f) 0 s.idx.names).drop (i + 1)) (hl : ((cutI (rowsI s id) lo hi).length : Int) ≠ 0) (hb : (k : Int) ≥ ((askS s f lo hi).length : Int)) : False := by
 have hm : id ∈ findP (fitsI f) 0 s.idx.names := List.mem_of_mem_drop (by rw [hd]; simp)
 have h2 := findP_in hm
 obtain ⟨n, hn⟩ : ∃ n, s.idx.names[(id - 1).toNat]? = some n := ⟨_, List.getElem?_eq_getElem (by omega)⟩
 have h3 := (List.getElem?_eq_some_iff.1 (h.hit hs hk hd hl hn).1).1
 omega
theorem askInv.no2 {s : Sto} {f : List Cnd} {lo hi : Int} {i k : Nat} {id : Int} (h : askInv s f lo hi i k) (hs : SD s) (hk : storeOk s = true) (hd : (findP (fitsI f) 0 s.idx.names).drop i = id :: (findP (fitsI f) 0 s.idx.names).drop (i + 1)) (hl : ((cutI (rowsI s id) lo hi).length : Int) ≠ 0) {n : List Tag} (hn : s.idx.names[(id - 1).toNat]? = some n) {b : Hit} (hb : (askS s f lo hi)[k]? = some b)
 (hf : (b.name == textI n) = false ∨ (b.name != textI n) = true ∨ (b.rows == cutI (rowsI s id) lo hi) = false) : False := by
 have h3 := (h.hit hs hk hd hl hn).1
 rw [hb] at h3
 simp only [Option.some.injEq] at h3
 subst h3
 rcases hf with hf | hf | hf <;> simp at hf
end Go.Proofs.YtfnpaglcnmcnbaaGreat
namespace Go.Proofs.YtfnpaglcnmcnbaaGreat
theorem flush_yes {s : Sto} (h : SD s) (h1 : (flushP s).2 = true) : (flushP s).1 = flushX s ∧ storeOk s = true ∧ s.mem ≠ [] ∧ s.parts.length < 6 := by
 cases hk : storeOk s with
 | false => rw [flushP_no hk] at h1; cases h1
 | true =>
   by_cases hc : (s.mem.length : Int) = 0 ∨ (s.parts.length : Int) = 6
   ·rw [flushJ_1 h hk hc] at h1; cases h1
   ·have h6 := parts6 hk
    rw [flushJ_2 h hk (by omega) (by omega)]
    refine ⟨?_, rfl, fun e => ?_, by omega⟩
    ·show (⟨(copyS s).idx, (copyS s).parts ++ [memPart s.mem], []⟩ : Sto) = flushX s
     rw [h.copy]
     rfl
    ·rw [e] at hc; simp at hc
theorem flush_sd {s : Sto} (h : SD s) (h1 : (flushP s).2 = true) : SD (flushP s).1 := by
 obtain ⟨e, hk, _, h4⟩ := flush_yes h h1
 rw [e]
 refine ⟨h.idx, h.nm, h.nd, by simp [flushX]; omega, fun p hp => ?_, by simp [flushX], fun m hm => by simp [flushX] at hm⟩
 rcases List.mem_append.1 hp with hp | hp
 ·exact h.part p hp
 ·simp at hp
  subst hp
  exact PrtI.mem (StoK.of h hk).row
theorem flush_len {s : Sto} (h : SD s) (h1 : (flushP s).2 = true) : (flushP s).1.parts.length = s.parts.length + 1 ∧ (flushP s).1.mem = [] ∧ (flushP s).1.idx = s.idx := by
 rw [(flush_yes h h1).1]
 simp [flushX]
theorem ask_same {s x : Sto} {f : List Cnd} (hi : x.idx = s.idx) (hk : storeOk s = storeOk x) (hr : storeOk s = true → ∀ id : Int, 1 ≤ id → id ≤ s.idx.names.length → rowsOf x id = rowsOf s id) (lo hi2 : Int) : askS x f lo hi2 = askS s f lo hi2 := by
 unfold askS
 rw [← hk]
 cases hs : storeOk s && filtOk f with
 | false => rfl
 | true =>
   simp only [Bool.and_eq_true] at hs
   rw [if_pos rfl, if_pos rfl]
   unfold askP
   rw [hi]
   have key : ∀ (l : List Int), (∀ i ∈ l, 1 ≤ i ∧ i ≤ s.idx.names.length) → l.flatMap (hit1 x lo hi2) = l.flatMap (hit1 s lo hi2) := by
    intro l
    induction l with
    | nil => intro _; rfl
    | cons i is ih =>
      intro h
      rw [List.flatMap_cons, List.flatMap_cons, ih (fun j hj => h j (by simp [hj]))]
      have h1 := h i (by simp)
      unfold hit1
      rw [hr hs.1 i h1.1 h1.2, hi]
   exact key _ (fun i hi => findP_in hi)
theorem flush_says {s : Sto} (h : SD s) (h1 : (flushP s).2 = true) : askS (flushP s).1 [] 0 99 = askS s [] 0 99 ∧ storeOk (flushP s).1 = true := by
 obtain ⟨e, hk, h3, h4⟩ := flush_yes h h1
 have h5 := flush_ok h hk h3 h4
 rw [e]
 exact ⟨ask_same (x := flushX s) (s := s) rfl (hk.trans h5.symm) (fun _ id a b => flush_rows (StoK.of h hk) a (by have := h.nm.len; omega)) _ _, h5⟩
end Go.Proofs.YtfnpaglcnmcnbaaGreat
namespace Go.Proofs.YtfnpaglcnmcnbaaGreat
theorem pMerge_of (a b : Prt) {id : Int} (h1 : 1 ≤ id) (h2 : id ≤ 6) : partOf (pMerge a b) id = sMerge (partOf a id) (partOf b id) := by
 unfold pMerge
 rw [pMake_of _ h1, List.getD_eq_getElem?_getD]
 unfold pMergeL
 rw [List.getElem?_map, List.getElem?_range (by omega)]
 simp only [Option.map_some, Option.getD_some]
 rw [show (((id - 1).toNat : Nat) : Int) + 1 = id by omega]
def mergeX (s : Sto) (k : Nat) : Sto := ⟨s.idx, mergeP s.parts k, s.mem⟩
theorem mgT_yes {s : Sto} {i : Int} (h : SD s) (h1 : (mergeT s i).2 = true) : storeOk s = true ∧ 0 ≤ i ∧ i + 2 ≤ s.parts.length ∧ (mergeT s i).1 = mergeX s i.toNat := by
 cases hk : storeOk s with
 | false => rw [mergeT_no hk] at h1; cases h1
 | true =>
   cases hr : inR i 0 ((s.parts.length : Int) - 2) with
   | false => rw [mergeJ_1 h hk hr] at h1; cases h1
   | true =>
     have h2 := inR_t hr
     refine ⟨rfl, h2.1, by omega, ?_⟩
     rw [mergeT_yes hk, h.copy]
     unfold mergeR
     rw [if_pos hr]
     rfl
theorem mergeX_at {s : Sto} {k : Nat} (hk : k + 2 ≤ s.parts.length) : ∃ x y, s.parts[k]? = some x ∧ s.parts[k + 1]? = some y ∧ (mergeX s k).parts = s.parts.take k ++ [pMerge x y] ++ s.parts.drop (k + 2) := by
 refine ⟨_, _, List.getElem?_eq_getElem (by omega), List.getElem?_eq_getElem (by omega), ?_⟩
 exact mergeP_at (List.getElem?_eq_getElem (by omega)) (List.getElem?_eq_getElem (by omega))
theorem mergeX_rows {s : Sto} (h : StoK s) {k : Nat} (hk : k + 2 ≤ s.parts.length) {id : Int} (h1 : 1 ≤ id) (h2 : id ≤ 6) : (mergeX s k).parts.foldl (rowsP id) [] = s.parts.foldl (rowsP id) [] ∧ rowsOf (mergeX s k) id = rowsOf s id := by
 obtain ⟨x, y, hx, hy, e⟩ := mergeX_at hk
 have key : (mergeX s k).parts.foldl (rowsP id) [] = s.parts.foldl (rowsP id) [] := by
  have hs : s.parts = s.parts.take k ++ [x, y] ++ s.parts.drop (k + 2) := by
   have e1 := List.take_append_drop k s.parts
   rw [drop_at hx, drop_at hy] at e1
   rw [List.append_assoc]
   exact e1.symm
  rw [e]
  conv => rhs; rw [hs]
  simp only [List.foldl_append, List.foldl_cons, List.foldl_nil]
  congr 1
  have px := h.sd.part x (List.mem_of_getElem? hx)
  have py := h.sd.part y (List.mem_of_getElem? hy)
  have ho : Blk ((s.parts.take k).foldl (rowsP id) []) := parts_blk (fun p hp => h.sd.part p (List.mem_of_mem_take hp)) Blk.nil
  unfold rowsP
  rw [pMerge_of x y h1 h2]
  exact (sMerge_assoc ho (px.of id) (py.of id)).symm
 refine ⟨key, ?_⟩
 unfold rowsOf
 rw [key]
 rfl
theorem partIn_pos {p : Prt} {n : Int} (h : partIn p n = true) : ∃ id : Int, 1 ≤ id ∧ id ≤ 6 ∧ id ≤ n ∧ 0 < (partOf p id).length := by
 have hle := part_le h
 unfold partIn at h
 simp only [Bool.and_eq_true] at h
 obtain ⟨h1, h2⟩ := h
 unfold partOk at h1
 simp only [Bool.and_eq_true, decide_eq_true_eq] at h1
 obtain ⟨h3, h4⟩ := h1
 unfold partOf
 cases hi : p.ids with
 | nil => rw [hi] at h2; simp at h2
 | cons i is =>
   cases hb : p.blocks with
   | nil => rw [hi, hb] at h3; simp at h3
   | cons b bs =>
     rw [hi, hb] at h4
     unfold partG at h4
     simp only [Bool.and_eq_true, decide_eq_true_eq] at h4
     have h5 := inR_t h4.1.1.1.1
     refine ⟨i, h5.1, h5.2, hle i (by rw [hi]; simp), ?_⟩
     unfold partF
     rw [if_pos (by simp)]
     exact h4.1.1.2
theorem merge_len24 {s : Sto} (h : SD s) (hk : storeOk s = true) {x y : Prt} (hx : x ∈ s.parts) (hy : y ∈ s.parts) {id : Int} (h1 : 1 ≤ id) (h2 : id ≤ 6) : Blk (sMerge (partOf x id) (partOf y id)) ∧ (sMerge (partOf x id) (partOf y id)).length ≤ 24 := by
 have e := mergQ_ok h hk hx hy
 unfold mergQ at e
 split at e
 ·rename_i hc
  obtain ⟨ox, oy, hm⟩ := hc
  unfold okM at hm
  rw [List.all_eq_true] at hm
  have := hm (id - 1).toNat (by rw [List.mem_range]; omega)
  rw [show (((id - 1).toNat : Nat) : Int) + 1 = id by omega] at this
  have e1 : partI x id = partOf x id := by unfold partI; rw [if_pos ox]
  have e2 : partI y id = partOf y id := by unfold partI; rw [if_pos oy]
  rw [e1, e2] at this
  refine ⟨(blkOf (partOk_of ox id)).merge (blkOf (partOk_of oy id)), ?_⟩
  unfold mergI at this
  split at this
  ·rename_i hc; have := hc.2.2; omega
  ·cases this
 ·exact absurd (congrArg Prod.snd e) (by simp)
theorem mergeX_ok {s : Sto} (h : SD s) (hk : storeOk s = true) {k : Nat} (hl : k + 2 ≤ s.parts.length) : storeOk (mergeX s k) = true := by
 have hK := StoK.of h hk
 obtain ⟨x, y, hx, hy, e⟩ := mergeX_at hl
 have mx := List.mem_of_getElem? hx
 have my := List.mem_of_getElem? hy
 have hn := h.nm.len
 have hk2 := hk
 unfold storeOk at hk2 ⊢
 simp only [Bool.and_eq_true, decide_eq_true_eq, List.all_eq_true, List.mem_range, cntOk] at hk2 ⊢
 obtain ⟨⟨⟨⟨a1, a2⟩, a3⟩, a4⟩, a5⟩ := hk2
 refine ⟨⟨⟨⟨?_, a2⟩, fun p hp => ?_⟩, a4⟩, fun i hi => ?_⟩
 ·rw [e]
  simp only [List.length_append, List.length_take, List.length_drop, List.length_cons, List.length_nil]
  omega
 ·rw [e] at hp
  simp only [List.mem_append, List.mem_cons, List.not_mem_nil, or_false] at hp
  rcases hp with (hp | rfl) | hp
  ·exact a3 p (List.mem_of_mem_take hp)
  ·show partIn (pMake (pMergeL x y 6)) s.idx.names.length = true
   have hblk : ∀ (i : Nat) b, (pMergeL x y 6)[i]? = some b → i < 6 ∧ b = sMerge (partOf x ((i : Int) + 1)) (partOf y ((i : Int) + 1)) := fun i b hb => by
    unfold pMergeL at hb
    rw [List.getElem?_map] at hb
    by_cases hi : i < 6
    ·rw [List.getElem?_range hi] at hb
     simp only [Option.map_some, Option.some.injEq] at hb
     exact ⟨hi, hb.symm⟩
    ·rw [List.getElem?_eq_none (by simp; omega)] at hb
     cases hb
   refine pMake_in (fun b hb => ?_) (by rw [pMergeL_len]; omega) ?_ (fun i b hb hp => ?_)
   ·obtain ⟨i, hi⟩ := List.mem_iff_getElem?.1 hb
    obtain ⟨h6, rfl⟩ := hblk i b hi
    exact merge_len24 h hk mx my (by omega) (by omega)
   ·obtain ⟨id, g1, g2, _, g4⟩ := partIn_pos (a3 x mx)
    refine ⟨sMerge (partOf x id) (partOf y id), ?_, ?_⟩
    ·unfold pMergeL
     refine List.mem_map.2 ⟨(id - 1).toNat, by simp; omega, ?_⟩
     rw [show (((id - 1).toNat : Nat) : Int) + 1 = id by omega]
    ·have bx := (h.part x mx).of id
     have by' := (h.part y my).of id
     have := look_le bx (bx.merge by') (fun t ht => by
      rw [look_merge t _ bx by']
      cases look t (partOf y id) with
      | none => exact ht
      | some q => rfl)
     omega
   ·obtain ⟨h6, rfl⟩ := hblk i b hb
    by_cases hin : i < s.idx.names.length
    ·exact hin
    ·rw [partOf_gt (p := x) (fun j hj => by have := part_le (a3 x mx) j hj; omega), partOf_gt (p := y) (fun j hj => by have := part_le (a3 y my) j hj; omega)] at hp
     exact absurd hp (by decide)
  ·exact a3 p (List.mem_of_mem_drop hp)
 ·rw [(mergeX_rows hK hl (by omega) (by have : i < s.idx.names.length := hi; omega)).2]
  exact a5 i hi
theorem mergeX_sd {s : Sto} (h : SD s) {k : Nat} (hl : k + 2 ≤ s.parts.length) : SD (mergeX s k) := by
 obtain ⟨x, y, hx, hy, e⟩ := mergeX_at hl
 refine ⟨h.idx, h.nm, h.nd, ?_, fun p hp => ?_, h.nm2, h.mem⟩
 ·have := h.np
  rw [e]
  simp only [List.length_append, List.length_take, List.length_drop, List.length_cons, List.length_nil]
  omega
 ·rw [e] at hp
  simp only [List.mem_append, List.mem_cons, List.not_mem_nil, or_false] at hp
  rcases hp with (hp | rfl) | hp
  ·exact h.part p (List.mem_of_mem_take hp)
  ·exact (h.part x (List.mem_of_getElem? hx)).merge (h.part y (List.mem_of_getElem? hy))
  ·exact h.part p (List.mem_of_mem_drop hp)
section
variable {s : Sto} {i : Int}
theorem merge_sd (h : SD s) (h1 : (mergeT s i).2 = true) : SD (mergeT s i).1 := by
 obtain ⟨_, h2, h3, e⟩ := mgT_yes h h1
 rw [e]
 exact mergeX_sd h (by omega)
theorem merge_says (h : SD s) (h1 : (mergeT s i).2 = true) : askS (mergeT s i).1 [] 0 99 = askS s [] 0 99 ∧ storeOk (mergeT s i).1 = true := by
 obtain ⟨hk, h2, h3, e⟩ := mgT_yes h h1
 have h5 := mergeX_ok h hk (k := i.toNat) (by omega)
 rw [e]
 exact ⟨ask_same (x := mergeX s i.toNat) (s := s) rfl (hk.trans h5.symm) (fun _ id a b => (mergeX_rows (StoK.of h hk) (by omega) a (by have := h.nm.len; omega)).2) _ _, h5⟩
end
end Go.Proofs.YtfnpaglcnmcnbaaGreat
namespace Go.Proofs.YtfnpaglcnmcnbaaGreat
theorem insR_len {r : Row} : ∀ {b : List Row}, (look r.t b).isSome = true → Blk b → (insR r b).length = b.length := by
 intro b
 induction b with
 | nil => intro h _; cases h
 | cons x xs ih =>
   intro h hb
   obtain ⟨h1, _, h3⟩ := hb.tl
   unfold insR
   by_cases c1 : r.t < x.t
   ·rw [look_cons, if_neg (by omega), look_none (fun q hq => by have := h3 q hq; omega)] at h
    cases h
   ·rw [if_neg c1]
    by_cases c2 : r.t = x.t
    ·rw [if_pos c2]; rfl
    ·rw [if_neg c2, List.length_cons, List.length_cons]
     rw [look_cons, if_neg (by omega)] at h
     rw [ih h h1]
theorem flush_ix {s : Sto} (h : SD s) (h1 : (flushP s).2 = true) : 0 < s.mem.length := by
 have := (flush_yes h h1).2.2.1
 exact List.length_pos_iff.2 this
theorem flush_id {s : Sto} (h : SD s) (h1 : (flushP s).2 = true) {m : Smp} (hm : s.mem[0]? = some m) : 1 ≤ m.id ∧ m.id ≤ s.idx.names.length := (StoK.of h (flush_yes h h1).2.1).id m (List.mem_of_getElem? hm)
theorem nmF_at {names : List (List Tag)} (h : (names.map text).Nodup) : ∀ (k : Nat) (x : List Tag), names[k]? = some x → nmF (text x) 0 names = (k : Int) + 1 := by
 have key : ∀ (ns : List (List Tag)) (i k : Nat) (x : List Tag), (ns.map text).Nodup → ns[k]? = some x → nmF (text x) i ns = (i : Int) + k + 1 := by
  intro ns
  induction ns with
  | nil => intro i k x _ h; simp at h
  | cons y ys ih =>
    intro i k x hn hx
    rw [List.map_cons, List.nodup_cons] at hn
    unfold nmF
    cases k with
    | zero =>
      simp at hx
      subst hx
      simp
    | succ k =>
      rw [List.getElem?_cons_succ] at hx
      have hne : ¬ (text y == text x) = true := fun e => hn.1 (by rw [eq_of_beq e]; exact List.mem_map_of_mem (List.mem_of_getElem? hx))
      rw [if_neg hne, ih (i + 1) k x hn.2 hx]
      omega
 intro k x hx
 have := key names 0 k x h hx
 omega
structure FA (s : Sto) (m : Smp) (n : List Tag) (v : Int) (Y Z U : Sto × Bool) : Prop where
 one : Y.2 = true
 two : Z.2 = true
 three : U.2 = true
 y : SD Y.1
 z : SD Z.1
 u : SD U.1
 told : ∀ t : Sto, t = Y.1 ∨ t = Z.1 ∨ t = U.1 → SD t ∧ atB m.row.t (rowsI t m.id) = true ∧ atV m.row.t (rowsI t m.id) = v
theorem FA.sd {s : Sto} {m : Smp} {n : List Tag} {v : Int} {Y Z U : Sto × Bool} {t : Sto} (h : FA s m n v Y Z U) (ht : t = Y.1 ∨ t = Z.1 ∨ t = U.1) : SD t := (h.told t ht).1
theorem FA.no1 {s : Sto} {m : Smp} {n : List Tag} {v : Int} {Y Z U : Sto × Bool} {t : Sto} (h : FA s m n v Y Z U) (ht : t = Y.1 ∨ t = Z.1 ∨ t = U.1) (hf : atB m.row.t (rowsI t m.id) = false) : False := by
 rw [(h.told t ht).2.1] at hf; cases hf
theorem FA.no2 {s : Sto} {m : Smp} {n : List Tag} {v : Int} {Y Z U : Sto × Bool} {t : Sto} (h : FA s m n v Y Z U) (ht : t = Y.1 ∨ t = Z.1 ∨ t = U.1) (hf : atV m.row.t (rowsI t m.id) ≠ v) : False := hf (h.told t ht).2.2
theorem law_fa {s : Sto} {m : Smp} {n : List Tag} (h : SD s) (h1 : (flushP s).2 = true) (h2 : ¬ (s.parts.length : Int) > 4) (hm : s.mem[0]? = some m) (hn : s.idx.names[(m.id - 1).toNat]? = some n) :
 FA s m n 42 (addP (flushP s).1 n ⟨m.row.t, 42⟩) (flushP (addP (flushP s).1 n ⟨m.row.t, 42⟩).1) (mergeT (flushP (addP (flushP s).1 n ⟨m.row.t, 42⟩).1).1 (((flushP (addP (flushP s).1 n ⟨m.row.t, 42⟩).1).1.parts.length : Int) - 2)) := by
 obtain ⟨ex, hk, hm0, hp6⟩ := flush_yes h h1
 have hK := StoK.of h hk
 have hsx := flush_sd h h1
 have hkx := (flush_says h h1).2
 have hid := flush_id h h1 hm
 have mm := List.mem_of_getElem? hm
 have mn := List.mem_of_getElem? hn
 have hrow := hK.row m mm
 have hnok := h.nm.ok n mn
 have hx1 : (flushP s).1.idx = s.idx := (flush_len h h1).2.2
 have hx2 : (flushP s).1.mem = [] := (flush_len h h1).2.1
 have hx3 := (flush_len h h1).1
 generalize hX : (flushP s).1 = x at *
 have hat : nmAt x.idx n = m.id := by
  unfold nmAt
  rw [hx1, nmF_at h.nm.nodup _ _ hn]
  omega
 have hadd : addR x.idx n = (x.idx, m.id, true) := by rw [addR_hit (by rw [hat]; omega), hat]
 have hr : rowOk ⟨m.row.t, 42⟩ = true := by
  have := rowOk_t hrow
  unfold rowOk inR
  simp
  omega
 have hbx : Blk (rowsOf x m.id) := blk_of hsx hkx m.id
 have hrows : rowsOf x m.id = rowsOf s m.id := by rw [ex]; exact flush_rows hK hid.1 (by have := h.nm.len; omega)
 have hlook : (look m.row.t (rowsOf s m.id)).isSome = true := by
  refine rows_ge hK _ _ (.inr ?_)
  have e : look m.row.t (rowsOf (memS s.mem) m.id) = lastM m.row.t m.id s.mem none := (look_mem m.row.t m.id s.mem [] hK.row Blk.nil).1
  rw [e]
  have key : ∀ (ms : List Smp) (o : Option Row), o.isSome = true ∨ m ∈ ms → (lastM m.row.t m.id ms o).isSome = true := by
   intro ms
   induction ms with
   | nil => intro o ho; rcases ho with ho | ho; exact ho; cases ho
   | cons c cs ih =>
     intro o ho
     unfold lastM at ih ⊢
     rw [List.foldl_cons]
     by_cases hc : c.id = m.id ∧ c.row.t = m.row.t
     ·rw [if_pos hc]; exact ih _ (.inl rfl)
     ·rw [if_neg hc]
      rcases ho with ho | ho
      ·exact ih _ (.inl ho)
      ·rcases List.mem_cons.1 ho with rfl | ho
       ·exact absurd ⟨rfl, rfl⟩ hc
       ·exact ih _ (.inr ho)
  exact key s.mem none (.inr mm)
 have hxr : rowsOf (addX x n ⟨m.row.t, 42⟩) m.id = insR ⟨m.row.t, 42⟩ (rowsOf x m.id) := by
  have := rowsOf_add (n := n) (r := ⟨m.row.t, 42⟩) hsx hkx m.id
  rw [hadd] at this
  rw [if_pos rfl] at this
  exact this
 have h24 : (rowsOf (addX x n ⟨m.row.t, 42⟩) (addR x.idx n).2.1).length ≤ 24 := by
  rw [hadd]
  show (rowsOf (addX x n ⟨m.row.t, 42⟩) m.id).length ≤ 24
  rw [hxr, insR_len (by rw [hrows]; exact hlook) hbx]
  exact ok_24 hkx hid.1 (by rw [hx1]; exact hid.2)
 have hY : addP x n ⟨m.row.t, 42⟩ = (addX x n ⟨m.row.t, 42⟩, true) := by
  rw [addP_yes hkx hnok, hsx.copy]
  exact addS_5 (by rw [hadd]) hr (by rw [hx2]; simp) (by omega)
 have hsy : SD (addP x n ⟨m.row.t, 42⟩).1 := addP_sd hsx (h.nd n mn) (by rw [hY])
 have hky : storeOk (addP x n ⟨m.row.t, 42⟩).1 = true := by
  rw [hY]
  exact addX_ok hsx hkx (by rw [hadd]) hr (by rw [hx2]; simp) h24
 have hy1 : (addP x n ⟨m.row.t, 42⟩).1.parts.length = s.parts.length + 1 := by rw [hY]; exact hx3
 have hy2 : (addP x n ⟨m.row.t, 42⟩).1.mem.length = 1 := by
  rw [hY]
  show (x.mem ++ [_]).length = 1
  rw [hx2]; rfl
 have hy3 : (addP x n ⟨m.row.t, 42⟩).1.idx = s.idx := by
  rw [hY]
  show (addR x.idx n).1 = s.idx
  rw [hadd]; exact hx1
 have hyr : rowsOf (addP x n ⟨m.row.t, 42⟩).1 m.id = insR ⟨m.row.t, 42⟩ (rowsOf x m.id) := by rw [hY]; exact hxr
 have hone : (addP x n ⟨m.row.t, 42⟩).2 = true := by rw [hY]
 generalize hYY : (addP x n ⟨m.row.t, 42⟩).1 = y at *
 have hZ : (flushP y).2 = true := by rw [flushJ_2 hsy hky (by omega) (by omega)]
 have hsz := flush_sd hsy hZ
 have hkz := (flush_says hsy hZ).2
 have hz1 : (flushP y).1.parts.length = s.parts.length + 2 := by have := (flush_len hsy hZ).1; omega
 have hz3 : (flushP y).1.idx = s.idx := (flush_len hsy hZ).2.2.trans hy3
 have hzr : rowsOf (flushP y).1 m.id = insR ⟨m.row.t, 42⟩ (rowsOf x m.id) := by
  rw [(flush_yes hsy hZ).1, flush_rows (StoK.of hsy hky) hid.1 (by have := h.nm.len; omega), hyr]
 generalize hZZ : (flushP y).1 = z at *
 have hin : inR ((z.parts.length : Int) - 2) 0 ((z.parts.length : Int) - 2) = true := by unfold inR; simp; omega
 have hU : (mergeT z ((z.parts.length : Int) - 2)).2 = true := by
  rw [mergeT_yes hkz]
  unfold mergeR
  have hin2 : inR ((z.parts.length : Int) - 2) 0 (((copyS z).parts.length : Int) - 2) = true := hin
  rw [if_pos hin2]
 have hsu := merge_sd hsz hU
 obtain ⟨_, hu2, hu3, eu⟩ := mgT_yes hsz hU
 have hku := (merge_says hsz hU).2
 have hur : rowsOf (mergeT z ((z.parts.length : Int) - 2)).1 m.id = insR ⟨m.row.t, 42⟩ (rowsOf x m.id) := by
  rw [eu, (mergeX_rows (StoK.of hsz hkz) (by omega) hid.1 (by have := h.nm.len; omega)).2, hzr]
 have hu4 : (mergeT z ((z.parts.length : Int) - 2)).1.idx = s.idx := by rw [eu]; exact hz3
 have hai := at_ins ⟨m.row.t, 42⟩ (rowsOf x m.id)
 subst hZZ
 subst hYY
 refine ⟨hone, hZ, hU, hsy, hsz, hsu, fun t ht => ?_⟩
 rcases ht with rfl | rfl | rfl
 ·refine ⟨hsy, ?_⟩
  rw [rowsI_in hky hid.1 (by rw [hy3]; exact hid.2), hyr]
  exact hai
 ·refine ⟨hsz, ?_⟩
  rw [rowsI_in hkz hid.1 (by rw [hz3]; exact hid.2), hzr]
  exact hai
 ·refine ⟨hsu, ?_⟩
  rw [rowsI_in hku hid.1 (by rw [hu4]; exact hid.2), hur]
  exact hai
end Go.Proofs.YtfnpaglcnmcnbaaGreat
namespace Go.Proofs.YtfnpaglcnmcnbaaGreat
set_option maxRecDepth 100000
set_option maxHeartbeats 4000000
theorem c_laws_FnFlushAdd (code : List UInt8) {w : World} {F : Nat → Prop} {a1 : Option Addr} {n1 c1 : Nat} (h1 : RepS w F a1 n1 c1 code)  : Calls Tryz.prog 5 [.slice a1 n1 c1].toArray w (rets fun rv w' => rv = .bool (true) ∧ Ext w w') := by
 refine goT Tryz.func5 ?_
 obtain ⟨rfl, lU, h1⟩ := h1.tp
 refine .s <| .g <| .r 1 <| .d <| .s <| .s <| .g <| .r 2 <| .bp ((code.length : Int) > 1048576) (fun iR => .d <| .ct <| .s <| .g <| .r 1 <| .d <| .rt Tryz.func5 Tryz.results5 (.bool true) ⟨(congrArg Value.bool (by rfl)), (Chg.refl _ _)⟩) fun iR => .d <| .cf <| .sk <| .s <| .g <| .r 1 <| .cl (c_spec_DrawStoreFlush code h1 (w := w) (F := nin (fo F w.heap.size) [])) ?_
 rintro oD oE ⟨⟨ab, ⟨_, rfl, ⟨jn, oF, jo, jp, oG, jq, jr, oH, js, jt, oI, ju, rfl, aA, bS, bT, aP⟩⟩, lV⟩, eI⟩
 have cJ : ∀ q_ ∈ ([] : List Nat), q_ < w.heap.size := all_nil
 have dF : Gb w.heap.size w.heap.size := (Nat.le_refl _)
 have E := eI
 clear eI
 replace aA := RepS.mixed' (M := []) aA cJ dF
 have lW := aA.max
 replace bS := RepS.mixed' (M := []) bS cJ dF
 have lX := bS.max
 replace bT := RepS.mixed' (M := []) bT cJ dF
 have lY := bT.max
 replace aP := RepS.mixed' (M := []) aP cJ dF
 have lZ := aP.max
 clear cJ
 have iS := aA.len
 subst iS
 have iT := bS.len
 subst iT
 have iU := bT.len
 subst iU
 have iV := aP.len
 subst iV
 refine .np 30 [.slice none 0 0, .slice none 0 0, .slice none 0 0, .slice none 0 0] fun ah oJ dO eJ iW iX => ?_
 have l0 := E.cn dO
 replace ⟨aA, bS, bT, aP, E⟩ := (sn [] eJ dO).g5 aA bS bT aP E
 clear eJ iX dO
 refine .sc [.slice jn ab.idx.names.length jo, .slice jp ab.idx.posts.length jq, .slice jr ab.parts.length js, .slice jt ab.mem.length ju] iW fun iY eK V iZ => ?_
 replace ⟨aA, bS, bT, aP, E⟩ := (so [ah] eK).g5 aA bS bT aP E
 clear eK iZ
 refine .d <| .s <| .g <| .ln V <| .cl (c_spec_StoreFlush ab aA bS bT aP (by have q1 : SD ab := (by assumption); exact q1) (w := iY) (F := nin (fo F w.heap.size) [ah])) ?_
 rintro oK oL ⟨⟨oM, rfl, ⟨_, rfl, ⟨jv, oN, jw, jx, oO, jy, jz, oP, jA, jB, oQ, jC, rfl, aV, aW, aX, aY⟩⟩⟩, eL⟩
 have cK := al1 V.lt
 have dG : Gb w.heap.size iY.heap.size := E.size
 replace ⟨aA, bS, bT, aP, V, E⟩ := (se [ah] eL).g6 aA bS bT aP V E
 clear eL
 replace aV := RepS.mixed' (M := [ah]) aV cK dG
 have l3 := aV.max
 replace aW := RepS.mixed' (M := [ah]) aW cK dG
 have l4 := aW.max
 replace aX := RepS.mixed' (M := [ah]) aX cK dG
 have l5 := aX.max
 replace aY := RepS.mixed' (M := [ah]) aY cK dG
 have l6 := aY.max
 clear cK
 have ja := aV.len
 subst ja
 have jb := aW.len
 subst jb
 have jc := aX.len
 subst jc
 have jd := aY.len
 subst jd
 refine .r 3 <| .np 30 [.slice none 0 0, .slice none 0 0, .slice none 0 0, .slice none 0 0] fun am oR dH eM je jf => ?_
 have jD := nb_new dH V.lt
 have jE := E.cn dH
 replace ⟨aA, bS, bT, aP, V, aV, aW, aX, aY, E⟩ := (sn [ah] eM dH).g10 aA bS bT aP V aV aW aX aY E
 clear eM jf dH
 refine .sc [.slice jv (((((flushP ab).1).idx).names).length) jw, .slice jx (((((flushP ab).1).idx).posts).length) jy, .slice jz ((((flushP ab).1).parts).length) jA, .slice jB ((((flushP ab).1).mem).length) jC] je fun eN dP C fZ => ?_
 replace ⟨aA, bS, bT, aP, V, aV, aW, aX, aY, E⟩ := (so [am, ah] dP).g10 aA bS bT aP V aV aW aX aY E
 clear dP fZ
 refine .r 1 <| .d <| .s <| .g <| .ln V <| .cl (c_impl_StoreFlush ab aA bS bT aP (by have q1 : SD ab := (by assumption); exact q1) (w := eN) (F := nin (fo F w.heap.size) [am, ah])) ?_
 rintro l7 l8 ⟨⟨l9, rfl, ⟨_, rfl, ⟨eO, ma, eP, eQ, mb, eR, eS, mc, eT, eU, me, eV, rfl, ai, aj, ak, al⟩⟩⟩, dQ⟩
 have ce := al2 C.lt V.lt
 have cv : Gb w.heap.size eN.heap.size := E.size
 replace ⟨aA, aP, V, aV, aW, aX, aY, C, E⟩ := (se [am, ah] dQ).g9 aA aP V aV aW aX aY C E
 clear dQ
 replace ai := RepS.mixed' (M := [am, ah]) ai ce cv
 replace aj := RepS.mixed' (M := [am, ah]) aj ce cv
 replace ak := RepS.mixed' (M := [am, ah]) ak ce cv
 replace al := RepS.mixed' (M := [am, ah]) al ce cv
 clear ce
 have f0 := ai.len
 subst f0
 have f3 := aj.len
 subst f3
 have f4 := ak.len
 subst f4
 have f5 := al.len
 subst f5
 refine .r 2 ?_
 cases jF : (flushP ab).2
 ·refine .r 1 <| .np 30 [.slice none 0 0, .slice none 0 0, .slice none 0 0, .slice none 0 0] fun cp mf bZ cL f6 f7 => ?_
  have jG := nb_new bZ V.lt
  have jH := nb_new bZ C.lt
  have jI := E.cn bZ
  replace ⟨aA, aP, V, aV, aW, aX, aY, C, ai, aj, ak, al⟩ := (sn [am, ah] cL bZ).g12 aA aP V aV aW aX aY C ai aj ak al
  replace E := (sn [am, ah] cL bZ).g1 E
  clear cL f7 bZ
  refine .sc [.slice eO (((((flushP ab).1).idx).names).length) eP, .slice eQ (((((flushP ab).1).idx).posts).length) eR, .slice eS ((((flushP ab).1).parts).length) eT, .slice eU ((((flushP ab).1).mem).length) eV] f6 fun jg cM cw f8 => ?_
  replace ⟨aA, aP, V, aV, aW, aX, aY, C, ai, aj, ak, al⟩ := (so [cp, am, ah] cM).g12 aA aP V aV aW aX aY C ai aj ak al
  replace E := (so [cp, am, ah] cM).g1 E
  clear cM f8
  refine .r 1 <| .d <| .s <| .s <| .g <| .r 2 <| RG.eqv (v := .bool false) (v' := .bool (false != false)) (by kernel_rfl) (by simp) <| .r 1 <| .ln cw <| .ln C <| .cl (c_laws_lyStore ((flushP ab).1) ((flushP ab).1) ai.ta aj.ta ak.ta al.ta aV.ta aW.ta aX.ta aY.ta (w := jg) (F := all)) ?_
  rintro mg jh ⟨rfl, cN⟩
  replace ⟨aA, aP, V, aV, aW, aX, aY, C, ai, aj, ak, al⟩ := (se [cp, am, ah] cN).g12 aA aP V aV aW aX aY C ai aj ak al
  replace ⟨cw, E⟩ := (se [cp, am, ah] cN).g2 cw E
  clear cN
  rw [show ((((flushP ab).1) == ((flushP ab).1))) = true from beq_self_eq_true _]
  refine .r 12 <| .d <| .ct <| .s <| .g <| .r 2 <| RG.eqv (v := .bool true) (v' := .bool (false == false)) (by kernel_rfl) (by simp) <| .r 1 <| .ln cw <| .ln C <| .cl (c_laws_lyStore ((flushP ab).1) ((flushP ab).1) ai.ta aj.ta ak.ta al.ta aV.ta aW.ta aX.ta aY.ta (w := jh) (F := all)) ?_
  rintro mh mj ⟨rfl, cO⟩
  replace ⟨aA, aP, V, aV, aW, aX, aY, C, ai, aj, ak, al⟩ := (se [cp, am, ah] cO).g12 aA aP V aV aW aX aY C ai aj ak al
  replace E := (se [cp, am, ah] cO).g1 E
  clear cO
  rw [show ((((flushP ab).1) == ((flushP ab).1))) = true from beq_self_eq_true _]
  exact .r 2 <| .d <| .rt Tryz.func5 Tryz.results5 (.bool true) ⟨(congrArg Value.bool (by rfl)), E⟩
 refine .r 1 <| .np 30 [.slice none 0 0, .slice none 0 0, .slice none 0 0, .slice none 0 0] fun ac ml b0 cP f9 ga => ?_
 have jJ := nb_new b0 V.lt
 have jK := nb_new b0 C.lt
 have jL := E.cn b0
 replace ⟨aA, aP, V, aV, aW, aX, aY, C, ai, aj, ak, al⟩ := (sn [am, ah] cP b0).g12 aA aP V aV aW aX aY C ai aj ak al
 replace E := (sn [am, ah] cP b0).g1 E
 clear cP ga b0
 refine .sc [.slice eO (((((flushP ab).1).idx).names).length) eP, .slice eQ (((((flushP ab).1).idx).posts).length) eR, .slice eS ((((flushP ab).1).parts).length) eT, .slice eU ((((flushP ab).1).mem).length) eV] f9 fun ji cQ J gb => ?_
 replace ⟨aA, aP, V, aV, aW, aX, aY, C, ai, aj, ak, al⟩ := (so [ac, am, ah] cQ).g12 aA aP V aV aW aX aY C ai aj ak al
 replace E := (so [ac, am, ah] cQ).g1 E
 clear cQ gb
 refine .r 1 <| .d <| .s <| .s <| .g <| .r 2 <| RG.eqv (v := .bool false) (v' := .bool (true != true)) (by kernel_rfl) (by simp) <| .r 1 <| .ln J <| .ln C <| .cl (c_laws_lyStore ((flushP ab).1) ((flushP ab).1) ai.ta aj.ta ak.ta al.ta aV.ta aW.ta aX.ta aY.ta (w := ji) (F := all)) ?_
 rintro mo jj ⟨rfl, cR⟩
 replace ⟨aA, aP, V, aV, aW, aX, aY, C, ai, aj, ak, al⟩ := (se [ac, am, ah] cR).g12 aA aP V aV aW aX aY C ai aj ak al
 replace ⟨J, E⟩ := (se [ac, am, ah] cR).g2 J E
 clear cR
 rw [show ((((flushP ab).1) == ((flushP ab).1))) = true from beq_self_eq_true _]
 refine .r 8 <| .lb V <| .r 1 <| .bp ((ab.parts.length : Int) > 4) (fun gf => ?_) (fun gf => ?_)
 ·refine .r 1 <| .d <| .ct <| .s <| .g <| .r 2 <| RG.eqv (v := .bool true) (v' := .bool (true == true)) (by kernel_rfl) (by simp) <| .r 1 <| .ln J <| .ln C <| .cl (c_laws_lyStore ((flushP ab).1) ((flushP ab).1) ai.ta aj.ta ak.ta al.ta aV.ta aW.ta aX.ta aY.ta (w := jj) (F := all)) ?_
  rintro mp mq ⟨rfl, dR⟩
  replace ⟨aA, aP, V, C, ai, aj, ak, al, J, E⟩ := (se [ac, am, ah] dR).g10 aA aP V C ai aj ak al J E
  clear dR
  rw [show ((((flushP ab).1) == ((flushP ab).1))) = true from beq_self_eq_true _]
  exact .r 2 <| .d <| .rt Tryz.func5 Tryz.results5 (.bool true) ⟨(congrArg Value.bool (by rfl)), E⟩
 refine .r 1 <| .d <| .cf <| .sk <| .s <| .g <| .r 1 <| .lb V ?_
 have dS : 0 < ab.mem.length := (by have q1 : SD ab := (by assumption); (have q2 := flush_ix q1 (by assumption); omega))
 refine RG.idx 0 (len := ab.mem.length) (i := 0) (sz := 3) (by kernel_rfl) (by have q1 : SD ab := (by assumption); omega) dS (aP.addr (Nat.zero_lt_of_lt dS)) ?_
 obtain ⟨aa, cS⟩ : ∃ y, ab.mem[0]? = some y := ⟨_, List.getElem?_eq_getElem (by have q1 : SD ab := (by assumption); omega)⟩
 have jM := drop_at cS; have jk := List.mem_of_getElem? cS
 obtain ⟨_, rfl, gg⟩ := aP.elem 0 aa cS
 refine .lg 0 gg <| .np 51 [vI 0, vI 0, vI 0] fun ae mr b6 dT gh gi => ?_
 have jN := nb_new b6 V.lt
 have jO := nb_new b6 C.lt
 have jP := nb_new b6 J.lt
 have jQ := E.cn b6
 replace ⟨aA, V, C, ai, aj, ak, al, J, E⟩ := (sn [ac, am, ah] dT b6).g9 aA V C ai aj ak al J E
 clear dT gi b6
 refine .sc [vI aa.id, vI aa.row.t, vI aa.row.v] gh fun mt dU O gj => ?_
 replace ⟨aA, V, C, ai, aj, ak, al, J, E⟩ := (so [ae, ac, am, ah] dU).g9 aA V C ai aj ak al J E
 clear dU gj
 refine .d <| .s <| .g <| .r 2 <| .lb O <| .r 1 <| .np 33 [vI 0, vI 0] fun af mu bU dV gk gl => ?_
 have jR := nb_new bU V.lt
 have jS := nb_new bU C.lt
 have jT := nb_new bU J.lt
 have jU := nb_new bU O.lt
 have jV := E.cn bU
 replace ⟨aA, V, C, ai, aj, ak, al, J, O, E⟩ := (sn [ae, ac, am, ah] dV bU).g10 aA V C ai aj ak al J O E
 clear dV gl bU
 refine .sc [vI aa.row.t, vI 42] gk fun bY dW W gm => ?_
 replace ⟨aA, V, C, ai, aj, ak, al, J, O, E⟩ := (so [af, ae, ac, am, ah] dW).g10 aA V C ai aj ak al J O E
 clear dW gm
 refine .d <| .s ?_
 replace aA := aA.into
 replace ai := ai.into
 replace aj := aj.into
 replace ak := ak.into
 replace al := al.into
 have gn : Gb (ah + 1) bY.heap.size := V.lt
 have gp : Gb (ac + 1) bY.heap.size := J.lt
 have gq : Gb (ae + 1) bY.heap.size := O.lt
 have gr : Gb (af + 1) bY.heap.size := W.lt
 refine .gd (mtb [] bY.heap.size) 16 fun jl cT => ?_
 replace ⟨aA, V, C, ai, aj, ak, al, J, O, W, E⟩ := (se [af, ae, ac, am, ah] cT).g11 aA V C ai aj ak al J O W E
 have aO : Chg (mtb [] bY.heap.size) bY jl := Chg.stepN (Chg.refl (mtb [] bY.heap.size) bY) cT
 clear cT
 refine .ln 0 J (nS_of all_nil gp) <| .r [1, 2] <| .lb 3 V (nS_of all_nil gn) <| .r [4] <| .lb 5 O (nS_of all_nil gq) <| GA.int (i := 6) (aa.id - 1) (by kernel_rfl) (by have q1 : SD ab := (by assumption); (have q2 := flush_id q1 (by assumption) (by assumption); omega)) ?_
 have dX : (aa.id - 1).toNat < ab.idx.names.length := (by have q1 : SD ab := (by assumption); (have q2 := flush_id q1 (by assumption) (by assumption); omega))
 refine GA.idx (i := 7) ((aa.id - 1).toNat) (len := ab.idx.names.length) (z := aa.id - 1) (sz := 1) (by kernel_rfl) (by have q1 : SD ab := (by assumption); (have q2 := flush_id q1 (by assumption) (by assumption); omega)) dX (aA.addr (Nat.zero_lt_of_lt dX)) ?_
 obtain ⟨ag, cx⟩ : ∃ y, ab.idx.names[(aa.id - 1).toNat]? = some y := ⟨_, List.getElem?_eq_getElem (by have q1 : SD ab := (by assumption); omega)⟩
 have jW := drop_at cx; have jm := List.mem_of_getElem? cx
 obtain ⟨_, ⟨mw, mz, mA, rfl, ao⟩, gs⟩ := aA.elem ((aa.id - 1).toNat) ag cx
 have gt := ao.len
 subst gt
 have jX := ao.max
 refine .lh 8 0 gs (aA.nS (pos_of cx) all_nil) <| .ln 9 W (nS_of all_nil gr) <| .tw 10 14 ?_ ?_
 ·refine .cl (fun dY bV => c_impl_StoreAdd ((flushP ab).1) ag (⟨aa.row.t, 42⟩ : Row) ((ai.base (fun _ _ h => h.1)).ext bV) ((aj.base (fun _ _ h => h.1)).ext bV) ((ak.base (fun _ _ h => h.1)).ext bV) ((al.base (fun _ _ h => h.1)).ext bV) ((ao.base (fun _ _ h => h.1)).ext bV) (by have q1 : SD ab := (by assumption); exact flush_sd q1 (by assumption)) (by have q1 : SD ab := (by assumption); exact q1.nd _ (by assumption)) (w := dY) (F := nin (fo F w.heap.size) [af, ae, ac, am, ah])) ?_
  intro dY bV
  replace ⟨V, C, ai, aj, ak, al, J, O, W, ao, E, aO⟩ := (se [af, ae, ac, am, ah] bV).g12 V C ai aj ak al J O W ao E aO
  rintro mB mC ⟨⟨mD, rfl, ⟨_, rfl, ⟨dZ, mE, d0, d3, mF, d4, d5, mG, d6, d7, mH, d8, rfl, aD, aE, aF, aG⟩⟩⟩, cU⟩
  have cg := al5 W.lt O.lt J.lt C.lt V.lt
  have cy : Gb w.heap.size dY.heap.size := E.size
  have hkeep_ := cU
  replace ⟨V, C, ai, aj, ak, al, J, O, W, ao, E, aO⟩ := (se [af, ae, ac, am, ah] cU).g12 V C ai aj ak al J O W ao E aO
  clear cU
  refine ⟨Ext.chg hkeep_, ?_⟩
  replace aD := RepS.mixed' (M := [af, ae, ac, am, ah]) aD cg cy
  have jY := aD.max
  replace aE := RepS.mixed' (M := [af, ae, ac, am, ah]) aE cg cy
  have jZ := aE.max
  replace aF := RepS.mixed' (M := [af, ae, ac, am, ah]) aF cg cy
  have j0 := aF.max
  replace aG := RepS.mixed' (M := [af, ae, ac, am, ah]) aG cg cy
  have j1 := aG.max
  clear cg
  have gu := aD.len
  subst gu
  have gv := aE.len
  subst gv
  have gw := aF.len
  subst gw
  have gx := aG.len
  subst gx
  have gy : ((addP ((flushP ab).1) ag (⟨aa.row.t, 42⟩ : Row)).2) = true := (by have q1 : SD ab := (by assumption); have q2 := law_fa q1 (by assumption) (by assumption) (by assumption) (by assumption); exact q2.one)
  rw [gy]
  refine .r [11, 12, 13] <| .go 14 <| .nw (fun b => .pointer (some ⟨b, 0, none⟩)) 30 [.slice none 0 0, .slice none 0 0, .slice none 0 0, .slice none 0 0] fun mI cV => ?_
  replace ⟨V, C, ai, aj, ak, al, J, O, W, ao, aD, aE⟩ := (se [af, ae, ac, am, ah] cV).g12 V C ai aj ak al J O W ao aD aE
  replace ⟨aF, aG, E, aO⟩ := (se [af, ae, ac, am, ah] cV).g4 aF aG E aO
  clear cV
  intro aq mJ bt cW gz gA
  have j2 := nb_new bt V.lt
  have j3 := nb_new bt C.lt
  have j4 := nb_new bt J.lt
  have j5 := nb_new bt O.lt
  have j6 := nb_new bt W.lt
  have j7 := E.cn bt
  have gC := aO.cn bt
  replace ⟨V, C, ai, aj, ak, al, J, O, W, ao, aD, aE⟩ := (sn [af, ae, ac, am, ah] cW bt).g12 V C ai aj ak al J O W ao aD aE
  replace ⟨aF, aG, E, aO⟩ := (sn [af, ae, ac, am, ah] cW bt).g4 aF aG E aO
  clear cW gA bt
  refine .go 15 <| GE.storeB (t' := 30) (o := 0) (v := .agg #[.slice dZ (((((addP ((flushP ab).1) ag (⟨aa.row.t, 42⟩ : Row)).1).idx).names).length) d0, .slice d3 (((((addP ((flushP ab).1) ag (⟨aa.row.t, 42⟩ : Row)).1).idx).posts).length) d4, .slice d5 ((((addP ((flushP ab).1) ag (⟨aa.row.t, 42⟩ : Row)).1).parts).length) d6, .slice d7 ((((addP ((flushP ab).1) ag (⟨aa.row.t, 42⟩ : Row)).1).mem).length) d8]) [.slice dZ (((((addP ((flushP ab).1) ag (⟨aa.row.t, 42⟩ : Row)).1).idx).names).length) d0, .slice d3 (((((addP ((flushP ab).1) ag (⟨aa.row.t, 42⟩ : Row)).1).idx).posts).length) d4, .slice d5 ((((addP ((flushP ab).1) ag (⟨aa.row.t, 42⟩ : Row)).1).parts).length) d6, .slice d7 ((((addP ((flushP ab).1) ag (⟨aa.row.t, 42⟩ : Row)).1).mem).length) d8] gz (by kernel_rfl) (by kernel_rfl) (by kernel_rfl) fun mK cX => ?_
  replace ⟨V, C, ai, aj, ak, al, J, O, W, ao, aD, aE⟩ := (se [aq, af, ae, ac, am, ah] cX).g12 V C ai aj ak al J O W ao aD aE
  replace ⟨aF, aG, E, aO⟩ := (se [aq, af, ae, ac, am, ah] cX).g4 aF aG E aO
  clear cX
  intro mL cz ar gD
  have hkeep_ := Chg.toS cz (Cov.toS gC)
  clear gD
  replace ⟨V, C, ai, aj, ak, al, J, O, W, ao, aD, aE⟩ := (so [aq, af, ae, ac, am, ah] cz).g12 V C ai aj ak al J O W ao aD aE
  replace ⟨aF, aG, E, aO⟩ := (so [aq, af, ae, ac, am, ah] cz).g4 aF aG E aO
  clear cz
  refine ⟨hkeep_, ?_⟩
  refine .d fun eW cY => ?_
  replace ⟨V, C, ai, aj, ak, al, J, O, W, ao, aD, aE⟩ := (se [aq, af, ae, ac, am, ah] cY).g12 V C ai aj ak al J O W ao aD aE
  replace ⟨aF, aG, ar, E, aO⟩ := (se [aq, af, ae, ac, am, ah] cY).g5 aF aG ar E aO
  clear cY
  replace ai := ai.outof
  replace aj := aj.outof
  replace ak := ak.outof
  replace al := al.outof
  replace ao := ao.outof
  refine .r 1 <| .d <| .s <| .g <| .ln ar <| .cl (c_impl_StoreFlush ((addP ((flushP ab).1) ag (⟨aa.row.t, 42⟩ : Row)).1) aD aE aF aG (by have q1 : SD ab := (by assumption); (have q2 := law_fa q1 (by assumption) (by assumption) (by assumption) (by assumption); exact q2.y)) (w := eW) (F := nin (fo F w.heap.size) [aq, af, ae, ac, am, ah])) ?_
  rintro mM mN ⟨⟨mO, rfl, ⟨_, rfl, ⟨eX, mP, eY, eZ, mQ, e0, e7, mR, e8, e9, mS, fa, rfl, aZ, ba, bc, bd⟩⟩⟩, cZ⟩
  have ci := al6 ar.lt W.lt O.lt J.lt C.lt V.lt
  have cA : Gb w.heap.size eW.heap.size := E.size
  replace ⟨V, C, ai, aj, ak, al, J, O, W, ao, aD, aE⟩ := (se [aq, af, ae, ac, am, ah] cZ).g12 V C ai aj ak al J O W ao aD aE
  replace ⟨aF, aG, ar, E⟩ := (se [aq, af, ae, ac, am, ah] cZ).g4 aF aG ar E
  clear cZ
  replace aZ := RepS.mixed' (M := [aq, af, ae, ac, am, ah]) aZ ci cA
  have j8 := aZ.max
  replace ba := RepS.mixed' (M := [aq, af, ae, ac, am, ah]) ba ci cA
  have j9 := ba.max
  replace bc := RepS.mixed' (M := [aq, af, ae, ac, am, ah]) bc ci cA
  have ka := bc.max
  replace bd := RepS.mixed' (M := [aq, af, ae, ac, am, ah]) bd ci cA
  have kb := bd.max
  clear ci
  have gE := aZ.len
  subst gE
  have gF := ba.len
  subst gF
  have gG := bc.len
  subst gG
  have gH := bd.len
  subst gH
  have gI : ((flushP ((addP ((flushP ab).1) ag (⟨aa.row.t, 42⟩ : Row)).1)).2) = true := (by have q1 : SD ab := (by assumption); have q2 := law_fa q1 (by assumption) (by assumption) (by assumption) (by assumption); exact q2.two)
  rw [gI]
  refine .r 3 <| .np 30 [.slice none 0 0, .slice none 0 0, .slice none 0 0, .slice none 0 0] fun aw mT bu c7 gJ gK => ?_
  have kc := nb_new bu V.lt
  have kd := nb_new bu C.lt
  have ke := nb_new bu J.lt
  have kf := nb_new bu O.lt
  have kg := nb_new bu W.lt
  have kh := nb_new bu ar.lt
  have ki := E.cn bu
  replace ⟨V, C, ai, aj, ak, al, J, O, W, ao, aD, aE⟩ := (sn [aq, af, ae, ac, am, ah] c7 bu).g12 V C ai aj ak al J O W ao aD aE
  replace ⟨aF, aG, ar, aZ, ba, bc, bd, E⟩ := (sn [aq, af, ae, ac, am, ah] c7 bu).g8 aF aG ar aZ ba bc bd E
  clear c7 gK bu
  refine .sc [.slice eX (((((flushP ((addP ((flushP ab).1) ag (⟨aa.row.t, 42⟩ : Row)).1)).1).idx).names).length) eY, .slice eZ (((((flushP ((addP ((flushP ab).1) ag (⟨aa.row.t, 42⟩ : Row)).1)).1).idx).posts).length) e0, .slice e7 ((((flushP ((addP ((flushP ab).1) ag (⟨aa.row.t, 42⟩ : Row)).1)).1).parts).length) e8, .slice e9 ((((flushP ((addP ((flushP ab).1) ag (⟨aa.row.t, 42⟩ : Row)).1)).1).mem).length) fa] gJ fun fb c8 ay gL => ?_
  replace ⟨V, C, ai, aj, ak, al, J, O, W, ao, aD, aE⟩ := (so [aw, aq, af, ae, ac, am, ah] c8).g12 V C ai aj ak al J O W ao aD aE
  replace ⟨aF, aG, ar, aZ, ba, bc, bd, E⟩ := (so [aw, aq, af, ae, ac, am, ah] c8).g8 aF aG ar aZ ba bc bd E
  clear c8 gL
  refine .r 1 <| .d <| .s <| .g <| .ln ay <| .r 1 <| .lb ay <| .r 1 <| RG.int ((((((flushP ((addP ((flushP ab).1) ag (⟨aa.row.t, 42⟩ : Row)).1)).1).parts).length) : Int) - 2) (by kernel_rfl) (by have q1 : SD ab := (by assumption); omega) <| .cl (c_impl_StoreMerge ((flushP ((addP ((flushP ab).1) ag (⟨aa.row.t, 42⟩ : Row)).1)).1) ((((((flushP ((addP ((flushP ab).1) ag (⟨aa.row.t, 42⟩ : Row)).1)).1).parts).length) : Int) - 2) aZ ba bc bd (by have q1 : SD ab := (by assumption); (have q2 := law_fa q1 (by assumption) (by assumption) (by assumption) (by assumption); exact q2.z)) (w := fb) (F := nin (fo F w.heap.size) [aw, aq, af, ae, ac, am, ah])) ?_
  rintro mU mV ⟨⟨mW, rfl, ⟨_, rfl, ⟨fc, mX, fd, fe, mY, ff, fg, mZ, fh, fi, m0, fj, rfl, bC, bD, bE, bF⟩⟩⟩, c9⟩
  have cj := al7 ay.lt ar.lt W.lt O.lt J.lt C.lt V.lt
  have cB : Gb w.heap.size fb.heap.size := E.size
  replace ⟨V, C, ai, aj, ak, al, J, O, W, ao, aD, aE⟩ := (se [aw, aq, af, ae, ac, am, ah] c9).g12 V C ai aj ak al J O W ao aD aE
  replace ⟨aF, aG, ar, aZ, ba, bc, bd, ay, E⟩ := (se [aw, aq, af, ae, ac, am, ah] c9).g9 aF aG ar aZ ba bc bd ay E
  clear c9
  replace bC := RepS.mixed' (M := [aw, aq, af, ae, ac, am, ah]) bC cj cB
  have kj := bC.max
  replace bD := RepS.mixed' (M := [aw, aq, af, ae, ac, am, ah]) bD cj cB
  have kk := bD.max
  replace bE := RepS.mixed' (M := [aw, aq, af, ae, ac, am, ah]) bE cj cB
  have kl := bE.max
  replace bF := RepS.mixed' (M := [aw, aq, af, ae, ac, am, ah]) bF cj cB
  have km := bF.max
  clear cj
  have gM := bC.len
  subst gM
  have gN := bD.len
  subst gN
  have gO := bE.len
  subst gO
  have gP := bF.len
  subst gP
  have gQ : ((mergeT ((flushP ((addP ((flushP ab).1) ag (⟨aa.row.t, 42⟩ : Row)).1)).1) ((((((flushP ((addP ((flushP ab).1) ag (⟨aa.row.t, 42⟩ : Row)).1)).1).parts).length) : Int) - 2)).2) = true := (by have q1 : SD ab := (by assumption); have q2 := law_fa q1 (by assumption) (by assumption) (by assumption) (by assumption); exact q2.three)
  rw [gQ]
  refine .r 3 <| .np 30 [.slice none 0 0, .slice none 0 0, .slice none 0 0, .slice none 0 0] fun aN m5 bn cC gR gS => ?_
  have ko := nb_new bn V.lt
  have kr := nb_new bn C.lt
  have ks := nb_new bn J.lt
  have kt := nb_new bn O.lt
  have ku := nb_new bn W.lt
  have kv := nb_new bn ar.lt
  have kw := nb_new bn ay.lt
  have kx := E.cn bn
  replace ⟨V, C, ai, aj, ak, al, J, O, W, ao, aD, aE⟩ := (sn [aw, aq, af, ae, ac, am, ah] cC bn).g12 V C ai aj ak al J O W ao aD aE
  replace ⟨aF, aG, ar, aZ, ba, bc, bd, ay, bC, bD, bE, bF⟩ := (sn [aw, aq, af, ae, ac, am, ah] cC bn).g12 aF aG ar aZ ba bc bd ay bC bD bE bF
  replace E := (sn [aw, aq, af, ae, ac, am, ah] cC bn).g1 E
  clear cC gS bn
  refine .sc [.slice fc (((((mergeT ((flushP ((addP ((flushP ab).1) ag (⟨aa.row.t, 42⟩ : Row)).1)).1) ((((((flushP ((addP ((flushP ab).1) ag (⟨aa.row.t, 42⟩ : Row)).1)).1).parts).length) : Int) - 2)).1).idx).names).length) fd, .slice fe (((((mergeT ((flushP ((addP ((flushP ab).1) ag (⟨aa.row.t, 42⟩ : Row)).1)).1) ((((((flushP ((addP ((flushP ab).1) ag (⟨aa.row.t, 42⟩ : Row)).1)).1).parts).length) : Int) - 2)).1).idx).posts).length) ff, .slice fg ((((mergeT ((flushP ((addP ((flushP ab).1) ag (⟨aa.row.t, 42⟩ : Row)).1)).1) ((((((flushP ((addP ((flushP ab).1) ag (⟨aa.row.t, 42⟩ : Row)).1)).1).parts).length) : Int) - 2)).1).parts).length) fh, .slice fi ((((mergeT ((flushP ((addP ((flushP ab).1) ag (⟨aa.row.t, 42⟩ : Row)).1)).1) ((((((flushP ((addP ((flushP ab).1) ag (⟨aa.row.t, 42⟩ : Row)).1)).1).parts).length) : Int) - 2)).1).mem).length) fj] gR fun m6 cD aR gT => ?_
  replace ⟨V, C, ai, aj, ak, al, J, O, W, ao, aD, aE⟩ := (so [aN, aw, aq, af, ae, ac, am, ah] cD).g12 V C ai aj ak al J O W ao aD aE
  replace ⟨aF, aG, ar, aZ, ba, bc, bd, ay, bC, bD, bE, bF⟩ := (so [aN, aw, aq, af, ae, ac, am, ah] cD).g12 aF aG ar aZ ba bc bd ay bC bD bE bF
  replace E := (so [aN, aw, aq, af, ae, ac, am, ah] cD).g1 E
  clear cD gT
  refine .r 1 <| .d <| .s <| .s <| .g <| .ln ar <| .ln ay <| .ln aR <| .ns 3 30 [.slice dZ (((((addP ((flushP ab).1) ag (⟨aa.row.t, 42⟩ : Row)).1).idx).names).length) d0, .slice d3 (((((addP ((flushP ab).1) ag (⟨aa.row.t, 42⟩ : Row)).1).idx).posts).length) d4, .slice d5 ((((addP ((flushP ab).1) ag (⟨aa.row.t, 42⟩ : Row)).1).parts).length) d6, .slice d7 ((((addP ((flushP ab).1) ag (⟨aa.row.t, 42⟩ : Row)).1).mem).length) d8, .slice eX (((((flushP ((addP ((flushP ab).1) ag (⟨aa.row.t, 42⟩ : Row)).1)).1).idx).names).length) eY, .slice eZ (((((flushP ((addP ((flushP ab).1) ag (⟨aa.row.t, 42⟩ : Row)).1)).1).idx).posts).length) e0, .slice e7 ((((flushP ((addP ((flushP ab).1) ag (⟨aa.row.t, 42⟩ : Row)).1)).1).parts).length) e8, .slice e9 ((((flushP ((addP ((flushP ab).1) ag (⟨aa.row.t, 42⟩ : Row)).1)).1).mem).length) fa, .slice fc (((((mergeT ((flushP ((addP ((flushP ab).1) ag (⟨aa.row.t, 42⟩ : Row)).1)).1) ((((((flushP ((addP ((flushP ab).1) ag (⟨aa.row.t, 42⟩ : Row)).1)).1).parts).length) : Int) - 2)).1).idx).names).length) fd, .slice fe (((((mergeT ((flushP ((addP ((flushP ab).1) ag (⟨aa.row.t, 42⟩ : Row)).1)).1) ((((((flushP ((addP ((flushP ab).1) ag (⟨aa.row.t, 42⟩ : Row)).1)).1).parts).length) : Int) - 2)).1).idx).posts).length) ff, .slice fg ((((mergeT ((flushP ((addP ((flushP ab).1) ag (⟨aa.row.t, 42⟩ : Row)).1)).1) ((((((flushP ((addP ((flushP ab).1) ag (⟨aa.row.t, 42⟩ : Row)).1)).1).parts).length) : Int) - 2)).1).parts).length) fh, .slice fi ((((mergeT ((flushP ((addP ((flushP ab).1) ag (⟨aa.row.t, 42⟩ : Row)).1)).1) ((((((flushP ((addP ((flushP ab).1) ag (⟨aa.row.t, 42⟩ : Row)).1)).1).parts).length) : Int) - 2)).1).mem).length) fj] fun aQ d9 cE cF gU gV => ?_
  replace ⟨V, C, ai, aj, ak, al, J, O, W, ao, aD, aE⟩ := (sn [aN, aw, aq, af, ae, ac, am, ah] cF cE).g12 V C ai aj ak al J O W ao aD aE
  replace ⟨aF, aG, ar, aZ, ba, bc, bd, ay, bC, bD, bE, bF⟩ := (sn [aN, aw, aq, af, ae, ac, am, ah] cF cE).g12 aF aG ar aZ ba bc bd ay bC bD bE bF
  replace ⟨aR, E⟩ := (sn [aN, aw, aq, af, ae, ac, am, ah] cF cE).g2 aR E
  clear cF gV cE
  have bk : Own (α := Sto) d9 aQ 30 (nin (fo F w.heap.size) [aQ, aN, aw, aq, af, ae, ac, am, ah]) 3 3 [((addP ((flushP ab).1) ag (⟨aa.row.t, 42⟩ : Row)).1), ((flushP ((addP ((flushP ab).1) ag (⟨aa.row.t, 42⟩ : Row)).1)).1), ((mergeT ((flushP ((addP ((flushP ab).1) ag (⟨aa.row.t, 42⟩ : Row)).1)).1) ((((((flushP ((addP ((flushP ab).1) ag (⟨aa.row.t, 42⟩ : Row)).1)).1).parts).length) : Int) - 2)).1)] := Own.lit gU rfl (by decide) ⟨⟨_, _, _, _, _, _, _, _, _, _, _, _, rfl, aD.oi, aE.oi, aF.oi, aG.oi⟩, ⟨_, _, _, _, _, _, _, _, _, _, _, _, rfl, aZ.oi, ba.oi, bc.oi, bd.oi⟩, ⟨_, _, _, _, _, _, _, _, _, _, _, _, rfl, bC.oi, bD.oi, bE.oi, bF.oi⟩, rfl⟩
  refine .r 2 <| .d <| .b 0 <| T.loop (X := Nat) 0 (fun k => [(8, .pointer (some ⟨ae, 0, none⟩)), (9, .pointer (some ⟨af, 0, none⟩)), (11, .bool true), (13, .bool true), (15, .bool true), (101, vS aQ 3 3), (102, vI 3), (103, vI (k : Int))]) (fun k dI => Chg (ins []) d9 dI ∧ (k ≤ 3)) (fun k => 3 - k) (by kernel_rfl) ⟨by kernel_rfl, by kernel_rfl, by kernel_rfl, by kernel_rfl, by kernel_rfl, by kernel_rfl, by kernel_rfl, by kernel_rfl, trivial⟩ ⟨Chg.refl _ _, (by simp)⟩ ?_
  rintro k m7 dI ⟨aB, ky⟩ dM
  have da : Mv [aQ, aN, aw, aq, af, ae, ac, am, ah] [aQ, aN, aw, aq, af, ae, ac, am, ah] d9 dI := Mv.inl aB all_nil (all_cons (.inl (.head _)) (all_cons (.inl (.tail _ (.head _))) (all_cons (.inl (.tail _ (.tail _ (.head _)))) (all_cons (.inl (.tail _ (.tail _ (.tail _ (.head _))))) (all_cons (.inl (.tail _ (.tail _ (.tail _ (.tail _ (.head _)))))) (all_cons (.inl (.tail _ (.tail _ (.tail _ (.tail _ (.tail _ (.head _))))))) (all_cons (.inl (.tail _ (.tail _ (.tail _ (.tail _ (.tail _ (.tail _ (.head _)))))))) (all_cons (.inl (.tail _ (.tail _ (.tail _ (.tail _ (.tail _ (.tail _ (.tail _ (.head _))))))))) (all_cons (.inl (.tail _ (.tail _ (.tail _ (.tail _ (.tail _ (.tail _ (.tail _ (.tail _ (.head _)))))))))) all_nil)))))))))
  replace ⟨V, C, ai, aj, ak, al, J, O, W, ao, ar, ay⟩ := (sp da aB).g12 V C ai aj ak al J O W ao ar ay
  replace ⟨aR, bk, E⟩ := (sp da aB).g3 aR bk E
  clear da
  refine .s <| .g <| .bp ((k : Int) < 3) (fun gW => ?_) (fun gW => .d <| .s <| .cf <| .x 0 rfl <| .s <| .g <| .r 8 <| .d <| .rt Tryz.func5 Tryz.results5 (.bool true) ⟨(congrArg Value.bool (by rfl)), E⟩)
  refine .d <| .s <| .ct <| .sk <| .s <| .b 1 <| .s <| .g ?_
  have gX : k < 3 := (by have q1 : SD ab := (by assumption); omega)
  refine RG.idx (b := aQ) (o := 0) k (len := 3) (i := (k : Int)) (sz := 4) (by kernel_rfl) (by have q1 : SD ab := (by assumption); omega) gX rfl ?_
  obtain ⟨bw, db⟩ : ∃ y, ([((addP ((flushP ab).1) ag (⟨aa.row.t, 42⟩ : Row)).1), ((flushP ((addP ((flushP ab).1) ag (⟨aa.row.t, 42⟩ : Row)).1)).1), ((mergeT ((flushP ((addP ((flushP ab).1) ag (⟨aa.row.t, 42⟩ : Row)).1)).1) ((((((flushP ((addP ((flushP ab).1) ag (⟨aa.row.t, 42⟩ : Row)).1)).1).parts).length) : Int) - 2)).1)] : List Sto)[k]? = some y := ⟨_, List.getElem?_eq_getElem (by have q1 : SD ab := (by assumption); omega)⟩
  have kz := drop_at db; have ec := List.mem_of_getElem? db
  simp only [List.mem_cons, List.not_mem_nil, or_false] at ec
  obtain ⟨_, ⟨fk, m8, fl, fm, m9, fp, fq, nc, ft, fu, ng, fv, rfl, bG, bH, bI, bJ⟩, dd⟩ := bk.elem k bw db
  replace bG := bG.weak (fun _ _ h => h.1)
  replace bH := bH.weak (fun _ _ h => h.1)
  replace bI := bI.weak (fun _ _ h => h.1)
  replace bJ := bJ.weak (fun _ _ h => h.1)
  have gY := bG.len
  subst gY
  have kA := bG.max
  have gZ := bH.len
  subst gZ
  have kB := bH.max
  have g0 := bI.len
  subst g0
  have kC := bI.max
  have hC := bJ.len
  subst hC
  have kD := bJ.max
  replace dd : Has dI ⟨aQ, 0 + k * Rep.sz Sto, none⟩ [.slice fk bw.idx.names.length fl, .slice fm bw.idx.posts.length fp, .slice fq bw.parts.length ft, .slice fu bw.mem.length fv] := by rw [Nat.zero_add]; exact dd
  refine .lg 0 dd <| .np 30 [.slice none 0 0, .slice none 0 0, .slice none 0 0, .slice none 0 0] fun bz nh aT de hD hE => ?_
  have kE := nb_new aT V.lt
  have kF := nb_new aT C.lt
  have kG := nb_new aT J.lt
  have kH := nb_new aT O.lt
  have kI := nb_new aT W.lt
  have kJ := nb_new aT ar.lt
  have kK := nb_new aT ay.lt
  have kL := nb_new aT aR.lt
  have kM := nb_new aT bk.lt
  have kN := E.cn aT
  have kO := aB.cn aT
  replace ⟨V, C, ai, aj, ak, al, J, O, W, ao, ar, ay⟩ := (sn [aQ, aN, aw, aq, af, ae, ac, am, ah] de aT).g12 V C ai aj ak al J O W ao ar ay
  replace ⟨aR, bk, bG, bH, bI, bJ, E, aB⟩ := (sn [aQ, aN, aw, aq, af, ae, ac, am, ah] de aT).g8 aR bk bG bH bI bJ E aB
  clear de hE aT
  refine .sc [.slice fk bw.idx.names.length fl, .slice fm bw.idx.posts.length fp, .slice fq bw.parts.length ft, .slice fu bw.mem.length fv] hD fun ni df b7 hH => ?_
  replace ⟨V, C, ai, aj, ak, al, J, O, W, ao, ar, ay⟩ := (so [bz, aQ, aN, aw, aq, af, ae, ac, am, ah] df).g12 V C ai aj ak al J O W ao ar ay
  replace ⟨aR, bk, bG, bH, bI, bJ, E, aB⟩ := (so [bz, aQ, aN, aw, aq, af, ae, ac, am, ah] df).g8 aR bk bG bH bI bJ E aB
  clear df hH
  refine .d <| .s <| .gd nil 11 fun nj dg => ?_
  replace ⟨V, C, ai, aj, ak, al, J, O, W, ao, ar, ay⟩ := (se [bz, aQ, aN, aw, aq, af, ae, ac, am, ah] dg).g12 V C ai aj ak al J O W ao ar ay
  replace ⟨aR, bk, bG, bH, bI, bJ, b7, E, aB⟩ := (se [bz, aQ, aN, aw, aq, af, ae, ac, am, ah] dg).g9 aR bk bG bH bI bJ b7 E aB
  clear dg
  refine .ln 0 b7 id <| .r [1] <| .lb 2 O id <| .r [4] <| .lb 5 W id <| .go 3 <| .cl (fun dJ bW => c_impl_StoreRows bw aa.id (bG.ta.ext bW) (bH.ta.ext bW) (bI.ta.ext bW) (bJ.ta.ext bW) (by have q1 : SD ab := (by assumption); have q2 := law_fa q1 (by assumption) (by assumption) (by assumption) (by assumption); exact q2.sd (by assumption)) (w := dJ) (F := all)) ?_
  intro dJ bW
  replace ⟨V, C, ai, aj, ak, al, J, O, W, ao, ar, ay⟩ := (se [bz, aQ, aN, aw, aq, af, ae, ac, am, ah] bW).g12 V C ai aj ak al J O W ao ar ay
  replace ⟨aR, bk, b7, E, aB⟩ := (se [bz, aQ, aN, aw, aq, af, ae, ac, am, ah] bW).g5 aR bk b7 E aB
  rintro nq nt ⟨⟨nu, nv, rfl, cq⟩, dh⟩
  have ed : ∀ q_ ∈ ([bz, aQ, aN, aw, aq, af, ae, ac, am, ah] : List Nat), q_ < dJ.heap.size := (all_cons b7.lt (all_cons bk.lt (all_cons aR.lt (all_cons ay.lt (all_cons ar.lt (all_cons W.lt (all_cons O.lt (all_cons J.lt (all_cons C.lt (all_cons V.lt all_nil))))))))))
  have hJ : Gb w.heap.size dJ.heap.size := E.size
  have hkeep_ := dh
  replace ⟨V, C, ai, aj, ak, al, J, O, W, ao, E, aB⟩ := (se [bz, aQ, aN, aw, aq, af, ae, ac, am, ah] dh).g12 V C ai aj ak al J O W ao E aB
  clear dh
  refine ⟨Ext.chg hkeep_, ?_⟩
  have cq := cq.fr ed hJ
  replace cq := cq.base (G' := fo F w.heap.size) (fun _ _ h => .inr h)
  have kP := cq.max
  clear ed
  refine .go 6 <| .cl (fun fw di => c_laws_lyAt (rowsI bw aa.id) aa.row.t (cq.ta.ext di) (w := fw) (F := all)) ?_
  intro fw di
  replace ⟨V, C, ai, aj, ak, al, J, O, W, ao, E, aB⟩ := (se [bz, aQ, aN, aw, aq, af, ae, ac, am, ah] di).g12 V C ai aj ak al J O W ao E aB
  rintro ny nz ⟨rfl, dj⟩
  have hkeep_ := dj
  replace ⟨V, C, ai, aj, ak, al, J, O, W, ao, E, aB⟩ := (se [bz, aQ, aN, aw, aq, af, ae, ac, am, ah] dj).g12 V C ai aj ak al J O W ao E aB
  clear dj
  refine ⟨Ext.chg hkeep_, ?_⟩
  refine .r [7, 8] ?_
  cases kQ : (atB aa.row.t (rowsI bw aa.id))
  ·refine .r [9, 10] <| .d fun nA ee => ?_
   replace ⟨V, C, ai, aj, ak, al, J, O, W, ao, E, aB⟩ := (se [bz, aQ, aN, aw, aq, af, ae, ac, am, ah] ee).g12 V C ai aj ak al J O W ao E aB
   clear ee
   exact .r 1 <| .d <| .s <| .g <| .r 6 <| .d <| .ct <| .s <| .g <| .r 1 <| .d <| .rt Tryz.func5 Tryz.results5 (.bool false) ⟨(congrArg Value.bool (by have q1 : SD ab := (by assumption); have q2 := law_fa q1 (by assumption) (by assumption) (by assumption) (by assumption); exfalso; exact q2.no1 (by assumption) (by assumption))), E⟩
  refine .r [9, 10] <| .d fun fx ef => ?_
  replace ⟨V, C, ai, aj, ak, al, J, O, W, ao, E, aB⟩ := (se [bz, aQ, aN, aw, aq, af, ae, ac, am, ah] ef).g12 V C ai aj ak al J O W ao E aB
  clear ef
  refine .r 1 <| .d <| .s <| .g <| .r 4 <| .ne (atV aa.row.t (rowsI bw aa.id)) 42 (fun hN => .r 1 <| .d <| .ct <| .s <| .g <| .r 1 <| .d <| .rt Tryz.func5 Tryz.results5 (.bool false) ⟨(congrArg Value.bool (by have q1 : SD ab := (by assumption); have q2 := law_fa q1 (by assumption) (by assumption) (by assumption) (by assumption); exfalso; exact q2.no2 (by assumption) (by assumption))), E⟩) fun hN => .r 1 <| .d <| .cf <| .sk <| .ib 1 <| .g <| RG.int ((k : Int) + 1) (by kernel_rfl) (by have q1 : SD ab := (by assumption); omega) <| .r 1 <| .d ?_
  have hO : Mv [bz, aQ, aN, aw, aq, af, ae, ac, am, ah] [aQ, aN, aw, aq, af, ae, ac, am, ah] fx fx := Mv.less (all_cons (.tail _ (.head _)) (all_cons (.tail _ (.tail _ (.head _))) (all_cons (.tail _ (.tail _ (.tail _ (.head _)))) (all_cons (.tail _ (.tail _ (.tail _ (.tail _ (.head _))))) (all_cons (.tail _ (.tail _ (.tail _ (.tail _ (.tail _ (.head _)))))) (all_cons (.tail _ (.tail _ (.tail _ (.tail _ (.tail _ (.tail _ (.head _))))))) (all_cons (.tail _ (.tail _ (.tail _ (.tail _ (.tail _ (.tail _ (.tail _ (.head _)))))))) (all_cons (.tail _ (.tail _ (.tail _ (.tail _ (.tail _ (.tail _ (.tail _ (.tail _ (.head _))))))))) (all_cons (.tail _ (.tail _ (.tail _ (.tail _ (.tail _ (.tail _ (.tail _ (.tail _ (.tail _ (.head _)))))))))) all_nil)))))))))
  replace ⟨ai, aj, ak, al, ao⟩ := (sp hO (Chg.refl nil _)).g5 ai aj ak al ao
  exact dM (k + 1) _ _ ⟨by kernel_rfl, by kernel_rfl, by kernel_rfl, by kernel_rfl, by kernel_rfl, by kernel_rfl, by kernel_rfl, by kernel_rfl, trivial⟩ ⟨aB, (by omega)⟩ (by omega)
 refine .nw (fun b => .pointer (some ⟨b, 0, none⟩)) 30 [.slice none 0 0, .slice none 0 0, .slice none 0 0, .slice none 0 0] fun nB eg => ?_
 replace ⟨V, C, ai, aj, ak, al, J, O, W, ao, E, aO⟩ := (se [af, ae, ac, am, ah] eg).g12 V C ai aj ak al J O W ao E aO
 clear eg
 intro av nC bB eh b8 hQ
 have kR := nb_new bB V.lt
 have kS := nb_new bB C.lt
 have kT := nb_new bB J.lt
 have kU := nb_new bB O.lt
 have kV := nb_new bB W.lt
 have kW := E.cn bB
 have hV := aO.cn bB
 replace ⟨V, C, ai, aj, ak, al, J, O, W, ao, E⟩ := (sn [af, ae, ac, am, ah] eh bB).g11 V C ai aj ak al J O W ao E
 clear eh hQ bB
 refine .go 10 <| .cl (fun ei bX => c_impl_StoreAdd ((flushP ab).1) ag (⟨aa.row.t, 42⟩ : Row) ((ai.base (fun _ _ h => h.1)).ext bX) ((aj.base (fun _ _ h => h.1)).ext bX) ((ak.base (fun _ _ h => h.1)).ext bX) ((al.base (fun _ _ h => h.1)).ext bX) ((ao.base (fun _ _ h => h.1)).ext bX) (by have q1 : SD ab := (by assumption); exact flush_sd q1 (by assumption)) (by have q1 : SD ab := (by assumption); exact q1.nd _ (by assumption)) (w := ei) (F := nin (fo F w.heap.size) [av, af, ae, ac, am, ah])) ?_
 intro ei bX
 replace ⟨V, C, J, O, W, b8, E⟩ := (se [] bX).g7 V C J O W b8 E
 rintro nD nE ⟨⟨nF, rfl, ⟨_, rfl, ⟨ej, nG, ek, en, nH, eo, es, nI, et, ew, nJ, ey, rfl, aI, aJ, aK, aL⟩⟩⟩, dk⟩
 have ck := al6 b8.lt W.lt O.lt J.lt C.lt V.lt
 have cG : Gb w.heap.size ei.heap.size := E.size
 have hkeep_ := dk
 replace ⟨V, C, J, O, W, b8, E⟩ := (se [] dk).g7 V C J O W b8 E
 clear dk
 refine ⟨Ext.chg hkeep_, ?_⟩
 replace aI := RepS.mixed' (M := [av, af, ae, ac, am, ah]) aI ck cG
 have kX := aI.max
 replace aJ := RepS.mixed' (M := [av, af, ae, ac, am, ah]) aJ ck cG
 have kY := aJ.max
 replace aK := RepS.mixed' (M := [av, af, ae, ac, am, ah]) aK ck cG
 have kZ := aK.max
 replace aL := RepS.mixed' (M := [av, af, ae, ac, am, ah]) aL ck cG
 have k0 := aL.max
 clear ck
 have hW := aI.len
 subst hW
 have ia := aJ.len
 subst ia
 have ic := aK.len
 subst ic
 have ie := aL.len
 subst ie
 have ig : ((addP ((flushP ab).1) ag (⟨aa.row.t, 42⟩ : Row)).2) = true := (by have q1 : SD ab := (by assumption); have q2 := law_fa q1 (by assumption) (by assumption) (by assumption) (by assumption); exact q2.one)
 rw [ig]
 refine .r [11, 12, 13] <| .go 15 <| GE.storeB (t' := 30) (o := 0) (v := .agg #[.slice ej (((((addP ((flushP ab).1) ag (⟨aa.row.t, 42⟩ : Row)).1).idx).names).length) ek, .slice en (((((addP ((flushP ab).1) ag (⟨aa.row.t, 42⟩ : Row)).1).idx).posts).length) eo, .slice es ((((addP ((flushP ab).1) ag (⟨aa.row.t, 42⟩ : Row)).1).parts).length) et, .slice ew ((((addP ((flushP ab).1) ag (⟨aa.row.t, 42⟩ : Row)).1).mem).length) ey]) [.slice ej (((((addP ((flushP ab).1) ag (⟨aa.row.t, 42⟩ : Row)).1).idx).names).length) ek, .slice en (((((addP ((flushP ab).1) ag (⟨aa.row.t, 42⟩ : Row)).1).idx).posts).length) eo, .slice es ((((addP ((flushP ab).1) ag (⟨aa.row.t, 42⟩ : Row)).1).parts).length) et, .slice ew ((((addP ((flushP ab).1) ag (⟨aa.row.t, 42⟩ : Row)).1).mem).length) ey] b8 (by kernel_rfl) (by kernel_rfl) (by kernel_rfl) fun nK ez => ?_
 replace ⟨V, C, J, O, W, aI, aJ, aK, aL, E⟩ := (se [av, af, ae, ac, am, ah] ez).g10 V C J O W aI aJ aK aL E
 clear ez
 intro nL dm au ii
 have hkeep_ := Chg.toS dm (Cov.toS hV)
 clear ii
 replace ⟨V, C, J, O, W, aI, aJ, aK, aL, E⟩ := (so [av, af, ae, ac, am, ah] dm).g10 V C J O W aI aJ aK aL E
 clear dm
 refine ⟨hkeep_, ?_⟩
 refine .d fun fy eA => ?_
 replace ⟨V, C, J, O, W, au, aI, aJ, aK, aL, E⟩ := (se [av, af, ae, ac, am, ah] eA).g11 V C J O W au aI aJ aK aL E
 clear eA
 refine .r 1 <| .d <| .s <| .g <| .ln au <| .cl (c_impl_StoreFlush ((addP ((flushP ab).1) ag (⟨aa.row.t, 42⟩ : Row)).1) aI aJ aK aL (by have q1 : SD ab := (by assumption); (have q2 := law_fa q1 (by assumption) (by assumption) (by assumption) (by assumption); exact q2.y)) (w := fy) (F := nin (fo F w.heap.size) [av, af, ae, ac, am, ah])) ?_
 rintro nM nN ⟨⟨nO, rfl, ⟨_, rfl, ⟨fz, nP, fA, fB, nQ, fC, fD, nR, fE, fF, nT, fG, rfl, bg, bh, bi, bj⟩⟩⟩, eB⟩
 have cm := al6 au.lt W.lt O.lt J.lt C.lt V.lt
 have cH : Gb w.heap.size fy.heap.size := E.size
 replace ⟨V, C, J, O, W, au, aI, aJ, aK, aL, E⟩ := (se [av, af, ae, ac, am, ah] eB).g11 V C J O W au aI aJ aK aL E
 clear eB
 replace bg := RepS.mixed' (M := [av, af, ae, ac, am, ah]) bg cm cH
 have k4 := bg.max
 replace bh := RepS.mixed' (M := [av, af, ae, ac, am, ah]) bh cm cH
 have k5 := bh.max
 replace bi := RepS.mixed' (M := [av, af, ae, ac, am, ah]) bi cm cH
 have k6 := bi.max
 replace bj := RepS.mixed' (M := [av, af, ae, ac, am, ah]) bj cm cH
 have k7 := bj.max
 clear cm
 have ij := bg.len
 subst ij
 have ik := bh.len
 subst ik
 have il := bi.len
 subst il
 have im := bj.len
 subst im
 have io : ((flushP ((addP ((flushP ab).1) ag (⟨aa.row.t, 42⟩ : Row)).1)).2) = true := (by have q1 : SD ab := (by assumption); have q2 := law_fa q1 (by assumption) (by assumption) (by assumption) (by assumption); exact q2.two)
 rw [io]
 refine .r 3 <| .np 30 [.slice none 0 0, .slice none 0 0, .slice none 0 0, .slice none 0 0] fun aM nU bv dp ip iq => ?_
 have k8 := nb_new bv V.lt
 have k9 := nb_new bv C.lt
 have lc := nb_new bv J.lt
 have ld := nb_new bv O.lt
 have lf := nb_new bv W.lt
 have li := nb_new bv au.lt
 have lj := E.cn bv
 replace ⟨V, C, J, O, W, au, aI, aJ, aK, aL, bg, bh⟩ := (sn [av, af, ae, ac, am, ah] dp bv).g12 V C J O W au aI aJ aK aL bg bh
 replace ⟨bi, bj, E⟩ := (sn [av, af, ae, ac, am, ah] dp bv).g3 bi bj E
 clear dp iq bv
 refine .sc [.slice fz (((((flushP ((addP ((flushP ab).1) ag (⟨aa.row.t, 42⟩ : Row)).1)).1).idx).names).length) fA, .slice fB (((((flushP ((addP ((flushP ab).1) ag (⟨aa.row.t, 42⟩ : Row)).1)).1).idx).posts).length) fC, .slice fD ((((flushP ((addP ((flushP ab).1) ag (⟨aa.row.t, 42⟩ : Row)).1)).1).parts).length) fE, .slice fF ((((flushP ((addP ((flushP ab).1) ag (⟨aa.row.t, 42⟩ : Row)).1)).1).mem).length) fG] ip fun fH dq az ir => ?_
 replace ⟨V, C, J, O, W, au, aI, aJ, aK, aL, bg, bh⟩ := (so [aM, av, af, ae, ac, am, ah] dq).g12 V C J O W au aI aJ aK aL bg bh
 replace ⟨bi, bj, E⟩ := (so [aM, av, af, ae, ac, am, ah] dq).g3 bi bj E
 clear dq ir
 refine .r 1 <| .d <| .s <| .g <| .ln az <| .r 1 <| .lb az <| .r 1 <| RG.int ((((((flushP ((addP ((flushP ab).1) ag (⟨aa.row.t, 42⟩ : Row)).1)).1).parts).length) : Int) - 2) (by kernel_rfl) (by have q1 : SD ab := (by assumption); omega) <| .cl (c_impl_StoreMerge ((flushP ((addP ((flushP ab).1) ag (⟨aa.row.t, 42⟩ : Row)).1)).1) ((((((flushP ((addP ((flushP ab).1) ag (⟨aa.row.t, 42⟩ : Row)).1)).1).parts).length) : Int) - 2) bg bh bi bj (by have q1 : SD ab := (by assumption); (have q2 := law_fa q1 (by assumption) (by assumption) (by assumption) (by assumption); exact q2.z)) (w := fH) (F := nin (fo F w.heap.size) [aM, av, af, ae, ac, am, ah])) ?_
 rintro nV nW ⟨⟨nX, rfl, ⟨_, rfl, ⟨fI, nY, fJ, fK, nZ, fL, fM, n7, fN, fO, n8, fP, rfl, bK, bL, bM, bN⟩⟩⟩, dr⟩
 have co := al7 az.lt au.lt W.lt O.lt J.lt C.lt V.lt
 have cI : Gb w.heap.size fH.heap.size := E.size
 replace ⟨V, C, J, O, W, au, aI, aJ, aK, aL, bg, bh⟩ := (se [aM, av, af, ae, ac, am, ah] dr).g12 V C J O W au aI aJ aK aL bg bh
 replace ⟨bi, bj, az, E⟩ := (se [aM, av, af, ae, ac, am, ah] dr).g4 bi bj az E
 clear dr
 replace bK := RepS.mixed' (M := [aM, av, af, ae, ac, am, ah]) bK co cI
 have lk := bK.max
 replace bL := RepS.mixed' (M := [aM, av, af, ae, ac, am, ah]) bL co cI
 have ll := bL.max
 replace bM := RepS.mixed' (M := [aM, av, af, ae, ac, am, ah]) bM co cI
 have lm := bM.max
 replace bN := RepS.mixed' (M := [aM, av, af, ae, ac, am, ah]) bN co cI
 have lp := bN.max
 clear co
 have iu := bK.len
 subst iu
 have iw := bL.len
 subst iw
 have iy := bM.len
 subst iy
 have iz := bN.len
 subst iz
 have iA : ((mergeT ((flushP ((addP ((flushP ab).1) ag (⟨aa.row.t, 42⟩ : Row)).1)).1) ((((((flushP ((addP ((flushP ab).1) ag (⟨aa.row.t, 42⟩ : Row)).1)).1).parts).length) : Int) - 2)).2) = true := (by have q1 : SD ab := (by assumption); have q2 := law_fa q1 (by assumption) (by assumption) (by assumption) (by assumption); exact q2.three)
 rw [iA]
 refine .r 3 <| .np 30 [.slice none 0 0, .slice none 0 0, .slice none 0 0, .slice none 0 0] fun bo n9 bq dt iB iC => ?_
 have lq := nb_new bq V.lt
 have ls := nb_new bq C.lt
 have lu := nb_new bq J.lt
 have lv := nb_new bq O.lt
 have lw := nb_new bq W.lt
 have ly := nb_new bq au.lt
 have lz := nb_new bq az.lt
 have lA := E.cn bq
 replace ⟨V, C, J, O, W, au, aI, aJ, aK, aL, bg, bh⟩ := (sn [aM, av, af, ae, ac, am, ah] dt bq).g12 V C J O W au aI aJ aK aL bg bh
 replace ⟨bi, bj, az, bK, bL, bM, bN, E⟩ := (sn [aM, av, af, ae, ac, am, ah] dt bq).g8 bi bj az bK bL bM bN E
 clear dt iC bq
 refine .sc [.slice fI (((((mergeT ((flushP ((addP ((flushP ab).1) ag (⟨aa.row.t, 42⟩ : Row)).1)).1) ((((((flushP ((addP ((flushP ab).1) ag (⟨aa.row.t, 42⟩ : Row)).1)).1).parts).length) : Int) - 2)).1).idx).names).length) fJ, .slice fK (((((mergeT ((flushP ((addP ((flushP ab).1) ag (⟨aa.row.t, 42⟩ : Row)).1)).1) ((((((flushP ((addP ((flushP ab).1) ag (⟨aa.row.t, 42⟩ : Row)).1)).1).parts).length) : Int) - 2)).1).idx).posts).length) fL, .slice fM ((((mergeT ((flushP ((addP ((flushP ab).1) ag (⟨aa.row.t, 42⟩ : Row)).1)).1) ((((((flushP ((addP ((flushP ab).1) ag (⟨aa.row.t, 42⟩ : Row)).1)).1).parts).length) : Int) - 2)).1).parts).length) fN, .slice fO ((((mergeT ((flushP ((addP ((flushP ab).1) ag (⟨aa.row.t, 42⟩ : Row)).1)).1) ((((((flushP ((addP ((flushP ab).1) ag (⟨aa.row.t, 42⟩ : Row)).1)).1).parts).length) : Int) - 2)).1).mem).length) fP] iB fun oa du aS iD => ?_
 replace ⟨V, C, J, O, W, au, aI, aJ, aK, aL, bg, bh⟩ := (so [bo, aM, av, af, ae, ac, am, ah] du).g12 V C J O W au aI aJ aK aL bg bh
 replace ⟨bi, bj, az, bK, bL, bM, bN, E⟩ := (so [bo, aM, av, af, ae, ac, am, ah] du).g8 bi bj az bK bL bM bN E
 clear du iD
 refine .r 1 <| .d <| .s <| .s <| .g <| .ln au <| .ln az <| .ln aS <| .ns 3 30 [.slice ej (((((addP ((flushP ab).1) ag (⟨aa.row.t, 42⟩ : Row)).1).idx).names).length) ek, .slice en (((((addP ((flushP ab).1) ag (⟨aa.row.t, 42⟩ : Row)).1).idx).posts).length) eo, .slice es ((((addP ((flushP ab).1) ag (⟨aa.row.t, 42⟩ : Row)).1).parts).length) et, .slice ew ((((addP ((flushP ab).1) ag (⟨aa.row.t, 42⟩ : Row)).1).mem).length) ey, .slice fz (((((flushP ((addP ((flushP ab).1) ag (⟨aa.row.t, 42⟩ : Row)).1)).1).idx).names).length) fA, .slice fB (((((flushP ((addP ((flushP ab).1) ag (⟨aa.row.t, 42⟩ : Row)).1)).1).idx).posts).length) fC, .slice fD ((((flushP ((addP ((flushP ab).1) ag (⟨aa.row.t, 42⟩ : Row)).1)).1).parts).length) fE, .slice fF ((((flushP ((addP ((flushP ab).1) ag (⟨aa.row.t, 42⟩ : Row)).1)).1).mem).length) fG, .slice fI (((((mergeT ((flushP ((addP ((flushP ab).1) ag (⟨aa.row.t, 42⟩ : Row)).1)).1) ((((((flushP ((addP ((flushP ab).1) ag (⟨aa.row.t, 42⟩ : Row)).1)).1).parts).length) : Int) - 2)).1).idx).names).length) fJ, .slice fK (((((mergeT ((flushP ((addP ((flushP ab).1) ag (⟨aa.row.t, 42⟩ : Row)).1)).1) ((((((flushP ((addP ((flushP ab).1) ag (⟨aa.row.t, 42⟩ : Row)).1)).1).parts).length) : Int) - 2)).1).idx).posts).length) fL, .slice fM ((((mergeT ((flushP ((addP ((flushP ab).1) ag (⟨aa.row.t, 42⟩ : Row)).1)).1) ((((((flushP ((addP ((flushP ab).1) ag (⟨aa.row.t, 42⟩ : Row)).1)).1).parts).length) : Int) - 2)).1).parts).length) fN, .slice fO ((((mergeT ((flushP ((addP ((flushP ab).1) ag (⟨aa.row.t, 42⟩ : Row)).1)).1) ((((((flushP ((addP ((flushP ab).1) ag (⟨aa.row.t, 42⟩ : Row)).1)).1).parts).length) : Int) - 2)).1).mem).length) fP] fun br eC dv dw iE iF => ?_
 replace ⟨V, C, J, O, W, au, aI, aJ, aK, aL, bg, bh⟩ := (sn [bo, aM, av, af, ae, ac, am, ah] dw dv).g12 V C J O W au aI aJ aK aL bg bh
 replace ⟨bi, bj, az, bK, bL, bM, bN, aS, E⟩ := (sn [bo, aM, av, af, ae, ac, am, ah] dw dv).g9 bi bj az bK bL bM bN aS E
 clear dw iF dv
 have bm : Own (α := Sto) eC br 30 (nin (fo F w.heap.size) [br, bo, aM, av, af, ae, ac, am, ah]) 3 3 [((addP ((flushP ab).1) ag (⟨aa.row.t, 42⟩ : Row)).1), ((flushP ((addP ((flushP ab).1) ag (⟨aa.row.t, 42⟩ : Row)).1)).1), ((mergeT ((flushP ((addP ((flushP ab).1) ag (⟨aa.row.t, 42⟩ : Row)).1)).1) ((((((flushP ((addP ((flushP ab).1) ag (⟨aa.row.t, 42⟩ : Row)).1)).1).parts).length) : Int) - 2)).1)] := Own.lit iE rfl (by decide) ⟨⟨_, _, _, _, _, _, _, _, _, _, _, _, rfl, aI.oi, aJ.oi, aK.oi, aL.oi⟩, ⟨_, _, _, _, _, _, _, _, _, _, _, _, rfl, bg.oi, bh.oi, bi.oi, bj.oi⟩, ⟨_, _, _, _, _, _, _, _, _, _, _, _, rfl, bK.oi, bL.oi, bM.oi, bN.oi⟩, rfl⟩
 refine .r 2 <| .d <| .b 0 <| T.loop (X := Nat) 0 (fun k => [(8, .pointer (some ⟨ae, 0, none⟩)), (9, .pointer (some ⟨af, 0, none⟩)), (11, .bool true), (13, .bool true), (15, .bool true), (101, vS br 3 3), (102, vI 3), (103, vI (k : Int))]) (fun k dK => Chg (ins []) eC dK ∧ (k ≤ 3)) (fun k => 3 - k) (by kernel_rfl) ⟨by kernel_rfl, by kernel_rfl, by kernel_rfl, by kernel_rfl, by kernel_rfl, by kernel_rfl, by kernel_rfl, by kernel_rfl, trivial⟩ ⟨Chg.refl _ _, (by simp)⟩ ?_
 rintro k oc dK ⟨aH, lB⟩ dN
 have eD : Mv [br, bo, aM, av, af, ae, ac, am, ah] [br, bo, aM, av, af, ae, ac, am, ah] eC dK := Mv.inl aH all_nil (all_cons (.inl (.head _)) (all_cons (.inl (.tail _ (.head _))) (all_cons (.inl (.tail _ (.tail _ (.head _)))) (all_cons (.inl (.tail _ (.tail _ (.tail _ (.head _))))) (all_cons (.inl (.tail _ (.tail _ (.tail _ (.tail _ (.head _)))))) (all_cons (.inl (.tail _ (.tail _ (.tail _ (.tail _ (.tail _ (.head _))))))) (all_cons (.inl (.tail _ (.tail _ (.tail _ (.tail _ (.tail _ (.tail _ (.head _)))))))) (all_cons (.inl (.tail _ (.tail _ (.tail _ (.tail _ (.tail _ (.tail _ (.tail _ (.head _))))))))) (all_cons (.inl (.tail _ (.tail _ (.tail _ (.tail _ (.tail _ (.tail _ (.tail _ (.tail _ (.head _)))))))))) all_nil)))))))))
 replace ⟨V, C, J, O, W, au, az, aS, bm, E⟩ := (sp eD aH).g10 V C J O W au az aS bm E
 clear eD
 refine .s <| .g <| .bp ((k : Int) < 3) (fun iG => ?_) (fun iG => .d <| .s <| .cf <| .x 0 rfl <| .s <| .g <| .r 8 <| .d <| .rt Tryz.func5 Tryz.results5 (.bool true) ⟨(congrArg Value.bool (by rfl)), E⟩)
 refine .d <| .s <| .ct <| .sk <| .s <| .b 1 <| .s <| .g ?_
 have iH : k < 3 := (by have q1 : SD ab := (by assumption); omega)
 refine RG.idx (b := br) (o := 0) k (len := 3) (i := (k : Int)) (sz := 4) (by kernel_rfl) (by have q1 : SD ab := (by assumption); omega) iH rfl ?_
 obtain ⟨bA, dx⟩ : ∃ y, ([((addP ((flushP ab).1) ag (⟨aa.row.t, 42⟩ : Row)).1), ((flushP ((addP ((flushP ab).1) ag (⟨aa.row.t, 42⟩ : Row)).1)).1), ((mergeT ((flushP ((addP ((flushP ab).1) ag (⟨aa.row.t, 42⟩ : Row)).1)).1) ((((((flushP ((addP ((flushP ab).1) ag (⟨aa.row.t, 42⟩ : Row)).1)).1).parts).length) : Int) - 2)).1)] : List Sto)[k]? = some y := ⟨_, List.getElem?_eq_getElem (by have q1 : SD ab := (by assumption); omega)⟩
 have lC := drop_at dx; have eE := List.mem_of_getElem? dx
 simp only [List.mem_cons, List.not_mem_nil, or_false] at eE
 obtain ⟨_, ⟨fQ, od, fR, fS, oe, fT, fU, og, fV, fW, oh, fX, rfl, bO, bP, bQ, bR⟩, dy⟩ := bm.elem k bA dx
 replace bO := bO.weak (fun _ _ h => h.1)
 replace bP := bP.weak (fun _ _ h => h.1)
 replace bQ := bQ.weak (fun _ _ h => h.1)
 replace bR := bR.weak (fun _ _ h => h.1)
 have iI := bO.len
 subst iI
 have lD := bO.max
 have iJ := bP.len
 subst iJ
 have lE := bP.max
 have iK := bQ.len
 subst iK
 have lF := bQ.max
 have iL := bR.len
 subst iL
 have lG := bR.max
 replace dy : Has dK ⟨br, 0 + k * Rep.sz Sto, none⟩ [.slice fQ bA.idx.names.length fR, .slice fS bA.idx.posts.length fT, .slice fU bA.parts.length fV, .slice fW bA.mem.length fX] := by rw [Nat.zero_add]; exact dy
 refine .lg 0 dy <| .np 30 [.slice none 0 0, .slice none 0 0, .slice none 0 0, .slice none 0 0] fun cr ol aU dz iM iN => ?_
 have lH := nb_new aU V.lt
 have lI := nb_new aU C.lt
 have lJ := nb_new aU J.lt
 have lK := nb_new aU O.lt
 have lL := nb_new aU W.lt
 have lM := nb_new aU au.lt
 have lN := nb_new aU az.lt
 have lO := nb_new aU aS.lt
 have lP := nb_new aU bm.lt
 have lQ := E.cn aU
 have lR := aH.cn aU
 replace ⟨V, C, J, O, W, au, az, aS, bm, bO, bP, bQ⟩ := (sn [br, bo, aM, av, af, ae, ac, am, ah] dz aU).g12 V C J O W au az aS bm bO bP bQ
 replace ⟨bR, E, aH⟩ := (sn [br, bo, aM, av, af, ae, ac, am, ah] dz aU).g3 bR E aH
 clear dz iN aU
 refine .sc [.slice fQ bA.idx.names.length fR, .slice fS bA.idx.posts.length fT, .slice fU bA.parts.length fV, .slice fW bA.mem.length fX] iM fun om dA b9 iO => ?_
 replace ⟨V, C, J, O, W, au, az, aS, bm, bO, bP, bQ⟩ := (so [cr, br, bo, aM, av, af, ae, ac, am, ah] dA).g12 V C J O W au az aS bm bO bP bQ
 replace ⟨bR, E, aH⟩ := (so [cr, br, bo, aM, av, af, ae, ac, am, ah] dA).g3 bR E aH
 clear dA iO
 refine .d <| .s <| .gd nil 11 fun oo dB => ?_
 replace ⟨V, C, J, O, W, au, az, aS, bm, bO, bP, bQ⟩ := (se [cr, br, bo, aM, av, af, ae, ac, am, ah] dB).g12 V C J O W au az aS bm bO bP bQ
 replace ⟨bR, b9, E, aH⟩ := (se [cr, br, bo, aM, av, af, ae, ac, am, ah] dB).g4 bR b9 E aH
 clear dB
 refine .ln 0 b9 id <| .r [1] <| .lb 2 O id <| .r [4] <| .lb 5 W id <| .go 3 <| .cl (fun dL cd => c_impl_StoreRows bA aa.id (bO.ta.ext cd) (bP.ta.ext cd) (bQ.ta.ext cd) (bR.ta.ext cd) (by have q1 : SD ab := (by assumption); have q2 := law_fa q1 (by assumption) (by assumption) (by assumption) (by assumption); exact q2.sd (by assumption)) (w := dL) (F := all)) ?_
 intro dL cd
 replace ⟨V, C, J, O, W, au, az, aS, bm, b9, E, aH⟩ := (se [cr, br, bo, aM, av, af, ae, ac, am, ah] cd).g12 V C J O W au az aS bm b9 E aH
 rintro oq ou ⟨⟨ov, ow, rfl, cu⟩, dC⟩
 have eF : ∀ q_ ∈ ([cr, br, bo, aM, av, af, ae, ac, am, ah] : List Nat), q_ < dL.heap.size := (all_cons b9.lt (all_cons bm.lt (all_cons aS.lt (all_cons az.lt (all_cons au.lt (all_cons W.lt (all_cons O.lt (all_cons J.lt (all_cons C.lt (all_cons V.lt all_nil))))))))))
 have iP : Gb w.heap.size dL.heap.size := E.size
 have hkeep_ := dC
 replace ⟨E, aH⟩ := (se [] dC).g2 E aH
 clear dC
 refine ⟨Ext.chg hkeep_, ?_⟩
 have cu := cu.fr eF iP
 replace cu := cu.base (G' := fo F w.heap.size) (fun _ _ h => .inr h)
 have lS := cu.max
 clear eF
 refine .go 6 <| .cl (fun fY dD => c_laws_lyAt (rowsI bA aa.id) aa.row.t (cu.ta.ext dD) (w := fY) (F := all)) ?_
 intro fY dD
 replace ⟨E, aH⟩ := (se [] dD).g2 E aH
 rintro oz oA ⟨rfl, dE⟩
 have hkeep_ := dE
 replace ⟨E, aH⟩ := (se [] dE).g2 E aH
 clear dE
 refine ⟨Ext.chg hkeep_, ?_⟩
 refine .r [7, 8] ?_
 cases lT : (atB aa.row.t (rowsI bA aa.id))
 ·refine .r [9, 10] <| .d fun oB eG => ?_
  replace ⟨E, aH⟩ := (se [] eG).g2 E aH
  clear eG
  exact .r 1 <| .d <| .s <| .g <| .r 6 <| .d <| .ct <| .s <| .g <| .r 1 <| .d <| .rt Tryz.func5 Tryz.results5 (.bool false) ⟨(congrArg Value.bool (by have q1 : SD ab := (by assumption); have q2 := law_fa q1 (by assumption) (by assumption) (by assumption) (by assumption); exfalso; exact q2.no1 (by assumption) (by assumption))), E⟩
 refine .r [9, 10] <| .d fun oC eH => ?_
 replace ⟨E, aH⟩ := (se [] eH).g2 E aH
 clear eH
 exact .r 1 <| .d <| .s <| .g <| .r 4 <| .ne (atV aa.row.t (rowsI bA aa.id)) 42 (fun iQ => .r 1 <| .d <| .ct <| .s <| .g <| .r 1 <| .d <| .rt Tryz.func5 Tryz.results5 (.bool false) ⟨(congrArg Value.bool (by have q1 : SD ab := (by assumption); have q2 := law_fa q1 (by assumption) (by assumption) (by assumption) (by assumption); exfalso; exact q2.no2 (by assumption) (by assumption))), E⟩) fun iQ => .r 1 <| .d <| .cf <| .sk <| .ib 1 <| .g <| RG.int ((k : Int) + 1) (by kernel_rfl) (by have q1 : SD ab := (by assumption); omega) <| .r 1 <| .d <| dN (k + 1) _ _ ⟨by kernel_rfl, by kernel_rfl, by kernel_rfl, by kernel_rfl, by kernel_rfl, by kernel_rfl, by kernel_rfl, by kernel_rfl, trivial⟩ ⟨aH, (by omega)⟩ (by omega)
end Go.Proofs.YtfnpaglcnmcnbaaGreat
