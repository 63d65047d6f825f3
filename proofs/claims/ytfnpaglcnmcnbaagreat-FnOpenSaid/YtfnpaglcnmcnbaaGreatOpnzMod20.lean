/- Sorting by insertion: rules, the order of tags, what a round keeps. No conditions. -/
import Derived.Test.YtfnpaglcnmcnbaaGreatOpnzMod16
import Derived.Test.YtfnpaglcnmcnbaaGreatOpnzLen
set_option linter.unusedVariables false
set_option linter.unusedSimpArgs false
namespace Go.Proofs.YtfnpaglcnmcnbaaGreat
section
variable {P : Program} {S : Nat → Prop} {n m : Nat} {L : Env → World → Prop} {ops : Array Oper} {l : List Nat} {e : Env} {w : World}
theorem GE.loadHN {i : Nat} {t' : TypeId} {b o : Nat} {cs : List Value} (k : Nat) (vs : List Value) (hc : Has w ⟨b, o, none⟩ cs) (h : loadAt n ops i e = some (t', ⟨b, o + k, none⟩)) (hs : aggB P t' vs.length = true) (hv : (cs.drop k).take vs.length = vs)
 (H : ∀ w1, Ext w w1 → GA P S n m L ops (i :: l) (putE e (opAt ops i).dst (.agg vs.toArray)) w1) : GE P S n m L ops l i e w := fun w1 hx => by
 rw [(run_load (P := P) (w := w1) h ((hc.ext hx).loadNAt k vs hs hv)).2]
 exact ⟨Chg.refl S _, H w1 hx⟩
theorem GE.storeO {α : Type} [Rep α] {i r t N c q k : Nat} {F : Nat → Prop} {xs : List α} {t' : TypeId} {x : α} {cs : List Value} {v : Value} (x' : α) (ho : Own w r t F N c xs) (hx : xs[q]? = some x)
 (hh : Has w ⟨r, 0 + q * Rep.sz α, none⟩ cs) (hr : Rep.rep w (fun b => F b ∧ b ≠ r) x' (splice cs k v.cells.toList)) (h : storeAt n ops i e = some (t', ⟨r, 0 + q * Rep.sz α + k, none⟩, v)) (hl : Nat.beq cs.length (Rep.sz α) = true)
 (hs : (sizeB P t' v.cells.size && Nat.ble (k + v.cells.size) cs.length && v.cells.toList.all oneC) = true)
 (H : ∀ w1, Ext w w1 → ∀ w2, Own w2 r t F N c (xs.set q x') → Chg (Go.Proofs.YtfnpaglcnmcnbaaGreat.one r) w1 w2 → w2.heap.size = w1.heap.size → Chg S w1 w2 ∧ GA P S n m L ops (i :: l) (putE e (opAt ops i).dst undef) w2) : GE P S n m L ops l i e w := fun w1 hx1 => by
 rw [Nat.zero_add] at hh h
 have hr1 : Rep.rep w1 (fun b => F b ∧ b ≠ r) x' (splice cs k v.cells.toList) := Rep.frame hr (fun b hb hF => ⟨hF, hx1.block hb⟩)
 obtain ⟨w2, hrun, ho', hx', hsz⟩ := (ho.ext hx1).store (P := P) (t' := t') (k := k) hx (hh.ext hx1) (Nat.eq_of_beq_eq_true hl) hs hr1
 rw [run_storeAt h hrun]
 obtain ⟨h1, h2⟩ := H w1 hx1 w2 ho' hx' hsz
 exact ⟨h1, h2⟩
end
theorem Own.toNin {α : Type} [Rep α] {w : World} {r t n c : Nat} {F : Nat → Prop} {xs : List α} (h : Own w r t F n c xs) : Own w r t (nin F [r]) n c xs :=
 ⟨h.len, h.le, h.cap, h.row, fun i x hi => by
  obtain ⟨cs, h1, h2⟩ := h.elem i x hi
  exact ⟨cs, Rep.frame h1 (fun b _ hF => ⟨⟨⟨hF.1, by simp; exact hF.2⟩, hF.2⟩, rfl⟩), h2⟩⟩
theorem Own.ofNin {α : Type} [Rep α] {w : World} {r t n c : Nat} {F : Nat → Prop} {xs : List α} (h : Own w r t (nin F [r]) n c xs) : Own w r t F n c xs := h.weak fun _ _ hF => hF.1
theorem strLt_cons (a b : UInt8) (x y : Str) : strLt (a :: x) (b :: y) = (decide (a < b) || a == b && strLt x y) := rfl
theorem strLt_trans : ∀ (x y z : Str), strLt x y = true → strLt y z = true → strLt x z = true := by
 intro x
 induction x with
 | nil =>
   intro y z h1 h2
   cases z with
   | nil => cases y <;> simp [strLt, Op.bytesLess] at h2
   | cons => rfl
 | cons a x ih =>
   intro y z h1 h2
   cases y with
   | nil => simp [strLt, Op.bytesLess] at h1
   | cons b y =>
     cases z with
     | nil => simp [strLt, Op.bytesLess] at h2
     | cons c z =>
       rw [strLt_cons] at h1 h2 ⊢
       simp only [Bool.or_eq_true, decide_eq_true_eq, Bool.and_eq_true, beq_iff_eq] at h1 h2 ⊢
       rcases h1 with h1 | ⟨h1, h3⟩
       ·rcases h2 with h2 | ⟨h2, h4⟩
        ·left
         have g1 := UInt8.lt_iff_toNat_lt.1 h1
         have g2 := UInt8.lt_iff_toNat_lt.1 h2
         exact UInt8.lt_iff_toNat_lt.2 (by omega)
        ·left; rw [← h2]; exact h1
       ·rcases h2 with h2 | ⟨h2, h4⟩
        ·left; rw [h1]; exact h2
        ·right; exact ⟨h1.trans h2, ih y z h3 h4⟩
theorem strLt_tri {x y : Str} (h1 : strLt x y = false) (h2 : strLt y x = false) : x = y := by
 have := strLt_gt x y
 unfold strLe at this
 unfold strLt at h1 h2 this
 rw [h1, h2] at this
 simpa using this
theorem tagLt_trans {a b c : Tag} (h1 : tagLt a b = true) (h2 : tagLt b c = true) : tagLt a c = true := by
 unfold tagLt at *
 simp only [Bool.or_eq_true, Bool.and_eq_true, beq_iff_eq] at *
 rcases h1 with h1 | ⟨h1, h3⟩
 ·rcases h2 with h2 | ⟨h2, h4⟩
  ·exact .inl (strLt_trans _ _ _ h1 h2)
  ·exact .inl (h2 ▸ h1)
 ·rcases h2 with h2 | ⟨h2, h4⟩
  ·exact .inl (h1 ▸ h2)
  ·exact .inr ⟨h1.trans h2, strLt_trans _ _ _ h3 h4⟩
theorem tagLt_irr (a : Tag) : tagLt a a = false := by unfold tagLt; simp [strLt_irr]
theorem tagLt_tri {a b : Tag} (h1 : tagLt a b = false) (h2 : tagLt b a = false) : a = b := by
 unfold tagLt at h1 h2
 simp only [Bool.or_eq_false_iff, Bool.and_eq_false_iff] at h1 h2
 have hk := strLt_tri h1.1 h2.1
 have hv : a.val = b.val := by
  rcases h1.2 with h | h
  ·rw [hk] at h; simp at h
  ·rcases h2.2 with h' | h'
   ·rw [hk] at h'; simp at h'
   ·exact strLt_tri h h'
 cases a; cases b
 simp only at hk hv
 rw [hk, hv]
theorem cmpP_lt (a b : Pst) : cmpP a b < 0 ↔ tagLt a.tag b.tag = true := by
 unfold cmpP cmpS tagLt
 cases h1 : strLt a.tag.key b.tag.key with
 | true => simp [orF]
 | false =>
   cases h2 : strLt b.tag.key a.tag.key with
   | true =>
     have : ¬ a.tag.key = b.tag.key := fun e => by rw [e, strLt_irr] at h2; cases h2
     simp [orF, this]
   | false =>
     have e := strLt_tri h1 h2
     cases h3 : strLt a.tag.val b.tag.val with
     | true => simp [orF, e]
     | false =>
       cases h4 : strLt b.tag.val a.tag.val <;> simp [orF]
def Le (a b : Pst) : Prop := ¬ cmpP b a < 0
theorem Le.of_lt {a b : Pst} (h : cmpP a b < 0) : Le a b := fun h2 => by
 rw [cmpP_lt] at h h2
 have := tagLt_trans h h2
 rw [tagLt_irr] at this
 cases this
theorem Le.trans {a b c : Pst} (h1 : Le a b) (h2 : Le b c) : Le a c := by
 unfold Le at *
 rw [cmpP_lt] at *
 intro h
 cases h3 : tagLt b.tag c.tag with
 | true => exact h1 (tagLt_trans h3 h)
 | false =>
   have e := tagLt_tri h3 (by simpa using h2)
   rw [← e] at h
   exact h1 h
def InsInv (xs : List Pst) (i j : Nat) : Prop :=
 j ≤ i ∧ i < xs.length ∧ (xs.take j ++ (xs.take (i + 1)).drop (j + 1)).Pairwise Le ∧ ∀ x, xs[j]? = some x → ∀ y ∈ (xs.take (i + 1)).drop (j + 1), Le x y
theorem InsInv.start {xs : List Pst} {i : Nat} (h : (xs.take i).Pairwise Le) (hi : i < xs.length) : InsInv xs i i := by
 have : (xs.take (i + 1)).drop (i + 1) = [] := List.drop_of_length_le (by simp; omega)
 refine ⟨Nat.le_refl _, hi, ?_, ?_⟩
 ·rw [this, List.append_nil]; exact h
 ·rw [this]; intro _ _ y hy; cases hy
theorem split2 {α : Type} {xs : List α} {j : Nat} {x y : α} (hx : xs[j]? = some x) (hy : xs[j - 1]? = some y) (hj : 0 < j) : ∃ A D, xs = A ++ y :: x :: D ∧ A.length = j - 1 := by
 refine ⟨xs.take (j - 1), xs.drop (j + 1), ?_, ?_⟩
 ·have h1 := drop_at hy
  rw [show j - 1 + 1 = j by omega, drop_at hx] at h1
  rw [← h1, List.take_append_drop]
 ·obtain ⟨h1, _⟩ := List.getElem?_eq_some_iff.1 hy
  rw [List.length_take]; omega
theorem swap_eq {α : Type} (A D : List α) (x y : α) : ((A ++ y :: x :: D).set (A.length + 1) y).set A.length x = A ++ x :: y :: D := by
 simp
theorem swap_perm {xs : List Pst} {j : Nat} {x y : Pst} (hx : xs[j]? = some x) (hy : xs[j - 1]? = some y) (hj : 0 < j) : ((xs.set j y).set (j - 1) x).Perm xs := by
 obtain ⟨A, D, rfl, hA⟩ := split2 hx hy hj
 rw [show j = A.length + 1 by omega, Nat.add_sub_cancel, swap_eq]
 exact List.Perm.append_left A (List.Perm.swap y x D)
theorem InsInv.step {xs : List Pst} {i j : Nat} {x y : Pst} (h : InsInv xs i j) (hj : 0 < j) (hx : xs[j]? = some x) (hy : xs[j - 1]? = some y) (hc : cmpP x y < 0) : InsInv ((xs.set j y).set (j - 1) x) i (j - 1) := by
 obtain ⟨h1, h2, h3, h4⟩ := h
 have h5 := h4 x hx
 obtain ⟨A, D, rfl, hA⟩ := split2 hx hy hj
 have hj2 : j = A.length + 1 := by omega
 subst hj2
 have e1 : (A ++ y :: x :: D).take (A.length + 1) = A ++ [y] := by rw [List.take_length_add_append]; rfl
 have e2 : ∀ a b : Pst, ((A ++ a :: b :: D).take (i + 1)).drop (A.length + 1 + 1) = D.take (i - A.length - 1) := by
  intro a b
  rw [List.drop_take, show (A ++ a :: b :: D).drop (A.length + 1 + 1) = D from (List.drop_length_add_append (l₁ := A) (l₂ := a :: b :: D) (i := 2))]
  congr 1
  omega
 have e3 : ((A ++ x :: y :: D).take (i + 1)).drop (A.length + 1) = y :: D.take (i - A.length - 1) := by
  rw [List.drop_take, show (A ++ x :: y :: D).drop (A.length + 1) = y :: D from (List.drop_length_add_append (l₁ := A) (l₂ := x :: y :: D) (i := 1)), show i + 1 - (A.length + 1) = (i - A.length - 1) + 1 by omega]
  rfl
 rw [e1, e2] at h3
 rw [e2] at h5
 rw [Nat.add_sub_cancel, swap_eq]
 refine ⟨by omega, by simpa using h2, ?_, ?_⟩
 ·rw [e3, show (A ++ x :: y :: D).take A.length = A by simp]
  simpa using h3
 ·intro x' hx' z hz
  rw [e3] at hz
  have : x' = x := by
   have hg : (A ++ x :: y :: D)[A.length]? = some x := by simp
   rw [hg] at hx'
   cases hx'
   rfl
  subst this
  rcases List.mem_cons.1 hz with rfl | hz
  ·exact Le.of_lt hc
  ·exact h5 z hz
theorem InsInv.exit {xs : List Pst} {i j : Nat} (h : InsInv xs i j) (hj : j = 0 ∨ ∃ x y, xs[j]? = some x ∧ xs[j - 1]? = some y ∧ ¬ cmpP x y < 0) : (xs.take (i + 1)).Pairwise Le := by
 obtain ⟨h1, h2, h3, h4⟩ := h
 have hjl : j < xs.length := by omega
 have hx : xs[j]? = some xs[j] := List.getElem?_eq_getElem hjl
 have h5 := h4 _ hx
 have e : xs.take (i + 1) = xs.take j ++ xs[j] :: (xs.take (i + 1)).drop (j + 1) := by
  have h6 : (xs.take (i + 1)).take j = xs.take j := by rw [List.take_take, Nat.min_eq_left (by omega)]
  have h7 : (xs.take (i + 1))[j]? = some xs[j] := by rw [List.getElem?_take, if_pos (by omega)]; exact hx
  rw [← h6, ← drop_at h7, List.take_append_drop]
 rw [e]
 rw [List.pairwise_append] at h3 ⊢
 obtain ⟨g1, g2, g3⟩ := h3
 have key : ∀ a ∈ xs.take j, Le a xs[j] := by
  intro a ha
  rcases hj with rfl | ⟨x, y, hx', hy, hc⟩
  ·simp at ha
  ·have : x = xs[j] := by rw [hx] at hx'; cases hx'; rfl
   subst this
   by_cases hj0 : j = 0
   ·subst hj0; simp at ha
   ·have hyl : xs.take j = xs.take (j - 1) ++ [y] := by
     obtain ⟨k, rfl⟩ : ∃ k, j = k + 1 := ⟨j - 1, by omega⟩
     rw [Nat.add_sub_cancel] at hy
     rw [List.take_add_one, hy]
     simp
    have hyc : Le y xs[j] := hc
    rw [hyl] at ha g1
    rcases List.mem_append.1 ha with ha | ha
    ·exact Le.trans ((List.pairwise_append.1 g1).2.2 a ha y (by simp)) hyc
    ·simp at ha; subst ha; exact hyc
 refine ⟨g1, List.pairwise_cons.2 ⟨h5, g2⟩, fun a ha b hb => ?_⟩
 rcases List.mem_cons.1 hb with rfl | hb
 ·exact key a ha
 ·exact g3 a ha b hb
theorem InsInv.stepZ {xs : List Pst} {i : Nat} {j : Int} {x y : Pst} (h : InsInv xs i j.toNat) (hj : j > 0) (hx : xs[j.toNat]? = some x) (hy : xs[(j - 1).toNat]? = some y) (hc : cmpP x y < 0) : InsInv ((xs.set j.toNat y).set (j - 1).toNat x) i (j - 1).toNat := by
 rw [show (j - 1).toNat = j.toNat - 1 by omega] at *
 exact h.step (by omega) hx hy hc
theorem swap_permZ {xs xs0 : List Pst} {j : Int} {x y : Pst} (hx : xs[j.toNat]? = some x) (hy : xs[(j - 1).toNat]? = some y) (hj : j > 0) (h : xs.Perm xs0) : ((xs.set j.toNat y).set (j - 1).toNat x).Perm xs0 := by
 rw [show (j - 1).toNat = j.toNat - 1 by omega] at *
 exact (swap_perm hx hy (by omega)).trans h
theorem InsInv.exit0 {xs : List Pst} {i : Nat} {j : Int} (h : InsInv xs i j.toNat) (hj : ¬ j > 0) : (xs.take (i + 1)).Pairwise Le := h.exit (.inl (by omega))
theorem InsInv.exit1 {xs : List Pst} {i : Nat} {j : Int} {x y : Pst} (h : InsInv xs i j.toNat) (hj : j > 0) (hx : xs[j.toNat]? = some x) (hy : xs[(j - 1).toNat]? = some y) (hc : ¬ cmpP x y < 0) : (xs.take (i + 1)).Pairwise Le := by
 rw [show (j - 1).toNat = j.toNat - 1 by omega] at hy
 exact h.exit (.inr ⟨x, y, hx, hy, hc⟩)
end Go.Proofs.YtfnpaglcnmcnbaaGreat
namespace Go.Proofs.YtfnpaglcnmcnbaaGreat
set_option maxRecDepth 100000
set_option maxHeartbeats 4000000
theorem c_insertionSort {w : World} {F : Nat → Prop} {r n c : Nat} {xs0 : List Pst} (ho : Own w r 130 F n c xs0) : Calls Tryz.prog 184 [.slice (some ⟨r, 0, none⟩) n c, .int .i64 0, .int .i64 (n : Int), .func (.func 126) #[] #[]].toArray w (rets fun rv w' => rv = .tuple #[] ∧ ∃ zs, zs.Perm xs0 ∧ zs.Pairwise Le ∧ Own w' r 130 F n c zs ∧ Chg (one r) w w') := by
 refine goT Tryz.func184 ?_
 replace ho := ho.toNin; have hnl := ho.len; have hnm := ho.max
 refine .s <| .g <| .r 1 <| .it (1) <| .r 1 <| .d <| .b 0 <| T.loop (X := Nat × (List Pst)) (1, xs0) (fun (i, xs) => [(0, vS r n c), (1, vI 0), (2, vI (n : Int)), (3, .func (.func 126) #[] #[]), (8, vI (i : Int))]) (fun (i, xs) aK => Chg (ins [r]) w aK ∧ Own aK r 130 (nin F [r]) n c xs ∧ (1 ≤ i) ∧ (xs.Perm xs0) ∧ ((xs.take i).Pairwise Le)) (fun (i, xs) => n - i) (by kernel_rfl) ⟨by kernel_rfl, by kernel_rfl, by kernel_rfl, by kernel_rfl, by kernel_rfl, trivial⟩ ⟨Chg.refl _ _, ho, (by omega), (by exact List.Perm.refl _), (by cases xs0 <;> simp)⟩ ?_
 rintro ⟨i, xs⟩ di aK ⟨C, aH, cG, cH, cI⟩ aq
 have cJ : Cov (ins [r]) w r := ⟨.inl (.head _)⟩
 have E : Chg (one r) w aK := Chg.stepI (Chg.refl (one r) w) C (all_cons (Cov.mk1 w r) all_nil)
 have cK := aH.len; have cL := aH.max
 refine .s <| .s <| .g <| .r 2 <| .bp ((i : Int) < (n : Int)) (fun bX => ?_) (fun bX => .d <| .cf <| .x 0 rfl <| T.fall0 Tryz.func184 Tryz.results184 ⟨rfl, _, (by assumption : xs.Perm xs0), (by have q1 : (xs.take i).Pairwise Le := (by assumption); rw [List.take_of_length_le (by omega)] at q1; exact q1), aH.ofNin, E⟩)
 refine .d <| .ct <| .sk <| .s <| .b 1 <| .s <| .g <| .r 2 <| .d <| .b 2 <| T.loop (X := Int × (List Pst)) ((i : Int), xs) (fun (j, W) => [(0, vS r n c), (1, vI 0), (2, vI (n : Int)), (3, .func (.func 126) #[] #[]), (8, vI (i : Int)), (9, vI j)]) (fun (j, W) bC => Chg (ins [r]) aK bC ∧ Own bC r 130 (nin F [r]) n c W ∧ (0 ≤ j) ∧ (W.Perm xs0) ∧ (InsInv W i j.toNat)) (fun (j, W) => j.toNat) (by kernel_rfl) ⟨by kernel_rfl, by kernel_rfl, by kernel_rfl, by kernel_rfl, by kernel_rfl, by kernel_rfl, trivial⟩ ⟨Chg.refl _ _, aH, (by omega), (by assumption), (by exact InsInv.start (by assumption) (by omega))⟩ ?_
 rintro ⟨j, W⟩ dj bC ⟨O, J, cM, cN, cO⟩ ar
 have cP : Cov (ins [r]) aK r := ⟨.inl (.head _)⟩
 replace ⟨E, C⟩ := (si O).g2 E C
 have cQ := J.len; have cR := J.max
 refine .s <| .s <| .gd nil 14 fun bY bj => ?_
 replace ⟨J, E, C, O⟩ := (se [r] bj).g4 J E C O
 clear bj
 refine .r [0, 1] <| GA.boolP (i := 2) (j > 0) (by kernel_rfl) (fun bZ => ?_) (fun bZ => ?_)
 ·refine .r [3, 4, 5, 6] ?_
  have b0 : (j).toNat < n := (by have q1 : InsInv W i j.toNat := (by assumption); have q2 := q1.1; have q3 := q1.2.1; omega)
  refine GA.idx (i := 7) (b := r) (o := 0) ((j).toNat) (len := n) (z := j) (sz := 3) (by kernel_rfl) (by have q1 : InsInv W i j.toNat := (by assumption); have q2 := q1.1; have q3 := q1.2.1; omega) b0 rfl ?_
  obtain ⟨V, ae⟩ : ∃ y, W[(j).toNat]? = some y := ⟨_, List.getElem?_eq_getElem (by have q1 : InsInv W i j.toNat := (by assumption); have q2 := q1.1; have q3 := q1.2.1; omega)⟩
  have cS := drop_at ae; have cu := List.mem_of_getElem? ae
  obtain ⟨_, ⟨cw, dk, cx, rfl, aw⟩, aL⟩ := J.elem ((j).toNat) V ae
  replace aw := aw.weak (fun _ _ h => h.1)
  have b6 := aw.len
  subst b6
  have cT := aw.max
  replace aL : Has bY ⟨r, 0 + ((j).toNat) * Rep.sz Pst, none⟩ [vT V.tag.key, vT V.tag.val, .slice cw V.ids.length cx] := by rw [Nat.zero_add]; exact aL
  refine .lg 8 0 aL id <| .r [9, 10] <| GA.int (i := 11) (j - 1) (by kernel_rfl) (by omega) ?_
  have b7 : (j - 1).toNat < n := (by have q1 : InsInv W i j.toNat := (by assumption); have q2 := q1.1; have q3 := q1.2.1; omega)
  refine GA.idx (i := 12) (b := r) (o := 0) ((j - 1).toNat) (len := n) (z := j - 1) (sz := 3) (by kernel_rfl) (by have q1 : InsInv W i j.toNat := (by assumption); have q2 := q1.1; have q3 := q1.2.1; omega) b7 rfl ?_
  obtain ⟨Z, au⟩ : ∃ y, W[(j - 1).toNat]? = some y := ⟨_, List.getElem?_eq_getElem (by have q1 : InsInv W i j.toNat := (by assumption); have q2 := q1.1; have q3 := q1.2.1; omega)⟩
  have cU := drop_at au; have cv := List.mem_of_getElem? au
  obtain ⟨_, ⟨cy, dm, cz, rfl, ax⟩, aM⟩ := J.elem ((j - 1).toNat) Z au
  replace ax := ax.weak (fun _ _ h => h.1)
  have b8 := ax.len
  subst b8
  have cV := ax.max
  replace aM : Has bY ⟨r, 0 + ((j - 1).toNat) * Rep.sz Pst, none⟩ [vT Z.tag.key, vT Z.tag.val, .slice cy Z.ids.length cz] := by rw [Nat.zero_add]; exact aM
  refine .lg 13 0 aM id <| .d fun cA bk => ?_
  replace ⟨J, aw, ax, E, C, O⟩ := (se [r] bk).g6 J aw ax E C O
  clear bk
  refine .cl (c_impl_indexOf_2 V Z aw.ta ax.ta (w := cA) (F := all)) ?_
  rintro dp bD ⟨rfl, bm⟩
  replace ⟨J, E, C, O⟩ := (se [r] bm).g4 J E C O
  clear bm
  refine .bp (cmpP V Z < 0) (fun b9 => ?_) (fun b9 => .r 1 <| .d <| .cf <| .x 2 rfl <| .ib 1 <| .g <| .r 1 <| .it ((i : Int) + 1) <| .r 1 <| .d <| aq (i + 1, W) _ _ ⟨by kernel_rfl, by kernel_rfl, by kernel_rfl, by kernel_rfl, by kernel_rfl, trivial⟩ ⟨C, J, (by omega), (by assumption), (by exact InsInv.exit1 (by assumption) (by assumption) (by assumption) (by assumption) (by assumption))⟩ (by (simp only []; omega)))
  refine .r 1 <| .d <| .ct <| .sk <| .s <| .b 3 ?_
  have bn : Cov (mtb [r] bD.heap.size) bD r := ⟨.inl (.inl (.head _))⟩
  refine .gd (mtb [r] bD.heap.size) 16 fun cd bo => ?_
  replace ⟨J, E, C, O⟩ := (se [r] bo).g4 J E C O
  clear bo
  refine .r [0, 1, 2, 3] <| GA.int (i := 4) (j - 1) (by kernel_rfl) (by omega) <| .r [5, 6] <| GA.int (i := 7) (j - 1) (by kernel_rfl) (by omega) ?_
  have ce : (j - 1).toNat < n := (by have q1 : InsInv W i j.toNat := (by assumption); have q2 := q1.1; have q3 := q1.2.1; omega)
  refine GA.idx (i := 8) (b := r) (o := 0) ((j - 1).toNat) (len := n) (z := j - 1) (sz := 3) (by kernel_rfl) (by have q1 : InsInv W i j.toNat := (by assumption); have q2 := q1.1; have q3 := q1.2.1; omega) ce rfl <| .r [10, 11] ?_
  have cg : (j).toNat < n := (by have q1 : InsInv W i j.toNat := (by assumption); have q2 := q1.1; have q3 := q1.2.1; omega)
  refine GA.idx (i := 12) (b := r) (o := 0) ((j).toNat) (len := n) (z := j) (sz := 3) (by kernel_rfl) (by have q1 : InsInv W i j.toNat := (by assumption); have q2 := q1.1; have q3 := q1.2.1; omega) cg rfl <| .tw 9 13 ?_ ?_
  ·obtain ⟨_, ⟨bE, dq, bF, rfl, av⟩, aN⟩ := J.elem ((j - 1).toNat) Z au
   replace av := av.weak (fun _ _ h => h.1)
   have ci := av.len
   subst ci
   replace aN : Has cd ⟨r, 0 + ((j - 1).toNat) * Rep.sz Pst, none⟩ [vT Z.tag.key, vT Z.tag.val, .slice bE Z.ids.length bF] := by rw [Nat.zero_add]; exact aN
   refine GE.loadHN (t' := 130) 0 [vT Z.tag.key, vT Z.tag.val, .slice bE Z.ids.length bF] aN (by kernel_rfl) (by kernel_rfl) (by kernel_rfl) fun cB bq => ?_
   replace ⟨J, av, E, C, O⟩ := (se [r] bq).g5 J av E C O
   clear bq
   refine .go 13 ?_
   obtain ⟨_, ⟨aO, cW, aP, rfl, ac⟩, ay⟩ := J.elem ((j).toNat) V ae
   replace ac := ac.weak (fun _ _ h => h.1)
   have bG := ac.len
   subst bG
   replace ay : Has cB ⟨r, 0 + ((j).toNat) * Rep.sz Pst, none⟩ [vT V.tag.key, vT V.tag.val, .slice aO V.ids.length aP] := by rw [Nat.zero_add]; exact ay
   refine GE.loadHN (t' := 130) 0 [vT V.tag.key, vT V.tag.val, .slice aO V.ids.length aP] ay (by kernel_rfl) (by kernel_rfl) (by kernel_rfl) fun cj aQ => ?_
   replace ⟨J, av, ac, E, C, O⟩ := (se [r] aQ).g6 J av ac E C O
   clear aQ
   have bH : (j).toNat < n := (by have q1 : InsInv W i j.toNat := (by assumption); have q2 := q1.1; have q3 := q1.2.1; omega)
   refine GA.idx (i := 14) (b := r) (o := 0) ((j).toNat) (len := n) (z := j) (sz := 3) (by kernel_rfl) (by have q1 : InsInv W i j.toNat := (by assumption); have q2 := q1.1; have q3 := q1.2.1; omega) bH rfl <| .go 15 ?_
   obtain ⟨_, ⟨br, cX, bt, rfl, aR⟩, az⟩ := J.elem ((j).toNat) V ae
   replace aR := aR.weak (fun _ _ h => h.1)
   have bI := aR.len
   subst bI
   replace az : Has cj ⟨r, 0 + ((j).toNat) * Rep.sz Pst, none⟩ [vT V.tag.key, vT V.tag.val, .slice br V.ids.length bt] := by rw [Nat.zero_add]; exact az
   refine GE.storeO (t' := 130) (q := ((j).toNat)) (k := 0) (v := .agg #[vT Z.tag.key, vT Z.tag.val, .slice bE Z.ids.length bF]) (cs := [vT V.tag.key, vT V.tag.val, .slice br V.ids.length bt]) Z J ae az ⟨_, _, _, rfl, av.oi⟩ (by kernel_rfl) (by kernel_rfl) (by kernel_rfl) fun cY aS => ?_
   replace ⟨J, ac, E, C, O⟩ := (se [r] aS).g5 J ac E C O
   clear aS
   intro cZ ak aA bJ
   have hkeep_ := Chg.toS aA (Cov.toS bn)
   replace ⟨ac, E, C, O⟩ := (so [r] aA).g4 ac E C O
   clear aA
   refine ⟨hkeep_, ?_⟩
   clear bJ
   refine .d fun ck aT => ?_
   replace ⟨ak, ac, E, C, O⟩ := (se [r] aT).g5 ak ac E C O
   clear aT
   have bK : (j - 1).toNat < n := (by have q1 : InsInv W i j.toNat := (by assumption); have q2 := q1.1; have q3 := q1.2.1; omega)
   refine RG.idx (b := r) (o := 0) ((j - 1).toNat) (len := n) (i := j - 1) (sz := 3) (by kernel_rfl) (by have q1 : InsInv W i j.toNat := (by assumption); have q2 := q1.1; have q3 := q1.2.1; omega) bK rfl ?_
   obtain ⟨af, al⟩ : ∃ y, (W.set ((j).toNat) Z)[(j - 1).toNat]? = some y := ⟨_, List.getElem?_eq_getElem (by have q1 : InsInv W i j.toNat := (by assumption); have q2 := q1.1; have q3 := q1.2.1; (rw [List.length_set]; omega))⟩
   have cC := drop_at al; have cm := List.mem_of_getElem? al
   obtain ⟨_, ⟨bu, c7, bv, rfl, aI⟩, aB⟩ := ak.elem ((j - 1).toNat) af al
   replace aI := aI.weak (fun _ _ h => h.1)
   have bL := aI.len
   subst bL
   have cD := aI.max
   replace aB : Has ck ⟨r, 0 + ((j - 1).toNat) * Rep.sz Pst, none⟩ [vT af.tag.key, vT af.tag.val, .slice bu af.ids.length bv] := by rw [Nat.zero_add]; exact aB
   refine RG.storeO (t' := 130) (i := ((j - 1).toNat)) (k := 0) (v := .agg #[vT V.tag.key, vT V.tag.val, .slice aO V.ids.length aP]) (cs := [vT af.tag.key, vT af.tag.val, .slice bu af.ids.length bv]) V ak al aB (by kernel_rfl) (by kernel_rfl) (by kernel_rfl) ⟨_, _, _, rfl, ac.oi⟩ fun c8 bM aU bN => ?_
   replace ⟨E, C, O⟩ := (s1 aU).g3 E C O
   clear aU bN
   exact .d <| .ib 3 <| .g <| .r 1 <| .it (j - 1) <| .r 1 <| .d <| ar (j - 1, ((W.set ((j).toNat) Z).set ((j - 1).toNat) V)) _ _ ⟨by kernel_rfl, by kernel_rfl, by kernel_rfl, by kernel_rfl, by kernel_rfl, by kernel_rfl, trivial⟩ ⟨O, bM, (by omega), (by exact swap_permZ (by assumption) (by assumption) (by assumption) (by assumption)), (by exact InsInv.stepZ (by assumption) (by assumption) (by assumption) (by assumption) (by assumption))⟩ (by (simp only []; omega))
  obtain ⟨_, ⟨aV, c9, aW, rfl, ab⟩, aC⟩ := J.elem ((j).toNat) V ae
  replace ab := ab.weak (fun _ _ h => h.1)
  have bO := ab.len
  subst bO
  replace aC : Has cd ⟨r, 0 + ((j).toNat) * Rep.sz Pst, none⟩ [vT V.tag.key, vT V.tag.val, .slice aV V.ids.length aW] := by rw [Nat.zero_add]; exact aC
  refine GE.loadHN (t' := 130) 0 [vT V.tag.key, vT V.tag.val, .slice aV V.ids.length aW] aC (by kernel_rfl) (by kernel_rfl) (by kernel_rfl) fun co aX => ?_
  replace ⟨J, ab, E, C, O⟩ := (se [r] aX).g5 J ab E C O
  clear aX
  refine .go 9 ?_
  obtain ⟨_, ⟨aY, da, aZ, rfl, ah⟩, aD⟩ := J.elem ((j - 1).toNat) Z au
  replace ah := ah.weak (fun _ _ h => h.1)
  have bP := ah.len
  subst bP
  replace aD : Has co ⟨r, 0 + ((j - 1).toNat) * Rep.sz Pst, none⟩ [vT Z.tag.key, vT Z.tag.val, .slice aY Z.ids.length aZ] := by rw [Nat.zero_add]; exact aD
  refine GE.loadHN (t' := 130) 0 [vT Z.tag.key, vT Z.tag.val, .slice aY Z.ids.length aZ] aD (by kernel_rfl) (by kernel_rfl) (by kernel_rfl) fun cp ba => ?_
  replace ⟨J, ab, ah, E, C, O⟩ := (se [r] ba).g6 J ab ah E C O
  clear ba
  have bQ : (j).toNat < n := (by have q1 : InsInv W i j.toNat := (by assumption); have q2 := q1.1; have q3 := q1.2.1; omega)
  refine GA.idx (i := 14) (b := r) (o := 0) ((j).toNat) (len := n) (z := j) (sz := 3) (by kernel_rfl) (by have q1 : InsInv W i j.toNat := (by assumption); have q2 := q1.1; have q3 := q1.2.1; omega) bQ rfl <| .go 15 ?_
  obtain ⟨_, ⟨bw, db, bz, rfl, bc⟩, aE⟩ := J.elem ((j).toNat) V ae
  replace bc := bc.weak (fun _ _ h => h.1)
  have bR := bc.len
  subst bR
  replace aE : Has cp ⟨r, 0 + ((j).toNat) * Rep.sz Pst, none⟩ [vT V.tag.key, vT V.tag.val, .slice bw V.ids.length bz] := by rw [Nat.zero_add]; exact aE
  refine GE.storeO (t' := 130) (q := ((j).toNat)) (k := 0) (v := .agg #[vT Z.tag.key, vT Z.tag.val, .slice aY Z.ids.length aZ]) (cs := [vT V.tag.key, vT V.tag.val, .slice bw V.ids.length bz]) Z J ae aE ⟨_, _, _, rfl, ah.oi⟩ (by kernel_rfl) (by kernel_rfl) (by kernel_rfl) fun dd bd => ?_
  replace ⟨J, ab, E, C, O⟩ := (se [r] bd).g5 J ab E C O
  clear bd
  intro de am aF bS
  have hkeep_ := Chg.toS aF (Cov.toS bn)
  replace ⟨ab, E, C, O⟩ := (so [r] aF).g4 ab E C O
  clear aF
  refine ⟨hkeep_, ?_⟩
  clear bS
  refine .d fun cq bg => ?_
  replace ⟨am, ab, E, C, O⟩ := (se [r] bg).g5 am ab E C O
  clear bg
  have bT : (j - 1).toNat < n := (by have q1 : InsInv W i j.toNat := (by assumption); have q2 := q1.1; have q3 := q1.2.1; omega)
  refine RG.idx (b := r) (o := 0) ((j - 1).toNat) (len := n) (i := j - 1) (sz := 3) (by kernel_rfl) (by have q1 : InsInv W i j.toNat := (by assumption); have q2 := q1.1; have q3 := q1.2.1; omega) bT rfl ?_
  obtain ⟨ag, ao⟩ : ∃ y, (W.set ((j).toNat) Z)[(j - 1).toNat]? = some y := ⟨_, List.getElem?_eq_getElem (by have q1 : InsInv W i j.toNat := (by assumption); have q2 := q1.1; have q3 := q1.2.1; (rw [List.length_set]; omega))⟩
  have cE := drop_at ao; have cr := List.mem_of_getElem? ao
  obtain ⟨_, ⟨bA, df, bB, rfl, aJ⟩, aG⟩ := am.elem ((j - 1).toNat) ag ao
  replace aJ := aJ.weak (fun _ _ h => h.1)
  have bU := aJ.len
  subst bU
  have cF := aJ.max
  replace aG : Has cq ⟨r, 0 + ((j - 1).toNat) * Rep.sz Pst, none⟩ [vT ag.tag.key, vT ag.tag.val, .slice bA ag.ids.length bB] := by rw [Nat.zero_add]; exact aG
  refine RG.storeO (t' := 130) (i := ((j - 1).toNat)) (k := 0) (v := .agg #[vT V.tag.key, vT V.tag.val, .slice aV V.ids.length aW]) (cs := [vT ag.tag.key, vT ag.tag.val, .slice bA ag.ids.length bB]) V am ao aG (by kernel_rfl) (by kernel_rfl) (by kernel_rfl) ⟨_, _, _, rfl, ab.oi⟩ fun dg bV bh bW => ?_
  replace ⟨E, C, O⟩ := (s1 bh).g3 E C O
  clear bh bW
  exact .d <| .ib 3 <| .g <| .r 1 <| .it (j - 1) <| .r 1 <| .d <| ar (j - 1, ((W.set ((j).toNat) Z).set ((j - 1).toNat) V)) _ _ ⟨by kernel_rfl, by kernel_rfl, by kernel_rfl, by kernel_rfl, by kernel_rfl, by kernel_rfl, trivial⟩ ⟨O, bV, (by omega), (by exact swap_permZ (by assumption) (by assumption) (by assumption) (by assumption)), (by exact InsInv.stepZ (by assumption) (by assumption) (by assumption) (by assumption) (by assumption))⟩ (by (simp only []; omega))
 refine .r [3, 4, 5, 6, 7, 8, 9, 10, 11, 12, 13] <| .d fun dh bi => ?_
 replace ⟨J, E, C⟩ := (se [r] bi).g3 J E C
 clear bi
 exact .r 3 <| .d <| .cf <| .x 2 rfl <| .ib 1 <| .g <| .r 1 <| .it ((i : Int) + 1) <| .r 1 <| .d <| aq (i + 1, W) _ _ ⟨by kernel_rfl, by kernel_rfl, by kernel_rfl, by kernel_rfl, by kernel_rfl, trivial⟩ ⟨C, J, (by omega), (by assumption), (by exact InsInv.exit0 (by assumption) (by assumption))⟩ (by (simp only []; omega))
theorem c_pdqsort {w : World} {F : Nat → Prop} {r n c : Nat} {xs0 : List Pst} {z : Int} (ho : Own w r 130 F n c xs0) (hn : n ≤ 12) : Calls Tryz.prog 159 [.slice (some ⟨r, 0, none⟩) n c, .int .i64 0, .int .i64 (n : Int), .int .i64 z, .func (.func 126) #[] #[]].toArray w (rets fun rv w' => rv = .tuple #[] ∧ ∃ zs, zs.Perm xs0 ∧ zs.Pairwise Le ∧ Own w' r 130 F n c zs ∧ Chg (one r) w w') := by
 refine goT Tryz.func159 ?_
 replace ho := ho.toNin; have hnl := ho.len; have hnm := ho.max
 refine .s <| .g <| .r 1 <| .d <| .s <| .g <| .r 1 <| .d <| .b 0 <| T.loop (X := Unit) () (fun _ => [(0, vS r n c), (1, vI 0), (2, vI (n : Int)), (3, vI z), (4, .func (.func 126) #[] #[]), (10, .bool true), (11, .bool true)]) (fun _ w_ => w_ = w) (fun _ => 0) (by kernel_rfl) ⟨by kernel_rfl, by kernel_rfl, by kernel_rfl, by kernel_rfl, by kernel_rfl, by kernel_rfl, by kernel_rfl, trivial⟩ rfl ?_
 rintro u_ e_ ab hw_ hl_; clear hl_; rw [hw_]; clear hw_
 refine .b 1 <| .s <| .g <| .r 2 <| .it ((n : Int) - 0) <| .r 1 <| .d <| .s <| .s <| .g <| .r 1 <| .bp ((n : Int) - 0 ≤ 12) (fun E => ?_) (fun E => absurd (show False by omega) id)
 refine .d <| .ct <| .s <| .g <| .r 4 <| .cl (c_insertionSort ho) ?_
 rintro ac Z ⟨rfl, aa, J, O, V, C⟩
 have W : Chg (one r) w Z := Chg.stepO (Chg.refl (one r) w) C (Cov.mk1 w r)
 clear C
 exact .d <| T.ret0 (by kernel_rfl) Tryz.func159 Tryz.results159 ⟨rfl, _, J, O, V.ofNin, W⟩
theorem c_bits_Len {w : World} {n : Nat} (h : n ≤ 1000) : Calls Tryz.prog 160 [.int .u64 (n : Int)].toArray w (rets fun rv w' => ∃ z : Int, rv = .int .i64 z ∧ Ext w w') := by
 refine (bits_Len (n : Int) w (by omega) (by omega)).mono ?_
 rintro e w' ⟨rfl, rfl⟩
 exact ⟨_, rfl, _, rfl, Ext.refl _⟩
theorem c_SortFunc_posts {w : World} {F : Nat → Prop} {r n c : Nat} {xs0 : List Pst} (ho : Own w r 130 F n c xs0) (hn : n ≤ 12) : Calls Tryz.prog 125 [.slice (some ⟨r, 0, none⟩) n c, .func (.func 126) #[] #[]].toArray w (rets fun rv w' => rv = .tuple #[] ∧ ∃ zs, zs.Perm xs0 ∧ zs.Pairwise Le ∧ Own w' r 130 F n c zs ∧ Chg (one r) w w') := by
 refine goT Tryz.func125 ?_
 replace ho := ho.toNin; have hnl := ho.len; have hnm := ho.max
 refine .s <| .g <| .r 3 <| .d <| .g <| .r 3 <| RG.eqv (v := .int .u64 (n : Int)) (v' := .int .u64 (IntKind.u64.wrap (n : Int))) (by kernel_rfl) (by rw [IntWalk.u64_in _ (by omega)]) <| .cl (c_bits_Len (n := n) (by omega)) ?_
 rintro ac Z ⟨aa, rfl, C⟩
 replace ho := (se [r] C).g1 ho
 have E : Chg (one r) w Z := Chg.stepN (Chg.refl (one r) w) C
 clear C
 refine .r 1 <| .cl (c_pdqsort ho (by omega) (z := aa)) ?_
 rintro ae af ⟨rfl, ab, O, V, W, J⟩
 replace E := (s1 J).g1 E
 clear J
 exact .d <| T.fall0 Tryz.func125 Tryz.results125 ⟨rfl, _, O, V, W.ofNin, E⟩
end Go.Proofs.YtfnpaglcnmcnbaaGreat
namespace Go.Proofs.YtfnpaglcnmcnbaaGreat
structure RepP (xs : List Pst) (L : Tag → List Int) : Prop where
 nd : (xs.map Pst.tag).Nodup
 el : ∀ x ∈ xs, x.ids = L x.tag ∧ x.ids ≠ []
 all : ∀ t, L t ≠ [] → ∃ x ∈ xs, x.tag = t
theorem RepP.add {xs : List Pst} {L : Tag → List Int} (h : RepP xs L) (k : Int) (t : Tag) : RepP (addT k xs t) (fun u => L u ++ (if u = t then [k] else [])) := by
 rcases idxP_spec t xs 0 with ⟨h1, h2⟩ | ⟨h1, h2, x, h3, h4⟩
 ·have hn : idxP t 0 xs < 0 := by omega
  have hL : L t = [] := by
   by_cases he : L t = []
   ·exact he
   ·obtain ⟨x, hx, hxt⟩ := h.all t he
    exact absurd hxt (h2 x hx)
  rw [addT_new hn]
  refine ⟨?_, fun x hx => ?_, fun u hu => ?_⟩
  ·rw [List.map_append]
   refine List.nodup_append.2 ⟨h.nd, by simp, fun a ha b hb => ?_⟩
   simp at hb
   subst hb
   obtain ⟨x, hx, rfl⟩ := List.mem_map.1 ha
   exact h2 x hx
  ·rcases List.mem_append.1 hx with hx | hx
   ·have := h.el x hx
    have hne := h2 x hx
    rw [if_neg hne, List.append_nil]
    exact this
   ·simp at hx
    subst hx
    simp [hL]
  ·by_cases hut : u = t
   ·exact ⟨⟨t, [k]⟩, by simp, hut.symm⟩
   ·rw [if_neg hut, List.append_nil] at hu
    obtain ⟨x, hx, hxu⟩ := h.all u hu
    exact ⟨x, by simp [hx], hxu⟩
 ·have hn : ¬ idxP t 0 xs < 0 := by omega
  rw [Nat.sub_zero] at h3
  rw [addT_old hn h3]
  generalize (idxP t 0 xs).toNat = i at h3
  obtain ⟨hil, hie⟩ := List.getElem?_eq_some_iff.1 h3
  have hmap : (xs.set i ⟨x.tag, x.ids ++ [k]⟩).map Pst.tag = xs.map Pst.tag := by
   rw [List.map_set]
   have h5 : (xs.map Pst.tag)[i]'(by simpa using hil) = x.tag := by simp [hie]
   have h6 := List.set_getElem_self (show i < (xs.map Pst.tag).length by simpa using hil)
   rw [h5] at h6
   exact h6
  refine ⟨by rw [hmap]; exact h.nd, fun y hy => ?_, fun u hu => ?_⟩
  ·obtain ⟨j, hj, hjy⟩ := List.mem_iff_getElem.1 hy
   rw [List.getElem_set] at hjy
   have hj2 : j < xs.length := by simpa using hj
   split at hjy
   ·subst hjy
    have := h.el x (List.mem_of_getElem? h3)
    simp only
    rw [if_pos h4, this.1]
    exact ⟨rfl, by simp⟩
   ·rename_i hij
    have hym : y ∈ xs := hjy ▸ List.getElem_mem hj2
    have hne : ¬ y.tag = t := fun e => hij (by
     have h5 : (xs.map Pst.tag)[i]'(by simpa using hil) = (xs.map Pst.tag)[j]'(by simpa using hj2) := by simp [hie, hjy, h4, e]
     exact (List.getElem_inj (h₀ := by simpa using hil) (h₁ := by simpa using hj2) h.nd).1 h5)
    rw [if_neg hne, List.append_nil]
    exact h.el y hym
  ·have key : ∃ y ∈ xs, y.tag = u := by
    by_cases hut : u = t
    ·exact ⟨x, List.mem_of_getElem? h3, h4.trans hut.symm⟩
    ·rw [if_neg hut, List.append_nil] at hu
     exact h.all u hu
   obtain ⟨y, hy, hyu⟩ := key
   have hm : u ∈ (xs.set i ⟨x.tag, x.ids ++ [k]⟩).map Pst.tag := by rw [hmap]; exact List.mem_map.2 ⟨y, hy, hyu⟩
   obtain ⟨z, hz, hzu⟩ := List.mem_map.1 hm
   exact ⟨z, hz, hzu⟩
theorem RepP.congr {xs : List Pst} {L L' : Tag → List Int} (h : RepP xs L) (e : ∀ t, L t = L' t) : RepP xs L' := by
 have : L = L' := funext e
 rw [← this]; exact h
theorem RepP.name (k : Int) : ∀ (n : List Tag) (xs : List Pst) (L : Tag → List Int), n.Nodup → RepP xs L → RepP (n.foldl (addT k) xs) (fun u => L u ++ (if has n u then [k] else [])) := by
 intro n
 induction n with
 | nil => intro xs L _ h; exact h.congr (fun t => by simp [has])
 | cons t ts ih =>
   intro xs L hn h
   rw [List.nodup_cons] at hn
   refine (ih _ _ hn.2 (h.add k t)).congr (fun u => ?_)
   rw [List.append_assoc]
   congr 1
   by_cases hu : u = t
   ·subst hu
    have : has ts u = false := by
     unfold has
     rw [List.any_eq_false]
     intro y hy e
     exact hn.1 (by rw [← eq_of_beq e]; exact hy)
    rw [this]
    simp [has]
   ·have : (t == u) = false := by rw [beq_eq_false_iff_ne]; exact fun e => hu e.symm
    simp only [if_neg hu, List.nil_append, has, List.any_cons, this, Bool.false_or]
    rfl
theorem RepP.bld : ∀ (ns : List (List Tag)) (i : Nat) (xs : List Pst) (L : Tag → List Int), (∀ n ∈ ns, n.Nodup) → RepP xs L → RepP (bldF i xs ns) (fun u => L u ++ idsF u i ns) := by
 intro ns
 induction ns with
 | nil => intro i xs L _ h; exact h.congr (fun t => by simp [idsF])
 | cons n ns ih =>
   intro i xs L hn h
   refine (ih (i + 1) _ _ (fun m hm => hn m (by simp [hm])) (RepP.name _ n xs L (hn n (by simp)) h)).congr (fun u => ?_)
   rw [List.append_assoc, idsF]
theorem RepP.all0 {names : List (List Tag)} (h : NmI names) : RepP (bldF 0 [] names) (ids names) :=
 (RepP.bld names 0 [] (fun _ => []) (fun n hn => (nameOk_nodup (h.ok n hn)).1) ⟨by simp, by simp, by simp⟩).congr (fun u => by unfold ids; simp)
theorem ids_ne {names : List (List Tag)} {t : Tag} (h : ids names t ≠ []) : ∃ n ∈ names, t ∈ n := by
 unfold ids at h
 have : ∀ (ns : List (List Tag)) (i : Nat), idsF t i ns ≠ [] → ∃ n ∈ ns, t ∈ n := by
  intro ns
  induction ns with
  | nil => intro i h; simp [idsF] at h
  | cons n ns ih =>
    intro i h
    rw [idsF] at h
    by_cases hb : has n t = true
    ·refine ⟨n, by simp, ?_⟩
     unfold has at hb
     rw [List.any_eq_true] at hb
     obtain ⟨y, hy, e⟩ := hb
     rw [← eq_of_beq e]; exact hy
    ·rw [if_neg hb, List.nil_append] at h
     obtain ⟨m, hm, ht⟩ := ih (i + 1) h
     exact ⟨m, by simp [hm], ht⟩
 exact this names 0 h
theorem nodup_len {α : Type} [DecidableEq α] : ∀ (l U : List α), l.Nodup → (∀ x ∈ l, x ∈ U) → l.length ≤ U.length := by
 intro l
 induction l with
 | nil => intro U _ _; simp
 | cons a l ih =>
   intro U hn hU
   rw [List.nodup_cons] at hn
   have ha := hU a (by simp)
   have := ih (U.erase a) hn.2 (fun x hx => (List.mem_erase_of_ne (fun e : x = a => hn.1 (by rw [← e]; exact hx))).2 (hU x (by simp [hx])))
   rw [List.length_erase_of_mem ha] at this
   have := List.length_pos_of_mem ha
   simp only [List.length_cons]; omega
def tags9 : List Tag := [⟨[97], [112]⟩, ⟨[97], [113]⟩, ⟨[97], [122]⟩, ⟨[98], [112]⟩, ⟨[98], [113]⟩, ⟨[98], [122]⟩, ⟨[99], [112]⟩, ⟨[99], [113]⟩, ⟨[99], [122]⟩]
theorem tags9_mem {t : Tag} (h : tagOk t = true) (hd : TagD t) : t ∈ tags9 := by
 obtain ⟨k, v⟩ := t
 obtain ⟨h1, h2⟩ := hd
 simp only [tagOk, Bool.and_eq_true] at h
 simp only [List.mem_cons, List.not_mem_nil, or_false] at h1 h2
 have hv := one1_len h.2
 have h3 : v = [112] ∨ v = [113] ∨ v = [122] := by
  rcases h2 with rfl | rfl | rfl | rfl | rfl | rfl
  ·exact .inl rfl
  ·exact .inr (.inl rfl)
  ·exact .inr (.inr rfl)
  ·simp at hv
  ·have := h.2; simp [one1, inR] at this
  ·simp at hv
 rcases h1 with rfl | rfl | rfl <;> rcases h3 with rfl | rfl | rfl <;> simp [tags9]
theorem bld_le {names : List (List Tag)} (h : NmI names) (h2 : NsD names) : (bldF 0 [] names).length ≤ 12 := by
 have hr := RepP.all0 h
 have := nodup_len ((bldF 0 [] names).map Pst.tag) tags9 hr.nd (fun t ht => by
  obtain ⟨x, hx, rfl⟩ := List.mem_map.1 ht
  have g := hr.el x hx
  obtain ⟨n, hn, ht⟩ := ids_ne (by rw [← g.1]; exact g.2 : ids names x.tag ≠ [])
  have ho := h.ok n hn
  simp only [nameOk, Bool.and_eq_true] at ho
  exact tags9_mem (nameF_tags n none ho.1 _ ht) ((h2 n hn).2 _ ht))
 rw [List.length_map] at this
 have h9 : tags9.length = 9 := rfl
 omega
theorem sorted_ext {α : Type} {R : α → α → Prop} (hirr : ∀ a, ¬ R a a) (htr : ∀ a b c, R a b → R b c → R a c) : ∀ (xs ys : List α), xs.Pairwise R → ys.Pairwise R → (∀ a, a ∈ xs ↔ a ∈ ys) → xs = ys := by
 intro xs
 induction xs with
 | nil =>
   intro ys _ _ h
   cases ys with
   | nil => rfl
   | cons y ys => exact absurd ((h y).2 (by simp)) (by simp)
 | cons x xs ih =>
   intro ys hx hy h
   cases ys with
   | nil => exact absurd ((h x).1 (by simp)) (by simp)
   | cons y ys =>
     rw [List.pairwise_cons] at hx hy
     have hxy : x = y := by
      have h1 := (h x).1 (by simp)
      have h2 := (h y).2 (by simp)
      rcases List.mem_cons.1 h1 with h1 | h1
      ·exact h1
      ·rcases List.mem_cons.1 h2 with h2 | h2
       ·exact h2.symm
       ·exact absurd (htr _ _ _ (hy.1 x h1) (hx.1 y h2)) (hirr y)
     subst hxy
     congr 1
     refine ih ys hx.2 hy.2 (fun a => ⟨fun ha => ?_, fun ha => ?_⟩)
     ·rcases List.mem_cons.1 ((h a).1 (by simp [ha])) with rfl | h1
      ·exact absurd (hx.1 _ ha) (hirr _)
      ·exact h1
     ·rcases List.mem_cons.1 ((h a).2 (by simp [ha])) with rfl | h1
      ·exact absurd (hy.1 _ ha) (hirr _)
      ·exact h1
theorem sort_idx {names : List (List Tag)} (h : NmI names) (_h2 : NsD names) {xs zs : List Pst} (hp : zs.Perm xs) (hs : zs.Pairwise Le) (he : xs = bldF 0 [] names) : (⟨names, zs⟩ : Idx) = idxOf names := by
 have hr := RepP.all0 h
 rw [← he] at hr
 unfold idxOf
 congr 1
 have hnd : (zs.map Pst.tag).Nodup := (hp.map Pst.tag).nodup_iff.2 hr.nd
 have hz : zs.Pairwise (fun a b => tagLt a.tag b.tag = true) := by
  rw [List.pairwise_iff_getElem] at hs ⊢
  intro i j hi hj hij
  have h1 := hs i j hi hj hij
  unfold Le at h1
  rw [cmpP_lt] at h1
  cases h3 : tagLt zs[i].tag zs[j].tag with
  | true => rfl
  | false =>
    have e := tagLt_tri h3 (by simpa using h1)
    have h5 : (zs.map Pst.tag)[i]'(by simpa using hi) = (zs.map Pst.tag)[j]'(by simpa using hj) := by simpa using e
    have := (List.getElem_inj (h₀ := by simpa using hi) (h₁ := by simpa using hj) hnd).1 h5
    omega
 refine sorted_ext (R := fun (a b : Pst) => tagLt a.tag b.tag = true) (fun a ha => by rw [tagLt_irr] at ha; cases ha) (fun a b c => tagLt_trans) zs (postsOf names) hz (posts_sorted names) (fun p => ⟨fun hpz => ?_, fun hpp => ?_⟩)
 ·have g := hr.el p (hp.mem_iff.1 hpz)
  obtain ⟨n, hn, ht⟩ := ids_ne (by rw [← g.1]; exact g.2 : ids names p.tag ≠ [])
  have := posts_in (names := names) ((nameOk_nodup (h.ok n hn)).2 _ ht) (by rw [← g.1]; exact List.length_pos_iff.2 g.2)
  rw [← g.1] at this
  exact this
 ·obtain ⟨g1, g2, _⟩ := posts_mem hpp
  obtain ⟨x, hx, hxt⟩ := hr.all p.tag (by rw [← g1]; exact List.length_pos_iff.1 g2)
  have g := hr.el x hx
  have : x = p := (pst_eq x p).2 ⟨hxt, by rw [g.1, hxt, g1]⟩
  exact this ▸ hp.mem_iff.2 hx
end Go.Proofs.YtfnpaglcnmcnbaaGreat
namespace Go.Proofs.YtfnpaglcnmcnbaaGreat
set_option maxRecDepth 100000
set_option maxHeartbeats 4000000
theorem c_impl_indexOf (names : List (List Tag)) {w : World} {F : Nat → Prop} {a1 : Option Addr} {n1 c1 : Nat} (h1 : RepS w F a1 n1 c1 names) (p0 : NmI names) (p1 : NsD names) : Calls Tryz.prog 73 [.slice a1 n1 c1].toArray w (rets fun rv w' => VS (ge w.heap.size) w' (idxOf names : Idx) rv ∧ Ext w w') := by
 refine goT Tryz.func73 ?_
 obtain ⟨rfl, dq, h1⟩ := h1.tp
 refine .s <| .g <| .np 26 [.slice none 0 0, .slice none 0 0] fun O cC bm bn av cD => ?_
 have cE := gb_new bm (Nat.le_refl _)
 replace h1 := (sn [] bn bm).g1 h1
 have ag := bn
 clear bn cD bm
 refine .d <| .s <| .g <| .r 1 <| .cl (c_impl_cloneNames names h1.ta (by have := p0.len; omega) (fun n hn => by have := (nameOk_sz (p0.ok n hn)).1; omega) (w := cC) (F := all)) ?_
 rintro dO W ⟨⟨bk, bI, bJ, rfl, aw, bd⟩, bO⟩
 have bP := al1 av.lt
 have cF : Gb w.heap.size cC.heap.size := ag.size
 have dr := nb_ge bd av.lt
 have cG := gb_ge bd ag.size
 replace ⟨h1, av, ag⟩ := (sz [O] bO bd).g3 h1 av ag
 clear bO bd
 replace aw := Own.take (s0 := w.heap.size) (M := [O]) aw bP cF
 have dt := aw.len; have du := aw.max
 clear bP
 have ak := aw.sl cG
 replace h1 := (sd W [bk, O] bk).g1 h1
 have bW : w.heap.size ≤ W.heap.size := ag.size
 replace ak : RepS W (nin (GN w.heap.size W.heap.size O) [O]) _ _ _ _ := ak.toGN.weak (fun b _ h => ⟨h, by simp; exact h.2.2⟩)
 have h1c := h1.toLow; have hEc := ag; have hb2c := av
 refine .ns 0 130 [] fun aB di bo bq cH cI => ?_
 have cJ : Cov nil W aB := cov_new bo (Nat.le_refl _)
 replace ak := (sn [O] bq bo).g1 ak
 have ah := bq
 clear bq cI bo
 have ai : Own (α := Pst) di aB 130 (nin (ge w.heap.size) [aB, O]) 0 0 [] := Own.nil' cH
 refine .r 1 <| .np 26 [.slice none 0 0, .slice none 0 0] fun V dP bg bQ cK cL => ?_
 have cM := nb_new bg ai.lt
 have cN := ah.cn bg
 replace ⟨ak, ai, ah⟩ := (sn [aB, O] bQ bg).g3 ak ai ah
 clear bQ cL bg
 refine .sc [vS bk bI bJ, vS aB 0 0] cK fun dQ bR cO cP => ?_
 replace ⟨ak, ai, ah⟩ := (so [V, aB, O] bR).g3 ak ai ah
 clear bR cP
 refine .d <| .s <| .s <| .g <| .r 3 <| .d <| .b 0 ?_
 have hix := IX.new0 (tX := 26) (tP := 130) (tI := 3) (s0 := w.heap.size) (s1 := W.heap.size) bW (GN.lt (b2 := O)) ak.w1 cO ai cM (Cov.ge cN) (Cov.ge cJ)
 have hE := ah
 refine T.loop (X := Nat × Nat × Nat × List RP × List Pst × List Nat) (aB, 0, 0, [], [], []) (fun (r, c, k, ys, xs, rs) => [(2, .pointer (some ⟨O, 0, none⟩)), (3, .pointer (some ⟨V, 0, none⟩)), (13, .slice a1 names.length c1), (14, vI (names.length : Int)), (15, vI (k : Int))]) (fun (r, c, k, ys, xs, rs) w_ => Ext W w_ ∧ IX 26 130 3 w.heap.size W.heap.size (GN w.heap.size W.heap.size O) w_ V r c (some ⟨bk, 0, none⟩) bI bJ names ys xs rs ∧ k ≤ names.length ∧ xs.length ≤ 3 * k ∧ (∀ x ∈ xs, x.ids.length ≤ 3 * k) ∧ bldF k xs (names.drop k) = bldF 0 [] names) (fun (r, c, k, ys, xs, rs) => names.length - k) (by kernel_rfl) ⟨by kernel_rfl, by kernel_rfl, by kernel_rfl, by kernel_rfl, by kernel_rfl, trivial⟩ ⟨hE, hix, by omega, by simp, by simp, rfl⟩ ?_
 clear hix hE
 rintro ⟨r, c, k, ys, xs, rs⟩ e1_ dR ⟨hE, hix, hk, hxl, hil, hbl⟩ bK
 have hnm := h1c.ext hE
 refine .s <| .g <| .bp ((k : Int) < (names.length : Int)) (fun cQ => ?_) (fun cQ => ?_)
 ·refine .d <| .s <| .ct <| .sk <| .s <| .b 1 <| .s <| .g <| .r 1 ?_
  have cR : k < names.length := (by omega)
  refine .ix k 1 hnm cR ?_
  obtain ⟨ae, ax⟩ : ∃ y, names[k]? = some y := ⟨_, List.getElem?_eq_getElem (by omega)⟩
  have dv := drop_at ax; have dg := List.mem_of_getElem? ax
  obtain ⟨_, ⟨dj, dS, dk, rfl, bX⟩, cS⟩ := hnm.elem k ae ax
  have cT := bX.len
  subst cT
  have dw := bX.max
  refine .lh 0 cS <| .r 2 <| .d <| .s <| .g <| .r 3 <| .d <| .b 2 ?_
  have hEA := hE; have dT := (nameOk_sz (p0.ok ae (List.mem_of_getElem? ax))).1; have hnl := p0.len
  refine T.loop (X := Nat × Nat × Nat × List RP × List Pst × List Nat) (r, c, 0, ys, xs, rs) (fun (rq, cq, j, J, E, aa) => [(2, .pointer (some ⟨O, 0, none⟩)), (3, .pointer (some ⟨V, 0, none⟩)), (4, vI (k : Int)), (13, .slice a1 names.length c1), (14, vI (names.length : Int)), (15, vI (k : Int)), (20, .slice dj ae.length dk), (21, vI (ae.length : Int)), (22, vI (j : Int))]) (fun (rq, cq, j, J, E, aa) w_ => Ext W w_ ∧ IX 26 130 3 w.heap.size W.heap.size (GN w.heap.size W.heap.size O) w_ V rq cq (some ⟨bk, 0, none⟩) bI bJ names J E aa ∧ j ≤ ae.length ∧ E.length ≤ 3 * k + j ∧ (∀ x ∈ E, x.ids.length ≤ 3 * k + j) ∧ (ae.drop j).foldl (addT ((k : Int) + 1)) E = ae.foldl (addT ((k : Int) + 1)) xs) (fun (rq, cq, j, J, E, aa) => ae.length - j) (by kernel_rfl) ⟨by kernel_rfl, by kernel_rfl, by kernel_rfl, by kernel_rfl, by kernel_rfl, by kernel_rfl, by kernel_rfl, by kernel_rfl, by kernel_rfl, trivial⟩ ⟨hE, hix, by omega, by omega, fun x hx => by have := hil x hx; omega, rfl⟩ ?_
  clear hix hE
  rintro ⟨rq, cq, j, J, E, aa⟩ e2_ dU ⟨hE, hix, hj, bS, af, hfl⟩ bh
  have cU := bX.via hEA hE
  refine .s <| .g <| .bp ((j : Int) < (ae.length : Int)) (fun cV => ?_) (fun cV => .d <| .s <| .cf <| .x 2 rfl <| .ib 1 <| .g <| .it ((k : Int) + 1) <| .r 1 <| .d <| bK (rq, cq, k + 1, J, E, aa) _ _ ⟨by kernel_rfl, by kernel_rfl, by kernel_rfl, by kernel_rfl, by kernel_rfl, trivial⟩ ⟨hE, hix, by omega, by omega, fun x hx => by have := af x hx; omega, bldStep hbl (drop_at ax) (foldEnd hfl (by omega))⟩ (by (simp only []; omega)))
  refine .d <| .s <| .ct <| .sk <| .s <| .b 3 <| .s <| .g ?_
  have cW : j < ae.length := (by omega)
  refine .ix j 2 cU cW ?_
  obtain ⟨C, ay⟩ : ∃ y, ae[j]? = some y := ⟨_, List.getElem?_eq_getElem (by omega)⟩
  have dx := drop_at ay; have dh := List.mem_of_getElem? ay
  obtain ⟨_, rfl, cX⟩ := cU.elem j C ay
  refine .lg 0 cX <| .np 112 [.string (bs []), .string (bs [])] fun cY dV br bt cZ bY => ?_
  have bZ : ∀ q_ ∈ V :: rq :: aa, Nb cY q_ := fun q_ hq_ => nb_new br (hix.lt q_ hq_)
  have bu : W.heap.size ≤ cY := Nat.le_trans hE.size (Nat.le_of_eq (Eq.symm br))
  replace hix := hix.ext bt
  replace hE := hE.trans bt
  clear bt bY br
  refine .sc [vT C.key, vT C.val] cZ fun c7 aC al b0 => ?_
  replace hix := hix.one aC bZ bu
  replace hE := Chg.stepO hE aC ⟨.inr bu⟩
  clear aC b0
  refine .d <| .s <| .g <| .r 1 <| .lb hix.box <| .r 1 <| .cl (c_IndexFunc_posts E C (hix.rep.weak (F' := all) (fun _ _ _ => trivial)) al (w := c7) (F := all)) ?_
  rintro dy bv ⟨rfl, am⟩
  replace al := al.ext am
  replace hix := hix.ext am
  replace hE := hE.trans am
  clear am
  refine .r 1 <| .d <| .s <| .s <| .g <| .r 1 <| .bp (idxP C 0 E < 0) (fun b6 => ?_) (fun b6 => ?_)
  ·refine .d <| .ct <| .s <| .g <| .r 1 <| .lb hix.box <| .r 2 <| .d <| .g <| .r 1 <| .lb hix.box <| .ln al <| .r 1 <| .ns 1 130 [vT C.key, vT C.val, .slice none 0 0] fun aj dz aD aE bw b7 => ?_
   have bz : ∀ q_ ∈ V :: rq :: aa, Nb aj q_ := fun q_ hq_ => nb_new aD (hix.lt q_ hq_)
   have b8 : W.heap.size ≤ aj := Nat.le_trans hE.size (Nat.le_of_eq (Eq.symm aD))
   replace hix := hix.ext aE
   replace hE := hE.trans aE
   clear aE b7 aD
   have bT := hix.lx; have c8 := hix.lr; have hvl_ := bw.lt; have hge_r := hix.new rq (.tail _ (.head _)); have b9 := hix.new V (.head _); have hEs := hE.size
   refine RG.append1 (T := 24) (ty := 24) (y := (⟨C.key, C.val, none, 0, 0⟩ : RP)) hix.own bw (by kernel_rfl) (by kernel_rfl) rfl ⟨trivial, bz rq (.tail _ (.head _))⟩ (by omega) fun Z bU dA cd bL aF => ?_
   replace hE := Chg.stepO hE aF ⟨.inr hge_r⟩
   refine .r 1 <| .ss 1 (vS Z (J.length + 1) bU) (hix.box.chg aF (Nb.one hix.ne)) fun bA aG ce cg => ?_
   replace hix := hix.push (t := ⟨C.key, C.val⟩) (vb := aj) hEs aF cd bL bz b8 hvl_ aG ce
   replace hE := Chg.stepO hE aG ⟨.inr b9⟩
   clear aG cg
   refine .d ?_
   obtain ⟨xi, hxi⟩ : ∃ q, (E ++ [(⟨⟨C.key, C.val⟩, []⟩ : Pst)])[J.length]? = some q := ⟨_, List.getElem?_eq_getElem (by (simp; omega))⟩
   obtain ⟨yi, hyi⟩ : ∃ q, (J ++ [(⟨C.key, C.val, none, 0, 0⟩ : RP)])[J.length]? = some q := ⟨_, List.getElem?_eq_getElem (by (simp; done))⟩
   obtain ⟨ri, hri⟩ : ∃ q, (aa ++ [aj])[J.length]? = some q := ⟨_, List.getElem?_eq_getElem (by (simp; omega))⟩
   have hiy : J.length < (J ++ [(⟨C.key, C.val, none, 0, 0⟩ : RP)]).length := (List.getElem?_eq_some_iff.1 hyi).1
   have hl3_ : V < bA.heap.size := hix.lt _ (.head _); have hlr_ : Z < bA.heap.size := hix.lt _ (.tail _ (.head _)); have hn3_ := hix.ne3 hri; have hnr_ := hix.ner hri
   refine .gd (mtb [ri] bA.heap.size) 13 fun c9 aH => ?_
   replace hix := hix.ext aH
   replace hE := hE.trans aH
   clear aH
   refine .r [0] <| .lb 1 hix.box (nS_of (all_cons hn3_ all_nil) hl3_) <| .r [2, 3] <| .lb 4 hix.box (nS_of (all_cons hn3_ all_nil) hl3_) <| .r [5] ?_
   have ci : J.length < (J ++ [(⟨C.key, C.val, none, 0, 0⟩ : RP)]).length := (by omega)
   refine GA.idx (i := 6) (b := Z) (o := 0) J.length (len := (J ++ [(⟨C.key, C.val, none, 0, 0⟩ : RP)]).length) (z := (J.length : Int)) (sz := 3) (by kernel_rfl) (by omega) ci rfl <| .r [7] ?_
   obtain ⟨_, rfl, aI⟩ := hix.own.elem J.length yi hyi
   replace aI : Has c9 ⟨Z, 0 + J.length * Rep.sz RP, none⟩ [vT yi.key, vT yi.val, .slice yi.a yi.n yi.c] := by rw [Nat.zero_add]; exact aI
   refine .lh 8 2 aI (nS_of (all_cons hnr_ all_nil) hlr_) <| .r [9] <| GA.int (i := 10) ((k : Int) + 1) (by kernel_rfl) (by omega) <| .go 11 <| .ns 1 3 [vI ((k : Int) + 1)] fun dB aJ => ?_
   replace hix := hix.ext aJ
   replace hE := hE.trans aJ
   clear aJ
   intro bB dC aK aL aM cj
   have ck : ∀ q_ ∈ V :: Z :: (aa ++ [aj]), Nb bB q_ := fun q_ hq_ => nb_new aK (hix.lt q_ hq_)
   have dm : W.heap.size ≤ bB := Nat.le_trans hE.size (Nat.le_of_eq (Eq.symm aK))
   replace hix := hix.ext aL
   replace hE := hE.trans aL
   clear aL cj aK
   refine .go 12 <| GE.append (T := 68) (ty := 68) (args := [.slice yi.a yi.n yi.c, vS bB 1 1]) (by kernel_rfl) fun dD ao => ?_
   replace aM := aM.ext ao
   replace hix := hix.ext ao
   replace hE := hE.trans ao
   clear ao
   have hyn := (hix.el J.length xi yi ri hxi hyi hri).2.2.n; have hyl : xi.ids.length ≤ 1000 := by have hm := List.mem_of_getElem? hxi; (rcases List.mem_append.1 hm with hm | hm; (have := af _ hm; omega); (simp at hm; subst hm; simp))
   have bC := hE.size; have hge_ri := hix.new ri (IX.mi hri)
   obtain ⟨az, bi, dE, bD, aN, bM, ab⟩ := IdsO.app (P := Tryz.prog) (T := 68) (ty := 68) (hix.el J.length xi yi ri hxi hyi hri).2.2 (by kernel_rfl) aM (ck ri (IX.mi hri)) (by omega)
   refine ⟨_, _, bD, Chg.toS ab (.inl (.head _)), ?_⟩
   replace hE := Chg.stepO hE ab ⟨.inr hge_ri⟩
   refine .d fun da aq => ?_
   replace ab := Chg.trans ab (Ext.chg aq)
   replace aN := aN.ext aq
   replace hE := hE.trans aq
   clear aq
   have cm : J.length < (J ++ [(⟨C.key, C.val, none, 0, 0⟩ : RP)]).length := (by omega)
   refine RG.idx (b := Z) (o := 0) J.length (len := (J ++ [(⟨C.key, C.val, none, 0, 0⟩ : RP)]).length) (i := (J.length : Int)) (sz := 3) (by kernel_rfl) (by omega) cm rfl <| .r 1 ?_
   have bE := ownF flat_rp hix.own ab (Nb.one (hix.ner hri))
   obtain ⟨_, rfl, aO⟩ := bE.elem J.length yi hyi
   replace aO : Has da ⟨Z, 0 + J.length * Rep.sz RP, none⟩ [vT yi.key, vT yi.val, .slice yi.a yi.n yi.c] := by rw [Nat.zero_add]; exact aO
   refine RG.storeO (t' := 68) (i := J.length) (k := 2) (v := vS az (yi.n + 1) bi) (cs := [vT yi.key, vT yi.val, .slice yi.a yi.n yi.c]) (⟨yi.key, yi.val, some ⟨az, 0, none⟩, yi.n + 1, bi⟩ : RP) bE hyi aO (by kernel_rfl) (by kernel_rfl) (by kernel_rfl) rfl fun dF co aP cp => ?_
   have hge_r2 := hix.new Z (.tail _ (.head _))
   replace hix := hix.upd (i := J.length) (z := (k : Int) + 1) bC hxi hyi hri ab aN bM aP (y' := (⟨yi.key, yi.val, some ⟨az, 0, none⟩, yi.n + 1, bi⟩ : RP)) rfl co
   replace hE := Chg.stepO hE aP ⟨.inr hge_r2⟩
   clear aP cp
   refine .d <| .ib 3 <| .g <| .it ((j : Int) + 1) <| .r 1 <| .d ?_
   have hxN : ((E ++ [(⟨⟨C.key, C.val⟩, []⟩ : Pst)]).set J.length ⟨xi.tag, xi.ids ++ [(k : Int) + 1]⟩) = addT ((k : Int) + 1) E C := (topSet hxi (by rw [← bT])).trans (addT_new (by assumption)).symm
   have hbd := addT_len ((k : Int) + 1) E C (3 * k + j) bS af; rw [← hxN] at hbd
   have hfs := foldStep hfl (drop_at ay); rw [← hxN] at hfs
   exact bh (Z, bU, j + 1, ((J ++ [(⟨C.key, C.val, none, 0, 0⟩ : RP)]).set J.length (⟨yi.key, yi.val, some ⟨az, 0, none⟩, yi.n + 1, bi⟩ : RP)), ((E ++ [(⟨⟨C.key, C.val⟩, []⟩ : Pst)]).set J.length ⟨xi.tag, xi.ids ++ [(k : Int) + 1]⟩), ((aa ++ [aj]).set J.length az)) _ _ ⟨by kernel_rfl, by kernel_rfl, by kernel_rfl, by kernel_rfl, by kernel_rfl, by kernel_rfl, by kernel_rfl, by kernel_rfl, by kernel_rfl, trivial⟩ ⟨hE, hix, by omega, by have := hbd.1; omega, fun x hx => by have := hbd.2 x hx; omega, hfs⟩ (by (simp only []; omega))
  refine .d <| .cf <| .sk ?_
  have bT := hix.lx; have c8 := hix.lr; have hib := idxP_lt (t := C) (xs := E) (by assumption)
  obtain ⟨xi, hxi⟩ : ∃ q, E[(idxP C 0 E).toNat]? = some q := ⟨_, List.getElem?_eq_getElem (by omega)⟩
  obtain ⟨yi, hyi⟩ : ∃ q, J[(idxP C 0 E).toNat]? = some q := ⟨_, List.getElem?_eq_getElem (by omega)⟩
  obtain ⟨ri, hri⟩ : ∃ q, aa[(idxP C 0 E).toNat]? = some q := ⟨_, List.getElem?_eq_getElem (by omega)⟩
  have hiy : (idxP C 0 E).toNat < J.length := (List.getElem?_eq_some_iff.1 hyi).1
  have hl3_ : V < bv.heap.size := hix.lt _ (.head _); have hlr_ : rq < bv.heap.size := hix.lt _ (.tail _ (.head _)); have hn3_ := hix.ne3 hri; have hnr_ := hix.ner hri
  refine .gd (mtb [ri] bv.heap.size) 13 fun db aQ => ?_
  replace hix := hix.ext aQ
  replace hE := hE.trans aQ
  clear aQ
  refine .r [0] <| .lb 1 hix.box (nS_of (all_cons hn3_ all_nil) hl3_) <| .r [2, 3] <| .lb 4 hix.box (nS_of (all_cons hn3_ all_nil) hl3_) <| .r [5] ?_
  have cr : (idxP C 0 E).toNat < J.length := (by omega)
  refine GA.idx (i := 6) (b := rq) (o := 0) ((idxP C 0 E).toNat) (len := J.length) (z := idxP C 0 E) (sz := 3) (by kernel_rfl) (by omega) cr rfl <| .r [7] ?_
  obtain ⟨_, rfl, aR⟩ := hix.own.elem ((idxP C 0 E).toNat) yi hyi
  replace aR : Has db ⟨rq, 0 + ((idxP C 0 E).toNat) * Rep.sz RP, none⟩ [vT yi.key, vT yi.val, .slice yi.a yi.n yi.c] := by rw [Nat.zero_add]; exact aR
  refine .lh 8 2 aR (nS_of (all_cons hnr_ all_nil) hlr_) <| .r [9] <| GA.int (i := 10) ((k : Int) + 1) (by kernel_rfl) (by omega) <| .go 11 <| .ns 1 3 [vI ((k : Int) + 1)] fun dG aS => ?_
  replace hix := hix.ext aS
  replace hE := hE.trans aS
  clear aS
  intro bF dH aT aU aV cu
  have cv : ∀ q_ ∈ V :: rq :: aa, Nb bF q_ := fun q_ hq_ => nb_new aT (hix.lt q_ hq_)
  have dp : W.heap.size ≤ bF := Nat.le_trans hE.size (Nat.le_of_eq (Eq.symm aT))
  replace hix := hix.ext aU
  replace hE := hE.trans aU
  clear aU cu aT
  refine .go 12 <| GE.append (T := 68) (ty := 68) (args := [.slice yi.a yi.n yi.c, vS bF 1 1]) (by kernel_rfl) fun dI ar => ?_
  replace aV := aV.ext ar
  replace hix := hix.ext ar
  replace hE := hE.trans ar
  clear ar
  have hyn := (hix.el (idxP C 0 E).toNat xi yi ri hxi hyi hri).2.2.n; have hyl : xi.ids.length ≤ 1000 := by have hm := List.mem_of_getElem? hxi; (have := af _ hm; omega)
  have bC := hE.size; have hge_ri := hix.new ri (IX.mi hri)
  obtain ⟨aA, bj, dJ, bG, aW, bN, ac⟩ := IdsO.app (P := Tryz.prog) (T := 68) (ty := 68) (hix.el (idxP C 0 E).toNat xi yi ri hxi hyi hri).2.2 (by kernel_rfl) aV (cv ri (IX.mi hri)) (by omega)
  refine ⟨_, _, bG, Chg.toS ac (.inl (.head _)), ?_⟩
  replace hE := Chg.stepO hE ac ⟨.inr hge_ri⟩
  refine .d fun dd au => ?_
  replace ac := Chg.trans ac (Ext.chg au)
  replace aW := aW.ext au
  replace hE := hE.trans au
  clear au
  have cw : (idxP C 0 E).toNat < J.length := (by omega)
  refine RG.idx (b := rq) (o := 0) ((idxP C 0 E).toNat) (len := J.length) (i := idxP C 0 E) (sz := 3) (by kernel_rfl) (by omega) cw rfl <| .r 1 ?_
  have bH := ownF flat_rp hix.own ac (Nb.one (hix.ner hri))
  obtain ⟨_, rfl, aX⟩ := bH.elem ((idxP C 0 E).toNat) yi hyi
  replace aX : Has dd ⟨rq, 0 + ((idxP C 0 E).toNat) * Rep.sz RP, none⟩ [vT yi.key, vT yi.val, .slice yi.a yi.n yi.c] := by rw [Nat.zero_add]; exact aX
  refine RG.storeO (t' := 68) (i := ((idxP C 0 E).toNat)) (k := 2) (v := vS aA (yi.n + 1) bj) (cs := [vT yi.key, vT yi.val, .slice yi.a yi.n yi.c]) (⟨yi.key, yi.val, some ⟨aA, 0, none⟩, yi.n + 1, bj⟩ : RP) bH hyi aX (by kernel_rfl) (by kernel_rfl) (by kernel_rfl) rfl fun dK cx aY cy => ?_
  have hge_r2 := hix.new rq (.tail _ (.head _))
  replace hix := hix.upd (i := (idxP C 0 E).toNat) (z := (k : Int) + 1) bC hxi hyi hri ac aW bN aY (y' := (⟨yi.key, yi.val, some ⟨aA, 0, none⟩, yi.n + 1, bj⟩ : RP)) rfl cx
  replace hE := Chg.stepO hE aY ⟨.inr hge_r2⟩
  clear aY cy
  refine .d <| .ib 3 <| .g <| .it ((j : Int) + 1) <| .r 1 <| .d ?_
  have hxN : (E.set ((idxP C 0 E).toNat) ⟨xi.tag, xi.ids ++ [(k : Int) + 1]⟩) = addT ((k : Int) + 1) E C := (addT_old (by assumption) hxi).symm
  have hbd := addT_len ((k : Int) + 1) E C (3 * k + j) bS af; rw [← hxN] at hbd
  have hfs := foldStep hfl (drop_at ay); rw [← hxN] at hfs
  exact bh (rq, cq, j + 1, (J.set ((idxP C 0 E).toNat) (⟨yi.key, yi.val, some ⟨aA, 0, none⟩, yi.n + 1, bj⟩ : RP)), (E.set ((idxP C 0 E).toNat) ⟨xi.tag, xi.ids ++ [(k : Int) + 1]⟩), (aa.set ((idxP C 0 E).toNat) aA)) _ _ ⟨by kernel_rfl, by kernel_rfl, by kernel_rfl, by kernel_rfl, by kernel_rfl, by kernel_rfl, by kernel_rfl, by kernel_rfl, by kernel_rfl, trivial⟩ ⟨hE, hix, by omega, by have := hbd.1; omega, fun x hx => by have := hbd.2 x hx; omega, hfs⟩ (by (simp only []; omega))
 refine .d <| .s <| .cf <| .x 0 rfl <| .s <| .g <| .r 1 ?_
 have hEw := hEc.trans hE; have hb2n := hb2c.ext hE; have hb2l := hb2c.lt; have hoP := hix.done2 hb2l; have hNn := hix.names2; have hb3n := hix.box; have hn3r := hix.ne
 have dL : Nb V O := nb_ge (hix.new _ (.head _)) hb2l; have dM : Nb r O := nb_ge (hix.new _ (.tail _ (.head _))) hb2l
 have dW : Gb w.heap.size V := Nat.le_trans bW (hix.new _ (.head _)); have hgr : Gb w.heap.size r := Nat.le_trans bW (hix.new _ (.tail _ (.head _)))
 have hbe := bldEnd hbl (by omega)
 refine .lb hb3n <| .cl (c_SortFunc_posts hoP (by rw [hix.lx, hbe]; exact bld_le p0 p1)) ?_
 rintro dN de ⟨rfl, cz, hperm_, hsort_, aZ, ba⟩
 replace ⟨hNn, hb3n, hb2n⟩ := (so [V, r, O] ba).g3 hNn hb3n hb2n
 replace hEw : Chg nil w de := Chg.stepO hEw ba ⟨.inr hgr⟩
 clear ba
 refine .d <| .s <| .g <| .ln hb3n <| .sc [vS bk bI bJ, vS r ys.length c] hb2n fun bV bc cA cB => ?_
 replace ⟨hNn, aZ, hb3n⟩ := (so [V, r, O] bc).g3 hNn aZ hb3n
 replace hEw : Chg nil w bV := Chg.stepO hEw bc ⟨.inr cE⟩
 clear bc cB
 refine .d ?_
 have df := aZ.sl hgr
 replace hNn := (sd bV [V, r, O] r).g1 hNn
 exact .rb Tryz.func73 Tryz.results73 cA ⟨(VS.of (y := (⟨names, cz⟩ : Idx)) ⟨_, rfl, ⟨_, _, _, _, _, _, rfl, hNn.w1, df.w1⟩⟩ (by exact sort_idx p0 p1 hperm_ hsort_ hbe)), hEw⟩
end Go.Proofs.YtfnpaglcnmcnbaaGreat
namespace Go.Proofs.YtfnpaglcnmcnbaaGreat
theorem tag1 {t : Tag} (h : tagOk t = true) : ∃ x y, t = ⟨[x], [y]⟩ := by
 obtain ⟨k, v⟩ := t
 simp only [tagOk, Bool.and_eq_true] at h
 have h1 : k.length = 1 := one1_len h.1
 have h2 : v.length = 1 := one1_len h.2
 match k, v, h1, h2 with
 | [x], [y], _, _ => exact ⟨x, y, rfl⟩
theorem textF_inj : ∀ (n m : List Tag) (i : Nat), (∀ t ∈ n, tagOk t = true) → (∀ t ∈ m, tagOk t = true) → textF i n = textF i m → n = m := by
 intro n
 induction n with
 | nil =>
   intro m i _ hm h
   cases m with
   | nil => rfl
   | cons t ts =>
     obtain ⟨x, y, rfl⟩ := tag1 (hm t (by simp))
     simp [textF, text1] at h
 | cons t ts ih =>
   intro m i hn hm h
   obtain ⟨x, y, rfl⟩ := tag1 (hn t (by simp))
   cases m with
   | nil => simp [textF, text1] at h
   | cons u us =>
     obtain ⟨x', y', rfl⟩ := tag1 (hm u (by simp))
     simp only [textF, text1, List.append_assoc] at h
     have h2 := List.append_cancel_left h
     simp only [List.cons_append, List.nil_append, List.cons.injEq, true_and] at h2
     obtain ⟨rfl, rfl, h3⟩ := h2
     rw [ih us (i + 1) (fun t ht => hn t (by simp [ht])) (fun t ht => hm t (by simp [ht])) h3]
theorem nameOk_tags {n : List Tag} (h : nameOk n = true) : ∀ t ∈ n, tagOk t = true := by
 simp only [nameOk, Bool.and_eq_true] at h
 exact nameF_tags n none h.1
theorem text_inj {n m : List Tag} (hn : nameOk n = true) (hm : nameOk m = true) (h : text n = text m) : n = m := textF_inj n m 0 (nameOk_tags hn) (nameOk_tags hm) h
theorem NsD.add {names : List (List Tag)} {n : List Tag} (h : NsD names) (hn : NmD n) : NsD (names ++ [n]) := fun m hm => by
 rcases List.mem_append.1 hm with hm | hm
 ·exact h m hm
 ·simp at hm; rw [hm]; exact hn
theorem partG_asc : ∀ (is : List Int) (bs : List (List Row)) (o : Option Int), partG o is bs = true → (∀ q, o = some q → ∀ i ∈ is, q < i) ∧ ∀ m, maxF m is = (match is.getLast? with | some l => if l > m then l else m | none => m) ∨ is = [] := by
 intro is
 induction is with
 | nil => intro bs o _; exact ⟨fun _ _ i hi => (by cases hi), fun m => .inr rfl⟩
 | cons x xs ih =>
   intro bs o h
   cases bs with
   | nil => simp [partG] at h
   | cons b bs =>
     simp only [partG, Bool.and_eq_true] at h
     obtain ⟨⟨⟨⟨_, h2⟩, _⟩, _⟩, h5⟩ := h
     obtain ⟨g1, g2⟩ := ih bs (some x) h5
     refine ⟨fun q hq i hi => ?_, fun m => .inl ?_⟩
     ·subst hq
      have hqx : q < x := by simpa using h2
      rcases List.mem_cons.1 hi with rfl | hi
      ·exact hqx
      ·have := g1 x rfl i hi; omega
     ·unfold maxF
      rcases g2 (if x > m then x else m) with g | g
      ·rw [g]
       cases hl : xs.getLast? with
       | none =>
         have : xs = [] := List.getLast?_eq_none_iff.1 hl
         subst this
         simp
       | some l =>
         have hlm := g1 x rfl l (List.mem_of_getLast? hl)
         have e : (x :: xs).getLast? = some l := by rw [List.getLast?_cons, hl]; rfl
         rw [e]
         simp only
         repeat' split
         all_goals omega
      ·subst g
       simp [maxF]
theorem partIn_max {p : Prt} {n : Int} (h : partOk p = true) (h0 : (p.ids.length : Int) ≠ 0) : partIn p n = !decide (maxOf p.ids > n) := by
 unfold partIn
 rw [h, Bool.true_and]
 unfold partOk at h
 simp only [Bool.and_eq_true, decide_eq_true_eq] at h
 match hi : p.ids, h.2 with
 | [], _ => rw [hi] at h0; simp at h0
 | x :: xs, hg =>
   cases hb : p.blocks with
   | nil => rw [hb] at hg; simp [partG] at hg
   | cons b bs =>
     rw [hb] at hg
     simp only [partG, Bool.and_eq_true] at hg
     obtain ⟨g1, g2⟩ := partG_asc xs bs (some x) hg.2
     show (match (x :: xs).getLast? with | some i => decide (i ≤ n) | none => false) = !decide (maxF x xs > n)
     rcases g2 x with g | g
     ·rw [g]
      cases hl : xs.getLast? with
      | none =>
        have : xs = [] := List.getLast?_eq_none_iff.1 hl
        subst this
        simp only [List.getLast?_singleton]
        rw [Bool.eq_iff_iff]; simp
      | some l =>
        have hlm := g1 x rfl l (List.mem_of_getLast? hl)
        have e : (x :: xs).getLast? = some l := by rw [List.getLast?_cons, hl]; rfl
        rw [e]
        simp only
        simp only [show l > x from hlm, if_true]
        rw [Bool.eq_iff_iff]; simp
     ·subst g
      simp only [List.getLast?_singleton, maxF]
      rw [Bool.eq_iff_iff]; simp
theorem partIn_1 {p : Prt} {n : Int} (h : partOk p = false) : partIn p n = false := by unfold partIn; rw [h]; rfl
theorem partIn_2 {p : Prt} {n : Int} (h : (p.ids.length : Int) = 0) : partIn p n = false := by
 have : p.ids = [] := List.eq_nil_of_length_eq_zero (by omega)
 unfold partIn; rw [this]; simp
theorem partIn_3 {p : Prt} {n : Int} (h : partOk p = true) (h0 : (p.ids.length : Int) ≠ 0) (h1 : maxOf p.ids > n) : partIn p n = false := by rw [partIn_max h h0]; simp [h1]
theorem partIn_4 {p : Prt} {n : Int} (h : partOk p = true) (h0 : (p.ids.length : Int) ≠ 0) (h1 : ¬ maxOf p.ids > n) : partIn p n = true := by rw [partIn_max h h0]; simp [h1]
theorem partIn_ok {p : Prt} {n : Int} (h : partIn p n = true) : partOk p = true := by
 unfold partIn at h
 simp only [Bool.and_eq_true] at h
 exact h.1
structure StoK (s : Sto) : Prop where
 sd : SD s
 part : ∀ p ∈ s.parts, PrtI p ∧ partOk p = true
 row : ∀ m ∈ s.mem, rowOk m.row = true
 id : ∀ m ∈ s.mem, 1 ≤ m.id ∧ m.id ≤ s.idx.names.length
 nm2 : s.mem.length ≤ 20
theorem StoK.of {s : Sto} (h : SD s) (hk : storeOk s = true) : StoK s := by
 unfold storeOk at hk
 simp only [Bool.and_eq_true, decide_eq_true_eq, List.all_eq_true] at hk
 obtain ⟨⟨⟨⟨_, h2⟩, h3⟩, h4⟩, _⟩ := hk
 refine ⟨h, fun p hp => ⟨h.part p hp, partIn_ok (h3 p hp)⟩, fun m hm => ?_, fun m hm => ?_, h2⟩
 ·have := h4 m hm
  unfold memOk at this
  simp only [Bool.and_eq_true] at this
  exact this.2
 ·have := h4 m hm
  unfold memOk at this
  simp only [Bool.and_eq_true] at this
  exact inR_t this.1
theorem StoK.stoI {s : Sto} (h : StoK s) : StoI s := ⟨h.sd.idx, h.sd.nm, h.sd.np, h.sd.part, h.nm2, fun m hm => ⟨(h.id m hm).1, (h.id m hm).2, h.row m hm⟩⟩
theorem StoK.pt {s : Sto} (h : SD s) (h3 : s.parts.all (fun p => partIn p s.idx.names.length) = true) : ∀ p ∈ s.parts, PrtI p ∧ partOk p = true := fun p hp => ⟨h.part p hp, partIn_ok (List.all_eq_true.1 h3 p hp)⟩
theorem StoK.rw {s : Sto} (h4 : s.mem.all (memOk s.idx.names.length) = true) : ∀ m ∈ s.mem, rowOk m.row = true := fun m hm => by
 have := List.all_eq_true.1 h4 m hm
 unfold memOk at this
 simp only [Bool.and_eq_true] at this
 exact this.2
def rowsI (s : Sto) (id : Int) : List Row := if storeOk s = true ∧ inR id 1 s.idx.names.length = true then rowsOf s id else []
theorem rowsI_yes {s : Sto} {id : Int} (h : storeOk s = true) (h2 : inR id 1 s.idx.names.length = true) : rowsI s id = rowsOf s id := by unfold rowsI; rw [if_pos ⟨h, h2⟩]
end Go.Proofs.YtfnpaglcnmcnbaaGreat
namespace Go.Proofs.YtfnpaglcnmcnbaaGreat
def look (t : Int) (b : List Row) : Option Row := b.find? (fun r => r.t == t)
theorem look_cons (t : Int) (r : Row) (b : List Row) : look t (r :: b) = if r.t = t then some r else look t b := by
 unfold look
 rw [List.find?_cons]
 by_cases h : r.t = t
 ·simp [h]
 ·have : (r.t == t) = false := beq_eq_false_iff_ne.2 h
  rw [this, if_neg h]
theorem look_ins (t : Int) (r : Row) : ∀ (b : List Row), look t (insR r b) = if r.t = t then some r else look t b := by
 intro b
 induction b with
 | nil => unfold insR; rw [look_cons]
 | cons x xs ih =>
   unfold insR
   by_cases h1 : r.t < x.t
   ·rw [if_pos h1, look_cons]
   ·rw [if_neg h1]
    by_cases h2 : r.t = x.t
    ·rw [if_pos h2, look_cons, look_cons]
     by_cases h : r.t = t
     ·rw [if_pos h, if_pos h]
     ·rw [if_neg h, if_neg h, if_neg (by omega)]
    ·rw [if_neg h2, look_cons, ih, look_cons]
     by_cases h : r.t = t
     ·rw [if_pos h, if_neg (by omega), if_pos h]
     ·rw [if_neg h, if_neg h]
theorem Blk.tl {r : Row} {b : List Row} (h : Blk (r :: b)) : Blk b ∧ rowOk r = true ∧ ∀ q ∈ b, r.t < q.t := by
 obtain ⟨h1, _, h3⟩ := blockF_cons.1 h
 exact ⟨blockF_none h3, h1, blockF_gt b r h3⟩
theorem look_none {t : Int} : ∀ {b : List Row}, (∀ q ∈ b, t ≠ q.t) → look t b = none := by
 intro b
 induction b with
 | nil => intro _; rfl
 | cons x xs ih =>
   intro h
   rw [look_cons, if_neg (fun e => h x (by simp) e.symm)]
   exact ih (fun q hq => h q (by simp [hq]))
theorem look_t {t : Int} {q : Row} : ∀ {b : List Row}, look t b = some q → q.t = t ∧ q ∈ b := by
 intro b h
 have h1 := List.find?_some h
 exact ⟨by simpa using h1, List.mem_of_find?_eq_some h⟩
theorem look_merge (t : Int) : ∀ {b : List Row} (o : List Row), Blk o → Blk b → look t (sMerge o b) = (look t b).or (look t o) := by
 intro b
 induction b with
 | nil => intro o _ _; rfl
 | cons x xs ih =>
   intro o ho hb
   obtain ⟨h1, h2, h3⟩ := hb.tl
   have e : sMerge o (x :: xs) = sMerge (sPut o x) xs := rfl
   rw [e, ih _ (ho.put h2) h1, sPut_ins ho, look_ins, look_cons]
   by_cases h : x.t = t
   ·rw [if_pos h, if_pos h, look_none (fun q hq => by have := h3 q hq; omega)]
    rfl
   ·rw [if_neg h, if_neg h]
theorem look_ext : ∀ {a b : List Row}, Blk a → Blk b → (∀ t, look t a = look t b) → a = b := by
 intro a
 induction a with
 | nil =>
   intro b _ _ h
   cases b with
   | nil => rfl
   | cons y ys =>
     have := h y.t
     rw [look_cons, if_pos rfl] at this
     cases this
 | cons x xs ih =>
   intro b ha hb h
   cases b with
   | nil =>
     have := h x.t
     rw [look_cons, if_pos rfl] at this
     cases this
   | cons y ys =>
     obtain ⟨a1, _, a3⟩ := ha.tl
     obtain ⟨b1, _, b3⟩ := hb.tl
     have hx := h x.t
     have hy := h y.t
     rw [look_cons, if_pos rfl, look_cons] at hx
     rw [look_cons, look_cons, if_pos rfl] at hy
     by_cases e : x.t = y.t
     ·rw [if_pos e.symm] at hx
      cases hx
      congr 1
      refine ih a1 b1 (fun t => ?_)
      have ht := h t
      rw [look_cons, look_cons] at ht
      by_cases e2 : x.t = t
      ·rw [look_none (fun q hq => by have := a3 q hq; omega), look_none (fun q hq => by have := b3 q hq; omega)]
      ·rw [if_neg e2, if_neg e2] at ht
       exact ht
     ·rw [if_neg (fun e2 => e e2.symm)] at hx
      rw [if_neg e] at hy
      have h1 := b3 x (look_t hx.symm).2
      have h2 := a3 y (look_t hy).2
      omega
theorem look_le : ∀ {b a : List Row}, Blk a → Blk b → (∀ t, (look t a).isSome = true → (look t b).isSome = true) → a.length ≤ b.length := by
 intro b
 induction b with
 | nil =>
   intro a _ _ h
   cases a with
   | nil => exact Nat.le_refl _
   | cons x xs =>
     have := h x.t (by rw [look_cons, if_pos rfl]; rfl)
     cases this
 | cons y ys ih =>
   intro a ha hb h
   obtain ⟨b1, _, b3⟩ := hb.tl
   cases a with
   | nil => simp
   | cons x xs =>
     obtain ⟨a1, _, a3⟩ := ha.tl
     have hx := h x.t (by rw [look_cons, if_pos rfl]; rfl)
     rw [look_cons] at hx
     by_cases e : y.t = x.t
     ·simp only [List.length_cons]
      refine Nat.succ_le_succ (ih a1 b1 (fun t ht => ?_))
      obtain ⟨q, hq⟩ := Option.isSome_iff_exists.1 ht
      have hq2 := look_t hq
      have h4 := a3 q hq2.2
      have h5 := h t (by rw [look_cons, if_neg (by omega)]; exact ht)
      rw [look_cons, if_neg (by omega)] at h5
      exact h5
     ·rw [if_neg e] at hx
      obtain ⟨q, hq⟩ := Option.isSome_iff_exists.1 hx
      have hq2 := look_t hq
      have h4 := b3 q hq2.2
      refine Nat.le_succ_of_le (ih ha b1 (fun t ht => ?_))
      obtain ⟨u, hu⟩ := Option.isSome_iff_exists.1 ht
      have hu2 := look_t hu
      have h6 : x.t ≤ u.t := by
       rcases List.mem_cons.1 hu2.2 with e2 | hm
       ·rw [e2]; exact Int.le_refl _
       ·have := a3 u hm; omega
      have h5 := h t ht
      rw [look_cons, if_neg (by omega)] at h5
      exact h5
theorem sMerge_assoc {a b c : List Row} (ha : Blk a) (hb : Blk b) (hc : Blk c) : sMerge (sMerge a b) c = sMerge a (sMerge b c) :=
 look_ext ((ha.merge hb).merge hc) (ha.merge (hb.merge hc)) (fun t => by
  rw [look_merge t _ (ha.merge hb) hc, look_merge t _ ha hb, look_merge t _ ha (hb.merge hc), look_merge t _ hb hc, Option.or_assoc])
theorem sMerge_nil (a : List Row) : sMerge a [] = a := rfl
theorem makeF_of (id : Int) : ∀ (bs : List (List Row)) (i : Nat), partF id (makeF i bs).1 (makeF i bs).2 = if (i : Int) + 1 ≤ id then bs.getD (id - i - 1).toNat [] else [] := by
 intro bs
 induction bs with
 | nil => intro i; simp [makeF, partF]
 | cons b bs ih =>
   intro i
   have h1 := ih (i + 1)
   unfold makeF
   by_cases hb : b.length > 0
   ·rw [if_pos hb]
    unfold partF
    by_cases he : (i : Int) + 1 = id
    ·rw [if_pos (by simpa using he), if_pos (by omega), show (id - i - 1).toNat = 0 by omega]
     rfl
    ·rw [if_neg (by simpa using he), h1]
     by_cases h2 : (i : Int) + 1 ≤ id
     ·rw [if_pos (by omega), if_pos h2, show (id - i - 1).toNat = (id - (i + 1 : Nat) - 1).toNat + 1 by omega]
      rfl
     ·rw [if_neg (by omega), if_neg h2]
   ·rw [if_neg hb, h1]
    have : b = [] := List.length_eq_zero_iff.1 (by omega)
    subst this
    by_cases h2 : (i : Int) + 1 ≤ id
    ·rw [if_pos h2]
     by_cases he : (i : Int) + 1 = id
     ·rw [if_neg (by omega), show (id - i - 1).toNat = 0 by omega]
      rfl
     ·rw [if_pos (by omega), show (id - i - 1).toNat = (id - (i + 1 : Nat) - 1).toNat + 1 by omega]
      rfl
    ·rw [if_neg (by omega), if_neg h2]
theorem pMake_of (bs : List (List Row)) {id : Int} (h : 1 ≤ id) : partOf (pMake bs) id = bs.getD (id - 1).toNat [] := by
 unfold partOf pMake
 have := makeF_of id bs 0
 rw [if_pos (by omega)] at this
 rw [this, show (id - (0 : Nat) - 1) = id - 1 by omega]
def memS (mem : List Smp) : Sto := ⟨⟨[], []⟩, [], mem⟩
def lastM (t id : Int) (mem : List Smp) (x : Option Row) : Option Row := mem.foldl (fun acc m => if m.id = id ∧ m.row.t = t then some m.row else acc) x
theorem lastM_or (t id : Int) : ∀ (mem : List Smp) (x : Option Row), lastM t id mem x = (lastM t id mem none).or x := by
 intro mem
 induction mem with
 | nil => intro x; rfl
 | cons m ms ih =>
   intro x
   unfold lastM at ih ⊢
   rw [List.foldl_cons, List.foldl_cons]
   by_cases h : m.id = id ∧ m.row.t = t
   ·rw [if_pos h, if_pos h, ih (some m.row)]
    cases List.foldl (fun acc m => if m.id = id ∧ m.row.t = t then some m.row else acc) none ms <;> rfl
   ·rw [if_neg h, if_neg h, ih x]
theorem look_mem (t id : Int) : ∀ (mem : List Smp) (o : List Row), (∀ m ∈ mem, rowOk m.row = true) → Blk o → look t (mem.foldl (rowsM id) o) = lastM t id mem (look t o) ∧ Blk (mem.foldl (rowsM id) o) := by
 intro mem
 induction mem with
 | nil => intro o _ ho; exact ⟨rfl, ho⟩
 | cons m ms ih =>
   intro o h ho
   have h1 : Blk (rowsM id o m) := by
    unfold rowsM
    split
    ·exact ho.put (h m (by simp))
    ·exact ho
   obtain ⟨h2, h3⟩ := ih (rowsM id o m) (fun q hq => h q (by simp [hq])) h1
   refine ⟨?_, h3⟩
   rw [List.foldl_cons, h2]
   unfold lastM
   rw [List.foldl_cons]
   congr 1
   by_cases hid : m.id = id
   ·rw [rowsM_hit hid ho, look_ins]
    by_cases ht : m.row.t = t
    ·rw [if_pos ht, if_pos ⟨hid, ht⟩]
    ·rw [if_neg ht, if_neg (fun e => ht e.2)]
   ·rw [rowsM_no hid, if_neg (fun e => hid e.1)]
theorem mem_merge {id : Int} {mem : List Smp} {o : List Row} (h : ∀ m ∈ mem, rowOk m.row = true) (ho : Blk o) : mem.foldl (rowsM id) o = sMerge o (rowsOf (memS mem) id) := by
 have a := fun t => (look_mem t id mem o h ho).1
 have b := fun t => (look_mem t id mem [] h Blk.nil).1
 have bb : Blk (rowsOf (memS mem) id) := (look_mem 0 id mem [] h Blk.nil).2
 refine look_ext (look_mem 0 id mem o h ho).2 (ho.merge bb) (fun t => ?_)
 rw [a, look_merge t _ ho bb]
 have e : look t (rowsOf (memS mem) id) = lastM t id mem none := b t
 rw [e, ← lastM_or]
theorem parts_blk {id : Int} : ∀ {ps : List Prt} {o : List Row}, (∀ p ∈ ps, PrtI p) → Blk o → Blk (ps.foldl (rowsP id) o) := by
 intro ps
 induction ps with
 | nil => intro o _ ho; exact ho
 | cons p ps ih => intro o hp ho; exact ih (fun q hq => hp q (by simp [hq])) (ho.merge ((hp p (by simp)).of id))
theorem rows_ge {s : Sto} (h : StoK s) (id t : Int) : ((look t (s.parts.foldl (rowsP id) [])).isSome = true ∨ (look t (rowsOf (memS s.mem) id)).isSome = true) → (look t (rowsOf s id)).isSome = true := by
 intro h1
 have hb : Blk (s.parts.foldl (rowsP id) []) := parts_blk h.sd.part Blk.nil
 have bb : Blk (rowsOf (memS s.mem) id) := (look_mem 0 id s.mem [] h.row Blk.nil).2
 have e : rowsOf s id = sMerge (s.parts.foldl (rowsP id) []) (rowsOf (memS s.mem) id) := mem_merge h.row hb
 rw [e, look_merge t _ hb bb]
 rcases h1 with h1 | h1
 ·cases look t (rowsOf (memS s.mem) id) with
  | none => exact h1
  | some q => rfl
 ·obtain ⟨q, hq⟩ := Option.isSome_iff_exists.1 h1
  rw [hq]; rfl
theorem makeF_ok : ∀ (bs : List (List Row)) (i : Nat) (o : Option Int), (∀ b ∈ bs, Blk b ∧ b.length ≤ 24) → i + bs.length ≤ 6 → (∀ q, o = some q → q ≤ i) → partG o (makeF i bs).1 (makeF i bs).2 = true := by
 intro bs
 induction bs with
 | nil => intro i o _ _ _; rfl
 | cons b bs ih =>
   intro i o h hl ho
   simp only [List.length_cons] at hl
   unfold makeF
   by_cases hb : b.length > 0
   ·rw [if_pos hb]
    unfold partG
    have h1 := ih (i + 1) (some ((i : Int) + 1)) (fun x hx => h x (by simp [hx])) (by omega) (fun q hq => by cases hq; omega)
    obtain ⟨h2, h3⟩ := h b (by simp)
    have h4 : blockOk b = true := by
     unfold blockOk
     have h2' : blockF none b = true := h2
     rw [h2', Bool.true_and, decide_eq_true_eq]; exact h3
    rw [h1, h4, decide_eq_true hb]
    have h5 : inR ((i : Int) + 1) 1 6 = true := by unfold inR; simp; omega
    rw [h5]
    cases o with
    | none => rfl
    | some q =>
      have := ho q rfl
      simp
      omega
   ·rw [if_neg hb]
    exact ih (i + 1) o (fun x hx => h x (by simp [hx])) (by omega) (fun q hq => by have := ho q hq; omega)
theorem pMake_ok {bs : List (List Row)} (h : ∀ b ∈ bs, Blk b ∧ b.length ≤ 24) (hl : bs.length ≤ 6) : partOk (pMake bs) = true := by
 unfold partOk
 have h1 := (makeF_len bs 0).1
 have h2 := makeF_ok bs 0 none h (by omega) (by simp)
 have h3 : partG none (pMake bs).ids (pMake bs).blocks = true := h2
 have h4 : (pMake bs).ids.length = (pMake bs).blocks.length := h1
 rw [h3, decide_eq_true h4]
 rfl
theorem makeF_ids : ∀ (bs : List (List Row)) (i : Nat) (x : Int), x ∈ (makeF i bs).1 → ∃ k : Nat, x = (i : Int) + k + 1 ∧ ∃ b, bs[k]? = some b ∧ 0 < b.length := by
 intro bs
 induction bs with
 | nil => intro i x h; simp [makeF] at h
 | cons b bs ih =>
   intro i x h
   unfold makeF at h
   by_cases hb : b.length > 0
   ·rw [if_pos hb] at h
    rcases List.mem_cons.1 h with rfl | h
    ·exact ⟨0, by simp, b, rfl, hb⟩
    ·obtain ⟨k, h1, c, h2, h3⟩ := ih (i + 1) x h
     exact ⟨k + 1, by rw [h1]; push_cast; omega, c, by simpa using h2, h3⟩
   ·rw [if_neg hb] at h
    obtain ⟨k, h1, c, h2, h3⟩ := ih (i + 1) x h
    exact ⟨k + 1, by rw [h1]; push_cast; omega, c, by simpa using h2, h3⟩
theorem makeF_some : ∀ (bs : List (List Row)) (i : Nat), (∃ b ∈ bs, 0 < b.length) → (makeF i bs).1 ≠ [] := by
 intro bs
 induction bs with
 | nil => rintro i ⟨b, hb, _⟩; cases hb
 | cons c bs ih =>
   rintro i ⟨b, hb, hl⟩
   unfold makeF
   by_cases hc : c.length > 0
   ·rw [if_pos hc]; simp
   ·rw [if_neg hc]
    rcases List.mem_cons.1 hb with rfl | hb
    ·exact absurd hl hc
    ·exact ih (i + 1) ⟨b, hb, hl⟩
theorem pMake_in {bs : List (List Row)} {n : Nat} (h : ∀ b ∈ bs, Blk b ∧ b.length ≤ 24) (hl : bs.length ≤ 6) (h1 : ∃ b ∈ bs, 0 < b.length) (h2 : ∀ k b, bs[k]? = some b → 0 < b.length → k < n) : partIn (pMake bs) n = true := by
 unfold partIn
 rw [pMake_ok h hl, Bool.true_and]
 cases hx : (pMake bs).ids.getLast? with
 | none => exact absurd (List.getLast?_eq_none_iff.1 hx) (makeF_some bs 0 h1)
 | some x =>
   obtain ⟨k, e, b, hb, hb2⟩ := makeF_ids bs 0 x (List.mem_of_getLast? hx)
   have := h2 k b hb hb2
   simp
   omega
theorem parts6 {s : Sto} (h : storeOk s = true) : s.parts.length ≤ 6 := by
 unfold storeOk at h
 simp only [Bool.and_eq_true, decide_eq_true_eq] at h
 exact h.1.1.1.1
end Go.Proofs.YtfnpaglcnmcnbaaGreat
