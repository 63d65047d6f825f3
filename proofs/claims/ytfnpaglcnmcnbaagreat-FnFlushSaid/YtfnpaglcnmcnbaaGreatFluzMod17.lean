/- Rows put in place: plain laws. -/
import Derived.Test.YtfnpaglcnmcnbaaGreatFluzW16
set_option linter.unusedVariables false
set_option linter.unusedSimpArgs false
namespace Go.Proofs.YtfnpaglcnmcnbaaGreat
theorem Own.box1 {w : World} {r t c : Nat} {F : Nat → Prop} {y : Row} (h : Own w r t F 1 c [y]) (hc : c = 1 := by rfl) : Box w r t [.int .i64 y.t, .int .i64 y.v] := by
  obtain ⟨cs, h1, h2, h3, _, _⟩ := h.box
  subst hc
  rw [List.take_of_length_le (by omega)] at h3
  rw [h3] at h1
  exact h1
theorem Mv.appO {w w' : World} {r r2 : Nat} (A B : List Nat) (hx : Chg (Go.Proofs.YtfnpaglcnmcnbaaGreat.one r) w w') (h : OrB r2 r w.heap.size) : Mv (A ++ r :: B) (A ++ r2 :: B) w w' := Mv.mk hx (fun k hk hm => by
  unfold OrB at h
  simp only [List.mem_append, List.mem_cons, not_or] at hm ⊢
  exact ⟨⟨hm.1, by omega, hm.2.2⟩, hm.2.1⟩)
theorem insStep {b : List Row} {r x : Row} {i : Nat} (h : b.take i ++ insR r (b.drop i) = insR r b) (hx : b[i]? = some x) (ht : x.t < r.t) : b.take (i + 1) ++ insR r (b.drop (i + 1)) = insR r b := by
  rw [drop_at hx, insR, if_neg (by omega), if_neg (by omega)] at h
  rw [← h, List.take_add_one, hx]
  simp
theorem insHit {b : List Row} {r x : Row} {i : Nat} (h : b.take i ++ insR r (b.drop i) = insR r b) (hx : b[i]? = some x) (ht : x.t = r.t) : b.set i r = insR r b := by
  rw [drop_at hx, insR, if_neg (by omega), if_pos (by omega)] at h
  rw [← h]
  obtain ⟨h1, h2⟩ := List.getElem?_eq_some_iff.1 hx
  rw [List.set_eq_take_append_cons_drop, if_pos h1]
theorem insNew {b : List Row} {r x : Row} {i : Nat} (h : b.take i ++ insR r (b.drop i) = insR r b) (hx : b[i]? = some x) (h1 : ¬ x.t < r.t) (h2 : x.t ≠ r.t) : b.take i ++ r :: b.drop i = insR r b := by
  rw [← h]
  congr 1
  rw [drop_at hx, insR, if_pos (by omega)]
theorem insTop {b : List Row} {r : Row} {i : Nat} (h : b.take i ++ insR r (b.drop i) = insR r b) (hi : b.length ≤ i) : b.take i ++ r :: b.drop i = insR r b := by
  rw [← h, drop_end hi]
  rfl
def partI (p : Prt) (id : Int) : List Row := if partOk p then partOf p id else []
theorem idxF_spec (v : Int) : ∀ (is : List Int) (bs : List (List Row)) (i : Nat), is.length = bs.length → (idxF v i is = -1 ∧ partF v is bs = []) ∨ ((i : Int) ≤ idxF v i is ∧ idxF v i is < (i : Int) + is.length ∧ ∃ b, bs[(idxF v i is).toNat - i]? = some b ∧ partF v is bs = b) := by
  intro is
  induction is with
  | nil => intro bs i h; left; exact ⟨rfl, by unfold partF; rfl⟩
  | cons x xs ih =>
    intro bs i h
    cases bs with
    | nil => simp at h
    | cons b bs =>
      unfold idxF partF
      by_cases hx : (x == v) = true
      · right
        rw [if_pos hx, if_pos hx]
        refine ⟨by omega, by simp only [List.length_cons]; omega, b, ?_, rfl⟩
        simp
      · rw [if_neg hx, if_neg hx]
        rcases ih bs (i + 1) (by simpa using h) with ⟨h1, h2⟩ | ⟨h1, h2, c, h3, h4⟩
        · left; exact ⟨h1, h2⟩
        · right
          refine ⟨by omega, by simp only [List.length_cons]; omega, c, ?_, h4⟩
          rw [show (idxF v (i + 1) xs).toNat - i = ((idxF v (i + 1) xs).toNat - (i + 1)) + 1 by omega, List.getElem?_cons_succ]
          exact h3
theorem partOk_len {p : Prt} (h : partOk p = true) : p.ids.length = p.blocks.length := by
  unfold partOk at h
  simp only [Bool.and_eq_true, decide_eq_true_eq] at h
  exact h.1
theorem partI_1 {p : Prt} {id : Int} (h : partOk p = false) : partI p id = [] := by unfold partI; rw [h]; rfl
theorem partI_2 {p : Prt} {id : Int} (h : partOk p = true) (h2 : idxF id 0 p.ids < 0) : partI p id = [] := by
  unfold partI partOf
  rw [if_pos h]
  rcases idxF_spec id p.ids p.blocks 0 (partOk_len h) with ⟨_, h3⟩ | ⟨h1, _⟩
  · exact h3
  · omega
theorem partI_3 {p : Prt} {id : Int} {b : List Row} (h : partOk p = true) (h2 : ¬ idxF id 0 p.ids < 0) (hb : p.blocks[(idxF id 0 p.ids).toNat]? = some b) : partI p id = b := by
  unfold partI partOf
  rw [if_pos h]
  rcases idxF_spec id p.ids p.blocks 0 (partOk_len h) with ⟨h1, _⟩ | ⟨_, _, c, h3, h4⟩
  · omega
  · rw [Nat.sub_zero, hb] at h3
    cases h3
    exact h4
theorem partI_i {p : Prt} {id : Int} (h : partOk p = true) (h2 : ¬ idxF id 0 p.ids < 0) : (idxF id 0 p.ids).toNat < p.blocks.length := by
  rcases idxF_spec id p.ids p.blocks 0 (partOk_len h) with ⟨h1, _⟩ | ⟨_, h3, _⟩
  · omega
  · have := partOk_len h; omega
theorem PrtI.ofI {p : Prt} (h : PrtI p) (id : Int) : Blk (partI p id) := by
  unfold partI
  split
  · exact h.of id
  · exact Blk.nil
theorem foldStep {α β : Type} {f : β → α → β} {l : List α} {i : Nat} {b : β} {x : α} {Y : β} (h : (l.drop i).foldl f b = Y) (hd : l.drop i = x :: l.drop (i + 1)) : (l.drop (i + 1)).foldl f (f b x) = Y := by
  rw [hd] at h
  exact h
theorem foldEnd {α β : Type} {f : β → α → β} {l : List α} {i : Nat} {b : β} {Y : β} (h : (l.drop i).foldl f b = Y) (hi : l.length ≤ i) : b = Y := by
  rw [drop_end hi] at h
  exact h
theorem rowsM_hit {id : Int} {o : List Row} {m : Smp} (h : m.id = id) (ho : Blk o) : rowsM id o m = insR m.row o := by unfold rowsM; rw [if_pos (by simpa using h), sPut_ins ho]
theorem rowsM_no {id : Int} {o : List Row} {m : Smp} (h : m.id ≠ id) : rowsM id o m = o := by unfold rowsM; rw [if_neg (by simpa using h)]
theorem Blk.ins {b : List Row} (h : Blk b) {r : Row} (hr : rowOk r = true) : Blk (insR r b) := by rw [← sPut_ins h]; exact h.put hr
theorem copyI {p : Prt} {a : List Int} {b : List (List Row)} (ha : a = p.ids) (hb : b = p.blocks) : (⟨a, b⟩ : Prt) = p := by subst ha hb; rfl
theorem appEnd {α : Type} {l k : List α} {i : Nat} (h : k ++ l.drop i = l) (hi : l.length ≤ i) : k = l := by
  rw [drop_end hi, List.append_nil] at h
  exact h
theorem app1Step {α : Type} {l : List α} {i : Nat} {k : List α} {q : α} (h : k ++ l.drop i = l) (hd : l.drop i = q :: l.drop (i + 1)) : (k ++ [q]) ++ l.drop (i + 1) = l := by
  rw [hd] at h
  simpa using h
end Go.Proofs.YtfnpaglcnmcnbaaGreat
