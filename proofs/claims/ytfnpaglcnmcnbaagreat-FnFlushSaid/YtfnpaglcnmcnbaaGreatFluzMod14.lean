/- The postings of names; what a store is asked: plain laws. -/
import Derived.Test.YtfnpaglcnmcnbaaGreatFluzW13
set_option linter.unusedVariables false
set_option linter.unusedSimpArgs false
namespace Go.Proofs.YtfnpaglcnmcnbaaGreat
def tagsU : List Tag := (List.range' 97 4).flatMap (fun k => (List.range' 112 11).map (tagAt k))
theorem postsV_eq (names : List (List Tag)) (k : Nat) : ∀ f v, postsV names k f v = ((List.range' v f).map (tagAt k)).flatMap (post1 names) := by
  intro f
  induction f with
  | zero => intro v; rfl
  | succ f ih => intro v; rw [postsV, ih, List.range'_succ]; rfl
theorem postsK_eq (names : List (List Tag)) : ∀ f k, postsK names f k = ((List.range' k f).flatMap (fun k => (List.range' 112 11).map (tagAt k))).flatMap (post1 names) := by
  intro f
  induction f with
  | zero => intro k; rfl
  | succ f ih => intro k; rw [postsK, ih, postsV_eq, show List.range' k (f + 1) = k :: List.range' (k + 1) f from rfl, List.flatMap_cons, List.flatMap_append]
theorem postsOf_eq (names : List (List Tag)) : postsOf names = tagsU.flatMap (post1 names) := postsK_eq names 4 97
theorem tagsU_sorted : tagsU.Pairwise (fun a b => tagLt a b = true) := by decide +kernel
theorem tagsU_mem {t : Tag} (h : tagOk t = true) : t ∈ tagsU := by
  simp only [tagOk, Bool.and_eq_true] at h
  obtain ⟨h1, h2⟩ := h
  obtain ⟨x, hx⟩ : ∃ x, t.key = [x] := by
    have := one1_len h1
    match t.key, this with
    | [x], _ => exact ⟨x, rfl⟩
  obtain ⟨y, hy⟩ : ∃ y, t.val = [y] := by
    have := one1_len h2
    match t.val, this with
    | [y], _ => exact ⟨y, rfl⟩
  rw [hx] at h1
  rw [hy] at h2
  have g1 := inR_t h1
  have g2 := inR_t h2
  unfold tagsU
  refine List.mem_flatMap.2 ⟨x.toNat, ?_, List.mem_map.2 ⟨y.toNat, ?_, ?_⟩⟩
  · rw [List.mem_range'_1]; omega
  · rw [List.mem_range'_1]; omega
  · cases t
    simp only at hx hy
    subst hx hy
    simp [tagAt]
theorem posts_mem {names : List (List Tag)} {p : Pst} (h : p ∈ postsOf names) : p.ids = ids names p.tag ∧ 0 < p.ids.length ∧ p.tag ∈ tagsU := by
  rw [postsOf_eq] at h
  obtain ⟨t, ht, hp⟩ := List.mem_flatMap.1 h
  unfold post1 at hp
  split at hp
  · simp at hp
    subst hp
    exact ⟨rfl, by assumption, ht⟩
  · cases hp
theorem posts_in {names : List (List Tag)} {t : Tag} (h : t ∈ tagsU) (h2 : 0 < (ids names t).length) : ⟨t, ids names t⟩ ∈ postsOf names := by
  rw [postsOf_eq]
  refine List.mem_flatMap.2 ⟨t, h, ?_⟩
  unfold post1
  rw [if_pos h2]
  simp
theorem posts_sorted (names : List (List Tag)) : (postsOf names).Pairwise (fun a b => tagLt a.tag b.tag = true) := by
  rw [postsOf_eq, List.pairwise_flatMap]
  refine ⟨fun t _ => ?_, tagsU_sorted.imp ?_⟩
  · unfold post1
    split <;> simp
  · intro a b hab x hx y hy
    have h1 : x.tag = a := by
      unfold post1 at hx
      split at hx
      · simp at hx; rw [hx]
      · cases hx
    have h2 : y.tag = b := by
      unfold post1 at hy
      split at hy
      · simp at hy; rw [hy]
      · cases hy
    rw [h1, h2]
    exact hab
def lenSum (names : List (List Tag)) : Nat := (names.map List.length).sum
def idSum (ps : List Pst) : Nat := (ps.map (fun p => p.ids.length)).sum
theorem idsF_len (t : Tag) : ∀ (ns : List (List Tag)) (i : Nat), (idsF t i ns).length = (ns.map (fun n => if has n t then 1 else 0)).sum := by
  intro ns
  induction ns with
  | nil => intro i; rfl
  | cons n ns ih =>
    intro i
    rw [idsF, List.length_append, ih, List.map_cons, List.sum_cons]
    split <;> simp_all
theorem idSum_posts (names : List (List Tag)) : idSum (postsOf names) = (tagsU.map (fun t => (ids names t).length)).sum := by
  rw [postsOf_eq]
  generalize tagsU = U
  induction U with
  | nil => rfl
  | cons t ts ih =>
    rw [List.flatMap_cons]
    unfold idSum at ih ⊢
    rw [List.map_append, List.sum_append, ih, List.map_cons, List.sum_cons]
    congr 1
    unfold post1
    split
    · simp
    · simp; omega
theorem sum_zero {α : Type} (U : List α) (f : α → Nat) (h : ∀ a ∈ U, f a = 0) : (U.map f).sum = 0 := by
  induction U with
  | nil => rfl
  | cons a U ih => rw [List.map_cons, List.sum_cons, h a (by simp), ih (fun b hb => h b (by simp [hb]))]
theorem sum_add {α : Type} (U : List α) (f g : α → Nat) : (U.map (fun a => f a + g a)).sum = (U.map f).sum + (U.map g).sum := by
  induction U with
  | nil => rfl
  | cons a U ih => simp only [List.map_cons, List.sum_cons, ih]; omega
theorem sum_one {U : List Tag} (hU : U.Nodup) {t : Tag} (ht : t ∈ U) : (U.map (fun u => if t == u then 1 else 0)).sum = 1 := by
  induction U with
  | nil => cases ht
  | cons a U ih =>
    rw [List.map_cons, List.sum_cons]
    obtain ⟨h1, h2⟩ := List.nodup_cons.1 hU
    rcases List.mem_cons.1 ht with rfl | ht
    · rw [sum_zero U _ (fun b hb => by
        have : ¬ (t == b) = true := fun e => h1 (by rw [eq_of_beq e]; exact hb)
        simp only [this]; rfl)]
      simp
    · have : ¬ (t == a) = true := fun e => h1 (by rw [← eq_of_beq e]; exact ht)
      rw [ih h2 ht, if_neg this]
theorem has_sum {U : List Tag} (hU : U.Nodup) : ∀ (n : List Tag), n.Nodup → (∀ t ∈ n, t ∈ U) → (U.map (fun u => if has n u then 1 else 0)).sum = n.length := by
  intro n
  induction n with
  | nil => intro _ _; exact sum_zero U _ (fun a _ => by simp [has])
  | cons t ts ih =>
    intro hn hm
    obtain ⟨h1, h2⟩ := List.nodup_cons.1 hn
    have e : (U.map (fun u => if has (t :: ts) u then 1 else 0)) = U.map (fun u => (if t == u then 1 else 0) + (if has ts u then 1 else 0)) := by
      apply List.map_congr_left
      intro u _
      by_cases hu : (t == u) = true
      · have h3 : has ts u = false := by
          rw [← eq_of_beq hu]
          unfold has
          rw [List.any_eq_false]
          intro x hx hxt
          exact h1 (by rw [← eq_of_beq hxt]; exact hx)
        simp [has, hu]
        unfold has at h3
        rw [List.any_eq_false] at h3
        exact fun hm => h3 u hm (by simp)
      · simp [has, hu]
    rw [e, sum_add, sum_one hU (hm t (by simp)), ih h2 (fun x hx => hm x (by simp [hx])), List.length_cons]
    omega
theorem strLt_irr : ∀ (s : Str), strLt s s = false := by
  intro s
  induction s with
  | nil => rfl
  | cons x xs ih =>
    have ih' : Op.bytesLess xs xs = false := ih
    show (decide (x < x) || x == x && Op.bytesLess xs xs) = false
    simp [ih']
theorem strLt_key {a b : Tag} (ha : tagOk a = true) (hb : tagOk b = true) (h : strLt a.key b.key = true) : ∃ x y, a.key = [x] ∧ b.key = [y] ∧ x.toNat < y.toNat := by
  simp only [tagOk, Bool.and_eq_true] at ha hb
  have h1 := one1_len ha.1
  have h2 := one1_len hb.1
  match ha' : a.key, h1, hb' : b.key, h2 with
  | [x], _, [y], _ =>
    rw [ha', hb', strLt1] at h
    exact ⟨x, y, rfl, rfl, by simpa using h⟩
theorem nameF_keys : ∀ (n : List Tag) (o : Option Tag), nameF o n = true → (∀ q, o = some q → tagOk q = true) → (∀ q, o = some q → ∀ t ∈ n, strLt q.key t.key = true) ∧ n.Nodup := by
  intro n
  induction n with
  | nil => intro o _ _; exact ⟨fun _ _ t ht => (by cases ht), by simp⟩
  | cons t ts ih =>
    intro o h ho
    simp only [nameF, Bool.and_eq_true] at h
    obtain ⟨⟨h1, h2⟩, h3⟩ := h
    obtain ⟨g1, g2⟩ := ih (some t) h3 (fun q hq => by cases hq; exact h1)
    refine ⟨fun q hq u hu => ?_, List.nodup_cons.2 ⟨fun hm => ?_, g2⟩⟩
    · subst hq
      have h4 : strLt q.key t.key = true := h2
      rcases List.mem_cons.1 hu with rfl | hu
      · exact h4
      · have h5 := g1 t rfl u hu
        obtain ⟨x, y, e1, e2, l1⟩ := strLt_key (ho q rfl) h1 h4
        obtain ⟨y', z, e3, e4, l2⟩ := strLt_key h1 (nameF_tags ts (some t) h3 u hu) h5
        rw [e2] at e3
        cases e3
        rw [e1, e4, strLt1]
        simp; omega
    · have h5 := g1 t rfl t hm
      rw [strLt_irr] at h5
      cases h5
theorem nameOk_nodup {n : List Tag} (h : nameOk n = true) : n.Nodup ∧ ∀ t ∈ n, t ∈ tagsU := by
  simp only [nameOk, Bool.and_eq_true] at h
  exact ⟨(nameF_keys n none h.1 (by simp)).2, fun t ht => tagsU_mem (nameF_tags n none h.1 t ht)⟩
theorem tagsU_nodup : tagsU.Nodup := tagsU_sorted.imp (fun {a b} h e => by
  subst e
  unfold tagLt at h
  simp [strLt_irr] at h)
theorem idSum_eq {names : List (List Tag)} (h : ∀ n ∈ names, nameOk n = true) : idSum (postsOf names) = lenSum names := by
  rw [idSum_posts]
  unfold ids
  have e : (tagsU.map (fun t => (idsF t 0 names).length)) = tagsU.map (fun t => (names.map (fun n => if has n t then 1 else 0)).sum) := by
    apply List.map_congr_left
    intro t _
    exact idsF_len t names 0
  rw [e]
  clear e
  induction names with
  | nil => exact sum_zero _ _ (fun _ _ => rfl)
  | cons n ns ih =>
    have e : (tagsU.map (fun t => ((n :: ns).map (fun n => if has n t then 1 else 0)).sum)) = tagsU.map (fun t => (if has n t then 1 else 0) + (ns.map (fun n => if has n t then 1 else 0)).sum) := by
      apply List.map_congr_left
      intro t _
      rfl
    have g := nameOk_nodup (h n (by simp))
    rw [e, sum_add, has_sum tagsU_nodup n g.1 g.2, ih (fun m hm => h m (by simp [hm]))]
    rfl
end Go.Proofs.YtfnpaglcnmcnbaaGreat
