/- The postings that are built and sorted are those of the names: plain laws. -/
import Derived.Test.YtfnpaglcnmcnbaaGreatFluzW20
set_option linter.unusedVariables false
set_option linter.unusedSimpArgs false
namespace Go.Proofs.YtfnpaglcnmcnbaaGreat
structure RepP (xs : List Pst) (L : Tag → List Int) : Prop where
  nd : (xs.map Pst.tag).Nodup
  el : ∀ x ∈ xs, x.ids = L x.tag ∧ x.ids ≠ []
  all : ∀ t, L t ≠ [] → ∃ x ∈ xs, x.tag = t
theorem RepP.add {xs : List Pst} {L : Tag → List Int} (h : RepP xs L) (k : Int) (t : Tag) : RepP (addT k xs t) (fun u => L u ++ (if u = t then [k] else [])) := by
  rcases idxP_spec t xs 0 with ⟨h1, h2⟩ | ⟨h1, h2, x, h3, h4⟩
  · have hn : idxP t 0 xs < 0 := by omega
    have hL : L t = [] := by
      by_cases he : L t = []
      · exact he
      · obtain ⟨x, hx, hxt⟩ := h.all t he
        exact absurd hxt (h2 x hx)
    rw [addT_new hn]
    refine ⟨?_, fun x hx => ?_, fun u hu => ?_⟩
    · rw [List.map_append]
      refine List.nodup_append.2 ⟨h.nd, by simp, fun a ha b hb => ?_⟩
      simp at hb
      subst hb
      obtain ⟨x, hx, rfl⟩ := List.mem_map.1 ha
      exact h2 x hx
    · rcases List.mem_append.1 hx with hx | hx
      · have := h.el x hx
        have hne := h2 x hx
        rw [if_neg hne, List.append_nil]
        exact this
      · simp at hx
        subst hx
        simp [hL]
    · by_cases hut : u = t
      · exact ⟨⟨t, [k]⟩, by simp, hut.symm⟩
      · rw [if_neg hut, List.append_nil] at hu
        obtain ⟨x, hx, hxu⟩ := h.all u hu
        exact ⟨x, by simp [hx], hxu⟩
  · have hn : ¬ idxP t 0 xs < 0 := by omega
    rw [Nat.sub_zero] at h3
    rw [addT_old hn h3]
    generalize (idxP t 0 xs).toNat = i at h3
    obtain ⟨hil, hie⟩ := List.getElem?_eq_some_iff.1 h3
    have hmap : (xs.set i ⟨x.tag, x.ids ++ [k]⟩).map Pst.tag = xs.map Pst.tag := by
      rw [List.map_set]
      have h5 : (xs.map Pst.tag)[i]'(by simpa using hil) = x.tag := by simp [hie]
      have h6 := List.set_getElem_self (show i < (xs.map Pst.tag).length by simpa using hil)
      rw [h5] at h6
      exact h6
    refine ⟨by rw [hmap]; exact h.nd, fun y hy => ?_, fun u hu => ?_⟩
    · obtain ⟨j, hj, hjy⟩ := List.mem_iff_getElem.1 hy
      rw [List.getElem_set] at hjy
      have hj2 : j < xs.length := by simpa using hj
      split at hjy
      · subst hjy
        have := h.el x (List.mem_of_getElem? h3)
        simp only
        rw [if_pos h4, this.1]
        exact ⟨rfl, by simp⟩
      · rename_i hij
        have hym : y ∈ xs := hjy ▸ List.getElem_mem hj2
        have hne : ¬ y.tag = t := fun e => hij (by
          have h5 : (xs.map Pst.tag)[i]'(by simpa using hil) = (xs.map Pst.tag)[j]'(by simpa using hj2) := by simp [hie, hjy, h4, e]
          exact (List.getElem_inj (h₀ := by simpa using hil) (h₁ := by simpa using hj2) h.nd).1 h5)
        rw [if_neg hne, List.append_nil]
        exact h.el y hym
    · have key : ∃ y ∈ xs, y.tag = u := by
        by_cases hut : u = t
        · exact ⟨x, List.mem_of_getElem? h3, h4.trans hut.symm⟩
        · rw [if_neg hut, List.append_nil] at hu
          exact h.all u hu
      obtain ⟨y, hy, hyu⟩ := key
      have hm : u ∈ (xs.set i ⟨x.tag, x.ids ++ [k]⟩).map Pst.tag := by rw [hmap]; exact List.mem_map.2 ⟨y, hy, hyu⟩
      obtain ⟨z, hz, hzu⟩ := List.mem_map.1 hm
      exact ⟨z, hz, hzu⟩
theorem RepP.congr {xs : List Pst} {L L' : Tag → List Int} (h : RepP xs L) (e : ∀ t, L t = L' t) : RepP xs L' := by
  have : L = L' := funext e
  rw [← this]; exact h
theorem RepP.name (k : Int) : ∀ (n : List Tag) (xs : List Pst) (L : Tag → List Int), n.Nodup → RepP xs L → RepP (n.foldl (addT k) xs) (fun u => L u ++ (if has n u then [k] else [])) := by
  intro n
  induction n with
  | nil => intro xs L _ h; exact h.congr (fun t => by simp [has])
  | cons t ts ih =>
    intro xs L hn h
    rw [List.nodup_cons] at hn
    refine (ih _ _ hn.2 (h.add k t)).congr (fun u => ?_)
    rw [List.append_assoc]
    congr 1
    by_cases hu : u = t
    · subst hu
      have : has ts u = false := by
        unfold has
        rw [List.any_eq_false]
        intro y hy e
        exact hn.1 (by rw [← eq_of_beq e]; exact hy)
      rw [this]
      simp [has]
    · have : (t == u) = false := by rw [beq_eq_false_iff_ne]; exact fun e => hu e.symm
      simp only [if_neg hu, List.nil_append, has, List.any_cons, this, Bool.false_or]
      rfl
theorem RepP.bld : ∀ (ns : List (List Tag)) (i : Nat) (xs : List Pst) (L : Tag → List Int), (∀ n ∈ ns, n.Nodup) → RepP xs L → RepP (bldF i xs ns) (fun u => L u ++ idsF u i ns) := by
  intro ns
  induction ns with
  | nil => intro i xs L _ h; exact h.congr (fun t => by simp [idsF])
  | cons n ns ih =>
    intro i xs L hn h
    refine (ih (i + 1) _ _ (fun m hm => hn m (by simp [hm])) (RepP.name _ n xs L (hn n (by simp)) h)).congr (fun u => ?_)
    rw [List.append_assoc, idsF]
theorem RepP.all0 {names : List (List Tag)} (h : NmI names) : RepP (bldF 0 [] names) (ids names) :=
  (RepP.bld names 0 [] (fun _ => []) (fun n hn => (nameOk_nodup (h.ok n hn)).1) ⟨by simp, by simp, by simp⟩).congr (fun u => by unfold ids; simp)
theorem ids_ne {names : List (List Tag)} {t : Tag} (h : ids names t ≠ []) : ∃ n ∈ names, t ∈ n := by
  unfold ids at h
  have : ∀ (ns : List (List Tag)) (i : Nat), idsF t i ns ≠ [] → ∃ n ∈ ns, t ∈ n := by
    intro ns
    induction ns with
    | nil => intro i h; simp [idsF] at h
    | cons n ns ih =>
      intro i h
      rw [idsF] at h
      by_cases hb : has n t = true
      · refine ⟨n, by simp, ?_⟩
        unfold has at hb
        rw [List.any_eq_true] at hb
        obtain ⟨y, hy, e⟩ := hb
        rw [← eq_of_beq e]; exact hy
      · rw [if_neg hb, List.nil_append] at h
        obtain ⟨m, hm, ht⟩ := ih (i + 1) h
        exact ⟨m, by simp [hm], ht⟩
  exact this names 0 h
theorem nodup_len {α : Type} [DecidableEq α] : ∀ (l U : List α), l.Nodup → (∀ x ∈ l, x ∈ U) → l.length ≤ U.length := by
  intro l
  induction l with
  | nil => intro U _ _; simp
  | cons a l ih =>
    intro U hn hU
    rw [List.nodup_cons] at hn
    have ha := hU a (by simp)
    have := ih (U.erase a) hn.2 (fun x hx => (List.mem_erase_of_ne (fun e : x = a => hn.1 (by rw [← e]; exact hx))).2 (hU x (by simp [hx])))
    rw [List.length_erase_of_mem ha] at this
    have := List.length_pos_of_mem ha
    simp only [List.length_cons]; omega
def tags9 : List Tag := [⟨[97], [112]⟩, ⟨[97], [113]⟩, ⟨[97], [122]⟩, ⟨[98], [112]⟩, ⟨[98], [113]⟩, ⟨[98], [122]⟩, ⟨[99], [112]⟩, ⟨[99], [113]⟩, ⟨[99], [122]⟩]
theorem tags9_mem {t : Tag} (h : tagOk t = true) (hd : TagD t) : t ∈ tags9 := by
  obtain ⟨k, v⟩ := t
  obtain ⟨h1, h2⟩ := hd
  simp only [tagOk, Bool.and_eq_true] at h
  simp only [List.mem_cons, List.not_mem_nil, or_false] at h1 h2
  have hv := one1_len h.2
  have h3 : v = [112] ∨ v = [113] ∨ v = [122] := by
    rcases h2 with rfl | rfl | rfl | rfl | rfl | rfl
    · exact .inl rfl
    · exact .inr (.inl rfl)
    · exact .inr (.inr rfl)
    · simp at hv
    · have := h.2; simp [one1, inR] at this
    · simp at hv
  rcases h1 with rfl | rfl | rfl <;> rcases h3 with rfl | rfl | rfl <;> simp [tags9]
theorem bld_le {names : List (List Tag)} (h : NmI names) (h2 : NsD names) : (bldF 0 [] names).length ≤ 12 := by
  have hr := RepP.all0 h
  have := nodup_len ((bldF 0 [] names).map Pst.tag) tags9 hr.nd (fun t ht => by
    obtain ⟨x, hx, rfl⟩ := List.mem_map.1 ht
    have g := hr.el x hx
    obtain ⟨n, hn, ht⟩ := ids_ne (by rw [← g.1]; exact g.2 : ids names x.tag ≠ [])
    have ho := h.ok n hn
    simp only [nameOk, Bool.and_eq_true] at ho
    exact tags9_mem (nameF_tags n none ho.1 _ ht) ((h2 n hn).2 _ ht))
  rw [List.length_map] at this
  have h9 : tags9.length = 9 := rfl
  omega
theorem sorted_ext {α : Type} {R : α → α → Prop} (hirr : ∀ a, ¬ R a a) (htr : ∀ a b c, R a b → R b c → R a c) : ∀ (xs ys : List α), xs.Pairwise R → ys.Pairwise R → (∀ a, a ∈ xs ↔ a ∈ ys) → xs = ys := by
  intro xs
  induction xs with
  | nil =>
    intro ys _ _ h
    cases ys with
    | nil => rfl
    | cons y ys => exact absurd ((h y).2 (by simp)) (by simp)
  | cons x xs ih =>
    intro ys hx hy h
    cases ys with
    | nil => exact absurd ((h x).1 (by simp)) (by simp)
    | cons y ys =>
      rw [List.pairwise_cons] at hx hy
      have hxy : x = y := by
        have h1 := (h x).1 (by simp)
        have h2 := (h y).2 (by simp)
        rcases List.mem_cons.1 h1 with h1 | h1
        · exact h1
        · rcases List.mem_cons.1 h2 with h2 | h2
          · exact h2.symm
          · exact absurd (htr _ _ _ (hy.1 x h1) (hx.1 y h2)) (hirr y)
      subst hxy
      congr 1
      refine ih ys hx.2 hy.2 (fun a => ⟨fun ha => ?_, fun ha => ?_⟩)
      · rcases List.mem_cons.1 ((h a).1 (by simp [ha])) with rfl | h1
        · exact absurd (hx.1 _ ha) (hirr _)
        · exact h1
      · rcases List.mem_cons.1 ((h a).2 (by simp [ha])) with rfl | h1
        · exact absurd (hy.1 _ ha) (hirr _)
        · exact h1
theorem sort_idx {names : List (List Tag)} (h : NmI names) (_h2 : NsD names) {xs zs : List Pst} (hp : zs.Perm xs) (hs : zs.Pairwise Le) (he : xs = bldF 0 [] names) : (⟨names, zs⟩ : Idx) = idxOf names := by
  have hr := RepP.all0 h
  rw [← he] at hr
  unfold idxOf
  congr 1
  have hnd : (zs.map Pst.tag).Nodup := (hp.map Pst.tag).nodup_iff.2 hr.nd
  have hz : zs.Pairwise (fun a b => tagLt a.tag b.tag = true) := by
    rw [List.pairwise_iff_getElem] at hs ⊢
    intro i j hi hj hij
    have h1 := hs i j hi hj hij
    unfold Le at h1
    rw [cmpP_lt] at h1
    cases h3 : tagLt zs[i].tag zs[j].tag with
    | true => rfl
    | false =>
      have e := tagLt_tri h3 (by simpa using h1)
      have h5 : (zs.map Pst.tag)[i]'(by simpa using hi) = (zs.map Pst.tag)[j]'(by simpa using hj) := by simpa using e
      have := (List.getElem_inj (h₀ := by simpa using hi) (h₁ := by simpa using hj) hnd).1 h5
      omega
  refine sorted_ext (R := fun (a b : Pst) => tagLt a.tag b.tag = true) (fun a ha => by rw [tagLt_irr] at ha; cases ha) (fun a b c => tagLt_trans) zs (postsOf names) hz (posts_sorted names) (fun p => ⟨fun hpz => ?_, fun hpp => ?_⟩)
  · have g := hr.el p (hp.mem_iff.1 hpz)
    obtain ⟨n, hn, ht⟩ := ids_ne (by rw [← g.1]; exact g.2 : ids names p.tag ≠ [])
    have := posts_in (names := names) ((nameOk_nodup (h.ok n hn)).2 _ ht) (by rw [← g.1]; exact List.length_pos_iff.2 g.2)
    rw [← g.1] at this
    exact this
  · obtain ⟨g1, g2, _⟩ := posts_mem hpp
    obtain ⟨x, hx, hxt⟩ := hr.all p.tag (by rw [← g1]; exact List.length_pos_iff.1 g2)
    have g := hr.el x hx
    have : x = p := (pst_eq x p).2 ⟨hxt, by rw [g.1, hxt, g1]⟩
    exact this ▸ hp.mem_iff.2 hx
end Go.Proofs.YtfnpaglcnmcnbaaGreat
