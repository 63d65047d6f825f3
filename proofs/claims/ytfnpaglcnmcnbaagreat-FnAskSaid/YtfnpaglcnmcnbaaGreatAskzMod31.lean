/- What asking says: plain laws. -/
import Derived.Test.YtfnpaglcnmcnbaaGreatAskzW31
set_option linter.unusedVariables false
set_option linter.unusedSimpArgs false
namespace Go.Proofs.YtfnpaglcnmcnbaaGreat
theorem find_sub {p q : List Tag → Bool} (h : ∀ n, p n = true → q n = true) : ∀ (l : List (List Tag)) (i : Nat), (findP p i l).Sublist (findP q i l) := by
  intro l
  induction l with
  | nil => intro i; exact List.Sublist.refl _
  | cons n ns ih =>
    intro i
    unfold findP
    refine List.Sublist.append ?_ (ih (i + 1))
    split
    · rename_i hp
      rw [if_pos (h n hp)]
      exact List.Sublist.refl _
    · exact List.nil_sublist _
theorem flat_sub {α β : Type} (f : α → List β) : ∀ {l m : List α}, l.Sublist m → (l.flatMap f).Sublist (m.flatMap f) := by
  intro l m h
  induction h with
  | slnil => exact List.Sublist.refl _
  | cons a _ ih => rw [List.flatMap_cons]; exact ih.trans (List.sublist_append_right _ _)
  | cons_cons a _ ih => rw [List.flatMap_cons, List.flatMap_cons]; exact List.Sublist.append (List.Sublist.refl _) ih
theorem ask_names {p : List Tag → Bool} {s : Sto} {lo hi : Int} : ∀ (ns pre : List (List Tag)), s.idx.names = pre ++ ns → (((findP p pre.length ns).flatMap (hit1 s lo hi)).map Hit.name).Sublist (ns.map text) := by
  intro ns
  induction ns with
  | nil => intro pre _; exact List.Sublist.refl _
  | cons n ns ih =>
    intro pre h
    unfold findP
    rw [List.flatMap_append, List.map_append]
    have h2 := ih (pre ++ [n]) (by rw [h]; simp)
    rw [List.length_append] at h2
    have h3 : (([(pre.length : Int) + 1].flatMap (hit1 s lo hi)).map Hit.name).Sublist [text n] := by
      rw [List.flatMap_cons, List.flatMap_nil, List.append_nil]
      unfold hit1
      split
      · rw [show ((pre.length : Int) + 1 - 1).toNat = pre.length by omega, h]
        simp
      · exact List.nil_sublist _
    have h4 : (n :: ns).map text = [text n] ++ ns.map text := rfl
    rw [h4]
    refine List.Sublist.append ?_ h2
    split
    · exact h3
    · exact List.nil_sublist _
theorem ask_nodup {p : List Tag → Bool} {s : Sto} (h : SD s) {lo hi : Int} : ((askP p s lo hi).map Hit.name).Nodup := (ask_names s.idx.names [] rfl).nodup h.nm.nodup
theorem filt_nil : filtOk [] = true := by decide
theorem ask_sub {s : Sto} {f : List Cnd} {lo hi : Int} (hk : storeOk s = true) (hf : filtOk f = true) : (askS s f lo hi).Sublist (askS s [] lo hi) := by
  rw [askS_2 hk hf, askS_2 hk filt_nil]
  exact flat_sub _ (find_sub (fun n _ => rfl) _ _)
theorem subHit {A B : List Hit} {i k : Nat} {a b : Hit} (hn : (A.map Hit.name).Nodup) (h : (B.drop k).Sublist (A.drop i)) (ha : A.drop i = a :: A.drop (i + 1)) (hb : B.drop k = b :: B.drop (k + 1)) :
    (a.name = b.name → a.rows = b.rows ∧ (B.drop (k + 1)).Sublist (A.drop (i + 1))) ∧ (a.name ≠ b.name → (B.drop k).Sublist (A.drop (i + 1))) := by
  have hn2 : ((A.drop i).map Hit.name).Nodup := by rw [List.map_drop]; exact (List.drop_sublist _ _).nodup hn
  rw [ha] at hn2
  rw [List.map_cons, List.nodup_cons] at hn2
  rw [ha, hb] at h
  constructor
  · intro e
    cases h with
    | cons _ h2 =>
      exact absurd (List.mem_map_of_mem (f := Hit.name) (h2.subset (List.mem_cons_self))) (by rw [← e]; exact hn2.1)
    | cons_cons _ h2 => exact ⟨rfl, h2⟩
  · intro e
    cases h with
    | cons _ h2 => rw [hb]; exact h2
    | cons_cons _ h2 => exact absurd rfl e
theorem subEnd {A B : List Hit} {i k : Nat} (h : (B.drop k).Sublist (A.drop i)) (hk : k ≤ B.length) (he : A.length ≤ i ∨ B.length ≤ k) : k = B.length := by
  rcases he with he | he
  · rw [drop_end he] at h
    have := List.drop_eq_nil_iff.1 (List.sublist_nil.1 h)
    omega
  · omega
def rowsN (h : List Hit) : Nat := (h.map (fun x => x.rows.length)).sum
theorem rowsN_take {l : List Hit} {i : Nat} {x : Hit} (h : l[i]? = some x) : rowsN (l.take (i + 1)) = rowsN (l.take i) + x.rows.length := lenStep (f := fun x : Hit => x.rows.length) h
theorem rowsN_all {l : List Hit} {i : Nat} (h : l.length ≤ i) : rowsN (l.take i) = rowsN l := by rw [List.take_of_length_le h]
theorem rowsN_app (a b : List Hit) : rowsN (a ++ b) = rowsN a + rowsN b := by simp [rowsN]
theorem hit1_n (s : Sto) (lo hi i : Int) : rowsN (hit1 s lo hi i) = (cutB (rowsOf s i) lo hi).length := by
  unfold hit1
  split
  · simp [rowsN]
  · simp [rowsN]; omega
theorem cut_add {t : Int} (h : 0 ≤ t ∧ t ≤ 99) (b : List Row) : (cutB b 0 99).length = (cutB b 0 t).length + (cutB b (t + 1) 99).length := by
  unfold cutB
  induction b with
  | nil => rfl
  | cons r rs ih =>
    rw [List.filter_cons, List.filter_cons, List.filter_cons]
    by_cases h1 : inR r.t 0 t = true
    · have := inR_t h1
      rw [if_pos (by unfold inR; simp; omega), if_pos h1, if_neg (by unfold inR; simp; omega)]
      simp only [List.length_cons]; omega
    · by_cases h2 : inR r.t (t + 1) 99 = true
      · have := inR_t h2
        rw [if_pos (by unfold inR; simp; omega), if_neg h1, if_pos h2]
        simp only [List.length_cons]; omega
      · have a1 := inR_f (by simpa using h1)
        have a2 := inR_f (by simpa using h2)
        rw [if_neg (by unfold inR; simp; omega), if_neg h1, if_neg h2]
        exact ih
theorem ask_cut {s : Sto} {f : List Cnd} {t : Int} (h : 0 ≤ t ∧ t ≤ 99) : rowsN (askS s f 0 99) = rowsN (askS s f 0 t) + rowsN (askS s f (t + 1) 99) := by
  unfold askS
  split
  · unfold askP
    induction findP (fits f) 0 s.idx.names with
    | nil => rfl
    | cons i is ih =>
      rw [List.flatMap_cons, List.flatMap_cons, List.flatMap_cons, rowsN_app, rowsN_app, rowsN_app, hit1_n, hit1_n, hit1_n, ih, cut_add h]
      omega
  · rfl
theorem hit1_sub {s : Sto} (h : SD s) (hk : storeOk s = true) (lo hi i : Int) : (hit1 s lo hi i).length ≤ (hit1 s 0 99 i).length := by
  unfold hit1
  split
  · rename_i h1
    rw [if_pos]
    · simp
    · obtain ⟨r, hr⟩ := List.exists_mem_of_length_pos h1
      have hr2 := (List.mem_filter.1 hr).1
      have := rowOk_t ((blk_of h hk i).rows r hr2)
      exact List.length_pos_of_mem (List.mem_filter.2 ⟨hr2, by unfold inR; simp; omega⟩)
  · simp
theorem ask_le {s : Sto} {f : List Cnd} (h : SD s) (lo hi : Int) : (askS s f lo hi).length ≤ (askS s f 0 99).length := by
  unfold askS
  split
  · rename_i hk
    simp only [Bool.and_eq_true] at hk
    unfold askP
    induction findP (fits f) 0 s.idx.names with
    | nil => exact Nat.le_refl _
    | cons i is ih =>
      rw [List.flatMap_cons, List.flatMap_cons, List.length_append, List.length_append]
      have := hit1_sub h hk.1 lo hi i
      omega
  · exact Nat.le_refl _
theorem ask_len {s : Sto} {f : List Cnd} (h : SD s) (lo hi : Int) : (askS s f lo hi).length ≤ 6 := by
  unfold askS
  split
  · unfold askP
    have h1 : ∀ (l : List Int), (l.flatMap (hit1 s lo hi)).length ≤ l.length := by
      intro l
      induction l with
      | nil => exact Nat.le_refl _
      | cons i is ih =>
        rw [List.flatMap_cons, List.length_append, List.length_cons]
        have := hit1_len s lo hi i
        omega
    have h2 := h1 (findP (fits f) 0 s.idx.names)
    have h3 := findP_len (fits f) s.idx.names 0
    have := h.nm.len
    omega
  · simp
theorem ask_rows {s : Sto} {f : List Cnd} (h : SD s) {lo hi : Int} {x : Hit} (hx : x ∈ askS s f lo hi) : x.rows.length ≤ 100 := by
  unfold askS at hx
  split at hx
  · rename_i hk
    simp only [Bool.and_eq_true] at hk
    unfold askP at hx
    obtain ⟨i, _, hi⟩ := List.mem_flatMap.1 hx
    unfold hit1 at hi
    split at hi
    · simp at hi
      subst hi
      exact Nat.le_trans (cutB_len _ _ _) (blk_of h hk.1 i).len
    · cases hi
  · cases hx
theorem rowsN_le : ∀ {l : List Hit}, (∀ x ∈ l, x.rows.length ≤ 100) → rowsN l ≤ 100 * l.length := by
  intro l
  induction l with
  | nil => intro _; simp [rowsN]
  | cons a l ih =>
    intro h
    have h1 := ih (fun x hx => h x (by simp [hx]))
    have h2 := h a (by simp)
    simp only [rowsN, List.map_cons, List.sum_cons, List.length_cons] at h1 ⊢
    omega
theorem rowsI_len100 {s : Sto} (h : SD s) (i : Int) : (rowsI s i).length ≤ 100 := by
  unfold rowsI
  split
  · rename_i h1
    exact (blk_of h h1.1 i).len
  · simp
theorem tm_lt2 (n : Nat) : 0 ≤ Int.tmod (n : Int) 100 ∧ Int.tmod (n : Int) 100 ≤ 99 := by
  have e : Int.tmod (n : Int) 100 = ((n % 100 : Nat) : Int) := rfl
  rw [e]
  omega
theorem rowsN_tk (l : List Hit) (k : Nat) : rowsN (l.take k) ≤ rowsN l := by
  have h := List.take_append_drop k l
  have : rowsN (l.take k ++ l.drop k) = rowsN (l.take k) + rowsN (l.drop k) := rowsN_app _ _
  rw [h] at this
  omega
theorem ask_bnd {s : Sto} {f : List Cnd} (h : SD s) (lo hi : Int) (k : Nat) : rowsN ((askS s f lo hi).take k) ≤ 600 ∧ rowsN (askS s f lo hi) ≤ 600 := by
  have h1 := rowsN_tk (askS s f lo hi) k
  have h2 := rowsN_le (l := askS s f lo hi) (fun x hx => ask_rows h hx)
  have h3 := ask_len (f := f) h lo hi
  omega
theorem askS_nodup {s : Sto} (h : SD s) (f : List Cnd) (lo hi : Int) : ((askS s f lo hi).map Hit.name).Nodup := by
  unfold askS
  split
  · exact ask_nodup h
  · simp
theorem filtA {s : Sto} {f : List Cnd} {lo hi : Int} {i k : Nat} {a b : Hit} (hs : SD s) (h : ((askS s f lo hi).drop k).Sublist ((askS s [] lo hi).drop i)) (ha : (askS s [] lo hi).drop i = a :: (askS s [] lo hi).drop (i + 1)) (hb : (askS s f lo hi).drop k = b :: (askS s f lo hi).drop (k + 1)) (e : (a.name == b.name) = true) :
    ((askS s f lo hi).drop (k + 1)).Sublist ((askS s [] lo hi).drop (i + 1)) := ((subHit (askS_nodup hs _ _ _) h ha hb).1 (eq_of_beq e)).2
theorem filtB {s : Sto} {f : List Cnd} {lo hi : Int} {i k : Nat} {a b : Hit} (hs : SD s) (h : ((askS s f lo hi).drop k).Sublist ((askS s [] lo hi).drop i)) (ha : (askS s [] lo hi).drop i = a :: (askS s [] lo hi).drop (i + 1)) (hb : (askS s f lo hi).drop k = b :: (askS s f lo hi).drop (k + 1)) (e : (a.name == b.name) = false) :
    ((askS s f lo hi).drop k).Sublist ((askS s [] lo hi).drop (i + 1)) := (subHit (askS_nodup hs _ _ _) h ha hb).2 (beq_eq_false_iff_ne.1 e)
theorem filtC {s : Sto} {f : List Cnd} {lo hi : Int} {i k : Nat} {a b : Hit} (hs : SD s) (h : ((askS s f lo hi).drop k).Sublist ((askS s [] lo hi).drop i)) (ha : (askS s [] lo hi).drop i = a :: (askS s [] lo hi).drop (i + 1)) (hb : (askS s f lo hi).drop k = b :: (askS s f lo hi).drop (k + 1)) (e : (a.name == b.name) = true) (hr : (a.rows == b.rows) = false) : False := by
  rw [((subHit (askS_nodup hs _ _ _) h ha hb).1 (eq_of_beq e)).1] at hr
  simp at hr
theorem rowsI_cut {s : Sto} (h : SD s) (hk : storeOk s = true) {id : Int} {p : List Tag → Bool} (hid : id ∈ findP p 0 s.idx.names) (lo hi : Int) : cutI (rowsI s id) lo hi = cutB (rowsOf s id) lo hi := by
  have := findP_in hid
  rw [rowsI_in hk this.1 this.2, cutI_rows h hk this.1 this.2]
def askInv (s : Sto) (f : List Cnd) (lo hi : Int) (i k : Nat) : Prop := ((findP (fitsI f) 0 s.idx.names).drop i).flatMap (hit1 s lo hi) = (askS s f lo hi).drop k
theorem askInv.start {s : Sto} {f : List Cnd} {lo hi : Int} (h : SD s) (hk : storeOk s = true) : askInv s f lo hi 0 0 := by
  unfold askInv
  rw [askS_I h hk]
  rfl
theorem askInv.skip {s : Sto} {f : List Cnd} {lo hi : Int} {i k : Nat} {id : Int} (h : askInv s f lo hi i k) (hs : SD s) (hk : storeOk s = true) (hd : (findP (fitsI f) 0 s.idx.names).drop i = id :: (findP (fitsI f) 0 s.idx.names).drop (i + 1)) (hl : ((cutI (rowsI s id) lo hi).length : Int) = 0) : askInv s f lo hi (i + 1) k := by
  have hm : id ∈ findP (fitsI f) 0 s.idx.names := List.mem_of_mem_drop (by rw [hd]; simp)
  rw [rowsI_cut hs hk hm] at hl
  unfold askInv at h ⊢
  rw [hd, List.flatMap_cons] at h
  have e : hit1 s lo hi id = [] := by unfold hit1; rw [if_neg (by omega)]
  rw [e, List.nil_append] at h
  exact h
theorem askInv.hit {s : Sto} {f : List Cnd} {lo hi : Int} {i k : Nat} {id : Int} (h : askInv s f lo hi i k) (hs : SD s) (hk : storeOk s = true) (hd : (findP (fitsI f) 0 s.idx.names).drop i = id :: (findP (fitsI f) 0 s.idx.names).drop (i + 1)) (hl : ((cutI (rowsI s id) lo hi).length : Int) ≠ 0) {n : List Tag} (hn : s.idx.names[(id - 1).toNat]? = some n) :
    (askS s f lo hi)[k]? = some ⟨textI n, cutI (rowsI s id) lo hi⟩ ∧ askInv s f lo hi (i + 1) (k + 1) := by
  have hm : id ∈ findP (fitsI f) 0 s.idx.names := List.mem_of_mem_drop (by rw [hd]; simp)
  rw [rowsI_cut hs hk hm] at hl ⊢
  unfold askInv at h ⊢
  rw [hd, List.flatMap_cons] at h
  have e : hit1 s lo hi id = [⟨textI n, cutB (rowsOf s id) lo hi⟩] := by
    unfold hit1
    rw [if_pos (by omega), List.getD_eq_getElem?_getD, hn, textI_ok (hs.nm.ok n (List.mem_of_getElem? hn))]
    rfl
  rw [e, List.cons_append, List.nil_append] at h
  constructor
  · have := congrArg (fun l => l[0]?) h
    simp only [List.getElem?_cons_zero, List.getElem?_drop, Nat.add_zero] at this
    exact this.symm
  · have := congrArg List.tail h
    rw [List.tail_cons, List.tail_drop] at this
    exact this
theorem askInv.fin {s : Sto} {f : List Cnd} {lo hi : Int} {i k : Nat} (h : askInv s f lo hi i k) (hi2 : (findP (fitsI f) 0 s.idx.names).length ≤ i) : (askS s f lo hi).length ≤ k := by
  unfold askInv at h
  rw [drop_end hi2] at h
  have := congrArg List.length h
  simp only [List.flatMap_nil, List.length_nil, List.length_drop] at this
  omega
theorem askInv.no1 {s : Sto} {f : List Cnd} {lo hi : Int} {i k : Nat} {id : Int} (h : askInv s f lo hi i k) (hs : SD s) (hk : storeOk s = true) (hd : (findP (fitsI f) 0 s.idx.names).drop i = id :: (findP (fitsI f) 0 s.idx.names).drop (i + 1)) (hl : ((cutI (rowsI s id) lo hi).length : Int) ≠ 0) (hb : (k : Int) ≥ ((askS s f lo hi).length : Int)) : False := by
  have hm : id ∈ findP (fitsI f) 0 s.idx.names := List.mem_of_mem_drop (by rw [hd]; simp)
  have h2 := findP_in hm
  obtain ⟨n, hn⟩ : ∃ n, s.idx.names[(id - 1).toNat]? = some n := ⟨_, List.getElem?_eq_getElem (by omega)⟩
  have h3 := (List.getElem?_eq_some_iff.1 (h.hit hs hk hd hl hn).1).1
  omega
theorem askInv.no2 {s : Sto} {f : List Cnd} {lo hi : Int} {i k : Nat} {id : Int} (h : askInv s f lo hi i k) (hs : SD s) (hk : storeOk s = true) (hd : (findP (fitsI f) 0 s.idx.names).drop i = id :: (findP (fitsI f) 0 s.idx.names).drop (i + 1)) (hl : ((cutI (rowsI s id) lo hi).length : Int) ≠ 0) {n : List Tag} (hn : s.idx.names[(id - 1).toNat]? = some n) {b : Hit} (hb : (askS s f lo hi)[k]? = some b)
    (hf : (b.name == textI n) = false ∨ (b.name != textI n) = true ∨ (b.rows == cutI (rowsI s id) lo hi) = false) : False := by
  have h3 := (h.hit hs hk hd hl hn).1
  rw [hb] at h3
  simp only [Option.some.injEq] at h3
  subst h3
  rcases hf with hf | hf | hf <;> simp at hf
end Go.Proofs.YtfnpaglcnmcnbaaGreat
