/- Blocks looked up by times; flushing and merging change nothing that is told: plain laws. -/
import Derived.Test.YtfnpaglcnmcnbaaGreatFluzW22
set_option linter.unusedVariables false
set_option linter.unusedSimpArgs false
namespace Go.Proofs.YtfnpaglcnmcnbaaGreat
def look (t : Int) (b : List Row) : Option Row := b.find? (fun r => r.t == t)
theorem look_cons (t : Int) (r : Row) (b : List Row) : look t (r :: b) = if r.t = t then some r else look t b := by
  unfold look
  rw [List.find?_cons]
  by_cases h : r.t = t
  · simp [h]
  · have : (r.t == t) = false := beq_eq_false_iff_ne.2 h
    rw [this, if_neg h]
theorem look_ins (t : Int) (r : Row) : ∀ (b : List Row), look t (insR r b) = if r.t = t then some r else look t b := by
  intro b
  induction b with
  | nil => unfold insR; rw [look_cons]
  | cons x xs ih =>
    unfold insR
    by_cases h1 : r.t < x.t
    · rw [if_pos h1, look_cons]
    · rw [if_neg h1]
      by_cases h2 : r.t = x.t
      · rw [if_pos h2, look_cons, look_cons]
        by_cases h : r.t = t
        · rw [if_pos h, if_pos h]
        · rw [if_neg h, if_neg h, if_neg (by omega)]
      · rw [if_neg h2, look_cons, ih, look_cons]
        by_cases h : r.t = t
        · rw [if_pos h, if_neg (by omega), if_pos h]
        · rw [if_neg h, if_neg h]
theorem Blk.tl {r : Row} {b : List Row} (h : Blk (r :: b)) : Blk b ∧ rowOk r = true ∧ ∀ q ∈ b, r.t < q.t := by
  obtain ⟨h1, _, h3⟩ := blockF_cons.1 h
  exact ⟨blockF_none h3, h1, blockF_gt b r h3⟩
theorem look_none {t : Int} : ∀ {b : List Row}, (∀ q ∈ b, t ≠ q.t) → look t b = none := by
  intro b
  induction b with
  | nil => intro _; rfl
  | cons x xs ih =>
    intro h
    rw [look_cons, if_neg (fun e => h x (by simp) e.symm)]
    exact ih (fun q hq => h q (by simp [hq]))
theorem look_t {t : Int} {q : Row} : ∀ {b : List Row}, look t b = some q → q.t = t ∧ q ∈ b := by
  intro b h
  have h1 := List.find?_some h
  exact ⟨by simpa using h1, List.mem_of_find?_eq_some h⟩
theorem look_merge (t : Int) : ∀ {b : List Row} (o : List Row), Blk o → Blk b → look t (sMerge o b) = (look t b).or (look t o) := by
  intro b
  induction b with
  | nil => intro o _ _; rfl
  | cons x xs ih =>
    intro o ho hb
    obtain ⟨h1, h2, h3⟩ := hb.tl
    have e : sMerge o (x :: xs) = sMerge (sPut o x) xs := rfl
    rw [e, ih _ (ho.put h2) h1, sPut_ins ho, look_ins, look_cons]
    by_cases h : x.t = t
    · rw [if_pos h, if_pos h, look_none (fun q hq => by have := h3 q hq; omega)]
      rfl
    · rw [if_neg h, if_neg h]
theorem look_ext : ∀ {a b : List Row}, Blk a → Blk b → (∀ t, look t a = look t b) → a = b := by
  intro a
  induction a with
  | nil =>
    intro b _ _ h
    cases b with
    | nil => rfl
    | cons y ys =>
      have := h y.t
      rw [look_cons, if_pos rfl] at this
      cases this
  | cons x xs ih =>
    intro b ha hb h
    cases b with
    | nil =>
      have := h x.t
      rw [look_cons, if_pos rfl] at this
      cases this
    | cons y ys =>
      obtain ⟨a1, _, a3⟩ := ha.tl
      obtain ⟨b1, _, b3⟩ := hb.tl
      have hx := h x.t
      have hy := h y.t
      rw [look_cons, if_pos rfl, look_cons] at hx
      rw [look_cons, look_cons, if_pos rfl] at hy
      by_cases e : x.t = y.t
      · rw [if_pos e.symm] at hx
        cases hx
        congr 1
        refine ih a1 b1 (fun t => ?_)
        have ht := h t
        rw [look_cons, look_cons] at ht
        by_cases e2 : x.t = t
        · rw [look_none (fun q hq => by have := a3 q hq; omega), look_none (fun q hq => by have := b3 q hq; omega)]
        · rw [if_neg e2, if_neg e2] at ht
          exact ht
      · rw [if_neg (fun e2 => e e2.symm)] at hx
        rw [if_neg e] at hy
        have h1 := b3 x (look_t hx.symm).2
        have h2 := a3 y (look_t hy).2
        omega
theorem look_le : ∀ {b a : List Row}, Blk a → Blk b → (∀ t, (look t a).isSome = true → (look t b).isSome = true) → a.length ≤ b.length := by
  intro b
  induction b with
  | nil =>
    intro a _ _ h
    cases a with
    | nil => exact Nat.le_refl _
    | cons x xs =>
      have := h x.t (by rw [look_cons, if_pos rfl]; rfl)
      cases this
  | cons y ys ih =>
    intro a ha hb h
    obtain ⟨b1, _, b3⟩ := hb.tl
    cases a with
    | nil => simp
    | cons x xs =>
      obtain ⟨a1, _, a3⟩ := ha.tl
      have hx := h x.t (by rw [look_cons, if_pos rfl]; rfl)
      rw [look_cons] at hx
      by_cases e : y.t = x.t
      · simp only [List.length_cons]
        refine Nat.succ_le_succ (ih a1 b1 (fun t ht => ?_))
        obtain ⟨q, hq⟩ := Option.isSome_iff_exists.1 ht
        have hq2 := look_t hq
        have h4 := a3 q hq2.2
        have h5 := h t (by rw [look_cons, if_neg (by omega)]; exact ht)
        rw [look_cons, if_neg (by omega)] at h5
        exact h5
      · rw [if_neg e] at hx
        obtain ⟨q, hq⟩ := Option.isSome_iff_exists.1 hx
        have hq2 := look_t hq
        have h4 := b3 q hq2.2
        refine Nat.le_succ_of_le (ih ha b1 (fun t ht => ?_))
        obtain ⟨u, hu⟩ := Option.isSome_iff_exists.1 ht
        have hu2 := look_t hu
        have h6 : x.t ≤ u.t := by
          rcases List.mem_cons.1 hu2.2 with e2 | hm
          · rw [e2]; exact Int.le_refl _
          · have := a3 u hm; omega
        have h5 := h t ht
        rw [look_cons, if_neg (by omega)] at h5
        exact h5
theorem makeF_of (id : Int) : ∀ (bs : List (List Row)) (i : Nat), partF id (makeF i bs).1 (makeF i bs).2 = if (i : Int) + 1 ≤ id then bs.getD (id - i - 1).toNat [] else [] := by
  intro bs
  induction bs with
  | nil => intro i; simp [makeF, partF]
  | cons b bs ih =>
    intro i
    have h1 := ih (i + 1)
    unfold makeF
    by_cases hb : b.length > 0
    · rw [if_pos hb]
      unfold partF
      by_cases he : (i : Int) + 1 = id
      · rw [if_pos (by simpa using he), if_pos (by omega), show (id - i - 1).toNat = 0 by omega]
        rfl
      · rw [if_neg (by simpa using he), h1]
        by_cases h2 : (i : Int) + 1 ≤ id
        · rw [if_pos (by omega), if_pos h2, show (id - i - 1).toNat = (id - (i + 1 : Nat) - 1).toNat + 1 by omega]
          rfl
        · rw [if_neg (by omega), if_neg h2]
    · rw [if_neg hb, h1]
      have : b = [] := List.length_eq_zero_iff.1 (by omega)
      subst this
      by_cases h2 : (i : Int) + 1 ≤ id
      · rw [if_pos h2]
        by_cases he : (i : Int) + 1 = id
        · rw [if_neg (by omega), show (id - i - 1).toNat = 0 by omega]
          rfl
        · rw [if_pos (by omega), show (id - i - 1).toNat = (id - (i + 1 : Nat) - 1).toNat + 1 by omega]
          rfl
      · rw [if_neg (by omega), if_neg h2]
theorem pMake_of (bs : List (List Row)) {id : Int} (h : 1 ≤ id) : partOf (pMake bs) id = bs.getD (id - 1).toNat [] := by
  unfold partOf pMake
  have := makeF_of id bs 0
  rw [if_pos (by omega)] at this
  rw [this, show (id - (0 : Nat) - 1) = id - 1 by omega]
theorem makeF_snoc : ∀ (bs : List (List Row)) (i : Nat) (b : List Row), makeF i (bs ++ [b]) = if b.length > 0 then ((makeF i bs).1 ++ [(i : Int) + bs.length + 1], (makeF i bs).2 ++ [b]) else makeF i bs := by
  intro bs
  induction bs with
  | nil => intro i b; simp [makeF]
  | cons x xs ih =>
    intro i b
    rw [List.cons_append]
    have h1 := ih (i + 1) b
    unfold makeF
    rw [h1]
    by_cases hb : b.length > 0
    · rw [if_pos hb, if_pos hb]
      simp only [List.length_cons]
      split <;> simp <;> omega
    · rw [if_neg hb, if_neg hb]
def memS (mem : List Smp) : Sto := ⟨⟨[], []⟩, [], mem⟩
def memL (mem : List Smp) (n : Nat) : List (List Row) := (List.range n).map (fun (i : Nat) => rowsOf (memS mem) ((i : Int) + 1))
theorem memL_len (mem : List Smp) (n : Nat) : (memL mem n).length = n := by simp [memL]
theorem memL_succ (mem : List Smp) (n : Nat) : memL mem (n + 1) = memL mem n ++ [rowsOf (memS mem) ((n : Int) + 1)] := by simp [memL, List.range_succ]
theorem memL_snoc (mem : List Smp) (m : Smp) (h : 1 ≤ m.id ∧ m.id ≤ 6) : memL (mem ++ [m]) 6 = memF (memL mem 6) m := by
  have key : ∀ id : Int, rowsOf (memS (mem ++ [m])) id = rowsM id (rowsOf (memS mem) id) m := fun id => by
    unfold rowsOf memS
    simp only [List.foldl_append, List.foldl_cons, List.foldl_nil]
  refine List.ext_getElem? (fun i => ?_)
  unfold memF
  rw [List.getElem?_set]
  by_cases hi : i < 6
  · have e : ∀ mem : List Smp, (memL mem 6)[i]? = some (rowsOf (memS mem) ((i : Int) + 1)) := fun mem => by unfold memL; rw [List.getElem?_map, List.getElem?_range hi]; rfl
    rw [e, key]
    by_cases h2 : (m.id - 1).toNat = i
    · rw [if_pos h2, if_pos (by rw [memL_len]; omega), List.getD_eq_getElem?_getD, h2, e]
      unfold rowsM
      rw [if_pos (by simp; omega)]
      rfl
    · rw [if_neg h2, e]
      unfold rowsM
      rw [if_neg (by simp; omega)]
  · rw [List.getElem?_eq_none (by rw [memL_len]; omega), if_neg (by omega), List.getElem?_eq_none (by rw [memL_len]; omega)]
theorem memL_eq {mem : List Smp} (h : ∀ m ∈ mem, 1 ≤ m.id ∧ m.id ≤ 6) : mem.foldl memF [[], [], [], [], [], []] = memL mem 6 := by
  have key : ∀ (ms pre : List Smp), (∀ m ∈ ms, 1 ≤ m.id ∧ m.id ≤ 6) → ms.foldl memF (memL pre 6) = memL (pre ++ ms) 6 := by
    intro ms
    induction ms with
    | nil => intro pre _; simp
    | cons m ms ih =>
      intro pre h
      rw [List.foldl_cons, ← memL_snoc pre m (h m (by simp)), ih (pre ++ [m]) (fun q hq => h q (by simp [hq]))]
      simp
  have := key mem [] h
  rw [List.nil_append] at this
  rw [← this]
  rfl
theorem memPart_eq {mem : List Smp} (h : ∀ m ∈ mem, 1 ≤ m.id ∧ m.id ≤ 6) : memPart mem = pMake (memL mem 6) := by unfold memPart; rw [memL_eq h]
theorem memPart_of {mem : List Smp} (h : ∀ m ∈ mem, 1 ≤ m.id ∧ m.id ≤ 6) {id : Int} (h1 : 1 ≤ id) (h2 : id ≤ 6) : partOf (memPart mem) id = rowsOf (memS mem) id := by
  rw [memPart_eq h, pMake_of _ h1, List.getD_eq_getElem?_getD]
  unfold memL
  rw [List.getElem?_map, List.getElem?_range (by omega)]
  simp only [Option.map_some, Option.getD_some]
  rw [show (((id - 1).toNat : Nat) : Int) + 1 = id by omega]
def lastM (t id : Int) (mem : List Smp) (x : Option Row) : Option Row := mem.foldl (fun acc m => if m.id = id ∧ m.row.t = t then some m.row else acc) x
theorem lastM_or (t id : Int) : ∀ (mem : List Smp) (x : Option Row), lastM t id mem x = (lastM t id mem none).or x := by
  intro mem
  induction mem with
  | nil => intro x; rfl
  | cons m ms ih =>
    intro x
    unfold lastM at ih ⊢
    rw [List.foldl_cons, List.foldl_cons]
    by_cases h : m.id = id ∧ m.row.t = t
    · rw [if_pos h, if_pos h, ih (some m.row)]
      cases List.foldl (fun acc m => if m.id = id ∧ m.row.t = t then some m.row else acc) none ms <;> rfl
    · rw [if_neg h, if_neg h, ih x]
theorem look_mem (t id : Int) : ∀ (mem : List Smp) (o : List Row), (∀ m ∈ mem, rowOk m.row = true) → Blk o → look t (mem.foldl (rowsM id) o) = lastM t id mem (look t o) ∧ Blk (mem.foldl (rowsM id) o) := by
  intro mem
  induction mem with
  | nil => intro o _ ho; exact ⟨rfl, ho⟩
  | cons m ms ih =>
    intro o h ho
    have h1 : Blk (rowsM id o m) := by
      unfold rowsM
      split
      · exact ho.put (h m (by simp))
      · exact ho
    obtain ⟨h2, h3⟩ := ih (rowsM id o m) (fun q hq => h q (by simp [hq])) h1
    refine ⟨?_, h3⟩
    rw [List.foldl_cons, h2]
    unfold lastM
    rw [List.foldl_cons]
    congr 1
    by_cases hid : m.id = id
    · rw [rowsM_hit hid ho, look_ins]
      by_cases ht : m.row.t = t
      · rw [if_pos ht, if_pos ⟨hid, ht⟩]
      · rw [if_neg ht, if_neg (fun e => ht e.2)]
    · rw [rowsM_no hid, if_neg (fun e => hid e.1)]
theorem mem_merge {id : Int} {mem : List Smp} {o : List Row} (h : ∀ m ∈ mem, rowOk m.row = true) (ho : Blk o) : mem.foldl (rowsM id) o = sMerge o (rowsOf (memS mem) id) := by
  have a := fun t => (look_mem t id mem o h ho).1
  have b := fun t => (look_mem t id mem [] h Blk.nil).1
  have bb : Blk (rowsOf (memS mem) id) := (look_mem 0 id mem [] h Blk.nil).2
  refine look_ext (look_mem 0 id mem o h ho).2 (ho.merge bb) (fun t => ?_)
  rw [a, look_merge t _ ho bb]
  have e : look t (rowsOf (memS mem) id) = lastM t id mem none := b t
  rw [e, ← lastM_or]
def flushX (s : Sto) : Sto := ⟨s.idx, s.parts ++ [memPart s.mem], []⟩
theorem parts_blk {id : Int} : ∀ {ps : List Prt} {o : List Row}, (∀ p ∈ ps, PrtI p) → Blk o → Blk (ps.foldl (rowsP id) o) := by
  intro ps
  induction ps with
  | nil => intro o _ ho; exact ho
  | cons p ps ih => intro o hp ho; exact ih (fun q hq => hp q (by simp [hq])) (ho.merge ((hp p (by simp)).of id))
theorem flush_rows {s : Sto} (h : StoK s) {id : Int} (h1 : 1 ≤ id) (h2 : id ≤ 6) : rowsOf (flushX s) id = rowsOf s id := by
  unfold rowsOf flushX
  simp only [List.foldl_append, List.foldl_cons, List.foldl_nil]
  have hb : Blk (s.parts.foldl (rowsP id) []) := parts_blk h.sd.part Blk.nil
  rw [mem_merge h.row hb]
  unfold rowsP
  rw [memPart_of h.stoI.mem6 h1 h2]
theorem rows_ge {s : Sto} (h : StoK s) (id t : Int) : ((look t (s.parts.foldl (rowsP id) [])).isSome = true ∨ (look t (rowsOf (memS s.mem) id)).isSome = true) → (look t (rowsOf s id)).isSome = true := by
  intro h1
  have hb : Blk (s.parts.foldl (rowsP id) []) := parts_blk h.sd.part Blk.nil
  have bb : Blk (rowsOf (memS s.mem) id) := (look_mem 0 id s.mem [] h.row Blk.nil).2
  have e : rowsOf s id = sMerge (s.parts.foldl (rowsP id) []) (rowsOf (memS s.mem) id) := mem_merge h.row hb
  rw [e, look_merge t _ hb bb]
  rcases h1 with h1 | h1
  · cases look t (rowsOf (memS s.mem) id) with
    | none => exact h1
    | some q => rfl
  · obtain ⟨q, hq⟩ := Option.isSome_iff_exists.1 h1
    rw [hq]; rfl
theorem mem_len {s : Sto} (h : StoK s) {id : Int} (h24 : (rowsOf s id).length ≤ 24) : (rowsOf (memS s.mem) id).length ≤ 24 := by
  have hb : Blk (s.parts.foldl (rowsP id) []) := parts_blk h.sd.part Blk.nil
  have bb : Blk (rowsOf (memS s.mem) id) := (look_mem 0 id s.mem [] h.row Blk.nil).2
  have e : rowsOf s id = sMerge (s.parts.foldl (rowsP id) []) (rowsOf (memS s.mem) id) := mem_merge h.row hb
  refine Nat.le_trans (look_le bb (b := rowsOf s id) ?_ (fun t ht => rows_ge h id t (.inr ht))) h24
  rw [e]
  exact hb.merge bb
theorem makeF_ok : ∀ (bs : List (List Row)) (i : Nat) (o : Option Int), (∀ b ∈ bs, Blk b ∧ b.length ≤ 24) → i + bs.length ≤ 6 → (∀ q, o = some q → q ≤ i) → partG o (makeF i bs).1 (makeF i bs).2 = true := by
  intro bs
  induction bs with
  | nil => intro i o _ _ _; rfl
  | cons b bs ih =>
    intro i o h hl ho
    simp only [List.length_cons] at hl
    unfold makeF
    by_cases hb : b.length > 0
    · rw [if_pos hb]
      unfold partG
      have h1 := ih (i + 1) (some ((i : Int) + 1)) (fun x hx => h x (by simp [hx])) (by omega) (fun q hq => by cases hq; omega)
      obtain ⟨h2, h3⟩ := h b (by simp)
      have h4 : blockOk b = true := by
        unfold blockOk
        have h2' : blockF none b = true := h2
        rw [h2', Bool.true_and, decide_eq_true_eq]; exact h3
      rw [h1, h4, decide_eq_true hb]
      have h5 : inR ((i : Int) + 1) 1 6 = true := by unfold inR; simp; omega
      rw [h5]
      cases o with
      | none => rfl
      | some q =>
        have := ho q rfl
        simp
        omega
    · rw [if_neg hb]
      exact ih (i + 1) o (fun x hx => h x (by simp [hx])) (by omega) (fun q hq => by have := ho q hq; omega)
theorem pMake_ok {bs : List (List Row)} (h : ∀ b ∈ bs, Blk b ∧ b.length ≤ 24) (hl : bs.length ≤ 6) : partOk (pMake bs) = true := by
  unfold partOk
  have h1 := (makeF_len bs 0).1
  have h2 := makeF_ok bs 0 none h (by omega) (by simp)
  have h3 : partG none (pMake bs).ids (pMake bs).blocks = true := h2
  have h4 : (pMake bs).ids.length = (pMake bs).blocks.length := h1
  rw [h3, decide_eq_true h4]
  rfl
theorem makeF_ids : ∀ (bs : List (List Row)) (i : Nat) (x : Int), x ∈ (makeF i bs).1 → ∃ k : Nat, x = (i : Int) + k + 1 ∧ ∃ b, bs[k]? = some b ∧ 0 < b.length := by
  intro bs
  induction bs with
  | nil => intro i x h; simp [makeF] at h
  | cons b bs ih =>
    intro i x h
    unfold makeF at h
    by_cases hb : b.length > 0
    · rw [if_pos hb] at h
      rcases List.mem_cons.1 h with rfl | h
      · exact ⟨0, by simp, b, rfl, hb⟩
      · obtain ⟨k, h1, c, h2, h3⟩ := ih (i + 1) x h
        exact ⟨k + 1, by rw [h1]; push_cast; omega, c, by simpa using h2, h3⟩
    · rw [if_neg hb] at h
      obtain ⟨k, h1, c, h2, h3⟩ := ih (i + 1) x h
      exact ⟨k + 1, by rw [h1]; push_cast; omega, c, by simpa using h2, h3⟩
theorem makeF_some : ∀ (bs : List (List Row)) (i : Nat), (∃ b ∈ bs, 0 < b.length) → (makeF i bs).1 ≠ [] := by
  intro bs
  induction bs with
  | nil => rintro i ⟨b, hb, _⟩; cases hb
  | cons c bs ih =>
    rintro i ⟨b, hb, hl⟩
    unfold makeF
    by_cases hc : c.length > 0
    · rw [if_pos hc]; simp
    · rw [if_neg hc]
      rcases List.mem_cons.1 hb with rfl | hb
      · exact absurd hl hc
      · exact ih (i + 1) ⟨b, hb, hl⟩
theorem pMake_in {bs : List (List Row)} {n : Nat} (h : ∀ b ∈ bs, Blk b ∧ b.length ≤ 24) (hl : bs.length ≤ 6) (h1 : ∃ b ∈ bs, 0 < b.length) (h2 : ∀ k b, bs[k]? = some b → 0 < b.length → k < n) : partIn (pMake bs) n = true := by
  unfold partIn
  rw [pMake_ok h hl, Bool.true_and]
  cases hx : (pMake bs).ids.getLast? with
  | none => exact absurd (List.getLast?_eq_none_iff.1 hx) (makeF_some bs 0 h1)
  | some x =>
    obtain ⟨k, e, b, hb, hb2⟩ := makeF_ids bs 0 x (List.mem_of_getLast? hx)
    have := h2 k b hb hb2
    simp
    omega
theorem memL_pos {mem : List Smp} (h : ∀ m ∈ mem, 1 ≤ m.id ∧ m.id ≤ 6 ∧ rowOk m.row = true) (hm : mem ≠ []) : ∃ b ∈ memL mem 6, 0 < b.length := by
  obtain ⟨m, hl⟩ : ∃ m, m ∈ mem := List.exists_mem_of_ne_nil mem hm
  have hid := h m hl
  have hr : ∀ m ∈ mem, rowOk m.row = true := fun m hm => (h m hm).2.2
  refine ⟨rowsOf (memS mem) m.id, ?_, ?_⟩
  · unfold memL
    refine List.mem_map.2 ⟨(m.id - 1).toNat, by simp; omega, ?_⟩
    rw [show (((m.id - 1).toNat : Nat) : Int) + 1 = m.id by omega]
  · have h1 : (look m.row.t (rowsOf (memS mem) m.id)).isSome = true := by
      have e : look m.row.t (rowsOf (memS mem) m.id) = lastM m.row.t m.id mem none := (look_mem m.row.t m.id mem [] hr Blk.nil).1
      rw [e]
      have key : ∀ (ms : List Smp) (x : Option Row), x.isSome = true ∨ m ∈ ms → (lastM m.row.t m.id ms x).isSome = true := by
        intro ms
        induction ms with
        | nil => intro x hx; rcases hx with hx | hx; exact hx; cases hx
        | cons c cs ih =>
          intro x hx
          unfold lastM at ih ⊢
          rw [List.foldl_cons]
          by_cases hc : c.id = m.id ∧ c.row.t = m.row.t
          · rw [if_pos hc]; exact ih _ (.inl rfl)
          · rw [if_neg hc]
            rcases hx with hx | hx
            · exact ih _ (.inl hx)
            · rcases List.mem_cons.1 hx with rfl | hx
              · exact absurd ⟨rfl, rfl⟩ hc
              · exact ih _ (.inr hx)
      exact key mem none (.inr hl)
    obtain ⟨q, hq⟩ := Option.isSome_iff_exists.1 h1
    exact List.length_pos_of_mem (look_t hq).2
theorem rows_no {s : Sto} (h : StoK s) {id : Int} (hi : (s.idx.names.length : Int) < id) : rowsOf (memS s.mem) id = [] := by
  have key : ∀ (mem : List Smp) (o : List Row), (∀ m ∈ mem, m.id ≠ id) → mem.foldl (rowsM id) o = o := by
    intro mem
    induction mem with
    | nil => intro o _; rfl
    | cons m ms ih =>
      intro o h
      rw [List.foldl_cons, rowsM_no (h m (by simp))]
      exact ih o (fun x hx => h x (by simp [hx]))
  exact key s.mem [] (fun m hm => by have := (h.id m hm).2; omega)
theorem flush_ok {s : Sto} (h : SD s) (hk : storeOk s = true) (h1 : s.mem ≠ []) (h2 : s.parts.length < 6) : storeOk (flushX s) = true := by
  have hK := StoK.of h hk
  have hk2 := hk
  unfold storeOk at hk2 ⊢
  simp only [Bool.and_eq_true, decide_eq_true_eq, List.all_eq_true, List.mem_range, cntOk] at hk2 ⊢
  obtain ⟨⟨⟨⟨a1, a2⟩, a3⟩, a4⟩, a5⟩ := hk2
  have hn := h.nm.len
  have h24 : ∀ i < s.idx.names.length, (rowsOf (memS s.mem) ((i : Int) + 1)).length ≤ 24 := fun i hi => mem_len hK (a5 i hi)
  have hpos : ∀ k b, (memL s.mem 6)[k]? = some b → 0 < b.length → k < s.idx.names.length := fun k b hb hl => by
    unfold memL at hb
    rw [List.getElem?_map] at hb
    by_cases hk6 : k < 6
    · rw [List.getElem?_range hk6] at hb
      simp only [Option.map_some, Option.some.injEq] at hb
      subst hb
      by_cases hlt : k < s.idx.names.length
      · exact hlt
      · rw [rows_no hK (id := (k : Int) + 1) (by omega)] at hl
        cases hl
    · rw [List.getElem?_eq_none (by simp; omega)] at hb
      cases hb
  refine ⟨⟨⟨⟨by simp [flushX]; omega, by simp [flushX]⟩, fun p hp => ?_⟩, by simp [flushX]⟩, fun i hi => ?_⟩
  · rcases List.mem_append.1 hp with hp | hp
    · exact a3 p hp
    · simp only [List.mem_cons, List.not_mem_nil, or_false] at hp
      subst hp
      rw [memPart_eq hK.stoI.mem6]
      refine pMake_in (fun b hb => ?_) (by rw [memL_len]; omega) (memL_pos (fun m hm => ⟨(hK.stoI.mem6 m hm).1, (hK.stoI.mem6 m hm).2, hK.row m hm⟩) h1) hpos
      unfold memL at hb
      obtain ⟨i, hi, rfl⟩ := List.mem_map.1 hb
      refine ⟨(look_mem 0 _ s.mem [] hK.row Blk.nil).2, ?_⟩
      by_cases hlt : i < s.idx.names.length
      · exact h24 i hlt
      · rw [rows_no hK (id := (i : Int) + 1) (by omega)]
        simp
  · have hi2 : i < s.idx.names.length := hi
    rw [flush_rows hK (by omega) (by omega)]
    exact a5 i hi2
def flushP (s : Sto) : Sto × Bool := if storeOk s then flushR (copyS s) else (⟨⟨[], []⟩, [], []⟩, false)
theorem flushP_no {s : Sto} (h : storeOk s = false) : flushP s = (⟨⟨[], []⟩, [], []⟩, false) := by unfold flushP; rw [if_neg (by simp [h])]
theorem flushP_yes {s : Sto} (h : storeOk s = true) : flushP s = flushR (copyS s) := by unfold flushP; rw [if_pos h]
theorem parts6 {s : Sto} (h : storeOk s = true) : s.parts.length ≤ 6 := by
  unfold storeOk at h
  simp only [Bool.and_eq_true, decide_eq_true_eq] at h
  exact h.1.1.1.1
theorem flushJ_1 {s : Sto} (_h : SD s) (hk : storeOk s = true) (h1 : (s.mem.length : Int) = 0 ∨ (s.parts.length : Int) = 6) : flushP s = (copyS s, false) := by
  rw [flushP_yes hk]
  unfold flushR
  have e1 : (copyS s).mem.length = s.mem.length := rfl
  have e2 : (copyS s).parts.length = s.parts.length := rfl
  rw [if_pos (by omega)]
theorem flushJ_2 {s : Sto} (_h : SD s) (hk : storeOk s = true) (h1 : (s.mem.length : Int) ≠ 0) (h2 : (s.parts.length : Int) ≠ 6) : flushP s = (⟨(copyS s).idx, (copyS s).parts ++ [memPart s.mem], []⟩, true) := by
  rw [flushP_yes hk]
  unfold flushR
  have e1 : (copyS s).mem.length = s.mem.length := rfl
  have e2 : (copyS s).parts.length = s.parts.length := rfl
  have := parts6 hk
  rw [if_neg (by omega)]
  rfl
theorem fl_at {mem : List Smp} {k : Nat} (hk : 1 ≤ k) : memL mem (k + 1 - 1) = memL mem (k - 1) ++ [rowsOf (memS mem) (k : Int)] := by
  rw [show k + 1 - 1 = (k - 1) + 1 by omega, memL_succ, show ((k - 1 : Nat) : Int) + 1 = (k : Int) by omega]
theorem flStep1 {mem : List Smp} {k : Nat} {a : List Int} (h : a = (makeF 0 (memL mem (k - 1))).1) (hk : 1 ≤ k) (hl : ((rowsOf (memS mem) (k : Int)).length : Int) > 0) : a ++ [(k : Int)] = (makeF 0 (memL mem (k + 1 - 1))).1 := by
  rw [fl_at hk, makeF_snoc, if_pos (by omega), h, memL_len, show ((0 : Nat) : Int) + ((k - 1 : Nat) : Int) + 1 = (k : Int) by omega]
theorem flSkip1 {mem : List Smp} {k : Nat} {a : List Int} (h : a = (makeF 0 (memL mem (k - 1))).1) (hk : 1 ≤ k) (hl : ¬ ((rowsOf (memS mem) (k : Int)).length : Int) > 0) : a = (makeF 0 (memL mem (k + 1 - 1))).1 := by
  rw [fl_at hk, makeF_snoc, if_neg (by omega), h]
theorem flStep2 {mem : List Smp} {k : Nat} {a : List (List Row)} (h : a = (makeF 0 (memL mem (k - 1))).2) (hk : 1 ≤ k) (hl : ((rowsOf (memS mem) (k : Int)).length : Int) > 0) : a ++ [rowsOf (memS mem) (k : Int)] = (makeF 0 (memL mem (k + 1 - 1))).2 := by
  rw [fl_at hk, makeF_snoc, if_pos (by omega), h]
theorem flSkip2 {mem : List Smp} {k : Nat} {a : List (List Row)} (h : a = (makeF 0 (memL mem (k - 1))).2) (hk : 1 ≤ k) (hl : ¬ ((rowsOf (memS mem) (k : Int)).length : Int) > 0) : a = (makeF 0 (memL mem (k + 1 - 1))).2 := by
  rw [fl_at hk, makeF_snoc, if_neg (by omega), h]
theorem flEnd {mem : List Smp} {k : Nat} {a : List Int} {b : List (List Row)} (hm : ∀ m ∈ mem, 1 ≤ m.id ∧ m.id ≤ 6) (hk : k = 7) (ha : a = (makeF 0 (memL mem (k - 1))).1) (hb : b = (makeF 0 (memL mem (k - 1))).2) : (⟨a, b⟩ : Prt) = memPart mem := by
  subst hk ha hb
  rw [memPart_eq hm]
  rfl
end Go.Proofs.YtfnpaglcnmcnbaaGreat
