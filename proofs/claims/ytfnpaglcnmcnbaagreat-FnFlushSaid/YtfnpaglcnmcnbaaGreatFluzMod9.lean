/- What worlds that were played are like: plain laws. -/
import Derived.Test.YtfnpaglcnmcnbaaGreatFluzW8
set_option linter.unusedVariables false
set_option linter.unusedSimpArgs false
namespace Go.Proofs.YtfnpaglcnmcnbaaGreat
def Blk (b : List Row) : Prop := blockF none b = true
theorem blockF_cons {o : Option Row} {r : Row} {rs : List Row} : blockF o (r :: rs) = true ↔ rowOk r = true ∧ (∀ q, o = some q → q.t < r.t) ∧ blockF (some r) rs = true := by
  simp only [blockF, Bool.and_eq_true]
  cases o <;> simp [and_assoc]
theorem blockF_none {o : Option Row} {b : List Row} (h : blockF o b = true) : Blk b := by
  cases b with
  | nil => rfl
  | cons r rs => exact blockF_cons.2 ⟨(blockF_cons.1 h).1, by simp, (blockF_cons.1 h).2.2⟩
theorem rowOk_t {r : Row} (h : rowOk r = true) : 0 ≤ r.t ∧ r.t ≤ 99 := by
  simp only [rowOk, Bool.and_eq_true] at h
  exact inR_t h.1
theorem rowOk_v {r : Row} (h : rowOk r = true) : -99 ≤ r.v ∧ r.v ≤ 99 := by
  simp only [rowOk, Bool.and_eq_true] at h
  exact inR_t h.2
theorem blockF_len : ∀ (b : List Row) (q : Row), blockF (some q) b = true → q.t ≤ 99 → (b.length : Int) ≤ 99 - q.t := by
  intro b
  induction b with
  | nil => intro q _ h; simp; omega
  | cons r rs ih =>
    intro q h hq
    obtain ⟨h1, h2, h3⟩ := blockF_cons.1 h
    have h4 := h2 q rfl
    have h5 := rowOk_t h1
    have h6 := ih r h3 (by omega)
    simp only [List.length_cons]
    omega
theorem Blk.len {b : List Row} (h : Blk b) : b.length ≤ 100 := by
  cases b with
  | nil => simp
  | cons r rs =>
    obtain ⟨h1, _, h3⟩ := blockF_cons.1 h
    have h5 := rowOk_t h1
    have h6 := blockF_len rs r h3 (by omega)
    simp only [List.length_cons]
    omega
theorem blockF_rows : ∀ (b : List Row) (o : Option Row), blockF o b = true → ∀ r ∈ b, rowOk r = true := by
  intro b
  induction b with
  | nil => intro o _ r hr; cases hr
  | cons x xs ih =>
    intro o h r hr
    obtain ⟨h1, _, h3⟩ := blockF_cons.1 h
    rcases List.mem_cons.1 hr with rfl | hr
    · exact h1
    · exact ih _ h3 r hr
theorem Blk.rows {b : List Row} (h : Blk b) : ∀ r ∈ b, rowOk r = true := blockF_rows b none h
theorem blockF_gt : ∀ (b : List Row) (q : Row), blockF (some q) b = true → ∀ r ∈ b, q.t < r.t := by
  intro b
  induction b with
  | nil => intro q _ r hr; cases hr
  | cons x xs ih =>
    intro q h r hr
    obtain ⟨_, h2, h3⟩ := blockF_cons.1 h
    have h4 := h2 q rfl
    rcases List.mem_cons.1 hr with rfl | hr
    · exact h4
    · have := ih x h3 r hr; omega
def insR (r : Row) : List Row → List Row
  | [] => [r]
  | x :: xs => if r.t < x.t then r :: x :: xs else if r.t = x.t then r :: xs else x :: insR r xs
theorem put1_done (r : Row) : ∀ (b out : List Row), (∀ x ∈ b, r.t < x.t) → put1 out r true b = out ++ b := by
  intro b
  induction b with
  | nil => intro out _; simp [put1]
  | cons x xs ih =>
    intro out h
    have h1 := h x (by simp)
    have h2 : (x.t != r.t) = true := by simp; omega
    unfold put1
    simp only [Bool.not_true, Bool.false_and, if_neg, h2, if_true]
    rw [if_neg (by simp), ih _ (fun y hy => h y (by simp [hy]))]
    simp
theorem put1_ins (r : Row) : ∀ (b out : List Row) (o : Option Row), blockF o b = true → put1 out r false b = out ++ insR r b := by
  intro b
  induction b with
  | nil => intro out o _; simp [put1, insR]
  | cons x xs ih =>
    intro out o h
    obtain ⟨_, _, h3⟩ := blockF_cons.1 h
    have hg := blockF_gt xs x h3
    unfold put1 insR
    by_cases h1 : r.t < x.t
    · have e1 : (x.t != r.t) = true := by simp; omega
      have e2 : (!false && decide (x.t ≥ r.t)) = true := by simp; omega
      rw [if_pos e2, if_pos e1, if_pos h1, put1_done r xs _ (fun y hy => by have := hg y hy; omega)]
      simp
    · by_cases h2 : r.t = x.t
      · have e1 : ¬ (x.t != r.t) = true := by simp; omega
        have e2 : (!false && decide (x.t ≥ r.t)) = true := by simp; omega
        rw [if_pos e2, if_neg e1, if_neg h1, if_pos h2, put1_done r xs _ (fun y hy => by have := hg y hy; omega)]
        simp
      · have e1 : (x.t != r.t) = true := by simp; omega
        have e2 : ¬ (!false && decide (x.t ≥ r.t)) = true := by simp; omega
        rw [if_neg e2, if_pos e1, if_neg h1, if_neg h2, ih _ _ h3]
        simp
theorem sPut_ins {b : List Row} (h : Blk b) (r : Row) : sPut b r = insR r b := by
  unfold sPut
  rw [put1_ins r b [] none h]
  rfl
theorem insR_ok {r : Row} (hr : rowOk r = true) : ∀ (b : List Row) (o : Option Row), blockF o b = true → (∀ q, o = some q → q.t < r.t) → blockF o (insR r b) = true := by
  intro b
  induction b with
  | nil => intro o _ ho; exact blockF_cons.2 ⟨hr, ho, rfl⟩
  | cons x xs ih =>
    intro o h ho
    obtain ⟨h1, h2, h3⟩ := blockF_cons.1 h
    unfold insR
    split
    · exact blockF_cons.2 ⟨hr, ho, blockF_cons.2 ⟨h1, fun q hq => by cases hq; assumption, h3⟩⟩
    · split
      · rename_i _ he
        refine blockF_cons.2 ⟨hr, ho, ?_⟩
        cases xs with
        | nil => rfl
        | cons y ys =>
          obtain ⟨g1, g2, g3⟩ := blockF_cons.1 h3
          exact blockF_cons.2 ⟨g1, fun q hq => by cases hq; have := g2 x rfl; omega, g3⟩
      · exact blockF_cons.2 ⟨h1, h2, ih _ h3 (fun q hq => by cases hq; omega)⟩
theorem Blk.put {b : List Row} (h : Blk b) {r : Row} (hr : rowOk r = true) : Blk (sPut b r) := by
  rw [sPut_ins h]
  exact insR_ok hr b none h (by simp)
theorem Blk.nil : Blk [] := rfl
theorem Blk.foldl {b : List Row} : ∀ {a : List Row}, Blk a → (∀ r ∈ b, rowOk r = true) → Blk (b.foldl sPut a) := by
  induction b with
  | nil => intro a h _; exact h
  | cons x xs ih => intro a h hr; exact ih (h.put (hr x (by simp))) (fun r hr' => hr r (by simp [hr']))
theorem Blk.merge {a b : List Row} (ha : Blk a) (hb : Blk b) : Blk (sMerge a b) := Blk.foldl ha hb.rows
structure PrtI (p : Prt) : Prop where
  len : p.ids.length = p.blocks.length
  le : p.blocks.length ≤ 6
  blk : ∀ b ∈ p.blocks, Blk b
theorem PrtI.sz {p : Prt} (h : PrtI p) : PrtSz p := ⟨h.len, by have := h.le; omega, fun b hb => by have := (h.blk b hb).len; omega⟩
theorem PrtI.nil : PrtI ⟨[], []⟩ := ⟨rfl, by simp, by simp⟩
theorem PrtI.of {p : Prt} (h : PrtI p) (id : Int) : Blk (partOf p id) := by
  rcases partF_mem id p.ids p.blocks with h1 | h1
  · unfold partOf; rw [h1]; exact Blk.nil
  · exact h.blk _ h1
theorem makeF_len : ∀ (bs : List (List Row)) (i : Nat), (makeF i bs).1.length = (makeF i bs).2.length ∧ (makeF i bs).2.length ≤ bs.length ∧ ∀ b ∈ (makeF i bs).2, b ∈ bs := by
  intro bs
  induction bs with
  | nil => intro i; simp [makeF]
  | cons b bs ih =>
    intro i
    obtain ⟨h1, h2, h3⟩ := ih (i + 1)
    unfold makeF
    split
    · refine ⟨by simp [h1], by simp; omega, fun x hx => ?_⟩
      rcases List.mem_cons.1 hx with rfl | hx
      · simp
      · exact List.mem_cons_of_mem _ (h3 x hx)
    · exact ⟨h1, by simp; omega, fun x hx => List.mem_cons_of_mem _ (h3 x hx)⟩
theorem PrtI.make {bs : List (List Row)} (hl : bs.length ≤ 6) (h : ∀ b ∈ bs, Blk b) : PrtI (pMake bs) := by
  obtain ⟨h1, h2, h3⟩ := makeF_len bs 0
  exact ⟨h1, by unfold pMake; dsimp only; omega, fun b hb => h b (h3 b hb)⟩
theorem PrtI.merge {p q : Prt} (hp : PrtI p) (hq : PrtI q) : PrtI (pMerge p q) := by
  refine PrtI.make (by rw [pMergeL_len]; omega) (fun b hb => ?_)
  simp only [pMergeL, List.mem_map] at hb
  obtain ⟨i, _, rfl⟩ := hb
  exact (hp.of _).merge (hq.of _)
theorem memF_blk : ∀ (mem : List Smp) (bl : List (List Row)), bl.length = 6 → (∀ b ∈ bl, Blk b) → (∀ m ∈ mem, rowOk m.row = true) → (mem.foldl memF bl).length = 6 ∧ ∀ b ∈ mem.foldl memF bl, Blk b := by
  intro mem
  induction mem with
  | nil => intro bl h1 h2 _; exact ⟨h1, h2⟩
  | cons m ms ih =>
    intro bl h1 h2 h3
    refine ih (memF bl m) (by rw [memF_len, h1]) (fun b hb => ?_) (fun x hx => h3 x (by simp [hx]))
    unfold memF at hb
    rcases List.mem_or_eq_of_mem_set hb with hb | rfl
    · exact h2 b hb
    · refine Blk.put ?_ (h3 m (by simp))
      rw [List.getD_eq_getElem?_getD]
      cases hx : bl[(m.id - 1).toNat]? with
      | none => exact Blk.nil
      | some y => exact h2 y (List.mem_of_getElem? hx)
theorem PrtI.mem {mem : List Smp} (h : ∀ m ∈ mem, rowOk m.row = true) : PrtI (memPart mem) := by
  obtain ⟨h1, h2⟩ := memF_blk mem [[], [], [], [], [], []] rfl (by simp [Blk.nil]) h
  exact PrtI.make (by omega) h2
structure NmI (names : List (List Tag)) : Prop where
  len : names.length ≤ 6
  ok : ∀ n ∈ names, nameOk n = true
  nodup : (names.map text).Nodup
theorem one1_len {lo hi : Int} {s : Str} (h : one1 lo hi s = true) : s.length = 1 := by
  match s, h with
  | [x], _ => rfl
  | [], h => simp [one1] at h
  | x :: y :: r, h => simp [one1] at h
theorem nameF_tags : ∀ (n : List Tag) (o : Option Tag), nameF o n = true → ∀ t ∈ n, tagOk t = true := by
  intro n
  induction n with
  | nil => intro o _ t ht; cases ht
  | cons x xs ih =>
    intro o h t ht
    simp only [nameF, Bool.and_eq_true] at h
    rcases List.mem_cons.1 ht with rfl | ht
    · exact h.1.1
    · exact ih _ h.2 t ht
theorem nameOk_sz {n : List Tag} (h : nameOk n = true) : n.length ≤ 3 ∧ NmSz n := by
  simp only [nameOk, Bool.and_eq_true] at h
  have h1 := inR_t h.2
  refine ⟨by omega, by omega, fun t ht => ?_⟩
  have h2 := nameF_tags n none h.1 t ht
  simp only [tagOk, Bool.and_eq_true] at h2
  have h3 := one1_len h2.1
  have h4 := one1_len h2.2
  omega
theorem NmI.sz {names : List (List Tag)} (h : NmI names) : ∀ n ∈ names, NmSz n := fun n hn => (nameOk_sz (h.ok n hn)).2
theorem nmF_spec (t : Str) : ∀ (ns : List (List Tag)) (i : Nat), (nmF t i ns = 0 ∧ t ∉ ns.map text) ∨ ((i : Int) < nmF t i ns ∧ nmF t i ns ≤ i + ns.length ∧ t ∈ ns.map text) := by
  intro ns
  induction ns with
  | nil => intro i; simp [nmF]
  | cons x xs ih =>
    intro i
    unfold nmF
    by_cases h : text x = t
    · right
      simp [h]
      omega
    · have h1 : ¬ (text x == t) = true := by simpa using h
      rw [if_neg h1]
      rcases ih (i + 1) with ⟨h2, h3⟩ | ⟨h2, h3, h4⟩
      · left
        refine ⟨h2, ?_⟩
        simp only [List.map_cons, List.mem_cons, not_or]
        exact ⟨fun e => h e.symm, h3⟩
      · right
        refine ⟨by omega, by simp only [List.length_cons]; omega, ?_⟩
        simp only [List.map_cons, List.mem_cons]
        exact .inr h4
theorem NmI.add {names : List (List Tag)} {ps : List Pst} (h : NmI names) {n : List Tag} (hn : nameOk n = true) (h0 : ¬ nmAt ⟨names, ps⟩ n > 0) (hl : names.length < 6) : NmI (names ++ [n]) := by
  refine ⟨by simp; omega, fun m hm => ?_, ?_⟩
  · rcases List.mem_append.1 hm with hm | hm
    · exact h.ok m hm
    · simp at hm; rw [hm]; exact hn
  · rw [List.map_append]
    refine List.nodup_append.2 ⟨h.nodup, by simp, fun a ha b hb => ?_⟩
    simp at hb
    subst hb
    rintro rfl
    rcases nmF_spec (text n) names 0 with ⟨h2, h3⟩ | ⟨h2, _, _⟩
    · exact h3 ha
    · exact h0 (by unfold nmAt; simpa using h2)
structure StoI (s : Sto) : Prop where
  idx : s.idx = idxOf s.idx.names
  nm : NmI s.idx.names
  np : s.parts.length ≤ 6
  part : ∀ p ∈ s.parts, PrtI p
  nm2 : s.mem.length ≤ 20
  mem : ∀ m ∈ s.mem, 1 ≤ m.id ∧ m.id ≤ s.idx.names.length ∧ rowOk m.row = true
theorem StoI.sz {s : Sto} (h : StoI s) : StoSz s := ⟨⟨by have := h.nm.len; omega, h.nm.sz⟩, by have := h.np; omega, fun p hp => (h.part p hp).sz, by have := h.nm2; omega⟩
theorem StoI.copy {s : Sto} (h : StoI s) : copyS s = s := by
  have := h.idx
  unfold copyS
  rw [← this]
theorem StoI.mem6 {s : Sto} (h : StoI s) : ∀ m ∈ s.mem, 1 ≤ m.id ∧ m.id ≤ 6 := fun m hm => by
  have h1 := h.mem m hm
  have h2 := h.nm.len
  omega
theorem StoI.new : StoI ⟨⟨[], []⟩, [], []⟩ := ⟨by rfl, ⟨by simp, by simp, by simp⟩, by simp, by simp, by simp, by simp⟩
theorem addR_I {ix : Idx} (h : ix = idxOf ix.names) (hn : NmI ix.names) (n : List Tag) :
    (addR ix n).1 = idxOf (addR ix n).1.names ∧ NmI (addR ix n).1.names ∧ ix.names.length ≤ (addR ix n).1.names.length ∧ ((addR ix n).2.2 = true → 1 ≤ (addR ix n).2.1 ∧ (addR ix n).2.1 ≤ (addR ix n).1.names.length) := by
  by_cases h1 : nmAt ix n > 0
  · rw [addR_hit h1]
    refine ⟨h, hn, Nat.le_refl _, fun _ => ?_⟩
    rcases nmF_spec (text n) ix.names 0 with ⟨h2, _⟩ | ⟨h2, h3, _⟩
    · unfold nmAt at h1; omega
    · unfold nmAt at h1 ⊢; simp only; omega
  · by_cases h2 : nameOk n = false ∨ (ix.names.length : Int) ≥ 6
    · rw [addR_no h1 h2]
      exact ⟨h, hn, Nat.le_refl _, by simp⟩
    · have h3 : nameOk n = true := by
        cases h4 : nameOk n
        · exact absurd (.inl h4) h2
        · rfl
      have h4 : ¬ (ix.names.length : Int) ≥ 6 := fun h => h2 (.inr h)
      rw [addR_new h1 h3 h4]
      refine ⟨rfl, ?_, by simp [idxOf], fun _ => by simp [idxOf]; omega⟩
      exact NmI.add (ps := ix.posts) hn h3 h1 (by omega)
theorem StoI.add {s : Sto} (h : StoI s) (n : List Tag) (r : Row) : StoI (addS s n r).1 := by
  unfold addS
  split
  · exact h
  · rename_i h1
    split
    · exact h
    · simp only [Bool.or_eq_true, not_or] at h1
      obtain ⟨⟨h1, h2⟩, h3⟩ := h1
      obtain ⟨g1, g2, g3, g4⟩ := addR_I h.idx h.nm n
      have h5 := g4 (by simpa using h1)
      refine ⟨g1, g2, h.np, h.part, ?_, fun m hm => ?_⟩
      · have : ¬ s.mem.length ≥ 20 := by simpa using h3
        simp only [addX, List.length_append, List.length_cons, List.length_nil]; omega
      · rcases List.mem_append.1 hm with hm | hm
        · have := h.mem m hm
          refine ⟨this.1, ?_, this.2.2⟩
          have h6 := this.2.1
          show m.id ≤ ((addR s.idx n).1.names.length : Int)
          omega
        · simp at hm
          subst hm
          exact ⟨h5.1, h5.2, by simpa using h2⟩
theorem StoI.flush {s : Sto} (h : StoI s) : StoI (flushR s).1 := by
  unfold flushR
  split
  · exact h
  · rename_i h1
    refine ⟨h.idx, h.nm, by simp; omega, fun p hp => ?_, by simp, by simp⟩
    rcases List.mem_append.1 hp with hp | hp
    · exact h.part p hp
    · simp at hp; subst hp; exact PrtI.mem (fun m hm => (h.mem m hm).2.2)
theorem StoI.merge {s : Sto} (h : StoI s) (a : Int) : StoI (mergeR s a).1 := by
  unfold mergeR
  split
  · rename_i h1
    have h2 := inR_t h1
    have h3 : a.toNat + 1 < s.parts.length := by omega
    refine ⟨h.idx, h.nm, ?_, fun p hp => ?_, h.nm2, h.mem⟩
    · show (mergeP s.parts a.toNat).length ≤ 6
      rw [mergeP_at (List.getElem?_eq_getElem (by omega)) (List.getElem?_eq_getElem h3)]
      have := h.np
      simp only [List.length_append, List.length_take, List.length_drop, List.length_cons, List.length_nil]
      omega
    · change p ∈ mergeP s.parts a.toNat at hp
      rw [mergeP_at (List.getElem?_eq_getElem (by omega)) (List.getElem?_eq_getElem h3)] at hp
      rcases List.mem_append.1 hp with hp | hp
      · rcases List.mem_append.1 hp with hp | hp
        · exact h.part p (List.mem_of_mem_take hp)
        · simp at hp; subst hp
          exact (h.part _ (List.getElem_mem _)).merge (h.part _ (List.getElem_mem _))
      · exact h.part p (List.mem_of_mem_drop hp)
  · exact h
structure DskI (d : Dsk) : Prop where
  nm : NmI d.names
  nf : d.files.length ≤ 20
  file : ∀ f ∈ d.files, PrtI f.part
  nl : d.list.length ≤ 6
  there : ∀ n ∈ d.list, ∃ f ∈ d.files, f.num = n
  num : ∀ n ∈ d.list, 0 ≤ n ∧ n ≤ 999
  next : 1 ≤ d.next ∧ d.next ≤ 999
theorem numF_spec (n : Int) : ∀ (fs : List Fil) (i : Nat), 0 ≤ numF n i fs ↔ ∃ f ∈ fs, f.num = n := by
  intro fs
  induction fs with
  | nil => intro i; simp [numF]
  | cons f fs ih =>
    intro i
    unfold numF
    by_cases h : f.num = n
    · simp [h]
    · have h1 : ¬ (f.num == n) = true := by simpa using h
      rw [if_neg h1, ih]
      simp [h]
theorem numAt_spec (d : Dsk) (n : Int) : 0 ≤ numAt d n ↔ ∃ f ∈ d.files, f.num = n := numF_spec n d.files 0
theorem DskI.at {d : Dsk} (h : DskI d) : ∀ n ∈ d.list, 0 ≤ numAt d n := fun n hn => (numAt_spec d n).2 (h.there n hn)
theorem DskI.new : DskI ⟨[], [], [], 1⟩ := ⟨⟨by simp, by simp, by simp⟩, by simp, by simp, by simp, by simp, by simp, by simp⟩
theorem DskI.part {d : Dsk} (h : DskI d) (n : Int) : PrtI (partNo d n) := by
  unfold partNo
  rw [List.getD_eq_getElem?_getD]
  cases hx : d.files[(numAt d n).toNat]? with
  | none => exact PrtI.nil
  | some f => exact h.file f (List.mem_of_getElem? hx)
theorem DskI.copy {d : Dsk} (h : DskI d) : DskI (copyD d) := by
  refine ⟨h.nm, by simp [copyD]; exact h.nf, fun f hf => ?_, h.nl, fun n hn => ?_, h.num, h.next⟩
  · simp only [copyD, List.mem_map] at hf
    obtain ⟨g, hg, rfl⟩ := hf
    exact (h.file g hg).merge PrtI.nil
  · obtain ⟨f, hf, he⟩ := h.there n hn
    exact ⟨copyF f, by simp only [copyD, List.mem_map]; exact ⟨f, hf, rfl⟩, he⟩
theorem DskI.tidy {d : Dsk} (h : DskI d) : DskI (tidyD d) := by
  refine ⟨h.nm, Nat.le_trans (List.length_filter_le _ _) h.nf, fun f hf => h.file f (List.mem_filter.1 hf).1, h.nl, fun n hn => ?_, h.num, h.next⟩
  obtain ⟨f, hf, he⟩ := h.there n hn
  exact ⟨f, List.mem_filter.2 ⟨hf, by rw [he]; have h1 : n ∈ d.list := hn; simpa using h1⟩, he⟩
theorem DskI.open {d : Dsk} (h : DskI d) : StoI (openS d) := by
  refine ⟨rfl, h.nm, by simp [openS]; exact h.nl, fun p hp => ?_, by simp [openS], by simp [openS]⟩
  simp only [openS, List.mem_map] at hp
  obtain ⟨n, _, rfl⟩ := hp
  exact h.part n
theorem DskI.gone {d : Dsk} (h : DskI d) (n : Int) : DskI ⟨goneF d n, d.list, d.names, d.next⟩ := by
  unfold goneF
  split
  · rename_i h1
    refine ⟨h.nm, ?_, fun f hf => ?_, h.nl, fun k hk => ?_, h.num, h.next⟩
    · have := h.nf
      simp only [List.length_append, List.length_take, List.length_drop]; omega
    · rcases List.mem_append.1 hf with hf | hf
      · exact h.file f (List.mem_of_mem_take hf)
      · exact h.file f (List.mem_of_mem_drop hf)
    · obtain ⟨f, hf, he⟩ := h.there k hk
      obtain ⟨i, hi, hif⟩ := List.mem_iff_getElem.1 hf
      have hne : k ≠ n := by rintro rfl; have := h1.2; simp at this; exact this hk
      have hat : ∀ (fs : List Fil) (j : Nat) (g : Fil), 0 ≤ numF n j fs → fs[(numF n j fs).toNat - j]? = some g → g.num = n := by
        intro fs
        induction fs with
        | nil => intro j g hj; simp [numF] at hj
        | cons y ys ih =>
          intro j g hj hg
          unfold numF at hj hg
          by_cases hy : (y.num == n) = true
          · rw [if_pos hy] at hg
            simp at hg
            subst hg
            simpa using hy
          · rw [if_neg hy] at hj hg
            have h3 := numF_lt n ys (j + 1)
            have h4 : (numF n (j + 1) ys).toNat - j = ((numF n (j + 1) ys).toNat - (j + 1)) + 1 := by omega
            rw [h4, List.getElem?_cons_succ] at hg
            exact ih _ _ hj hg
      have hin : i ≠ (numAt d n).toNat := by
        rintro rfl
        have := hat d.files 0 f h1.1 (by show d.files[(numAt d n).toNat - 0]? = _; rw [Nat.sub_zero, List.getElem?_eq_getElem hi, hif])
        exact hne (he ▸ this)
      refine ⟨f, ?_, he⟩
      rcases Nat.lt_or_gt_of_ne hin with hlt | hgt
      · refine List.mem_append.2 (.inl (List.mem_iff_getElem.2 ⟨i, by simp; omega, ?_⟩))
        rw [List.getElem_take]; exact hif
      · refine List.mem_append.2 (.inr (List.mem_iff_getElem.2 ⟨i - ((numAt d n).toNat + 1), by simp; omega, ?_⟩))
        rw [List.getElem_drop]
        simp only [show (numAt d n).toNat + 1 + (i - ((numAt d n).toNat + 1)) = i by omega]
        exact hif
  · exact h
theorem DskI.file1 {d : Dsk} (h : DskI d) {p : Prt} (hp : PrtI p) (hf : d.files.length < 20) (hn : d.next < 999) : DskI ⟨d.files ++ [⟨d.next, p⟩], d.list, d.names, d.next + 1⟩ := by
  refine ⟨h.nm, by simp; omega, fun f hf => ?_, h.nl, fun n hn => ?_, h.num, by have := h.next; simp only; omega⟩
  · rcases List.mem_append.1 hf with hf | hf
    · exact h.file f hf
    · simp at hf; subst hf; exact hp
  · obtain ⟨f, hf, he⟩ := h.there n hn
    exact ⟨f, List.mem_append.2 (.inl hf), he⟩
structure WI (w : Wld) : Prop where
  sto : StoI w.store
  dsk : DskI w.disk
theorem WI.new : WI ⟨⟨⟨[], []⟩, [], []⟩, ⟨[], [], [], 1⟩⟩ := ⟨StoI.new, DskI.new⟩
theorem WI.fall {w : Wld} (h : DskI w.disk) : WI (fallW w) := by
  have h1 := h.tidy.copy
  refine ⟨?_, h1⟩
  show StoI (copyS (openS (copyD (tidyD w.disk))))
  rw [h1.open.copy]
  exact h1.open
theorem WI.copy {w : Wld} (h : WI w) : WI (copyW w) := ⟨by show StoI (copyS w.store); rw [h.sto.copy]; exact h.sto, h.dsk.copy⟩
structure StI (d : Dsk) (st : List Stp) : Prop where
  len : st.length ≤ 4
  sz : ∀ x ∈ st, StpSz x
  ok : ∀ k : Nat, DskI ((st.take k).foldl doD d)
theorem StI.nil {d : Dsk} (h : DskI d) : StI d [] := ⟨by simp, by simp, by simpa using h⟩
theorem stp_pt {d : Dsk} {x : Stp} {xs : List Stp} (h0 : DskI d) (h : ∀ k : Nat, DskI ((xs.take k).foldl doD (doD d x))) : ∀ k : Nat, DskI (((x :: xs).take k).foldl doD d) := by
  intro k
  cases k with
  | zero => exact h0
  | succ k => exact h k
theorem stp_end {d : Dsk} (h0 : DskI d) : ∀ k : Nat, DskI ((([] : List Stp).take k).foldl doD d) := by intro k; simpa using h0
theorem StI.flush {w : Wld} (h : WI w) : StI w.disk (flushSt w.disk w.store) := by
  unfold flushSt
  split
  · exact StI.nil h.dsk
  · rename_i h1
    have hd := h.dsk
    have hs := h.sto
    have hp : PrtI (memPart w.store.mem) := PrtI.mem (fun m hm => (hs.mem m hm).2.2)
    have h2 := hd.file1 hp (by omega) (by omega)
    have hn := hd.next
    refine ⟨by simp, fun x hx => ?_, ?_⟩
    · simp only [List.mem_cons, List.not_mem_nil, or_false] at hx
      rcases hx with rfl | rfl
      · exact ⟨by simp, by simp, by simp, by simp only; omega, by simp only; omega⟩
      · refine ⟨?_, ?_, fun n hn => ?_, by simp, by simp⟩
        · have := hd.nl; simp; omega
        · have := hs.nm.len; simp only; omega
        · have := (hs.nm.sz n hn).1; omega
    · refine stp_pt hd (stp_pt ?_ (stp_end ?_))
      · rw [doD_1 rfl]; exact h2
      · rw [doD_2 rfl, doD_1 rfl]
        refine ⟨hs.nm, h2.nf, h2.file, by simp only [List.length_append, List.length_cons, List.length_nil]; omega, fun n hn' => ?_, fun n hn' => ?_, h2.next⟩
        · rcases List.mem_append.1 hn' with hn' | hn'
          · exact h2.there n hn'
          · simp at hn'; subst hn'
            exact ⟨⟨w.disk.next, memPart w.store.mem⟩, by simp, rfl⟩
        · rcases List.mem_append.1 hn' with hn' | hn'
          · exact h2.num n hn'
          · simp at hn'; omega
theorem StI.merge {d : Dsk} (hd : DskI d) (at_ : Int) : StI d (mergeSt d at_) := by
  unfold mergeSt
  split
  · exact StI.nil hd
  · rename_i h1
    simp only [Bool.or_eq_true, not_or, Bool.not_eq_true, Bool.not_eq_false', decide_eq_true_eq] at h1
    obtain ⟨⟨h1, h3⟩, h4⟩ := h1
    have h0 := inR_t (by simpa using h1)
    have hl : at_.toNat + 1 < d.list.length := by omega
    have ha : d.list.getD at_.toNat 0 ∈ d.list := by rw [List.getD_eq_getElem?_getD, List.getElem?_eq_getElem (by omega)]; exact List.getElem_mem _
    have hb : d.list.getD (at_.toNat + 1) 0 ∈ d.list := by rw [List.getD_eq_getElem?_getD, List.getElem?_eq_getElem hl]; exact List.getElem_mem _
    have na := hd.num _ ha
    have nb := hd.num _ hb
    generalize d.list.getD at_.toNat 0 = a at *
    generalize d.list.getD (at_.toNat + 1) 0 = b at *
    have hp : PrtI (pMerge (partNo d a) (partNo d b)) := (hd.part a).merge (hd.part b)
    have h2 := hd.file1 hp (by omega) (by omega)
    have hn := hd.next
    have hlen : (d.list.take at_.toNat ++ [d.next] ++ d.list.drop (at_.toNat + 2)).length ≤ 6 := by
      have := hd.nl
      simp only [List.length_append, List.length_take, List.length_drop, List.length_cons, List.length_nil]; omega
    have hm : ∀ n ∈ d.list.take at_.toNat ++ [d.next] ++ d.list.drop (at_.toNat + 2), n ∈ d.list ∨ n = d.next := by
      intro n hn
      rcases List.mem_append.1 hn with hn | hn
      · rcases List.mem_append.1 hn with hn | hn
        · exact .inl (List.mem_of_mem_take hn)
        · simp at hn; exact .inr hn
      · exact .inl (List.mem_of_mem_drop hn)
    have h5 : DskI ⟨d.files ++ [⟨d.next, pMerge (partNo d a) (partNo d b)⟩], d.list.take at_.toNat ++ [d.next] ++ d.list.drop (at_.toNat + 2), d.names, d.next + 1⟩ := by
      refine ⟨h2.nm, h2.nf, h2.file, hlen, fun n hn' => ?_, fun n hn' => ?_, h2.next⟩
      · rcases hm n hn' with hn' | rfl
        · exact h2.there n hn'
        · exact ⟨⟨d.next, pMerge (partNo d a) (partNo d b)⟩, by simp, rfl⟩
      · rcases hm n hn' with hn' | rfl
        · exact h2.num n hn'
        · omega
    refine ⟨by simp, fun x hx => ?_, ?_⟩
    · simp only [List.mem_cons, List.not_mem_nil, or_false] at hx
      rcases hx with rfl | rfl | rfl | rfl
      · exact ⟨by simp, by simp, by simp, by simp only; omega, by simp only; omega⟩
      · refine ⟨by simp only; omega, by have := hd.nm.len; simp only; omega, fun n hn => ?_, by simp, by simp⟩
        have := (hd.nm.sz n hn).1; omega
      · exact ⟨by simp, by simp, by simp, by simp only; omega, by simp only; omega⟩
      · exact ⟨by simp, by simp, by simp, by simp only; omega, by simp only; omega⟩
    · refine stp_pt hd (stp_pt ?_ (stp_pt ?_ (stp_pt ?_ (stp_end ?_))))
      · rw [doD_1 rfl]; exact h2
      · rw [doD_2 rfl, doD_1 rfl]; exact h5
      · rw [doD_3 rfl, doD_2 rfl, doD_1 rfl]; exact h5.gone a
      · rw [doD_3 rfl, doD_3 rfl, doD_2 rfl, doD_1 rfl]; exact (h5.gone a).gone b
theorem WI.steps {w : Wld} (h : WI w) {st : List Stp} (hs : StI w.disk st) (cut : Int) {s : Sto} (h2 : StoI s) : WI (stepsW w st cut s) := by
  unfold stepsW
  split
  · exact h
  · split
    · exact WI.fall (hs.ok _)
    · exact ⟨h2, hs.ok _⟩
theorem WI.do {w : Wld} (h : WI w) (e : Evt) : WI (doW w e) := by
  unfold doW
  split
  · split
    · exact ⟨h.sto.add _ _, h.dsk⟩
    · exact h
  · split
    · exact h.steps (StI.flush h) _ h.sto.flush
    · split
      · exact h.steps (StI.merge h.dsk _) _ (h.sto.merge _)
      · split
        · exact WI.fall h.dsk
        · exact h
theorem stepsW_0 {w : Wld} {st : List Stp} {c : Int} {s : Sto} (h : (st.length : Int) = 0 ∨ c < 0) : stepsW w st c s = w := by unfold stepsW; rw [if_pos (by omega)]
theorem stepsW_1 {w : Wld} {st : List Stp} {c : Int} {s : Sto} (h : (st.length : Int) ≠ 0) (h2 : ¬ c < 0) (h3 : c < st.length) : stepsW w st c s = fallW ⟨w.store, toD w.disk st c⟩ := by unfold stepsW; rw [if_neg (by omega), if_pos h3]
theorem stepsW_2 {w : Wld} {st : List Stp} {c : Int} {s : Sto} (h : (st.length : Int) ≠ 0) (h2 : ¬ c < 0) (h3 : ¬ c < st.length) : stepsW w st c s = ⟨s, toD w.disk st c⟩ := by unfold stepsW; rw [if_neg (by omega), if_neg h3]
theorem doW_1 {w : Wld} {e : Evt} (h : e.kind = 1) (h2 : nameOk e.name = true) : doW w e = ⟨(addS w.store e.name e.row).1, w.disk⟩ := by unfold doW; rw [if_pos h, if_pos h2]
theorem doW_1f {w : Wld} {e : Evt} (h : e.kind = 1) (h2 : nameOk e.name = false) : doW w e = w := by unfold doW; rw [if_pos h, if_neg (by simp [h2])]
theorem doW_2 {w : Wld} {e : Evt} (h : e.kind = 2) : doW w e = stepsW w (flushSt w.disk w.store) e.cut (flushR w.store).1 := by unfold doW; rw [if_neg (by omega), if_pos h]
theorem doW_3 {w : Wld} {e : Evt} (h : e.kind = 3) : doW w e = stepsW w (mergeSt w.disk e.at_) e.cut (mergeR w.store e.at_).1 := by unfold doW; rw [if_neg (by omega), if_neg (by omega), if_pos h]
theorem doW_4 {w : Wld} {e : Evt} (h : e.kind = 4) : doW w e = fallW w := by unfold doW; rw [if_neg (by omega), if_neg (by omega), if_neg (by omega), if_pos h]
theorem doW_0 {w : Wld} {e : Evt} (h : e.kind ≠ 1) (h2 : e.kind ≠ 2) (h3 : e.kind ≠ 3) (h4 : e.kind ≠ 4) : doW w e = w := by unfold doW; rw [if_neg h, if_neg h2, if_neg h3, if_neg h4]
end Go.Proofs.YtfnpaglcnmcnbaaGreat
