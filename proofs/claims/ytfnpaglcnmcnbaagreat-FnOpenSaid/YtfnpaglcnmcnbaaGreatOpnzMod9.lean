/- What worlds that were played are like: plain laws. -/
import Derived.Test.YtfnpaglcnmcnbaaGreatOpnzW7
import Derived.IntWalk
set_option linter.unusedVariables false
set_option linter.unusedSimpArgs false
namespace Go.Proofs.YtfnpaglcnmcnbaaGreat
def Blk (b : List Row) : Prop := blockF none b = true
theorem blockF_cons {o : Option Row} {r : Row} {rs : List Row} : blockF o (r :: rs) = true ↔ rowOk r = true ∧ (∀ q, o = some q → q.t < r.t) ∧ blockF (some r) rs = true := by
 simp only [blockF, Bool.and_eq_true]
 cases o <;> simp [and_assoc]
theorem blockF_none {o : Option Row} {b : List Row} (h : blockF o b = true) : Blk b := by
 cases b with
 | nil => rfl
 | cons r rs => exact blockF_cons.2 ⟨(blockF_cons.1 h).1, by simp, (blockF_cons.1 h).2.2⟩
theorem rowOk_t {r : Row} (h : rowOk r = true) : 0 ≤ r.t ∧ r.t ≤ 99 := by
 simp only [rowOk, Bool.and_eq_true] at h
 exact inR_t h.1
theorem rowOk_v {r : Row} (h : rowOk r = true) : -99 ≤ r.v ∧ r.v ≤ 99 := by
 simp only [rowOk, Bool.and_eq_true] at h
 exact inR_t h.2
theorem blockF_len : ∀ (b : List Row) (q : Row), blockF (some q) b = true → q.t ≤ 99 → (b.length : Int) ≤ 99 - q.t := by
 intro b
 induction b with
 | nil => intro q _ h; simp; omega
 | cons r rs ih =>
   intro q h hq
   obtain ⟨h1, h2, h3⟩ := blockF_cons.1 h
   have h4 := h2 q rfl
   have h5 := rowOk_t h1
   have h6 := ih r h3 (by omega)
   simp only [List.length_cons]
   omega
theorem Blk.len {b : List Row} (h : Blk b) : b.length ≤ 100 := by
 cases b with
 | nil => simp
 | cons r rs =>
   obtain ⟨h1, _, h3⟩ := blockF_cons.1 h
   have h5 := rowOk_t h1
   have h6 := blockF_len rs r h3 (by omega)
   simp only [List.length_cons]
   omega
theorem blockF_rows : ∀ (b : List Row) (o : Option Row), blockF o b = true → ∀ r ∈ b, rowOk r = true := by
 intro b
 induction b with
 | nil => intro o _ r hr; cases hr
 | cons x xs ih =>
   intro o h r hr
   obtain ⟨h1, _, h3⟩ := blockF_cons.1 h
   rcases List.mem_cons.1 hr with rfl | hr
   ·exact h1
   ·exact ih _ h3 r hr
theorem Blk.rows {b : List Row} (h : Blk b) : ∀ r ∈ b, rowOk r = true := blockF_rows b none h
theorem blockF_gt : ∀ (b : List Row) (q : Row), blockF (some q) b = true → ∀ r ∈ b, q.t < r.t := by
 intro b
 induction b with
 | nil => intro q _ r hr; cases hr
 | cons x xs ih =>
   intro q h r hr
   obtain ⟨_, h2, h3⟩ := blockF_cons.1 h
   have h4 := h2 q rfl
   rcases List.mem_cons.1 hr with rfl | hr
   ·exact h4
   ·have := ih x h3 r hr; omega
def insR (r : Row) : List Row → List Row
 | [] => [r]
 | x :: xs => if r.t < x.t then r :: x :: xs else if r.t = x.t then r :: xs else x :: insR r xs
theorem put1_done (r : Row) : ∀ (b out : List Row), (∀ x ∈ b, r.t < x.t) → put1 out r true b = out ++ b := by
 intro b
 induction b with
 | nil => intro out _; simp [put1]
 | cons x xs ih =>
   intro out h
   have h1 := h x (by simp)
   have h2 : (x.t != r.t) = true := by simp; omega
   unfold put1
   simp only [Bool.not_true, Bool.false_and, if_neg, h2, if_true]
   rw [if_neg (by simp), ih _ (fun y hy => h y (by simp [hy]))]
   simp
theorem put1_ins (r : Row) : ∀ (b out : List Row) (o : Option Row), blockF o b = true → put1 out r false b = out ++ insR r b := by
 intro b
 induction b with
 | nil => intro out o _; simp [put1, insR]
 | cons x xs ih =>
   intro out o h
   obtain ⟨_, _, h3⟩ := blockF_cons.1 h
   have hg := blockF_gt xs x h3
   unfold put1 insR
   by_cases h1 : r.t < x.t
   ·have e1 : (x.t != r.t) = true := by simp; omega
    have e2 : (!false && decide (x.t ≥ r.t)) = true := by simp; omega
    rw [if_pos e2, if_pos e1, if_pos h1, put1_done r xs _ (fun y hy => by have := hg y hy; omega)]
    simp
   ·by_cases h2 : r.t = x.t
    ·have e1 : ¬ (x.t != r.t) = true := by simp; omega
     have e2 : (!false && decide (x.t ≥ r.t)) = true := by simp; omega
     rw [if_pos e2, if_neg e1, if_neg h1, if_pos h2, put1_done r xs _ (fun y hy => by have := hg y hy; omega)]
     simp
    ·have e1 : (x.t != r.t) = true := by simp; omega
     have e2 : ¬ (!false && decide (x.t ≥ r.t)) = true := by simp; omega
     rw [if_neg e2, if_pos e1, if_neg h1, if_neg h2, ih _ _ h3]
     simp
theorem sPut_ins {b : List Row} (h : Blk b) (r : Row) : sPut b r = insR r b := by
 unfold sPut
 rw [put1_ins r b [] none h]
 rfl
theorem insR_ok {r : Row} (hr : rowOk r = true) : ∀ (b : List Row) (o : Option Row), blockF o b = true → (∀ q, o = some q → q.t < r.t) → blockF o (insR r b) = true := by
 intro b
 induction b with
 | nil => intro o _ ho; exact blockF_cons.2 ⟨hr, ho, rfl⟩
 | cons x xs ih =>
   intro o h ho
   obtain ⟨h1, h2, h3⟩ := blockF_cons.1 h
   unfold insR
   split
   ·exact blockF_cons.2 ⟨hr, ho, blockF_cons.2 ⟨h1, fun q hq => by cases hq; assumption, h3⟩⟩
   ·split
    ·rename_i _ he
     refine blockF_cons.2 ⟨hr, ho, ?_⟩
     cases xs with
     | nil => rfl
     | cons y ys =>
       obtain ⟨g1, g2, g3⟩ := blockF_cons.1 h3
       exact blockF_cons.2 ⟨g1, fun q hq => by cases hq; have := g2 x rfl; omega, g3⟩
    ·exact blockF_cons.2 ⟨h1, h2, ih _ h3 (fun q hq => by cases hq; omega)⟩
theorem Blk.put {b : List Row} (h : Blk b) {r : Row} (hr : rowOk r = true) : Blk (sPut b r) := by
 rw [sPut_ins h]
 exact insR_ok hr b none h (by simp)
theorem Blk.nil : Blk [] := rfl
theorem Blk.foldl {b : List Row} : ∀ {a : List Row}, Blk a → (∀ r ∈ b, rowOk r = true) → Blk (b.foldl sPut a) := by
 induction b with
 | nil => intro a h _; exact h
 | cons x xs ih => intro a h hr; exact ih (h.put (hr x (by simp))) (fun r hr' => hr r (by simp [hr']))
theorem Blk.merge {a b : List Row} (ha : Blk a) (hb : Blk b) : Blk (sMerge a b) := Blk.foldl ha hb.rows
structure PrtI (p : Prt) : Prop where
 len : p.ids.length = p.blocks.length
 le : p.blocks.length ≤ 6
 blk : ∀ b ∈ p.blocks, Blk b
theorem PrtI.sz {p : Prt} (h : PrtI p) : PrtSz p := ⟨h.len, by have := h.le; omega, fun b hb => by have := (h.blk b hb).len; omega⟩
theorem PrtI.nil : PrtI ⟨[], []⟩ := ⟨rfl, by simp, by simp⟩
theorem PrtI.of {p : Prt} (h : PrtI p) (id : Int) : Blk (partOf p id) := by
 rcases partF_mem id p.ids p.blocks with h1 | h1
 ·unfold partOf; rw [h1]; exact Blk.nil
 ·exact h.blk _ h1
theorem makeF_len : ∀ (bs : List (List Row)) (i : Nat), (makeF i bs).1.length = (makeF i bs).2.length ∧ (makeF i bs).2.length ≤ bs.length ∧ ∀ b ∈ (makeF i bs).2, b ∈ bs := by
 intro bs
 induction bs with
 | nil => intro i; simp [makeF]
 | cons b bs ih =>
   intro i
   obtain ⟨h1, h2, h3⟩ := ih (i + 1)
   unfold makeF
   split
   ·refine ⟨by simp [h1], by simp; omega, fun x hx => ?_⟩
    rcases List.mem_cons.1 hx with rfl | hx
    ·simp
    ·exact List.mem_cons_of_mem _ (h3 x hx)
   ·exact ⟨h1, by simp; omega, fun x hx => List.mem_cons_of_mem _ (h3 x hx)⟩
theorem PrtI.make {bs : List (List Row)} (hl : bs.length ≤ 6) (h : ∀ b ∈ bs, Blk b) : PrtI (pMake bs) := by
 obtain ⟨h1, h2, h3⟩ := makeF_len bs 0
 exact ⟨h1, by unfold pMake; dsimp only; omega, fun b hb => h b (h3 b hb)⟩
theorem PrtI.merge {p q : Prt} (hp : PrtI p) (hq : PrtI q) : PrtI (pMerge p q) := by
 refine PrtI.make (by rw [pMergeL_len]; omega) (fun b hb => ?_)
 simp only [pMergeL, List.mem_map] at hb
 obtain ⟨i, _, rfl⟩ := hb
 exact (hp.of _).merge (hq.of _)
theorem memF_blk : ∀ (mem : List Smp) (bl : List (List Row)), bl.length = 6 → (∀ b ∈ bl, Blk b) → (∀ m ∈ mem, rowOk m.row = true) → (mem.foldl memF bl).length = 6 ∧ ∀ b ∈ mem.foldl memF bl, Blk b := by
 intro mem
 induction mem with
 | nil => intro bl h1 h2 _; exact ⟨h1, h2⟩
 | cons m ms ih =>
   intro bl h1 h2 h3
   refine ih (memF bl m) (by rw [memF_len, h1]) (fun b hb => ?_) (fun x hx => h3 x (by simp [hx]))
   unfold memF at hb
   rcases List.mem_or_eq_of_mem_set hb with hb | rfl
   ·exact h2 b hb
   ·refine Blk.put ?_ (h3 m (by simp))
    rw [List.getD_eq_getElem?_getD]
    cases hx : bl[(m.id - 1).toNat]? with
    | none => exact Blk.nil
    | some y => exact h2 y (List.mem_of_getElem? hx)
theorem PrtI.mem {mem : List Smp} (h : ∀ m ∈ mem, rowOk m.row = true) : PrtI (memPart mem) := by
 obtain ⟨h1, h2⟩ := memF_blk mem [[], [], [], [], [], []] rfl (by simp [Blk.nil]) h
 exact PrtI.make (by omega) h2
structure NmI (names : List (List Tag)) : Prop where
 len : names.length ≤ 6
 ok : ∀ n ∈ names, nameOk n = true
 nodup : (names.map text).Nodup
theorem one1_len {lo hi : Int} {s : Str} (h : one1 lo hi s = true) : s.length = 1 := by
 match s, h with
 | [x], _ => rfl
 | [], h => simp [one1] at h
 | x :: y :: r, h => simp [one1] at h
theorem nameF_tags : ∀ (n : List Tag) (o : Option Tag), nameF o n = true → ∀ t ∈ n, tagOk t = true := by
 intro n
 induction n with
 | nil => intro o _ t ht; cases ht
 | cons x xs ih =>
   intro o h t ht
   simp only [nameF, Bool.and_eq_true] at h
   rcases List.mem_cons.1 ht with rfl | ht
   ·exact h.1.1
   ·exact ih _ h.2 t ht
theorem nameOk_sz {n : List Tag} (h : nameOk n = true) : n.length ≤ 3 ∧ NmSz n := by
 simp only [nameOk, Bool.and_eq_true] at h
 have h1 := inR_t h.2
 refine ⟨by omega, by omega, fun t ht => ?_⟩
 have h2 := nameF_tags n none h.1 t ht
 simp only [tagOk, Bool.and_eq_true] at h2
 have h3 := one1_len h2.1
 have h4 := one1_len h2.2
 omega
theorem NmI.sz {names : List (List Tag)} (h : NmI names) : ∀ n ∈ names, NmSz n := fun n hn => (nameOk_sz (h.ok n hn)).2
theorem nmF_spec (t : Str) : ∀ (ns : List (List Tag)) (i : Nat), (nmF t i ns = 0 ∧ t ∉ ns.map text) ∨ ((i : Int) < nmF t i ns ∧ nmF t i ns ≤ i + ns.length ∧ t ∈ ns.map text) := by
 intro ns
 induction ns with
 | nil => intro i; simp [nmF]
 | cons x xs ih =>
   intro i
   unfold nmF
   by_cases h : text x = t
   ·right
    simp [h]
    omega
   ·have h1 : ¬ (text x == t) = true := by simpa using h
    rw [if_neg h1]
    rcases ih (i + 1) with ⟨h2, h3⟩ | ⟨h2, h3, h4⟩
    ·left
     refine ⟨h2, ?_⟩
     simp only [List.map_cons, List.mem_cons, not_or]
     exact ⟨fun e => h e.symm, h3⟩
    ·right
     refine ⟨by omega, by simp only [List.length_cons]; omega, ?_⟩
     simp only [List.map_cons, List.mem_cons]
     exact .inr h4
theorem NmI.add {names : List (List Tag)} {ps : List Pst} (h : NmI names) {n : List Tag} (hn : nameOk n = true) (h0 : ¬ nmAt ⟨names, ps⟩ n > 0) (hl : names.length < 6) : NmI (names ++ [n]) := by
 refine ⟨by simp; omega, fun m hm => ?_, ?_⟩
 ·rcases List.mem_append.1 hm with hm | hm
  ·exact h.ok m hm
  ·simp at hm; rw [hm]; exact hn
 ·rw [List.map_append]
  refine List.nodup_append.2 ⟨h.nodup, by simp, fun a ha b hb => ?_⟩
  simp at hb
  subst hb
  rintro rfl
  rcases nmF_spec (text n) names 0 with ⟨h2, h3⟩ | ⟨h2, _, _⟩
  ·exact h3 ha
  ·exact h0 (by unfold nmAt; simpa using h2)
structure StoI (s : Sto) : Prop where
 idx : s.idx = idxOf s.idx.names
 nm : NmI s.idx.names
 np : s.parts.length ≤ 6
 part : ∀ p ∈ s.parts, PrtI p
 nm2 : s.mem.length ≤ 20
 mem : ∀ m ∈ s.mem, 1 ≤ m.id ∧ m.id ≤ s.idx.names.length ∧ rowOk m.row = true
theorem StoI.sz {s : Sto} (h : StoI s) : StoSz s := ⟨⟨by have := h.nm.len; omega, h.nm.sz⟩, by have := h.np; omega, fun p hp => (h.part p hp).sz, by have := h.nm2; omega⟩
theorem StoI.copy {s : Sto} (h : StoI s) : copyS s = s := by
 have := h.idx
 unfold copyS
 rw [← this]
theorem StoI.mem6 {s : Sto} (h : StoI s) : ∀ m ∈ s.mem, 1 ≤ m.id ∧ m.id ≤ 6 := fun m hm => by
 have h1 := h.mem m hm
 have h2 := h.nm.len
 omega
theorem StoI.new : StoI ⟨⟨[], []⟩, [], []⟩ := ⟨by rfl, ⟨by simp, by simp, by simp⟩, by simp, by simp, by simp, by simp⟩
theorem addR_I {ix : Idx} (h : ix = idxOf ix.names) (hn : NmI ix.names) (n : List Tag) :
 (addR ix n).1 = idxOf (addR ix n).1.names ∧ NmI (addR ix n).1.names ∧ ix.names.length ≤ (addR ix n).1.names.length ∧ ((addR ix n).2.2 = true → 1 ≤ (addR ix n).2.1 ∧ (addR ix n).2.1 ≤ (addR ix n).1.names.length) := by
 by_cases h1 : nmAt ix n > 0
 ·rw [addR_hit h1]
  refine ⟨h, hn, Nat.le_refl _, fun _ => ?_⟩
  rcases nmF_spec (text n) ix.names 0 with ⟨h2, _⟩ | ⟨h2, h3, _⟩
  ·unfold nmAt at h1; omega
  ·unfold nmAt at h1 ⊢; simp only; omega
 ·by_cases h2 : nameOk n = false ∨ (ix.names.length : Int) ≥ 6
  ·rw [addR_no h1 h2]
   exact ⟨h, hn, Nat.le_refl _, by simp⟩
  ·have h3 : nameOk n = true := by
    cases h4 : nameOk n
    ·exact absurd (.inl h4) h2
    ·rfl
   have h4 : ¬ (ix.names.length : Int) ≥ 6 := fun h => h2 (.inr h)
   rw [addR_new h1 h3 h4]
   refine ⟨rfl, ?_, by simp [idxOf], fun _ => by simp [idxOf]; omega⟩
   exact NmI.add (ps := ix.posts) hn h3 h1 (by omega)
theorem StoI.add {s : Sto} (h : StoI s) (n : List Tag) (r : Row) : StoI (addS s n r).1 := by
 unfold addS
 split
 ·exact h
 ·rename_i h1
  split
  ·exact h
  ·simp only [Bool.or_eq_true, not_or] at h1
   obtain ⟨⟨h1, h2⟩, h3⟩ := h1
   obtain ⟨g1, g2, g3, g4⟩ := addR_I h.idx h.nm n
   have h5 := g4 (by simpa using h1)
   refine ⟨g1, g2, h.np, h.part, ?_, fun m hm => ?_⟩
   ·have : ¬ s.mem.length ≥ 20 := by simpa using h3
    simp only [addX, List.length_append, List.length_cons, List.length_nil]; omega
   ·rcases List.mem_append.1 hm with hm | hm
    ·have := h.mem m hm
     refine ⟨this.1, ?_, this.2.2⟩
     have h6 := this.2.1
     show m.id ≤ ((addR s.idx n).1.names.length : Int)
     omega
    ·simp at hm
     subst hm
     exact ⟨h5.1, h5.2, by simpa using h2⟩
theorem StoI.flush {s : Sto} (h : StoI s) : StoI (flushR s).1 := by
 unfold flushR
 split
 ·exact h
 ·rename_i h1
  refine ⟨h.idx, h.nm, by simp; omega, fun p hp => ?_, by simp, by simp⟩
  rcases List.mem_append.1 hp with hp | hp
  ·exact h.part p hp
  ·simp at hp; subst hp; exact PrtI.mem (fun m hm => (h.mem m hm).2.2)
theorem StoI.merge {s : Sto} (h : StoI s) (a : Int) : StoI (mergeR s a).1 := by
 unfold mergeR
 split
 ·rename_i h1
  have h2 := inR_t h1
  have h3 : a.toNat + 1 < s.parts.length := by omega
  refine ⟨h.idx, h.nm, ?_, fun p hp => ?_, h.nm2, h.mem⟩
  ·show (mergeP s.parts a.toNat).length ≤ 6
   rw [mergeP_at (List.getElem?_eq_getElem (by omega)) (List.getElem?_eq_getElem h3)]
   have := h.np
   simp only [List.length_append, List.length_take, List.length_drop, List.length_cons, List.length_nil]
   omega
  ·change p ∈ mergeP s.parts a.toNat at hp
   rw [mergeP_at (List.getElem?_eq_getElem (by omega)) (List.getElem?_eq_getElem h3)] at hp
   rcases List.mem_append.1 hp with hp | hp
   ·rcases List.mem_append.1 hp with hp | hp
    ·exact h.part p (List.mem_of_mem_take hp)
    ·simp at hp; subst hp
     exact (h.part _ (List.getElem_mem _)).merge (h.part _ (List.getElem_mem _))
   ·exact h.part p (List.mem_of_mem_drop hp)
 ·exact h
structure DskI (d : Dsk) : Prop where
 nm : NmI d.names
 nf : d.files.length ≤ 20
 file : ∀ f ∈ d.files, PrtI f.part
 nl : d.list.length ≤ 6
 there : ∀ n ∈ d.list, ∃ f ∈ d.files, f.num = n
 num : ∀ n ∈ d.list, 0 ≤ n ∧ n ≤ 999
 next : 1 ≤ d.next ∧ d.next ≤ 999
theorem numF_spec (n : Int) : ∀ (fs : List Fil) (i : Nat), 0 ≤ numF n i fs ↔ ∃ f ∈ fs, f.num = n := by
 intro fs
 induction fs with
 | nil => intro i; simp [numF]
 | cons f fs ih =>
   intro i
   unfold numF
   by_cases h : f.num = n
   ·simp [h]
   ·have h1 : ¬ (f.num == n) = true := by simpa using h
    rw [if_neg h1, ih]
    simp [h]
theorem numAt_spec (d : Dsk) (n : Int) : 0 ≤ numAt d n ↔ ∃ f ∈ d.files, f.num = n := numF_spec n d.files 0
theorem DskI.at {d : Dsk} (h : DskI d) : ∀ n ∈ d.list, 0 ≤ numAt d n := fun n hn => (numAt_spec d n).2 (h.there n hn)
theorem DskI.new : DskI ⟨[], [], [], 1⟩ := ⟨⟨by simp, by simp, by simp⟩, by simp, by simp, by simp, by simp, by simp, by simp⟩
theorem DskI.part {d : Dsk} (h : DskI d) (n : Int) : PrtI (partNo d n) := by
 unfold partNo
 rw [List.getD_eq_getElem?_getD]
 cases hx : d.files[(numAt d n).toNat]? with
 | none => exact PrtI.nil
 | some f => exact h.file f (List.mem_of_getElem? hx)
theorem DskI.copy {d : Dsk} (h : DskI d) : DskI (copyD d) := by
 refine ⟨h.nm, by simp [copyD]; exact h.nf, fun f hf => ?_, h.nl, fun n hn => ?_, h.num, h.next⟩
 ·simp only [copyD, List.mem_map] at hf
  obtain ⟨g, hg, rfl⟩ := hf
  exact (h.file g hg).merge PrtI.nil
 ·obtain ⟨f, hf, he⟩ := h.there n hn
  exact ⟨copyF f, by simp only [copyD, List.mem_map]; exact ⟨f, hf, rfl⟩, he⟩
theorem DskI.tidy {d : Dsk} (h : DskI d) : DskI (tidyD d) := by
 refine ⟨h.nm, Nat.le_trans (List.length_filter_le _ _) h.nf, fun f hf => h.file f (List.mem_filter.1 hf).1, h.nl, fun n hn => ?_, h.num, h.next⟩
 obtain ⟨f, hf, he⟩ := h.there n hn
 exact ⟨f, List.mem_filter.2 ⟨hf, by rw [he]; have h1 : n ∈ d.list := hn; simpa using h1⟩, he⟩
theorem DskI.open {d : Dsk} (h : DskI d) : StoI (openS d) := by
 refine ⟨rfl, h.nm, by simp [openS]; exact h.nl, fun p hp => ?_, by simp [openS], by simp [openS]⟩
 simp only [openS, List.mem_map] at hp
 obtain ⟨n, _, rfl⟩ := hp
 exact h.part n
theorem DskI.gone {d : Dsk} (h : DskI d) (n : Int) : DskI ⟨goneF d n, d.list, d.names, d.next⟩ := by
 unfold goneF
 split
 ·rename_i h1
  refine ⟨h.nm, ?_, fun f hf => ?_, h.nl, fun k hk => ?_, h.num, h.next⟩
  ·have := h.nf
   simp only [List.length_append, List.length_take, List.length_drop]; omega
  ·rcases List.mem_append.1 hf with hf | hf
   ·exact h.file f (List.mem_of_mem_take hf)
   ·exact h.file f (List.mem_of_mem_drop hf)
  ·obtain ⟨f, hf, he⟩ := h.there k hk
   obtain ⟨i, hi, hif⟩ := List.mem_iff_getElem.1 hf
   have hne : k ≠ n := by rintro rfl; have := h1.2; simp at this; exact this hk
   have hat : ∀ (fs : List Fil) (j : Nat) (g : Fil), 0 ≤ numF n j fs → fs[(numF n j fs).toNat - j]? = some g → g.num = n := by
    intro fs
    induction fs with
    | nil => intro j g hj; simp [numF] at hj
    | cons y ys ih =>
      intro j g hj hg
      unfold numF at hj hg
      by_cases hy : (y.num == n) = true
      ·rw [if_pos hy] at hg
       simp at hg
       subst hg
       simpa using hy
      ·rw [if_neg hy] at hj hg
       have h3 := numF_lt n ys (j + 1)
       have h4 : (numF n (j + 1) ys).toNat - j = ((numF n (j + 1) ys).toNat - (j + 1)) + 1 := by omega
       rw [h4, List.getElem?_cons_succ] at hg
       exact ih _ _ hj hg
   have hin : i ≠ (numAt d n).toNat := by
    rintro rfl
    have := hat d.files 0 f h1.1 (by show d.files[(numAt d n).toNat - 0]? = _; rw [Nat.sub_zero, List.getElem?_eq_getElem hi, hif])
    exact hne (he ▸ this)
   refine ⟨f, ?_, he⟩
   rcases Nat.lt_or_gt_of_ne hin with hlt | hgt
   ·refine List.mem_append.2 (.inl (List.mem_iff_getElem.2 ⟨i, by simp; omega, ?_⟩))
    rw [List.getElem_take]; exact hif
   ·refine List.mem_append.2 (.inr (List.mem_iff_getElem.2 ⟨i - ((numAt d n).toNat + 1), by simp; omega, ?_⟩))
    rw [List.getElem_drop]
    simp only [show (numAt d n).toNat + 1 + (i - ((numAt d n).toNat + 1)) = i by omega]
    exact hif
 ·exact h
theorem DskI.file1 {d : Dsk} (h : DskI d) {p : Prt} (hp : PrtI p) (hf : d.files.length < 20) (hn : d.next < 999) : DskI ⟨d.files ++ [⟨d.next, p⟩], d.list, d.names, d.next + 1⟩ := by
 refine ⟨h.nm, by simp; omega, fun f hf => ?_, h.nl, fun n hn => ?_, h.num, by have := h.next; simp only; omega⟩
 ·rcases List.mem_append.1 hf with hf | hf
  ·exact h.file f hf
  ·simp at hf; subst hf; exact hp
 ·obtain ⟨f, hf, he⟩ := h.there n hn
  exact ⟨f, List.mem_append.2 (.inl hf), he⟩
structure WI (w : Wld) : Prop where
 sto : StoI w.store
 dsk : DskI w.disk
theorem WI.new : WI ⟨⟨⟨[], []⟩, [], []⟩, ⟨[], [], [], 1⟩⟩ := ⟨StoI.new, DskI.new⟩
theorem WI.fall {w : Wld} (h : DskI w.disk) : WI (fallW w) := by
 have h1 := h.tidy.copy
 refine ⟨?_, h1⟩
 show StoI (copyS (openS (copyD (tidyD w.disk))))
 rw [h1.open.copy]
 exact h1.open
theorem WI.copy {w : Wld} (h : WI w) : WI (copyW w) := ⟨by show StoI (copyS w.store); rw [h.sto.copy]; exact h.sto, h.dsk.copy⟩
structure StI (d : Dsk) (st : List Stp) : Prop where
 len : st.length ≤ 4
 sz : ∀ x ∈ st, StpSz x
 ok : ∀ k : Nat, DskI ((st.take k).foldl doD d)
theorem StI.nil {d : Dsk} (h : DskI d) : StI d [] := ⟨by simp, by simp, by simpa using h⟩
theorem stp_pt {d : Dsk} {x : Stp} {xs : List Stp} (h0 : DskI d) (h : ∀ k : Nat, DskI ((xs.take k).foldl doD (doD d x))) : ∀ k : Nat, DskI (((x :: xs).take k).foldl doD d) := by
 intro k
 cases k with
 | zero => exact h0
 | succ k => exact h k
theorem stp_end {d : Dsk} (h0 : DskI d) : ∀ k : Nat, DskI ((([] : List Stp).take k).foldl doD d) := by intro k; simpa using h0
theorem StI.flush {w : Wld} (h : WI w) : StI w.disk (flushSt w.disk w.store) := by
 unfold flushSt
 split
 ·exact StI.nil h.dsk
 ·rename_i h1
  have hd := h.dsk
  have hs := h.sto
  have hp : PrtI (memPart w.store.mem) := PrtI.mem (fun m hm => (hs.mem m hm).2.2)
  have h2 := hd.file1 hp (by omega) (by omega)
  have hn := hd.next
  refine ⟨by simp, fun x hx => ?_, ?_⟩
  ·simp only [List.mem_cons, List.not_mem_nil, or_false] at hx
   rcases hx with rfl | rfl
   ·exact ⟨by simp, by simp, by simp, by simp only; omega, by simp only; omega⟩
   ·refine ⟨?_, ?_, fun n hn => ?_, by simp, by simp⟩
    ·have := hd.nl; simp; omega
    ·have := hs.nm.len; simp only; omega
    ·have := (hs.nm.sz n hn).1; omega
  ·refine stp_pt hd (stp_pt ?_ (stp_end ?_))
   ·rw [doD_1 rfl]; exact h2
   ·rw [doD_2 rfl, doD_1 rfl]
    refine ⟨hs.nm, h2.nf, h2.file, by simp only [List.length_append, List.length_cons, List.length_nil]; omega, fun n hn' => ?_, fun n hn' => ?_, h2.next⟩
    ·rcases List.mem_append.1 hn' with hn' | hn'
     ·exact h2.there n hn'
     ·simp at hn'; subst hn'
      exact ⟨⟨w.disk.next, memPart w.store.mem⟩, by simp, rfl⟩
    ·rcases List.mem_append.1 hn' with hn' | hn'
     ·exact h2.num n hn'
     ·simp at hn'; omega
theorem StI.merge {d : Dsk} (hd : DskI d) (at_ : Int) : StI d (mergeSt d at_) := by
 unfold mergeSt
 split
 ·exact StI.nil hd
 ·rename_i h1
  simp only [Bool.or_eq_true, not_or, Bool.not_eq_true, Bool.not_eq_false', decide_eq_true_eq] at h1
  obtain ⟨⟨h1, h3⟩, h4⟩ := h1
  have h0 := inR_t (by simpa using h1)
  have hl : at_.toNat + 1 < d.list.length := by omega
  have ha : d.list.getD at_.toNat 0 ∈ d.list := by rw [List.getD_eq_getElem?_getD, List.getElem?_eq_getElem (by omega)]; exact List.getElem_mem _
  have hb : d.list.getD (at_.toNat + 1) 0 ∈ d.list := by rw [List.getD_eq_getElem?_getD, List.getElem?_eq_getElem hl]; exact List.getElem_mem _
  have na := hd.num _ ha
  have nb := hd.num _ hb
  generalize d.list.getD at_.toNat 0 = a at *
  generalize d.list.getD (at_.toNat + 1) 0 = b at *
  have hp : PrtI (pMerge (partNo d a) (partNo d b)) := (hd.part a).merge (hd.part b)
  have h2 := hd.file1 hp (by omega) (by omega)
  have hn := hd.next
  have hlen : (d.list.take at_.toNat ++ [d.next] ++ d.list.drop (at_.toNat + 2)).length ≤ 6 := by
   have := hd.nl
   simp only [List.length_append, List.length_take, List.length_drop, List.length_cons, List.length_nil]; omega
  have hm : ∀ n ∈ d.list.take at_.toNat ++ [d.next] ++ d.list.drop (at_.toNat + 2), n ∈ d.list ∨ n = d.next := by
   intro n hn
   rcases List.mem_append.1 hn with hn | hn
   ·rcases List.mem_append.1 hn with hn | hn
    ·exact .inl (List.mem_of_mem_take hn)
    ·simp at hn; exact .inr hn
   ·exact .inl (List.mem_of_mem_drop hn)
  have h5 : DskI ⟨d.files ++ [⟨d.next, pMerge (partNo d a) (partNo d b)⟩], d.list.take at_.toNat ++ [d.next] ++ d.list.drop (at_.toNat + 2), d.names, d.next + 1⟩ := by
   refine ⟨h2.nm, h2.nf, h2.file, hlen, fun n hn' => ?_, fun n hn' => ?_, h2.next⟩
   ·rcases hm n hn' with hn' | rfl
    ·exact h2.there n hn'
    ·exact ⟨⟨d.next, pMerge (partNo d a) (partNo d b)⟩, by simp, rfl⟩
   ·rcases hm n hn' with hn' | rfl
    ·exact h2.num n hn'
    ·omega
  refine ⟨by simp, fun x hx => ?_, ?_⟩
  ·simp only [List.mem_cons, List.not_mem_nil, or_false] at hx
   rcases hx with rfl | rfl | rfl | rfl
   ·exact ⟨by simp, by simp, by simp, by simp only; omega, by simp only; omega⟩
   ·refine ⟨by simp only; omega, by have := hd.nm.len; simp only; omega, fun n hn => ?_, by simp, by simp⟩
    have := (hd.nm.sz n hn).1; omega
   ·exact ⟨by simp, by simp, by simp, by simp only; omega, by simp only; omega⟩
   ·exact ⟨by simp, by simp, by simp, by simp only; omega, by simp only; omega⟩
  ·refine stp_pt hd (stp_pt ?_ (stp_pt ?_ (stp_pt ?_ (stp_end ?_))))
   ·rw [doD_1 rfl]; exact h2
   ·rw [doD_2 rfl, doD_1 rfl]; exact h5
   ·rw [doD_3 rfl, doD_2 rfl, doD_1 rfl]; exact h5.gone a
   ·rw [doD_3 rfl, doD_3 rfl, doD_2 rfl, doD_1 rfl]; exact (h5.gone a).gone b
theorem WI.steps {w : Wld} (h : WI w) {st : List Stp} (hs : StI w.disk st) (cut : Int) {s : Sto} (h2 : StoI s) : WI (stepsW w st cut s) := by
 unfold stepsW
 split
 ·exact h
 ·split
  ·exact WI.fall (hs.ok _)
  ·exact ⟨h2, hs.ok _⟩
theorem WI.do {w : Wld} (h : WI w) (e : Evt) : WI (doW w e) := by
 unfold doW
 split
 ·split
  ·exact ⟨h.sto.add _ _, h.dsk⟩
  ·exact h
 ·split
  ·exact h.steps (StI.flush h) _ h.sto.flush
  ·split
   ·exact h.steps (StI.merge h.dsk _) _ (h.sto.merge _)
   ·split
    ·exact WI.fall h.dsk
    ·exact h
theorem stepsW_0 {w : Wld} {st : List Stp} {c : Int} {s : Sto} (h : (st.length : Int) = 0 ∨ c < 0) : stepsW w st c s = w := by unfold stepsW; rw [if_pos (by omega)]
theorem stepsW_1 {w : Wld} {st : List Stp} {c : Int} {s : Sto} (h : (st.length : Int) ≠ 0) (h2 : ¬ c < 0) (h3 : c < st.length) : stepsW w st c s = fallW ⟨w.store, toD w.disk st c⟩ := by unfold stepsW; rw [if_neg (by omega), if_pos h3]
theorem stepsW_2 {w : Wld} {st : List Stp} {c : Int} {s : Sto} (h : (st.length : Int) ≠ 0) (h2 : ¬ c < 0) (h3 : ¬ c < st.length) : stepsW w st c s = ⟨s, toD w.disk st c⟩ := by unfold stepsW; rw [if_neg (by omega), if_neg h3]
theorem doW_1 {w : Wld} {e : Evt} (h : e.kind = 1) (h2 : nameOk e.name = true) : doW w e = ⟨(addS w.store e.name e.row).1, w.disk⟩ := by unfold doW; rw [if_pos h, if_pos h2]
theorem doW_1f {w : Wld} {e : Evt} (h : e.kind = 1) (h2 : nameOk e.name = false) : doW w e = w := by unfold doW; rw [if_pos h, if_neg (by simp [h2])]
theorem doW_2 {w : Wld} {e : Evt} (h : e.kind = 2) : doW w e = stepsW w (flushSt w.disk w.store) e.cut (flushR w.store).1 := by unfold doW; rw [if_neg (by omega), if_pos h]
theorem doW_3 {w : Wld} {e : Evt} (h : e.kind = 3) : doW w e = stepsW w (mergeSt w.disk e.at_) e.cut (mergeR w.store e.at_).1 := by unfold doW; rw [if_neg (by omega), if_neg (by omega), if_pos h]
theorem doW_4 {w : Wld} {e : Evt} (h : e.kind = 4) : doW w e = fallW w := by unfold doW; rw [if_neg (by omega), if_neg (by omega), if_neg (by omega), if_pos h]
theorem doW_0 {w : Wld} {e : Evt} (h : e.kind ≠ 1) (h2 : e.kind ≠ 2) (h3 : e.kind ≠ 3) (h4 : e.kind ≠ 4) : doW w e = w := by unfold doW; rw [if_neg h, if_neg h2, if_neg h3, if_neg h4]
end Go.Proofs.YtfnpaglcnmcnbaaGreat
namespace Go.Proofs.YtfnpaglcnmcnbaaGreat
set_option maxRecDepth 100000
set_option maxHeartbeats 4000000
theorem c_spec_l22Copy (w_ : Wld) {w : World} {F : Nat → Prop} {a1 : Option Addr} {n1 c1 : Nat} (h1 : RepS w F a1 n1 c1 w_.store.idx.names) {a2 : Option Addr} {n2 c2 : Nat} (h2 : RepS w F a2 n2 c2 w_.store.idx.posts) {a3 : Option Addr} {n3 c3 : Nat} (h3 : RepS w F a3 n3 c3 w_.store.parts) {a4 : Option Addr} {n4 c4 : Nat} (h4 : RepS w F a4 n4 c4 w_.store.mem) {a5 : Option Addr} {n5 c5 : Nat} (h5 : RepS w F a5 n5 c5 w_.disk.files) {a6 : Option Addr} {n6 c6 : Nat} (h6 : RepS w F a6 n6 c6 w_.disk.list) {a7 : Option Addr} {n7 c7 : Nat} (h7 : RepS w F a7 n7 c7 w_.disk.names) (p0 : WI w_) : Calls Tryz.prog 155 [.agg #[.slice a1 n1 c1, .slice a2 n2 c2, .slice a3 n3 c3, .slice a4 n4 c4, .slice a5 n5 c5, .slice a6 n6 c6, .slice a7 n7 c7, .int .i64 w_.disk.next]].toArray w (rets fun rv w' => (∃ (a0 : Option Addr) (n0 c0 : Nat) (a1 : Option Addr) (n1 c1 : Nat) (a2 : Option Addr) (n2 c2 : Nat) (r3 n3 c3 : Nat) (r4 n4 c4 : Nat) (r5 n5 c5 : Nat) (r6 n6 c6 : Nat), rv = .agg #[.slice a0 n0 c0, .slice a1 n1 c1, .slice a2 n2 c2, .slice (some ⟨r3, 0, none⟩) n3 c3, .slice (some ⟨r4, 0, none⟩) n4 c4, .slice (some ⟨r5, 0, none⟩) n5 c5, .slice (some ⟨r6, 0, none⟩) n6 c6, .int .i64 ((((copyW w_)).disk).next)] ∧ RepS w' (nin (ge w.heap.size) [r3, r4, r5, r6]) a0 n0 c0 (((((copyW w_)).store).idx).names) ∧ RepS w' (nin (ge w.heap.size) [r3, r4, r5, r6]) a1 n1 c1 (((((copyW w_)).store).idx).posts) ∧ RepS w' (nin (ge w.heap.size) [r3, r4, r5, r6]) a2 n2 c2 ((((copyW w_)).store).parts) ∧ Own w' r3 51 (nin (ge w.heap.size) [r3, r4, r5, r6]) n3 c3 ((((copyW w_)).store).mem) ∧ w.heap.size ≤ r3 ∧ Own w' r4 88 (nin (ge w.heap.size) [r3, r4, r5, r6]) n4 c4 ((((copyW w_)).disk).files) ∧ w.heap.size ≤ r4 ∧ Nb r4 r3 ∧ Own w' r5 3 (nin (ge w.heap.size) [r3, r4, r5, r6]) n5 c5 ((((copyW w_)).disk).list) ∧ w.heap.size ≤ r5 ∧ Nb r5 r3 ∧ Nb r5 r4 ∧ Own w' r6 31 (nin (ge w.heap.size) [r3, r4, r5, r6]) n6 c6 ((((copyW w_)).disk).names) ∧ w.heap.size ≤ r6 ∧ Nb r6 r3 ∧ Nb r6 r4 ∧ Nb r6 r5) ∧ Ext w w') := by
 refine goT Tryz.func155 ?_
 obtain ⟨rfl, bH, h1⟩ := h1.tp
 obtain ⟨rfl, bI, h2⟩ := h2.tp
 obtain ⟨rfl, bJ, h3⟩ := h3.tp
 obtain ⟨rfl, bK, h4⟩ := h4.tp
 obtain ⟨rfl, bL, h5⟩ := h5.tp
 obtain ⟨rfl, bM, h6⟩ := h6.tp
 obtain ⟨rfl, bN, h7⟩ := h7.tp
 refine .s <| .g <| .np 100 [.slice a1 w_.store.idx.names.length c1, .slice a2 w_.store.idx.posts.length c2, .slice a3 w_.store.parts.length c3, .slice a4 w_.store.mem.length c4, .slice a5 w_.disk.files.length c5, .slice a6 w_.disk.list.length c6, .slice a7 w_.disk.names.length c7, vI w_.disk.next] fun O bW aF ax V ba => ?_
 replace ⟨h1, h2, h3, h4, h5, h6, h7⟩ := (sn [] ax aF).g7 h1 h2 h3 h4 h5 h6 h7
 have C := ax
 clear ax ba aF
 refine .np 100 [.slice none 0 0, .slice none 0 0, .slice none 0 0, .slice none 0 0, .slice none 0 0, .slice none 0 0, .slice none 0 0, vI 0] fun W bX ay aG E bc => ?_
 have bO := C.cn ay
 replace ⟨h1, h2, h3, h4, h5, h6, h7, V, C⟩ := (sn [O] aG ay).g9 h1 h2 h3 h4 h5 h6 h7 V C
 clear aG bc ay
 refine .d <| .s <| .gd nil 5 fun bY aH => ?_
 replace ⟨h1, h2, h3, h4, h5, h6, h7, V, E, C⟩ := (se [W, O] aH).g10 h1 h2 h3 h4 h5 h6 h7 V E C
 clear aH
 refine .r [0] <| .ln 1 V id <| .r [3] <| .ln 4 V id <| .go 2 <| .cl (fun aN aj => c_spec_l13Copy w_.store (h1.ta.ext aj) (h2.ta.ext aj) (h3.ta.ext aj) (h4.ta.ext aj) p0.sto.sz (w := aN) (F := all)) ?_
 intro aN aj
 replace ⟨h5, h6, h7, V, E, C⟩ := (se [W, O] aj).g6 h5 h6 h7 V E C
 rintro bZ aD ⟨⟨bd, b0, bg, bh, b6, bi, bj, b7, bk, Z, bm, bn, rfl, ac, ae, af, J, av⟩, az⟩
 have al := al2 E.lt V.lt
 have aw : Gb w.heap.size aN.heap.size := C.size
 have hkeep_ := az
 have bP := nb_ge av E.lt
 have bo := gb_ge av C.size
 replace ⟨h5, h6, h7, V, E, C⟩ := (sz [W, O] az av).g6 h5 h6 h7 V E C
 clear az av
 refine ⟨Ext.chg hkeep_, ?_⟩
 replace ac : RepS aD (nin (ge w.heap.size) [Z, W, O]) _ _ _ _ := RepS.takeM (s0 := w.heap.size) (M := [W, O]) ac al aw
 have bQ := ac.max
 replace ae : RepS aD (nin (ge w.heap.size) [Z, W, O]) _ _ _ _ := RepS.takeM (s0 := w.heap.size) (M := [W, O]) ae al aw
 have bR := ae.max
 replace af : RepS aD (nin (ge w.heap.size) [Z, W, O]) _ _ _ _ := RepS.takeM (s0 := w.heap.size) (M := [W, O]) af al aw
 have bS := af.max
 replace J : Own aD Z 51 (nin (ge w.heap.size) [Z, W, O]) _ _ _ := Own.takeM (s0 := w.heap.size) (M := [W, O]) J al aw
 have bT := J.max
 have bU := J.len
 clear al
 have bq := ac.len
 subst bq
 have br := ae.len
 subst br
 have bt := af.len
 subst bt
 refine .d fun aO aI => ?_
 replace ⟨h5, h6, h7, V, E, ac, ae, af, J, C⟩ := (se [Z, W, O] aI).g10 h5 h6 h7 V E ac ae af J C
 clear aI
 refine .cl (c_spec_l21Copy w_.disk h5.ta h6.ta h7.ta (by have := p0.dsk.nm.len; omega) (fun n hn => by have := (p0.dsk.nm.sz n hn).1; omega) (by have := p0.dsk.nl; omega) (by have := p0.dsk.nf; omega) (fun f hf => (p0.dsk.file f hf).sz) (w := aO) (F := all)) ?_
 rintro b8 aE ⟨⟨am, bu, bv, ao, aJ, aK, aq, aL, aM, rfl, ag, ar, aa, ah, aP, ab, ai, aQ, aR⟩, aA⟩
 have ak := al3 J.lt E.lt V.lt
 have au : Gb w.heap.size aO.heap.size := C.size
 have bw := nb_ge ar E.lt
 have aS := nb_ge ar J.lt
 have aT := gb_ge ar C.size
 have bz := nb_ge ah E.lt
 have aU := nb_ge ah J.lt
 have aV := gb_ge ah C.size
 have bA := nb_ge ai E.lt
 have aW := nb_ge ai J.lt
 have aX := gb_ge ai C.size
 have aB : Mv [Z, W, O] [am, ao, aq, Z, W, O] aO aE := Mv.cons (Mv.cons (Mv.cons (Mv.ext aA) ai) ah) ar
 replace ⟨E, ac, ae, af, J, C⟩ := (sp aB aA).g6 E ac ae af J C
 clear aB aA ar ah ai
 replace ag : Own aE am 88 (nin (ge w.heap.size) [am, ao, aq, Z, W, O]) _ _ _ := Own.takeM (s0 := w.heap.size) (M := [Z, W, O]) ag ak au
 have bB := ag.max
 have bC := ag.len
 replace aa : Own aE ao 3 (nin (ge w.heap.size) [am, ao, aq, Z, W, O]) _ _ _ := Own.takeM (s0 := w.heap.size) (M := [Z, W, O]) aa ak au
 have bD := aa.max
 have bE := aa.len
 replace ab : Own aE aq 31 (nin (ge w.heap.size) [am, ao, aq, Z, W, O]) _ _ _ := Own.takeM (s0 := w.heap.size) (M := [Z, W, O]) ab ak au
 have bF := ab.max
 have bG := ab.len
 clear ak
 refine .r 1 <| .sc [.slice bd (((((copyS w_.store)).idx).names).length) bg, .slice bh (((((copyS w_.store)).idx).posts).length) bi, .slice bj ((((copyS w_.store)).parts).length) bk, vS Z bm bn, vS am bu bv, vS ao aJ aK, vS aq aL aM, vI (((copyD w_.disk)).next)] E fun bV aC aY aZ => ?_
 replace ⟨ac, ae, af, J, ag, aa, ab, C⟩ := (so [am, ao, aq, Z, W, O] aC).g8 ac ae af J ag aa ab C
 clear aC aZ
 exact .d <| .rb Tryz.func155 Tryz.results155 aY ⟨⟨bd, ((((copyS w_.store)).idx).names).length, bg, bh, ((((copyS w_.store)).idx).posts).length, bi, bj, (((copyS w_.store)).parts).length, bk, Z, bm, bn, am, bu, bv, ao, aJ, aK, aq, aL, aM, rfl, ((RepS.lessM ac (all_cons (.tail _ (.tail _ (.tail _ (.head _)))) (all_cons (.head _) (all_cons (.tail _ (.head _)) (all_cons (.tail _ (.tail _ (.head _))) all_nil))))).eqx (by rfl)), ((RepS.lessM ae (all_cons (.tail _ (.tail _ (.tail _ (.head _)))) (all_cons (.head _) (all_cons (.tail _ (.head _)) (all_cons (.tail _ (.tail _ (.head _))) all_nil))))).eqx (by rfl)), ((RepS.lessM af (all_cons (.tail _ (.tail _ (.tail _ (.head _)))) (all_cons (.head _) (all_cons (.tail _ (.head _)) (all_cons (.tail _ (.tail _ (.head _))) all_nil))))).eqx (by rfl)), ((Own.lessM J (all_cons (.tail _ (.tail _ (.tail _ (.head _)))) (all_cons (.head _) (all_cons (.tail _ (.head _)) (all_cons (.tail _ (.tail _ (.head _))) all_nil))))).eqx (by rfl)), bo, ((Own.lessM ag (all_cons (.tail _ (.tail _ (.tail _ (.head _)))) (all_cons (.head _) (all_cons (.tail _ (.head _)) (all_cons (.tail _ (.tail _ (.head _))) all_nil))))).eqx (by rfl)), aT, aS, ((Own.lessM aa (all_cons (.tail _ (.tail _ (.tail _ (.head _)))) (all_cons (.head _) (all_cons (.tail _ (.head _)) (all_cons (.tail _ (.tail _ (.head _))) all_nil))))).eqx (by rfl)), aV, aU, aP, ((Own.lessM ab (all_cons (.tail _ (.tail _ (.tail _ (.head _)))) (all_cons (.head _) (all_cons (.tail _ (.head _)) (all_cons (.tail _ (.tail _ (.head _))) all_nil))))).eqx (by rfl)), aX, aW, aQ, aR⟩, C⟩
theorem c_spec_l22Fall (w_ : Wld) {w : World} {F : Nat → Prop} {a1 : Option Addr} {n1 c1 : Nat} (h1 : RepS w F a1 n1 c1 w_.store.idx.names) {a2 : Option Addr} {n2 c2 : Nat} (h2 : RepS w F a2 n2 c2 w_.store.idx.posts) {a3 : Option Addr} {n3 c3 : Nat} (h3 : RepS w F a3 n3 c3 w_.store.parts) {a4 : Option Addr} {n4 c4 : Nat} (h4 : RepS w F a4 n4 c4 w_.store.mem) {a5 : Option Addr} {n5 c5 : Nat} (h5 : RepS w F a5 n5 c5 w_.disk.files) {a6 : Option Addr} {n6 c6 : Nat} (h6 : RepS w F a6 n6 c6 w_.disk.list) {a7 : Option Addr} {n7 c7 : Nat} (h7 : RepS w F a7 n7 c7 w_.disk.names) (p0 : DskI w_.disk) : Calls Tryz.prog 181 [.agg #[.slice a1 n1 c1, .slice a2 n2 c2, .slice a3 n3 c3, .slice a4 n4 c4, .slice a5 n5 c5, .slice a6 n6 c6, .slice a7 n7 c7, .int .i64 w_.disk.next]].toArray w (rets fun rv w' => VS (ge w.heap.size) w' (fallW w_ : Wld) rv ∧ Ext w w') := by
 refine goT Tryz.func181 ?_
 obtain ⟨rfl, cq, h1⟩ := h1.tp
 obtain ⟨rfl, cr, h2⟩ := h2.tp
 obtain ⟨rfl, cu, h3⟩ := h3.tp
 obtain ⟨rfl, cv, h4⟩ := h4.tp
 obtain ⟨rfl, cw, h5⟩ := h5.tp
 obtain ⟨rfl, cx, h6⟩ := h6.tp
 obtain ⟨rfl, cy, h7⟩ := h7.tp
 refine .s <| .g <| .np 100 [.slice a1 w_.store.idx.names.length c1, .slice a2 w_.store.idx.posts.length c2, .slice a3 w_.store.parts.length c3, .slice a4 w_.store.mem.length c4, .slice a5 w_.disk.files.length c5, .slice a6 w_.disk.list.length c6, .slice a7 w_.disk.names.length c7, vI w_.disk.next] fun E dd aJ aK W bL => ?_
 have cz : Cov nil w E := cov_new aJ (Nat.le_refl _)
 replace ⟨h5, h6, h7⟩ := (sn [] aK aJ).g3 h5 h6 h7
 have C := aK
 clear aK bL aJ
 refine .np 100 [.slice none 0 0, .slice none 0 0, .slice none 0 0, .slice none 0 0, .slice none 0 0, .slice none 0 0, .slice none 0 0, vI 0] fun J bM aC bn O bN => ?_
 have cA := nb_new aC W.lt
 have cB := C.cn aC
 replace ⟨h5, h6, h7, W, C⟩ := (sn [E] bn aC).g5 h5 h6 h7 W C
 clear bn bN aC
 refine .d <| .s <| .g <| .r 1 <| .ln W <| .cl (c_spec_l21Tidy w_.disk h5 h6 h7 (by have := p0.nf; omega) (w := bM) (F := nin (fo F w.heap.size) [J, E])) ?_
 rintro de bO ⟨⟨_, rfl, ⟨df, dg, dh, di, dj, dk, dm, dp, dq, rfl, aL, aM, aN⟩⟩, bo⟩
 have aD := al2 O.lt W.lt
 have aO : Gb w.heap.size bM.heap.size := C.size
 replace ⟨W, O, C⟩ := (se [] bo).g3 W O C
 clear bo
 replace aL := RepS.mixed' (M := [J, E]) aL aD aO
 have cC := aL.max
 replace aM := RepS.mixed' (M := [J, E]) aM aD aO
 have cD := aM.max
 replace aN := RepS.mixed' (M := [J, E]) aN aD aO
 have cE := aN.max
 clear aD
 have bP := aL.len
 subst bP
 have bQ := aM.len
 subst bQ
 have bR := aN.len
 subst bR
 refine .cl (c_spec_l21Copy (tidyD w_.disk) aL.ta aM.ta aN.ta (by have := p0.tidy.nm.len; omega) (fun n hn => by have := (p0.tidy.nm.sz n hn).1; omega) (by have := p0.tidy.nl; omega) (by have := p0.tidy.nf; omega) (fun f hf => (p0.tidy.file f hf).sz) (w := bO) (F := all)) ?_
 rintro dr bt ⟨⟨am, bg, bh, al, bi, bj, ak, bk, bm, rfl, ao, aE, aj, aF, cF, af, aG, cG, cH⟩, bq⟩
 have aH := al2 O.lt W.lt
 have aP : Gb w.heap.size bO.heap.size := C.size
 have cI := nb_ge aE W.lt
 have cJ := nb_ge aE O.lt
 have bS := gb_ge aE C.size
 have cK := nb_ge aF W.lt
 have cL := nb_ge aF O.lt
 have bu := gb_ge aF C.size
 have bV := nb_ge aG W.lt
 have bW := nb_ge aG O.lt
 have bv := gb_ge aG C.size
 replace ⟨W, O, C⟩ := (se [] bq).g3 W O C
 clear bq aE aF aG
 replace ao : Own bt am 88 (nin (ge w.heap.size) [am, al, ak, J, E]) _ _ _ := Own.takeM (s0 := w.heap.size) (M := [J, E]) ao aH aP
 have bX := ao.max
 have bY := ao.len
 replace aj : Own bt al 3 (nin (ge w.heap.size) [am, al, ak, J, E]) _ _ _ := Own.takeM (s0 := w.heap.size) (M := [J, E]) aj aH aP
 have bZ := aj.max
 have b0 := aj.len
 replace af : Own bt ak 31 (nin (ge w.heap.size) [am, al, ak, J, E]) _ _ _ := Own.takeM (s0 := w.heap.size) (M := [J, E]) af aH aP
 have b6 := af.max
 have b7 := af.len
 clear aH
 refine .r 1 <| .sb 4 (.agg #[vS am bg bh, vS al bi bj, vS ak bk bm, vI (((copyD (tidyD w_.disk))).next)]) [.slice a1 w_.store.idx.names.length c1, .slice a2 w_.store.idx.posts.length c2, .slice a3 w_.store.parts.length c3, .slice a4 w_.store.mem.length c4, vS am bg bh, vS al bi bj, vS ak bk bm, vI (((copyD (tidyD w_.disk))).next)] W fun ax aQ aa bw => ?_
 replace ⟨O, ao, aj, af, C⟩ := (so [am, al, ak, J, E] aQ).g5 O ao aj af C
 clear aQ bw
 refine .d <| .s <| .g <| .r 1 <| .ln aa ?_
 have V := ao.sl bS
 replace ⟨aj, af⟩ := (sd ax [am, al, ak, J, E] am).g2 aj af
 have Z := aj.sl bu
 replace ⟨V, af⟩ := (sd ax [al, ak, J, E] al).g2 V af
 have ac := af.sl bv
 replace ⟨V, Z⟩ := (sd ax [ak, J, E] ak).g2 V Z
 refine .cl (c_spec_l21Open ((copyD (tidyD w_.disk))) (V.base (fun _ _ h => .inr h)) (Z.base (fun _ _ h => .inr h)) (ac.base (fun _ _ h => .inr h)) (by have := p0.tidy.copy.nm.len; omega) p0.tidy.copy.nm.sz (by have := p0.tidy.copy.nl; omega) p0.tidy.copy.at (w := ax) (F := nin (fo F w.heap.size) [J, E])) ?_
 rintro cM br ⟨⟨_, rfl, ⟨cN, cO, cP, cQ, cR, cS, cT, cU, cV, cW, cX, cY, rfl, ay, az, aA, aB⟩⟩, aR⟩
 have aq := al2 O.lt aa.lt
 have av : Gb w.heap.size ax.heap.size := C.size
 replace ⟨aa, O, V, Z, ac, C⟩ := (se [J, E] aR).g6 aa O V Z ac C
 clear aR
 replace ay := RepS.mixed' (M := [J, E]) ay aq av
 have b8 := ay.max
 replace az := RepS.mixed' (M := [J, E]) az aq av
 have b9 := az.max
 replace aA := RepS.mixed' (M := [J, E]) aA aq av
 have cd := aA.max
 replace aB := RepS.mixed' (M := [J, E]) aB aq av
 have ce := aB.max
 clear aq
 have bz := ay.len
 subst bz
 have bA := az.len
 subst bA
 have bB := aA.len
 subst bB
 have bC := aB.len
 subst bC
 refine .cl (c_spec_l13Copy (⟨(⟨((openS ((copyD (tidyD w_.disk)))).idx).names, ((openS ((copyD (tidyD w_.disk)))).idx).posts⟩ : Idx), (openS ((copyD (tidyD w_.disk)))).parts, (openS ((copyD (tidyD w_.disk)))).mem⟩ : Sto) ay.ta az.ta aA.ta aB.ta p0.tidy.copy.open.sz (w := br) (F := all)) ?_
 rintro cZ aI ⟨⟨aS, c8, aT, aU, c9, aV, aW, da, aX, ae, aY, aZ, rfl, ag, ah, ai, ab, ar⟩, ba⟩
 have au := al2 O.lt aa.lt
 have aw : Gb w.heap.size br.heap.size := C.size
 have cg := nb_ge ar aa.lt
 have ci := nb_ge ar O.lt
 have bD := gb_ge ar C.size
 replace ⟨aa, O, V, Z, ac, C⟩ := (sz [J, E] ba ar).g6 aa O V Z ac C
 clear ba ar
 replace ag : RepS aI (nin (ge w.heap.size) [ae, J, E]) _ _ _ _ := RepS.takeM (s0 := w.heap.size) (M := [J, E]) ag au aw
 have cj := ag.max
 replace ah : RepS aI (nin (ge w.heap.size) [ae, J, E]) _ _ _ _ := RepS.takeM (s0 := w.heap.size) (M := [J, E]) ah au aw
 have ck := ah.max
 replace ai : RepS aI (nin (ge w.heap.size) [ae, J, E]) _ _ _ _ := RepS.takeM (s0 := w.heap.size) (M := [J, E]) ai au aw
 have cm := ai.max
 replace ab : Own aI ae 51 (nin (ge w.heap.size) [ae, J, E]) _ _ _ := Own.takeM (s0 := w.heap.size) (M := [J, E]) ab au aw
 have co := ab.max
 have cp := ab.len
 clear au
 have bE := ag.len
 subst bE
 have bF := ah.len
 subst bF
 have bG := ai.len
 subst bG
 refine .r 1 <| .sb 0 (.agg #[.slice aS (((((copyS (⟨(⟨((openS ((copyD (tidyD w_.disk)))).idx).names, ((openS ((copyD (tidyD w_.disk)))).idx).posts⟩ : Idx), (openS ((copyD (tidyD w_.disk)))).parts, (openS ((copyD (tidyD w_.disk)))).mem⟩ : Sto))).idx).names).length) aT, .slice aU (((((copyS (⟨(⟨((openS ((copyD (tidyD w_.disk)))).idx).names, ((openS ((copyD (tidyD w_.disk)))).idx).posts⟩ : Idx), (openS ((copyD (tidyD w_.disk)))).parts, (openS ((copyD (tidyD w_.disk)))).mem⟩ : Sto))).idx).posts).length) aV, .slice aW ((((copyS (⟨(⟨((openS ((copyD (tidyD w_.disk)))).idx).names, ((openS ((copyD (tidyD w_.disk)))).idx).posts⟩ : Idx), (openS ((copyD (tidyD w_.disk)))).parts, (openS ((copyD (tidyD w_.disk)))).mem⟩ : Sto))).parts).length) aX, vS ae aY aZ]) [.slice aS (((((copyS (⟨(⟨((openS ((copyD (tidyD w_.disk)))).idx).names, ((openS ((copyD (tidyD w_.disk)))).idx).posts⟩ : Idx), (openS ((copyD (tidyD w_.disk)))).parts, (openS ((copyD (tidyD w_.disk)))).mem⟩ : Sto))).idx).names).length) aT, .slice aU (((((copyS (⟨(⟨((openS ((copyD (tidyD w_.disk)))).idx).names, ((openS ((copyD (tidyD w_.disk)))).idx).posts⟩ : Idx), (openS ((copyD (tidyD w_.disk)))).parts, (openS ((copyD (tidyD w_.disk)))).mem⟩ : Sto))).idx).posts).length) aV, .slice aW ((((copyS (⟨(⟨((openS ((copyD (tidyD w_.disk)))).idx).names, ((openS ((copyD (tidyD w_.disk)))).idx).posts⟩ : Idx), (openS ((copyD (tidyD w_.disk)))).parts, (openS ((copyD (tidyD w_.disk)))).mem⟩ : Sto))).parts).length) aX, vS ae aY aZ, vS am bg bh, vS al bi bj, vS ak bk bm, vI (((copyD (tidyD w_.disk))).next)] aa fun db bc bH bI => ?_
 replace ⟨O, V, Z, ac, ag, ah, ai, ab, C⟩ := (so [ae, J, E] bc).g9 O V Z ac ag ah ai ab C
 clear bc bI
 refine .d <| .s <| .g <| .ln bH <| .sc [.slice aS (((((copyS (⟨(⟨((openS ((copyD (tidyD w_.disk)))).idx).names, ((openS ((copyD (tidyD w_.disk)))).idx).posts⟩ : Idx), (openS ((copyD (tidyD w_.disk)))).parts, (openS ((copyD (tidyD w_.disk)))).mem⟩ : Sto))).idx).names).length) aT, .slice aU (((((copyS (⟨(⟨((openS ((copyD (tidyD w_.disk)))).idx).names, ((openS ((copyD (tidyD w_.disk)))).idx).posts⟩ : Idx), (openS ((copyD (tidyD w_.disk)))).parts, (openS ((copyD (tidyD w_.disk)))).mem⟩ : Sto))).idx).posts).length) aV, .slice aW ((((copyS (⟨(⟨((openS ((copyD (tidyD w_.disk)))).idx).names, ((openS ((copyD (tidyD w_.disk)))).idx).posts⟩ : Idx), (openS ((copyD (tidyD w_.disk)))).parts, (openS ((copyD (tidyD w_.disk)))).mem⟩ : Sto))).parts).length) aX, vS ae aY aZ, vS am bg bh, vS al bi bj, vS ak bk bm, vI (((copyD (tidyD w_.disk))).next)] O fun bT bd bJ bK => ?_
 replace ⟨V, Z, ac, ag, ah, ai, ab, C⟩ := (so [ae, J, E] bd).g8 V Z ac ag ah ai ab C
 clear bd bK
 refine .d ?_
 have bU := ab.sl bD
 replace ⟨V, Z, ac, ag, ah, ai⟩ := (sd bT [ae, J, E] ae).g6 V Z ac ag ah ai
 exact .rb Tryz.func181 Tryz.results181 bJ ⟨(VS.of (y := (⟨(⟨(⟨(((copyS (⟨(⟨((openS ((copyD (tidyD w_.disk)))).idx).names, ((openS ((copyD (tidyD w_.disk)))).idx).posts⟩ : Idx), (openS ((copyD (tidyD w_.disk)))).parts, (openS ((copyD (tidyD w_.disk)))).mem⟩ : Sto))).idx).names, (((copyS (⟨(⟨((openS ((copyD (tidyD w_.disk)))).idx).names, ((openS ((copyD (tidyD w_.disk)))).idx).posts⟩ : Idx), (openS ((copyD (tidyD w_.disk)))).parts, (openS ((copyD (tidyD w_.disk)))).mem⟩ : Sto))).idx).posts⟩ : Idx), ((copyS (⟨(⟨((openS ((copyD (tidyD w_.disk)))).idx).names, ((openS ((copyD (tidyD w_.disk)))).idx).posts⟩ : Idx), (openS ((copyD (tidyD w_.disk)))).parts, (openS ((copyD (tidyD w_.disk)))).mem⟩ : Sto))).parts, ((copyS (⟨(⟨((openS ((copyD (tidyD w_.disk)))).idx).names, ((openS ((copyD (tidyD w_.disk)))).idx).posts⟩ : Idx), (openS ((copyD (tidyD w_.disk)))).parts, (openS ((copyD (tidyD w_.disk)))).mem⟩ : Sto))).mem⟩ : Sto), (⟨((copyD (tidyD w_.disk))).files, ((copyD (tidyD w_.disk))).list, ((copyD (tidyD w_.disk))).names, ((copyD (tidyD w_.disk))).next⟩ : Dsk)⟩ : Wld)) ⟨_, rfl, ⟨_, _, _, _, _, _, _, _, _, _, _, _, _, _, _, _, _, _, _, _, _, rfl, ag.w1, ah.w1, ai.w1, bU.w1, V.w1, Z.w1, ac.w1⟩⟩ (by rfl)), C⟩
theorem c_spec_l22Steps (w_ : Wld) (steps : List Stp) (cut : Int) (s : Sto) {w : World} {F : Nat → Prop} {a1 : Option Addr} {n1 c1 : Nat} (h1 : RepS w F a1 n1 c1 w_.store.idx.names) {a2 : Option Addr} {n2 c2 : Nat} (h2 : RepS w F a2 n2 c2 w_.store.idx.posts) {a3 : Option Addr} {n3 c3 : Nat} (h3 : RepS w F a3 n3 c3 w_.store.parts) {a4 : Option Addr} {n4 c4 : Nat} (h4 : RepS w F a4 n4 c4 w_.store.mem) {a5 : Option Addr} {n5 c5 : Nat} (h5 : RepS w F a5 n5 c5 w_.disk.files) {a6 : Option Addr} {n6 c6 : Nat} (h6 : RepS w F a6 n6 c6 w_.disk.list) {a7 : Option Addr} {n7 c7 : Nat} (h7 : RepS w F a7 n7 c7 w_.disk.names) {a8 : Option Addr} {n8 c8 : Nat} (h8 : RepS w F a8 n8 c8 steps) {a9 : Option Addr} {n9 c9 : Nat} (h9 : RepS w F a9 n9 c9 s.idx.names) {a10 : Option Addr} {n10 c10 : Nat} (h10 : RepS w F a10 n10 c10 s.idx.posts) {a11 : Option Addr} {n11 c11 : Nat} (h11 : RepS w F a11 n11 c11 s.parts) {a12 : Option Addr} {n12 c12 : Nat} (h12 : RepS w F a12 n12 c12 s.mem) (p0 : WI w_) (p1 : StI w_.disk steps) (p2 : StoI s) : Calls Tryz.prog 180 [.agg #[.slice a1 n1 c1, .slice a2 n2 c2, .slice a3 n3 c3, .slice a4 n4 c4, .slice a5 n5 c5, .slice a6 n6 c6, .slice a7 n7 c7, .int .i64 w_.disk.next], .slice a8 n8 c8, .int .i64 cut, .agg #[.slice a9 n9 c9, .slice a10 n10 c10, .slice a11 n11 c11, .slice a12 n12 c12]].toArray w (rets fun rv w' => VS (fo F w.heap.size) w' (stepsW w_ steps cut s : Wld) rv ∧ Ext w w') := by
 refine goT Tryz.func180 ?_
 obtain ⟨rfl, bU, h1⟩ := h1.tp
 obtain ⟨rfl, bV, h2⟩ := h2.tp
 obtain ⟨rfl, bW, h3⟩ := h3.tp
 obtain ⟨rfl, bX, h4⟩ := h4.tp
 obtain ⟨rfl, bY, h5⟩ := h5.tp
 obtain ⟨rfl, bZ, h6⟩ := h6.tp
 obtain ⟨rfl, b0, h7⟩ := h7.tp
 obtain ⟨rfl, b6, h8⟩ := h8.tp
 obtain ⟨rfl, b7, h9⟩ := h9.tp
 obtain ⟨rfl, b8, h10⟩ := h10.tp
 obtain ⟨rfl, b9, h11⟩ := h11.tp
 obtain ⟨rfl, cd, h12⟩ := h12.tp
 refine .s <| .g <| .np 100 [.slice a1 w_.store.idx.names.length c1, .slice a2 w_.store.idx.posts.length c2, .slice a3 w_.store.parts.length c3, .slice a4 w_.store.mem.length c4, .slice a5 w_.disk.files.length c5, .slice a6 w_.disk.list.length c6, .slice a7 w_.disk.names.length c7, vI w_.disk.next] fun V cE ax ay J bk => ?_
 have ce : Cov nil w V := cov_new ax (Nat.le_refl _)
 replace ⟨h1, h2, h3, h4, h5, h6, h7, h8, h9, h10, h11, h12⟩ := (sn [] ay ax).g12 h1 h2 h3 h4 h5 h6 h7 h8 h9 h10 h11 h12
 have C := ay
 clear ay bk ax
 refine .np 30 [.slice a9 s.idx.names.length c9, .slice a10 s.idx.posts.length c10, .slice a11 s.parts.length c11, .slice a12 s.mem.length c12] fun W cF av az E bm => ?_
 have cg := nb_new av J.lt
 replace ⟨h1, h2, h3, h4, h5, h6, h7, h8, h9, h10, h11, h12⟩ := (sn [V] az av).g12 h1 h2 h3 h4 h5 h6 h7 h8 h9 h10 h11 h12
 replace ⟨J, C⟩ := (sn [V] az av).g2 J C
 clear az bm av
 refine .np 100 [.slice none 0 0, .slice none 0 0, .slice none 0 0, .slice none 0 0, .slice none 0 0, .slice none 0 0, .slice none 0 0, vI 0] fun aa bn aq aA O bo => ?_
 have ci := nb_new aq J.lt
 have cj := nb_new aq E.lt
 have ck := C.cn aq
 replace ⟨h1, h2, h3, h4, h5, h6, h7, h8, h9, h10, h11, h12⟩ := (sn [W, V] aA aq).g12 h1 h2 h3 h4 h5 h6 h7 h8 h9 h10 h11 h12
 replace ⟨J, E, C⟩ := (sn [W, V] aA aq).g3 J E C
 clear aA bo aq
 refine .d <| .s <| .s <| .g <| .r 2 <| .eq (steps.length : Int) 0 (fun bq => ?_) (fun bq => ?_)
 ·refine .r 4 <| .d <| .ct <| .s <| .g <| .ln J <| .sc [.slice a1 w_.store.idx.names.length c1, .slice a2 w_.store.idx.posts.length c2, .slice a3 w_.store.parts.length c3, .slice a4 w_.store.mem.length c4, .slice a5 w_.disk.files.length c5, .slice a6 w_.disk.list.length c6, .slice a7 w_.disk.names.length c7, vI w_.disk.next] O fun cG aB br bt => ?_
  replace ⟨h1, h2, h3, h4, h5, h6, h7, h8, h9, h10, h11, h12⟩ := (so [aa, W, V] aB).g12 h1 h2 h3 h4 h5 h6 h7 h8 h9 h10 h11 h12
  replace ⟨J, E, C⟩ := (so [aa, W, V] aB).g3 J E C
  clear aB bt
  exact .d <| .rb Tryz.func180 Tryz.results180 br ⟨(VS.of (y := w_) ⟨_, rfl, ⟨_, _, _, _, _, _, _, _, _, _, _, _, _, _, _, _, _, _, _, _, _, rfl, h1.w1, h2.w1, h3.w1, h4.w1, h5.w1, h6.w1, h7.w1⟩⟩ (by rw [stepsW_0 (by omega)])), C⟩
 refine .r 2 <| .bp (cut < 0) (fun bu => ?_) (fun bu => ?_)
 ·refine .r 1 <| .d <| .ct <| .s <| .g <| .ln J <| .sc [.slice a1 w_.store.idx.names.length c1, .slice a2 w_.store.idx.posts.length c2, .slice a3 w_.store.parts.length c3, .slice a4 w_.store.mem.length c4, .slice a5 w_.disk.files.length c5, .slice a6 w_.disk.list.length c6, .slice a7 w_.disk.names.length c7, vI w_.disk.next] O fun cH aC bv bw => ?_
  replace ⟨h1, h2, h3, h4, h5, h6, h7, h8, h9, h10, h11, h12⟩ := (so [aa, W, V] aC).g12 h1 h2 h3 h4 h5 h6 h7 h8 h9 h10 h11 h12
  replace ⟨J, E, C⟩ := (so [aa, W, V] aC).g3 J E C
  clear aC bw
  exact .d <| .rb Tryz.func180 Tryz.results180 bv ⟨(VS.of (y := w_) ⟨_, rfl, ⟨_, _, _, _, _, _, _, _, _, _, _, _, _, _, _, _, _, _, _, _, _, rfl, h1.w1, h2.w1, h3.w1, h4.w1, h5.w1, h6.w1, h7.w1⟩⟩ (by rw [stepsW_0 (by omega)])), C⟩
 refine .r 1 <| .d <| .cf <| .sk <| .s <| .g <| .r 1 <| .ln J <| .r 2 <| .cl (c_spec_l21To w_.disk steps cut h5 h6 h7 h8 (by have := p0.dsk.nf; omega) (by have := p1.len; omega) (by have := p0.dsk.nl; omega) p1.sz (w := bn) (F := nin (fo F w.heap.size) [aa, W, V])) ?_
 rintro cI cJ ⟨⟨_, rfl, ⟨aH, cK, aI, aJ, cL, aK, aL, cM, aM, rfl, ab, ac, ae⟩⟩, aN⟩
 have aw := al3 O.lt E.lt J.lt
 have aD : Gb w.heap.size bn.heap.size := C.size
 replace ⟨h1, h2, h3, h4, h9, h10, h11, h12, J, E, O, C⟩ := (se [aa, W, V] aN).g12 h1 h2 h3 h4 h9 h10 h11 h12 J E O C
 clear aN
 replace ab := RepS.mixed' (M := [aa, W, V]) ab aw aD
 have cm := ab.max
 replace ac := RepS.mixed' (M := [aa, W, V]) ac aw aD
 have co := ac.max
 replace ae := RepS.mixed' (M := [aa, W, V]) ae aw aD
 have cp := ae.max
 clear aw
 have aP := ab.len
 subst aP
 have aQ := ac.len
 subst aQ
 have aR := ae.len
 subst aR
 refine .r 1 <| .sb 4 (.agg #[.slice aH (((toD w_.disk steps cut).files).length) aI, .slice aJ (((toD w_.disk steps cut).list).length) aK, .slice aL (((toD w_.disk steps cut).names).length) aM, vI ((toD w_.disk steps cut).next)]) [.slice a1 w_.store.idx.names.length c1, .slice a2 w_.store.idx.posts.length c2, .slice a3 w_.store.parts.length c3, .slice a4 w_.store.mem.length c4, .slice aH (((toD w_.disk steps cut).files).length) aI, .slice aJ (((toD w_.disk steps cut).list).length) aK, .slice aL (((toD w_.disk steps cut).names).length) aM, vI ((toD w_.disk steps cut).next)] J fun aO ar af aS => ?_
 replace ⟨h1, h2, h3, h4, h9, h10, h11, h12, E, O, ab, ac⟩ := (so [aa, W, V] ar).g12 h1 h2 h3 h4 h9 h10 h11 h12 E O ab ac
 replace ⟨ae, C⟩ := (so [aa, W, V] ar).g2 ae C
 clear ar aS
 refine .d <| .s <| .s <| .g <| .r 3 <| .bp (cut < (steps.length : Int)) (fun aT => ?_) (fun aT => ?_)
 ·refine .d <| .ct <| .s <| .g <| .ln af <| .cl (c_spec_l22Fall (⟨(⟨(⟨w_.store.idx.names, w_.store.idx.posts⟩ : Idx), w_.store.parts, w_.store.mem⟩ : Sto), (⟨(toD w_.disk steps cut).files, (toD w_.disk steps cut).list, (toD w_.disk steps cut).names, (toD w_.disk steps cut).next⟩ : Dsk)⟩ : Wld) h1.ta h2.ta h3.ta h4.ta ab.ta ac.ta ae.ta (p1.ok _) (w := aO) (F := all)) ?_
  rintro cq cr ⟨⟨_, rfl, ⟨bz, cu, bA, bB, cv, bC, bD, cw, bE, bF, cx, bG, bH, cy, bI, bJ, cz, bK, bL, cA, bM, rfl, ah, ai, aj, ak, al, am, ao⟩⟩, aE⟩
  have Z := al3 O.lt E.lt af.lt
  have ag : Gb w.heap.size aO.heap.size := C.size
  replace ⟨h9, h10, h11, h12, af, E, O, ab, ac, ae, C⟩ := (se [aa, W, V] aE).g11 h9 h10 h11 h12 af E O ab ac ae C
  clear aE
  have ah := ah.fr Z ag
  replace ah := ah.base (G' := fo F w.heap.size) (fun _ _ h => .inr h)
  have bN := ah.max
  have ai := ai.fr Z ag
  replace ai := ai.base (G' := fo F w.heap.size) (fun _ _ h => .inr h)
  have bO := ai.max
  have aj := aj.fr Z ag
  replace aj := aj.base (G' := fo F w.heap.size) (fun _ _ h => .inr h)
  have bP := aj.max
  have ak := ak.fr Z ag
  replace ak := ak.base (G' := fo F w.heap.size) (fun _ _ h => .inr h)
  have bQ := ak.max
  have al := al.fr Z ag
  replace al := al.base (G' := fo F w.heap.size) (fun _ _ h => .inr h)
  have bR := al.max
  have am := am.fr Z ag
  replace am := am.base (G' := fo F w.heap.size) (fun _ _ h => .inr h)
  have bS := am.max
  have ao := ao.fr Z ag
  replace ao := ao.base (G' := fo F w.heap.size) (fun _ _ h => .inr h)
  have bT := ao.max
  clear Z
  have aU := ah.len
  subst aU
  have aV := ai.len
  subst aV
  have aW := aj.len
  subst aW
  have aX := ak.len
  subst aX
  have aY := al.len
  subst aY
  have aZ := am.len
  subst aZ
  have ba := ao.len
  subst ba
  refine .sc [.slice bz (((((fallW (⟨(⟨(⟨w_.store.idx.names, w_.store.idx.posts⟩ : Idx), w_.store.parts, w_.store.mem⟩ : Sto), (⟨(toD w_.disk steps cut).files, (toD w_.disk steps cut).list, (toD w_.disk steps cut).names, (toD w_.disk steps cut).next⟩ : Dsk)⟩ : Wld)).store).idx).names).length) bA, .slice bB (((((fallW (⟨(⟨(⟨w_.store.idx.names, w_.store.idx.posts⟩ : Idx), w_.store.parts, w_.store.mem⟩ : Sto), (⟨(toD w_.disk steps cut).files, (toD w_.disk steps cut).list, (toD w_.disk steps cut).names, (toD w_.disk steps cut).next⟩ : Dsk)⟩ : Wld)).store).idx).posts).length) bC, .slice bD ((((fallW (⟨(⟨(⟨w_.store.idx.names, w_.store.idx.posts⟩ : Idx), w_.store.parts, w_.store.mem⟩ : Sto), (⟨(toD w_.disk steps cut).files, (toD w_.disk steps cut).list, (toD w_.disk steps cut).names, (toD w_.disk steps cut).next⟩ : Dsk)⟩ : Wld)).store).parts).length) bE, .slice bF ((((fallW (⟨(⟨(⟨w_.store.idx.names, w_.store.idx.posts⟩ : Idx), w_.store.parts, w_.store.mem⟩ : Sto), (⟨(toD w_.disk steps cut).files, (toD w_.disk steps cut).list, (toD w_.disk steps cut).names, (toD w_.disk steps cut).next⟩ : Dsk)⟩ : Wld)).store).mem).length) bG, .slice bH ((((fallW (⟨(⟨(⟨w_.store.idx.names, w_.store.idx.posts⟩ : Idx), w_.store.parts, w_.store.mem⟩ : Sto), (⟨(toD w_.disk steps cut).files, (toD w_.disk steps cut).list, (toD w_.disk steps cut).names, (toD w_.disk steps cut).next⟩ : Dsk)⟩ : Wld)).disk).files).length) bI, .slice bJ ((((fallW (⟨(⟨(⟨w_.store.idx.names, w_.store.idx.posts⟩ : Idx), w_.store.parts, w_.store.mem⟩ : Sto), (⟨(toD w_.disk steps cut).files, (toD w_.disk steps cut).list, (toD w_.disk steps cut).names, (toD w_.disk steps cut).next⟩ : Dsk)⟩ : Wld)).disk).list).length) bK, .slice bL ((((fallW (⟨(⟨(⟨w_.store.idx.names, w_.store.idx.posts⟩ : Idx), w_.store.parts, w_.store.mem⟩ : Sto), (⟨(toD w_.disk steps cut).files, (toD w_.disk steps cut).list, (toD w_.disk steps cut).names, (toD w_.disk steps cut).next⟩ : Dsk)⟩ : Wld)).disk).names).length) bM, vI (((fallW (⟨(⟨(⟨w_.store.idx.names, w_.store.idx.posts⟩ : Idx), w_.store.parts, w_.store.mem⟩ : Sto), (⟨(toD w_.disk steps cut).files, (toD w_.disk steps cut).list, (toD w_.disk steps cut).names, (toD w_.disk steps cut).next⟩ : Dsk)⟩ : Wld)).disk).next)] O fun cB au bc bd => ?_
  replace ⟨h9, h10, h11, h12, af, E, ab, ac, ae, ah, ai, aj⟩ := (so [aa, W, V] au).g12 h9 h10 h11 h12 af E ab ac ae ah ai aj
  replace ⟨ak, al, am, ao, C⟩ := (so [aa, W, V] au).g5 ak al am ao C
  clear au bd
  exact .d <| .rb Tryz.func180 Tryz.results180 bc ⟨(VS.of (y := (⟨(⟨(⟨(((fallW (⟨(⟨(⟨w_.store.idx.names, w_.store.idx.posts⟩ : Idx), w_.store.parts, w_.store.mem⟩ : Sto), (⟨(toD w_.disk steps cut).files, (toD w_.disk steps cut).list, (toD w_.disk steps cut).names, (toD w_.disk steps cut).next⟩ : Dsk)⟩ : Wld)).store).idx).names, (((fallW (⟨(⟨(⟨w_.store.idx.names, w_.store.idx.posts⟩ : Idx), w_.store.parts, w_.store.mem⟩ : Sto), (⟨(toD w_.disk steps cut).files, (toD w_.disk steps cut).list, (toD w_.disk steps cut).names, (toD w_.disk steps cut).next⟩ : Dsk)⟩ : Wld)).store).idx).posts⟩ : Idx), ((fallW (⟨(⟨(⟨w_.store.idx.names, w_.store.idx.posts⟩ : Idx), w_.store.parts, w_.store.mem⟩ : Sto), (⟨(toD w_.disk steps cut).files, (toD w_.disk steps cut).list, (toD w_.disk steps cut).names, (toD w_.disk steps cut).next⟩ : Dsk)⟩ : Wld)).store).parts, ((fallW (⟨(⟨(⟨w_.store.idx.names, w_.store.idx.posts⟩ : Idx), w_.store.parts, w_.store.mem⟩ : Sto), (⟨(toD w_.disk steps cut).files, (toD w_.disk steps cut).list, (toD w_.disk steps cut).names, (toD w_.disk steps cut).next⟩ : Dsk)⟩ : Wld)).store).mem⟩ : Sto), (⟨((fallW (⟨(⟨(⟨w_.store.idx.names, w_.store.idx.posts⟩ : Idx), w_.store.parts, w_.store.mem⟩ : Sto), (⟨(toD w_.disk steps cut).files, (toD w_.disk steps cut).list, (toD w_.disk steps cut).names, (toD w_.disk steps cut).next⟩ : Dsk)⟩ : Wld)).disk).files, ((fallW (⟨(⟨(⟨w_.store.idx.names, w_.store.idx.posts⟩ : Idx), w_.store.parts, w_.store.mem⟩ : Sto), (⟨(toD w_.disk steps cut).files, (toD w_.disk steps cut).list, (toD w_.disk steps cut).names, (toD w_.disk steps cut).next⟩ : Dsk)⟩ : Wld)).disk).list, ((fallW (⟨(⟨(⟨w_.store.idx.names, w_.store.idx.posts⟩ : Idx), w_.store.parts, w_.store.mem⟩ : Sto), (⟨(toD w_.disk steps cut).files, (toD w_.disk steps cut).list, (toD w_.disk steps cut).names, (toD w_.disk steps cut).next⟩ : Dsk)⟩ : Wld)).disk).names, ((fallW (⟨(⟨(⟨w_.store.idx.names, w_.store.idx.posts⟩ : Idx), w_.store.parts, w_.store.mem⟩ : Sto), (⟨(toD w_.disk steps cut).files, (toD w_.disk steps cut).list, (toD w_.disk steps cut).names, (toD w_.disk steps cut).next⟩ : Dsk)⟩ : Wld)).disk).next⟩ : Dsk)⟩ : Wld)) ⟨_, rfl, ⟨_, _, _, _, _, _, _, _, _, _, _, _, _, _, _, _, _, _, _, _, _, rfl, ah.w1, ai.w1, aj.w1, ak.w1, al.w1, am.w1, ao.w1⟩⟩ (by rw [stepsW_1 (by omega) (by omega) (by omega)])), C⟩
 refine .d <| .cf <| .sk <| .s <| .g <| .ln E <| .r 1 <| .sb 0 (.agg #[.slice a9 s.idx.names.length c9, .slice a10 s.idx.posts.length c10, .slice a11 s.parts.length c11, .slice a12 s.mem.length c12]) [.slice a9 s.idx.names.length c9, .slice a10 s.idx.posts.length c10, .slice a11 s.parts.length c11, .slice a12 s.mem.length c12, .slice aH (((toD w_.disk steps cut).files).length) aI, .slice aJ (((toD w_.disk steps cut).list).length) aK, .slice aL (((toD w_.disk steps cut).names).length) aM, vI ((toD w_.disk steps cut).next)] af fun cC aF bg bh => ?_
 replace ⟨h9, h10, h11, h12, O, ab, ac, ae, C⟩ := (so [aa, W, V] aF).g9 h9 h10 h11 h12 O ab ac ae C
 clear aF bh
 refine .d <| .s <| .g <| .ln bg <| .sc [.slice a9 s.idx.names.length c9, .slice a10 s.idx.posts.length c10, .slice a11 s.parts.length c11, .slice a12 s.mem.length c12, .slice aH (((toD w_.disk steps cut).files).length) aI, .slice aJ (((toD w_.disk steps cut).list).length) aK, .slice aL (((toD w_.disk steps cut).names).length) aM, vI ((toD w_.disk steps cut).next)] O fun cD aG bi bj => ?_
 replace ⟨h9, h10, h11, h12, ab, ac, ae, C⟩ := (so [aa, W, V] aG).g8 h9 h10 h11 h12 ab ac ae C
 clear aG bj
 exact .d <| .rb Tryz.func180 Tryz.results180 bi ⟨(VS.of (y := (⟨(⟨(⟨s.idx.names, s.idx.posts⟩ : Idx), s.parts, s.mem⟩ : Sto), (⟨(toD w_.disk steps cut).files, (toD w_.disk steps cut).list, (toD w_.disk steps cut).names, (toD w_.disk steps cut).next⟩ : Dsk)⟩ : Wld)) ⟨_, rfl, ⟨_, _, _, _, _, _, _, _, _, _, _, _, _, _, _, _, _, _, _, _, _, rfl, h9.w1, h10.w1, h11.w1, h12.w1, ab.w1, ac.w1, ae.w1⟩⟩ (by rw [stepsW_2 (by omega) (by omega) (by omega)])), C⟩
theorem c_spec_l22Do (w_ : Wld) (e : Evt) {w : World} {F : Nat → Prop} {a1 : Option Addr} {n1 c1 : Nat} (h1 : RepS w F a1 n1 c1 w_.store.idx.names) {a2 : Option Addr} {n2 c2 : Nat} (h2 : RepS w F a2 n2 c2 w_.store.idx.posts) {a3 : Option Addr} {n3 c3 : Nat} (h3 : RepS w F a3 n3 c3 w_.store.parts) {a4 : Option Addr} {n4 c4 : Nat} (h4 : RepS w F a4 n4 c4 w_.store.mem) {a5 : Option Addr} {n5 c5 : Nat} (h5 : RepS w F a5 n5 c5 w_.disk.files) {a6 : Option Addr} {n6 c6 : Nat} (h6 : RepS w F a6 n6 c6 w_.disk.list) {a7 : Option Addr} {n7 c7 : Nat} (h7 : RepS w F a7 n7 c7 w_.disk.names) {a8 : Option Addr} {n8 c8 : Nat} (h8 : RepS w F a8 n8 c8 e.name) (p0 : WI w_) (p1 : NmSz e.name) : Calls Tryz.prog 154 [.agg #[.slice a1 n1 c1, .slice a2 n2 c2, .slice a3 n3 c3, .slice a4 n4 c4, .slice a5 n5 c5, .slice a6 n6 c6, .slice a7 n7 c7, .int .i64 w_.disk.next], .agg #[.int .i64 e.kind, .int .i64 e.at_, .int .i64 e.cut, .slice a8 n8 c8, .int .i64 e.row.t, .int .i64 e.row.v]].toArray w (rets fun rv w' => VS (fo F w.heap.size) w' (doW w_ e : Wld) rv ∧ Ext w w') := by
 refine goT Tryz.func154 ?_
 obtain ⟨rfl, fE, h1⟩ := h1.tp
 obtain ⟨rfl, fF, h2⟩ := h2.tp
 obtain ⟨rfl, fG, h3⟩ := h3.tp
 obtain ⟨rfl, fH, h4⟩ := h4.tp
 obtain ⟨rfl, fI, h5⟩ := h5.tp
 obtain ⟨rfl, fJ, h6⟩ := h6.tp
 obtain ⟨rfl, fK, h7⟩ := h7.tp
 obtain ⟨rfl, fL, h8⟩ := h8.tp
 refine .s <| .g <| .np 100 [.slice a1 w_.store.idx.names.length c1, .slice a2 w_.store.idx.posts.length c2, .slice a3 w_.store.parts.length c3, .slice a4 w_.store.mem.length c4, .slice a5 w_.disk.files.length c5, .slice a6 w_.disk.list.length c6, .slice a7 w_.disk.names.length c7, vI w_.disk.next] fun V hH bL bM C dA => ?_
 have fM : Cov nil w V := cov_new bL (Nat.le_refl _)
 replace ⟨h1, h2, h3, h4, h5, h6, h7, h8⟩ := (sn [] bM bL).g8 h1 h2 h3 h4 h5 h6 h7 h8
 have E := bM
 clear bM dA bL
 refine .np 185 [vI e.kind, vI e.at_, vI e.cut, .slice a8 e.name.length c8, vI e.row.t, vI e.row.v] fun W hJ bN ce J dB => ?_
 have fN := nb_new bN C.lt
 replace ⟨h1, h2, h3, h4, h5, h6, h7, h8, C, E⟩ := (sn [V] ce bN).g10 h1 h2 h3 h4 h5 h6 h7 h8 C E
 clear ce dB bN
 refine .np 100 [.slice none 0 0, .slice none 0 0, .slice none 0 0, .slice none 0 0, .slice none 0 0, .slice none 0 0, .slice none 0 0, vI 0] fun Z br bo cg O dC => ?_
 have fO := nb_new bo C.lt
 have fP := nb_new bo J.lt
 have fQ := E.cn bo
 replace ⟨h1, h2, h3, h4, h5, h6, h7, h8, C, J, E⟩ := (sn [W, V] cg bo).g11 h1 h2 h3 h4 h5 h6 h7 h8 C J E
 clear cg dC bo
 refine .d <| .s <| .s <| .g <| .r 1 <| .lb J <| .d <| .b 0 <| .s <| .g <| .eq e.kind 1 (fun dD => ?_) (fun dD => ?_)
 ·refine .r 1 <| .d <| .ct <| .s <| .g <| .r 1 <| .lb J <| .cl (c_spec_NameOk e.name h8.ta (w := br) (F := all)) ?_
  rintro hN dE ⟨rfl, ci⟩
  replace ⟨h1, h2, h3, h4, h5, h6, h7, h8, C, J, O, E⟩ := (se [Z, W, V] ci).g12 h1 h2 h3 h4 h5 h6 h7 h8 C J O E
  clear ci
  cases fR : (nameOk e.name)
  ·refine .d <| .cf <| .sk <| .ib 0 <| .s <| .g <| .ln C <| .sc [.slice a1 w_.store.idx.names.length c1, .slice a2 w_.store.idx.posts.length c2, .slice a3 w_.store.parts.length c3, .slice a4 w_.store.mem.length c4, .slice a5 w_.disk.files.length c5, .slice a6 w_.disk.list.length c6, .slice a7 w_.disk.names.length c7, vI w_.disk.next] O fun hO cj dF dG => ?_
   replace ⟨h1, h2, h3, h4, h5, h6, h7, h8, C, J, E⟩ := (so [Z, W, V] cj).g11 h1 h2 h3 h4 h5 h6 h7 h8 C J E
   clear cj dG
   exact .d <| .rb Tryz.func154 Tryz.results154 dF ⟨(VS.of (y := w_) ⟨_, rfl, ⟨_, _, _, _, _, _, _, _, _, _, _, _, _, _, _, _, _, _, _, _, _, rfl, h1.w1, h2.w1, h3.w1, h4.w1, h5.w1, h6.w1, h7.w1⟩⟩ (by (rw [doW_1f (by assumption) (by assumption)]))), E⟩
  refine .d <| .ct <| .s <| .g <| .r 1 <| .ln C <| .r 1 <| .lb J <| .r 1 <| .ln J <| .cl (c_spec_l13Add w_.store e.name e.row h1 h2 h3 h4 h8 p0.sto.sz p1 (w := dE) (F := nin (fo F w.heap.size) [Z, W, V])) ?_
  rintro hP hQ ⟨⟨hV, rfl, ⟨_, rfl, ⟨bY, hW, bZ, b0, hX, b6, b7, hY, b8, b9, hZ, cd, rfl, aI, aJ, aK, aL⟩⟩⟩, ck⟩
  have bq := al3 O.lt J.lt C.lt
  have bK : Gb w.heap.size dE.heap.size := E.size
  replace ⟨h1, h2, h3, h4, h5, h6, h7, C, J, O, E⟩ := (se [Z, W, V] ck).g11 h1 h2 h3 h4 h5 h6 h7 C J O E
  clear ck
  replace aI := RepS.mixed' (M := [Z, W, V]) aI bq bK
  have fS := aI.max
  replace aJ := RepS.mixed' (M := [Z, W, V]) aJ bq bK
  have fT := aJ.max
  replace aK := RepS.mixed' (M := [Z, W, V]) aK bq bK
  have fU := aK.max
  replace aL := RepS.mixed' (M := [Z, W, V]) aL bq bK
  have fV := aL.max
  clear bq
  have dH := aI.len
  subst dH
  have dI := aJ.len
  subst dI
  have dJ := aK.len
  subst dJ
  have cp := aL.len
  subst cp
  refine .r 3 <| .np 30 [.slice none 0 0, .slice none 0 0, .slice none 0 0, .slice none 0 0] fun bi fW av bt cq cr => ?_
  have eN := nb_new av C.lt
  have eO := nb_new av J.lt
  have eP := nb_new av O.lt
  have eQ := E.cn av
  replace ⟨h1, h2, h3, h4, h5, h6, h7, C, J, O, aI, aJ⟩ := (sn [Z, W, V] bt av).g12 h1 h2 h3 h4 h5 h6 h7 C J O aI aJ
  replace ⟨aK, aL, E⟩ := (sn [Z, W, V] bt av).g3 aK aL E
  clear bt cr av
  refine .sc [.slice bY (((((addS w_.store e.name e.row).1).idx).names).length) bZ, .slice b0 (((((addS w_.store e.name e.row).1).idx).posts).length) b6, .slice b7 ((((addS w_.store e.name e.row).1).parts).length) b8, .slice b9 ((((addS w_.store e.name e.row).1).mem).length) cd] cq fun fX bu cu cv => ?_
  replace ⟨h1, h2, h3, h4, h5, h6, h7, C, J, O, aI, aJ⟩ := (so [bi, Z, W, V] bu).g12 h1 h2 h3 h4 h5 h6 h7 C J O aI aJ
  replace ⟨aK, aL, E⟩ := (so [bi, Z, W, V] bu).g3 aK aL E
  clear bu cv
  refine .r 1 <| .d <| .g <| .ln cu <| .r 1 <| .sb 0 (.agg #[.slice bY (((((addS w_.store e.name e.row).1).idx).names).length) bZ, .slice b0 (((((addS w_.store e.name e.row).1).idx).posts).length) b6, .slice b7 ((((addS w_.store e.name e.row).1).parts).length) b8, .slice b9 ((((addS w_.store e.name e.row).1).mem).length) cd]) [.slice bY (((((addS w_.store e.name e.row).1).idx).names).length) bZ, .slice b0 (((((addS w_.store e.name e.row).1).idx).posts).length) b6, .slice b7 ((((addS w_.store e.name e.row).1).parts).length) b8, .slice b9 ((((addS w_.store e.name e.row).1).mem).length) cd, .slice a5 w_.disk.files.length c5, .slice a6 w_.disk.list.length c6, .slice a7 w_.disk.names.length c7, vI w_.disk.next] C fun fY bv cw cx => ?_
  replace ⟨h1, h2, h3, h4, h5, h6, h7, J, O, aI, aJ, aK⟩ := (so [bi, Z, W, V] bv).g12 h1 h2 h3 h4 h5 h6 h7 J O aI aJ aK
  replace ⟨aL, E⟩ := (so [bi, Z, W, V] bv).g2 aL E
  clear bv cx
  refine .d <| .ib 0 <| .s <| .g <| .ln cw <| .sc [.slice bY (((((addS w_.store e.name e.row).1).idx).names).length) bZ, .slice b0 (((((addS w_.store e.name e.row).1).idx).posts).length) b6, .slice b7 ((((addS w_.store e.name e.row).1).parts).length) b8, .slice b9 ((((addS w_.store e.name e.row).1).mem).length) cd, .slice a5 w_.disk.files.length c5, .slice a6 w_.disk.list.length c6, .slice a7 w_.disk.names.length c7, vI w_.disk.next] O fun fZ bw cy cz => ?_
  replace ⟨h1, h2, h3, h4, h5, h6, h7, J, aI, aJ, aK, aL⟩ := (so [bi, Z, W, V] bw).g12 h1 h2 h3 h4 h5 h6 h7 J aI aJ aK aL
  replace E := (so [bi, Z, W, V] bw).g1 E
  clear bw cz
  exact .d <| .rb Tryz.func154 Tryz.results154 cy ⟨(VS.of (y := (⟨(⟨(⟨(((addS w_.store e.name e.row).1).idx).names, (((addS w_.store e.name e.row).1).idx).posts⟩ : Idx), ((addS w_.store e.name e.row).1).parts, ((addS w_.store e.name e.row).1).mem⟩ : Sto), (⟨w_.disk.files, w_.disk.list, w_.disk.names, w_.disk.next⟩ : Dsk)⟩ : Wld)) ⟨_, rfl, ⟨_, _, _, _, _, _, _, _, _, _, _, _, _, _, _, _, _, _, _, _, _, rfl, aI.w1, aJ.w1, aK.w1, aL.w1, h5.w1, h6.w1, h7.w1⟩⟩ (by (rw [doW_1 (by assumption) (by assumption)]))), E⟩
 refine .r 1 <| .d <| .cf <| .s <| .g <| .eq e.kind 2 (fun cA => ?_) (fun cA => ?_)
 ·refine .r 1 <| .d <| .ct <| .s <| .g <| .r 1 <| .ln C <| .cl (c_spec_l13Flush w_.store h1 h2 h3 h4 (by have := p0.sto.nm2; omega) p0.sto.mem6 (w := br) (F := nin (fo F w.heap.size) [Z, W, V])) ?_
  rintro f0 f3 ⟨⟨f4, rfl, ⟨_, rfl, ⟨dK, f5, dL, dM, f6, dN, dO, f7, dP, dQ, f8, dR, rfl, ac, ae, af, ag⟩⟩⟩, bO⟩
  have aP := al3 O.lt J.lt C.lt
  have bj : Gb w.heap.size br.heap.size := E.size
  replace ⟨h1, h2, h3, h4, h5, h6, h7, C, J, O, E⟩ := (se [Z, W, V] bO).g11 h1 h2 h3 h4 h5 h6 h7 C J O E
  clear bO
  replace ac := RepS.mixed' (M := [Z, W, V]) ac aP bj
  have eR := ac.max
  replace ae := RepS.mixed' (M := [Z, W, V]) ae aP bj
  have eS := ae.max
  replace af := RepS.mixed' (M := [Z, W, V]) af aP bj
  have eT := af.max
  replace ag := RepS.mixed' (M := [Z, W, V]) ag aP bj
  have eU := ag.max
  clear aP
  have cB := ac.len
  subst cB
  have cC := ae.len
  subst cC
  have cD := af.len
  subst cD
  have cE := ag.len
  subst cE
  refine .r 3 <| .np 30 [.slice none 0 0, .slice none 0 0, .slice none 0 0, .slice none 0 0] fun aa f9 aw bz cF cG => ?_
  have eV := nb_new aw C.lt
  have eW := nb_new aw J.lt
  have eX := nb_new aw O.lt
  have eY := E.cn aw
  replace ⟨h1, h2, h3, h4, h5, h6, h7, C, J, O, ac, ae⟩ := (sn [Z, W, V] bz aw).g12 h1 h2 h3 h4 h5 h6 h7 C J O ac ae
  replace ⟨af, ag, E⟩ := (sn [Z, W, V] bz aw).g3 af ag E
  clear bz cG aw
  refine .sc [.slice dK (((((flushR w_.store).1).idx).names).length) dL, .slice dM (((((flushR w_.store).1).idx).posts).length) dN, .slice dO ((((flushR w_.store).1).parts).length) dP, .slice dQ ((((flushR w_.store).1).mem).length) dR] cF fun ga bA al cH => ?_
  replace ⟨h1, h2, h3, h4, h5, h6, h7, C, J, O, ac, ae⟩ := (so [aa, Z, W, V] bA).g12 h1 h2 h3 h4 h5 h6 h7 C J O ac ae
  replace ⟨af, ag, E⟩ := (so [aa, Z, W, V] bA).g3 af ag E
  clear bA cH
  refine .r 1 <| .d <| .s <| .gd nil 9 fun gb bB => ?_
  replace ⟨h1, h2, h3, h4, h5, h6, h7, C, J, O, ac, ae⟩ := (se [aa, Z, W, V] bB).g12 h1 h2 h3 h4 h5 h6 h7 C J O ac ae
  replace ⟨af, ag, al, E⟩ := (se [aa, Z, W, V] bB).g4 af ag al E
  clear bB
  refine .ln 0 C id <| .r [1] <| .ln 2 C id <| .r [3] <| .ln 4 C id <| .r [6] <| .lb 7 J id <| .ln 8 al id <| .go 5 <| .cl (fun bP ao => c_spec_l21Flush w_.disk w_.store (h5.ta.ext ao) (h6.ta.ext ao) (h7.ta.ext ao) (h1.ta.ext ao) (h2.ta.ext ao) (h3.ta.ext ao) (h4.ta.ext ao) (by have := p0.sto.nm2; omega) p0.sto.mem6 (by have := p0.dsk.nl; omega) (by have := p0.sto.nm.len; omega) (fun n hn => (p0.sto.nm.sz n hn).1) (w := bP) (F := all)) ?_
  intro bP ao
  replace ⟨h1, h2, h3, h4, h5, h6, h7, C, J, O, ac, ae⟩ := (se [aa, Z, W, V] ao).g12 h1 h2 h3 h4 h5 h6 h7 C J O ac ae
  replace ⟨af, ag, al, E⟩ := (se [aa, Z, W, V] ao).g4 af ag al E
  rintro gf gg ⟨⟨gh, gi, rfl, aN⟩, bk⟩
  have bQ := al4 al.lt O.lt J.lt C.lt
  have cI : Gb w.heap.size bP.heap.size := E.size
  have hkeep_ := bk
  replace ⟨h1, h2, h3, h4, h5, h6, h7, C, J, O, ac, ae⟩ := (se [aa, Z, W, V] bk).g12 h1 h2 h3 h4 h5 h6 h7 C J O ac ae
  replace ⟨af, ag, al, E⟩ := (se [aa, Z, W, V] bk).g4 af ag al E
  clear bk
  refine ⟨Ext.chg hkeep_, ?_⟩
  have aN := aN.fr bQ cI
  replace aN := aN.base (G' := fo F w.heap.size) (fun _ _ h => .inr h)
  have eZ := aN.max
  clear bQ
  refine .d fun cm bC => ?_
  replace ⟨h1, h2, h3, h4, h5, h6, h7, C, J, O, ac, ae⟩ := (se [aa, Z, W, V] bC).g12 h1 h2 h3 h4 h5 h6 h7 C J O ac ae
  replace ⟨af, ag, al, aN, E⟩ := (se [aa, Z, W, V] bC).g5 af ag al aN E
  clear bC
  refine .cl (c_spec_l22Steps w_ (flushSt w_.disk w_.store) e.cut (⟨(⟨(((flushR w_.store).1).idx).names, (((flushR w_.store).1).idx).posts⟩ : Idx), ((flushR w_.store).1).parts, ((flushR w_.store).1).mem⟩ : Sto) h1 h2 h3 h4 h5 h6 h7 aN ac ae af ag p0 (by exact StI.flush p0) (by exact p0.sto.flush) (w := cm) (F := nin (fo F w.heap.size) [aa, Z, W, V])) ?_
  rintro gj gk ⟨⟨_, rfl, ⟨dS, gl, dT, dU, gm, dV, dW, gn, dX, dY, gp, dZ, d0, gq, d3, d4, gr, d5, d6, gs, d7, rfl, aQ, aR, aS, aT, aU, aV, aW⟩⟩, bR⟩
  have aq := al4 al.lt O.lt J.lt C.lt
  have ax : Gb w.heap.size cm.heap.size := E.size
  replace ⟨h1, h2, h3, h4, h5, h6, h7, C, J, O, E⟩ := (se [aa, Z, W, V] bR).g11 h1 h2 h3 h4 h5 h6 h7 C J O E
  clear bR
  replace aQ := RepS.mixed' (M := [aa, Z, W, V]) aQ aq ax
  have e0 := aQ.max
  replace aR := RepS.mixed' (M := [aa, Z, W, V]) aR aq ax
  have e7 := aR.max
  replace aS := RepS.mixed' (M := [aa, Z, W, V]) aS aq ax
  have e8 := aS.max
  replace aT := RepS.mixed' (M := [aa, Z, W, V]) aT aq ax
  have e9 := aT.max
  replace aU := RepS.mixed' (M := [aa, Z, W, V]) aU aq ax
  have fa := aU.max
  replace aV := RepS.mixed' (M := [aa, Z, W, V]) aV aq ax
  have fb := aV.max
  replace aW := RepS.mixed' (M := [aa, Z, W, V]) aW aq ax
  have fc := aW.max
  clear aq
  have cJ := aQ.len
  subst cJ
  have cK := aR.len
  subst cK
  have cL := aS.len
  subst cL
  have cM := aT.len
  subst cM
  have cN := aU.len
  subst cN
  have cO := aV.len
  subst cO
  have cP := aW.len
  subst cP
  refine .sc [.slice dS (((((stepsW w_ (flushSt w_.disk w_.store) e.cut (⟨(⟨(((flushR w_.store).1).idx).names, (((flushR w_.store).1).idx).posts⟩ : Idx), ((flushR w_.store).1).parts, ((flushR w_.store).1).mem⟩ : Sto)).store).idx).names).length) dT, .slice dU (((((stepsW w_ (flushSt w_.disk w_.store) e.cut (⟨(⟨(((flushR w_.store).1).idx).names, (((flushR w_.store).1).idx).posts⟩ : Idx), ((flushR w_.store).1).parts, ((flushR w_.store).1).mem⟩ : Sto)).store).idx).posts).length) dV, .slice dW ((((stepsW w_ (flushSt w_.disk w_.store) e.cut (⟨(⟨(((flushR w_.store).1).idx).names, (((flushR w_.store).1).idx).posts⟩ : Idx), ((flushR w_.store).1).parts, ((flushR w_.store).1).mem⟩ : Sto)).store).parts).length) dX, .slice dY ((((stepsW w_ (flushSt w_.disk w_.store) e.cut (⟨(⟨(((flushR w_.store).1).idx).names, (((flushR w_.store).1).idx).posts⟩ : Idx), ((flushR w_.store).1).parts, ((flushR w_.store).1).mem⟩ : Sto)).store).mem).length) dZ, .slice d0 ((((stepsW w_ (flushSt w_.disk w_.store) e.cut (⟨(⟨(((flushR w_.store).1).idx).names, (((flushR w_.store).1).idx).posts⟩ : Idx), ((flushR w_.store).1).parts, ((flushR w_.store).1).mem⟩ : Sto)).disk).files).length) d3, .slice d4 ((((stepsW w_ (flushSt w_.disk w_.store) e.cut (⟨(⟨(((flushR w_.store).1).idx).names, (((flushR w_.store).1).idx).posts⟩ : Idx), ((flushR w_.store).1).parts, ((flushR w_.store).1).mem⟩ : Sto)).disk).list).length) d5, .slice d6 ((((stepsW w_ (flushSt w_.disk w_.store) e.cut (⟨(⟨(((flushR w_.store).1).idx).names, (((flushR w_.store).1).idx).posts⟩ : Idx), ((flushR w_.store).1).parts, ((flushR w_.store).1).mem⟩ : Sto)).disk).names).length) d7, vI (((stepsW w_ (flushSt w_.disk w_.store) e.cut (⟨(⟨(((flushR w_.store).1).idx).names, (((flushR w_.store).1).idx).posts⟩ : Idx), ((flushR w_.store).1).parts, ((flushR w_.store).1).mem⟩ : Sto)).disk).next)] O fun gt bD cQ cR => ?_
  replace ⟨h1, h2, h3, h4, h5, h6, h7, C, J, aQ, aR, aS⟩ := (so [aa, Z, W, V] bD).g12 h1 h2 h3 h4 h5 h6 h7 C J aQ aR aS
  replace ⟨aT, aU, aV, aW, E⟩ := (so [aa, Z, W, V] bD).g5 aT aU aV aW E
  clear bD cR
  exact .d <| .rb Tryz.func154 Tryz.results154 cQ ⟨(VS.of (y := (⟨(⟨(⟨(((stepsW w_ (flushSt w_.disk w_.store) e.cut (⟨(⟨(((flushR w_.store).1).idx).names, (((flushR w_.store).1).idx).posts⟩ : Idx), ((flushR w_.store).1).parts, ((flushR w_.store).1).mem⟩ : Sto)).store).idx).names, (((stepsW w_ (flushSt w_.disk w_.store) e.cut (⟨(⟨(((flushR w_.store).1).idx).names, (((flushR w_.store).1).idx).posts⟩ : Idx), ((flushR w_.store).1).parts, ((flushR w_.store).1).mem⟩ : Sto)).store).idx).posts⟩ : Idx), ((stepsW w_ (flushSt w_.disk w_.store) e.cut (⟨(⟨(((flushR w_.store).1).idx).names, (((flushR w_.store).1).idx).posts⟩ : Idx), ((flushR w_.store).1).parts, ((flushR w_.store).1).mem⟩ : Sto)).store).parts, ((stepsW w_ (flushSt w_.disk w_.store) e.cut (⟨(⟨(((flushR w_.store).1).idx).names, (((flushR w_.store).1).idx).posts⟩ : Idx), ((flushR w_.store).1).parts, ((flushR w_.store).1).mem⟩ : Sto)).store).mem⟩ : Sto), (⟨((stepsW w_ (flushSt w_.disk w_.store) e.cut (⟨(⟨(((flushR w_.store).1).idx).names, (((flushR w_.store).1).idx).posts⟩ : Idx), ((flushR w_.store).1).parts, ((flushR w_.store).1).mem⟩ : Sto)).disk).files, ((stepsW w_ (flushSt w_.disk w_.store) e.cut (⟨(⟨(((flushR w_.store).1).idx).names, (((flushR w_.store).1).idx).posts⟩ : Idx), ((flushR w_.store).1).parts, ((flushR w_.store).1).mem⟩ : Sto)).disk).list, ((stepsW w_ (flushSt w_.disk w_.store) e.cut (⟨(⟨(((flushR w_.store).1).idx).names, (((flushR w_.store).1).idx).posts⟩ : Idx), ((flushR w_.store).1).parts, ((flushR w_.store).1).mem⟩ : Sto)).disk).names, ((stepsW w_ (flushSt w_.disk w_.store) e.cut (⟨(⟨(((flushR w_.store).1).idx).names, (((flushR w_.store).1).idx).posts⟩ : Idx), ((flushR w_.store).1).parts, ((flushR w_.store).1).mem⟩ : Sto)).disk).next⟩ : Dsk)⟩ : Wld)) ⟨_, rfl, ⟨_, _, _, _, _, _, _, _, _, _, _, _, _, _, _, _, _, _, _, _, _, rfl, aQ.w1, aR.w1, aS.w1, aT.w1, aU.w1, aV.w1, aW.w1⟩⟩ (by (rw [doW_2 (by assumption)]))), E⟩
 refine .r 1 <| .d <| .cf <| .s <| .g <| .eq e.kind 3 (fun cS => ?_) (fun cS => ?_)
 ·refine .r 1 <| .d <| .ct <| .s <| .g <| .r 1 <| .ln C <| .r 1 <| .lb J <| .cl (c_spec_l13Merge w_.store e.at_ h1 h2 h3 h4 (by have := p0.sto.np; omega) (fun p hp => (p0.sto.part p hp).sz) (w := br) (F := nin (fo F w.heap.size) [Z, W, V])) ?_
  rintro gu gv ⟨⟨gw, rfl, ⟨_, rfl, ⟨d8, gx, d9, ea, gy, eb, ec, gz, ed, ee, gA, ef, rfl, ah, ai, aj, ak⟩⟩⟩, bS⟩
  have aX := al3 O.lt J.lt C.lt
  have bm : Gb w.heap.size br.heap.size := E.size
  replace ⟨h1, h2, h3, h4, h5, h6, h7, C, J, O, E⟩ := (se [Z, W, V] bS).g11 h1 h2 h3 h4 h5 h6 h7 C J O E
  clear bS
  replace ah := RepS.mixed' (M := [Z, W, V]) ah aX bm
  have fd := ah.max
  replace ai := RepS.mixed' (M := [Z, W, V]) ai aX bm
  have fe := ai.max
  replace aj := RepS.mixed' (M := [Z, W, V]) aj aX bm
  have ff := aj.max
  replace ak := RepS.mixed' (M := [Z, W, V]) ak aX bm
  have fg := ak.max
  clear aX
  have cT := ah.len
  subst cT
  have cU := ai.len
  subst cU
  have cV := aj.len
  subst cV
  have cW := ak.len
  subst cW
  refine .r 3 <| .np 30 [.slice none 0 0, .slice none 0 0, .slice none 0 0, .slice none 0 0] fun ab gC ay bE cX cY => ?_
  have fh := nb_new ay C.lt
  have fi := nb_new ay J.lt
  have fj := nb_new ay O.lt
  have fk := E.cn ay
  replace ⟨h1, h2, h3, h4, h5, h6, h7, C, J, O, ah, ai⟩ := (sn [Z, W, V] bE ay).g12 h1 h2 h3 h4 h5 h6 h7 C J O ah ai
  replace ⟨aj, ak, E⟩ := (sn [Z, W, V] bE ay).g3 aj ak E
  clear bE cY ay
  refine .sc [.slice d8 (((((mergeR w_.store e.at_).1).idx).names).length) d9, .slice ea (((((mergeR w_.store e.at_).1).idx).posts).length) eb, .slice ec ((((mergeR w_.store e.at_).1).parts).length) ed, .slice ee ((((mergeR w_.store e.at_).1).mem).length) ef] cX fun gD bF am cZ => ?_
  replace ⟨h1, h2, h3, h4, h5, h6, h7, C, J, O, ah, ai⟩ := (so [ab, Z, W, V] bF).g12 h1 h2 h3 h4 h5 h6 h7 C J O ah ai
  replace ⟨aj, ak, E⟩ := (so [ab, Z, W, V] bF).g3 aj ak E
  clear bF cZ
  refine .r 1 <| .d <| .s <| .gd nil 9 fun gE bG => ?_
  replace ⟨h1, h2, h3, h4, h5, h6, h7, C, J, O, ah, ai⟩ := (se [ab, Z, W, V] bG).g12 h1 h2 h3 h4 h5 h6 h7 C J O ah ai
  replace ⟨aj, ak, am, E⟩ := (se [ab, Z, W, V] bG).g4 aj ak am E
  clear bG
  refine .ln 0 C id <| .r [1] <| .ln 2 C id <| .r [3] <| .lb 4 J id <| .r [6] <| .lb 7 J id <| .ln 8 am id <| .go 5 <| .cl (fun bT aM => c_spec_l21Merge w_.disk e.at_ (h5.ta.ext aM) (h6.ta.ext aM) (h7.ta.ext aM) (by have := p0.dsk.nm.len; omega) (fun n hn => (p0.dsk.nm.sz n hn).1) (by have := p0.dsk.nl; omega) p0.dsk.at (fun f hf => (p0.dsk.file f hf).sz) (w := bT) (F := all)) ?_
  intro bT aM
  replace ⟨h1, h2, h3, h4, h5, h6, h7, C, J, O, ah, ai⟩ := (se [ab, Z, W, V] aM).g12 h1 h2 h3 h4 h5 h6 h7 C J O ah ai
  replace ⟨aj, ak, am, E⟩ := (se [ab, Z, W, V] aM).g4 aj ak am E
  rintro gF gG ⟨⟨gH, gI, rfl, aO⟩, bn⟩
  have bU := al4 am.lt O.lt J.lt C.lt
  have c9 : Gb w.heap.size bT.heap.size := E.size
  have hkeep_ := bn
  replace ⟨h1, h2, h3, h4, h5, h6, h7, C, J, O, ah, ai⟩ := (se [ab, Z, W, V] bn).g12 h1 h2 h3 h4 h5 h6 h7 C J O ah ai
  replace ⟨aj, ak, am, E⟩ := (se [ab, Z, W, V] bn).g4 aj ak am E
  clear bn
  refine ⟨Ext.chg hkeep_, ?_⟩
  have aO := aO.fr bU c9
  replace aO := aO.base (G' := fo F w.heap.size) (fun _ _ h => .inr h)
  have fl := aO.max
  clear bU
  refine .d fun co bH => ?_
  replace ⟨h1, h2, h3, h4, h5, h6, h7, C, J, O, ah, ai⟩ := (se [ab, Z, W, V] bH).g12 h1 h2 h3 h4 h5 h6 h7 C J O ah ai
  replace ⟨aj, ak, am, aO, E⟩ := (se [ab, Z, W, V] bH).g5 aj ak am aO E
  clear bH
  refine .cl (c_spec_l22Steps w_ (mergeSt w_.disk e.at_) e.cut (⟨(⟨(((mergeR w_.store e.at_).1).idx).names, (((mergeR w_.store e.at_).1).idx).posts⟩ : Idx), ((mergeR w_.store e.at_).1).parts, ((mergeR w_.store e.at_).1).mem⟩ : Sto) h1 h2 h3 h4 h5 h6 h7 aO ah ai aj ak p0 (by exact StI.merge p0.dsk _) (by exact p0.sto.merge _) (w := co) (F := nin (fo F w.heap.size) [ab, Z, W, V])) ?_
  rintro gJ gK ⟨⟨_, rfl, ⟨eg, gL, eh, ei, gM, ej, ek, gN, em, en, gO, eo, ep, gP, es, et, gQ, ew, ex, gR, ey, rfl, aY, aZ, ba, bc, bd, bg, bh⟩⟩, bV⟩
  have ar := al4 am.lt O.lt J.lt C.lt
  have az : Gb w.heap.size co.heap.size := E.size
  replace ⟨h1, h2, h3, h4, h5, h6, h7, C, J, O, E⟩ := (se [ab, Z, W, V] bV).g11 h1 h2 h3 h4 h5 h6 h7 C J O E
  clear bV
  replace aY := RepS.mixed' (M := [ab, Z, W, V]) aY ar az
  have fm := aY.max
  replace aZ := RepS.mixed' (M := [ab, Z, W, V]) aZ ar az
  have fp := aZ.max
  replace ba := RepS.mixed' (M := [ab, Z, W, V]) ba ar az
  have fq := ba.max
  replace bc := RepS.mixed' (M := [ab, Z, W, V]) bc ar az
  have ft := bc.max
  replace bd := RepS.mixed' (M := [ab, Z, W, V]) bd ar az
  have fu := bd.max
  replace bg := RepS.mixed' (M := [ab, Z, W, V]) bg ar az
  have fv := bg.max
  replace bh := RepS.mixed' (M := [ab, Z, W, V]) bh ar az
  have fw := bh.max
  clear ar
  have da := aY.len
  subst da
  have db := aZ.len
  subst db
  have dd := ba.len
  subst dd
  have de := bc.len
  subst de
  have df := bd.len
  subst df
  have dg := bg.len
  subst dg
  have dh := bh.len
  subst dh
  refine .sc [.slice eg (((((stepsW w_ (mergeSt w_.disk e.at_) e.cut (⟨(⟨(((mergeR w_.store e.at_).1).idx).names, (((mergeR w_.store e.at_).1).idx).posts⟩ : Idx), ((mergeR w_.store e.at_).1).parts, ((mergeR w_.store e.at_).1).mem⟩ : Sto)).store).idx).names).length) eh, .slice ei (((((stepsW w_ (mergeSt w_.disk e.at_) e.cut (⟨(⟨(((mergeR w_.store e.at_).1).idx).names, (((mergeR w_.store e.at_).1).idx).posts⟩ : Idx), ((mergeR w_.store e.at_).1).parts, ((mergeR w_.store e.at_).1).mem⟩ : Sto)).store).idx).posts).length) ej, .slice ek ((((stepsW w_ (mergeSt w_.disk e.at_) e.cut (⟨(⟨(((mergeR w_.store e.at_).1).idx).names, (((mergeR w_.store e.at_).1).idx).posts⟩ : Idx), ((mergeR w_.store e.at_).1).parts, ((mergeR w_.store e.at_).1).mem⟩ : Sto)).store).parts).length) em, .slice en ((((stepsW w_ (mergeSt w_.disk e.at_) e.cut (⟨(⟨(((mergeR w_.store e.at_).1).idx).names, (((mergeR w_.store e.at_).1).idx).posts⟩ : Idx), ((mergeR w_.store e.at_).1).parts, ((mergeR w_.store e.at_).1).mem⟩ : Sto)).store).mem).length) eo, .slice ep ((((stepsW w_ (mergeSt w_.disk e.at_) e.cut (⟨(⟨(((mergeR w_.store e.at_).1).idx).names, (((mergeR w_.store e.at_).1).idx).posts⟩ : Idx), ((mergeR w_.store e.at_).1).parts, ((mergeR w_.store e.at_).1).mem⟩ : Sto)).disk).files).length) es, .slice et ((((stepsW w_ (mergeSt w_.disk e.at_) e.cut (⟨(⟨(((mergeR w_.store e.at_).1).idx).names, (((mergeR w_.store e.at_).1).idx).posts⟩ : Idx), ((mergeR w_.store e.at_).1).parts, ((mergeR w_.store e.at_).1).mem⟩ : Sto)).disk).list).length) ew, .slice ex ((((stepsW w_ (mergeSt w_.disk e.at_) e.cut (⟨(⟨(((mergeR w_.store e.at_).1).idx).names, (((mergeR w_.store e.at_).1).idx).posts⟩ : Idx), ((mergeR w_.store e.at_).1).parts, ((mergeR w_.store e.at_).1).mem⟩ : Sto)).disk).names).length) ey, vI (((stepsW w_ (mergeSt w_.disk e.at_) e.cut (⟨(⟨(((mergeR w_.store e.at_).1).idx).names, (((mergeR w_.store e.at_).1).idx).posts⟩ : Idx), ((mergeR w_.store e.at_).1).parts, ((mergeR w_.store e.at_).1).mem⟩ : Sto)).disk).next)] O fun gS bI di dj => ?_
  replace ⟨h1, h2, h3, h4, h5, h6, h7, C, J, aY, aZ, ba⟩ := (so [ab, Z, W, V] bI).g12 h1 h2 h3 h4 h5 h6 h7 C J aY aZ ba
  replace ⟨bc, bd, bg, bh, E⟩ := (so [ab, Z, W, V] bI).g5 bc bd bg bh E
  clear bI dj
  exact .d <| .rb Tryz.func154 Tryz.results154 di ⟨(VS.of (y := (⟨(⟨(⟨(((stepsW w_ (mergeSt w_.disk e.at_) e.cut (⟨(⟨(((mergeR w_.store e.at_).1).idx).names, (((mergeR w_.store e.at_).1).idx).posts⟩ : Idx), ((mergeR w_.store e.at_).1).parts, ((mergeR w_.store e.at_).1).mem⟩ : Sto)).store).idx).names, (((stepsW w_ (mergeSt w_.disk e.at_) e.cut (⟨(⟨(((mergeR w_.store e.at_).1).idx).names, (((mergeR w_.store e.at_).1).idx).posts⟩ : Idx), ((mergeR w_.store e.at_).1).parts, ((mergeR w_.store e.at_).1).mem⟩ : Sto)).store).idx).posts⟩ : Idx), ((stepsW w_ (mergeSt w_.disk e.at_) e.cut (⟨(⟨(((mergeR w_.store e.at_).1).idx).names, (((mergeR w_.store e.at_).1).idx).posts⟩ : Idx), ((mergeR w_.store e.at_).1).parts, ((mergeR w_.store e.at_).1).mem⟩ : Sto)).store).parts, ((stepsW w_ (mergeSt w_.disk e.at_) e.cut (⟨(⟨(((mergeR w_.store e.at_).1).idx).names, (((mergeR w_.store e.at_).1).idx).posts⟩ : Idx), ((mergeR w_.store e.at_).1).parts, ((mergeR w_.store e.at_).1).mem⟩ : Sto)).store).mem⟩ : Sto), (⟨((stepsW w_ (mergeSt w_.disk e.at_) e.cut (⟨(⟨(((mergeR w_.store e.at_).1).idx).names, (((mergeR w_.store e.at_).1).idx).posts⟩ : Idx), ((mergeR w_.store e.at_).1).parts, ((mergeR w_.store e.at_).1).mem⟩ : Sto)).disk).files, ((stepsW w_ (mergeSt w_.disk e.at_) e.cut (⟨(⟨(((mergeR w_.store e.at_).1).idx).names, (((mergeR w_.store e.at_).1).idx).posts⟩ : Idx), ((mergeR w_.store e.at_).1).parts, ((mergeR w_.store e.at_).1).mem⟩ : Sto)).disk).list, ((stepsW w_ (mergeSt w_.disk e.at_) e.cut (⟨(⟨(((mergeR w_.store e.at_).1).idx).names, (((mergeR w_.store e.at_).1).idx).posts⟩ : Idx), ((mergeR w_.store e.at_).1).parts, ((mergeR w_.store e.at_).1).mem⟩ : Sto)).disk).names, ((stepsW w_ (mergeSt w_.disk e.at_) e.cut (⟨(⟨(((mergeR w_.store e.at_).1).idx).names, (((mergeR w_.store e.at_).1).idx).posts⟩ : Idx), ((mergeR w_.store e.at_).1).parts, ((mergeR w_.store e.at_).1).mem⟩ : Sto)).disk).next⟩ : Dsk)⟩ : Wld)) ⟨_, rfl, ⟨_, _, _, _, _, _, _, _, _, _, _, _, _, _, _, _, _, _, _, _, _, rfl, aY.w1, aZ.w1, ba.w1, bc.w1, bd.w1, bg.w1, bh.w1⟩⟩ (by (rw [doW_3 (by assumption)]))), E⟩
 refine .r 1 <| .d <| .cf <| .s <| .g <| .eq e.kind 4 (fun dk => ?_) (fun dk => ?_)
 ·refine .r 1 <| .d <| .ct <| .s <| .g <| .ln C <| .cl (c_spec_l22Fall w_ h1.ta h2.ta h3.ta h4.ta h5.ta h6.ta h7.ta p0.dsk (w := br) (F := all)) ?_
  rintro gT gU ⟨⟨_, rfl, ⟨ez, gV, eA, eB, gW, eC, eD, gX, eE, eF, gY, eG, eH, gZ, eI, eJ, g0, eK, eL, hC, eM, rfl, aB, aC, aD, aE, aF, aG, aH⟩⟩, bW⟩
  have au := al3 O.lt J.lt C.lt
  have aA : Gb w.heap.size br.heap.size := E.size
  replace ⟨h1, h2, h3, h4, h5, h6, h7, C, O, E⟩ := (se [Z, W, V] bW).g10 h1 h2 h3 h4 h5 h6 h7 C O E
  clear bW
  have aB := aB.fr au aA
  replace aB := aB.base (G' := fo F w.heap.size) (fun _ _ h => .inr h)
  have fx := aB.max
  have aC := aC.fr au aA
  replace aC := aC.base (G' := fo F w.heap.size) (fun _ _ h => .inr h)
  have fy := aC.max
  have aD := aD.fr au aA
  replace aD := aD.base (G' := fo F w.heap.size) (fun _ _ h => .inr h)
  have fz := aD.max
  have aE := aE.fr au aA
  replace aE := aE.base (G' := fo F w.heap.size) (fun _ _ h => .inr h)
  have fA := aE.max
  have aF := aF.fr au aA
  replace aF := aF.base (G' := fo F w.heap.size) (fun _ _ h => .inr h)
  have fB := aF.max
  have aG := aG.fr au aA
  replace aG := aG.base (G' := fo F w.heap.size) (fun _ _ h => .inr h)
  have fC := aG.max
  have aH := aH.fr au aA
  replace aH := aH.base (G' := fo F w.heap.size) (fun _ _ h => .inr h)
  have fD := aH.max
  clear au
  have dm := aB.len
  subst dm
  have dp := aC.len
  subst dp
  have dq := aD.len
  subst dq
  have dr := aE.len
  subst dr
  have dt := aF.len
  subst dt
  have du := aG.len
  subst du
  have dv := aH.len
  subst dv
  refine .sc [.slice ez (((((fallW w_).store).idx).names).length) eA, .slice eB (((((fallW w_).store).idx).posts).length) eC, .slice eD ((((fallW w_).store).parts).length) eE, .slice eF ((((fallW w_).store).mem).length) eG, .slice eH ((((fallW w_).disk).files).length) eI, .slice eJ ((((fallW w_).disk).list).length) eK, .slice eL ((((fallW w_).disk).names).length) eM, vI (((fallW w_).disk).next)] O fun hD bJ dw dx => ?_
  replace ⟨h1, h2, h3, h4, h5, h6, h7, C, aB, aC, aD, aE⟩ := (so [Z, W, V] bJ).g12 h1 h2 h3 h4 h5 h6 h7 C aB aC aD aE
  replace ⟨aF, aG, aH, E⟩ := (so [Z, W, V] bJ).g4 aF aG aH E
  clear bJ dx
  exact .d <| .rb Tryz.func154 Tryz.results154 dw ⟨(VS.of (y := (⟨(⟨(⟨(((fallW w_).store).idx).names, (((fallW w_).store).idx).posts⟩ : Idx), ((fallW w_).store).parts, ((fallW w_).store).mem⟩ : Sto), (⟨((fallW w_).disk).files, ((fallW w_).disk).list, ((fallW w_).disk).names, ((fallW w_).disk).next⟩ : Dsk)⟩ : Wld)) ⟨_, rfl, ⟨_, _, _, _, _, _, _, _, _, _, _, _, _, _, _, _, _, _, _, _, _, rfl, aB.w1, aC.w1, aD.w1, aE.w1, aF.w1, aG.w1, aH.w1⟩⟩ (by (rw [doW_4 (by assumption)]))), E⟩
 refine .r 1 <| .d <| .cf <| .sk <| .ib 0 <| .s <| .g <| .ln C <| .sc [.slice a1 w_.store.idx.names.length c1, .slice a2 w_.store.idx.posts.length c2, .slice a3 w_.store.parts.length c3, .slice a4 w_.store.mem.length c4, .slice a5 w_.disk.files.length c5, .slice a6 w_.disk.list.length c6, .slice a7 w_.disk.names.length c7, vI w_.disk.next] O fun hE bX dy dz => ?_
 replace ⟨h1, h2, h3, h4, h5, h6, h7, E⟩ := (so [Z, W, V] bX).g8 h1 h2 h3 h4 h5 h6 h7 E
 clear bX dz
 exact .d <| .rb Tryz.func154 Tryz.results154 dy ⟨(VS.of (y := w_) ⟨_, rfl, ⟨_, _, _, _, _, _, _, _, _, _, _, _, _, _, _, _, _, _, _, _, _, rfl, h1.w1, h2.w1, h3.w1, h4.w1, h5.w1, h6.w1, h7.w1⟩⟩ (by (rw [doW_0 (by assumption) (by assumption) (by assumption) (by assumption)]))), E⟩
end Go.Proofs.YtfnpaglcnmcnbaaGreat
namespace Go.Proofs.YtfnpaglcnmcnbaaGreat
theorem xor_nat {a b : Int} (ha : 0 ≤ a ∧ a < 4611686018427387904) (hb : 0 ≤ b ∧ b < 4611686018427387904) :
 IntKind.i64.wrap ((BitVec.ofInt 64 a ^^^ BitVec.ofInt 64 b).toNat : Int) = ((a.toNat ^^^ b.toNat : Nat) : Int) ∧ a.toNat ^^^ b.toNat < 4611686018427387904 := by
 have h1 : (BitVec.ofInt 64 a).toNat = a.toNat := by rw [BitVec.toNat_ofInt]; omega
 have h2 : (BitVec.ofInt 64 b).toNat = b.toNat := by rw [BitVec.toNat_ofInt]; omega
 have h3 : a.toNat ^^^ b.toNat < 2 ^ 62 := Nat.xor_lt_two_pow (by omega) (by omega)
 rw [BitVec.toNat_xor, h1, h2]
 exact ⟨IntWalk.i64_in _ (by omega), by omega⟩
theorem run_xor {P : Program} {t : TypeId} {x y : Operand} {a b : Int} (ha : 0 ≤ a ∧ a < 4611686018427387904) (hb : 0 ≤ b ∧ b < 4611686018427387904) (w : World) :
 (do eqGuard .xor t x y (.int .i64 a) (.int .i64 b); binOp .xor t (.int .i64 a) (.int .i64 b)).run P w = .ok (.int .i64 ((a.toNat ^^^ b.toNat : Nat) : Int)) w := by
 have h1 : (eqGuard .xor t x y (.int .i64 a) (.int .i64 b)).run P w = .ok () w := rfl
 rw [run_bind_ok h1, ← (xor_nat ha hb).1]
 rfl
section
variable {P : Program} {n : Nat} {K : Env → World → Prop} {ops : Array Oper} {j : Nat} {e : Env} {w : World}
theorem RG.xor {t : TypeId} {a b : Int} (h : binAt n ops j e = some (.xor, t, .int .i64 a, .int .i64 b)) (ha : 0 ≤ a ∧ a < 4611686018427387904) (hb : 0 ≤ b ∧ b < 4611686018427387904)
 (H : RG P n K ops (j + 1) (putE e (opAt ops j).dst (.int .i64 ((a.toNat ^^^ b.toNat : Nat) : Int))) w) : RG P n K ops j e w :=
 have h1 := run_bin (P := P) (w := w) h (fun _ _ => run_xor ha hb w)
 RG.val h1.1 h1.2 H
end
theorem GA.quo {P : Program} {S : Nat → Prop} {n m : Nat} {L : Env → World → Prop} {ops : Array Oper} {l : List Nat} {e : Env} {w : World} {i : Nat} {t : TypeId} {a b : Int} (hb : gB n m ops l i = true) (h : binAt n ops i e = some (.quo, t, .int .i64 a, .int .i64 b)) (hb0 : b ≠ 0) (hr : -9223372036854775808 ≤ a.tdiv b ∧ a.tdiv b ≤ 9223372036854775807)
 (H : GA P S n m L ops (i :: l) (putE e (opAt ops i).dst (.int .i64 (a.tdiv b))) w) : GA P S n m L ops l e w :=
 GA.det' hb (fun w => run_bin h (fun _ _ => run_quo hb0 hr w)) H
section
variable {α : Type} [Rep α] {w : World} {G F : Nat → Prop} {M : List Nat} {o : Option Addr} {n c r b s : Nat} {t : TypeId} {xs : List α}
theorem RepS.toAll (h : RepS w (nin G M) o n c xs) (hb : b ∈ M) : RepS w (nin all [b]) o n c xs := h.weak fun k _ hk => ⟨trivial, fun e => hk.2 (by simp at e; exact e ▸ hb)⟩
theorem Own.toAll (h : Own w r t (nin G M) n c xs) (hb : b ∈ M) (hr : Nb r b) : RepS w (nin all [b]) (some ⟨r, 0, none⟩) n c xs :=
 h.rep' (fun k _ hk => ⟨trivial, fun e => hk.2 (by simp at e; exact e ▸ hb)⟩) ⟨trivial, fun e => hr.ne (by simpa using e)⟩
theorem RepS.toRd (h : RepS w (nin G M) o n c xs) (hb : b ∈ M) : RepS w (nin G [b]) o n c xs := h.weak fun k _ hk => ⟨hk.1, fun e => hk.2 (by simp at e; exact e ▸ hb)⟩
theorem RepS.topR (h : RepS w (nin F [b]) o n c xs) : RepS w (nin (fo F s) [b]) o n c xs := h.weak fun _ _ hF => ⟨.inl hF.1, hF.2⟩
end
theorem Cov.mk1 (w : World) (b : Nat) : Cov (Go.Proofs.YtfnpaglcnmcnbaaGreat.one b) w b := ⟨.inl rfl⟩
instance {w : World} {b : Nat} : Cov (Go.Proofs.YtfnpaglcnmcnbaaGreat.one b) w b := ⟨.inl rfl⟩
theorem RepS.mixedR {α : Type} [Rep α] {w : World} {F : Nat → Prop} {M : List Nat} {b s s' n c : Nat} {o : Option Addr} {xs : List α} (h : RepS w (nin (fo (nin (fo F s') M) s) [b]) o n c xs) (hM : ∀ k ∈ M, k < s) (hs : s' ≤ s) : RepS w (nin (fo F s') (b :: M)) o n c xs :=
 h.weak fun k _ hF => by
  have hb : k ≠ b := fun e => hF.2 (by simp [e])
  rcases hF.1 with h1 | h1
  ·exact ⟨h1.1, by simp [hb]; exact h1.2⟩
  ·exact ⟨.inr (by omega), by
    intro hm
    rcases List.mem_cons.1 hm with hm | hm
    ·exact hb hm
    ·have := hM k hm; omega⟩
theorem tm_idx {a : Int} {n : Nat} (ha : 0 ≤ a) (hn : (n : Int) ≠ 0) : (Int.tmod a n).toNat < n := by
 have h1 := Int.tmod_nonneg (n : Int) ha
 have h2 := Int.tmod_lt_of_pos a (show (0 : Int) < n by omega)
 omega
theorem tm_nat {a : Int} {n : Nat} (ha : 0 ≤ a) : Int.tmod a n = ((Int.tmod a n).toNat : Int) := by
 have h1 := Int.tmod_nonneg (n : Int) ha
 omega
theorem tm_lt {a n : Int} (ha : 0 ≤ a) (hn : ¬ n < 1) : 0 ≤ Int.tmod a n ∧ (Int.tmod a n < n ∨ Int.tmod a n = 0) := by
 have h1 := Int.tmod_nonneg n ha
 have h2 := Int.tmod_lt_of_pos a (show (0 : Int) < n by omega)
 omega
theorem td_le {a n : Int} (ha : 0 ≤ a) (hn : 0 ≤ n) : 0 ≤ Int.tdiv a n ∧ Int.tdiv a n ≤ a := by
 refine ⟨Int.tdiv_nonneg ha hn, ?_⟩
 rw [Int.tdiv_eq_ediv_of_nonneg ha]
 exact Int.ediv_le_self n ha
section
variable {α : Type} [Rep α] {w : World} {G : Nat → Prop} {M rs : List Nat} {o : Option Addr} {n c r s : Nat} {t : TypeId} {xs : List α}
theorem nin_mixedG {k : Nat} (h : nin (fo (nin G M) s) rs k) (hM : ∀ b ∈ M, b < s) (hG : ∀ b, s ≤ b → G b) : nin G (rs ++ M) k := by
 refine ⟨?_, fun hm => ?_⟩
 ·rcases h.1 with h1 | h1
  ·exact h1.1
  ·exact hG _ h1
 ·rcases List.mem_append.1 hm with hm | hm
  ·exact h.2 hm
  ·rcases h.1 with h1 | h1
   ·exact h1.2 hm
   ·have h2 := hM k hm
    omega
theorem RepS.mixedG (h : RepS w (fo (nin G M) s) o n c xs) (hM : ∀ b ∈ M, b < s) (hG : ∀ b, s ≤ b → G b) : RepS w (nin G M) o n c xs := h.weak fun k _ hk => nin_mixedG (rs := []) ⟨hk, by simp⟩ hM hG
end
def TagD (t : Tag) : Prop := t.key ∈ [[97], [98], [99]] ∧ t.val ∈ [[112], [113], [122], [], [111], [112, 112]]
def NmD (n : List Tag) : Prop := n.length ≤ 5 ∧ ∀ t ∈ n, TagD t
def RowSm (r : Row) : Prop := -1 ≤ r.t ∧ r.t ≤ 100 ∧ -100 ≤ r.v ∧ r.v ≤ 100
end Go.Proofs.YtfnpaglcnmcnbaaGreat
namespace Go.Proofs.YtfnpaglcnmcnbaaGreat
set_option maxRecDepth 100000
set_option maxHeartbeats 4000000
theorem c_spec_l6Open (code : List UInt8) {w : World} {F : Nat → Prop} {a1 : Option Addr} {n1 c1 : Nat} (h1 : RepS w F a1 n1 c1 code)  : Calls Tryz.prog 55 [.slice a1 n1 c1].toArray w (rets fun rv w' => (∃ (D : List UInt8) (b : Nat) (a : Option Addr) (c : Nat), rv = .pointer (some ⟨b, 0, none⟩) ∧ w.heap.size ≤ b ∧ Box w' b 140 [.slice a D.length c, .int .i64 ((0 : Nat) : Int)] ∧ RepS w' (nin (fo F w.heap.size) [b]) a D.length c D) ∧ Ext w w') := by
 refine goT Tryz.func55 ?_
 obtain ⟨rfl, ao, h1⟩ := h1.tp
 refine .s <| .g <| .r 1 <| .d <| .s <| .s <| .g <| .r 2 <| .bp ((code.length : Int) > 2000) (fun Z => ?_) (fun Z => ?_)
 ·refine .d <| .ct <| .g <| .r 1 <| RG.sub (t := 22) (lo := none) (hi := some (vI 2000)) h1 0 2000 (by kernel_rfl) (by kernel_rfl) (.inl ⟨rfl, rfl⟩) (.inr ⟨_, _, rfl, by omega⟩) (by omega) (by omega) fun aj ak C => ?_
  have aq := C.len; have ar := C.max
  refine .r 1 <| .d <| .s <| .g <| .r 2 <| .np 140 [.slice aj (2000 - 0) ak, vI 0] fun al au E J W aa => ?_
  have ab := gb_new E (Nat.le_refl _)
  replace ⟨h1, C⟩ := (sn [] J E).g2 h1 C
  have ac := J
  clear J aa E
  refine .r 1 <| .d ?_
  have ae := C.len; rw [ae] at C W
  exact .rt Tryz.func55 Tryz.results55 (.pointer (some ⟨al, 0, none⟩)) ⟨⟨_, _, _, _, rfl, ab, W, (RepS.toRd C (.head _))⟩, ac⟩
 refine .d <| .cf <| .sk <| .s <| .g <| .r 2 <| .np 140 [.slice a1 code.length c1, vI 0] fun am av O V af ag => ?_
 have ah := gb_new O (Nat.le_refl _)
 replace h1 := (sn [] V O).g1 h1
 have ai := V
 clear V ag O
 exact .r 1 <| .d <| .rt Tryz.func55 Tryz.results55 (.pointer (some ⟨am, 0, none⟩)) ⟨⟨_, _, _, _, rfl, ah, af, (RepS.toRd h1 (.head _))⟩, ai⟩
theorem c_spec_l6Rd_pick (n : Int) {w : World} {F : Nat → Prop} {b : Nat} {ad : Option Addr} {cd p : Nat} {D : List UInt8} (hr : Box w b 140 [.slice ad D.length cd, .int .i64 (p : Int)]) (hD : RepS w (nin all [b]) ad D.length cd D) (hp : p + 1 ≤ 1000000000)  : Calls Tryz.prog 79 [.pointer (some ⟨b, 0, none⟩), .int .i64 n].toArray w (rets fun rv w' => (∃ (y : Int), rv = .int .i64 (y) ∧ 0 ≤ y ∧ (y < n ∨ y = 0)) ∧ ∃ p' : Nat, p' ≤ p + 1 ∧ Box w' b 140 [.slice ad D.length cd, .int .i64 (p' : Int)] ∧ Chg (one b) w w') := by
 refine goT Tryz.func79 ?_
 have ay := hD.max
 refine .s <| .g <| .r 1 <| .d <| .s <| .g <| .r 4 <| .lb hr <| .it ((p : Int) + 1) <| .r 2 <| .ss 1 (vI ((p : Int) + 1)) hr fun ax W C aj => ?_
 replace hD := (so [b] W).g1 hD
 have O : Chg (one b) w ax := Chg.stepO (Chg.refl (one b) w) W (Cov.mk1 w b)
 clear W aj
 refine .d <| .s <| .s <| .g <| .r 1 <| .bp (n < 1) (fun ak => .r 8 <| .d <| .ct <| .s <| .g <| .r 1 <| .d <| .rt Tryz.func79 Tryz.results79 (vI 0) ⟨⟨(0 : Int), (congrArg (Value.int .i64) (by rfl)), (by omega)⟩, p + 1, by omega, C, O⟩) fun ak => .r 4 <| .lb C <| .r 1 <| .eq (D.length : Int) 0 (fun al => .r 1 <| .d <| .ct <| .s <| .g <| .r 1 <| .d <| .rt Tryz.func79 Tryz.results79 (vI 0) ⟨⟨(0 : Int), (congrArg (Value.int .i64) (by rfl)), (by omega)⟩, p + 1, by omega, C, O⟩) fun al => .r 1 <| .d <| .cf <| .sk <| .s <| .g <| .r 3 <| .lb C <| .it (((p : Int) + 1) - 1) <| .r 1 <| .d <| .s <| .s <| .g <| .r 4 <| .lb C <| .r 1 <| .bp (((p : Int) + 1) - 1 < (D.length : Int)) (fun am => ?_) (fun am => ?_)
 ·refine .d <| .ct <| .s <| .g <| .r 3 <| .lb C <| .r 1 ?_
  have ac : (((p : Int) + 1) - 1).toNat < D.length := (by omega)
  refine RG.idx ((((p : Int) + 1) - 1).toNat) (len := D.length) (i := ((p : Int) + 1) - 1) (sz := 1) (by kernel_rfl) (by omega) ac (hD.addr (Nat.zero_lt_of_lt ac)) ?_
  obtain ⟨V, Z⟩ : ∃ y, D[(((p : Int) + 1) - 1).toNat]? = some y := ⟨_, List.getElem?_eq_getElem (by omega)⟩
  have az := drop_at Z; have au := List.mem_of_getElem? Z
  have aA := UInt8.toNat_lt V
  obtain ⟨_, rfl, ao⟩ := hD.elem ((((p : Int) + 1) - 1).toNat) V Z
  exact .lh 0 ao <| .it ((V.toNat : Int)) <| .r 1 <| RG.rem (t := 3) (k := .i64) (a := (V.toNat : Int)) (b := n) (by kernel_rfl) (by omega) <| .r 1 <| .d <| .rt Tryz.func79 Tryz.results79 (vI (Int.tmod (V.toNat : Int) n)) ⟨⟨((Int.tmod (V.toNat : Int) n) : Int), (congrArg (Value.int .i64) (by rfl)), (by exact tm_lt (by omega) (by assumption))⟩, p + 1, by omega, C, O⟩
 refine .d <| .cf <| .sk <| .s <| .gd nil 44 fun aI ae => ?_
 replace ⟨hD, C, O⟩ := (se [b] ae).g3 hD C O
 clear ae
 refine .r [0, 1, 2] <| .lb 3 C id <| .r [4, 5, 6, 7] <| .lb 8 C id <| .r [9] <| GA.rem (i := 10) (t := 3) (k := .i64) (a := ((p : Int) + 1) - 1) (b := (D.length : Int)) (by kernel_rfl) (by kernel_rfl) (by omega) ?_
 have af : ((Int.tmod (((p : Int) + 1) - 1) (D.length : Int))).toNat < D.length := (by exact tm_idx (by omega) (by omega))
 refine GA.idx (i := 11) (((Int.tmod (((p : Int) + 1) - 1) (D.length : Int))).toNat) (len := D.length) (z := (Int.tmod (((p : Int) + 1) - 1) (D.length : Int))) (sz := 1) (by kernel_rfl) (by exact tm_nat (by omega)) af (hD.addr (Nat.zero_lt_of_lt af)) ?_
 obtain ⟨E, aa⟩ : ∃ y, D[((Int.tmod (((p : Int) + 1) - 1) (D.length : Int))).toNat]? = some y := ⟨_, List.getElem?_eq_getElem (by omega)⟩
 have aB := drop_at aa; have av := List.mem_of_getElem? aa
 have aC := UInt8.toNat_lt E
 obtain ⟨_, rfl, aq⟩ := hD.elem (((Int.tmod (((p : Int) + 1) - 1) (D.length : Int))).toNat) E aa
 refine .lh 12 0 aq id <| GA.int (i := 13) ((E.toNat : Int)) (by kernel_rfl) (by omega) <| GA.int (i := 14) ((E.toNat : Int) * 131) (by kernel_rfl) (by omega) <| .r [15, 16, 17] <| .lb 18 C id <| .r [19] <| GA.int (i := 20) ((((p : Int) + 1) - 1) * 7) (by kernel_rfl) (by omega) <| GA.int (i := 21) ((((p : Int) + 1) - 1) * 7 + 3) (by kernel_rfl) (by omega) <| .r [22, 23, 24] <| .lb 25 C id <| .r [26] <| GA.rem (i := 27) (t := 3) (k := .i64) (a := (((p : Int) + 1) - 1) * 7 + 3) (b := (D.length : Int)) (by kernel_rfl) (by kernel_rfl) (by omega) ?_
 have ag : ((Int.tmod ((((p : Int) + 1) - 1) * 7 + 3) (D.length : Int))).toNat < D.length := (by exact tm_idx (by omega) (by omega))
 refine GA.idx (i := 28) (((Int.tmod ((((p : Int) + 1) - 1) * 7 + 3) (D.length : Int))).toNat) (len := D.length) (z := (Int.tmod ((((p : Int) + 1) - 1) * 7 + 3) (D.length : Int))) (sz := 1) (by kernel_rfl) (by exact tm_nat (by omega)) ag (hD.addr (Nat.zero_lt_of_lt ag)) ?_
 obtain ⟨J, ab⟩ : ∃ y, D[((Int.tmod ((((p : Int) + 1) - 1) * 7 + 3) (D.length : Int))).toNat]? = some y := ⟨_, List.getElem?_eq_getElem (by omega)⟩
 have aD := drop_at ab; have aw := List.mem_of_getElem? ab
 have aE := UInt8.toNat_lt J
 obtain ⟨_, rfl, ar⟩ := hD.elem (((Int.tmod ((((p : Int) + 1) - 1) * 7 + 3) (D.length : Int))).toNat) J ab
 refine .lh 29 0 ar id <| GA.int (i := 30) ((J.toNat : Int)) (by kernel_rfl) (by omega) <| GA.int (i := 31) ((J.toNat : Int) * 1117) (by kernel_rfl) (by omega) <| GA.int (i := 32) ((E.toNat : Int) * 131 + ((J.toNat : Int) * 1117)) (by kernel_rfl) (by omega) <| .r [33] <| GA.int (i := 34) ((((p : Int) + 1) - 1) * 29) (by kernel_rfl) (by omega) <| GA.int (i := 35) ((E.toNat : Int) * 131 + ((J.toNat : Int) * 1117) + ((((p : Int) + 1) - 1) * 29)) (by kernel_rfl) (by omega) <| .r [36, 37, 38, 39] <| .lb 40 C id <| .r [41] ?_
 have aF := td_le (a := ((p : Int) + 1) - 1) (n := (D.length : Int)) (by omega) (by omega)
 refine GA.quo (i := 42) (t := 3) (a := ((p : Int) + 1) - 1) (b := (D.length : Int)) (by kernel_rfl) (by kernel_rfl) (by omega) (by omega) <| GA.int (i := 43) ((Int.tdiv (((p : Int) + 1) - 1) (D.length : Int)) * 53) (by kernel_rfl) (by omega) <| .d fun aJ ah => ?_
 replace ⟨hD, C, O⟩ := (se [b] ah).g3 hD C O
 clear ah
 refine .it ((E.toNat : Int) * 131 + ((J.toNat : Int) * 1117) + ((((p : Int) + 1) - 1) * 29) + ((Int.tdiv (((p : Int) + 1) - 1) (D.length : Int)) * 53)) <| .r 1 <| .d <| .s <| .g <| .r 2 ?_
 have aG := td_le (a := (E.toNat : Int) * 131 + ((J.toNat : Int) * 1117) + ((((p : Int) + 1) - 1) * 29) + ((Int.tdiv (((p : Int) + 1) - 1) (D.length : Int)) * 53)) (n := 64) (by omega) (by omega)
 refine RG.quo (t := 3) (a := (E.toNat : Int) * 131 + ((J.toNat : Int) * 1117) + ((((p : Int) + 1) - 1) * 29) + ((Int.tdiv (((p : Int) + 1) - 1) (D.length : Int)) * 53)) (b := 64) (by kernel_rfl) (by omega) (by omega) <| RG.xor (t := 3) (a := (E.toNat : Int) * 131 + ((J.toNat : Int) * 1117) + ((((p : Int) + 1) - 1) * 29) + ((Int.tdiv (((p : Int) + 1) - 1) (D.length : Int)) * 53)) (b := (Int.tdiv ((E.toNat : Int) * 131 + ((J.toNat : Int) * 1117) + ((((p : Int) + 1) - 1) * 29) + ((Int.tdiv (((p : Int) + 1) - 1) (D.length : Int)) * 53)) 64)) (by kernel_rfl) (by omega) (by omega) ?_
 obtain ⟨ai, aH, hz51e⟩ : ∃ z : Nat, z < 4611686018427387904 ∧ ((((E.toNat : Int) * 131 + ((J.toNat : Int) * 1117) + ((((p : Int) + 1) - 1) * 29) + ((Int.tdiv (((p : Int) + 1) - 1) (D.length : Int)) * 53)).toNat ^^^ ((Int.tdiv ((E.toNat : Int) * 131 + ((J.toNat : Int) * 1117) + ((((p : Int) + 1) - 1) * 29) + ((Int.tdiv (((p : Int) + 1) - 1) (D.length : Int)) * 53)) 64)).toNat : Nat) : Int) = (z : Int) := ⟨_, (xor_nat (by omega) (by omega)).2, rfl⟩
 rw [hz51e]
 exact .r 1 <| .d <| .s <| .g <| .r 2 <| RG.rem (t := 3) (k := .i64) (a := (ai : Int)) (b := n) (by kernel_rfl) (by omega) <| .r 1 <| .d <| .rt Tryz.func79 Tryz.results79 (vI (Int.tmod (ai : Int) n)) ⟨⟨((Int.tmod (ai : Int) n) : Int), (congrArg (Value.int .i64) (by rfl)), (by exact tm_lt (by omega) (by assumption))⟩, p + 1, by omega, C, O⟩
theorem c_spec_l6Rd_of (list : List Txt) {w : World} {F : Nat → Prop} {b : Nat} {ad : Option Addr} {cd p : Nat} {D : List UInt8} (hr : Box w b 140 [.slice ad D.length cd, .int .i64 (p : Int)]) (hD : RepS w (nin all [b]) ad D.length cd D) (hp : p + 1 ≤ 1000000000) {a1 : Option Addr} {n1 c1 : Nat} (h1 : RepS w (nin F [b]) a1 n1 c1 list) (p0 : 0 < list.length) : Calls Tryz.prog 104 [.pointer (some ⟨b, 0, none⟩), .slice a1 n1 c1].toArray w (rets fun rv w' => (∃ (y : Str), rv = .string (bs (y)) ∧ (⟨y⟩ : Txt) ∈ list) ∧ ∃ p' : Nat, p' ≤ p + 1 ∧ Box w' b 140 [.slice ad D.length cd, .int .i64 (p' : Int)] ∧ Chg (one b) w w') := by
 refine goT Tryz.func104 ?_
 have af := hD.max
 obtain rfl := h1.len
 replace h1 := h1.topR (s := w.heap.size)
 have ag := h1.max
 refine .s <| .g <| .r 1 <| .d <| .s <| .g <| .r 4 <| .cl (c_spec_l6Rd_pick (list.length : Int) hr (hD.toAll (.head _)) (by omega) (w := w) (F := all)) ?_
 rintro ak ac ⟨⟨C, rfl, ah⟩, ae, ai, W, E⟩
 replace ⟨hD, h1⟩ := (so [b] E).g2 hD h1
 have Z : Chg (one b) w ac := Chg.stepO (Chg.refl (one b) w) E (Cov.mk1 w b)
 clear E
 have O : (C).toNat < list.length := (by omega)
 refine RG.idx ((C).toNat) (len := list.length) (i := C) (sz := 1) (by kernel_rfl) (by omega) O (h1.addr (Nat.zero_lt_of_lt O)) ?_
 obtain ⟨V, J⟩ : ∃ y, list[(C).toNat]? = some y := ⟨_, List.getElem?_eq_getElem (by omega)⟩
 have aj := drop_at J; have ab := List.mem_of_getElem? J
 obtain ⟨_, rfl, aa⟩ := h1.elem ((C).toNat) V J
 exact .lh 0 aa <| .r 1 <| .d <| .rt Tryz.func104 Tryz.results104 (vT V.s) ⟨⟨(V.s : Str), (congrArg (fun s => Value.string (bs s)) (by rfl)), (by assumption)⟩, ae, by omega, W, Z⟩
theorem c_spec_l71Row  {w : World} {F : Nat → Prop} {b : Nat} {ad : Option Addr} {cd p : Nat} {D : List UInt8} (hr : Box w b 140 [.slice ad D.length cd, .int .i64 (p : Int)]) (hD : RepS w (nin all [b]) ad D.length cd D) (hp : p + 4 ≤ 1000000000)  : Calls Tryz.prog 58 [.pointer (some ⟨b, 0, none⟩)].toArray w (rets fun rv w' => (∃ (y : Row), VS (ge w.heap.size) w' (y : Row) rv ∧ RowSm y) ∧ ∃ p' : Nat, p' ≤ p + 4 ∧ Box w' b 140 [.slice ad D.length cd, .int .i64 (p' : Int)] ∧ Chg (one b) w w') := by
 refine goT Tryz.func58 ?_
 have bK := hD.max
 refine .s <| .g <| .np 33 [vI 0, vI 0] fun O bg am ar E bh => ?_
 have bL := nb_new am hr.lt
 have bM : Cov (one b) w O := cov_new am (Nat.le_refl _)
 replace ⟨hD, hr⟩ := (sn [b] ar am).g2 hD hr
 have C : Chg (one b) w bg := Chg.stepN (Chg.refl (one b) w) ar
 clear ar bh am
 refine .d <| .s <| .g <| .r 1 <| .cl (c_spec_l6Rd_pick 40 hr (hD.toAll (.tail _ (.head _))) (by omega) (w := bg) (F := all)) ?_
 rintro ce bB ⟨⟨au, rfl, bN⟩, cg, bO, bi, aI⟩
 replace ⟨hD, E, C⟩ := (so [O, b] aI).g3 hD E C
 clear aI
 refine .r 1 <| .cl (c_spec_l6Rd_pick 20 bi (hD.toAll (.tail _ (.head _))) (by omega) (w := bB) (F := all)) ?_
 rintro ci cj ⟨⟨ao, rfl, bP⟩, ck, bQ, ab, aJ⟩
 replace ⟨hD, E, C⟩ := (so [O, b] aJ).g3 hD E C
 clear aJ
 refine .it (ao - 6) <| .r 1 <| .np 33 [vI 0, vI 0] fun W cm ae aK bj bk => ?_
 have bR := nb_new ae ab.lt
 have bS := nb_new ae E.lt
 have bT := C.cn ae
 replace ⟨hD, ab, E, C⟩ := (sn [O, b] aK ae).g4 hD ab E C
 clear aK bk ae
 refine .sc [vI au, vI (ao - 6)] bj fun bC aL J bm => ?_
 replace ⟨hD, ab, E, C⟩ := (so [W, O, b] aL).g4 hD ab E C
 clear aL bm
 refine .d <| .s <| .s <| .g <| .r 1 <| .cl (c_spec_l6Rd_pick 40 ab (hD.toAll (.tail _ (.tail _ (.head _)))) (by omega) (w := bC) (F := all)) ?_
 rintro co cp ⟨⟨bn, rfl, bU⟩, bD, bV, V, aM⟩
 replace ⟨hD, E, J, C⟩ := (so [W, O, b] aM).g4 hD E J C
 clear aM
 refine .d <| .b 0 <| .s <| .g <| .eq bn 0 (fun bo => ?_) (fun bo => ?_)
 ·refine .r 1 <| .d <| .ct <| .g <| .ns 3 3 [vI (-1), vI 99, vI 100] fun ah bq av aN br bt => ?_
  have bW := nb_new av V.lt
  replace ⟨hD, V, E, J, C⟩ := (sn [W, O, b] aN av).g5 hD V E J C
  clear aN bt av
  have aw : Own (α := Int) bq ah 3 (nin (ge w.heap.size) [ah, W, O, b]) 3 3 [(-1), 99, 100] := Own.lit br rfl (by decide) ⟨rfl, rfl, rfl, rfl⟩
  refine .r 1 <| .cl (c_spec_l6Rd_pick 3 V (hD.toAll (.tail _ (.tail _ (.tail _ (.head _))))) (by omega) (w := bq) (F := all)) ?_
  rintro cq bE ⟨⟨aq, rfl, bX⟩, bF, bY, af, aO⟩
  replace ⟨hD, E, J, aw, C⟩ := (so [ah, W, O, b] aO).g5 hD E J aw C
  clear aO
  have bu : (aq).toNat < 3 := (by omega)
  refine RG.idx (b := ah) (o := 0) ((aq).toNat) (len := 3) (i := aq) (sz := 1) (by kernel_rfl) (by omega) bu rfl ?_
  obtain ⟨ax, ay⟩ : ∃ y, ([(-1), 99, 100] : List Int)[(aq).toNat]? = some y := ⟨_, List.getElem?_eq_getElem (by omega)⟩
  have bZ := drop_at ay; have aH := List.mem_of_getElem? ay
  simp only [List.mem_cons, List.not_mem_nil, or_false] at aH
  obtain ⟨_, rfl, az⟩ := aw.elem ((aq).toNat) ax ay
  replace az : Has bE ⟨ah, 0 + ((aq).toNat) * Rep.sz Int, none⟩ [vI ax] := by rw [Nat.zero_add]; exact az
  refine .lh 0 az <| .r 1 <| .ss 0 (vI ax) J fun cr aP bv bw => ?_
  replace ⟨hD, af, E, C⟩ := (so [ah, W, O, b] aP).g4 hD af E C
  clear aP bw
  refine .d <| .ib 0 <| .s <| .g <| .ln bv <| .sc [vI ax, vI (ao - 6)] E fun b0 aA aR aS => ?_
  replace ⟨hD, af, C⟩ := (so [ah, W, O, b] aA).g3 hD af C
  clear aA aS
  exact .d <| .rb Tryz.func58 Tryz.results58 aR ⟨⟨((⟨ax, ao - 6⟩ : Row) : Row), ⟨_, rfl, rfl⟩, (by (unfold RowSm; dsimp only; omega))⟩, bF, by omega, af, C⟩
 refine .r 1 <| .d <| .cf <| .s <| .g <| .eq bn 1 (fun aT => ?_) (fun aT => ?_)
 ·refine .r 1 <| .d <| .ct <| .g <| .ns 3 3 [vI (-99), vI 99, vI 100] fun Z aQ ai aB aU aV => ?_
  have bG := nb_new ai V.lt
  replace ⟨hD, V, E, J, C⟩ := (sn [W, O, b] aB ai).g5 hD V E J C
  clear aB aV ai
  have aj : Own (α := Int) aQ Z 3 (nin (ge w.heap.size) [Z, W, O, b]) 3 3 [(-99), 99, 100] := Own.lit aU rfl (by decide) ⟨rfl, rfl, rfl, rfl⟩
  refine .r 1 <| .cl (c_spec_l6Rd_pick 3 V (hD.toAll (.tail _ (.tail _ (.tail _ (.head _))))) (by omega) (w := aQ) (F := all)) ?_
  rintro b6 bz ⟨⟨ac, rfl, bH⟩, bA, bI, aa, aC⟩
  replace ⟨hD, E, J, aj, C⟩ := (so [Z, W, O, b] aC).g5 hD E J aj C
  clear aC
  have aW : (ac).toNat < 3 := (by omega)
  refine RG.idx (b := Z) (o := 0) ((ac).toNat) (len := 3) (i := ac) (sz := 1) (by kernel_rfl) (by omega) aW rfl ?_
  obtain ⟨ag, ak⟩ : ∃ y, ([(-99), 99, 100] : List Int)[(ac).toNat]? = some y := ⟨_, List.getElem?_eq_getElem (by omega)⟩
  have bJ := drop_at ak; have aD := List.mem_of_getElem? ak
  simp only [List.mem_cons, List.not_mem_nil, or_false] at aD
  obtain ⟨_, rfl, al⟩ := aj.elem ((ac).toNat) ag ak
  replace al : Has bz ⟨Z, 0 + ((ac).toNat) * Rep.sz Int, none⟩ [vI ag] := by rw [Nat.zero_add]; exact al
  refine .lh 0 al <| .r 1 <| .ss 1 (vI ag) J fun b7 aE aX aY => ?_
  replace ⟨hD, aa, E, C⟩ := (so [Z, W, O, b] aE).g4 hD aa E C
  clear aE aY
  refine .d <| .ib 0 <| .s <| .g <| .ln aX <| .sc [vI au, vI ag] E fun b8 aF aZ ba => ?_
  replace ⟨hD, aa, C⟩ := (so [Z, W, O, b] aF).g3 hD aa C
  clear aF ba
  exact .d <| .rb Tryz.func58 Tryz.results58 aZ ⟨⟨((⟨au, ag⟩ : Row) : Row), ⟨_, rfl, rfl⟩, (by (unfold RowSm; dsimp only; omega))⟩, bA, by omega, aa, C⟩
 refine .r 1 <| .d <| .cf <| .sk <| .ib 0 <| .s <| .g <| .ln J <| .sc [vI au, vI (ao - 6)] E fun b9 aG bc bd => ?_
 replace ⟨hD, V, C⟩ := (so [W, O, b] aG).g3 hD V C
 clear aG bd
 exact .d <| .rb Tryz.func58 Tryz.results58 bc ⟨⟨((⟨au, ao - 6⟩ : Row) : Row), ⟨_, rfl, rfl⟩, (by (unfold RowSm; dsimp only; omega))⟩, bD, by omega, V, C⟩
theorem c_spec_l71Tag  {w : World} {F : Nat → Prop} {b : Nat} {ad : Option Addr} {cd p : Nat} {D : List UInt8} (hr : Box w b 140 [.slice ad D.length cd, .int .i64 (p : Int)]) (hD : RepS w (nin all [b]) ad D.length cd D) (hp : p + 2 ≤ 1000000000)  : Calls Tryz.prog 131 [.pointer (some ⟨b, 0, none⟩)].toArray w (rets fun rv w' => (∃ (y : Tag), VS (ge w.heap.size) w' (y : Tag) rv ∧ TagD y) ∧ ∃ p' : Nat, p' ≤ p + 2 ∧ Box w' b 140 [.slice ad D.length cd, .int .i64 (p' : Int)] ∧ Chg (one b) w w') := by
 refine goT Tryz.func131 ?_
 have aF := hD.max
 refine .s <| .g <| .np 112 [.string (bs []), .string (bs [])] fun J aD V Z E ak => ?_
 have aG := nb_new V hr.lt
 have aH : Cov (one b) w J := cov_new V (Nat.le_refl _)
 replace ⟨hD, hr⟩ := (sn [b] Z V).g2 hD hr
 have C : Chg (one b) w aD := Chg.stepN (Chg.refl (one b) w) Z
 clear Z ak V
 refine .d <| .s <| .g <| .r 1 <| .ns 3 9 [.string (bs [97]), .string (bs [98]), .string (bs [99])] fun O al aa af am ao => ?_
 have aq := nb_new aa hr.lt
 replace ⟨hD, hr, E, C⟩ := (sn [J, b] af aa).g4 hD hr E C
 clear af ao aa
 have ar : Own (α := Txt) al O 9 (nin (ge w.heap.size) [O, J, b]) 3 3 [(⟨[97]⟩ : Txt), (⟨[98]⟩ : Txt), (⟨[99]⟩ : Txt)] := Own.lit am rfl (by decide) ⟨rfl, rfl, rfl, rfl⟩
 refine .cl (c_spec_l6Rd_of ([(⟨[97]⟩ : Txt), (⟨[98]⟩ : Txt), (⟨[99]⟩ : Txt)] : List Txt) hr (hD.toAll (.tail _ (.tail _ (.head _)))) (by omega) (ar.toAll (.tail _ (.tail _ (.head _))) aq) (by simp) (w := al) (F := all)) ?_
 rintro aM aN ⟨⟨au, rfl, aI⟩, aO, aJ, W, ag⟩
 replace ⟨hD, E, C⟩ := (so [O, J, b] ag).g3 hD E C
 clear ag
 refine .r 1 <| .ns 3 9 [.string (bs [112]), .string (bs [113]), .string (bs [122])] fun ae av ab ah aw ax => ?_
 have ay := nb_new ab W.lt
 replace ⟨hD, W, E, C⟩ := (sn [O, J, b] ah ab).g4 hD W E C
 clear ah ax ab
 have az : Own (α := Txt) av ae 9 (nin (ge w.heap.size) [ae, O, J, b]) 3 3 [(⟨[112]⟩ : Txt), (⟨[113]⟩ : Txt), (⟨[122]⟩ : Txt)] := Own.lit aw rfl (by decide) ⟨rfl, rfl, rfl, rfl⟩
 refine .cl (c_spec_l6Rd_of ([(⟨[112]⟩ : Txt), (⟨[113]⟩ : Txt), (⟨[122]⟩ : Txt)] : List Txt) W (hD.toAll (.tail _ (.tail _ (.tail _ (.head _))))) (by omega) (az.toAll (.tail _ (.tail _ (.tail _ (.head _)))) ay) (by simp) (w := av) (F := all)) ?_
 rintro aP aQ ⟨⟨aA, rfl, aK⟩, aE, aL, ac, ai⟩
 replace ⟨hD, E, C⟩ := (so [ae, O, J, b] ai).g3 hD E C
 clear ai
 refine .r 1 <| .sc [vT au, vT aA] E fun aR aj aB aC => ?_
 replace ⟨hD, ac, C⟩ := (so [ae, O, J, b] aj).g3 hD ac C
 clear aj aC
 exact .d <| .rb Tryz.func131 Tryz.results131 aB ⟨⟨((⟨au, aA⟩ : Tag) : Tag), ⟨_, rfl, rfl⟩, (by grind [TagD])⟩, aE, by omega, ac, C⟩
theorem c_spec_l71Name  {w : World} {F : Nat → Prop} {b : Nat} {ad : Option Addr} {cd p : Nat} {D : List UInt8} (hr : Box w b 140 [.slice ad D.length cd, .int .i64 (p : Int)]) (hD : RepS w (nin all [b]) ad D.length cd D) (hp : p + 20 ≤ 1000000000)  : Calls Tryz.prog 102 [.pointer (some ⟨b, 0, none⟩)].toArray w (rets fun rv w' => (∃ (y : List Tag), VL (ge w.heap.size) w' (y : List Tag) rv ∧ NmD y) ∧ ∃ p' : Nat, p' ≤ p + 20 ∧ Box w' b 140 [.slice ad D.length cd, .int .i64 (p' : Int)] ∧ Chg (one b) w w') := by
 refine goT Tryz.func102 ?_
 have eJ := hD.max
 refine .s <| .g <| .r 1 <| .d <| .s <| .g <| .ns 0 112 [] fun al dj aG bd dk dm => ?_
 have dp := nb_new aG hr.lt
 have dq := gb_new aG (Nat.le_refl _)
 have dr : Cov (one b) w al := cov_new aG (Nat.le_refl _)
 replace ⟨hD, hr⟩ := (sn [b] bd aG).g2 hD hr
 have C : Chg (one b) w dj := Chg.stepN (Chg.refl (one b) w) bd
 clear bd dm aG
 have aR : Own (α := Tag) dj al 112 (nin (ge w.heap.size) [al, b]) 0 0 [] := Own.nil' dk
 refine .r 1 <| .d <| .s <| .s <| .g <| .ns 3 9 [.string (bs [97]), .string (bs [98]), .string (bs [99])] fun O aX aS bT dt du => ?_
 have eK := nb_new aS hr.lt
 have dv := nb_new aS aR.lt
 replace ⟨hD, hr, aR, C⟩ := (sn [al, b] bT aS).g4 hD hr aR C
 clear bT du aS
 have E : Own (α := Txt) aX O 9 (nin (ge w.heap.size) [O, al, b]) 3 3 [(⟨[97]⟩ : Txt), (⟨[98]⟩ : Txt), (⟨[99]⟩ : Txt)] := Own.lit dt rfl (by decide) ⟨rfl, rfl, rfl, rfl⟩
 refine .r 2 <| .d <| .b 0 <| T.loop (X := (List Tag) × Nat × Nat × Nat × Nat × Nat) (([] : List Tag), al, 0, 0, 0, p) (fun (out, r_out, n_out, c_out, k, p_) => [(0, .pointer (some ⟨b, 0, none⟩)), (3, vS r_out n_out c_out), (7, vS O 3 3), (8, vI 3), (9, vI (k : Int))]) (fun (out, r_out, n_out, c_out, k, p_) aA => Chg (ins [al, b]) aX aA ∧ Own aA r_out 112 (nin (ge w.heap.size) [O, r_out, b]) n_out c_out out ∧ OrB r_out al aX.heap.size ∧ Box aA b 140 [.slice ad D.length cd, vI (p_ : Int)] ∧ (k ≤ 3) ∧ (out.length ≤ k) ∧ (∀ t ∈ out, TagD t) ∧ (p_ ≤ p + 2 * k)) (fun (out, r_out, n_out, c_out, k, p_) => 3 - k) (by kernel_rfl) ⟨by kernel_rfl, by kernel_rfl, by kernel_rfl, by kernel_rfl, by kernel_rfl, trivial⟩ ⟨Chg.refl _ _, aR, orb_refl, hr, (by simp), (by simp), (by simp), (by simp)⟩ ?_
 rintro ⟨out, r_out, n_out, c_out, k, p_⟩ fi aA ⟨Z, J, ak, bg, eL, eM, eN, eO⟩ aH
 have bU := nb_or' ak dp hr.lt
 have bV := nb_or' ak (Nb.symm dv) E.lt
 have aT := gb_or' ak dq C.size
 have dw := cov_or' ak dr C.size
 have dx : Cov (ins [al, b]) aX al := ⟨.inl (.head _)⟩
 have eP : Cov (ins [al, b]) aX b := ⟨.inl (.tail _ (.head _))⟩
 have eQ := cov_or' ak dx (Nat.le_refl _)
 have bW : Mv [O, al, b] [O, r_out, b] aX aA := Mv.inl Z (all_cons (.tail _ (.head _)) (all_cons (.tail _ (.tail _ (.head _))) all_nil)) (all_cons (.inl (.head _)) (all_cons (orb_mem ak (.tail _ (.head _))) (all_cons (.inl (.tail _ (.tail _ (.head _)))) all_nil)))
 replace ⟨hD, E, C⟩ := (sp bW Z).g3 hD E C
 clear bW
 have eR := J.len; have eS := J.max
 refine .s <| .g <| .bp ((k : Int) < 3) (fun dy => ?_) (fun dy => ?_)
 ·refine .d <| .s <| .ct <| .sk <| .s <| .b 1 <| .s <| .g ?_
  have dz : k < 3 := (by omega)
  refine RG.idx (b := O) (o := 0) k (len := 3) (i := (k : Int)) (sz := 1) (by kernel_rfl) (by omega) dz rfl ?_
  obtain ⟨bh, bi⟩ : ∃ y, ([(⟨[97]⟩ : Txt), (⟨[98]⟩ : Txt), (⟨[99]⟩ : Txt)] : List Txt)[k]? = some y := ⟨_, List.getElem?_eq_getElem (by omega)⟩
  have eT := drop_at bi; have bS := List.mem_of_getElem? bi
  simp only [List.mem_cons, List.not_mem_nil, or_false] at bS
  obtain ⟨_, rfl, bj⟩ := E.elem k bh bi
  replace bj : Has aA ⟨O, 0 + k * Rep.sz Txt, none⟩ [vT bh.s] := by rw [Nat.zero_add]; exact bj
  refine .lh 0 bj <| .r 1 <| .d <| .s <| .g <| .r 1 <| .cl (c_spec_l6Rd_pick 2 bg (hD.toAll (.tail _ (.tail _ (.head _)))) (by omega) (w := aA) (F := all)) ?_
  rintro fj fk ⟨⟨d6, rfl, eU⟩, d7, eV, aI, bX⟩
  replace ⟨hD, J, E, C, Z⟩ := (so [O, r_out, b] bX).g5 hD J E C Z
  clear bX
  refine .eq d6 0 (fun dA => ?_) (fun dA => .d <| .cf <| .sk <| .ib 1 <| .g <| .it ((k : Int) + 1) <| .r 1 <| .d <| aH (out, r_out, n_out, c_out, k + 1, d7) _ _ ⟨by kernel_rfl, by kernel_rfl, by kernel_rfl, by kernel_rfl, by kernel_rfl, trivial⟩ ⟨Z, J, ak, aI, (by omega), (by omega), (by omega), (by omega)⟩ (by (simp only []; omega)))
  refine .d <| .ct <| .g <| .r 3 <| .ns 3 9 [.string (bs [112]), .string (bs [113]), .string (bs [122])] fun aL dB bk bY dC dD => ?_
  have dE := nb_new bk aI.lt
  replace ⟨hD, aI, J, E, C, Z⟩ := (sn [O, r_out, b] bY bk).g6 hD aI J E C Z
  clear bY dD bk
  have aU : Own (α := Txt) dB aL 9 (nin (ge w.heap.size) [aL, O, r_out, b]) 3 3 [(⟨[112]⟩ : Txt), (⟨[113]⟩ : Txt), (⟨[122]⟩ : Txt)] := Own.lit dC rfl (by decide) ⟨rfl, rfl, rfl, rfl⟩
  refine .cl (c_spec_l6Rd_of ([(⟨[112]⟩ : Txt), (⟨[113]⟩ : Txt), (⟨[122]⟩ : Txt)] : List Txt) aI (hD.toAll (.tail _ (.tail _ (.tail _ (.head _))))) (by omega) (aU.toAll (.tail _ (.tail _ (.tail _ (.head _)))) dE) (by simp) (w := dB) (F := all)) ?_
  rintro fl fm ⟨⟨co, rfl, eW⟩, d8, eX, ay, bZ⟩
  replace ⟨hD, J, E, aU, C, Z⟩ := (so [aL, O, r_out, b] bZ).g6 hD J E aU C Z
  clear bZ
  refine .r 1 <| .ns 1 112 [vT bh.s, vT co] fun dF fp az bm cp cq => ?_
  have cr := nb_new az ay.lt
  have bn := nb_new az J.lt
  have cu := nb_new az E.lt
  have cv := nb_new az aU.lt
  have cw := gb_new az C.size
  replace ⟨hD, ay, J, E, C, Z⟩ := (se [aL, O, r_out, b] bm).g6 hD ay J E C Z
  clear bm cq az
  have aY : nin (ge w.heap.size) [aL, O, r_out, b] dF ∧ dF ≠ r_out := hap_mk cw (all_cons cv (all_cons cu (all_cons bn (all_cons cr all_nil)))) bn
  refine RG.append1 (T := 31) (ty := 31) (y := (⟨bh.s, co⟩ : Tag)) J cp (by kernel_rfl) (by kernel_rfl) rfl aY (by omega) fun bo dG b0 ab aB bq => ?_
  have cx := orb_or aB ak Z.size
  replace ⟨hD, ay, E, C, Z⟩ := (sa [aL, O, r_out, b] bq aB).g5 hD ay E C Z
  clear bq
  replace ab := ab.rn r_out
  clear aB
  have d9 := ab.len; have ea := ab.max
  refine .r 1 <| .d <| .ib 1 <| .g <| .it ((k : Int) + 1) <| .r 1 <| .d ?_
  have cy : Mv [aL, O, bo, b] [O, bo, b] b0 b0 := Mv.less (all_cons (.tail _ (.head _)) (all_cons (.tail _ (.tail _ (.head _))) (all_cons (.tail _ (.tail _ (.tail _ (.head _)))) all_nil)))
  replace ⟨hD, ab, E⟩ := (sp cy (Chg.refl nil _)).g3 hD ab E
  exact aH ((out ++ [(⟨bh.s, co⟩ : Tag)]), bo, n_out + 1, dG, k + 1, d8) _ _ ⟨by kernel_rfl, by kernel_rfl, by kernel_rfl, by kernel_rfl, by kernel_rfl, trivial⟩ ⟨Z, ab, cx, ay, (by omega), (by omega), (by grind [TagD]), (by omega)⟩ (by (simp only []; omega))
 refine .d <| .s <| .cf <| .x 0 rfl <| .s <| .s <| .g <| .r 2 <| .eq (n_out : Int) 0 (fun cz => ?_) (fun cz => ?_)
 ·refine .d <| .ct <| .g <| .r 2 <| .cl (c_spec_l71Tag bg (hD.toAll (.tail _ (.tail _ (.head _)))) (by omega) (w := aA) (F := all)) ?_
  rintro eY eZ ⟨⟨am, ⟨_, rfl, rfl⟩, eb⟩, e0, ec, ac, br⟩
  replace ⟨hD, J, E, C⟩ := (so [O, r_out, b] br).g4 hD J E C
  clear br
  refine .ns 1 112 [vT am.key, vT am.val] fun b6 e7 ao bt cA cB => ?_
  have cC := nb_new ao ac.lt
  have bu := nb_new ao J.lt
  have cD := nb_new ao E.lt
  have cE := gb_new ao C.size
  replace ⟨hD, ac, J, E, C⟩ := (se [O, r_out, b] bt).g5 hD ac J E C
  clear bt cB ao
  have aZ : nin (ge w.heap.size) [O, r_out, b] b6 ∧ b6 ≠ r_out := hap_mk cE (all_cons cD (all_cons bu (all_cons cC all_nil))) bu
  refine RG.append1 (T := 31) (ty := 31) (y := am) J cA (by kernel_rfl) (by kernel_rfl) rfl aZ (by omega) fun W b7 dH V aa bv => ?_
  have cF := nb_or aa bU ac.lt
  have cG := nb_or aa bV E.lt
  have aM := gb_or aa aT C.size
  have ed := cov_or aa dw C.size
  replace ⟨hD, ac, E, C⟩ := (sa [O, r_out, b] bv aa).g4 hD ac E C
  clear bv
  replace V := V.rn r_out
  clear aa
  have ee := V.len; have ef := V.max
  refine .r 1 <| .d <| .s <| .s <| .g <| .r 1 <| .cl (c_spec_l6Rd_pick 40 ac (hD.toAll (.tail _ (.tail _ (.head _)))) (by omega) (w := dH) (F := all)) ?_
  rintro e8 b8 ⟨⟨b9, rfl, eg⟩, dI, eh, ai, bw⟩
  replace ⟨hD, V, E, C⟩ := (so [O, W, b] bw).g4 hD V E C
  clear bw
  refine .d <| .b 2 <| .s <| .g <| .eq b9 0 (fun cH => ?_) (fun cH => ?_)
  ·refine .r 1 <| .d <| .ct <| .s <| .g <| .r 2 <| .cl (c_spec_l71Tag ai (hD.toAll (.tail _ (.tail _ (.head _)))) (by omega) (w := b8) (F := all)) ?_
   rintro e9 fa ⟨⟨aV, ⟨_, rfl, rfl⟩, ei⟩, dJ, ej, ae, bz⟩
   replace ⟨hD, V, E, C⟩ := (so [O, W, b] bz).g4 hD V E C
   clear bz
   refine .ns 1 112 [vT aV.key, vT aV.val] fun ce fb aq bA cI cJ => ?_
   have cK := nb_new aq ae.lt
   have bB := nb_new aq V.lt
   have cL := nb_new aq E.lt
   have cM := gb_new aq C.size
   replace ⟨hD, ae, V, E, C⟩ := (se [O, W, b] bA).g5 hD ae V E C
   clear bA cJ aq
   have ba : nin (ge w.heap.size) [O, W, b] ce ∧ ce ≠ W := hap_mk cM (all_cons cL (all_cons bB (all_cons cK all_nil))) bB
   refine RG.append1 (T := 31) (ty := 31) (y := aV) V cI (by kernel_rfl) (by kernel_rfl) rfl ba (by omega) fun bC dK dL ar ag bD => ?_
   have ek := nb_or ag cF ae.lt
   have em := nb_or ag cG E.lt
   have cN := gb_or ag aM C.size
   replace ⟨hD, ae, E, C⟩ := (sa [O, W, b] bD ag).g4 hD ae E C
   clear bD
   replace ar := ar.rn W
   clear ag
   have en := ar.len; have eo := ar.max
   refine .r 1 <| .d ?_
   have dM := ar.sl cN
   replace ⟨hD, E⟩ := (sd dL [O, bC, b] bC).g2 hD E
   exact .rt Tryz.func102 Tryz.results102 (vS bC (n_out + 1 + 1) dK) ⟨⟨(((out ++ [am]) ++ [aV]) : List Tag), (dM.vl (by rfl) (fun _ _ h => h.1)), (by (refine ⟨by simp; omega, ?_⟩; grind [TagD]))⟩, dJ, by omega, ae, C⟩
  refine .r 1 <| .d <| .cf <| .s <| .g <| .eq b9 1 (fun cO => ?_) (fun cO => ?_)
  ·refine .r 1 <| .d <| .ct <| .g <| .r 2 <| .ns 3 9 [.string (bs []), .string (bs [111]), .string (bs [112, 112])] fun aJ cg aC bE cP cQ => ?_
   have cR := nb_new aC ai.lt
   have ep := nb_new aC V.lt
   replace ⟨hD, ai, V, E, C⟩ := (sn [O, W, b] bE aC).g5 hD ai V E C
   clear bE cQ aC
   have cS : Own (α := Txt) cg aJ 9 (nin (ge w.heap.size) [aJ, O, W, b]) 3 3 [(⟨[]⟩ : Txt), (⟨[111]⟩ : Txt), (⟨[112, 112]⟩ : Txt)] := Own.lit cP rfl (by decide) ⟨rfl, rfl, rfl, rfl⟩
   refine .cl (c_spec_l6Rd_of ([(⟨[]⟩ : Txt), (⟨[111]⟩ : Txt), (⟨[112, 112]⟩ : Txt)] : List Txt) ai (hD.toAll (.tail _ (.tail _ (.tail _ (.head _))))) (by omega) (cS.toAll (.tail _ (.tail _ (.tail _ (.head _)))) cR) (by simp) (w := cg) (F := all)) ?_
   rintro fc dN ⟨⟨bF, rfl, es⟩, dO, et, aN, bG⟩
   replace ⟨hD, V, E, C⟩ := (so [aJ, O, W, b] bG).g4 hD V E C
   clear bG
   have cT : 0 < n_out + 1 := (by omega)
   refine RG.idx (b := W) (o := 0) 0 (len := n_out + 1) (i := 0) (sz := 2) (by kernel_rfl) (by omega) cT rfl <| .r 1 ?_
   obtain ⟨au, aD⟩ : ∃ y, (out ++ [am])[0]? = some y := ⟨_, List.getElem?_eq_getElem (by omega)⟩
   have ew := drop_at aD; have dP := List.mem_of_getElem? aD
   obtain ⟨_, rfl, aO⟩ := V.elem 0 au aD
   replace aO : Has dN ⟨W, 0 + 0 * Rep.sz Tag, none⟩ [vT au.key, vT au.val] := by rw [Nat.zero_add]; exact aO
   refine RG.storeO (t' := 9) (i := 0) (k := 1) (v := vT bF) (cs := [vT au.key, vT au.val]) (⟨au.key, bF⟩ : Tag) V aD aO (by kernel_rfl) (by kernel_rfl) (by kernel_rfl) rfl fun dQ cU bH cV => ?_
   replace ⟨hD, aN, E, C⟩ := (so [aJ, O, W, b] bH).g4 hD aN E C
   clear bH cV
   refine .d <| .ib 2 <| .s <| .g <| .r 2 <| .d ?_
   have dR := cU.sl aM
   replace ⟨hD, E⟩ := (sd dQ [aJ, O, W, b] W).g2 hD E
   exact .rt Tryz.func102 Tryz.results102 (vS W (n_out + 1) b7) ⟨⟨(((out ++ [am]).set 0 (⟨au.key, bF⟩ : Tag)) : List Tag), (dR.vl (by rfl) (fun _ _ h => h.1)), (by (refine ⟨by simp; omega, ?_⟩; grind [TagD]))⟩, dO, by omega, aN, C⟩
  refine .r 1 <| .d <| .cf <| .sk <| .ib 2 <| .s <| .g <| .r 2 <| .d ?_
  have dS := V.sl aM
  replace ⟨hD, E⟩ := (sd b8 [O, W, b] W).g2 hD E
  exact .rt Tryz.func102 Tryz.results102 (vS W (n_out + 1) b7) ⟨⟨((out ++ [am]) : List Tag), (dS.vl (by rfl) (fun _ _ h => h.1)), (by (refine ⟨by simp; omega, ?_⟩; grind [TagD]))⟩, dI, by omega, ai, C⟩
 refine .d <| .cf <| .sk <| .s <| .s <| .g <| .r 1 <| .cl (c_spec_l6Rd_pick 40 bg (hD.toAll (.tail _ (.tail _ (.head _)))) (by omega) (w := aA) (F := all)) ?_
 rintro fd ci ⟨⟨cj, rfl, ex⟩, dT, ey, aj, bI⟩
 replace ⟨hD, J, E, C⟩ := (so [O, r_out, b] bI).g4 hD J E C
 clear bI
 refine .d <| .b 2 <| .s <| .g <| .eq cj 0 (fun cW => ?_) (fun cW => ?_)
 ·refine .r 1 <| .d <| .ct <| .s <| .g <| .r 2 <| .cl (c_spec_l71Tag aj (hD.toAll (.tail _ (.tail _ (.head _)))) (by omega) (w := ci) (F := all)) ?_
  rintro fe ff ⟨⟨aW, ⟨_, rfl, rfl⟩, ez⟩, dU, eA, af, bJ⟩
  replace ⟨hD, J, E, C⟩ := (so [O, r_out, b] bJ).g4 hD J E C
  clear bJ
  refine .ns 1 112 [vT aW.key, vT aW.val] fun ck fg av bK cX cY => ?_
  have cZ := nb_new av af.lt
  have bL := nb_new av J.lt
  have c7 := nb_new av E.lt
  have c8 := gb_new av C.size
  replace ⟨hD, af, J, E, C⟩ := (se [O, r_out, b] bK).g5 hD af J E C
  clear bK cY av
  have bc : nin (ge w.heap.size) [O, r_out, b] ck ∧ ck ≠ r_out := hap_mk c8 (all_cons c7 (all_cons bL (all_cons cZ all_nil))) bL
  refine RG.append1 (T := 31) (ty := 31) (y := aW) J cX (by kernel_rfl) (by kernel_rfl) rfl bc (by omega) fun bM dV dW aw ah bN => ?_
  have eB := nb_or ah bU af.lt
  have eC := nb_or ah bV E.lt
  have c9 := gb_or ah aT C.size
  replace ⟨hD, af, C⟩ := (sa [O, r_out, b] bN ah).g3 hD af C
  clear bN
  replace aw := aw.rn r_out
  clear ah
  have eD := aw.len; have eE := aw.max
  refine .r 1 <| .d ?_
  have dX := aw.sl c9
  replace hD := (sd dW [O, bM, b] bM).g1 hD
  exact .rt Tryz.func102 Tryz.results102 (vS bM (n_out + 1) dV) ⟨⟨((out ++ [aW]) : List Tag), (dX.vl (by rfl) (fun _ _ h => h.1)), (by (refine ⟨by simp; omega, ?_⟩; grind [TagD]))⟩, dU, by omega, af, C⟩
 refine .r 1 <| .d <| .cf <| .s <| .g <| .eq cj 1 (fun da => ?_) (fun da => ?_)
 ·refine .r 1 <| .d <| .ct <| .g <| .r 2 <| .ns 3 9 [.string (bs []), .string (bs [111]), .string (bs [112, 112])] fun aK cm aE bO db dd => ?_
  have de := nb_new aE aj.lt
  have eF := nb_new aE J.lt
  replace ⟨hD, aj, J, C⟩ := (sn [O, r_out, b] bO aE).g4 hD aj J C
  clear bO dd aE
  have df : Own (α := Txt) cm aK 9 (nin (ge w.heap.size) [aK, O, r_out, b]) 3 3 [(⟨[]⟩ : Txt), (⟨[111]⟩ : Txt), (⟨[112, 112]⟩ : Txt)] := Own.lit db rfl (by decide) ⟨rfl, rfl, rfl, rfl⟩
  refine .cl (c_spec_l6Rd_of ([(⟨[]⟩ : Txt), (⟨[111]⟩ : Txt), (⟨[112, 112]⟩ : Txt)] : List Txt) aj (hD.toAll (.tail _ (.tail _ (.tail _ (.head _))))) (by omega) (df.toAll (.tail _ (.tail _ (.tail _ (.head _)))) de) (by simp) (w := cm) (F := all)) ?_
  rintro fh dY ⟨⟨bP, rfl, eG⟩, dZ, eH, aP, bQ⟩
  replace ⟨hD, J, C⟩ := (so [aK, O, r_out, b] bQ).g3 hD J C
  clear bQ
  have dg : 0 < n_out := (by omega)
  refine RG.idx (b := r_out) (o := 0) 0 (len := n_out) (i := 0) (sz := 2) (by kernel_rfl) (by omega) dg rfl <| .r 1 ?_
  obtain ⟨ax, aF⟩ : ∃ y, out[0]? = some y := ⟨_, List.getElem?_eq_getElem (by omega)⟩
  have eI := drop_at aF; have d0 := List.mem_of_getElem? aF
  obtain ⟨_, rfl, aQ⟩ := J.elem 0 ax aF
  replace aQ : Has dY ⟨r_out, 0 + 0 * Rep.sz Tag, none⟩ [vT ax.key, vT ax.val] := by rw [Nat.zero_add]; exact aQ
  refine RG.storeO (t' := 9) (i := 0) (k := 1) (v := vT bP) (cs := [vT ax.key, vT ax.val]) (⟨ax.key, bP⟩ : Tag) J aF aQ (by kernel_rfl) (by kernel_rfl) (by kernel_rfl) rfl fun d3 dh bR di => ?_
  replace ⟨hD, aP, C⟩ := (so [aK, O, r_out, b] bR).g3 hD aP C
  clear bR di
  refine .d <| .ib 2 <| .s <| .g <| .r 2 <| .d ?_
  have d4 := dh.sl aT
  replace hD := (sd d3 [aK, O, r_out, b] r_out).g1 hD
  exact .rt Tryz.func102 Tryz.results102 (vS r_out n_out c_out) ⟨⟨((out.set 0 (⟨ax.key, bP⟩ : Tag)) : List Tag), (d4.vl (by rfl) (fun _ _ h => h.1)), (by (refine ⟨by simp; omega, ?_⟩; grind [TagD]))⟩, dZ, by omega, aP, C⟩
 refine .r 1 <| .d <| .cf <| .sk <| .ib 2 <| .s <| .g <| .r 2 <| .d ?_
 have d5 := J.sl aT
 replace hD := (sd ci [O, r_out, b] r_out).g1 hD
 exact .rt Tryz.func102 Tryz.results102 (vS r_out n_out c_out) ⟨⟨(out : List Tag), (d5.vl (by rfl) (fun _ _ h => h.1)), (by grind [NmD])⟩, dT, by omega, aj, C⟩
end Go.Proofs.YtfnpaglcnmcnbaaGreat
namespace Go.Proofs.YtfnpaglcnmcnbaaGreat
def b2sB (P : Program) (s d : TypeId) : Bool :=
 match P.underlying s, P.underlying d with
 | some (.slice e), some .string => (match P.underlying e with | some (.int .u8) => true | _ => false)
 | _, _ => false
theorem run_b2s1 {P : Program} {w : World} {r : Nat} {src dst : TypeId} {y : UInt8} {c : Nat} (h : Has w ⟨r, 0, none⟩ [.int .u8 (y.toNat : Int)]) (hb : b2sB P src dst = true) :
 (convert src dst (.slice (some ⟨r, 0, none⟩) 1 c)).run P w = .ok (.string (bs [y])) w := by
 unfold b2sB at hb
 split at hb
 ·rename_i e h1 h2
  split at hb
  ·rename_i h3
   have h4 := run_loadCellsFrom (P := P) ⟨r, 0, none⟩ [.int .u8 (y.toNat : Int)] 0 #[] _ rfl h
   have h5 : (loadCells ⟨r, 0, none⟩ 1).run P w = .ok #[.int .u8 (y.toNat : Int)] w := h4
   have h6 : (Conv.bytesToString (.slice (some ⟨r, 0, none⟩) 1 c)).run P w = .ok (.string (bs [y])) w := by
    unfold Conv.bytesToString
    simp only []
    rw [run_bind_ok h5]
    simp [go_sem]
    rfl
   unfold convert
   rw [run_bind_ok (run_underlying h1 w), run_bind_ok (run_underlying h2 w)]
   simp only []
   rw [run_bind_ok (run_underlying h3 w)]
   exact h6
  ·cases hb
 ·cases hb
def cvtAt (n : Nat) (ops : Array Oper) (j : Nat) (e : Env) : Option (TypeId × TypeId × Value) :=
 bif goAt n ops j e then
  match (opAt ops j).op with
  | .convert s d x => some (s, d, ev e x)
  | _ => none
 else none
theorem run_cvtAt {P : Program} {n : Nat} {ops : Array Oper} {j : Nat} {e : Env} {s d : TypeId} {a v : Value} {w : World} (h : cvtAt n ops j e = some (s, d, a))
 (hr : (convert s d a).run P w = .ok v w) : goAt n ops j e = true ∧ (execOp (ev e) (opAt ops j)).run P w = .ok (.value v) w := by
 obtain ⟨hg, h⟩ := goAt_of h
 refine ⟨hg, ?_⟩
 split at h
 ·rename_i s' d' x hop
  simp only [Option.some.injEq, Prod.mk.injEq] at h
  obtain ⟨rfl, rfl, rfl⟩ := h
  simp only [execOp, hop]
  exact run_bind_ok hr
 ·cases h
theorem GA.b2s {P : Program} {n m : Nat} {L : Env → World → Prop} {ops : Array Oper} {l : List Nat} {e : Env} {w : World} {i : Nat} {s d : TypeId} {r c : Nat} {y : UInt8} {t : TypeId} {F : Nat → Prop}
 (hb : gB n m ops l i = true) (ho : Own w r t F 1 c [y]) (h : cvtAt n ops i e = some (s, d, .slice (some ⟨r, 0, none⟩) 1 c)) (ht : b2sB P s d = true)
 (H : GA P nil n m L ops (i :: l) (putE e (opAt ops i).dst (.string (bs [y]))) w) : GA P nil n m L ops l e w := by
 obtain ⟨cs, h1, h2⟩ := ho.elem 0 y rfl
 cases h1
 have h3 : Has w ⟨r, 0, none⟩ [.int .u8 (y.toNat : Int)] := by simpa using h2
 have h4 := run_cvtAt (P := P) (w := w) h (run_b2s1 h3 ht)
 refine GA.det (by unfold gB at hb; rw [hb, h4.1]; rfl) (fun w1 hx => ?_) H
 exact (run_cvtAt (P := P) (w := w1) h (run_b2s1 (h3.ext hx) ht)).2
def cutL (at_ : UInt8) (out : List Txt) : List UInt8 → List Txt
 | [] => out
 | x :: xs => if x = at_ then cutL at_ (out ++ [⟨[]⟩]) xs else cutL at_ (out.set (out.length - 1) ⟨(out.getD (out.length - 1) ⟨[]⟩).s ++ [x]⟩) xs
def cutT (s : List UInt8) (at_ : UInt8) : List Txt := cutL at_ [⟨[]⟩] s
theorem cutStep1 {at_ : UInt8} {s : List UInt8} {i : Nat} {out : List Txt} {x : UInt8} {Y : List Txt} (h : cutL at_ out (s.drop i) = Y) (hd : s.drop i = x :: s.drop (i + 1)) (he : (x.toNat : Int) = (at_.toNat : Int)) : cutL at_ (out ++ [⟨[]⟩]) (s.drop (i + 1)) = Y := by
 have : x = at_ := UInt8.toNat_inj.1 (by omega)
 rw [hd] at h
 unfold cutL at h
 rw [if_pos this] at h
 exact h
theorem cutStep2 {at_ : UInt8} {s : List UInt8} {i : Nat} {out : List Txt} {x : UInt8} {Y : List Txt} {t : Txt} {k : Nat} (h : cutL at_ out (s.drop i) = Y) (hd : s.drop i = x :: s.drop (i + 1)) (he : (x.toNat : Int) ≠ (at_.toNat : Int)) (hk : k = out.length - 1) (ht : out[k]? = some t) : cutL at_ (out.set k ⟨t.s ++ [x]⟩) (s.drop (i + 1)) = Y := by
 have : x ≠ at_ := fun e => he (by rw [e])
 rw [hd] at h
 unfold cutL at h
 rw [if_neg this, List.getD_eq_getElem?_getD, ← hk, ht] at h
 exact h
theorem cutEnd {at_ : UInt8} {s : List UInt8} {i : Nat} {out : List Txt} {Y : List Txt} (h : cutL at_ out (s.drop i) = Y) (hi : s.length ≤ i) : out = Y := by
 rw [drop_end hi] at h
 exact h
def notW (s : Str) : Bool := decide (s.length = 4) && decide (s[1]? = some 33)
def restW (s : Str) : Str := if notW s then s.take 1 ++ s.drop 2 else s
def condR (s : Str) : Cnd × Bool :=
 if (restW s).length = 3 ∧ (restW s)[1]? = some 61 then (⟨⟨(restW s).take 1, (restW s).drop 2⟩, notW s⟩, tagOk ⟨(restW s).take 1, (restW s).drop 2⟩) else (⟨⟨[], []⟩, notW s⟩, false)
def filtF : List Cnd → List Txt → List Cnd × Bool
 | out, [] => (out, true)
 | out, t :: ts => if (condR t.s).2 = false ∨ out.length ≥ 3 then ([], false) else filtF (out ++ [(condR t.s).1]) ts
def filtR (s : Str) : List Cnd × Bool := if s = [42] then ([], true) else filtF [] (cutT s 44)
def nameL : List Tag → List Cnd → Option (List Tag)
 | out, [] => some out
 | out, c :: cs => if c.no then none else nameL (out ++ [c.tag]) cs
def nameR (s : Str) : List Tag := match nameL [] (filtR s).1 with
 | some out => if (filtR s).2 = true ∧ nameOk out = true then out else []
 | none => []
theorem notW_1 {w : Str} (h : (w.length : Int) ≠ 4) : notW w = false ∧ restW w = w := by
 have : notW w = false := by unfold notW; rw [decide_eq_false (by omega)]; rfl
 exact ⟨this, by unfold restW; rw [this]; rfl⟩
theorem notW_2 {w : Str} {y : UInt8} (h : (w.length : Int) = 4) (hy : w[1]? = some y) (h2 : (y.toNat : Int) ≠ 33) : notW w = false ∧ restW w = w := by
 have : notW w = false := by
  unfold notW
  rw [hy, decide_eq_false (p := some y = some 33), Bool.and_false]
  intro e
  cases e
  exact h2 rfl
 exact ⟨this, by unfold restW; rw [this]; rfl⟩
theorem notW_3 {w : Str} {y : UInt8} (h : (w.length : Int) = 4) (hy : w[1]? = some y) (h2 : (y.toNat : Int) = 33) : notW w = true ∧ restW w = ((w.take 1).drop 0) ++ ((w.take w.length).drop 2) := by
 have hy2 : y = 33 := UInt8.toNat_inj.1 (by show y.toNat = 33; omega)
 have : notW w = true := by
  unfold notW
  rw [hy, hy2, decide_eq_true (by omega)]
  rfl
 exact ⟨this, by unfold restW; rw [this]; simp⟩
theorem condR_no {w u : Str} {b : Bool} (h : notW w = b ∧ restW w = u) (h2 : (u.length : Int) ≠ 3 ∨ (∃ z, u[1]? = some z ∧ (z.toNat : Int) ≠ 61)) : condR w = (⟨⟨[], []⟩, b⟩, false) := by
 obtain ⟨rfl, rfl⟩ := h
 unfold condR
 rw [if_neg]
 rintro ⟨h3, h4⟩
 rcases h2 with h2 | ⟨z, h2, h5⟩
 ·omega
 ·rw [h2] at h4
  cases h4
  exact h5 rfl
theorem condR_yes {w u : Str} {b : Bool} {z : UInt8} (h : notW w = b ∧ restW w = u) (h1 : (u.length : Int) = 3) (h2 : u[1]? = some z) (h3 : (z.toNat : Int) = 61) :
 condR w = (⟨⟨(u.take 1).drop 0, (u.take u.length).drop 2⟩, b⟩, tagOk ⟨(u.take 1).drop 0, (u.take u.length).drop 2⟩) := by
 obtain ⟨rfl, rfl⟩ := h
 have hz : z = 61 := UInt8.toNat_inj.1 (by show z.toNat = 61; omega)
 unfold condR
 rw [if_pos ⟨by omega, by rw [h2, hz]⟩]
 simp
theorem cutLen {out : List Txt} {i k : Nat} {t : Txt} {y : UInt8} (h : ∀ t ∈ out, t.s.length ≤ i) (ht : out[k]? = some t) : ∀ t' ∈ out.set k ⟨t.s ++ [y]⟩, t'.s.length ≤ i + 1 := by
 intro t' ht'
 rcases List.mem_or_eq_of_mem_set ht' with ht' | rfl
 ·have := h t' ht'; omega
 ·have := h t (List.mem_of_getElem? ht)
  simp only [List.length_append, List.length_cons, List.length_nil]; omega
theorem cutLen1 {out : List Txt} {i : Nat} (h : ∀ t ∈ out, t.s.length ≤ i) : ∀ t' ∈ out ++ [⟨[]⟩], t'.s.length ≤ i + 1 := by
 intro t' ht'
 rcases List.mem_append.1 ht' with ht' | ht'
 ·have := h t' ht'; omega
 ·simp at ht'; subst ht'; simp
theorem cutL_len (a : UInt8) : ∀ (s : List UInt8) (out : List Txt) (i : Nat), (∀ t ∈ out, t.s.length ≤ i) → (∀ t ∈ cutL a out s, t.s.length ≤ i + s.length) ∧ (cutL a out s).length ≤ out.length + s.length := by
 intro s
 induction s with
 | nil => intro out i h; exact ⟨fun t ht => by have := h t ht; simpa using this, by unfold cutL; simp⟩
 | cons x xs ih =>
   intro out i h
   unfold cutL
   split
   ·obtain ⟨h1, h2⟩ := ih (out ++ [⟨[]⟩]) (i + 1) (cutLen1 h)
    refine ⟨fun t ht => ?_, ?_⟩
    ·have := h1 t ht; simp only [List.length_cons]; omega
    ·simp only [List.length_append, List.length_cons, List.length_nil] at h2 ⊢; omega
   ·have h3 : ∀ t ∈ out.set (out.length - 1) ⟨(out.getD (out.length - 1) ⟨[]⟩).s ++ [x]⟩, t.s.length ≤ i + 1 := by
     intro t ht
     rcases List.mem_or_eq_of_mem_set ht with ht | rfl
     ·have := h t ht; omega
     ·rw [List.getD_eq_getElem?_getD]
      cases hq : out[out.length - 1]? with
      | none => simp
      | some q => have := h q (List.mem_of_getElem? hq); simp; omega
    obtain ⟨h1, h2⟩ := ih _ (i + 1) h3
    refine ⟨fun t ht => ?_, ?_⟩
    ·have := h1 t ht; simp only [List.length_cons]; omega
    ·simp only [List.length_set, List.length_cons] at h2 ⊢; omega
theorem cutT_len (s : List UInt8) (a : UInt8) : (∀ t ∈ cutT s a, t.s.length ≤ s.length) ∧ (cutT s a).length ≤ s.length + 1 := by
 obtain ⟨h1, h2⟩ := cutL_len a s [⟨[]⟩] 0 (by simp)
 refine ⟨fun t ht => by have := h1 t ht; omega, ?_⟩
 unfold cutT
 simp only [List.length_cons, List.length_nil] at h2; omega
theorem filt_no {out : List Cnd} {ts : List Txt} {i : Nat} {t : Txt} {Y : List Cnd × Bool} (h : filtF out (ts.drop i) = Y) (hd : ts.drop i = t :: ts.drop (i + 1)) (h2 : (condR t.s).2 = false ∨ (out.length : Int) ≥ 3) : Y = ([], false) := by
 rw [hd] at h
 unfold filtF at h
 rw [if_pos (by rcases h2 with h2 | h2; exact .inl h2; exact .inr (by omega))] at h
 exact h.symm
theorem filtStep {out : List Cnd} {ts : List Txt} {i : Nat} {t : Txt} {Y : List Cnd × Bool} (h : filtF out (ts.drop i) = Y) (hd : ts.drop i = t :: ts.drop (i + 1)) (h2 : (condR t.s).2 = true) (h3 : ¬ (out.length : Int) ≥ 3) : filtF (out ++ [(condR t.s).1]) (ts.drop (i + 1)) = Y := by
 rw [hd] at h
 unfold filtF at h
 rw [if_neg (by rw [h2]; simp; omega)] at h
 exact h
theorem filtEnd {out : List Cnd} {ts : List Txt} {i : Nat} {Y : List Cnd × Bool} (h : filtF out (ts.drop i) = Y) (hi : ts.length ≤ i) : Y = (out, true) := by
 rw [drop_end hi] at h
 exact h.symm
theorem filtF_len : ∀ (ts : List Txt) (out : List Cnd), out.length ≤ 3 → (filtF out ts).1.length ≤ 3 := by
 intro ts
 induction ts with
 | nil => intro out h; exact h
 | cons t ts ih =>
   intro out h
   unfold filtF
   split
   ·simp
   ·rename_i h2
    refine ih _ ?_
    simp only [not_or] at h2
    simp only [List.length_append, List.length_cons, List.length_nil]; omega
theorem filtR_len (s : Str) : (filtR s).1.length ≤ 3 := by
 unfold filtR
 split
 ·simp
 ·exact filtF_len _ _ (by simp)
theorem filtR_star {s : Str} (h : (s == [42]) = true) : filtR s = ([], true) := by unfold filtR; rw [if_pos (by simpa using h)]
theorem filtR_rest {s : Str} (h : (s == [42]) = false) : filtF [] (cutT s 44) = filtR s := by unfold filtR; rw [if_neg (by simpa using h)]
theorem nameL_no {out : List Tag} {cs : List Cnd} {i : Nat} {c : Cnd} {Y : Option (List Tag)} (h : nameL out (cs.drop i) = Y) (hd : cs.drop i = c :: cs.drop (i + 1)) (h2 : c.no = true) : Y = none := by
 rw [hd] at h
 unfold nameL at h
 rw [if_pos h2] at h
 exact h.symm
theorem nameStep {out : List Tag} {cs : List Cnd} {i : Nat} {c : Cnd} {Y : Option (List Tag)} (h : nameL out (cs.drop i) = Y) (hd : cs.drop i = c :: cs.drop (i + 1)) (h2 : c.no = false) : nameL (out ++ [c.tag]) (cs.drop (i + 1)) = Y := by
 rw [hd] at h
 unfold nameL at h
 rw [if_neg (by rw [h2]; simp)] at h
 exact h
theorem nameR_no {s : Str} (h : nameL [] (filtR s).1 = none) : nameR s = [] := by unfold nameR; rw [h]
theorem nameR_end {s : Str} {out : List Tag} {i : Nat} (h : nameL out ((filtR s).1.drop i) = nameL [] (filtR s).1) (hi : (filtR s).1.length ≤ i) : nameR s = if (filtR s).2 = true ∧ nameOk out = true then out else [] := by
 rw [drop_end hi] at h
 unfold nameR
 rw [← h]
 rfl
theorem nameR_e1 {s : Str} {out : List Tag} {i : Nat} (h : nameL out ((filtR s).1.drop i) = nameL [] (filtR s).1) (hi : (filtR s).1.length ≤ i) (h2 : (filtR s).2 = false ∨ nameOk out = false) : nameR s = [] := by
 rw [nameR_end h hi, if_neg]
 rintro ⟨h3, h4⟩
 rcases h2 with h2 | h2
 ·rw [h2] at h3; cases h3
 ·rw [h2] at h4; cases h4
theorem nameR_e2 {s : Str} {out : List Tag} {i : Nat} (h : nameL out ((filtR s).1.drop i) = nameL [] (filtR s).1) (hi : (filtR s).1.length ≤ i) (h2 : (filtR s).2 = true) (h3 : nameOk out = true) : nameR s = out := by
 rw [nameR_end h hi, if_pos ⟨h2, h3⟩]
end Go.Proofs.YtfnpaglcnmcnbaaGreat
namespace Go.Proofs.YtfnpaglcnmcnbaaGreat
set_option maxRecDepth 100000
set_option maxHeartbeats 4000000
theorem c_spec_l3Cut (text_ : Str) (by_ : UInt8) {w : World} {F : Nat → Prop}  (p0 : text_.length ≤ 1000) : Calls Tryz.prog 182 [.string (bs text_), .int .u8 (by_.toNat : Int)].toArray w (rets fun rv w' => VL (ge w.heap.size) w' (cutT text_ by_ : List Txt) rv ∧ Ext w w') := by
 refine goT Tryz.func182 <| .s <| .g <| .r 1 <| .d <| .s <| .g <| .ns 1 9 [.string (bs [])] fun W ao af ar aG aH => ?_
 have aI := gb_new af (Nat.le_refl _)
 have aJ : Cov nil w W := cov_new af (Nat.le_refl _)
 have C := ar
 clear ar aH af
 have aK : Own (α := Txt) ao W 9 (nin (ge w.heap.size) [W]) 1 1 [(⟨[]⟩ : Txt)] := Own.lit aG rfl (by decide) ⟨rfl, rfl⟩
 refine .r 1 <| .d <| .s <| .s <| .g <| .r 1 <| .d <| .b 0 <| T.loop (X := (List Txt) × Nat × Nat × Nat × Nat) ((([(⟨[]⟩ : Txt)] : List Txt) : List Txt), W, 1, 1, 0) (fun (out, r_out, n_out, c_out, i) => [(0, vT text_), (1, .int .u8 (by_.toNat : Int)), (5, vS r_out n_out c_out), (6, vI (i : Int))]) (fun (out, r_out, n_out, c_out, i) aD => Chg (ins [W]) ao aD ∧ Own aD r_out 9 (nin (ge w.heap.size) [r_out]) n_out c_out out ∧ OrB r_out W ao.heap.size ∧ (i ≤ text_.length) ∧ (0 < out.length) ∧ (out.length ≤ i + 1) ∧ (∀ t ∈ out, t.s.length ≤ i) ∧ (cutL by_ out (text_.drop i) = cutT text_ by_)) (fun (out, r_out, n_out, c_out, i) => text_.length - i) (by kernel_rfl) ⟨by kernel_rfl, by kernel_rfl, by kernel_rfl, by kernel_rfl, trivial⟩ ⟨Chg.refl _ _, aK, orb_refl, (by simp), (by simp), (by simp), (by simp), (by rfl)⟩ ?_
 rintro ⟨out, r_out, n_out, c_out, i⟩ bC aD ⟨E, J, Z, bj, bk, bm, bn, bo⟩ aa
 have aL := gb_or' Z aI C.size
 have bq := cov_or' Z aJ C.size
 have aM : Cov (ins [W]) ao W := ⟨.inl (.head _)⟩
 have br := cov_or' Z aM (Nat.le_refl _)
 replace C := (si E).g1 C
 have bt := J.len; have bu := J.max
 refine .s <| .s <| .g <| .r 2 <| RG.eqv (v := vI (text_.length : Int)) (by kernel_rfl) (s_len text_) <| .bp ((i : Int) < (text_.length : Int)) (fun aN => ?_) (fun aN => ?_)
 ·refine .d <| .ct <| .sk <| .s <| .b 1 <| .s <| .g <| .r 2 ?_
  obtain ⟨O, ag⟩ : ∃ y, text_[i]? = some y := ⟨_, List.getElem?_eq_getElem (by omega)⟩
  have bv := UInt8.toNat_lt O; have bw := drop_at ag
  refine RG.sidx (t := 9) (s := text_) (k := .i64) (i := (i : Int)) i (by kernel_rfl) (by kernel_rfl) (by omega) ag <| .r 1 <| .eq (O.toNat : Int) (by_.toNat : Int) (fun aO => ?_) (fun aO => ?_)
  ·refine .d <| .ct <| .g <| .r 1 <| .ns 1 9 [.string (bs [])] fun aP bD ah au aQ aR => ?_
   have av := nb_new ah J.lt
   have aS := gb_new ah C.size
   replace ⟨J, C, E⟩ := (se [r_out] au).g3 J C E
   clear au aR ah
   have ai : nin (ge w.heap.size) [r_out] aP ∧ aP ≠ r_out := hap_mk aS (all_cons av all_nil) av
   refine RG.append1 (T := 126) (ty := 126) (y := (⟨[]⟩ : Txt)) J aQ (by kernel_rfl) (by kernel_rfl) rfl ai (by omega) fun bc bd bE ab aj aw => ?_
   have aT := orb_or aj Z E.size
   replace ⟨C, E⟩ := (s1 aw).g2 C E
   clear aw
   replace ab := ab.rn r_out
   clear aj
   have bz := ab.len; have bA := ab.max
   exact .r 1 <| .d <| .ib 1 <| .g <| .r 1 <| .it ((i : Int) + 1) <| .r 1 <| .d <| aa ((out ++ [(⟨[]⟩ : Txt)]), bc, n_out + 1, bd, i + 1) _ _ ⟨by kernel_rfl, by kernel_rfl, by kernel_rfl, by kernel_rfl, trivial⟩ ⟨E, ab, aT, (by omega), (by simp <;> omega), (by (simp <;> omega)), (by exact cutLen1 (by assumption)), (by exact cutStep1 (by assumption) (by assumption) (by assumption))⟩ (by (simp only []; omega))
  refine .d <| .cf <| .gd nil 16 fun bg ax => ?_
  replace ⟨J, C, E⟩ := (se [r_out] ax).g3 J C E
  clear ax
  refine .r [0, 1, 2] <| GA.int (i := 3) ((n_out : Int) - 1) (by kernel_rfl) (by omega) <| .r [4, 5, 6] <| GA.int (i := 7) ((n_out : Int) - 1) (by kernel_rfl) (by omega) ?_
  have aU : n_out - 1 < n_out := (by omega)
  refine GA.idx (i := 8) (b := r_out) (o := 0) (n_out - 1) (len := n_out) (z := (n_out : Int) - 1) (sz := 1) (by kernel_rfl) (by omega) aU rfl ?_
  obtain ⟨V, ac⟩ : ∃ y, out[n_out - 1]? = some y := ⟨_, List.getElem?_eq_getElem (by omega)⟩
  have bB := drop_at ac; have ba := List.mem_of_getElem? ac
  obtain ⟨_, rfl, ak⟩ := J.elem (n_out - 1) V ac
  replace ak : Has bg ⟨r_out, 0 + (n_out - 1) * Rep.sz Txt, none⟩ [vT V.s] := by rw [Nat.zero_add]; exact ak
  refine .lh 9 0 ak id <| .r [10, 11] <| GA.sidx (i := 12) (t := 9) (s := text_) (k := .i64) (z := (i : Int)) (by kernel_rfl) i (by kernel_rfl) (by kernel_rfl) (by omega) ag <| .go 13 <| .ns 1 5 [.int .u8 (O.toNat : Int)] fun bF ay => ?_
  replace ⟨J, C, E⟩ := (se [r_out] ay).g3 J C E
  clear ay
  intro aq bh az aA aV aW
  replace ⟨J, C, E⟩ := (sn [r_out] aA az).g3 J C E
  clear aA aW az
  have aX : Own (α := UInt8) bh aq 5 (nin (ge w.heap.size) [aq, r_out]) 1 1 [O] := Own.lit aV rfl (by decide) ⟨rfl, rfl⟩
  refine GA.b2s (i := 14) (s := 22) (d := 9) (y := O) (by kernel_rfl) aX (by kernel_rfl) (by kernel_rfl) <| GA.cat (i := 15) (t := 9) (s := V.s) (u := [O]) (by kernel_rfl) (by kernel_rfl) (by have q1 : ∀ t ∈ out, t.s.length ≤ i := (by assumption); have q2 := q1 _ (by assumption); simp only [List.length_cons, List.length_nil]; omega) <| .d fun bi aB => ?_
  replace ⟨J, C, E⟩ := (se [aq, r_out] aB).g3 J C E
  clear aB
  have aY : n_out - 1 < n_out := (by omega)
  refine RG.idx (b := r_out) (o := 0) (n_out - 1) (len := n_out) (i := (n_out : Int) - 1) (sz := 1) (by kernel_rfl) (by omega) aY rfl ?_
  obtain ⟨_, rfl, al⟩ := J.elem (n_out - 1) V ac
  replace al : Has bi ⟨r_out, 0 + (n_out - 1) * Rep.sz Txt, none⟩ [vT V.s] := by rw [Nat.zero_add]; exact al
  refine RG.storeO (t' := 9) (i := (n_out - 1)) (k := 0) (v := .string (bs (V.s ++ [O]))) (cs := [vT V.s]) (⟨(V.s ++ [O])⟩ : Txt) J ac al (by kernel_rfl) (by kernel_rfl) (by kernel_rfl) rfl fun aC ae am aE => ?_
  replace ⟨C, E⟩ := (s1 am).g2 C E
  clear am aE
  refine .d <| .ib 1 <| .g <| .r 1 <| .it ((i : Int) + 1) <| .r 1 <| .d ?_
  have aF : Mv [aq, r_out] [r_out] aC aC := Mv.less (all_cons (.tail _ (.head _)) all_nil)
  replace ae := (sp aF (Chg.refl nil _)).g1 ae
  exact aa ((out.set (n_out - 1) (⟨(V.s ++ [O])⟩ : Txt)), r_out, n_out, c_out, i + 1) _ _ ⟨by kernel_rfl, by kernel_rfl, by kernel_rfl, by kernel_rfl, trivial⟩ ⟨E, ae, Z, (by omega), (by simp <;> omega), (by (simp <;> omega)), (by exact cutLen (by assumption) (by assumption)), (by exact cutStep2 (by assumption) (by assumption) (by assumption) (by omega) (by assumption))⟩ (by (simp only []; omega))
 refine .d <| .cf <| .x 0 rfl <| .s <| .g <| .r 2 <| .d ?_
 have aZ := J.sl aL
 exact .rt Tryz.func182 Tryz.results182 (vS r_out n_out c_out) ⟨(aZ.vl (by exact cutEnd (by assumption) (by omega)) (fun _ _ h => h.1)), C⟩
theorem c_spec_l3Cond (w_ : Str) {w : World} {F : Nat → Prop}  (p0 : w_.length ≤ 1000) : Calls Tryz.prog 183 [.string (bs w_)].toArray w (rets fun rv w' => (∃ v0, rv = .tuple #[v0, .bool ((condR w_).2)] ∧ VS (ge w.heap.size) w' ((condR w_).1 : Cnd) v0) ∧ Ext w w') := by
 refine goT Tryz.func183 <| .s <| .g <| .np 124 [.string (bs []), .string (bs []), .bool false] fun bJ co ax ay E bh => ?_
 have bP : Cov nil w bJ := cov_new ax (Nat.le_refl _)
 have C := ay
 clear ay bh ax
 refine .r 1 <| .d <| .s <| .g <| .r 1 <| .np 124 [.string (bs []), .string (bs []), .bool false] fun cp cq aa az bi bj => ?_
 have bQ := nb_new aa E.lt
 have bR := C.cn aa
 replace ⟨E, C⟩ := (se [] az).g2 E C
 clear az bj aa
 refine .sc [.string (bs []), .string (bs []), .bool false] bi fun cr aA J bk => ?_
 replace ⟨E, C⟩ := (s1 aA).g2 E C
 clear aA bk
 refine .d <| .s <| .s <| .g <| .r 1 <| RG.eqv (v := vI (w_.length : Int)) (by kernel_rfl) (s_len w_) <| .eq (w_.length : Int) 4 (fun bm => ?_) (fun bm => ?_)
 ·refine .r 2 ?_
  obtain ⟨aP, ab⟩ : ∃ y, w_[1]? = some y := ⟨_, List.getElem?_eq_getElem (by omega)⟩
  have bS := UInt8.toNat_lt aP; have bT := drop_at ab
  refine RG.sidx (t := 9) (s := w_) (k := .i64) (i := 1) 1 (by kernel_rfl) (by kernel_rfl) (by omega) ab <| .eq (aP.toNat : Int) 33 (fun bn => ?_) (fun bn => ?_)
  ·refine .r 1 <| .d <| .ct <| .s <| .g <| .r 1 <| .ss 2 (.bool true) J fun cu aB O bo => ?_
   replace ⟨E, C⟩ := (s1 aB).g2 E C
   clear aB bo
   refine .d <| .gd nil 4 fun cv aC => ?_
   replace ⟨E, O, C⟩ := (se [] aC).g3 E O C
   clear aC
   refine .r [0] <| GA.ssub (i := 1) (t := 9) (lo := none) (hi := some (vI 1)) (s := w_) (by kernel_rfl) 0 1 (by kernel_rfl) (by kernel_rfl) (.inl ⟨rfl, rfl⟩) (.inr ⟨_, _, rfl, by omega⟩) (by omega) (by omega) <| .r [2] <| GA.ssub (i := 3) (t := 9) (lo := some (vI 2)) (hi := none) (s := w_) (by kernel_rfl) 2 w_.length (by kernel_rfl) (by kernel_rfl) (.inr ⟨_, _, rfl, by omega⟩) (.inl ⟨rfl, rfl⟩) (by omega) (by omega) <| .d fun cw aD => ?_
   replace ⟨E, O, C⟩ := (se [] aD).g3 E O C
   clear aD
   refine RG.cat (t := 9) (s := ((w_.take 1).drop 0)) (u := ((w_.take w_.length).drop 2)) (by kernel_rfl) (by simp; omega) <| .r 1 <| .d <| .s <| .s <| .g <| .r 1 <| RG.eqv (v := vI ((((w_.take 1).drop 0) ++ ((w_.take w_.length).drop 2)).length : Int)) (by kernel_rfl) (s_len (((w_.take 1).drop 0) ++ ((w_.take w_.length).drop 2))) <| .ne ((((w_.take 1).drop 0) ++ ((w_.take w_.length).drop 2)).length : Int) 3 (fun bq => ?_) (fun bq => ?_)
   ·refine .r 5 <| .d <| .ct <| .s <| .g <| .ln O <| .sc [.string (bs []), .string (bs []), .bool true] E fun cx aE br bt => ?_
    replace ⟨O, C⟩ := (s1 aE).g2 O C
    clear aE bt
    exact .r 1 <| .d <| .r2 Tryz.func183 Tryz.results183 (.bx br) (.t (.bool false)) ⟨⟨_, (tup2 rfl (congrArg Value.bool (by rw [condR_no (notW_3 (by assumption) (by assumption) (by assumption)) (.inl (by assumption))]))), (VS.of (y := (⟨(⟨[], []⟩ : Tag), true⟩ : Cnd)) ⟨_, rfl, rfl⟩ (by rw [condR_no (notW_3 (by assumption) (by assumption) (by assumption)) (.inl (by assumption))]))⟩, C⟩
   refine .r 2 ?_
   obtain ⟨bu, aF⟩ : ∃ y, (((w_.take 1).drop 0) ++ ((w_.take w_.length).drop 2))[1]? = some y := ⟨_, List.getElem?_eq_getElem (by omega)⟩
   have bU := UInt8.toNat_lt bu; have bV := drop_at aF
   refine RG.sidx (t := 9) (s := (((w_.take 1).drop 0) ++ ((w_.take w_.length).drop 2))) (k := .i64) (i := 1) 1 (by kernel_rfl) (by kernel_rfl) (by omega) aF <| .ne (bu.toNat : Int) 61 (fun bv => ?_) (fun bv => ?_)
   ·refine .r 1 <| .d <| .ct <| .s <| .g <| .ln O <| .sc [.string (bs []), .string (bs []), .bool true] E fun cy aG bw bz => ?_
    replace ⟨O, C⟩ := (s1 aG).g2 O C
    clear aG bz
    exact .r 1 <| .d <| .r2 Tryz.func183 Tryz.results183 (.bx bw) (.t (.bool false)) ⟨⟨_, (tup2 rfl (congrArg Value.bool (by rw [condR_no (notW_3 (by assumption) (by assumption) (by assumption)) (.inr ⟨_, by assumption, by assumption⟩)]))), (VS.of (y := (⟨(⟨[], []⟩ : Tag), true⟩ : Cnd)) ⟨_, rfl, rfl⟩ (by rw [condR_no (notW_3 (by assumption) (by assumption) (by assumption)) (.inr ⟨_, by assumption, by assumption⟩)]))⟩, C⟩
   refine .r 1 <| .d <| .cf <| .sk <| .s <| .gd nil 4 fun cz aH => ?_
   replace ⟨E, O, C⟩ := (se [] aH).g3 E O C
   clear aH
   refine .r [0] <| GA.ssub (i := 1) (t := 9) (lo := none) (hi := some (vI 1)) (s := (((w_.take 1).drop 0) ++ ((w_.take w_.length).drop 2))) (by kernel_rfl) 0 1 (by kernel_rfl) (by kernel_rfl) (.inl ⟨rfl, rfl⟩) (.inr ⟨_, _, rfl, by omega⟩) (by omega) (by omega) <| .r [2] <| GA.ssub (i := 3) (t := 9) (lo := some (vI 2)) (hi := none) (s := (((w_.take 1).drop 0) ++ ((w_.take w_.length).drop 2))) (by kernel_rfl) 2 ((((w_.take 1).drop 0) ++ ((w_.take w_.length).drop 2)).length) (by kernel_rfl) (by kernel_rfl) (.inr ⟨_, _, rfl, by omega⟩) (.inl ⟨rfl, rfl⟩) (by omega) (by omega) <| .d fun cA aI => ?_
   replace ⟨E, O, C⟩ := (se [] aI).g3 E O C
   clear aI
   refine .r 2 <| .sb 0 (.agg #[.string (bs (((((w_.take 1).drop 0) ++ ((w_.take w_.length).drop 2)).take 1).drop 0)), .string (bs (((((w_.take 1).drop 0) ++ ((w_.take w_.length).drop 2)).take ((((w_.take 1).drop 0) ++ ((w_.take w_.length).drop 2)).length)).drop 2))]) [.string (bs (((((w_.take 1).drop 0) ++ ((w_.take w_.length).drop 2)).take 1).drop 0)), .string (bs (((((w_.take 1).drop 0) ++ ((w_.take w_.length).drop 2)).take ((((w_.take 1).drop 0) ++ ((w_.take w_.length).drop 2)).length)).drop 2)), .bool true] O fun cB aJ Z bA => ?_
   replace ⟨E, C⟩ := (s1 aJ).g2 E C
   clear aJ bA
   refine .d <| .s <| .gd nil 4 fun cC aK => ?_
   replace ⟨E, Z, C⟩ := (se [] aK).g3 E Z C
   clear aK
   refine .ln 0 Z id <| .r [1] <| .ln 2 Z id <| GA.call1 (i := 3) (by kernel_rfl) (fun bK bW => c_spec_l3Tag (⟨(((((w_.take 1).drop 0) ++ ((w_.take w_.length).drop 2)).take 1).drop 0), (((((w_.take 1).drop 0) ++ ((w_.take w_.length).drop 2)).take ((((w_.take 1).drop 0) ++ ((w_.take w_.length).drop 2)).length)).drop 2)⟩ : Tag) (w := bK) (F := all)) <| .d fun cD aL => ?_
   replace ⟨E, C⟩ := (se [] aL).g2 E C
   clear aL
   refine .sc [.string (bs (((((w_.take 1).drop 0) ++ ((w_.take w_.length).drop 2)).take 1).drop 0)), .string (bs (((((w_.take 1).drop 0) ++ ((w_.take w_.length).drop 2)).take ((((w_.take 1).drop 0) ++ ((w_.take w_.length).drop 2)).length)).drop 2)), .bool true] E fun cE aM bB bC => ?_
   replace C := (s1 aM).g1 C
   clear aM bC
   exact .r 1 <| .d <| .r2 Tryz.func183 Tryz.results183 (.bx bB) (.t (.bool (tagOk (⟨(((((w_.take 1).drop 0) ++ ((w_.take w_.length).drop 2)).take 1).drop 0), (((((w_.take 1).drop 0) ++ ((w_.take w_.length).drop 2)).take ((((w_.take 1).drop 0) ++ ((w_.take w_.length).drop 2)).length)).drop 2)⟩ : Tag)))) ⟨⟨_, (tup2 rfl (congrArg Value.bool (by rw [condR_yes (notW_3 (by assumption) (by assumption) (by assumption)) (by assumption) (by assumption) (by assumption)]))), (VS.of (y := (⟨(⟨(((((w_.take 1).drop 0) ++ ((w_.take w_.length).drop 2)).take 1).drop 0), (((((w_.take 1).drop 0) ++ ((w_.take w_.length).drop 2)).take ((((w_.take 1).drop 0) ++ ((w_.take w_.length).drop 2)).length)).drop 2)⟩ : Tag), true⟩ : Cnd)) ⟨_, rfl, rfl⟩ (by rw [condR_yes (notW_3 (by assumption) (by assumption) (by assumption)) (by assumption) (by assumption) (by assumption)]))⟩, C⟩
  refine .r 1 <| .d <| .cf <| .sk <| .s <| .s <| .g <| .r 1 <| RG.eqv (v := vI (w_.length : Int)) (by kernel_rfl) (s_len w_) <| .ne (w_.length : Int) 3 (fun bD => ?_) (fun bD => ?_)
  ·refine .r 5 <| .d <| .ct <| .s <| .g <| .ln J <| .sc [.string (bs []), .string (bs []), .bool false] E fun cF aN bE bF => ?_
   replace ⟨J, C⟩ := (s1 aN).g2 J C
   clear aN bF
   exact .r 1 <| .d <| .r2 Tryz.func183 Tryz.results183 (.bx bE) (.t (.bool false)) ⟨⟨_, (tup2 rfl (congrArg Value.bool (by rw [condR_no (notW_2 (by assumption) (by assumption) (by assumption)) (.inl (by assumption))]))), (VS.of (y := (⟨(⟨[], []⟩ : Tag), false⟩ : Cnd)) ⟨_, rfl, rfl⟩ (by rw [condR_no (notW_2 (by assumption) (by assumption) (by assumption)) (.inl (by assumption))]))⟩, C⟩
  refine .r 2 <| RG.sidx (t := 9) (s := w_) (k := .i64) (i := 1) 1 (by kernel_rfl) (by kernel_rfl) (by omega) ab <| .ne (aP.toNat : Int) 61 (fun bG => ?_) (fun bG => ?_)
  ·refine .r 1 <| .d <| .ct <| .s <| .g <| .ln J <| .sc [.string (bs []), .string (bs []), .bool false] E fun bX ac aQ aR => ?_
   replace ⟨J, C⟩ := (s1 ac).g2 J C
   clear ac aR
   exact .r 1 <| .d <| .r2 Tryz.func183 Tryz.results183 (.bx aQ) (.t (.bool false)) ⟨⟨_, (tup2 rfl (congrArg Value.bool (by rw [condR_no (notW_2 (by assumption) (by assumption) (by assumption)) (.inr ⟨_, by assumption, by assumption⟩)]))), (VS.of (y := (⟨(⟨[], []⟩ : Tag), false⟩ : Cnd)) ⟨_, rfl, rfl⟩ (by rw [condR_no (notW_2 (by assumption) (by assumption) (by assumption)) (.inr ⟨_, by assumption, by assumption⟩)]))⟩, C⟩
  refine .r 1 <| .d <| .cf <| .sk <| .s <| .gd nil 4 fun bY ae => ?_
  replace ⟨E, J, C⟩ := (se [] ae).g3 E J C
  clear ae
  refine .r [0] <| GA.ssub (i := 1) (t := 9) (lo := none) (hi := some (vI 1)) (s := w_) (by kernel_rfl) 0 1 (by kernel_rfl) (by kernel_rfl) (.inl ⟨rfl, rfl⟩) (.inr ⟨_, _, rfl, by omega⟩) (by omega) (by omega) <| .r [2] <| GA.ssub (i := 3) (t := 9) (lo := some (vI 2)) (hi := none) (s := w_) (by kernel_rfl) 2 w_.length (by kernel_rfl) (by kernel_rfl) (.inr ⟨_, _, rfl, by omega⟩) (.inl ⟨rfl, rfl⟩) (by omega) (by omega) <| .d fun bZ af => ?_
  replace ⟨E, J, C⟩ := (se [] af).g3 E J C
  clear af
  refine .r 2 <| .sb 0 (.agg #[.string (bs ((w_.take 1).drop 0)), .string (bs ((w_.take w_.length).drop 2))]) [.string (bs ((w_.take 1).drop 0)), .string (bs ((w_.take w_.length).drop 2)), .bool false] J fun b0 ag V aS => ?_
  replace ⟨E, C⟩ := (s1 ag).g2 E C
  clear ag aS
  refine .d <| .s <| .gd nil 4 fun b6 ah => ?_
  replace ⟨E, V, C⟩ := (se [] ah).g3 E V C
  clear ah
  refine .ln 0 V id <| .r [1] <| .ln 2 V id <| GA.call1 (i := 3) (by kernel_rfl) (fun bH bL => c_spec_l3Tag (⟨((w_.take 1).drop 0), ((w_.take w_.length).drop 2)⟩ : Tag) (w := bH) (F := all)) <| .d fun b7 ai => ?_
  replace ⟨E, C⟩ := (se [] ai).g2 E C
  clear ai
  refine .sc [.string (bs ((w_.take 1).drop 0)), .string (bs ((w_.take w_.length).drop 2)), .bool false] E fun b8 aj aT aU => ?_
  replace C := (s1 aj).g1 C
  clear aj aU
  exact .r 1 <| .d <| .r2 Tryz.func183 Tryz.results183 (.bx aT) (.t (.bool (tagOk (⟨((w_.take 1).drop 0), ((w_.take w_.length).drop 2)⟩ : Tag)))) ⟨⟨_, (tup2 rfl (congrArg Value.bool (by rw [condR_yes (notW_2 (by assumption) (by assumption) (by assumption)) (by assumption) (by assumption) (by assumption)]))), (VS.of (y := (⟨(⟨((w_.take 1).drop 0), ((w_.take w_.length).drop 2)⟩ : Tag), false⟩ : Cnd)) ⟨_, rfl, rfl⟩ (by rw [condR_yes (notW_2 (by assumption) (by assumption) (by assumption)) (by assumption) (by assumption) (by assumption)]))⟩, C⟩
 refine .r 5 <| .d <| .cf <| .sk <| .s <| .s <| .g <| .r 1 <| RG.eqv (v := vI (w_.length : Int)) (by kernel_rfl) (s_len w_) <| .ne (w_.length : Int) 3 (fun aV => ?_) (fun aV => ?_)
 ·refine .r 5 <| .d <| .ct <| .s <| .g <| .ln J <| .sc [.string (bs []), .string (bs []), .bool false] E fun b9 ak aW aX => ?_
  replace ⟨J, C⟩ := (s1 ak).g2 J C
  clear ak aX
  exact .r 1 <| .d <| .r2 Tryz.func183 Tryz.results183 (.bx aW) (.t (.bool false)) ⟨⟨_, (tup2 rfl (congrArg Value.bool (by rw [condR_no (notW_1 (by assumption)) (.inl (by assumption))]))), (VS.of (y := (⟨(⟨[], []⟩ : Tag), false⟩ : Cnd)) ⟨_, rfl, rfl⟩ (by rw [condR_no (notW_1 (by assumption)) (.inl (by assumption))]))⟩, C⟩
 refine .r 2 ?_
 obtain ⟨aO, al⟩ : ∃ y, w_[1]? = some y := ⟨_, List.getElem?_eq_getElem (by omega)⟩
 have bM := UInt8.toNat_lt aO; have bN := drop_at al
 refine RG.sidx (t := 9) (s := w_) (k := .i64) (i := 1) 1 (by kernel_rfl) (by kernel_rfl) (by omega) al <| .ne (aO.toNat : Int) 61 (fun aY => ?_) (fun aY => ?_)
 ·refine .r 1 <| .d <| .ct <| .s <| .g <| .ln J <| .sc [.string (bs []), .string (bs []), .bool false] E fun cd am aZ ba => ?_
  replace ⟨J, C⟩ := (s1 am).g2 J C
  clear am ba
  exact .r 1 <| .d <| .r2 Tryz.func183 Tryz.results183 (.bx aZ) (.t (.bool false)) ⟨⟨_, (tup2 rfl (congrArg Value.bool (by rw [condR_no (notW_1 (by assumption)) (.inr ⟨_, by assumption, by assumption⟩)]))), (VS.of (y := (⟨(⟨[], []⟩ : Tag), false⟩ : Cnd)) ⟨_, rfl, rfl⟩ (by rw [condR_no (notW_1 (by assumption)) (.inr ⟨_, by assumption, by assumption⟩)]))⟩, C⟩
 refine .r 1 <| .d <| .cf <| .sk <| .s <| .gd nil 4 fun ce ao => ?_
 replace ⟨E, J, C⟩ := (se [] ao).g3 E J C
 clear ao
 refine .r [0] <| GA.ssub (i := 1) (t := 9) (lo := none) (hi := some (vI 1)) (s := w_) (by kernel_rfl) 0 1 (by kernel_rfl) (by kernel_rfl) (.inl ⟨rfl, rfl⟩) (.inr ⟨_, _, rfl, by omega⟩) (by omega) (by omega) <| .r [2] <| GA.ssub (i := 3) (t := 9) (lo := some (vI 2)) (hi := none) (s := w_) (by kernel_rfl) 2 w_.length (by kernel_rfl) (by kernel_rfl) (.inr ⟨_, _, rfl, by omega⟩) (.inl ⟨rfl, rfl⟩) (by omega) (by omega) <| .d fun cg aq => ?_
 replace ⟨E, J, C⟩ := (se [] aq).g3 E J C
 clear aq
 refine .r 2 <| .sb 0 (.agg #[.string (bs ((w_.take 1).drop 0)), .string (bs ((w_.take w_.length).drop 2))]) [.string (bs ((w_.take 1).drop 0)), .string (bs ((w_.take w_.length).drop 2)), .bool false] J fun ci ar W bc => ?_
 replace ⟨E, C⟩ := (s1 ar).g2 E C
 clear ar bc
 refine .d <| .s <| .gd nil 4 fun cj au => ?_
 replace ⟨E, W, C⟩ := (se [] au).g3 E W C
 clear au
 refine .ln 0 W id <| .r [1] <| .ln 2 W id <| GA.call1 (i := 3) (by kernel_rfl) (fun bI bO => c_spec_l3Tag (⟨((w_.take 1).drop 0), ((w_.take w_.length).drop 2)⟩ : Tag) (w := bI) (F := all)) <| .d fun ck av => ?_
 replace ⟨E, C⟩ := (se [] av).g2 E C
 clear av
 refine .sc [.string (bs ((w_.take 1).drop 0)), .string (bs ((w_.take w_.length).drop 2)), .bool false] E fun cm aw bd bg => ?_
 replace C := (s1 aw).g1 C
 clear aw bg
 exact .r 1 <| .d <| .r2 Tryz.func183 Tryz.results183 (.bx bd) (.t (.bool (tagOk (⟨((w_.take 1).drop 0), ((w_.take w_.length).drop 2)⟩ : Tag)))) ⟨⟨_, (tup2 rfl (congrArg Value.bool (by rw [condR_yes (notW_1 (by assumption)) (by assumption) (by assumption) (by assumption)]))), (VS.of (y := (⟨(⟨((w_.take 1).drop 0), ((w_.take w_.length).drop 2)⟩ : Tag), false⟩ : Cnd)) ⟨_, rfl, rfl⟩ (by rw [condR_yes (notW_1 (by assumption)) (by assumption) (by assumption) (by assumption)]))⟩, C⟩
theorem c_spec_FilterRead (text_ : Str) {w : World} {F : Nat → Prop}  (p0 : text_.length ≤ 1000) : Calls Tryz.prog 156 [.string (bs text_)].toArray w (rets fun rv w' => (∃ v0, rv = .tuple #[v0, .bool ((filtR text_).2)] ∧ VL (ge w.heap.size) w' ((filtR text_).1 : List Cnd) v0) ∧ Ext w w') := by
 refine goT Tryz.func156 <| .s <| .g <| .r 2 <| .d <| .s <| .g <| .ns 0 124 [] fun W aR ao aE bh bi => ?_
 have aF := gb_new ao (Nat.le_refl _)
 have bj : Cov nil w W := cov_new ao (Nat.le_refl _)
 have C := aE
 clear aE bi ao
 have ac : Own (α := Cnd) aR W 124 (nin (ge w.heap.size) [W]) 0 0 [] := Own.nil' bh
 refine .r 1 <| .d <| .s <| .s <| .g <| .r 1 <| RG.eqv (v := .bool ((text_ == [42]))) (by kernel_rfl) (s_eq text_ [42]) ?_
 cases bV : (text_ == [42])
 ·refine .d <| .cf <| .sk <| .s <| .g <| .r 1 <| .cl (c_spec_l3Cut text_ (44 : UInt8) (by omega) (w := aR) (F := all)) ?_
  rintro cp aC ⟨⟨bL, bM, rfl, aj⟩, aG⟩
  have aH := al1 ac.lt
  have bk : Gb w.heap.size aR.heap.size := C.size
  replace ⟨ac, C⟩ := (se [W] aG).g2 ac C
  clear aG
  have aj := aj.fr aH bk
  have bW := aj.max
  clear aH
  refine .r 1 <| .d <| .s <| .s <| .g <| .r 1 <| .d <| .b 0 <| T.loop (X := (List Cnd) × Nat × Nat × Nat × Nat) (([] : List Cnd), W, 0, 0, 0) (fun (out, r_out, n_out, c_out, i) => [(4, vS r_out n_out c_out), (5, .slice bL ((cutT text_ (44 : UInt8)).length) bM), (6, vI (i : Int))]) (fun (out, r_out, n_out, c_out, i) aq => Chg (ins [W]) aC aq ∧ Own aq r_out 124 (nin (ge w.heap.size) [r_out]) n_out c_out out ∧ OrB r_out W aC.heap.size ∧ (i ≤ (cutT text_ 44).length) ∧ (out.length ≤ i) ∧ (filtF out ((cutT text_ 44).drop i) = filtR text_)) (fun (out, r_out, n_out, c_out, i) => (cutT text_ 44).length - i) (by kernel_rfl) ⟨by kernel_rfl, by kernel_rfl, by kernel_rfl, trivial⟩ ⟨Chg.refl _ _, ac, orb_refl, (by (simp; done)), (by (simp; done)), (by exact filtR_rest (by assumption))⟩ ?_
  rintro ⟨out, r_out, n_out, c_out, i⟩ cq aq ⟨J, E, ae, bX, bY, bZ⟩ ar
  have bm := gb_or' ae aF C.size
  have b0 := cov_or' ae bj C.size
  have bn : Cov (ins [W]) aC W := ⟨.inl (.head _)⟩
  have b6 := cov_or' ae bn (Nat.le_refl _)
  have aI : Mv [W] [r_out] aC aq := Mv.inl J (all_cons (.head _) all_nil) (all_cons (orb_mem ae (.head _)) all_nil)
  replace ⟨aj, C⟩ := (sp aI J).g2 aj C
  clear aI
  have b7 := E.len; have b8 := E.max
  refine .s <| .s <| .g <| .r 3 <| .bp ((i : Int) < (((cutT text_ (44 : UInt8)).length) : Int)) (fun bo => ?_) (fun bo => ?_)
  ·refine .d <| .ct <| .sk <| .s <| .b 1 <| .s <| .g <| .r 2 ?_
   have bq : i < (cutT text_ (44 : UInt8)).length := (by omega)
   refine .ix i 1 aj bq ?_
   obtain ⟨O, au⟩ : ∃ y, (cutT text_ (44 : UInt8))[i]? = some y := ⟨_, List.getElem?_eq_getElem (by omega)⟩
   have b9 := drop_at au; have bK := List.mem_of_getElem? au
   obtain ⟨_, rfl, br⟩ := aj.elem i O au
   refine .lh 0 br <| .cl (c_spec_l3Cond O.s (by have q1 := (cutT_len text_ 44).1 _ (by assumption); omega) (w := aq) (F := all)) ?_
   rintro cu cv ⟨⟨cw, rfl, ⟨_, rfl, rfl⟩⟩, aJ⟩
   replace ⟨E, C, J⟩ := (se [r_out] aJ).g3 E C J
   clear aJ
   refine .r 2 ?_
   cases cd : (condR O.s).2
   ·refine .r 1 <| .np 124 [.string (bs []), .string (bs []), .bool false] fun aD cx af aK bt bu => ?_
    have ce := nb_new af E.lt
    have cg := C.cn af
    have ci := J.cn af
    replace ⟨E, C, J⟩ := (sn [r_out] aK af).g3 E C J
    clear aK bu af
    refine .sc [.string (bs ((((condR O.s).1).tag).key)), .string (bs ((((condR O.s).1).tag).val)), .bool (((condR O.s).1).no)] bt fun cy aL bv bw => ?_
    replace ⟨E, C, J⟩ := (so [aD, r_out] aL).g3 E C J
    clear aL bw
    refine .r 1 <| .d <| .s <| .s <| .g <| .r 7 <| .d <| .ct <| .s <| .g <| .ns 0 124 [] fun av bz ag aM bA bB => ?_
    have cj := nb_new ag E.lt
    have ck := nb_new ag bv.lt
    have bC := gb_new ag C.size
    replace ⟨E, C, J⟩ := (sn [aD, r_out] aM ag).g3 E C J
    clear aM bB ag
    have bD : Own (α := Cnd) bz av 124 (nin (ge w.heap.size) [av, aD, r_out]) 0 0 [] := Own.nil' bA
    refine .r 2 <| .d ?_
    have bN := bD.sl bC
    replace E := (sd bz [av, aD, r_out] av).g1 E
    exact .r2 Tryz.func156 Tryz.results156 (.t (vS av 0 0)) (.t (.bool false)) ⟨⟨_, (tup2 rfl (congrArg Value.bool (by rw [filt_no (Y := filtR text_) (by assumption) (by assumption) (.inl (by assumption))]))), (bN.vl (by rw [filt_no (Y := filtR text_) (by assumption) (by assumption) (.inl (by assumption))]) (fun _ _ h => h.1))⟩, C⟩
   refine .r 1 <| .np 124 [.string (bs []), .string (bs []), .bool false] fun ak cz ah aN bE bF => ?_
   have bO := nb_new ah E.lt
   have bP := C.cn ah
   have bQ := J.cn ah
   replace ⟨E, C, J⟩ := (sn [r_out] aN ah).g3 E C J
   clear aN bF ah
   refine .sc [.string (bs ((((condR O.s).1).tag).key)), .string (bs ((((condR O.s).1).tag).val)), .bool (((condR O.s).1).no)] bE fun cm aw Z aS => ?_
   replace ⟨E, C, J⟩ := (so [ak, r_out] aw).g3 E C J
   clear aw aS
   refine .r 1 <| .d <| .s <| .s <| .g <| .r 5 <| .bp ((n_out : Int) ≥ 3) (fun aT => ?_) (fun aT => ?_)
   ·refine .r 1 <| .d <| .ct <| .s <| .g <| .ns 0 124 [] fun ai aO aa ax aU aV => ?_
    have bR := nb_new aa E.lt
    have bS := nb_new aa Z.lt
    have aW := gb_new aa C.size
    replace ⟨E, Z, C, J⟩ := (sn [ak, r_out] ax aa).g4 E Z C J
    clear ax aV aa
    have aX : Own (α := Cnd) aO ai 124 (nin (ge w.heap.size) [ai, ak, r_out]) 0 0 [] := Own.nil' aU
    refine .r 2 <| .d ?_
    have bG := aX.sl aW
    replace E := (sd aO [ai, ak, r_out] ai).g1 E
    exact .r2 Tryz.func156 Tryz.results156 (.t (vS ai 0 0)) (.t (.bool false)) ⟨⟨_, (tup2 rfl (congrArg Value.bool (by rw [filt_no (Y := filtR text_) (by assumption) (by assumption) (.inr (by omega))]))), (bG.vl (by rw [filt_no (Y := filtR text_) (by assumption) (by assumption) (.inr (by omega))]) (fun _ _ h => h.1))⟩, C⟩
   refine .r 1 <| .d <| .cf <| .sk <| .g <| .r 1 <| .ln Z <| .ns 1 124 [.string (bs ((((condR O.s).1).tag).key)), .string (bs ((((condR O.s).1).tag).val)), .bool (((condR O.s).1).no)] fun aP co ab ay aY aZ => ?_
   have az := nb_new ab E.lt
   have ba := nb_new ab Z.lt
   have bc := gb_new ab C.size
   replace ⟨E, C, J⟩ := (se [ak, r_out] ay).g3 E C J
   clear ay aZ ab
   have am : nin (ge w.heap.size) [ak, r_out] aP ∧ aP ≠ r_out := hap_mk bc (all_cons ba (all_cons az all_nil)) az
   refine RG.append1 (T := 58) (ty := 58) (y := (⟨(⟨(((condR O.s).1).tag).key, (((condR O.s).1).tag).val⟩ : Tag), ((condR O.s).1).no⟩ : Cnd)) E aY (by kernel_rfl) (by kernel_rfl) rfl am (by have q1 := (cutT_len text_ 44).2; omega) fun aA bH aQ V al aB => ?_
   have bd := orb_or al ae J.size
   replace ⟨C, J⟩ := (s1 aB).g2 C J
   clear aB
   replace V := V.rn r_out
   clear al
   have bT := V.len; have bU := V.max
   refine .r 1 <| .d <| .ib 1 <| .g <| .r 1 <| .it ((i : Int) + 1) <| .r 1 <| .d ?_
   have bg : Mv [ak, aA] [aA] aQ aQ := Mv.less (all_cons (.tail _ (.head _)) all_nil)
   replace V := (sp bg (Chg.refl nil _)).g1 V
   exact ar ((out ++ [(⟨(⟨(((condR O.s).1).tag).key, (((condR O.s).1).tag).val⟩ : Tag), ((condR O.s).1).no⟩ : Cnd)]), aA, n_out + 1, bH, i + 1) _ _ ⟨by kernel_rfl, by kernel_rfl, by kernel_rfl, trivial⟩ ⟨J, V, bd, (by omega), (by simp; omega), (by exact filtStep (by assumption) (by assumption) (by assumption) (by omega))⟩ (by (simp only []; omega))
  refine .d <| .cf <| .x 0 rfl <| .s <| .g <| .r 3 <| .d ?_
  have bI := E.sl bm
  exact .r2 Tryz.func156 Tryz.results156 (.t (vS r_out n_out c_out)) (.t (.bool true)) ⟨⟨_, (tup2 rfl (congrArg Value.bool (by rw [filtEnd (Y := filtR text_) (by assumption) (by omega)]))), (bI.vl (by rw [filtEnd (Y := filtR text_) (by assumption) (by omega)]) (fun _ _ h => h.1))⟩, C⟩
 refine .d <| .ct <| .s <| .g <| .r 3 <| .d ?_
 have bJ := ac.sl aF
 exact .r2 Tryz.func156 Tryz.results156 (.t (vS W 0 0)) (.t (.bool true)) ⟨⟨_, (tup2 rfl (congrArg Value.bool (by rw [filtR_star (by assumption)]))), (bJ.vl (by rw [filtR_star (by assumption)]) (fun _ _ h => h.1))⟩, C⟩
theorem c_spec_NameRead (text_ : Str) {w : World} {F : Nat → Prop}  (p0 : text_.length ≤ 1000) : Calls Tryz.prog 103 [.string (bs text_)].toArray w (rets fun rv w' => (∃ (y : Bool), (∃ v0, rv = .tuple #[v0, .bool (y)] ∧ VL (ge w.heap.size) w' (nameR text_ : List Tag) v0) ∧ True) ∧ Ext w w') := by
 refine goT Tryz.func103 <| .s <| .g <| .r 2 <| .d <| .s <| .g <| .r 1 <| .cl (c_spec_FilterRead text_ (by omega) (w := w) (F := all)) ?_
 rintro dg dh ⟨⟨di, rfl, ⟨bP, bQ, rfl, J⟩⟩, aU⟩
 have aV : ∀ q_ ∈ ([] : List Nat), q_ < w.heap.size := all_nil
 have bR : Gb w.heap.size w.heap.size := (Nat.le_refl _)
 have C := aU
 clear aU
 have J := J.fr aV bR
 have cP := J.max
 clear aV
 refine .r 2 ?_
 cases cQ : (filtR text_).2
 ·refine .r 3 <| .d <| .s <| .g <| .ns 0 112 [] fun ai aB aC aW bS bT => ?_
  have bU := C.cn aC
  replace ⟨J, C⟩ := (sn [] aW aC).g2 J C
  clear aW bT aC
  have bV : Own (α := Tag) aB ai 112 (nin (ge w.heap.size) [ai]) 0 0 [] := Own.nil' bS
  refine .r 1 <| .d <| .s <| .s <| .g <| .r 1 <| .d <| .b 0 <| T.loop (X := (List Tag) × Nat × Nat × Nat × Nat) (([] : List Tag), ai, 0, 0, 0) (fun (out, r_out, n_out, c_out, i) => [(4, .slice bP (((filtR text_).1).length) bQ), (5, .bool false), (6, vS r_out n_out c_out), (7, vI (i : Int))]) (fun (out, r_out, n_out, c_out, i) aT => Chg (ins [ai]) aB aT ∧ Own aT r_out 112 (nin (ge w.heap.size) [r_out]) n_out c_out out ∧ OrB r_out ai aB.heap.size ∧ (i ≤ (filtR text_).1.length) ∧ (out.length ≤ i) ∧ (nameL out ((filtR text_).1.drop i) = nameL [] (filtR text_).1)) (fun (out, r_out, n_out, c_out, i) => (filtR text_).1.length - i) (by kernel_rfl) ⟨by kernel_rfl, by kernel_rfl, by kernel_rfl, by kernel_rfl, trivial⟩ ⟨Chg.refl _ _, bV, orb_refl, (by simp), (by simp), (by simp)⟩ ?_
  rintro ⟨out, r_out, n_out, c_out, i⟩ dj aT ⟨W, O, av, cR, cS, cT⟩ aD
  have cU := cov_or' av bU C.size
  have bW : Cov (ins [ai]) aB ai := ⟨.inl (.head _)⟩
  have cV := cov_or' av bW (Nat.le_refl _)
  have aX : Mv [ai] [r_out] aB aT := Mv.inl W (all_cons (.head _) all_nil) (all_cons (orb_mem av (.head _)) all_nil)
  replace ⟨J, C⟩ := (sp aX W).g2 J C
  clear aX
  have cW := O.len; have cX := O.max
  refine .s <| .s <| .g <| .r 3 <| .bp ((i : Int) < ((((filtR text_).1).length) : Int)) (fun bX => ?_) (fun bX => ?_)
  ·refine .d <| .ct <| .sk <| .s <| .b 1 <| .s <| .s <| .g <| .r 2 ?_
   have bY : i < ((filtR text_).1).length := (by omega)
   refine .ix i 3 J bY <| .r 1 ?_
   obtain ⟨ay, aE⟩ : ∃ y, ((filtR text_).1)[i]? = some y := ⟨_, List.getElem?_eq_getElem (by omega)⟩
   have cY := drop_at aE; have cv := List.mem_of_getElem? aE
   obtain ⟨_, rfl, aY⟩ := J.elem i ay aE
   refine .lh 2 aY <| .d ?_
   cases cZ : ay.no
   ·refine .cf <| .sk <| .g <| .r 3 ?_
    have bZ : i < ((filtR text_).1).length := (by omega)
    refine .ix i 3 J bZ <| .r 1 <| .lg 0 aY <| .ns 1 112 [vT ay.tag.key, vT ay.tag.val] fun b0 dk aF aZ b6 b7 => ?_
    have ba := nb_new aF O.lt
    have b8 := gb_new aF C.size
    replace ⟨J, O, C, W⟩ := (se [r_out] aZ).g4 J O C W
    clear aZ b7 aF
    have aG : nin (ge w.heap.size) [r_out] b0 ∧ b0 ≠ r_out := hap_mk b8 (all_cons ba all_nil) ba
    refine RG.append1 (T := 31) (ty := 31) (y := ay.tag) O b6 (by kernel_rfl) (by kernel_rfl) rfl aG (by have q1 := filtR_len text_; omega) fun cx cy dm aj aq bc => ?_
    have b9 := orb_or aq av W.size
    replace ⟨J, C, W⟩ := (sa [r_out] bc aq).g3 J C W
    clear bc
    replace aj := aj.rn r_out
    clear aq
    have c7 := aj.len; have c8 := aj.max
    exact .r 1 <| .d <| .ib 1 <| .g <| .r 1 <| RG.int ((i : Int) + 1) (by kernel_rfl) (by have q1 := filtR_len text_; omega) <| .r 1 <| .d <| aD ((out ++ [ay.tag]), cx, n_out + 1, cy, i + 1) _ _ ⟨by kernel_rfl, by kernel_rfl, by kernel_rfl, by kernel_rfl, trivial⟩ ⟨W, aj, b9, (by omega), (by simp; omega), (by exact nameStep (by assumption) (by assumption) (by assumption))⟩ (by (simp only []; omega))
   refine .ct <| .s <| .g <| .ns 0 112 [] fun aH cd aw bd ce cg => ?_
   have c9 := nb_new aw O.lt
   have ci := gb_new aw C.size
   replace ⟨J, O, C⟩ := (sn [r_out] bd aw).g3 J O C
   clear bd cg aw
   have cj : Own (α := Tag) cd aH 112 (nin (ge w.heap.size) [aH, r_out]) 0 0 [] := Own.nil' ce
   refine .r 2 <| .d ?_
   have cz := cj.sl ci
   replace ⟨J, O⟩ := (sd cd [aH, r_out] aH).g2 J O
   exact .r2 Tryz.func103 Tryz.results103 (.t (vS aH 0 0)) (.t (.bool false)) ⟨⟨(false : Bool), ⟨_, (tup2 rfl (congrArg Value.bool (by rfl))), (cz.vl (by rw [nameR_no (nameL_no (Y := nameL [] (filtR text_).1) (by assumption) (by assumption) (by assumption))]) (fun _ _ h => h.1))⟩, (by trivial)⟩, C⟩
  refine .d <| .cf <| .x 0 rfl <| .s <| .s <| .g <| .r 7 <| .d <| .ct <| .s <| .g <| .ns 0 112 [] fun aI bg ae aJ bk bm => ?_
  have cA := nb_new ae O.lt
  have bn := gb_new ae C.size
  replace ⟨J, C⟩ := (sn [r_out] aJ ae).g2 J C
  clear aJ bm ae
  have bo : Own (α := Tag) bg aI 112 (nin (ge w.heap.size) [aI, r_out]) 0 0 [] := Own.nil' bk
  refine .r 2 <| .d ?_
  have ck := bo.sl bn
  replace J := (sd bg [aI, r_out] aI).g1 J
  exact .r2 Tryz.func103 Tryz.results103 (.t (vS aI 0 0)) (.t (.bool false)) ⟨⟨(false : Bool), ⟨_, (tup2 rfl (congrArg Value.bool (by rfl))), (ck.vl (by rw [nameR_e1 (by assumption) (by omega) (.inl (by assumption))]) (fun _ _ h => h.1))⟩, (by trivial)⟩, C⟩
 refine .r 3 <| .d <| .s <| .g <| .ns 0 112 [] fun Z ak af aK bq br => ?_
 have bt := gb_new af C.size
 have bu := C.cn af
 replace ⟨J, C⟩ := (sn [] aK af).g2 J C
 clear aK br af
 have bv : Own (α := Tag) ak Z 112 (nin (ge w.heap.size) [Z]) 0 0 [] := Own.nil' bq
 refine .r 1 <| .d <| .s <| .s <| .g <| .r 1 <| .d <| .b 0 <| T.loop (X := (List Tag) × Nat × Nat × Nat × Nat) (([] : List Tag), Z, 0, 0, 0) (fun (out, r_out, n_out, c_out, i) => [(4, .slice bP (((filtR text_).1).length) bQ), (5, .bool true), (6, vS r_out n_out c_out), (7, vI (i : Int))]) (fun (out, r_out, n_out, c_out, i) al => Chg (ins [Z]) ak al ∧ Own al r_out 112 (nin (ge w.heap.size) [r_out]) n_out c_out out ∧ OrB r_out Z ak.heap.size ∧ (i ≤ (filtR text_).1.length) ∧ (out.length ≤ i) ∧ (nameL out ((filtR text_).1.drop i) = nameL [] (filtR text_).1)) (fun (out, r_out, n_out, c_out, i) => (filtR text_).1.length - i) (by kernel_rfl) ⟨by kernel_rfl, by kernel_rfl, by kernel_rfl, by kernel_rfl, trivial⟩ ⟨Chg.refl _ _, bv, orb_refl, (by simp), (by simp), (by simp)⟩ ?_
 rintro ⟨out, r_out, n_out, c_out, i⟩ da al ⟨V, E, aa, cB, cC, cD⟩ az
 have bw := gb_or' aa bt C.size
 have cE := cov_or' aa bu C.size
 have bz : Cov (ins [Z]) ak Z := ⟨.inl (.head _)⟩
 have cF := cov_or' aa bz (Nat.le_refl _)
 have aL : Mv [Z] [r_out] ak al := Mv.inl V (all_cons (.head _) all_nil) (all_cons (orb_mem aa (.head _)) all_nil)
 replace ⟨J, C⟩ := (sp aL V).g2 J C
 clear aL
 have cG := E.len; have cH := E.max
 refine .s <| .s <| .g <| .r 3 <| .bp ((i : Int) < ((((filtR text_).1).length) : Int)) (fun bA => ?_) (fun bA => ?_)
 ·refine .d <| .ct <| .sk <| .s <| .b 1 <| .s <| .s <| .g <| .r 2 ?_
  have bB : i < ((filtR text_).1).length := (by omega)
  refine .ix i 3 J bB <| .r 1 ?_
  obtain ⟨ac, ar⟩ : ∃ y, ((filtR text_).1)[i]? = some y := ⟨_, List.getElem?_eq_getElem (by omega)⟩
  have cI := drop_at ar; have cm := List.mem_of_getElem? ar
  obtain ⟨_, rfl, aM⟩ := J.elem i ac ar
  refine .lh 2 aM <| .d ?_
  cases cJ : ac.no
  ·refine .cf <| .sk <| .g <| .r 3 ?_
   have bC : i < ((filtR text_).1).length := (by omega)
   refine .ix i 3 J bC <| .r 1 <| .lg 0 aM <| .ns 1 112 [vT ac.tag.key, vT ac.tag.val] fun bh db au aN bD bE => ?_
   have aO := nb_new au E.lt
   have bF := gb_new au C.size
   replace ⟨E, C, V⟩ := (se [r_out] aN).g3 E C V
   clear aN bE au
   have aA : nin (ge w.heap.size) [r_out] bh ∧ bh ≠ r_out := hap_mk bF (all_cons aO all_nil) aO
   refine RG.append1 (T := 31) (ty := 31) (y := ac.tag) E bD (by kernel_rfl) (by kernel_rfl) rfl aA (by have q1 := filtR_len text_; omega) fun co cp dd ab ax aP => ?_
   have bG := orb_or ax aa V.size
   replace ⟨C, V⟩ := (s1 aP).g2 C V
   clear aP
   replace ab := ab.rn r_out
   clear ax
   have cK := ab.len; have cL := ab.max
   exact .r 1 <| .d <| .ib 1 <| .g <| .r 1 <| RG.int ((i : Int) + 1) (by kernel_rfl) (by have q1 := filtR_len text_; omega) <| .r 1 <| .d <| az ((out ++ [ac.tag]), co, n_out + 1, cp, i + 1) _ _ ⟨by kernel_rfl, by kernel_rfl, by kernel_rfl, by kernel_rfl, trivial⟩ ⟨V, ab, bG, (by omega), (by simp; omega), (by exact nameStep (by assumption) (by assumption) (by assumption))⟩ (by (simp only []; omega))
  refine .ct <| .s <| .g <| .ns 0 112 [] fun am bi ag aQ bH bI => ?_
  have cM := nb_new ag E.lt
  have bJ := gb_new ag C.size
  replace ⟨E, C⟩ := (sn [r_out] aQ ag).g2 E C
  clear aQ bI ag
  have bK : Own (α := Tag) bi am 112 (nin (ge w.heap.size) [am, r_out]) 0 0 [] := Own.nil' bH
  refine .r 2 <| .d ?_
  have cq := bK.sl bJ
  replace E := (sd bi [am, r_out] am).g1 E
  exact .r2 Tryz.func103 Tryz.results103 (.t (vS am 0 0)) (.t (.bool false)) ⟨⟨(false : Bool), ⟨_, (tup2 rfl (congrArg Value.bool (by rfl))), (cq.vl (by rw [nameR_no (nameL_no (Y := nameL [] (filtR text_).1) (by assumption) (by assumption) (by assumption))]) (fun _ _ h => h.1))⟩, (by trivial)⟩, C⟩
 refine .d <| .cf <| .x 0 rfl <| .s <| .s <| .g <| .r 4 <| .cl (c_spec_NameOk out (E.rep) (w := al) (F := all)) ?_
 rintro de df ⟨rfl, aR⟩
 replace ⟨E, C⟩ := (se [r_out] aR).g2 E C
 clear aR
 cases cN : (nameOk out)
 ·refine .r 2 <| .d <| .ct <| .s <| .g <| .ns 0 112 [] fun ao bj ah aS bL bM => ?_
  have cO := nb_new ah E.lt
  have bN := gb_new ah C.size
  replace ⟨E, C⟩ := (sn [r_out] aS ah).g2 E C
  clear aS bM ah
  have bO : Own (α := Tag) bj ao 112 (nin (ge w.heap.size) [ao, r_out]) 0 0 [] := Own.nil' bL
  refine .r 2 <| .d ?_
  have cr := bO.sl bN
  replace E := (sd bj [ao, r_out] ao).g1 E
  exact .r2 Tryz.func103 Tryz.results103 (.t (vS ao 0 0)) (.t (.bool false)) ⟨⟨(false : Bool), ⟨_, (tup2 rfl (congrArg Value.bool (by rfl))), (cr.vl (by rw [nameR_e1 (by assumption) (by omega) (.inr (by assumption))]) (fun _ _ h => h.1))⟩, (by trivial)⟩, C⟩
 refine .r 2 <| .d <| .cf <| .sk <| .s <| .g <| .r 3 <| .d ?_
 have cu := E.sl bw
 exact .r2 Tryz.func103 Tryz.results103 (.t (vS r_out n_out c_out)) (.t (.bool true)) ⟨⟨(true : Bool), ⟨_, (tup2 rfl (congrArg Value.bool (by rfl))), (cu.vl (by rw [nameR_e2 (by assumption) (by omega) (by assumption) (by assumption)]) (fun _ _ h => h.1))⟩, (by trivial)⟩, C⟩
end Go.Proofs.YtfnpaglcnmcnbaaGreat
namespace Go.Proofs.YtfnpaglcnmcnbaaGreat
theorem NmD.sz {n : List Tag} (h : NmD n) : NmSz n := ⟨by have := h.1; omega, fun t ht => by
 obtain ⟨h1, h2⟩ := h.2 t ht
 simp only [List.mem_cons, List.not_mem_nil, or_false] at h1 h2
 constructor
 ·rcases h1 with h1 | h1 | h1 <;> rw [h1] <;> simp
 ·rcases h2 with h2 | h2 | h2 | h2 | h2 | h2 <;> rw [h2] <;> simp⟩
theorem NmD.nil : NmD [] := ⟨by simp, by simp⟩
theorem known_D {y : Str} (h : (⟨y⟩ : Txt) ∈ ([(⟨[97, 61, 112]⟩ : Txt), (⟨[97, 61, 113, 44, 98, 61, 112]⟩ : Txt), (⟨[98, 61, 122, 44, 99, 61, 113]⟩ : Txt)] : List Txt)) : NmD (nameR y) ∧ y.length ≤ 1000 := by
 simp only [List.mem_cons, List.not_mem_nil, or_false, Txt.mk.injEq] at h
 rcases h with rfl | rfl | rfl
 ·have : nameR [97, 61, 112] = [⟨[97], [112]⟩] := by decide +kernel
  rw [this]
  exact ⟨⟨by simp, by simp [TagD]⟩, by simp⟩
 ·have : nameR [97, 61, 113, 44, 98, 61, 112] = [⟨[97], [113]⟩, ⟨[98], [112]⟩] := by decide +kernel
  rw [this]
  exact ⟨⟨by simp, by simp [TagD]⟩, by simp⟩
 ·have : nameR [98, 61, 122, 44, 99, 61, 113] = [⟨[98], [122]⟩, ⟨[99], [113]⟩] := by decide +kernel
  rw [this]
  exact ⟨⟨by simp, by simp [TagD]⟩, by simp⟩
def NsD (ns : List (List Tag)) : Prop := ∀ n ∈ ns, NmD n
structure WD (w : Wld) : Prop where
 wi : WI w
 sn : NsD w.store.idx.names
 dn : NsD w.disk.names
theorem NsD.nil : NsD [] := by intro n hn; cases hn
theorem WD.new : WD ⟨⟨⟨[], []⟩, [], []⟩, ⟨[], [], [], 1⟩⟩ := ⟨WI.new, NsD.nil, NsD.nil⟩
theorem toD_names (Q : List (List Tag) → Prop) : ∀ (st : List Stp) (d : Dsk), Q d.names → (∀ x ∈ st, x.kind = 2 → Q x.names) → Q (st.foldl doD d).names := by
 intro st
 induction st with
 | nil => intro d h _; exact h
 | cons x xs ih =>
   intro d h hs
   refine ih (doD d x) ?_ (fun y hy => hs y (by simp [hy]))
   unfold doD
   split
   ·exact h
   ·split
    ·exact hs x (by simp) (by assumption)
    ·split
     ·exact h
     ·exact h
theorem WD.steps {w : Wld} (h : WD w) {st : List Stp} (hs : ∀ x ∈ st, x.kind = 2 → NsD x.names) (cut : Int) {s : Sto} (h2 : NsD s.idx.names) : NsD (stepsW w st cut s).store.idx.names ∧ NsD (stepsW w st cut s).disk.names := by
 have h3 : NsD (toD w.disk st cut).names := toD_names NsD _ _ h.dn (fun x hx hk => hs x (List.mem_of_mem_take hx) hk)
 unfold stepsW
 split
 ·exact ⟨h.sn, h.dn⟩
 ·split
  ·exact ⟨h3, h3⟩
  ·exact ⟨h2, h3⟩
theorem addS_names {s : Sto} {n : List Tag} {r : Row} (h : NsD s.idx.names) (hn : NmD n) : NsD (addS s n r).1.idx.names := by
 have h1 : NsD (addR s.idx n).1.names := by
  unfold addR
  split
  ·exact h
  ·split
   ·exact h
   ·intro m hm
    rcases List.mem_append.1 hm with hm | hm
    ·exact h m hm
    ·simp at hm; rw [hm]; exact hn
 unfold addS
 split
 ·exact h
 ·split
  ·exact h
  ·exact h1
theorem flushR_idx (s : Sto) : (flushR s).1.idx = s.idx := by unfold flushR; split <;> rfl
theorem mergeR_idx (s : Sto) (a : Int) : (mergeR s a).1.idx = s.idx := by unfold mergeR; split <;> rfl
theorem flushSt_n {w : Wld} (h : WD w) : ∀ x ∈ flushSt w.disk w.store, x.kind = 2 → NsD x.names := by
 unfold flushSt
 split
 ·intro x hx; cases hx
 ·intro x hx _
  simp only [List.mem_cons, List.not_mem_nil, or_false] at hx
  rcases hx with rfl | rfl
  ·exact NsD.nil
  ·exact h.sn
theorem mergeSt_n {d : Dsk} (h : NsD d.names) (a : Int) : ∀ x ∈ mergeSt d a, x.kind = 2 → NsD x.names := by
 unfold mergeSt
 split
 ·intro x hx; cases hx
 ·intro x hx _
  simp only [List.mem_cons, List.not_mem_nil, or_false] at hx
  rcases hx with rfl | rfl | rfl | rfl
  ·exact NsD.nil
  ·exact h
  ·exact NsD.nil
  ·exact NsD.nil
theorem WD.do {w : Wld} (h : WD w) {e : Evt} (he : NmD e.name) : WD (doW w e) := by
 have key : NsD (doW w e).store.idx.names ∧ NsD (doW w e).disk.names := by
  unfold doW
  split
  ·split
   ·exact ⟨addS_names h.sn he, h.dn⟩
   ·exact ⟨h.sn, h.dn⟩
  ·split
   ·exact h.steps (flushSt_n h) _ (by rw [flushR_idx]; exact h.sn)
   ·split
    ·exact h.steps (mergeSt_n h.dn _) _ (by rw [mergeR_idx]; exact h.sn)
    ·split
     ·exact ⟨h.dn, h.dn⟩
     ·exact ⟨h.sn, h.dn⟩
 exact ⟨h.wi.do e, key.1, key.2⟩
theorem WD.copy {w : Wld} (h : WD w) : WD (copyW w) := ⟨h.wi.copy, h.sn, h.dn⟩
def EvD (e : Evt) : Prop := NmD e.name ∧ RowSm e.row
structure SD (s : Sto) : Prop where
 idx : s.idx = idxOf s.idx.names
 nm : NmI s.idx.names
 nd : NsD s.idx.names
 np : s.parts.length ≤ 6
 part : ∀ p ∈ s.parts, PrtI p
 nm2 : s.mem.length ≤ 21
 mem : ∀ m ∈ s.mem, 0 ≤ m.id ∧ m.id ≤ 7 ∧ RowSm m.row
theorem rowOk_sm {r : Row} (h : rowOk r = true) : RowSm r := by
 have h1 := rowOk_t h
 have h2 := rowOk_v h
 unfold RowSm
 omega
theorem WD.sd {w : Wld} (h : WD w) : SD w.store := ⟨h.wi.sto.idx, h.wi.sto.nm, h.sn, h.wi.sto.np, h.wi.sto.part, by have := h.wi.sto.nm2; omega, fun m hm => by
 have h1 := h.wi.sto.mem6 m hm
 exact ⟨by omega, by omega, rowOk_sm (h.wi.sto.mem m hm).2.2⟩⟩
theorem WD.spoil {w : Wld} (h : WD w) {y : Int} {r : Row} (hy : 0 ≤ y ∧ y ≤ 7) (hr : RowSm r) : SD ⟨⟨w.store.idx.names, w.store.idx.posts⟩, w.store.parts, w.store.mem ++ [⟨y, r⟩]⟩ := by
 have h1 := h.sd
 refine ⟨h1.idx, h1.nm, h1.nd, h1.np, h1.part, by have := h.wi.sto.nm2; simp; omega, fun m hm => ?_⟩
 rcases List.mem_append.1 hm with hm | hm
 ·exact h1.mem m hm
 ·simp at hm; subst hm; exact ⟨hy.1, hy.2, hr⟩
end Go.Proofs.YtfnpaglcnmcnbaaGreat
