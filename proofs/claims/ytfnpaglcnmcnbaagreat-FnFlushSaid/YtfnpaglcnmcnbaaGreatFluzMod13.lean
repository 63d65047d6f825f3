/- What drawn worlds are like: plain laws. -/
import Derived.Test.YtfnpaglcnmcnbaaGreatFluzW12
set_option linter.unusedVariables false
set_option linter.unusedSimpArgs false
namespace Go.Proofs.YtfnpaglcnmcnbaaGreat
theorem NmD.sz {n : List Tag} (h : NmD n) : NmSz n := ⟨by have := h.1; omega, fun t ht => by
  obtain ⟨h1, h2⟩ := h.2 t ht
  simp only [List.mem_cons, List.not_mem_nil, or_false] at h1 h2
  constructor
  · rcases h1 with h1 | h1 | h1 <;> rw [h1] <;> simp
  · rcases h2 with h2 | h2 | h2 | h2 | h2 | h2 <;> rw [h2] <;> simp⟩
theorem NmD.nil : NmD [] := ⟨by simp, by simp⟩
theorem known_D {y : Str} (h : (⟨y⟩ : Txt) ∈ ([(⟨[97, 61, 112]⟩ : Txt), (⟨[97, 61, 113, 44, 98, 61, 112]⟩ : Txt), (⟨[98, 61, 122, 44, 99, 61, 113]⟩ : Txt)] : List Txt)) : NmD (nameR y) ∧ y.length ≤ 1000 := by
  simp only [List.mem_cons, List.not_mem_nil, or_false, Txt.mk.injEq] at h
  rcases h with rfl | rfl | rfl
  · have : nameR [97, 61, 112] = [⟨[97], [112]⟩] := by decide +kernel
    rw [this]
    exact ⟨⟨by simp, by simp [TagD]⟩, by simp⟩
  · have : nameR [97, 61, 113, 44, 98, 61, 112] = [⟨[97], [113]⟩, ⟨[98], [112]⟩] := by decide +kernel
    rw [this]
    exact ⟨⟨by simp, by simp [TagD]⟩, by simp⟩
  · have : nameR [98, 61, 122, 44, 99, 61, 113] = [⟨[98], [122]⟩, ⟨[99], [113]⟩] := by decide +kernel
    rw [this]
    exact ⟨⟨by simp, by simp [TagD]⟩, by simp⟩
def NsD (ns : List (List Tag)) : Prop := ∀ n ∈ ns, NmD n
structure WD (w : Wld) : Prop where
  wi : WI w
  sn : NsD w.store.idx.names
  dn : NsD w.disk.names
theorem NsD.nil : NsD [] := by intro n hn; cases hn
theorem WD.new : WD ⟨⟨⟨[], []⟩, [], []⟩, ⟨[], [], [], 1⟩⟩ := ⟨WI.new, NsD.nil, NsD.nil⟩
theorem toD_names (Q : List (List Tag) → Prop) : ∀ (st : List Stp) (d : Dsk), Q d.names → (∀ x ∈ st, x.kind = 2 → Q x.names) → Q (st.foldl doD d).names := by
  intro st
  induction st with
  | nil => intro d h _; exact h
  | cons x xs ih =>
    intro d h hs
    refine ih (doD d x) ?_ (fun y hy => hs y (by simp [hy]))
    unfold doD
    split
    · exact h
    · split
      · exact hs x (by simp) (by assumption)
      · split
        · exact h
        · exact h
theorem WD.steps {w : Wld} (h : WD w) {st : List Stp} (hs : ∀ x ∈ st, x.kind = 2 → NsD x.names) (cut : Int) {s : Sto} (h2 : NsD s.idx.names) : NsD (stepsW w st cut s).store.idx.names ∧ NsD (stepsW w st cut s).disk.names := by
  have h3 : NsD (toD w.disk st cut).names := toD_names NsD _ _ h.dn (fun x hx hk => hs x (List.mem_of_mem_take hx) hk)
  unfold stepsW
  split
  · exact ⟨h.sn, h.dn⟩
  · split
    · exact ⟨h3, h3⟩
    · exact ⟨h2, h3⟩
theorem addS_names {s : Sto} {n : List Tag} {r : Row} (h : NsD s.idx.names) (hn : NmD n) : NsD (addS s n r).1.idx.names := by
  have h1 : NsD (addR s.idx n).1.names := by
    unfold addR
    split
    · exact h
    · split
      · exact h
      · intro m hm
        rcases List.mem_append.1 hm with hm | hm
        · exact h m hm
        · simp at hm; rw [hm]; exact hn
  unfold addS
  split
  · exact h
  · split
    · exact h
    · exact h1
theorem flushR_idx (s : Sto) : (flushR s).1.idx = s.idx := by unfold flushR; split <;> rfl
theorem mergeR_idx (s : Sto) (a : Int) : (mergeR s a).1.idx = s.idx := by unfold mergeR; split <;> rfl
theorem flushSt_n {w : Wld} (h : WD w) : ∀ x ∈ flushSt w.disk w.store, x.kind = 2 → NsD x.names := by
  unfold flushSt
  split
  · intro x hx; cases hx
  · intro x hx _
    simp only [List.mem_cons, List.not_mem_nil, or_false] at hx
    rcases hx with rfl | rfl
    · exact NsD.nil
    · exact h.sn
theorem mergeSt_n {d : Dsk} (h : NsD d.names) (a : Int) : ∀ x ∈ mergeSt d a, x.kind = 2 → NsD x.names := by
  unfold mergeSt
  split
  · intro x hx; cases hx
  · intro x hx _
    simp only [List.mem_cons, List.not_mem_nil, or_false] at hx
    rcases hx with rfl | rfl | rfl | rfl
    · exact NsD.nil
    · exact h
    · exact NsD.nil
    · exact NsD.nil
theorem WD.do {w : Wld} (h : WD w) {e : Evt} (he : NmD e.name) : WD (doW w e) := by
  have key : NsD (doW w e).store.idx.names ∧ NsD (doW w e).disk.names := by
    unfold doW
    split
    · split
      · exact ⟨addS_names h.sn he, h.dn⟩
      · exact ⟨h.sn, h.dn⟩
    · split
      · exact h.steps (flushSt_n h) _ (by rw [flushR_idx]; exact h.sn)
      · split
        · exact h.steps (mergeSt_n h.dn _) _ (by rw [mergeR_idx]; exact h.sn)
        · split
          · exact ⟨h.dn, h.dn⟩
          · exact ⟨h.sn, h.dn⟩
  exact ⟨h.wi.do e, key.1, key.2⟩
theorem WD.copy {w : Wld} (h : WD w) : WD (copyW w) := ⟨h.wi.copy, h.sn, h.dn⟩
def EvD (e : Evt) : Prop := NmD e.name ∧ RowSm e.row
structure SD (s : Sto) : Prop where
  idx : s.idx = idxOf s.idx.names
  nm : NmI s.idx.names
  nd : NsD s.idx.names
  np : s.parts.length ≤ 6
  part : ∀ p ∈ s.parts, PrtI p
  nm2 : s.mem.length ≤ 21
  mem : ∀ m ∈ s.mem, 0 ≤ m.id ∧ m.id ≤ 7 ∧ RowSm m.row
theorem rowOk_sm {r : Row} (h : rowOk r = true) : RowSm r := by
  have h1 := rowOk_t h
  have h2 := rowOk_v h
  unfold RowSm
  omega
theorem WD.sd {w : Wld} (h : WD w) : SD w.store := ⟨h.wi.sto.idx, h.wi.sto.nm, h.sn, h.wi.sto.np, h.wi.sto.part, by have := h.wi.sto.nm2; omega, fun m hm => by
  have h1 := h.wi.sto.mem6 m hm
  exact ⟨by omega, by omega, rowOk_sm (h.wi.sto.mem m hm).2.2⟩⟩
theorem WD.spoil {w : Wld} (h : WD w) {y : Int} {r : Row} (hy : 0 ≤ y ∧ y ≤ 7) (hr : RowSm r) : SD ⟨⟨w.store.idx.names, w.store.idx.posts⟩, w.store.parts, w.store.mem ++ [⟨y, r⟩]⟩ := by
  have h1 := h.sd
  refine ⟨h1.idx, h1.nm, h1.nd, h1.np, h1.part, by have := h.wi.sto.nm2; simp; omega, fun m hm => ?_⟩
  rcases List.mem_append.1 hm with hm | hm
  · exact h1.mem m hm
  · simp at hm; subst hm; exact ⟨hy.1, hy.2, hr⟩
end Go.Proofs.YtfnpaglcnmcnbaaGreat
