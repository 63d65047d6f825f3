/- Texts of bytes, words: what the readers of names compute. No conditions. -/
import Derived.Test.YtfnpaglcnmcnbaaGreatFluzW11
set_option linter.unusedVariables false
set_option linter.unusedSimpArgs false
namespace Go.Proofs.YtfnpaglcnmcnbaaGreat
def b2sB (P : Program) (s d : TypeId) : Bool :=
  match P.underlying s, P.underlying d with
  | some (.slice e), some .string => (match P.underlying e with | some (.int .u8) => true | _ => false)
  | _, _ => false
theorem run_b2s1 {P : Program} {w : World} {r : Nat} {src dst : TypeId} {y : UInt8} {c : Nat} (h : Has w ⟨r, 0, none⟩ [.int .u8 (y.toNat : Int)]) (hb : b2sB P src dst = true) :
    (convert src dst (.slice (some ⟨r, 0, none⟩) 1 c)).run P w = .ok (.string (bs [y])) w := by
  unfold b2sB at hb
  split at hb
  · rename_i e h1 h2
    split at hb
    · rename_i h3
      have h4 := run_loadCellsFrom (P := P) ⟨r, 0, none⟩ [.int .u8 (y.toNat : Int)] 0 #[] _ rfl h
      have h5 : (loadCells ⟨r, 0, none⟩ 1).run P w = .ok #[.int .u8 (y.toNat : Int)] w := h4
      have h6 : (Conv.bytesToString (.slice (some ⟨r, 0, none⟩) 1 c)).run P w = .ok (.string (bs [y])) w := by
        unfold Conv.bytesToString
        simp only []
        rw [run_bind_ok h5]
        simp [go_sem]
        rfl
      unfold convert
      rw [run_bind_ok (run_underlying h1 w), run_bind_ok (run_underlying h2 w)]
      simp only []
      rw [run_bind_ok (run_underlying h3 w)]
      exact h6
    · cases hb
  · cases hb
def cvtAt (n : Nat) (ops : Array Oper) (j : Nat) (e : Env) : Option (TypeId × TypeId × Value) :=
  bif goAt n ops j e then
    match (opAt ops j).op with
    | .convert s d x => some (s, d, ev e x)
    | _ => none
  else none
theorem run_cvtAt {P : Program} {n : Nat} {ops : Array Oper} {j : Nat} {e : Env} {s d : TypeId} {a v : Value} {w : World} (h : cvtAt n ops j e = some (s, d, a))
    (hr : (convert s d a).run P w = .ok v w) : goAt n ops j e = true ∧ (execOp (ev e) (opAt ops j)).run P w = .ok (.value v) w := by
  obtain ⟨hg, h⟩ := goAt_of h
  refine ⟨hg, ?_⟩
  split at h
  · rename_i s' d' x hop
    simp only [Option.some.injEq, Prod.mk.injEq] at h
    obtain ⟨rfl, rfl, rfl⟩ := h
    simp only [execOp, hop]
    exact run_bind_ok hr
  · cases h
theorem GA.b2s {P : Program} {n m : Nat} {L : Env → World → Prop} {ops : Array Oper} {l : List Nat} {e : Env} {w : World} {i : Nat} {s d : TypeId} {r c : Nat} {y : UInt8} {t : TypeId} {F : Nat → Prop}
    (hb : gB n m ops l i = true) (ho : Own w r t F 1 c [y]) (h : cvtAt n ops i e = some (s, d, .slice (some ⟨r, 0, none⟩) 1 c)) (ht : b2sB P s d = true)
    (H : GA P nil n m L ops (i :: l) (putE e (opAt ops i).dst (.string (bs [y]))) w) : GA P nil n m L ops l e w := by
  obtain ⟨cs, h1, h2⟩ := ho.elem 0 y rfl
  cases h1
  have h3 : Has w ⟨r, 0, none⟩ [.int .u8 (y.toNat : Int)] := by simpa using h2
  have h4 := run_cvtAt (P := P) (w := w) h (run_b2s1 h3 ht)
  refine GA.det (by unfold gB at hb; rw [hb, h4.1]; rfl) (fun w1 hx => ?_) H
  exact (run_cvtAt (P := P) (w := w1) h (run_b2s1 (h3.ext hx) ht)).2
def cutL (at_ : UInt8) (out : List Txt) : List UInt8 → List Txt
  | [] => out
  | x :: xs => if x = at_ then cutL at_ (out ++ [⟨[]⟩]) xs else cutL at_ (out.set (out.length - 1) ⟨(out.getD (out.length - 1) ⟨[]⟩).s ++ [x]⟩) xs
def cutT (s : List UInt8) (at_ : UInt8) : List Txt := cutL at_ [⟨[]⟩] s
theorem cutStep1 {at_ : UInt8} {s : List UInt8} {i : Nat} {out : List Txt} {x : UInt8} {Y : List Txt} (h : cutL at_ out (s.drop i) = Y) (hd : s.drop i = x :: s.drop (i + 1)) (he : (x.toNat : Int) = (at_.toNat : Int)) : cutL at_ (out ++ [⟨[]⟩]) (s.drop (i + 1)) = Y := by
  have : x = at_ := UInt8.toNat_inj.1 (by omega)
  rw [hd] at h
  unfold cutL at h
  rw [if_pos this] at h
  exact h
theorem cutStep2 {at_ : UInt8} {s : List UInt8} {i : Nat} {out : List Txt} {x : UInt8} {Y : List Txt} {t : Txt} {k : Nat} (h : cutL at_ out (s.drop i) = Y) (hd : s.drop i = x :: s.drop (i + 1)) (he : (x.toNat : Int) ≠ (at_.toNat : Int)) (hk : k = out.length - 1) (ht : out[k]? = some t) : cutL at_ (out.set k ⟨t.s ++ [x]⟩) (s.drop (i + 1)) = Y := by
  have : x ≠ at_ := fun e => he (by rw [e])
  rw [hd] at h
  unfold cutL at h
  rw [if_neg this, List.getD_eq_getElem?_getD, ← hk, ht] at h
  exact h
theorem cutEnd {at_ : UInt8} {s : List UInt8} {i : Nat} {out : List Txt} {Y : List Txt} (h : cutL at_ out (s.drop i) = Y) (hi : s.length ≤ i) : out = Y := by
  rw [drop_end hi] at h
  exact h
def notW (s : Str) : Bool := decide (s.length = 4) && decide (s[1]? = some 33)
def restW (s : Str) : Str := if notW s then s.take 1 ++ s.drop 2 else s
def condR (s : Str) : Cnd × Bool :=
  if (restW s).length = 3 ∧ (restW s)[1]? = some 61 then (⟨⟨(restW s).take 1, (restW s).drop 2⟩, notW s⟩, tagOk ⟨(restW s).take 1, (restW s).drop 2⟩) else (⟨⟨[], []⟩, notW s⟩, false)
def filtF : List Cnd → List Txt → List Cnd × Bool
  | out, [] => (out, true)
  | out, t :: ts => if (condR t.s).2 = false ∨ out.length ≥ 3 then ([], false) else filtF (out ++ [(condR t.s).1]) ts
def filtR (s : Str) : List Cnd × Bool := if s = [42] then ([], true) else filtF [] (cutT s 44)
def nameL : List Tag → List Cnd → Option (List Tag)
  | out, [] => some out
  | out, c :: cs => if c.no then none else nameL (out ++ [c.tag]) cs
def nameR (s : Str) : List Tag := match nameL [] (filtR s).1 with
  | some out => if (filtR s).2 = true ∧ nameOk out = true then out else []
  | none => []
theorem notW_1 {w : Str} (h : (w.length : Int) ≠ 4) : notW w = false ∧ restW w = w := by
  have : notW w = false := by unfold notW; rw [decide_eq_false (by omega)]; rfl
  exact ⟨this, by unfold restW; rw [this]; rfl⟩
theorem notW_2 {w : Str} {y : UInt8} (h : (w.length : Int) = 4) (hy : w[1]? = some y) (h2 : (y.toNat : Int) ≠ 33) : notW w = false ∧ restW w = w := by
  have : notW w = false := by
    unfold notW
    rw [hy, decide_eq_false (p := some y = some 33), Bool.and_false]
    intro e
    cases e
    exact h2 rfl
  exact ⟨this, by unfold restW; rw [this]; rfl⟩
theorem notW_3 {w : Str} {y : UInt8} (h : (w.length : Int) = 4) (hy : w[1]? = some y) (h2 : (y.toNat : Int) = 33) : notW w = true ∧ restW w = ((w.take 1).drop 0) ++ ((w.take w.length).drop 2) := by
  have hy2 : y = 33 := UInt8.toNat_inj.1 (by show y.toNat = 33; omega)
  have : notW w = true := by
    unfold notW
    rw [hy, hy2, decide_eq_true (by omega)]
    rfl
  exact ⟨this, by unfold restW; rw [this]; simp⟩
theorem condR_no {w u : Str} {b : Bool} (h : notW w = b ∧ restW w = u) (h2 : (u.length : Int) ≠ 3 ∨ (∃ z, u[1]? = some z ∧ (z.toNat : Int) ≠ 61)) : condR w = (⟨⟨[], []⟩, b⟩, false) := by
  obtain ⟨rfl, rfl⟩ := h
  unfold condR
  rw [if_neg]
  rintro ⟨h3, h4⟩
  rcases h2 with h2 | ⟨z, h2, h5⟩
  · omega
  · rw [h2] at h4
    cases h4
    exact h5 rfl
theorem condR_yes {w u : Str} {b : Bool} {z : UInt8} (h : notW w = b ∧ restW w = u) (h1 : (u.length : Int) = 3) (h2 : u[1]? = some z) (h3 : (z.toNat : Int) = 61) :
    condR w = (⟨⟨(u.take 1).drop 0, (u.take u.length).drop 2⟩, b⟩, tagOk ⟨(u.take 1).drop 0, (u.take u.length).drop 2⟩) := by
  obtain ⟨rfl, rfl⟩ := h
  have hz : z = 61 := UInt8.toNat_inj.1 (by show z.toNat = 61; omega)
  unfold condR
  rw [if_pos ⟨by omega, by rw [h2, hz]⟩]
  simp
theorem cutLen {out : List Txt} {i k : Nat} {t : Txt} {y : UInt8} (h : ∀ t ∈ out, t.s.length ≤ i) (ht : out[k]? = some t) : ∀ t' ∈ out.set k ⟨t.s ++ [y]⟩, t'.s.length ≤ i + 1 := by
  intro t' ht'
  rcases List.mem_or_eq_of_mem_set ht' with ht' | rfl
  · have := h t' ht'; omega
  · have := h t (List.mem_of_getElem? ht)
    simp only [List.length_append, List.length_cons, List.length_nil]; omega
theorem cutLen1 {out : List Txt} {i : Nat} (h : ∀ t ∈ out, t.s.length ≤ i) : ∀ t' ∈ out ++ [⟨[]⟩], t'.s.length ≤ i + 1 := by
  intro t' ht'
  rcases List.mem_append.1 ht' with ht' | ht'
  · have := h t' ht'; omega
  · simp at ht'; subst ht'; simp
theorem cutL_len (a : UInt8) : ∀ (s : List UInt8) (out : List Txt) (i : Nat), (∀ t ∈ out, t.s.length ≤ i) → (∀ t ∈ cutL a out s, t.s.length ≤ i + s.length) ∧ (cutL a out s).length ≤ out.length + s.length := by
  intro s
  induction s with
  | nil => intro out i h; exact ⟨fun t ht => by have := h t ht; simpa using this, by unfold cutL; simp⟩
  | cons x xs ih =>
    intro out i h
    unfold cutL
    split
    · obtain ⟨h1, h2⟩ := ih (out ++ [⟨[]⟩]) (i + 1) (cutLen1 h)
      refine ⟨fun t ht => ?_, ?_⟩
      · have := h1 t ht; simp only [List.length_cons]; omega
      · simp only [List.length_append, List.length_cons, List.length_nil] at h2 ⊢; omega
    · have h3 : ∀ t ∈ out.set (out.length - 1) ⟨(out.getD (out.length - 1) ⟨[]⟩).s ++ [x]⟩, t.s.length ≤ i + 1 := by
        intro t ht
        rcases List.mem_or_eq_of_mem_set ht with ht | rfl
        · have := h t ht; omega
        · rw [List.getD_eq_getElem?_getD]
          cases hq : out[out.length - 1]? with
          | none => simp
          | some q => have := h q (List.mem_of_getElem? hq); simp; omega
      obtain ⟨h1, h2⟩ := ih _ (i + 1) h3
      refine ⟨fun t ht => ?_, ?_⟩
      · have := h1 t ht; simp only [List.length_cons]; omega
      · simp only [List.length_set, List.length_cons] at h2 ⊢; omega
theorem cutT_len (s : List UInt8) (a : UInt8) : (∀ t ∈ cutT s a, t.s.length ≤ s.length) ∧ (cutT s a).length ≤ s.length + 1 := by
  obtain ⟨h1, h2⟩ := cutL_len a s [⟨[]⟩] 0 (by simp)
  refine ⟨fun t ht => by have := h1 t ht; omega, ?_⟩
  unfold cutT
  simp only [List.length_cons, List.length_nil] at h2; omega
theorem filt_no {out : List Cnd} {ts : List Txt} {i : Nat} {t : Txt} {Y : List Cnd × Bool} (h : filtF out (ts.drop i) = Y) (hd : ts.drop i = t :: ts.drop (i + 1)) (h2 : (condR t.s).2 = false ∨ (out.length : Int) ≥ 3) : Y = ([], false) := by
  rw [hd] at h
  unfold filtF at h
  rw [if_pos (by rcases h2 with h2 | h2; exact .inl h2; exact .inr (by omega))] at h
  exact h.symm
theorem filtStep {out : List Cnd} {ts : List Txt} {i : Nat} {t : Txt} {Y : List Cnd × Bool} (h : filtF out (ts.drop i) = Y) (hd : ts.drop i = t :: ts.drop (i + 1)) (h2 : (condR t.s).2 = true) (h3 : ¬ (out.length : Int) ≥ 3) : filtF (out ++ [(condR t.s).1]) (ts.drop (i + 1)) = Y := by
  rw [hd] at h
  unfold filtF at h
  rw [if_neg (by rw [h2]; simp; omega)] at h
  exact h
theorem filtEnd {out : List Cnd} {ts : List Txt} {i : Nat} {Y : List Cnd × Bool} (h : filtF out (ts.drop i) = Y) (hi : ts.length ≤ i) : Y = (out, true) := by
  rw [drop_end hi] at h
  exact h.symm
theorem filtF_len : ∀ (ts : List Txt) (out : List Cnd), out.length ≤ 3 → (filtF out ts).1.length ≤ 3 := by
  intro ts
  induction ts with
  | nil => intro out h; exact h
  | cons t ts ih =>
    intro out h
    unfold filtF
    split
    · simp
    · rename_i h2
      refine ih _ ?_
      simp only [not_or] at h2
      simp only [List.length_append, List.length_cons, List.length_nil]; omega
theorem filtR_len (s : Str) : (filtR s).1.length ≤ 3 := by
  unfold filtR
  split
  · simp
  · exact filtF_len _ _ (by simp)
theorem filtR_star {s : Str} (h : (s == [42]) = true) : filtR s = ([], true) := by unfold filtR; rw [if_pos (by simpa using h)]
theorem filtR_rest {s : Str} (h : (s == [42]) = false) : filtF [] (cutT s 44) = filtR s := by unfold filtR; rw [if_neg (by simpa using h)]
theorem nameL_no {out : List Tag} {cs : List Cnd} {i : Nat} {c : Cnd} {Y : Option (List Tag)} (h : nameL out (cs.drop i) = Y) (hd : cs.drop i = c :: cs.drop (i + 1)) (h2 : c.no = true) : Y = none := by
  rw [hd] at h
  unfold nameL at h
  rw [if_pos h2] at h
  exact h.symm
theorem nameStep {out : List Tag} {cs : List Cnd} {i : Nat} {c : Cnd} {Y : Option (List Tag)} (h : nameL out (cs.drop i) = Y) (hd : cs.drop i = c :: cs.drop (i + 1)) (h2 : c.no = false) : nameL (out ++ [c.tag]) (cs.drop (i + 1)) = Y := by
  rw [hd] at h
  unfold nameL at h
  rw [if_neg (by rw [h2]; simp)] at h
  exact h
theorem nameR_no {s : Str} (h : nameL [] (filtR s).1 = none) : nameR s = [] := by unfold nameR; rw [h]
theorem nameR_end {s : Str} {out : List Tag} {i : Nat} (h : nameL out ((filtR s).1.drop i) = nameL [] (filtR s).1) (hi : (filtR s).1.length ≤ i) : nameR s = if (filtR s).2 = true ∧ nameOk out = true then out else [] := by
  rw [drop_end hi] at h
  unfold nameR
  rw [← h]
  rfl
theorem nameR_e1 {s : Str} {out : List Tag} {i : Nat} (h : nameL out ((filtR s).1.drop i) = nameL [] (filtR s).1) (hi : (filtR s).1.length ≤ i) (h2 : (filtR s).2 = false ∨ nameOk out = false) : nameR s = [] := by
  rw [nameR_end h hi, if_neg]
  rintro ⟨h3, h4⟩
  rcases h2 with h2 | h2
  · rw [h2] at h3; cases h3
  · rw [h2] at h4; cases h4
theorem nameR_e2 {s : Str} {out : List Tag} {i : Nat} (h : nameL out ((filtR s).1.drop i) = nameL [] (filtR s).1) (hi : (filtR s).1.length ≤ i) (h2 : (filtR s).2 = true) (h3 : nameOk out = true) : nameR s = out := by
  rw [nameR_end h hi, if_pos ⟨h2, h3⟩]
end Go.Proofs.YtfnpaglcnmcnbaaGreat
