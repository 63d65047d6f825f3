/- An index under construction: a row of postings, each with a row of its own. No conditions. -/
import Derived.Test.YtfnpaglcnmcnbaaGreatFluzW18
set_option linter.unusedVariables false
set_option linter.unusedSimpArgs false
namespace Go.Proofs.YtfnpaglcnmcnbaaGreat
theorem set_top {α : Type} (xs : List α) (x y : α) : (xs ++ [x]).set xs.length y = xs ++ [y] := by simp
theorem get_top {α : Type} (xs : List α) (x : α) : (xs ++ [x])[xs.length]? = some x := by simp
structure RP where
  key : Str
  val : Str
  a : Option Addr
  n : Nat
  c : Nat
instance : Rep RP where
  sz := 3
  rep _ _ x cs := cs = [.string (bs x.key), .string (bs x.val), .slice x.a x.n x.c]
  len := by rintro w F x cs rfl; rfl
  pos := by decide
  flat := by rintro w F x cs rfl v hv; simp at hv; rcases hv with rfl | rfl | rfl <;> rfl
  frame := by rintro w w' F F' x cs rfl _; rfl
theorem flat_rp : Flat RP := fun _ _ _ _ _ _ h => h
def IdsO (tI : TypeId) (w : World) (y : RP) (ri : Nat) (ids : List Int) : Prop :=
  (y.a = none ∧ y.n = 0 ∧ y.c = 0 ∧ ids = []) ∨ (y.a = some ⟨ri, 0, none⟩ ∧ Own w ri tI all y.n y.c ids)
structure IX (tX tP tI s0 s1 : Nat) (G : Nat → Prop) (w : World) (b3 r c : Nat) (an : Option Addr) (nn cn : Nat) (nms : List (List Tag)) (ys : List RP) (xs : List Pst) (rs : List Nat) : Prop where
  hs : s0 ≤ s1
  hG : ∀ b, G b → b < s1
  nm : RepS w G an nn cn nms
  box : Box w b3 tX [.slice an nn cn, .slice (some ⟨r, 0, none⟩) ys.length c]
  own : Own w r tP all ys.length c ys
  nd : (b3 :: r :: rs).Nodup
  new : ∀ b ∈ b3 :: r :: rs, s1 ≤ b
  lt : ∀ b ∈ b3 :: r :: rs, b < w.heap.size
  lx : ys.length = xs.length
  lr : rs.length = xs.length
  el : ∀ (i : Nat) (x : Pst) (y : RP) (ri : Nat), xs[i]? = some x → ys[i]? = some y → rs[i]? = some ri → y.key = x.tag.key ∧ y.val = x.tag.val ∧ IdsO tI w y ri x.ids
section
variable {tX tP tI s0 s1 : Nat} {w w' w2 w3 : World} {b3 r c : Nat} {an : Option Addr} {nn cn : Nat} {nms : List (List Tag)} {ys : List RP} {xs : List Pst} {rs : List Nat} {S G : Nat → Prop}
theorem IdsO.chg {y : RP} {ri : Nat} {ids : List Int} (h : IdsO tI w y ri ids) (hx : Chg S w w') (hr : ¬ S ri) : IdsO tI w' y ri ids := by
  rcases h with h | ⟨h1, h2⟩
  · exact .inl h
  · refine .inr ⟨h1, ?_⟩
    have := (h2.flat flat_int (F' := fun _ => False)).chg hx hr (fun b hb _ => hb.elim)
    exact this.flat flat_int
theorem ownF {α : Type} [Rep α] {r t n c : Nat} {xs : List α} (hf : Flat α) (h : Own w r t all n c xs) (hx : Chg S w w') (hr : ¬ S r) : Own w' r t all n c xs :=
  ((h.flat hf (F' := fun _ => False)).chg hx hr (fun b hb _ => hb.elim)).flat hf
theorem IX.chg (h : IX tX tP tI s0 s1 G w b3 r c an nn cn nms ys xs rs) (hx : Chg S w w') (hS : ∀ b ∈ b3 :: r :: rs, ¬ S b) (h1 : ∀ b, b < s1 → ¬ S b) : IX tX tP tI s0 s1 G w' b3 r c an nn cn nms ys xs rs :=
  ⟨h.hs, h.hG, h.nm.chg hx (fun b hb => h1 b (h.hG b hb)), h.box.chg hx (hS _ (by simp)), ownF flat_rp h.own hx (hS _ (by simp)), h.nd, h.new, fun b hb => Nat.lt_of_lt_of_le (h.lt b hb) hx.size, h.lx, h.lr,
    fun i x y ri h2 h3 h4 => by
      obtain ⟨g1, g2, g3⟩ := h.el i x y ri h2 h3 h4
      exact ⟨g1, g2, g3.chg hx (hS _ (by simp [List.mem_of_getElem? h4]))⟩⟩
theorem IX.ext (h : IX tX tP tI s0 s1 G w b3 r c an nn cn nms ys xs rs) (hx : Ext w w') : IX tX tP tI s0 s1 G w' b3 r c an nn cn nms ys xs rs := h.chg hx (fun _ _ h => h) (fun _ _ h => h)
theorem IX.one {b : Nat} (h : IX tX tP tI s0 s1 G w b3 r c an nn cn nms ys xs rs) (hx : Chg (Go.Proofs.YtfnpaglcnmcnbaaGreat.one b) w w') (hb : ∀ q ∈ b3 :: r :: rs, Nb b q) (h1 : s1 ≤ b) : IX tX tP tI s0 s1 G w' b3 r c an nn cn nms ys xs rs :=
  h.chg hx (fun q hq e => (hb q hq).ne (by unfold Go.Proofs.YtfnpaglcnmcnbaaGreat.one at e; exact e.symm)) (fun q hq e => by unfold Go.Proofs.YtfnpaglcnmcnbaaGreat.one at e; omega)
theorem IX.rep (h : IX tX tP tI s0 s1 G w b3 r c an nn cn nms ys xs rs) : RepS w all (some ⟨r, 0, none⟩) ys.length c xs := by
  have h0 := h.own.rep
  refine ⟨h.lx, h0.le, h0.cap, h0.addr, h0.inF, fun i x hi => ?_⟩
  obtain ⟨hl, _⟩ := List.getElem?_eq_some_iff.1 hi
  have hy : ys[i]? = some (ys[i]'(by rw [h.lx]; exact hl)) := List.getElem?_eq_getElem _
  have hr : rs[i]? = some (rs[i]'(by rw [h.lr]; exact hl)) := List.getElem?_eq_getElem _
  obtain ⟨cs, g1, g2⟩ := h0.elem i _ hy
  obtain ⟨e1, e2, e3⟩ := h.el i x _ _ hi hy hr
  cases g1
  refine ⟨_, ?_, g2⟩
  rw [e1, e2]
  rcases e3 with ⟨a1, a2, a3, a4⟩ | ⟨a1, a2⟩
  · rw [a1, a2, a3]
    refine ⟨none, 0, 0, rfl, ?_⟩
    rw [a4]
    exact RepS.nil' _ _ none 0 (by decide)
  · rw [a1]
    exact ⟨_, _, _, rfl, a2.rep⟩
theorem IX.done (h : IX tX tP tI s0 s1 G w b3 r c an nn cn nms ys xs rs) : Own w r tP (nin (ge s1) [b3, r]) ys.length c xs := by
  refine ⟨h.lx, h.own.le, h.own.cap, h.own.row, fun i x hi => ?_⟩
  obtain ⟨hl, _⟩ := List.getElem?_eq_some_iff.1 hi
  have hy : ys[i]? = some (ys[i]'(by rw [h.lx]; exact hl)) := List.getElem?_eq_getElem _
  have hr : rs[i]? = some (rs[i]'(by rw [h.lr]; exact hl)) := List.getElem?_eq_getElem _
  obtain ⟨cs, g1, g2⟩ := h.own.elem i _ hy
  obtain ⟨e1, e2, e3⟩ := h.el i x _ _ hi hy hr
  cases g1
  refine ⟨_, ?_, g2⟩
  rw [e1, e2]
  have hm := List.mem_of_getElem? hr
  have hnd := h.nd
  simp only [List.nodup_cons, List.mem_cons, not_or] at hnd
  have hge := h.new (rs[i]'(by rw [h.lr]; exact hl)) (by simp [hm])
  rcases e3 with ⟨a1, a2, a3, a4⟩ | ⟨a1, a2⟩
  · rw [a1, a2, a3]
    refine ⟨none, 0, 0, rfl, ?_⟩
    rw [a4]
    exact RepS.nil' _ _ none 0 (by decide)
  · rw [a1]
    refine ⟨_, _, _, rfl, (a2.flat flat_int (F' := fun _ => False)).rep' (fun _ _ hf => hf.elim) ⟨⟨?_, ?_⟩, ?_⟩⟩
    · show s1 ≤ _
      omega
    · simp only [List.mem_cons, List.not_mem_nil, or_false, not_or]
      exact ⟨fun e => hnd.1.2 (e ▸ hm), fun e => hnd.2.1 (e ▸ hm)⟩
    · exact fun e => hnd.2.1 (e ▸ hm)
theorem IX.names (h : IX tX tP tI s0 s1 G w b3 r c an nn cn nms ys xs rs) : RepS w (nin G [b3, r]) an nn cn nms := h.nm.weak fun b _ hb => ⟨hb, by
  simp only [List.mem_cons, List.not_mem_nil, or_false, not_or]
  have h1 := h.new b3 (by simp)
  have h2 := h.new r (by simp)
  have h3 := h.hG b hb
  exact ⟨by omega, by omega⟩⟩
def GN (s0 s1 b2 b : Nat) : Prop := s0 ≤ b ∧ b < s1 ∧ b ≠ b2
theorem GN.lt {s0 s1 b2 : Nat} : ∀ b, GN s0 s1 b2 b → b < s1 := fun _ h => h.2.1
theorem RepS.toGN {α : Type} [Rep α] {w : World} {s0 b2 n c : Nat} {o : Option Addr} {xs : List α} (h : RepS w (nin (ge s0) [b2]) o n c xs) : RepS w (GN s0 w.heap.size b2) o n c xs := h.weak fun b hb hF => ⟨hF.1, hb, fun e => hF.2 (by simp [e])⟩
theorem RepS.low {α : Type} [Rep α] {w w' : World} {F : Nat → Prop} {s1 b n c : Nat} {o : Option Addr} {xs : List α} (h : RepS w (ltG F s1) o n c xs) (hx : Chg (Go.Proofs.YtfnpaglcnmcnbaaGreat.one b) w w') (hb : s1 ≤ b) : RepS w' (ltG F s1) o n c xs :=
  h.chg hx (fun k hk e => by unfold Go.Proofs.YtfnpaglcnmcnbaaGreat.one at e; have := hk.2; omega)
theorem RepS.toLow {α : Type} [Rep α] {w : World} {F : Nat → Prop} {n c : Nat} {o : Option Addr} {xs : List α} (h : RepS w F o n c xs) : RepS w (ltG all w.heap.size) o n c xs := h.weak fun _ hb _ => ⟨trivial, hb⟩
theorem IX.new0 {tX tP tI s0 s1 : Nat} {w : World} {b3 r : Nat} {an : Option Addr} {nn cn : Nat} {nms : List (List Tag)} {G : Nat → Prop} {F : Nat → Prop} (hs : s0 ≤ s1) (hG : ∀ b, G b → b < s1) (hn : RepS w G an nn cn nms) (hb : Box w b3 tX [.slice an nn cn, .slice (some ⟨r, 0, none⟩) 0 0])
    (ho : Own w r tP F 0 0 ([] : List Pst)) (hne : Nb b3 r) (h3 : s1 ≤ b3) (hr : s1 ≤ r) : IX tX tP tI s0 s1 G w b3 r 0 an nn cn nms [] [] [] :=
  ⟨hs, hG, hn, hb, ⟨rfl, Nat.le_refl _, by decide, ho.row, fun i x hi => by simp at hi⟩, by simp; exact hne.ne, fun b hb' => by simp at hb'; rcases hb' with rfl | rfl <;> assumption,
    fun b hb' => by simp at hb'; rcases hb' with rfl | rfl; exact hb.lt; exact ho.lt, rfl, rfl, fun i x y ri hi => by simp at hi⟩
theorem Cov.ge {w : World} {b : Nat} (h : Cov nil w b) : w.heap.size ≤ b := h.or.resolve_left (fun h => h)
section
variable {tX tP tI s0 s1 : Nat} {w w' : World} {b3 b2 r c : Nat} {an : Option Addr} {nn cn : Nat} {nms : List (List Tag)} {ys : List RP} {xs : List Pst} {rs : List Nat} {G : Nat → Prop}
theorem IX.done2 (h : IX tX tP tI s0 s1 G w b3 r c an nn cn nms ys xs rs) (hb : b2 < s1) : Own w r tP (nin (ge s0) [b3, r, b2]) ys.length c xs := h.done.weak fun b _ hF => ⟨Nat.le_trans h.hs hF.1, by
  have h1 : s1 ≤ b := hF.1
  have h2 := hF.2
  simp only [List.mem_cons, List.not_mem_nil, or_false, not_or] at h2 ⊢
  exact ⟨h2.1, h2.2, by omega⟩⟩
theorem IX.names2 (h : IX tX tP tI s0 s1 (GN s0 s1 b2) w b3 r c an nn cn nms ys xs rs) : RepS w (nin (ge s0) [b3, r, b2]) an nn cn nms := h.names.weak fun b _ hF => ⟨hF.1.1, by
  have h2 := hF.2
  simp only [List.mem_cons, List.not_mem_nil, or_false, not_or] at h2 ⊢
  exact ⟨h2.1, h2.2, hF.1.2.2⟩⟩
theorem IX.ne (h : IX tX tP tI s0 s1 G w b3 r c an nn cn nms ys xs rs) : Nb b3 r := by
  have := h.nd
  simp only [List.nodup_cons, List.mem_cons, not_or] at this
  exact ⟨this.1.1⟩
theorem IX.ne3 {i ri : Nat} (h : IX tX tP tI s0 s1 G w b3 r c an nn cn nms ys xs rs) (hr : rs[i]? = some ri) : Nb b3 ri := by
  have := h.nd
  simp only [List.nodup_cons, List.mem_cons, not_or] at this
  exact ⟨fun e => this.1.2 (e ▸ List.mem_of_getElem? hr)⟩
theorem IX.ner {i ri : Nat} (h : IX tX tP tI s0 s1 G w b3 r c an nn cn nms ys xs rs) (hr : rs[i]? = some ri) : Nb r ri := by
  have := h.nd
  simp only [List.nodup_cons, List.mem_cons, not_or] at this
  exact ⟨fun e => this.2.1 (e ▸ List.mem_of_getElem? hr)⟩
theorem IX.mi {i ri : Nat} (hr : rs[i]? = some ri) : ri ∈ b3 :: r :: rs := by simp [List.mem_of_getElem? hr]
theorem RepS.via {α : Type} [Rep α] {wc wa wb : World} {n c' : Nat} {o : Option Addr} {zs : List α} (h : RepS wa (ltG all wc.heap.size) o n c' zs) (ha : Ext wc wa) (hb : Ext wc wb) : RepS wb (ltG all wc.heap.size) o n c' zs :=
  h.frame fun b _ hF => ⟨hF, by rw [hb.block hF.2, ha.block hF.2]⟩
theorem topSet {xs : List Pst} {t : Tag} {m : Nat} {x : Pst} {z : Int} (hx : (xs ++ [⟨t, []⟩])[m]? = some x) (hm : m = xs.length) : (xs ++ [(⟨t, []⟩ : Pst)]).set m ⟨x.tag, x.ids ++ [z]⟩ = xs ++ [⟨t, [z]⟩] := by
  subst hm
  rw [get_top] at hx
  cases hx
  rw [set_top]
  rfl
theorem IdsO.n {y : RP} {ri : Nat} {ids : List Int} (h : IdsO tI w y ri ids) : y.n = ids.length := by
  rcases h with ⟨_, h2, _, h4⟩ | ⟨_, h2⟩
  · rw [h2, h4]; rfl
  · exact h2.len
end
def addT (k : Int) (xs : List Pst) (t : Tag) : List Pst :=
  if idxP t 0 xs < 0 then xs ++ [⟨t, [k]⟩] else match xs[(idxP t 0 xs).toNat]? with
    | some x => xs.set (idxP t 0 xs).toNat ⟨x.tag, x.ids ++ [k]⟩
    | none => xs
def bldF : Nat → List Pst → List (List Tag) → List Pst
  | _, xs, [] => xs
  | i, xs, n :: ns => bldF (i + 1) (n.foldl (addT ((i : Int) + 1)) xs) ns
theorem idxP_spec (t : Tag) : ∀ (xs : List Pst) (i : Nat), (idxP t i xs = -1 ∧ ∀ x ∈ xs, x.tag ≠ t) ∨ ((i : Int) ≤ idxP t i xs ∧ idxP t i xs < (i : Int) + xs.length ∧ ∃ x, xs[(idxP t i xs).toNat - i]? = some x ∧ x.tag = t) := by
  intro xs
  induction xs with
  | nil => intro i; left; simp [idxP]
  | cons x xs ih =>
    intro i
    unfold idxP
    by_cases hx : (x.tag == t) = true
    · right
      rw [if_pos hx]
      exact ⟨by omega, by simp only [List.length_cons]; omega, x, by simp, eq_of_beq hx⟩
    · rw [if_neg hx]
      rcases ih (i + 1) with ⟨h1, h2⟩ | ⟨h1, h2, y, h3, h4⟩
      · left
        refine ⟨h1, fun z hz => ?_⟩
        rcases List.mem_cons.1 hz with rfl | hz
        · exact fun e => hx (by simp [e])
        · exact h2 z hz
      · right
        refine ⟨by omega, by simp only [List.length_cons]; omega, y, ?_, h4⟩
        rw [show (idxP t (i + 1) xs).toNat - i = ((idxP t (i + 1) xs).toNat - (i + 1)) + 1 by omega, List.getElem?_cons_succ]
        exact h3
theorem idxP_lt {t : Tag} {xs : List Pst} (h : ¬ idxP t 0 xs < 0) : (idxP t 0 xs).toNat < xs.length := by
  rcases idxP_spec t xs 0 with ⟨h1, _⟩ | ⟨_, h2, _⟩
  · omega
  · omega
theorem addT_new {k : Int} {xs : List Pst} {t : Tag} (h : idxP t 0 xs < 0) : addT k xs t = xs ++ [⟨t, [k]⟩] := by unfold addT; rw [if_pos h]
theorem addT_old {k : Int} {xs : List Pst} {t : Tag} {x : Pst} (h : ¬ idxP t 0 xs < 0) (hx : xs[(idxP t 0 xs).toNat]? = some x) : addT k xs t = xs.set (idxP t 0 xs).toNat ⟨x.tag, x.ids ++ [k]⟩ := by unfold addT; rw [if_neg h, hx]
theorem addT_len (k : Int) (xs : List Pst) (t : Tag) (m : Nat) (h1 : xs.length ≤ m) (h2 : ∀ x ∈ xs, x.ids.length ≤ m) : (addT k xs t).length ≤ m + 1 ∧ ∀ x ∈ addT k xs t, x.ids.length ≤ m + 1 := by
  unfold addT
  split
  · refine ⟨by simp; omega, fun x hx => ?_⟩
    rcases List.mem_append.1 hx with hx | hx
    · have := h2 x hx; omega
    · simp at hx; subst hx; simp
  · split
    · rename_i x hx
      refine ⟨by simp; omega, fun z hz => ?_⟩
      rcases List.mem_or_eq_of_mem_set hz with hz | rfl
      · have := h2 z hz; omega
      · have := h2 x (List.mem_of_getElem? hx); simp; omega
    · exact ⟨by omega, fun x hx => by have := h2 x hx; omega⟩
theorem bldStep {i : Nat} {xs ys : List Pst} {ns : List (List Tag)} {n : List Tag} {Y : List Pst} (h : bldF i xs (ns.drop i) = Y) (hd : ns.drop i = n :: ns.drop (i + 1)) (hy : ys = n.foldl (addT ((i : Int) + 1)) xs) : bldF (i + 1) ys (ns.drop (i + 1)) = Y := by
  rw [hd] at h
  subst hy
  exact h
theorem bldEnd {i : Nat} {xs : List Pst} {ns : List (List Tag)} {Y : List Pst} (h : bldF i xs (ns.drop i) = Y) (hi : ns.length ≤ i) : xs = Y := by
  rw [drop_end hi] at h
  exact h
theorem IX.push {r2 c2 vb : Nat} {t : Tag} (h : IX tX tP tI s0 s1 G w b3 r c an nn cn nms ys xs rs) (hs1 : s1 ≤ w.heap.size) (hx : Chg (Go.Proofs.YtfnpaglcnmcnbaaGreat.one r) w w2) (ho : Own w2 r2 tP all (ys.length + 1) c2 (ys ++ [⟨t.key, t.val, none, 0, 0⟩]))
    (hor : r2 = r ∨ r2 = w.heap.size) (hv : ∀ q ∈ b3 :: r :: rs, Nb vb q) (hv1 : s1 ≤ vb) (hv2 : vb < w.heap.size) (hx3 : Chg (Go.Proofs.YtfnpaglcnmcnbaaGreat.one b3) w2 w3)
    (hb : Box w3 b3 tX [.slice an nn cn, .slice (some ⟨r2, 0, none⟩) (ys.length + 1) c2]) :
    IX tX tP tI s0 s1 G w3 b3 r2 c2 an nn cn nms (ys ++ [⟨t.key, t.val, none, 0, 0⟩]) (xs ++ [⟨t, []⟩]) (rs ++ [vb]) := by
  have hnd := h.nd
  simp only [List.nodup_cons, List.mem_cons, not_or] at hnd
  obtain ⟨⟨n1, n2⟩, n3, n4⟩ := hnd
  have hb3 := h.lt b3 (by simp)
  have hrr := h.lt r (by simp)
  have hrs : ∀ q ∈ rs, q < w.heap.size ∧ q ≠ b3 ∧ q ≠ r ∧ q ≠ vb := fun q hq => ⟨h.lt q (by simp [hq]), fun e => n2 (e ▸ hq), fun e => n3 (e ▸ hq), fun e => (hv q (by simp [hq])).ne e.symm⟩
  have hvb3 := (hv b3 (by simp)).ne
  have hvr := (hv r (by simp)).ne
  have e3 : b3 ≠ r2 := by rcases hor with rfl | rfl <;> omega
  have e4 : ∀ q ∈ rs, q ≠ r2 := fun q hq => by have := hrs q hq; rcases hor with rfl | rfl <;> omega
  have e5 : vb ≠ r2 := by rcases hor with rfl | rfl; exact hvr; omega
  have hnew3 := h.new b3 (by simp)
  have hnewr := h.new r (by simp)
  have z2 := hx.size
  have z3 := hx3.size
  refine ⟨h.hs, h.hG, (h.nm.chg hx (fun b hb e => by unfold Go.Proofs.YtfnpaglcnmcnbaaGreat.one at e; have := h.hG b hb; omega)).chg hx3 (fun b hb e => by unfold Go.Proofs.YtfnpaglcnmcnbaaGreat.one at e; have := h.hG b hb; omega),
    by simpa using hb, by simpa using ownF flat_rp ho hx3 (fun e => e3 e.symm), ?_, ?_, ?_, by simp [h.lx], by simp [h.lr], ?_⟩
  · simp only [List.nodup_cons, List.mem_cons, List.mem_append, List.not_mem_nil, or_false, not_or, List.nodup_append, List.nodup_nil]
    exact ⟨⟨e3, n2, fun e => hvb3 e.symm⟩, ⟨fun hm => e4 _ hm rfl, fun e => e5 e.symm⟩, n4, by simp, fun a ha b hb => by subst hb; exact (hrs a ha).2.2.2⟩
  · intro b hb
    simp only [List.mem_cons, List.mem_append, List.not_mem_nil, or_false] at hb
    rcases hb with rfl | rfl | hb | rfl
    · exact hnew3
    · rcases hor with rfl | rfl
      · exact hnewr
      · exact hs1
    · exact h.new b (by simp [hb])
    · exact hv1
  · intro b hb
    simp only [List.mem_cons, List.mem_append, List.not_mem_nil, or_false] at hb
    rcases hb with rfl | rfl | hb | rfl
    · omega
    · have := ho.lt; omega
    · have := (hrs b hb).1; omega
    · omega
  · intro i x y ri g1 g2 g3
    rw [List.getElem?_append] at g1 g2 g3
    have l1 := h.lx
    have l2 := h.lr
    by_cases hi : i < xs.length
    · rw [if_pos hi] at g1
      rw [if_pos (by omega)] at g2
      rw [if_pos (by omega)] at g3
      obtain ⟨a1, a2, a3⟩ := h.el i x y ri g1 g2 g3
      have hq := hrs ri (List.mem_of_getElem? g3)
      exact ⟨a1, a2, (a3.chg hx (fun e => hq.2.2.1 e)).chg hx3 (fun e => hq.2.1 e)⟩
    · rw [if_neg hi] at g1
      rw [if_neg (by omega)] at g2
      rw [if_neg (by omega)] at g3
      have h0 : i - xs.length = 0 := by
        rcases hk : i - xs.length with _ | k
        · rfl
        · rw [hk] at g1; simp at g1
      rw [h0] at g1
      rw [show i - ys.length = 0 by omega] at g2
      simp at g1 g2
      subst g1 g2
      exact ⟨rfl, rfl, .inl ⟨rfl, rfl, rfl, rfl⟩⟩
theorem IdsO.app {P : Program} {T ty : TypeId} {y : RP} {ri vb : Nat} {ids : List Int} {z : Int} (h : IdsO tI w y ri ids) (hT : appB P T tI 1 = true) (hB : Box w vb tI [.int .i64 z]) (hv : vb ≠ ri) (hl : y.n ≤ 1000) :
    ∃ r2 c2 w', (Builtin.append_ #[T, T] ty #[.slice y.a y.n y.c, .slice (some ⟨vb, 0, none⟩) 1 1]).run P w = .ok (.slice (some ⟨r2, 0, none⟩) (y.n + 1) c2) w' ∧
      Own w' r2 tI all (y.n + 1) c2 (ids ++ [z]) ∧ (r2 = ri ∨ r2 = w.heap.size) ∧ Chg (Go.Proofs.YtfnpaglcnmcnbaaGreat.one ri) w w' := by
  rcases h with ⟨a1, a2, a3, a4⟩ | ⟨a1, a2⟩
  · obtain ⟨g1, inf, z0, hinf, hsz, hby, hz, hzs⟩ := appB_spec hT
    rw [a1, a2, a3, a4]
    have hBx := hB
    unfold Box at hBx
    have hnews : ∀ j v, [Value.int .i64 z][j]? = some v → w.cell? ((⟨vb, 0, none⟩ : Addr).add j) = some v := fun j v hj => by
      rw [add_lit]
      simp only [World.cell?, hBx]
      simpa using hj
    have hr := run_append_nil (P := P) (w := w) T ty tI inf z0 g1 hinf hz ⟨vb, 0, none⟩ 1 1 [.int .i64 z] (by rw [hsz]; rfl) hnews (by omega) (by omega) (by omega)
    generalize hg : grownCap w 1 0 tI = gc at hr
    have hge : 1 ≤ gc := by rw [← hg]; exact grownCap_ge _ _ _ _
    have hgm : gc ≤ maxLen := by rw [← hg]; exact grownCap_le_maxLen _ _ _ _ (by unfold maxLen; omega)
    generalize hob : (([Value.int .i64 z] : List Value).toArray ++ Builtin.zeroCells z0.cells (gc - 1)) = ob at hr
    have hnew : (w.drew.alloc (.cells ob tI)).heap[w.heap.size]? = some (.cells ob tI (0, 0)) := heap_alloc_new w.drew _
    have hoth : ∀ k, k < w.heap.size → (w.drew.alloc (.cells ob tI)).heap[k]? = w.heap[k]? := fun k hk => heap_alloc_old w.drew _ k hk
    refine ⟨w.heap.size, gc, w.drew.alloc (.cells ob tI), by simpa using hr, ⟨rfl, hge, hgm, ⟨ob, hnew, ?_⟩, fun i x hi => ⟨_, rfl, ?_⟩⟩, .inr rfl, ⟨rfl, rfl, rfl, by simp, fun k hk _ => hoth k hk⟩⟩
    · rw [← hob]
      simp only [Array.size_append, List.size_toArray, List.length_cons, List.length_nil, size_zeroCells, hzs]
      show _ = gc * 1
      omega
    · cases i with
      | succ i => simp at hi
      | zero =>
        simp at hi
        subst hi
        intro k u hu
        cases k with
        | succ k => simp at hu
        | zero =>
          simp at hu
          subst hu
          rw [add_lit]
          simp only [World.cell?, hnew]
          rw [← hob]
          rw [Array.getElem?_append_left (by simp)]
          rfl
  · rw [a1]
    obtain ⟨r2, c2, w', h1, h2, h3, h4, _⟩ := a2.append1 (P := P) (T := T) (ty := ty) (y := z) hT hB rfl ⟨trivial, hv⟩ (by omega)
    exact ⟨r2, c2, w', h1, h2, h3, h4⟩
theorem IX.upd {i r2 c2 ri : Nat} {x : Pst} {y y' : RP} {z : Int} (h : IX tX tP tI s0 s1 G w b3 r c an nn cn nms ys xs rs) (hs1 : s1 ≤ w.heap.size) (hxi : xs[i]? = some x) (hyi : ys[i]? = some y) (hri : rs[i]? = some ri)
    (hx : Chg (Go.Proofs.YtfnpaglcnmcnbaaGreat.one ri) w w2) (ho2 : Own w2 r2 tI all (y.n + 1) c2 (x.ids ++ [z])) (hor : r2 = ri ∨ r2 = w.heap.size) (hx3 : Chg (Go.Proofs.YtfnpaglcnmcnbaaGreat.one r) w2 w3)
    (hy' : y' = ⟨y.key, y.val, some ⟨r2, 0, none⟩, y.n + 1, c2⟩) (ho : Own w3 r tP all ys.length c (ys.set i y')) :
    IX tX tP tI s0 s1 G w3 b3 r c an nn cn nms (ys.set i y') (xs.set i ⟨x.tag, x.ids ++ [z]⟩) (rs.set i r2) := by
  have hnd := h.nd
  simp only [List.nodup_cons, List.mem_cons, not_or] at hnd
  obtain ⟨⟨n1, n2⟩, n3, n4⟩ := hnd
  have hrm := List.mem_of_getElem? hri
  have hri2 : ri ≠ b3 ∧ ri ≠ r := ⟨fun e => n2 (e ▸ hrm), fun e => n3 (e ▸ hrm)⟩
  have hb3 := h.lt b3 (by simp)
  have hrr := h.lt r (by simp)
  have hril := h.lt ri (by simp [hrm])
  have e3 : r2 ≠ b3 ∧ r2 ≠ r := by rcases hor with rfl | rfl; exact hri2; omega
  have z2 := hx.size
  have z3 := hx3.size
  have n3i := h.new ri (by simp [hrm])
  have nr := h.new r (by simp)
  obtain ⟨hil, hie⟩ := List.getElem?_eq_some_iff.1 hri
  have hset : ∀ q, q ∈ rs.set i r2 → q = r2 ∨ (q ∈ rs ∧ q ≠ ri) := by
    intro q hq
    obtain ⟨k, hk, hkq⟩ := List.mem_iff_getElem.1 hq
    rw [List.getElem_set] at hkq
    split at hkq
    · exact .inl hkq.symm
    · rename_i hne
      right
      have hk2 : k < rs.length := by simpa using hk
      refine ⟨hkq ▸ List.getElem_mem _, fun e => hne ?_⟩
      have := (List.getElem_inj (h₀ := hil) (h₁ := hk2) n4).1 (by rw [hie, hkq, e])
      exact this
  refine ⟨h.hs, h.hG, (h.nm.chg hx (fun b hb e => by unfold Go.Proofs.YtfnpaglcnmcnbaaGreat.one at e; have := h.hG b hb; omega)).chg hx3 (fun b hb e => by unfold Go.Proofs.YtfnpaglcnmcnbaaGreat.one at e; have := h.hG b hb; omega),
    by rw [List.length_set]; exact (h.box.chg hx (fun e => hri2.1 e.symm)).chg hx3 (fun e => n1 e), by rw [List.length_set]; exact ho, ?_, ?_, ?_, by simp [h.lx], by simp [h.lr], ?_⟩
  · simp only [List.nodup_cons, List.mem_cons, not_or]
    refine ⟨⟨n1, fun hm => ?_⟩, fun hm => ?_, ?_⟩
    · rcases hset b3 hm with e | ⟨e, _⟩
      · exact e3.1 e.symm
      · exact n2 e
    · rcases hset r hm with e | ⟨e, _⟩
      · exact e3.2 e.symm
      · exact n3 e
    · rcases hor with rfl | hor
      · rw [← hie, List.set_getElem_self]; exact n4
      · rw [List.nodup_iff_pairwise_ne, List.pairwise_iff_getElem]
        intro p q hp hq hpq
        rw [List.getElem_set, List.getElem_set]
        have hp2 : p < rs.length := by simpa using hp
        have hq2 : q < rs.length := by simpa using hq
        have hnew : ∀ k (hk : k < rs.length), rs[k] ≠ r2 := fun k hk e => by have := h.lt rs[k] (by simp); omega
        split
        · split
          · omega
          · exact fun e => hnew q hq2 e.symm
        · split
          · exact hnew p hp2
          · intro e
            have := (List.getElem_inj (h₀ := hp2) (h₁ := hq2) n4).1 e
            omega
  · intro b hb
    simp only [List.mem_cons] at hb
    rcases hb with rfl | rfl | hb
    · exact h.new _ (by simp)
    · exact nr
    · rcases hset b hb with rfl | ⟨hb, _⟩
      · rcases hor with rfl | rfl
        · exact n3i
        · exact hs1
      · exact h.new b (by simp [hb])
  · intro b hb
    simp only [List.mem_cons] at hb
    rcases hb with rfl | rfl | hb
    · omega
    · omega
    · rcases hset b hb with rfl | ⟨hb, _⟩
      · have := ho2.lt; omega
      · have := h.lt b (by simp [hb]); omega
  · intro j x1 y1 r1 g1 g2 g3
    rw [List.getElem?_set] at g1 g2 g3
    have l1 := h.lx
    have l2 := h.lr
    by_cases hj : i = j
    · subst hj
      rw [if_pos rfl, if_pos (by omega)] at g1 g2 g3
      cases g1; cases g2; cases g3
      obtain ⟨a1, a2, _⟩ := h.el i x y ri hxi hyi hri
      subst hy'
      exact ⟨a1, a2, .inr ⟨rfl, ownF flat_int ho2 hx3 (fun e => e3.2 e)⟩⟩
    · rw [if_neg hj] at g1 g2 g3
      obtain ⟨a1, a2, a3⟩ := h.el j x1 y1 r1 g1 g2 g3
      have hne : r1 ≠ ri := fun e => hj (by
        obtain ⟨hj1, hj2⟩ := List.getElem?_eq_some_iff.1 g3
        exact (List.getElem_inj (h₀ := hil) (h₁ := hj1) n4).1 (by rw [hie, hj2, e]))
      have hm1 := List.mem_of_getElem? g3
      exact ⟨a1, a2, (a3.chg hx (fun e => hne e)).chg hx3 (fun e => n3 (e ▸ hm1))⟩
end
end Go.Proofs.YtfnpaglcnmcnbaaGreat
