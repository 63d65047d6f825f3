/- What asking computes, as plain functions, and its laws. -/
import Derived.Test.YtfnpaglcnmcnbaaGreatFluzW22
import Derived.Test.YtfnpaglcnmcnbaaGreatFluzJn
set_option linter.unusedVariables false
set_option linter.unusedSimpArgs false
namespace Go.Proofs.YtfnpaglcnmcnbaaGreat
section
variable {P : Program} {f : FuncId} {fn : Func} {R : Value → World → Prop} {c : Code} {e : Env} {w : World}
theorem mapM4 (f : ResultVar → Sem Value) (r r' r2 r3 : ResultVar) : (#[r, r', r2, r3]).mapM f = (do let v ← f r; let v' ← f r'; let v2 ← f r2; let v3 ← f r3; pure #[v, v', v2, v3]) := by
  simp
theorem run_results4 {a : Act} {r r' r'' r''' : ResultVar} {v v' v'' v''' : Value} (hs : Sees fn.ntmps a e) (hr : fn.results = #[r, r', r'', r''']) (h : Res1 P w e r v) (h' : Res1 P w e r' v') (h'' : Res1 P w e r'' v'') (h3 : Res1 P w e r''' v''') :
    (results fn a.tmps).run P w = .ok (.tuple #[v, v', v'', v''']) w := by
  rw [results_eq, hr, mapM4]
  refine run_bind_ok (a := #[v, v', v'', v''']) ?_
  rw [run_bind_ok (h.run hs), run_bind_ok (h'.run hs), run_bind_ok (h''.run hs), run_bind_ok (h3.run hs)]
  rfl
theorem T.ret4 {k} {r r' r'' r''' : ResultVar} {v v' v'' v''' : Value} (h : isRet c = true) (hf : P.funcs[f]? = some fn) (hres : fn.results = #[r, r', r'', r''']) (h1 : Res1 P w e r v) (h2 : Res1 P w e r' v') (h3 : Res1 P w e r'' v'') (h4 : Res1 P w e r''' v''')
    (hR : R (.tuple #[v, v', v'', v''']) w) : T P f fn R (.code c :: k) e w :=
  T.leave h (fun _ hs => run_results4 hs hres h1 h2 h3 h4) hf hR
theorem T.r4 {k} {r r' r'' r''' : ResultVar} {v v' v'' v''' : Value} (hf : P.funcs[f]? = some fn) (hres : fn.results = #[r, r', r'', r''']) (h1 : Res1 P w e r v) (h2 : Res1 P w e r' v') (h3 : Res1 P w e r'' v'') (h4 : Res1 P w e r''' v''') (hR : R (.tuple #[v, v', v'', v''']) w) (h : isRet c = true := by kernel_rfl) : T P f fn R (.code c :: k) e w :=
  T.ret4 h hf hres h1 h2 h3 h4 hR
end
def cutB (b : List Row) (lo hi : Int) : List Row := b.filter (fun r => inR r.t lo hi)
def cutI (b : List Row) (lo hi : Int) : List Row := if blockOk b then cutB b lo hi else []
def fits (f : List Cnd) (n : List Tag) : Bool := f.all (fun c => has n c.tag != c.no)
def filtOk (f : List Cnd) : Bool := f.all (fun c => tagOk c.tag) && decide (f.length ≤ 3)
def fitsI (f : List Cnd) (n : List Tag) : Bool := filtOk f && nameOk n && fits f n
def findP (p : List Tag → Bool) : Nat → List (List Tag) → List Int
  | _, [] => []
  | i, n :: ns => (if p n then [(i : Int) + 1] else []) ++ findP p (i + 1) ns
def hit1 (s : Sto) (lo hi : Int) (id : Int) : List Hit := if (cutB (rowsOf s id) lo hi).length > 0 then [⟨text (s.idx.names.getD (id - 1).toNat []), cutB (rowsOf s id) lo hi⟩] else []
def askP (p : List Tag → Bool) (s : Sto) (lo hi : Int) : List Hit := (findP p 0 s.idx.names).flatMap (hit1 s lo hi)
def askS (s : Sto) (f : List Cnd) (lo hi : Int) : List Hit := if storeOk s && filtOk f then askP (fits f) s lo hi else []
def idxT (v : Tag) : Nat → List Tag → Int
  | _, [] => -1
  | i, x :: xs => if v == x then (i : Int) else idxT v (i + 1) xs
theorem idxT_has (v : Tag) : ∀ (l : List Tag) (i : Nat), has l v = decide (idxT v i l ≥ 0) := by
  intro l
  induction l with
  | nil => intro i; simp [has, idxT]
  | cons x xs ih =>
    intro i
    have := ih (i + 1)
    unfold has at this ⊢
    rw [List.any_cons, this]
    have e : idxT v i (x :: xs) = if v == x then (i : Int) else idxT v (i + 1) xs := rfl
    rw [e]
    by_cases h : v = x
    · subst h; simp
    · have h1 : (v == x) = false := beq_eq_false_iff_ne.2 h
      have h2 : (x == v) = false := beq_eq_false_iff_ne.2 (fun e => h e.symm)
      rw [h1, h2]
      simp
theorem hit_eq (a b : Hit) : a = b ↔ a.name = b.name ∧ a.rows = b.rows := by cases a; cases b; simp
theorem filterStep {α : Type} {f : α → Bool} {l k Y : List α} {i : Nat} {x : α} (h : k ++ (l.drop i).filter f = Y) (hd : l.drop i = x :: l.drop (i + 1)) (hx : f x = true) : (k ++ [x]) ++ (l.drop (i + 1)).filter f = Y := by
  rw [hd, List.filter_cons, if_pos hx] at h
  rw [← h]
  simp
theorem filterSkip {α : Type} {f : α → Bool} {l k Y : List α} {i : Nat} {x : α} (h : k ++ (l.drop i).filter f = Y) (hd : l.drop i = x :: l.drop (i + 1)) (hx : f x = false) : k ++ (l.drop (i + 1)).filter f = Y := by
  rw [hd, List.filter_cons, if_neg (by simp [hx])] at h
  exact h
theorem filterEnd {α : Type} {f : α → Bool} {l k Y : List α} {i : Nat} (h : k ++ (l.drop i).filter f = Y) (hi : l.length ≤ i) : k = Y := by
  rw [drop_end hi] at h
  simpa using h
theorem findStep {p : List Tag → Bool} {l : List (List Tag)} {k Y : List Int} {i : Nat} {x : List Tag} (h : k ++ findP p i (l.drop i) = Y) (hd : l.drop i = x :: l.drop (i + 1)) (hx : p x = true) : (k ++ [(i : Int) + 1]) ++ findP p (i + 1) (l.drop (i + 1)) = Y := by
  rw [hd, findP, if_pos hx] at h
  rw [← h]
  simp
theorem findSkip {p : List Tag → Bool} {l : List (List Tag)} {k Y : List Int} {i : Nat} {x : List Tag} (h : k ++ findP p i (l.drop i) = Y) (hd : l.drop i = x :: l.drop (i + 1)) (hx : p x = false) : k ++ findP p (i + 1) (l.drop (i + 1)) = Y := by
  rw [hd, findP, if_neg (by simp [hx])] at h
  exact h
theorem findEnd {p : List Tag → Bool} {l : List (List Tag)} {k Y : List Int} {i : Nat} (h : k ++ findP p i (l.drop i) = Y) (hi : l.length ≤ i) : k = Y := by
  rw [drop_end hi, findP] at h
  simpa using h
theorem findP_mem {p : List Tag → Bool} : ∀ (l : List (List Tag)) (i : Nat) (x : Int), x ∈ findP p i l → (i : Int) + 1 ≤ x ∧ x ≤ (i : Int) + l.length := by
  intro l
  induction l with
  | nil => intro i x h; simp [findP] at h
  | cons n ns ih =>
    intro i x h
    unfold findP at h
    rcases List.mem_append.1 h with h | h
    · split at h
      · simp at h; subst h; simp only [List.length_cons]; omega
      · cases h
    · have := ih (i + 1) x h
      simp only [List.length_cons]; omega
theorem findP_in {p : List Tag → Bool} {l : List (List Tag)} {x : Int} (h : x ∈ findP p 0 l) : 1 ≤ x ∧ x ≤ l.length := by have := findP_mem l 0 x h; omega
theorem findP_len (p : List Tag → Bool) : ∀ (l : List (List Tag)) (i : Nat), (findP p i l).length ≤ l.length := by
  intro l
  induction l with
  | nil => intro i; simp [findP]
  | cons n ns ih =>
    intro i
    have := ih (i + 1)
    unfold findP
    split <;> simp <;> omega
theorem findP_all {p : List Tag → Bool} : ∀ (l : List (List Tag)) (i : Nat), (∀ n ∈ l, p n = false) → findP p i l = [] := by
  intro l
  induction l with
  | nil => intro i _; rfl
  | cons n ns ih =>
    intro i h
    unfold findP
    rw [h n (by simp), ih (i + 1) (fun m hm => h m (by simp [hm]))]
    rfl
theorem findP_eq {p q : List Tag → Bool} : ∀ (l : List (List Tag)) (i : Nat), (∀ n ∈ l, p n = q n) → findP p i l = findP q i l := by
  intro l
  induction l with
  | nil => intro i _; rfl
  | cons n ns ih =>
    intro i h
    unfold findP
    rw [h n (by simp), ih (i + 1) (fun m hm => h m (by simp [hm]))]
theorem findP_fits {f : List Cnd} {x : Idx} (hx : NmI x.names) (hf : filtOk f = true) : findP (fitsI f) 0 x.names = findP (fits f) 0 x.names := findP_eq _ _ (fun n hn => by unfold fitsI; rw [hf, hx.ok n hn]; rfl)
theorem findP_no {f : List Cnd} {x : Idx} (hf : filtOk f = false) : findP (fitsI f) 0 x.names = [] := findP_all _ _ (fun n _ => by unfold fitsI; rw [hf]; rfl)
theorem rowsI_in {s : Sto} {i : Int} (hk : storeOk s = true) (h1 : 1 ≤ i) (h2 : i ≤ s.idx.names.length) : rowsI s i = rowsOf s i := rowsI_yes hk (by unfold inR; simp [h1, h2])
theorem blk_of {s : Sto} (h : SD s) (hk : storeOk s = true) (i : Int) : Blk (rowsOf s i) := by
  have hI := (StoK.of h hk).stoI
  have key : ∀ (mem : List Smp) (o : List Row), (∀ m ∈ mem, rowOk m.row = true) → Blk o → Blk (mem.foldl (rowsM i) o) := by
    intro mem
    induction mem with
    | nil => intro o _ ho; exact ho
    | cons m ms ih =>
      intro o hm ho
      refine ih _ (fun q hq => hm q (by simp [hq])) ?_
      unfold rowsM
      split
      · exact ho.put (hm m (by simp))
      · exact ho
  have key2 : ∀ (ps : List Prt) (o : List Row), (∀ p ∈ ps, PrtI p) → Blk o → Blk (ps.foldl (rowsP i) o) := by
    intro ps
    induction ps with
    | nil => intro o _ ho; exact ho
    | cons p ps ih => intro o hp ho; exact ih _ (fun q hq => hp q (by simp [hq])) (ho.merge ((hp p (by simp)).of i))
  exact key _ _ (fun m hm => (hI.mem m hm).2.2) (key2 _ _ hI.part Blk.nil)
theorem ok_24 {s : Sto} (hk : storeOk s = true) {i : Int} (h1 : 1 ≤ i) (h2 : i ≤ s.idx.names.length) : (rowsOf s i).length ≤ 24 := by
  unfold storeOk at hk
  simp only [Bool.and_eq_true, decide_eq_true_eq, List.all_eq_true, List.mem_range, cntOk] at hk
  have := hk.2 (i.toNat - 1) (by omega)
  rwa [show ((i.toNat - 1 : Nat) : Int) + 1 = i by omega] at this
theorem rows_bok {s : Sto} (h : SD s) (hk : storeOk s = true) {i : Int} (h1 : 1 ≤ i) (h2 : i ≤ s.idx.names.length) : blockOk (rowsOf s i) = true := by
  unfold blockOk
  have a1 : blockF none (rowsOf s i) = true := blk_of h hk i
  rw [a1, Bool.true_and, decide_eq_true_eq]
  exact ok_24 hk h1 h2
theorem cutI_rows {s : Sto} (h : SD s) (hk : storeOk s = true) {i : Int} (h1 : 1 ≤ i) (h2 : i ≤ s.idx.names.length) (lo hi : Int) : cutI (rowsOf s i) lo hi = cutB (rowsOf s i) lo hi := by
  unfold cutI; rw [if_pos (rows_bok h hk h1 h2)]
theorem askStep {s : Sto} {lo hi : Int} {l : List Int} {i : Nat} {id : Int} {k Y : List Hit} (h : k ++ (l.drop i).flatMap (hit1 s lo hi) = Y) (hd : l.drop i = id :: l.drop (i + 1)) {c : List Row} (hc : c = cutB (rowsOf s id) lo hi) (hl : (c.length : Int) > 0) {n : List Tag} (hn : s.idx.names[(id - 1).toNat]? = some n) :
    (k ++ [⟨text n, c⟩]) ++ (l.drop (i + 1)).flatMap (hit1 s lo hi) = Y := by
  subst hc
  rw [hd, List.flatMap_cons] at h
  rw [← h]
  have : hit1 s lo hi id = [⟨text n, cutB (rowsOf s id) lo hi⟩] := by
    unfold hit1
    rw [if_pos (by omega), List.getD_eq_getElem?_getD, hn]
    rfl
  rw [this]
  simp
theorem askSkip {s : Sto} {lo hi : Int} {l : List Int} {i : Nat} {id : Int} {k Y : List Hit} (h : k ++ (l.drop i).flatMap (hit1 s lo hi) = Y) (hd : l.drop i = id :: l.drop (i + 1)) {c : List Row} (hc : c = cutB (rowsOf s id) lo hi) (hl : ¬ (c.length : Int) > 0) :
    k ++ (l.drop (i + 1)).flatMap (hit1 s lo hi) = Y := by
  subst hc
  rw [hd, List.flatMap_cons] at h
  rw [← h]
  have : hit1 s lo hi id = [] := by
    unfold hit1
    rw [if_neg (by omega)]
  rw [this]
  simp
theorem askEnd {s : Sto} {lo hi : Int} {l : List Int} {i : Nat} {k Y : List Hit} (h : k ++ (l.drop i).flatMap (hit1 s lo hi) = Y) (hi2 : l.length ≤ i) : k = Y := by
  rw [drop_end hi2] at h
  simpa using h
theorem filtOk_no {f : List Cnd} (h : f.all (fun c => tagOk c.tag) = false) : false = filtOk f := by unfold filtOk; rw [h]; rfl
theorem filtOk_yes {f : List Cnd} (h : f.all (fun c => tagOk c.tag) = true) : decide ((f.length : Int) ≤ 3) = filtOk f := by unfold filtOk; rw [h, Bool.true_and, decide_eq_decide]; omega
theorem askS_1 {s : Sto} {f : List Cnd} {lo hi : Int} (h : storeOk s = false ∨ filtOk f = false) : askS s f lo hi = [] := by
  unfold askS
  rcases h with h | h <;> rw [h] <;> simp
theorem askS_I {s : Sto} {f : List Cnd} {lo hi : Int} (hd : SD s) (h : storeOk s = true) : askS s f lo hi = askP (fitsI f) s lo hi := by
  unfold askS askP
  cases h2 : filtOk f with
  | true => rw [h, findP_fits hd.nm h2]; rfl
  | false => rw [findP_no h2]; simp
def tx1 (t : Tag) : Txt := ⟨text1 t⟩
def textI (n : List Tag) : Str := if nameOk n then text n else []
theorem textF_tail : ∀ (n : List Tag) (i : Nat), 0 < i → textF i n = Lib.joinTail [44] (n.map text1) := by
  intro n
  induction n with
  | nil => intro i _; rfl
  | cons t ts ih =>
    intro i hi
    unfold textF
    rw [if_pos hi, ih (i + 1) (by omega)]
    simp [Lib.joinTail]
theorem join_text (n : List Tag) : Lib.join ((n.map tx1).map Txt.s) [44] = text n := by
  have e : (n.map tx1).map Txt.s = n.map text1 := by rw [List.map_map]; rfl
  rw [e]
  cases n with
  | nil => rfl
  | cons t ts =>
    rw [List.map_cons, Lib.join_cons]
    unfold text textF
    rw [textF_tail ts 1 (by omega)]
    simp
theorem textF_len : ∀ (n : List Tag) (i : Nat), (∀ t ∈ n, t.key.length ≤ 1000 ∧ t.val.length ≤ 1000) → (textF i n).length ≤ 2002 * n.length := by
  intro n
  induction n with
  | nil => intro i _; simp [textF]
  | cons t ts ih =>
    intro i h
    have h1 := ih (i + 1) (fun x hx => h x (by simp [hx]))
    have h2 := h t (by simp)
    unfold textF text1
    simp only [List.length_append, List.length_cons, List.length_nil]
    split <;> simp only [List.length_cons, List.length_nil] <;> omega
theorem joinEnd {n : List Tag} {k : List Txt} {i : Nat} (h : k ++ (n.drop i).map tx1 = n.map tx1) (hi : n.length ≤ i) : Lib.join (k.map Txt.s) [44] = text n := by
  rw [drop_end hi, List.map_nil, List.append_nil] at h
  rw [h, join_text]
theorem joinSz {n : List Tag} {k : List Txt} {i : Nat} (h : k ++ (n.drop i).map tx1 = n.map tx1) (hi : n.length ≤ i) (hn : NmSz n) : (Lib.join (k.map Txt.s) [44]).length ≤ 100000000000 := by
  rw [joinEnd h hi]
  have := textF_len n 0 hn.2
  have h2 := hn.1
  unfold text
  omega
theorem joinStep {n : List Tag} {k : List Txt} {i : Nat} {t : Tag} (h : k ++ (n.drop i).map tx1 = n.map tx1) (hd : n.drop i = t :: n.drop (i + 1)) : (k ++ [⟨t.key ++ [61] ++ t.val⟩]) ++ (n.drop (i + 1)).map tx1 = n.map tx1 := by
  rw [hd, List.map_cons] at h
  rw [← h, List.append_assoc]
  rfl
theorem textI_ok {n : List Tag} (h : nameOk n = true) : textI n = text n := by unfold textI; rw [if_pos h]
theorem textI_no {n : List Tag} (h : nameOk n = false) : textI n = [] := by unfold textI; rw [if_neg (by simp [h])]
theorem askStepI {p : List Tag → Bool} {s : Sto} (hs : SD s) (hk : storeOk s = true) {lo hi : Int} {i : Nat} {id : Int} {k Y : List Hit} (h : k ++ ((findP p 0 s.idx.names).drop i).flatMap (hit1 s lo hi) = Y) (hd : (findP p 0 s.idx.names).drop i = id :: (findP p 0 s.idx.names).drop (i + 1)) (hl : ((cutI (rowsOf s id) lo hi).length : Int) > 0) {n : List Tag} (hn : s.idx.names[(id - 1).toNat]? = some n) :
    (k ++ [⟨textI n, cutI (rowsOf s id) lo hi⟩]) ++ ((findP p 0 s.idx.names).drop (i + 1)).flatMap (hit1 s lo hi) = Y := by
  have hid := findP_in (p := p) (l := s.idx.names) (x := id) (List.mem_of_mem_drop (by rw [hd]; simp))
  rw [textI_ok (hs.nm.ok n (List.mem_of_getElem? hn))]
  exact askStep h hd (cutI_rows hs hk hid.1 hid.2 lo hi) hl hn
theorem askSkipI {p : List Tag → Bool} {s : Sto} (hs : SD s) (hk : storeOk s = true) {lo hi : Int} {i : Nat} {id : Int} {k Y : List Hit} (h : k ++ ((findP p 0 s.idx.names).drop i).flatMap (hit1 s lo hi) = Y) (hd : (findP p 0 s.idx.names).drop i = id :: (findP p 0 s.idx.names).drop (i + 1)) (hl : ¬ ((cutI (rowsOf s id) lo hi).length : Int) > 0) :
    k ++ ((findP p 0 s.idx.names).drop (i + 1)).flatMap (hit1 s lo hi) = Y := by
  have hid := findP_in (p := p) (l := s.idx.names) (x := id) (List.mem_of_mem_drop (by rw [hd]; simp))
  exact askSkip h hd (cutI_rows hs hk hid.1 hid.2 lo hi) hl
theorem askEndI {s : Sto} {f : List Cnd} (hs : SD s) (hk : storeOk s = true) {lo hi : Int} {i : Nat} {k : List Hit} (h : k ++ ((findP (fitsI f) 0 s.idx.names).drop i).flatMap (hit1 s lo hi) = askP (fitsI f) s lo hi) (hi2 : (findP (fitsI f) 0 s.idx.names).length ≤ i) : askS s f lo hi = k := by
  rw [askS_I hs hk]
  exact (askEnd h hi2).symm
end Go.Proofs.YtfnpaglcnmcnbaaGreat
