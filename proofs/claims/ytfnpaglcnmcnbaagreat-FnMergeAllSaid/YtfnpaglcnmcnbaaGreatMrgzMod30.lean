/- What asking computes, as plain functions, and its laws. -/
import Derived.Test.YtfnpaglcnmcnbaaGreatMrgzMod20
import Derived.Test.YtfnpaglcnmcnbaaGreatMrgzJn
set_option linter.unusedVariables false
set_option linter.unusedSimpArgs false
namespace Go.Proofs.YtfnpaglcnmcnbaaGreat
section
variable {P : Program} {f : FuncId} {fn : Func} {R : Value → World → Prop} {c : Code} {e : Env} {w : World}
theorem mapM4 (f : ResultVar → Sem Value) (r r' r2 r3 : ResultVar) : (#[r, r', r2, r3]).mapM f = (do let v ← f r; let v' ← f r'; let v2 ← f r2; let v3 ← f r3; pure #[v, v', v2, v3]) := by
 simp
theorem run_results4 {a : Act} {r r' r'' r''' : ResultVar} {v v' v'' v''' : Value} (hs : Sees fn.ntmps a e) (hr : fn.results = #[r, r', r'', r''']) (h : Res1 P w e r v) (h' : Res1 P w e r' v') (h'' : Res1 P w e r'' v'') (h3 : Res1 P w e r''' v''') :
 (results fn a.tmps).run P w = .ok (.tuple #[v, v', v'', v''']) w := by
 rw [results_eq, hr, mapM4]
 refine run_bind_ok (a := #[v, v', v'', v''']) ?_
 rw [run_bind_ok (h.run hs), run_bind_ok (h'.run hs), run_bind_ok (h''.run hs), run_bind_ok (h3.run hs)]
 rfl
theorem T.ret4 {k} {r r' r'' r''' : ResultVar} {v v' v'' v''' : Value} (h : isRet c = true) (hf : P.funcs[f]? = some fn) (hres : fn.results = #[r, r', r'', r''']) (h1 : Res1 P w e r v) (h2 : Res1 P w e r' v') (h3 : Res1 P w e r'' v'') (h4 : Res1 P w e r''' v''')
 (hR : R (.tuple #[v, v', v'', v''']) w) : T P f fn R (.code c :: k) e w :=
 T.leave h (fun _ hs => run_results4 hs hres h1 h2 h3 h4) hf hR
theorem T.r4 {k} {r r' r'' r''' : ResultVar} {v v' v'' v''' : Value} (hf : P.funcs[f]? = some fn) (hres : fn.results = #[r, r', r'', r''']) (h1 : Res1 P w e r v) (h2 : Res1 P w e r' v') (h3 : Res1 P w e r'' v'') (h4 : Res1 P w e r''' v''') (hR : R (.tuple #[v, v', v'', v''']) w) (h : isRet c = true := by kernel_rfl) : T P f fn R (.code c :: k) e w :=
 T.ret4 h hf hres h1 h2 h3 h4 hR
end
def cutB (b : List Row) (lo hi : Int) : List Row := b.filter (fun r => inR r.t lo hi)
def cutI (b : List Row) (lo hi : Int) : List Row := if blockOk b then cutB b lo hi else []
def fits (f : List Cnd) (n : List Tag) : Bool := f.all (fun c => has n c.tag != c.no)
def filtOk (f : List Cnd) : Bool := f.all (fun c => tagOk c.tag) && decide (f.length ≤ 3)
def fitsI (f : List Cnd) (n : List Tag) : Bool := filtOk f && nameOk n && fits f n
def findP (p : List Tag → Bool) : Nat → List (List Tag) → List Int
 | _, [] => []
 | i, n :: ns => (if p n then [(i : Int) + 1] else []) ++ findP p (i + 1) ns
def hit1 (s : Sto) (lo hi : Int) (id : Int) : List Hit := if (cutB (rowsOf s id) lo hi).length > 0 then [⟨text (s.idx.names.getD (id - 1).toNat []), cutB (rowsOf s id) lo hi⟩] else []
def askP (p : List Tag → Bool) (s : Sto) (lo hi : Int) : List Hit := (findP p 0 s.idx.names).flatMap (hit1 s lo hi)
def askS (s : Sto) (f : List Cnd) (lo hi : Int) : List Hit := if storeOk s && filtOk f then askP (fits f) s lo hi else []
def idxT (v : Tag) : Nat → List Tag → Int
 | _, [] => -1
 | i, x :: xs => if v == x then (i : Int) else idxT v (i + 1) xs
theorem idxT_has (v : Tag) : ∀ (l : List Tag) (i : Nat), has l v = decide (idxT v i l ≥ 0) := by
 intro l
 induction l with
 | nil => intro i; simp [has, idxT]
 | cons x xs ih =>
   intro i
   have := ih (i + 1)
   unfold has at this ⊢
   rw [List.any_cons, this]
   have e : idxT v i (x :: xs) = if v == x then (i : Int) else idxT v (i + 1) xs := rfl
   rw [e]
   by_cases h : v = x
   ·subst h; simp
   ·have h1 : (v == x) = false := beq_eq_false_iff_ne.2 h
    have h2 : (x == v) = false := beq_eq_false_iff_ne.2 (fun e => h e.symm)
    rw [h1, h2]
    simp
theorem hit_eq (a b : Hit) : a = b ↔ a.name = b.name ∧ a.rows = b.rows := by cases a; cases b; simp
theorem filterStep {α : Type} {f : α → Bool} {l k Y : List α} {i : Nat} {x : α} (h : k ++ (l.drop i).filter f = Y) (hd : l.drop i = x :: l.drop (i + 1)) (hx : f x = true) : (k ++ [x]) ++ (l.drop (i + 1)).filter f = Y := by
 rw [hd, List.filter_cons, if_pos hx] at h
 rw [← h]
 simp
theorem filterSkip {α : Type} {f : α → Bool} {l k Y : List α} {i : Nat} {x : α} (h : k ++ (l.drop i).filter f = Y) (hd : l.drop i = x :: l.drop (i + 1)) (hx : f x = false) : k ++ (l.drop (i + 1)).filter f = Y := by
 rw [hd, List.filter_cons, if_neg (by simp [hx])] at h
 exact h
theorem filterEnd {α : Type} {f : α → Bool} {l k Y : List α} {i : Nat} (h : k ++ (l.drop i).filter f = Y) (hi : l.length ≤ i) : k = Y := by
 rw [drop_end hi] at h
 simpa using h
theorem findStep {p : List Tag → Bool} {l : List (List Tag)} {k Y : List Int} {i : Nat} {x : List Tag} (h : k ++ findP p i (l.drop i) = Y) (hd : l.drop i = x :: l.drop (i + 1)) (hx : p x = true) : (k ++ [(i : Int) + 1]) ++ findP p (i + 1) (l.drop (i + 1)) = Y := by
 rw [hd, findP, if_pos hx] at h
 rw [← h]
 simp
theorem findSkip {p : List Tag → Bool} {l : List (List Tag)} {k Y : List Int} {i : Nat} {x : List Tag} (h : k ++ findP p i (l.drop i) = Y) (hd : l.drop i = x :: l.drop (i + 1)) (hx : p x = false) : k ++ findP p (i + 1) (l.drop (i + 1)) = Y := by
 rw [hd, findP, if_neg (by simp [hx])] at h
 exact h
theorem findEnd {p : List Tag → Bool} {l : List (List Tag)} {k Y : List Int} {i : Nat} (h : k ++ findP p i (l.drop i) = Y) (hi : l.length ≤ i) : k = Y := by
 rw [drop_end hi, findP] at h
 simpa using h
theorem findP_mem {p : List Tag → Bool} : ∀ (l : List (List Tag)) (i : Nat) (x : Int), x ∈ findP p i l → (i : Int) + 1 ≤ x ∧ x ≤ (i : Int) + l.length := by
 intro l
 induction l with
 | nil => intro i x h; simp [findP] at h
 | cons n ns ih =>
   intro i x h
   unfold findP at h
   rcases List.mem_append.1 h with h | h
   ·split at h
    ·simp at h; subst h; simp only [List.length_cons]; omega
    ·cases h
   ·have := ih (i + 1) x h
    simp only [List.length_cons]; omega
theorem findP_in {p : List Tag → Bool} {l : List (List Tag)} {x : Int} (h : x ∈ findP p 0 l) : 1 ≤ x ∧ x ≤ l.length := by have := findP_mem l 0 x h; omega
theorem findP_len (p : List Tag → Bool) : ∀ (l : List (List Tag)) (i : Nat), (findP p i l).length ≤ l.length := by
 intro l
 induction l with
 | nil => intro i; simp [findP]
 | cons n ns ih =>
   intro i
   have := ih (i + 1)
   unfold findP
   split <;> simp <;> omega
theorem findP_all {p : List Tag → Bool} : ∀ (l : List (List Tag)) (i : Nat), (∀ n ∈ l, p n = false) → findP p i l = [] := by
 intro l
 induction l with
 | nil => intro i _; rfl
 | cons n ns ih =>
   intro i h
   unfold findP
   rw [h n (by simp), ih (i + 1) (fun m hm => h m (by simp [hm]))]
   rfl
theorem findP_eq {p q : List Tag → Bool} : ∀ (l : List (List Tag)) (i : Nat), (∀ n ∈ l, p n = q n) → findP p i l = findP q i l := by
 intro l
 induction l with
 | nil => intro i _; rfl
 | cons n ns ih =>
   intro i h
   unfold findP
   rw [h n (by simp), ih (i + 1) (fun m hm => h m (by simp [hm]))]
theorem findP_fits {f : List Cnd} {x : Idx} (hx : NmI x.names) (hf : filtOk f = true) : findP (fitsI f) 0 x.names = findP (fits f) 0 x.names := findP_eq _ _ (fun n hn => by unfold fitsI; rw [hf, hx.ok n hn]; rfl)
theorem findP_no {f : List Cnd} {x : Idx} (hf : filtOk f = false) : findP (fitsI f) 0 x.names = [] := findP_all _ _ (fun n _ => by unfold fitsI; rw [hf]; rfl)
theorem rowsI_in {s : Sto} {i : Int} (hk : storeOk s = true) (h1 : 1 ≤ i) (h2 : i ≤ s.idx.names.length) : rowsI s i = rowsOf s i := rowsI_yes hk (by unfold inR; simp [h1, h2])
theorem blk_of {s : Sto} (h : SD s) (hk : storeOk s = true) (i : Int) : Blk (rowsOf s i) := by
 have hI := (StoK.of h hk).stoI
 have key : ∀ (mem : List Smp) (o : List Row), (∀ m ∈ mem, rowOk m.row = true) → Blk o → Blk (mem.foldl (rowsM i) o) := by
  intro mem
  induction mem with
  | nil => intro o _ ho; exact ho
  | cons m ms ih =>
    intro o hm ho
    refine ih _ (fun q hq => hm q (by simp [hq])) ?_
    unfold rowsM
    split
    ·exact ho.put (hm m (by simp))
    ·exact ho
 have key2 : ∀ (ps : List Prt) (o : List Row), (∀ p ∈ ps, PrtI p) → Blk o → Blk (ps.foldl (rowsP i) o) := by
  intro ps
  induction ps with
  | nil => intro o _ ho; exact ho
  | cons p ps ih => intro o hp ho; exact ih _ (fun q hq => hp q (by simp [hq])) (ho.merge ((hp p (by simp)).of i))
 exact key _ _ (fun m hm => (hI.mem m hm).2.2) (key2 _ _ hI.part Blk.nil)
theorem ok_24 {s : Sto} (hk : storeOk s = true) {i : Int} (h1 : 1 ≤ i) (h2 : i ≤ s.idx.names.length) : (rowsOf s i).length ≤ 24 := by
 unfold storeOk at hk
 simp only [Bool.and_eq_true, decide_eq_true_eq, List.all_eq_true, List.mem_range, cntOk] at hk
 have := hk.2 (i.toNat - 1) (by omega)
 rwa [show ((i.toNat - 1 : Nat) : Int) + 1 = i by omega] at this
theorem rows_bok {s : Sto} (h : SD s) (hk : storeOk s = true) {i : Int} (h1 : 1 ≤ i) (h2 : i ≤ s.idx.names.length) : blockOk (rowsOf s i) = true := by
 unfold blockOk
 have a1 : blockF none (rowsOf s i) = true := blk_of h hk i
 rw [a1, Bool.true_and, decide_eq_true_eq]
 exact ok_24 hk h1 h2
theorem cutI_rows {s : Sto} (h : SD s) (hk : storeOk s = true) {i : Int} (h1 : 1 ≤ i) (h2 : i ≤ s.idx.names.length) (lo hi : Int) : cutI (rowsOf s i) lo hi = cutB (rowsOf s i) lo hi := by
 unfold cutI; rw [if_pos (rows_bok h hk h1 h2)]
theorem askStep {s : Sto} {lo hi : Int} {l : List Int} {i : Nat} {id : Int} {k Y : List Hit} (h : k ++ (l.drop i).flatMap (hit1 s lo hi) = Y) (hd : l.drop i = id :: l.drop (i + 1)) {c : List Row} (hc : c = cutB (rowsOf s id) lo hi) (hl : (c.length : Int) > 0) {n : List Tag} (hn : s.idx.names[(id - 1).toNat]? = some n) :
 (k ++ [⟨text n, c⟩]) ++ (l.drop (i + 1)).flatMap (hit1 s lo hi) = Y := by
 subst hc
 rw [hd, List.flatMap_cons] at h
 rw [← h]
 have : hit1 s lo hi id = [⟨text n, cutB (rowsOf s id) lo hi⟩] := by
  unfold hit1
  rw [if_pos (by omega), List.getD_eq_getElem?_getD, hn]
  rfl
 rw [this]
 simp
theorem askSkip {s : Sto} {lo hi : Int} {l : List Int} {i : Nat} {id : Int} {k Y : List Hit} (h : k ++ (l.drop i).flatMap (hit1 s lo hi) = Y) (hd : l.drop i = id :: l.drop (i + 1)) {c : List Row} (hc : c = cutB (rowsOf s id) lo hi) (hl : ¬ (c.length : Int) > 0) :
 k ++ (l.drop (i + 1)).flatMap (hit1 s lo hi) = Y := by
 subst hc
 rw [hd, List.flatMap_cons] at h
 rw [← h]
 have : hit1 s lo hi id = [] := by
  unfold hit1
  rw [if_neg (by omega)]
 rw [this]
 simp
theorem askEnd {s : Sto} {lo hi : Int} {l : List Int} {i : Nat} {k Y : List Hit} (h : k ++ (l.drop i).flatMap (hit1 s lo hi) = Y) (hi2 : l.length ≤ i) : k = Y := by
 rw [drop_end hi2] at h
 simpa using h
theorem filtOk_no {f : List Cnd} (h : f.all (fun c => tagOk c.tag) = false) : false = filtOk f := by unfold filtOk; rw [h]; rfl
theorem filtOk_yes {f : List Cnd} (h : f.all (fun c => tagOk c.tag) = true) : decide ((f.length : Int) ≤ 3) = filtOk f := by unfold filtOk; rw [h, Bool.true_and, decide_eq_decide]; omega
theorem askS_1 {s : Sto} {f : List Cnd} {lo hi : Int} (h : storeOk s = false ∨ filtOk f = false) : askS s f lo hi = [] := by
 unfold askS
 rcases h with h | h <;> rw [h] <;> simp
theorem askS_I {s : Sto} {f : List Cnd} {lo hi : Int} (hd : SD s) (h : storeOk s = true) : askS s f lo hi = askP (fitsI f) s lo hi := by
 unfold askS askP
 cases h2 : filtOk f with
 | true => rw [h, findP_fits hd.nm h2]; rfl
 | false => rw [findP_no h2]; simp
def tx1 (t : Tag) : Txt := ⟨text1 t⟩
def textI (n : List Tag) : Str := if nameOk n then text n else []
theorem textF_tail : ∀ (n : List Tag) (i : Nat), 0 < i → textF i n = Lib.joinTail [44] (n.map text1) := by
 intro n
 induction n with
 | nil => intro i _; rfl
 | cons t ts ih =>
   intro i hi
   unfold textF
   rw [if_pos hi, ih (i + 1) (by omega)]
   simp [Lib.joinTail]
theorem join_text (n : List Tag) : Lib.join ((n.map tx1).map Txt.s) [44] = text n := by
 have e : (n.map tx1).map Txt.s = n.map text1 := by rw [List.map_map]; rfl
 rw [e]
 cases n with
 | nil => rfl
 | cons t ts =>
   rw [List.map_cons, Lib.join_cons]
   unfold text textF
   rw [textF_tail ts 1 (by omega)]
   simp
theorem textF_len : ∀ (n : List Tag) (i : Nat), (∀ t ∈ n, t.key.length ≤ 1000 ∧ t.val.length ≤ 1000) → (textF i n).length ≤ 2002 * n.length := by
 intro n
 induction n with
 | nil => intro i _; simp [textF]
 | cons t ts ih =>
   intro i h
   have h1 := ih (i + 1) (fun x hx => h x (by simp [hx]))
   have h2 := h t (by simp)
   unfold textF text1
   simp only [List.length_append, List.length_cons, List.length_nil]
   split <;> simp only [List.length_cons, List.length_nil] <;> omega
theorem joinEnd {n : List Tag} {k : List Txt} {i : Nat} (h : k ++ (n.drop i).map tx1 = n.map tx1) (hi : n.length ≤ i) : Lib.join (k.map Txt.s) [44] = text n := by
 rw [drop_end hi, List.map_nil, List.append_nil] at h
 rw [h, join_text]
theorem joinSz {n : List Tag} {k : List Txt} {i : Nat} (h : k ++ (n.drop i).map tx1 = n.map tx1) (hi : n.length ≤ i) (hn : NmSz n) : (Lib.join (k.map Txt.s) [44]).length ≤ 100000000000 := by
 rw [joinEnd h hi]
 have := textF_len n 0 hn.2
 have h2 := hn.1
 unfold text
 omega
theorem joinStep {n : List Tag} {k : List Txt} {i : Nat} {t : Tag} (h : k ++ (n.drop i).map tx1 = n.map tx1) (hd : n.drop i = t :: n.drop (i + 1)) : (k ++ [⟨t.key ++ [61] ++ t.val⟩]) ++ (n.drop (i + 1)).map tx1 = n.map tx1 := by
 rw [hd, List.map_cons] at h
 rw [← h, List.append_assoc]
 rfl
theorem textI_ok {n : List Tag} (h : nameOk n = true) : textI n = text n := by unfold textI; rw [if_pos h]
theorem textI_no {n : List Tag} (h : nameOk n = false) : textI n = [] := by unfold textI; rw [if_neg (by simp [h])]
theorem askStepI {p : List Tag → Bool} {s : Sto} (hs : SD s) (hk : storeOk s = true) {lo hi : Int} {i : Nat} {id : Int} {k Y : List Hit} (h : k ++ ((findP p 0 s.idx.names).drop i).flatMap (hit1 s lo hi) = Y) (hd : (findP p 0 s.idx.names).drop i = id :: (findP p 0 s.idx.names).drop (i + 1)) (hl : ((cutI (rowsOf s id) lo hi).length : Int) > 0) {n : List Tag} (hn : s.idx.names[(id - 1).toNat]? = some n) :
 (k ++ [⟨textI n, cutI (rowsOf s id) lo hi⟩]) ++ ((findP p 0 s.idx.names).drop (i + 1)).flatMap (hit1 s lo hi) = Y := by
 have hid := findP_in (p := p) (l := s.idx.names) (x := id) (List.mem_of_mem_drop (by rw [hd]; simp))
 rw [textI_ok (hs.nm.ok n (List.mem_of_getElem? hn))]
 exact askStep h hd (cutI_rows hs hk hid.1 hid.2 lo hi) hl hn
theorem askSkipI {p : List Tag → Bool} {s : Sto} (hs : SD s) (hk : storeOk s = true) {lo hi : Int} {i : Nat} {id : Int} {k Y : List Hit} (h : k ++ ((findP p 0 s.idx.names).drop i).flatMap (hit1 s lo hi) = Y) (hd : (findP p 0 s.idx.names).drop i = id :: (findP p 0 s.idx.names).drop (i + 1)) (hl : ¬ ((cutI (rowsOf s id) lo hi).length : Int) > 0) :
 k ++ ((findP p 0 s.idx.names).drop (i + 1)).flatMap (hit1 s lo hi) = Y := by
 have hid := findP_in (p := p) (l := s.idx.names) (x := id) (List.mem_of_mem_drop (by rw [hd]; simp))
 exact askSkip h hd (cutI_rows hs hk hid.1 hid.2 lo hi) hl
theorem askEndI {s : Sto} {f : List Cnd} (hs : SD s) (hk : storeOk s = true) {lo hi : Int} {i : Nat} {k : List Hit} (h : k ++ ((findP (fitsI f) 0 s.idx.names).drop i).flatMap (hit1 s lo hi) = askP (fitsI f) s lo hi) (hi2 : (findP (fitsI f) 0 s.idx.names).length ≤ i) : askS s f lo hi = k := by
 rw [askS_I hs hk]
 exact (askEnd h hi2).symm
end Go.Proofs.YtfnpaglcnmcnbaaGreat
namespace Go.Proofs.YtfnpaglcnmcnbaaGreat
set_option maxRecDepth 100000
set_option maxHeartbeats 4000000
theorem c_impl_BlockCut (b : List Row) (from_ : Int) (to_ : Int) {w : World} {F : Nat → Prop} {a1 : Option Addr} {n1 c1 : Nat} (h1 : RepS w F a1 n1 c1 b) (p0 : b.length ≤ 1000000) : Calls Tryz.prog 38 [.slice a1 n1 c1, .int .i64 from_, .int .i64 to_].toArray w (rets fun rv w' => VL (ge w.heap.size) w' (cutI b from_ to_ : List Row) rv ∧ Ext w w') := by
 refine goT Tryz.func38 ?_
 obtain ⟨rfl, bj, h1⟩ := h1.tp
 refine .s <| .g <| .r 1 <| .d <| .s <| .g <| .ns 0 33 [] fun O aF ae ai aG aH => ?_
 have aq := gb_new ae (Nat.le_refl _)
 have aI : Cov nil w O := cov_new ae (Nat.le_refl _)
 replace h1 := (sn [] ai ae).g1 h1
 have C := ai
 clear ai aH ae
 have af : Own (α := Row) aF O 33 (nin (ge w.heap.size) [O]) 0 0 [] := Own.nil' aG
 refine .r 1 <| .d <| .s <| .s <| .g <| .r 1 <| .cl (c_impl_BlockOk b h1.ta (w := aF) (F := all)) ?_
 rintro bD aj ⟨rfl, ar⟩
 replace ⟨h1, af, C⟩ := (se [O] ar).g3 h1 af C
 clear ar
 cases bk : (blockOk b)
 ·refine .r 1 <| .d <| .ct <| .s <| .g <| .r 2 <| .d ?_
  have bc := af.sl aq
  replace h1 := (sd aj [O] O).g1 h1
  exact .rt Tryz.func38 Tryz.results38 (vS O 0 0) ⟨(bc.vl (by unfold cutI; (rw [if_neg (by simp [*])]; done)) (fun _ _ h => h.1)), C⟩
 refine .r 1 <| .d <| .cf <| .sk <| .s <| .s <| .g <| .r 3 <| .d <| .b 0 <| T.loop (X := (List Row) × Nat × Nat × Nat × Nat) (([] : List Row), O, 0, 0, 0) (fun (out, r_out, n_out, c_out, k) => [(1, vI from_), (2, vI to_), (7, vS r_out n_out c_out), (15, .slice a1 b.length c1), (16, vI (b.length : Int)), (17, vI (k : Int))]) (fun (out, r_out, n_out, c_out, k) ao => Chg (ins [O]) aj ao ∧ Own ao r_out 33 (nin (ge w.heap.size) [r_out]) n_out c_out out ∧ OrB r_out O aj.heap.size ∧ (k ≤ b.length) ∧ (out.length ≤ k) ∧ (out ++ (b.drop k).filter (fun r => inR r.t from_ to_) = cutB b from_ to_)) (fun (out, r_out, n_out, c_out, k) => b.length - k) (by kernel_rfl) ⟨by kernel_rfl, by kernel_rfl, by kernel_rfl, by kernel_rfl, by kernel_rfl, by kernel_rfl, trivial⟩ ⟨Chg.refl _ _, af, orb_refl, (by omega), (by simp), (by rfl)⟩ ?_
 rintro ⟨out, r_out, n_out, c_out, k⟩ bE ao ⟨J, E, W, bm, bn, bo⟩ aa
 have aJ := gb_or' W aq C.size
 have bq := cov_or' W aI C.size
 have aK : Cov (ins [O]) aj O := ⟨.inl (.head _)⟩
 have br := cov_or' W aK (Nat.le_refl _)
 have au : Mv [O] [r_out] aj ao := Mv.inl J (all_cons (.head _) all_nil) (all_cons (orb_mem W (.head _)) all_nil)
 replace ⟨h1, C⟩ := (sp au J).g2 h1 C
 clear au
 have bt := E.len; have bu := E.max
 refine .s <| .g <| .bp ((k : Int) < (b.length : Int)) (fun aL => ?_) (fun aL => ?_)
 ·refine .d <| .s <| .ct <| .sk <| .s <| .b 1 <| .s <| .g ?_
  have aM : k < b.length := (by omega)
  refine .ix k 2 h1 aM ?_
  obtain ⟨Z, ak⟩ : ∃ y, b[k]? = some y := ⟨_, List.getElem?_eq_getElem (by omega)⟩
  have bv := drop_at ak; have ba := List.mem_of_getElem? ak
  obtain ⟨_, rfl, aN⟩ := h1.elem k Z ak
  refine .lg 0 aN <| .np 33 [vI 0, vI 0] fun ah bF ab av aO aP => ?_
  have bw := nb_new ab E.lt
  have bz := C.cn ab
  have bA := J.cn ab
  replace ⟨E, C, J⟩ := (sn [r_out] av ab).g3 E C J
  clear av aP ab
  refine .sc [vI Z.t, vI Z.v] aO fun bd aw ac aQ => ?_
  replace ⟨E, C, J⟩ := (so [ah, r_out] aw).g3 E C J
  clear aw aQ
  refine .d <| .s <| .g <| .r 1 <| .lb ac <| .r 2 <| .cl (c_impl_within Z.t from_ to_ (w := bd) (F := all)) ?_
  rintro bG aR ⟨rfl, ax⟩
  replace ⟨E, ac, C, J⟩ := (se [ah, r_out] ax).g4 E ac C J
  clear ax
  cases ay : (inR Z.t from_ to_)
  ·have bB := inR_f ay
   refine .d <| .cf <| .sk <| .ib 1 <| .g <| .it ((k : Int) + 1) <| .r 1 <| .d ?_
   have aS : Mv [ah, r_out] [r_out] aR aR := Mv.less (all_cons (.tail _ (.head _)) all_nil)
   replace E := (sp aS (Chg.refl nil _)).g1 E
   exact aa (out, r_out, n_out, c_out, k + 1) _ _ ⟨by kernel_rfl, by kernel_rfl, by kernel_rfl, by kernel_rfl, by kernel_rfl, by kernel_rfl, trivial⟩ ⟨J, E, W, (by omega), (by omega), (by exact filterSkip (by assumption) (by assumption) (by assumption))⟩ (by (simp only []; omega))
  have bC := inR_t ay
  refine .d <| .ct <| .g <| .r 1 <| .ln ac <| .ns 1 33 [vI Z.t, vI Z.v] fun aT bH ag az aU aV => ?_
  have aA := nb_new ag E.lt
  have aW := nb_new ag ac.lt
  have aX := gb_new ag C.size
  replace ⟨E, C, J⟩ := (se [ah, r_out] az).g3 E C J
  clear az aV ag
  have al : nin (ge w.heap.size) [ah, r_out] aT ∧ aT ≠ r_out := hap_mk aX (all_cons aW (all_cons aA all_nil)) aA
  refine RG.append1 (T := 42) (ty := 42) (y := Z) E aU (by kernel_rfl) (by kernel_rfl) rfl al (by omega) fun aC bg aY V am aB => ?_
  have aD := orb_or am W J.size
  replace ⟨C, J⟩ := (s1 aB).g2 C J
  clear aB
  replace V := V.rn r_out
  clear am
  have bh := V.len; have bi := V.max
  refine .r 1 <| .d <| .ib 1 <| .g <| .it ((k : Int) + 1) <| .r 1 <| .d ?_
  have aE : Mv [ah, aC] [aC] aY aY := Mv.less (all_cons (.tail _ (.head _)) all_nil)
  replace V := (sp aE (Chg.refl nil _)).g1 V
  exact aa ((out ++ [Z]), aC, n_out + 1, bg, k + 1) _ _ ⟨by kernel_rfl, by kernel_rfl, by kernel_rfl, by kernel_rfl, by kernel_rfl, by kernel_rfl, trivial⟩ ⟨J, V, aD, (by omega), (by omega), (by exact filterStep (by assumption) (by assumption) (by assumption))⟩ (by (simp only []; omega))
 refine .d <| .s <| .cf <| .x 0 rfl <| .s <| .g <| .r 2 <| .d ?_
 have aZ := E.sl aJ
 exact .rt Tryz.func38 Tryz.results38 (vS r_out n_out c_out) ⟨(aZ.vl (by unfold cutI; (rw [if_pos (by assumption)]; exact filterEnd (by assumption) (by omega))) (fun _ _ h => h.1)), C⟩
theorem c_impl_FilterOk (f : List Cnd) {w : World} {F : Nat → Prop} {a1 : Option Addr} {n1 c1 : Nat} (h1 : RepS w F a1 n1 c1 f)  : Calls Tryz.prog 134 [.slice a1 n1 c1].toArray w (rets fun rv w' => rv = .bool (filtOk f) ∧ Ext w w') := by
 refine goT Tryz.func134 ?_
 obtain ⟨rfl, aq, h1⟩ := h1.tp
 refine .s <| .g <| .r 1 <| .d <| .s <| .s <| .g <| .r 3 <| .d <| .b 0 <| T.loop (X := Nat) 0 (fun k => [(0, .slice a1 f.length c1), (5, .slice a1 f.length c1), (6, vI (f.length : Int)), (7, vI (k : Int))]) (fun k Z => Chg (ins []) w Z ∧ (k ≤ f.length) ∧ ((f.drop k).all (fun c => tagOk c.tag) = f.all (fun c => tagOk c.tag))) (fun k => f.length - k) (by kernel_rfl) ⟨by kernel_rfl, by kernel_rfl, by kernel_rfl, by kernel_rfl, trivial⟩ ⟨Chg.refl _ _, (by simp), (by simp)⟩ ?_
 rintro k az Z ⟨C, ar, au⟩ O
 have aa : Mv [] [] w Z := Mv.inl C all_nil all_nil
 replace h1 := (sp aa C).g1 h1
 have E : Chg nil w Z := Chg.stepI (Chg.refl nil w) C all_nil
 clear aa
 refine .s <| .g <| .bp ((k : Int) < (f.length : Int)) (fun af => ?_) (fun af => .d <| .s <| .cf <| .x 0 rfl <| .s <| .g <| .r 4 <| .d <| .rt Tryz.func134 Tryz.results134 (.bool (decide ((f.length : Int) ≤ 3))) ⟨(congrArg Value.bool (by exact filtOk_yes (allEnd (by assumption) (by omega)))), E⟩)
 refine .d <| .s <| .ct <| .sk <| .s <| .b 1 <| .s <| .g ?_
 have ag : k < f.length := (by omega)
 refine .ix k 3 h1 ag ?_
 obtain ⟨J, V⟩ : ∃ y, f[k]? = some y := ⟨_, List.getElem?_eq_getElem (by omega)⟩
 have av := drop_at V; have am := List.mem_of_getElem? V
 obtain ⟨_, rfl, ah⟩ := h1.elem k J V
 refine .lg 0 ah <| .np 124 [.string (bs []), .string (bs []), .bool false] fun aA aB W ab ai aj => ?_
 have aw := E.cn W
 have ax := C.cn W
 replace ⟨E, C⟩ := (se [] ab).g2 E C
 clear ab aj W
 refine .sc [vT J.tag.key, vT J.tag.val, .bool J.no] ai fun ao ac ak al => ?_
 replace ⟨E, C⟩ := (s1 ac).g2 E C
 clear ac al
 refine .d <| .s <| .g <| .r 1 <| .ln ak <| .cl (c_impl_tagOk J.tag (w := ao) (F := all)) ?_
 rintro aC aD ⟨rfl, ae⟩
 replace ⟨E, C⟩ := (se [] ae).g2 E C
 clear ae
 cases ay : (tagOk J.tag)
 ·exact .r 1 <| .d <| .ct <| .s <| .g <| .r 1 <| .d <| .rt Tryz.func134 Tryz.results134 (.bool false) ⟨(congrArg Value.bool (by exact filtOk_no (allNo (by assumption) (by assumption) (by assumption)))), E⟩
 exact .r 1 <| .d <| .cf <| .sk <| .ib 1 <| .g <| .it ((k : Int) + 1) <| .r 1 <| .d <| O (k + 1) _ _ ⟨by kernel_rfl, by kernel_rfl, by kernel_rfl, by kernel_rfl, trivial⟩ ⟨C, (by omega), (by exact allStep (by assumption) (by assumption) (by assumption))⟩ (by omega)
theorem c_slices_Index_impl_Tag_impl_Tag (s : List Tag) (v : Tag) {w : World} {F : Nat → Prop} {a1 : Option Addr} {n1 c1 : Nat} (h1 : RepS w F a1 n1 c1 s)  : Calls Tryz.prog 166 [.slice a1 n1 c1, .agg #[.string (bs v.key), .string (bs v.val)]].toArray w (rets fun rv w' => rv = .int .i64 (idxT v 0 s) ∧ Ext w w') := by
 refine goT Tryz.func166 ?_
 obtain ⟨rfl, ao, h1⟩ := h1.tp
 refine .s <| .g <| .np 112 [vT v.key, vT v.val] fun Z ah aa O J ai => ?_
 replace h1 := (sn [] O aa).g1 h1
 have C := O
 clear O ai aa
 refine .r 1 <| .d <| .s <| .s <| .g <| .r 3 <| .d <| .b 0 <| T.loop (X := Nat) 0 (fun k => [(0, .slice a1 s.length c1), (3, .pointer (some ⟨Z, 0, none⟩)), (7, vI (s.length : Int)), (8, vI (k : Int))]) (fun k af => Chg (ins []) ah af ∧ (k ≤ s.length) ∧ (idxT v k (s.drop k) = idxT v 0 s)) (fun k => s.length - k) (by kernel_rfl) ⟨by kernel_rfl, by kernel_rfl, by kernel_rfl, by kernel_rfl, trivial⟩ ⟨Chg.refl _ _, (by simp), (by simp)⟩ ?_
 rintro k aw af ⟨E, aq, ar⟩ V
 have ab : Mv [Z] [Z] ah af := Mv.inl E all_nil (all_cons (.inl (.head _)) all_nil)
 replace ⟨h1, J, C⟩ := (sp ab E).g3 h1 J C
 clear ab
 refine .s <| .g <| .bp ((k : Int) < (s.length : Int)) (fun aj => ?_) (fun aj => .d <| .s <| .cf <| .x 0 rfl <| .s <| .g <| .r 1 <| .d <| .rt Tryz.func166 Tryz.results166 (vI (-1)) ⟨(congrArg (Value.int .i64) (by grind [idxT, drop_end])), C⟩)
 refine .d <| .s <| .ct <| .sk <| .s <| .b 1 <| .s <| .g <| .r 2 <| .d <| .s <| .gd nil 5 fun ax ac => ?_
 replace ⟨h1, J, C, E⟩ := (se [Z] ac).g4 h1 J C E
 clear ac
 refine .ln 0 J id <| .r [1, 2] ?_
 have ak : k < s.length := (by omega)
 refine .ix 3 k 2 h1 ak ?_
 obtain ⟨ag, W⟩ : ∃ y, s[k]? = some y := ⟨_, List.getElem?_eq_getElem (by omega)⟩
 have au := drop_at W; have am := List.mem_of_getElem? W
 obtain ⟨_, rfl, al⟩ := h1.elem k ag W
 refine .lg 4 0 al id <| .d fun ay ae => ?_
 replace ⟨C, E⟩ := (se [] ae).g2 C E
 clear ae
 refine RG.tagEq (t := 112) (x := v) (y := ag) (by kernel_rfl) (by kernel_rfl) ?_
 cases av : (v == ag)
 ·exact .d <| .cf <| .sk <| .ib 1 <| .g <| .it ((k : Int) + 1) <| .r 1 <| .d <| V (k + 1) _ _ ⟨by kernel_rfl, by kernel_rfl, by kernel_rfl, by kernel_rfl, trivial⟩ ⟨E, (by omega), (by grind [idxT])⟩ (by omega)
 exact .d <| .ct <| .s <| .g <| .r 2 <| .d <| .rt Tryz.func166 Tryz.results166 (vI (k : Int)) ⟨(congrArg (Value.int .i64) (by grind [idxT, drop_end])), C⟩
theorem c_slices_Contains_impl_Tag_impl_Tag (s : List Tag) (v : Tag) {w : World} {F : Nat → Prop} {a1 : Option Addr} {n1 c1 : Nat} (h1 : RepS w F a1 n1 c1 s)  : Calls Tryz.prog 135 [.slice a1 n1 c1, .agg #[.string (bs v.key), .string (bs v.val)]].toArray w (rets fun rv w' => rv = .bool (has s v) ∧ Ext w w') := by
 refine goT Tryz.func135 ?_
 obtain ⟨rfl, aa, h1⟩ := h1.tp
 refine .s <| .g <| .np 112 [vT v.key, vT v.val] fun ab Z J C V W => ?_
 replace h1 := (sn [] C J).g1 h1
 have E := C
 clear C W J
 refine .r 1 <| .d <| .s <| .g <| .r 1 <| .ln V <| .cl (c_slices_Index_impl_Tag_impl_Tag s v h1.ta (w := Z) (F := all)) ?_
 rintro ac ae ⟨rfl, O⟩
 replace E := (se [] O).g1 E
 clear O
 exact .r 2 <| .d <| .rt Tryz.func135 Tryz.results135 (.bool (decide (idxT v 0 s ≥ 0))) ⟨(congrArg Value.bool (by exact (idxT_has v s 0).symm)), E⟩
theorem c_impl_FilterFits (f : List Cnd) (n : List Tag) {w : World} {F : Nat → Prop} {a1 : Option Addr} {n1 c1 : Nat} (h1 : RepS w F a1 n1 c1 f) {a2 : Option Addr} {n2 c2 : Nat} (h2 : RepS w F a2 n2 c2 n) (p0 : n.length ≤ 1000) : Calls Tryz.prog 85 [.slice a1 n1 c1, .slice a2 n2 c2].toArray w (rets fun rv w' => rv = .bool (fitsI f n) ∧ Ext w w') := by
 refine goT Tryz.func85 ?_
 obtain ⟨rfl, az, h1⟩ := h1.tp
 obtain ⟨rfl, aA, h2⟩ := h2.tp
 refine .s <| .g <| .r 1 <| .d <| .s <| .s <| .g <| .r 1 <| .cl (c_impl_FilterOk f h1.ta (w := w) (F := all)) ?_
 rintro aL ax ⟨rfl, W⟩
 replace ⟨h1, h2⟩ := (se [] W).g2 h1 h2
 have C := W
 clear W
 cases aB : (filtOk f)
 ·exact .r 6 <| .d <| .ct <| .s <| .g <| .r 1 <| .d <| .rt Tryz.func85 Tryz.results85 (.bool false) ⟨(congrArg Value.bool (by unfold fitsI; (simp [*]; done))), C⟩
 refine .r 3 <| .cl (c_impl_NameOk n h2.ta (w := ax) (F := all)) ?_
 rintro aM aj ⟨rfl, ab⟩
 replace ⟨h1, h2, C⟩ := (se [] ab).g3 h1 h2 C
 clear ab
 cases aC : (nameOk n)
 ·exact .r 2 <| .d <| .ct <| .s <| .g <| .r 1 <| .d <| .rt Tryz.func85 Tryz.results85 (.bool false) ⟨(congrArg Value.bool (by unfold fitsI; (simp [*]; done))), C⟩
 refine .r 2 <| .d <| .cf <| .sk <| .s <| .s <| .g <| .r 3 <| .d <| .b 0 <| T.loop (X := Nat) 0 (fun k => [(1, .slice a2 n.length c2), (15, .slice a1 f.length c1), (16, vI (f.length : Int)), (17, vI (k : Int))]) (fun k ai => Chg (ins []) aj ai ∧ (k ≤ f.length) ∧ (filtOk f = true) ∧ (nameOk n = true) ∧ ((f.drop k).all (fun c => has n c.tag != c.no) = fits f n)) (fun k => f.length - k) (by kernel_rfl) ⟨by kernel_rfl, by kernel_rfl, by kernel_rfl, by kernel_rfl, trivial⟩ ⟨Chg.refl _ _, (by omega), (by omega), (by omega), (by rfl)⟩ ?_
 rintro k aN ai ⟨E, aD, aE, aF, aG⟩ Z
 have ac : Mv [] [] aj ai := Mv.inl E all_nil all_nil
 replace ⟨h1, h2, C⟩ := (sp ac E).g3 h1 h2 C
 clear ac
 refine .s <| .g <| .bp ((k : Int) < (f.length : Int)) (fun ak => ?_) (fun ak => .d <| .s <| .cf <| .x 0 rfl <| .s <| .g <| .r 1 <| .d <| .rt Tryz.func85 Tryz.results85 (.bool true) ⟨(congrArg Value.bool (by unfold fitsI; rw [allEnd (f := fun c : Cnd => has n c.tag != c.no) (by assumption : (f.drop k).all _ = fits f n) (by omega)]; simp [*])), C⟩)
 refine .d <| .s <| .ct <| .sk <| .s <| .b 1 <| .s <| .g ?_
 have al : k < f.length := (by omega)
 refine .ix k 3 h1 al ?_
 obtain ⟨J, aa⟩ : ∃ y, f[k]? = some y := ⟨_, List.getElem?_eq_getElem (by omega)⟩
 have aH := drop_at aa; have aw := List.mem_of_getElem? aa
 obtain ⟨_, rfl, am⟩ := h1.elem k J aa
 refine .lg 0 am <| .np 124 [.string (bs []), .string (bs []), .bool false] fun ao aO O ae aq ar => ?_
 have aI := C.cn O
 have aJ := E.cn O
 replace ⟨h2, C, E⟩ := (sn [] ae O).g3 h2 C E
 clear ae ar O
 refine .sc [vT J.tag.key, vT J.tag.val, .bool J.no] aq fun aP af V au => ?_
 replace ⟨h2, C, E⟩ := (so [ao] af).g3 h2 C E
 clear af au
 refine .d <| .s <| .gd nil 6 fun aQ ag => ?_
 replace ⟨h2, V, C, E⟩ := (se [ao] ag).g4 h2 V C E
 clear ag
 refine .r [0, 1] <| .ln 2 V id <| GA.call1 (i := 3) (by kernel_rfl) (fun ay av => c_slices_Contains_impl_Tag_impl_Tag n J.tag (h2.ta.ext av) (w := ay) (F := all)) <| .r [4] <| .lb 5 V id <| .d fun aR ah => ?_
 replace ⟨C, E⟩ := (se [] ah).g2 C E
 clear ah
 refine RG.eqv (v := .bool ((has n J.tag) == J.no)) (v' := .bool ((has n J.tag) == J.no)) (by kernel_rfl) (by rfl) ?_
 cases aK : ((has n J.tag) == J.no)
 ·exact .d <| .cf <| .sk <| .ib 1 <| .g <| .it ((k : Int) + 1) <| .r 1 <| .d <| Z (k + 1) _ _ ⟨by kernel_rfl, by kernel_rfl, by kernel_rfl, by kernel_rfl, trivial⟩ ⟨E, (by omega), (by assumption), (by assumption), (by exact allStep (by assumption) (by assumption) (by simp_all))⟩ (by omega)
 exact .d <| .ct <| .s <| .g <| .r 1 <| .d <| .rt Tryz.func85 Tryz.results85 (.bool false) ⟨(congrArg Value.bool (by unfold fitsI; (rw [allNo (f := fun c : Cnd => has n c.tag != c.no) (by assumption : (f.drop k).all _ = fits f n) (by assumption) (by simp_all)]; simp))), C⟩
theorem c_impl_IndexFind (ix : Idx) (f : List Cnd) {w : World} {F : Nat → Prop} {a1 : Option Addr} {n1 c1 : Nat} (h1 : RepS w F a1 n1 c1 ix.names) {a2 : Option Addr} {n2 c2 : Nat} (h2 : RepS w F a2 n2 c2 ix.posts) {a3 : Option Addr} {n3 c3 : Nat} (h3 : RepS w F a3 n3 c3 f) (p0 : IxI ix) (p1 : NsD ix.names) : Calls Tryz.prog 37 [.agg #[.slice a1 n1 c1, .slice a2 n2 c2], .slice a3 n3 c3].toArray w (rets fun rv w' => VL (ge w.heap.size) w' (findP (fitsI f) 0 ix.names : List Int) rv ∧ Ext w w') := by
 refine goT Tryz.func37 ?_
 obtain ⟨rfl, ba, h1⟩ := h1.tp
 obtain ⟨rfl, bc, h2⟩ := h2.tp
 obtain ⟨rfl, bd, h3⟩ := h3.tp
 refine .s <| .g <| .np 26 [.slice a1 ix.names.length c1, .slice a2 ix.posts.length c2] fun W bu am af E aB => ?_
 replace ⟨h1, h2, h3⟩ := (sn [] af am).g3 h1 h2 h3
 have C := af
 clear af aB am
 refine .r 1 <| .d <| .s <| .g <| .ns 0 3 [] fun Z aC aa ao aD aE => ?_
 have aF := nb_new aa E.lt
 have aG := gb_new aa C.size
 have aH := C.cn aa
 replace ⟨h1, h2, h3, E, C⟩ := (sn [W] ao aa).g5 h1 h2 h3 E C
 clear ao aE aa
 have ag : Own (α := Int) aC Z 3 (nin (ge w.heap.size) [Z, W]) 0 0 [] := Own.nil' aD
 refine .r 1 <| .d <| .s <| .s <| .g <| .ln E <| .cl (c_impl_IndexOk ix h1.ta h2.ta p0 p1 (w := aC) (F := all)) ?_
 rintro bv al ⟨rfl, aq⟩
 replace ⟨h1, h3, E, ag, C⟩ := (se [Z, W] aq).g5 h1 h3 E ag C
 clear aq
 refine .r 1 <| .d <| .cf <| .sk <| .s <| .s <| .g <| .r 1 <| .lb E <| .r 2 <| .d <| .b 0 <| T.loop (X := (List Int) × Nat × Nat × Nat × Nat) (([] : List Int), Z, 0, 0, 0) (fun (out, r_out, n_out, c_out, k) => [(1, .slice a3 f.length c3), (5, vS r_out n_out c_out), (14, .slice a1 ix.names.length c1), (15, vI (ix.names.length : Int)), (16, vI (k : Int))]) (fun (out, r_out, n_out, c_out, k) ah => Chg (ins [Z]) al ah ∧ Own ah r_out 3 (nin (ge w.heap.size) [r_out, W]) n_out c_out out ∧ OrB r_out Z al.heap.size ∧ (k ≤ ix.names.length) ∧ (out.length ≤ k) ∧ (out ++ findP (fitsI f) k (ix.names.drop k) = findP (fitsI f) 0 ix.names)) (fun (out, r_out, n_out, c_out, k) => ix.names.length - k) (by kernel_rfl) ⟨by kernel_rfl, by kernel_rfl, by kernel_rfl, by kernel_rfl, by kernel_rfl, trivial⟩ ⟨Chg.refl _ _, ag, orb_refl, (by omega), (by simp), (by rfl)⟩ ?_
 rintro ⟨out, r_out, n_out, c_out, k⟩ bw ah ⟨J, O, V, bg, bh, bi⟩ ab
 have bj := nb_or' V aF E.lt
 have aI := gb_or' V aG C.size
 have bk := cov_or' V aH C.size
 have aJ : Cov (ins [Z]) al Z := ⟨.inl (.head _)⟩
 have bm := cov_or' V aJ (Nat.le_refl _)
 have ar : Mv [Z, W] [r_out, W] al ah := Mv.inl J (all_cons (.head _) all_nil) (all_cons (orb_mem V (.head _)) (all_cons (.inl (.tail _ (.head _))) all_nil))
 replace ⟨h1, h3, E, C⟩ := (sp ar J).g4 h1 h3 E C
 clear ar
 have bn := O.len; have bo := O.max
 refine .s <| .g <| .bp ((k : Int) < (ix.names.length : Int)) (fun aK => ?_) (fun aK => ?_)
 ·refine .d <| .s <| .ct <| .sk <| .s <| .b 1 <| .s <| .g <| .r 1 ?_
  have aL : k < ix.names.length := (by omega)
  refine .ix k 1 h1 aL ?_
  obtain ⟨ay, ai⟩ : ∃ y, ix.names[k]? = some y := ⟨_, List.getElem?_eq_getElem (by omega)⟩
  have bq := drop_at ai; have aU := List.mem_of_getElem? ai
  obtain ⟨_, ⟨bz, bA, bB, rfl, az⟩, aM⟩ := h1.elem k ay ai
  have aN := az.len
  subst aN
  have br := az.max
  refine .lh 0 aM <| .r 2 <| .d <| .s <| .g <| .r 2 <| .cl (c_impl_FilterFits f ay h3.ta az.ta (by have q1 := (p0.nm.sz _ (by assumption)).1; omega) (w := ah) (F := all)) ?_
  rintro bC bD ⟨rfl, au⟩
  replace ⟨E, O, C, J⟩ := (se [r_out, W] au).g4 E O C J
  clear au
  cases bt : (fitsI f ay)
  ·exact .d <| .cf <| .sk <| .ib 1 <| .g <| RG.int ((k : Int) + 1) (by kernel_rfl) (by have q1 := p0.nm.len; omega) <| .r 1 <| .d <| ab (out, r_out, n_out, c_out, k + 1) _ _ ⟨by kernel_rfl, by kernel_rfl, by kernel_rfl, by kernel_rfl, by kernel_rfl, trivial⟩ ⟨J, O, V, (by omega), (by omega), (by exact findSkip (by assumption) (by assumption) (by assumption))⟩ (by (simp only []; omega))
  refine .d <| .ct <| .g <| .r 2 <| RG.int ((k : Int) + 1) (by kernel_rfl) (by have q1 := p0.nm.len; omega) <| .ns 1 3 [vI ((k : Int) + 1)] fun aO bE ae av aP aQ => ?_
  have aR := nb_new ae E.lt
  have aw := nb_new ae O.lt
  have aS := gb_new ae C.size
  replace ⟨O, C, J⟩ := (se [r_out, W] av).g3 O C J
  clear av aQ ae
  have aj : nin (ge w.heap.size) [r_out, W] aO ∧ aO ≠ r_out := hap_mk aS (all_cons aw (all_cons aR all_nil)) aw
  refine RG.append1 (T := 68) (ty := 68) (y := (k : Int) + 1) O aP (by kernel_rfl) (by kernel_rfl) rfl aj (by have q1 := p0.nm.len; omega) fun aW aX bF ac ak ax => ?_
  have aA := orb_or ak V J.size
  replace ⟨C, J⟩ := (s1 ax).g2 C J
  clear ax
  replace ac := ac.rn r_out
  clear ak
  have aY := ac.len; have aZ := ac.max
  exact .r 1 <| .d <| .ib 1 <| .g <| RG.int ((k : Int) + 1) (by kernel_rfl) (by have q1 := p0.nm.len; omega) <| .r 1 <| .d <| ab ((out ++ [(k : Int) + 1]), aW, n_out + 1, aX, k + 1) _ _ ⟨by kernel_rfl, by kernel_rfl, by kernel_rfl, by kernel_rfl, by kernel_rfl, trivial⟩ ⟨J, ac, aA, (by omega), (by omega), (by exact findStep (by assumption) (by assumption) (by assumption))⟩ (by (simp only []; omega))
 refine .d <| .s <| .cf <| .x 0 rfl <| .s <| .g <| .r 2 <| .d ?_
 have aT := O.sl aI
 exact .rt Tryz.func37 Tryz.results37 (vS r_out n_out c_out) ⟨(aT.vl (by exact findEnd (by assumption) (by omega)) (fun _ _ h => h.1)), C⟩
end Go.Proofs.YtfnpaglcnmcnbaaGreat
namespace Go.Proofs.YtfnpaglcnmcnbaaGreat
set_option maxRecDepth 100000
set_option maxHeartbeats 4000000
theorem c_laws_lyHits (a : List Hit) (b : List Hit) {w : World} {F : Nat → Prop} {a1 : Option Addr} {n1 c1 : Nat} (h1 : RepS w F a1 n1 c1 a) {a2 : Option Addr} {n2 c2 : Nat} (h2 : RepS w F a2 n2 c2 b)  : Calls Tryz.prog 34 [.slice a1 n1 c1, .slice a2 n2 c2].toArray w (rets fun rv w' => rv = .bool ((a == b)) ∧ Ext w w') := by
 refine goT Tryz.func34 ?_
 obtain ⟨rfl, aA, h1⟩ := h1.tp
 obtain ⟨rfl, aB, h2⟩ := h2.tp
 refine .s <| .g <| .r 1 <| .d <| .s <| .s <| .g <| .r 4 <| .ne (a.length : Int) (b.length : Int) (fun al => .d <| .ct <| .s <| .g <| .r 1 <| .d <| .rt Tryz.func34 Tryz.results34 (.bool false) ⟨(congrArg Value.bool (by grind [drop_end, hit_eq])), (Chg.refl _ _)⟩) fun al => .d <| .cf <| .sk <| .s <| .s <| .g <| .r 1 <| .d <| .b 0 <| T.loop (X := Nat) 0 (fun i => [(0, .slice a1 a.length c1), (1, .slice a2 b.length c2), (5, vI (i : Int))]) (fun i ac => Chg (ins []) w ac ∧ (i ≤ a.length) ∧ (a.drop i = b.drop i ↔ a = b)) (fun i => a.length - i) (by kernel_rfl) ⟨by kernel_rfl, by kernel_rfl, by kernel_rfl, trivial⟩ ⟨Chg.refl _ _, (by simp), (by simp)⟩ ?_
 rintro i aK ac ⟨C, aC, aD⟩ Z
 have ae : Mv [] [] w ac := Mv.inl C all_nil all_nil
 replace ⟨h1, h2⟩ := (sp ae C).g2 h1 h2
 have E : Chg nil w ac := Chg.stepI (Chg.refl nil w) C all_nil
 clear ae
 refine .s <| .s <| .g <| .r 3 <| .bp ((i : Int) < (a.length : Int)) (fun am => ?_) (fun am => .d <| .cf <| .x 0 rfl <| .s <| .g <| .r 1 <| .d <| .rt Tryz.func34 Tryz.results34 (.bool true) ⟨(congrArg Value.bool (by grind [drop_end, hit_eq])), E⟩)
 refine .d <| .ct <| .sk <| .s <| .b 1 <| .s <| .gd nil 22 fun aL af => ?_
 replace ⟨h1, h2, E, C⟩ := (se [] af).g4 h1 h2 E C
 clear af
 refine .r [0, 1] ?_
 have ao : i < a.length := (by omega)
 refine .ix 2 i 2 h1 ao <| .r [3] ?_
 obtain ⟨V, aa⟩ : ∃ y, a[i]? = some y := ⟨_, List.getElem?_eq_getElem (by omega)⟩
 have aE := drop_at aa; have ax := List.mem_of_getElem? aa
 obtain ⟨_, ⟨aM, aN, aO, rfl, J⟩, ag⟩ := h1.elem i V aa
 have aq := J.len
 subst aq
 have aF := J.max
 refine .lh 4 0 ag id <| .r [5, 6] ?_
 have ar : i < b.length := (by omega)
 refine .ix 7 i 2 h2 ar <| .r [8] ?_
 obtain ⟨W, ab⟩ : ∃ y, b[i]? = some y := ⟨_, List.getElem?_eq_getElem (by omega)⟩
 have aG := drop_at ab; have ay := List.mem_of_getElem? ab
 obtain ⟨_, ⟨aP, aQ, aR, rfl, O⟩, ah⟩ := h2.elem i W ab
 have au := O.len
 subst au
 have aH := O.max
 refine .lh 9 0 ah id <| GA.eqv (i := 10) (v := .bool (!(V.name == W.name))) (by kernel_rfl) (s_ne V.name W.name) ?_
 cases aI : (V.name == W.name)
 ·refine .r [11, 12, 13, 14, 15, 16, 17, 18, 19, 20, 21] <| .d fun aS ai => ?_
  replace ⟨h1, h2, J, O, E, C⟩ := (se [] ai).g6 h1 h2 J O E C
  clear ai
  exact .r 3 <| .d <| .ct <| .s <| .g <| .r 1 <| .d <| .rt Tryz.func34 Tryz.results34 (.bool false) ⟨(congrArg Value.bool (by grind [drop_end, hit_eq])), E⟩
 refine .r [11, 12, 13] ?_
 have av : i < a.length := (by omega)
 refine .ix 14 i 2 h1 av <| .r [15] <| .lh 16 1 ag id <| .r [17, 18] ?_
 have aw : i < b.length := (by omega)
 refine .ix 19 i 2 h2 aw <| .r [20] <| .lh 21 1 ah id <| .d fun az aj => ?_
 replace ⟨J, O, E, C⟩ := (se [] aj).g4 J O E C
 clear aj
 refine .cl (c_laws_lyRows V.rows W.rows J.ta O.ta (w := az) (F := all)) ?_
 rintro aT aU ⟨rfl, ak⟩
 replace ⟨E, C⟩ := (se [] ak).g2 E C
 clear ak
 cases aJ : (V.rows == W.rows)
 ·exact .r 2 <| .d <| .ct <| .s <| .g <| .r 1 <| .d <| .rt Tryz.func34 Tryz.results34 (.bool false) ⟨(congrArg Value.bool (by grind [drop_end, hit_eq])), E⟩
 exact .r 2 <| .d <| .cf <| .sk <| .ib 1 <| .g <| .r 1 <| .it ((i : Int) + 1) <| .r 1 <| .d <| Z (i + 1) _ _ ⟨by kernel_rfl, by kernel_rfl, by kernel_rfl, trivial⟩ ⟨C, (by omega), (by grind [hit_eq])⟩ (by omega)
set_option maxRecDepth 100000 in
set_option maxHeartbeats 4000000 in
theorem c_impl_NameText (n : List Tag) {w : World} {F : Nat → Prop} {a1 : Option Addr} {n1 c1 : Nat} (h1 : RepS w F a1 n1 c1 n) (p0 : NmSz n) : Calls Tryz.prog 39 [.slice a1 n1 c1].toArray w (rets fun rv w' => rv = .string (bs (textI n)) ∧ Ext w w') := by
 refine goT Tryz.func39 ?_
 obtain ⟨rfl, aV, h1⟩ := h1.tp
 refine .s <| .g <| .r 1 <| .d <| .s <| .s <| .g <| .r 1 <| .cl (c_impl_NameOk n h1.ta (w := w) (F := all)) ?_
 rintro bo bq ⟨rfl, ac⟩
 replace h1 := (se [] ac).g1 h1
 have C := ac
 clear ac
 cases aW : (nameOk n)
 ·exact .r 1 <| .d <| .ct <| .s <| .g <| .r 1 <| .d <| .rt Tryz.func39 Tryz.results39 (.string (bs [])) ⟨(congrArg (fun s => Value.string (bs s)) (by rw [textI_no (by assumption)])), C⟩
 refine .r 1 <| .d <| .cf <| .sk <| .s <| .g <| .ns 0 9 [] fun W ae af ao aA aB => ?_
 have aC := C.cn af
 replace ⟨h1, C⟩ := (sn [] ao af).g2 h1 C
 clear ao aB af
 have aD : Own (α := Txt) ae W 9 (nin (ge w.heap.size) [W]) 0 0 [] := Own.nil' aA
 refine .r 1 <| .d <| .s <| .s <| .g <| .r 3 <| .d <| .b 0 <| T.loop (X := (List Txt) × Nat × Nat × Nat × Nat) (([] : List Txt), W, 0, 0, 0) (fun (out, r_out, n_out, c_out, k) => [(3, vS r_out n_out c_out), (10, .slice a1 n.length c1), (11, vI (n.length : Int)), (12, vI (k : Int))]) (fun (out, r_out, n_out, c_out, k) ag => Chg (ins [W]) ae ag ∧ Own ag r_out 9 (nin (ge w.heap.size) [r_out]) n_out c_out out ∧ OrB r_out W ae.heap.size ∧ (k ≤ n.length) ∧ (out.length ≤ k) ∧ (out ++ (n.drop k).map tx1 = n.map tx1)) (fun (out, r_out, n_out, c_out, k) => n.length - k) (by kernel_rfl) ⟨by kernel_rfl, by kernel_rfl, by kernel_rfl, by kernel_rfl, trivial⟩ ⟨Chg.refl _ _, aD, orb_refl, (by omega), (by simp), (by rfl)⟩ ?_
 rintro ⟨out, r_out, n_out, c_out, k⟩ br ag ⟨E, J, aa, aX, aY, aZ⟩ ah
 have ba := cov_or' aa aC C.size
 have aE : Cov (ins [W]) ae W := ⟨.inl (.head _)⟩
 have bc := cov_or' aa aE (Nat.le_refl _)
 have aq : Mv [W] [r_out] ae ag := Mv.inl E (all_cons (.head _) all_nil) (all_cons (orb_mem aa (.head _)) all_nil)
 replace ⟨h1, C⟩ := (sp aq E).g2 h1 C
 clear aq
 have bd := J.len; have bg := J.max
 refine .s <| .g <| .bp ((k : Int) < (n.length : Int)) (fun aF => ?_) (fun aF => ?_)
 ·refine .d <| .s <| .ct <| .sk <| .s <| .b 1 <| .s <| .g ?_
  have aG : k < n.length := (by omega)
  refine .ix k 2 h1 aG ?_
  obtain ⟨O, ai⟩ : ∃ y, n[k]? = some y := ⟨_, List.getElem?_eq_getElem (by omega)⟩
  have bh := drop_at ai; have aT := List.mem_of_getElem? ai
  obtain ⟨_, rfl, aH⟩ := h1.elem k O ai
  refine .lg 0 aH <| .np 112 [.string (bs []), .string (bs [])] fun am bt Z ar aI aJ => ?_
  have bi := nb_new Z J.lt
  have bj := C.cn Z
  have bk := E.cn Z
  replace ⟨J, C, E⟩ := (sn [r_out] ar Z).g3 J C E
  clear ar aJ Z
  refine .sc [vT O.key, vT O.val] aI fun bu au aj aK => ?_
  replace ⟨J, C, E⟩ := (so [am, r_out] au).g3 J C E
  clear au aK
  refine .d <| .g <| .r 2 <| .lb aj <| RG.cat (t := 9) (s := O.key) (u := [61]) (by kernel_rfl) (by have q1 := p0.2 _ (by assumption); simp only [List.length_append, List.length_cons, List.length_nil]; omega) <| .r 1 <| .lb aj <| RG.cat (t := 9) (s := (O.key ++ [61])) (u := O.val) (by kernel_rfl) (by have q1 := p0.2 _ (by assumption); simp only [List.length_append, List.length_cons, List.length_nil]; omega) <| .ns 1 9 [.string (bs ((O.key ++ [61]) ++ O.val))] fun aL bw ab av aM aN => ?_
  have aw := nb_new ab J.lt
  have aO := nb_new ab aj.lt
  have aP := gb_new ab C.size
  replace ⟨J, C, E⟩ := (se [am, r_out] av).g3 J C E
  clear av aN ab
  have ak : nin (ge w.heap.size) [am, r_out] aL ∧ aL ≠ r_out := hap_mk aP (all_cons aO (all_cons aw all_nil)) aw
  refine RG.append1 (T := 126) (ty := 126) (y := (⟨((O.key ++ [61]) ++ O.val)⟩ : Txt)) J aM (by kernel_rfl) (by kernel_rfl) rfl ak (by have := p0.1; omega) fun az aU aQ V al ax => ?_
  have aR := orb_or al aa E.size
  replace ⟨C, E⟩ := (s1 ax).g2 C E
  clear ax
  replace V := V.rn r_out
  clear al
  have bm := V.len; have bn := V.max
  refine .r 1 <| .d <| .ib 1 <| .g <| .it ((k : Int) + 1) <| .r 1 <| .d ?_
  have aS : Mv [am, az] [az] aQ aQ := Mv.less (all_cons (.tail _ (.head _)) all_nil)
  replace V := (sp aS (Chg.refl nil _)).g1 V
  exact ah ((out ++ [(⟨((O.key ++ [61]) ++ O.val)⟩ : Txt)]), az, n_out + 1, aU, k + 1) _ _ ⟨by kernel_rfl, by kernel_rfl, by kernel_rfl, by kernel_rfl, trivial⟩ ⟨E, V, aR, (by omega), (by omega), (by exact joinStep (by assumption) (by assumption))⟩ (by (simp only []; omega))
 refine .d <| .s <| .cf <| .x 0 rfl <| .s <| .g <| .r 1 <| .cl (c_strings_Join out [44] (J.rep) (joinSz (by assumption) (by omega) p0) (by have := p0.1; omega) (w := ag) (F := all)) ?_
 rintro bz bA ⟨rfl, ay⟩
 replace C := (se [] ay).g1 C
 clear ay
 exact .r 1 <| .d <| .rt Tryz.func39 Tryz.results39 (.string (bs (Lib.join (out.map Txt.s) [44]))) ⟨(congrArg (fun s => Value.string (bs s)) (by (rw [joinEnd (by assumption) (by omega), textI_ok (by assumption)]))), C⟩
theorem c_impl_StoreAsk (s : Sto) (f : List Cnd) (from_ : Int) (to_ : Int) {w : World} {F : Nat → Prop} {a1 : Option Addr} {n1 c1 : Nat} (h1 : RepS w F a1 n1 c1 s.idx.names) {a2 : Option Addr} {n2 c2 : Nat} (h2 : RepS w F a2 n2 c2 s.idx.posts) {a3 : Option Addr} {n3 c3 : Nat} (h3 : RepS w F a3 n3 c3 s.parts) {a4 : Option Addr} {n4 c4 : Nat} (h4 : RepS w F a4 n4 c4 s.mem) {a5 : Option Addr} {n5 c5 : Nat} (h5 : RepS w F a5 n5 c5 f) (p0 : SD s) : Calls Tryz.prog 33 [.agg #[.slice a1 n1 c1, .slice a2 n2 c2, .slice a3 n3 c3, .slice a4 n4 c4], .slice a5 n5 c5, .int .i64 from_, .int .i64 to_].toArray w (rets fun rv w' => VL (ge w.heap.size) w' (askS s f from_ to_ : List Hit) rv ∧ Ext w w') := by
 refine goT Tryz.func33 ?_
 obtain ⟨rfl, bL, h1⟩ := h1.tp
 obtain ⟨rfl, bM, h2⟩ := h2.tp
 obtain ⟨rfl, bN, h3⟩ := h3.tp
 obtain ⟨rfl, bO, h4⟩ := h4.tp
 obtain ⟨rfl, bP, h5⟩ := h5.tp
 refine .s <| .g <| .np 30 [.slice a1 s.idx.names.length c1, .slice a2 s.idx.posts.length c2, .slice a3 s.parts.length c3, .slice a4 s.mem.length c4] fun V cj aE aq E ba => ?_
 replace ⟨h1, h2, h3, h4, h5⟩ := (sn [] aq aE).g5 h1 h2 h3 h4 h5
 have C := aq
 clear aq ba aE
 refine .r 1 <| .d <| .s <| .g <| .ns 0 66 [] fun W bc ag aF bd bg => ?_
 have bh := nb_new ag E.lt
 have aG := gb_new ag C.size
 have bi := C.cn ag
 replace ⟨h1, h2, h3, h4, h5, E, C⟩ := (sn [V] aF ag).g7 h1 h2 h3 h4 h5 E C
 clear aF bg ag
 have ab : Own (α := Hit) bc W 66 (nin (ge w.heap.size) [W, V]) 0 0 [] := Own.nil' bd
 refine .r 1 <| .d <| .s <| .s <| .g <| .ln E <| .cl (c_impl_StoreOk s h1.ta h2.ta h3.ta h4.ta p0 (w := bc) (F := all)) ?_
 rintro ck aQ ⟨rfl, aH⟩
 replace ⟨h1, h2, h3, h4, h5, E, ab, C⟩ := (se [W, V] aH).g8 h1 h2 h3 h4 h5 E ab C
 clear aH
 cases bQ : (storeOk s)
 ·refine .r 1 <| .d <| .ct <| .s <| .g <| .r 2 <| .d ?_
  have bA := ab.sl aG
  replace ⟨h1, h2, h3, h4, h5⟩ := (sd aQ [W, V] W).g5 h1 h2 h3 h4 h5
  exact .rt Tryz.func33 Tryz.results33 (vS W 0 0) ⟨(bA.vl (by rw [askS_1 (.inl (by assumption))]) (fun _ _ h => h.1)), C⟩
 refine .r 1 <| .d <| .cf <| .sk <| .s <| .s <| .g <| .r 1 <| .ln E <| .r 1 <| .cl (c_impl_IndexFind s.idx f h1.ta h2.ta h5.ta p0.ix p0.nd (w := aQ) (F := all)) ?_
 rintro cm aB ⟨⟨bB, bC, rfl, aj⟩, aI⟩
 have aJ := al2 ab.lt E.lt
 have bj : Gb w.heap.size aQ.heap.size := C.size
 replace ⟨h1, h2, h3, h4, E, ab, C⟩ := (se [W, V] aI).g7 h1 h2 h3 h4 E ab C
 clear aI
 have aj := aj.fr aJ bj
 have bR := aj.max
 clear aJ
 refine .r 2 <| .d <| .b 0 <| T.loop (X := (List Hit) × Nat × Nat × Nat × Nat) (([] : List Hit), W, 0, 0, 0) (fun (out, r_out, n_out, c_out, k) => [(2, vI from_), (3, vI to_), (4, .pointer (some ⟨V, 0, none⟩)), (9, vS r_out n_out c_out), (21, .slice bB ((findP (fitsI f) 0 s.idx.names).length) bC), (22, vI (((findP (fitsI f) 0 s.idx.names).length) : Int)), (23, vI (k : Int))]) (fun (out, r_out, n_out, c_out, k) am => Chg (ins [W]) aB am ∧ Own am r_out 66 (nin (ge w.heap.size) [r_out, V]) n_out c_out out ∧ OrB r_out W aB.heap.size ∧ (k ≤ (findP (fitsI f) 0 s.idx.names).length) ∧ (out.length ≤ k) ∧ (out ++ ((findP (fitsI f) 0 s.idx.names).drop k).flatMap (hit1 s from_ to_) = askP (fitsI f) s from_ to_)) (fun (out, r_out, n_out, c_out, k) => (findP (fitsI f) 0 s.idx.names).length - k) (by kernel_rfl) ⟨by kernel_rfl, by kernel_rfl, by kernel_rfl, by kernel_rfl, by kernel_rfl, by kernel_rfl, by kernel_rfl, trivial⟩ ⟨Chg.refl _ _, ab, orb_refl, (by omega), (by simp), (by rfl)⟩ ?_
 rintro ⟨out, r_out, n_out, c_out, k⟩ co am ⟨O, J, ac, bS, bT, bU⟩ ah
 have bV := nb_or' ac bh E.lt
 have bk := gb_or' ac aG C.size
 have bW := cov_or' ac bi C.size
 have bm : Cov (ins [W]) aB W := ⟨.inl (.head _)⟩
 have bX := cov_or' ac bm (Nat.le_refl _)
 have aK : Mv [W, V] [r_out, V] aB am := Mv.inl O (all_cons (.head _) all_nil) (all_cons (orb_mem ac (.head _)) (all_cons (.inl (.tail _ (.head _))) all_nil))
 replace ⟨h1, h2, h3, h4, E, aj, C⟩ := (sp aK O).g7 h1 h2 h3 h4 E aj C
 clear aK
 have bY := J.len; have bZ := J.max
 refine .s <| .g <| .bp ((k : Int) < (((findP (fitsI f) 0 s.idx.names).length) : Int)) (fun bn => ?_) (fun bn => ?_)
 ·refine .d <| .s <| .ct <| .sk <| .s <| .b 1 <| .s <| .g ?_
  have aL : k < (findP (fitsI f) 0 s.idx.names).length := (by omega)
  refine RG.idx k (len := (findP (fitsI f) 0 s.idx.names).length) (i := (k : Int)) (sz := 1) (by kernel_rfl) (by omega) aL (aj.addr (Nat.zero_lt_of_lt aL)) ?_
  obtain ⟨Z, ar⟩ : ∃ y, (findP (fitsI f) 0 s.idx.names)[k]? = some y := ⟨_, List.getElem?_eq_getElem (by omega)⟩
  have b0 := drop_at ar; have bz := List.mem_of_getElem? ar
  obtain ⟨_, rfl, bo⟩ := aj.elem k Z ar
  refine .lh 0 bo <| .r 1 <| .d <| .s <| .g <| .ln E <| .r 1 <| .cl (c_impl_Store_rows s Z h1.ta h2.ta h3.ta h4.ta (StoK.of p0 (by assumption)).part (StoK.of p0 (by assumption)).row (by have := p0.np; omega) (by have := p0.nm2; omega) (w := am) (F := all)) ?_
  rintro cp bq ⟨⟨cq, cr, rfl, aD⟩, aM⟩
  have aN := al2 J.lt E.lt
  have br : Gb w.heap.size am.heap.size := C.size
  replace ⟨h1, E, J, C, O⟩ := (se [r_out, V] aM).g5 h1 E J C O
  clear aM
  have aD := aD.fr aN br
  have b6 := aD.max
  clear aN
  refine .r 2 <| .cl (c_impl_BlockCut (rowsOf s Z) from_ to_ aD.ta (Nat.le_trans (blk_of p0 (by assumption) _).len (by omega)) (w := bq) (F := all)) ?_
  rintro cu bD ⟨⟨bE, bF, rfl, aa⟩, aO⟩
  have au := al2 J.lt E.lt
  have aR : Gb w.heap.size bq.heap.size := C.size
  replace ⟨h1, E, J, C, O⟩ := (se [r_out, V] aO).g5 h1 E J C O
  clear aO
  have aa := aa.fr au aR
  have bG := aa.max
  clear au
  refine .r 1 <| .d <| .s <| .g <| .r 2 <| .bp ((((cutI (rowsOf s Z) from_ to_).length) : Int) > 0) (fun aS => ?_) (fun aS => .d <| .cf <| .sk <| .ib 1 <| .g <| RG.int ((k : Int) + 1) (by kernel_rfl) (by omega) <| .r 1 <| .d <| ah (out, r_out, n_out, c_out, k + 1) _ _ ⟨by kernel_rfl, by kernel_rfl, by kernel_rfl, by kernel_rfl, by kernel_rfl, by kernel_rfl, by kernel_rfl, trivial⟩ ⟨O, J, ac, (by omega), (by omega), (by exact askSkipI p0 (by assumption) (by assumption) (by assumption) (by assumption))⟩ (by (simp only []; omega)))
  refine .d <| .ct <| .g <| .r 3 <| .lb E <| .r 1 <| RG.int (Z - 1) (by kernel_rfl) (by (have q1 := findP_in (by assumption : _ ∈ findP _ 0 s.idx.names); omega)) ?_
  have av : (Z - 1).toNat < s.idx.names.length := (by (have q1 := findP_in (by assumption : _ ∈ findP _ 0 s.idx.names); omega))
  refine RG.idx ((Z - 1).toNat) (len := s.idx.names.length) (i := Z - 1) (sz := 1) (by kernel_rfl) (by (have q1 := findP_in (by assumption : _ ∈ findP _ 0 s.idx.names); omega)) av (h1.addr (Nat.zero_lt_of_lt av)) ?_
  obtain ⟨ai, ak⟩ : ∃ y, s.idx.names[(Z - 1).toNat]? = some y := ⟨_, List.getElem?_eq_getElem (by omega)⟩
  have bH := drop_at ak; have bt := List.mem_of_getElem? ak
  obtain ⟨_, ⟨b7, b8, b9, rfl, aw⟩, aT⟩ := h1.elem ((Z - 1).toNat) ai ak
  have aU := aw.len
  subst aU
  have bI := aw.max
  refine .lh 0 aT <| .cl (c_impl_NameText ai aw.ta (p0.nm.sz _ (by assumption)) (w := bD) (F := all)) ?_
  rintro cd ce ⟨rfl, ax⟩
  replace ⟨E, J, aa, C, O⟩ := (se [r_out, V] ax).g5 E J aa C O
  clear ax
  refine .r 2 <| .ns 1 66 [.string (bs (textI ai)), .slice bE ((cutI (rowsOf s Z) from_ to_).length) bF] fun aP cg af ay aV aW => ?_
  have aX := nb_new af E.lt
  have az := nb_new af J.lt
  have aY := gb_new af C.size
  replace ⟨J, aa, C, O⟩ := (se [r_out, V] ay).g4 J aa C O
  clear ay aW af
  have ao : nin (ge w.heap.size) [r_out, V] aP ∧ aP ≠ r_out := hap_mk aY (all_cons az (all_cons aX all_nil)) az
  refine RG.append1 (T := 61) (ty := 61) (y := (⟨textI ai, cutI (rowsOf s Z) from_ to_⟩ : Hit)) J aV (by kernel_rfl) (by kernel_rfl) ⟨_, _, _, rfl, aa.oi⟩ ao (by have q1 := findP_len (fitsI f) s.idx.names 0; have q2 := p0.nm.len; omega) fun bu bv ci ae al aA => ?_
  have aZ := orb_or al ac O.size
  replace ⟨C, O⟩ := (s1 aA).g2 C O
  clear aA
  replace ae := ae.rn r_out
  clear al
  have bJ := ae.len; have bK := ae.max
  exact .r 1 <| .d <| .ib 1 <| .g <| RG.int ((k : Int) + 1) (by kernel_rfl) (by omega) <| .r 1 <| .d <| ah ((out ++ [(⟨textI ai, cutI (rowsOf s Z) from_ to_⟩ : Hit)]), bu, n_out + 1, bv, k + 1) _ _ ⟨by kernel_rfl, by kernel_rfl, by kernel_rfl, by kernel_rfl, by kernel_rfl, by kernel_rfl, by kernel_rfl, trivial⟩ ⟨O, ae, aZ, (by omega), (by omega), (by exact askStepI p0 (by assumption) (by assumption) (by assumption) (by assumption) (by assumption))⟩ (by (simp only []; omega))
 refine .d <| .s <| .cf <| .x 0 rfl <| .s <| .g <| .r 2 <| .d ?_
 have bw := J.sl bk
 exact .rt Tryz.func33 Tryz.results33 (vS r_out n_out c_out) ⟨(bw.vl (by exact (askEndI p0 (by assumption) (by assumption) (by omega)).symm) (fun _ _ h => h.1)), C⟩
theorem c_laws_lySays (a : Sto) (b : Sto) {w : World} {F : Nat → Prop} {a1 : Option Addr} {n1 c1 : Nat} (h1 : RepS w F a1 n1 c1 a.idx.names) {a2 : Option Addr} {n2 c2 : Nat} (h2 : RepS w F a2 n2 c2 a.idx.posts) {a3 : Option Addr} {n3 c3 : Nat} (h3 : RepS w F a3 n3 c3 a.parts) {a4 : Option Addr} {n4 c4 : Nat} (h4 : RepS w F a4 n4 c4 a.mem) {a5 : Option Addr} {n5 c5 : Nat} (h5 : RepS w F a5 n5 c5 b.idx.names) {a6 : Option Addr} {n6 c6 : Nat} (h6 : RepS w F a6 n6 c6 b.idx.posts) {a7 : Option Addr} {n7 c7 : Nat} (h7 : RepS w F a7 n7 c7 b.parts) {a8 : Option Addr} {n8 c8 : Nat} (h8 : RepS w F a8 n8 c8 b.mem) (p0 : SD a) (p1 : SD b) : Calls Tryz.prog 41 [.agg #[.slice a1 n1 c1, .slice a2 n2 c2, .slice a3 n3 c3, .slice a4 n4 c4], .agg #[.slice a5 n5 c5, .slice a6 n6 c6, .slice a7 n7 c7, .slice a8 n8 c8]].toArray w (rets fun rv w' => rv = .bool ((askS a [] 0 99 == askS b [] 0 99)) ∧ Ext w w') := by
 refine goT Tryz.func41 ?_
 obtain ⟨rfl, ay, h1⟩ := h1.tp
 obtain ⟨rfl, az, h2⟩ := h2.tp
 obtain ⟨rfl, aA, h3⟩ := h3.tp
 obtain ⟨rfl, aB, h4⟩ := h4.tp
 obtain ⟨rfl, aC, h5⟩ := h5.tp
 obtain ⟨rfl, aD, h6⟩ := h6.tp
 obtain ⟨rfl, aE, h7⟩ := h7.tp
 obtain ⟨rfl, aF, h8⟩ := h8.tp
 refine .s <| .g <| .np 30 [.slice a1 a.idx.names.length c1, .slice a2 a.idx.posts.length c2, .slice a3 a.parts.length c3, .slice a4 a.mem.length c4] fun W aI ae Z E aq => ?_
 replace ⟨h1, h2, h3, h4, h5, h6, h7, h8⟩ := (sn [] Z ae).g8 h1 h2 h3 h4 h5 h6 h7 h8
 have C := Z
 clear Z aq ae
 refine .np 30 [.slice a5 b.idx.names.length c5, .slice a6 b.idx.posts.length c6, .slice a7 b.parts.length c7, .slice a8 b.mem.length c8] fun aa aJ af ag J ar => ?_
 replace ⟨h1, h2, h3, h4, h5, h6, h7, h8, E, C⟩ := (sn [W] ag af).g10 h1 h2 h3 h4 h5 h6 h7 h8 E C
 clear ag ar af
 refine .r 1 <| .d <| .s <| .gd nil 3 fun aK ah => ?_
 replace ⟨h1, h2, h3, h4, h5, h6, h7, h8, E, J, C⟩ := (se [aa, W] ah).g11 h1 h2 h3 h4 h5 h6 h7 h8 E J C
 clear ah
 refine .ln 0 E id <| .ln 2 J id <| .go 1 <| .cl (fun ao O => c_impl_StoreAsk a ([] : List Cnd) 0 99 (h1.ta.ext O) (h2.ta.ext O) (h3.ta.ext O) (h4.ta.ext O) ((RepS.nil' _ all none 0 (by decide)).ext O) (by exact p0) (w := ao) (F := all)) ?_
 intro ao O
 replace ⟨h5, h6, h7, h8, E, J, C⟩ := (se [aa, W] O).g7 h5 h6 h7 h8 E J C
 rintro aL aM ⟨⟨aN, aO, rfl, V⟩, ab⟩
 have ai := al2 J.lt E.lt
 have au : Gb w.heap.size ao.heap.size := C.size
 have hkeep_ := ab
 replace ⟨h5, h6, h7, h8, E, J, C⟩ := (se [aa, W] ab).g7 h5 h6 h7 h8 E J C
 clear ab
 refine ⟨Ext.chg hkeep_, ?_⟩
 have V := V.fr ai au
 have aG := V.max
 clear ai
 refine .d fun av aj => ?_
 replace ⟨h5, h6, h7, h8, E, J, V, C⟩ := (se [aa, W] aj).g8 h5 h6 h7 h8 E J V C
 clear aj
 refine .cl (c_impl_StoreAsk b ([] : List Cnd) 0 99 h5.ta h6.ta h7.ta h8.ta (RepS.nil' _ all none 0 (by decide)) (by exact p1) (w := av) (F := all)) ?_
 rintro aP ax ⟨⟨aQ, aR, rfl, ac⟩, ak⟩
 have al := al2 J.lt E.lt
 have aw : Gb w.heap.size av.heap.size := C.size
 replace ⟨V, C⟩ := (se [aa, W] ak).g2 V C
 clear ak
 have ac := ac.fr al aw
 have aH := ac.max
 clear al
 refine .cl (c_laws_lyHits (askS a ([] : List Cnd) 0 99) (askS b ([] : List Cnd) 0 99) V.ta ac.ta (w := ax) (F := all)) ?_
 rintro aS aT ⟨rfl, am⟩
 replace C := (se [] am).g1 C
 clear am
 exact .r 1 <| .d <| .rt Tryz.func41 Tryz.results41 (.bool ((askS a ([] : List Cnd) 0 99) == (askS b ([] : List Cnd) 0 99))) ⟨(congrArg Value.bool (by rfl)), C⟩
end Go.Proofs.YtfnpaglcnmcnbaaGreat
namespace Go.Proofs.YtfnpaglcnmcnbaaGreat
set_option maxRecDepth 100000
set_option maxHeartbeats 4000000
theorem c_impl_cloneStore2 (s : Sto) {w : World} {F : Nat → Prop} {a1 : Option Addr} {n1 c1 : Nat} (h1 : RepS w F a1 n1 c1 s.idx.names) {a2 : Option Addr} {n2 c2 : Nat} (h2 : RepS w F a2 n2 c2 s.idx.posts) {a3 : Option Addr} {n3 c3 : Nat} (h3 : RepS w F a3 n3 c3 s.parts) {a4 : Option Addr} {n4 c4 : Nat} (h4 : RepS w F a4 n4 c4 s.mem) (p0 : NmI s.idx.names) (p1 : NsD s.idx.names) (p2 : StoSz s) : Calls Tryz.prog 62 [.agg #[.slice a1 n1 c1, .slice a2 n2 c2, .slice a3 n3 c3, .slice a4 n4 c4]].toArray w (rets fun rv w' => (∃ (a0 : Option Addr) (n0 c0 : Nat) (a1 : Option Addr) (n1 c1 : Nat) (r2 n2 c2 : Nat) (r3 n3 c3 : Nat), rv = .agg #[.slice a0 n0 c0, .slice a1 n1 c1, .slice (some ⟨r2, 0, none⟩) n2 c2, .slice (some ⟨r3, 0, none⟩) n3 c3] ∧ RepS w' (nin (ge w.heap.size) [r2, r3]) a0 n0 c0 ((((copyS s)).idx).names) ∧ RepS w' (nin (ge w.heap.size) [r2, r3]) a1 n1 c1 ((((copyS s)).idx).posts) ∧ Own w' r2 75 (nin (ge w.heap.size) [r2, r3]) n2 c2 (((copyS s)).parts) ∧ w.heap.size ≤ r2 ∧ Own w' r3 51 (nin (ge w.heap.size) [r2, r3]) n3 c3 (((copyS s)).mem) ∧ w.heap.size ≤ r3 ∧ Nb r3 r2) ∧ Ext w w') := by
 refine goT Tryz.func62 ?_
 obtain ⟨rfl, dp, h1⟩ := h1.tp
 obtain ⟨rfl, dq, h2⟩ := h2.tp
 obtain ⟨rfl, dr, h3⟩ := h3.tp
 obtain ⟨rfl, dt, h4⟩ := h4.tp
 refine .s <| .g <| .np 30 [.slice a1 s.idx.names.length c1, .slice a2 s.idx.posts.length c2, .slice a3 s.parts.length c3, .slice a4 s.mem.length c4] fun O dV bC aM J cE => ?_
 replace ⟨h1, h3, h4⟩ := (sn [] aM bC).g3 h1 h3 h4
 have C := aM
 clear aM cE bC
 refine .np 30 [.slice none 0 0, .slice none 0 0, .slice none 0 0, .slice none 0 0] fun Z cF aK bD E cG => ?_
 have du := nb_new aK J.lt
 have dv := C.cn aK
 replace ⟨h1, h3, h4, J, C⟩ := (sn [O] bD aK).g5 h1 h3 h4 J C
 clear bD cG aK
 refine .d <| .s ?_
 replace h1 := h1.into
 replace h3 := h3.into
 replace h4 := h4.into
 have aN : Gb (O + 1) cF.heap.size := J.lt
 refine .gd (mtb [] cF.heap.size) 10 fun dW bE => ?_
 replace ⟨h1, h3, h4, J, E, C⟩ := (se [Z, O] bE).g6 h1 h3 h4 J E C
 clear bE
 refine .r [0, 1] <| .lb 2 J (nS_of all_nil aN) <| .r [4] <| .lb 5 J (nS_of all_nil aN) <| .r [8] <| .lb 9 J (nS_of all_nil aN) <| .tw 3 7 ?_ ?_
 ·refine .cl (fun bU aO => c_impl_indexOf s.idx.names (h1.ta.ext aO) p0 p1 (w := bU) (F := all)) ?_
  intro bU aO
  replace ⟨h1, h3, h4, J, E, C⟩ := (se [Z, O] aO).g6 h1 h3 h4 J E C
  rintro dX dY ⟨⟨_, rfl, ⟨bw, dZ, bz, bA, d0, bB, rfl, V, W⟩⟩, aP⟩
  have aQ := al2 E.lt J.lt
  have bF : Gb w.heap.size bU.heap.size := C.size
  have hkeep_ := aP
  replace ⟨h1, h3, h4, J, E, C⟩ := (se [Z, O] aP).g6 h1 h3 h4 J E C
  clear aP
  refine ⟨Ext.chg hkeep_, ?_⟩
  have V := V.fr aQ bF
  have dw := V.max
  have W := W.fr aQ bF
  have dx := W.max
  clear aQ
  have cH := V.len
  subst cH
  have cI := W.len
  subst cI
  refine .tw 6 7 ?_ ?_
  ·refine .cl (fun bV aR => c_impl_cloneParts s.parts (h3.ta.ext aR) (by have := p2.2.1; omega) p2.2.2.1 (w := bV) (F := all)) ?_
   intro bV aR
   replace ⟨h1, h3, h4, J, E, V, W, C⟩ := (se [Z, O] aR).g8 h1 h3 h4 J E V W C
   rintro d3 d4 ⟨⟨az, cJ, cK, rfl, ab, aL⟩, aS⟩
   have bG := al2 E.lt J.lt
   have cL : Gb w.heap.size bV.heap.size := C.size
   have hkeep_ := aS
   have dy := nb_ge aL E.lt
   have cM := gb_ge aL C.size
   replace ⟨h1, h3, h4, J, E, V, W, C⟩ := (sz [Z, O] aS aL).g8 h1 h3 h4 J E V W C
   clear aS aL
   refine ⟨Ext.chg hkeep_, ?_⟩
   replace ab := Own.take (s0 := w.heap.size) (M := [Z, O]) ab bG cL
   have dz := ab.len; have dA := ab.max
   clear bG
   refine .go 7 <| .ns 0 51 [] fun d5 bH => ?_
   replace ⟨h1, h3, h4, J, E, V, W, ab, C⟩ := (se [az, Z, O] bH).g9 h1 h3 h4 J E V W ab C
   clear bH
   intro aT cS av bI cN cO
   have dB := nb_new av J.lt
   have cP := nb_new av E.lt
   have bW := nb_new av ab.lt
   have bX := gb_new av C.size
   have cT := C.cn av
   replace ⟨h1, h3, h4, J, E, V, W, ab, C⟩ := (sn [az, Z, O] bI av).g9 h1 h3 h4 J E V W ab C
   clear bI cO av
   have aC : Own (α := Smp) cS aT 51 (nin (ge w.heap.size) [aT, az, Z, O]) 0 0 [] := Own.nil' cN
   refine .d fun dC aU => ?_
   replace ⟨h1, h3, h4, J, E, V, W, ab, aC, C⟩ := (se [aT, az, Z, O] aU).g10 h1 h3 h4 J E V W ab aC C
   clear aU
   replace h1 := h1.outof
   replace h3 := h3.outof
   replace h4 := h4.outof
   refine RG.appendF (T := 28) (ty := 28) flat_smp aC h4 (by kernel_rfl) (by kernel_rfl) (fun b h e => h.2 (e ▸ (.head _))) (by have := p2.2.2.2; omega) fun aV bJ dD aj am aW => ?_
   have cU := nb_or am cP E.lt
   have bY := nb_or am bW ab.lt
   have bZ := gb_or am bX C.size
   replace ⟨h1, h3, h4, J, E, V, W, ab, C⟩ := (sa [aT, az, Z, O] aW am).g9 h1 h3 h4 J E V W ab C
   clear aW
   replace aj := aj.rn aT
   clear am
   have cV := aj.len; have cW := aj.max
   refine .r 1 <| .sc [.slice bw (((idxOf s.idx.names).names).length) bz, .slice bA (((idxOf s.idx.names).posts).length) bB, vS az cJ cK, vS aV (0 + s.mem.length) bJ] E fun dE aX b0 b6 => ?_
   replace ⟨h1, h3, h4, J, V, W, ab, aj, C⟩ := (so [aV, az, Z, O] aX).g9 h1 h3 h4 J V W ab aj C
   clear aX b6
   exact .d <| .rb Tryz.func62 Tryz.results62 b0 ⟨⟨bw, ((idxOf s.idx.names).names).length, bz, bA, ((idxOf s.idx.names).posts).length, bB, az, cJ, cK, aV, (0 + s.mem.length), bJ, rfl, ((RepS.lessM V (all_cons (.tail _ (.head _)) (all_cons (.head _) all_nil))).eqx (by rfl)), ((RepS.lessM W (all_cons (.tail _ (.head _)) (all_cons (.head _) all_nil))).eqx (by rfl)), ((Own.lessM ab (all_cons (.tail _ (.head _)) (all_cons (.head _) all_nil))).eqx (by rfl)), cM, ((Own.lessM aj (all_cons (.tail _ (.head _)) (all_cons (.head _) all_nil))).eqx (by rfl)), bZ, bY⟩, C⟩
  refine .ns 0 51 [] fun dF aY => ?_
  replace ⟨h1, h3, h4, J, E, V, W, C⟩ := (se [Z, O] aY).g8 h1 h3 h4 J E V W C
  clear aY
  intro au cQ ar aZ b7 b8
  have cX := nb_new ar J.lt
  have b9 := nb_new ar E.lt
  have cd := gb_new ar C.size
  have cY := C.cn ar
  replace ⟨h1, h3, h4, J, E, V, W, C⟩ := (sn [Z, O] aZ ar).g8 h1 h3 h4 J E V W C
  clear aZ b8 ar
  have ah : Own (α := Smp) cQ au 51 (nin (ge w.heap.size) [au, Z, O]) 0 0 [] := Own.nil' b7
  refine .go 6 <| .cl (fun ba aD => c_impl_cloneParts s.parts (h3.ta.ext aD) (by have := p2.2.1; omega) p2.2.2.1 (w := ba) (F := all)) ?_
  intro ba aD
  replace ⟨h1, h3, h4, J, E, V, W, ah, C⟩ := (se [au, Z, O] aD).g9 h1 h3 h4 J E V W ah C
  rintro dG dH ⟨⟨aA, bK, bL, rfl, ac, aw⟩, aE⟩
  have bc := al3 ah.lt E.lt J.lt
  have ce : Gb w.heap.size ba.heap.size := C.size
  have hkeep_ := aE
  have cZ := nb_ge aw E.lt
  have cg := nb_ge aw ah.lt
  have ci := gb_ge aw C.size
  replace ⟨h1, h3, h4, J, E, V, W, ah, C⟩ := (sz [au, Z, O] aE aw).g9 h1 h3 h4 J E V W ah C
  clear aE aw
  refine ⟨Ext.chg hkeep_, ?_⟩
  replace ac := Own.take (s0 := w.heap.size) (M := [au, Z, O]) ac bc ce
  have c7 := ac.len; have c8 := ac.max
  clear bc
  refine .d fun dI bd => ?_
  replace ⟨h1, h3, h4, J, E, V, W, ah, ac, C⟩ := (se [aA, au, Z, O] bd).g10 h1 h3 h4 J E V W ah ac C
  clear bd
  replace h1 := h1.outof
  replace h3 := h3.outof
  replace h4 := h4.outof
  refine RG.appendF (T := 28) (ty := 28) flat_smp ah h4 (by kernel_rfl) (by kernel_rfl) (fun b h e => h.2 (e ▸ (.tail _ (.head _)))) (by have := p2.2.2.2; omega) fun bg bM dJ ak ao bh => ?_
  have c9 := nb_or ao b9 E.lt
  have cj := nb_or ao (Nb.symm cg) ac.lt
  have ck := gb_or ao cd C.size
  replace ⟨h1, h3, h4, J, E, V, W, ac, C⟩ := (sa [aA, au, Z, O] bh ao).g9 h1 h3 h4 J E V W ac C
  clear bh
  replace ak := ak.rn au
  clear ao
  have da := ak.len; have db := ak.max
  refine .r 1 <| .sc [.slice bw (((idxOf s.idx.names).names).length) bz, .slice bA (((idxOf s.idx.names).posts).length) bB, vS aA bK bL, vS bg (0 + s.mem.length) bM] E fun dK bi cm co => ?_
  replace ⟨h1, h3, h4, J, V, W, ak, ac, C⟩ := (so [aA, bg, Z, O] bi).g9 h1 h3 h4 J V W ak ac C
  clear bi co
  exact .d <| .rb Tryz.func62 Tryz.results62 cm ⟨⟨bw, ((idxOf s.idx.names).names).length, bz, bA, ((idxOf s.idx.names).posts).length, bB, aA, bK, bL, bg, (0 + s.mem.length), bM, rfl, ((RepS.lessM V (all_cons (.head _) (all_cons (.tail _ (.head _)) all_nil))).eqx (by rfl)), ((RepS.lessM W (all_cons (.head _) (all_cons (.tail _ (.head _)) all_nil))).eqx (by rfl)), ((Own.lessM ac (all_cons (.head _) (all_cons (.tail _ (.head _)) all_nil))).eqx (by rfl)), ci, ((Own.lessM ak (all_cons (.head _) (all_cons (.tail _ (.head _)) all_nil))).eqx (by rfl)), ck, cj⟩, C⟩
 refine .ns 0 51 [] fun dL bj => ?_
 replace ⟨h1, h3, h4, J, E, C⟩ := (se [Z, O] bj).g6 h1 h3 h4 J E C
 clear bj
 intro ai cR ax bk cp cq
 have cr := nb_new ax E.lt
 have cu := gb_new ax C.size
 have dd := C.cn ax
 replace ⟨h1, h3, h4, J, E, C⟩ := (sn [Z, O] bk ax).g6 h1 h3 h4 J E C
 clear bk cq ax
 have aa : Own (α := Smp) cR ai 51 (nin (ge w.heap.size) [ai, Z, O]) 0 0 [] := Own.nil' cp
 refine .go 3 <| .cl (fun bm aF => c_impl_indexOf s.idx.names (h1.ta.ext aF) p0 p1 (w := bm) (F := all)) ?_
 intro bm aF
 replace ⟨h3, h4, J, E, aa, C⟩ := (se [ai, Z, O] aF).g6 h3 h4 J E aa C
 rintro dM dN ⟨⟨_, rfl, ⟨bN, dO, bO, bP, dP, bQ, rfl, af, ag⟩⟩, aG⟩
 have aH := al3 aa.lt E.lt J.lt
 have bn : Gb w.heap.size bm.heap.size := C.size
 have hkeep_ := aG
 replace ⟨h3, h4, J, E, aa, C⟩ := (se [ai, Z, O] aG).g6 h3 h4 J E aa C
 clear aG
 refine ⟨Ext.chg hkeep_, ?_⟩
 have af := af.fr aH bn
 have de := af.max
 have ag := ag.fr aH bn
 have df := ag.max
 clear aH
 have cv := af.len
 subst cv
 have cw := ag.len
 subst cw
 refine .go 6 <| .cl (fun bo aI => c_impl_cloneParts s.parts (h3.ta.ext aI) (by have := p2.2.1; omega) p2.2.2.1 (w := bo) (F := all)) ?_
 intro bo aI
 replace ⟨h4, J, E, aa, af, ag, C⟩ := (se [ai, Z, O] aI).g7 h4 J E aa af ag C
 rintro dQ dR ⟨⟨aB, bR, bS, rfl, ae, ay⟩, aJ⟩
 have bq := al3 aa.lt E.lt J.lt
 have cx : Gb w.heap.size bo.heap.size := C.size
 have hkeep_ := aJ
 have dg := nb_ge ay E.lt
 have cy := nb_ge ay aa.lt
 have cz := gb_ge ay C.size
 replace ⟨h4, E, aa, af, ag, C⟩ := (sz [ai, Z, O] aJ ay).g6 h4 E aa af ag C
 clear aJ ay
 refine ⟨Ext.chg hkeep_, ?_⟩
 replace ae := Own.take (s0 := w.heap.size) (M := [ai, Z, O]) ae bq cx
 have dh := ae.len; have di := ae.max
 clear bq
 refine .d fun dS br => ?_
 replace ⟨h4, E, aa, af, ag, ae, C⟩ := (se [aB, ai, Z, O] br).g7 h4 E aa af ag ae C
 clear br
 replace h4 := h4.outof
 refine RG.appendF (T := 28) (ty := 28) flat_smp aa h4 (by kernel_rfl) (by kernel_rfl) (fun b h e => h.2 (e ▸ (.tail _ (.head _)))) (by have := p2.2.2.2; omega) fun bt bT dT al aq bu => ?_
 have dj := nb_or aq cr E.lt
 have cA := nb_or aq (Nb.symm cy) ae.lt
 have cB := gb_or aq cu C.size
 replace ⟨E, af, ag, ae, C⟩ := (sa [aB, ai, Z, O] bu aq).g5 E af ag ae C
 clear bu
 replace al := al.rn ai
 clear aq
 have dk := al.len; have dm := al.max
 refine .r 1 <| .sc [.slice bN (((idxOf s.idx.names).names).length) bO, .slice bP (((idxOf s.idx.names).posts).length) bQ, vS aB bR bS, vS bt (0 + s.mem.length) bT] E fun dU bv cC cD => ?_
 replace ⟨al, af, ag, ae, C⟩ := (so [aB, bt, Z, O] bv).g5 al af ag ae C
 clear bv cD
 exact .d <| .rb Tryz.func62 Tryz.results62 cC ⟨⟨bN, ((idxOf s.idx.names).names).length, bO, bP, ((idxOf s.idx.names).posts).length, bQ, aB, bR, bS, bt, (0 + s.mem.length), bT, rfl, ((RepS.lessM af (all_cons (.head _) (all_cons (.tail _ (.head _)) all_nil))).eqx (by rfl)), ((RepS.lessM ag (all_cons (.head _) (all_cons (.tail _ (.head _)) all_nil))).eqx (by rfl)), ((Own.lessM ae (all_cons (.head _) (all_cons (.tail _ (.head _)) all_nil))).eqx (by rfl)), cz, ((Own.lessM al (all_cons (.head _) (all_cons (.tail _ (.head _)) all_nil))).eqx (by rfl)), cB, cA⟩, C⟩
end Go.Proofs.YtfnpaglcnmcnbaaGreat
