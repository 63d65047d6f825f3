/- What asking computes, as plain functions, and its laws. -/
import Derived.Test.YtfnpaglcnmcnbaaGreatOpnzMod20
import Derived.Test.YtfnpaglcnmcnbaaGreatOpnzMem
import Derived.Shelf.Lays
import Derived.Shelf.Strings.OnBuilder
import Derived.Test.YtfnpaglcnmcnbaaGreatProg
set_option linter.unusedVariables false
set_option linter.unusedSimpArgs false
namespace Go.Proofs.YtfnpaglcnmcnbaaGreat
section
variable {P : Program} {f : FuncId} {fn : Func} {R : Value → World → Prop} {c : Code} {e : Env} {w : World}
theorem mapM4 (f : ResultVar → Sem Value) (r r' r2 r3 : ResultVar) : (#[r, r', r2, r3]).mapM f = (do let v ← f r; let v' ← f r'; let v2 ← f r2; let v3 ← f r3; pure #[v, v', v2, v3]) := by
 simp
theorem run_results4 {a : Act} {r r' r'' r''' : ResultVar} {v v' v'' v''' : Value} (hs : Sees fn.ntmps a e) (hr : fn.results = #[r, r', r'', r''']) (h : Res1 P w e r v) (h' : Res1 P w e r' v') (h'' : Res1 P w e r'' v'') (h3 : Res1 P w e r''' v''') :
 (results fn a.tmps).run P w = .ok (.tuple #[v, v', v'', v''']) w := by
 rw [results_eq, hr, mapM4]
 refine run_bind_ok (a := #[v, v', v'', v''']) ?_
 rw [run_bind_ok (h.run hs), run_bind_ok (h'.run hs), run_bind_ok (h''.run hs), run_bind_ok (h3.run hs)]
 rfl
theorem T.ret4 {k} {r r' r'' r''' : ResultVar} {v v' v'' v''' : Value} (h : isRet c = true) (hf : P.funcs[f]? = some fn) (hres : fn.results = #[r, r', r'', r''']) (h1 : Res1 P w e r v) (h2 : Res1 P w e r' v') (h3 : Res1 P w e r'' v'') (h4 : Res1 P w e r''' v''')
 (hR : R (.tuple #[v, v', v'', v''']) w) : T P f fn R (.code c :: k) e w :=
 T.leave h (fun _ hs => run_results4 hs hres h1 h2 h3 h4) hf hR
theorem T.r4 {k} {r r' r'' r''' : ResultVar} {v v' v'' v''' : Value} (hf : P.funcs[f]? = some fn) (hres : fn.results = #[r, r', r'', r''']) (h1 : Res1 P w e r v) (h2 : Res1 P w e r' v') (h3 : Res1 P w e r'' v'') (h4 : Res1 P w e r''' v''') (hR : R (.tuple #[v, v', v'', v''']) w) (h : isRet c = true := by kernel_rfl) : T P f fn R (.code c :: k) e w :=
 T.ret4 h hf hres h1 h2 h3 h4 hR
end
def cutB (b : List Row) (lo hi : Int) : List Row := b.filter (fun r => inR r.t lo hi)
def cutI (b : List Row) (lo hi : Int) : List Row := if blockOk b then cutB b lo hi else []
def fits (f : List Cnd) (n : List Tag) : Bool := f.all (fun c => has n c.tag != c.no)
def filtOk (f : List Cnd) : Bool := f.all (fun c => tagOk c.tag) && decide (f.length ≤ 3)
def fitsI (f : List Cnd) (n : List Tag) : Bool := filtOk f && nameOk n && fits f n
def findP (p : List Tag → Bool) : Nat → List (List Tag) → List Int
 | _, [] => []
 | i, n :: ns => (if p n then [(i : Int) + 1] else []) ++ findP p (i + 1) ns
def hit1 (s : Sto) (lo hi : Int) (id : Int) : List Hit := if (cutB (rowsOf s id) lo hi).length > 0 then [⟨text (s.idx.names.getD (id - 1).toNat []), cutB (rowsOf s id) lo hi⟩] else []
def askP (p : List Tag → Bool) (s : Sto) (lo hi : Int) : List Hit := (findP p 0 s.idx.names).flatMap (hit1 s lo hi)
def askS (s : Sto) (f : List Cnd) (lo hi : Int) : List Hit := if storeOk s && filtOk f then askP (fits f) s lo hi else []
theorem findP_mem {p : List Tag → Bool} : ∀ (l : List (List Tag)) (i : Nat) (x : Int), x ∈ findP p i l → (i : Int) + 1 ≤ x ∧ x ≤ (i : Int) + l.length := by
 intro l
 induction l with
 | nil => intro i x h; simp [findP] at h
 | cons n ns ih =>
   intro i x h
   unfold findP at h
   rcases List.mem_append.1 h with h | h
   ·split at h
    ·simp at h; subst h; simp only [List.length_cons]; omega
    ·cases h
   ·have := ih (i + 1) x h
    simp only [List.length_cons]; omega
theorem findP_in {p : List Tag → Bool} {l : List (List Tag)} {x : Int} (h : x ∈ findP p 0 l) : 1 ≤ x ∧ x ≤ l.length := by have := findP_mem l 0 x h; omega
theorem findP_all {p : List Tag → Bool} : ∀ (l : List (List Tag)) (i : Nat), (∀ n ∈ l, p n = false) → findP p i l = [] := by
 intro l
 induction l with
 | nil => intro i _; rfl
 | cons n ns ih =>
   intro i h
   unfold findP
   rw [h n (by simp), ih (i + 1) (fun m hm => h m (by simp [hm]))]
   rfl
theorem findP_eq {p q : List Tag → Bool} : ∀ (l : List (List Tag)) (i : Nat), (∀ n ∈ l, p n = q n) → findP p i l = findP q i l := by
 intro l
 induction l with
 | nil => intro i _; rfl
 | cons n ns ih =>
   intro i h
   unfold findP
   rw [h n (by simp), ih (i + 1) (fun m hm => h m (by simp [hm]))]
theorem findP_fits {f : List Cnd} {x : Idx} (hx : NmI x.names) (hf : filtOk f = true) : findP (fitsI f) 0 x.names = findP (fits f) 0 x.names := findP_eq _ _ (fun n hn => by unfold fitsI; rw [hf, hx.ok n hn]; rfl)
theorem findP_no {f : List Cnd} {x : Idx} (hf : filtOk f = false) : findP (fitsI f) 0 x.names = [] := findP_all _ _ (fun n _ => by unfold fitsI; rw [hf]; rfl)
theorem rowsI_in {s : Sto} {i : Int} (hk : storeOk s = true) (h1 : 1 ≤ i) (h2 : i ≤ s.idx.names.length) : rowsI s i = rowsOf s i := rowsI_yes hk (by unfold inR; simp [h1, h2])
theorem blk_of {s : Sto} (h : SD s) (hk : storeOk s = true) (i : Int) : Blk (rowsOf s i) := by
 have hI := (StoK.of h hk).stoI
 have key : ∀ (mem : List Smp) (o : List Row), (∀ m ∈ mem, rowOk m.row = true) → Blk o → Blk (mem.foldl (rowsM i) o) := by
  intro mem
  induction mem with
  | nil => intro o _ ho; exact ho
  | cons m ms ih =>
    intro o hm ho
    refine ih _ (fun q hq => hm q (by simp [hq])) ?_
    unfold rowsM
    split
    ·exact ho.put (hm m (by simp))
    ·exact ho
 have key2 : ∀ (ps : List Prt) (o : List Row), (∀ p ∈ ps, PrtI p) → Blk o → Blk (ps.foldl (rowsP i) o) := by
  intro ps
  induction ps with
  | nil => intro o _ ho; exact ho
  | cons p ps ih => intro o hp ho; exact ih _ (fun q hq => hp q (by simp [hq])) (ho.merge ((hp p (by simp)).of i))
 exact key _ _ (fun m hm => (hI.mem m hm).2.2) (key2 _ _ hI.part Blk.nil)
theorem ok_24 {s : Sto} (hk : storeOk s = true) {i : Int} (h1 : 1 ≤ i) (h2 : i ≤ s.idx.names.length) : (rowsOf s i).length ≤ 24 := by
 unfold storeOk at hk
 simp only [Bool.and_eq_true, decide_eq_true_eq, List.all_eq_true, List.mem_range, cntOk] at hk
 have := hk.2 (i.toNat - 1) (by omega)
 rwa [show ((i.toNat - 1 : Nat) : Int) + 1 = i by omega] at this
theorem rows_bok {s : Sto} (h : SD s) (hk : storeOk s = true) {i : Int} (h1 : 1 ≤ i) (h2 : i ≤ s.idx.names.length) : blockOk (rowsOf s i) = true := by
 unfold blockOk
 have a1 : blockF none (rowsOf s i) = true := blk_of h hk i
 rw [a1, Bool.true_and, decide_eq_true_eq]
 exact ok_24 hk h1 h2
theorem cutI_rows {s : Sto} (h : SD s) (hk : storeOk s = true) {i : Int} (h1 : 1 ≤ i) (h2 : i ≤ s.idx.names.length) (lo hi : Int) : cutI (rowsOf s i) lo hi = cutB (rowsOf s i) lo hi := by
 unfold cutI; rw [if_pos (rows_bok h hk h1 h2)]
theorem askS_I {s : Sto} {f : List Cnd} {lo hi : Int} (hd : SD s) (h : storeOk s = true) : askS s f lo hi = askP (fitsI f) s lo hi := by
 unfold askS askP
 cases h2 : filtOk f with
 | true => rw [h, findP_fits hd.nm h2]; rfl
 | false => rw [findP_no h2]; simp
end Go.Proofs.YtfnpaglcnmcnbaaGreat
