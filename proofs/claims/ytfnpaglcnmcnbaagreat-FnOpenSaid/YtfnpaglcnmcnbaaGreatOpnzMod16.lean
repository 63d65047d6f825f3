/- A row put into a row: slices of rows whose cells are told, copies, zeros. No conditions. -/
import Derived.Test.YtfnpaglcnmcnbaaGreatOpnzW13
import Derived.Lib.Overlaps
import Derived.Lib.AppendZerosOnto
set_option linter.unusedVariables false
set_option linter.unusedSimpArgs false
namespace Go.Proofs.YtfnpaglcnmcnbaaGreat
def cellsR (xs : List Row) : List Value := xs.flatMap (fun x => [.int .i64 x.t, .int .i64 x.v])
theorem cellsR_len (xs : List Row) : (cellsR xs).length = xs.length * 2 := by
 induction xs with
 | nil => rfl
 | cons x xs ih => simp only [cellsR, List.flatMap_cons, List.length_append, List.length_cons, List.length_nil] at *; omega
theorem cellsR_app (xs ys : List Row) : cellsR (xs ++ ys) = cellsR xs ++ cellsR ys := by simp [cellsR]
theorem cellsR_one (xs : List Row) : ∀ v ∈ cellsR xs, oneC v = true := by
 intro v hv
 simp only [cellsR, List.mem_flatMap] at hv
 obtain ⟨x, _, hv⟩ := hv
 simp at hv
 rcases hv with rfl | rfl <;> rfl
theorem cellsR_take (xs : List Row) (i : Nat) : cellsR (xs.take i) = (cellsR xs).take (i * 2) := by
 induction xs generalizing i with
 | nil => simp [cellsR]
 | cons x xs ih =>
   cases i with
   | zero => simp [cellsR]
   | succ i =>
     rw [List.take_succ_cons, show (i + 1) * 2 = i * 2 + 1 + 1 by omega]
     have := ih i
     simp only [cellsR, List.flatMap_cons] at *
     rw [this]
     simp
theorem cellsR_drop (xs : List Row) (i : Nat) : cellsR (xs.drop i) = (cellsR xs).drop (i * 2) := by
 induction xs generalizing i with
 | nil => simp [cellsR]
 | cons x xs ih =>
   cases i with
   | zero => simp [cellsR]
   | succ i =>
     rw [List.drop_succ_cons, show (i + 1) * 2 = i * 2 + 1 + 1 by omega]
     have := ih i
     simp only [cellsR, List.flatMap_cons] at *
     rw [this]
     simp
theorem cellsR_at {xs : List Row} {i : Nat} {x : Row} (h : xs[i]? = some x) : (cellsR xs)[i * 2]? = some (.int .i64 x.t) ∧ (cellsR xs)[i * 2 + 1]? = some (.int .i64 x.v) := by
 have hd := drop_at h
 have h1 := cellsR_drop xs i
 rw [hd] at h1
 have h2 : (cellsR xs).drop (i * 2) = .int .i64 x.t :: .int .i64 x.v :: cellsR (xs.drop (i + 1)) := h1.symm
 constructor
 ·have := congrArg (fun l => l[0]?) h2
  simpa [List.getElem?_drop] using this
 ·have := congrArg (fun l => l[1]?) h2
  simpa [List.getElem?_drop] using this
section
variable {w : World} {r n c : Nat} {t : TypeId} {F : Nat → Prop} {xs : List Row}
theorem Own.box (h : Own w r t F n c xs) : ∃ cs, Box w r t cs ∧ cs.length = c * 2 ∧ cs.take (n * 2) = cellsR xs ∧ n ≤ c ∧ c ≤ maxLen := by
 obtain ⟨cur, h1, h2⟩ := h.row
 have hz : Rep.sz Row = 2 := rfl
 rw [hz] at h2
 refine ⟨cur.toList, by unfold Box; simpa using h1, by simpa using h2, ?_, h.le, h.cap⟩
 have hn := h.len
 have hnc := h.le
 apply List.ext_getElem?
 intro k
 rw [List.getElem?_take]
 by_cases hk : k < n * 2
 ·rw [if_pos hk]
  have hi : k / 2 < xs.length := by omega
  obtain ⟨cs, g1, g2⟩ := h.elem (k / 2) xs[k / 2] (List.getElem?_eq_getElem hi)
  cases g1
  obtain ⟨e1, e2⟩ := cellsR_at (List.getElem?_eq_getElem hi)
  rcases Nat.mod_two_eq_zero_or_one k with h0 | h0
  ·have hk2 : k = k / 2 * 2 := by omega
   have g3 := g2 0 _ rfl
   rw [hk2, e1]
   simp only [add_lit, World.cell?, h1, hz] at g3
   simpa using g3
  ·have hk2 : k = k / 2 * 2 + 1 := by omega
   have g3 := g2 1 _ rfl
   rw [hk2, e2]
   simp only [add_lit, World.cell?, h1, hz] at g3
   simpa using g3
 ·rw [if_neg hk, List.getElem?_eq_none (by rw [cellsR_len]; omega)]
theorem Own.ofBox {cs : List Value} (h : Box w r t cs) (hl : cs.length = c * 2) (hx : cs.take (xs.length * 2) = cellsR xs) (hn : xs.length ≤ c) (hc : c ≤ maxLen) : Own w r t F xs.length c xs := by
 refine ⟨rfl, hn, hc, ⟨cs.toArray, h, by rw [show Rep.sz Row = 2 from rfl]; simpa using hl⟩, fun i x hi => ⟨_, rfl, fun k u hu => ?_⟩⟩
 obtain ⟨e1, e2⟩ := cellsR_at hi
 have hil : i < xs.length := (List.getElem?_eq_some_iff.1 hi).1
 have hcs : ∀ j, j < xs.length * 2 → cs[j]? = (cellsR xs)[j]? := fun j hj => by rw [← hx, List.getElem?_take, if_pos hj]
 have hcell : ∀ j v, cs[j]? = some v → w.cell? ⟨r, j, none⟩ = some v := fun j v hv => by
  unfold Box at h
  simp only [World.cell?, h]
  simpa using hv
 rw [add_lit]
 match k, hu with
 | 0, hu => cases hu; exact hcell _ _ (by rw [hcs _ (by show i * 2 + 0 < _; omega)]; exact e1)
 | 1, hu => cases hu; exact hcell _ _ (by rw [hcs _ (by show i * 2 + 1 < _; omega)]; exact e2)
 | k + 2, hu => simp at hu
end
section
variable {P : Program} {n : Nat} {K : Env → World → Prop} {ops : Array Oper} {j : Nat} {e : Env} {w : World}
theorem RG.subA {t : TypeId} {sz : Nat} {a : Option Addr} {len cap : Nat} {lo hi : Option Value} (l h' : Nat) (h : sliAt n ops j e = some (t, .slice a len cap, lo, hi)) (ht : sliB P t sz = true) (hlo : bnd lo 0 l) (hhi : bnd hi len h') (hlh : l ≤ h') (hh : h' ≤ cap)
 (H : ∀ v, RG P n K ops (j + 1) (putE e (opAt ops j).dst v) w) : RG P n K ops j e w :=
 have h1 := run_sliAt h (run_sub ht hlo hhi hlh hh w)
 RG.val h1.1 h1.2 (H _)
theorem RG.subN {t : TypeId} {sz : Nat} {r o len cap : Nat} {lo hi : Option Value} (l h' : Nat) (h : sliAt n ops j e = some (t, .slice (some ⟨r, o, none⟩) len cap, lo, hi)) (ht : sliB P t sz = true) (hlo : bnd lo 0 l) (hhi : bnd hi len h') (hlh : l ≤ h') (hh : h' ≤ cap) (hne : cap ≠ l)
 (H : RG P n K ops (j + 1) (putE e (opAt ops j).dst (.slice (some ⟨r, o + l * sz, none⟩) (h' - l) (cap - l))) w) : RG P n K ops j e w := by
 have h1 := run_sliAt h (run_sub ht hlo hhi hlh hh w)
 rw [if_neg hne] at h1
 simp only [Option.map_some, add_lit] at h1
 exact RG.val h1.1 h1.2 H
def extAt (P : Program) (n : Nat) (ops : Array Oper) (j : Nat) (e : Env) : Option (FuncId × List Value) :=
 bif goAt n ops j e then
  match (opAt ops j).op with
  | .call c => match c.callee with
    | .value f => match ev e f with
      | .func (.func g) first cap => some (g, first.toList ++ (c.args.toList.map (ev e)) ++ cap.toList)
      | _ => none
    | _ => none
  | _ => none
 else none
theorem RG.ext {f : FuncId} {args : List Value} {v : Value} (h : extAt P n ops j e = some (f, args)) (hr : (callFunc f args.toArray).run P w = .ok (.value v) w)
 (H : RG P n K ops (j + 1) (putE e (opAt ops j).dst v) w) : RG P n K ops j e w := by
 obtain ⟨hg, h⟩ := goAt_of h
 refine RG.val hg ?_ H
 split at h
 ·rename_i c hop
  split at h
  ·rename_i fo hcal
   split at h
   ·rename_i g first cap hf
    simp only [Option.some.injEq, Prod.mk.injEq] at h
    obtain ⟨rfl, rfl⟩ := h
    have hargs : (first.toList ++ (c.args.toList.map (ev e)) ++ cap.toList).toArray = (first ++ c.args.map (ev e)) ++ cap := by
     apply Array.toList_inj.1; simp
    rw [hargs] at hr
    simp only [execOp, hop, resolve, hcal, hf, Deferred.ofValue]
    simp only [invoke]
    exact hr
   ·cases h
  ·cases h
 ·cases h
end
theorem ovl_false {P : Program} {f : FuncId} {fn : Func} {tS tR t : TypeId} {w : World} {vb r o la ca lb cb : Nat} {cs cs2 : List Value} (hf : P.funcs[f]? = some fn) (h1 : (fn.name == "runtime.NumGoroutine") = false) (h2 : fn.body.isNone = true) (h3 : Extern.findNext fn = none)
 (h4 : Extern.find fn = some (Extern.SlicesOverlaps.overlaps #[tS, tS] #[tR])) {sz : Nat} (ht : appB P tS t sz = true) (hB : Box w vb t cs) (hR : Box w r t cs2) (hne : vb ≠ r) (hk : cs2.length ≠ 0) :
 (callFunc f #[.slice (some ⟨vb, 0, none⟩) la ca, .slice (some ⟨r, o, none⟩) lb cb]).run P w = .ok (.value (.bool false)) w := by
 obtain ⟨g1, i, z, hi, hsz, _, _, _⟩ := appB_spec ht
 have hz : ∀ w, (Go.sizeOf t).run P w = .ok i.size w := fun w => by simp [sizeOf, typeInfo, hi, go_sem]
 unfold Box at hB hR
 rw [run_callFunc_extern hf h1 h2 h3 h4, Lib.run_overlaps_apart w tS tR t g1 i.size hz ⟨vb, 0, none⟩ ⟨r, o, none⟩ la ca lb cb hne t t cs.length cs2.length (by simp [World.shape?, hB]) (by simp [World.shape?, hR]) hk (by simp [World.frozen?, hB]) (by simp [World.frozen?, hB])]
 rfl
theorem run_copyB {P : Program} {T T2 ty t : TypeId} {sz : Nat} {w : World} {b o dl dc sl sc k : Nat} {a2 : Addr} {cs vs : List Value} (hT : appB P T t sz = true) (hB : Box w b t cs) (hsrc : Has w a2 vs) (hvs : vs.length = k * sz) (hk : Nat.min sl dl = k) (ho : o + k * sz ≤ cs.length) (hone : ∀ v ∈ vs, oneC v = true) :
 ∃ w', (Builtin.copy_ #[T, T2] ty #[.slice (some ⟨b, o, none⟩) dl dc, .slice (some a2) sl sc]).run P w = .ok (goInt k) w' ∧ Box w' b t (splice cs o vs) ∧ Chg (one b) w w' ∧ w'.heap.size = w.heap.size := by
 obtain ⟨g1, i, z, hi, hsz, _, _, _⟩ := appB_spec hT
 obtain ⟨w', h1, h2, h3, h4⟩ := hB.storeL (P := P) vs (o := o) (i := 0) (by omega) hone
 have h5 := run_loadCellsFrom (P := P) a2 vs 0 #[] vs rfl hsrc
 have h6 : (loadCells a2 (k * i.size)).run P w = .ok vs.toArray w := by
  rw [hsz, ← hvs]
  unfold loadCells
  rw [h5]
  simp
 have hz : (sizeOf t).run P w = .ok i.size w := by simp [sizeOf, typeInfo, hi, go_sem]
 refine ⟨w', ?_, h2, h3, h4⟩
 unfold Builtin.copy_
 simp only [List.getElem?_toArray, List.getElem?_cons_zero, List.getElem?_cons_succ]
 rw [run_bind_ok (run_underlying g1 w)]
 simp only [Builtin.lenOf]
 rw [run_bind_ok (show (pure sl : Sem Nat).run P w = .ok sl w from rfl), run_bind_ok hz, hk]
 simp only [Builtin.firstCells]
 rw [run_bind_ok h6]
 simp only []
 rw [run_bind_ok h1]
 rfl
theorem appendZ {P : Program} {T tn ty t : TypeId} {kn : IntKind} {w : World} {r n c i : Nat} {cs : List Value} (hT : appB P T t 2 = true) (htn : P.underlying tn = some (.int kn)) (hB : Box w r t cs) (hl : cs.length = c * 2) (hi : i < n) (hn : n ≤ c) (hc : c < n + 1) (hs : n ≤ 1000000000) :
 ∃ gc ob w', (Builtin.append_ #[T, tn] ty #[.slice (some ⟨r, 0, none⟩) i c, .int .i64 ((n : Int) + 1 - i)]).run P w = .ok (.slice (some ⟨w.heap.size, 0, none⟩) (n + 1) gc) w' ∧
   Box w' w.heap.size t ob ∧ ob.length = gc * 2 ∧ n + 1 ≤ gc ∧ gc ≤ maxLen ∧ ob.take (i * 2) = cs.take (i * 2) ∧ Ext w w' ∧ w'.heap.size = w.heap.size + 1 := by
 obtain ⟨g1, inf, z, hinf, hsz, hby, hz, hzs⟩ := appB_spec hT
 have hBx := hB
 unfold Box at hBx
 have hole : (cs.take (i * 2)).length = i * inf.size := by rw [List.length_take, hsz]; omega
 have hold : (Builtin.firstCells inf.size i (.slice (some ⟨r, 0, none⟩) i c)).run P w.drew = .ok (cs.take (i * 2)).toArray w.drew := by
  have hh : Has w.drew ⟨r, 0, none⟩ (cs.take (i * 2)) := by
   intro k u hu
   rw [List.getElem?_take] at hu
   split at hu
   ·rw [add_lit]
    show World.cell? w.drew _ = _
    have : w.drew.heap = w.heap := rfl
    simp only [World.cell?, this, hBx]
    simpa using hu
   ·cases hu
  have h1 := run_loadCellsFrom (P := P) ⟨r, 0, none⟩ (cs.take (i * 2)) 0 #[] _ rfl hh
  simp only [Builtin.firstCells, loadCells]
  rw [List.drop_zero] at h1
  rw [← hole, h1]
  simp
 have hr := Lib.run_append_grow_zeros (P := P) w T tn ty t inf z .i64 kn g1 htn hinf hz (some ⟨r, 0, none⟩) i c (cs.take (i * 2)) hold (n + 1 - i) (by omega) (by omega) (by omega) (by omega) (Nat.le_trans (Nat.mul_le_mul (show n + 1 - i ≤ 1000000001 by omega) hby) (by omega))
  (growslice_fits (by omega) (Nat.le_trans (Nat.mul_le_mul (show i + (n + 1 - i) ≤ 1000000001 by omega) hby) (by omega)))
 rw [show i + (n + 1 - i) = n + 1 by omega] at hr
 generalize hg : grownCap w (n + 1) c t = gc at hr
 have hge : n + 1 ≤ gc := by rw [← hg]; exact grownCap_ge _ _ _ _
 have hgm : gc ≤ maxLen := by rw [← hg]; exact grownCap_le_maxLen _ _ _ _ (by unfold maxLen; omega)
 generalize hob : ((cs.take (i * 2)).toArray ++ Builtin.zeroCells z.cells (n + 1 - i) ++ Builtin.zeroCells z.cells (gc - (n + 1))) = ob at hr
 have hnew : (w.drew.alloc (.cells ob t)).heap[w.heap.size]? = some (.cells ob t (0, 0)) := heap_alloc_new w.drew _
 have hoth : ∀ k, k < w.heap.size → (w.drew.alloc (.cells ob t)).heap[k]? = w.heap[k]? := fun k hk => heap_alloc_old w.drew _ k hk
 have hoz : ob.size = gc * 2 := by
  rw [← hob]
  simp only [Array.size_append, List.size_toArray, hole, hsz, size_zeroCells, hzs, ← Nat.add_mul]
  congr 1
  omega
 refine ⟨gc, ob.toList, w.drew.alloc (.cells ob t), ?_, by unfold Box; simpa using hnew, by simpa using hoz, hge, hgm, ?_, ⟨rfl, rfl, rfl, by simp, fun k hk _ => hoth k hk⟩, by simp⟩
 ·have he : ((n + 1 - i : Nat) : Int) = (n : Int) + 1 - i := by omega
  rw [he] at hr
  exact hr
 ·rw [← hob]
  simp only [Array.toList_append, List.append_assoc]
  rw [List.take_append_of_le_length (by rw [hole, hsz]; omega)]
  rw [List.take_of_length_le (by rw [hole, hsz]; omega)]
theorem appendZB {P : Program} {T tn ty t : TypeId} {kn : IntKind} {w : World} {r n c i : Nat} {cs : List Value} (hT : appB P T t 2 = true) (htn : P.underlying tn = some (.int kn)) (hB : Box w r t cs) (hl : cs.length = c * 2) (hi : i < n) (hn : n ≤ c) (hc : c < n + 1) (hs : n ≤ 1000000000) :
 ∃ b, b = w.heap.size ∧ ∃ gc ob w', (Builtin.append_ #[T, tn] ty #[.slice (some ⟨r, 0, none⟩) i c, .int .i64 ((n : Int) + 1 - i)]).run P w = .ok (.slice (some ⟨b, 0, none⟩) (n + 1) gc) w' ∧
   Box w' b t ob ∧ ob.length = gc * 2 ∧ n + 1 ≤ gc ∧ gc ≤ maxLen ∧ ob.take (i * 2) = cs.take (i * 2) ∧ Ext w w' ∧ w'.heap.size = w.heap.size + 1 :=
 ⟨_, rfl, appendZ hT htn hB hl hi hn hc hs⟩
theorem spl_take {cs vs : List Value} {o : Nat} (h : o + vs.length ≤ cs.length) : (splice cs o vs).take o = cs.take o := by
 unfold splice
 rw [List.append_assoc, List.take_append_of_le_length (by rw [List.length_take]; omega), List.take_take, Nat.min_self]
theorem spl_take2 {cs vs : List Value} {o : Nat} (h : o + vs.length ≤ cs.length) : (splice cs o vs).take (o + vs.length) = cs.take o ++ vs := by
 unfold splice
 have : (cs.take o ++ vs).length = o + vs.length := by rw [List.length_append, List.length_take]; omega
 rw [← this, List.take_left]
theorem spl_len {cs vs : List Value} {o : Nat} (h : o + vs.length ≤ cs.length) : (splice cs o vs).length = cs.length := by
 unfold splice
 simp only [List.length_append, List.length_take, List.length_drop]
 omega
def rowC (y : Row) : List Value := [.int .i64 y.t, .int .i64 y.v]
theorem rowC_len (y : Row) : (rowC y).length = 2 := rfl
section
variable {cs ob : List Value} {xs : List Row} {y : Row} {n c gc i : Nat}
theorem midR (hx : cs.take (n * 2) = cellsR xs) (hn : n = xs.length) : (cs.drop (i * 2)).take ((n - i) * 2) = cellsR (xs.drop i) := by
 rw [cellsR_drop, ← hx, List.drop_take]
 congr 1
 omega
theorem headR (hx : cs.take (n * 2) = cellsR xs) (hi : i ≤ n) : cs.take (i * 2) = cellsR (xs.take i) := by
 rw [cellsR_take, ← hx, List.take_take, Nat.min_eq_left (by omega)]
theorem newR (a b : List Value) (ha : a = cellsR (xs.take i)) : (a ++ rowC y ++ cellsR (xs.drop i) ++ b).take ((xs.take i ++ y :: xs.drop i).length * 2) = cellsR (xs.take i ++ y :: xs.drop i) := by
 have h1 : a ++ rowC y ++ cellsR (xs.drop i) = cellsR (xs.take i ++ y :: xs.drop i) := by
  rw [cellsR_app, ha, List.append_assoc]
  congr 1
 rw [h1, ← cellsR_len, List.take_left]
theorem insC (hl : cs.length = c * 2) (hx : cs.take (n * 2) = cellsR xs) (hn : n = xs.length) (hi : i < n) (hc : n + 1 ≤ c) :
 (splice (splice cs ((i + 1) * 2) ((cs.drop (i * 2)).take ((n - i) * 2))) (i * 2) (rowC y)).take ((xs.take i ++ y :: xs.drop i).length * 2) = cellsR (xs.take i ++ y :: xs.drop i) ∧
  (splice (splice cs ((i + 1) * 2) ((cs.drop (i * 2)).take ((n - i) * 2))) (i * 2) (rowC y)).length = c * 2 := by
 rw [midR hx hn]
 have hm : (cellsR (xs.drop i)).length = (n - i) * 2 := by rw [cellsR_len, List.length_drop]; omega
 have h1 : (i + 1) * 2 + (cellsR (xs.drop i)).length ≤ cs.length := by rw [hm]; omega
 have h2 := spl_len h1
 have h3 : i * 2 + (rowC y).length ≤ (splice cs ((i + 1) * 2) (cellsR (xs.drop i))).length := by rw [h2, rowC_len]; omega
 refine ⟨?_, by rw [spl_len h3, h2, hl]⟩
 have e1 : (splice cs ((i + 1) * 2) (cellsR (xs.drop i))).take (i * 2) = cs.take (i * 2) := by
  have := congrArg (fun l => l.take (i * 2)) (spl_take h1)
  simpa [List.take_take, Nat.min_eq_left (show i * 2 ≤ (i + 1) * 2 by omega)] using this
 have e2 : (splice cs ((i + 1) * 2) (cellsR (xs.drop i))).drop (i * 2 + (rowC y).length) = cellsR (xs.drop i) ++ cs.drop ((i + 1) * 2 + (cellsR (xs.drop i)).length) := by
  rw [rowC_len, show i * 2 + 2 = (i + 1) * 2 by omega]
  unfold splice
  have : (cs.take ((i + 1) * 2)).length = (i + 1) * 2 := by rw [List.length_take]; omega
  rw [List.append_assoc]
  have h5 : (cs.take ((i + 1) * 2) ++ (cellsR (xs.drop i) ++ cs.drop ((i + 1) * 2 + (cellsR (xs.drop i)).length))).drop (cs.take ((i + 1) * 2)).length = cellsR (xs.drop i) ++ cs.drop ((i + 1) * 2 + (cellsR (xs.drop i)).length) := List.drop_left
  rw [this] at h5
  exact h5
 unfold splice at e1 e2 ⊢
 rw [e1, e2, ← List.append_assoc]
 exact newR _ _ (headR hx (by omega))
theorem insB (hl : ob.length = gc * 2) (ho : ob.take (i * 2) = cs.take (i * 2)) (hx : cs.take (n * 2) = cellsR xs) (hn : n = xs.length) (hi : i < n) (hc : n + 1 ≤ gc) :
 (splice (splice ob (i * 2) (rowC y)) ((i + 1) * 2) ((cs.drop (i * 2)).take ((n - i) * 2))).take ((xs.take i ++ y :: xs.drop i).length * 2) = cellsR (xs.take i ++ y :: xs.drop i) ∧
  (splice (splice ob (i * 2) (rowC y)) ((i + 1) * 2) ((cs.drop (i * 2)).take ((n - i) * 2))).length = gc * 2 := by
 rw [midR hx hn]
 have hm : (cellsR (xs.drop i)).length = (n - i) * 2 := by rw [cellsR_len, List.length_drop]; omega
 have h1 : i * 2 + (rowC y).length ≤ ob.length := by rw [rowC_len]; omega
 have h2 := spl_len h1
 have h3 : (i + 1) * 2 + (cellsR (xs.drop i)).length ≤ (splice ob (i * 2) (rowC y)).length := by rw [h2, hm]; omega
 refine ⟨?_, by rw [spl_len h3, h2, hl]⟩
 have e1 : (splice ob (i * 2) (rowC y)).take ((i + 1) * 2) = ob.take (i * 2) ++ rowC y := by
  rw [show (i + 1) * 2 = i * 2 + (rowC y).length by rw [rowC_len]; omega]
  exact spl_take2 h1
 unfold splice at e1 ⊢
 rw [e1]
 exact newR _ _ (by rw [ho]; exact headR hx (by omega))
end
theorem GA.subN {P : Program} {S : Nat → Prop} {n m : Nat} {L : Env → World → Prop} {ops : Array Oper} {l : List Nat} {e : Env} {w : World} {i : Nat} {t : TypeId} {sz r o len cap : Nat} {lo hi : Option Value} (l' h' : Nat) (hb : gB n m ops l i = true) (h : sliAt n ops i e = some (t, .slice (some ⟨r, o, none⟩) len cap, lo, hi)) (ht : sliB P t sz = true) (hlo : bnd lo 0 l') (hhi : bnd hi len h') (hlh : l' ≤ h') (hh : h' ≤ cap) (hne : cap ≠ l')
 (H : GA P S n m L ops (i :: l) (putE e (opAt ops i).dst (.slice (some ⟨r, o + l' * sz, none⟩) (h' - l') (cap - l'))) w) : GA P S n m L ops l e w := by
 refine GA.det' hb (fun w => ?_) H
 have h1 := run_sliAt h (run_sub ht hlo hhi hlh hh w)
 rw [if_neg hne] at h1
 simp only [Option.map_some, add_lit] at h1
 exact h1
theorem has_take {cs : List Value} {a k : Nat} (h : ((cs.drop a).take k).length ≤ k) : (cs.drop a).take ((cs.drop a).take k).length = (cs.drop a).take k := by
 rw [List.length_take]
 by_cases hk : k ≤ (cs.drop a).length
 ·rw [Nat.min_eq_left hk]
 ·rw [Nat.min_eq_right (by omega), List.take_of_length_le (Nat.le_refl _), List.take_of_length_le (by omega)]
theorem nat_min {a b k : Nat} (h : b ≤ a ∧ b = k ∨ a ≤ b ∧ a = k) : Nat.min a b = k := by
 show min a b = k
 omega
theorem ins_end {w : World} {r t n c i : Nat} {F : Nat → Prop} {xs : List Row} {y : Row} (h : Own w r t F (n + 1) c (xs ++ [y])) (hi : xs.length ≤ i) : Own w r t F (n + 1) c (xs.take i ++ y :: xs.drop i) := by
 rw [List.take_of_length_le hi, List.drop_of_length_le hi]
 exact h
end Go.Proofs.YtfnpaglcnmcnbaaGreat
namespace Go.Proofs.YtfnpaglcnmcnbaaGreat
set_option maxRecDepth 100000
set_option maxHeartbeats 4000000
theorem c_slices_Insert {w : World} {F : Nat → Prop} {r n c vb i : Nat} {xs : List Row} {y : Row} (ho : Own w r 33 F n c xs) (hv : Box w vb 33 [.int .i64 y.t, .int .i64 y.v]) (hne : vb ≠ r) (hi : i ≤ n) (hn : n ≤ 1000000) : Calls Tryz.prog 129 [.slice (some ⟨r, 0, none⟩) n c, .int .i64 (i : Int), .slice (some ⟨vb, 0, none⟩) 1 1].toArray w (rets fun rv w' => (∃ r2 c2, rv = .slice (some ⟨r2, 0, none⟩) (n + 1) c2 ∧ Own w' r2 33 all (n + 1) c2 (xs.take i ++ y :: xs.drop i) ∧ OrB r2 r w.heap.size) ∧ Chg (one r) w w') := by
 refine goT Tryz.func129 ?_
 replace hne : Nb vb r := hne
 have hnx := ho.len; have hle := ho.le; have hcm := ho.cap
 replace ho : Own w r 33 (nin all [r]) n c xs := ho.flat flat_row
 refine .s <| .g <| .r 1 <| .d <| .s <| .g <| .r 2 <| RG.subA (a := some ⟨r, 0, none⟩) (t := 42) (lo := some (vI (i : Int))) (hi := none) (sz := 2) i n (by kernel_rfl) (by kernel_rfl) (.inr ⟨_, _, rfl, by omega⟩) (.inl ⟨rfl, rfl⟩) (by omega) (by omega) fun v_ => .d <| .s <| .g <| .r 3 <| .d <| .s <| .s <| .g <| .r 1 <| .eq 1 0 (fun av => .d <| .ct <| .s <| .g <| .r 2 <| .d <| absurd (show False by omega) id) fun av => .d <| .cf <| .sk <| .s <| .g <| .r 3 <| .d <| .s <| .s <| .g <| .r 2 <| .eq (i : Int) (n : Int) (fun aw => ?_) (fun aw => ?_)
 ·refine .d <| .ct <| .s <| .g <| .r 2 ?_
  have V : nin all [r] vb ∧ vb ≠ r := hap_mk trivial (all_cons hne all_nil) hne
  refine RG.append1 (T := 42) (ty := 42) (y := y) ho hv (by kernel_rfl) (by kernel_rfl) rfl V (by omega) fun aE aF aG O W Z => ?_
  have ax := cov_or W (Cov.mk1 w r) (Nat.le_refl _)
  replace hv := (s1 Z).g1 hv
  have ay : Chg (one r) w aG := Chg.stepO (Chg.refl (one r) w) Z (Cov.mk1 w r)
  clear Z
  replace O := O.rn r
  clear W
  have aK := O.len; have aL := O.max
  exact .r 1 <| .d <| .rt Tryz.func129 Tryz.results129 (vS aE (n + 1) aF) ⟨⟨_, _, rfl, ins_end (O.flat flat_row) (by omega), ax⟩, ay⟩
 refine .d <| .cf <| .sk <| .s <| .s <| .g <| .r 2 <| .it ((n : Int) + 1) <| .r 2 <| .bp ((n : Int) + 1 > (c : Int)) (fun az => ?_) (fun az => ?_)
 ·refine .d <| .ct <| .s <| .g <| .r 2 ?_
  obtain ⟨cs, hbx, hcl, hct, aA, aB⟩ := ho.box
  refine RG.subN (r := r) (o := 0) (len := n) (cap := c) (t := 42) (lo := none) (hi := some (vI (i : Int))) (sz := 2) 0 i (by kernel_rfl) (by kernel_rfl) (.inl ⟨rfl, rfl⟩) (.inr ⟨_, _, rfl, by omega⟩) (by omega) (by omega) (by omega) <| .r 2 <| .it ((n : Int) + 1) <| .r 1 <| .it (((n : Int) + 1) - (i : Int)) ?_
  obtain ⟨b2, hq, gc, ob, w2, hrun, aH, hol, hge, hgm, hot, aC, aM⟩ := appendZB (P := Tryz.prog) (T := 42) (tn := 3) (ty := 42) (kn := .i64) (n := n) (by kernel_rfl) (by kernel_rfl) hbx hcl (by omega : i < n) (by omega) (by omega) (by omega)
  refine RG.append (ats := [42, 3]) (args := [vS r i c, vI ((n : Int) + 1 - i)]) (by kernel_rfl) hrun ?_
  have aN := nb_new hq hbx.lt
  have aO := nb_new hq hv.lt
  have aD : Cov (one r) w b2 := cov_new hq (Nat.le_refl _)
  replace ⟨hbx, hv⟩ := (se [] aC).g2 hbx hv
  have C : Chg (one r) w w2 := Chg.stepN (Chg.refl (one r) w) aC
  refine .r 1 <| .d <| .s <| .g <| .r 2 <| RG.subN (r := b2) (o := 0) (len := (n + 1)) (cap := gc) (t := 42) (lo := some (vI (i : Int))) (hi := none) (sz := 2) i (n + 1) (by kernel_rfl) (by kernel_rfl) (.inr ⟨_, _, rfl, by omega⟩) (.inl ⟨rfl, rfl⟩) (by omega) (by omega) (by omega) <| .r 1 ?_
  obtain ⟨aI, ab, J, ag, aP⟩ := run_copyB (P := Tryz.prog) (a2 := ⟨vb, 0, none⟩) (T := 42) (T2 := 42) (ty := 3) (t := 33) (sz := 2) (o := (0 + i * 2)) (dl := ((n + 1) - i)) (dc := (gc - i)) (sl := 1) (sc := 1) (k := 1) (vs := (rowC y)) (by kernel_rfl) aH (hv.has 0 (rowC y) rfl) (by rfl) (Nat.min_eq_left (by omega)) (by have := hcl; omega) (by intro v hv_; simp [rowC] at hv_; rcases hv_ with rfl | rfl <;> rfl)
  refine RG.copy (ats := [42, 42]) (args := [.slice (some ⟨b2, 0 + i * 2, none⟩) ((n + 1) - i) (gc - i), vS vb 1 1]) (by kernel_rfl) ab ?_
  rw [Nat.zero_add] at J
  replace ⟨hbx, hv, C⟩ := (s1 ag).g3 hbx hv C
  clear ag
  refine .d <| .s <| .gd (mtb [] aI.heap.size) 8 fun aU ah => ?_
  replace ⟨hbx, hv, J, C⟩ := (se [] ah).g4 hbx hv J C
  clear ah
  refine .r [0, 1, 2] <| GA.int (i := 3) ((i : Int) + 1) (by kernel_rfl) (by omega) <| GA.subN (i := 4) (r := b2) (o := 0) (len := (n + 1)) (cap := gc) (t := 42) (lo := some (vI ((i : Int) + 1))) (hi := none) (sz := 2) (i + 1) (n + 1) (by kernel_rfl) (by kernel_rfl) (by kernel_rfl) (.inr ⟨_, _, rfl, by omega⟩) (.inl ⟨rfl, rfl⟩) (by omega) (by omega) (by omega) <| .r [5, 6] <| GA.subN (i := 7) (r := r) (o := 0) (len := n) (cap := c) (t := 42) (lo := some (vI (i : Int))) (hi := none) (sz := 2) i n (by kernel_rfl) (by kernel_rfl) (by kernel_rfl) (.inr ⟨_, _, rfl, by omega⟩) (.inl ⟨rfl, rfl⟩) (by omega) (by omega) (by omega) <| .d fun aV ai => ?_
  replace ⟨hbx, hv, J, C⟩ := (se [] ai).g4 hbx hv J C
  clear ai
  obtain ⟨aW, ac, aj, ak, aQ⟩ := run_copyB (P := Tryz.prog) (a2 := ⟨r, 0 + i * 2, none⟩) (T := 42) (T2 := 42) (ty := 3) (t := 33) (sz := 2) (o := (0 + (i + 1) * 2)) (dl := ((n + 1) - (i + 1))) (dc := (gc - (i + 1))) (sl := (n - i)) (sc := (c - i)) (k := (n - i)) (vs := ((cs.drop (i * 2)).take ((n - i) * 2))) (by kernel_rfl) J (by rw [Nat.zero_add]; exact hbx.has (i * 2) ((cs.drop (i * 2)).take ((n - i) * 2)) (has_take (by simp; omega))) (by rw [midR hct hnx, cellsR_len, List.length_drop]; omega) (nat_min (by omega)) (by have := hcl; rw [spl_len (by rw [rowC_len]; omega)]; omega) (by rw [midR hct hnx]; exact cellsR_one _)
  refine RG.copy (ats := [42, 42]) (args := [.slice (some ⟨b2, 0 + (i + 1) * 2, none⟩) ((n + 1) - (i + 1)) (gc - (i + 1)), .slice (some ⟨r, 0 + i * 2, none⟩) (n - i) (c - i)]) (by kernel_rfl) ac ?_
  rw [Nat.zero_add] at aj
  replace ⟨hbx, hv, C⟩ := (s1 ak).g3 hbx hv C
  clear ak
  refine .d <| .s <| .g <| .r 2 <| .d ?_
  have hfin := insB (y := y) hol hot hct hnx (by omega : i < n) (by omega)
  have hlen : (xs.take i ++ y :: xs.drop i).length = n + 1 := by simp; omega
  have hown := Own.ofBox (F := all) aj hfin.2 hfin.1 (by rw [hlen]; omega) (by omega)
  rw [hlen] at hown
  exact .rt Tryz.func129 Tryz.results129 (vS b2 (n + 1) gc) ⟨⟨_, _, rfl, hown, aD⟩, C⟩
 refine .d <| .cf <| .sk <| .s <| .g <| .r 3 <| .it ((n : Int) + 1) ?_
 obtain ⟨cs, hbx, hcl, hct, aA, aB⟩ := ho.box
 refine RG.subN (r := r) (o := 0) (len := n) (cap := c) (t := 42) (lo := none) (hi := some (vI ((n : Int) + 1))) (sz := 2) 0 (n + 1) (by kernel_rfl) (by kernel_rfl) (.inl ⟨rfl, rfl⟩) (.inr ⟨_, _, rfl, by omega⟩) (by omega) (by omega) (by omega) <| .r 1 <| .d <| .s <| .s <| .g <| .r 4 <| .it ((i : Int) + 1) <| RG.subN (r := r) (o := 0) (len := (n + 1)) (cap := c) (t := 42) (lo := some (vI ((i : Int) + 1))) (hi := none) (sz := 2) (i + 1) (n + 1) (by kernel_rfl) (by kernel_rfl) (.inr ⟨_, _, rfl, by omega⟩) (.inl ⟨rfl, rfl⟩) (by omega) (by omega) (by omega) <| RG.ext (f := 162) (args := [vS vb 1 1, .slice (some ⟨r, 0 + (i + 1) * 2, none⟩) (n + 1 - (i + 1)) (c - (i + 1))]) (by kernel_rfl) (ovl_false (fn := Tryz.f162) (tS := 42) (tR := 4) (sz := 2) Tryz.func162 (by kernel_rfl) (by kernel_rfl) (by kernel_rfl) (by kernel_rfl) (by kernel_rfl) hv hbx hne (by omega)) <| .r 1 <| .d <| .ct <| .s <| .gd (mtb [] w.heap.size) 8 fun aJ aa => ?_
 replace ⟨hbx, hv⟩ := (se [] aa).g2 hbx hv
 have E : Chg (one r) w aJ := Chg.stepN (Chg.refl (one r) w) aa
 clear aa
 refine .r [0, 1, 2] <| GA.int (i := 3) ((i : Int) + 1) (by kernel_rfl) (by omega) <| GA.subN (i := 4) (r := r) (o := 0) (len := (n + 1)) (cap := c) (t := 42) (lo := some (vI ((i : Int) + 1))) (hi := none) (sz := 2) (i + 1) (n + 1) (by kernel_rfl) (by kernel_rfl) (by kernel_rfl) (.inr ⟨_, _, rfl, by omega⟩) (.inl ⟨rfl, rfl⟩) (by omega) (by omega) (by omega) <| .r [5, 6] <| GA.subN (i := 7) (r := r) (o := 0) (len := (n + 1)) (cap := c) (t := 42) (lo := some (vI (i : Int))) (hi := none) (sz := 2) i (n + 1) (by kernel_rfl) (by kernel_rfl) (by kernel_rfl) (.inr ⟨_, _, rfl, by omega⟩) (.inl ⟨rfl, rfl⟩) (by omega) (by omega) (by omega) <| .d fun aX al => ?_
 replace ⟨hbx, hv, E⟩ := (se [] al).g3 hbx hv E
 clear al
 obtain ⟨aY, ae, am, ao, aR⟩ := run_copyB (P := Tryz.prog) (a2 := ⟨r, 0 + i * 2, none⟩) (T := 42) (T2 := 42) (ty := 3) (t := 33) (sz := 2) (o := (0 + (i + 1) * 2)) (dl := (n + 1 - (i + 1))) (dc := (c - (i + 1))) (sl := (n + 1 - i)) (sc := (c - i)) (k := (n - i)) (vs := ((cs.drop (i * 2)).take ((n - i) * 2))) (by kernel_rfl) hbx (by rw [Nat.zero_add]; exact hbx.has (i * 2) ((cs.drop (i * 2)).take ((n - i) * 2)) (has_take (by simp; omega))) (by rw [midR hct hnx, cellsR_len, List.length_drop]; omega) (nat_min (by omega)) (by have := hcl; omega) (by rw [midR hct hnx]; exact cellsR_one _)
 refine RG.copy (ats := [42, 42]) (args := [.slice (some ⟨r, 0 + (i + 1) * 2, none⟩) (n + 1 - (i + 1)) (c - (i + 1)), .slice (some ⟨r, 0 + i * 2, none⟩) (n + 1 - i) (c - i)]) (by kernel_rfl) ae ?_
 rw [Nat.zero_add] at am
 replace ⟨hv, E⟩ := (s1 ao).g2 hv E
 clear ao
 refine .d <| .s <| .g <| .r 2 <| RG.subN (r := r) (o := 0) (len := (n + 1)) (cap := c) (t := 42) (lo := some (vI (i : Int))) (hi := none) (sz := 2) i (n + 1) (by kernel_rfl) (by kernel_rfl) (.inr ⟨_, _, rfl, by omega⟩) (.inl ⟨rfl, rfl⟩) (by omega) (by omega) (by omega) <| .r 1 ?_
 obtain ⟨aZ, af, aq, ar, aS⟩ := run_copyB (P := Tryz.prog) (a2 := ⟨vb, 0, none⟩) (T := 42) (T2 := 42) (ty := 3) (t := 33) (sz := 2) (o := (0 + i * 2)) (dl := (n + 1 - i)) (dc := (c - i)) (sl := 1) (sc := 1) (k := 1) (vs := (rowC y)) (by kernel_rfl) am (hv.has 0 (rowC y) rfl) (by rfl) (Nat.min_eq_left (by omega)) (by have := hcl; rw [spl_len (by rw [midR hct hnx, cellsR_len, List.length_drop]; omega)]; omega) (by intro v hv_; simp [rowC] at hv_; rcases hv_ with rfl | rfl <;> rfl)
 refine RG.copy (ats := [42, 42]) (args := [.slice (some ⟨r, 0 + i * 2, none⟩) (n + 1 - i) (c - i), vS vb 1 1]) (by kernel_rfl) af ?_
 rw [Nat.zero_add] at aq
 replace ⟨hv, E⟩ := (s1 ar).g2 hv E
 clear ar
 refine .d <| .s <| .g <| .r 2 <| .d ?_
 have hfin := insC (y := y) hcl hct hnx (by omega : i < n) (by omega)
 have hlen : (xs.take i ++ y :: xs.drop i).length = n + 1 := by simp; omega
 have hown := Own.ofBox (F := all) aq hfin.2 hfin.1 (by rw [hlen]; omega) (by omega)
 rw [hlen] at hown
 exact .rt Tryz.func129 Tryz.results129 (vS r (n + 1) c) ⟨⟨_, _, rfl, hown, orb_refl⟩, E⟩
end Go.Proofs.YtfnpaglcnmcnbaaGreat
namespace Go.Proofs.YtfnpaglcnmcnbaaGreat
theorem Own.box1 {w : World} {r t c : Nat} {F : Nat → Prop} {y : Row} (h : Own w r t F 1 c [y]) (hc : c = 1 := by rfl) : Box w r t [.int .i64 y.t, .int .i64 y.v] := by
 obtain ⟨cs, h1, h2, h3, _, _⟩ := h.box
 subst hc
 rw [List.take_of_length_le (by omega)] at h3
 rw [h3] at h1
 exact h1
theorem Mv.appO {w w' : World} {r r2 : Nat} (A B : List Nat) (hx : Chg (Go.Proofs.YtfnpaglcnmcnbaaGreat.one r) w w') (h : OrB r2 r w.heap.size) : Mv (A ++ r :: B) (A ++ r2 :: B) w w' := Mv.mk hx (fun k hk hm => by
 unfold OrB at h
 simp only [List.mem_append, List.mem_cons, not_or] at hm ⊢
 exact ⟨⟨hm.1, by omega, hm.2.2⟩, hm.2.1⟩)
theorem insStep {b : List Row} {r x : Row} {i : Nat} (h : b.take i ++ insR r (b.drop i) = insR r b) (hx : b[i]? = some x) (ht : x.t < r.t) : b.take (i + 1) ++ insR r (b.drop (i + 1)) = insR r b := by
 rw [drop_at hx, insR, if_neg (by omega), if_neg (by omega)] at h
 rw [← h, List.take_add_one, hx]
 simp
theorem insHit {b : List Row} {r x : Row} {i : Nat} (h : b.take i ++ insR r (b.drop i) = insR r b) (hx : b[i]? = some x) (ht : x.t = r.t) : b.set i r = insR r b := by
 rw [drop_at hx, insR, if_neg (by omega), if_pos (by omega)] at h
 rw [← h]
 obtain ⟨h1, h2⟩ := List.getElem?_eq_some_iff.1 hx
 rw [List.set_eq_take_append_cons_drop, if_pos h1]
theorem insNew {b : List Row} {r x : Row} {i : Nat} (h : b.take i ++ insR r (b.drop i) = insR r b) (hx : b[i]? = some x) (h1 : ¬ x.t < r.t) (h2 : x.t ≠ r.t) : b.take i ++ r :: b.drop i = insR r b := by
 rw [← h]
 congr 1
 rw [drop_at hx, insR, if_pos (by omega)]
theorem insTop {b : List Row} {r : Row} {i : Nat} (h : b.take i ++ insR r (b.drop i) = insR r b) (hi : b.length ≤ i) : b.take i ++ r :: b.drop i = insR r b := by
 rw [← h, drop_end hi]
 rfl
def partI (p : Prt) (id : Int) : List Row := if partOk p then partOf p id else []
theorem idxF_spec (v : Int) : ∀ (is : List Int) (bs : List (List Row)) (i : Nat), is.length = bs.length → (idxF v i is = -1 ∧ partF v is bs = []) ∨ ((i : Int) ≤ idxF v i is ∧ idxF v i is < (i : Int) + is.length ∧ ∃ b, bs[(idxF v i is).toNat - i]? = some b ∧ partF v is bs = b) := by
 intro is
 induction is with
 | nil => intro bs i h; left; exact ⟨rfl, by unfold partF; rfl⟩
 | cons x xs ih =>
   intro bs i h
   cases bs with
   | nil => simp at h
   | cons b bs =>
     unfold idxF partF
     by_cases hx : (x == v) = true
     ·right
      rw [if_pos hx, if_pos hx]
      refine ⟨by omega, by simp only [List.length_cons]; omega, b, ?_, rfl⟩
      simp
     ·rw [if_neg hx, if_neg hx]
      rcases ih bs (i + 1) (by simpa using h) with ⟨h1, h2⟩ | ⟨h1, h2, c, h3, h4⟩
      ·left; exact ⟨h1, h2⟩
      ·right
       refine ⟨by omega, by simp only [List.length_cons]; omega, c, ?_, h4⟩
       rw [show (idxF v (i + 1) xs).toNat - i = ((idxF v (i + 1) xs).toNat - (i + 1)) + 1 by omega, List.getElem?_cons_succ]
       exact h3
theorem partOk_len {p : Prt} (h : partOk p = true) : p.ids.length = p.blocks.length := by
 unfold partOk at h
 simp only [Bool.and_eq_true, decide_eq_true_eq] at h
 exact h.1
theorem partI_1 {p : Prt} {id : Int} (h : partOk p = false) : partI p id = [] := by unfold partI; rw [h]; rfl
theorem partI_2 {p : Prt} {id : Int} (h : partOk p = true) (h2 : idxF id 0 p.ids < 0) : partI p id = [] := by
 unfold partI partOf
 rw [if_pos h]
 rcases idxF_spec id p.ids p.blocks 0 (partOk_len h) with ⟨_, h3⟩ | ⟨h1, _⟩
 ·exact h3
 ·omega
theorem partI_3 {p : Prt} {id : Int} {b : List Row} (h : partOk p = true) (h2 : ¬ idxF id 0 p.ids < 0) (hb : p.blocks[(idxF id 0 p.ids).toNat]? = some b) : partI p id = b := by
 unfold partI partOf
 rw [if_pos h]
 rcases idxF_spec id p.ids p.blocks 0 (partOk_len h) with ⟨h1, _⟩ | ⟨_, _, c, h3, h4⟩
 ·omega
 ·rw [Nat.sub_zero, hb] at h3
  cases h3
  exact h4
theorem partI_i {p : Prt} {id : Int} (h : partOk p = true) (h2 : ¬ idxF id 0 p.ids < 0) : (idxF id 0 p.ids).toNat < p.blocks.length := by
 rcases idxF_spec id p.ids p.blocks 0 (partOk_len h) with ⟨h1, _⟩ | ⟨_, h3, _⟩
 ·omega
 ·have := partOk_len h; omega
theorem PrtI.ofI {p : Prt} (h : PrtI p) (id : Int) : Blk (partI p id) := by
 unfold partI
 split
 ·exact h.of id
 ·exact Blk.nil
theorem foldStep {α β : Type} {f : β → α → β} {l : List α} {i : Nat} {b : β} {x : α} {Y : β} (h : (l.drop i).foldl f b = Y) (hd : l.drop i = x :: l.drop (i + 1)) : (l.drop (i + 1)).foldl f (f b x) = Y := by
 rw [hd] at h
 exact h
theorem foldEnd {α β : Type} {f : β → α → β} {l : List α} {i : Nat} {b : β} {Y : β} (h : (l.drop i).foldl f b = Y) (hi : l.length ≤ i) : b = Y := by
 rw [drop_end hi] at h
 exact h
theorem rowsM_hit {id : Int} {o : List Row} {m : Smp} (h : m.id = id) (ho : Blk o) : rowsM id o m = insR m.row o := by unfold rowsM; rw [if_pos (by simpa using h), sPut_ins ho]
theorem rowsM_no {id : Int} {o : List Row} {m : Smp} (h : m.id ≠ id) : rowsM id o m = o := by unfold rowsM; rw [if_neg (by simpa using h)]
theorem Blk.ins {b : List Row} (h : Blk b) {r : Row} (hr : rowOk r = true) : Blk (insR r b) := by rw [← sPut_ins h]; exact h.put hr
theorem copyI {p : Prt} {a : List Int} {b : List (List Row)} (ha : a = p.ids) (hb : b = p.blocks) : (⟨a, b⟩ : Prt) = p := by subst ha hb; rfl
theorem appEnd {α : Type} {l k : List α} {i : Nat} (h : k ++ l.drop i = l) (hi : l.length ≤ i) : k = l := by
 rw [drop_end hi, List.append_nil] at h
 exact h
end Go.Proofs.YtfnpaglcnmcnbaaGreat
namespace Go.Proofs.YtfnpaglcnmcnbaaGreat
set_option maxRecDepth 100000
set_option maxHeartbeats 4000000
theorem c_impl_put (b : List Row) (r : Row) {w : World} {F : Nat → Prop} {a1 : Option Addr} {n1 c1 : Nat} (h1 : RepS w F a1 n1 c1 b) (p0 : b.length ≤ 100000) : Calls Tryz.prog 75 [.slice a1 n1 c1, .agg #[.int .i64 r.t, .int .i64 r.v]].toArray w (rets fun rv w' => VL (ge w.heap.size) w' (insR r b : List Row) rv ∧ Ext w w') := by
 refine goT Tryz.func75 ?_
 obtain ⟨rfl, eK, h1⟩ := h1.tp
 refine .s <| .g <| .np 33 [vI r.t, vI r.v] fun O ff bU bh E dg => ?_
 replace h1 := (sn [] bh bU).g1 h1
 have C := bh
 clear bh dg bU
 refine .r 1 <| .d <| .s <| .g <| .ns 0 33 [] fun co d3 aW bV dh di => ?_
 have dj := nb_new aW E.lt
 have dk := gb_new aW C.size
 have dm := C.cn aW
 replace ⟨h1, E, C⟩ := (sn [O] bV aW).g3 h1 E C
 clear bV di aW
 have dp : Own (α := Row) d3 co 33 (nin (ge w.heap.size) [co, O]) 0 0 [] := Own.nil' dh
 refine .r 1 <| RG.appendF (T := 42) (ty := 42) flat_row dp h1 (by kernel_rfl) (by kernel_rfl) (fun b h e => h.2 (e ▸ (.head _))) (by omega) fun V cp dq J aI bW => ?_
 have eL := nb_or aI dj E.lt
 have bX := gb_or aI dk C.size
 have eM := cov_or aI dm C.size
 replace ⟨E, C⟩ := (s1 bW).g2 E C
 clear bW
 replace J := J.rn co
 clear aI
 have eN := J.len; have eO := J.max
 refine .r 1 <| .d <| .s <| .g <| .r 1 <| .d <| .s <| .b 0 <| T.loop (X := Nat) 0 (fun at_ => [(3, .pointer (some ⟨O, 0, none⟩)), (5, vS V (0 + b.length) cp), (6, vI (at_ : Int))]) (fun at_ cq => Chg (ins []) dq cq ∧ (at_ ≤ b.length) ∧ (b.take at_ ++ insR r (b.drop at_) = insR r b)) (fun at_ => b.length - at_) (by kernel_rfl) ⟨by kernel_rfl, by kernel_rfl, by kernel_rfl, trivial⟩ ⟨Chg.refl _ _, (by omega), (by simp)⟩ ?_
 rintro at_ fg cq ⟨aw, eP, eQ⟩ bi
 have bY : Mv [V, O] [V, O] dq cq := Mv.inl aw all_nil (all_cons (.inl (.head _)) (all_cons (.inl (.tail _ (.head _))) all_nil))
 replace ⟨E, J, C⟩ := (sp bY aw).g3 E J C
 clear bY
 refine .s <| .s <| .gd nil 12 fun d4 bZ => ?_
 replace ⟨E, J, C, aw⟩ := (se [V, O] bZ).g4 E J C aw
 clear bZ
 refine .r [0, 1, 2] <| GA.boolP (i := 3) ((at_ : Int) < ((0 + b.length) : Int)) (by kernel_rfl) (fun dr => ?_) (fun dr => ?_)
 ·refine .r [4, 5, 6] ?_
  have dt : at_ < 0 + b.length := (by omega)
  refine GA.idx (i := 7) (b := V) (o := 0) at_ (len := 0 + b.length) (z := (at_ : Int)) (sz := 2) (by kernel_rfl) (by omega) dt rfl <| .r [8] ?_
  obtain ⟨ak, aD⟩ : ∃ y, ([] ++ b)[at_]? = some y := ⟨_, List.getElem?_eq_getElem (by omega)⟩
  have eR := drop_at aD; have d0 := List.mem_of_getElem? aD
  obtain ⟨_, rfl, bj⟩ := J.elem at_ ak aD
  replace bj : Has d4 ⟨V, 0 + at_ * Rep.sz Row, none⟩ [vI ak.t, vI ak.v] := by rw [Nat.zero_add]; exact bj
  refine .lh 9 0 bj id <| .r [10] <| .lb 11 E id <| .d fun fh b0 => ?_
  replace ⟨E, J, C, aw⟩ := (se [V, O] b0).g4 E J C aw
  clear b0
  refine .bp (ak.t < r.t) (fun du => .r 1 <| .d <| .ct <| .sk <| .b 1 <| .g <| .r 1 <| .it ((at_ : Int) + 1) <| .r 1 <| .d <| .ib 1 <| bi (at_ + 1) _ _ ⟨by kernel_rfl, by kernel_rfl, by kernel_rfl, trivial⟩ ⟨aw, (by omega), (by exact insStep (by assumption) (by assumption) (by assumption))⟩ (by omega)) fun du => .r 1 <| .d <| .cf <| .x 0 rfl <| .s <| .s <| .gd nil 12 fun d5 b6 => ?_
  replace ⟨E, J, C⟩ := (se [V, O] b6).g3 E J C
  clear b6
  refine .r [0, 1, 2] <| GA.boolP (i := 3) ((at_ : Int) < ((0 + b.length) : Int)) (by kernel_rfl) (fun dv => ?_) (fun dv => ?_)
  ·refine .r [4, 5, 6] ?_
   have dw : at_ < 0 + b.length := (by omega)
   refine GA.idx (i := 7) (b := V) (o := 0) at_ (len := 0 + b.length) (z := (at_ : Int)) (sz := 2) (by kernel_rfl) (by omega) dw rfl <| .r [8] ?_
   obtain ⟨_, rfl, bk⟩ := J.elem at_ ak aD
   replace bk : Has d5 ⟨V, 0 + at_ * Rep.sz Row, none⟩ [vI ak.t, vI ak.v] := by rw [Nat.zero_add]; exact bk
   refine .lh 9 0 bk id <| .r [10] <| .lb 11 E id <| .d fun d6 b7 => ?_
   replace ⟨E, J, C⟩ := (se [V, O] b7).g3 E J C
   clear b7
   refine .eq ak.t r.t (fun dx => ?_) (fun dx => ?_)
   ·refine .r 1 <| .d <| .ct <| .s <| .g <| .r 2 <| .ln E ?_
    have dy : at_ < 0 + b.length := (by omega)
    refine RG.idx (b := V) (o := 0) at_ (len := 0 + b.length) (i := (at_ : Int)) (sz := 2) (by kernel_rfl) (by omega) dy rfl ?_
    obtain ⟨_, rfl, bm⟩ := J.elem at_ ak aD
    replace bm : Has d6 ⟨V, 0 + at_ * Rep.sz Row, none⟩ [vI ak.t, vI ak.v] := by rw [Nat.zero_add]; exact bm
    refine RG.storeO (t' := 33) (i := at_) (k := 0) (v := .agg #[vI r.t, vI r.v]) (cs := [vI ak.t, vI ak.v]) r J aD bm (by kernel_rfl) (by kernel_rfl) (by kernel_rfl) rfl fun fi dz b8 dA => ?_
    replace ⟨E, C⟩ := (s1 b8).g2 E C
    clear b8 dA
    refine .d <| .s <| .g <| .r 2 <| .d ?_
    have d7 := dz.sl bX
    exact .rt Tryz.func75 Tryz.results75 (vS V (0 + b.length) cp) ⟨(d7.vl (by exact insHit (by assumption) (by assumption) (by assumption)) (fun _ _ h => h.1)), C⟩
   refine .r 1 <| .d <| .cf <| .sk <| .s <| .g <| .ns 0 33 [] fun aJ d8 aE b9 dB dC => ?_
   have dD := nb_new aE E.lt
   have dE := nb_new aE J.lt
   have dF := gb_new aE C.size
   have eS := C.cn aE
   replace ⟨E, J, C⟩ := (sn [V, O] b9 aE).g3 E J C
   clear b9 dC aE
   have ax : Own (α := Row) d8 aJ 33 (nin (ge w.heap.size) [aJ, V, O]) 0 0 [] := Own.nil' dB
   refine .r 2 <| .ln E <| .ns 1 33 [vI r.t, vI r.v] fun bg dG aK bn cr cu => ?_
   have cv := nb_new aK J.lt
   have cw := nb_new aK ax.lt
   replace ⟨E, J, ax, C⟩ := (sn [aJ, V, O] bn aK).g4 E J ax C
   clear bn cu aK
   have aL : Own (α := Row) dG bg 33 (nin (ge w.heap.size) [bg, aJ, V, O]) 1 1 [r] := Own.lit cr rfl (by decide) ⟨rfl, rfl⟩
   refine .cl (c_slices_Insert (i := at_) (y := r) J (Own.box1 aL) cv (by omega) (by omega)) ?_
   rintro eT cd ⟨⟨bo, eU, rfl, al, aM⟩, aX⟩
   have bq := nb_or' aM (Nb.symm dE) ax.lt
   have br : Mv [bg, aJ, V, O] [bg, aJ, bo, O] dG cd := Mv.appO [bg, aJ] [O] aX aM
   replace ⟨E, ax, aL, C⟩ := (sp br aX).g4 E ax aL C
   clear br aX
   replace al : Own cd bo 33 (nin (ge w.heap.size) [bg, aJ, bo, O]) _ _ _ := al.flat flat_row
   clear aM
   have d9 := al.len; have ea := al.max
   refine RG.appendF (T := 42) (ty := 42) flat_row ax (al.repF flat_row) (by kernel_rfl) (by kernel_rfl) (fun b h e => bq (h.symm.trans e)) (by omega) fun dH dI eV ay ab bt => ?_
   have eb := nb_or ab dD E.lt
   have ec := nb_or ab (Nb.symm bq) al.lt
   have ed := nb_or ab (Nb.symm cw) aL.lt
   have cx := gb_or ab dF C.size
   replace ⟨E, C⟩ := (s1 bt).g2 E C
   clear bt
   replace ay := ay.rn aJ
   clear ab
   have ee := ay.len; have ef := ay.max
   refine .r 1 <| .d ?_
   have dJ := ay.sl cx
   exact .rt Tryz.func75 Tryz.results75 (vS dH (0 + (0 + b.length + 1)) dI) ⟨(dJ.vl (by exact insNew (by assumption) (by assumption) (by assumption) (by assumption)) (fun _ _ h => h.1)), C⟩
  refine .r [4, 5, 6, 7, 8, 9, 10, 11] <| .d fun eW bu => ?_
  replace ⟨E, J, C⟩ := (se [V, O] bu).g3 E J C
  clear bu
  refine .r 2 <| .d <| .cf <| .sk <| .s <| .g <| .ns 0 33 [] fun ac dK am bv cy cz => ?_
  have cA := nb_new am E.lt
  have cB := nb_new am J.lt
  have cC := gb_new am C.size
  have eg := C.cn am
  replace ⟨E, J, C⟩ := (sn [V, O] bv am).g3 E J C
  clear bv cz am
  have W : Own (α := Row) dK ac 33 (nin (ge w.heap.size) [ac, V, O]) 0 0 [] := Own.nil' cy
  refine .r 2 <| .ln E <| .ns 1 33 [vI r.t, vI r.v] fun aF ce aN bw cD cE => ?_
  have cF := nb_new aN J.lt
  have cG := nb_new aN W.lt
  replace ⟨E, J, W, C⟩ := (sn [ac, V, O] bw aN).g4 E J W C
  clear bw cE aN
  have aO : Own (α := Row) ce aF 33 (nin (ge w.heap.size) [aF, ac, V, O]) 1 1 [r] := Own.lit cD rfl (by decide) ⟨rfl, rfl⟩
  refine .cl (c_slices_Insert (i := at_) (y := r) J (Own.box1 aO) cF (by omega) (by omega)) ?_
  rintro eX cg ⟨⟨bz, eY, rfl, ao, aP⟩, aY⟩
  have bA := nb_or' aP (Nb.symm cB) W.lt
  have bB : Mv [aF, ac, V, O] [aF, ac, bz, O] ce cg := Mv.appO [aF, ac] [O] aY aP
  replace ⟨E, W, aO, C⟩ := (sp bB aY).g4 E W aO C
  clear bB aY
  replace ao : Own cg bz 33 (nin (ge w.heap.size) [aF, ac, bz, O]) _ _ _ := ao.flat flat_row
  clear aP
  have eh := ao.len; have ei := ao.max
  refine RG.appendF (T := 42) (ty := 42) flat_row W (ao.repF flat_row) (by kernel_rfl) (by kernel_rfl) (fun b h e => bA (h.symm.trans e)) (by omega) fun dL dM eZ az ae bC => ?_
  have ej := nb_or ae cA E.lt
  have ek := nb_or ae (Nb.symm bA) ao.lt
  have em := nb_or ae (Nb.symm cG) aO.lt
  have cH := gb_or ae cC C.size
  replace ⟨E, C⟩ := (s1 bC).g2 E C
  clear bC
  replace az := az.rn ac
  clear ae
  have en := az.len; have eo := az.max
  refine .r 1 <| .d ?_
  have dN := az.sl cH
  exact .rt Tryz.func75 Tryz.results75 (vS dL (0 + (0 + b.length + 1)) dM) ⟨(dN.vl (by exact insTop (by assumption) (by omega)) (fun _ _ h => h.1)), C⟩
 refine .r [4, 5, 6, 7, 8, 9, 10, 11] <| .d fun e0 bD => ?_
 replace ⟨E, J, C⟩ := (se [V, O] bD).g3 E J C
 clear bD
 refine .r 2 <| .d <| .cf <| .x 0 rfl <| .s <| .s <| .gd nil 12 fun dO bE => ?_
 replace ⟨E, J, C⟩ := (se [V, O] bE).g3 E J C
 clear bE
 refine .r [0, 1, 2] <| GA.boolP (i := 3) ((at_ : Int) < ((0 + b.length) : Int)) (by kernel_rfl) (fun cI => ?_) (fun cI => ?_)
 ·refine .r [4, 5, 6] ?_
  have cJ : at_ < 0 + b.length := (by omega)
  refine GA.idx (i := 7) (b := V) (o := 0) at_ (len := 0 + b.length) (z := (at_ : Int)) (sz := 2) (by kernel_rfl) (by omega) cJ rfl <| .r [8] ?_
  obtain ⟨af, aA⟩ : ∃ y, ([] ++ b)[at_]? = some y := ⟨_, List.getElem?_eq_getElem (by omega)⟩
  have ep := drop_at aA; have dP := List.mem_of_getElem? aA
  obtain ⟨_, rfl, aZ⟩ := J.elem at_ af aA
  replace aZ : Has dO ⟨V, 0 + at_ * Rep.sz Row, none⟩ [vI af.t, vI af.v] := by rw [Nat.zero_add]; exact aZ
  refine .lh 9 0 aZ id <| .r [10] <| .lb 11 E id <| .d fun dQ bF => ?_
  replace ⟨E, J, C⟩ := (se [V, O] bF).g3 E J C
  clear bF
  refine .eq af.t r.t (fun cK => ?_) (fun cK => ?_)
  ·refine .r 1 <| .d <| .ct <| .s <| .g <| .r 2 <| .ln E ?_
   have cL : at_ < 0 + b.length := (by omega)
   refine RG.idx (b := V) (o := 0) at_ (len := 0 + b.length) (i := (at_ : Int)) (sz := 2) (by kernel_rfl) (by omega) cL rfl ?_
   obtain ⟨_, rfl, ba⟩ := J.elem at_ af aA
   replace ba : Has dQ ⟨V, 0 + at_ * Rep.sz Row, none⟩ [vI af.t, vI af.v] := by rw [Nat.zero_add]; exact ba
   refine RG.storeO (t' := 33) (i := at_) (k := 0) (v := .agg #[vI r.t, vI r.v]) (cs := [vI af.t, vI af.v]) r J aA ba (by kernel_rfl) (by kernel_rfl) (by kernel_rfl) rfl fun e7 cM bG cN => ?_
   replace ⟨E, C⟩ := (s1 bG).g2 E C
   clear bG cN
   refine .d <| .s <| .g <| .r 2 <| .d ?_
   have dR := cM.sl bX
   exact .rt Tryz.func75 Tryz.results75 (vS V (0 + b.length) cp) ⟨(dR.vl (by exact insHit (by assumption) (by assumption) (by assumption)) (fun _ _ h => h.1)), C⟩
  refine .r 1 <| .d <| .cf <| .sk <| .s <| .g <| .ns 0 33 [] fun ag dS aq bH cO cP => ?_
  have cQ := nb_new aq E.lt
  have cR := nb_new aq J.lt
  have cS := gb_new aq C.size
  have es := C.cn aq
  replace ⟨E, J, C⟩ := (sn [V, O] bH aq).g3 E J C
  clear bH cP aq
  have Z : Own (α := Row) dS ag 33 (nin (ge w.heap.size) [ag, V, O]) 0 0 [] := Own.nil' cO
  refine .r 2 <| .ln E <| .ns 1 33 [vI r.t, vI r.v] fun aG ci aQ bI cT cU => ?_
  have cV := nb_new aQ J.lt
  have cW := nb_new aQ Z.lt
  replace ⟨E, J, Z, C⟩ := (sn [ag, V, O] bI aQ).g4 E J Z C
  clear bI cU aQ
  have aR : Own (α := Row) ci aG 33 (nin (ge w.heap.size) [aG, ag, V, O]) 1 1 [r] := Own.lit cT rfl (by decide) ⟨rfl, rfl⟩
  refine .cl (c_slices_Insert (i := at_) (y := r) J (Own.box1 aR) cV (by omega) (by omega)) ?_
  rintro e8 cj ⟨⟨bJ, e9, rfl, ar, aS⟩, bc⟩
  have bK := nb_or' aS (Nb.symm cR) Z.lt
  have bL : Mv [aG, ag, V, O] [aG, ag, bJ, O] ci cj := Mv.appO [aG, ag] [O] bc aS
  replace ⟨E, Z, aR, C⟩ := (sp bL bc).g4 E Z aR C
  clear bL bc
  replace ar : Own cj bJ 33 (nin (ge w.heap.size) [aG, ag, bJ, O]) _ _ _ := ar.flat flat_row
  clear aS
  have et := ar.len; have ew := ar.max
  refine RG.appendF (T := 42) (ty := 42) flat_row Z (ar.repF flat_row) (by kernel_rfl) (by kernel_rfl) (fun b h e => bK (h.symm.trans e)) (by omega) fun dT dU fa aB ah bM => ?_
  have ex := nb_or ah cQ E.lt
  have ey := nb_or ah (Nb.symm bK) ar.lt
  have ez := nb_or ah (Nb.symm cW) aR.lt
  have cX := gb_or ah cS C.size
  replace ⟨E, C⟩ := (s1 bM).g2 E C
  clear bM
  replace aB := aB.rn ag
  clear ah
  have eA := aB.len; have eB := aB.max
  refine .r 1 <| .d ?_
  have dV := aB.sl cX
  exact .rt Tryz.func75 Tryz.results75 (vS dT (0 + (0 + b.length + 1)) dU) ⟨(dV.vl (by exact insTop (by assumption) (by omega)) (fun _ _ h => h.1)), C⟩
 refine .r [4, 5, 6, 7, 8, 9, 10, 11] <| .d fun fb bN => ?_
 replace ⟨E, J, C⟩ := (se [V, O] bN).g3 E J C
 clear bN
 refine .r 2 <| .d <| .cf <| .sk <| .s <| .g <| .ns 0 33 [] fun ai dW au bO cY cZ => ?_
 have c7 := nb_new au E.lt
 have c8 := nb_new au J.lt
 have c9 := gb_new au C.size
 have eC := C.cn au
 replace ⟨E, J, C⟩ := (sn [V, O] bO au).g3 E J C
 clear bO cZ au
 have aa : Own (α := Row) dW ai 33 (nin (ge w.heap.size) [ai, V, O]) 0 0 [] := Own.nil' cY
 refine .r 2 <| .ln E <| .ns 1 33 [vI r.t, vI r.v] fun aH ck aT bP da db => ?_
 have dd := nb_new aT J.lt
 have de := nb_new aT aa.lt
 replace ⟨E, J, aa, C⟩ := (sn [ai, V, O] bP aT).g4 E J aa C
 clear bP db aT
 have aU : Own (α := Row) ck aH 33 (nin (ge w.heap.size) [aH, ai, V, O]) 1 1 [r] := Own.lit da rfl (by decide) ⟨rfl, rfl⟩
 refine .cl (c_slices_Insert (i := at_) (y := r) J (Own.box1 aU) dd (by omega) (by omega)) ?_
 rintro fc cm ⟨⟨bQ, fd, rfl, av, aV⟩, bd⟩
 have bR := nb_or' aV (Nb.symm c8) aa.lt
 have bS : Mv [aH, ai, V, O] [aH, ai, bQ, O] ck cm := Mv.appO [aH, ai] [O] bd aV
 replace ⟨E, aa, aU, C⟩ := (sp bS bd).g4 E aa aU C
 clear bS bd
 replace av : Own cm bQ 33 (nin (ge w.heap.size) [aH, ai, bQ, O]) _ _ _ := av.flat flat_row
 clear aV
 have eD := av.len; have eE := av.max
 refine RG.appendF (T := 42) (ty := 42) flat_row aa (av.repF flat_row) (by kernel_rfl) (by kernel_rfl) (fun b h e => bR (h.symm.trans e)) (by omega) fun dX dY fe aC aj bT => ?_
 have eF := nb_or aj c7 E.lt
 have eG := nb_or aj (Nb.symm bR) av.lt
 have eH := nb_or aj (Nb.symm de) aU.lt
 have df := gb_or aj c9 C.size
 replace C := (s1 bT).g1 C
 clear bT
 replace aC := aC.rn ai
 clear aj
 have eI := aC.len; have eJ := aC.max
 refine .r 1 <| .d ?_
 have dZ := aC.sl df
 exact .rt Tryz.func75 Tryz.results75 (vS dX (0 + (0 + b.length + 1)) dY) ⟨(dZ.vl (by exact insTop (by assumption) (by omega)) (fun _ _ h => h.1)), C⟩
theorem c_impl_PartOf (p : Prt) (id : Int) {w : World} {F : Nat → Prop} {a1 : Option Addr} {n1 c1 : Nat} (h1 : RepS w F a1 n1 c1 p.ids) {a2 : Option Addr} {n2 c2 : Nat} (h2 : RepS w F a2 n2 c2 p.blocks) (p0 : PrtSz p) : Calls Tryz.prog 90 [.agg #[.slice a1 n1 c1, .slice a2 n2 c2], .int .i64 id].toArray w (rets fun rv w' => VL (ge w.heap.size) w' (partI p id : List Row) rv ∧ Ext w w') := by
 refine goT Tryz.func90 ?_
 obtain ⟨rfl, aY, h1⟩ := h1.tp
 obtain ⟨rfl, aZ, h2⟩ := h2.tp
 refine .s <| .g <| .np 75 [.slice a1 p.ids.length c1, .slice a2 p.blocks.length c2] fun J aQ ag ab E au => ?_
 replace ⟨h1, h2⟩ := (sn [] ab ag).g2 h1 h2
 have C := ab
 clear ab au ag
 refine .r 1 <| .d <| .s <| .g <| .r 1 <| .lb E <| .r 1 <| .cl (c_slices_Index_int_int p.ids id h1.ta (w := aQ) (F := all)) ?_
 rintro bn aR ⟨rfl, ah⟩
 replace ⟨h1, h2, E, C⟩ := (se [J] ah).g4 h1 h2 E C
 clear ah
 refine .r 1 <| .d <| .s <| .s <| .g <| .ln E <| .cl (c_impl_PartOk p h1.ta h2.ta (w := aR) (F := all)) ?_
 rintro bo bq ⟨rfl, ai⟩
 replace ⟨h2, E, C⟩ := (se [J] ai).g3 h2 E C
 clear ai
 cases ba : (partOk p)
 ·refine .r 5 <| .d <| .ct <| .s <| .g <| .ns 0 33 [] fun ac av Z aj aw ax => ?_
  have bc := nb_new Z E.lt
  have ay := gb_new Z C.size
  replace ⟨h2, E, C⟩ := (sn [J] aj Z).g3 h2 E C
  clear aj ax Z
  have az : Own (α := Row) av ac 33 (nin (ge w.heap.size) [ac, J]) 0 0 [] := Own.nil' aw
  refine .r 1 <| .d ?_
  have aS := az.sl ay
  replace h2 := (sd av [ac, J] ac).g1 h2
  exact .rt Tryz.func90 Tryz.results90 (vS ac 0 0) ⟨(aS.vl (by rw [partI_1 (by assumption)]) (fun _ _ h => h.1)), C⟩
 refine .r 3 <| .bp (idxF id 0 p.ids < 0) (fun aA => ?_) (fun aA => ?_)
 ·refine .r 1 <| .d <| .ct <| .s <| .g <| .ns 0 33 [] fun ae aB aa ak aC aD => ?_
  have bd := nb_new aa E.lt
  have aE := gb_new aa C.size
  replace ⟨h2, E, C⟩ := (sn [J] ak aa).g3 h2 E C
  clear ak aD aa
  have aF : Own (α := Row) aB ae 33 (nin (ge w.heap.size) [ae, J]) 0 0 [] := Own.nil' aC
  refine .r 1 <| .d ?_
  have aT := aF.sl aE
  replace h2 := (sd aB [ae, J] ae).g1 h2
  exact .rt Tryz.func90 Tryz.results90 (vS ae 0 0) ⟨(aT.vl (by rw [partI_2 (by assumption) (by assumption)]) (fun _ _ h => h.1)), C⟩
 refine .r 1 <| .d <| .cf <| .sk <| .s <| .g <| .ns 0 33 [] fun aq aU O al aG aH => ?_
 have aI := nb_new O E.lt
 have aJ := gb_new O C.size
 have bg := C.cn O
 replace ⟨h2, E, C⟩ := (sn [J] al O).g3 h2 E C
 clear al aH O
 have aK : Own (α := Row) aU aq 33 (nin (ge w.heap.size) [aq, J]) 0 0 [] := Own.nil' aG
 refine .r 1 <| .lb E <| .r 1 ?_
 have am : (idxF id 0 p.ids).toNat < p.blocks.length := (by exact partI_i (by assumption) (by assumption))
 refine RG.idx ((idxF id 0 p.ids).toNat) (len := p.blocks.length) (i := idxF id 0 p.ids) (sz := 1) (by kernel_rfl) (by omega) am (h2.addr (Nat.zero_lt_of_lt am)) ?_
 obtain ⟨aL, af⟩ : ∃ y, p.blocks[(idxF id 0 p.ids).toNat]? = some y := ⟨_, List.getElem?_eq_getElem (by omega)⟩
 have bh := drop_at af; have aP := List.mem_of_getElem? af
 obtain ⟨_, ⟨br, bt, bu, rfl, ar⟩, aM⟩ := h2.elem ((idxF id 0 p.ids).toNat) aL af
 have aN := ar.len
 subst aN
 have bi := ar.max
 refine .lh 0 aM <| RG.appendF (T := 42) (ty := 42) flat_row aK ar (by kernel_rfl) (by kernel_rfl) (fun b h e => h.2 (e ▸ (.head _))) (by (have q1 := p0.2.2 _ (by assumption); omega)) fun aV aW bv V W ao => ?_
 have bj := nb_or W aI E.lt
 have aO := gb_or W aJ C.size
 replace C := (s1 ao).g1 C
 clear ao
 replace V := V.rn aq
 clear W
 have bk := V.len; have bm := V.max
 refine .r 1 <| .d ?_
 have aX := V.sl aO
 exact .rt Tryz.func90 Tryz.results90 (vS aV (0 + aL.length) aW) ⟨(aX.vl (by (rw [partI_3 (by assumption) (by assumption) (by assumption)]; rfl)) (fun _ _ h => h.1)), C⟩
theorem c_impl_clonePart (p : Prt) {w : World} {F : Nat → Prop} {a1 : Option Addr} {n1 c1 : Nat} (h1 : RepS w F a1 n1 c1 p.ids) {a2 : Option Addr} {n2 c2 : Nat} (h2 : RepS w F a2 n2 c2 p.blocks) (p0 : PrtSz p) : Calls Tryz.prog 145 [.agg #[.slice a1 n1 c1, .slice a2 n2 c2]].toArray w (rets fun rv w' => VS (ge w.heap.size) w' (p : Prt) rv ∧ Ext w w') := by
 refine goT Tryz.func145 ?_
 obtain ⟨rfl, dv, h1⟩ := h1.tp
 obtain ⟨rfl, dw, h2⟩ := h2.tp
 refine .s <| .g <| .np 75 [.slice a1 p.ids.length c1, .slice a2 p.blocks.length c2] fun aa dU bk aO J ce => ?_
 replace ⟨h1, h2⟩ := (sn [] aO bk).g2 h1 h2
 have C := aO
 clear aO ce bk
 refine .np 75 [.slice none 0 0, .slice none 0 0] fun ab dV aP bm E cg => ?_
 have dx := C.cn aP
 replace ⟨h1, h2, J, C⟩ := (sn [aa] bm aP).g4 h1 h2 J C
 clear bm cg aP
 refine .d <| .s <| .g <| .ns 0 3 [] fun bj cS az bn ci cj => ?_
 have ck := nb_new az J.lt
 have cm := nb_new az E.lt
 have co := gb_new az C.size
 have cp := C.cn az
 replace ⟨h1, h2, J, E, C⟩ := (sn [ab, aa] bn az).g5 h1 h2 J E C
 clear bn cj az
 have cq : Own (α := Int) cS bj 3 (nin (ge w.heap.size) [bj, ab, aa]) 0 0 [] := Own.nil' ci
 refine .r 1 <| .lb J <| RG.appendF (T := 68) (ty := 68) flat_int cq h1 (by kernel_rfl) (by kernel_rfl) (fun b h e => h.2 (e ▸ (.head _))) (by have q1 := p0.1; have q2 := p0.2.1; omega) fun aw cr dW ah ar bo => ?_
 have cu := nb_or ar ck J.lt
 have cv := nb_or ar cm E.lt
 have cw := gb_or ar co C.size
 have dB := cov_or ar cp C.size
 replace ⟨h2, J, E, C⟩ := (sa [bj, ab, aa] bo ar).g4 h2 J E C
 clear bo
 replace ah := ah.rn bj
 clear ar
 have dC := ah.len; have dD := ah.max
 refine .ns 0 42 [] fun au cT ax bq cx cy => ?_
 have cz := nb_new ax J.lt
 have cA := nb_new ax E.lt
 have cB := nb_new ax ah.lt
 have cC := gb_new ax C.size
 have cD := C.cn ax
 replace ⟨h2, J, E, ah, C⟩ := (sn [aw, ab, aa] bq ax).g5 h2 J E ah C
 clear bq cy ax
 have aA : Own (α := List Row) cT au 42 (nin (ge w.heap.size) [au, aw, ab, aa]) 0 0 [] := Own.nil' cx
 refine .r 1 <| .np 75 [.slice none 0 0, .slice none 0 0] fun ac dX ay br cE cF => ?_
 have dE := nb_new ay J.lt
 have dF := nb_new ay E.lt
 have cG := nb_new ay ah.lt
 have cH := nb_new ay aA.lt
 have dG := C.cn ay
 replace ⟨h2, J, E, ah, aA, C⟩ := (sn [au, aw, ab, aa] br ay).g6 h2 J E ah aA C
 clear br cF ay
 refine .sc [vS aw (0 + p.ids.length) cr, vS au 0 0] cE fun aL bt aQ cI => ?_
 replace ⟨h2, J, E, ah, aA, C⟩ := (so [ac, au, aw, ab, aa] bt).g6 h2 J E ah aA C
 clear bt cI
 refine .d <| .s <| .s <| .g <| .r 1 <| .lb J <| .r 2 <| .d <| .b 0 <| T.loop (X := Nat × (List Int) × Nat × Nat × Nat × (List (List Row)) × Nat × Nat × Nat) (0, (([] ++ p.ids) : List Int), aw, 0 + p.ids.length, cr, ([] : List (List Row)), au, 0, 0) (fun (k, al, r_out_0, n_out_0, c_out_0, aj, r_out_1, n_out_1, c_out_1) => [(2, .pointer (some ⟨ab, 0, none⟩)), (3, .pointer (some ⟨ac, 0, none⟩)), (13, .slice a2 p.blocks.length c2), (14, vI (p.blocks.length : Int)), (15, vI (k : Int))]) (fun (k, al, r_out_0, n_out_0, c_out_0, aj, r_out_1, n_out_1, c_out_1) av => Chg (ins [aw, au, ac]) aL av ∧ Own av r_out_0 3 (nin (ge w.heap.size) [ac, r_out_1, r_out_0, ab, aa]) n_out_0 c_out_0 al ∧ OrB r_out_0 aw aL.heap.size ∧ Own av r_out_1 42 (nin (ge w.heap.size) [ac, r_out_1, r_out_0, ab, aa]) n_out_1 c_out_1 aj ∧ OrB r_out_1 au aL.heap.size ∧ Nb r_out_1 r_out_0 ∧ Box av ac 75 [vS r_out_0 n_out_0 c_out_0, vS r_out_1 n_out_1 c_out_1] ∧ (k ≤ p.blocks.length) ∧ (al = p.ids) ∧ (aj.length ≤ k) ∧ (aj ++ p.blocks.drop k = p.blocks)) (fun (k, al, r_out_0, n_out_0, c_out_0, aj, r_out_1, n_out_1, c_out_1) => p.blocks.length - k) (by kernel_rfl) ⟨by kernel_rfl, by kernel_rfl, by kernel_rfl, by kernel_rfl, by kernel_rfl, trivial⟩ ⟨Chg.refl _ _, ah, orb_refl, aA, orb_refl, cB, aQ, (by omega), (by rfl), (by simp), (by rfl)⟩ ?_
 rintro ⟨k, al, r_out_0, n_out_0, c_out_0, aj, r_out_1, n_out_1, c_out_1⟩ dH av ⟨Z, V, aB, W, ak, bz, O, dI, dJ, dK, dL⟩ aM
 have cU := nb_or' aB cu J.lt
 have cV := nb_or' aB cv E.lt
 have bA := nb_or' aB (Nb.symm cG) aQ.lt
 have bB := gb_or' aB cw C.size
 have cW := nb_or' ak cz J.lt
 have cX := nb_or' ak cA E.lt
 have aR := nb_or' ak (Nb.symm cH) aQ.lt
 have bC := gb_or' ak cC C.size
 have cY := cov_or' ak cD C.size
 have bD : Cov (ins [aw, au, ac]) aL au := ⟨.inl (.tail _ (.head _))⟩
 have cZ : Cov (ins [aw, au, ac]) aL ac := ⟨.inl (.tail _ (.tail _ (.head _)))⟩
 have c7 := cov_or' ak bD (Nat.le_refl _)
 have aS : Mv [ac, au, aw, ab, aa] [ac, r_out_1, r_out_0, ab, aa] aL av := Mv.inl Z (all_cons (.tail _ (.tail _ (.head _))) (all_cons (.tail _ (.head _)) (all_cons (.head _) all_nil))) (all_cons (.inl (.head _)) (all_cons (orb_mem ak (.tail _ (.head _))) (all_cons (orb_mem aB (.tail _ (.tail _ (.head _)))) (all_cons (.inl (.tail _ (.tail _ (.tail _ (.head _))))) (all_cons (.inl (.tail _ (.tail _ (.tail _ (.tail _ (.head _)))))) all_nil)))))
 replace ⟨h2, J, E, C⟩ := (sp aS Z).g4 h2 J E C
 clear aS
 have c8 := V.len; have c9 := V.max
 have da := W.len; have db := W.max
 refine .s <| .g <| .bp ((k : Int) < (p.blocks.length : Int)) (fun bE => ?_) (fun bE => ?_)
 ·refine .d <| .s <| .ct <| .sk <| .s <| .b 1 <| .s <| .g ?_
  have bF : k < p.blocks.length := (by omega)
  refine .ix k 1 h2 bF ?_
  obtain ⟨aE, aF⟩ : ∃ y, p.blocks[k]? = some y := ⟨_, List.getElem?_eq_getElem (by omega)⟩
  have dd := drop_at aF; have cJ := List.mem_of_getElem? aF
  obtain ⟨_, ⟨cK, dM, cL, rfl, ai⟩, bG⟩ := h2.elem k aE aF
  have bH := ai.len
  subst bH
  have de := ai.max
  refine .lh 0 bG <| .r 1 <| .d ?_
  replace ai := ai.into
  have bI : Gb (ac + 1) av.heap.size := O.lt
  refine .gd (mtb [r_out_0, r_out_1] av.heap.size) 6 fun cM aG => ?_
  replace ⟨J, E, V, W, O, ai, C, Z⟩ := (se [ac, r_out_1, r_out_0, ab, aa] aG).g8 J E V W O ai C Z
  have aH : Chg (mtb [r_out_0, r_out_1] av.heap.size) av cM := Chg.stepN (Chg.refl (mtb [r_out_0, r_out_1] av.heap.size) av) aG
  clear aG
  refine .r [0] <| .lb 1 O (nS_of (all_cons (Nb.symm bA) (all_cons (Nb.symm aR) all_nil)) bI) <| .r [3] <| .go 2 <| .ns 0 33 [] fun dN aT => ?_
  replace ⟨J, E, V, W, O, ai, C, Z, aH⟩ := (se [ac, r_out_1, r_out_0, ab, aa] aT).g9 J E V W O ai C Z aH
  clear aT
  intro aC cN ae aU bJ bK
  have bL := nb_new ae J.lt
  have bM := nb_new ae E.lt
  have bN := nb_new ae V.lt
  have bO := nb_new ae W.lt
  have bP := nb_new ae O.lt
  have bQ := gb_new ae C.size
  have df := C.cn ae
  have dg := Z.cn ae
  have bR := aH.cn ae
  replace ⟨J, E, V, W, O, ai, C, Z⟩ := (sn [ac, r_out_1, r_out_0, ab, aa] aU ae).g8 J E V W O ai C Z
  clear aU bK ae
  have aI : Own (α := Row) cN aC 33 (nin (ge w.heap.size) [aC, ac, r_out_1, r_out_0, ab, aa]) 0 0 [] := Own.nil' bJ
  refine .go 4 <| GE.append (T := 42) (ty := 42) (args := [vS aC 0 0, .slice cK aE.length cL]) (by kernel_rfl) fun dO aV => ?_
  replace ⟨J, E, V, W, O, ai, aI, C, Z⟩ := (se [aC, ac, r_out_1, r_out_0, ab, aa] aV).g9 J E V W O ai aI C Z
  clear aV
  obtain ⟨aD, cO, dP, aW, af, ag, aJ, bS⟩ := Own.appendF (P := Tryz.prog) (T := 42) (ty := 42) flat_row aI (by kernel_rfl) ai (fun b h e => h.2 (e ▸ (.head _))) (by have q1 := p0.1; have q2 := p0.2.1; (have q3 := p0.2.2 _ (by assumption); omega))
  refine ⟨_, _, aW, Chg.toS aJ (Cov.toS bR), ?_⟩
  clear bS
  have dh := nb_or ag bL J.lt
  have di := nb_or ag bM E.lt
  have dj := nb_or ag bN V.lt
  have dk := nb_or ag bO W.lt
  have dm := nb_or ag bP O.lt
  have bT := gb_or ag bQ C.size
  replace ⟨J, E, V, W, O, C, Z⟩ := (sa [aC, ac, r_out_1, r_out_0, ab, aa] aJ ag).g7 J E V W O C Z
  clear aJ
  replace af := af.rn aC
  clear ag
  have dp := af.len; have dq := af.max
  refine .go 5 <| .ns 1 42 [vS aD (0 + aE.length) cO] fun dQ aX => ?_
  replace ⟨J, E, V, W, O, af, C, Z⟩ := (se [aD, ac, r_out_1, r_out_0, ab, aa] aX).g8 J E V W O af C Z
  clear aX
  intro bu dR am aY aK bU
  have bV := nb_new am J.lt
  have bW := nb_new am E.lt
  have bX := nb_new am V.lt
  have aZ := nb_new am W.lt
  have bY := nb_new am O.lt
  have bZ := gb_new am C.size
  replace ⟨E, V, W, O, af, C, Z⟩ := (se [aD, ac, r_out_1, r_out_0, ab, aa] aY).g7 E V W O af C Z
  clear aY bU am
  refine .d fun cP ba => ?_
  replace ⟨E, V, W, O, af, aK, C, Z⟩ := (se [aD, ac, r_out_1, r_out_0, ab, aa] ba).g8 E V W O af aK C Z
  clear ba
  have cQ := af.sl bT
  replace ⟨V, W⟩ := (sd cP [aD, ac, r_out_1, r_out_0, ab, aa] aD).g2 V W
  have aN : nin (ge w.heap.size) [ac, r_out_1, r_out_0, ab, aa] bu ∧ bu ≠ r_out_1 := hap_mk bZ (all_cons bY (all_cons aZ (all_cons bX (all_cons bW (all_cons bV all_nil))))) aZ
  refine RG.append1 (T := 73) (ty := 73) (y := ([] ++ aE)) W aK (by kernel_rfl) (by kernel_rfl) ⟨_, _, _, rfl, cQ.oi⟩ aN (by have q1 := p0.1; have q2 := p0.2.1; omega) fun bc bv dS ao aq bd => ?_
  have b0 := nb_or aq bz V.lt
  have dr := nb_or aq aR O.lt
  have b6 := orb_or aq ak Z.size
  replace ⟨E, V, O, C, Z⟩ := (sa [ac, r_out_1, r_out_0, ab, aa] bd aq).g5 E V O C Z
  clear bd
  replace ao := ao.rn r_out_1
  clear aq
  have dt := ao.len; have du := ao.max
  refine .r 1 <| .ss 1 (vS bc (n_out_1 + 1) bv) O fun dT bg b7 b8 => ?_
  replace ⟨E, V, ao, C, Z⟩ := (so [ac, bc, r_out_0, ab, aa] bg).g5 E V ao C Z
  clear bg b8
  exact .d <| .ib 1 <| .g <| .it ((k : Int) + 1) <| .r 1 <| .d <| aM (k + 1, al, r_out_0, n_out_0, c_out_0, (aj ++ [([] ++ aE)]), bc, n_out_1 + 1, bv) _ _ ⟨by kernel_rfl, by kernel_rfl, by kernel_rfl, by kernel_rfl, by kernel_rfl, trivial⟩ ⟨Z, V, aB, ao, b6, b0, b7, (by omega), (by assumption), (by simp; omega), (by exact appStep (by assumption) (by assumption))⟩ (by (simp only []; omega))
 refine .d <| .s <| .cf <| .x 0 rfl <| .s <| .g <| .ln O <| .sc [vS r_out_0 n_out_0 c_out_0, vS r_out_1 n_out_1 c_out_1] E fun bw bh b9 cd => ?_
 replace ⟨V, W, C⟩ := (so [ac, r_out_1, r_out_0, ab, aa] bh).g3 V W C
 clear bh cd
 refine .d ?_
 have bi := V.sl bB
 replace W := (sd bw [ac, r_out_1, r_out_0, ab, aa] r_out_0).g1 W
 have cR := W.sl bC
 replace bi := (sd bw [ac, r_out_1, ab, aa] r_out_1).g1 bi
 exact .rb Tryz.func145 Tryz.results145 b9 ⟨(VS.of (y := (⟨al, aj⟩ : Prt)) ⟨_, rfl, ⟨_, _, _, _, _, _, rfl, bi.w1, cR.w1⟩⟩ (by exact copyI (by assumption) (appEnd (by assumption) (by omega)))), C⟩
theorem c_impl_Store_rows (s : Sto) (id : Int) {w : World} {F : Nat → Prop} {a1 : Option Addr} {n1 c1 : Nat} (h1 : RepS w F a1 n1 c1 s.idx.names) {a2 : Option Addr} {n2 c2 : Nat} (h2 : RepS w F a2 n2 c2 s.idx.posts) {a3 : Option Addr} {n3 c3 : Nat} (h3 : RepS w F a3 n3 c3 s.parts) {a4 : Option Addr} {n4 c4 : Nat} (h4 : RepS w F a4 n4 c4 s.mem) (p0 : ∀ p ∈ s.parts, PrtI p ∧ partOk p = true) (p1 : ∀ m ∈ s.mem, rowOk m.row = true) (p2 : s.parts.length ≤ 1000) (p3 : s.mem.length ≤ 1000) : Calls Tryz.prog 64 [.agg #[.slice a1 n1 c1, .slice a2 n2 c2, .slice a3 n3 c3, .slice a4 n4 c4], .int .i64 id].toArray w (rets fun rv w' => VL (ge w.heap.size) w' (rowsOf s id : List Row) rv ∧ Ext w w') := by
 refine goT Tryz.func64 ?_
 obtain ⟨rfl, cO, h1⟩ := h1.tp
 obtain ⟨rfl, cP, h2⟩ := h2.tp
 obtain ⟨rfl, cQ, h3⟩ := h3.tp
 obtain ⟨rfl, cR, h4⟩ := h4.tp
 refine .s <| .g <| .np 30 [.slice a1 s.idx.names.length c1, .slice a2 s.idx.posts.length c2, .slice a3 s.parts.length c3, .slice a4 s.mem.length c4] fun O dk aZ aI E bK => ?_
 replace ⟨h3, h4⟩ := (sn [] aI aZ).g2 h3 h4
 have C := aI
 clear aI bK aZ
 refine .r 1 <| .d <| .s <| .g <| .ns 0 33 [] fun aJ aY aB ba bL bM => ?_
 have cS := nb_new aB E.lt
 have bN := gb_new aB C.size
 replace ⟨h3, h4, E, C⟩ := (sn [O] ba aB).g4 h3 h4 E C
 clear ba bM aB
 have bO : Own (α := Row) aY aJ 33 (nin (ge w.heap.size) [aJ, O]) 0 0 [] := Own.nil' bL
 refine .r 1 <| .d <| .s <| .s <| .g <| .r 1 <| .lb E <| .r 2 <| .d <| .b 0 ?_
 have cg := bO.sl bN
 replace ⟨h3, h4⟩ := (sd aY [aJ, O] aJ).g2 h3 h4
 refine T.loop (X := (List Row) × (Option Addr) × Nat × Nat × Nat) (([] : List Row), some ⟨aJ, 0, none⟩, 0, 0, 0) (fun (out, a_out, n_out, c_out, k) => [(1, vI id), (2, .pointer (some ⟨O, 0, none⟩)), (5, .slice a_out n_out c_out), (14, .slice a3 s.parts.length c3), (15, vI (s.parts.length : Int)), (16, vI (k : Int))]) (fun (out, a_out, n_out, c_out, k) aF => Chg (ins []) aY aF ∧ RepS aF (nin (ge w.heap.size) [O]) a_out n_out c_out out ∧ (k ≤ s.parts.length) ∧ (Blk out) ∧ ((s.parts.drop k).foldl (rowsP id) out = s.parts.foldl (rowsP id) [])) (fun (out, a_out, n_out, c_out, k) => s.parts.length - k) (by kernel_rfl) ⟨by kernel_rfl, by kernel_rfl, by kernel_rfl, by kernel_rfl, by kernel_rfl, by kernel_rfl, trivial⟩ ⟨Chg.refl _ _, cg, (by omega), (by rfl), (by rfl)⟩ ?_
 rintro ⟨out, a_out, n_out, c_out, k⟩ dm aF ⟨W, J, cT, cU, cV⟩ aK
 have bc : Mv [O] [O] aY aF := Mv.inl W all_nil (all_cons (.inl (.head _)) all_nil)
 replace ⟨h3, h4, E, C⟩ := (sp bc W).g4 h3 h4 E C
 clear bc
 have cW := J.len; have cX := J.max
 refine .s <| .g <| .bp ((k : Int) < (s.parts.length : Int)) (fun bP => ?_) (fun bP => ?_)
 ·refine .d <| .s <| .ct <| .sk <| .s <| .b 1 <| .s <| .g ?_
  have bQ : k < s.parts.length := (by omega)
  refine .ix k 2 h3 bQ ?_
  obtain ⟨af, aL⟩ : ∃ y, s.parts[k]? = some y := ⟨_, List.getElem?_eq_getElem (by omega)⟩
  have cY := drop_at aL; have ce := List.mem_of_getElem? aL
  obtain ⟨_, ⟨ci, dp, cj, ck, dq, cm, rfl, au, av⟩, bR⟩ := h3.elem k af aL
  have bS := au.len
  subst bS
  have cZ := au.max
  have bT := av.len
  subst bT
  have c7 := av.max
  refine .lg 0 bR <| .np 75 [.slice none 0 0, .slice none 0 0] fun ai dr aq bd bU bV => ?_
  have c8 := nb_new aq E.lt
  have c9 := C.cn aq
  have da := W.cn aq
  replace ⟨h4, E, J, au, av, C, W⟩ := (sn [O] bd aq).g7 h4 E J au av C W
  clear bd bV aq
  refine .sc [.slice ci af.ids.length cj, .slice ck af.blocks.length cm] bU fun bW bg ae bX => ?_
  replace ⟨h4, E, J, au, av, C, W⟩ := (so [ai, O] bg).g7 h4 E J au av C W
  clear bg bX
  refine .d <| .s <| .g <| .ln ae <| .r 1 <| .cl (c_impl_PartOf af id au.ta av.ta (p0 _ (by assumption)).1.sz (w := bW) (F := all)) ?_
  rintro dt bY ⟨⟨co, cp, rfl, aw⟩, bh⟩
  have bi := al2 ae.lt E.lt
  have bZ : Gb w.heap.size bW.heap.size := C.size
  replace ⟨h4, E, J, ae, C, W⟩ := (se [ai, O] bh).g6 h4 E J ae C W
  clear bh
  have aw := aw.fr bi bZ
  have db := aw.max
  clear bi
  refine .r 2 <| .d <| .b 2 <| T.loop (X := (List Row) × (Option Addr) × Nat × Nat × Nat) ((out : List Row), a_out, n_out, c_out, 0) (fun (ac, a_out1, n_out1, c_out1, k1) => [(1, vI id), (2, .pointer (some ⟨O, 0, none⟩)), (5, .slice a_out1 n_out1 c_out1), (14, .slice a3 s.parts.length c3), (15, vI (s.parts.length : Int)), (16, vI (k : Int)), (22, .slice co ((partI af id).length) cp), (23, vI (((partI af id).length) : Int)), (24, vI (k1 : Int))]) (fun (ac, a_out1, n_out1, c_out1, k1) aG => Chg (ins []) bY aG ∧ RepS aG (nin (ge w.heap.size) [ai, O]) a_out1 n_out1 c_out1 ac ∧ (k1 ≤ (partI af id).length) ∧ (Blk ac) ∧ (((partI af id).drop k1).foldl sPut ac = rowsP id out af)) (fun (ac, a_out1, n_out1, c_out1, k1) => (partI af id).length - k1) (by kernel_rfl) ⟨by kernel_rfl, by kernel_rfl, by kernel_rfl, by kernel_rfl, by kernel_rfl, by kernel_rfl, by kernel_rfl, by kernel_rfl, by kernel_rfl, trivial⟩ ⟨Chg.refl _ _, J, (by omega), (by assumption), (by unfold partI rowsP; rw [if_pos (p0 _ (by assumption)).2]; rfl)⟩ ?_
  rintro ⟨ac, a_out1, n_out1, c_out1, k1⟩ dd aG ⟨ab, Z, cq, cr, cu⟩ aH
  have aM : Mv [ai, O] [ai, O] bY aG := Mv.inl ab all_nil (all_cons (.inl (.head _)) (all_cons (.inl (.tail _ (.head _))) all_nil))
  replace ⟨h4, E, J, ae, aw, C, W⟩ := (sp aM ab).g7 h4 E J ae aw C W
  clear aM
  have cv := Z.len; have cw := Z.max
  refine .s <| .g <| .bp ((k1 : Int) < (((partI af id).length) : Int)) (fun bn => ?_) (fun bn => ?_)
  ·refine .d <| .s <| .ct <| .sk <| .s <| .b 3 <| .s <| .g ?_
   have bo : k1 < (partI af id).length := (by omega)
   refine .ix k1 2 aw bo ?_
   obtain ⟨ak, ay⟩ : ∃ y, (partI af id)[k1]? = some y := ⟨_, List.getElem?_eq_getElem (by omega)⟩
   have cx := drop_at ay; have b0 := List.mem_of_getElem? ay
   obtain ⟨_, rfl, bq⟩ := aw.elem k1 ak ay
   refine .lg 0 bq <| .np 33 [vI 0, vI 0] fun aN de ag aO br bt => ?_
   have cy := nb_new ag E.lt
   have cz := nb_new ag ae.lt
   have cA := C.cn ag
   have cB := W.cn ag
   have cC := ab.cn ag
   replace ⟨h4, E, J, ae, Z, C, W, ab⟩ := (sn [ai, O] aO ag).g8 h4 E J ae Z C W ab
   clear aO bt ag
   refine .sc [vI ak.t, vI ak.v] br fun bj aP aQ bu => ?_
   replace ⟨h4, E, J, ae, Z, C, W, ab⟩ := (so [aN, ai, O] aP).g8 h4 E J ae Z C W ab
   clear aP bu
   refine .d <| .g <| .r 1 <| .ln aQ <| .cl (c_impl_put ac ak Z.ta (by (have q1 := Blk.len (by assumption : Blk ac); omega)) (w := bj) (F := all)) ?_
   rintro df bk ⟨⟨b6, b7, rfl, al⟩, aR⟩
   have aS := al3 aQ.lt ae.lt E.lt
   have bv : Gb w.heap.size bj.heap.size := C.size
   replace ⟨h4, E, J, Z, C, W, ab⟩ := (se [aN, ai, O] aR).g7 h4 E J Z C W ab
   clear aR
   have al := al.fr aS bv
   have cD := al.max
   clear aS
   refine .r 1 <| .d <| .ib 3 <| .g <| .it ((k1 : Int) + 1) <| .r 1 <| .d ?_
   have bw : Mv [aN, ai, O] [ai, O] bk bk := Mv.less (all_cons (.tail _ (.head _)) (all_cons (.tail _ (.tail _ (.head _))) all_nil))
   replace ⟨h4, J, Z, al⟩ := (sp bw (Chg.refl nil _)).g4 h4 J Z al
   exact aH (insR ak ac, b6, (insR ak ac).length, b7, k1 + 1) _ _ ⟨by kernel_rfl, by kernel_rfl, by kernel_rfl, by kernel_rfl, by kernel_rfl, by kernel_rfl, by kernel_rfl, by kernel_rfl, by kernel_rfl, trivial⟩ ⟨ab, al, (by omega), (by exact Blk.ins (by assumption) (((p0 af (by assumption)).1.ofI id).rows _ (by assumption))), (by rw [← sPut_ins (by assumption)]; exact foldStep (by assumption) (by assumption))⟩ (by (simp only []; omega))
  refine .d <| .s <| .cf <| .x 2 rfl <| .ib 1 <| .g <| .it ((k : Int) + 1) <| .r 1 <| .d ?_
  have bz : Mv [ai, O] [O] aG aG := Mv.less (all_cons (.tail _ (.head _)) all_nil)
  replace ⟨h4, J, Z⟩ := (sp bz (Chg.refl nil _)).g3 h4 J Z
  exact aK (ac, a_out1, n_out1, c_out1, k + 1) _ _ ⟨by kernel_rfl, by kernel_rfl, by kernel_rfl, by kernel_rfl, by kernel_rfl, by kernel_rfl, trivial⟩ ⟨W, Z, (by omega), (by assumption), (by have q1 := foldEnd (by assumption : ((partI af id).drop k1).foldl sPut ac = _) (by omega); have q2 := foldStep (by assumption : (s.parts.drop k).foldl (rowsP id) out = _) (by assumption); rw [← q1] at q2; exact q2)⟩ (by (simp only []; omega))
 refine .d <| .s <| .cf <| .x 0 rfl <| .s <| .s <| .g <| .r 1 <| .lb E <| .r 2 <| .d <| .b 4 <| T.loop (X := (List Row) × (Option Addr) × Nat × Nat × Nat) ((out : List Row), a_out, n_out, c_out, 0) (fun (out, a_out, n_out, c_out, k) => [(1, vI id), (5, .slice a_out n_out c_out), (34, .slice a4 s.mem.length c4), (35, vI (s.mem.length : Int)), (36, vI (k : Int))]) (fun (out, a_out, n_out, c_out, k) aC => Chg (ins []) aF aC ∧ RepS aC (nin (ge w.heap.size) [O]) a_out n_out c_out out ∧ (k ≤ s.mem.length) ∧ (Blk out) ∧ ((s.mem.drop k).foldl (rowsM id) out = rowsOf s id)) (fun (out, a_out, n_out, c_out, k) => s.mem.length - k) (by kernel_rfl) ⟨by kernel_rfl, by kernel_rfl, by kernel_rfl, by kernel_rfl, by kernel_rfl, trivial⟩ ⟨Chg.refl _ _, J, (by omega), (by assumption), (by have q1 : out = s.parts.foldl (rowsP id) [] := foldEnd (by assumption : (s.parts.drop k).foldl (rowsP id) out = _) (by omega); rw [q1]; rfl)⟩ ?_
 rintro ⟨out, a_out, n_out, c_out, k⟩ dh aC ⟨aa, V, cE, cF, cG⟩ am
 have aT : Mv [O] [O] aF aC := Mv.inl aa all_nil (all_cons (.inl (.head _)) all_nil)
 replace ⟨h4, E, C⟩ := (sp aT aa).g3 h4 E C
 clear aT
 have cH := V.len; have cI := V.max
 refine .s <| .g <| .bp ((k : Int) < (s.mem.length : Int)) (fun bA => ?_) (fun bA => .d <| .s <| .cf <| .x 4 rfl <| .s <| .g <| .r 2 <| .d <| .rt Tryz.func64 Tryz.results64 (.slice a_out n_out c_out) ⟨(V.vl (by exact foldEnd (by assumption) (by omega)) (fun _ _ h => h.1)), C⟩)
 refine .d <| .s <| .ct <| .sk <| .s <| .b 5 <| .s <| .g ?_
 have bB : k < s.mem.length := (by omega)
 refine .ix k 3 h4 bB ?_
 obtain ⟨ah, az⟩ : ∃ y, s.mem[k]? = some y := ⟨_, List.getElem?_eq_getElem (by omega)⟩
 have cJ := drop_at az; have b8 := List.mem_of_getElem? az
 obtain ⟨_, rfl, bC⟩ := h4.elem k ah az
 refine .lg 0 bC <| .np 51 [vI 0, vI 0, vI 0] fun aD di aj aU bD bE => ?_
 have cK := nb_new aj E.lt
 have cL := C.cn aj
 have cM := aa.cn aj
 replace ⟨E, V, C, aa⟩ := (sn [O] aU aj).g4 E V C aa
 clear aU bE aj
 refine .sc [vI ah.id, vI ah.row.t, vI ah.row.v] bD fun aE aV aA bF => ?_
 replace ⟨E, V, C, aa⟩ := (so [aD, O] aV).g4 E V C aa
 clear aV bF
 refine .d <| .s <| .g <| .r 1 <| .lb aA <| .r 1 <| .eq ah.id id (fun bG => ?_) (fun bG => ?_)
 ·refine .d <| .ct <| .g <| .r 2 <| .ln aA <| .cl (c_impl_put out ah.row V.ta (by (have q1 := Blk.len (by assumption : Blk out); omega)) (w := aE) (F := all)) ?_
  rintro dj bm ⟨⟨b9, cd, rfl, ao⟩, aW⟩
  have aX := al2 aA.lt E.lt
  have bH : Gb w.heap.size aE.heap.size := C.size
  replace ⟨V, C, aa⟩ := (se [aD, O] aW).g3 V C aa
  clear aW
  have ao := ao.fr aX bH
  have cN := ao.max
  clear aX
  refine .r 1 <| .d <| .ib 5 <| .g <| .it ((k : Int) + 1) <| .r 1 <| .d ?_
  have bI : Mv [aD, O] [O] bm bm := Mv.less (all_cons (.tail _ (.head _)) all_nil)
  replace ⟨V, ao⟩ := (sp bI (Chg.refl nil _)).g2 V ao
  exact am (insR ah.row out, b9, (insR ah.row out).length, cd, k + 1) _ _ ⟨by kernel_rfl, by kernel_rfl, by kernel_rfl, by kernel_rfl, by kernel_rfl, trivial⟩ ⟨aa, ao, (by omega), (by exact Blk.ins (by assumption) (p1 _ (by assumption))), (by have q1 := foldStep (by assumption : (s.mem.drop k).foldl (rowsM id) out = _) (by assumption); (rw [rowsM_hit (by assumption) (by assumption)] at q1; exact q1))⟩ (by (simp only []; omega))
 refine .d <| .cf <| .sk <| .ib 5 <| .g <| .it ((k : Int) + 1) <| .r 1 <| .d ?_
 have bJ : Mv [aD, O] [O] aE aE := Mv.less (all_cons (.tail _ (.head _)) all_nil)
 replace V := (sp bJ (Chg.refl nil _)).g1 V
 exact am (out, a_out, n_out, c_out, k + 1) _ _ ⟨by kernel_rfl, by kernel_rfl, by kernel_rfl, by kernel_rfl, by kernel_rfl, trivial⟩ ⟨aa, V, (by omega), (by assumption), (by have q1 := foldStep (by assumption : (s.mem.drop k).foldl (rowsM id) out = _) (by assumption); (rw [rowsM_no (by assumption)] at q1; exact q1))⟩ (by (simp only []; omega))
end Go.Proofs.YtfnpaglcnmcnbaaGreat
namespace Go.Proofs.YtfnpaglcnmcnbaaGreat
def idxN (n : List Tag) : Nat → List (List Tag) → Int
 | _, [] => -1
 | i, x :: xs => if x == n then (i : Int) else idxN n (i + 1) xs
def idxP (t : Tag) : Nat → List Pst → Int
 | _, [] => -1
 | i, x :: xs => if x.tag == t then (i : Int) else idxP t (i + 1) xs
theorem idxN_le (n : List Tag) : ∀ (xs : List (List Tag)) (i : Nat), -1 ≤ idxN n i xs ∧ idxN n i xs + 1 ≤ (i : Int) + xs.length := by
 intro xs
 induction xs with
 | nil => intro i; simp [idxN]
 | cons x xs ih =>
   intro i
   have := ih (i + 1)
   unfold idxN
   simp only [List.length_cons]
   split <;> omega
def cmpS (x y : Str) : Int := if strLt x y then -1 else if strLt y x then 1 else 0
def orF : List Int → Int
 | [] => 0
 | x :: xs => if x ≠ 0 then x else orF xs
def cmpP (a b : Pst) : Int := orF [cmpS a.tag.key b.tag.key, cmpS a.tag.val b.tag.val]
theorem strLt_gt (x y : Str) : strLe x y = !strLt y x := by
 have key : ∀ (x y : Str), (Op.bytesLess x y || x == y) = !Op.bytesLess y x := by
  intro x
  induction x with
  | nil => intro y; cases y <;> simp [Op.bytesLess]
  | cons a x ih =>
    intro y
    cases y with
    | nil => simp [Op.bytesLess]
    | cons b y =>
      show ((decide (a < b) || a == b && Op.bytesLess x y) || (a :: x) == (b :: y)) = !(decide (b < a) || b == a && Op.bytesLess y x)
      rcases Nat.lt_trichotomy a.toNat b.toNat with h | h | h
      ·have h1 : a < b := UInt8.lt_iff_toNat_lt.2 h
       have h2 : ¬ b < a := fun h2 => by have := UInt8.lt_iff_toNat_lt.1 h2; omega
       have h3 : ¬ b = a := fun e => by rw [e] at h; omega
       simp [h1, h2, h3]
      ·have h1 : a = b := UInt8.toNat_inj.1 h
       subst h1
       have h2 : ¬ a < a := fun h2 => by have := UInt8.lt_iff_toNat_lt.1 h2; omega
       have := ih y
       simp only [h2, decide_false, beq_self_eq_true, Bool.true_and, Bool.false_or, List.cons_beq_cons]
       exact this
      ·have h1 : b < a := UInt8.lt_iff_toNat_lt.2 h
       have h2 : ¬ a < b := fun h2 => by have := UInt8.lt_iff_toNat_lt.1 h2; omega
       have h3 : ¬ a = b := fun e => by rw [e] at h; omega
       simp [h1, h2, h3]
 exact key x y
theorem idxN_at {names : List (List Tag)} (h : (names.map text).Nodup) : ∀ (k : Nat) (x : List Tag), names[k]? = some x → idxN x 0 names = k := by
 have key : ∀ (ns : List (List Tag)) (i k : Nat) (x : List Tag), (ns.map text).Nodup → ns[k]? = some x → idxN x i ns = i + k := by
  intro ns
  induction ns with
  | nil => intro i k x _ h; simp at h
  | cons y ys ih =>
    intro i k x hn hx
    rw [List.map_cons, List.nodup_cons] at hn
    unfold idxN
    cases k with
    | zero =>
      simp at hx
      subst hx
      simp
    | succ k =>
      rw [List.getElem?_cons_succ] at hx
      have hne : ¬ (y == x) = true := fun e => hn.1 (by rw [eq_of_beq e]; exact List.mem_map_of_mem (List.mem_of_getElem? hx))
      rw [if_neg hne, ih (i + 1) k x hn.2 hx]
      omega
 intro k x hx
 have := key names 0 k x h hx
 omega
theorem namesNo {names : List (List Tag)} {k : Nat} {x : List Tag} (h : NmI names) (hx : names[k]? = some x) (h2 : nameOk x = false ∨ idxN x 0 names + 1 ≠ (k : Int) + 1) : False := by
 rcases h2 with h2 | h2
 ·rw [h.ok x (List.mem_of_getElem? hx)] at h2; cases h2
 ·rw [idxN_at h.nodup k x hx] at h2; omega
theorem pstEq_t {a b : Pst} (h : (a.tag == b.tag) = true) : (a.ids == b.ids) = (a == b) := by
 rw [Bool.eq_iff_iff, beq_iff_eq, beq_iff_eq, pst_eq]
 exact ⟨fun h1 => ⟨eq_of_beq h, h1⟩, fun h1 => h1.2⟩
theorem pstEq_f {a b : Pst} (h : (a.tag == b.tag) = false) : false = (a == b) := by
 symm
 rw [beq_eq_false_iff_ne]
 rintro rfl
 simp at h
end Go.Proofs.YtfnpaglcnmcnbaaGreat
namespace Go.Proofs.YtfnpaglcnmcnbaaGreat
set_option maxRecDepth 100000
set_option maxHeartbeats 4000000
theorem c_impl_numberOf_1 (x : List Tag) (n : List Tag) {w : World} {F : Nat → Prop} {a1 : Option Addr} {n1 c1 : Nat} (h1 : RepS w F a1 n1 c1 x) {bq_n : Nat} {a2 : Option Addr} {c2 : Nat} (hb_n : Box w bq_n 31 [.slice a2 n.length c2]) (h2 : RepS w F a2 n.length c2 n)  : Calls Tryz.prog 121 [.slice a1 n1 c1, .pointer (some ⟨bq_n, 0, none⟩)].toArray w (rets fun rv w' => rv = .bool ((x == n)) ∧ Ext w w') := by
 refine goT Tryz.func121 ?_
 obtain ⟨rfl, J, h1⟩ := h1.tp
 replace h2 := h2.top (s := w.heap.size)
 have O := h2.max
 refine .s <| .g <| .r 1 <| .d <| .s <| .g <| .r 1 <| .lb hb_n <| .cl (c_slices_Equal_impl_Tag_impl_Tag x n h1.ta h2.ta (w := w) (F := all)) ?_
 rintro V W ⟨rfl, C⟩
 replace hb_n := (se [] C).g1 hb_n
 have E := C
 clear C
 exact .r 1 <| .d <| .rt Tryz.func121 Tryz.results121 (.bool (x == n)) ⟨(congrArg Value.bool (by simp_all)), E⟩
theorem c_IndexFunc_names (s : List (List Tag)) (n : List Tag) {w : World} {F : Nat → Prop} {a1 : Option Addr} {n1 c1 : Nat} (h1 : RepS w F a1 n1 c1 s) {bq_n : Nat} {a2 : Option Addr} {c2 : Nat} (hb_n : Box w bq_n 31 [.slice a2 n.length c2]) (h2 : RepS w F a2 n.length c2 n)  : Calls Tryz.prog 120 [.slice a1 n1 c1, .func (.func 121) #[] #[.pointer (some ⟨bq_n, 0, none⟩)]].toArray w (rets fun rv w' => rv = .int .i64 (idxN n 0 s) ∧ Ext w w') := by
 refine goT Tryz.func120 ?_
 obtain ⟨rfl, ai, h1⟩ := h1.tp
 replace h2 := h2.top (s := w.heap.size)
 have aj := h2.max
 refine .s <| .g <| .r 1 <| .d <| .s <| .s <| .g <| .r 3 <| .d <| .b 0 <| T.loop (X := Nat) 0 (fun k => [(0, .slice a1 s.length c1), (1, .func (.func 121) #[] #[.pointer (some ⟨bq_n, 0, none⟩)]), (7, vI (s.length : Int)), (8, vI (k : Int))]) (fun k J => Chg (ins []) w J ∧ (k ≤ s.length) ∧ (idxN n k (s.drop k) = idxN n 0 s)) (fun k => s.length - k) (by kernel_rfl) ⟨by kernel_rfl, by kernel_rfl, by kernel_rfl, by kernel_rfl, trivial⟩ ⟨Chg.refl _ _, (by simp), (by simp)⟩ ?_
 rintro k ar J ⟨C, ak, al⟩ O
 have W : Mv [] [] w J := Mv.inl C all_nil all_nil
 replace ⟨h1, h2, hb_n⟩ := (sp W C).g3 h1 h2 hb_n
 have E : Chg nil w J := Chg.stepI (Chg.refl nil w) C all_nil
 clear W
 refine .s <| .g <| .bp ((k : Int) < (s.length : Int)) (fun ac => ?_) (fun ac => .d <| .s <| .cf <| .x 0 rfl <| .s <| .g <| .r 1 <| .d <| .rt Tryz.func120 Tryz.results120 (vI (-1)) ⟨(congrArg (Value.int .i64) (by grind [idxN, drop_end])), E⟩)
 refine .d <| .s <| .ct <| .sk <| .s <| .b 1 <| .s <| .g <| .r 2 <| .d <| .s <| .g <| .r 3 ?_
 have ae : k < s.length := (by omega)
 refine .ix k 1 h1 ae ?_
 obtain ⟨aa, V⟩ : ∃ y, s[k]? = some y := ⟨_, List.getElem?_eq_getElem (by omega)⟩
 have am := drop_at V; have ah := List.mem_of_getElem? V
 obtain ⟨_, ⟨au, av, aw, rfl, ab⟩, af⟩ := h1.elem k aa V
 have ag := ab.len
 subst ag
 have ao := ab.max
 refine .lh 0 af <| .cl (c_impl_numberOf_1 aa n ab.ta hb_n h2.ta (w := J) (F := all)) ?_
 rintro ax ay ⟨rfl, Z⟩
 replace ⟨hb_n, E, C⟩ := (se [] Z).g3 hb_n E C
 clear Z
 cases aq : (aa == n)
 ·exact .d <| .cf <| .sk <| .ib 1 <| .g <| .it ((k : Int) + 1) <| .r 1 <| .d <| O (k + 1) _ _ ⟨by kernel_rfl, by kernel_rfl, by kernel_rfl, by kernel_rfl, trivial⟩ ⟨C, (by omega), (by grind [idxN])⟩ (by omega)
 exact .d <| .ct <| .s <| .g <| .r 2 <| .d <| .rt Tryz.func120 Tryz.results120 (vI (k : Int)) ⟨(congrArg (Value.int .i64) (by grind [idxN, drop_end])), E⟩
theorem c_impl_numberOf (names : List (List Tag)) (n : List Tag) {w : World} {F : Nat → Prop} {a1 : Option Addr} {n1 c1 : Nat} (h1 : RepS w F a1 n1 c1 names) {a2 : Option Addr} {n2 c2 : Nat} (h2 : RepS w F a2 n2 c2 n)  : Calls Tryz.prog 72 [.slice a1 n1 c1, .slice a2 n2 c2].toArray w (rets fun rv w' => rv = .int .i64 ((idxN n 0 names + 1)) ∧ Ext w w') := by
 refine goT Tryz.func72 ?_
 obtain ⟨rfl, aa, h1⟩ := h1.tp
 obtain ⟨rfl, ab, h2⟩ := h2.tp
 refine .s <| .g <| .np 31 [.slice a2 n.length c2] fun ac Z J C V W => ?_
 replace ⟨h1, h2⟩ := (sn [] C J).g2 h1 h2
 have E := C
 clear C W J
 refine .r 1 <| .d <| .s <| .g <| .r 2 <| .cl (c_IndexFunc_names names n h1.ta V h2.ta (w := Z) (F := all)) ?_
 rintro ae af ⟨rfl, O⟩
 replace E := (se [] O).g1 E
 clear O
 exact RG.int (idxN n 0 names + 1) (by kernel_rfl) (by have := idxN_le n names 0; omega) <| .r 1 <| .d <| .rt Tryz.func72 Tryz.results72 (vI (idxN n 0 names + 1)) ⟨(congrArg (Value.int .i64) (by rfl)), E⟩
theorem c_impl_indexOf_1 (p : Pst) (t : Tag) {w : World} {F : Nat → Prop} {a1 : Option Addr} {n1 c1 : Nat} (h1 : RepS w F a1 n1 c1 p.ids) {bq_t : Nat} (hb_t : Box w bq_t 112 [.string (bs t.key), .string (bs t.val)])  : Calls Tryz.prog 124 [.agg #[.string (bs p.tag.key), .string (bs p.tag.val), .slice a1 n1 c1], .pointer (some ⟨bq_t, 0, none⟩)].toArray w (rets fun rv w' => rv = .bool ((p.tag == t)) ∧ Ext w w') := by
 refine goT Tryz.func124 ?_
 obtain ⟨rfl, W, h1⟩ := h1.tp
 refine .s <| .g <| .np 130 [vT p.tag.key, vT p.tag.val, .slice a1 p.ids.length c1] fun Z aa E C J O => ?_
 replace hb_t := (se [] C).g1 hb_t
 have V := C
 clear C O E
 exact .r 1 <| .d <| .s <| .g <| .r 1 <| .ln J <| .ln hb_t <| RG.tagEq (t := 112) (x := p.tag) (y := t) (by kernel_rfl) (by kernel_rfl) <| .r 1 <| .d <| .rt Tryz.func124 Tryz.results124 (.bool (p.tag == t)) ⟨(congrArg Value.bool (by simp_all)), V⟩
theorem c_IndexFunc_posts (s : List Pst) (t : Tag) {w : World} {F : Nat → Prop} {a1 : Option Addr} {n1 c1 : Nat} (h1 : RepS w F a1 n1 c1 s) {bq_t : Nat} (hb_t : Box w bq_t 112 [.string (bs t.key), .string (bs t.val)])  : Calls Tryz.prog 123 [.slice a1 n1 c1, .func (.func 124) #[] #[.pointer (some ⟨bq_t, 0, none⟩)]].toArray w (rets fun rv w' => rv = .int .i64 (idxP t 0 s) ∧ Ext w w') := by
 refine goT Tryz.func123 ?_
 obtain ⟨rfl, ai, h1⟩ := h1.tp
 refine .s <| .g <| .r 1 <| .d <| .s <| .s <| .g <| .r 3 <| .d <| .b 0 <| T.loop (X := Nat) 0 (fun k => [(0, .slice a1 s.length c1), (1, .func (.func 124) #[] #[.pointer (some ⟨bq_t, 0, none⟩)]), (7, vI (s.length : Int)), (8, vI (k : Int))]) (fun k J => Chg (ins []) w J ∧ (k ≤ s.length) ∧ (idxP t k (s.drop k) = idxP t 0 s)) (fun k => s.length - k) (by kernel_rfl) ⟨by kernel_rfl, by kernel_rfl, by kernel_rfl, by kernel_rfl, trivial⟩ ⟨Chg.refl _ _, (by simp), (by simp)⟩ ?_
 rintro k aq J ⟨C, aj, ak⟩ O
 have W : Mv [] [] w J := Mv.inl C all_nil all_nil
 replace ⟨h1, hb_t⟩ := (sp W C).g2 h1 hb_t
 have E : Chg nil w J := Chg.stepI (Chg.refl nil w) C all_nil
 clear W
 refine .s <| .g <| .bp ((k : Int) < (s.length : Int)) (fun ac => ?_) (fun ac => .d <| .s <| .cf <| .x 0 rfl <| .s <| .g <| .r 1 <| .d <| .rt Tryz.func123 Tryz.results123 (vI (-1)) ⟨(congrArg (Value.int .i64) (by grind [idxP, drop_end])), E⟩)
 refine .d <| .s <| .ct <| .sk <| .s <| .b 1 <| .s <| .g <| .r 2 <| .d <| .s <| .g <| .r 3 ?_
 have ae : k < s.length := (by omega)
 refine .ix k 3 h1 ae ?_
 obtain ⟨aa, V⟩ : ∃ y, s[k]? = some y := ⟨_, List.getElem?_eq_getElem (by omega)⟩
 have al := drop_at V; have ah := List.mem_of_getElem? V
 obtain ⟨_, ⟨ar, au, av, rfl, ab⟩, af⟩ := h1.elem k aa V
 have ag := ab.len
 subst ag
 have am := ab.max
 refine .lg 0 af <| .cl (c_impl_indexOf_1 aa t ab.ta hb_t (w := J) (F := all)) ?_
 rintro aw ax ⟨rfl, Z⟩
 replace ⟨hb_t, E, C⟩ := (se [] Z).g3 hb_t E C
 clear Z
 cases ao : (aa.tag == t)
 ·exact .d <| .cf <| .sk <| .ib 1 <| .g <| .it ((k : Int) + 1) <| .r 1 <| .d <| O (k + 1) _ _ ⟨by kernel_rfl, by kernel_rfl, by kernel_rfl, by kernel_rfl, trivial⟩ ⟨C, (by omega), (by grind [idxP])⟩ (by omega)
 exact .d <| .ct <| .s <| .g <| .r 2 <| .d <| .rt Tryz.func123 Tryz.results123 (vI (k : Int)) ⟨(congrArg (Value.int .i64) (by grind [idxP, drop_end])), E⟩
theorem c_cmp_isNaN_string (x : Str) {w : World} {F : Nat → Prop}   : Calls Tryz.prog 161 [.string (bs x)].toArray w (rets fun rv w' => rv = .bool (false) ∧ Ext w w') := by
 exact goT Tryz.func161 <| .s <| .g <| .r 1 <| .d <| .s <| .g <| .r 2 <| RG.eqv (v := .bool (!(x == x))) (by kernel_rfl) (s_ne x x) <| .r 1 <| .d <| .rt Tryz.func161 Tryz.results161 (.bool (!(x == x))) ⟨(congrArg Value.bool (by simp)), (Chg.refl _ _)⟩
theorem c_cmp_Compare_string (x : Str) (y : Str) {w : World} {F : Nat → Prop}   : Calls Tryz.prog 128 [.string (bs x), .string (bs y)].toArray w (rets fun rv w' => rv = .int .i64 (cmpS x y) ∧ Ext w w') := by
 refine goT Tryz.func128 <| .s <| .g <| .r 1 <| .d <| .s <| .g <| .r 1 <| .cl (c_cmp_isNaN_string x (w := w) (F := all)) ?_
 rintro Z O ⟨rfl, E⟩
 have C := E
 clear E
 refine .r 1 <| .d <| .s <| .g <| .r 1 <| .cl (c_cmp_isNaN_string y (w := O) (F := all)) ?_
 rintro aa ab ⟨rfl, J⟩
 replace C := (se [] J).g1 C
 clear J
 refine .r 1 <| .d <| .s <| .s <| .g <| .r 1 <| .d <| .cf <| .sk <| .s <| .s <| .g <| .r 1 <| .d <| .cf <| .sk <| .s <| .s <| .g <| .r 2 <| RG.eqv (v := .bool ((strLt x y))) (by kernel_rfl) (s_lt x y) ?_
 cases V : (strLt x y)
 ·refine .d <| .cf <| .sk <| .s <| .s <| .g <| .r 2 <| RG.eqv (v := .bool (!(strLe x y))) (by kernel_rfl) (s_gt x y) ?_
  cases W : (strLe x y)
  ·exact .d <| .ct <| .s <| .g <| .r 1 <| .d <| .rt Tryz.func128 Tryz.results128 (vI 1) ⟨(congrArg (Value.int .i64) (by grind [cmpS, strLt_gt])), C⟩
  exact .d <| .cf <| .sk <| .s <| .g <| .r 1 <| .d <| .rt Tryz.func128 Tryz.results128 (vI 0) ⟨(congrArg (Value.int .i64) (by grind [cmpS, strLt_gt])), C⟩
 exact .d <| .ct <| .s <| .g <| .r 1 <| .d <| .rt Tryz.func128 Tryz.results128 (vI (-1)) ⟨(congrArg (Value.int .i64) (by grind [cmpS, strLt_gt])), C⟩
theorem c_cmp_Or_int (vals : List Int) {w : World} {F : Nat → Prop} {a1 : Option Addr} {n1 c1 : Nat} (h1 : RepS w F a1 n1 c1 vals)  : Calls Tryz.prog 127 [.slice a1 n1 c1].toArray w (rets fun rv w' => rv = .int .i64 (orF vals) ∧ Ext w w') := by
 refine goT Tryz.func127 ?_
 obtain ⟨rfl, ag, h1⟩ := h1.tp
 refine .s <| .g <| .r 1 <| .d <| .s <| .g <| .r 1 <| .d <| .s <| .s <| .g <| .r 3 <| .d <| .b 0 <| T.loop (X := Nat) 0 (fun k => [(3, vI 0), (6, .slice a1 vals.length c1), (7, vI (vals.length : Int)), (8, vI (k : Int))]) (fun k O => Chg (ins []) w O ∧ (k ≤ vals.length) ∧ (orF (vals.drop k) = orF vals)) (fun k => vals.length - k) (by kernel_rfl) ⟨by kernel_rfl, by kernel_rfl, by kernel_rfl, by kernel_rfl, trivial⟩ ⟨Chg.refl _ _, (by simp), (by simp)⟩ ?_
 rintro k ak O ⟨C, ah, ai⟩ E
 have V : Mv [] [] w O := Mv.inl C all_nil all_nil
 replace h1 := (sp V C).g1 h1
 have W : Chg nil w O := Chg.stepI (Chg.refl nil w) C all_nil
 clear V
 refine .s <| .g <| .bp ((k : Int) < (vals.length : Int)) (fun aa => ?_) (fun aa => .d <| .s <| .cf <| .x 0 rfl <| .s <| .g <| .r 2 <| .d <| .rt Tryz.func127 Tryz.results127 (vI 0) ⟨(congrArg (Value.int .i64) (by grind [orF, drop_end])), W⟩)
 refine .d <| .s <| .ct <| .sk <| .s <| .b 1 <| .s <| .g ?_
 have ab : k < vals.length := (by omega)
 refine .ix k 1 h1 ab ?_
 obtain ⟨Z, J⟩ : ∃ y, vals[k]? = some y := ⟨_, List.getElem?_eq_getElem (by omega)⟩
 have aj := drop_at J; have af := List.mem_of_getElem? J
 obtain ⟨_, rfl, ac⟩ := h1.elem k Z J
 exact .lh 0 ac <| .r 1 <| .d <| .s <| .g <| .r 2 <| .ne Z 0 (fun ae => .d <| .ct <| .s <| .g <| .r 2 <| .d <| .rt Tryz.func127 Tryz.results127 (vI Z) ⟨(congrArg (Value.int .i64) (by grind [orF, drop_end])), W⟩) fun ae => .d <| .cf <| .sk <| .ib 1 <| .g <| .it ((k : Int) + 1) <| .r 1 <| .d <| E (k + 1) _ _ ⟨by kernel_rfl, by kernel_rfl, by kernel_rfl, by kernel_rfl, trivial⟩ ⟨C, (by omega), (by grind [orF])⟩ (by omega)
theorem c_impl_indexOf_2 (a : Pst) (b_ : Pst) {w : World} {F : Nat → Prop} {a1 : Option Addr} {n1 c1 : Nat} (h1 : RepS w F a1 n1 c1 a.ids) {a2 : Option Addr} {n2 c2 : Nat} (h2 : RepS w F a2 n2 c2 b_.ids)  : Calls Tryz.prog 126 [.agg #[.string (bs a.tag.key), .string (bs a.tag.val), .slice a1 n1 c1], .agg #[.string (bs b_.tag.key), .string (bs b_.tag.val), .slice a2 n2 c2]].toArray w (rets fun rv w' => rv = .int .i64 (cmpP a b_) ∧ Ext w w') := by
 refine goT Tryz.func126 ?_
 obtain ⟨rfl, aw, h1⟩ := h1.tp
 obtain ⟨rfl, ax, h2⟩ := h2.tp
 refine .s <| .g <| .np 130 [vT a.tag.key, vT a.tag.val, .slice a1 a.ids.length c1] fun aq az ae O E af => ?_
 have C := O
 clear O af ae
 refine .np 130 [vT b_.tag.key, vT b_.tag.val, .slice a2 b_.ids.length c2] fun ar aA ag V J ah => ?_
 replace ⟨E, C⟩ := (se [] V).g2 E C
 clear V ah ag
 refine .r 1 <| .d <| .s <| .gd nil 13 fun aB W => ?_
 replace ⟨E, J, C⟩ := (se [] W).g3 E J C
 clear W
 refine .r [0, 1] <| .lb 2 E id <| .r [3, 4] <| .lb 5 J id <| GA.call1 (i := 6) (by kernel_rfl) (fun au ay => c_cmp_Compare_string a.tag.key b_.tag.key (w := au) (F := all)) <| .r [7, 8] <| .lb 9 E id <| .r [10, 11] <| .lb 12 J id <| .d fun av Z => ?_
 replace C := (se [] Z).g1 C
 clear Z
 refine .cl (c_cmp_Compare_string a.tag.val b_.tag.val (w := av) (F := all)) ?_
 rintro aC aD ⟨rfl, aa⟩
 replace C := (se [] aa).g1 C
 clear aa
 refine .ns 2 3 [vI (cmpS a.tag.key b_.tag.key), vI (cmpS a.tag.val b_.tag.val)] fun ai aj ak ab al am => ?_
 replace C := (se [] ab).g1 C
 clear ab am ak
 have ao : Own (α := Int) aj ai 3 (nin (ge w.heap.size) [ai, ar, aq]) 2 2 [cmpS a.tag.key b_.tag.key, cmpS a.tag.val b_.tag.val] := Own.lit al rfl (by decide) ⟨rfl, rfl, rfl⟩
 refine .cl (c_cmp_Or_int ([cmpS a.tag.key b_.tag.key, cmpS a.tag.val b_.tag.val] : List Int) (ao.rep) (w := aj) (F := all)) ?_
 rintro aE aF ⟨rfl, ac⟩
 replace C := (se [] ac).g1 C
 clear ac
 exact .r 1 <| .d <| .rt Tryz.func126 Tryz.results126 (vI (orF ([cmpS a.tag.key b_.tag.key, cmpS a.tag.val b_.tag.val] : List Int))) ⟨(congrArg (Value.int .i64) (by rfl)), C⟩
theorem c_impl_IndexOk_1 (a : Pst) (b_ : Pst) {w : World} {F : Nat → Prop} {a1 : Option Addr} {n1 c1 : Nat} (h1 : RepS w F a1 n1 c1 a.ids) {a2 : Option Addr} {n2 c2 : Nat} (h2 : RepS w F a2 n2 c2 b_.ids)  : Calls Tryz.prog 118 [.agg #[.string (bs a.tag.key), .string (bs a.tag.val), .slice a1 n1 c1], .agg #[.string (bs b_.tag.key), .string (bs b_.tag.val), .slice a2 n2 c2]].toArray w (rets fun rv w' => rv = .bool ((a == b_)) ∧ Ext w w') := by
 refine goT Tryz.func118 ?_
 obtain ⟨rfl, ag, h1⟩ := h1.tp
 obtain ⟨rfl, ah, h2⟩ := h2.tp
 refine .s <| .g <| .np 130 [vT a.tag.key, vT a.tag.val, .slice a1 a.ids.length c1] fun ae aj O J E ab => ?_
 replace ⟨h1, h2⟩ := (sn [] J O).g2 h1 h2
 have C := J
 clear J ab O
 refine .np 130 [vT b_.tag.key, vT b_.tag.val, .slice a2 b_.ids.length c2] fun ak af V W Z ac => ?_
 replace ⟨h1, h2, E, C⟩ := (sn [ae] W V).g4 h1 h2 E C
 clear W ac V
 refine .r 1 <| .d <| .s <| .g <| .r 1 <| .ln E <| .r 1 <| .ln Z <| RG.tagEq (t := 112) (x := a.tag) (y := b_.tag) (by kernel_rfl) (by kernel_rfl) ?_
 cases ai : (a.tag == b_.tag)
 ·exact .r 8 <| .d <| .rt Tryz.func118 Tryz.results118 (.bool false) ⟨(congrArg Value.bool (by exact pstEq_f (by assumption))), C⟩
 refine .r 2 <| .lb E <| .r 1 <| .lb Z <| .cl (c_slices_Equal_int_int a.ids b_.ids h1.ta h2.ta (w := af) (F := all)) ?_
 rintro al am ⟨rfl, aa⟩
 replace C := (se [] aa).g1 C
 clear aa
 exact .r 2 <| .d <| .rt Tryz.func118 Tryz.results118 (.bool (a.ids == b_.ids)) ⟨(congrArg Value.bool (by exact pstEq_t (by assumption))), C⟩
theorem c_EqualFunc_posts (s1 : List Pst) (s2 : List Pst) {w : World} {F : Nat → Prop} {a1 : Option Addr} {n1 c1 : Nat} (h1 : RepS w F a1 n1 c1 s1) {a2 : Option Addr} {n2 c2 : Nat} (h2 : RepS w F a2 n2 c2 s2)  : Calls Tryz.prog 117 [.slice a1 n1 c1, .slice a2 n2 c2, .func (.func 118) #[] #[]].toArray w (rets fun rv w' => rv = .bool ((s1 == s2)) ∧ Ext w w') := by
 refine goT Tryz.func117 ?_
 obtain ⟨rfl, aP, h1⟩ := h1.tp
 obtain ⟨rfl, aQ, h2⟩ := h2.tp
 refine .s <| .g <| .r 1 <| .d <| .s <| .s <| .g <| .r 4 <| .ne (s1.length : Int) (s2.length : Int) (fun aq => .d <| .ct <| .s <| .g <| .r 1 <| .d <| .rt Tryz.func117 Tryz.results117 (.bool false) ⟨(congrArg Value.bool (by grind [drop_end])), (Chg.refl _ _)⟩) fun aq => .d <| .cf <| .sk <| .s <| .s <| .g <| .r 3 <| .d <| .b 0 <| T.loop (X := Nat) 0 (fun k => [(1, .slice a2 s2.length c2), (2, .func (.func 118) #[] #[]), (15, .slice a1 s1.length c1), (16, vI (s1.length : Int)), (17, vI (k : Int))]) (fun k ag => Chg (ins []) w ag ∧ (k ≤ s1.length) ∧ (s1.drop k = s2.drop k ↔ s1 = s2)) (fun k => s1.length - k) (by kernel_rfl) ⟨by kernel_rfl, by kernel_rfl, by kernel_rfl, by kernel_rfl, by kernel_rfl, trivial⟩ ⟨Chg.refl _ _, (by simp), (by simp)⟩ ?_
 rintro k bg ag ⟨C, aR, aS⟩ ac
 have ah : Mv [] [] w ag := Mv.inl C all_nil all_nil
 replace ⟨h1, h2⟩ := (sp ah C).g2 h1 h2
 have E : Chg nil w ag := Chg.stepI (Chg.refl nil w) C all_nil
 clear ah
 refine .s <| .g <| .bp ((k : Int) < (s1.length : Int)) (fun ar => ?_) (fun ar => .d <| .s <| .cf <| .x 0 rfl <| .s <| .g <| .r 1 <| .d <| .rt Tryz.func117 Tryz.results117 (.bool true) ⟨(congrArg Value.bool (by grind [drop_end])), E⟩)
 refine .d <| .s <| .ct <| .sk <| .s <| .b 1 <| .s <| .g <| .r 1 ?_
 have au : k < s1.length := (by omega)
 refine .ix k 3 h1 au ?_
 obtain ⟨aa, ae⟩ : ∃ y, s1[k]? = some y := ⟨_, List.getElem?_eq_getElem (by omega)⟩
 have aT := drop_at ae; have aH := List.mem_of_getElem? ae
 obtain ⟨_, ⟨aJ, bh, aK, rfl, J⟩, av⟩ := h1.elem k aa ae
 have aw := J.len
 subst aw
 have aU := J.max
 refine .lg 0 av <| .np 130 [.string (bs []), .string (bs []), .slice none 0 0] fun ao bi Z ai ax ay => ?_
 have aV := E.cn Z
 have aW := C.cn Z
 replace ⟨h2, J, E, C⟩ := (sn [] ai Z).g4 h2 J E C
 clear ai ay Z
 refine .r 1 <| .sc [vT aa.tag.key, vT aa.tag.val, .slice aJ aa.ids.length aK] ax fun bj aj O az => ?_
 replace ⟨h2, J, E, C⟩ := (so [ao] aj).g4 h2 J E C
 clear aj az
 refine .d <| .s <| .g <| .r 2 ?_
 have aA : k < s2.length := (by omega)
 refine .ix k 3 h2 aA ?_
 obtain ⟨ab, af⟩ : ∃ y, s2[k]? = some y := ⟨_, List.getElem?_eq_getElem (by omega)⟩
 have aX := drop_at af; have aI := List.mem_of_getElem? af
 obtain ⟨_, ⟨aL, bk, aM, rfl, W⟩, aB⟩ := h2.elem k ab af
 have aC := W.len
 subst aC
 have aY := W.max
 refine .lg 0 aB <| .np 130 [.string (bs []), .string (bs []), .slice none 0 0] fun aN bm V ak aD aE => ?_
 have aZ := nb_new V O.lt
 have ba := E.cn V
 have bc := C.cn V
 replace ⟨J, O, W, E, C⟩ := (sn [ao] ak V).g5 J O W E C
 clear ak aE V
 refine .sc [vT ab.tag.key, vT ab.tag.val, .slice aL ab.ids.length aM] aD fun aO al aF aG => ?_
 replace ⟨J, O, W, E, C⟩ := (so [aN, ao] al).g5 J O W E C
 clear al aG
 refine .d <| .s <| .g <| .r 1 <| .ln O <| .ln aF <| .cl (c_impl_IndexOk_1 aa ab J.ta W.ta (w := aO) (F := all)) ?_
 rintro bn bo ⟨rfl, am⟩
 replace ⟨E, C⟩ := (se [] am).g2 E C
 clear am
 cases bd : (aa == ab)
 ·exact .r 1 <| .d <| .ct <| .s <| .g <| .r 1 <| .d <| .rt Tryz.func117 Tryz.results117 (.bool false) ⟨(congrArg Value.bool (by grind [drop_end])), E⟩
 exact .r 1 <| .d <| .cf <| .sk <| .ib 1 <| .g <| .it ((k : Int) + 1) <| .r 1 <| .d <| ac (k + 1) _ _ ⟨by kernel_rfl, by kernel_rfl, by kernel_rfl, by kernel_rfl, by kernel_rfl, trivial⟩ ⟨C, (by omega), (by grind)⟩ (by omega)
end Go.Proofs.YtfnpaglcnmcnbaaGreat
namespace Go.Proofs.YtfnpaglcnmcnbaaGreat
theorem set_top {α : Type} (xs : List α) (x y : α) : (xs ++ [x]).set xs.length y = xs ++ [y] := by simp
theorem get_top {α : Type} (xs : List α) (x : α) : (xs ++ [x])[xs.length]? = some x := by simp
structure RP where
 key : Str
 val : Str
 a : Option Addr
 n : Nat
 c : Nat
instance : Rep RP where
 sz := 3
 rep _ _ x cs := cs = [.string (bs x.key), .string (bs x.val), .slice x.a x.n x.c]
 len := by rintro w F x cs rfl; rfl
 pos := by decide
 flat := by rintro w F x cs rfl v hv; simp at hv; rcases hv with rfl | rfl | rfl <;> rfl
 frame := by rintro w w' F F' x cs rfl _; rfl
theorem flat_rp : Flat RP := fun _ _ _ _ _ _ h => h
def IdsO (tI : TypeId) (w : World) (y : RP) (ri : Nat) (ids : List Int) : Prop :=
 (y.a = none ∧ y.n = 0 ∧ y.c = 0 ∧ ids = []) ∨ (y.a = some ⟨ri, 0, none⟩ ∧ Own w ri tI all y.n y.c ids)
structure IX (tX tP tI s0 s1 : Nat) (G : Nat → Prop) (w : World) (b3 r c : Nat) (an : Option Addr) (nn cn : Nat) (nms : List (List Tag)) (ys : List RP) (xs : List Pst) (rs : List Nat) : Prop where
 hs : s0 ≤ s1
 hG : ∀ b, G b → b < s1
 nm : RepS w G an nn cn nms
 box : Box w b3 tX [.slice an nn cn, .slice (some ⟨r, 0, none⟩) ys.length c]
 own : Own w r tP all ys.length c ys
 nd : (b3 :: r :: rs).Nodup
 new : ∀ b ∈ b3 :: r :: rs, s1 ≤ b
 lt : ∀ b ∈ b3 :: r :: rs, b < w.heap.size
 lx : ys.length = xs.length
 lr : rs.length = xs.length
 el : ∀ (i : Nat) (x : Pst) (y : RP) (ri : Nat), xs[i]? = some x → ys[i]? = some y → rs[i]? = some ri → y.key = x.tag.key ∧ y.val = x.tag.val ∧ IdsO tI w y ri x.ids
section
variable {tX tP tI s0 s1 : Nat} {w w' w2 w3 : World} {b3 r c : Nat} {an : Option Addr} {nn cn : Nat} {nms : List (List Tag)} {ys : List RP} {xs : List Pst} {rs : List Nat} {S G : Nat → Prop}
theorem IdsO.chg {y : RP} {ri : Nat} {ids : List Int} (h : IdsO tI w y ri ids) (hx : Chg S w w') (hr : ¬ S ri) : IdsO tI w' y ri ids := by
 rcases h with h | ⟨h1, h2⟩
 ·exact .inl h
 ·refine .inr ⟨h1, ?_⟩
  have := (h2.flat flat_int (F' := fun _ => False)).chg hx hr (fun b hb _ => hb.elim)
  exact this.flat flat_int
theorem ownF {α : Type} [Rep α] {r t n c : Nat} {xs : List α} (hf : Flat α) (h : Own w r t all n c xs) (hx : Chg S w w') (hr : ¬ S r) : Own w' r t all n c xs :=
 ((h.flat hf (F' := fun _ => False)).chg hx hr (fun b hb _ => hb.elim)).flat hf
theorem IX.chg (h : IX tX tP tI s0 s1 G w b3 r c an nn cn nms ys xs rs) (hx : Chg S w w') (hS : ∀ b ∈ b3 :: r :: rs, ¬ S b) (h1 : ∀ b, b < s1 → ¬ S b) : IX tX tP tI s0 s1 G w' b3 r c an nn cn nms ys xs rs :=
 ⟨h.hs, h.hG, h.nm.chg hx (fun b hb => h1 b (h.hG b hb)), h.box.chg hx (hS _ (by simp)), ownF flat_rp h.own hx (hS _ (by simp)), h.nd, h.new, fun b hb => Nat.lt_of_lt_of_le (h.lt b hb) hx.size, h.lx, h.lr,
  fun i x y ri h2 h3 h4 => by
   obtain ⟨g1, g2, g3⟩ := h.el i x y ri h2 h3 h4
   exact ⟨g1, g2, g3.chg hx (hS _ (by simp [List.mem_of_getElem? h4]))⟩⟩
theorem IX.ext (h : IX tX tP tI s0 s1 G w b3 r c an nn cn nms ys xs rs) (hx : Ext w w') : IX tX tP tI s0 s1 G w' b3 r c an nn cn nms ys xs rs := h.chg hx (fun _ _ h => h) (fun _ _ h => h)
theorem IX.one {b : Nat} (h : IX tX tP tI s0 s1 G w b3 r c an nn cn nms ys xs rs) (hx : Chg (Go.Proofs.YtfnpaglcnmcnbaaGreat.one b) w w') (hb : ∀ q ∈ b3 :: r :: rs, Nb b q) (h1 : s1 ≤ b) : IX tX tP tI s0 s1 G w' b3 r c an nn cn nms ys xs rs :=
 h.chg hx (fun q hq e => (hb q hq).ne (by unfold Go.Proofs.YtfnpaglcnmcnbaaGreat.one at e; exact e.symm)) (fun q hq e => by unfold Go.Proofs.YtfnpaglcnmcnbaaGreat.one at e; omega)
theorem IX.rep (h : IX tX tP tI s0 s1 G w b3 r c an nn cn nms ys xs rs) : RepS w all (some ⟨r, 0, none⟩) ys.length c xs := by
 have h0 := h.own.rep
 refine ⟨h.lx, h0.le, h0.cap, h0.addr, h0.inF, fun i x hi => ?_⟩
 obtain ⟨hl, _⟩ := List.getElem?_eq_some_iff.1 hi
 have hy : ys[i]? = some (ys[i]'(by rw [h.lx]; exact hl)) := List.getElem?_eq_getElem _
 have hr : rs[i]? = some (rs[i]'(by rw [h.lr]; exact hl)) := List.getElem?_eq_getElem _
 obtain ⟨cs, g1, g2⟩ := h0.elem i _ hy
 obtain ⟨e1, e2, e3⟩ := h.el i x _ _ hi hy hr
 cases g1
 refine ⟨_, ?_, g2⟩
 rw [e1, e2]
 rcases e3 with ⟨a1, a2, a3, a4⟩ | ⟨a1, a2⟩
 ·rw [a1, a2, a3]
  refine ⟨none, 0, 0, rfl, ?_⟩
  rw [a4]
  exact RepS.nil' _ _ none 0 (by decide)
 ·rw [a1]
  exact ⟨_, _, _, rfl, a2.rep⟩
theorem IX.done (h : IX tX tP tI s0 s1 G w b3 r c an nn cn nms ys xs rs) : Own w r tP (nin (ge s1) [b3, r]) ys.length c xs := by
 refine ⟨h.lx, h.own.le, h.own.cap, h.own.row, fun i x hi => ?_⟩
 obtain ⟨hl, _⟩ := List.getElem?_eq_some_iff.1 hi
 have hy : ys[i]? = some (ys[i]'(by rw [h.lx]; exact hl)) := List.getElem?_eq_getElem _
 have hr : rs[i]? = some (rs[i]'(by rw [h.lr]; exact hl)) := List.getElem?_eq_getElem _
 obtain ⟨cs, g1, g2⟩ := h.own.elem i _ hy
 obtain ⟨e1, e2, e3⟩ := h.el i x _ _ hi hy hr
 cases g1
 refine ⟨_, ?_, g2⟩
 rw [e1, e2]
 have hm := List.mem_of_getElem? hr
 have hnd := h.nd
 simp only [List.nodup_cons, List.mem_cons, not_or] at hnd
 have hge := h.new (rs[i]'(by rw [h.lr]; exact hl)) (by simp [hm])
 rcases e3 with ⟨a1, a2, a3, a4⟩ | ⟨a1, a2⟩
 ·rw [a1, a2, a3]
  refine ⟨none, 0, 0, rfl, ?_⟩
  rw [a4]
  exact RepS.nil' _ _ none 0 (by decide)
 ·rw [a1]
  refine ⟨_, _, _, rfl, (a2.flat flat_int (F' := fun _ => False)).rep' (fun _ _ hf => hf.elim) ⟨⟨?_, ?_⟩, ?_⟩⟩
  ·show s1 ≤ _
   omega
  ·simp only [List.mem_cons, List.not_mem_nil, or_false, not_or]
   exact ⟨fun e => hnd.1.2 (e ▸ hm), fun e => hnd.2.1 (e ▸ hm)⟩
  ·exact fun e => hnd.2.1 (e ▸ hm)
theorem IX.names (h : IX tX tP tI s0 s1 G w b3 r c an nn cn nms ys xs rs) : RepS w (nin G [b3, r]) an nn cn nms := h.nm.weak fun b _ hb => ⟨hb, by
 simp only [List.mem_cons, List.not_mem_nil, or_false, not_or]
 have h1 := h.new b3 (by simp)
 have h2 := h.new r (by simp)
 have h3 := h.hG b hb
 exact ⟨by omega, by omega⟩⟩
def GN (s0 s1 b2 b : Nat) : Prop := s0 ≤ b ∧ b < s1 ∧ b ≠ b2
theorem GN.lt {s0 s1 b2 : Nat} : ∀ b, GN s0 s1 b2 b → b < s1 := fun _ h => h.2.1
theorem RepS.toGN {α : Type} [Rep α] {w : World} {s0 b2 n c : Nat} {o : Option Addr} {xs : List α} (h : RepS w (nin (ge s0) [b2]) o n c xs) : RepS w (GN s0 w.heap.size b2) o n c xs := h.weak fun b hb hF => ⟨hF.1, hb, fun e => hF.2 (by simp [e])⟩
theorem RepS.low {α : Type} [Rep α] {w w' : World} {F : Nat → Prop} {s1 b n c : Nat} {o : Option Addr} {xs : List α} (h : RepS w (ltG F s1) o n c xs) (hx : Chg (Go.Proofs.YtfnpaglcnmcnbaaGreat.one b) w w') (hb : s1 ≤ b) : RepS w' (ltG F s1) o n c xs :=
 h.chg hx (fun k hk e => by unfold Go.Proofs.YtfnpaglcnmcnbaaGreat.one at e; have := hk.2; omega)
theorem RepS.toLow {α : Type} [Rep α] {w : World} {F : Nat → Prop} {n c : Nat} {o : Option Addr} {xs : List α} (h : RepS w F o n c xs) : RepS w (ltG all w.heap.size) o n c xs := h.weak fun _ hb _ => ⟨trivial, hb⟩
theorem IX.new0 {tX tP tI s0 s1 : Nat} {w : World} {b3 r : Nat} {an : Option Addr} {nn cn : Nat} {nms : List (List Tag)} {G : Nat → Prop} {F : Nat → Prop} (hs : s0 ≤ s1) (hG : ∀ b, G b → b < s1) (hn : RepS w G an nn cn nms) (hb : Box w b3 tX [.slice an nn cn, .slice (some ⟨r, 0, none⟩) 0 0])
 (ho : Own w r tP F 0 0 ([] : List Pst)) (hne : Nb b3 r) (h3 : s1 ≤ b3) (hr : s1 ≤ r) : IX tX tP tI s0 s1 G w b3 r 0 an nn cn nms [] [] [] :=
 ⟨hs, hG, hn, hb, ⟨rfl, Nat.le_refl _, by decide, ho.row, fun i x hi => by simp at hi⟩, by simp; exact hne.ne, fun b hb' => by simp at hb'; rcases hb' with rfl | rfl <;> assumption,
  fun b hb' => by simp at hb'; rcases hb' with rfl | rfl; exact hb.lt; exact ho.lt, rfl, rfl, fun i x y ri hi => by simp at hi⟩
theorem Cov.ge {w : World} {b : Nat} (h : Cov nil w b) : w.heap.size ≤ b := h.or.resolve_left (fun h => h)
section
variable {tX tP tI s0 s1 : Nat} {w w' : World} {b3 b2 r c : Nat} {an : Option Addr} {nn cn : Nat} {nms : List (List Tag)} {ys : List RP} {xs : List Pst} {rs : List Nat} {G : Nat → Prop}
theorem IX.done2 (h : IX tX tP tI s0 s1 G w b3 r c an nn cn nms ys xs rs) (hb : b2 < s1) : Own w r tP (nin (ge s0) [b3, r, b2]) ys.length c xs := h.done.weak fun b _ hF => ⟨Nat.le_trans h.hs hF.1, by
 have h1 : s1 ≤ b := hF.1
 have h2 := hF.2
 simp only [List.mem_cons, List.not_mem_nil, or_false, not_or] at h2 ⊢
 exact ⟨h2.1, h2.2, by omega⟩⟩
theorem IX.names2 (h : IX tX tP tI s0 s1 (GN s0 s1 b2) w b3 r c an nn cn nms ys xs rs) : RepS w (nin (ge s0) [b3, r, b2]) an nn cn nms := h.names.weak fun b _ hF => ⟨hF.1.1, by
 have h2 := hF.2
 simp only [List.mem_cons, List.not_mem_nil, or_false, not_or] at h2 ⊢
 exact ⟨h2.1, h2.2, hF.1.2.2⟩⟩
theorem IX.ne (h : IX tX tP tI s0 s1 G w b3 r c an nn cn nms ys xs rs) : Nb b3 r := by
 have := h.nd
 simp only [List.nodup_cons, List.mem_cons, not_or] at this
 exact ⟨this.1.1⟩
theorem IX.ne3 {i ri : Nat} (h : IX tX tP tI s0 s1 G w b3 r c an nn cn nms ys xs rs) (hr : rs[i]? = some ri) : Nb b3 ri := by
 have := h.nd
 simp only [List.nodup_cons, List.mem_cons, not_or] at this
 exact ⟨fun e => this.1.2 (e ▸ List.mem_of_getElem? hr)⟩
theorem IX.ner {i ri : Nat} (h : IX tX tP tI s0 s1 G w b3 r c an nn cn nms ys xs rs) (hr : rs[i]? = some ri) : Nb r ri := by
 have := h.nd
 simp only [List.nodup_cons, List.mem_cons, not_or] at this
 exact ⟨fun e => this.2.1 (e ▸ List.mem_of_getElem? hr)⟩
theorem IX.mi {i ri : Nat} (hr : rs[i]? = some ri) : ri ∈ b3 :: r :: rs := by simp [List.mem_of_getElem? hr]
theorem RepS.via {α : Type} [Rep α] {wc wa wb : World} {n c' : Nat} {o : Option Addr} {zs : List α} (h : RepS wa (ltG all wc.heap.size) o n c' zs) (ha : Ext wc wa) (hb : Ext wc wb) : RepS wb (ltG all wc.heap.size) o n c' zs :=
 h.frame fun b _ hF => ⟨hF, by rw [hb.block hF.2, ha.block hF.2]⟩
theorem topSet {xs : List Pst} {t : Tag} {m : Nat} {x : Pst} {z : Int} (hx : (xs ++ [⟨t, []⟩])[m]? = some x) (hm : m = xs.length) : (xs ++ [(⟨t, []⟩ : Pst)]).set m ⟨x.tag, x.ids ++ [z]⟩ = xs ++ [⟨t, [z]⟩] := by
 subst hm
 rw [get_top] at hx
 cases hx
 rw [set_top]
 rfl
theorem IdsO.n {y : RP} {ri : Nat} {ids : List Int} (h : IdsO tI w y ri ids) : y.n = ids.length := by
 rcases h with ⟨_, h2, _, h4⟩ | ⟨_, h2⟩
 ·rw [h2, h4]; rfl
 ·exact h2.len
end
def addT (k : Int) (xs : List Pst) (t : Tag) : List Pst :=
 if idxP t 0 xs < 0 then xs ++ [⟨t, [k]⟩] else match xs[(idxP t 0 xs).toNat]? with
  | some x => xs.set (idxP t 0 xs).toNat ⟨x.tag, x.ids ++ [k]⟩
  | none => xs
def bldF : Nat → List Pst → List (List Tag) → List Pst
 | _, xs, [] => xs
 | i, xs, n :: ns => bldF (i + 1) (n.foldl (addT ((i : Int) + 1)) xs) ns
theorem idxP_spec (t : Tag) : ∀ (xs : List Pst) (i : Nat), (idxP t i xs = -1 ∧ ∀ x ∈ xs, x.tag ≠ t) ∨ ((i : Int) ≤ idxP t i xs ∧ idxP t i xs < (i : Int) + xs.length ∧ ∃ x, xs[(idxP t i xs).toNat - i]? = some x ∧ x.tag = t) := by
 intro xs
 induction xs with
 | nil => intro i; left; simp [idxP]
 | cons x xs ih =>
   intro i
   unfold idxP
   by_cases hx : (x.tag == t) = true
   ·right
    rw [if_pos hx]
    exact ⟨by omega, by simp only [List.length_cons]; omega, x, by simp, eq_of_beq hx⟩
   ·rw [if_neg hx]
    rcases ih (i + 1) with ⟨h1, h2⟩ | ⟨h1, h2, y, h3, h4⟩
    ·left
     refine ⟨h1, fun z hz => ?_⟩
     rcases List.mem_cons.1 hz with rfl | hz
     ·exact fun e => hx (by simp [e])
     ·exact h2 z hz
    ·right
     refine ⟨by omega, by simp only [List.length_cons]; omega, y, ?_, h4⟩
     rw [show (idxP t (i + 1) xs).toNat - i = ((idxP t (i + 1) xs).toNat - (i + 1)) + 1 by omega, List.getElem?_cons_succ]
     exact h3
theorem idxP_lt {t : Tag} {xs : List Pst} (h : ¬ idxP t 0 xs < 0) : (idxP t 0 xs).toNat < xs.length := by
 rcases idxP_spec t xs 0 with ⟨h1, _⟩ | ⟨_, h2, _⟩
 ·omega
 ·omega
theorem addT_new {k : Int} {xs : List Pst} {t : Tag} (h : idxP t 0 xs < 0) : addT k xs t = xs ++ [⟨t, [k]⟩] := by unfold addT; rw [if_pos h]
theorem addT_old {k : Int} {xs : List Pst} {t : Tag} {x : Pst} (h : ¬ idxP t 0 xs < 0) (hx : xs[(idxP t 0 xs).toNat]? = some x) : addT k xs t = xs.set (idxP t 0 xs).toNat ⟨x.tag, x.ids ++ [k]⟩ := by unfold addT; rw [if_neg h, hx]
theorem addT_len (k : Int) (xs : List Pst) (t : Tag) (m : Nat) (h1 : xs.length ≤ m) (h2 : ∀ x ∈ xs, x.ids.length ≤ m) : (addT k xs t).length ≤ m + 1 ∧ ∀ x ∈ addT k xs t, x.ids.length ≤ m + 1 := by
 unfold addT
 split
 ·refine ⟨by simp; omega, fun x hx => ?_⟩
  rcases List.mem_append.1 hx with hx | hx
  ·have := h2 x hx; omega
  ·simp at hx; subst hx; simp
 ·split
  ·rename_i x hx
   refine ⟨by simp; omega, fun z hz => ?_⟩
   rcases List.mem_or_eq_of_mem_set hz with hz | rfl
   ·have := h2 z hz; omega
   ·have := h2 x (List.mem_of_getElem? hx); simp; omega
  ·exact ⟨by omega, fun x hx => by have := h2 x hx; omega⟩
theorem bldStep {i : Nat} {xs ys : List Pst} {ns : List (List Tag)} {n : List Tag} {Y : List Pst} (h : bldF i xs (ns.drop i) = Y) (hd : ns.drop i = n :: ns.drop (i + 1)) (hy : ys = n.foldl (addT ((i : Int) + 1)) xs) : bldF (i + 1) ys (ns.drop (i + 1)) = Y := by
 rw [hd] at h
 subst hy
 exact h
theorem bldEnd {i : Nat} {xs : List Pst} {ns : List (List Tag)} {Y : List Pst} (h : bldF i xs (ns.drop i) = Y) (hi : ns.length ≤ i) : xs = Y := by
 rw [drop_end hi] at h
 exact h
theorem IX.push {r2 c2 vb : Nat} {t : Tag} (h : IX tX tP tI s0 s1 G w b3 r c an nn cn nms ys xs rs) (hs1 : s1 ≤ w.heap.size) (hx : Chg (Go.Proofs.YtfnpaglcnmcnbaaGreat.one r) w w2) (ho : Own w2 r2 tP all (ys.length + 1) c2 (ys ++ [⟨t.key, t.val, none, 0, 0⟩]))
 (hor : r2 = r ∨ r2 = w.heap.size) (hv : ∀ q ∈ b3 :: r :: rs, Nb vb q) (hv1 : s1 ≤ vb) (hv2 : vb < w.heap.size) (hx3 : Chg (Go.Proofs.YtfnpaglcnmcnbaaGreat.one b3) w2 w3)
 (hb : Box w3 b3 tX [.slice an nn cn, .slice (some ⟨r2, 0, none⟩) (ys.length + 1) c2]) :
 IX tX tP tI s0 s1 G w3 b3 r2 c2 an nn cn nms (ys ++ [⟨t.key, t.val, none, 0, 0⟩]) (xs ++ [⟨t, []⟩]) (rs ++ [vb]) := by
 have hnd := h.nd
 simp only [List.nodup_cons, List.mem_cons, not_or] at hnd
 obtain ⟨⟨n1, n2⟩, n3, n4⟩ := hnd
 have hb3 := h.lt b3 (by simp)
 have hrr := h.lt r (by simp)
 have hrs : ∀ q ∈ rs, q < w.heap.size ∧ q ≠ b3 ∧ q ≠ r ∧ q ≠ vb := fun q hq => ⟨h.lt q (by simp [hq]), fun e => n2 (e ▸ hq), fun e => n3 (e ▸ hq), fun e => (hv q (by simp [hq])).ne e.symm⟩
 have hvb3 := (hv b3 (by simp)).ne
 have hvr := (hv r (by simp)).ne
 have e3 : b3 ≠ r2 := by rcases hor with rfl | rfl <;> omega
 have e4 : ∀ q ∈ rs, q ≠ r2 := fun q hq => by have := hrs q hq; rcases hor with rfl | rfl <;> omega
 have e5 : vb ≠ r2 := by rcases hor with rfl | rfl; exact hvr; omega
 have hnew3 := h.new b3 (by simp)
 have hnewr := h.new r (by simp)
 have z2 := hx.size
 have z3 := hx3.size
 refine ⟨h.hs, h.hG, (h.nm.chg hx (fun b hb e => by unfold Go.Proofs.YtfnpaglcnmcnbaaGreat.one at e; have := h.hG b hb; omega)).chg hx3 (fun b hb e => by unfold Go.Proofs.YtfnpaglcnmcnbaaGreat.one at e; have := h.hG b hb; omega),
  by simpa using hb, by simpa using ownF flat_rp ho hx3 (fun e => e3 e.symm), ?_, ?_, ?_, by simp [h.lx], by simp [h.lr], ?_⟩
 ·simp only [List.nodup_cons, List.mem_cons, List.mem_append, List.not_mem_nil, or_false, not_or, List.nodup_append, List.nodup_nil]
  exact ⟨⟨e3, n2, fun e => hvb3 e.symm⟩, ⟨fun hm => e4 _ hm rfl, fun e => e5 e.symm⟩, n4, by simp, fun a ha b hb => by subst hb; exact (hrs a ha).2.2.2⟩
 ·intro b hb
  simp only [List.mem_cons, List.mem_append, List.not_mem_nil, or_false] at hb
  rcases hb with rfl | rfl | hb | rfl
  ·exact hnew3
  ·rcases hor with rfl | rfl
   ·exact hnewr
   ·exact hs1
  ·exact h.new b (by simp [hb])
  ·exact hv1
 ·intro b hb
  simp only [List.mem_cons, List.mem_append, List.not_mem_nil, or_false] at hb
  rcases hb with rfl | rfl | hb | rfl
  ·omega
  ·have := ho.lt; omega
  ·have := (hrs b hb).1; omega
  ·omega
 ·intro i x y ri g1 g2 g3
  rw [List.getElem?_append] at g1 g2 g3
  have l1 := h.lx
  have l2 := h.lr
  by_cases hi : i < xs.length
  ·rw [if_pos hi] at g1
   rw [if_pos (by omega)] at g2
   rw [if_pos (by omega)] at g3
   obtain ⟨a1, a2, a3⟩ := h.el i x y ri g1 g2 g3
   have hq := hrs ri (List.mem_of_getElem? g3)
   exact ⟨a1, a2, (a3.chg hx (fun e => hq.2.2.1 e)).chg hx3 (fun e => hq.2.1 e)⟩
  ·rw [if_neg hi] at g1
   rw [if_neg (by omega)] at g2
   rw [if_neg (by omega)] at g3
   have h0 : i - xs.length = 0 := by
    rcases hk : i - xs.length with _ | k
    ·rfl
    ·rw [hk] at g1; simp at g1
   rw [h0] at g1
   rw [show i - ys.length = 0 by omega] at g2
   simp at g1 g2
   subst g1 g2
   exact ⟨rfl, rfl, .inl ⟨rfl, rfl, rfl, rfl⟩⟩
theorem IdsO.app {P : Program} {T ty : TypeId} {y : RP} {ri vb : Nat} {ids : List Int} {z : Int} (h : IdsO tI w y ri ids) (hT : appB P T tI 1 = true) (hB : Box w vb tI [.int .i64 z]) (hv : vb ≠ ri) (hl : y.n ≤ 1000) :
 ∃ r2 c2 w', (Builtin.append_ #[T, T] ty #[.slice y.a y.n y.c, .slice (some ⟨vb, 0, none⟩) 1 1]).run P w = .ok (.slice (some ⟨r2, 0, none⟩) (y.n + 1) c2) w' ∧
   Own w' r2 tI all (y.n + 1) c2 (ids ++ [z]) ∧ (r2 = ri ∨ r2 = w.heap.size) ∧ Chg (Go.Proofs.YtfnpaglcnmcnbaaGreat.one ri) w w' := by
 rcases h with ⟨a1, a2, a3, a4⟩ | ⟨a1, a2⟩
 ·obtain ⟨g1, inf, z0, hinf, hsz, hby, hz, hzs⟩ := appB_spec hT
  rw [a1, a2, a3, a4]
  have hBx := hB
  unfold Box at hBx
  have hnews : ∀ j v, [Value.int .i64 z][j]? = some v → w.cell? ((⟨vb, 0, none⟩ : Addr).add j) = some v := fun j v hj => by
   rw [add_lit]
   simp only [World.cell?, hBx]
   simpa using hj
  have hr := run_append_nil (P := P) (w := w) T ty tI inf z0 g1 hinf hz ⟨vb, 0, none⟩ 1 1 [.int .i64 z] (by rw [hsz]; rfl) hnews (by omega) (by omega) (by omega)
  generalize hg : grownCap w 1 0 tI = gc at hr
  have hge : 1 ≤ gc := by rw [← hg]; exact grownCap_ge _ _ _ _
  have hgm : gc ≤ maxLen := by rw [← hg]; exact grownCap_le_maxLen _ _ _ _ (by unfold maxLen; omega)
  generalize hob : (([Value.int .i64 z] : List Value).toArray ++ Builtin.zeroCells z0.cells (gc - 1)) = ob at hr
  have hnew : (w.drew.alloc (.cells ob tI)).heap[w.heap.size]? = some (.cells ob tI (0, 0)) := heap_alloc_new w.drew _
  have hoth : ∀ k, k < w.heap.size → (w.drew.alloc (.cells ob tI)).heap[k]? = w.heap[k]? := fun k hk => heap_alloc_old w.drew _ k hk
  refine ⟨w.heap.size, gc, w.drew.alloc (.cells ob tI), by simpa using hr, ⟨rfl, hge, hgm, ⟨ob, hnew, ?_⟩, fun i x hi => ⟨_, rfl, ?_⟩⟩, .inr rfl, ⟨rfl, rfl, rfl, by simp, fun k hk _ => hoth k hk⟩⟩
  ·rw [← hob]
   simp only [Array.size_append, List.size_toArray, List.length_cons, List.length_nil, size_zeroCells, hzs]
   show _ = gc * 1
   omega
  ·cases i with
   | succ i => simp at hi
   | zero =>
     simp at hi
     subst hi
     intro k u hu
     cases k with
     | succ k => simp at hu
     | zero =>
       simp at hu
       subst hu
       rw [add_lit]
       simp only [World.cell?, hnew]
       rw [← hob]
       rw [Array.getElem?_append_left (by simp)]
       rfl
 ·rw [a1]
  obtain ⟨r2, c2, w', h1, h2, h3, h4, _⟩ := a2.append1 (P := P) (T := T) (ty := ty) (y := z) hT hB rfl ⟨trivial, hv⟩ (by omega)
  exact ⟨r2, c2, w', h1, h2, h3, h4⟩
theorem IX.upd {i r2 c2 ri : Nat} {x : Pst} {y y' : RP} {z : Int} (h : IX tX tP tI s0 s1 G w b3 r c an nn cn nms ys xs rs) (hs1 : s1 ≤ w.heap.size) (hxi : xs[i]? = some x) (hyi : ys[i]? = some y) (hri : rs[i]? = some ri)
 (hx : Chg (Go.Proofs.YtfnpaglcnmcnbaaGreat.one ri) w w2) (ho2 : Own w2 r2 tI all (y.n + 1) c2 (x.ids ++ [z])) (hor : r2 = ri ∨ r2 = w.heap.size) (hx3 : Chg (Go.Proofs.YtfnpaglcnmcnbaaGreat.one r) w2 w3)
 (hy' : y' = ⟨y.key, y.val, some ⟨r2, 0, none⟩, y.n + 1, c2⟩) (ho : Own w3 r tP all ys.length c (ys.set i y')) :
 IX tX tP tI s0 s1 G w3 b3 r c an nn cn nms (ys.set i y') (xs.set i ⟨x.tag, x.ids ++ [z]⟩) (rs.set i r2) := by
 have hnd := h.nd
 simp only [List.nodup_cons, List.mem_cons, not_or] at hnd
 obtain ⟨⟨n1, n2⟩, n3, n4⟩ := hnd
 have hrm := List.mem_of_getElem? hri
 have hri2 : ri ≠ b3 ∧ ri ≠ r := ⟨fun e => n2 (e ▸ hrm), fun e => n3 (e ▸ hrm)⟩
 have hb3 := h.lt b3 (by simp)
 have hrr := h.lt r (by simp)
 have hril := h.lt ri (by simp [hrm])
 have e3 : r2 ≠ b3 ∧ r2 ≠ r := by rcases hor with rfl | rfl; exact hri2; omega
 have z2 := hx.size
 have z3 := hx3.size
 have n3i := h.new ri (by simp [hrm])
 have nr := h.new r (by simp)
 obtain ⟨hil, hie⟩ := List.getElem?_eq_some_iff.1 hri
 have hset : ∀ q, q ∈ rs.set i r2 → q = r2 ∨ (q ∈ rs ∧ q ≠ ri) := by
  intro q hq
  obtain ⟨k, hk, hkq⟩ := List.mem_iff_getElem.1 hq
  rw [List.getElem_set] at hkq
  split at hkq
  ·exact .inl hkq.symm
  ·rename_i hne
   right
   have hk2 : k < rs.length := by simpa using hk
   refine ⟨hkq ▸ List.getElem_mem _, fun e => hne ?_⟩
   have := (List.getElem_inj (h₀ := hil) (h₁ := hk2) n4).1 (by rw [hie, hkq, e])
   exact this
 refine ⟨h.hs, h.hG, (h.nm.chg hx (fun b hb e => by unfold Go.Proofs.YtfnpaglcnmcnbaaGreat.one at e; have := h.hG b hb; omega)).chg hx3 (fun b hb e => by unfold Go.Proofs.YtfnpaglcnmcnbaaGreat.one at e; have := h.hG b hb; omega),
  by rw [List.length_set]; exact (h.box.chg hx (fun e => hri2.1 e.symm)).chg hx3 (fun e => n1 e), by rw [List.length_set]; exact ho, ?_, ?_, ?_, by simp [h.lx], by simp [h.lr], ?_⟩
 ·simp only [List.nodup_cons, List.mem_cons, not_or]
  refine ⟨⟨n1, fun hm => ?_⟩, fun hm => ?_, ?_⟩
  ·rcases hset b3 hm with e | ⟨e, _⟩
   ·exact e3.1 e.symm
   ·exact n2 e
  ·rcases hset r hm with e | ⟨e, _⟩
   ·exact e3.2 e.symm
   ·exact n3 e
  ·rcases hor with rfl | hor
   ·rw [← hie, List.set_getElem_self]; exact n4
   ·rw [List.nodup_iff_pairwise_ne, List.pairwise_iff_getElem]
    intro p q hp hq hpq
    rw [List.getElem_set, List.getElem_set]
    have hp2 : p < rs.length := by simpa using hp
    have hq2 : q < rs.length := by simpa using hq
    have hnew : ∀ k (hk : k < rs.length), rs[k] ≠ r2 := fun k hk e => by have := h.lt rs[k] (by simp); omega
    split
    ·split
     ·omega
     ·exact fun e => hnew q hq2 e.symm
    ·split
     ·exact hnew p hp2
     ·intro e
      have := (List.getElem_inj (h₀ := hp2) (h₁ := hq2) n4).1 e
      omega
 ·intro b hb
  simp only [List.mem_cons] at hb
  rcases hb with rfl | rfl | hb
  ·exact h.new _ (by simp)
  ·exact nr
  ·rcases hset b hb with rfl | ⟨hb, _⟩
   ·rcases hor with rfl | rfl
    ·exact n3i
    ·exact hs1
   ·exact h.new b (by simp [hb])
 ·intro b hb
  simp only [List.mem_cons] at hb
  rcases hb with rfl | rfl | hb
  ·omega
  ·omega
  ·rcases hset b hb with rfl | ⟨hb, _⟩
   ·have := ho2.lt; omega
   ·have := h.lt b (by simp [hb]); omega
 ·intro j x1 y1 r1 g1 g2 g3
  rw [List.getElem?_set] at g1 g2 g3
  have l1 := h.lx
  have l2 := h.lr
  by_cases hj : i = j
  ·subst hj
   rw [if_pos rfl, if_pos (by omega)] at g1 g2 g3
   cases g1; cases g2; cases g3
   obtain ⟨a1, a2, _⟩ := h.el i x y ri hxi hyi hri
   subst hy'
   exact ⟨a1, a2, .inr ⟨rfl, ownF flat_int ho2 hx3 (fun e => e3.2 e)⟩⟩
  ·rw [if_neg hj] at g1 g2 g3
   obtain ⟨a1, a2, a3⟩ := h.el j x1 y1 r1 g1 g2 g3
   have hne : r1 ≠ ri := fun e => hj (by
    obtain ⟨hj1, hj2⟩ := List.getElem?_eq_some_iff.1 g3
    exact (List.getElem_inj (h₀ := hil) (h₁ := hj1) n4).1 (by rw [hie, hj2, e]))
   have hm1 := List.mem_of_getElem? g3
   exact ⟨a1, a2, (a3.chg hx (fun e => hne e)).chg hx3 (fun e => n3 (e ▸ hm1))⟩
end
end Go.Proofs.YtfnpaglcnmcnbaaGreat
