/- A row put into a row: slices of rows whose cells are told, copies, zeros. No conditions. -/
import Derived.Test.YtfnpaglcnmcnbaaGreatFluzW15
import Derived.Lib.Overlaps
import Derived.Lib.AppendZerosOnto
set_option linter.unusedVariables false
set_option linter.unusedSimpArgs false
namespace Go.Proofs.YtfnpaglcnmcnbaaGreat
def cellsR (xs : List Row) : List Value := xs.flatMap (fun x => [.int .i64 x.t, .int .i64 x.v])
theorem cellsR_len (xs : List Row) : (cellsR xs).length = xs.length * 2 := by
  induction xs with
  | nil => rfl
  | cons x xs ih => simp only [cellsR, List.flatMap_cons, List.length_append, List.length_cons, List.length_nil] at *; omega
theorem cellsR_app (xs ys : List Row) : cellsR (xs ++ ys) = cellsR xs ++ cellsR ys := by simp [cellsR]
theorem cellsR_one (xs : List Row) : ∀ v ∈ cellsR xs, oneC v = true := by
  intro v hv
  simp only [cellsR, List.mem_flatMap] at hv
  obtain ⟨x, _, hv⟩ := hv
  simp at hv
  rcases hv with rfl | rfl <;> rfl
theorem cellsR_take (xs : List Row) (i : Nat) : cellsR (xs.take i) = (cellsR xs).take (i * 2) := by
  induction xs generalizing i with
  | nil => simp [cellsR]
  | cons x xs ih =>
    cases i with
    | zero => simp [cellsR]
    | succ i =>
      rw [List.take_succ_cons, show (i + 1) * 2 = i * 2 + 1 + 1 by omega]
      have := ih i
      simp only [cellsR, List.flatMap_cons] at *
      rw [this]
      simp
theorem cellsR_drop (xs : List Row) (i : Nat) : cellsR (xs.drop i) = (cellsR xs).drop (i * 2) := by
  induction xs generalizing i with
  | nil => simp [cellsR]
  | cons x xs ih =>
    cases i with
    | zero => simp [cellsR]
    | succ i =>
      rw [List.drop_succ_cons, show (i + 1) * 2 = i * 2 + 1 + 1 by omega]
      have := ih i
      simp only [cellsR, List.flatMap_cons] at *
      rw [this]
      simp
theorem cellsR_at {xs : List Row} {i : Nat} {x : Row} (h : xs[i]? = some x) : (cellsR xs)[i * 2]? = some (.int .i64 x.t) ∧ (cellsR xs)[i * 2 + 1]? = some (.int .i64 x.v) := by
  have hd := drop_at h
  have h1 := cellsR_drop xs i
  rw [hd] at h1
  have h2 : (cellsR xs).drop (i * 2) = .int .i64 x.t :: .int .i64 x.v :: cellsR (xs.drop (i + 1)) := h1.symm
  constructor
  · have := congrArg (fun l => l[0]?) h2
    simpa [List.getElem?_drop] using this
  · have := congrArg (fun l => l[1]?) h2
    simpa [List.getElem?_drop] using this
section
variable {w : World} {r n c : Nat} {t : TypeId} {F : Nat → Prop} {xs : List Row}
theorem Own.box (h : Own w r t F n c xs) : ∃ cs, Box w r t cs ∧ cs.length = c * 2 ∧ cs.take (n * 2) = cellsR xs ∧ n ≤ c ∧ c ≤ maxLen := by
  obtain ⟨cur, h1, h2⟩ := h.row
  have hz : Rep.sz Row = 2 := rfl
  rw [hz] at h2
  refine ⟨cur.toList, by unfold Box; simpa using h1, by simpa using h2, ?_, h.le, h.cap⟩
  have hn := h.len
  have hnc := h.le
  apply List.ext_getElem?
  intro k
  rw [List.getElem?_take]
  by_cases hk : k < n * 2
  · rw [if_pos hk]
    have hi : k / 2 < xs.length := by omega
    obtain ⟨cs, g1, g2⟩ := h.elem (k / 2) xs[k / 2] (List.getElem?_eq_getElem hi)
    cases g1
    obtain ⟨e1, e2⟩ := cellsR_at (List.getElem?_eq_getElem hi)
    rcases Nat.mod_two_eq_zero_or_one k with h0 | h0
    · have hk2 : k = k / 2 * 2 := by omega
      have g3 := g2 0 _ rfl
      rw [hk2, e1]
      simp only [add_lit, World.cell?, h1, hz] at g3
      simpa using g3
    · have hk2 : k = k / 2 * 2 + 1 := by omega
      have g3 := g2 1 _ rfl
      rw [hk2, e2]
      simp only [add_lit, World.cell?, h1, hz] at g3
      simpa using g3
  · rw [if_neg hk, List.getElem?_eq_none (by rw [cellsR_len]; omega)]
theorem Own.ofBox {cs : List Value} (h : Box w r t cs) (hl : cs.length = c * 2) (hx : cs.take (xs.length * 2) = cellsR xs) (hn : xs.length ≤ c) (hc : c ≤ maxLen) : Own w r t F xs.length c xs := by
  refine ⟨rfl, hn, hc, ⟨cs.toArray, h, by rw [show Rep.sz Row = 2 from rfl]; simpa using hl⟩, fun i x hi => ⟨_, rfl, fun k u hu => ?_⟩⟩
  obtain ⟨e1, e2⟩ := cellsR_at hi
  have hil : i < xs.length := (List.getElem?_eq_some_iff.1 hi).1
  have hcs : ∀ j, j < xs.length * 2 → cs[j]? = (cellsR xs)[j]? := fun j hj => by rw [← hx, List.getElem?_take, if_pos hj]
  have hcell : ∀ j v, cs[j]? = some v → w.cell? ⟨r, j, none⟩ = some v := fun j v hv => by
    unfold Box at h
    simp only [World.cell?, h]
    simpa using hv
  rw [add_lit]
  match k, hu with
  | 0, hu => cases hu; exact hcell _ _ (by rw [hcs _ (by show i * 2 + 0 < _; omega)]; exact e1)
  | 1, hu => cases hu; exact hcell _ _ (by rw [hcs _ (by show i * 2 + 1 < _; omega)]; exact e2)
  | k + 2, hu => simp at hu
end
section
variable {P : Program} {n : Nat} {K : Env → World → Prop} {ops : Array Oper} {j : Nat} {e : Env} {w : World}
theorem RG.subA {t : TypeId} {sz : Nat} {a : Option Addr} {len cap : Nat} {lo hi : Option Value} (l h' : Nat) (h : sliAt n ops j e = some (t, .slice a len cap, lo, hi)) (ht : sliB P t sz = true) (hlo : bnd lo 0 l) (hhi : bnd hi len h') (hlh : l ≤ h') (hh : h' ≤ cap)
    (H : ∀ v, RG P n K ops (j + 1) (putE e (opAt ops j).dst v) w) : RG P n K ops j e w :=
  have h1 := run_sliAt h (run_sub ht hlo hhi hlh hh w)
  RG.val h1.1 h1.2 (H _)
theorem RG.subN {t : TypeId} {sz : Nat} {r o len cap : Nat} {lo hi : Option Value} (l h' : Nat) (h : sliAt n ops j e = some (t, .slice (some ⟨r, o, none⟩) len cap, lo, hi)) (ht : sliB P t sz = true) (hlo : bnd lo 0 l) (hhi : bnd hi len h') (hlh : l ≤ h') (hh : h' ≤ cap) (hne : cap ≠ l)
    (H : RG P n K ops (j + 1) (putE e (opAt ops j).dst (.slice (some ⟨r, o + l * sz, none⟩) (h' - l) (cap - l))) w) : RG P n K ops j e w := by
  have h1 := run_sliAt h (run_sub ht hlo hhi hlh hh w)
  rw [if_neg hne] at h1
  simp only [Option.map_some, add_lit] at h1
  exact RG.val h1.1 h1.2 H
def extAt (P : Program) (n : Nat) (ops : Array Oper) (j : Nat) (e : Env) : Option (FuncId × List Value) :=
  bif goAt n ops j e then
    match (opAt ops j).op with
    | .call c => match c.callee with
      | .value f => match ev e f with
        | .func (.func g) first cap => some (g, first.toList ++ (c.args.toList.map (ev e)) ++ cap.toList)
        | _ => none
      | _ => none
    | _ => none
  else none
theorem RG.ext {f : FuncId} {args : List Value} {v : Value} (h : extAt P n ops j e = some (f, args)) (hr : (callFunc f args.toArray).run P w = .ok (.value v) w)
    (H : RG P n K ops (j + 1) (putE e (opAt ops j).dst v) w) : RG P n K ops j e w := by
  obtain ⟨hg, h⟩ := goAt_of h
  refine RG.val hg ?_ H
  split at h
  · rename_i c hop
    split at h
    · rename_i fo hcal
      split at h
      · rename_i g first cap hf
        simp only [Option.some.injEq, Prod.mk.injEq] at h
        obtain ⟨rfl, rfl⟩ := h
        have hargs : (first.toList ++ (c.args.toList.map (ev e)) ++ cap.toList).toArray = (first ++ c.args.map (ev e)) ++ cap := by
          apply Array.toList_inj.1; simp
        rw [hargs] at hr
        simp only [execOp, hop, resolve, hcal, hf, Deferred.ofValue]
        simp only [invoke]
        exact hr
      · cases h
    · cases h
  · cases h
end
theorem ovl_false {P : Program} {f : FuncId} {fn : Func} {tS tR t : TypeId} {w : World} {vb r o la ca lb cb : Nat} {cs cs2 : List Value} (hf : P.funcs[f]? = some fn) (h1 : (fn.name == "runtime.NumGoroutine") = false) (h2 : fn.body.isNone = true) (h3 : Extern.findNext fn = none)
    (h4 : Extern.find fn = some (Extern.SlicesOverlaps.overlaps #[tS, tS] #[tR])) {sz : Nat} (ht : appB P tS t sz = true) (hB : Box w vb t cs) (hR : Box w r t cs2) (hne : vb ≠ r) (hk : cs2.length ≠ 0) :
    (callFunc f #[.slice (some ⟨vb, 0, none⟩) la ca, .slice (some ⟨r, o, none⟩) lb cb]).run P w = .ok (.value (.bool false)) w := by
  obtain ⟨g1, i, z, hi, hsz, _, _, _⟩ := appB_spec ht
  have hz : ∀ w, (Go.sizeOf t).run P w = .ok i.size w := fun w => by simp [sizeOf, typeInfo, hi, go_sem]
  unfold Box at hB hR
  rw [run_callFunc_extern hf h1 h2 h3 h4, Lib.run_overlaps_apart w tS tR t g1 i.size hz ⟨vb, 0, none⟩ ⟨r, o, none⟩ la ca lb cb hne t t cs.length cs2.length (by simp [World.shape?, hB]) (by simp [World.shape?, hR]) hk (by simp [World.frozen?, hB]) (by simp [World.frozen?, hB])]
  rfl
theorem run_copyB {P : Program} {T T2 ty t : TypeId} {sz : Nat} {w : World} {b o dl dc sl sc k : Nat} {a2 : Addr} {cs vs : List Value} (hT : appB P T t sz = true) (hB : Box w b t cs) (hsrc : Has w a2 vs) (hvs : vs.length = k * sz) (hk : Nat.min sl dl = k) (ho : o + k * sz ≤ cs.length) (hone : ∀ v ∈ vs, oneC v = true) :
    ∃ w', (Builtin.copy_ #[T, T2] ty #[.slice (some ⟨b, o, none⟩) dl dc, .slice (some a2) sl sc]).run P w = .ok (goInt k) w' ∧ Box w' b t (splice cs o vs) ∧ Chg (one b) w w' ∧ w'.heap.size = w.heap.size := by
  obtain ⟨g1, i, z, hi, hsz, _, _, _⟩ := appB_spec hT
  obtain ⟨w', h1, h2, h3, h4⟩ := hB.storeL (P := P) vs (o := o) (i := 0) (by omega) hone
  have h5 := run_loadCellsFrom (P := P) a2 vs 0 #[] vs rfl hsrc
  have h6 : (loadCells a2 (k * i.size)).run P w = .ok vs.toArray w := by
    rw [hsz, ← hvs]
    unfold loadCells
    rw [h5]
    simp
  have hz : (sizeOf t).run P w = .ok i.size w := by simp [sizeOf, typeInfo, hi, go_sem]
  refine ⟨w', ?_, h2, h3, h4⟩
  unfold Builtin.copy_
  simp only [List.getElem?_toArray, List.getElem?_cons_zero, List.getElem?_cons_succ]
  rw [run_bind_ok (run_underlying g1 w)]
  simp only [Builtin.lenOf]
  rw [run_bind_ok (show (pure sl : Sem Nat).run P w = .ok sl w from rfl), run_bind_ok hz, hk]
  simp only [Builtin.firstCells]
  rw [run_bind_ok h6]
  simp only []
  rw [run_bind_ok h1]
  rfl
theorem appendZ {P : Program} {T tn ty t : TypeId} {kn : IntKind} {w : World} {r n c i : Nat} {cs : List Value} (hT : appB P T t 2 = true) (htn : P.underlying tn = some (.int kn)) (hB : Box w r t cs) (hl : cs.length = c * 2) (hi : i < n) (hn : n ≤ c) (hc : c < n + 1) (hs : n ≤ 1000000000) :
    ∃ gc ob w', (Builtin.append_ #[T, tn] ty #[.slice (some ⟨r, 0, none⟩) i c, .int .i64 ((n : Int) + 1 - i)]).run P w = .ok (.slice (some ⟨w.heap.size, 0, none⟩) (n + 1) gc) w' ∧
      Box w' w.heap.size t ob ∧ ob.length = gc * 2 ∧ n + 1 ≤ gc ∧ gc ≤ maxLen ∧ ob.take (i * 2) = cs.take (i * 2) ∧ Ext w w' ∧ w'.heap.size = w.heap.size + 1 := by
  obtain ⟨g1, inf, z, hinf, hsz, hby, hz, hzs⟩ := appB_spec hT
  have hBx := hB
  unfold Box at hBx
  have hole : (cs.take (i * 2)).length = i * inf.size := by rw [List.length_take, hsz]; omega
  have hold : (Builtin.firstCells inf.size i (.slice (some ⟨r, 0, none⟩) i c)).run P w.drew = .ok (cs.take (i * 2)).toArray w.drew := by
    have hh : Has w.drew ⟨r, 0, none⟩ (cs.take (i * 2)) := by
      intro k u hu
      rw [List.getElem?_take] at hu
      split at hu
      · rw [add_lit]
        show World.cell? w.drew _ = _
        have : w.drew.heap = w.heap := rfl
        simp only [World.cell?, this, hBx]
        simpa using hu
      · cases hu
    have h1 := run_loadCellsFrom (P := P) ⟨r, 0, none⟩ (cs.take (i * 2)) 0 #[] _ rfl hh
    simp only [Builtin.firstCells, loadCells]
    rw [List.drop_zero] at h1
    rw [← hole, h1]
    simp
  have hr := Lib.run_append_grow_zeros (P := P) w T tn ty t inf z .i64 kn g1 htn hinf hz (some ⟨r, 0, none⟩) i c (cs.take (i * 2)) hold (n + 1 - i) (by omega) (by omega) (by omega) (by omega) (Nat.le_trans (Nat.mul_le_mul (show n + 1 - i ≤ 1000000001 by omega) hby) (by omega))
    (growslice_fits (by omega) (Nat.le_trans (Nat.mul_le_mul (show i + (n + 1 - i) ≤ 1000000001 by omega) hby) (by omega)))
  rw [show i + (n + 1 - i) = n + 1 by omega] at hr
  generalize hg : grownCap w (n + 1) c t = gc at hr
  have hge : n + 1 ≤ gc := by rw [← hg]; exact grownCap_ge _ _ _ _
  have hgm : gc ≤ maxLen := by rw [← hg]; exact grownCap_le_maxLen _ _ _ _ (by unfold maxLen; omega)
  generalize hob : ((cs.take (i * 2)).toArray ++ Builtin.zeroCells z.cells (n + 1 - i) ++ Builtin.zeroCells z.cells (gc - (n + 1))) = ob at hr
  have hnew : (w.drew.alloc (.cells ob t)).heap[w.heap.size]? = some (.cells ob t (0, 0)) := heap_alloc_new w.drew _
  have hoth : ∀ k, k < w.heap.size → (w.drew.alloc (.cells ob t)).heap[k]? = w.heap[k]? := fun k hk => heap_alloc_old w.drew _ k hk
  have hoz : ob.size = gc * 2 := by
    rw [← hob]
    simp only [Array.size_append, List.size_toArray, hole, hsz, size_zeroCells, hzs, ← Nat.add_mul]
    congr 1
    omega
  refine ⟨gc, ob.toList, w.drew.alloc (.cells ob t), ?_, by unfold Box; simpa using hnew, by simpa using hoz, hge, hgm, ?_, ⟨rfl, rfl, rfl, by simp, fun k hk _ => hoth k hk⟩, by simp⟩
  · have he : ((n + 1 - i : Nat) : Int) = (n : Int) + 1 - i := by omega
    rw [he] at hr
    exact hr
  · rw [← hob]
    simp only [Array.toList_append, List.append_assoc]
    rw [List.take_append_of_le_length (by rw [hole, hsz]; omega)]
    rw [List.take_of_length_le (by rw [hole, hsz]; omega)]
theorem appendZB {P : Program} {T tn ty t : TypeId} {kn : IntKind} {w : World} {r n c i : Nat} {cs : List Value} (hT : appB P T t 2 = true) (htn : P.underlying tn = some (.int kn)) (hB : Box w r t cs) (hl : cs.length = c * 2) (hi : i < n) (hn : n ≤ c) (hc : c < n + 1) (hs : n ≤ 1000000000) :
    ∃ b, b = w.heap.size ∧ ∃ gc ob w', (Builtin.append_ #[T, tn] ty #[.slice (some ⟨r, 0, none⟩) i c, .int .i64 ((n : Int) + 1 - i)]).run P w = .ok (.slice (some ⟨b, 0, none⟩) (n + 1) gc) w' ∧
      Box w' b t ob ∧ ob.length = gc * 2 ∧ n + 1 ≤ gc ∧ gc ≤ maxLen ∧ ob.take (i * 2) = cs.take (i * 2) ∧ Ext w w' ∧ w'.heap.size = w.heap.size + 1 :=
  ⟨_, rfl, appendZ hT htn hB hl hi hn hc hs⟩
theorem spl_take {cs vs : List Value} {o : Nat} (h : o + vs.length ≤ cs.length) : (splice cs o vs).take o = cs.take o := by
  unfold splice
  rw [List.append_assoc, List.take_append_of_le_length (by rw [List.length_take]; omega), List.take_take, Nat.min_self]
theorem spl_take2 {cs vs : List Value} {o : Nat} (h : o + vs.length ≤ cs.length) : (splice cs o vs).take (o + vs.length) = cs.take o ++ vs := by
  unfold splice
  have : (cs.take o ++ vs).length = o + vs.length := by rw [List.length_append, List.length_take]; omega
  rw [← this, List.take_left]
theorem spl_len {cs vs : List Value} {o : Nat} (h : o + vs.length ≤ cs.length) : (splice cs o vs).length = cs.length := by
  unfold splice
  simp only [List.length_append, List.length_take, List.length_drop]
  omega
def rowC (y : Row) : List Value := [.int .i64 y.t, .int .i64 y.v]
theorem rowC_len (y : Row) : (rowC y).length = 2 := rfl
section
variable {cs ob : List Value} {xs : List Row} {y : Row} {n c gc i : Nat}
theorem midR (hx : cs.take (n * 2) = cellsR xs) (hn : n = xs.length) : (cs.drop (i * 2)).take ((n - i) * 2) = cellsR (xs.drop i) := by
  rw [cellsR_drop, ← hx, List.drop_take]
  congr 1
  omega
theorem headR (hx : cs.take (n * 2) = cellsR xs) (hi : i ≤ n) : cs.take (i * 2) = cellsR (xs.take i) := by
  rw [cellsR_take, ← hx, List.take_take, Nat.min_eq_left (by omega)]
theorem newR (a b : List Value) (ha : a = cellsR (xs.take i)) : (a ++ rowC y ++ cellsR (xs.drop i) ++ b).take ((xs.take i ++ y :: xs.drop i).length * 2) = cellsR (xs.take i ++ y :: xs.drop i) := by
  have h1 : a ++ rowC y ++ cellsR (xs.drop i) = cellsR (xs.take i ++ y :: xs.drop i) := by
    rw [cellsR_app, ha, List.append_assoc]
    congr 1
  rw [h1, ← cellsR_len, List.take_left]
theorem insC (hl : cs.length = c * 2) (hx : cs.take (n * 2) = cellsR xs) (hn : n = xs.length) (hi : i < n) (hc : n + 1 ≤ c) :
    (splice (splice cs ((i + 1) * 2) ((cs.drop (i * 2)).take ((n - i) * 2))) (i * 2) (rowC y)).take ((xs.take i ++ y :: xs.drop i).length * 2) = cellsR (xs.take i ++ y :: xs.drop i) ∧
      (splice (splice cs ((i + 1) * 2) ((cs.drop (i * 2)).take ((n - i) * 2))) (i * 2) (rowC y)).length = c * 2 := by
  rw [midR hx hn]
  have hm : (cellsR (xs.drop i)).length = (n - i) * 2 := by rw [cellsR_len, List.length_drop]; omega
  have h1 : (i + 1) * 2 + (cellsR (xs.drop i)).length ≤ cs.length := by rw [hm]; omega
  have h2 := spl_len h1
  have h3 : i * 2 + (rowC y).length ≤ (splice cs ((i + 1) * 2) (cellsR (xs.drop i))).length := by rw [h2, rowC_len]; omega
  refine ⟨?_, by rw [spl_len h3, h2, hl]⟩
  have e1 : (splice cs ((i + 1) * 2) (cellsR (xs.drop i))).take (i * 2) = cs.take (i * 2) := by
    have := congrArg (fun l => l.take (i * 2)) (spl_take h1)
    simpa [List.take_take, Nat.min_eq_left (show i * 2 ≤ (i + 1) * 2 by omega)] using this
  have e2 : (splice cs ((i + 1) * 2) (cellsR (xs.drop i))).drop (i * 2 + (rowC y).length) = cellsR (xs.drop i) ++ cs.drop ((i + 1) * 2 + (cellsR (xs.drop i)).length) := by
    rw [rowC_len, show i * 2 + 2 = (i + 1) * 2 by omega]
    unfold splice
    have : (cs.take ((i + 1) * 2)).length = (i + 1) * 2 := by rw [List.length_take]; omega
    rw [List.append_assoc]
    have h5 : (cs.take ((i + 1) * 2) ++ (cellsR (xs.drop i) ++ cs.drop ((i + 1) * 2 + (cellsR (xs.drop i)).length))).drop (cs.take ((i + 1) * 2)).length = cellsR (xs.drop i) ++ cs.drop ((i + 1) * 2 + (cellsR (xs.drop i)).length) := List.drop_left
    rw [this] at h5
    exact h5
  unfold splice at e1 e2 ⊢
  rw [e1, e2, ← List.append_assoc]
  exact newR _ _ (headR hx (by omega))
theorem insB (hl : ob.length = gc * 2) (ho : ob.take (i * 2) = cs.take (i * 2)) (hx : cs.take (n * 2) = cellsR xs) (hn : n = xs.length) (hi : i < n) (hc : n + 1 ≤ gc) :
    (splice (splice ob (i * 2) (rowC y)) ((i + 1) * 2) ((cs.drop (i * 2)).take ((n - i) * 2))).take ((xs.take i ++ y :: xs.drop i).length * 2) = cellsR (xs.take i ++ y :: xs.drop i) ∧
      (splice (splice ob (i * 2) (rowC y)) ((i + 1) * 2) ((cs.drop (i * 2)).take ((n - i) * 2))).length = gc * 2 := by
  rw [midR hx hn]
  have hm : (cellsR (xs.drop i)).length = (n - i) * 2 := by rw [cellsR_len, List.length_drop]; omega
  have h1 : i * 2 + (rowC y).length ≤ ob.length := by rw [rowC_len]; omega
  have h2 := spl_len h1
  have h3 : (i + 1) * 2 + (cellsR (xs.drop i)).length ≤ (splice ob (i * 2) (rowC y)).length := by rw [h2, hm]; omega
  refine ⟨?_, by rw [spl_len h3, h2, hl]⟩
  have e1 : (splice ob (i * 2) (rowC y)).take ((i + 1) * 2) = ob.take (i * 2) ++ rowC y := by
    rw [show (i + 1) * 2 = i * 2 + (rowC y).length by rw [rowC_len]; omega]
    exact spl_take2 h1
  unfold splice at e1 ⊢
  rw [e1]
  exact newR _ _ (by rw [ho]; exact headR hx (by omega))
end
theorem GA.subN {P : Program} {S : Nat → Prop} {n m : Nat} {L : Env → World → Prop} {ops : Array Oper} {l : List Nat} {e : Env} {w : World} {i : Nat} {t : TypeId} {sz r o len cap : Nat} {lo hi : Option Value} (l' h' : Nat) (hb : gB n m ops l i = true) (h : sliAt n ops i e = some (t, .slice (some ⟨r, o, none⟩) len cap, lo, hi)) (ht : sliB P t sz = true) (hlo : bnd lo 0 l') (hhi : bnd hi len h') (hlh : l' ≤ h') (hh : h' ≤ cap) (hne : cap ≠ l')
    (H : GA P S n m L ops (i :: l) (putE e (opAt ops i).dst (.slice (some ⟨r, o + l' * sz, none⟩) (h' - l') (cap - l'))) w) : GA P S n m L ops l e w := by
  refine GA.det' hb (fun w => ?_) H
  have h1 := run_sliAt h (run_sub ht hlo hhi hlh hh w)
  rw [if_neg hne] at h1
  simp only [Option.map_some, add_lit] at h1
  exact h1
theorem has_take {cs : List Value} {a k : Nat} (h : ((cs.drop a).take k).length ≤ k) : (cs.drop a).take ((cs.drop a).take k).length = (cs.drop a).take k := by
  rw [List.length_take]
  by_cases hk : k ≤ (cs.drop a).length
  · rw [Nat.min_eq_left hk]
  · rw [Nat.min_eq_right (by omega), List.take_of_length_le (Nat.le_refl _), List.take_of_length_le (by omega)]
theorem nat_min {a b k : Nat} (h : b ≤ a ∧ b = k ∨ a ≤ b ∧ a = k) : Nat.min a b = k := by
  show min a b = k
  omega
theorem ins_end {w : World} {r t n c i : Nat} {F : Nat → Prop} {xs : List Row} {y : Row} (h : Own w r t F (n + 1) c (xs ++ [y])) (hi : xs.length ≤ i) : Own w r t F (n + 1) c (xs.take i ++ y :: xs.drop i) := by
  rw [List.take_of_length_le hi, List.drop_of_length_le hi]
  exact h
end Go.Proofs.YtfnpaglcnmcnbaaGreat
