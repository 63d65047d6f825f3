/- Memory in two parts: the blocks M that the call still changes, and all the rest, which stands. No conditions. -/
import Derived.Test.YtganlmloonielaaGreatFlszEng
import Derived.MapKept
import Derived.Test.YtganlmloonielaaGreatProg
set_option linter.unusedVariables false
set_option linter.unusedSimpArgs false
namespace Go.Proofs.YtganlmloonielaaGreat
def nin (G : Nat → Prop) (M : List Nat) (b : Nat) : Prop := G b ∧ b ∉ M
def fo (F : Nat → Prop) (s : Nat) (b : Nat) : Prop := F b ∨ s ≤ b
def ins (L : List Nat) (b : Nat) : Prop := b ∈ L
def Mv (M M' : List Nat) (w w' : World) : Prop := ∀ b, b < w.heap.size → b ∉ M → b ∉ M' ∧ w'.heap[b]? = w.heap[b]?
theorem Mv.mk {S : Nat → Prop} {M M' : List Nat} {w w' : World} (hx : Chg S w w') (h : ∀ b, b < w.heap.size → b ∉ M → b ∉ M' ∧ ¬ S b) : Mv M M' w w' :=
 fun b hb hm => ⟨(h b hb hm).1, hx.block b hb (h b hb hm).2⟩
section
variable {α : Type} [Rep α] {w w' : World} {G G' : Nat → Prop} {M M' : List Nat} {a : Option Addr} {n c r b : Nat} {t : TypeId} {xs : List α} {cs : List Value}
theorem RepS.mv (h : RepS w (nin G M) a n c xs) (hm : Mv M M' w w') : RepS w' (nin G M') a n c xs :=
 h.frame fun b hb hF => ⟨⟨hF.1, (hm b hb hF.2).1⟩, (hm b hb hF.2).2⟩
theorem RepS.base (h : RepS w (nin G M) a n c xs) (hg : ∀ b, b < w.heap.size → G b → G' b) : RepS w (nin G' M) a n c xs :=
 h.weak fun b hb hF => ⟨hg b hb hF.1, hF.2⟩
theorem Box.mv {S : Nat → Prop} (h : Box w b t cs) (hx : Chg S w w') (hb : ¬ S b) : Box w' b t cs := h.chg hx hb
theorem Own.mv {S : Nat → Prop} (h : Own w r t (nin G M) n c xs) (hm : Mv M M' w w') (hx : Chg S w w') (hr : ¬ S r) : Own w' r t (nin G M') n c xs := by
 refine ⟨h.len, h.le, h.cap, ?_, fun i x hi => ?_⟩
 ·obtain ⟨cur, h1, h2⟩ := h.row
  exact ⟨cur, (hx.block r h.lt hr).trans h1, h2⟩
 ·obtain ⟨cs, h1, h2⟩ := h.elem i x hi
  exact ⟨cs, Rep.frame h1 (fun b hb hF => ⟨⟨⟨hF.1.1, (hm b hb hF.1.2).1⟩, hF.2⟩, (hm b hb hF.1.2).2⟩), h2.chg hx hr⟩
theorem Own.base (h : Own w r t (nin G M) n c xs) (hg : ∀ b, b < w.heap.size → G b → G' b) : Own w r t (nin G' M) n c xs :=
 h.weak fun b hb hF => ⟨hg b hb hF.1, hF.2⟩
theorem Own.nil' (h : Box w r t []) : Own w r t (nin G M) 0 0 ([] : List α) := Own.nil h _
end
theorem RepS.top {α : Type} [Rep α] {w : World} {F : Nat → Prop} {a : Option Addr} {n c s : Nat} {xs : List α} (h : RepS w F a n c xs) : RepS w (nin (fo F s) []) a n c xs :=
 h.weak fun _ _ hF => ⟨.inl hF, by simp⟩
theorem RepS.fresh {α : Type} [Rep α] {w : World} {G : Nat → Prop} {M : List Nat} {a : Option Addr} {n c s : Nat} {xs : List α} (h : RepS w (ge s) a n c xs) (hM : ∀ b, b ∈ M → b < s) (hG : ∀ b, s ≤ b → G b) : RepS w (nin G M) a n c xs :=
 h.weak fun b _ hF => ⟨hG b hF, fun hm => by have := hM b hm; unfold ge at hF; omega⟩
def mtb (L : List Nat) (s : Nat) (b : Nat) : Prop := b ∈ L ∨ s ≤ b
theorem RepS.blt {α : Type} [Rep α] {w : World} {F : Nat → Prop} {a : Option Addr} {n c : Nat} {xs : List α} (h : RepS w F a n c xs) (hn : 0 < n) : blk a < w.heap.size := by
 have hx : 0 < xs.length := by have := h.len; omega
 obtain ⟨cs, hr, hc⟩ := h.elem 0 xs[0] (by simp [hx])
 have hl := Rep.len hr
 have hp := Rep.pos (α := α)
 have h0 := hc 0 cs[0] (by simp)
 rw [add_lit] at h0
 exact World.block_lt_of_cell? w _ h0
theorem RepS.mixed {α : Type} [Rep α] {w : World} {F : Nat → Prop} {M M' : List Nat} {a : Option Addr} {n c s s' : Nat} {xs : List α} (h : RepS w (fo (nin (fo F s') M') s) a n c xs) (hM : ∀ b, b ∈ M → b < s ∧ b ∈ M') (hs : s' ≤ s) : RepS w (nin (fo F s') M) a n c xs :=
 h.weak fun b _ hF => by
  rcases hF with hF | hF
  ·exact ⟨hF.1, fun hm => hF.2 (hM b hm).2⟩
  ·exact ⟨.inr (by omega), fun hm => by have := (hM b hm).1; omega⟩
section
variable {α : Type} [Rep α] {w w' : World} {G G' : Nat → Prop} {M M' : List Nat} {a : Option Addr} {n c r b : Nat} {t : TypeId} {xs : List α} {cs : List Value}
theorem Own.renin (h : Own w r t (nin G M) n c xs) (hm : ∀ b, b < w.heap.size → b ∉ M → b ≠ r → b ∉ M') : Own w r t (nin G M') n c xs :=
 ⟨h.len, h.le, h.cap, h.row, fun i x hi => by
  obtain ⟨cs, h1, h2⟩ := h.elem i x hi
  exact ⟨cs, Rep.frame h1 (fun b hb hF => ⟨⟨⟨hF.1.1, hm b hb hF.1.2 hF.2⟩, hF.2⟩, rfl⟩), h2⟩⟩
theorem VS.of {F : Nat → Prop} {x y : α} {v : Value} (h : VS F w y v) (e : y = x) : VS F w x v := e ▸ h
end
def VO {α : Type} [Rep α] (t : TypeId) (s : Nat) (w : World) (xs : List α) (v : Value) : Prop := ∃ r n c, v = .slice (some ⟨r, 0, none⟩) n c ∧ Own w r t (nin (ge s) []) n c xs ∧ s ≤ r
theorem VO.of {α : Type} [Rep α] {t : TypeId} {s r n c : Nat} {w : World} {M : List Nat} {xs ys : List α} (h : Own w r t (nin (ge s) M) n c xs) (e : xs = ys) (hr : s ≤ r) : VO t s w ys (.slice (some ⟨r, 0, none⟩) n c) :=
 ⟨r, n, c, rfl, e ▸ h.renin (fun _ _ _ _ => by simp), hr⟩
theorem Own.take {α : Type} [Rep α] {t : TypeId} {s s0 r n c : Nat} {w : World} {M : List Nat} {xs : List α} (h : Own w r t (nin (ge s) []) n c xs) (hM : ∀ b, b ∈ M → b < s) (hs : s0 ≤ s) : Own w r t (nin (ge s0) (r :: M)) n c xs :=
 ⟨h.len, h.le, h.cap, h.row, fun i x hi => by
  obtain ⟨cs, h1, h2⟩ := h.elem i x hi
  refine ⟨cs, Rep.frame h1 (fun b hb hF => ⟨⟨⟨Nat.le_trans hs hF.1.1, fun hm => ?_⟩, hF.2⟩, rfl⟩), h2⟩
  rcases List.mem_cons.1 hm with rfl | hm
  ·exact hF.2 rfl
  ·have h3 := hM b hm
   have h4 : s ≤ b := hF.1.1
   omega⟩
def Flat (α : Type) [Rep α] : Prop := ∀ (w w' : World) (F F' : Nat → Prop) (x : α) (cs : List Value), Rep.rep w F x cs → Rep.rep w' F' x cs
theorem flat_int : Flat Int := fun _ _ _ _ _ _ h => h
theorem flat_row : Flat Row := fun _ _ _ _ _ _ h => h
theorem flat_tag : Flat Tag := fun _ _ _ _ _ _ h => h
theorem flat_smp : Flat Smp := fun _ _ _ _ _ _ h => h
section
variable {α : Type} [Rep α] {w w' : World} {F F' : Nat → Prop} {a : Option Addr} {n c r m c' : Nat} {t : TypeId} {xs ys : List α}
theorem Own.flat (hf : Flat α) (h : Own w r t F n c xs) : Own w r t F' n c xs :=
 ⟨h.len, h.le, h.cap, h.row, fun i x hi => by
  obtain ⟨cs, h1, h2⟩ := h.elem i x hi
  exact ⟨cs, hf _ _ _ _ _ _ h1, h2⟩⟩
theorem Own.repF (hf : Flat α) (h : Own w r t F n c xs) : RepS w (one r) (some ⟨r, 0, none⟩) n c xs :=
 (h.flat (F' := fun _ => False) hf).rep' (fun _ _ h => h.elim) rfl
theorem Own.appendF {P : Program} {T ty : TypeId} {F2 : Nat → Prop} (hf : Flat α) (ho : Own w r t F n c xs) (hT : appB P T t (Rep.sz α) = true)
 (hn : RepS w F2 a m c' ys) (h2 : ∀ b, F2 b → b ≠ r) (hs : n + m ≤ 100000000000) :
 ∃ r' c2 w', (Builtin.append_ #[T, T] ty #[.slice (some ⟨r, 0, none⟩) n c, .slice a m c']).run P w = .ok (.slice (some ⟨r', 0, none⟩) (n + m) c2) w' ∧
   Own w' r' t F (n + m) c2 (xs ++ ys) ∧ (r' = r ∨ r' = w.heap.size) ∧ Chg (one r) w w' ∧ w'.heap.size ≤ w.heap.size + 1 := by
 obtain ⟨r', c2, w', h1, h3, h4, h5, h6⟩ := (ho.weak (F' := all) (fun _ _ _ => trivial)).append (P := P) (T := T) (ty := ty) hT hn (fun b _ hb => ⟨trivial, h2 b hb⟩) hs
 exact ⟨r', c2, w', h1, h3.flat hf, h4, h5, h6⟩
theorem RG.appendF {P : Program} {nn : Nat} {K : Env → World → Prop} {ops : Array Oper} {j : Nat} {e : Env} {T ty : TypeId} {F2 : Nat → Prop} (hf : Flat α) (ho : Own w r t F n c xs) (hn : RepS w F2 a m c' ys)
 (h : bltAt nn ops j e = some (.append, [T, T], ty, [.slice (some ⟨r, 0, none⟩) n c, .slice a m c'])) (hT : appB P T t (Rep.sz α) = true)
 (h2 : ∀ b, F2 b → b ≠ r) (hs : n + m ≤ 100000000000)
 (H : ∀ r' c2 w', Own w' r' t F (n + m) c2 (xs ++ ys) → (r' = r ∨ r' = w.heap.size) → Chg (one r) w w' → RG P nn K ops (j + 1) (putE e (opAt ops j).dst (.slice (some ⟨r', 0, none⟩) (n + m) c2)) w') : RG P nn K ops j e w := by
 obtain ⟨r', c2, w', hrun, ho', hor, hx, _⟩ := ho.appendF (P := P) (T := T) (ty := ty) hf hT hn h2 hs
 exact RG.append h hrun (H r' c2 w' ho' hor hx)
end
theorem drop_at {α : Type} {xs : List α} {k : Nat} {x : α} (h : xs[k]? = some x) : xs.drop k = x :: xs.drop (k + 1) := by
 obtain ⟨h1, h2⟩ := List.getElem?_eq_some_iff.1 h
 rw [List.drop_eq_getElem_cons h1, h2]
theorem drop_end {α : Type} {xs : List α} {k : Nat} (h : xs.length ≤ k) : xs.drop k = [] := List.drop_of_length_le h
theorem run_new {P : Program} {n : Nat} {ops : Array Oper} {j : Nat} {e : Env} {w : World} {v : Value} {t : TypeId} {cs : List Value} (h : newBoxAt P n ops j e w.heap.size = some (v, t, cs)) :
 goAt n ops j e = true ∧ (execOp (ev e) (opAt ops j)).run P w = .ok (.value v) (w.alloc (.cells cs.toArray t)) := by
 unfold newBoxAt at h
 split at h
 ·rename_i v' cs' t' hn
  simp only [Option.some.injEq, Prod.mk.injEq] at h
  obtain ⟨rfl, rfl, rfl⟩ := h
  obtain ⟨hg, h⟩ := goAt_of hn
  refine ⟨hg, ?_⟩
  split at h
  ·rename_i v2 o' hs
   simp only [Option.some.injEq, Prod.mk.injEq] at h
   obtain ⟨rfl, rfl⟩ := h
   rw [srS_run _ hs]
   have hp : w.heap ++ [Obj.cells cs' t' (0, 0)].toArray = w.heap.push (Obj.cells cs'.toList.toArray t' (0, 0)) := by simp
   rw [hp]
   rfl
  ·cases h
 ·cases h
theorem run_blt {P : Program} {n : Nat} {ops : Array Oper} {j : Nat} {e : Env} {w w' : World} {ats : List TypeId} {ty : TypeId} {args : List Value} {v : Value} (h : bltAt n ops j e = some (.append, ats, ty, args))
 (hr : (Builtin.append_ ats.toArray ty args.toArray).run P w = .ok v w') : (execOp (ev e) (opAt ops j)).run P w = .ok (.value v) w' := by
 obtain ⟨hg, h⟩ := goAt_of h
 split at h
 ·rename_i c hop
  split at h
  ·rename_i b hcal
   simp only [Option.some.injEq, Prod.mk.injEq] at h
   obtain ⟨rfl, rfl, rfl, rfl⟩ := h
   have ha : (c.args.toList.map (ev e)).toArray = c.args.map (ev e) := by apply Array.toList_inj.1; simp
   rw [ha, Array.toArray_toList] at hr
   simp only [execOp, hop, resolve, hcal]
   exact run_bind_ok hr
  ·cases h
 ·cases h
section
variable {P : Program} {S : Nat → Prop} {n m : Nat} {L : Env → World → Prop} {ops : Array Oper} {l : List Nat} {e : Env} {w : World}
def GE (P : Program) (S : Nat → Prop) (n m : Nat) (L : Env → World → Prop) (ops : Array Oper) (l : List Nat) (i : Nat) (e : Env) (w : World) : Prop :=
 ∀ w1, Ext w w1 → emitV P S ((execOp (ev e) (opAt ops i)).run P w1) w1 (fun v w2 => GA P S n m L ops (i :: l) (putE e (opAt ops i).dst v) w2)
theorem GE.one {i : Nat} (h : oneB n m ops l i e = true) (H : GE P S n m L ops l i e w) : GA P S n m L ops l e w := GA.one h H
def twoB (n m : Nat) (ops : Array Oper) (l : List Nat) (i j : Nat) (e : Env) : Bool :=
 stepB n m ops l i && goAt n ops i e && stepB n m ops l j && goAt n ops j e && (match readyL ops l with | [a, b] => Nat.beq a i && Nat.beq b j | _ => false)
theorem GE.two {i j : Nat} (h : twoB n m ops l i j e = true) (Hi : GE P S n m L ops l i e w) (Hj : GE P S n m L ops l j e w) : GA P S n m L ops l e w := by
 intro hB f a hf ha inv
 simp only [twoB, Bool.and_eq_true] at h
 obtain ⟨⟨⟨⟨h1, h2⟩, h3⟩, h4⟩, h5⟩ := h
 have hready : Region.ready .any ops (lst ops.size l) = [i, j] := by
  split at h5
  ·rename_i a b hj
   simp only [Bool.and_eq_true] at h5
   rw [← readyL_eq, hj, Nat.eq_of_beq_eq_true h5.1, Nat.eq_of_beq_eq_true h5.2]
  ·cases h5
 have hlm := (stepB_spec h1).1
 obtain ⟨f, rfl⟩ : ∃ g, f = g + 1 := ⟨f - 1, by omega⟩
 have key : ∀ k, stepB n m ops l k = true → goAt n ops k e = true → GE P S n m L ops l k e w → ∀ w1, Ext w w1 → k < m ∧ gOp P S ops k (gAny P S ops m (fun listed a' w' => listed = fin ops m ∧ ∃ e', Sees n a' e' ∧ L e' w') f ((lst ops.size l).setIfInBounds k true)) a w1 := by
  intro k hk1 hk2 HK w1 hx
  obtain ⟨_, him, hd, hi, hr⟩ := stepB_spec hk1
  refine ⟨him, ?_⟩
  simp only [goAt, Bool.and_eq_true] at hk2
  unfold gOp
  simp only [hi]
  rw [ha.want, hk2.2, if_pos rfl, ha.eval]
  refine emitV_mono (fun v w2 _ hq => ?_) (HK w1 hx)
  have := hq hB f (a.put (opAt ops k).dst v) (by simp only [List.length_cons]; omega) (ha.putO hd v) (by rw [lst_cons]; exact inv.set hr him)
  rwa [lst_cons] at this
 refine ⟨by rw [hready]; simp, fun w1 hx k hk => ?_⟩
 rw [hready] at hk
 rcases List.mem_cons.1 hk with rfl | hk
 ·exact key _ h1 h2 Hi w1 hx
 ·rcases List.mem_cons.1 hk with rfl | hk
  ·exact key _ h3 h4 Hj w1 hx
  ·cases hk
theorem GE.call {i : Nat} {f : FuncId} {args : List Value} {Q : World → Value → World → Prop} (hf : callAt P n ops i e = some (f, args))
 (hc : ∀ w1, Ext w w1 → Calls P f args.toArray w1 (rets (Q w1))) (H : ∀ w1, Ext w w1 → ∀ v w2, Q w1 v w2 → Chg S w1 w2 ∧ GA P S n m L ops (i :: l) (putE e (opAt ops i).dst v) w2) : GE P S n m L ops l i e w := fun w1 hx => by
 rw [(run_call hf w1).2]
 exact ⟨Chg.refl S _, (hc w1 hx).mono fun x w2 ⟨u, hxu, hq⟩ => ⟨u, hxu, H w1 hx u w2 hq⟩⟩
theorem GE.new {i : Nat} {v : Nat → Value} {t : TypeId} {cs : List Value} (hn : ∀ b, newBoxAt P n ops i e b = some (v b, t, cs))
 (H : ∀ w1, Ext w w1 → ∀ b w2, b = w1.heap.size → Ext w1 w2 → Box w2 b t cs → w2.heap.size = b + 1 → GA P S n m L ops (i :: l) (putE e (opAt ops i).dst (v b)) w2) : GE P S n m L ops l i e w := fun w1 hx => by
 rw [(run_new (hn _)).2]
 exact ⟨(Ext.alloc _ _).chg, H w1 hx _ _ rfl (Ext.alloc _ _) (Box.new _ _ _) (by show (w1.heap.push _).size = _; simp)⟩
theorem GE.append {i : Nat} {T ty : TypeId} {args : List Value} (hb : bltAt n ops i e = some (.append, [T, T], ty, args))
 (H : ∀ w1, Ext w w1 → ∃ v w2, (Builtin.append_ #[T, T] ty args.toArray).run P w1 = .ok v w2 ∧ Chg S w1 w2 ∧ GA P S n m L ops (i :: l) (putE e (opAt ops i).dst v) w2) : GE P S n m L ops l i e w := fun w1 hx => by
 obtain ⟨v, w2, h1, h2, h3⟩ := H w1 hx
 rw [run_blt hb h1]
 exact ⟨h2, h3⟩
theorem run_storeAt {i : Nat} {t : TypeId} {a : Addr} {v : Value} {w w' : World} (h : storeAt n ops i e = some (t, a, v)) (hv : (storeVar t a v).run P w = .ok () w') : (execOp (ev e) (opAt ops i)).run P w = .ok .skip w' := by
 obtain ⟨hg, h⟩ := goAt_of h
 split at h
 ·rename_i t' x v' hop
  split at h
  ·rename_i a' hx
   simp only [Option.some.injEq, Prod.mk.injEq] at h
   obtain ⟨rfl, rfl, rfl⟩ := h
   simp only [execOp, hop, hx]
   exact run_bind_ok hv
  ·cases h
 ·cases h
theorem GE.storeB {i : Nat} {t t' : TypeId} {b o : Nat} {cs : List Value} {v : Value} (cs' : List Value) (hb : Box w b t cs) (h : storeAt n ops i e = some (t', ⟨b, o, none⟩, v))
 (hs : (sizeB P t' v.cells.size && Nat.ble (o + v.cells.size) cs.length && v.cells.toList.all oneC) = true) (hc : splice cs o v.cells.toList = cs')
 (H : ∀ w1, Ext w w1 → ∀ w2, Chg (Go.Proofs.YtganlmloonielaaGreat.one b) w1 w2 → Box w2 b t cs' → w2.heap.size = w1.heap.size → Chg S w1 w2 ∧ GA P S n m L ops (i :: l) (putE e (opAt ops i).dst undef) w2) : GE P S n m L ops l i e w := fun w1 hx => by
 simp only [Bool.and_eq_true] at hs
 obtain ⟨w', hr, hb', hx2, hsz⟩ := (hb.ext hx).store (P := P) (t' := t') (o := o) (v := v) hs.1.1 (Nat.le_of_ble_eq_true hs.1.2) hs.2
 rw [hc] at hb'
 rw [run_storeAt h hr]
 obtain ⟨h1, h2⟩ := H w1 hx w' hx2 hb' hsz
 exact ⟨h1, h2⟩
end
theorem loop_toList (s : ByteArray) : ∀ n i acc, n = s.size - i → ByteArray.toList.loop s i acc = acc.reverse ++ s.data.toList.drop i := by
 intro n
 induction n with
 | zero =>
   intro i acc h
   unfold ByteArray.toList.loop
   have hs : s.size = s.data.toList.length := rfl
   rw [if_neg (by omega), List.drop_of_length_le (by omega)]
   simp
 | succ n ih =>
   intro i acc h
   unfold ByteArray.toList.loop
   have hs : s.size = s.data.toList.length := rfl
   rw [if_pos (by omega), ih _ _ (by omega)]
   rw [List.drop_eq_getElem_cons (by omega : i < s.data.toList.length)]
   have : s.get! i = s.data.toList[i]'(by omega) := by
    have hi : i < s.data.size := by simpa using (by omega : i < s.data.toList.length)
    show s.data[i]! = _
    rw [getElem!_pos s.data i hi]
    simp
   rw [this]
   simp
theorem bs_toList (s : Str) : (bs s).toList = s := by
 unfold ByteArray.toList
 rw [loop_toList _ _ 0 [] rfl]
 simp [bs]
theorem bs_size (s : Str) : (bs s).size = s.length := by simp [bs, ByteArray.size]
theorem bs_app (s t : Str) : bs s ++ bs t = bs (s ++ t) := by
 apply ByteArray.ext
 simp [bs]
theorem bs_inj {s t : Str} (h : bs s = bs t) : s = t := by
 have := congrArg (fun b : ByteArray => b.data.toList) h
 simpa [bs] using this
theorem bs_beq (s t : Str) : (bs s == bs t) = (s == t) := by
 rw [Bool.eq_iff_iff, Go.MapKept.bytes_beq, beq_iff_eq]
 exact ⟨bs_inj, fun h => by rw [h]⟩
def strLt (s t : Str) : Bool := Op.bytesLess s t
def strLe (s t : Str) : Bool := Op.bytesLess s t || s == t
theorem s_eq (s t : Str) : Value.bool ((bs s).toList == (bs t).toList) = .bool (s == t) := by rw [bs_toList, bs_toList]
theorem s_ne (s t : Str) : Value.bool (!((bs s).toList == (bs t).toList)) = .bool (!(s == t)) := by rw [bs_toList, bs_toList]
theorem s_lt (s t : Str) : Value.bool (Op.bytesLess (bs s).toList (bs t).toList) = .bool (strLt s t) := by rw [bs_toList, bs_toList]; rfl
theorem s_le (s t : Str) : Value.bool (Op.bytesLess (bs s).toList (bs t).toList || (bs s).toList == (bs t).toList) = .bool (strLe s t) := by rw [bs_toList, bs_toList]; rfl
theorem s_gt (s t : Str) : Value.bool (!(Op.bytesLess (bs s).toList (bs t).toList || (bs s).toList == (bs t).toList)) = .bool (!strLe s t) := by rw [bs_toList, bs_toList]; rfl
theorem s_ge (s t : Str) : Value.bool (!(Op.bytesLess (bs s).toList (bs t).toList)) = .bool (!strLt s t) := by rw [bs_toList, bs_toList]; rfl
theorem s_len (s : Str) : Value.int .i64 ((bs s).size : Int) = .int .i64 (s.length : Int) := by rw [bs_size]
def ltG (G : Nat → Prop) (s b : Nat) : Prop := G b ∧ b < s
class Nb (a b : Nat) : Prop where ne : a ≠ b
def Gb (s b : Nat) : Prop := s ≤ b
class Cov (L : Nat → Prop) (w : World) (b : Nat) : Prop where or : L b ∨ w.heap.size ≤ b
def OrB (r r0 s : Nat) : Prop := r = r0 ∨ s ≤ r
theorem pos_of {α : Type} {xs : List α} {i : Nat} {x : α} (h : xs[i]? = some x) : 0 < xs.length := by
 obtain ⟨h1, _⟩ := List.getElem?_eq_some_iff.1 h
 omega
theorem all_nil {p : Nat → Prop} : ∀ b ∈ ([] : List Nat), p b := fun _ h => by cases h
theorem all_cons {p : Nat → Prop} {a : Nat} {l : List Nat} (h : p a) (hl : ∀ b ∈ l, p b) : ∀ b ∈ a :: l, p b := fun b hb => by
 rcases List.mem_cons.1 hb with rfl | hb
 ·exact h
 ·exact hl b hb
section
variable {a b x r r0 r2 s sz : Nat} {w w' base : World} {L : Nat → Prop}
instance : CoeFun (Nb a b) (fun _ => a = b → False) := ⟨fun h => h.ne⟩
instance : Coe (Nb a b) (a ≠ b) := ⟨fun h => h.ne⟩
instance : Coe (a ≠ b) (Nb a b) := ⟨Nb.mk⟩
instance : Coe (Cov (Go.Proofs.YtganlmloonielaaGreat.one a) w b) (OrB b a w.heap.size) := ⟨fun h => h.or⟩
theorem Nb.symm (h : Nb a b) : Nb b a := ⟨Ne.symm h.ne⟩
theorem Nb.one (h : Nb a b) : ¬ one b a := h.ne
theorem nb_new (hb : b = s) (hx : x < s) : Nb b x := ⟨by omega⟩
theorem nb_ge (hb : s ≤ b) (hx : x < s) : Nb b x := ⟨by omega⟩
theorem nb_or (h : r2 = r ∨ r2 = s) (h1 : Nb r x) (h2 : x < s) : Nb r2 x := ⟨by have := h1.ne; omega⟩
theorem nb_or' (h : OrB r r0 s) (h1 : Nb r0 x) (h2 : x < s) : Nb r x := ⟨by have := h1.ne; unfold OrB at h; omega⟩
theorem gb_new (hb : b = sz) (hs : s ≤ sz) : Gb s b := by unfold Gb; omega
theorem gb_ge (hb : sz ≤ b) (hs : s ≤ sz) : Gb s b := by unfold Gb; omega
theorem gb_or (h : r2 = r ∨ r2 = sz) (h1 : Gb s r) (h2 : s ≤ sz) : Gb s r2 := by unfold Gb at *; omega
theorem gb_or' (h : OrB r r0 sz) (h1 : Gb s r0) (h2 : s ≤ sz) : Gb s r := by unfold Gb OrB at *; omega
theorem cov_new (hb : b = sz) (hs : base.heap.size ≤ sz) : Cov L base b := ⟨.inr (by omega)⟩
theorem cov_ge (hb : sz ≤ b) (hs : base.heap.size ≤ sz) : Cov L base b := ⟨.inr (by omega)⟩
theorem cov_or (h : r2 = r ∨ r2 = sz) (h1 : Cov L base r) (h2 : base.heap.size ≤ sz) : Cov L base r2 := by
 rcases h with rfl | rfl
 ·exact h1
 ·exact ⟨.inr h2⟩
theorem cov_or' (h : OrB r r0 sz) (h1 : Cov L base r0) (h2 : base.heap.size ≤ sz) : Cov L base r := by
 rcases h with rfl | h
 ·exact h1
 ·exact ⟨.inr (Nat.le_trans h2 h)⟩
theorem orb_or (h : r2 = r ∨ r2 = sz) (h1 : OrB r r0 s) (h2 : s ≤ sz) : OrB r2 r0 s := by unfold OrB at *; omega
theorem orb_or' (h : OrB r2 r sz) (h1 : OrB r r0 s) (h2 : s ≤ sz) : OrB r2 r0 s := by unfold OrB at *; omega
theorem orb_refl : OrB r r s := .inl rfl
theorem Chg.stepN {c d : World} (h : Chg L base c) (h' : Ext c d) : Chg L base d := Chg.step h h' (fun _ h _ => h.elim)
theorem Chg.stepO {c d : World} (h : Chg L base c) (h' : Chg (Go.Proofs.YtganlmloonielaaGreat.one b) c d) (hc : Cov L base b) : Chg L base d :=
 Chg.step h h' (fun k hk hlt => by cases hk; exact hc.or.resolve_right (by omega))
theorem Chg.stepI {K : List Nat} {c d : World} (h : Chg L base c) (h' : Chg (ins K) c d) (hc : ∀ b ∈ K, Cov L base b) : Chg L base d :=
 Chg.step h h' (fun k hk hlt => (hc k hk).or.resolve_right (by omega))
theorem Cov.toS {K : List Nat} (h : Cov (mtb K w.heap.size) w b) : mtb K w.heap.size b := h.or.elim id .inr
theorem Chg.toS {K : List Nat} (h : Chg (Go.Proofs.YtganlmloonielaaGreat.one b) w w') (hc : mtb K s b) : Chg (mtb K s) w w' := h.weak (fun k _ hk => by cases hk; exact hc)
variable {M M' M2 A B : List Nat}
theorem Mv.ext (hx : Ext w w') : Mv M M w w' := Mv.mk hx (fun _ _ h => ⟨h, fun h => h⟩)
theorem Mv.cons (hm : Mv M M' w w') (hs : w.heap.size ≤ b) : Mv M (b :: M') w w' := fun k hk hk' => ⟨by
 intro h
 rcases List.mem_cons.1 h with rfl | h
 ·omega
 ·exact (hm k hk hk').1 h, (hm k hk hk').2⟩
theorem Mv.on (hx : Chg (Go.Proofs.YtganlmloonielaaGreat.one b) w w') (hb : b ∈ M) : Mv M M w w' := Mv.mk hx (fun k _ h => ⟨h, fun e => h (by cases e; exact hb)⟩)
theorem Mv.app (A B : List Nat) (hx : Chg (Go.Proofs.YtganlmloonielaaGreat.one r) w w') (h : r2 = r ∨ r2 = w.heap.size) : Mv (A ++ r :: B) (A ++ r2 :: B) w w' := Mv.mk hx (fun k hk hm => by
 simp only [List.mem_append, List.mem_cons, not_or] at hm ⊢
 exact ⟨⟨hm.1, by omega, hm.2.2⟩, hm.2.1⟩)
theorem Mv.inl {K : List Nat} (hx : Chg (ins K) w w') (hK : ∀ b ∈ K, b ∈ M) (h2 : ∀ b ∈ M2, b ∈ M ∨ w.heap.size ≤ b) : Mv M M2 w w' := Mv.mk hx (fun k hk hm =>
 ⟨fun h => (h2 k h).elim hm (fun h => by omega), fun h => hm (hK k h)⟩)
theorem Mv.drop (A B : List Nat) : Mv (A ++ r :: B) (A ++ B) w w := fun k _ hm => ⟨by
 simp only [List.mem_append, List.mem_cons, not_or] at hm ⊢
 exact ⟨hm.1, hm.2.2⟩, rfl⟩
theorem Mv.less (h : ∀ b ∈ M', b ∈ M) : Mv M M' w w := fun k _ hm => ⟨fun h' => hm (h k h'), rfl⟩
theorem orb_mem (h : OrB r r0 s) (hm : r0 ∈ M) : r ∈ M ∨ s ≤ r := by
 rcases h with rfl | h
 ·exact .inl hm
 ·exact .inr h
theorem own_in {G : Nat → Prop} (hr : r ∈ M) (h : nin G M b) : nin G M b ∧ b ≠ r := ⟨h, fun e => h.2 (e ▸ hr)⟩
theorem hap_mk {G : Nat → Prop} (hg : G b) (hn : ∀ x ∈ M, Nb b x) (hr : Nb b r) : nin G M b ∧ b ≠ r := ⟨⟨hg, fun h => (hn b h).ne rfl⟩, hr.ne⟩
theorem nS_of {K : List Nat} (h1 : ∀ x ∈ K, Nb b x) (h2 : b < s) : ¬ mtb K s b := fun h => h.elim (fun h => (h1 b h).ne rfl) (fun h => by omega)
section
variable {α : Type} [Rep α] {G : Nat → Prop} {o : Option Addr} {n c : Nat} {t : TypeId} {xs : List α}
theorem RepS.mixed' {F : Nat → Prop} {s' : Nat} (h : RepS w (fo (nin (fo F s') M) s) o n c xs) (hM : ∀ b ∈ M, b < s) (hs : s' ≤ s) : RepS w (nin (fo F s') M) o n c xs :=
 h.mixed (fun b hb => ⟨hM b hb, hb⟩) hs
theorem Own.mixed' {F : Nat → Prop} {s' : Nat} (h : Own w r t (fo (nin (fo F s') M) s) n c xs) (hM : ∀ b ∈ M, b < s) (hs : s' ≤ s) : Own w r t (nin (fo F s') M) n c xs :=
 h.weak fun b _ hF => by
  rcases hF with hF | hF
  ·exact hF
  ·exact ⟨.inr (Nat.le_trans hs hF), fun hm => by have := hM b hm; omega⟩
theorem RepS.nS {K : List Nat} (h : RepS w (nin (ltG G s) M) o n c xs) (hn : 0 < n) (hL : ∀ x ∈ K, x ∈ M) : ¬ mtb K s (blk o) := fun hk =>
 have hF := h.inF hn
 hk.elim (fun hb => hF.2 (hL _ hb)) (fun hb => by have := hF.1.2; omega)
theorem RepS.chgS {K : List Nat} (h : RepS w (nin (ltG G s) M) o n c xs) (hx : Chg (mtb K s) w w') (hL : ∀ x ∈ K, x ∈ M) : RepS w' all o n c xs :=
 (h.chg hx (fun b hF hk => hk.elim (fun hb => hF.2 (hL _ hb)) (fun hb => by have := hF.1.2; omega))).weak (fun _ _ _ => trivial)
theorem RepS.into (h : RepS w (nin G M) o n c xs) : RepS w (nin (ltG G w.heap.size) M) o n c xs := h.weak (fun b hb hF => ⟨⟨hF.1, hb⟩, hF.2⟩)
theorem RepS.outof (h : RepS w (nin (ltG G s) M) o n c xs) : RepS w (nin G M) o n c xs := h.base (fun _ _ h => h.1)
end
end
section
variable {α : Type} [Rep α] {w : World} {G F : Nat → Prop} {M M' rs : List Nat} {o : Option Addr} {n c r s s0 s' : Nat} {t : TypeId} {xs ys : List α}
theorem RepS.eqx (h : RepS w F o n c xs) (e : xs = ys) : RepS w F o n c ys := e ▸ h
theorem Own.eqx (h : Own w r t F n c xs) (e : xs = ys) : Own w r t F n c ys := e ▸ h
theorem RepS.lessM (h : RepS w (nin G M) o n c xs) (hs : ∀ b ∈ M', b ∈ M) : RepS w (nin G M') o n c xs := h.weak fun k _ hk => ⟨hk.1, fun e => hk.2 (hs k e)⟩
theorem Own.lessM (h : Own w r t (nin G M) n c xs) (hs : ∀ b ∈ M', b ∈ M) : Own w r t (nin G M') n c xs := h.weak fun k _ hk => ⟨hk.1, fun e => hk.2 (hs k e)⟩
theorem nin_take {k : Nat} (h : nin (ge s) rs k) (hM : ∀ b ∈ M, b < s) (hs : s0 ≤ s) : nin (ge s0) (rs ++ M) k := ⟨Nat.le_trans hs h.1, fun hm => by
 rcases List.mem_append.1 hm with hm | hm
 ·exact h.2 hm
 ·have h1 := hM k hm
  have h2 : s ≤ k := h.1
  omega⟩
theorem RepS.takeM (h : RepS w (nin (ge s) rs) o n c xs) (hM : ∀ b ∈ M, b < s) (hs : s0 ≤ s) : RepS w (nin (ge s0) (rs ++ M)) o n c xs := h.weak fun _ _ hk => nin_take hk hM hs
theorem Own.takeM (h : Own w r t (nin (ge s) rs) n c xs) (hM : ∀ b ∈ M, b < s) (hs : s0 ≤ s) : Own w r t (nin (ge s0) (rs ++ M)) n c xs := h.weak fun _ _ hk => nin_take hk hM hs
end
end Go.Proofs.YtganlmloonielaaGreat
namespace Go.Proofs.YtganlmloonielaaGreat
section
variable {α : Type} [Rep α] {w : World} {F : Nat → Prop} {a : Option Addr} {n c l h : Nat} {xs : List α}
theorem RepS.sub (hr : RepS w F a n c xs) (hlh : l ≤ h) (hh : h ≤ n) : RepS w F (if c = l then a else a.map (·.add (l * Rep.sz α))) (h - l) (c - l) ((xs.take h).drop l) := by
 have hlen := hr.len
 have hle := hr.le
 by_cases he : h = l
 ·subst he
  rw [Nat.sub_self, List.drop_of_length_le (by rw [List.length_take]; omega)]
  exact RepS.nil' _ _ _ _ (by have := hr.cap; omega)
 ·have hcl : c ≠ l := by omega
  rw [if_neg hcl]
  have ha := hr.addr (by omega)
  have hsome : (a.map (·.add (l * Rep.sz α))) = some ⟨blk a, off a + l * Rep.sz α, none⟩ := by
   rw [ha]
   simp [add_lit, blk, off]
  rw [hsome]
  refine ⟨by rw [List.length_drop, List.length_take]; omega, by omega, by have := hr.cap; omega, fun _ => rfl, fun _ => hr.inF (by omega), fun i x hx => ?_⟩
  rw [List.getElem?_drop, List.getElem?_take] at hx
  split at hx
  ·obtain ⟨cs, h1, h2⟩ := hr.elem (l + i) x hx
   refine ⟨cs, h1, ?_⟩
   have : off (some (⟨blk a, off a + l * Rep.sz α, none⟩ : Addr)) + i * Rep.sz α = off a + (l + i) * Rep.sz α := by
    simp only [off, Nat.add_mul]
    omega
   rw [this]
   exact h2
  ·cases hx
end
section
variable {P : Program}
def undB (P : Program) (t : TypeId) : Bool := match P.underlying t with | some .string => true | _ => false
theorem undB_spec {t : TypeId} (h : undB P t = true) : P.underlying t = some .string := by
 unfold undB at h; split at h <;> simp_all
theorem run_sidx {t : TypeId} {s : Str} {k : IntKind} {i : Int} {x : UInt8} (i' : Nat) (ht : undB P t = true) (hi : i = (i' : Int)) (hx : s[i']? = some x) (w : World) :
 (Instr.index t (.string (bs s)) (.int k i)).run P w = .ok (.int .u8 (x.toNat : Int)) w := by
 subst hi
 have hu := undB_spec ht
 have hs : (bs s)[i']? = some x := by
  obtain ⟨h1, h2⟩ := List.getElem?_eq_some_iff.1 hx
  have h3 : i' < (bs s).size := by rw [bs_size]; exact h1
  rw [getElem?_pos (bs s) i' h3]
  congr 1
 unfold Instr.index
 have h1 : (asIntOf (.int k (i' : Int))).run P w = .ok (k, (i' : Int)) w := rfl
 rw [run_bind_ok h1]
 simp only []
 rw [run_bind_ok (show (underlying t).run P w = .ok .string w by simp [underlying, hu, go_sem])]
 simp [hs, go_sem]
theorem run_cat {t : TypeId} {x y : Operand} {s u : Str} (h : s.length + u.length ≤ 9000000000000000000) (w : World) :
 (do eqGuard .add t x y (.string (bs s)) (.string (bs u)); binOp .add t (.string (bs s)) (.string (bs u))).run P w = .ok (.string (bs (s ++ u))) w := by
 have h1 : (eqGuard .add t x y (.string (bs s)) (.string (bs u))).run P w = .ok () w := rfl
 rw [run_bind_ok h1]
 have hle : ¬ (((bs s).size + (bs u).size : Nat) : Int) > IntKind.i64.max := by
  rw [bs_size, bs_size]
  have : IntKind.i64.max = 9223372036854775807 := by decide
  rw [this]
  omega
 simp only [binOp, Op.stringOp, if_neg hle]
 rw [bs_app]
 rfl
theorem run_rem {k : IntKind} {t : TypeId} {x y : Operand} {a b : Int} (hb : b ≠ 0) (w : World) :
 (do eqGuard .rem t x y (.int k a) (.int k b); binOp .rem t (.int k a) (.int k b)).run P w = .ok (.int k (a.tmod b)) w := by
 have h1 : (eqGuard .rem t x y (.int k a) (.int k b)).run P w = .ok () w := rfl
 rw [run_bind_ok h1]
 simp [binOp, Op.intDiv, hb, go_sem]
theorem run_quo {t : TypeId} {x y : Operand} {a b : Int} (hb : b ≠ 0) (hr : -9223372036854775808 ≤ a.tdiv b ∧ a.tdiv b ≤ 9223372036854775807) (w : World) :
 (do eqGuard .quo t x y (.int .i64 a) (.int .i64 b); binOp .quo t (.int .i64 a) (.int .i64 b)).run P w = .ok (.int .i64 (a.tdiv b)) w := by
 have h1 : (eqGuard .quo t x y (.int .i64 a) (.int .i64 b)).run P w = .ok () w := rfl
 rw [run_bind_ok h1]
 simp [binOp, Op.intDiv, hb, go_sem, IntWalk.i64_in _ hr]
def bnd (o : Option Value) (d l : Nat) : Prop := o = none ∧ l = d ∨ ∃ k i, o = some (.int k i) ∧ i = (l : Int)
theorem run_bound {k : IntKind} {i : Int} {l y : Nat} {code : BoundsCode} (hi : i = (l : Int)) (hl : l ≤ y) (w : World) : (Instr.sliceBound (.int k i) y code).run P w = .ok l w := by
 subst hi
 unfold Instr.sliceBound
 have h1 : (asIntOf (.int k (l : Int))).run P w = .ok (k, (l : Int)) w := rfl
 rw [run_bind_ok h1]
 have h2 : (0 : Int) ≤ (l : Int) ∧ (l : Int) ≤ (y : Int) := by omega
 simp only [h2, and_self, if_true]
 simp [go_sem]
theorem run_bounds {b : Bool} {len cap l h : Nat} {lo hi : Option Value} (hlo : bnd lo 0 l) (hhi : bnd hi len h) (hlh : l ≤ h) (hh : h ≤ cap) (w : World) :
 (Instr.sliceBounds b len cap lo hi none).run P w = .ok (l, h, cap) w := by
 unfold Instr.sliceBounds
 rcases hlo with ⟨rfl, rfl⟩ | ⟨k, i, rfl, hi1⟩ <;> rcases hhi with ⟨rfl, rfl⟩ | ⟨k2, i2, rfl, hi2⟩
 ·simp [go_sem]
 ·simp only [pure_bind]
  rw [run_bind_ok (run_bound hi2 hh w)]
  simp [go_sem]
 ·simp only [pure_bind]
  rw [run_bind_ok (run_bound hi1 hlh w)]
  simp [go_sem]
 ·simp only [pure_bind]
  rw [run_bind_ok (run_bound hi2 hh w), run_bind_ok (run_bound hi1 hlh w)]
  simp [go_sem]
theorem run_ssub {t : TypeId} {s : Str} {l h : Nat} {lo hi : Option Value} (ht : undB P t = true) (hlo : bnd lo 0 l) (hhi : bnd hi s.length h) (hlh : l ≤ h) (hh : h ≤ s.length) (w : World) :
 (Instr.sliceAt t (.string (bs s)) lo hi none).run P w = .ok (.string (bs ((s.take h).drop l))) w := by
 have hu := undB_spec ht
 have hun : (underlying t).run P w = .ok .string w := by simp [underlying, hu, go_sem]
 unfold Instr.sliceAt
 rw [run_bind_ok hun]
 unfold Instr.slice
 rw [run_bind_ok hun]
 have hb := run_bounds (P := P) (b := false) hlo (len := (bs s).size) (cap := (bs s).size) (by rw [bs_size]; exact hhi) hlh (by rw [bs_size]; exact hh) w
 simp only [Option.isSome_none, Bool.false_eq_true, if_false, pure_bind]
 rw [run_bind_ok hb]
 have hx : (bs s).extract l h = bs ((s.take h).drop l) := by
  apply ByteArray.ext
  simp [bs, ByteArray.data_extract]
  exact List.drop_take.symm
 simp only []
 rw [hx]
 rfl
def sliB (P : Program) (t : TypeId) (sz : Nat) : Bool := match P.underlying t with | some (.slice e) => (match P.info? e with | some i => Nat.beq i.size sz | none => false) | _ => false
theorem run_sub {t : TypeId} {sz : Nat} {a : Option Addr} {len cap l h : Nat} {lo hi : Option Value} (ht : sliB P t sz = true) (hlo : bnd lo 0 l) (hhi : bnd hi len h) (hlh : l ≤ h) (hh : h ≤ cap) (w : World) :
 (Instr.sliceAt t (.slice a len cap) lo hi none).run P w = .ok (.slice (if cap = l then a else a.map (·.add (l * sz))) (h - l) (cap - l)) w := by
 unfold sliB at ht
 split at ht
 ·rename_i e hu
  split at ht
  ·rename_i i hi'
   have hsz := Nat.eq_of_beq_eq_true ht
   have hun : (underlying t).run P w = .ok (.slice e) w := by simp [underlying, hu, go_sem]
   unfold Instr.sliceAt
   rw [run_bind_ok hun]
   simp only []
   unfold Instr.slice
   rw [run_bind_ok hun]
   simp only []
   rw [run_bind_ok (run_bounds (P := P) (b := true) hlo hhi hlh hh w)]
   simp only []
   rw [run_bind_ok (show (sizeOf e).run P w = .ok i.size w by simp [sizeOf, typeInfo, hi', go_sem])]
   rw [hsz]
   rfl
  ·cases ht
 ·cases ht
def tagB (P : Program) (t : TypeId) : Bool :=
 (match P.underlying t with
  | some (.struct fs) => (match fs.toList with
    | [f, g] => f.name != "_" && g.name != "_" && undB P f.type && undB P g.type && Nat.beq f.offset 0 && Nat.beq g.offset 1
    | _ => false)
  | _ => false) && !P.stoodInHeld t && !P.eqGuardType P.depth t
theorem run_equal_str {d : Nat} {t : TypeId} {s u : Str} (ht : undB P t = true) (w : World) : (Op.equalIn (d + 1) t (.string (bs s)) (.string (bs u))).run P w = .ok (s == u) w := by
 have hu := undB_spec ht
 have hun : (underlying t).run P w = .ok .string w := by simp [underlying, hu, go_sem]
 unfold Op.equalIn
 rw [run_bind_ok hun]
 simp only []
 rw [bs_beq]
 rfl
theorem run_part_str {t : TypeId} {cs : Array Value} {o : Nat} {v : Value} (ht : undB P t = true) (hv : cs[o]? = some v) (w : World) : (part t cs o).run P w = .ok v w := by
 have hu := undB_spec ht
 have hsc : scalarB P t = true := by unfold scalarB; rw [hu]
 unfold part
 rw [run_bind_ok (run_isAgg_false hsc w)]
 simp [hv, go_sem]
theorem tagB_guard {t : TypeId} {op : BinOp} {x y : Operand} {cs cs' : Array Value} (ht : (!P.eqGuardType P.depth t) = true) (w : World) : (eqGuard op t x y (.agg cs) (.agg cs')).run P w = .ok () w := by
 simp only [Bool.not_eq_true'] at ht
 unfold eqGuard
 cases op <;> simp [ht, go_sem, run_program]
theorem run_equal_tag {t : TypeId} {k v k' v' : Str} (ht : tagB P t = true) (w : World) :
 (Op.equal t (.agg #[.string (bs k), .string (bs v)]) (.agg #[.string (bs k'), .string (bs v')])).run P w = .ok (k == k' && v == v') w := by
 unfold tagB at ht
 simp only [Bool.and_eq_true, Bool.not_eq_true'] at ht
 obtain ⟨⟨h1, h2⟩, h3⟩ := ht
 split at h1
 ·rename_i fs hu
  split at h1
  ·rename_i f g hfg
   simp only [Bool.and_eq_true] at h1
   obtain ⟨⟨⟨⟨⟨a1, a2⟩, a3⟩, a4⟩, a5⟩, a6⟩ := h1
   have a5' := Nat.eq_of_beq_eq_true a5
   have a6' := Nat.eq_of_beq_eq_true a6
   have hun : (underlying t).run P w = .ok (.struct fs) w := by simp [underlying, hu, go_sem]
   have hfs : fs = #[f, g] := Array.toList_inj.1 (by simpa using hfg)
   subst hfs
   unfold Op.equal
   rw [show Op.maxDepth = 9999 + 1 from rfl]
   unfold Op.equalIn
   rw [run_bind_ok hun]
   simp only []
   have hp : (program : Sem Program).run P w = .ok P w := run_program P w
   rw [run_bind_ok hp]
   simp only [h2, Bool.false_eq_true, if_false]
   have e1 := fun (w : World) => run_part_str (P := P) (t := f.type) (cs := #[.string (bs k), .string (bs v)]) (o := f.offset) (v := .string (bs k)) a3 (by rw [a5']; rfl) w
   have e2 := fun (w : World) => run_part_str (P := P) (t := f.type) (cs := #[.string (bs k'), .string (bs v')]) (o := f.offset) (v := .string (bs k')) a3 (by rw [a5']; rfl) w
   have e3 := fun (w : World) => run_part_str (P := P) (t := g.type) (cs := #[.string (bs k), .string (bs v)]) (o := g.offset) (v := .string (bs v)) a4 (by rw [a6']; rfl) w
   have e4 := fun (w : World) => run_part_str (P := P) (t := g.type) (cs := #[.string (bs k'), .string (bs v')]) (o := g.offset) (v := .string (bs v')) a4 (by rw [a6']; rfl) w
   have e5 := run_equal_str (P := P) (d := 9998) (t := f.type) (s := k) (u := k') a3
   have e6 := run_equal_str (P := P) (d := 9998) (t := g.type) (s := v) (u := v') a4
   have c1 : (f.name ≠ "_") = True := by simpa using a1
   have c2 : (g.name ≠ "_") = True := by simpa using a2
   simp only [List.forIn_toArray, Array.forIn_toList, List.forIn_cons, List.forIn_nil, c1, c2, if_true, bind_assoc]
   rw [run_bind_ok (e1 w), run_bind_ok (e2 w), run_bind_ok (e5 w)]
   cases hk : (k == k') with
   | false => simp [go_sem]
   | true =>
     simp only [Bool.not_true, Bool.false_eq_true, if_false, pure_bind, bind_assoc]
     rw [run_bind_ok (e3 w), run_bind_ok (e4 w), run_bind_ok (e6 w)]
     cases hv : (v == v') <;> simp [go_sem]
  ·cases h1
 ·cases h1
def intB (P : Program) (t : TypeId) : Bool := match P.underlying t with | some (.int _) => true | _ => false
def rowB (P : Program) (t : TypeId) : Bool :=
 (match P.underlying t with
  | some (.struct fs) => (match fs.toList with
    | [f, g] => f.name != "_" && g.name != "_" && intB P f.type && intB P g.type && Nat.beq f.offset 0 && Nat.beq g.offset 1
    | _ => false)
  | _ => false) && !P.stoodInHeld t && !P.eqGuardType P.depth t
theorem run_equal_int {d : Nat} {t : TypeId} {s u : Int} (ht : intB P t = true) (w : World) : (Op.equalIn (d + 1) t (.int .i64 s) (.int .i64 u)).run P w = .ok (s == u) w := by
 unfold intB at ht
 split at ht
 ·rename_i k hu
  have hun : (underlying t).run P w = .ok (.int k) w := by simp [underlying, hu, go_sem]
  unfold Op.equalIn
  rw [run_bind_ok hun]
  simp [go_sem]
 ·cases ht
theorem run_part_int {t : TypeId} {cs : Array Value} {o : Nat} {v : Value} (ht : intB P t = true) (hv : cs[o]? = some v) (w : World) : (part t cs o).run P w = .ok v w := by
 unfold intB at ht
 split at ht
 ·rename_i k hu
  have hsc : scalarB P t = true := by unfold scalarB; rw [hu]
  unfold part
  rw [run_bind_ok (run_isAgg_false hsc w)]
  simp [hv, go_sem]
 ·cases ht
theorem run_equalIn_row {d : Nat} {t : TypeId} {k v k' v' : Int} (ht : rowB P t = true) (w : World) :
 (Op.equalIn (d + 2) t (.agg #[.int .i64 k, .int .i64 v]) (.agg #[.int .i64 k', .int .i64 v'])).run P w = .ok (k == k' && v == v') w := by
 unfold rowB at ht
 simp only [Bool.and_eq_true, Bool.not_eq_true'] at ht
 obtain ⟨⟨h1, h2⟩, h3⟩ := ht
 split at h1
 ·rename_i fs hu
  split at h1
  ·rename_i f g hfg
   simp only [Bool.and_eq_true] at h1
   obtain ⟨⟨⟨⟨⟨a1, a2⟩, a3⟩, a4⟩, a5⟩, a6⟩ := h1
   have a5' := Nat.eq_of_beq_eq_true a5
   have a6' := Nat.eq_of_beq_eq_true a6
   have hun : (underlying t).run P w = .ok (.struct fs) w := by simp [underlying, hu, go_sem]
   have hfs : fs = #[f, g] := Array.toList_inj.1 (by simpa using hfg)
   subst hfs
   unfold Op.equalIn
   rw [run_bind_ok hun]
   simp only []
   have hp : (program : Sem Program).run P w = .ok P w := run_program P w
   rw [run_bind_ok hp]
   simp only [h2, Bool.false_eq_true, if_false]
   have e1 := fun (w : World) => run_part_int (P := P) (t := f.type) (cs := #[.int .i64 k, .int .i64 v]) (o := f.offset) (v := .int .i64 k) a3 (by rw [a5']; rfl) w
   have e2 := fun (w : World) => run_part_int (P := P) (t := f.type) (cs := #[.int .i64 k', .int .i64 v']) (o := f.offset) (v := .int .i64 k') a3 (by rw [a5']; rfl) w
   have e3 := fun (w : World) => run_part_int (P := P) (t := g.type) (cs := #[.int .i64 k, .int .i64 v]) (o := g.offset) (v := .int .i64 v) a4 (by rw [a6']; rfl) w
   have e4 := fun (w : World) => run_part_int (P := P) (t := g.type) (cs := #[.int .i64 k', .int .i64 v']) (o := g.offset) (v := .int .i64 v') a4 (by rw [a6']; rfl) w
   have e5 := run_equal_int (P := P) (d := d) (t := f.type) (s := k) (u := k') a3
   have e6 := run_equal_int (P := P) (d := d) (t := g.type) (s := v) (u := v') a4
   have c1 : (f.name ≠ "_") = True := by simpa using a1
   have c2 : (g.name ≠ "_") = True := by simpa using a2
   simp only [List.forIn_toArray, Array.forIn_toList, List.forIn_cons, List.forIn_nil, c1, c2, if_true, bind_assoc]
   rw [run_bind_ok (e1 w), run_bind_ok (e2 w), run_bind_ok (e5 w)]
   cases hk : (k == k') with
   | false => simp [go_sem]
   | true =>
     simp only [Bool.not_true, Bool.false_eq_true, if_false, pure_bind, bind_assoc]
     rw [run_bind_ok (e3 w), run_bind_ok (e4 w), run_bind_ok (e6 w)]
     cases hv : (v == v') <;> simp [go_sem]
  ·cases h1
 ·cases h1
theorem run_equal_row {t : TypeId} {k v k' v' : Int} (ht : rowB P t = true) (w : World) :
 (Op.equal t (.agg #[.int .i64 k, .int .i64 v]) (.agg #[.int .i64 k', .int .i64 v'])).run P w = .ok (k == k' && v == v') w := run_equalIn_row (d := 9998) ht w
theorem tagB_g {t : TypeId} (h : tagB P t = true) : (!P.eqGuardType P.depth t) = true := by unfold tagB at h; simp only [Bool.and_eq_true] at h; exact h.2
theorem rowB_g {t : TypeId} (h : rowB P t = true) : (!P.eqGuardType P.depth t) = true := by unfold rowB at h; simp only [Bool.and_eq_true] at h; exact h.2
theorem run_tagEq {t : TypeId} {x y : Operand} {k v k' v' : Str} (ht : tagB P t = true) (w : World) :
 (do eqGuard .eql t x y (.agg #[.string (bs k), .string (bs v)]) (.agg #[.string (bs k'), .string (bs v')]); binOp .eql t (.agg #[.string (bs k), .string (bs v)]) (.agg #[.string (bs k'), .string (bs v')])).run P w
  = .ok (.bool (k == k' && v == v')) w := by
 rw [run_bind_ok (tagB_guard (tagB_g ht) w)]
 simp only [binOp]
 rw [run_bind_ok (run_equal_tag ht w)]
 rfl
theorem run_tagNe {t : TypeId} {x y : Operand} {k v k' v' : Str} (ht : tagB P t = true) (w : World) :
 (do eqGuard .neq t x y (.agg #[.string (bs k), .string (bs v)]) (.agg #[.string (bs k'), .string (bs v')]); binOp .neq t (.agg #[.string (bs k), .string (bs v)]) (.agg #[.string (bs k'), .string (bs v')])).run P w
  = .ok (.bool (!(k == k' && v == v'))) w := by
 rw [run_bind_ok (tagB_guard (tagB_g ht) w)]
 simp only [binOp]
 rw [run_bind_ok (run_equal_tag ht w)]
 rfl
theorem run_rowNe {t : TypeId} {x y : Operand} {k v k' v' : Int} (ht : rowB P t = true) (w : World) :
 (do eqGuard .neq t x y (.agg #[.int .i64 k, .int .i64 v]) (.agg #[.int .i64 k', .int .i64 v']); binOp .neq t (.agg #[.int .i64 k, .int .i64 v]) (.agg #[.int .i64 k', .int .i64 v'])).run P w
  = .ok (.bool (!(k == k' && v == v'))) w := by
 rw [run_bind_ok (tagB_guard (rowB_g ht) w)]
 simp only [binOp]
 rw [run_bind_ok (run_equal_row ht w)]
 rfl
theorem row_beq (x y : Row) : (x == y) = (x.t == y.t && x.v == y.v) := by
 rw [Bool.eq_iff_iff]
 simp only [beq_iff_eq, Bool.and_eq_true]
 constructor
 ·rintro rfl; exact ⟨rfl, rfl⟩
 ·rintro ⟨h1, h2⟩; cases x; cases y; simp_all
theorem tag_beq (x y : Tag) : (x == y) = (x.key == y.key && x.val == y.val) := by
 rw [Bool.eq_iff_iff]
 simp only [beq_iff_eq, Bool.and_eq_true]
 constructor
 ·rintro rfl; exact ⟨rfl, rfl⟩
 ·rintro ⟨h1, h2⟩; cases x; cases y; simp_all
def binAt (n : Nat) (ops : Array Oper) (j : Nat) (e : Env) : Option (BinOp × TypeId × Value × Value) :=
 bif goAt n ops j e then
  match (opAt ops j).op with
  | .binOp op t x y _ => some (op, t, ev e x, ev e y)
  | _ => none
 else none
def sidxAt (n : Nat) (ops : Array Oper) (j : Nat) (e : Env) : Option (TypeId × Value × Value) :=
 bif goAt n ops j e then
  match (opAt ops j).op with
  | .index t x y => some (t, ev e x, ev e y)
  | _ => none
 else none
def sliAt (n : Nat) (ops : Array Oper) (j : Nat) (e : Env) : Option (TypeId × Value × Option Value × Option Value) :=
 bif goAt n ops j e then
  match (opAt ops j).op with
  | .slice t x lo hi none => some (t, ev e x, lo.map (ev e), hi.map (ev e))
  | _ => none
 else none
theorem run_bin {n : Nat} {ops : Array Oper} {j : Nat} {e : Env} {op : BinOp} {t : TypeId} {a b v : Value} {w : World} (h : binAt n ops j e = some (op, t, a, b))
 (hr : ∀ x y, (do eqGuard op t x y a b; binOp op t a b).run P w = .ok v w) : goAt n ops j e = true ∧ (execOp (ev e) (opAt ops j)).run P w = .ok (.value v) w := by
 obtain ⟨hg, h⟩ := goAt_of h
 refine ⟨hg, ?_⟩
 split at h
 ·rename_i op' t' x y z hop
  simp only [Option.some.injEq, Prod.mk.injEq] at h
  obtain ⟨rfl, rfl, rfl, rfl⟩ := h
  simp only [execOp, hop]
  exact run_bind_ok (hr x y)
 ·cases h
theorem run_sidxAt {n : Nat} {ops : Array Oper} {j : Nat} {e : Env} {t : TypeId} {a b v : Value} {w : World} (h : sidxAt n ops j e = some (t, a, b))
 (hr : (Instr.index t a b).run P w = .ok v w) : goAt n ops j e = true ∧ (execOp (ev e) (opAt ops j)).run P w = .ok (.value v) w := by
 obtain ⟨hg, h⟩ := goAt_of h
 refine ⟨hg, ?_⟩
 split at h
 ·rename_i t' x y hop
  simp only [Option.some.injEq, Prod.mk.injEq] at h
  obtain ⟨rfl, rfl, rfl⟩ := h
  simp only [execOp, hop]
  exact run_bind_ok hr
 ·cases h
theorem run_sliAt {n : Nat} {ops : Array Oper} {j : Nat} {e : Env} {t : TypeId} {a v : Value} {lo hi : Option Value} {w : World} (h : sliAt n ops j e = some (t, a, lo, hi))
 (hr : (Instr.sliceAt t a lo hi none).run P w = .ok v w) : goAt n ops j e = true ∧ (execOp (ev e) (opAt ops j)).run P w = .ok (.value v) w := by
 obtain ⟨hg, h⟩ := goAt_of h
 refine ⟨hg, ?_⟩
 split at h
 ·rename_i t' x lo' hi' hop
  simp only [Option.some.injEq, Prod.mk.injEq] at h
  obtain ⟨rfl, rfl, rfl, rfl⟩ := h
  simp only [execOp, hop]
  exact run_bind_ok hr
 ·cases h
end
section
variable {P : Program} {n : Nat} {K : Env → World → Prop} {ops : Array Oper} {j : Nat} {e : Env} {w : World}
theorem RG.cat {t : TypeId} {s u : Str} (h : binAt n ops j e = some (.add, t, .string (bs s), .string (bs u))) (hl : s.length + u.length ≤ 9000000000000000000)
 (H : RG P n K ops (j + 1) (putE e (opAt ops j).dst (.string (bs (s ++ u)))) w) : RG P n K ops j e w :=
 have h1 := run_bin (P := P) (w := w) h (fun _ _ => run_cat hl w)
 RG.val h1.1 h1.2 H
theorem RG.tagEq {t : TypeId} {x y : Tag} (h : binAt n ops j e = some (.eql, t, .agg #[.string (bs x.key), .string (bs x.val)], .agg #[.string (bs y.key), .string (bs y.val)])) (ht : tagB P t = true)
 (H : RG P n K ops (j + 1) (putE e (opAt ops j).dst (.bool (x == y))) w) : RG P n K ops j e w :=
 have h1 := run_bin (P := P) (w := w) h (fun _ _ => run_tagEq ht w)
 RG.val h1.1 (by rw [tag_beq]; exact h1.2) H
theorem RG.tagNe {t : TypeId} {x y : Tag} (h : binAt n ops j e = some (.neq, t, .agg #[.string (bs x.key), .string (bs x.val)], .agg #[.string (bs y.key), .string (bs y.val)])) (ht : tagB P t = true)
 (H : RG P n K ops (j + 1) (putE e (opAt ops j).dst (.bool (!(x == y)))) w) : RG P n K ops j e w :=
 have h1 := run_bin (P := P) (w := w) h (fun _ _ => run_tagNe ht w)
 RG.val h1.1 (by rw [tag_beq]; exact h1.2) H
theorem RG.rowNe {t : TypeId} {x y : Row} (h : binAt n ops j e = some (.neq, t, .agg #[.int .i64 x.t, .int .i64 x.v], .agg #[.int .i64 y.t, .int .i64 y.v])) (ht : rowB P t = true)
 (H : RG P n K ops (j + 1) (putE e (opAt ops j).dst (.bool (!(x == y)))) w) : RG P n K ops j e w :=
 have h1 := run_bin (P := P) (w := w) h (fun _ _ => run_rowNe ht w)
 RG.val h1.1 (by rw [row_beq]; exact h1.2) H
theorem RG.rem {t : TypeId} {k : IntKind} {a b : Int} (h : binAt n ops j e = some (.rem, t, .int k a, .int k b)) (hb : b ≠ 0)
 (H : RG P n K ops (j + 1) (putE e (opAt ops j).dst (.int k (a.tmod b))) w) : RG P n K ops j e w :=
 have h1 := run_bin (P := P) (w := w) h (fun _ _ => run_rem hb w)
 RG.val h1.1 h1.2 H
theorem RG.quo {t : TypeId} {a b : Int} (h : binAt n ops j e = some (.quo, t, .int .i64 a, .int .i64 b)) (hb : b ≠ 0) (hr : -9223372036854775808 ≤ a.tdiv b ∧ a.tdiv b ≤ 9223372036854775807)
 (H : RG P n K ops (j + 1) (putE e (opAt ops j).dst (.int .i64 (a.tdiv b))) w) : RG P n K ops j e w :=
 have h1 := run_bin (P := P) (w := w) h (fun _ _ => run_quo hb hr w)
 RG.val h1.1 h1.2 H
theorem RG.sidx {t : TypeId} {s : Str} {k : IntKind} {i : Int} {x : UInt8} (i' : Nat) (h : sidxAt n ops j e = some (t, .string (bs s), .int k i)) (ht : undB P t = true) (hi : i = (i' : Int)) (hx : s[i']? = some x)
 (H : RG P n K ops (j + 1) (putE e (opAt ops j).dst (.int .u8 (x.toNat : Int))) w) : RG P n K ops j e w :=
 have h1 := run_sidxAt h (run_sidx i' ht hi hx w)
 RG.val h1.1 h1.2 H
theorem RG.ssub {t : TypeId} {s : Str} {lo hi : Option Value} (l h' : Nat) (h : sliAt n ops j e = some (t, .string (bs s), lo, hi)) (ht : undB P t = true) (hlo : bnd lo 0 l) (hhi : bnd hi s.length h') (hlh : l ≤ h') (hh : h' ≤ s.length)
 (H : RG P n K ops (j + 1) (putE e (opAt ops j).dst (.string (bs ((s.take h').drop l)))) w) : RG P n K ops j e w :=
 have h1 := run_sliAt h (run_ssub ht hlo hhi hlh hh w)
 RG.val h1.1 h1.2 H
theorem RG.sub {α : Type} [Rep α] {F : Nat → Prop} {xs : List α} {t : TypeId} {a : Option Addr} {len cap : Nat} {lo hi : Option Value} (hr : RepS w F a len cap xs) (l h' : Nat) (h : sliAt n ops j e = some (t, .slice a len cap, lo, hi)) (ht : sliB P t (Rep.sz α) = true) (hlo : bnd lo 0 l) (hhi : bnd hi len h') (hlh : l ≤ h') (hh : h' ≤ len)
 (H : ∀ a' c', RepS w F a' (h' - l) c' ((xs.take h').drop l) → RG P n K ops (j + 1) (putE e (opAt ops j).dst (.slice a' (h' - l) c')) w) : RG P n K ops j e w :=
 have h1 := run_sliAt h (run_sub ht hlo hhi hlh (Nat.le_trans hh hr.le) w)
 RG.val h1.1 h1.2 (H _ _ (hr.sub hlh hh))
end
section
variable {P : Program} {S : Nat → Prop} {n m : Nat} {L : Env → World → Prop} {ops : Array Oper} {l : List Nat} {e : Env} {w : World}
def gB (n m : Nat) (ops : Array Oper) (l : List Nat) (i : Nat) : Bool := stepB n m ops l i && freeF ops l i
theorem GA.det' {i : Nat} {v : Value} (hb : gB n m ops l i = true) (hy : ∀ w1 : World, goAt n ops i e = true ∧ (execOp (ev e) (opAt ops i)).run P w1 = .ok (.value v) w1) (H : GA P S n m L ops (i :: l) (putE e (opAt ops i).dst v) w) : GA P S n m L ops l e w :=
 GA.det (by unfold gB at hb; rw [hb, (hy w).1]; rfl) (fun w1 _ => (hy w1).2) H
theorem GA.sub {α : Type} [Rep α] {F : Nat → Prop} {xs : List α} {i : Nat} {t : TypeId} {a : Option Addr} {len cap : Nat} {lo hi : Option Value} (hb : gB n m ops l i = true) (hr : RepS w F a len cap xs) (l' h' : Nat) (h : sliAt n ops i e = some (t, .slice a len cap, lo, hi)) (ht : sliB P t (Rep.sz α) = true) (hlo : bnd lo 0 l') (hhi : bnd hi len h') (hlh : l' ≤ h') (hh : h' ≤ len)
 (H : ∀ a' c', RepS w F a' (h' - l') c' ((xs.take h').drop l') → GA P S n m L ops (i :: l) (putE e (opAt ops i).dst (.slice a' (h' - l') c')) w) : GA P S n m L ops l e w :=
 GA.det' hb (fun w => run_sliAt h (run_sub ht hlo hhi hlh (Nat.le_trans hh hr.le) w)) (H _ _ (hr.sub hlh hh))
theorem GA.cat {i : Nat} {t : TypeId} {s u : Str} (hb : gB n m ops l i = true) (h : binAt n ops i e = some (.add, t, .string (bs s), .string (bs u))) (hl : s.length + u.length ≤ 9000000000000000000)
 (H : GA P S n m L ops (i :: l) (putE e (opAt ops i).dst (.string (bs (s ++ u)))) w) : GA P S n m L ops l e w :=
 GA.det' hb (fun w => run_bin h (fun _ _ => run_cat hl w)) H
theorem GA.tagEq {i : Nat} {t : TypeId} {x y : Tag} (hb : gB n m ops l i = true) (h : binAt n ops i e = some (.eql, t, .agg #[.string (bs x.key), .string (bs x.val)], .agg #[.string (bs y.key), .string (bs y.val)])) (ht : tagB P t = true)
 (H : GA P S n m L ops (i :: l) (putE e (opAt ops i).dst (.bool (x == y))) w) : GA P S n m L ops l e w :=
 GA.det' hb (fun w => by rw [tag_beq]; exact run_bin h (fun _ _ => run_tagEq ht w)) H
theorem GA.tagNe {i : Nat} {t : TypeId} {x y : Tag} (hb : gB n m ops l i = true) (h : binAt n ops i e = some (.neq, t, .agg #[.string (bs x.key), .string (bs x.val)], .agg #[.string (bs y.key), .string (bs y.val)])) (ht : tagB P t = true)
 (H : GA P S n m L ops (i :: l) (putE e (opAt ops i).dst (.bool (!(x == y)))) w) : GA P S n m L ops l e w :=
 GA.det' hb (fun w => by rw [tag_beq]; exact run_bin h (fun _ _ => run_tagNe ht w)) H
theorem GA.rowNe {i : Nat} {t : TypeId} {x y : Row} (hb : gB n m ops l i = true) (h : binAt n ops i e = some (.neq, t, .agg #[.int .i64 x.t, .int .i64 x.v], .agg #[.int .i64 y.t, .int .i64 y.v])) (ht : rowB P t = true)
 (H : GA P S n m L ops (i :: l) (putE e (opAt ops i).dst (.bool (!(x == y)))) w) : GA P S n m L ops l e w :=
 GA.det' hb (fun w => by rw [row_beq]; exact run_bin h (fun _ _ => run_rowNe ht w)) H
theorem GA.rem {i : Nat} {t : TypeId} {k : IntKind} {a b : Int} (hb : gB n m ops l i = true) (h : binAt n ops i e = some (.rem, t, .int k a, .int k b)) (hb0 : b ≠ 0)
 (H : GA P S n m L ops (i :: l) (putE e (opAt ops i).dst (.int k (a.tmod b))) w) : GA P S n m L ops l e w :=
 GA.det' hb (fun w => run_bin h (fun _ _ => run_rem hb0 w)) H
theorem GA.sidx {i : Nat} {t : TypeId} {s : Str} {k : IntKind} {z : Int} {x : UInt8} (hb : gB n m ops l i = true) (i' : Nat) (h : sidxAt n ops i e = some (t, .string (bs s), .int k z)) (ht : undB P t = true) (hi : z = (i' : Int)) (hx : s[i']? = some x)
 (H : GA P S n m L ops (i :: l) (putE e (opAt ops i).dst (.int .u8 (x.toNat : Int))) w) : GA P S n m L ops l e w :=
 GA.det' hb (fun w => run_sidxAt h (run_sidx i' ht hi hx w)) H
theorem GA.ssub {i : Nat} {t : TypeId} {s : Str} {lo hi : Option Value} (hb : gB n m ops l i = true) (l' h' : Nat) (h : sliAt n ops i e = some (t, .string (bs s), lo, hi)) (ht : undB P t = true) (hlo : bnd lo 0 l') (hhi : bnd hi s.length h') (hlh : l' ≤ h') (hh : h' ≤ s.length)
 (H : GA P S n m L ops (i :: l) (putE e (opAt ops i).dst (.string (bs ((s.take h').drop l')))) w) : GA P S n m L ops l e w :=
 GA.det' hb (fun w => run_sliAt h (run_ssub ht hlo hhi hlh hh w)) H
end
end Go.Proofs.YtganlmloonielaaGreat
namespace Go.Proofs.YtganlmloonielaaGreat
@[reducible] def vS (b n c : Nat) : Value := .slice (some ⟨b, 0, none⟩) n c
@[reducible] def vI (z : Int) : Value := .int .i64 z
@[reducible] def vT (s : Str) : Value := .string (bs s)
def ldT (o : Option (TypeId × Addr)) : TypeId := match o with | some (t, _) => t | none => 0
def ldO (o : Option (TypeId × Addr)) : Nat := match o with | some (_, a) => off (some a) | none => 0
def ldV (cs : List Value) (o : Option (TypeId × Addr)) : Value := (cs[ldO o]?).getD undef
def ldN (P : Program) (o : Option (TypeId × Addr)) : Nat := match P.info? (ldT o) with | some i => i.size | none => 0
def ldL (P : Program) (cs : List Value) (o : Option (TypeId × Addr)) : List Value := (cs.drop (ldO o)).take (ldN P o)
def ldH (P : Program) (cs : List Value) (k : Nat) (o : Option (TypeId × Addr)) : List Value := (cs.drop k).take (ldN P o)
def stT (o : Option (TypeId × Addr × Value)) : TypeId := match o with | some (t, _) => t | none => 0
def lbE (cs : List Value) (n : Nat) (ops : Array Oper) (j : Nat) (e : Env) : Env := putE e (opAt ops j).dst (ldV cs (loadAt n ops j e))
def lnE (P : Program) (cs : List Value) (n : Nat) (ops : Array Oper) (j : Nat) (e : Env) : Env := putE e (opAt ops j).dst (.agg (ldL P cs (loadAt n ops j e)).toArray)
def lgE (P : Program) (cs : List Value) (k n : Nat) (ops : Array Oper) (j : Nat) (e : Env) : Env := putE e (opAt ops j).dst (.agg (ldH P cs k (loadAt n ops j e)).toArray)
def lbG (cs : List Value) (n m : Nat) (ops : Array Oper) (l : List Nat) (i : Nat) (e : Env) : Env := putE e (opAt ops i).dst (ldV cs (gLoad n m ops l i e))
def lnG (P : Program) (cs : List Value) (n m : Nat) (ops : Array Oper) (l : List Nat) (i : Nat) (e : Env) : Env := putE e (opAt ops i).dst (.agg (ldL P cs (gLoad n m ops l i e)).toArray)
def lgG (P : Program) (cs : List Value) (k n m : Nat) (ops : Array Oper) (l : List Nat) (i : Nat) (e : Env) : Env := putE e (opAt ops i).dst (.agg (ldH P cs k (gLoad n m ops l i e)).toArray)
section
variable {P : Program} {n : Nat} {K : Env → World → Prop} {ops : Array Oper} {j : Nat} {e : Env} {w : World} {t t' : TypeId} {b o : Nat} {cs : List Value} {v : Value}
theorem RG.r (m : Nat) (H : RG P n K ops (j + m) (runE P ops m j e) w) (h : runOk P n ops m j e = true := by kernel_rfl) : RG P n K ops j e w := RG.run m h H
theorem RG.d (H : K e w) (h : Nat.beq ops.toList.length j = true := by kernel_rfl) : RG P n K ops j e w := RG.done h H
theorem RG.lb (hb : Box w b t cs) (H : RG P n K ops (j + 1) (lbE cs n ops j e) w)
 (h : loadAt n ops j e = some (ldT (loadAt n ops j e), ⟨b, ldO (loadAt n ops j e), none⟩) := by kernel_rfl)
 (hs : scalarB P (ldT (loadAt n ops j e)) = true := by kernel_rfl) (hv : cs[ldO (loadAt n ops j e)]? = some (ldV cs (loadAt n ops j e)) := by kernel_rfl) : RG P n K ops j e w :=
 RG.loadB hb h hs hv H
theorem RG.ln (hb : Box w b t cs) (H : RG P n K ops (j + 1) (lnE P cs n ops j e) w)
 (h : loadAt n ops j e = some (ldT (loadAt n ops j e), ⟨b, ldO (loadAt n ops j e), none⟩) := by kernel_rfl)
 (hs : aggB P (ldT (loadAt n ops j e)) (ldL P cs (loadAt n ops j e)).length = true := by kernel_rfl)
 (hv : (cs.drop (ldO (loadAt n ops j e))).take (ldL P cs (loadAt n ops j e)).length = ldL P cs (loadAt n ops j e) := by kernel_rfl) : RG P n K ops j e w :=
 RG.loadBN _ hb h hs hv H
theorem RG.lh (k : Nat) (hc : Has w ⟨b, o, none⟩ cs) (H : RG P n K ops (j + 1) (putE e (opAt ops j).dst ((cs[k]?).getD undef)) w)
 (h : loadAt n ops j e = some (ldT (loadAt n ops j e), ⟨b, o + k, none⟩) := by kernel_rfl)
 (hs : scalarB P (ldT (loadAt n ops j e)) = true := by kernel_rfl) (hv : cs[k]? = some ((cs[k]?).getD undef) := by kernel_rfl) : RG P n K ops j e w :=
 RG.loadH k hc h hs hv H
theorem RG.lg (k : Nat) (hc : Has w ⟨b, o, none⟩ cs) (H : RG P n K ops (j + 1) (lgE P cs k n ops j e) w)
 (h : loadAt n ops j e = some (ldT (loadAt n ops j e), ⟨b, o + k, none⟩) := by kernel_rfl)
 (hs : aggB P (ldT (loadAt n ops j e)) (ldH P cs k (loadAt n ops j e)).length = true := by kernel_rfl)
 (hv : (cs.drop k).take (ldH P cs k (loadAt n ops j e)).length = ldH P cs k (loadAt n ops j e) := by kernel_rfl) : RG P n K ops j e w :=
 RG.loadHN k _ hc h hs hv H
theorem RG.sb (o : Nat) (v : Value) (cs' : List Value) (hb : Box w b t cs)
 (H : ∀ w', Chg (one b) w w' → Box w' b t cs' → w'.heap.size = w.heap.size → RG P n K ops (j + 1) (putE e (opAt ops j).dst undef) w')
 (h : storeAt n ops j e = some (stT (storeAt n ops j e), ⟨b, o, none⟩, v) := by kernel_rfl)
 (hs : (sizeB P (stT (storeAt n ops j e)) v.cells.size && Nat.ble (o + v.cells.size) cs.length && v.cells.toList.all oneC) = true := by kernel_rfl)
 (hc : splice cs o v.cells.toList = cs' := by kernel_rfl) : RG P n K ops j e w :=
 RG.storeB cs' hb h hs hc H
theorem RG.ss (o : Nat) (v : Value) (hb : Box w b t cs)
 (H : ∀ w', Chg (one b) w w' → Box w' b t (cs.set o v) → w'.heap.size = w.heap.size → RG P n K ops (j + 1) (putE e (opAt ops j).dst undef) w')
 (h : storeAt n ops j e = some (stT (storeAt n ops j e), ⟨b, o, none⟩, v) := by kernel_rfl)
 (hs : (sizeB P (stT (storeAt n ops j e)) v.cells.size && Nat.ble (o + v.cells.size) cs.length && v.cells.toList.all oneC) = true := by kernel_rfl)
 (hc : splice cs o v.cells.toList = cs.set o v := by kernel_rfl) : RG P n K ops j e w := RG.storeB _ hb h hs hc H
theorem RG.sc (vs : List Value) (hb : Box w b t cs)
 (H : ∀ w', Chg (one b) w w' → Box w' b t vs → w'.heap.size = w.heap.size → RG P n K ops (j + 1) (putE e (opAt ops j).dst undef) w')
 (h : storeAt n ops j e = some (stT (storeAt n ops j e), ⟨b, 0, none⟩, .agg vs.toArray) := by kernel_rfl)
 (hs : (sizeB P (stT (storeAt n ops j e)) (Value.agg vs.toArray).cells.size && Nat.ble (0 + (Value.agg vs.toArray).cells.size) cs.length && (Value.agg vs.toArray).cells.toList.all oneC) = true := by kernel_rfl)
 (hc : splice cs 0 (Value.agg vs.toArray).cells.toList = vs := by kernel_rfl) : RG P n K ops j e w := RG.storeB _ hb h hs hc H
theorem RG.ix {α : Type} [Rep α] {F : Nat → Prop} {a : Option Addr} {m c : Nat} {xs : List α} (i sz : Nat) (hr : RepS w F a m c xs) (hi : i < m)
 (H : RG P n K ops (j + 1) (putE e (opAt ops j).dst (.pointer (some ⟨blk a, off a + i * sz, none⟩))) w) (h : idxAt P n ops j e = some (a, m, (i : Int), sz) := by kernel_rfl) : RG P n K ops j e w :=
 RG.idx i h rfl hi (hr.addr (Nat.zero_lt_of_lt hi)) H
theorem RG.nw (v : Nat → Value) (t : TypeId) (cs : List Value)
 (H : ∀ b w', b = w.heap.size → Ext w w' → Box w' b t cs → w'.heap.size = b + 1 → RG P n K ops (j + 1) (putE e (opAt ops j).dst (v b)) w')
 (h : ∀ b, newBoxAt P n ops j e b = some (v b, t, cs) := by intro _; kernel_rfl) : RG P n K ops j e w := RG.new h H
theorem RG.np (t : TypeId) (cs : List Value)
 (H : ∀ b w', b = w.heap.size → Ext w w' → Box w' b t cs → w'.heap.size = b + 1 → RG P n K ops (j + 1) (putE e (opAt ops j).dst (.pointer (some ⟨b, 0, none⟩))) w')
 (h : ∀ b, newBoxAt P n ops j e b = some (.pointer (some ⟨b, 0, none⟩), t, cs) := by intro _; kernel_rfl) : RG P n K ops j e w := RG.new h H
theorem RG.ns (m : Nat) (t : TypeId) (cs : List Value)
 (H : ∀ b w', b = w.heap.size → Ext w w' → Box w' b t cs → w'.heap.size = b + 1 → RG P n K ops (j + 1) (putE e (opAt ops j).dst (.slice (some ⟨b, 0, none⟩) m m)) w')
 (h : ∀ b, newBoxAt P n ops j e b = some (.slice (some ⟨b, 0, none⟩) m m, t, cs) := by intro _; kernel_rfl) : RG P n K ops j e w := RG.new h H
theorem RG.bp (p : Prop) [Decidable p] (ht : p → RG P n K ops (j + 1) (putE e (opAt ops j).dst (.bool true)) w)
 (hf : ¬ p → RG P n K ops (j + 1) (putE e (opAt ops j).dst (.bool false)) w) (h : pvAt P n ops j e = some (.bool (decide p)) := by kernel_rfl) : RG P n K ops j e w := RG.boolP p h ht hf
theorem RG.eq (a b : Int) (ht : a = b → RG P n K ops (j + 1) (putE e (opAt ops j).dst (.bool true)) w)
 (hf : a ≠ b → RG P n K ops (j + 1) (putE e (opAt ops j).dst (.bool false)) w) (h : pvAt P n ops j e = some (.bool (a == b)) := by kernel_rfl) : RG P n K ops j e w := RG.eqI h ht hf
theorem RG.ne (a b : Int) (ht : a ≠ b → RG P n K ops (j + 1) (putE e (opAt ops j).dst (.bool true)) w)
 (hf : a = b → RG P n K ops (j + 1) (putE e (opAt ops j).dst (.bool false)) w) (h : pvAt P n ops j e = some (.bool (a != b)) := by kernel_rfl) : RG P n K ops j e w := RG.neI h ht hf
theorem RG.it (z : Int) (H : RG P n K ops (j + 1) (putE e (opAt ops j).dst (.int .i64 z)) w) (h : pvAt P n ops j e = some (.int .i64 (IntKind.i64.wrap z)) := by kernel_rfl)
 (hz : -9223372036854775808 ≤ z ∧ z ≤ 9223372036854775807 := by omega) : RG P n K ops j e w := RG.int z h hz H
theorem RG.cl {f : FuncId} {args : List Value} {Q : Value → World → Prop} (hc : Calls P f args.toArray w (rets Q))
 (H : ∀ v w', Q v w' → RG P n K ops (j + 1) (putE e (opAt ops j).dst v) w') (h : callAt P n ops j e = some (f, args) := by kernel_rfl) : RG P n K ops j e w := RG.call h hc H
end
section
variable {P : Program} {f : FuncId} {fn : Func} {R : Value → World → Prop} {c : Code} {k : List Item} {e : Env} {w : World} {v : Value}
theorem T.s (H : T P f fn R (.code (lft c) :: .code (rgt c) :: k) e w) (h : isSeq c = true := by kernel_rfl) : T P f fn R (.code c :: k) e w := T.seq h H
theorem T.sk (H : T P f fn R k e w) (h : isSkip c = true := by kernel_rfl) : T P f fn R (.code c :: k) e w := T.skip h H
theorem T.b (i : Nat) (H : T P f fn R (.code (bdy c) :: .inBlock i :: k) e w) (h : isBlock c i = true := by kernel_rfl) : T P f fn R (.code c :: k) e w := T.block i h H
theorem T.ib (i : Nat) (H : T P f fn R k e w) : T P f fn R (.inBlock i :: k) e w := T.inBlock i H
theorem T.x (i : Nat) {k' : List Item} (hk : exitTo i k = some k') (H : T P f fn R k' e w) (h : isExit c i = true := by kernel_rfl) : T P f fn R (.code c :: k) e w := T.exit i h hk H
theorem T.ct (H : T P f fn R (.code (thn c) :: k) e w) (h : condVal e c = .bool true := by kernel_rfl) : T P f fn R (.code c :: k) e w := T.condT h H
theorem T.cf (H : T P f fn R (.code (els c) :: k) e w) (h : condVal e c = .bool false := by kernel_rfl) : T P f fn R (.code c :: k) e w := T.condF h H
theorem T.g (H : RG P fn.ntmps (fun e' w' => T P f fn R k e' w') (opsC c) 0 e w) (h : isReg c false = true := by kernel_rfl) : T P f fn R (.code c :: k) e w := T.region h H
theorem T.gd (S : Nat → Prop) (m : Nat)
 (H : ∀ w1, Ext w w1 → GA P S fn.ntmps m (fun e' w' => RG P fn.ntmps (fun e'' w'' => T P f fn R k e'' w'') (opsC c) m e' w') (opsC c) [] e w1)
 (h : (isReg c true && P.follows .mixedOrders && drawB (opsC c) m) = true := by kernel_rfl) : T P f fn R (.code c :: k) e w := T.regionD S m h H
theorem T.rt {t : Tmp} (hf : P.funcs[f]? = some fn) (hres : fn.results = #[.tmp t]) (v : Value) (hR : R v w) (h : isRet c = true := by kernel_rfl) (h1 : e t = v := by kernel_rfl) : T P f fn R (.code c :: k) e w :=
 T.ret1 h hf hres (Res1.tmp h1) hR
theorem Res1.bx {x t u : Nat} {b : Nat} {cs : List Value} (hb : Box w b u cs) (h1 : e x = .pointer (some ⟨b, 0, none⟩) := by kernel_rfl) (h2 : aggB P t cs.length = true := by kernel_rfl) : Res1 P w e (.cell x t) (.agg cs.toArray) :=
 Res1.cell h1 ((hb.has 0 cs (by simp)).loadN h2)
theorem Res1.t {t : Tmp} (v : Value) (h : e t = v := by kernel_rfl) : Res1 P w e (.tmp t) v := h
theorem T.rb {x t u : Nat} {b : Nat} {cs : List Value} (hf : P.funcs[f]? = some fn) (hres : fn.results = #[.cell x t]) (hb : Box w b u cs) (hR : R (.agg cs.toArray) w) (h : isRet c = true := by kernel_rfl)
 (h1 : e x = .pointer (some ⟨b, 0, none⟩) := by kernel_rfl) (h2 : aggB P t cs.length = true := by kernel_rfl) : T P f fn R (.code c :: k) e w :=
 T.ret1 h hf hres (Res1.bx hb h1 h2) hR
theorem T.r2 {r r' : ResultVar} {v v' : Value} (hf : P.funcs[f]? = some fn) (hres : fn.results = #[r, r']) (h1 : Res1 P w e r v) (h2 : Res1 P w e r' v') (hR : R (.tuple #[v, v']) w) (h : isRet c = true := by kernel_rfl) : T P f fn R (.code c :: k) e w :=
 T.ret2 h hf hres h1 h2 hR
theorem T.r3 {r r' r'' : ResultVar} {v v' v'' : Value} (hf : P.funcs[f]? = some fn) (hres : fn.results = #[r, r', r'']) (h1 : Res1 P w e r v) (h2 : Res1 P w e r' v') (h3 : Res1 P w e r'' v'') (hR : R (.tuple #[v, v', v'']) w) (h : isRet c = true := by kernel_rfl) : T P f fn R (.code c :: k) e w :=
 T.ret3 h hf hres h1 h2 h3 hR
theorem goT {args : List Value} (hf : P.funcs[f]? = some fn) (H : T P f fn R [.code (bodyOf fn)] (env0 args) w) (hb : fn.body = some (bodyOf fn) := by kernel_rfl) (hn : Nat.ble args.length fn.ntmps = true := by kernel_rfl) : Calls P f args.toArray w (rets R) :=
 calls_T hf hb hn H
end
section
variable {P : Program} {S : Nat → Prop} {n m : Nat} {L : Env → World → Prop} {ops : Array Oper} {l : List Nat} {e : Env} {w : World} {t : TypeId} {b o : Nat} {cs : List Value}
theorem GA.r (is : List Nat) (H : GA P S n m L ops (is.reverse ++ l) (gRunE P ops is e) w) (h : gRunOk P n m ops is l e = true := by kernel_rfl) : GA P S n m L ops l e w := GA.run is h H
theorem GA.d (H : ∀ w1, Ext w w1 → L e w1) (h : (Nat.beq l.length m && Nat.beq (maskL l) (maskL (List.range m))) = true := by kernel_rfl) : GA P S n m L ops l e w := GA.done h H
theorem GA.lb (i : Nat) (hb : Box w b t cs) (hS : ¬ S b) (H : GA P S n m L ops (i :: l) (lbG cs n m ops l i e) w)
 (h : gLoad n m ops l i e = some (ldT (gLoad n m ops l i e), ⟨b, ldO (gLoad n m ops l i e), none⟩) := by kernel_rfl)
 (hs : scalarB P (ldT (gLoad n m ops l i e)) = true := by kernel_rfl) (hv : cs[ldO (gLoad n m ops l i e)]? = some (ldV cs (gLoad n m ops l i e)) := by kernel_rfl) : GA P S n m L ops l e w :=
 GA.loadB hb hS h hs hv H
theorem GA.ln (i : Nat) (hb : Box w b t cs) (hS : ¬ S b) (H : GA P S n m L ops (i :: l) (lnG P cs n m ops l i e) w)
 (h : gLoad n m ops l i e = some (ldT (gLoad n m ops l i e), ⟨b, ldO (gLoad n m ops l i e), none⟩) := by kernel_rfl)
 (hs : aggB P (ldT (gLoad n m ops l i e)) (ldL P cs (gLoad n m ops l i e)).length = true := by kernel_rfl)
 (hv : (cs.drop (ldO (gLoad n m ops l i e))).take (ldL P cs (gLoad n m ops l i e)).length = ldL P cs (gLoad n m ops l i e) := by kernel_rfl) : GA P S n m L ops l e w :=
 GA.loadBN _ hb hS h hs hv H
theorem GA.lh (i k : Nat) (hc : Has w ⟨b, o, none⟩ cs) (hS : ¬ S b) (H : GA P S n m L ops (i :: l) (putE e (opAt ops i).dst ((cs[k]?).getD undef)) w)
 (h : gLoad n m ops l i e = some (ldT (gLoad n m ops l i e), ⟨b, o + k, none⟩) := by kernel_rfl)
 (hs : scalarB P (ldT (gLoad n m ops l i e)) = true := by kernel_rfl) (hv : cs[k]? = some ((cs[k]?).getD undef) := by kernel_rfl) : GA P S n m L ops l e w :=
 GA.loadH k hc hS h hs hv H
theorem GA.lg (i k : Nat) (hc : Has w ⟨b, o, none⟩ cs) (hS : ¬ S b) (H : GA P S n m L ops (i :: l) (lgG P cs k n m ops l i e) w)
 (h : gLoad n m ops l i e = some (ldT (gLoad n m ops l i e), ⟨b, o + k, none⟩) := by kernel_rfl)
 (hs : aggB P (ldT (gLoad n m ops l i e)) (ldH P cs k (gLoad n m ops l i e)).length = true := by kernel_rfl)
 (hv : (cs.drop k).take (ldH P cs k (gLoad n m ops l i e)).length = ldH P cs k (gLoad n m ops l i e) := by kernel_rfl) : GA P S n m L ops l e w :=
 GA.loadHN k _ hc hS h hs hv H
theorem GA.ix {α : Type} [Rep α] {F : Nat → Prop} {a : Option Addr} {N c : Nat} {xs : List α} (k i sz : Nat) (hr : RepS w F a N c xs) (hi : i < N)
 (H : GA P S n m L ops (k :: l) (putE e (opAt ops k).dst (.pointer (some ⟨blk a, off a + i * sz, none⟩))) w) (h : gIdx P n m ops l k e = some (a, N, (i : Int), sz) := by kernel_rfl) : GA P S n m L ops l e w :=
 GA.idx i h rfl hi (hr.addr (Nat.zero_lt_of_lt hi)) H
theorem GA.go (i : Nat) (H : GE P S n m L ops l i e w) (h : oneB n m ops l i e = true := by kernel_rfl) : GA P S n m L ops l e w := GE.one h H
theorem GA.tw (i j : Nat) (Hi : GE P S n m L ops l i e w) (Hj : GE P S n m L ops l j e w) (h : twoB n m ops l i j e = true := by kernel_rfl) : GA P S n m L ops l e w := GE.two h Hi Hj
theorem GE.nw {i : Nat} (v : Nat → Value) (t : TypeId) (cs : List Value)
 (H : ∀ w1, Ext w w1 → ∀ b w2, b = w1.heap.size → Ext w1 w2 → Box w2 b t cs → w2.heap.size = b + 1 → GA P S n m L ops (i :: l) (putE e (opAt ops i).dst (v b)) w2)
 (hn : ∀ b, newBoxAt P n ops i e b = some (v b, t, cs) := by intro _; kernel_rfl) : GE P S n m L ops l i e w := GE.new hn H
theorem GE.ns {i : Nat} (k : Nat) (t : TypeId) (cs : List Value)
 (H : ∀ w1, Ext w w1 → ∀ b w2, b = w1.heap.size → Ext w1 w2 → Box w2 b t cs → w2.heap.size = b + 1 → GA P S n m L ops (i :: l) (putE e (opAt ops i).dst (.slice (some ⟨b, 0, none⟩) k k)) w2)
 (hn : ∀ b, newBoxAt P n ops i e b = some (.slice (some ⟨b, 0, none⟩) k k, t, cs) := by intro _; kernel_rfl) : GE P S n m L ops l i e w := GE.new hn H
theorem GE.cl {i : Nat} {f : FuncId} {args : List Value} {Q : World → Value → World → Prop} (hc : ∀ w1, Ext w w1 → Calls P f args.toArray w1 (rets (Q w1)))
 (H : ∀ w1, Ext w w1 → ∀ v w2, Q w1 v w2 → Chg S w1 w2 ∧ GA P S n m L ops (i :: l) (putE e (opAt ops i).dst v) w2) (hf : callAt P n ops i e = some (f, args) := by kernel_rfl) : GE P S n m L ops l i e w := GE.call hf hc H
end
class MemL (b : Nat) (M : List Nat) : Prop where m : b ∈ M
instance {b : Nat} {M : List Nat} : MemL b (b :: M) := ⟨.head _⟩
instance {a b : Nat} {M : List Nat} [h : MemL b M] : MemL b (a :: M) := ⟨.tail _ h.m⟩
class Rpl (M : List Nat) (r r2 : Nat) (M' : outParam (List Nat)) : Prop where
 p : ∀ k, k ∉ M → k ≠ r2 → k ∉ M'
 q : r ∈ M
instance {r r2 : Nat} {M : List Nat} : Rpl (r :: M) r r2 (r2 :: M) := ⟨fun k h h2 hk => by
 rcases List.mem_cons.1 hk with rfl | hk
 ·exact h2 rfl
 ·exact h (.tail _ hk), .head _⟩
instance {a r r2 : Nat} {M M' : List Nat} [i : Rpl M r r2 M'] : Rpl (a :: M) r r2 (a :: M') := ⟨fun k h h2 hk => by
 rcases List.mem_cons.1 hk with rfl | hk
 ·exact h (.head _)
 ·exact i.p k (fun hm => h (.tail _ hm)) h2 hk, .tail _ i.q⟩
class Drp (M : List Nat) (r : Nat) (M' : outParam (List Nat)) : Prop where
 p : ∀ k ∈ M', k ∈ M
 q : ∀ k ∈ M, k ∈ M' ∨ k = r
instance {r : Nat} {M : List Nat} : Drp (r :: M) r M := ⟨fun _ h => .tail _ h, fun k h => by
 rcases List.mem_cons.1 h with rfl | h
 ·exact .inr rfl
 ·exact .inl h⟩
instance {a r : Nat} {M M' : List Nat} [i : Drp M r M'] : Drp (a :: M) r (a :: M') := ⟨fun k h => by
 rcases List.mem_cons.1 h with rfl | h
 ·exact .head _
 ·exact .tail _ (i.p k h), fun k h => by
 rcases List.mem_cons.1 h with rfl | h
 ·exact .inl (.head _)
 ·exact (i.q k h).imp (.tail _) id⟩
class NbA (b : Nat) (K : List Nat) : Prop where a : ∀ k ∈ K, b ≠ k
instance {b : Nat} : NbA b [] := ⟨fun _ h => by cases h⟩
instance {b k : Nat} {K : List Nat} [h : Nb b k] [i : NbA b K] : NbA b (k :: K) := ⟨fun x hx => by
 rcases List.mem_cons.1 hx with rfl | hx
 ·exact h.ne
 ·exact i.a x hx⟩
instance {b k : Nat} {K : List Nat} [h : Nb k b] [i : NbA b K] : NbA b (k :: K) := ⟨fun x hx => by
 rcases List.mem_cons.1 hx with rfl | hx
 ·exact h.ne.symm
 ·exact i.a x hx⟩
class CovA (L : Nat → Prop) (w : World) (K : List Nat) : Prop where a : ∀ k ∈ K, Cov L w k
instance {L : Nat → Prop} {w : World} : CovA L w [] := ⟨fun _ h => by cases h⟩
instance {L : Nat → Prop} {w : World} {k : Nat} {K : List Nat} [h : Cov L w k] [i : CovA L w K] : CovA L w (k :: K) := ⟨fun x hx => by
 rcases List.mem_cons.1 hx with rfl | hx
 ·exact h
 ·exact i.a x hx⟩
structure Sp (M M' : List Nat) (S : Nat → Prop) (w w' : World) : Prop where
 mv : Mv M M' w w'
 ch : Chg S w w'
class MT (M M' : List Nat) (S : Nat → Prop) (w w' : World) (A : Prop) (B : outParam Prop) : Prop where go : Mv M M' w w' → Chg S w w' → A → B
section
variable {α : Type} [Rep α] {w w' base : World} {G S L : Nat → Prop} {M M' K : List Nat} {a : Option Addr} {n c r b k : Nat} {t : TypeId} {xs : List α} {cs : List Value}
instance : MT M M' S w w' (RepS w (nin G M) a n c xs) (RepS w' (nin G M') a n c xs) := ⟨fun hm _ h => h.mv hm⟩
instance : MT M M' nil w w' (Box w b t cs) (Box w' b t cs) := ⟨fun _ hx h => h.mv hx (fun h => h)⟩
instance [h : Nb b k] : MT M M' (one k) w w' (Box w b t cs) (Box w' b t cs) := ⟨fun _ hx g => g.mv hx h.ne⟩
instance [h : Nb k b] : MT M M' (one k) w w' (Box w b t cs) (Box w' b t cs) := ⟨fun _ hx g => g.mv hx h.ne.symm⟩
instance [h : NbA b K] : MT M M' (ins K) w w' (Box w b t cs) (Box w' b t cs) := ⟨fun _ hx g => g.mv hx (fun hb => h.a b hb rfl)⟩
instance : MT M M' nil w w' (Own w r t (nin G M) n c xs) (Own w' r t (nin G M') n c xs) := ⟨fun hm hx h => h.mv hm hx (fun h => h)⟩
instance [h : Nb r k] : MT M M' (one k) w w' (Own w r t (nin G M) n c xs) (Own w' r t (nin G M') n c xs) := ⟨fun hm hx g => g.mv hm hx h.ne⟩
instance [h : Nb k r] : MT M M' (one k) w w' (Own w r t (nin G M) n c xs) (Own w' r t (nin G M') n c xs) := ⟨fun hm hx g => g.mv hm hx h.ne.symm⟩
instance [h : NbA r K] : MT M M' (ins K) w w' (Own w r t (nin G M) n c xs) (Own w' r t (nin G M') n c xs) := ⟨fun hm hx g => g.mv hm hx (fun hb => h.a r hb rfl)⟩
instance : MT M M' nil w w' (Chg L base w) (Chg L base w') := ⟨fun _ hx h => h.stepN hx⟩
instance [hc : Cov L base k] : MT M M' (one k) w w' (Chg L base w) (Chg L base w') := ⟨fun _ hx h => h.stepO hx hc⟩
instance [hc : CovA L base K] : MT M M' (ins K) w w' (Chg L base w) (Chg L base w') := ⟨fun _ hx h => h.stepI hx hc.a⟩
theorem sp (hm : Mv M M' w w') (hx : Chg S w w') : Sp M M' S w w' := ⟨hm, hx⟩
theorem sn (M : List Nat) (hx : Ext w w') (hb : b = w.heap.size) : Sp M (b :: M) nil w w' := ⟨Mv.cons (Mv.ext hx) (Nat.le_of_eq hb.symm), hx⟩
theorem sz (M : List Nat) (hx : Ext w w') (hb : w.heap.size ≤ b) : Sp M (b :: M) nil w w' := ⟨Mv.cons (Mv.ext hx) hb, hx⟩
theorem se (M : List Nat) (hx : Ext w w') : Sp M M nil w w' := ⟨Mv.ext hx, hx⟩
theorem so (M : List Nat) (hx : Chg (one b) w w') [h : MemL b M] : Sp M M (one b) w w' := ⟨Mv.on hx h.m, hx⟩
theorem s1 (hx : Chg (one b) w w') : Sp [b] [b] (one b) w w' := ⟨Mv.on hx (.head _), hx⟩
theorem si (hx : Chg (ins K) w w') : Sp K K (ins K) w w' := ⟨Mv.mk hx (fun _ _ h => ⟨h, h⟩), hx⟩
theorem sa (M : List Nat) {r2 : Nat} (hx : Chg (one r) w w') (ho : r2 = r ∨ r2 = w.heap.size) [h : Rpl M r r2 M'] : Sp M M' (one r) w w' :=
 ⟨Mv.mk hx (fun k hk hm => ⟨h.p k hm (fun e => by
  subst e
  rcases ho with rfl | e
  ·exact hm h.q
  ·omega), fun e => hm (by cases e; exact h.q)⟩), hx⟩
theorem sd (w : World) (M : List Nat) (r : Nat) [h : Drp M r M'] : Sp M M' nil w w := ⟨Mv.less h.p, Chg.refl _ _⟩
theorem Own.rn {r2 : Nat} (h : Own w r2 t (nin G M) n c xs) (r : Nat) [i : Rpl M r r2 M'] : Own w r2 t (nin G M') n c xs :=
 h.renin (fun k _ hm hr => i.p k hm hr)
theorem Own.sl (h : Own w r t (nin G M) n c xs) (hg : G r) [i : Drp M r M'] [j : NbA r M'] : RepS w (nin G M') (some ⟨r, 0, none⟩) n c xs :=
 h.rep' (fun _ _ hF => ⟨hF.1, fun hm => hF.2 (i.p _ hm)⟩) ⟨hg, fun hm => j.a r hm rfl⟩
theorem RepS.fr {s s0 : Nat} (h : RepS w (ge s) a n c xs) (hM : ∀ b ∈ M, b < s) (hs : Gb s0 s) : RepS w (nin (ge s0) M) a n c xs :=
 h.fresh hM (fun _ h => Nat.le_trans hs h)
theorem RepS.w1 (h : RepS w (nin G M) a n c xs) : RepS w G a n c xs := h.weak (fun _ _ h => h.1)
theorem RepS.oi [i : MemL r M] (h : RepS w (nin G M) a n c xs) : RepS w (fun b => nin G M b ∧ b ≠ r) a n c xs := h.weak (fun _ _ h => own_in i.m h)
theorem RepS.ta (h : RepS w G a n c xs) : RepS w all a n c xs := h.weak (fun _ _ _ => trivial)
theorem RepS.tp (h : RepS w G a n c xs) : n = xs.length ∧ n ≤ 9223372036854775807 ∧ RepS w (nin (fo G w.heap.size) []) a n c xs := ⟨h.len, h.max, h.top⟩
theorem Chg.cn (h : Chg L base w) (hb : b = w.heap.size) : Cov L base b := cov_new hb h.size
end
section
variable {M M1 : List Nat} {S : Nat → Prop} {w w1 : World}
theorem Sp.g1 {A0 B0 : Prop} (s : Sp M M1 S w w1) (a0 : A0) [i0 : MT M M1 S w w1 A0 B0] : B0 := i0.go s.mv s.ch a0
theorem Sp.g2 {A0 A1 B0 B1 : Prop} (s : Sp M M1 S w w1) (a0 : A0) (a1 : A1) [i0 : MT M M1 S w w1 A0 B0] [i1 : MT M M1 S w w1 A1 B1] : B0 ∧ B1 := ⟨i0.go s.mv s.ch a0, i1.go s.mv s.ch a1⟩
theorem Sp.g3 {A0 A1 A2 B0 B1 B2 : Prop} (s : Sp M M1 S w w1) (a0 : A0) (a1 : A1) (a2 : A2) [i0 : MT M M1 S w w1 A0 B0] [i1 : MT M M1 S w w1 A1 B1] [i2 : MT M M1 S w w1 A2 B2] : B0 ∧ B1 ∧ B2 := ⟨i0.go s.mv s.ch a0, i1.go s.mv s.ch a1, i2.go s.mv s.ch a2⟩
theorem Sp.g4 {A0 A1 A2 A3 B0 B1 B2 B3 : Prop} (s : Sp M M1 S w w1) (a0 : A0) (a1 : A1) (a2 : A2) (a3 : A3) [i0 : MT M M1 S w w1 A0 B0] [i1 : MT M M1 S w w1 A1 B1] [i2 : MT M M1 S w w1 A2 B2] [i3 : MT M M1 S w w1 A3 B3] : B0 ∧ B1 ∧ B2 ∧ B3 := ⟨i0.go s.mv s.ch a0, i1.go s.mv s.ch a1, i2.go s.mv s.ch a2, i3.go s.mv s.ch a3⟩
theorem Sp.g5 {A0 A1 A2 A3 A4 B0 B1 B2 B3 B4 : Prop} (s : Sp M M1 S w w1) (a0 : A0) (a1 : A1) (a2 : A2) (a3 : A3) (a4 : A4) [i0 : MT M M1 S w w1 A0 B0] [i1 : MT M M1 S w w1 A1 B1] [i2 : MT M M1 S w w1 A2 B2] [i3 : MT M M1 S w w1 A3 B3] [i4 : MT M M1 S w w1 A4 B4] : B0 ∧ B1 ∧ B2 ∧ B3 ∧ B4 := ⟨i0.go s.mv s.ch a0, i1.go s.mv s.ch a1, i2.go s.mv s.ch a2, i3.go s.mv s.ch a3, i4.go s.mv s.ch a4⟩
theorem Sp.g6 {A0 A1 A2 A3 A4 A5 B0 B1 B2 B3 B4 B5 : Prop} (s : Sp M M1 S w w1) (a0 : A0) (a1 : A1) (a2 : A2) (a3 : A3) (a4 : A4) (a5 : A5) [i0 : MT M M1 S w w1 A0 B0] [i1 : MT M M1 S w w1 A1 B1] [i2 : MT M M1 S w w1 A2 B2] [i3 : MT M M1 S w w1 A3 B3] [i4 : MT M M1 S w w1 A4 B4] [i5 : MT M M1 S w w1 A5 B5] : B0 ∧ B1 ∧ B2 ∧ B3 ∧ B4 ∧ B5 := ⟨i0.go s.mv s.ch a0, i1.go s.mv s.ch a1, i2.go s.mv s.ch a2, i3.go s.mv s.ch a3, i4.go s.mv s.ch a4, i5.go s.mv s.ch a5⟩
theorem Sp.g7 {A0 A1 A2 A3 A4 A5 A6 B0 B1 B2 B3 B4 B5 B6 : Prop} (s : Sp M M1 S w w1) (a0 : A0) (a1 : A1) (a2 : A2) (a3 : A3) (a4 : A4) (a5 : A5) (a6 : A6) [i0 : MT M M1 S w w1 A0 B0] [i1 : MT M M1 S w w1 A1 B1] [i2 : MT M M1 S w w1 A2 B2] [i3 : MT M M1 S w w1 A3 B3] [i4 : MT M M1 S w w1 A4 B4] [i5 : MT M M1 S w w1 A5 B5] [i6 : MT M M1 S w w1 A6 B6] : B0 ∧ B1 ∧ B2 ∧ B3 ∧ B4 ∧ B5 ∧ B6 := ⟨i0.go s.mv s.ch a0, i1.go s.mv s.ch a1, i2.go s.mv s.ch a2, i3.go s.mv s.ch a3, i4.go s.mv s.ch a4, i5.go s.mv s.ch a5, i6.go s.mv s.ch a6⟩
theorem Sp.g8 {A0 A1 A2 A3 A4 A5 A6 A7 B0 B1 B2 B3 B4 B5 B6 B7 : Prop} (s : Sp M M1 S w w1) (a0 : A0) (a1 : A1) (a2 : A2) (a3 : A3) (a4 : A4) (a5 : A5) (a6 : A6) (a7 : A7) [i0 : MT M M1 S w w1 A0 B0] [i1 : MT M M1 S w w1 A1 B1] [i2 : MT M M1 S w w1 A2 B2] [i3 : MT M M1 S w w1 A3 B3] [i4 : MT M M1 S w w1 A4 B4] [i5 : MT M M1 S w w1 A5 B5] [i6 : MT M M1 S w w1 A6 B6] [i7 : MT M M1 S w w1 A7 B7] : B0 ∧ B1 ∧ B2 ∧ B3 ∧ B4 ∧ B5 ∧ B6 ∧ B7 := ⟨i0.go s.mv s.ch a0, i1.go s.mv s.ch a1, i2.go s.mv s.ch a2, i3.go s.mv s.ch a3, i4.go s.mv s.ch a4, i5.go s.mv s.ch a5, i6.go s.mv s.ch a6, i7.go s.mv s.ch a7⟩
theorem Sp.g9 {A0 A1 A2 A3 A4 A5 A6 A7 A8 B0 B1 B2 B3 B4 B5 B6 B7 B8 : Prop} (s : Sp M M1 S w w1) (a0 : A0) (a1 : A1) (a2 : A2) (a3 : A3) (a4 : A4) (a5 : A5) (a6 : A6) (a7 : A7) (a8 : A8) [i0 : MT M M1 S w w1 A0 B0] [i1 : MT M M1 S w w1 A1 B1] [i2 : MT M M1 S w w1 A2 B2] [i3 : MT M M1 S w w1 A3 B3] [i4 : MT M M1 S w w1 A4 B4] [i5 : MT M M1 S w w1 A5 B5] [i6 : MT M M1 S w w1 A6 B6] [i7 : MT M M1 S w w1 A7 B7] [i8 : MT M M1 S w w1 A8 B8] : B0 ∧ B1 ∧ B2 ∧ B3 ∧ B4 ∧ B5 ∧ B6 ∧ B7 ∧ B8 := ⟨i0.go s.mv s.ch a0, i1.go s.mv s.ch a1, i2.go s.mv s.ch a2, i3.go s.mv s.ch a3, i4.go s.mv s.ch a4, i5.go s.mv s.ch a5, i6.go s.mv s.ch a6, i7.go s.mv s.ch a7, i8.go s.mv s.ch a8⟩
theorem Sp.g10 {A0 A1 A2 A3 A4 A5 A6 A7 A8 A9 B0 B1 B2 B3 B4 B5 B6 B7 B8 B9 : Prop} (s : Sp M M1 S w w1) (a0 : A0) (a1 : A1) (a2 : A2) (a3 : A3) (a4 : A4) (a5 : A5) (a6 : A6) (a7 : A7) (a8 : A8) (a9 : A9) [i0 : MT M M1 S w w1 A0 B0] [i1 : MT M M1 S w w1 A1 B1] [i2 : MT M M1 S w w1 A2 B2] [i3 : MT M M1 S w w1 A3 B3] [i4 : MT M M1 S w w1 A4 B4] [i5 : MT M M1 S w w1 A5 B5] [i6 : MT M M1 S w w1 A6 B6] [i7 : MT M M1 S w w1 A7 B7] [i8 : MT M M1 S w w1 A8 B8] [i9 : MT M M1 S w w1 A9 B9] : B0 ∧ B1 ∧ B2 ∧ B3 ∧ B4 ∧ B5 ∧ B6 ∧ B7 ∧ B8 ∧ B9 := ⟨i0.go s.mv s.ch a0, i1.go s.mv s.ch a1, i2.go s.mv s.ch a2, i3.go s.mv s.ch a3, i4.go s.mv s.ch a4, i5.go s.mv s.ch a5, i6.go s.mv s.ch a6, i7.go s.mv s.ch a7, i8.go s.mv s.ch a8, i9.go s.mv s.ch a9⟩
theorem Sp.g11 {A0 A1 A2 A3 A4 A5 A6 A7 A8 A9 A10 B0 B1 B2 B3 B4 B5 B6 B7 B8 B9 B10 : Prop} (s : Sp M M1 S w w1) (a0 : A0) (a1 : A1) (a2 : A2) (a3 : A3) (a4 : A4) (a5 : A5) (a6 : A6) (a7 : A7) (a8 : A8) (a9 : A9) (a10 : A10) [i0 : MT M M1 S w w1 A0 B0] [i1 : MT M M1 S w w1 A1 B1] [i2 : MT M M1 S w w1 A2 B2] [i3 : MT M M1 S w w1 A3 B3] [i4 : MT M M1 S w w1 A4 B4] [i5 : MT M M1 S w w1 A5 B5] [i6 : MT M M1 S w w1 A6 B6] [i7 : MT M M1 S w w1 A7 B7] [i8 : MT M M1 S w w1 A8 B8] [i9 : MT M M1 S w w1 A9 B9] [i10 : MT M M1 S w w1 A10 B10] : B0 ∧ B1 ∧ B2 ∧ B3 ∧ B4 ∧ B5 ∧ B6 ∧ B7 ∧ B8 ∧ B9 ∧ B10 := ⟨i0.go s.mv s.ch a0, i1.go s.mv s.ch a1, i2.go s.mv s.ch a2, i3.go s.mv s.ch a3, i4.go s.mv s.ch a4, i5.go s.mv s.ch a5, i6.go s.mv s.ch a6, i7.go s.mv s.ch a7, i8.go s.mv s.ch a8, i9.go s.mv s.ch a9, i10.go s.mv s.ch a10⟩
theorem Sp.g12 {A0 A1 A2 A3 A4 A5 A6 A7 A8 A9 A10 A11 B0 B1 B2 B3 B4 B5 B6 B7 B8 B9 B10 B11 : Prop} (s : Sp M M1 S w w1) (a0 : A0) (a1 : A1) (a2 : A2) (a3 : A3) (a4 : A4) (a5 : A5) (a6 : A6) (a7 : A7) (a8 : A8) (a9 : A9) (a10 : A10) (a11 : A11) [i0 : MT M M1 S w w1 A0 B0] [i1 : MT M M1 S w w1 A1 B1] [i2 : MT M M1 S w w1 A2 B2] [i3 : MT M M1 S w w1 A3 B3] [i4 : MT M M1 S w w1 A4 B4] [i5 : MT M M1 S w w1 A5 B5] [i6 : MT M M1 S w w1 A6 B6] [i7 : MT M M1 S w w1 A7 B7] [i8 : MT M M1 S w w1 A8 B8] [i9 : MT M M1 S w w1 A9 B9] [i10 : MT M M1 S w w1 A10 B10] [i11 : MT M M1 S w w1 A11 B11] : B0 ∧ B1 ∧ B2 ∧ B3 ∧ B4 ∧ B5 ∧ B6 ∧ B7 ∧ B8 ∧ B9 ∧ B10 ∧ B11 := ⟨i0.go s.mv s.ch a0, i1.go s.mv s.ch a1, i2.go s.mv s.ch a2, i3.go s.mv s.ch a3, i4.go s.mv s.ch a4, i5.go s.mv s.ch a5, i6.go s.mv s.ch a6, i7.go s.mv s.ch a7, i8.go s.mv s.ch a8, i9.go s.mv s.ch a9, i10.go s.mv s.ch a10, i11.go s.mv s.ch a11⟩
end
theorem al1 {a0 s : Nat} (h0 : a0 < s) : ∀ b ∈ [a0], b < s := all_cons h0 (all_nil)
theorem al2 {a0 a1 s : Nat} (h0 : a0 < s) (h1 : a1 < s) : ∀ b ∈ [a0, a1], b < s := all_cons h0 (all_cons h1 (all_nil))
theorem al3 {a0 a1 a2 s : Nat} (h0 : a0 < s) (h1 : a1 < s) (h2 : a2 < s) : ∀ b ∈ [a0, a1, a2], b < s := all_cons h0 (all_cons h1 (all_cons h2 (all_nil)))
theorem al4 {a0 a1 a2 a3 s : Nat} (h0 : a0 < s) (h1 : a1 < s) (h2 : a2 < s) (h3 : a3 < s) : ∀ b ∈ [a0, a1, a2, a3], b < s := all_cons h0 (all_cons h1 (all_cons h2 (all_cons h3 (all_nil))))
theorem al5 {a0 a1 a2 a3 a4 s : Nat} (h0 : a0 < s) (h1 : a1 < s) (h2 : a2 < s) (h3 : a3 < s) (h4 : a4 < s) : ∀ b ∈ [a0, a1, a2, a3, a4], b < s := all_cons h0 (all_cons h1 (all_cons h2 (all_cons h3 (all_cons h4 (all_nil)))))
theorem al6 {a0 a1 a2 a3 a4 a5 s : Nat} (h0 : a0 < s) (h1 : a1 < s) (h2 : a2 < s) (h3 : a3 < s) (h4 : a4 < s) (h5 : a5 < s) : ∀ b ∈ [a0, a1, a2, a3, a4, a5], b < s := all_cons h0 (all_cons h1 (all_cons h2 (all_cons h3 (all_cons h4 (all_cons h5 (all_nil))))))
theorem al7 {a0 a1 a2 a3 a4 a5 a6 s : Nat} (h0 : a0 < s) (h1 : a1 < s) (h2 : a2 < s) (h3 : a3 < s) (h4 : a4 < s) (h5 : a5 < s) (h6 : a6 < s) : ∀ b ∈ [a0, a1, a2, a3, a4, a5, a6], b < s := all_cons h0 (all_cons h1 (all_cons h2 (all_cons h3 (all_cons h4 (all_cons h5 (all_cons h6 (all_nil)))))))
end Go.Proofs.YtganlmloonielaaGreat
namespace Go.Proofs.YtganlmloonielaaGreat
def nodupB : List Nat → Bool
 | [] => true
 | x :: xs => !(xs.any fun y => Nat.beq x y) && nodupB xs
theorem nodupB_of : ∀ {l : List Nat}, nodupB l = true → l.Nodup := by
 intro l
 induction l with
 | nil => intro _; simp
 | cons x xs ih =>
   intro h
   simp only [nodupB, Bool.and_eq_true, Bool.not_eq_true', List.any_eq_false] at h
   refine List.nodup_cons.2 ⟨fun hm => ?_, ih h.2⟩
   have := h.1 x hm
   simp at this
section
variable {P : Program} {S : Nat → Prop} {n m : Nat} {L : Env → World → Prop} {ops : Array Oper} {l : List Nat} {e : Env} {w : World}
theorem gAny_mono {L L' : Array Bool → Act → World → Prop} (h : ∀ listed a w, L listed a w → L' listed a w) : ∀ (f : Nat) (listed : Array Bool) (a : Act) (w : World), gAny P S ops m L f listed a w → gAny P S ops m L' f listed a w
 | 0, listed, a, w, hh => fun w1 hx => h _ _ _ (hh w1 hx)
 | f + 1, listed, a, w, hh => ⟨hh.1, fun w1 hx i hi => ⟨(hh.2 w1 hx i hi).1, gOp_mono (fun a' w' _ h' => gAny_mono h f _ a' w' h') (hh.2 w1 hx i hi).2⟩⟩
theorem GA.mono {L' : Env → World → Prop} (h : ∀ e w, L e w → L' e w) (hh : GA P S n m L ops l e w) : GA P S n m L' ops l e w := fun hB f a hf ha inv =>
 gAny_mono (fun _ _ _ ⟨h1, e', h2, h3⟩ => ⟨h1, e', h2, h _ _ h3⟩) f _ a w (hh hB f a hf ha inv)
def skipE (ops : Array Oper) (m : Nat) (l : List Nat) (e : Env) : Env := (List.range m).foldr (fun i e => bif l.any (fun j => Nat.beq i j) then e else putE e (opAt ops i).dst undef) e
def unwB (ops : Array Oper) (m : Nat) (l : List Nat) (e : Env) (i : Nat) : Bool :=
 match (opAt ops i).guard with
 | none => false
 | some (j, _) => bif l.any (fun k => Nat.beq j k) then !(wantE ops (opAt ops i) e) else Nat.blt j m && (opAt ops i).after.toList.any (fun g => Nat.beq g.on j && Region.binds .any g)
def skipB (n m : Nat) (ops : Array Oper) (l : List Nat) (e : Env) : Bool :=
 Nat.ble m ops.toList.length && l.all (fun i => Nat.blt i m) && nodupB l && (List.range m).all (fun i => okAt n ops i && ((opAt ops i).after.toList.all fun g => Nat.blt g.on i) && (l.any (fun j => Nat.beq i j) || unwB ops m l e i))
theorem want_und {o : Oper} {e' : Env} (h : wantE ops o e = false) (he : ∀ t, e' t = e t ∨ e' t = undef) : wantE ops o e' = false := by
 unfold wantE at h ⊢
 cases hg : o.guard with
 | none => rw [hg] at h; simp at h
 | some g =>
   obtain ⟨j, want⟩ := g
   rw [hg] at h
   simp only at h ⊢
   cases hd : (ops[j]?).bind (·.dst) with
   | none => rfl
   | some t =>
     rw [hd] at h
     simp only at h ⊢
     rcases he t with h1 | h1
     ·rw [h1]; exact h
     ·rw [h1]; rfl
theorem any_mem {i : Nat} : (l.any fun j => Nat.beq i j) = true ↔ i ∈ l := by
 rw [List.any_eq_true]
 constructor
 ·rintro ⟨j, hj, h⟩; rw [Nat.eq_of_beq_eq_true h]; exact hj
 ·intro h; exact ⟨i, h, by simp⟩
theorem full_of {l : List Nat} (h1 : ∀ i ∈ l, i < m) (h2 : l.Nodup) (h3 : m ≤ l.length) : ∀ i, i < m → i ∈ l := by
 intro i hi
 by_cases hm : i ∈ l
 ·exact hm
 ·exfalso
  have key : ∀ (m : Nat) (l : List Nat), (∀ i ∈ l, i < m) → l.Nodup → l.length ≤ m := by
   intro m
   induction m with
   | zero => intro l h _; cases l with | nil => exact Nat.le_refl _ | cons x xs => exact absurd (h x (by simp)) (by omega)
   | succ m ih =>
     intro l h hn
     have := ih (l.erase m) (fun i hi => by
      have h1 := h i (List.mem_of_mem_erase hi)
      have h2 : i ≠ m := fun e => by subst e; exact (List.Nodup.mem_erase_iff hn).1 hi |>.1 rfl
      omega) (hn.erase m)
     have := List.length_erase (a := m) (l := l)
     split at this <;> omega
  have := key m (i :: l) (fun j hj => by rcases List.mem_cons.1 hj with rfl | hj; exact hi; exact h1 j hj) (List.nodup_cons.2 ⟨hm, h2⟩)
  simp at this
  omega
theorem full_len : ∀ (m : Nat) (l : List Nat), (∀ i, i < m → i ∈ l) → m ≤ l.length := by
 intro m
 induction m with
 | zero => intro l _; omega
 | succ m ih =>
   intro l h
   have hm := h m (by omega)
   have := ih (l.erase m) (fun i hi => (List.mem_erase_of_ne (by omega)).2 (h i (by omega)))
   have h2 := List.length_erase_of_mem hm
   have := List.length_pos_of_mem hm
   omega
theorem skipE_spec (l : List Nat) (e : Env) : ∀ (is : List Nat) (t : Nat), ((∃ i ∈ is, i ∉ l ∧ (opAt ops i).dst = some t) → is.foldr (fun i e => bif l.any (fun j => Nat.beq i j) then e else putE e (opAt ops i).dst undef) e t = undef) ∧
 (¬ (∃ i ∈ is, i ∉ l ∧ (opAt ops i).dst = some t) → is.foldr (fun i e => bif l.any (fun j => Nat.beq i j) then e else putE e (opAt ops i).dst undef) e t = e t) := by
 intro is
 induction is with
 | nil => intro t; exact ⟨fun ⟨i, hi, _⟩ => (by cases hi), fun _ => rfl⟩
 | cons i is ih =>
   intro t
   obtain ⟨h1, h2⟩ := ih t
   simp only [List.foldr_cons]
   cases hc : l.any (fun j => Nat.beq i j) with
   | true =>
     have hm := any_mem.1 hc
     simp only [cond_true]
     refine ⟨fun ⟨j, hj, hn, hd⟩ => h1 ?_, fun hno => h2 (fun ⟨j, hj, hn, hd⟩ => hno ⟨j, by simp [hj], hn, hd⟩)⟩
     rcases List.mem_cons.1 hj with rfl | hj
     ·exact absurd hm hn
     ·exact ⟨j, hj, hn, hd⟩
   | false =>
     have hm : i ∉ l := fun h => by rw [any_mem.2 h] at hc; cases hc
     simp only [cond_false]
     cases hd : (opAt ops i).dst with
     | none =>
       simp only [putE]
       refine ⟨fun ⟨j, hj, hn, hdj⟩ => h1 ?_, fun hno => h2 (fun ⟨j, hj, hn, hdj⟩ => hno ⟨j, by simp [hj], hn, hdj⟩)⟩
       rcases List.mem_cons.1 hj with rfl | hj
       ·rw [hd] at hdj; cases hdj
       ·exact ⟨j, hj, hn, hdj⟩
     | some d =>
       simp only [putE, upd]
       by_cases ht : t = d
       ·subst ht
        simp only [Nat.beq_refl, cond_true]
        exact ⟨fun _ => trivial, fun hno => absurd ⟨i, by simp, hm, hd⟩ hno⟩
       ·have hb : Nat.beq t d = false := by
         cases hb : Nat.beq t d with
         | false => rfl
         | true => exact absurd (Nat.eq_of_beq_eq_true hb) ht
        simp only [hb, cond_false]
        refine ⟨fun ⟨j, hj, hn, hdj⟩ => h1 ?_, fun hno => h2 (fun ⟨j, hj, hn, hdj⟩ => hno ⟨j, by simp [hj], hn, hdj⟩)⟩
        rcases List.mem_cons.1 hj with rfl | hj
        ·rw [hd] at hdj; exact absurd (Option.some.inj hdj).symm ht
        ·exact ⟨j, hj, hn, hdj⟩
theorem GA.skip (h : skipB n m ops l e = true) (H : ∀ w1, Ext w w1 → L (skipE ops m l e) w1) : GA P S n m L ops l e w := by
 intro hB f a hf ha inv
 simp only [skipB, Bool.and_eq_true, List.all_eq_true, List.mem_range, Bool.or_eq_true] at h
 obtain ⟨⟨⟨hms, hl⟩, hnd⟩, hall⟩ := h
 have hms := Nat.le_of_ble_eq_true hms
 have hsz : ops.toList.length = ops.size := rfl
 have hl2 : ∀ i ∈ l, i < m := fun i hi => Nat.le_of_ble_eq_true (hl i hi)
 have key : ∀ (f : Nat) (l' : List Nat) (a : Act) (w : World) (e' : Env), (∀ i ∈ l', i < m) → l'.Nodup → (∀ i ∈ l, i ∈ l') → f + l'.length = m → HeadInv .any ops m (lst ops.size l') → Sees n a e' →
  (∀ t, ((∃ i ∈ l', i ∉ l ∧ (opAt ops i).dst = some t) → e' t = undef) ∧ (¬ (∃ i ∈ l', i ∉ l ∧ (opAt ops i).dst = some t) → e' t = e t)) → (∀ w1, Ext w w1 → L (skipE ops m l e) w1) →
  gAny P S ops m (fun listed a' w' => listed = fin ops m ∧ ∃ e', Sees n a' e' ∧ L e' w') f (lst ops.size l') a w := by
  intro f
  induction f with
  | zero =>
    intro l' a w e' h1 h2 h3 h4 hiv h5 h6 h7 w1 hx
    have hfull := full_of h1 h2 (by omega)
    refine ⟨?_, e', h5, ?_⟩
    ·unfold fin
     refine Array.ext_getElem? (fun i => ?_)
     by_cases hi : i < ops.size
     ·rw [lst_get _ hi, lst_get _ hi]
      congr 1
      rw [decide_eq_decide]
      simp only [List.mem_reverse, List.mem_range]
      exact ⟨fun hm => h1 i hm, fun hm => hfull i hm⟩
     ·rw [Array.getElem?_eq_none (by rw [lst_size]; omega), Array.getElem?_eq_none (by rw [lst_size]; omega)]
    ·have : e' = skipE ops m l e := by
      funext t
      obtain ⟨g1, g2⟩ := skipE_spec (ops := ops) l e (List.range m) t
      obtain ⟨k1, k2⟩ := h6 t
      by_cases hc : ∃ i ∈ l', i ∉ l ∧ (opAt ops i).dst = some t
      ·rw [k1 hc]
       obtain ⟨i, hi, hn, hd⟩ := hc
       exact (g1 ⟨i, List.mem_range.2 (h1 i hi), hn, hd⟩).symm
      ·rw [k2 hc]
       exact (g2 (fun ⟨i, hi, hn, hd⟩ => hc ⟨i, hfull i (List.mem_range.1 hi), hn, hd⟩)).symm
     rw [this]
     exact h7 w1 hx
  | succ f ih =>
    intro l' a w e' h1 h2 h3 h4 hiv h5 h6 h7
    have hex : ∃ i, i < m ∧ i ∉ l' ∧ ∀ j, j < i → j ∈ l' := by
     have : ∃ i, i < m ∧ i ∉ l' := Classical.byContradiction (fun hno => by
      have hall : ∀ i, i < m → i ∈ l' := fun i hi => Classical.byContradiction (fun hn => hno ⟨i, hi, hn⟩)
      have := full_len m l' hall
      omega)
     obtain ⟨i, hi, hn⟩ := this
     induction i using Nat.strongRecOn with
     | ind i ihi =>
       by_cases hall : ∀ j, j < i → j ∈ l'
       ·exact ⟨i, hi, hn, hall⟩
       ·obtain ⟨j, hj⟩ := Classical.not_forall.1 hall
        obtain ⟨hj1, hj2⟩ := Classical.not_imp.1 hj
        exact ihi j hj1 (by omega) hj2
    obtain ⟨i0, hi0, hn0, hlow⟩ := hex
    have hat : ∀ i, i < m → ops[i]? = some (opAt ops i) := fun i hi => by
     have : i < ops.size := by omega
     simp [opAt, this]
    refine ⟨fun hr => ?_, fun w1 hx i hi => ?_⟩
    ·have : i0 ∈ Region.ready .any ops (lst ops.size l') := by
      rw [mem_ready]
      refine ⟨?_, opAt ops i0, hat i0 hi0, fun g hg _ => ?_⟩
      ·rw [Array.getD_eq_getD_getElem?, lst_get _ (by omega)]
       simp [hn0]
      ·have hlt := (hall i0 hi0).1.2 g (by simpa using hg)
       have hlt := Nat.le_of_ble_eq_true hlt
       rw [Array.getD_eq_getD_getElem?, lst_get _ (by omega)]
       simp [hlow g.on (by omega)]
     rw [hr] at this
     cases this
    ·obtain ⟨hun, o, ho, _⟩ := mem_ready.1 hi
     have his : i < ops.size := (Array.getElem?_eq_some_iff.1 ho).1
     rw [Array.getD_eq_getD_getElem?, lst_get _ his] at hun
     have hni : i ∉ l' := by simpa using hun
     have him : i < m := by
      rcases Nat.lt_or_ge i m with h | h
      ·exact h
      ·exfalso
       obtain ⟨_, _, htl, _⟩ := drawB_spec hB
       exact tailB_spec htl (lst ops.size l') hiv (i := i0) hi0 (by rw [Array.getD_eq_getD_getElem?, lst_get _ (by omega)]; simp [hn0]) i h hi
     refine ⟨him, ?_⟩
     have hil : i ∉ l := fun hm => hni (h3 i hm)
     have hu : unwB ops m l e i = true := (hall i him).2.resolve_left (fun hc => hil (any_mem.1 hc))
     have hw : wantE ops (opAt ops i) e' = false := by
      unfold unwB at hu
      cases hg : (opAt ops i).guard with
      | none => rw [hg] at hu; cases hu
      | some g =>
        obtain ⟨j, want⟩ := g
        rw [hg] at hu
        simp only at hu
        cases hj : l.any (fun k => Nat.beq j k) with
        | true =>
          rw [hj] at hu
          simp only [cond_true, Bool.not_eq_true'] at hu
          refine want_und hu (fun t => ?_)
          obtain ⟨k1, k2⟩ := h6 t
          by_cases hc : ∃ i ∈ l', i ∉ l ∧ (opAt ops i).dst = some t
          ·exact .inr (k1 hc)
          ·exact .inl (k2 hc)
        | false =>
          rw [hj] at hu
          simp only [cond_false, Bool.and_eq_true, List.any_eq_true] at hu
          obtain ⟨hjm, gg, hgg, hgo, hgb⟩ := hu
          have hjm := Nat.le_of_ble_eq_true hjm
          have hgo := Nat.eq_of_beq_eq_true hgo
          have hjl : j ∉ l := fun h => by rw [any_mem.2 h] at hj; cases hj
          obtain ⟨_, o2, ho2, hall2⟩ := mem_ready.1 hi
          have e1 := hat i him
          rw [e1] at ho2
          cases ho2
          have h8 := hall2 gg (by simpa using hgg) hgb
          rw [hgo, lst_getT _ (by omega)] at h8
          have hjl' : j ∈ l' := by simpa using h8
          unfold wantE
          rw [hg]
          simp only
          rw [hat j hjm]
          cases hd : (opAt ops j).dst with
          | none => simp [hd]
          | some t =>
            simp only [Option.bind_some, hd]
            rw [(h6 t).1 ⟨j, hjl', hjl, hd⟩]
            rfl
     unfold gOp
     simp only [hat i him]
     rw [h5.want, hw]
     simp only [Bool.false_eq_true, if_false]
     rw [← lst_cons]
     have hd := (hall i him).1.1
     have hdk : okD n (opAt ops i).dst = true := by simp only [okAt, Bool.and_eq_true] at hd; exact hd.2
     refine ih (i :: l') (a.put (opAt ops i).dst undef) w1 (putE e' (opAt ops i).dst undef) (fun j hj => ?_) (List.nodup_cons.2 ⟨hni, h2⟩) (fun j hj => by simp [h3 j hj]) (by simp only [List.length_cons]; omega) (by rw [lst_cons]; exact hiv.set hi him) (h5.putO hdk undef) (fun t => ?_) (fun w2 hx2 => h7 w2 (hx.trans hx2))
     ·rcases List.mem_cons.1 hj with rfl | hj
      ·exact him
      ·exact h1 j hj
     ·obtain ⟨k1, k2⟩ := h6 t
      cases hdd : (opAt ops i).dst with
      | none =>
        simp only [putE]
        refine ⟨fun ⟨j, hj, hn, hdj⟩ => k1 ?_, fun hno => k2 (fun ⟨j, hj, hn, hdj⟩ => hno ⟨j, by simp [hj], hn, hdj⟩)⟩
        rcases List.mem_cons.1 hj with rfl | hj
        ·rw [hdd] at hdj; cases hdj
        ·exact ⟨j, hj, hn, hdj⟩
      | some d =>
        simp only [putE, upd]
        by_cases ht : t = d
        ·subst ht
         simp only [Nat.beq_refl, cond_true]
         exact ⟨fun _ => trivial, fun hno => absurd ⟨i, by simp, hil, hdd⟩ hno⟩
        ·have hb : Nat.beq t d = false := by
          cases hb : Nat.beq t d with
          | false => rfl
          | true => exact absurd (Nat.eq_of_beq_eq_true hb) ht
         simp only [hb, cond_false]
         refine ⟨fun ⟨j, hj, hn, hdj⟩ => k1 ?_, fun hno => k2 (fun ⟨j, hj, hn, hdj⟩ => hno ⟨j, by simp [hj], hn, hdj⟩)⟩
         rcases List.mem_cons.1 hj with rfl | hj
         ·rw [hdd] at hdj; exact absurd (Option.some.inj hdj).symm ht
         ·exact ⟨j, hj, hn, hdj⟩
 exact key f l a w e hl2 (nodupB_of hnd) (fun i hi => hi) hf inv ha (fun t => ⟨fun ⟨i, hi, hn, _⟩ => absurd hi hn, fun _ => rfl⟩) H
end
section
variable {P : Program} {f : FuncId} {fn : Func} {R : Value → World → Prop} {c : Code} {k : List Item} {e : Env} {w : World}
theorem T.regionJ {X : Type} (S : Nat → Prop) (m : Nat) (V : X → List (Nat × Value)) (I : X → World → Prop) (h : (isReg c true && P.follows .mixedOrders && drawB (opsC c) m) = true)
 (H1 : ∀ w1, Ext w w1 → GA P S fn.ntmps m (fun e' w' => ∃ x, agrees e' (V x) ∧ I x w') (opsC c) [] e w1)
 (H2 : ∀ x e' w', I x w' → RG P fn.ntmps (fun e'' w'' => T P f fn R k e'' w'') (opsC c) m (sets e' (V x)) w') : T P f fn R (.code c :: k) e w :=
 T.regionD S m h (fun w1 hx => (H1 w1 hx).mono (fun e' w' ⟨x, ha, hi⟩ => by have := H2 x e' w' hi; rwa [sets_same ha] at this))
end
theorem cov_ge0 {w : World} {b : Nat} (h : Cov nil w b) : w.heap.size ≤ b := h.or.resolve_left (fun h => h)
end Go.Proofs.YtganlmloonielaaGreat
namespace Go.Proofs.YtganlmloonielaaGreat
theorem tup2 {a a' b b' : Value} (h : a = a') (h' : b = b') : Value.tuple #[a, b] = Value.tuple #[a', b'] := by rw [h, h']
theorem tup3 {a a' b b' c c' : Value} (h : a = a') (h' : b = b') (h2 : c = c') : Value.tuple #[a, b, c] = Value.tuple #[a', b', c'] := by rw [h, h', h2]
def inR (n lo hi : Int) : Bool := decide (lo ≤ n) && decide (n ≤ hi)
theorem inR_t {n lo hi : Int} (h : inR n lo hi = true) : lo ≤ n ∧ n ≤ hi := by simpa [inR] using h
theorem inR_f {n lo hi : Int} (h : inR n lo hi = false) : ¬ (lo ≤ n ∧ n ≤ hi) := by intro h1; simp [inR] at h; omega
def rowOk (r : Row) : Bool := inR r.t 0 99 && inR r.v (-99) 99
def blockF : Option Row → List Row → Bool
 | _, [] => true
 | o, r :: rs => rowOk r && (match o with | some q => decide (q.t < r.t) | none => true) && blockF (some r) rs
def blockOk (b : List Row) : Bool := blockF none b && decide (b.length ≤ 24)
def put1 (out : List Row) (r : Row) (done : Bool) : List Row → List Row
 | [] => if done then out else out ++ [r]
 | x :: xs =>
   if !done && decide (x.t ≥ r.t) then
    (if x.t != r.t then put1 (out ++ [r] ++ [x]) r true xs else put1 (out ++ [r]) r true xs)
   else (if x.t != r.t then put1 (out ++ [x]) r done xs else put1 out r done xs)
def sPut (b : List Row) (r : Row) : List Row := put1 [] r false b
def sMerge (a b : List Row) : List Row := b.foldl sPut a
def has (n : List Tag) (t : Tag) : Bool := n.any (fun x => x == t)
def idsF (t : Tag) : Nat → List (List Tag) → List Int
 | _, [] => []
 | i, n :: ns => (if has n t then [(i : Int) + 1] else []) ++ idsF t (i + 1) ns
def ids (names : List (List Tag)) (t : Tag) : List Int := idsF t 0 names
def makeF : Nat → List (List Row) → List Int × List (List Row)
 | _, [] => ([], [])
 | i, b :: bs => if b.length > 0 then (((i : Int) + 1) :: (makeF (i + 1) bs).1, b :: (makeF (i + 1) bs).2) else makeF (i + 1) bs
def pMake (blocks : List (List Row)) : Prt := ⟨(makeF 0 blocks).1, (makeF 0 blocks).2⟩
def one1 (lo hi : Int) (s : Str) : Bool := match s with | [x] => inR x.toNat lo hi | _ => false
def tagOk (t : Tag) : Bool := one1 97 100 t.key && one1 112 122 t.val
def nameF : Option Tag → List Tag → Bool
 | _, [] => true
 | o, t :: ts => tagOk t && (match o with | some q => strLt q.key t.key | none => true) && nameF (some t) ts
def nameOk (n : List Tag) : Bool := nameF none n && inR n.length 1 3
theorem len1 {s : Str} (h : (s.length : Int) = 1) : ∃ x, s = [x] := by
 match s, h with
 | [x], _ => exact ⟨x, rfl⟩
 | [], h => simp at h
 | x :: y :: r, h => simp only [List.length_cons] at h; omega
theorem one1_no {lo hi : Int} {s : Str} (h : (s.length : Int) ≠ 1) : one1 lo hi s = false := by
 match s, h with
 | [x], h => simp at h
 | [], _ => rfl
 | x :: y :: r, _ => rfl
theorem tagOk_k {t : Tag} (h : (t.key.length : Int) ≠ 1) : tagOk t = false := by simp [tagOk, one1_no h]
theorem tagOk_v {t : Tag} (h : (t.val.length : Int) ≠ 1) : tagOk t = false := by simp [tagOk, one1_no h]
theorem tagOk_kv {t : Tag} {x y : UInt8} (hk : t.key = [x]) (hv : t.val = [y]) : tagOk t = (inR x.toNat 97 100 && inR y.toNat 112 122) := by simp [tagOk, one1, hk, hv]
theorem strLt1 (x y : UInt8) : strLt [x] [y] = decide (x.toNat < y.toNat) := by
 unfold strLt Op.bytesLess Op.bytesLess
 by_cases h : x < y
 ·simp [h, UInt8.lt_iff_toNat_lt.1 h]
 ·have h2 : ¬ x.toNat < y.toNat := fun h2 => h (UInt8.lt_iff_toNat_lt.2 h2)
  simp [h, h2]
theorem strLe1 (x y : UInt8) : strLe [x] [y] = decide (x.toNat ≤ y.toNat) := by
 have h := strLt1 x y
 unfold strLt at h
 unfold strLe
 rw [h, Bool.eq_iff_iff]
 simp only [Bool.or_eq_true, decide_eq_true_eq, beq_iff_eq, List.cons.injEq, and_true]
 constructor
 ·rintro (h | rfl) <;> omega
 ·intro h1
  by_cases h2 : x.toNat < y.toNat
  ·exact .inl h2
  ·exact .inr (UInt8.toNat_inj.1 (by omega))
theorem tagOk_cmp {t : Tag} (hk : (t.key.length : Int) = 1) (hv : (t.val.length : Int) = 1) : tagOk t = (!(strLt t.key [97]) && strLe t.key [100] && !(strLt t.val [112]) && strLe t.val [122]) := by
 obtain ⟨x, hx⟩ := len1 hk
 obtain ⟨y, hy⟩ := len1 hv
 rw [tagOk_kv hx hy, hx, hy, strLt1, strLe1, strLt1, strLe1]
 unfold inR
 rw [Bool.eq_iff_iff]
 simp
 omega
theorem tagOk_lt {t : Tag} (hk : (t.key.length : Int) = 1) (h : strLt t.key [97] = true) : tagOk t = false := by
 by_cases hv : (t.val.length : Int) = 1
 ·rw [tagOk_cmp hk hv, h]; simp
 ·exact tagOk_v hv
theorem tagOk_le {t : Tag} (hk : (t.key.length : Int) = 1) (h : strLe t.key [100] = false) : tagOk t = false := by
 by_cases hv : (t.val.length : Int) = 1
 ·rw [tagOk_cmp hk hv, h]; simp
 ·exact tagOk_v hv
theorem at1 {s : Str} {y : UInt8} (h : (s.length : Int) = 1) (hy : s[0]? = some y) : s = [y] := by
 obtain ⟨x, rfl⟩ := len1 h
 simpa using hy
theorem one1_at {lo hi : Int} {s : Str} {y : UInt8} (h : (s.length : Int) = 1) (hy : s[0]? = some y) : one1 lo hi s = inR y.toNat lo hi := by
 rw [at1 h hy]; rfl
theorem tagOk_def (t : Tag) : tagOk t = (one1 97 100 t.key && one1 112 122 t.val) := rfl
theorem put1_len (r : Row) : ∀ (xs out : List Row) (d : Bool), (put1 out r d xs).length ≤ out.length + xs.length + 1 ∧ (d = true → (put1 out r d xs).length ≤ out.length + xs.length) := by
 intro xs
 induction xs with
 | nil => intro out d; cases d <;> simp [put1]
 | cons x xs ih =>
   intro out d
   have h1 := ih (out ++ [r] ++ [x]) true
   have h2 := ih (out ++ [r]) true
   have h3 := ih (out ++ [x]) d
   have h4 := ih out d
   simp only [List.length_append, List.length_cons, List.length_nil] at h1 h2 h3 h4
   unfold put1
   cases d <;> simp only [Bool.not_true, Bool.not_false, Bool.false_and, Bool.true_and, List.length_cons] <;> split <;> (try split) <;> constructor <;> (try intro hd) <;> (try cases hd) <;> first | omega | simp_all <;> omega
theorem sPut_len (b : List Row) (r : Row) : (sPut b r).length ≤ b.length + 1 := by
 have := (put1_len r b [] false).1
 simpa [sPut] using this
def partF (id : Int) : List Int → List (List Row) → List Row
 | i :: is, b :: bs => if i == id then b else partF id is bs
 | _, _ => []
def partOf (p : Prt) (id : Int) : List Row := partF id p.ids p.blocks
def prev {α : Type} (xs : List α) (k : Nat) : Option α := if k = 0 then none else xs[k - 1]?
@[grind =] theorem prev_succ {α : Type} (xs : List α) (k : Nat) : prev xs (k + 1) = xs[k]? := by simp [prev]
theorem prev_pos {α : Type} (xs : List α) (k : Nat) (h : 0 < k) : prev xs k = xs[k - 1]? := by simp [prev]; omega
def partG : Option Int → List Int → List (List Row) → Bool
 | _, [], _ => true
 | o, i :: is, b :: bs => inR i 1 6 && (match o with | some q => decide (q < i) | none => true) && decide (0 < b.length) && blockOk b && partG (some i) is bs
 | _, _ :: _, [] => false
def partOk (p : Prt) : Bool := decide (p.ids.length = p.blocks.length) && partG none p.ids p.blocks
def partIn (p : Prt) (n : Int) : Bool := partOk p && (match p.ids.getLast? with | some i => decide (i ≤ n) | none => false)
def idxF (v : Int) : Nat → List Int → Int
 | _, [] => -1
 | i, x :: xs => if x == v then (i : Int) else idxF v (i + 1) xs
def maxF : Int → List Int → Int
 | m, [] => m
 | m, x :: xs => maxF (if x > m then x else m) xs
def maxOf : List Int → Int
 | [] => 0
 | x :: xs => maxF x xs
def text1 (t : Tag) : Str := t.key ++ [61] ++ t.val
def textF : Nat → List Tag → Str
 | _, [] => []
 | i, t :: ts => (if i > 0 then [44] else []) ++ text1 t ++ textF (i + 1) ts
def text (n : List Tag) : Str := textF 0 n
def tagLt (a b : Tag) : Bool := strLt a.key b.key || a.key == b.key && strLt a.val b.val
def rowsP (id : Int) (o : List Row) (p : Prt) : List Row := sMerge o (partOf p id)
def rowsM (id : Int) (o : List Row) (m : Smp) : List Row := if m.id == id then sPut o m.row else o
def rowsOf (s : Sto) (id : Int) : List Row := s.mem.foldl (rowsM id) (s.parts.foldl (rowsP id) [])
def pMergeL (a b : Prt) (n : Nat) : List (List Row) := (List.range n).map (fun (i : Nat) => sMerge (partOf a ((i : Int) + 1)) (partOf b ((i : Int) + 1)))
def pMerge (a b : Prt) : Prt := pMake (pMergeL a b 6)
theorem pMergeL_succ (a b : Prt) (n : Nat) : pMergeL a b (n + 1) = pMergeL a b n ++ [sMerge (partOf a ((n : Int) + 1)) (partOf b ((n : Int) + 1))] := by simp [pMergeL, List.range_succ]
theorem pMergeL_len (a b : Prt) (n : Nat) : (pMergeL a b n).length = n := by simp [pMergeL]
def NmSz (n : List Tag) : Prop := n.length ≤ 1000 ∧ ∀ t ∈ n, t.key.length ≤ 1000 ∧ t.val.length ≤ 1000
def PrtSz (p : Prt) : Prop := p.ids.length = p.blocks.length ∧ p.blocks.length ≤ 1000 ∧ ∀ b ∈ p.blocks, b.length ≤ 1000
theorem sMerge_len (a b : List Row) : (sMerge a b).length ≤ a.length + b.length := by
 unfold sMerge
 induction b generalizing a with
 | nil => simp
 | cons x xs ih =>
   simp only [List.foldl_cons, List.length_cons]
   have h1 := ih (sPut a x)
   have h2 := sPut_len a x
   omega
theorem partF_mem (id : Int) : ∀ (is : List Int) (bs : List (List Row)), partF id is bs = [] ∨ partF id is bs ∈ bs := by
 intro is
 induction is with
 | nil => intro bs; left; unfold partF; rfl
 | cons i is ih =>
   intro bs
   cases bs with
   | nil => left; unfold partF; rfl
   | cons b bs =>
     unfold partF
     split
     ·right; simp
     ·rcases ih bs with h | h
      ·left; exact h
      ·right; exact List.mem_cons_of_mem _ h
theorem partOf_len {p : Prt} (h : PrtSz p) (id : Int) : (partOf p id).length ≤ 1000 := by
 rcases partF_mem id p.ids p.blocks with h1 | h1
 ·unfold partOf; rw [h1]; simp
 ·exact h.2.2 _ h1
theorem pMergeL_mem {a b : Prt} (ha : PrtSz a) (hb : PrtSz b) (n : Nat) : ∀ x ∈ pMergeL a b n, x.length ≤ 2000 := by
 intro x hx
 simp only [pMergeL, List.mem_map] at hx
 obtain ⟨i, _, rfl⟩ := hx
 have h1 := sMerge_len (partOf a ((i : Int) + 1)) (partOf b ((i : Int) + 1))
 have h2 := partOf_len ha ((i : Int) + 1)
 have h3 := partOf_len hb ((i : Int) + 1)
 omega
def numF (num : Int) : Nat → List Fil → Int
 | _, [] => -1
 | i, f :: fs => if f.num == num then (i : Int) else numF num (i + 1) fs
def numAt (d : Dsk) (num : Int) : Int := numF num 0 d.files
def nmF (t : Str) : Nat → List (List Tag) → Int
 | _, [] => 0
 | i, x :: xs => if text x == t then (i : Int) + 1 else nmF t (i + 1) xs
def nmAt (ix : Idx) (n : List Tag) : Int := nmF (text n) 0 ix.names
theorem pst_eq (a b : Pst) : a = b ↔ a.tag = b.tag ∧ a.ids = b.ids := by cases a; cases b; simp
end Go.Proofs.YtganlmloonielaaGreat
namespace Go.Proofs.YtganlmloonielaaGreat
set_option maxRecDepth 100000
set_option maxHeartbeats 4000000
theorem c_impl_within (n : Int) (low : Int) (high : Int) {w : World} {F : Nat → Prop}   : Calls Tryz.prog 69 [.int .i64 n, .int .i64 low, .int .i64 high].toArray w (rets fun rv w' => rv = .bool (inR n low high) ∧ Ext w w') := by
 exact goT Tryz.func69 <| .s <| .g <| .r 1 <| .d <| .s <| .g <| .r 2 <| .bp (n ≥ low) (fun C => .r 6 <| .d <| .rt Tryz.func69 Tryz.results69 (.bool (decide (n ≤ high))) ⟨(congrArg Value.bool (by simp [inR]; omega)), (Chg.refl _ _)⟩) fun C => .r 6 <| .d <| .rt Tryz.func69 Tryz.results69 (.bool false) ⟨(congrArg Value.bool (by simp [inR]; omega)), (Chg.refl _ _)⟩
theorem c_spec_l6In (n : Int) (low : Int) (high : Int) {w : World} {F : Nat → Prop}   : Calls Tryz.prog 64 [.int .i64 n, .int .i64 low, .int .i64 high].toArray w (rets fun rv w' => rv = .bool (inR n low high) ∧ Ext w w') := by
 exact goT Tryz.func64 <| .s <| .g <| .r 1 <| .d <| .s <| .g <| .r 2 <| .bp (n ≥ low) (fun C => .r 6 <| .d <| .rt Tryz.func64 Tryz.results64 (.bool (decide (n ≤ high))) ⟨(congrArg Value.bool (by simp [inR]; omega)), (Chg.refl _ _)⟩) fun C => .r 6 <| .d <| .rt Tryz.func64 Tryz.results64 (.bool false) ⟨(congrArg Value.bool (by simp [inR]; omega)), (Chg.refl _ _)⟩
theorem c_impl_rowOk (r : Row) {w : World} {F : Nat → Prop}   : Calls Tryz.prog 105 [.agg #[.int .i64 r.t, .int .i64 r.v]].toArray w (rets fun rv w' => rv = .bool (rowOk r) ∧ Ext w w') := by
 refine goT Tryz.func105 <| .s <| .g <| .np 105 [vI r.t, vI r.v] fun ai ae ab J E ac => ?_
 have C := J
 refine .r 1 <| .d <| .s <| .g <| .r 1 <| .lb E <| .cl (c_impl_within r.t 0 99 (w := ae) (F := all)) ?_
 rintro aj af ⟨rfl, O⟩
 replace ⟨E, C⟩ := (se [] O).g2 E C
 cases W : (inR r.t 0 99)
 ·have ag := inR_f W
  exact .r 6 <| .d <| .rt Tryz.func105 Tryz.results105 (.bool false) ⟨(congrArg Value.bool (by simp_all [rowOk])), C⟩
 have ah := inR_t W
 refine .r 2 <| .lb E <| .cl (c_impl_within r.v (-99) 99 (w := af) (F := all)) ?_
 rintro ak al ⟨rfl, aa⟩
 replace C := (se [] aa).g1 C
 exact .r 2 <| .d <| .rt Tryz.func105 Tryz.results105 (.bool (inR r.v (-99) 99)) ⟨(congrArg Value.bool (by simp_all [rowOk])), C⟩
theorem c_spec_l2Row (r : Row) {w : World} {F : Nat → Prop}   : Calls Tryz.prog 115 [.agg #[.int .i64 r.t, .int .i64 r.v]].toArray w (rets fun rv w' => rv = .bool (rowOk r) ∧ Ext w w') := by
 refine goT Tryz.func115 <| .s <| .g <| .np 105 [vI r.t, vI r.v] fun ai ae ab J E ac => ?_
 have C := J
 refine .r 1 <| .d <| .s <| .g <| .r 1 <| .lb E <| .cl (c_spec_l6In r.t 0 99 (w := ae) (F := all)) ?_
 rintro aj af ⟨rfl, O⟩
 replace ⟨E, C⟩ := (se [] O).g2 E C
 cases W : (inR r.t 0 99)
 ·have ag := inR_f W
  exact .r 6 <| .d <| .rt Tryz.func115 Tryz.results115 (.bool false) ⟨(congrArg Value.bool (by simp_all [rowOk])), C⟩
 have ah := inR_t W
 refine .r 2 <| .lb E <| .cl (c_spec_l6In r.v (-99) 99 (w := af) (F := all)) ?_
 rintro ak al ⟨rfl, aa⟩
 replace C := (se [] aa).g1 C
 exact .r 2 <| .d <| .rt Tryz.func115 Tryz.results115 (.bool (inR r.v (-99) 99)) ⟨(congrArg Value.bool (by simp_all [rowOk])), C⟩
theorem c_spec_l11Names (names : List (List Tag)) {w : World} {F : Nat → Prop} {a1 : Option Addr} {n1 c1 : Nat} (h1 : RepS w F a1 n1 c1 names) (p0 : names.length ≤ 1000000) (p1 : ∀ n ∈ names, n.length ≤ 1000000) : Calls Tryz.prog 102 [.slice a1 n1 c1].toArray w (rets fun rv w' => VO 77 w.heap.size w' (names : List (List Tag)) rv ∧ Ext w w') := by
 refine goT Tryz.func102 ?_
 obtain ⟨rfl, bk, h1⟩ := h1.tp
 refine .s <| .g <| .r 1 <| .d <| .s <| .g <| .ns 0 77 [] fun aa ag af ah aD aE => ?_
 have aF := gb_new af (Nat.le_refl _)
 have aG : Cov nil w aa := cov_new af (Nat.le_refl _)
 replace h1 := (sn [] ah af).g1 h1
 have C := ah
 have aH : Own (α := List Tag) ag aa 77 (nin (ge w.heap.size) [aa]) 0 0 [] := Own.nil' aD
 refine .r 1 <| .d <| .s <| .s <| .g <| .r 1 <| .d <| .b 0 <| T.loop (X := (List (List Tag)) × Nat × Nat × Nat × Nat) (([] : List (List Tag)), aa, 0, 0, 0) (fun (out, r_out, n_out, c_out, i) => [(0, .slice a1 names.length c1), (3, vS r_out n_out c_out), (4, vI (i : Int))]) (fun (out, r_out, n_out, c_out, i) ao => Chg (ins [aa]) ag ao ∧ Own ao r_out 77 (nin (ge w.heap.size) [r_out]) n_out c_out out ∧ OrB r_out aa ag.heap.size ∧ (i ≤ names.length) ∧ (out ++ names.drop i = names)) (fun (out, r_out, n_out, c_out, i) => names.length - i) (by kernel_rfl) ⟨by kernel_rfl, by kernel_rfl, by kernel_rfl, trivial⟩ ⟨Chg.refl _ _, aH, orb_refl, (by omega), (by rfl)⟩ ?_
 rintro ⟨out, r_out, n_out, c_out, i⟩ bD ao ⟨J, E, ac, bm, bn⟩ ai
 have aI := gb_or' ac aF C.size
 have bo := cov_or' ac aG C.size
 have aJ : Cov (ins [aa]) ag aa := ⟨.inl (.head _)⟩
 have bq := cov_or' ac aJ (Nat.le_refl _)
 have av : Mv [aa] [r_out] ag ao := Mv.inl J (all_cons (.head _) all_nil) (all_cons (orb_mem ac (.head _)) all_nil)
 replace ⟨h1, C⟩ := (sp av J).g2 h1 C
 have br := E.len; have bt := E.max
 refine .s <| .s <| .g <| .r 3 <| .bp ((i : Int) < (names.length : Int)) (fun aK => ?_) (fun aK => .d <| .cf <| .x 0 rfl <| .s <| .g <| .r 2 <| .d <| .rt Tryz.func102 Tryz.results102 (vS r_out n_out c_out) ⟨(VO.of E (by grind) aI), C⟩)
 refine .d <| .ct <| .sk <| .s <| .b 1 <| .g <| .r 1 <| .ns 0 120 [] fun aq aZ W aw aL aM => ?_
 have aN := nb_new W E.lt
 have aO := gb_new W C.size
 have bu := C.cn W
 have bv := J.cn W
 replace ⟨h1, E, C, J⟩ := (sn [r_out] aw W).g4 h1 E C J
 have aP : Own (α := Tag) aZ aq 120 (nin (ge w.heap.size) [aq, r_out]) 0 0 [] := Own.nil' aL
 refine .r 2 ?_
 have aQ : i < names.length := (by omega)
 refine .ix i 1 h1 aQ ?_
 obtain ⟨ar, aj⟩ : ∃ y, names[i]? = some y := ⟨_, List.getElem?_eq_getElem (by omega)⟩
 have bw := drop_at aj; have aY := List.mem_of_getElem? aj
 obtain ⟨_, ⟨bE, bF, bG, rfl, aB⟩, aR⟩ := h1.elem i ar aj
 have aS := aB.len
 subst aS
 have bz := aB.max
 refine .lh 0 aR <| RG.appendF (T := 77) (ty := 77) flat_tag aP aB (by kernel_rfl) (by kernel_rfl) (fun b h e => h.2 (e ▸ (.head _))) (by grind) fun au ba bH O ab ax => ?_
 have bA := nb_or ab aN E.lt
 have aT := gb_or ab aO C.size
 replace ⟨E, C, J⟩ := (sa [aq, r_out] ax ab).g3 E C J
 replace O := O.rn aq
 have bB := O.len; have bC := O.max
 refine .ns 1 77 [vS au (0 + ar.length) ba] fun aU bc ak ay aV aW => ?_
 have az := nb_new ak E.lt
 have aX := gb_new ak C.size
 replace ⟨E, O, C, J⟩ := (se [au, r_out] ay).g4 E O C J
 have bd := O.sl aT
 replace E := (sd bc [au, r_out] au).g1 E
 have al : nin (ge w.heap.size) [r_out] aU ∧ aU ≠ r_out := hap_mk aX (all_cons az all_nil) az
 refine RG.append1 (T := 25) (ty := 25) (y := ([] ++ ar)) E aV (by kernel_rfl) (by kernel_rfl) ⟨_, _, _, rfl, bd.oi⟩ al (by grind) fun bg bh bI ae am aA => ?_
 have aC := orb_or am ac J.size
 replace ⟨C, J⟩ := (s1 aA).g2 C J
 replace ae := ae.rn r_out
 have bi := ae.len; have bj := ae.max
 exact .r 1 <| .d <| .ib 1 <| .g <| .r 1 <| .it ((i : Int) + 1) <| .r 1 <| .d <| ai ((out ++ [([] ++ ar)]), bg, n_out + 1, bh, i + 1) _ _ ⟨by kernel_rfl, by kernel_rfl, by kernel_rfl, trivial⟩ ⟨J, ae, aC, (by omega), (by grind)⟩ (by (simp only []; omega))
theorem c_impl_cloneNames (names : List (List Tag)) {w : World} {F : Nat → Prop} {a1 : Option Addr} {n1 c1 : Nat} (h1 : RepS w F a1 n1 c1 names) (p0 : names.length ≤ 1000000) (p1 : ∀ n ∈ names, n.length ≤ 1000000) : Calls Tryz.prog 54 [.slice a1 n1 c1].toArray w (rets fun rv w' => VO 77 w.heap.size w' (names : List (List Tag)) rv ∧ Ext w w') := by
 refine goT Tryz.func54 ?_
 obtain ⟨rfl, bk, h1⟩ := h1.tp
 refine .s <| .g <| .r 1 <| .d <| .s <| .g <| .ns 0 77 [] fun aa ag af ah aD aE => ?_
 have aF := gb_new af (Nat.le_refl _)
 have aG : Cov nil w aa := cov_new af (Nat.le_refl _)
 replace h1 := (sn [] ah af).g1 h1
 have C := ah
 have aH : Own (α := List Tag) ag aa 77 (nin (ge w.heap.size) [aa]) 0 0 [] := Own.nil' aD
 refine .r 1 <| .d <| .s <| .s <| .g <| .r 3 <| .d <| .b 0 <| T.loop (X := (List (List Tag)) × Nat × Nat × Nat × Nat) (([] : List (List Tag)), aa, 0, 0, 0) (fun (out, r_out, n_out, c_out, k) => [(3, vS r_out n_out c_out), (7, .slice a1 names.length c1), (8, vI (names.length : Int)), (9, vI (k : Int))]) (fun (out, r_out, n_out, c_out, k) aq => Chg (ins [aa]) ag aq ∧ Own aq r_out 77 (nin (ge w.heap.size) [r_out]) n_out c_out out ∧ OrB r_out aa ag.heap.size ∧ (k ≤ names.length) ∧ (out ++ names.drop k = names)) (fun (out, r_out, n_out, c_out, k) => names.length - k) (by kernel_rfl) ⟨by kernel_rfl, by kernel_rfl, by kernel_rfl, by kernel_rfl, trivial⟩ ⟨Chg.refl _ _, aH, orb_refl, (by omega), (by rfl)⟩ ?_
 rintro ⟨out, r_out, n_out, c_out, k⟩ bD aq ⟨J, E, ac, bm, bn⟩ ai
 have aI := gb_or' ac aF C.size
 have bo := cov_or' ac aG C.size
 have aJ : Cov (ins [aa]) ag aa := ⟨.inl (.head _)⟩
 have bq := cov_or' ac aJ (Nat.le_refl _)
 have aw : Mv [aa] [r_out] ag aq := Mv.inl J (all_cons (.head _) all_nil) (all_cons (orb_mem ac (.head _)) all_nil)
 replace ⟨h1, C⟩ := (sp aw J).g2 h1 C
 have br := E.len; have bt := E.max
 refine .s <| .g <| .bp ((k : Int) < (names.length : Int)) (fun aK => ?_) (fun aK => .d <| .s <| .cf <| .x 0 rfl <| .s <| .g <| .r 2 <| .d <| .rt Tryz.func54 Tryz.results54 (vS r_out n_out c_out) ⟨(VO.of E (by grind) aI), C⟩)
 refine .d <| .s <| .ct <| .sk <| .s <| .b 1 <| .s <| .g ?_
 have aL : k < names.length := (by omega)
 refine .ix k 1 h1 aL ?_
 obtain ⟨ar, aj⟩ : ∃ y, names[k]? = some y := ⟨_, List.getElem?_eq_getElem (by omega)⟩
 have bu := drop_at aj; have aY := List.mem_of_getElem? aj
 obtain ⟨_, ⟨bE, bF, bG, rfl, ak⟩, aM⟩ := h1.elem k ar aj
 have aN := ak.len
 subst aN
 have bv := ak.max
 refine .lh 0 aM <| .r 1 <| .d <| .g <| .r 1 <| .ns 0 120 [] fun au aZ W ax aO aP => ?_
 have aQ := nb_new W E.lt
 have aR := gb_new W C.size
 have bw := C.cn W
 have bz := J.cn W
 replace ⟨E, ak, C, J⟩ := (sn [r_out] ax W).g4 E ak C J
 have aS : Own (α := Tag) aZ au 120 (nin (ge w.heap.size) [au, r_out]) 0 0 [] := Own.nil' aO
 refine .r 1 <| RG.appendF (T := 77) (ty := 77) flat_tag aS ak (by kernel_rfl) (by kernel_rfl) (fun b h e => h.2 (e ▸ (.head _))) (by grind) fun av ba bH O ab ay => ?_
 have bA := nb_or ab aQ E.lt
 have aT := gb_or ab aR C.size
 replace ⟨E, C, J⟩ := (sa [au, r_out] ay ab).g3 E C J
 replace O := O.rn au
 have bB := O.len; have bC := O.max
 refine .ns 1 77 [vS av (0 + ar.length) ba] fun aU bc al az aV aW => ?_
 have aA := nb_new al E.lt
 have aX := gb_new al C.size
 replace ⟨E, O, C, J⟩ := (se [av, r_out] az).g4 E O C J
 have bd := O.sl aT
 replace E := (sd bc [av, r_out] av).g1 E
 have am : nin (ge w.heap.size) [r_out] aU ∧ aU ≠ r_out := hap_mk aX (all_cons aA all_nil) aA
 refine RG.append1 (T := 25) (ty := 25) (y := ([] ++ ar)) E aV (by kernel_rfl) (by kernel_rfl) ⟨_, _, _, rfl, bd.oi⟩ am (by grind) fun bg bh bI ae ao aB => ?_
 have aC := orb_or ao ac J.size
 replace ⟨C, J⟩ := (s1 aB).g2 C J
 replace ae := ae.rn r_out
 have bi := ae.len; have bj := ae.max
 exact .r 1 <| .d <| .ib 1 <| .g <| .it ((k : Int) + 1) <| .r 1 <| .d <| ai ((out ++ [([] ++ ar)]), bg, n_out + 1, bh, k + 1) _ _ ⟨by kernel_rfl, by kernel_rfl, by kernel_rfl, by kernel_rfl, trivial⟩ ⟨J, ae, aC, (by omega), (by grind)⟩ (by (simp only []; omega))
theorem c_spec_l2Put (b : List Row) (r : Row) {w : World} {F : Nat → Prop} {a1 : Option Addr} {n1 c1 : Nat} (h1 : RepS w F a1 n1 c1 b) (p0 : b.length ≤ 1000000) : Calls Tryz.prog 147 [.slice a1 n1 c1, .agg #[.int .i64 r.t, .int .i64 r.v]].toArray w (rets fun rv w' => VL (ge w.heap.size) w' (sPut b r : List Row) rv ∧ Ext w w') := by
 refine goT Tryz.func147 ?_
 obtain ⟨rfl, de, h1⟩ := h1.tp
 refine .s <| .g <| .np 105 [vI r.t, vI r.v] fun W dL bg aH C ci => ?_
 replace h1 := (sn [] aH bg).g1 h1
 have E := aH
 refine .r 1 <| .d <| .s <| .g <| .ns 0 105 [] fun ay aI az bh cj ck => ?_
 have cm := nb_new az C.lt
 have co := gb_new az E.size
 have cp := E.cn az
 replace ⟨h1, C, E⟩ := (sn [W] bh az).g3 h1 C E
 have cq : Own (α := Row) aI ay 105 (nin (ge w.heap.size) [ay, W]) 0 0 [] := Own.nil' cj
 refine .r 1 <| .d <| .s <| .g <| .r 1 <| .d <| .s <| .s <| .g <| .r 1 <| .d <| .b 0 <| T.loop (X := (List Row) × Nat × Nat × Nat × Bool × Nat) (([] : List Row), ay, 0, 0, false, 0) (fun (out, r_out, n_out, c_out, put, i) => [(0, .slice a1 b.length c1), (3, .pointer (some ⟨W, 0, none⟩)), (5, vS r_out n_out c_out), (6, .bool put), (7, vI (i : Int))]) (fun (out, r_out, n_out, c_out, put, i) bd => Chg (ins [ay]) aI bd ∧ Own bd r_out 105 (nin (ge w.heap.size) [r_out, W]) n_out c_out out ∧ OrB r_out ay aI.heap.size ∧ (i ≤ b.length) ∧ (out.length ≤ i + 1) ∧ (put = false → out.length ≤ i) ∧ (put1 out r put (b.drop i) = sPut b r)) (fun (out, r_out, n_out, c_out, put, i) => b.length - i) (by kernel_rfl) ⟨by kernel_rfl, by kernel_rfl, by kernel_rfl, by kernel_rfl, by kernel_rfl, trivial⟩ ⟨Chg.refl _ _, cq, orb_refl, (by simp [sPut]), (by simp [sPut]), (by simp [sPut]), (by simp [sPut])⟩ ?_
 rintro ⟨out, r_out, n_out, c_out, put, i⟩ dM bd ⟨J, O, ae, df, dg, dh, dj⟩ aa
 have bi := nb_or' ae cm C.lt
 have bj := gb_or' ae co E.size
 have cr := cov_or' ae cp E.size
 have cu : Cov (ins [ay]) aI ay := ⟨.inl (.head _)⟩
 have cv := cov_or' ae cu (Nat.le_refl _)
 have bk : Mv [ay, W] [r_out, W] aI bd := Mv.inl J (all_cons (.head _) all_nil) (all_cons (orb_mem ae (.head _)) (all_cons (.inl (.tail _ (.head _))) all_nil))
 replace ⟨h1, C, E⟩ := (sp bk J).g3 h1 C E
 have dm := O.len; have dp := O.max
 refine .s <| .s <| .g <| .r 3 <| .bp ((i : Int) < (b.length : Int)) (fun cw => ?_) (fun cw => ?_)
 ·refine .d <| .ct <| .sk <| .s <| .b 1 <| .s <| .s <| .gd nil 10 fun dN bm => ?_
  replace ⟨h1, C, O, E, J⟩ := (se [r_out, W] bm).g5 h1 C O E J
  cases dq : put
  ·refine .r [0, 1, 2, 3, 4] ?_
   have cx : i < b.length := (by omega)
   refine .ix 5 i 2 h1 cx <| .r [6] ?_
   obtain ⟨ac, ag⟩ : ∃ y, b[i]? = some y := ⟨_, List.getElem?_eq_getElem (by omega)⟩
   have dr := drop_at ag; have cS := List.mem_of_getElem? ag
   obtain ⟨_, rfl, cy⟩ := h1.elem i ac ag
   refine .lh 7 0 cy id <| .r [8] <| .lb 9 C id <| .d fun dO bn => ?_
   replace ⟨h1, C, O, E, J⟩ := (se [r_out, W] bn).g5 h1 C O E J
   refine .bp (ac.t ≥ r.t) (fun cz => ?_) (fun cz => ?_)
   ·refine .r 1 <| .d <| .ct <| .s <| .g <| .r 1 <| .ln C <| .ns 1 105 [vI r.t, vI r.v] fun cA dP aB bo cB cC => ?_
    have cD := nb_new aB C.lt
    have bq := nb_new aB O.lt
    have cE := gb_new aB E.size
    replace ⟨h1, C, O, E, J⟩ := (se [r_out, W] bo).g5 h1 C O E J
    have aJ : nin (ge w.heap.size) [r_out, W] cA ∧ cA ≠ r_out := hap_mk cE (all_cons bq (all_cons cD all_nil)) bq
    refine RG.append1 (T := 91) (ty := 91) (y := r) O cB (by kernel_rfl) (by kernel_rfl) rfl aJ (by omega) fun aA cT dQ ab af br => ?_
    have dt := nb_or af bi C.lt
    have du := cov_or af cr E.size
    have dv := cov_or af cv J.size
    have bt := orb_or af ae J.size
    replace ⟨h1, C, E, J⟩ := (sa [r_out, W] br af).g4 h1 C E J
    replace ab := ab.rn r_out
    have dw := ab.len; have dx := ab.max
    refine .r 1 <| .d <| .g <| .r 1 <| .d <| .s <| .gd nil 7 fun dR bu => ?_
    replace ⟨h1, C, ab, E, J⟩ := (se [aA, W] bu).g5 h1 C ab E J
    refine .r [0, 1] ?_
    have cF : i < b.length := (by omega)
    refine .ix 2 i 2 h1 cF <| .r [3] ?_
    obtain ⟨_, rfl, cG⟩ := h1.elem i ac ag
    refine .lh 4 0 cG id <| .r [5] <| .lb 6 C id <| .d fun dS aK => ?_
    replace ⟨h1, C, ab, E, J⟩ := (se [aA, W] aK).g5 h1 C ab E J
    refine .ne ac.t r.t (fun bB => ?_) (fun bB => .d <| .cf <| .sk <| .ib 1 <| .g <| .r 1 <| .it ((i : Int) + 1) <| .r 1 <| .d <| aa ((out ++ [r]), aA, n_out + 1, cT, true, i + 1) _ _ ⟨by kernel_rfl, by kernel_rfl, by kernel_rfl, by kernel_rfl, by kernel_rfl, trivial⟩ ⟨J, ab, bt, (by grind [put1]), (by grind [put1]), (by grind [put1]), (by grind [put1])⟩ (by (simp only []; omega)))
    refine .d <| .ct <| .g <| .r 3 ?_
    have bC : i < b.length := (by omega)
    refine .ix i 2 h1 bC ?_
    obtain ⟨_, rfl, bD⟩ := h1.elem i ac ag
    refine .lg 0 bD <| .ns 1 105 [vI ac.t, vI ac.v] fun bv dy am aL bE bF => ?_
    have bG := nb_new am C.lt
    have aM := nb_new am ab.lt
    have bH := gb_new am E.size
    replace ⟨h1, C, ab, E, J⟩ := (se [aA, W] aL).g5 h1 C ab E J
    have aD : nin (ge w.heap.size) [aA, W] bv ∧ bv ≠ aA := hap_mk bH (all_cons aM (all_cons bG all_nil)) aM
    refine RG.append1 (T := 91) (ty := 91) (y := ac) ab bE (by kernel_rfl) (by kernel_rfl) rfl aD (by omega) fun cH cI dz ah ao aN => ?_
    have bI := orb_or ao bt J.size
    replace ⟨h1, C, E, J⟩ := (sa [aA, W] aN ao).g4 h1 C E J
    replace ah := ah.rn aA
    have cU := ah.len; have cV := ah.max
    exact .r 1 <| .d <| .ib 1 <| .g <| .r 1 <| .it ((i : Int) + 1) <| .r 1 <| .d <| aa (((out ++ [r]) ++ [ac]), cH, n_out + 1 + 1, cI, true, i + 1) _ _ ⟨by kernel_rfl, by kernel_rfl, by kernel_rfl, by kernel_rfl, by kernel_rfl, trivial⟩ ⟨J, ah, bI, (by grind [put1]), (by grind [put1]), (by grind [put1]), (by grind [put1])⟩ (by (simp only []; omega))
   refine .r 1 <| .d <| .cf <| .sk <| .s <| .gd nil 7 fun dA aO => ?_
   replace ⟨h1, C, O, E, J⟩ := (se [r_out, W] aO).g5 h1 C O E J
   refine .r [0, 1] ?_
   have bJ : i < b.length := (by omega)
   refine .ix 2 i 2 h1 bJ <| .r [3] ?_
   obtain ⟨_, rfl, bK⟩ := h1.elem i ac ag
   refine .lh 4 0 bK id <| .r [5] <| .lb 6 C id <| .d fun dB aP => ?_
   replace ⟨h1, C, O, E, J⟩ := (se [r_out, W] aP).g5 h1 C O E J
   refine .ne ac.t r.t (fun bL => ?_) (fun bL => .d <| .cf <| .sk <| .ib 1 <| .g <| .r 1 <| .it ((i : Int) + 1) <| .r 1 <| .d <| aa (out, r_out, n_out, c_out, false, i + 1) _ _ ⟨by kernel_rfl, by kernel_rfl, by kernel_rfl, by kernel_rfl, by kernel_rfl, trivial⟩ ⟨J, O, ae, (by grind [put1]), (by grind [put1]), (by grind [put1]), (by grind [put1])⟩ (by omega))
   refine .d <| .ct <| .g <| .r 3 ?_
   have bM : i < b.length := (by omega)
   refine .ix i 2 h1 bM ?_
   obtain ⟨_, rfl, bN⟩ := h1.elem i ac ag
   refine .lg 0 bN <| .ns 1 105 [vI ac.t, vI ac.v] fun bw dC aq aQ bO bP => ?_
   have bQ := nb_new aq C.lt
   have aR := nb_new aq O.lt
   have bR := gb_new aq E.size
   replace ⟨h1, C, O, E, J⟩ := (se [r_out, W] aQ).g5 h1 C O E J
   have aE : nin (ge w.heap.size) [r_out, W] bw ∧ bw ≠ r_out := hap_mk bR (all_cons aR (all_cons bQ all_nil)) aR
   refine RG.append1 (T := 91) (ty := 91) (y := ac) O bO (by kernel_rfl) (by kernel_rfl) rfl aE (by omega) fun cJ cK dD ai ar aS => ?_
   have bS := orb_or ar ae J.size
   replace ⟨h1, C, E, J⟩ := (sa [r_out, W] aS ar).g4 h1 C E J
   replace ai := ai.rn r_out
   have cW := ai.len; have cX := ai.max
   exact .r 1 <| .d <| .ib 1 <| .g <| .r 1 <| .it ((i : Int) + 1) <| .r 1 <| .d <| aa ((out ++ [ac]), cJ, n_out + 1, cK, false, i + 1) _ _ ⟨by kernel_rfl, by kernel_rfl, by kernel_rfl, by kernel_rfl, by kernel_rfl, trivial⟩ ⟨J, ai, bS, (by grind [put1]), (by grind [put1]), (by grind [put1]), (by grind [put1])⟩ (by (simp only []; omega))
  refine .r [0, 1, 2] <| GA.skip (by kernel_rfl) fun dE aT => ?_
  replace ⟨h1, C, O, E, J⟩ := (se [r_out, W] aT).g5 h1 C O E J
  refine .r 2 <| .d <| .cf <| .sk <| .s <| .gd nil 7 fun dF aU => ?_
  replace ⟨h1, C, O, E, J⟩ := (se [r_out, W] aU).g5 h1 C O E J
  refine .r [0, 1] ?_
  have bT : i < b.length := (by omega)
  refine .ix 2 i 2 h1 bT <| .r [3] ?_
  obtain ⟨aj, au⟩ : ∃ y, b[i]? = some y := ⟨_, List.getElem?_eq_getElem (by omega)⟩
  have cY := drop_at au; have cL := List.mem_of_getElem? au
  obtain ⟨_, rfl, bU⟩ := h1.elem i aj au
  refine .lh 4 0 bU id <| .r [5] <| .lb 6 C id <| .d fun dG aV => ?_
  replace ⟨h1, C, O, E, J⟩ := (se [r_out, W] aV).g5 h1 C O E J
  refine .ne aj.t r.t (fun bV => ?_) (fun bV => .d <| .cf <| .sk <| .ib 1 <| .g <| .r 1 <| .it ((i : Int) + 1) <| .r 1 <| .d <| aa (out, r_out, n_out, c_out, true, i + 1) _ _ ⟨by kernel_rfl, by kernel_rfl, by kernel_rfl, by kernel_rfl, by kernel_rfl, trivial⟩ ⟨J, O, ae, (by grind [put1]), (by grind [put1]), (by grind [put1]), (by grind [put1])⟩ (by (simp only []; omega)))
  refine .d <| .ct <| .g <| .r 3 ?_
  have bW : i < b.length := (by omega)
  refine .ix i 2 h1 bW ?_
  obtain ⟨_, rfl, bX⟩ := h1.elem i aj au
  refine .lg 0 bX <| .ns 1 105 [vI aj.t, vI aj.v] fun bz dH av aW bY bZ => ?_
  have b0 := nb_new av C.lt
  have aX := nb_new av O.lt
  have b6 := gb_new av E.size
  replace ⟨C, O, E, J⟩ := (se [r_out, W] aW).g4 C O E J
  have aF : nin (ge w.heap.size) [r_out, W] bz ∧ bz ≠ r_out := hap_mk b6 (all_cons aX (all_cons b0 all_nil)) aX
  refine RG.append1 (T := 91) (ty := 91) (y := aj) O bY (by kernel_rfl) (by kernel_rfl) rfl aF (by omega) fun cM cN dI ak aC aY => ?_
  have b7 := orb_or aC ae J.size
  replace ⟨C, E, J⟩ := (s1 aY).g3 C E J
  replace ak := ak.rn r_out
  have cZ := ak.len; have c7 := ak.max
  exact .r 1 <| .d <| .ib 1 <| .g <| .r 1 <| .it ((i : Int) + 1) <| .r 1 <| .d <| aa ((out ++ [aj]), cM, n_out + 1, cN, true, i + 1) _ _ ⟨by kernel_rfl, by kernel_rfl, by kernel_rfl, by kernel_rfl, by kernel_rfl, trivial⟩ ⟨J, ak, b7, (by grind [put1]), (by grind [put1]), (by grind [put1]), (by grind [put1])⟩ (by (simp only []; omega))
 refine .d <| .cf <| .x 0 rfl <| .s <| .s <| .g ?_
 cases c8 : put
 ·refine .r 2 <| .d <| .ct <| .g <| .r 1 <| .ln C <| .ns 1 105 [vI r.t, vI r.v] fun bA dJ aw aZ b8 b9 => ?_
  have cd := nb_new aw C.lt
  have ba := nb_new aw O.lt
  have ce := gb_new aw E.size
  replace ⟨C, O, E⟩ := (se [r_out, W] aZ).g3 C O E
  have aG : nin (ge w.heap.size) [r_out, W] bA ∧ bA ≠ r_out := hap_mk ce (all_cons ba (all_cons cd all_nil)) ba
  refine RG.append1 (T := 91) (ty := 91) (y := r) O b8 (by kernel_rfl) (by kernel_rfl) rfl aG (by omega) fun cO cP dK al ax bc => ?_
  have c9 := nb_or ax bi C.lt
  have cg := gb_or ax bj E.size
  replace E := (s1 bc).g1 E
  replace al := al.rn r_out
  have da := al.len; have db := al.max
  refine .r 1 <| .d <| .s <| .g <| .r 2 <| .d ?_
  have cQ := al.sl cg
  exact .rt Tryz.func147 Tryz.results147 (vS cO (n_out + 1) cP) ⟨(cQ.vl (by grind [put1]) (fun _ _ h => h.1)), E⟩
 refine .r 2 <| .d <| .cf <| .sk <| .s <| .g <| .r 2 <| .d ?_
 have cR := O.sl bj
 exact .rt Tryz.func147 Tryz.results147 (vS r_out n_out c_out) ⟨(cR.vl (by grind [put1]) (fun _ _ h => h.1)), E⟩
theorem c_spec_l3Tag (t : Tag) {w : World} {F : Nat → Prop}   : Calls Tryz.prog 170 [.agg #[.string (bs t.key), .string (bs t.val)]].toArray w (rets fun rv w' => rv = .bool (tagOk t) ∧ Ext w w') := by
 refine goT Tryz.func170 <| .s <| .g <| .np 120 [vT t.key, vT t.val] fun aw ak ag W E ah => ?_
 have C := W
 refine .r 1 <| .d <| .s <| .g <| .r 1 <| .lb E <| RG.eqv (v := vI (t.key.length : Int)) (by kernel_rfl) (s_len t.key) <| .eq (t.key.length : Int) 1 (fun ai => ?_) (fun ai => .r 21 <| .d <| .rt Tryz.func170 Tryz.results170 (.bool false) ⟨(congrArg Value.bool (by grind [tagOk_k, tagOk_v, tagOk_def, one1_at])), C⟩)
 refine .r 2 <| .lb E <| RG.eqv (v := vI (t.val.length : Int)) (by kernel_rfl) (s_len t.val) <| .eq (t.val.length : Int) 1 (fun aj => ?_) (fun aj => .r 16 <| .d <| .rt Tryz.func170 Tryz.results170 (.bool false) ⟨(congrArg Value.bool (by grind [tagOk_k, tagOk_v, tagOk_def, one1_at])), C⟩)
 refine .r 3 <| .lb E ?_
 obtain ⟨J, aa⟩ : ∃ y, t.key[0]? = some y := ⟨_, List.getElem?_eq_getElem (by omega)⟩
 have am := UInt8.toNat_lt J; have ao := drop_at aa
 refine RG.sidx (t := 9) (s := t.key) (k := .i64) (i := 0) 0 (by kernel_rfl) (by kernel_rfl) (by omega) aa <| .it ((J.toNat : Int)) <| .cl (c_spec_l6In (J.toNat : Int) 97 100 (w := ak) (F := all)) ?_
 rintro ax al ⟨rfl, ab⟩
 replace ⟨E, C⟩ := (se [] ab).g2 E C
 cases ac : (inR (J.toNat : Int) 97 100)
 ·have aq := inR_f ac
  exact .r 9 <| .d <| .rt Tryz.func170 Tryz.results170 (.bool false) ⟨(congrArg Value.bool (by grind [tagOk_k, tagOk_v, tagOk_def, one1_at])), C⟩
 have ar := inR_t ac
 refine .r 3 <| .lb E ?_
 obtain ⟨O, ae⟩ : ∃ y, t.val[0]? = some y := ⟨_, List.getElem?_eq_getElem (by omega)⟩
 have au := UInt8.toNat_lt O; have av := drop_at ae
 refine RG.sidx (t := 9) (s := t.val) (k := .i64) (i := 0) 0 (by kernel_rfl) (by kernel_rfl) (by omega) ae <| .it ((O.toNat : Int)) <| .cl (c_spec_l6In (O.toNat : Int) 112 122 (w := al) (F := all)) ?_
 rintro ay az ⟨rfl, af⟩
 replace C := (se [] af).g1 C
 exact .r 2 <| .d <| .rt Tryz.func170 Tryz.results170 (.bool (inR (O.toNat : Int) 112 122)) ⟨(congrArg Value.bool (by grind [tagOk_k, tagOk_v, tagOk_def, one1_at])), C⟩
theorem c_impl_tagOk (t : Tag) {w : World} {F : Nat → Prop}   : Calls Tryz.prog 183 [.agg #[.string (bs t.key), .string (bs t.val)]].toArray w (rets fun rv w' => rv = .bool (tagOk t) ∧ Ext w w') := by
 refine goT Tryz.func183 <| .s <| .g <| .np 120 [vT t.key, vT t.val] fun ag ah O J C W => ?_
 have E := J
 refine .r 1 <| .d <| .s <| .g <| .r 1 <| .lb C <| RG.eqv (v := vI (t.key.length : Int)) (by kernel_rfl) (s_len t.key) <| .eq (t.key.length : Int) 1 (fun aa => ?_) (fun aa => .r 27 <| .d <| .rt Tryz.func183 Tryz.results183 (.bool false) ⟨(congrArg Value.bool (by grind [tagOk_k, tagOk_v, tagOk_cmp, tagOk_lt, tagOk_le])), E⟩)
 refine .r 2 <| .lb C <| RG.eqv (v := .bool (!(strLt t.key [97]))) (by kernel_rfl) (s_ge t.key [97]) ?_
 cases ac : (strLt t.key [97])
 ·refine .r 3 <| .lb C <| RG.eqv (v := .bool ((strLe t.key [100]))) (by kernel_rfl) (s_le t.key [100]) ?_
  cases ae : (strLe t.key [100])
  ·exact .r 18 <| .d <| .rt Tryz.func183 Tryz.results183 (.bool false) ⟨(congrArg Value.bool (by grind [tagOk_k, tagOk_v, tagOk_cmp, tagOk_lt, tagOk_le])), E⟩
  refine .r 3 <| .lb C <| RG.eqv (v := vI (t.val.length : Int)) (by kernel_rfl) (s_len t.val) <| .eq (t.val.length : Int) 1 (fun ab => ?_) (fun ab => .r 12 <| .d <| .rt Tryz.func183 Tryz.results183 (.bool false) ⟨(congrArg Value.bool (by grind [tagOk_k, tagOk_v, tagOk_cmp, tagOk_lt, tagOk_le])), E⟩)
  refine .r 3 <| .lb C <| RG.eqv (v := .bool (!(strLt t.val [112]))) (by kernel_rfl) (s_ge t.val [112]) ?_
  cases af : (strLt t.val [112])
  ·exact .r 3 <| .lb C <| RG.eqv (v := .bool ((strLe t.val [122]))) (by kernel_rfl) (s_le t.val [122]) <| .r 2 <| .d <| .rt Tryz.func183 Tryz.results183 (.bool (strLe t.val [122])) ⟨(congrArg Value.bool (by grind [tagOk_k, tagOk_v, tagOk_cmp, tagOk_lt, tagOk_le])), E⟩
  exact .r 7 <| .d <| .rt Tryz.func183 Tryz.results183 (.bool false) ⟨(congrArg Value.bool (by grind [tagOk_k, tagOk_v, tagOk_cmp, tagOk_lt, tagOk_le])), E⟩
 exact .r 23 <| .d <| .rt Tryz.func183 Tryz.results183 (.bool false) ⟨(congrArg Value.bool (by grind [tagOk_k, tagOk_v, tagOk_cmp, tagOk_lt, tagOk_le])), E⟩
theorem c_slices_Equal_int_int (a : List Int) (b : List Int) {w : World} {F : Nat → Prop} {a1 : Option Addr} {n1 c1 : Nat} (h1 : RepS w F a1 n1 c1 a) {a2 : Option Addr} {n2 c2 : Nat} (h2 : RepS w F a2 n2 c2 b)  : Calls Tryz.prog 142 [.slice a1 n1 c1, .slice a2 n2 c2].toArray w (rets fun rv w' => rv = .bool ((a == b)) ∧ Ext w w') := by
 refine goT Tryz.func142 ?_
 obtain ⟨rfl, au, h1⟩ := h1.tp
 obtain ⟨rfl, av, h2⟩ := h2.tp
 refine .s <| .g <| .r 1 <| .d <| .s <| .s <| .g <| .r 4 <| .ne (a.length : Int) (b.length : Int) (fun af => .d <| .ct <| .s <| .g <| .r 1 <| .d <| .rt Tryz.func142 Tryz.results142 (.bool false) ⟨(congrArg Value.bool (by grind [drop_end])), (Chg.refl _ _)⟩) fun af => .d <| .cf <| .sk <| .s <| .s <| .g <| .r 3 <| .d <| .b 0 <| T.loop (X := Nat) 0 (fun k => [(0, .slice a1 a.length c1), (1, .slice a2 b.length c2), (12, vI (a.length : Int)), (13, vI (k : Int))]) (fun k aa => Chg (ins []) w aa ∧ (k ≤ a.length) ∧ (a.drop k = b.drop k ↔ a = b)) (fun k => a.length - k) (by kernel_rfl) ⟨by kernel_rfl, by kernel_rfl, by kernel_rfl, by kernel_rfl, trivial⟩ ⟨Chg.refl _ _, (by simp), (by simp)⟩ ?_
 rintro k aA aa ⟨C, aw, ax⟩ J
 have ab : Mv [] [] w aa := Mv.inl C all_nil all_nil
 replace ⟨h1, h2⟩ := (sp ab C).g2 h1 h2
 have E : Chg nil w aa := Chg.stepI (Chg.refl nil w) C all_nil
 refine .s <| .g <| .bp ((k : Int) < (a.length : Int)) (fun ag => ?_) (fun ag => .d <| .s <| .cf <| .x 0 rfl <| .s <| .g <| .r 1 <| .d <| .rt Tryz.func142 Tryz.results142 (.bool true) ⟨(congrArg Value.bool (by grind [drop_end])), E⟩)
 refine .d <| .s <| .ct <| .sk <| .s <| .b 1 <| .s <| .g <| .r 2 <| .d <| .s <| .gd nil 8 fun aB ac => ?_
 replace ⟨h1, h2, E, C⟩ := (se [] ac).g4 h1 h2 E C
 refine .r [0, 1] ?_
 have ah : k < a.length := (by omega)
 refine .ix 2 k 1 h1 ah ?_
 obtain ⟨ai, O⟩ : ∃ y, a[k]? = some y := ⟨_, List.getElem?_eq_getElem (by omega)⟩
 have ay := drop_at O; have aq := List.mem_of_getElem? O
 obtain ⟨_, rfl, aj⟩ := h1.elem k ai O
 refine .lh 3 0 aj id <| .r [4, 5] ?_
 have ak : k < b.length := (by omega)
 refine .ix 6 k 1 h2 ak ?_
 obtain ⟨al, W⟩ : ∃ y, b[k]? = some y := ⟨_, List.getElem?_eq_getElem (by omega)⟩
 have az := drop_at W; have ar := List.mem_of_getElem? W
 obtain ⟨_, rfl, am⟩ := h2.elem k al W
 refine .lh 7 0 am id <| .d fun aC ae => ?_
 replace ⟨E, C⟩ := (se [] ae).g2 E C
 exact .ne ai al (fun ao => .d <| .ct <| .s <| .g <| .r 1 <| .d <| .rt Tryz.func142 Tryz.results142 (.bool false) ⟨(congrArg Value.bool (by grind [drop_end])), E⟩) fun ao => .d <| .cf <| .sk <| .ib 1 <| .g <| .it ((k : Int) + 1) <| .r 1 <| .d <| J (k + 1) _ _ ⟨by kernel_rfl, by kernel_rfl, by kernel_rfl, by kernel_rfl, trivial⟩ ⟨C, (by omega), (by grind)⟩ (by omega)
theorem c_spec_l11Same (a : List Int) (b : List Int) {w : World} {F : Nat → Prop} {a1 : Option Addr} {n1 c1 : Nat} (h1 : RepS w F a1 n1 c1 a) {a2 : Option Addr} {n2 c2 : Nat} (h2 : RepS w F a2 n2 c2 b)  : Calls Tryz.prog 159 [.slice a1 n1 c1, .slice a2 n2 c2].toArray w (rets fun rv w' => rv = .bool ((a == b)) ∧ Ext w w') := by
 refine goT Tryz.func159 ?_
 obtain ⟨rfl, au, h1⟩ := h1.tp
 obtain ⟨rfl, av, h2⟩ := h2.tp
 refine .s <| .g <| .r 1 <| .d <| .s <| .s <| .g <| .r 4 <| .ne (a.length : Int) (b.length : Int) (fun af => .d <| .ct <| .s <| .g <| .r 1 <| .d <| .rt Tryz.func159 Tryz.results159 (.bool false) ⟨(congrArg Value.bool (by grind [drop_end])), (Chg.refl _ _)⟩) fun af => .d <| .cf <| .sk <| .s <| .s <| .g <| .r 1 <| .d <| .b 0 <| T.loop (X := Nat) 0 (fun i => [(0, .slice a1 a.length c1), (1, .slice a2 b.length c2), (5, vI (i : Int))]) (fun i aa => Chg (ins []) w aa ∧ (i ≤ a.length) ∧ (a.drop i = b.drop i ↔ a = b)) (fun i => a.length - i) (by kernel_rfl) ⟨by kernel_rfl, by kernel_rfl, by kernel_rfl, trivial⟩ ⟨Chg.refl _ _, (by simp), (by simp)⟩ ?_
 rintro i aA aa ⟨C, aw, ax⟩ J
 have ab : Mv [] [] w aa := Mv.inl C all_nil all_nil
 replace ⟨h1, h2⟩ := (sp ab C).g2 h1 h2
 have E : Chg nil w aa := Chg.stepI (Chg.refl nil w) C all_nil
 refine .s <| .s <| .g <| .r 3 <| .bp ((i : Int) < (a.length : Int)) (fun ag => ?_) (fun ag => .d <| .cf <| .x 0 rfl <| .s <| .g <| .r 1 <| .d <| .rt Tryz.func159 Tryz.results159 (.bool true) ⟨(congrArg Value.bool (by grind [drop_end])), E⟩)
 refine .d <| .ct <| .sk <| .s <| .b 1 <| .s <| .gd nil 8 fun aB ac => ?_
 replace ⟨h1, h2, E, C⟩ := (se [] ac).g4 h1 h2 E C
 refine .r [0, 1] ?_
 have ah : i < a.length := (by omega)
 refine .ix 2 i 1 h1 ah ?_
 obtain ⟨ai, O⟩ : ∃ y, a[i]? = some y := ⟨_, List.getElem?_eq_getElem (by omega)⟩
 have ay := drop_at O; have aq := List.mem_of_getElem? O
 obtain ⟨_, rfl, aj⟩ := h1.elem i ai O
 refine .lh 3 0 aj id <| .r [4, 5] ?_
 have ak : i < b.length := (by omega)
 refine .ix 6 i 1 h2 ak ?_
 obtain ⟨al, W⟩ : ∃ y, b[i]? = some y := ⟨_, List.getElem?_eq_getElem (by omega)⟩
 have az := drop_at W; have ar := List.mem_of_getElem? W
 obtain ⟨_, rfl, am⟩ := h2.elem i al W
 refine .lh 7 0 am id <| .d fun aC ae => ?_
 replace ⟨E, C⟩ := (se [] ae).g2 E C
 exact .ne ai al (fun ao => .d <| .ct <| .s <| .g <| .r 1 <| .d <| .rt Tryz.func159 Tryz.results159 (.bool false) ⟨(congrArg Value.bool (by grind [drop_end])), E⟩) fun ao => .d <| .cf <| .sk <| .ib 1 <| .g <| .r 1 <| .it ((i : Int) + 1) <| .r 1 <| .d <| J (i + 1) _ _ ⟨by kernel_rfl, by kernel_rfl, by kernel_rfl, trivial⟩ ⟨C, (by omega), (by grind)⟩ (by omega)
theorem c_laws_lyInts (a : List Int) (b : List Int) {w : World} {F : Nat → Prop} {a1 : Option Addr} {n1 c1 : Nat} (h1 : RepS w F a1 n1 c1 a) {a2 : Option Addr} {n2 c2 : Nat} (h2 : RepS w F a2 n2 c2 b)  : Calls Tryz.prog 21 [.slice a1 n1 c1, .slice a2 n2 c2].toArray w (rets fun rv w' => rv = .bool ((a == b)) ∧ Ext w w') := by
 refine goT Tryz.func21 ?_
 obtain ⟨rfl, au, h1⟩ := h1.tp
 obtain ⟨rfl, av, h2⟩ := h2.tp
 refine .s <| .g <| .r 1 <| .d <| .s <| .s <| .g <| .r 4 <| .ne (a.length : Int) (b.length : Int) (fun af => .d <| .ct <| .s <| .g <| .r 1 <| .d <| .rt Tryz.func21 Tryz.results21 (.bool false) ⟨(congrArg Value.bool (by grind [drop_end])), (Chg.refl _ _)⟩) fun af => .d <| .cf <| .sk <| .s <| .s <| .g <| .r 1 <| .d <| .b 0 <| T.loop (X := Nat) 0 (fun i => [(0, .slice a1 a.length c1), (1, .slice a2 b.length c2), (5, vI (i : Int))]) (fun i aa => Chg (ins []) w aa ∧ (i ≤ a.length) ∧ (a.drop i = b.drop i ↔ a = b)) (fun i => a.length - i) (by kernel_rfl) ⟨by kernel_rfl, by kernel_rfl, by kernel_rfl, trivial⟩ ⟨Chg.refl _ _, (by simp), (by simp)⟩ ?_
 rintro i aA aa ⟨C, aw, ax⟩ J
 have ab : Mv [] [] w aa := Mv.inl C all_nil all_nil
 replace ⟨h1, h2⟩ := (sp ab C).g2 h1 h2
 have E : Chg nil w aa := Chg.stepI (Chg.refl nil w) C all_nil
 refine .s <| .s <| .g <| .r 3 <| .bp ((i : Int) < (a.length : Int)) (fun ag => ?_) (fun ag => .d <| .cf <| .x 0 rfl <| .s <| .g <| .r 1 <| .d <| .rt Tryz.func21 Tryz.results21 (.bool true) ⟨(congrArg Value.bool (by grind [drop_end])), E⟩)
 refine .d <| .ct <| .sk <| .s <| .b 1 <| .s <| .gd nil 8 fun aB ac => ?_
 replace ⟨h1, h2, E, C⟩ := (se [] ac).g4 h1 h2 E C
 refine .r [0, 1] ?_
 have ah : i < a.length := (by omega)
 refine .ix 2 i 1 h1 ah ?_
 obtain ⟨ai, O⟩ : ∃ y, a[i]? = some y := ⟨_, List.getElem?_eq_getElem (by omega)⟩
 have ay := drop_at O; have aq := List.mem_of_getElem? O
 obtain ⟨_, rfl, aj⟩ := h1.elem i ai O
 refine .lh 3 0 aj id <| .r [4, 5] ?_
 have ak : i < b.length := (by omega)
 refine .ix 6 i 1 h2 ak ?_
 obtain ⟨al, W⟩ : ∃ y, b[i]? = some y := ⟨_, List.getElem?_eq_getElem (by omega)⟩
 have az := drop_at W; have ar := List.mem_of_getElem? W
 obtain ⟨_, rfl, am⟩ := h2.elem i al W
 refine .lh 7 0 am id <| .d fun aC ae => ?_
 replace ⟨E, C⟩ := (se [] ae).g2 E C
 exact .ne ai al (fun ao => .d <| .ct <| .s <| .g <| .r 1 <| .d <| .rt Tryz.func21 Tryz.results21 (.bool false) ⟨(congrArg Value.bool (by grind [drop_end])), E⟩) fun ao => .d <| .cf <| .sk <| .ib 1 <| .g <| .r 1 <| .it ((i : Int) + 1) <| .r 1 <| .d <| J (i + 1) _ _ ⟨by kernel_rfl, by kernel_rfl, by kernel_rfl, trivial⟩ ⟨C, (by omega), (by grind)⟩ (by omega)
theorem c_slices_Equal_impl_Tag_impl_Tag (a : List Tag) (b : List Tag) {w : World} {F : Nat → Prop} {a1 : Option Addr} {n1 c1 : Nat} (h1 : RepS w F a1 n1 c1 a) {a2 : Option Addr} {n2 c2 : Nat} (h2 : RepS w F a2 n2 c2 b)  : Calls Tryz.prog 96 [.slice a1 n1 c1, .slice a2 n2 c2].toArray w (rets fun rv w' => rv = .bool ((a == b)) ∧ Ext w w') := by
 refine goT Tryz.func96 ?_
 obtain ⟨rfl, ar, h1⟩ := h1.tp
 obtain ⟨rfl, au, h2⟩ := h2.tp
 refine .s <| .g <| .r 1 <| .d <| .s <| .s <| .g <| .r 4 <| .ne (a.length : Int) (b.length : Int) (fun ah => .d <| .ct <| .s <| .g <| .r 1 <| .d <| .rt Tryz.func96 Tryz.results96 (.bool false) ⟨(congrArg Value.bool (by grind [drop_end])), (Chg.refl _ _)⟩) fun ah => .d <| .cf <| .sk <| .s <| .s <| .g <| .r 3 <| .d <| .b 0 <| T.loop (X := Nat) 0 (fun k => [(0, .slice a1 a.length c1), (1, .slice a2 b.length c2), (12, vI (a.length : Int)), (13, vI (k : Int))]) (fun k aa => Chg (ins []) w aa ∧ (k ≤ a.length) ∧ (a.drop k = b.drop k ↔ a = b)) (fun k => a.length - k) (by kernel_rfl) ⟨by kernel_rfl, by kernel_rfl, by kernel_rfl, by kernel_rfl, trivial⟩ ⟨Chg.refl _ _, (by simp), (by simp)⟩ ?_
 rintro k aA aa ⟨C, av, aw⟩ J
 have ab : Mv [] [] w aa := Mv.inl C all_nil all_nil
 replace ⟨h1, h2⟩ := (sp ab C).g2 h1 h2
 have E : Chg nil w aa := Chg.stepI (Chg.refl nil w) C all_nil
 refine .s <| .g <| .bp ((k : Int) < (a.length : Int)) (fun ai => ?_) (fun ai => .d <| .s <| .cf <| .x 0 rfl <| .s <| .g <| .r 1 <| .d <| .rt Tryz.func96 Tryz.results96 (.bool true) ⟨(congrArg Value.bool (by grind [drop_end])), E⟩)
 refine .d <| .s <| .ct <| .sk <| .s <| .b 1 <| .s <| .g <| .r 2 <| .d <| .s <| .gd nil 8 fun aB ac => ?_
 replace ⟨h1, h2, E, C⟩ := (se [] ac).g4 h1 h2 E C
 refine .r [0, 1] ?_
 have aj : k < a.length := (by omega)
 refine .ix 2 k 2 h1 aj ?_
 obtain ⟨af, O⟩ : ∃ y, a[k]? = some y := ⟨_, List.getElem?_eq_getElem (by omega)⟩
 have ax := drop_at O; have ao := List.mem_of_getElem? O
 obtain ⟨_, rfl, ak⟩ := h1.elem k af O
 refine .lg 3 0 ak id <| .r [4, 5] ?_
 have al : k < b.length := (by omega)
 refine .ix 6 k 2 h2 al ?_
 obtain ⟨ag, W⟩ : ∃ y, b[k]? = some y := ⟨_, List.getElem?_eq_getElem (by omega)⟩
 have ay := drop_at W; have aq := List.mem_of_getElem? W
 obtain ⟨_, rfl, am⟩ := h2.elem k ag W
 refine .lg 7 0 am id <| .d fun aC ae => ?_
 replace ⟨E, C⟩ := (se [] ae).g2 E C
 refine RG.tagNe (t := 120) (x := af) (y := ag) (by kernel_rfl) (by kernel_rfl) ?_
 cases az : (af == ag)
 ·exact .d <| .ct <| .s <| .g <| .r 1 <| .d <| .rt Tryz.func96 Tryz.results96 (.bool false) ⟨(congrArg Value.bool (by grind [drop_end])), E⟩
 exact .d <| .cf <| .sk <| .ib 1 <| .g <| .it ((k : Int) + 1) <| .r 1 <| .d <| J (k + 1) _ _ ⟨by kernel_rfl, by kernel_rfl, by kernel_rfl, by kernel_rfl, trivial⟩ ⟨C, (by omega), (by grind)⟩ (by omega)
theorem c_laws_lyName (a : List Tag) (b : List Tag) {w : World} {F : Nat → Prop} {a1 : Option Addr} {n1 c1 : Nat} (h1 : RepS w F a1 n1 c1 a) {a2 : Option Addr} {n2 c2 : Nat} (h2 : RepS w F a2 n2 c2 b)  : Calls Tryz.prog 46 [.slice a1 n1 c1, .slice a2 n2 c2].toArray w (rets fun rv w' => rv = .bool ((a == b)) ∧ Ext w w') := by
 refine goT Tryz.func46 ?_
 obtain ⟨rfl, ar, h1⟩ := h1.tp
 obtain ⟨rfl, au, h2⟩ := h2.tp
 refine .s <| .g <| .r 1 <| .d <| .s <| .s <| .g <| .r 4 <| .ne (a.length : Int) (b.length : Int) (fun ah => .d <| .ct <| .s <| .g <| .r 1 <| .d <| .rt Tryz.func46 Tryz.results46 (.bool false) ⟨(congrArg Value.bool (by grind [drop_end])), (Chg.refl _ _)⟩) fun ah => .d <| .cf <| .sk <| .s <| .s <| .g <| .r 1 <| .d <| .b 0 <| T.loop (X := Nat) 0 (fun i => [(0, .slice a1 a.length c1), (1, .slice a2 b.length c2), (5, vI (i : Int))]) (fun i aa => Chg (ins []) w aa ∧ (i ≤ a.length) ∧ (a.drop i = b.drop i ↔ a = b)) (fun i => a.length - i) (by kernel_rfl) ⟨by kernel_rfl, by kernel_rfl, by kernel_rfl, trivial⟩ ⟨Chg.refl _ _, (by simp), (by simp)⟩ ?_
 rintro i aA aa ⟨C, av, aw⟩ J
 have ab : Mv [] [] w aa := Mv.inl C all_nil all_nil
 replace ⟨h1, h2⟩ := (sp ab C).g2 h1 h2
 have E : Chg nil w aa := Chg.stepI (Chg.refl nil w) C all_nil
 refine .s <| .s <| .g <| .r 3 <| .bp ((i : Int) < (a.length : Int)) (fun ai => ?_) (fun ai => .d <| .cf <| .x 0 rfl <| .s <| .g <| .r 1 <| .d <| .rt Tryz.func46 Tryz.results46 (.bool true) ⟨(congrArg Value.bool (by grind [drop_end])), E⟩)
 refine .d <| .ct <| .sk <| .s <| .b 1 <| .s <| .gd nil 8 fun aB ac => ?_
 replace ⟨h1, h2, E, C⟩ := (se [] ac).g4 h1 h2 E C
 refine .r [0, 1] ?_
 have aj : i < a.length := (by omega)
 refine .ix 2 i 2 h1 aj ?_
 obtain ⟨af, O⟩ : ∃ y, a[i]? = some y := ⟨_, List.getElem?_eq_getElem (by omega)⟩
 have ax := drop_at O; have ao := List.mem_of_getElem? O
 obtain ⟨_, rfl, ak⟩ := h1.elem i af O
 refine .lg 3 0 ak id <| .r [4, 5] ?_
 have al : i < b.length := (by omega)
 refine .ix 6 i 2 h2 al ?_
 obtain ⟨ag, W⟩ : ∃ y, b[i]? = some y := ⟨_, List.getElem?_eq_getElem (by omega)⟩
 have ay := drop_at W; have aq := List.mem_of_getElem? W
 obtain ⟨_, rfl, am⟩ := h2.elem i ag W
 refine .lg 7 0 am id <| .d fun aC ae => ?_
 replace ⟨E, C⟩ := (se [] ae).g2 E C
 refine RG.tagNe (t := 120) (x := af) (y := ag) (by kernel_rfl) (by kernel_rfl) ?_
 cases az : (af == ag)
 ·exact .d <| .ct <| .s <| .g <| .r 1 <| .d <| .rt Tryz.func46 Tryz.results46 (.bool false) ⟨(congrArg Value.bool (by grind [drop_end])), E⟩
 exact .d <| .cf <| .sk <| .ib 1 <| .g <| .r 1 <| .it ((i : Int) + 1) <| .r 1 <| .d <| J (i + 1) _ _ ⟨by kernel_rfl, by kernel_rfl, by kernel_rfl, trivial⟩ ⟨C, (by omega), (by grind)⟩ (by omega)
theorem c_laws_lyRows (a : List Row) (b : List Row) {w : World} {F : Nat → Prop} {a1 : Option Addr} {n1 c1 : Nat} (h1 : RepS w F a1 n1 c1 a) {a2 : Option Addr} {n2 c2 : Nat} (h2 : RepS w F a2 n2 c2 b)  : Calls Tryz.prog 59 [.slice a1 n1 c1, .slice a2 n2 c2].toArray w (rets fun rv w' => rv = .bool ((a == b)) ∧ Ext w w') := by
 refine goT Tryz.func59 ?_
 obtain ⟨rfl, ar, h1⟩ := h1.tp
 obtain ⟨rfl, au, h2⟩ := h2.tp
 refine .s <| .g <| .r 1 <| .d <| .s <| .s <| .g <| .r 4 <| .ne (a.length : Int) (b.length : Int) (fun ah => .d <| .ct <| .s <| .g <| .r 1 <| .d <| .rt Tryz.func59 Tryz.results59 (.bool false) ⟨(congrArg Value.bool (by grind [drop_end])), (Chg.refl _ _)⟩) fun ah => .d <| .cf <| .sk <| .s <| .s <| .g <| .r 1 <| .d <| .b 0 <| T.loop (X := Nat) 0 (fun i => [(0, .slice a1 a.length c1), (1, .slice a2 b.length c2), (5, vI (i : Int))]) (fun i aa => Chg (ins []) w aa ∧ (i ≤ a.length) ∧ (a.drop i = b.drop i ↔ a = b)) (fun i => a.length - i) (by kernel_rfl) ⟨by kernel_rfl, by kernel_rfl, by kernel_rfl, trivial⟩ ⟨Chg.refl _ _, (by simp), (by simp)⟩ ?_
 rintro i aA aa ⟨C, av, aw⟩ J
 have ab : Mv [] [] w aa := Mv.inl C all_nil all_nil
 replace ⟨h1, h2⟩ := (sp ab C).g2 h1 h2
 have E : Chg nil w aa := Chg.stepI (Chg.refl nil w) C all_nil
 refine .s <| .s <| .g <| .r 3 <| .bp ((i : Int) < (a.length : Int)) (fun ai => ?_) (fun ai => .d <| .cf <| .x 0 rfl <| .s <| .g <| .r 1 <| .d <| .rt Tryz.func59 Tryz.results59 (.bool true) ⟨(congrArg Value.bool (by grind [drop_end])), E⟩)
 refine .d <| .ct <| .sk <| .s <| .b 1 <| .s <| .gd nil 8 fun aB ac => ?_
 replace ⟨h1, h2, E, C⟩ := (se [] ac).g4 h1 h2 E C
 refine .r [0, 1] ?_
 have aj : i < a.length := (by omega)
 refine .ix 2 i 2 h1 aj ?_
 obtain ⟨af, O⟩ : ∃ y, a[i]? = some y := ⟨_, List.getElem?_eq_getElem (by omega)⟩
 have ax := drop_at O; have ao := List.mem_of_getElem? O
 obtain ⟨_, rfl, ak⟩ := h1.elem i af O
 refine .lg 3 0 ak id <| .r [4, 5] ?_
 have al : i < b.length := (by omega)
 refine .ix 6 i 2 h2 al ?_
 obtain ⟨ag, W⟩ : ∃ y, b[i]? = some y := ⟨_, List.getElem?_eq_getElem (by omega)⟩
 have ay := drop_at W; have aq := List.mem_of_getElem? W
 obtain ⟨_, rfl, am⟩ := h2.elem i ag W
 refine .lg 7 0 am id <| .d fun aC ae => ?_
 replace ⟨E, C⟩ := (se [] ae).g2 E C
 refine RG.rowNe (t := 105) (x := af) (y := ag) (by kernel_rfl) (by kernel_rfl) ?_
 cases az : (af == ag)
 ·exact .d <| .ct <| .s <| .g <| .r 1 <| .d <| .rt Tryz.func59 Tryz.results59 (.bool false) ⟨(congrArg Value.bool (by grind [drop_end])), E⟩
 exact .d <| .cf <| .sk <| .ib 1 <| .g <| .r 1 <| .it ((i : Int) + 1) <| .r 1 <| .d <| J (i + 1) _ _ ⟨by kernel_rfl, by kernel_rfl, by kernel_rfl, trivial⟩ ⟨C, (by omega), (by grind)⟩ (by omega)
theorem c_spec_l3Has (n : List Tag) (t : Tag) {w : World} {F : Nat → Prop} {a1 : Option Addr} {n1 c1 : Nat} (h1 : RepS w F a1 n1 c1 n)  : Calls Tryz.prog 178 [.slice a1 n1 c1, .agg #[.string (bs t.key), .string (bs t.val)]].toArray w (rets fun rv w' => rv = .bool (has n t) ∧ Ext w w') := by
 refine goT Tryz.func178 ?_
 obtain ⟨rfl, ar, h1⟩ := h1.tp
 refine .s <| .g <| .np 120 [vT t.key, vT t.val] fun ab aj ac O J ak => ?_
 replace h1 := (sn [] O ac).g1 h1
 have C := O
 refine .r 1 <| .d <| .s <| .s <| .g <| .r 1 <| .d <| .b 0 <| T.loop (X := Nat) 0 (fun i => [(0, .slice a1 n.length c1), (3, .pointer (some ⟨ab, 0, none⟩)), (5, vI (i : Int))]) (fun i ah => Chg (ins []) aj ah ∧ (i ≤ n.length) ∧ (has (n.drop i) t = has n t)) (fun i => n.length - i) (by kernel_rfl) ⟨by kernel_rfl, by kernel_rfl, by kernel_rfl, trivial⟩ ⟨Chg.refl _ _, (by simp), (by simp)⟩ ?_
 rintro i ay ah ⟨E, au, av⟩ W
 have ae : Mv [ab] [ab] aj ah := Mv.inl E all_nil (all_cons (.inl (.head _)) all_nil)
 replace ⟨h1, J, C⟩ := (sp ae E).g3 h1 J C
 refine .s <| .s <| .g <| .r 3 <| .bp ((i : Int) < (n.length : Int)) (fun al => ?_) (fun al => .d <| .cf <| .x 0 rfl <| .s <| .g <| .r 1 <| .d <| .rt Tryz.func178 Tryz.results178 (.bool false) ⟨(congrArg Value.bool (by grind [has])), C⟩)
 refine .d <| .ct <| .sk <| .s <| .b 1 <| .s <| .gd nil 5 fun az af => ?_
 replace ⟨h1, J, C, E⟩ := (se [ab] af).g4 h1 J C E
 refine .r [0, 1] ?_
 have am : i < n.length := (by omega)
 refine .ix 2 i 2 h1 am ?_
 obtain ⟨ai, aa⟩ : ∃ y, n[i]? = some y := ⟨_, List.getElem?_eq_getElem (by omega)⟩
 have aw := drop_at aa; have aq := List.mem_of_getElem? aa
 obtain ⟨_, rfl, ao⟩ := h1.elem i ai aa
 refine .lg 3 0 ao id <| .ln 4 J id <| .d fun aA ag => ?_
 replace ⟨C, E⟩ := (se [] ag).g2 C E
 refine RG.tagEq (t := 120) (x := ai) (y := t) (by kernel_rfl) (by kernel_rfl) ?_
 cases ax : (ai == t)
 ·exact .d <| .cf <| .sk <| .ib 1 <| .g <| .r 1 <| .it ((i : Int) + 1) <| .r 1 <| .d <| W (i + 1) _ _ ⟨by kernel_rfl, by kernel_rfl, by kernel_rfl, trivial⟩ ⟨E, (by omega), (by grind [has])⟩ (by omega)
 exact .d <| .ct <| .s <| .g <| .r 1 <| .d <| .rt Tryz.func178 Tryz.results178 (.bool true) ⟨(congrArg Value.bool (by grind [has])), C⟩
theorem c_spec_l11Ids (names : List (List Tag)) (t : Tag) {w : World} {F : Nat → Prop} {a1 : Option Addr} {n1 c1 : Nat} (h1 : RepS w F a1 n1 c1 names) (p0 : names.length ≤ 1000000) : Calls Tryz.prog 160 [.slice a1 n1 c1, .agg #[.string (bs t.key), .string (bs t.val)]].toArray w (rets fun rv w' => VL (ge w.heap.size) w' (ids names t : List Int) rv ∧ Ext w w') := by
 refine goT Tryz.func160 ?_
 obtain ⟨rfl, bd, h1⟩ := h1.tp
 refine .s <| .g <| .np 120 [vT t.key, vT t.val] fun W bu aq ah J aC => ?_
 replace h1 := (sn [] ah aq).g1 h1
 have C := ah
 refine .r 1 <| .d <| .s <| .g <| .ns 0 3 [] fun ab ai ac ar aD aE => ?_
 have aF := nb_new ac J.lt
 have aG := gb_new ac C.size
 have aH := C.cn ac
 replace ⟨h1, J, C⟩ := (sn [W] ar ac).g3 h1 J C
 have aI : Own (α := Int) ai ab 3 (nin (ge w.heap.size) [ab, W]) 0 0 [] := Own.nil' aD
 refine .r 1 <| .d <| .s <| .s <| .g <| .r 1 <| .d <| .b 0 <| T.loop (X := (List Int) × Nat × Nat × Nat × Nat) (([] : List Int), ab, 0, 0, 0) (fun (out, r_out, n_out, c_out, i) => [(0, .slice a1 names.length c1), (3, .pointer (some ⟨W, 0, none⟩)), (5, vS r_out n_out c_out), (6, vI (i : Int))]) (fun (out, r_out, n_out, c_out, i) ao => Chg (ins [ab]) ai ao ∧ Own ao r_out 3 (nin (ge w.heap.size) [r_out, W]) n_out c_out out ∧ OrB r_out ab ai.heap.size ∧ (i ≤ names.length) ∧ (out.length ≤ i) ∧ (out ++ idsF t i (names.drop i) = ids names t)) (fun (out, r_out, n_out, c_out, i) => names.length - i) (by kernel_rfl) ⟨by kernel_rfl, by kernel_rfl, by kernel_rfl, by kernel_rfl, trivial⟩ ⟨Chg.refl _ _, aI, orb_refl, (by simp [ids]), (by simp [ids]), (by simp [ids])⟩ ?_
 rintro ⟨out, r_out, n_out, c_out, i⟩ bv ao ⟨E, O, aa, bg, bh, bi⟩ ae
 have bj := nb_or' aa aF J.lt
 have aJ := gb_or' aa aG C.size
 have bk := cov_or' aa aH C.size
 have aK : Cov (ins [ab]) ai ab := ⟨.inl (.head _)⟩
 have bm := cov_or' aa aK (Nat.le_refl _)
 have au : Mv [ab, W] [r_out, W] ai ao := Mv.inl E (all_cons (.head _) all_nil) (all_cons (orb_mem aa (.head _)) (all_cons (.inl (.tail _ (.head _))) all_nil))
 replace ⟨h1, J, C⟩ := (sp au E).g3 h1 J C
 have bn := O.len; have bo := O.max
 refine .s <| .s <| .g <| .r 3 <| .bp ((i : Int) < (names.length : Int)) (fun aL => ?_) (fun aL => ?_)
 ·refine .d <| .ct <| .sk <| .s <| .b 1 <| .s <| .gd nil 5 fun bw av => ?_
  replace ⟨h1, J, O, C, E⟩ := (se [r_out, W] av).g5 h1 J O C E
  refine .r [0, 1] ?_
  have aM : i < names.length := (by omega)
  refine .ix 2 i 1 h1 aM ?_
  obtain ⟨aB, aj⟩ : ∃ y, names[i]? = some y := ⟨_, List.getElem?_eq_getElem (by omega)⟩
  have bq := drop_at aj; have aW := List.mem_of_getElem? aj
  obtain ⟨_, ⟨bz, bA, bB, rfl, ak⟩, aN⟩ := h1.elem i aB aj
  have aO := ak.len
  subst aO
  have br := ak.max
  refine .lh 3 0 aN id <| .ln 4 J id <| .d fun aX aw => ?_
  replace ⟨J, O, ak, C, E⟩ := (se [r_out, W] aw).g5 J O ak C E
  refine .cl (c_spec_l3Has aB t ak.ta (w := aX) (F := all)) ?_
  rintro bC bD ⟨rfl, ax⟩
  replace ⟨J, O, C, E⟩ := (se [r_out, W] ax).g4 J O C E
  cases bt : (has aB t)
  ·exact .d <| .cf <| .sk <| .ib 1 <| .g <| .r 1 <| .it ((i : Int) + 1) <| .r 1 <| .d <| ae (out, r_out, n_out, c_out, i + 1) _ _ ⟨by kernel_rfl, by kernel_rfl, by kernel_rfl, by kernel_rfl, trivial⟩ ⟨E, O, aa, (by grind [idsF]), (by grind [idsF]), (by grind [idsF])⟩ (by (simp only []; omega))
  refine .d <| .ct <| .g <| .r 2 <| .it ((i : Int) + 1) <| .ns 1 3 [vI ((i : Int) + 1)] fun aP bE ag ay aQ aR => ?_
  have aS := nb_new ag J.lt
  have az := nb_new ag O.lt
  have aT := gb_new ag C.size
  replace ⟨O, C, E⟩ := (se [r_out, W] ay).g3 O C E
  have al : nin (ge w.heap.size) [r_out, W] aP ∧ aP ≠ r_out := hap_mk aT (all_cons az (all_cons aS all_nil)) az
  refine RG.append1 (T := 24) (ty := 24) (y := (i : Int) + 1) O aQ (by kernel_rfl) (by kernel_rfl) rfl al (by omega) fun aY aZ bF af am aA => ?_
  have aU := orb_or am aa E.size
  replace ⟨C, E⟩ := (s1 aA).g2 C E
  replace af := af.rn r_out
  have ba := af.len; have bc := af.max
  exact .r 1 <| .d <| .ib 1 <| .g <| .r 1 <| .it ((i : Int) + 1) <| .r 1 <| .d <| ae ((out ++ [(i : Int) + 1]), aY, n_out + 1, aZ, i + 1) _ _ ⟨by kernel_rfl, by kernel_rfl, by kernel_rfl, by kernel_rfl, trivial⟩ ⟨E, af, aU, (by grind [idsF]), (by grind [idsF]), (by grind [idsF])⟩ (by (simp only []; omega))
 refine .d <| .cf <| .x 0 rfl <| .s <| .g <| .r 2 <| .d ?_
 have aV := O.sl aJ
 exact .rt Tryz.func160 Tryz.results160 (vS r_out n_out c_out) ⟨(aV.vl (by grind [idsF]) (fun _ _ h => h.1)), C⟩
theorem c_spec_l2Merge (a : List Row) (b : List Row) {w : World} {F : Nat → Prop} {a1 : Option Addr} {n1 c1 : Nat} (h1 : RepS w F a1 n1 c1 a) {a2 : Option Addr} {n2 c2 : Nat} (h2 : RepS w F a2 n2 c2 b) (p0 : a.length + b.length ≤ 1000000) : Calls Tryz.prog 158 [.slice a1 n1 c1, .slice a2 n2 c2].toArray w (rets fun rv w' => VL (ge w.heap.size) w' (sMerge a b : List Row) rv ∧ Ext w w') := by
 refine goT Tryz.func158 ?_
 obtain ⟨rfl, aI, h1⟩ := h1.tp
 obtain ⟨rfl, aJ, h2⟩ := h2.tp
 refine .s <| .g <| .r 1 <| .d <| .s <| .g <| .ns 0 105 [] fun ac aD ab ae ar au => ?_
 have av := gb_new ab (Nat.le_refl _)
 have aK : Cov nil w ac := cov_new ab (Nat.le_refl _)
 replace ⟨h1, h2⟩ := (sn [] ae ab).g2 h1 h2
 have C := ae
 have aw : Own (α := Row) aD ac 105 (nin (ge w.heap.size) [ac]) 0 0 [] := Own.nil' ar
 refine .r 1 <| RG.appendF (T := 91) (ty := 91) flat_row aw h1 (by kernel_rfl) (by kernel_rfl) (fun b h e => h.2 (e ▸ (.head _))) (by omega) fun ao aE aq J W aj => ?_
 have ax := gb_or W av C.size
 replace ⟨h2, C⟩ := (sa [ac] aj W).g2 h2 C
 replace J := J.rn ac
 have aL := J.len; have aM := J.max
 refine .r 1 <| .d <| .s <| .s <| .g <| .r 1 <| .d <| .b 0 ?_
 have aF := J.sl ax
 replace h2 := (sd aq [ao] ao).g1 h2
 refine T.loop (X := (List Row) × (Option Addr) × Nat × Nat × Nat) ((([] ++ a) : List Row), some ⟨ao, 0, none⟩, 0 + a.length, aE, 0) (fun (out, a_out, n_out, c_out, i) => [(1, .slice a2 b.length c2), (5, .slice a_out n_out c_out), (6, vI (i : Int))]) (fun (out, a_out, n_out, c_out, i) aa => Chg (ins []) aq aa ∧ RepS aa (nin (ge w.heap.size) []) a_out n_out c_out out ∧ (i ≤ b.length) ∧ (out.length ≤ a.length + i) ∧ ((b.drop i).foldl sPut out = sMerge a b)) (fun (out, a_out, n_out, c_out, i) => b.length - i) (by kernel_rfl) ⟨by kernel_rfl, by kernel_rfl, by kernel_rfl, trivial⟩ ⟨Chg.refl _ _, aF, (by simp [sMerge]), (by simp [sMerge]), (by simp [sMerge])⟩ ?_
 rintro ⟨out, a_out, n_out, c_out, i⟩ aU aa ⟨O, E, aN, aO, aP⟩ af
 have ak : Mv [] [] aq aa := Mv.inl O all_nil all_nil
 replace ⟨h2, C⟩ := (sp ak O).g2 h2 C
 have aQ := E.len; have aR := E.max
 refine .s <| .s <| .g <| .r 3 <| .bp ((i : Int) < (b.length : Int)) (fun ay => ?_) (fun ay => .d <| .cf <| .x 0 rfl <| .s <| .g <| .r 2 <| .d <| .rt Tryz.func158 Tryz.results158 (.slice a_out n_out c_out) ⟨(E.vl (by grind [drop_end]) (fun _ _ h => h.1)), C⟩)
 refine .d <| .ct <| .sk <| .s <| .b 1 <| .g <| .r 3 ?_
 have az : i < b.length := (by omega)
 refine .ix i 2 h2 az ?_
 obtain ⟨ah, ag⟩ : ∃ y, b[i]? = some y := ⟨_, List.getElem?_eq_getElem (by omega)⟩
 have aS := drop_at ag; have aC := List.mem_of_getElem? ag
 obtain ⟨_, rfl, aA⟩ := h2.elem i ah ag
 refine .lg 0 aA <| .cl (c_spec_l2Put out ah E.ta (by omega) (w := aa) (F := all)) ?_
 rintro aV aW ⟨⟨aG, aH, rfl, ai⟩, al⟩
 have am : ∀ q_ ∈ ([] : List Nat), q_ < aa.heap.size := all_nil
 have aB : Gb w.heap.size aa.heap.size := C.size
 replace ⟨E, C, O⟩ := (se [] al).g3 E C O
 have ai := ai.fr am aB
 have aT := ai.max
 exact .r 1 <| .d <| .ib 1 <| .g <| .r 1 <| .it ((i : Int) + 1) <| .r 1 <| .d <| af (sPut out ah, aG, (sPut out ah).length, aH, i + 1) _ _ ⟨by kernel_rfl, by kernel_rfl, by kernel_rfl, trivial⟩ ⟨O, ai, (by grind [sPut_len]), (by grind [sPut_len]), (by grind [sPut_len])⟩ (by (simp only []; omega))
theorem c_spec_l12Of (p : Prt) (id : Int) {w : World} {F : Nat → Prop} {a1 : Option Addr} {n1 c1 : Nat} (h1 : RepS w F a1 n1 c1 p.ids) {a2 : Option Addr} {n2 c2 : Nat} (h2 : RepS w F a2 n2 c2 p.blocks) (p0 : p.ids.length ≤ p.blocks.length) : Calls Tryz.prog 100 [.agg #[.slice a1 n1 c1, .slice a2 n2 c2], .int .i64 id].toArray w (rets fun rv w' => VL (fo F w.heap.size) w' (partOf p id : List Row) rv ∧ Ext w w') := by
 refine goT Tryz.func100 ?_
 obtain ⟨rfl, aK, h1⟩ := h1.tp
 obtain ⟨rfl, aL, h2⟩ := h2.tp
 refine .s <| .g <| .np 42 [.slice a1 p.ids.length c1, .slice a2 p.blocks.length c2] fun ae al af J E am => ?_
 replace ⟨h1, h2⟩ := (sn [] J af).g2 h1 h2
 have C := J
 refine .r 1 <| .d <| .s <| .s <| .g <| .r 1 <| .d <| .b 0 <| T.loop (X := Nat) 0 (fun i => [(1, vI id), (2, .pointer (some ⟨ae, 0, none⟩)), (5, vI (i : Int))]) (fun i ai => Chg (ins []) al ai ∧ (i ≤ p.ids.length) ∧ (partF id (p.ids.drop i) (p.blocks.drop i) = partOf p id)) (fun i => p.ids.length - i) (by kernel_rfl) ⟨by kernel_rfl, by kernel_rfl, by kernel_rfl, trivial⟩ ⟨Chg.refl _ _, (by simp [partOf]), (by simp [partOf])⟩ ?_
 rintro i aS ai ⟨O, aM, aN⟩ W
 have ag : Mv [ae] [ae] al ai := Mv.inl O all_nil (all_cons (.inl (.head _)) all_nil)
 replace ⟨h1, h2, E, C⟩ := (sp ag O).g4 h1 h2 E C
 refine .s <| .s <| .g <| .r 2 <| .lb E <| .r 1 <| .bp ((i : Int) < (p.ids.length : Int)) (fun ao => ?_) (fun ao => ?_)
 ·refine .d <| .ct <| .sk <| .s <| .b 1 <| .s <| .g <| .r 1 <| .lb E <| .r 1 ?_
  have aq : i < p.ids.length := (by omega)
  refine .ix i 1 h1 aq ?_
  obtain ⟨ar, aa⟩ : ∃ y, p.ids[i]? = some y := ⟨_, List.getElem?_eq_getElem (by omega)⟩
  have aO := drop_at aa; have aE := List.mem_of_getElem? aa
  obtain ⟨_, rfl, au⟩ := h1.elem i ar aa
  refine .lh 0 au <| .r 1 <| .eq ar id (fun av => ?_) (fun av => .d <| .cf <| .sk <| .ib 1 <| .g <| .r 1 <| .it ((i : Int) + 1) <| .r 1 <| .d <| W (i + 1) _ _ ⟨by kernel_rfl, by kernel_rfl, by kernel_rfl, trivial⟩ ⟨O, (by have := List.drop_eq_getElem_cons (l := p.blocks) (i := i) (by omega); grind [partF]), (by have := List.drop_eq_getElem_cons (l := p.blocks) (i := i) (by omega); grind [partF])⟩ (by omega))
  refine .d <| .ct <| .s <| .g <| .r 1 <| .lb E <| .r 1 ?_
  have aw : i < p.blocks.length := (by omega)
  refine .ix i 1 h2 aw ?_
  obtain ⟨ax, ab⟩ : ∃ y, p.blocks[i]? = some y := ⟨_, List.getElem?_eq_getElem (by omega)⟩
  have aP := drop_at ab; have aF := List.mem_of_getElem? ab
  obtain ⟨_, ⟨aG, aT, aH, rfl, aj⟩, ay⟩ := h2.elem i ax ab
  have az := aj.len
  subst az
  have aQ := aj.max
  exact .lh 0 ay <| .r 1 <| .d <| .rt Tryz.func100 Tryz.results100 (.slice aG ax.length aH) ⟨(aj.vl (by grind [partF, drop_end]) (fun _ _ h => h.1)), C⟩
 refine .d <| .cf <| .x 0 rfl <| .s <| .g <| .ns 0 105 [] fun ak aI ac ah aA aB => ?_
 have aR := nb_new ac E.lt
 have aC := gb_new ac C.size
 replace C := (se [] ah).g1 C
 have aD : Own (α := Row) aI ak 105 (nin (fo F w.heap.size) [ak, ae]) 0 0 [] := Own.nil' aA
 refine .r 1 <| .d ?_
 have aJ := aD.sl (.inr aC)
 exact .rt Tryz.func100 Tryz.results100 (vS ak 0 0) ⟨(aJ.vl (by grind [partF, drop_end]) (fun _ _ h => h.1)), C⟩
theorem c_spec_l12Make (blocks : List (List Row)) {w : World} {F : Nat → Prop} {a1 : Option Addr} {n1 c1 : Nat} (h1 : RepS w F a1 n1 c1 blocks) (p0 : blocks.length ≤ 1000000) (p1 : ∀ b ∈ blocks, b.length ≤ 1000000) : Calls Tryz.prog 148 [.slice a1 n1 c1].toArray w (rets fun rv w' => VS (ge w.heap.size) w' (pMake blocks : Prt) rv ∧ Ext w w') := by
 refine goT Tryz.func148 ?_
 obtain ⟨rfl, dC, h1⟩ := h1.tp
 refine .s <| .g <| .np 42 [.slice none 0 0, .slice none 0 0] fun ac ed aU aV E cz => ?_
 have dD : Cov nil w ac := cov_new aU (Nat.le_refl _)
 replace h1 := (sn [] aV aU).g1 h1
 have C := aV
 refine .d <| .s <| .g <| .ns 0 3 [] fun ak df aH bu cA cB => ?_
 have cC := nb_new aH E.lt
 have cD := gb_new aH C.size
 have cE := C.cn aH
 replace ⟨h1, E, C⟩ := (sn [ac] bu aH).g3 h1 E C
 have am : Own (α := Int) df ak 3 (nin (ge w.heap.size) [ak, ac]) 0 0 [] := Own.nil' cA
 refine .ns 0 91 [] fun ar dg az bv cF cG => ?_
 have cH := nb_new az E.lt
 have cI := nb_new az am.lt
 have cJ := gb_new az C.size
 have cK := C.cn az
 replace ⟨h1, E, am, C⟩ := (sn [ak, ac] bv az).g4 h1 E am C
 have aA : Own (α := List Row) dg ar 91 (nin (ge w.heap.size) [ar, ak, ac]) 0 0 [] := Own.nil' cF
 refine .r 1 <| .np 42 [.slice none 0 0, .slice none 0 0] fun ab ee aB bw cL cM => ?_
 have dE := nb_new aB E.lt
 have cN := nb_new aB am.lt
 have cO := nb_new aB aA.lt
 have dF := C.cn aB
 replace ⟨h1, E, am, aA, C⟩ := (sn [ar, ak, ac] bw aB).g5 h1 E am aA C
 refine .sc [vS ak 0 0, vS ar 0 0] cL fun aK bz aW cP => ?_
 replace ⟨h1, E, am, aA, C⟩ := (so [ab, ar, ak, ac] bz).g5 h1 E am aA C
 refine .d <| .s <| .s <| .g <| .r 1 <| .d <| .b 0 <| T.loop (X := Nat × (List Int) × Nat × Nat × Nat × (List (List Row)) × Nat × Nat × Nat) (0, ([] : List Int), ak, 0, 0, ([] : List (List Row)), ar, 0, 0) (fun (i, aF, r_p_0, n_p_0, c_p_0, aG, r_p_1, n_p_1, c_p_1) => [(0, .slice a1 blocks.length c1), (2, .pointer (some ⟨ac, 0, none⟩)), (3, .pointer (some ⟨ab, 0, none⟩)), (4, vI (i : Int))]) (fun (i, aF, r_p_0, n_p_0, c_p_0, aG, r_p_1, n_p_1, c_p_1) aR => Chg (ins [ak, ar, ab]) aK aR ∧ Own aR r_p_0 3 (nin (ge w.heap.size) [ab, r_p_1, r_p_0, ac]) n_p_0 c_p_0 aF ∧ OrB r_p_0 ak aK.heap.size ∧ Own aR r_p_1 91 (nin (ge w.heap.size) [ab, r_p_1, r_p_0, ac]) n_p_1 c_p_1 aG ∧ OrB r_p_1 ar aK.heap.size ∧ Nb r_p_1 r_p_0 ∧ Box aR ab 42 [vS r_p_0 n_p_0 c_p_0, vS r_p_1 n_p_1 c_p_1] ∧ (i ≤ blocks.length) ∧ (aF.length ≤ i) ∧ (aG.length ≤ i) ∧ (aF ++ (makeF i (blocks.drop i)).1 = (makeF 0 blocks).1) ∧ (aG ++ (makeF i (blocks.drop i)).2 = (makeF 0 blocks).2)) (fun (i, aF, r_p_0, n_p_0, c_p_0, aG, r_p_1, n_p_1, c_p_1) => blocks.length - i) (by kernel_rfl) ⟨by kernel_rfl, by kernel_rfl, by kernel_rfl, by kernel_rfl, trivial⟩ ⟨Chg.refl _ _, am, orb_refl, aA, orb_refl, cI, aW, (by simp), (by simp), (by simp), (by simp), (by simp)⟩ ?_
 rintro ⟨i, aF, r_p_0, n_p_0, c_p_0, aG, r_p_1, n_p_1, c_p_1⟩ ef aR ⟨aa, ai, aw, O, ax, bA, aj, dG, dH, dI, dJ, dK⟩ aI
 have dL := nb_or' aw cC E.lt
 have cQ := nb_or' aw (Nb.symm cN) aW.lt
 have cR := gb_or' aw cD C.size
 have dM := cov_or' aw cE C.size
 have dN := nb_or' ax cH E.lt
 have bB := nb_or' ax (Nb.symm cO) aW.lt
 have cS := gb_or' ax cJ C.size
 have dO := cov_or' ax cK C.size
 have cT : Cov (ins [ak, ar, ab]) aK ak := ⟨.inl (.head _)⟩
 have cU : Cov (ins [ak, ar, ab]) aK ar := ⟨.inl (.tail _ (.head _))⟩
 have dP : Cov (ins [ak, ar, ab]) aK ab := ⟨.inl (.tail _ (.tail _ (.head _)))⟩
 have dQ := cov_or' aw cT (Nat.le_refl _)
 have dR := cov_or' ax cU (Nat.le_refl _)
 have bC : Mv [ab, ar, ak, ac] [ab, r_p_1, r_p_0, ac] aK aR := Mv.inl aa (all_cons (.tail _ (.tail _ (.head _))) (all_cons (.tail _ (.head _)) (all_cons (.head _) all_nil))) (all_cons (.inl (.head _)) (all_cons (orb_mem ax (.tail _ (.head _))) (all_cons (orb_mem aw (.tail _ (.tail _ (.head _)))) (all_cons (.inl (.tail _ (.tail _ (.tail _ (.head _))))) all_nil))))
 replace ⟨h1, E, C⟩ := (sp bC aa).g3 h1 E C
 have dS := ai.len; have dT := ai.max
 have dU := O.len; have dV := O.max
 refine .s <| .s <| .g <| .r 3 <| .bp ((i : Int) < (blocks.length : Int)) (fun cV => ?_) (fun cV => ?_)
 ·refine .d <| .ct <| .sk <| .s <| .b 1 <| .s <| .g <| .r 2 ?_
  have cW : i < blocks.length := (by omega)
  refine .ix i 1 h1 cW ?_
  obtain ⟨aL, aJ⟩ : ∃ y, blocks[i]? = some y := ⟨_, List.getElem?_eq_getElem (by omega)⟩
  have dh := drop_at aJ; have cX := List.mem_of_getElem? aJ
  obtain ⟨_, ⟨dW, dX, dY, rfl, bD⟩, bJ⟩ := h1.elem i aL aJ
  have bK := bD.len
  subst bK
  have dj := bD.max
  refine .lh 0 bJ <| .r 1 <| .bp ((aL.length : Int) > 0) (fun bL => ?_) (fun bL => .d <| .cf <| .sk <| .ib 1 <| .g <| .r 1 <| .it ((i : Int) + 1) <| .r 1 <| .d <| aI (i + 1, aF, r_p_0, n_p_0, c_p_0, aG, r_p_1, n_p_1, c_p_1) _ _ ⟨by kernel_rfl, by kernel_rfl, by kernel_rfl, by kernel_rfl, trivial⟩ ⟨aa, ai, aw, O, ax, bA, aj, (by grind [makeF]), (by grind [makeF]), (by grind [makeF]), (by grind [makeF]), (by grind [makeF])⟩ (by (simp only []; omega)))
  refine .d <| .ct <| .s <| .g <| .r 1 <| .lb aj <| .r 1 <| .it ((i : Int) + 1) <| .ns 1 3 [vI ((i : Int) + 1)] fun bE dZ au aX bM bN => ?_
  have bO := nb_new au E.lt
  have aY := nb_new au ai.lt
  have bP := nb_new au O.lt
  have bQ := nb_new au aj.lt
  have bR := gb_new au C.size
  replace ⟨h1, E, ai, O, aj, C, aa⟩ := (se [ab, r_p_1, r_p_0, ac] aX).g7 h1 E ai O aj C aa
  have aS : nin (ge w.heap.size) [ab, r_p_1, r_p_0, ac] bE ∧ bE ≠ r_p_0 := hap_mk bR (all_cons bQ (all_cons bP (all_cons aY (all_cons bO all_nil)))) aY
  refine RG.append1 (T := 24) (ty := 24) (y := (i : Int) + 1) ai bM (by kernel_rfl) (by kernel_rfl) rfl aS (by grind) fun ae bF d0 J ao aZ => ?_
  have bS := nb_or ao (Nb.symm bA) O.lt
  have bT := nb_or ao cQ aj.lt
  have bU := orb_or ao aw aa.size
  replace ⟨h1, E, O, aj, C, aa⟩ := (sa [ab, r_p_1, r_p_0, ac] aZ ao).g6 h1 E O aj C aa
  replace J := J.rn r_p_0
  have dm := J.len; have dp := J.max
  refine .r 1 <| .ss 0 (vS ae (n_p_0 + 1) bF) aj fun aC ba W bV => ?_
  replace ⟨h1, E, J, O, C, aa⟩ := (so [ab, r_p_1, ae, ac] ba).g6 h1 E J O C aa
  refine .d ?_
  replace h1 := h1.into
  have bW : Gb (ab + 1) aC.heap.size := W.lt
  refine .gd (mtb [ae, r_p_1] aC.heap.size) 9 fun cY aM => ?_
  replace ⟨h1, E, J, O, W, C, aa⟩ := (se [ab, r_p_1, ae, ac] aM).g7 h1 E J O W C aa
  have aN : Chg (mtb [ae, r_p_1] aC.heap.size) aC cY := Chg.stepN (Chg.refl (mtb [ae, r_p_1] aC.heap.size) aC) aM
  refine .r [0] <| .lb 1 W (nS_of (all_cons (Nb.symm bT) (all_cons (Nb.symm bB) all_nil)) bW) <| .r [3, 4] ?_
  have bX : i < blocks.length := (by omega)
  refine .ix 5 i 1 h1 bX ?_
  obtain ⟨_, ⟨cZ, d3, c7, rfl, ay⟩, bY⟩ := h1.elem i aL aJ
  have bZ := ay.len
  subst bZ
  refine .lh 6 0 bY (h1.nS (pos_of aJ) (all_cons (.tail _ (.tail _ (.head _))) (all_cons (.tail _ (.head _)) all_nil))) <| .go 2 <| .ns 0 105 [] fun d4 bc => ?_
  replace ⟨E, J, O, W, ay, C, aa, aN⟩ := (se [ab, r_p_1, ae, ac] bc).g8 E J O W ay C aa aN
  intro aD c8 ag bd b0 b6
  have b7 := nb_new ag E.lt
  have b8 := nb_new ag J.lt
  have b9 := nb_new ag O.lt
  have cd := nb_new ag W.lt
  have ce := gb_new ag C.size
  have dq := C.cn ag
  have dr := aa.cn ag
  have cg := aN.cn ag
  replace ⟨E, J, O, W, ay, C, aa⟩ := (sn [ab, r_p_1, ae, ac] bd ag).g7 E J O W ay C aa
  have aO : Own (α := Row) c8 aD 105 (nin (ge w.heap.size) [aD, ab, r_p_1, ae, ac]) 0 0 [] := Own.nil' b0
  refine .go 7 <| GE.append (T := 91) (ty := 91) (args := [vS aD 0 0, .slice cZ aL.length c7]) (by kernel_rfl) fun d5 bg => ?_
  replace ⟨E, J, O, W, ay, aO, C, aa⟩ := (se [aD, ab, r_p_1, ae, ac] bg).g8 E J O W ay aO C aa
  obtain ⟨aE, c9, d6, bh, af, ah, aP, ci⟩ := Own.appendF (P := Tryz.prog) (T := 91) (ty := 91) flat_row aO (by kernel_rfl) ay (fun b h e => h.2 (e ▸ (.head _))) (by grind)
  refine ⟨_, _, bh, Chg.toS aP (Cov.toS cg), ?_⟩
  have dt := nb_or ah b7 E.lt
  have du := nb_or ah b8 J.lt
  have dv := nb_or ah b9 O.lt
  have dw := nb_or ah cd W.lt
  have cj := gb_or ah ce C.size
  replace ⟨E, J, O, W, C, aa⟩ := (sa [aD, ab, r_p_1, ae, ac] aP ah).g6 E J O W C aa
  replace af := af.rn aD
  have dx := af.len; have dy := af.max
  refine .go 8 <| .ns 1 91 [vS aE (0 + aL.length) c9] fun d7 bi => ?_
  replace ⟨E, J, O, W, af, C, aa⟩ := (se [aE, ab, r_p_1, ae, ac] bi).g7 E J O W af C aa
  intro bG d8 av bj aQ ck
  have cm := nb_new av E.lt
  have co := nb_new av J.lt
  have bk := nb_new av O.lt
  have cp := nb_new av W.lt
  have cq := gb_new av C.size
  replace ⟨E, J, O, W, af, C, aa⟩ := (se [aE, ab, r_p_1, ae, ac] bj).g7 E J O W af C aa
  refine .d fun da bm => ?_
  replace ⟨E, J, O, W, af, aQ, C, aa⟩ := (se [aE, ab, r_p_1, ae, ac] bm).g8 E J O W af aQ C aa
  have db := af.sl cj
  replace ⟨J, O⟩ := (sd da [aE, ab, r_p_1, ae, ac] aE).g2 J O
  have aT : nin (ge w.heap.size) [ab, r_p_1, ae, ac] bG ∧ bG ≠ r_p_1 := hap_mk cq (all_cons cp (all_cons bk (all_cons co (all_cons cm all_nil)))) bk
  refine RG.append1 (T := 40) (ty := 40) (y := ([] ++ aL)) O aQ (by kernel_rfl) (by kernel_rfl) ⟨_, _, _, rfl, db.oi⟩ aT (by grind) fun bn bH d9 al aq bo => ?_
  have cr := nb_or aq (Nb.symm bS) J.lt
  have dz := nb_or aq bB W.lt
  have cu := orb_or aq ax aa.size
  replace ⟨E, J, W, C, aa⟩ := (sa [ab, r_p_1, ae, ac] bo aq).g5 E J W C aa
  replace al := al.rn r_p_1
  have dA := al.len; have dB := al.max
  refine .r 1 <| .ss 1 (vS bn (n_p_1 + 1) bH) W fun ec bq cv cw => ?_
  replace ⟨E, J, al, C, aa⟩ := (so [ab, bn, ae, ac] bq).g5 E J al C aa
  exact .d <| .ib 1 <| .g <| .r 1 <| .it ((i : Int) + 1) <| .r 1 <| .d <| aI (i + 1, (aF ++ [(i : Int) + 1]), ae, n_p_0 + 1, bF, (aG ++ [([] ++ aL)]), bn, n_p_1 + 1, bH) _ _ ⟨by kernel_rfl, by kernel_rfl, by kernel_rfl, by kernel_rfl, trivial⟩ ⟨aa, J, bU, al, cu, cr, cv, (by grind [makeF]), (by grind [makeF]), (by grind [makeF]), (by grind [makeF]), (by grind [makeF])⟩ (by (simp only []; omega))
 refine .d <| .cf <| .x 0 rfl <| .s <| .g <| .ln aj <| .sc [vS r_p_0 n_p_0 c_p_0, vS r_p_1 n_p_1 c_p_1] E fun bI br cx cy => ?_
 replace ⟨ai, O, C⟩ := (so [ab, r_p_1, r_p_0, ac] br).g3 ai O C
 refine .d ?_
 have bt := ai.sl cR
 replace O := (sd bI [ab, r_p_1, r_p_0, ac] r_p_0).g1 O
 have de := O.sl cS
 replace bt := (sd bI [ab, r_p_1, ac] r_p_1).g1 bt
 exact .rb Tryz.func148 Tryz.results148 cx ⟨(VS.of (y := (⟨aF, aG⟩ : Prt)) ⟨_, rfl, ⟨_, _, _, _, _, _, rfl, bt.w1, de.w1⟩⟩ (by grind [makeF, pMake])), C⟩
end Go.Proofs.YtganlmloonielaaGreat
