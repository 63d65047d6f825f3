/- Memory in two parts: the blocks M that the call still changes, and all the rest, which stands. No conditions. -/
import Derived.Test.YtfnpaglcnmcnbaaGreatOpnzEng
import Derived.MapKept
import Derived.Test.YtfnpaglcnmcnbaaGreatProg
set_option linter.unusedVariables false
set_option linter.unusedSimpArgs false
namespace Go.Proofs.YtfnpaglcnmcnbaaGreat
def nin (G : Nat → Prop) (M : List Nat) (b : Nat) : Prop := G b ∧ b ∉ M
def fo (F : Nat → Prop) (s : Nat) (b : Nat) : Prop := F b ∨ s ≤ b
def ins (L : List Nat) (b : Nat) : Prop := b ∈ L
def Mv (M M' : List Nat) (w w' : World) : Prop := ∀ b, b < w.heap.size → b ∉ M → b ∉ M' ∧ w'.heap[b]? = w.heap[b]?
theorem Mv.mk {S : Nat → Prop} {M M' : List Nat} {w w' : World} (hx : Chg S w w') (h : ∀ b, b < w.heap.size → b ∉ M → b ∉ M' ∧ ¬ S b) : Mv M M' w w' :=
 fun b hb hm => ⟨(h b hb hm).1, hx.block b hb (h b hb hm).2⟩
section
variable {α : Type} [Rep α] {w w' : World} {G G' : Nat → Prop} {M M' : List Nat} {a : Option Addr} {n c r b : Nat} {t : TypeId} {xs : List α} {cs : List Value}
theorem RepS.mv (h : RepS w (nin G M) a n c xs) (hm : Mv M M' w w') : RepS w' (nin G M') a n c xs :=
 h.frame fun b hb hF => ⟨⟨hF.1, (hm b hb hF.2).1⟩, (hm b hb hF.2).2⟩
theorem RepS.base (h : RepS w (nin G M) a n c xs) (hg : ∀ b, b < w.heap.size → G b → G' b) : RepS w (nin G' M) a n c xs :=
 h.weak fun b hb hF => ⟨hg b hb hF.1, hF.2⟩
theorem Box.mv {S : Nat → Prop} (h : Box w b t cs) (hx : Chg S w w') (hb : ¬ S b) : Box w' b t cs := h.chg hx hb
theorem Own.mv {S : Nat → Prop} (h : Own w r t (nin G M) n c xs) (hm : Mv M M' w w') (hx : Chg S w w') (hr : ¬ S r) : Own w' r t (nin G M') n c xs := by
 refine ⟨h.len, h.le, h.cap, ?_, fun i x hi => ?_⟩
 ·obtain ⟨cur, h1, h2⟩ := h.row
  exact ⟨cur, (hx.block r h.lt hr).trans h1, h2⟩
 ·obtain ⟨cs, h1, h2⟩ := h.elem i x hi
  exact ⟨cs, Rep.frame h1 (fun b hb hF => ⟨⟨⟨hF.1.1, (hm b hb hF.1.2).1⟩, hF.2⟩, (hm b hb hF.1.2).2⟩), h2.chg hx hr⟩
theorem Own.base (h : Own w r t (nin G M) n c xs) (hg : ∀ b, b < w.heap.size → G b → G' b) : Own w r t (nin G' M) n c xs :=
 h.weak fun b hb hF => ⟨hg b hb hF.1, hF.2⟩
theorem Own.nil' (h : Box w r t []) : Own w r t (nin G M) 0 0 ([] : List α) := Own.nil h _
end
theorem RepS.top {α : Type} [Rep α] {w : World} {F : Nat → Prop} {a : Option Addr} {n c s : Nat} {xs : List α} (h : RepS w F a n c xs) : RepS w (nin (fo F s) []) a n c xs :=
 h.weak fun _ _ hF => ⟨.inl hF, by simp⟩
theorem RepS.fresh {α : Type} [Rep α] {w : World} {G : Nat → Prop} {M : List Nat} {a : Option Addr} {n c s : Nat} {xs : List α} (h : RepS w (ge s) a n c xs) (hM : ∀ b, b ∈ M → b < s) (hG : ∀ b, s ≤ b → G b) : RepS w (nin G M) a n c xs :=
 h.weak fun b _ hF => ⟨hG b hF, fun hm => by have := hM b hm; unfold ge at hF; omega⟩
def mtb (L : List Nat) (s : Nat) (b : Nat) : Prop := b ∈ L ∨ s ≤ b
theorem RepS.blt {α : Type} [Rep α] {w : World} {F : Nat → Prop} {a : Option Addr} {n c : Nat} {xs : List α} (h : RepS w F a n c xs) (hn : 0 < n) : blk a < w.heap.size := by
 have hx : 0 < xs.length := by have := h.len; omega
 obtain ⟨cs, hr, hc⟩ := h.elem 0 xs[0] (by simp [hx])
 have hl := Rep.len hr
 have hp := Rep.pos (α := α)
 have h0 := hc 0 cs[0] (by simp)
 rw [add_lit] at h0
 exact World.block_lt_of_cell? w _ h0
theorem RepS.mixed {α : Type} [Rep α] {w : World} {F : Nat → Prop} {M M' : List Nat} {a : Option Addr} {n c s s' : Nat} {xs : List α} (h : RepS w (fo (nin (fo F s') M') s) a n c xs) (hM : ∀ b, b ∈ M → b < s ∧ b ∈ M') (hs : s' ≤ s) : RepS w (nin (fo F s') M) a n c xs :=
 h.weak fun b _ hF => by
  rcases hF with hF | hF
  ·exact ⟨hF.1, fun hm => hF.2 (hM b hm).2⟩
  ·exact ⟨.inr (by omega), fun hm => by have := (hM b hm).1; omega⟩
section
variable {α : Type} [Rep α] {w w' : World} {G G' : Nat → Prop} {M M' : List Nat} {a : Option Addr} {n c r b : Nat} {t : TypeId} {xs : List α} {cs : List Value}
theorem Own.renin (h : Own w r t (nin G M) n c xs) (hm : ∀ b, b < w.heap.size → b ∉ M → b ≠ r → b ∉ M') : Own w r t (nin G M') n c xs :=
 ⟨h.len, h.le, h.cap, h.row, fun i x hi => by
  obtain ⟨cs, h1, h2⟩ := h.elem i x hi
  exact ⟨cs, Rep.frame h1 (fun b hb hF => ⟨⟨⟨hF.1.1, hm b hb hF.1.2 hF.2⟩, hF.2⟩, rfl⟩), h2⟩⟩
theorem VS.of {F : Nat → Prop} {x y : α} {v : Value} (h : VS F w y v) (e : y = x) : VS F w x v := e ▸ h
end
def VO {α : Type} [Rep α] (t : TypeId) (s : Nat) (w : World) (xs : List α) (v : Value) : Prop := ∃ r n c, v = .slice (some ⟨r, 0, none⟩) n c ∧ Own w r t (nin (ge s) []) n c xs ∧ s ≤ r
theorem VO.of {α : Type} [Rep α] {t : TypeId} {s r n c : Nat} {w : World} {M : List Nat} {xs ys : List α} (h : Own w r t (nin (ge s) M) n c xs) (e : xs = ys) (hr : s ≤ r) : VO t s w ys (.slice (some ⟨r, 0, none⟩) n c) :=
 ⟨r, n, c, rfl, e ▸ h.renin (fun _ _ _ _ => by simp), hr⟩
theorem Own.take {α : Type} [Rep α] {t : TypeId} {s s0 r n c : Nat} {w : World} {M : List Nat} {xs : List α} (h : Own w r t (nin (ge s) []) n c xs) (hM : ∀ b, b ∈ M → b < s) (hs : s0 ≤ s) : Own w r t (nin (ge s0) (r :: M)) n c xs :=
 ⟨h.len, h.le, h.cap, h.row, fun i x hi => by
  obtain ⟨cs, h1, h2⟩ := h.elem i x hi
  refine ⟨cs, Rep.frame h1 (fun b hb hF => ⟨⟨⟨Nat.le_trans hs hF.1.1, fun hm => ?_⟩, hF.2⟩, rfl⟩), h2⟩
  rcases List.mem_cons.1 hm with rfl | hm
  ·exact hF.2 rfl
  ·have h3 := hM b hm
   have h4 : s ≤ b := hF.1.1
   omega⟩
def Flat (α : Type) [Rep α] : Prop := ∀ (w w' : World) (F F' : Nat → Prop) (x : α) (cs : List Value), Rep.rep w F x cs → Rep.rep w' F' x cs
theorem flat_int : Flat Int := fun _ _ _ _ _ _ h => h
theorem flat_row : Flat Row := fun _ _ _ _ _ _ h => h
theorem flat_tag : Flat Tag := fun _ _ _ _ _ _ h => h
theorem flat_smp : Flat Smp := fun _ _ _ _ _ _ h => h
section
variable {α : Type} [Rep α] {w w' : World} {F F' : Nat → Prop} {a : Option Addr} {n c r m c' : Nat} {t : TypeId} {xs ys : List α}
theorem Own.flat (hf : Flat α) (h : Own w r t F n c xs) : Own w r t F' n c xs :=
 ⟨h.len, h.le, h.cap, h.row, fun i x hi => by
  obtain ⟨cs, h1, h2⟩ := h.elem i x hi
  exact ⟨cs, hf _ _ _ _ _ _ h1, h2⟩⟩
theorem Own.repF (hf : Flat α) (h : Own w r t F n c xs) : RepS w (one r) (some ⟨r, 0, none⟩) n c xs :=
 (h.flat (F' := fun _ => False) hf).rep' (fun _ _ h => h.elim) rfl
theorem Own.appendF {P : Program} {T ty : TypeId} {F2 : Nat → Prop} (hf : Flat α) (ho : Own w r t F n c xs) (hT : appB P T t (Rep.sz α) = true)
 (hn : RepS w F2 a m c' ys) (h2 : ∀ b, F2 b → b ≠ r) (hs : n + m ≤ 100000000000) :
 ∃ r' c2 w', (Builtin.append_ #[T, T] ty #[.slice (some ⟨r, 0, none⟩) n c, .slice a m c']).run P w = .ok (.slice (some ⟨r', 0, none⟩) (n + m) c2) w' ∧
   Own w' r' t F (n + m) c2 (xs ++ ys) ∧ (r' = r ∨ r' = w.heap.size) ∧ Chg (one r) w w' ∧ w'.heap.size ≤ w.heap.size + 1 := by
 obtain ⟨r', c2, w', h1, h3, h4, h5, h6⟩ := (ho.weak (F' := all) (fun _ _ _ => trivial)).append (P := P) (T := T) (ty := ty) hT hn (fun b _ hb => ⟨trivial, h2 b hb⟩) hs
 exact ⟨r', c2, w', h1, h3.flat hf, h4, h5, h6⟩
theorem RG.appendF {P : Program} {nn : Nat} {K : Env → World → Prop} {ops : Array Oper} {j : Nat} {e : Env} {T ty : TypeId} {F2 : Nat → Prop} (hf : Flat α) (ho : Own w r t F n c xs) (hn : RepS w F2 a m c' ys)
 (h : bltAt nn ops j e = some (.append, [T, T], ty, [.slice (some ⟨r, 0, none⟩) n c, .slice a m c'])) (hT : appB P T t (Rep.sz α) = true)
 (h2 : ∀ b, F2 b → b ≠ r) (hs : n + m ≤ 100000000000)
 (H : ∀ r' c2 w', Own w' r' t F (n + m) c2 (xs ++ ys) → (r' = r ∨ r' = w.heap.size) → Chg (one r) w w' → RG P nn K ops (j + 1) (putE e (opAt ops j).dst (.slice (some ⟨r', 0, none⟩) (n + m) c2)) w') : RG P nn K ops j e w := by
 obtain ⟨r', c2, w', hrun, ho', hor, hx, _⟩ := ho.appendF (P := P) (T := T) (ty := ty) hf hT hn h2 hs
 exact RG.append h hrun (H r' c2 w' ho' hor hx)
end
theorem drop_at {α : Type} {xs : List α} {k : Nat} {x : α} (h : xs[k]? = some x) : xs.drop k = x :: xs.drop (k + 1) := by
 obtain ⟨h1, h2⟩ := List.getElem?_eq_some_iff.1 h
 rw [List.drop_eq_getElem_cons h1, h2]
theorem drop_end {α : Type} {xs : List α} {k : Nat} (h : xs.length ≤ k) : xs.drop k = [] := List.drop_of_length_le h
theorem run_new {P : Program} {n : Nat} {ops : Array Oper} {j : Nat} {e : Env} {w : World} {v : Value} {t : TypeId} {cs : List Value} (h : newBoxAt P n ops j e w.heap.size = some (v, t, cs)) :
 goAt n ops j e = true ∧ (execOp (ev e) (opAt ops j)).run P w = .ok (.value v) (w.alloc (.cells cs.toArray t)) := by
 unfold newBoxAt at h
 split at h
 ·rename_i v' cs' t' hn
  simp only [Option.some.injEq, Prod.mk.injEq] at h
  obtain ⟨rfl, rfl, rfl⟩ := h
  obtain ⟨hg, h⟩ := goAt_of hn
  refine ⟨hg, ?_⟩
  split at h
  ·rename_i v2 o' hs
   simp only [Option.some.injEq, Prod.mk.injEq] at h
   obtain ⟨rfl, rfl⟩ := h
   rw [srS_run _ hs]
   have hp : w.heap ++ [Obj.cells cs' t' (0, 0)].toArray = w.heap.push (Obj.cells cs'.toList.toArray t' (0, 0)) := by simp
   rw [hp]
   rfl
  ·cases h
 ·cases h
theorem run_blt {P : Program} {n : Nat} {ops : Array Oper} {j : Nat} {e : Env} {w w' : World} {ats : List TypeId} {ty : TypeId} {args : List Value} {v : Value} (h : bltAt n ops j e = some (.append, ats, ty, args))
 (hr : (Builtin.append_ ats.toArray ty args.toArray).run P w = .ok v w') : (execOp (ev e) (opAt ops j)).run P w = .ok (.value v) w' := by
 obtain ⟨hg, h⟩ := goAt_of h
 split at h
 ·rename_i c hop
  split at h
  ·rename_i b hcal
   simp only [Option.some.injEq, Prod.mk.injEq] at h
   obtain ⟨rfl, rfl, rfl, rfl⟩ := h
   have ha : (c.args.toList.map (ev e)).toArray = c.args.map (ev e) := by apply Array.toList_inj.1; simp
   rw [ha, Array.toArray_toList] at hr
   simp only [execOp, hop, resolve, hcal]
   exact run_bind_ok hr
  ·cases h
 ·cases h
section
variable {P : Program} {S : Nat → Prop} {n m : Nat} {L : Env → World → Prop} {ops : Array Oper} {l : List Nat} {e : Env} {w : World}
def GE (P : Program) (S : Nat → Prop) (n m : Nat) (L : Env → World → Prop) (ops : Array Oper) (l : List Nat) (i : Nat) (e : Env) (w : World) : Prop :=
 ∀ w1, Ext w w1 → emitV P S ((execOp (ev e) (opAt ops i)).run P w1) w1 (fun v w2 => GA P S n m L ops (i :: l) (putE e (opAt ops i).dst v) w2)
theorem GE.one {i : Nat} (h : oneB n m ops l i e = true) (H : GE P S n m L ops l i e w) : GA P S n m L ops l e w := GA.one h H
def twoB (n m : Nat) (ops : Array Oper) (l : List Nat) (i j : Nat) (e : Env) : Bool :=
 stepB n m ops l i && goAt n ops i e && stepB n m ops l j && goAt n ops j e && (match Region.ready .any ops (lst ops.size l) with | [a, b] => Nat.beq a i && Nat.beq b j | _ => false)
theorem GE.two {i j : Nat} (h : twoB n m ops l i j e = true) (Hi : GE P S n m L ops l i e w) (Hj : GE P S n m L ops l j e w) : GA P S n m L ops l e w := by
 intro hB f a hf ha inv
 simp only [twoB, Bool.and_eq_true] at h
 obtain ⟨⟨⟨⟨h1, h2⟩, h3⟩, h4⟩, h5⟩ := h
 have hready : Region.ready .any ops (lst ops.size l) = [i, j] := by
  split at h5
  ·rename_i a b hj
   simp only [Bool.and_eq_true] at h5
   rw [hj, Nat.eq_of_beq_eq_true h5.1, Nat.eq_of_beq_eq_true h5.2]
  ·cases h5
 have hlm := (stepB_spec h1).1
 obtain ⟨f, rfl⟩ : ∃ g, f = g + 1 := ⟨f - 1, by omega⟩
 have key : ∀ k, stepB n m ops l k = true → goAt n ops k e = true → GE P S n m L ops l k e w → ∀ w1, Ext w w1 → k < m ∧ gOp P S ops k (gAny P S ops m (fun listed a' w' => listed = fin ops m ∧ ∃ e', Sees n a' e' ∧ L e' w') f ((lst ops.size l).setIfInBounds k true)) a w1 := by
  intro k hk1 hk2 HK w1 hx
  obtain ⟨_, him, hd, hi, hr⟩ := stepB_spec hk1
  refine ⟨him, ?_⟩
  simp only [goAt, Bool.and_eq_true] at hk2
  unfold gOp
  simp only [hi]
  rw [ha.want, hk2.2, if_pos rfl, ha.eval]
  refine emitV_mono (fun v w2 _ hq => ?_) (HK w1 hx)
  have := hq hB f (a.put (opAt ops k).dst v) (by simp only [List.length_cons]; omega) (ha.putO hd v) (by rw [lst_cons]; exact inv.set hr him)
  rwa [lst_cons] at this
 refine ⟨by rw [hready]; simp, fun w1 hx k hk => ?_⟩
 rw [hready] at hk
 rcases List.mem_cons.1 hk with rfl | hk
 ·exact key _ h1 h2 Hi w1 hx
 ·rcases List.mem_cons.1 hk with rfl | hk
  ·exact key _ h3 h4 Hj w1 hx
  ·cases hk
theorem GE.call {i : Nat} {f : FuncId} {args : List Value} {Q : World → Value → World → Prop} (hf : callAt P n ops i e = some (f, args))
 (hc : ∀ w1, Ext w w1 → Calls P f args.toArray w1 (rets (Q w1))) (H : ∀ w1, Ext w w1 → ∀ v w2, Q w1 v w2 → Chg S w1 w2 ∧ GA P S n m L ops (i :: l) (putE e (opAt ops i).dst v) w2) : GE P S n m L ops l i e w := fun w1 hx => by
 rw [(run_call hf w1).2]
 exact ⟨Chg.refl S _, (hc w1 hx).mono fun x w2 ⟨u, hxu, hq⟩ => ⟨u, hxu, H w1 hx u w2 hq⟩⟩
theorem GE.new {i : Nat} {v : Nat → Value} {t : TypeId} {cs : List Value} (hn : ∀ b, newBoxAt P n ops i e b = some (v b, t, cs))
 (H : ∀ w1, Ext w w1 → ∀ b w2, b = w1.heap.size → Ext w1 w2 → Box w2 b t cs → w2.heap.size = b + 1 → GA P S n m L ops (i :: l) (putE e (opAt ops i).dst (v b)) w2) : GE P S n m L ops l i e w := fun w1 hx => by
 rw [(run_new (hn _)).2]
 exact ⟨(Ext.alloc _ _).chg, H w1 hx _ _ rfl (Ext.alloc _ _) (Box.new _ _ _) (by show (w1.heap.push _).size = _; simp)⟩
theorem GE.append {i : Nat} {T ty : TypeId} {args : List Value} (hb : bltAt n ops i e = some (.append, [T, T], ty, args))
 (H : ∀ w1, Ext w w1 → ∃ v w2, (Builtin.append_ #[T, T] ty args.toArray).run P w1 = .ok v w2 ∧ Chg S w1 w2 ∧ GA P S n m L ops (i :: l) (putE e (opAt ops i).dst v) w2) : GE P S n m L ops l i e w := fun w1 hx => by
 obtain ⟨v, w2, h1, h2, h3⟩ := H w1 hx
 rw [run_blt hb h1]
 exact ⟨h2, h3⟩
theorem run_storeAt {i : Nat} {t : TypeId} {a : Addr} {v : Value} {w w' : World} (h : storeAt n ops i e = some (t, a, v)) (hv : (storeVar t a v).run P w = .ok () w') : (execOp (ev e) (opAt ops i)).run P w = .ok .skip w' := by
 obtain ⟨hg, h⟩ := goAt_of h
 split at h
 ·rename_i t' x v' hop
  split at h
  ·rename_i a' hx
   simp only [Option.some.injEq, Prod.mk.injEq] at h
   obtain ⟨rfl, rfl, rfl⟩ := h
   simp only [execOp, hop, hx]
   exact run_bind_ok hv
  ·cases h
 ·cases h
theorem GE.storeB {i : Nat} {t t' : TypeId} {b o : Nat} {cs : List Value} {v : Value} (cs' : List Value) (hb : Box w b t cs) (h : storeAt n ops i e = some (t', ⟨b, o, none⟩, v))
 (hs : (sizeB P t' v.cells.size && Nat.ble (o + v.cells.size) cs.length && v.cells.toList.all oneC) = true) (hc : splice cs o v.cells.toList = cs')
 (H : ∀ w1, Ext w w1 → ∀ w2, Chg (Go.Proofs.YtfnpaglcnmcnbaaGreat.one b) w1 w2 → Box w2 b t cs' → w2.heap.size = w1.heap.size → Chg S w1 w2 ∧ GA P S n m L ops (i :: l) (putE e (opAt ops i).dst undef) w2) : GE P S n m L ops l i e w := fun w1 hx => by
 simp only [Bool.and_eq_true] at hs
 obtain ⟨w', hr, hb', hx2, hsz⟩ := (hb.ext hx).store (P := P) (t' := t') (o := o) (v := v) hs.1.1 (Nat.le_of_ble_eq_true hs.1.2) hs.2
 rw [hc] at hb'
 rw [run_storeAt h hr]
 obtain ⟨h1, h2⟩ := H w1 hx w' hx2 hb' hsz
 exact ⟨h1, h2⟩
end
theorem loop_toList (s : ByteArray) : ∀ n i acc, n = s.size - i → ByteArray.toList.loop s i acc = acc.reverse ++ s.data.toList.drop i := by
 intro n
 induction n with
 | zero =>
   intro i acc h
   unfold ByteArray.toList.loop
   have hs : s.size = s.data.toList.length := rfl
   rw [if_neg (by omega), List.drop_of_length_le (by omega)]
   simp
 | succ n ih =>
   intro i acc h
   unfold ByteArray.toList.loop
   have hs : s.size = s.data.toList.length := rfl
   rw [if_pos (by omega), ih _ _ (by omega)]
   rw [List.drop_eq_getElem_cons (by omega : i < s.data.toList.length)]
   have : s.get! i = s.data.toList[i]'(by omega) := by
    have hi : i < s.data.size := by simpa using (by omega : i < s.data.toList.length)
    show s.data[i]! = _
    rw [getElem!_pos s.data i hi]
    simp
   rw [this]
   simp
theorem bs_toList (s : Str) : (bs s).toList = s := by
 unfold ByteArray.toList
 rw [loop_toList _ _ 0 [] rfl]
 simp [bs]
theorem bs_size (s : Str) : (bs s).size = s.length := by simp [bs, ByteArray.size]
theorem bs_app (s t : Str) : bs s ++ bs t = bs (s ++ t) := by
 apply ByteArray.ext
 simp [bs]
theorem bs_inj {s t : Str} (h : bs s = bs t) : s = t := by
 have := congrArg (fun b : ByteArray => b.data.toList) h
 simpa [bs] using this
theorem bs_beq (s t : Str) : (bs s == bs t) = (s == t) := by
 rw [Bool.eq_iff_iff, Go.MapKept.bytes_beq, beq_iff_eq]
 exact ⟨bs_inj, fun h => by rw [h]⟩
def strLt (s t : Str) : Bool := Op.bytesLess s t
def strLe (s t : Str) : Bool := Op.bytesLess s t || s == t
theorem s_eq (s t : Str) : Value.bool ((bs s).toList == (bs t).toList) = .bool (s == t) := by rw [bs_toList, bs_toList]
theorem s_ne (s t : Str) : Value.bool (!((bs s).toList == (bs t).toList)) = .bool (!(s == t)) := by rw [bs_toList, bs_toList]
theorem s_lt (s t : Str) : Value.bool (Op.bytesLess (bs s).toList (bs t).toList) = .bool (strLt s t) := by rw [bs_toList, bs_toList]; rfl
theorem s_le (s t : Str) : Value.bool (Op.bytesLess (bs s).toList (bs t).toList || (bs s).toList == (bs t).toList) = .bool (strLe s t) := by rw [bs_toList, bs_toList]; rfl
theorem s_gt (s t : Str) : Value.bool (!(Op.bytesLess (bs s).toList (bs t).toList || (bs s).toList == (bs t).toList)) = .bool (!strLe s t) := by rw [bs_toList, bs_toList]; rfl
theorem s_ge (s t : Str) : Value.bool (!(Op.bytesLess (bs s).toList (bs t).toList)) = .bool (!strLt s t) := by rw [bs_toList, bs_toList]; rfl
theorem s_len (s : Str) : Value.int .i64 ((bs s).size : Int) = .int .i64 (s.length : Int) := by rw [bs_size]
def ltG (G : Nat → Prop) (s b : Nat) : Prop := G b ∧ b < s
class Nb (a b : Nat) : Prop where ne : a ≠ b
def Gb (s b : Nat) : Prop := s ≤ b
class Cov (L : Nat → Prop) (w : World) (b : Nat) : Prop where or : L b ∨ w.heap.size ≤ b
def OrB (r r0 s : Nat) : Prop := r = r0 ∨ s ≤ r
theorem pos_of {α : Type} {xs : List α} {i : Nat} {x : α} (h : xs[i]? = some x) : 0 < xs.length := by
 obtain ⟨h1, _⟩ := List.getElem?_eq_some_iff.1 h
 omega
theorem all_nil {p : Nat → Prop} : ∀ b ∈ ([] : List Nat), p b := fun _ h => by cases h
theorem all_cons {p : Nat → Prop} {a : Nat} {l : List Nat} (h : p a) (hl : ∀ b ∈ l, p b) : ∀ b ∈ a :: l, p b := fun b hb => by
 rcases List.mem_cons.1 hb with rfl | hb
 ·exact h
 ·exact hl b hb
section
variable {a b x r r0 r2 s sz : Nat} {w w' base : World} {L : Nat → Prop}
instance : CoeFun (Nb a b) (fun _ => a = b → False) := ⟨fun h => h.ne⟩
instance : Coe (Nb a b) (a ≠ b) := ⟨fun h => h.ne⟩
instance : Coe (a ≠ b) (Nb a b) := ⟨Nb.mk⟩
instance : Coe (Cov (Go.Proofs.YtfnpaglcnmcnbaaGreat.one a) w b) (OrB b a w.heap.size) := ⟨fun h => h.or⟩
theorem Nb.symm (h : Nb a b) : Nb b a := ⟨Ne.symm h.ne⟩
theorem Nb.one (h : Nb a b) : ¬ one b a := h.ne
theorem nb_new (hb : b = s) (hx : x < s) : Nb b x := ⟨by omega⟩
theorem nb_ge (hb : s ≤ b) (hx : x < s) : Nb b x := ⟨by omega⟩
theorem nb_or (h : r2 = r ∨ r2 = s) (h1 : Nb r x) (h2 : x < s) : Nb r2 x := ⟨by have := h1.ne; omega⟩
theorem nb_or' (h : OrB r r0 s) (h1 : Nb r0 x) (h2 : x < s) : Nb r x := ⟨by have := h1.ne; unfold OrB at h; omega⟩
theorem gb_new (hb : b = sz) (hs : s ≤ sz) : Gb s b := by unfold Gb; omega
theorem gb_ge (hb : sz ≤ b) (hs : s ≤ sz) : Gb s b := by unfold Gb; omega
theorem gb_or (h : r2 = r ∨ r2 = sz) (h1 : Gb s r) (h2 : s ≤ sz) : Gb s r2 := by unfold Gb at *; omega
theorem gb_or' (h : OrB r r0 sz) (h1 : Gb s r0) (h2 : s ≤ sz) : Gb s r := by unfold Gb OrB at *; omega
theorem cov_new (hb : b = sz) (hs : base.heap.size ≤ sz) : Cov L base b := ⟨.inr (by omega)⟩
theorem cov_ge (hb : sz ≤ b) (hs : base.heap.size ≤ sz) : Cov L base b := ⟨.inr (by omega)⟩
theorem cov_or (h : r2 = r ∨ r2 = sz) (h1 : Cov L base r) (h2 : base.heap.size ≤ sz) : Cov L base r2 := by
 rcases h with rfl | rfl
 ·exact h1
 ·exact ⟨.inr h2⟩
theorem cov_or' (h : OrB r r0 sz) (h1 : Cov L base r0) (h2 : base.heap.size ≤ sz) : Cov L base r := by
 rcases h with rfl | h
 ·exact h1
 ·exact ⟨.inr (Nat.le_trans h2 h)⟩
theorem orb_or (h : r2 = r ∨ r2 = sz) (h1 : OrB r r0 s) (h2 : s ≤ sz) : OrB r2 r0 s := by unfold OrB at *; omega
theorem orb_or' (h : OrB r2 r sz) (h1 : OrB r r0 s) (h2 : s ≤ sz) : OrB r2 r0 s := by unfold OrB at *; omega
theorem orb_refl : OrB r r s := .inl rfl
theorem Chg.stepN {c d : World} (h : Chg L base c) (h' : Ext c d) : Chg L base d := Chg.step h h' (fun _ h _ => h.elim)
theorem Chg.stepO {c d : World} (h : Chg L base c) (h' : Chg (Go.Proofs.YtfnpaglcnmcnbaaGreat.one b) c d) (hc : Cov L base b) : Chg L base d :=
 Chg.step h h' (fun k hk hlt => by cases hk; exact hc.or.resolve_right (by omega))
theorem Chg.stepI {K : List Nat} {c d : World} (h : Chg L base c) (h' : Chg (ins K) c d) (hc : ∀ b ∈ K, Cov L base b) : Chg L base d :=
 Chg.step h h' (fun k hk hlt => (hc k hk).or.resolve_right (by omega))
theorem Cov.toS {K : List Nat} (h : Cov (mtb K w.heap.size) w b) : mtb K w.heap.size b := h.or.elim id .inr
theorem Chg.toS {K : List Nat} (h : Chg (Go.Proofs.YtfnpaglcnmcnbaaGreat.one b) w w') (hc : mtb K s b) : Chg (mtb K s) w w' := h.weak (fun k _ hk => by cases hk; exact hc)
variable {M M' M2 A B : List Nat}
theorem Mv.ext (hx : Ext w w') : Mv M M w w' := Mv.mk hx (fun _ _ h => ⟨h, fun h => h⟩)
theorem Mv.cons (hm : Mv M M' w w') (hs : w.heap.size ≤ b) : Mv M (b :: M') w w' := fun k hk hk' => ⟨by
 intro h
 rcases List.mem_cons.1 h with rfl | h
 ·omega
 ·exact (hm k hk hk').1 h, (hm k hk hk').2⟩
theorem Mv.on (hx : Chg (Go.Proofs.YtfnpaglcnmcnbaaGreat.one b) w w') (hb : b ∈ M) : Mv M M w w' := Mv.mk hx (fun k _ h => ⟨h, fun e => h (by cases e; exact hb)⟩)
theorem Mv.app (A B : List Nat) (hx : Chg (Go.Proofs.YtfnpaglcnmcnbaaGreat.one r) w w') (h : r2 = r ∨ r2 = w.heap.size) : Mv (A ++ r :: B) (A ++ r2 :: B) w w' := Mv.mk hx (fun k hk hm => by
 simp only [List.mem_append, List.mem_cons, not_or] at hm ⊢
 exact ⟨⟨hm.1, by omega, hm.2.2⟩, hm.2.1⟩)
theorem Mv.inl {K : List Nat} (hx : Chg (ins K) w w') (hK : ∀ b ∈ K, b ∈ M) (h2 : ∀ b ∈ M2, b ∈ M ∨ w.heap.size ≤ b) : Mv M M2 w w' := Mv.mk hx (fun k hk hm =>
 ⟨fun h => (h2 k h).elim hm (fun h => by omega), fun h => hm (hK k h)⟩)
theorem Mv.drop (A B : List Nat) : Mv (A ++ r :: B) (A ++ B) w w := fun k _ hm => ⟨by
 simp only [List.mem_append, List.mem_cons, not_or] at hm ⊢
 exact ⟨hm.1, hm.2.2⟩, rfl⟩
theorem Mv.less (h : ∀ b ∈ M', b ∈ M) : Mv M M' w w := fun k _ hm => ⟨fun h' => hm (h k h'), rfl⟩
theorem orb_mem (h : OrB r r0 s) (hm : r0 ∈ M) : r ∈ M ∨ s ≤ r := by
 rcases h with rfl | h
 ·exact .inl hm
 ·exact .inr h
theorem own_in {G : Nat → Prop} (hr : r ∈ M) (h : nin G M b) : nin G M b ∧ b ≠ r := ⟨h, fun e => h.2 (e ▸ hr)⟩
theorem hap_mk {G : Nat → Prop} (hg : G b) (hn : ∀ x ∈ M, Nb b x) (hr : Nb b r) : nin G M b ∧ b ≠ r := ⟨⟨hg, fun h => (hn b h).ne rfl⟩, hr.ne⟩
theorem nS_of {K : List Nat} (h1 : ∀ x ∈ K, Nb b x) (h2 : b < s) : ¬ mtb K s b := fun h => h.elim (fun h => (h1 b h).ne rfl) (fun h => by omega)
section
variable {α : Type} [Rep α] {G : Nat → Prop} {o : Option Addr} {n c : Nat} {t : TypeId} {xs : List α}
theorem RepS.mixed' {F : Nat → Prop} {s' : Nat} (h : RepS w (fo (nin (fo F s') M) s) o n c xs) (hM : ∀ b ∈ M, b < s) (hs : s' ≤ s) : RepS w (nin (fo F s') M) o n c xs :=
 h.mixed (fun b hb => ⟨hM b hb, hb⟩) hs
theorem Own.mixed' {F : Nat → Prop} {s' : Nat} (h : Own w r t (fo (nin (fo F s') M) s) n c xs) (hM : ∀ b ∈ M, b < s) (hs : s' ≤ s) : Own w r t (nin (fo F s') M) n c xs :=
 h.weak fun b _ hF => by
  rcases hF with hF | hF
  ·exact hF
  ·exact ⟨.inr (Nat.le_trans hs hF), fun hm => by have := hM b hm; omega⟩
theorem RepS.nS {K : List Nat} (h : RepS w (nin (ltG G s) M) o n c xs) (hn : 0 < n) (hL : ∀ x ∈ K, x ∈ M) : ¬ mtb K s (blk o) := fun hk =>
 have hF := h.inF hn
 hk.elim (fun hb => hF.2 (hL _ hb)) (fun hb => by have := hF.1.2; omega)
theorem RepS.chgS {K : List Nat} (h : RepS w (nin (ltG G s) M) o n c xs) (hx : Chg (mtb K s) w w') (hL : ∀ x ∈ K, x ∈ M) : RepS w' all o n c xs :=
 (h.chg hx (fun b hF hk => hk.elim (fun hb => hF.2 (hL _ hb)) (fun hb => by have := hF.1.2; omega))).weak (fun _ _ _ => trivial)
theorem RepS.into (h : RepS w (nin G M) o n c xs) : RepS w (nin (ltG G w.heap.size) M) o n c xs := h.weak (fun b hb hF => ⟨⟨hF.1, hb⟩, hF.2⟩)
theorem RepS.outof (h : RepS w (nin (ltG G s) M) o n c xs) : RepS w (nin G M) o n c xs := h.base (fun _ _ h => h.1)
end
end
section
variable {α : Type} [Rep α] {w : World} {G F : Nat → Prop} {M M' rs : List Nat} {o : Option Addr} {n c r s s0 s' : Nat} {t : TypeId} {xs ys : List α}
theorem RepS.eqx (h : RepS w F o n c xs) (e : xs = ys) : RepS w F o n c ys := e ▸ h
theorem Own.eqx (h : Own w r t F n c xs) (e : xs = ys) : Own w r t F n c ys := e ▸ h
theorem RepS.lessM (h : RepS w (nin G M) o n c xs) (hs : ∀ b ∈ M', b ∈ M) : RepS w (nin G M') o n c xs := h.weak fun k _ hk => ⟨hk.1, fun e => hk.2 (hs k e)⟩
theorem Own.lessM (h : Own w r t (nin G M) n c xs) (hs : ∀ b ∈ M', b ∈ M) : Own w r t (nin G M') n c xs := h.weak fun k _ hk => ⟨hk.1, fun e => hk.2 (hs k e)⟩
theorem nin_take {k : Nat} (h : nin (ge s) rs k) (hM : ∀ b ∈ M, b < s) (hs : s0 ≤ s) : nin (ge s0) (rs ++ M) k := ⟨Nat.le_trans hs h.1, fun hm => by
 rcases List.mem_append.1 hm with hm | hm
 ·exact h.2 hm
 ·have h1 := hM k hm
  have h2 : s ≤ k := h.1
  omega⟩
theorem RepS.takeM (h : RepS w (nin (ge s) rs) o n c xs) (hM : ∀ b ∈ M, b < s) (hs : s0 ≤ s) : RepS w (nin (ge s0) (rs ++ M)) o n c xs := h.weak fun _ _ hk => nin_take hk hM hs
theorem Own.takeM (h : Own w r t (nin (ge s) rs) n c xs) (hM : ∀ b ∈ M, b < s) (hs : s0 ≤ s) : Own w r t (nin (ge s0) (rs ++ M)) n c xs := h.weak fun _ _ hk => nin_take hk hM hs
end
end Go.Proofs.YtfnpaglcnmcnbaaGreat
namespace Go.Proofs.YtfnpaglcnmcnbaaGreat
section
variable {α : Type} [Rep α] {w : World} {F : Nat → Prop} {a : Option Addr} {n c l h : Nat} {xs : List α}
theorem RepS.sub (hr : RepS w F a n c xs) (hlh : l ≤ h) (hh : h ≤ n) : RepS w F (if c = l then a else a.map (·.add (l * Rep.sz α))) (h - l) (c - l) ((xs.take h).drop l) := by
 have hlen := hr.len
 have hle := hr.le
 by_cases he : h = l
 ·subst he
  rw [Nat.sub_self, List.drop_of_length_le (by rw [List.length_take]; omega)]
  exact RepS.nil' _ _ _ _ (by have := hr.cap; omega)
 ·have hcl : c ≠ l := by omega
  rw [if_neg hcl]
  have ha := hr.addr (by omega)
  have hsome : (a.map (·.add (l * Rep.sz α))) = some ⟨blk a, off a + l * Rep.sz α, none⟩ := by
   rw [ha]
   simp [add_lit, blk, off]
  rw [hsome]
  refine ⟨by rw [List.length_drop, List.length_take]; omega, by omega, by have := hr.cap; omega, fun _ => rfl, fun _ => hr.inF (by omega), fun i x hx => ?_⟩
  rw [List.getElem?_drop, List.getElem?_take] at hx
  split at hx
  ·obtain ⟨cs, h1, h2⟩ := hr.elem (l + i) x hx
   refine ⟨cs, h1, ?_⟩
   have : off (some (⟨blk a, off a + l * Rep.sz α, none⟩ : Addr)) + i * Rep.sz α = off a + (l + i) * Rep.sz α := by
    simp only [off, Nat.add_mul]
    omega
   rw [this]
   exact h2
  ·cases hx
end
section
variable {P : Program}
def undB (P : Program) (t : TypeId) : Bool := match P.underlying t with | some .string => true | _ => false
theorem undB_spec {t : TypeId} (h : undB P t = true) : P.underlying t = some .string := by
 unfold undB at h; split at h <;> simp_all
theorem run_sidx {t : TypeId} {s : Str} {k : IntKind} {i : Int} {x : UInt8} (i' : Nat) (ht : undB P t = true) (hi : i = (i' : Int)) (hx : s[i']? = some x) (w : World) :
 (Instr.index t (.string (bs s)) (.int k i)).run P w = .ok (.int .u8 (x.toNat : Int)) w := by
 subst hi
 have hu := undB_spec ht
 have hs : (bs s)[i']? = some x := by
  obtain ⟨h1, h2⟩ := List.getElem?_eq_some_iff.1 hx
  have h3 : i' < (bs s).size := by rw [bs_size]; exact h1
  rw [getElem?_pos (bs s) i' h3]
  congr 1
 unfold Instr.index
 have h1 : (asIntOf (.int k (i' : Int))).run P w = .ok (k, (i' : Int)) w := rfl
 rw [run_bind_ok h1]
 simp only []
 rw [run_bind_ok (show (underlying t).run P w = .ok .string w by simp [underlying, hu, go_sem])]
 simp [hs, go_sem]
theorem run_cat {t : TypeId} {x y : Operand} {s u : Str} (h : s.length + u.length ≤ 9000000000000000000) (w : World) :
 (do eqGuard .add t x y (.string (bs s)) (.string (bs u)); binOp .add t (.string (bs s)) (.string (bs u))).run P w = .ok (.string (bs (s ++ u))) w := by
 have h1 : (eqGuard .add t x y (.string (bs s)) (.string (bs u))).run P w = .ok () w := rfl
 rw [run_bind_ok h1]
 have hle : ¬ (((bs s).size + (bs u).size : Nat) : Int) > IntKind.i64.max := by
  rw [bs_size, bs_size]
  have : IntKind.i64.max = 9223372036854775807 := by decide
  rw [this]
  omega
 simp only [binOp, Op.stringOp, if_neg hle]
 rw [bs_app]
 rfl
theorem run_rem {k : IntKind} {t : TypeId} {x y : Operand} {a b : Int} (hb : b ≠ 0) (w : World) :
 (do eqGuard .rem t x y (.int k a) (.int k b); binOp .rem t (.int k a) (.int k b)).run P w = .ok (.int k (a.tmod b)) w := by
 have h1 : (eqGuard .rem t x y (.int k a) (.int k b)).run P w = .ok () w := rfl
 rw [run_bind_ok h1]
 simp [binOp, Op.intDiv, hb, go_sem]
theorem run_quo {t : TypeId} {x y : Operand} {a b : Int} (hb : b ≠ 0) (hr : -9223372036854775808 ≤ a.tdiv b ∧ a.tdiv b ≤ 9223372036854775807) (w : World) :
 (do eqGuard .quo t x y (.int .i64 a) (.int .i64 b); binOp .quo t (.int .i64 a) (.int .i64 b)).run P w = .ok (.int .i64 (a.tdiv b)) w := by
 have h1 : (eqGuard .quo t x y (.int .i64 a) (.int .i64 b)).run P w = .ok () w := rfl
 rw [run_bind_ok h1]
 simp [binOp, Op.intDiv, hb, go_sem, IntWalk.i64_in _ hr]
def bnd (o : Option Value) (d l : Nat) : Prop := o = none ∧ l = d ∨ ∃ k i, o = some (.int k i) ∧ i = (l : Int)
theorem run_bound {k : IntKind} {i : Int} {l y : Nat} {code : BoundsCode} (hi : i = (l : Int)) (hl : l ≤ y) (w : World) : (Instr.sliceBound (.int k i) y code).run P w = .ok l w := by
 subst hi
 unfold Instr.sliceBound
 have h1 : (asIntOf (.int k (l : Int))).run P w = .ok (k, (l : Int)) w := rfl
 rw [run_bind_ok h1]
 have h2 : (0 : Int) ≤ (l : Int) ∧ (l : Int) ≤ (y : Int) := by omega
 simp only [h2, and_self, if_true]
 simp [go_sem]
theorem run_bounds {b : Bool} {len cap l h : Nat} {lo hi : Option Value} (hlo : bnd lo 0 l) (hhi : bnd hi len h) (hlh : l ≤ h) (hh : h ≤ cap) (w : World) :
 (Instr.sliceBounds b len cap lo hi none).run P w = .ok (l, h, cap) w := by
 unfold Instr.sliceBounds
 rcases hlo with ⟨rfl, rfl⟩ | ⟨k, i, rfl, hi1⟩ <;> rcases hhi with ⟨rfl, rfl⟩ | ⟨k2, i2, rfl, hi2⟩
 ·simp [go_sem]
 ·simp only [pure_bind]
  rw [run_bind_ok (run_bound hi2 hh w)]
  simp [go_sem]
 ·simp only [pure_bind]
  rw [run_bind_ok (run_bound hi1 hlh w)]
  simp [go_sem]
 ·simp only [pure_bind]
  rw [run_bind_ok (run_bound hi2 hh w), run_bind_ok (run_bound hi1 hlh w)]
  simp [go_sem]
theorem run_ssub {t : TypeId} {s : Str} {l h : Nat} {lo hi : Option Value} (ht : undB P t = true) (hlo : bnd lo 0 l) (hhi : bnd hi s.length h) (hlh : l ≤ h) (hh : h ≤ s.length) (w : World) :
 (Instr.sliceAt t (.string (bs s)) lo hi none).run P w = .ok (.string (bs ((s.take h).drop l))) w := by
 have hu := undB_spec ht
 have hun : (underlying t).run P w = .ok .string w := by simp [underlying, hu, go_sem]
 unfold Instr.sliceAt
 rw [run_bind_ok hun]
 unfold Instr.slice
 rw [run_bind_ok hun]
 have hb := run_bounds (P := P) (b := false) hlo (len := (bs s).size) (cap := (bs s).size) (by rw [bs_size]; exact hhi) hlh (by rw [bs_size]; exact hh) w
 simp only [Option.isSome_none, Bool.false_eq_true, if_false, pure_bind]
 rw [run_bind_ok hb]
 have hx : (bs s).extract l h = bs ((s.take h).drop l) := by
  apply ByteArray.ext
  simp [bs, ByteArray.data_extract]
  exact List.drop_take.symm
 simp only []
 rw [hx]
 rfl
def sliB (P : Program) (t : TypeId) (sz : Nat) : Bool := match P.underlying t with | some (.slice e) => (match P.info? e with | some i => Nat.beq i.size sz | none => false) | _ => false
theorem run_sub {t : TypeId} {sz : Nat} {a : Option Addr} {len cap l h : Nat} {lo hi : Option Value} (ht : sliB P t sz = true) (hlo : bnd lo 0 l) (hhi : bnd hi len h) (hlh : l ≤ h) (hh : h ≤ cap) (w : World) :
 (Instr.sliceAt t (.slice a len cap) lo hi none).run P w = .ok (.slice (if cap = l then a else a.map (·.add (l * sz))) (h - l) (cap - l)) w := by
 unfold sliB at ht
 split at ht
 ·rename_i e hu
  split at ht
  ·rename_i i hi'
   have hsz := Nat.eq_of_beq_eq_true ht
   have hun : (underlying t).run P w = .ok (.slice e) w := by simp [underlying, hu, go_sem]
   unfold Instr.sliceAt
   rw [run_bind_ok hun]
   simp only []
   unfold Instr.slice
   rw [run_bind_ok hun]
   simp only []
   rw [run_bind_ok (run_bounds (P := P) (b := true) hlo hhi hlh hh w)]
   simp only []
   rw [run_bind_ok (show (sizeOf e).run P w = .ok i.size w by simp [sizeOf, typeInfo, hi', go_sem])]
   rw [hsz]
   rfl
  ·cases ht
 ·cases ht
def tagB (P : Program) (t : TypeId) : Bool :=
 (match P.underlying t with
  | some (.struct fs) => (match fs.toList with
    | [f, g] => f.name != "_" && g.name != "_" && undB P f.type && undB P g.type && Nat.beq f.offset 0 && Nat.beq g.offset 1
    | _ => false)
  | _ => false) && !P.stoodInHeld t && !P.eqGuardType P.depth t
theorem run_equal_str {d : Nat} {t : TypeId} {s u : Str} (ht : undB P t = true) (w : World) : (Op.equalIn (d + 1) t (.string (bs s)) (.string (bs u))).run P w = .ok (s == u) w := by
 have hu := undB_spec ht
 have hun : (underlying t).run P w = .ok .string w := by simp [underlying, hu, go_sem]
 unfold Op.equalIn
 rw [run_bind_ok hun]
 simp only []
 rw [bs_beq]
 rfl
theorem run_part_str {t : TypeId} {cs : Array Value} {o : Nat} {v : Value} (ht : undB P t = true) (hv : cs[o]? = some v) (w : World) : (part t cs o).run P w = .ok v w := by
 have hu := undB_spec ht
 have hsc : scalarB P t = true := by unfold scalarB; rw [hu]
 unfold part
 rw [run_bind_ok (run_isAgg_false hsc w)]
 simp [hv, go_sem]
theorem tagB_guard {t : TypeId} {op : BinOp} {x y : Operand} {cs cs' : Array Value} (ht : (!P.eqGuardType P.depth t) = true) (w : World) : (eqGuard op t x y (.agg cs) (.agg cs')).run P w = .ok () w := by
 simp only [Bool.not_eq_true'] at ht
 unfold eqGuard
 cases op <;> simp [ht, go_sem, run_program]
theorem run_equal_tag {t : TypeId} {k v k' v' : Str} (ht : tagB P t = true) (w : World) :
 (Op.equal t (.agg #[.string (bs k), .string (bs v)]) (.agg #[.string (bs k'), .string (bs v')])).run P w = .ok (k == k' && v == v') w := by
 unfold tagB at ht
 simp only [Bool.and_eq_true, Bool.not_eq_true'] at ht
 obtain ⟨⟨h1, h2⟩, h3⟩ := ht
 split at h1
 ·rename_i fs hu
  split at h1
  ·rename_i f g hfg
   simp only [Bool.and_eq_true] at h1
   obtain ⟨⟨⟨⟨⟨a1, a2⟩, a3⟩, a4⟩, a5⟩, a6⟩ := h1
   have a5' := Nat.eq_of_beq_eq_true a5
   have a6' := Nat.eq_of_beq_eq_true a6
   have hun : (underlying t).run P w = .ok (.struct fs) w := by simp [underlying, hu, go_sem]
   have hfs : fs = #[f, g] := Array.toList_inj.1 (by simpa using hfg)
   subst hfs
   unfold Op.equal
   rw [show Op.maxDepth = 9999 + 1 from rfl]
   unfold Op.equalIn
   rw [run_bind_ok hun]
   simp only []
   have hp : (program : Sem Program).run P w = .ok P w := run_program P w
   rw [run_bind_ok hp]
   simp only [h2, Bool.false_eq_true, if_false]
   have e1 := fun (w : World) => run_part_str (P := P) (t := f.type) (cs := #[.string (bs k), .string (bs v)]) (o := f.offset) (v := .string (bs k)) a3 (by rw [a5']; rfl) w
   have e2 := fun (w : World) => run_part_str (P := P) (t := f.type) (cs := #[.string (bs k'), .string (bs v')]) (o := f.offset) (v := .string (bs k')) a3 (by rw [a5']; rfl) w
   have e3 := fun (w : World) => run_part_str (P := P) (t := g.type) (cs := #[.string (bs k), .string (bs v)]) (o := g.offset) (v := .string (bs v)) a4 (by rw [a6']; rfl) w
   have e4 := fun (w : World) => run_part_str (P := P) (t := g.type) (cs := #[.string (bs k'), .string (bs v')]) (o := g.offset) (v := .string (bs v')) a4 (by rw [a6']; rfl) w
   have e5 := run_equal_str (P := P) (d := 9998) (t := f.type) (s := k) (u := k') a3
   have e6 := run_equal_str (P := P) (d := 9998) (t := g.type) (s := v) (u := v') a4
   have c1 : (f.name ≠ "_") = True := by simpa using a1
   have c2 : (g.name ≠ "_") = True := by simpa using a2
   simp only [List.forIn_toArray, Array.forIn_toList, List.forIn_cons, List.forIn_nil, c1, c2, if_true, bind_assoc]
   rw [run_bind_ok (e1 w), run_bind_ok (e2 w), run_bind_ok (e5 w)]
   cases hk : (k == k') with
   | false => simp [go_sem]
   | true =>
     simp only [Bool.not_true, Bool.false_eq_true, if_false, pure_bind, bind_assoc]
     rw [run_bind_ok (e3 w), run_bind_ok (e4 w), run_bind_ok (e6 w)]
     cases hv : (v == v') <;> simp [go_sem]
  ·cases h1
 ·cases h1
def intB (P : Program) (t : TypeId) : Bool := match P.underlying t with | some (.int _) => true | _ => false
def rowB (P : Program) (t : TypeId) : Bool :=
 (match P.underlying t with
  | some (.struct fs) => (match fs.toList with
    | [f, g] => f.name != "_" && g.name != "_" && intB P f.type && intB P g.type && Nat.beq f.offset 0 && Nat.beq g.offset 1
    | _ => false)
  | _ => false) && !P.stoodInHeld t && !P.eqGuardType P.depth t
theorem run_equal_int {d : Nat} {t : TypeId} {s u : Int} (ht : intB P t = true) (w : World) : (Op.equalIn (d + 1) t (.int .i64 s) (.int .i64 u)).run P w = .ok (s == u) w := by
 unfold intB at ht
 split at ht
 ·rename_i k hu
  have hun : (underlying t).run P w = .ok (.int k) w := by simp [underlying, hu, go_sem]
  unfold Op.equalIn
  rw [run_bind_ok hun]
  simp [go_sem]
 ·cases ht
theorem run_part_int {t : TypeId} {cs : Array Value} {o : Nat} {v : Value} (ht : intB P t = true) (hv : cs[o]? = some v) (w : World) : (part t cs o).run P w = .ok v w := by
 unfold intB at ht
 split at ht
 ·rename_i k hu
  have hsc : scalarB P t = true := by unfold scalarB; rw [hu]
  unfold part
  rw [run_bind_ok (run_isAgg_false hsc w)]
  simp [hv, go_sem]
 ·cases ht
theorem run_equalIn_row {d : Nat} {t : TypeId} {k v k' v' : Int} (ht : rowB P t = true) (w : World) :
 (Op.equalIn (d + 2) t (.agg #[.int .i64 k, .int .i64 v]) (.agg #[.int .i64 k', .int .i64 v'])).run P w = .ok (k == k' && v == v') w := by
 unfold rowB at ht
 simp only [Bool.and_eq_true, Bool.not_eq_true'] at ht
 obtain ⟨⟨h1, h2⟩, h3⟩ := ht
 split at h1
 ·rename_i fs hu
  split at h1
  ·rename_i f g hfg
   simp only [Bool.and_eq_true] at h1
   obtain ⟨⟨⟨⟨⟨a1, a2⟩, a3⟩, a4⟩, a5⟩, a6⟩ := h1
   have a5' := Nat.eq_of_beq_eq_true a5
   have a6' := Nat.eq_of_beq_eq_true a6
   have hun : (underlying t).run P w = .ok (.struct fs) w := by simp [underlying, hu, go_sem]
   have hfs : fs = #[f, g] := Array.toList_inj.1 (by simpa using hfg)
   subst hfs
   unfold Op.equalIn
   rw [run_bind_ok hun]
   simp only []
   have hp : (program : Sem Program).run P w = .ok P w := run_program P w
   rw [run_bind_ok hp]
   simp only [h2, Bool.false_eq_true, if_false]
   have e1 := fun (w : World) => run_part_int (P := P) (t := f.type) (cs := #[.int .i64 k, .int .i64 v]) (o := f.offset) (v := .int .i64 k) a3 (by rw [a5']; rfl) w
   have e2 := fun (w : World) => run_part_int (P := P) (t := f.type) (cs := #[.int .i64 k', .int .i64 v']) (o := f.offset) (v := .int .i64 k') a3 (by rw [a5']; rfl) w
   have e3 := fun (w : World) => run_part_int (P := P) (t := g.type) (cs := #[.int .i64 k, .int .i64 v]) (o := g.offset) (v := .int .i64 v) a4 (by rw [a6']; rfl) w
   have e4 := fun (w : World) => run_part_int (P := P) (t := g.type) (cs := #[.int .i64 k', .int .i64 v']) (o := g.offset) (v := .int .i64 v') a4 (by rw [a6']; rfl) w
   have e5 := run_equal_int (P := P) (d := d) (t := f.type) (s := k) (u := k') a3
   have e6 := run_equal_int (P := P) (d := d) (t := g.type) (s := v) (u := v') a4
   have c1 : (f.name ≠ "_") = True := by simpa using a1
   have c2 : (g.name ≠ "_") = True := by simpa using a2
   simp only [List.forIn_toArray, Array.forIn_toList, List.forIn_cons, List.forIn_nil, c1, c2, if_true, bind_assoc]
   rw [run_bind_ok (e1 w), run_bind_ok (e2 w), run_bind_ok (e5 w)]
   cases hk : (k == k') with
   | false => simp [go_sem]
   | true =>
     simp only [Bool.not_true, Bool.false_eq_true, if_false, pure_bind, bind_assoc]
     rw [run_bind_ok (e3 w), run_bind_ok (e4 w), run_bind_ok (e6 w)]
     cases hv : (v == v') <;> simp [go_sem]
  ·cases h1
 ·cases h1
theorem run_equal_row {t : TypeId} {k v k' v' : Int} (ht : rowB P t = true) (w : World) :
 (Op.equal t (.agg #[.int .i64 k, .int .i64 v]) (.agg #[.int .i64 k', .int .i64 v'])).run P w = .ok (k == k' && v == v') w := run_equalIn_row (d := 9998) ht w
def smpB (P : Program) (t : TypeId) : Bool :=
 (match P.underlying t with
  | some (.struct fs) => (match fs.toList with
    | [f, g] => f.name != "_" && g.name != "_" && intB P f.type && rowB P g.type && aggB P g.type 2 && Nat.beq f.offset 0 && Nat.beq g.offset 1
    | _ => false)
  | _ => false) && !P.stoodInHeld t && !P.eqGuardType P.depth t
theorem run_part_agg {t : TypeId} {cs : Array Value} {o n : Nat} (ht : aggB P t n = true) (w : World) : (part t cs o).run P w = .ok (.agg (cs.extract o (o + n))) w := by
 simp only [aggB, Bool.and_eq_true] at ht
 unfold part
 have h1 : (isAgg t).run P w = .ok true w := by
  unfold isAgg underlying
  have := ht.1
  split at this
  ·rename_i d hd; simp [run_program, hd, go_sem]
  ·rename_i d hd; simp [run_program, hd, go_sem]
  ·cases this
 rw [run_bind_ok h1]
 simp only [if_true]
 rw [run_bind_ok (run_sizeOf (n := n) ht.2 w)]
 rfl
theorem run_equal_smp {t : TypeId} {i k v i' k' v' : Int} (ht : smpB P t = true) (w : World) :
 (Op.equal t (.agg #[.int .i64 i, .int .i64 k, .int .i64 v]) (.agg #[.int .i64 i', .int .i64 k', .int .i64 v'])).run P w = .ok (i == i' && (k == k' && v == v')) w := by
 unfold smpB at ht
 simp only [Bool.and_eq_true, Bool.not_eq_true'] at ht
 obtain ⟨⟨h1, h2⟩, h3⟩ := ht
 split at h1
 ·rename_i fs hu
  split at h1
  ·rename_i f g hfg
   simp only [Bool.and_eq_true] at h1
   obtain ⟨⟨⟨⟨⟨⟨a1, a2⟩, a3⟩, a4⟩, a7⟩, a5⟩, a6⟩ := h1
   have a5' := Nat.eq_of_beq_eq_true a5
   have a6' := Nat.eq_of_beq_eq_true a6
   have hun : (underlying t).run P w = .ok (.struct fs) w := by simp [underlying, hu, go_sem]
   have hfs : fs = #[f, g] := Array.toList_inj.1 (by simpa using hfg)
   subst hfs
   unfold Op.equal
   rw [show Op.maxDepth = 9999 + 1 from rfl]
   unfold Op.equalIn
   rw [run_bind_ok hun]
   simp only []
   have hp : (program : Sem Program).run P w = .ok P w := run_program P w
   rw [run_bind_ok hp]
   simp only [h2, Bool.false_eq_true, if_false]
   have e1 := fun (w : World) => run_part_int (P := P) (t := f.type) (cs := #[.int .i64 i, .int .i64 k, .int .i64 v]) (o := f.offset) (v := .int .i64 i) a3 (by rw [a5']; rfl) w
   have e2 := fun (w : World) => run_part_int (P := P) (t := f.type) (cs := #[.int .i64 i', .int .i64 k', .int .i64 v']) (o := f.offset) (v := .int .i64 i') a3 (by rw [a5']; rfl) w
   have e3 := fun (w : World) => run_part_agg (P := P) (t := g.type) (cs := #[.int .i64 i, .int .i64 k, .int .i64 v]) (o := g.offset) (n := 2) a7 w
   have e4 := fun (w : World) => run_part_agg (P := P) (t := g.type) (cs := #[.int .i64 i', .int .i64 k', .int .i64 v']) (o := g.offset) (n := 2) a7 w
   have x1 : (#[.int .i64 i, .int .i64 k, .int .i64 v] : Array Value).extract g.offset (g.offset + 2) = #[.int .i64 k, .int .i64 v] := by rw [a6']; rfl
   have x2 : (#[.int .i64 i', .int .i64 k', .int .i64 v'] : Array Value).extract g.offset (g.offset + 2) = #[.int .i64 k', .int .i64 v'] := by rw [a6']; rfl
   simp only [x1] at e3
   simp only [x2] at e4
   have e5 := run_equal_int (P := P) (d := 9998) (t := f.type) (s := i) (u := i') a3
   have e6 := run_equalIn_row (P := P) (d := 9997) (t := g.type) (k := k) (v := v) (k' := k') (v' := v') a4
   have c1 : (f.name ≠ "_") = True := by simpa using a1
   have c2 : (g.name ≠ "_") = True := by simpa using a2
   simp only [List.forIn_toArray, Array.forIn_toList, List.forIn_cons, List.forIn_nil, c1, c2, if_true, bind_assoc]
   rw [run_bind_ok (e1 w), run_bind_ok (e2 w), run_bind_ok (e5 w)]
   cases hk : (i == i') with
   | false => simp [go_sem]
   | true =>
     simp only [Bool.not_true, Bool.false_eq_true, if_false, pure_bind, bind_assoc]
     rw [run_bind_ok (e3 w), run_bind_ok (e4 w), run_bind_ok (e6 w)]
     cases hv : (k == k' && v == v') <;> simp [go_sem]
  ·cases h1
 ·cases h1
theorem smpB_g {t : TypeId} (h : smpB P t = true) : (!P.eqGuardType P.depth t) = true := by unfold smpB at h; simp only [Bool.and_eq_true] at h; exact h.2
theorem run_smpNe {t : TypeId} {x y : Operand} {i k v i' k' v' : Int} (ht : smpB P t = true) (w : World) :
 (do eqGuard .neq t x y (.agg #[.int .i64 i, .int .i64 k, .int .i64 v]) (.agg #[.int .i64 i', .int .i64 k', .int .i64 v']); binOp .neq t (.agg #[.int .i64 i, .int .i64 k, .int .i64 v]) (.agg #[.int .i64 i', .int .i64 k', .int .i64 v'])).run P w
  = .ok (.bool (!(i == i' && (k == k' && v == v')))) w := by
 rw [run_bind_ok (tagB_guard (smpB_g ht) w)]
 simp only [binOp]
 rw [run_bind_ok (run_equal_smp ht w)]
 rfl
theorem smp_beq (x y : Smp) : (x == y) = (x.id == y.id && (x.row.t == y.row.t && x.row.v == y.row.v)) := by
 rw [Bool.eq_iff_iff]
 simp only [beq_iff_eq, Bool.and_eq_true]
 constructor
 ·rintro rfl; exact ⟨rfl, rfl, rfl⟩
 ·rintro ⟨h1, h2, h3⟩
  cases x with | mk i r => cases y with | mk i' r' => cases r; cases r'; simp_all
theorem tagB_g {t : TypeId} (h : tagB P t = true) : (!P.eqGuardType P.depth t) = true := by unfold tagB at h; simp only [Bool.and_eq_true] at h; exact h.2
theorem rowB_g {t : TypeId} (h : rowB P t = true) : (!P.eqGuardType P.depth t) = true := by unfold rowB at h; simp only [Bool.and_eq_true] at h; exact h.2
theorem run_tagEq {t : TypeId} {x y : Operand} {k v k' v' : Str} (ht : tagB P t = true) (w : World) :
 (do eqGuard .eql t x y (.agg #[.string (bs k), .string (bs v)]) (.agg #[.string (bs k'), .string (bs v')]); binOp .eql t (.agg #[.string (bs k), .string (bs v)]) (.agg #[.string (bs k'), .string (bs v')])).run P w
  = .ok (.bool (k == k' && v == v')) w := by
 rw [run_bind_ok (tagB_guard (tagB_g ht) w)]
 simp only [binOp]
 rw [run_bind_ok (run_equal_tag ht w)]
 rfl
theorem run_tagNe {t : TypeId} {x y : Operand} {k v k' v' : Str} (ht : tagB P t = true) (w : World) :
 (do eqGuard .neq t x y (.agg #[.string (bs k), .string (bs v)]) (.agg #[.string (bs k'), .string (bs v')]); binOp .neq t (.agg #[.string (bs k), .string (bs v)]) (.agg #[.string (bs k'), .string (bs v')])).run P w
  = .ok (.bool (!(k == k' && v == v'))) w := by
 rw [run_bind_ok (tagB_guard (tagB_g ht) w)]
 simp only [binOp]
 rw [run_bind_ok (run_equal_tag ht w)]
 rfl
theorem run_rowNe {t : TypeId} {x y : Operand} {k v k' v' : Int} (ht : rowB P t = true) (w : World) :
 (do eqGuard .neq t x y (.agg #[.int .i64 k, .int .i64 v]) (.agg #[.int .i64 k', .int .i64 v']); binOp .neq t (.agg #[.int .i64 k, .int .i64 v]) (.agg #[.int .i64 k', .int .i64 v'])).run P w
  = .ok (.bool (!(k == k' && v == v'))) w := by
 rw [run_bind_ok (tagB_guard (rowB_g ht) w)]
 simp only [binOp]
 rw [run_bind_ok (run_equal_row ht w)]
 rfl
theorem row_beq (x y : Row) : (x == y) = (x.t == y.t && x.v == y.v) := by
 rw [Bool.eq_iff_iff]
 simp only [beq_iff_eq, Bool.and_eq_true]
 constructor
 ·rintro rfl; exact ⟨rfl, rfl⟩
 ·rintro ⟨h1, h2⟩; cases x; cases y; simp_all
theorem tag_beq (x y : Tag) : (x == y) = (x.key == y.key && x.val == y.val) := by
 rw [Bool.eq_iff_iff]
 simp only [beq_iff_eq, Bool.and_eq_true]
 constructor
 ·rintro rfl; exact ⟨rfl, rfl⟩
 ·rintro ⟨h1, h2⟩; cases x; cases y; simp_all
def binAt (n : Nat) (ops : Array Oper) (j : Nat) (e : Env) : Option (BinOp × TypeId × Value × Value) :=
 bif goAt n ops j e then
  match (opAt ops j).op with
  | .binOp op t x y _ => some (op, t, ev e x, ev e y)
  | _ => none
 else none
def sidxAt (n : Nat) (ops : Array Oper) (j : Nat) (e : Env) : Option (TypeId × Value × Value) :=
 bif goAt n ops j e then
  match (opAt ops j).op with
  | .index t x y => some (t, ev e x, ev e y)
  | _ => none
 else none
def sliAt (n : Nat) (ops : Array Oper) (j : Nat) (e : Env) : Option (TypeId × Value × Option Value × Option Value) :=
 bif goAt n ops j e then
  match (opAt ops j).op with
  | .slice t x lo hi none => some (t, ev e x, lo.map (ev e), hi.map (ev e))
  | _ => none
 else none
theorem run_bin {n : Nat} {ops : Array Oper} {j : Nat} {e : Env} {op : BinOp} {t : TypeId} {a b v : Value} {w : World} (h : binAt n ops j e = some (op, t, a, b))
 (hr : ∀ x y, (do eqGuard op t x y a b; binOp op t a b).run P w = .ok v w) : goAt n ops j e = true ∧ (execOp (ev e) (opAt ops j)).run P w = .ok (.value v) w := by
 obtain ⟨hg, h⟩ := goAt_of h
 refine ⟨hg, ?_⟩
 split at h
 ·rename_i op' t' x y z hop
  simp only [Option.some.injEq, Prod.mk.injEq] at h
  obtain ⟨rfl, rfl, rfl, rfl⟩ := h
  simp only [execOp, hop]
  exact run_bind_ok (hr x y)
 ·cases h
theorem run_sidxAt {n : Nat} {ops : Array Oper} {j : Nat} {e : Env} {t : TypeId} {a b v : Value} {w : World} (h : sidxAt n ops j e = some (t, a, b))
 (hr : (Instr.index t a b).run P w = .ok v w) : goAt n ops j e = true ∧ (execOp (ev e) (opAt ops j)).run P w = .ok (.value v) w := by
 obtain ⟨hg, h⟩ := goAt_of h
 refine ⟨hg, ?_⟩
 split at h
 ·rename_i t' x y hop
  simp only [Option.some.injEq, Prod.mk.injEq] at h
  obtain ⟨rfl, rfl, rfl⟩ := h
  simp only [execOp, hop]
  exact run_bind_ok hr
 ·cases h
theorem run_sliAt {n : Nat} {ops : Array Oper} {j : Nat} {e : Env} {t : TypeId} {a v : Value} {lo hi : Option Value} {w : World} (h : sliAt n ops j e = some (t, a, lo, hi))
 (hr : (Instr.sliceAt t a lo hi none).run P w = .ok v w) : goAt n ops j e = true ∧ (execOp (ev e) (opAt ops j)).run P w = .ok (.value v) w := by
 obtain ⟨hg, h⟩ := goAt_of h
 refine ⟨hg, ?_⟩
 split at h
 ·rename_i t' x lo' hi' hop
  simp only [Option.some.injEq, Prod.mk.injEq] at h
  obtain ⟨rfl, rfl, rfl, rfl⟩ := h
  simp only [execOp, hop]
  exact run_bind_ok hr
 ·cases h
end
section
variable {P : Program} {n : Nat} {K : Env → World → Prop} {ops : Array Oper} {j : Nat} {e : Env} {w : World}
theorem RG.cat {t : TypeId} {s u : Str} (h : binAt n ops j e = some (.add, t, .string (bs s), .string (bs u))) (hl : s.length + u.length ≤ 9000000000000000000)
 (H : RG P n K ops (j + 1) (putE e (opAt ops j).dst (.string (bs (s ++ u)))) w) : RG P n K ops j e w :=
 have h1 := run_bin (P := P) (w := w) h (fun _ _ => run_cat hl w)
 RG.val h1.1 h1.2 H
theorem RG.tagEq {t : TypeId} {x y : Tag} (h : binAt n ops j e = some (.eql, t, .agg #[.string (bs x.key), .string (bs x.val)], .agg #[.string (bs y.key), .string (bs y.val)])) (ht : tagB P t = true)
 (H : RG P n K ops (j + 1) (putE e (opAt ops j).dst (.bool (x == y))) w) : RG P n K ops j e w :=
 have h1 := run_bin (P := P) (w := w) h (fun _ _ => run_tagEq ht w)
 RG.val h1.1 (by rw [tag_beq]; exact h1.2) H
theorem RG.tagNe {t : TypeId} {x y : Tag} (h : binAt n ops j e = some (.neq, t, .agg #[.string (bs x.key), .string (bs x.val)], .agg #[.string (bs y.key), .string (bs y.val)])) (ht : tagB P t = true)
 (H : RG P n K ops (j + 1) (putE e (opAt ops j).dst (.bool (!(x == y)))) w) : RG P n K ops j e w :=
 have h1 := run_bin (P := P) (w := w) h (fun _ _ => run_tagNe ht w)
 RG.val h1.1 (by rw [tag_beq]; exact h1.2) H
theorem RG.rowNe {t : TypeId} {x y : Row} (h : binAt n ops j e = some (.neq, t, .agg #[.int .i64 x.t, .int .i64 x.v], .agg #[.int .i64 y.t, .int .i64 y.v])) (ht : rowB P t = true)
 (H : RG P n K ops (j + 1) (putE e (opAt ops j).dst (.bool (!(x == y)))) w) : RG P n K ops j e w :=
 have h1 := run_bin (P := P) (w := w) h (fun _ _ => run_rowNe ht w)
 RG.val h1.1 (by rw [row_beq]; exact h1.2) H
theorem RG.smpNe {t : TypeId} {x y : Smp} (h : binAt n ops j e = some (.neq, t, .agg #[.int .i64 x.id, .int .i64 x.row.t, .int .i64 x.row.v], .agg #[.int .i64 y.id, .int .i64 y.row.t, .int .i64 y.row.v])) (ht : smpB P t = true)
 (H : RG P n K ops (j + 1) (putE e (opAt ops j).dst (.bool (!(x == y)))) w) : RG P n K ops j e w :=
 have h1 := run_bin (P := P) (w := w) h (fun _ _ => run_smpNe ht w)
 RG.val h1.1 (by rw [smp_beq]; exact h1.2) H
theorem RG.rem {t : TypeId} {k : IntKind} {a b : Int} (h : binAt n ops j e = some (.rem, t, .int k a, .int k b)) (hb : b ≠ 0)
 (H : RG P n K ops (j + 1) (putE e (opAt ops j).dst (.int k (a.tmod b))) w) : RG P n K ops j e w :=
 have h1 := run_bin (P := P) (w := w) h (fun _ _ => run_rem hb w)
 RG.val h1.1 h1.2 H
theorem RG.quo {t : TypeId} {a b : Int} (h : binAt n ops j e = some (.quo, t, .int .i64 a, .int .i64 b)) (hb : b ≠ 0) (hr : -9223372036854775808 ≤ a.tdiv b ∧ a.tdiv b ≤ 9223372036854775807)
 (H : RG P n K ops (j + 1) (putE e (opAt ops j).dst (.int .i64 (a.tdiv b))) w) : RG P n K ops j e w :=
 have h1 := run_bin (P := P) (w := w) h (fun _ _ => run_quo hb hr w)
 RG.val h1.1 h1.2 H
theorem RG.sidx {t : TypeId} {s : Str} {k : IntKind} {i : Int} {x : UInt8} (i' : Nat) (h : sidxAt n ops j e = some (t, .string (bs s), .int k i)) (ht : undB P t = true) (hi : i = (i' : Int)) (hx : s[i']? = some x)
 (H : RG P n K ops (j + 1) (putE e (opAt ops j).dst (.int .u8 (x.toNat : Int))) w) : RG P n K ops j e w :=
 have h1 := run_sidxAt h (run_sidx i' ht hi hx w)
 RG.val h1.1 h1.2 H
theorem RG.ssub {t : TypeId} {s : Str} {lo hi : Option Value} (l h' : Nat) (h : sliAt n ops j e = some (t, .string (bs s), lo, hi)) (ht : undB P t = true) (hlo : bnd lo 0 l) (hhi : bnd hi s.length h') (hlh : l ≤ h') (hh : h' ≤ s.length)
 (H : RG P n K ops (j + 1) (putE e (opAt ops j).dst (.string (bs ((s.take h').drop l)))) w) : RG P n K ops j e w :=
 have h1 := run_sliAt h (run_ssub ht hlo hhi hlh hh w)
 RG.val h1.1 h1.2 H
theorem RG.sub {α : Type} [Rep α] {F : Nat → Prop} {xs : List α} {t : TypeId} {a : Option Addr} {len cap : Nat} {lo hi : Option Value} (hr : RepS w F a len cap xs) (l h' : Nat) (h : sliAt n ops j e = some (t, .slice a len cap, lo, hi)) (ht : sliB P t (Rep.sz α) = true) (hlo : bnd lo 0 l) (hhi : bnd hi len h') (hlh : l ≤ h') (hh : h' ≤ len)
 (H : ∀ a' c', RepS w F a' (h' - l) c' ((xs.take h').drop l) → RG P n K ops (j + 1) (putE e (opAt ops j).dst (.slice a' (h' - l) c')) w) : RG P n K ops j e w :=
 have h1 := run_sliAt h (run_sub ht hlo hhi hlh (Nat.le_trans hh hr.le) w)
 RG.val h1.1 h1.2 (H _ _ (hr.sub hlh hh))
end
section
variable {P : Program} {S : Nat → Prop} {n m : Nat} {L : Env → World → Prop} {ops : Array Oper} {l : List Nat} {e : Env} {w : World}
def gB (n m : Nat) (ops : Array Oper) (l : List Nat) (i : Nat) : Bool := stepB n m ops l i && Region.free .any ops (lst ops.size l) i
theorem GA.det' {i : Nat} {v : Value} (hb : gB n m ops l i = true) (hy : ∀ w1 : World, goAt n ops i e = true ∧ (execOp (ev e) (opAt ops i)).run P w1 = .ok (.value v) w1) (H : GA P S n m L ops (i :: l) (putE e (opAt ops i).dst v) w) : GA P S n m L ops l e w :=
 GA.det (by unfold gB at hb; rw [hb, (hy w).1]; rfl) (fun w1 _ => (hy w1).2) H
theorem GA.sub {α : Type} [Rep α] {F : Nat → Prop} {xs : List α} {i : Nat} {t : TypeId} {a : Option Addr} {len cap : Nat} {lo hi : Option Value} (hb : gB n m ops l i = true) (hr : RepS w F a len cap xs) (l' h' : Nat) (h : sliAt n ops i e = some (t, .slice a len cap, lo, hi)) (ht : sliB P t (Rep.sz α) = true) (hlo : bnd lo 0 l') (hhi : bnd hi len h') (hlh : l' ≤ h') (hh : h' ≤ len)
 (H : ∀ a' c', RepS w F a' (h' - l') c' ((xs.take h').drop l') → GA P S n m L ops (i :: l) (putE e (opAt ops i).dst (.slice a' (h' - l') c')) w) : GA P S n m L ops l e w :=
 GA.det' hb (fun w => run_sliAt h (run_sub ht hlo hhi hlh (Nat.le_trans hh hr.le) w)) (H _ _ (hr.sub hlh hh))
theorem GA.cat {i : Nat} {t : TypeId} {s u : Str} (hb : gB n m ops l i = true) (h : binAt n ops i e = some (.add, t, .string (bs s), .string (bs u))) (hl : s.length + u.length ≤ 9000000000000000000)
 (H : GA P S n m L ops (i :: l) (putE e (opAt ops i).dst (.string (bs (s ++ u)))) w) : GA P S n m L ops l e w :=
 GA.det' hb (fun w => run_bin h (fun _ _ => run_cat hl w)) H
theorem GA.tagEq {i : Nat} {t : TypeId} {x y : Tag} (hb : gB n m ops l i = true) (h : binAt n ops i e = some (.eql, t, .agg #[.string (bs x.key), .string (bs x.val)], .agg #[.string (bs y.key), .string (bs y.val)])) (ht : tagB P t = true)
 (H : GA P S n m L ops (i :: l) (putE e (opAt ops i).dst (.bool (x == y))) w) : GA P S n m L ops l e w :=
 GA.det' hb (fun w => by rw [tag_beq]; exact run_bin h (fun _ _ => run_tagEq ht w)) H
theorem GA.tagNe {i : Nat} {t : TypeId} {x y : Tag} (hb : gB n m ops l i = true) (h : binAt n ops i e = some (.neq, t, .agg #[.string (bs x.key), .string (bs x.val)], .agg #[.string (bs y.key), .string (bs y.val)])) (ht : tagB P t = true)
 (H : GA P S n m L ops (i :: l) (putE e (opAt ops i).dst (.bool (!(x == y)))) w) : GA P S n m L ops l e w :=
 GA.det' hb (fun w => by rw [tag_beq]; exact run_bin h (fun _ _ => run_tagNe ht w)) H
theorem GA.rowNe {i : Nat} {t : TypeId} {x y : Row} (hb : gB n m ops l i = true) (h : binAt n ops i e = some (.neq, t, .agg #[.int .i64 x.t, .int .i64 x.v], .agg #[.int .i64 y.t, .int .i64 y.v])) (ht : rowB P t = true)
 (H : GA P S n m L ops (i :: l) (putE e (opAt ops i).dst (.bool (!(x == y)))) w) : GA P S n m L ops l e w :=
 GA.det' hb (fun w => by rw [row_beq]; exact run_bin h (fun _ _ => run_rowNe ht w)) H
theorem GA.smpNe {i : Nat} {t : TypeId} {x y : Smp} (hb : gB n m ops l i = true) (h : binAt n ops i e = some (.neq, t, .agg #[.int .i64 x.id, .int .i64 x.row.t, .int .i64 x.row.v], .agg #[.int .i64 y.id, .int .i64 y.row.t, .int .i64 y.row.v])) (ht : smpB P t = true)
 (H : GA P S n m L ops (i :: l) (putE e (opAt ops i).dst (.bool (!(x == y)))) w) : GA P S n m L ops l e w :=
 GA.det' hb (fun w => by rw [smp_beq]; exact run_bin h (fun _ _ => run_smpNe ht w)) H
theorem GA.rem {i : Nat} {t : TypeId} {k : IntKind} {a b : Int} (hb : gB n m ops l i = true) (h : binAt n ops i e = some (.rem, t, .int k a, .int k b)) (hb0 : b ≠ 0)
 (H : GA P S n m L ops (i :: l) (putE e (opAt ops i).dst (.int k (a.tmod b))) w) : GA P S n m L ops l e w :=
 GA.det' hb (fun w => run_bin h (fun _ _ => run_rem hb0 w)) H
theorem GA.sidx {i : Nat} {t : TypeId} {s : Str} {k : IntKind} {z : Int} {x : UInt8} (hb : gB n m ops l i = true) (i' : Nat) (h : sidxAt n ops i e = some (t, .string (bs s), .int k z)) (ht : undB P t = true) (hi : z = (i' : Int)) (hx : s[i']? = some x)
 (H : GA P S n m L ops (i :: l) (putE e (opAt ops i).dst (.int .u8 (x.toNat : Int))) w) : GA P S n m L ops l e w :=
 GA.det' hb (fun w => run_sidxAt h (run_sidx i' ht hi hx w)) H
theorem GA.ssub {i : Nat} {t : TypeId} {s : Str} {lo hi : Option Value} (hb : gB n m ops l i = true) (l' h' : Nat) (h : sliAt n ops i e = some (t, .string (bs s), lo, hi)) (ht : undB P t = true) (hlo : bnd lo 0 l') (hhi : bnd hi s.length h') (hlh : l' ≤ h') (hh : h' ≤ s.length)
 (H : GA P S n m L ops (i :: l) (putE e (opAt ops i).dst (.string (bs ((s.take h').drop l')))) w) : GA P S n m L ops l e w :=
 GA.det' hb (fun w => run_sliAt h (run_ssub ht hlo hhi hlh hh w)) H
end
end Go.Proofs.YtfnpaglcnmcnbaaGreat
namespace Go.Proofs.YtfnpaglcnmcnbaaGreat
@[reducible] def vS (b n c : Nat) : Value := .slice (some ⟨b, 0, none⟩) n c
@[reducible] def vI (z : Int) : Value := .int .i64 z
@[reducible] def vT (s : Str) : Value := .string (bs s)
def ldT (o : Option (TypeId × Addr)) : TypeId := match o with | some (t, _) => t | none => 0
def ldO (o : Option (TypeId × Addr)) : Nat := match o with | some (_, a) => off (some a) | none => 0
def ldV (cs : List Value) (o : Option (TypeId × Addr)) : Value := (cs[ldO o]?).getD undef
def ldN (P : Program) (o : Option (TypeId × Addr)) : Nat := match P.info? (ldT o) with | some i => i.size | none => 0
def ldL (P : Program) (cs : List Value) (o : Option (TypeId × Addr)) : List Value := (cs.drop (ldO o)).take (ldN P o)
def ldH (P : Program) (cs : List Value) (k : Nat) (o : Option (TypeId × Addr)) : List Value := (cs.drop k).take (ldN P o)
def stT (o : Option (TypeId × Addr × Value)) : TypeId := match o with | some (t, _) => t | none => 0
def lbE (cs : List Value) (n : Nat) (ops : Array Oper) (j : Nat) (e : Env) : Env := putE e (opAt ops j).dst (ldV cs (loadAt n ops j e))
def lnE (P : Program) (cs : List Value) (n : Nat) (ops : Array Oper) (j : Nat) (e : Env) : Env := putE e (opAt ops j).dst (.agg (ldL P cs (loadAt n ops j e)).toArray)
def lgE (P : Program) (cs : List Value) (k n : Nat) (ops : Array Oper) (j : Nat) (e : Env) : Env := putE e (opAt ops j).dst (.agg (ldH P cs k (loadAt n ops j e)).toArray)
def lbG (cs : List Value) (n m : Nat) (ops : Array Oper) (l : List Nat) (i : Nat) (e : Env) : Env := putE e (opAt ops i).dst (ldV cs (gLoad n m ops l i e))
def lnG (P : Program) (cs : List Value) (n m : Nat) (ops : Array Oper) (l : List Nat) (i : Nat) (e : Env) : Env := putE e (opAt ops i).dst (.agg (ldL P cs (gLoad n m ops l i e)).toArray)
def lgG (P : Program) (cs : List Value) (k n m : Nat) (ops : Array Oper) (l : List Nat) (i : Nat) (e : Env) : Env := putE e (opAt ops i).dst (.agg (ldH P cs k (gLoad n m ops l i e)).toArray)
section
variable {P : Program} {n : Nat} {K : Env → World → Prop} {ops : Array Oper} {j : Nat} {e : Env} {w : World} {t t' : TypeId} {b o : Nat} {cs : List Value} {v : Value}
theorem RG.r (m : Nat) (H : RG P n K ops (j + m) (runE P ops m j e) w) (h : runOk P n ops m j e = true := by kernel_rfl) : RG P n K ops j e w := RG.run m h H
theorem RG.d (H : K e w) (h : Nat.beq ops.toList.length j = true := by kernel_rfl) : RG P n K ops j e w := RG.done h H
theorem RG.lb (hb : Box w b t cs) (H : RG P n K ops (j + 1) (lbE cs n ops j e) w)
 (h : loadAt n ops j e = some (ldT (loadAt n ops j e), ⟨b, ldO (loadAt n ops j e), none⟩) := by kernel_rfl)
 (hs : scalarB P (ldT (loadAt n ops j e)) = true := by kernel_rfl) (hv : cs[ldO (loadAt n ops j e)]? = some (ldV cs (loadAt n ops j e)) := by kernel_rfl) : RG P n K ops j e w :=
 RG.loadB hb h hs hv H
theorem RG.ln (hb : Box w b t cs) (H : RG P n K ops (j + 1) (lnE P cs n ops j e) w)
 (h : loadAt n ops j e = some (ldT (loadAt n ops j e), ⟨b, ldO (loadAt n ops j e), none⟩) := by kernel_rfl)
 (hs : aggB P (ldT (loadAt n ops j e)) (ldL P cs (loadAt n ops j e)).length = true := by kernel_rfl)
 (hv : (cs.drop (ldO (loadAt n ops j e))).take (ldL P cs (loadAt n ops j e)).length = ldL P cs (loadAt n ops j e) := by kernel_rfl) : RG P n K ops j e w :=
 RG.loadBN _ hb h hs hv H
theorem RG.lh (k : Nat) (hc : Has w ⟨b, o, none⟩ cs) (H : RG P n K ops (j + 1) (putE e (opAt ops j).dst ((cs[k]?).getD undef)) w)
 (h : loadAt n ops j e = some (ldT (loadAt n ops j e), ⟨b, o + k, none⟩) := by kernel_rfl)
 (hs : scalarB P (ldT (loadAt n ops j e)) = true := by kernel_rfl) (hv : cs[k]? = some ((cs[k]?).getD undef) := by kernel_rfl) : RG P n K ops j e w :=
 RG.loadH k hc h hs hv H
theorem RG.lg (k : Nat) (hc : Has w ⟨b, o, none⟩ cs) (H : RG P n K ops (j + 1) (lgE P cs k n ops j e) w)
 (h : loadAt n ops j e = some (ldT (loadAt n ops j e), ⟨b, o + k, none⟩) := by kernel_rfl)
 (hs : aggB P (ldT (loadAt n ops j e)) (ldH P cs k (loadAt n ops j e)).length = true := by kernel_rfl)
 (hv : (cs.drop k).take (ldH P cs k (loadAt n ops j e)).length = ldH P cs k (loadAt n ops j e) := by kernel_rfl) : RG P n K ops j e w :=
 RG.loadHN k _ hc h hs hv H
theorem RG.sb (o : Nat) (v : Value) (cs' : List Value) (hb : Box w b t cs)
 (H : ∀ w', Chg (one b) w w' → Box w' b t cs' → w'.heap.size = w.heap.size → RG P n K ops (j + 1) (putE e (opAt ops j).dst undef) w')
 (h : storeAt n ops j e = some (stT (storeAt n ops j e), ⟨b, o, none⟩, v) := by kernel_rfl)
 (hs : (sizeB P (stT (storeAt n ops j e)) v.cells.size && Nat.ble (o + v.cells.size) cs.length && v.cells.toList.all oneC) = true := by kernel_rfl)
 (hc : splice cs o v.cells.toList = cs' := by kernel_rfl) : RG P n K ops j e w :=
 RG.storeB cs' hb h hs hc H
theorem RG.ss (o : Nat) (v : Value) (hb : Box w b t cs)
 (H : ∀ w', Chg (one b) w w' → Box w' b t (cs.set o v) → w'.heap.size = w.heap.size → RG P n K ops (j + 1) (putE e (opAt ops j).dst undef) w')
 (h : storeAt n ops j e = some (stT (storeAt n ops j e), ⟨b, o, none⟩, v) := by kernel_rfl)
 (hs : (sizeB P (stT (storeAt n ops j e)) v.cells.size && Nat.ble (o + v.cells.size) cs.length && v.cells.toList.all oneC) = true := by kernel_rfl)
 (hc : splice cs o v.cells.toList = cs.set o v := by kernel_rfl) : RG P n K ops j e w := RG.storeB _ hb h hs hc H
theorem RG.sc (vs : List Value) (hb : Box w b t cs)
 (H : ∀ w', Chg (one b) w w' → Box w' b t vs → w'.heap.size = w.heap.size → RG P n K ops (j + 1) (putE e (opAt ops j).dst undef) w')
 (h : storeAt n ops j e = some (stT (storeAt n ops j e), ⟨b, 0, none⟩, .agg vs.toArray) := by kernel_rfl)
 (hs : (sizeB P (stT (storeAt n ops j e)) (Value.agg vs.toArray).cells.size && Nat.ble (0 + (Value.agg vs.toArray).cells.size) cs.length && (Value.agg vs.toArray).cells.toList.all oneC) = true := by kernel_rfl)
 (hc : splice cs 0 (Value.agg vs.toArray).cells.toList = vs := by kernel_rfl) : RG P n K ops j e w := RG.storeB _ hb h hs hc H
theorem RG.ix {α : Type} [Rep α] {F : Nat → Prop} {a : Option Addr} {m c : Nat} {xs : List α} (i sz : Nat) (hr : RepS w F a m c xs) (hi : i < m)
 (H : RG P n K ops (j + 1) (putE e (opAt ops j).dst (.pointer (some ⟨blk a, off a + i * sz, none⟩))) w) (h : idxAt P n ops j e = some (a, m, (i : Int), sz) := by kernel_rfl) : RG P n K ops j e w :=
 RG.idx i h rfl hi (hr.addr (Nat.zero_lt_of_lt hi)) H
theorem RG.nw (v : Nat → Value) (t : TypeId) (cs : List Value)
 (H : ∀ b w', b = w.heap.size → Ext w w' → Box w' b t cs → w'.heap.size = b + 1 → RG P n K ops (j + 1) (putE e (opAt ops j).dst (v b)) w')
 (h : ∀ b, newBoxAt P n ops j e b = some (v b, t, cs) := by intro _; kernel_rfl) : RG P n K ops j e w := RG.new h H
theorem RG.np (t : TypeId) (cs : List Value)
 (H : ∀ b w', b = w.heap.size → Ext w w' → Box w' b t cs → w'.heap.size = b + 1 → RG P n K ops (j + 1) (putE e (opAt ops j).dst (.pointer (some ⟨b, 0, none⟩))) w')
 (h : ∀ b, newBoxAt P n ops j e b = some (.pointer (some ⟨b, 0, none⟩), t, cs) := by intro _; kernel_rfl) : RG P n K ops j e w := RG.new h H
theorem RG.ns (m : Nat) (t : TypeId) (cs : List Value)
 (H : ∀ b w', b = w.heap.size → Ext w w' → Box w' b t cs → w'.heap.size = b + 1 → RG P n K ops (j + 1) (putE e (opAt ops j).dst (.slice (some ⟨b, 0, none⟩) m m)) w')
 (h : ∀ b, newBoxAt P n ops j e b = some (.slice (some ⟨b, 0, none⟩) m m, t, cs) := by intro _; kernel_rfl) : RG P n K ops j e w := RG.new h H
theorem RG.bp (p : Prop) [Decidable p] (ht : p → RG P n K ops (j + 1) (putE e (opAt ops j).dst (.bool true)) w)
 (hf : ¬ p → RG P n K ops (j + 1) (putE e (opAt ops j).dst (.bool false)) w) (h : pvAt P n ops j e = some (.bool (decide p)) := by kernel_rfl) : RG P n K ops j e w := RG.boolP p h ht hf
theorem RG.eq (a b : Int) (ht : a = b → RG P n K ops (j + 1) (putE e (opAt ops j).dst (.bool true)) w)
 (hf : a ≠ b → RG P n K ops (j + 1) (putE e (opAt ops j).dst (.bool false)) w) (h : pvAt P n ops j e = some (.bool (a == b)) := by kernel_rfl) : RG P n K ops j e w := RG.eqI h ht hf
theorem RG.ne (a b : Int) (ht : a ≠ b → RG P n K ops (j + 1) (putE e (opAt ops j).dst (.bool true)) w)
 (hf : a = b → RG P n K ops (j + 1) (putE e (opAt ops j).dst (.bool false)) w) (h : pvAt P n ops j e = some (.bool (a != b)) := by kernel_rfl) : RG P n K ops j e w := RG.neI h ht hf
theorem RG.it (z : Int) (H : RG P n K ops (j + 1) (putE e (opAt ops j).dst (.int .i64 z)) w) (h : pvAt P n ops j e = some (.int .i64 (IntKind.i64.wrap z)) := by kernel_rfl)
 (hz : -9223372036854775808 ≤ z ∧ z ≤ 9223372036854775807 := by omega) : RG P n K ops j e w := RG.int z h hz H
theorem RG.cl {f : FuncId} {args : List Value} {Q : Value → World → Prop} (hc : Calls P f args.toArray w (rets Q))
 (H : ∀ v w', Q v w' → RG P n K ops (j + 1) (putE e (opAt ops j).dst v) w') (h : callAt P n ops j e = some (f, args) := by kernel_rfl) : RG P n K ops j e w := RG.call h hc H
end
section
variable {P : Program} {f : FuncId} {fn : Func} {R : Value → World → Prop} {c : Code} {k : List Item} {e : Env} {w : World} {v : Value}
theorem T.s (H : T P f fn R (.code (lft c) :: .code (rgt c) :: k) e w) (h : isSeq c = true := by kernel_rfl) : T P f fn R (.code c :: k) e w := T.seq h H
theorem T.sk (H : T P f fn R k e w) (h : isSkip c = true := by kernel_rfl) : T P f fn R (.code c :: k) e w := T.skip h H
theorem T.b (i : Nat) (H : T P f fn R (.code (bdy c) :: .inBlock i :: k) e w) (h : isBlock c i = true := by kernel_rfl) : T P f fn R (.code c :: k) e w := T.block i h H
theorem T.ib (i : Nat) (H : T P f fn R k e w) : T P f fn R (.inBlock i :: k) e w := T.inBlock i H
theorem T.x (i : Nat) {k' : List Item} (hk : exitTo i k = some k') (H : T P f fn R k' e w) (h : isExit c i = true := by kernel_rfl) : T P f fn R (.code c :: k) e w := T.exit i h hk H
theorem T.ct (H : T P f fn R (.code (thn c) :: k) e w) (h : condVal e c = .bool true := by kernel_rfl) : T P f fn R (.code c :: k) e w := T.condT h H
theorem T.cf (H : T P f fn R (.code (els c) :: k) e w) (h : condVal e c = .bool false := by kernel_rfl) : T P f fn R (.code c :: k) e w := T.condF h H
theorem T.g (H : RG P fn.ntmps (fun e' w' => T P f fn R k e' w') (opsC c) 0 e w) (h : isReg c false = true := by kernel_rfl) : T P f fn R (.code c :: k) e w := T.region h H
theorem T.gd (S : Nat → Prop) (m : Nat)
 (H : ∀ w1, Ext w w1 → GA P S fn.ntmps m (fun e' w' => RG P fn.ntmps (fun e'' w'' => T P f fn R k e'' w'') (opsC c) m e' w') (opsC c) [] e w1)
 (h : (isReg c true && P.follows .mixedOrders && drawB (opsC c) m) = true := by kernel_rfl) : T P f fn R (.code c :: k) e w := T.regionD S m h H
theorem T.rt {t : Tmp} (hf : P.funcs[f]? = some fn) (hres : fn.results = #[.tmp t]) (v : Value) (hR : R v w) (h : isRet c = true := by kernel_rfl) (h1 : e t = v := by kernel_rfl) : T P f fn R (.code c :: k) e w :=
 T.ret1 h hf hres (Res1.tmp h1) hR
theorem Res1.bx {x t u : Nat} {b : Nat} {cs : List Value} (hb : Box w b u cs) (h1 : e x = .pointer (some ⟨b, 0, none⟩) := by kernel_rfl) (h2 : aggB P t cs.length = true := by kernel_rfl) : Res1 P w e (.cell x t) (.agg cs.toArray) :=
 Res1.cell h1 ((hb.has 0 cs (by simp)).loadN h2)
theorem Res1.t {t : Tmp} (v : Value) (h : e t = v := by kernel_rfl) : Res1 P w e (.tmp t) v := h
theorem T.rb {x t u : Nat} {b : Nat} {cs : List Value} (hf : P.funcs[f]? = some fn) (hres : fn.results = #[.cell x t]) (hb : Box w b u cs) (hR : R (.agg cs.toArray) w) (h : isRet c = true := by kernel_rfl)
 (h1 : e x = .pointer (some ⟨b, 0, none⟩) := by kernel_rfl) (h2 : aggB P t cs.length = true := by kernel_rfl) : T P f fn R (.code c :: k) e w :=
 T.ret1 h hf hres (Res1.bx hb h1 h2) hR
theorem T.r2 {r r' : ResultVar} {v v' : Value} (hf : P.funcs[f]? = some fn) (hres : fn.results = #[r, r']) (h1 : Res1 P w e r v) (h2 : Res1 P w e r' v') (hR : R (.tuple #[v, v']) w) (h : isRet c = true := by kernel_rfl) : T P f fn R (.code c :: k) e w :=
 T.ret2 h hf hres h1 h2 hR
theorem T.r3 {r r' r'' : ResultVar} {v v' v'' : Value} (hf : P.funcs[f]? = some fn) (hres : fn.results = #[r, r', r'']) (h1 : Res1 P w e r v) (h2 : Res1 P w e r' v') (h3 : Res1 P w e r'' v'') (hR : R (.tuple #[v, v', v'']) w) (h : isRet c = true := by kernel_rfl) : T P f fn R (.code c :: k) e w :=
 T.ret3 h hf hres h1 h2 h3 hR
theorem goT {args : List Value} (hf : P.funcs[f]? = some fn) (H : T P f fn R [.code (bodyOf fn)] (env0 args) w) (hb : fn.body = some (bodyOf fn) := by kernel_rfl) (hn : Nat.ble args.length fn.ntmps = true := by kernel_rfl) : Calls P f args.toArray w (rets R) :=
 calls_T hf hb hn H
end
section
variable {P : Program} {S : Nat → Prop} {n m : Nat} {L : Env → World → Prop} {ops : Array Oper} {l : List Nat} {e : Env} {w : World} {t : TypeId} {b o : Nat} {cs : List Value}
theorem GA.r (is : List Nat) (H : GA P S n m L ops (is.reverse ++ l) (gRunE P ops is e) w) (h : gRunOk P n m ops is l e = true := by kernel_rfl) : GA P S n m L ops l e w := GA.run is h H
theorem GA.d (H : ∀ w1, Ext w w1 → L e w1) (h : (Nat.beq l.length m && decide (lst ops.size l = fin ops m)) = true := by kernel_rfl) : GA P S n m L ops l e w := GA.done h H
theorem GA.lb (i : Nat) (hb : Box w b t cs) (hS : ¬ S b) (H : GA P S n m L ops (i :: l) (lbG cs n m ops l i e) w)
 (h : gLoad n m ops l i e = some (ldT (gLoad n m ops l i e), ⟨b, ldO (gLoad n m ops l i e), none⟩) := by kernel_rfl)
 (hs : scalarB P (ldT (gLoad n m ops l i e)) = true := by kernel_rfl) (hv : cs[ldO (gLoad n m ops l i e)]? = some (ldV cs (gLoad n m ops l i e)) := by kernel_rfl) : GA P S n m L ops l e w :=
 GA.loadB hb hS h hs hv H
theorem GA.ln (i : Nat) (hb : Box w b t cs) (hS : ¬ S b) (H : GA P S n m L ops (i :: l) (lnG P cs n m ops l i e) w)
 (h : gLoad n m ops l i e = some (ldT (gLoad n m ops l i e), ⟨b, ldO (gLoad n m ops l i e), none⟩) := by kernel_rfl)
 (hs : aggB P (ldT (gLoad n m ops l i e)) (ldL P cs (gLoad n m ops l i e)).length = true := by kernel_rfl)
 (hv : (cs.drop (ldO (gLoad n m ops l i e))).take (ldL P cs (gLoad n m ops l i e)).length = ldL P cs (gLoad n m ops l i e) := by kernel_rfl) : GA P S n m L ops l e w :=
 GA.loadBN _ hb hS h hs hv H
theorem GA.lh (i k : Nat) (hc : Has w ⟨b, o, none⟩ cs) (hS : ¬ S b) (H : GA P S n m L ops (i :: l) (putE e (opAt ops i).dst ((cs[k]?).getD undef)) w)
 (h : gLoad n m ops l i e = some (ldT (gLoad n m ops l i e), ⟨b, o + k, none⟩) := by kernel_rfl)
 (hs : scalarB P (ldT (gLoad n m ops l i e)) = true := by kernel_rfl) (hv : cs[k]? = some ((cs[k]?).getD undef) := by kernel_rfl) : GA P S n m L ops l e w :=
 GA.loadH k hc hS h hs hv H
theorem GA.lg (i k : Nat) (hc : Has w ⟨b, o, none⟩ cs) (hS : ¬ S b) (H : GA P S n m L ops (i :: l) (lgG P cs k n m ops l i e) w)
 (h : gLoad n m ops l i e = some (ldT (gLoad n m ops l i e), ⟨b, o + k, none⟩) := by kernel_rfl)
 (hs : aggB P (ldT (gLoad n m ops l i e)) (ldH P cs k (gLoad n m ops l i e)).length = true := by kernel_rfl)
 (hv : (cs.drop k).take (ldH P cs k (gLoad n m ops l i e)).length = ldH P cs k (gLoad n m ops l i e) := by kernel_rfl) : GA P S n m L ops l e w :=
 GA.loadHN k _ hc hS h hs hv H
theorem GA.ix {α : Type} [Rep α] {F : Nat → Prop} {a : Option Addr} {N c : Nat} {xs : List α} (k i sz : Nat) (hr : RepS w F a N c xs) (hi : i < N)
 (H : GA P S n m L ops (k :: l) (putE e (opAt ops k).dst (.pointer (some ⟨blk a, off a + i * sz, none⟩))) w) (h : gIdx P n m ops l k e = some (a, N, (i : Int), sz) := by kernel_rfl) : GA P S n m L ops l e w :=
 GA.idx i h rfl hi (hr.addr (Nat.zero_lt_of_lt hi)) H
theorem GA.go (i : Nat) (H : GE P S n m L ops l i e w) (h : oneB n m ops l i e = true := by kernel_rfl) : GA P S n m L ops l e w := GE.one h H
theorem GA.tw (i j : Nat) (Hi : GE P S n m L ops l i e w) (Hj : GE P S n m L ops l j e w) (h : twoB n m ops l i j e = true := by kernel_rfl) : GA P S n m L ops l e w := GE.two h Hi Hj
theorem GE.nw {i : Nat} (v : Nat → Value) (t : TypeId) (cs : List Value)
 (H : ∀ w1, Ext w w1 → ∀ b w2, b = w1.heap.size → Ext w1 w2 → Box w2 b t cs → w2.heap.size = b + 1 → GA P S n m L ops (i :: l) (putE e (opAt ops i).dst (v b)) w2)
 (hn : ∀ b, newBoxAt P n ops i e b = some (v b, t, cs) := by intro _; kernel_rfl) : GE P S n m L ops l i e w := GE.new hn H
theorem GE.ns {i : Nat} (k : Nat) (t : TypeId) (cs : List Value)
 (H : ∀ w1, Ext w w1 → ∀ b w2, b = w1.heap.size → Ext w1 w2 → Box w2 b t cs → w2.heap.size = b + 1 → GA P S n m L ops (i :: l) (putE e (opAt ops i).dst (.slice (some ⟨b, 0, none⟩) k k)) w2)
 (hn : ∀ b, newBoxAt P n ops i e b = some (.slice (some ⟨b, 0, none⟩) k k, t, cs) := by intro _; kernel_rfl) : GE P S n m L ops l i e w := GE.new hn H
theorem GE.cl {i : Nat} {f : FuncId} {args : List Value} {Q : World → Value → World → Prop} (hc : ∀ w1, Ext w w1 → Calls P f args.toArray w1 (rets (Q w1)))
 (H : ∀ w1, Ext w w1 → ∀ v w2, Q w1 v w2 → Chg S w1 w2 ∧ GA P S n m L ops (i :: l) (putE e (opAt ops i).dst v) w2) (hf : callAt P n ops i e = some (f, args) := by kernel_rfl) : GE P S n m L ops l i e w := GE.call hf hc H
end
class MemL (b : Nat) (M : List Nat) : Prop where m : b ∈ M
instance {b : Nat} {M : List Nat} : MemL b (b :: M) := ⟨.head _⟩
instance {a b : Nat} {M : List Nat} [h : MemL b M] : MemL b (a :: M) := ⟨.tail _ h.m⟩
class Rpl (M : List Nat) (r r2 : Nat) (M' : outParam (List Nat)) : Prop where
 p : ∀ k, k ∉ M → k ≠ r2 → k ∉ M'
 q : r ∈ M
instance {r r2 : Nat} {M : List Nat} : Rpl (r :: M) r r2 (r2 :: M) := ⟨fun k h h2 hk => by
 rcases List.mem_cons.1 hk with rfl | hk
 ·exact h2 rfl
 ·exact h (.tail _ hk), .head _⟩
instance {a r r2 : Nat} {M M' : List Nat} [i : Rpl M r r2 M'] : Rpl (a :: M) r r2 (a :: M') := ⟨fun k h h2 hk => by
 rcases List.mem_cons.1 hk with rfl | hk
 ·exact h (.head _)
 ·exact i.p k (fun hm => h (.tail _ hm)) h2 hk, .tail _ i.q⟩
class Drp (M : List Nat) (r : Nat) (M' : outParam (List Nat)) : Prop where
 p : ∀ k ∈ M', k ∈ M
 q : ∀ k ∈ M, k ∈ M' ∨ k = r
instance {r : Nat} {M : List Nat} : Drp (r :: M) r M := ⟨fun _ h => .tail _ h, fun k h => by
 rcases List.mem_cons.1 h with rfl | h
 ·exact .inr rfl
 ·exact .inl h⟩
instance {a r : Nat} {M M' : List Nat} [i : Drp M r M'] : Drp (a :: M) r (a :: M') := ⟨fun k h => by
 rcases List.mem_cons.1 h with rfl | h
 ·exact .head _
 ·exact .tail _ (i.p k h), fun k h => by
 rcases List.mem_cons.1 h with rfl | h
 ·exact .inl (.head _)
 ·exact (i.q k h).imp (.tail _) id⟩
class NbA (b : Nat) (K : List Nat) : Prop where a : ∀ k ∈ K, b ≠ k
instance {b : Nat} : NbA b [] := ⟨fun _ h => by cases h⟩
instance {b k : Nat} {K : List Nat} [h : Nb b k] [i : NbA b K] : NbA b (k :: K) := ⟨fun x hx => by
 rcases List.mem_cons.1 hx with rfl | hx
 ·exact h.ne
 ·exact i.a x hx⟩
instance {b k : Nat} {K : List Nat} [h : Nb k b] [i : NbA b K] : NbA b (k :: K) := ⟨fun x hx => by
 rcases List.mem_cons.1 hx with rfl | hx
 ·exact h.ne.symm
 ·exact i.a x hx⟩
class CovA (L : Nat → Prop) (w : World) (K : List Nat) : Prop where a : ∀ k ∈ K, Cov L w k
instance {L : Nat → Prop} {w : World} : CovA L w [] := ⟨fun _ h => by cases h⟩
instance {L : Nat → Prop} {w : World} {k : Nat} {K : List Nat} [h : Cov L w k] [i : CovA L w K] : CovA L w (k :: K) := ⟨fun x hx => by
 rcases List.mem_cons.1 hx with rfl | hx
 ·exact h
 ·exact i.a x hx⟩
structure Sp (M M' : List Nat) (S : Nat → Prop) (w w' : World) : Prop where
 mv : Mv M M' w w'
 ch : Chg S w w'
class MT (M M' : List Nat) (S : Nat → Prop) (w w' : World) (A : Prop) (B : outParam Prop) : Prop where go : Mv M M' w w' → Chg S w w' → A → B
section
variable {α : Type} [Rep α] {w w' base : World} {G S L : Nat → Prop} {M M' K : List Nat} {a : Option Addr} {n c r b k : Nat} {t : TypeId} {xs : List α} {cs : List Value}
instance : MT M M' S w w' (RepS w (nin G M) a n c xs) (RepS w' (nin G M') a n c xs) := ⟨fun hm _ h => h.mv hm⟩
instance : MT M M' nil w w' (Box w b t cs) (Box w' b t cs) := ⟨fun _ hx h => h.mv hx (fun h => h)⟩
instance [h : Nb b k] : MT M M' (one k) w w' (Box w b t cs) (Box w' b t cs) := ⟨fun _ hx g => g.mv hx h.ne⟩
instance [h : Nb k b] : MT M M' (one k) w w' (Box w b t cs) (Box w' b t cs) := ⟨fun _ hx g => g.mv hx h.ne.symm⟩
instance [h : NbA b K] : MT M M' (ins K) w w' (Box w b t cs) (Box w' b t cs) := ⟨fun _ hx g => g.mv hx (fun hb => h.a b hb rfl)⟩
instance : MT M M' nil w w' (Own w r t (nin G M) n c xs) (Own w' r t (nin G M') n c xs) := ⟨fun hm hx h => h.mv hm hx (fun h => h)⟩
instance [h : Nb r k] : MT M M' (one k) w w' (Own w r t (nin G M) n c xs) (Own w' r t (nin G M') n c xs) := ⟨fun hm hx g => g.mv hm hx h.ne⟩
instance [h : Nb k r] : MT M M' (one k) w w' (Own w r t (nin G M) n c xs) (Own w' r t (nin G M') n c xs) := ⟨fun hm hx g => g.mv hm hx h.ne.symm⟩
instance [h : NbA r K] : MT M M' (ins K) w w' (Own w r t (nin G M) n c xs) (Own w' r t (nin G M') n c xs) := ⟨fun hm hx g => g.mv hm hx (fun hb => h.a r hb rfl)⟩
instance : MT M M' nil w w' (Chg L base w) (Chg L base w') := ⟨fun _ hx h => h.stepN hx⟩
instance [hc : Cov L base k] : MT M M' (one k) w w' (Chg L base w) (Chg L base w') := ⟨fun _ hx h => h.stepO hx hc⟩
instance [hc : CovA L base K] : MT M M' (ins K) w w' (Chg L base w) (Chg L base w') := ⟨fun _ hx h => h.stepI hx hc.a⟩
theorem sp (hm : Mv M M' w w') (hx : Chg S w w') : Sp M M' S w w' := ⟨hm, hx⟩
theorem sn (M : List Nat) (hx : Ext w w') (hb : b = w.heap.size) : Sp M (b :: M) nil w w' := ⟨Mv.cons (Mv.ext hx) (Nat.le_of_eq hb.symm), hx⟩
theorem sz (M : List Nat) (hx : Ext w w') (hb : w.heap.size ≤ b) : Sp M (b :: M) nil w w' := ⟨Mv.cons (Mv.ext hx) hb, hx⟩
theorem se (M : List Nat) (hx : Ext w w') : Sp M M nil w w' := ⟨Mv.ext hx, hx⟩
theorem so (M : List Nat) (hx : Chg (one b) w w') [h : MemL b M] : Sp M M (one b) w w' := ⟨Mv.on hx h.m, hx⟩
theorem s1 (hx : Chg (one b) w w') : Sp [b] [b] (one b) w w' := ⟨Mv.on hx (.head _), hx⟩
theorem si (hx : Chg (ins K) w w') : Sp K K (ins K) w w' := ⟨Mv.mk hx (fun _ _ h => ⟨h, h⟩), hx⟩
theorem sa (M : List Nat) {r2 : Nat} (hx : Chg (one r) w w') (ho : r2 = r ∨ r2 = w.heap.size) [h : Rpl M r r2 M'] : Sp M M' (one r) w w' :=
 ⟨Mv.mk hx (fun k hk hm => ⟨h.p k hm (fun e => by
  subst e
  rcases ho with rfl | e
  ·exact hm h.q
  ·omega), fun e => hm (by cases e; exact h.q)⟩), hx⟩
theorem sd (w : World) (M : List Nat) (r : Nat) [h : Drp M r M'] : Sp M M' nil w w := ⟨Mv.less h.p, Chg.refl _ _⟩
theorem Own.rn {r2 : Nat} (h : Own w r2 t (nin G M) n c xs) (r : Nat) [i : Rpl M r r2 M'] : Own w r2 t (nin G M') n c xs :=
 h.renin (fun k _ hm hr => i.p k hm hr)
theorem Own.sl (h : Own w r t (nin G M) n c xs) (hg : G r) [i : Drp M r M'] [j : NbA r M'] : RepS w (nin G M') (some ⟨r, 0, none⟩) n c xs :=
 h.rep' (fun _ _ hF => ⟨hF.1, fun hm => hF.2 (i.p _ hm)⟩) ⟨hg, fun hm => j.a r hm rfl⟩
theorem RepS.fr {s s0 : Nat} (h : RepS w (ge s) a n c xs) (hM : ∀ b ∈ M, b < s) (hs : Gb s0 s) : RepS w (nin (ge s0) M) a n c xs :=
 h.fresh hM (fun _ h => Nat.le_trans hs h)
theorem RepS.w1 (h : RepS w (nin G M) a n c xs) : RepS w G a n c xs := h.weak (fun _ _ h => h.1)
theorem RepS.oi [i : MemL r M] (h : RepS w (nin G M) a n c xs) : RepS w (fun b => nin G M b ∧ b ≠ r) a n c xs := h.weak (fun _ _ h => own_in i.m h)
theorem RepS.ta (h : RepS w G a n c xs) : RepS w all a n c xs := h.weak (fun _ _ _ => trivial)
theorem RepS.tp (h : RepS w G a n c xs) : n = xs.length ∧ n ≤ 9223372036854775807 ∧ RepS w (nin (fo G w.heap.size) []) a n c xs := ⟨h.len, h.max, h.top⟩
theorem Chg.cn (h : Chg L base w) (hb : b = w.heap.size) : Cov L base b := cov_new hb h.size
end
section
variable {M M1 : List Nat} {S : Nat → Prop} {w w1 : World}
theorem Sp.g1 {A0 B0 : Prop} (s : Sp M M1 S w w1) (a0 : A0) [i0 : MT M M1 S w w1 A0 B0] : B0 := i0.go s.mv s.ch a0
theorem Sp.g2 {A0 A1 B0 B1 : Prop} (s : Sp M M1 S w w1) (a0 : A0) (a1 : A1) [i0 : MT M M1 S w w1 A0 B0] [i1 : MT M M1 S w w1 A1 B1] : B0 ∧ B1 := ⟨i0.go s.mv s.ch a0, i1.go s.mv s.ch a1⟩
theorem Sp.g3 {A0 A1 A2 B0 B1 B2 : Prop} (s : Sp M M1 S w w1) (a0 : A0) (a1 : A1) (a2 : A2) [i0 : MT M M1 S w w1 A0 B0] [i1 : MT M M1 S w w1 A1 B1] [i2 : MT M M1 S w w1 A2 B2] : B0 ∧ B1 ∧ B2 := ⟨i0.go s.mv s.ch a0, i1.go s.mv s.ch a1, i2.go s.mv s.ch a2⟩
theorem Sp.g4 {A0 A1 A2 A3 B0 B1 B2 B3 : Prop} (s : Sp M M1 S w w1) (a0 : A0) (a1 : A1) (a2 : A2) (a3 : A3) [i0 : MT M M1 S w w1 A0 B0] [i1 : MT M M1 S w w1 A1 B1] [i2 : MT M M1 S w w1 A2 B2] [i3 : MT M M1 S w w1 A3 B3] : B0 ∧ B1 ∧ B2 ∧ B3 := ⟨i0.go s.mv s.ch a0, i1.go s.mv s.ch a1, i2.go s.mv s.ch a2, i3.go s.mv s.ch a3⟩
theorem Sp.g5 {A0 A1 A2 A3 A4 B0 B1 B2 B3 B4 : Prop} (s : Sp M M1 S w w1) (a0 : A0) (a1 : A1) (a2 : A2) (a3 : A3) (a4 : A4) [i0 : MT M M1 S w w1 A0 B0] [i1 : MT M M1 S w w1 A1 B1] [i2 : MT M M1 S w w1 A2 B2] [i3 : MT M M1 S w w1 A3 B3] [i4 : MT M M1 S w w1 A4 B4] : B0 ∧ B1 ∧ B2 ∧ B3 ∧ B4 := ⟨i0.go s.mv s.ch a0, i1.go s.mv s.ch a1, i2.go s.mv s.ch a2, i3.go s.mv s.ch a3, i4.go s.mv s.ch a4⟩
theorem Sp.g6 {A0 A1 A2 A3 A4 A5 B0 B1 B2 B3 B4 B5 : Prop} (s : Sp M M1 S w w1) (a0 : A0) (a1 : A1) (a2 : A2) (a3 : A3) (a4 : A4) (a5 : A5) [i0 : MT M M1 S w w1 A0 B0] [i1 : MT M M1 S w w1 A1 B1] [i2 : MT M M1 S w w1 A2 B2] [i3 : MT M M1 S w w1 A3 B3] [i4 : MT M M1 S w w1 A4 B4] [i5 : MT M M1 S w w1 A5 B5] : B0 ∧ B1 ∧ B2 ∧ B3 ∧ B4 ∧ B5 := ⟨i0.go s.mv s.ch a0, i1.go s.mv s.ch a1, i2.go s.mv s.ch a2, i3.go s.mv s.ch a3, i4.go s.mv s.ch a4, i5.go s.mv s.ch a5⟩
theorem Sp.g7 {A0 A1 A2 A3 A4 A5 A6 B0 B1 B2 B3 B4 B5 B6 : Prop} (s : Sp M M1 S w w1) (a0 : A0) (a1 : A1) (a2 : A2) (a3 : A3) (a4 : A4) (a5 : A5) (a6 : A6) [i0 : MT M M1 S w w1 A0 B0] [i1 : MT M M1 S w w1 A1 B1] [i2 : MT M M1 S w w1 A2 B2] [i3 : MT M M1 S w w1 A3 B3] [i4 : MT M M1 S w w1 A4 B4] [i5 : MT M M1 S w w1 A5 B5] [i6 : MT M M1 S w w1 A6 B6] : B0 ∧ B1 ∧ B2 ∧ B3 ∧ B4 ∧ B5 ∧ B6 := ⟨i0.go s.mv s.ch a0, i1.go s.mv s.ch a1, i2.go s.mv s.ch a2, i3.go s.mv s.ch a3, i4.go s.mv s.ch a4, i5.go s.mv s.ch a5, i6.go s.mv s.ch a6⟩
theorem Sp.g8 {A0 A1 A2 A3 A4 A5 A6 A7 B0 B1 B2 B3 B4 B5 B6 B7 : Prop} (s : Sp M M1 S w w1) (a0 : A0) (a1 : A1) (a2 : A2) (a3 : A3) (a4 : A4) (a5 : A5) (a6 : A6) (a7 : A7) [i0 : MT M M1 S w w1 A0 B0] [i1 : MT M M1 S w w1 A1 B1] [i2 : MT M M1 S w w1 A2 B2] [i3 : MT M M1 S w w1 A3 B3] [i4 : MT M M1 S w w1 A4 B4] [i5 : MT M M1 S w w1 A5 B5] [i6 : MT M M1 S w w1 A6 B6] [i7 : MT M M1 S w w1 A7 B7] : B0 ∧ B1 ∧ B2 ∧ B3 ∧ B4 ∧ B5 ∧ B6 ∧ B7 := ⟨i0.go s.mv s.ch a0, i1.go s.mv s.ch a1, i2.go s.mv s.ch a2, i3.go s.mv s.ch a3, i4.go s.mv s.ch a4, i5.go s.mv s.ch a5, i6.go s.mv s.ch a6, i7.go s.mv s.ch a7⟩
theorem Sp.g9 {A0 A1 A2 A3 A4 A5 A6 A7 A8 B0 B1 B2 B3 B4 B5 B6 B7 B8 : Prop} (s : Sp M M1 S w w1) (a0 : A0) (a1 : A1) (a2 : A2) (a3 : A3) (a4 : A4) (a5 : A5) (a6 : A6) (a7 : A7) (a8 : A8) [i0 : MT M M1 S w w1 A0 B0] [i1 : MT M M1 S w w1 A1 B1] [i2 : MT M M1 S w w1 A2 B2] [i3 : MT M M1 S w w1 A3 B3] [i4 : MT M M1 S w w1 A4 B4] [i5 : MT M M1 S w w1 A5 B5] [i6 : MT M M1 S w w1 A6 B6] [i7 : MT M M1 S w w1 A7 B7] [i8 : MT M M1 S w w1 A8 B8] : B0 ∧ B1 ∧ B2 ∧ B3 ∧ B4 ∧ B5 ∧ B6 ∧ B7 ∧ B8 := ⟨i0.go s.mv s.ch a0, i1.go s.mv s.ch a1, i2.go s.mv s.ch a2, i3.go s.mv s.ch a3, i4.go s.mv s.ch a4, i5.go s.mv s.ch a5, i6.go s.mv s.ch a6, i7.go s.mv s.ch a7, i8.go s.mv s.ch a8⟩
theorem Sp.g10 {A0 A1 A2 A3 A4 A5 A6 A7 A8 A9 B0 B1 B2 B3 B4 B5 B6 B7 B8 B9 : Prop} (s : Sp M M1 S w w1) (a0 : A0) (a1 : A1) (a2 : A2) (a3 : A3) (a4 : A4) (a5 : A5) (a6 : A6) (a7 : A7) (a8 : A8) (a9 : A9) [i0 : MT M M1 S w w1 A0 B0] [i1 : MT M M1 S w w1 A1 B1] [i2 : MT M M1 S w w1 A2 B2] [i3 : MT M M1 S w w1 A3 B3] [i4 : MT M M1 S w w1 A4 B4] [i5 : MT M M1 S w w1 A5 B5] [i6 : MT M M1 S w w1 A6 B6] [i7 : MT M M1 S w w1 A7 B7] [i8 : MT M M1 S w w1 A8 B8] [i9 : MT M M1 S w w1 A9 B9] : B0 ∧ B1 ∧ B2 ∧ B3 ∧ B4 ∧ B5 ∧ B6 ∧ B7 ∧ B8 ∧ B9 := ⟨i0.go s.mv s.ch a0, i1.go s.mv s.ch a1, i2.go s.mv s.ch a2, i3.go s.mv s.ch a3, i4.go s.mv s.ch a4, i5.go s.mv s.ch a5, i6.go s.mv s.ch a6, i7.go s.mv s.ch a7, i8.go s.mv s.ch a8, i9.go s.mv s.ch a9⟩
theorem Sp.g11 {A0 A1 A2 A3 A4 A5 A6 A7 A8 A9 A10 B0 B1 B2 B3 B4 B5 B6 B7 B8 B9 B10 : Prop} (s : Sp M M1 S w w1) (a0 : A0) (a1 : A1) (a2 : A2) (a3 : A3) (a4 : A4) (a5 : A5) (a6 : A6) (a7 : A7) (a8 : A8) (a9 : A9) (a10 : A10) [i0 : MT M M1 S w w1 A0 B0] [i1 : MT M M1 S w w1 A1 B1] [i2 : MT M M1 S w w1 A2 B2] [i3 : MT M M1 S w w1 A3 B3] [i4 : MT M M1 S w w1 A4 B4] [i5 : MT M M1 S w w1 A5 B5] [i6 : MT M M1 S w w1 A6 B6] [i7 : MT M M1 S w w1 A7 B7] [i8 : MT M M1 S w w1 A8 B8] [i9 : MT M M1 S w w1 A9 B9] [i10 : MT M M1 S w w1 A10 B10] : B0 ∧ B1 ∧ B2 ∧ B3 ∧ B4 ∧ B5 ∧ B6 ∧ B7 ∧ B8 ∧ B9 ∧ B10 := ⟨i0.go s.mv s.ch a0, i1.go s.mv s.ch a1, i2.go s.mv s.ch a2, i3.go s.mv s.ch a3, i4.go s.mv s.ch a4, i5.go s.mv s.ch a5, i6.go s.mv s.ch a6, i7.go s.mv s.ch a7, i8.go s.mv s.ch a8, i9.go s.mv s.ch a9, i10.go s.mv s.ch a10⟩
theorem Sp.g12 {A0 A1 A2 A3 A4 A5 A6 A7 A8 A9 A10 A11 B0 B1 B2 B3 B4 B5 B6 B7 B8 B9 B10 B11 : Prop} (s : Sp M M1 S w w1) (a0 : A0) (a1 : A1) (a2 : A2) (a3 : A3) (a4 : A4) (a5 : A5) (a6 : A6) (a7 : A7) (a8 : A8) (a9 : A9) (a10 : A10) (a11 : A11) [i0 : MT M M1 S w w1 A0 B0] [i1 : MT M M1 S w w1 A1 B1] [i2 : MT M M1 S w w1 A2 B2] [i3 : MT M M1 S w w1 A3 B3] [i4 : MT M M1 S w w1 A4 B4] [i5 : MT M M1 S w w1 A5 B5] [i6 : MT M M1 S w w1 A6 B6] [i7 : MT M M1 S w w1 A7 B7] [i8 : MT M M1 S w w1 A8 B8] [i9 : MT M M1 S w w1 A9 B9] [i10 : MT M M1 S w w1 A10 B10] [i11 : MT M M1 S w w1 A11 B11] : B0 ∧ B1 ∧ B2 ∧ B3 ∧ B4 ∧ B5 ∧ B6 ∧ B7 ∧ B8 ∧ B9 ∧ B10 ∧ B11 := ⟨i0.go s.mv s.ch a0, i1.go s.mv s.ch a1, i2.go s.mv s.ch a2, i3.go s.mv s.ch a3, i4.go s.mv s.ch a4, i5.go s.mv s.ch a5, i6.go s.mv s.ch a6, i7.go s.mv s.ch a7, i8.go s.mv s.ch a8, i9.go s.mv s.ch a9, i10.go s.mv s.ch a10, i11.go s.mv s.ch a11⟩
end
theorem al1 {a0 s : Nat} (h0 : a0 < s) : ∀ b ∈ [a0], b < s := all_cons h0 (all_nil)
theorem al2 {a0 a1 s : Nat} (h0 : a0 < s) (h1 : a1 < s) : ∀ b ∈ [a0, a1], b < s := all_cons h0 (all_cons h1 (all_nil))
theorem al3 {a0 a1 a2 s : Nat} (h0 : a0 < s) (h1 : a1 < s) (h2 : a2 < s) : ∀ b ∈ [a0, a1, a2], b < s := all_cons h0 (all_cons h1 (all_cons h2 (all_nil)))
theorem al4 {a0 a1 a2 a3 s : Nat} (h0 : a0 < s) (h1 : a1 < s) (h2 : a2 < s) (h3 : a3 < s) : ∀ b ∈ [a0, a1, a2, a3], b < s := all_cons h0 (all_cons h1 (all_cons h2 (all_cons h3 (all_nil))))
theorem al5 {a0 a1 a2 a3 a4 s : Nat} (h0 : a0 < s) (h1 : a1 < s) (h2 : a2 < s) (h3 : a3 < s) (h4 : a4 < s) : ∀ b ∈ [a0, a1, a2, a3, a4], b < s := all_cons h0 (all_cons h1 (all_cons h2 (all_cons h3 (all_cons h4 (all_nil)))))
theorem al6 {a0 a1 a2 a3 a4 a5 s : Nat} (h0 : a0 < s) (h1 : a1 < s) (h2 : a2 < s) (h3 : a3 < s) (h4 : a4 < s) (h5 : a5 < s) : ∀ b ∈ [a0, a1, a2, a3, a4, a5], b < s := all_cons h0 (all_cons h1 (all_cons h2 (all_cons h3 (all_cons h4 (all_cons h5 (all_nil))))))
theorem al7 {a0 a1 a2 a3 a4 a5 a6 s : Nat} (h0 : a0 < s) (h1 : a1 < s) (h2 : a2 < s) (h3 : a3 < s) (h4 : a4 < s) (h5 : a5 < s) (h6 : a6 < s) : ∀ b ∈ [a0, a1, a2, a3, a4, a5, a6], b < s := all_cons h0 (all_cons h1 (all_cons h2 (all_cons h3 (all_cons h4 (all_cons h5 (all_cons h6 (all_nil)))))))
end Go.Proofs.YtfnpaglcnmcnbaaGreat
namespace Go.Proofs.YtfnpaglcnmcnbaaGreat
theorem tup2 {a a' b b' : Value} (h : a = a') (h' : b = b') : Value.tuple #[a, b] = Value.tuple #[a', b'] := by rw [h, h']
theorem tup3 {a a' b b' c c' : Value} (h : a = a') (h' : b = b') (h2 : c = c') : Value.tuple #[a, b, c] = Value.tuple #[a', b', c'] := by rw [h, h', h2]
def inR (n lo hi : Int) : Bool := decide (lo ≤ n) && decide (n ≤ hi)
theorem inR_t {n lo hi : Int} (h : inR n lo hi = true) : lo ≤ n ∧ n ≤ hi := by simpa [inR] using h
theorem inR_f {n lo hi : Int} (h : inR n lo hi = false) : ¬ (lo ≤ n ∧ n ≤ hi) := by intro h1; simp [inR] at h; omega
def rowOk (r : Row) : Bool := inR r.t 0 99 && inR r.v (-99) 99
def blockF : Option Row → List Row → Bool
 | _, [] => true
 | o, r :: rs => rowOk r && (match o with | some q => decide (q.t < r.t) | none => true) && blockF (some r) rs
def blockOk (b : List Row) : Bool := blockF none b && decide (b.length ≤ 24)
def put1 (out : List Row) (r : Row) (done : Bool) : List Row → List Row
 | [] => if done then out else out ++ [r]
 | x :: xs =>
   if !done && decide (x.t ≥ r.t) then
    (if x.t != r.t then put1 (out ++ [r] ++ [x]) r true xs else put1 (out ++ [r]) r true xs)
   else (if x.t != r.t then put1 (out ++ [x]) r done xs else put1 out r done xs)
def sPut (b : List Row) (r : Row) : List Row := put1 [] r false b
def sMerge (a b : List Row) : List Row := b.foldl sPut a
def has (n : List Tag) (t : Tag) : Bool := n.any (fun x => x == t)
def idsF (t : Tag) : Nat → List (List Tag) → List Int
 | _, [] => []
 | i, n :: ns => (if has n t then [(i : Int) + 1] else []) ++ idsF t (i + 1) ns
def ids (names : List (List Tag)) (t : Tag) : List Int := idsF t 0 names
def makeF : Nat → List (List Row) → List Int × List (List Row)
 | _, [] => ([], [])
 | i, b :: bs => if b.length > 0 then (((i : Int) + 1) :: (makeF (i + 1) bs).1, b :: (makeF (i + 1) bs).2) else makeF (i + 1) bs
def pMake (blocks : List (List Row)) : Prt := ⟨(makeF 0 blocks).1, (makeF 0 blocks).2⟩
def one1 (lo hi : Int) (s : Str) : Bool := match s with | [x] => inR x.toNat lo hi | _ => false
def tagOk (t : Tag) : Bool := one1 97 100 t.key && one1 112 122 t.val
def nameF : Option Tag → List Tag → Bool
 | _, [] => true
 | o, t :: ts => tagOk t && (match o with | some q => strLt q.key t.key | none => true) && nameF (some t) ts
def nameOk (n : List Tag) : Bool := nameF none n && inR n.length 1 3
theorem len1 {s : Str} (h : (s.length : Int) = 1) : ∃ x, s = [x] := by
 match s, h with
 | [x], _ => exact ⟨x, rfl⟩
 | [], h => simp at h
 | x :: y :: r, h => simp only [List.length_cons] at h; omega
theorem one1_no {lo hi : Int} {s : Str} (h : (s.length : Int) ≠ 1) : one1 lo hi s = false := by
 match s, h with
 | [x], h => simp at h
 | [], _ => rfl
 | x :: y :: r, _ => rfl
theorem tagOk_k {t : Tag} (h : (t.key.length : Int) ≠ 1) : tagOk t = false := by simp [tagOk, one1_no h]
theorem tagOk_v {t : Tag} (h : (t.val.length : Int) ≠ 1) : tagOk t = false := by simp [tagOk, one1_no h]
theorem tagOk_kv {t : Tag} {x y : UInt8} (hk : t.key = [x]) (hv : t.val = [y]) : tagOk t = (inR x.toNat 97 100 && inR y.toNat 112 122) := by simp [tagOk, one1, hk, hv]
theorem strLt1 (x y : UInt8) : strLt [x] [y] = decide (x.toNat < y.toNat) := by
 unfold strLt Op.bytesLess Op.bytesLess
 by_cases h : x < y
 ·simp [h, UInt8.lt_iff_toNat_lt.1 h]
 ·have h2 : ¬ x.toNat < y.toNat := fun h2 => h (UInt8.lt_iff_toNat_lt.2 h2)
  simp [h, h2]
theorem strLe1 (x y : UInt8) : strLe [x] [y] = decide (x.toNat ≤ y.toNat) := by
 have h := strLt1 x y
 unfold strLt at h
 unfold strLe
 rw [h, Bool.eq_iff_iff]
 simp only [Bool.or_eq_true, decide_eq_true_eq, beq_iff_eq, List.cons.injEq, and_true]
 constructor
 ·rintro (h | rfl) <;> omega
 ·intro h1
  by_cases h2 : x.toNat < y.toNat
  ·exact .inl h2
  ·exact .inr (UInt8.toNat_inj.1 (by omega))
theorem tagOk_cmp {t : Tag} (hk : (t.key.length : Int) = 1) (hv : (t.val.length : Int) = 1) : tagOk t = (!(strLt t.key [97]) && strLe t.key [100] && !(strLt t.val [112]) && strLe t.val [122]) := by
 obtain ⟨x, hx⟩ := len1 hk
 obtain ⟨y, hy⟩ := len1 hv
 rw [tagOk_kv hx hy, hx, hy, strLt1, strLe1, strLt1, strLe1]
 unfold inR
 rw [Bool.eq_iff_iff]
 simp
 omega
theorem tagOk_lt {t : Tag} (hk : (t.key.length : Int) = 1) (h : strLt t.key [97] = true) : tagOk t = false := by
 by_cases hv : (t.val.length : Int) = 1
 ·rw [tagOk_cmp hk hv, h]; simp
 ·exact tagOk_v hv
theorem tagOk_le {t : Tag} (hk : (t.key.length : Int) = 1) (h : strLe t.key [100] = false) : tagOk t = false := by
 by_cases hv : (t.val.length : Int) = 1
 ·rw [tagOk_cmp hk hv, h]; simp
 ·exact tagOk_v hv
theorem at1 {s : Str} {y : UInt8} (h : (s.length : Int) = 1) (hy : s[0]? = some y) : s = [y] := by
 obtain ⟨x, rfl⟩ := len1 h
 simpa using hy
theorem one1_at {lo hi : Int} {s : Str} {y : UInt8} (h : (s.length : Int) = 1) (hy : s[0]? = some y) : one1 lo hi s = inR y.toNat lo hi := by
 rw [at1 h hy]; rfl
theorem tagOk_def (t : Tag) : tagOk t = (one1 97 100 t.key && one1 112 122 t.val) := rfl
theorem put1_len (r : Row) : ∀ (xs out : List Row) (d : Bool), (put1 out r d xs).length ≤ out.length + xs.length + 1 ∧ (d = true → (put1 out r d xs).length ≤ out.length + xs.length) := by
 intro xs
 induction xs with
 | nil => intro out d; cases d <;> simp [put1]
 | cons x xs ih =>
   intro out d
   have h1 := ih (out ++ [r] ++ [x]) true
   have h2 := ih (out ++ [r]) true
   have h3 := ih (out ++ [x]) d
   have h4 := ih out d
   simp only [List.length_append, List.length_cons, List.length_nil] at h1 h2 h3 h4
   unfold put1
   cases d <;> simp only [Bool.not_true, Bool.not_false, Bool.false_and, Bool.true_and, List.length_cons] <;> split <;> (try split) <;> constructor <;> (try intro hd) <;> (try cases hd) <;> first | omega | simp_all <;> omega
theorem sPut_len (b : List Row) (r : Row) : (sPut b r).length ≤ b.length + 1 := by
 have := (put1_len r b [] false).1
 simpa [sPut] using this
def partF (id : Int) : List Int → List (List Row) → List Row
 | i :: is, b :: bs => if i == id then b else partF id is bs
 | _, _ => []
def partOf (p : Prt) (id : Int) : List Row := partF id p.ids p.blocks
def prev {α : Type} (xs : List α) (k : Nat) : Option α := if k = 0 then none else xs[k - 1]?
@[grind =] theorem prev_succ {α : Type} (xs : List α) (k : Nat) : prev xs (k + 1) = xs[k]? := by simp [prev]
theorem prev_pos {α : Type} (xs : List α) (k : Nat) (h : 0 < k) : prev xs k = xs[k - 1]? := by simp [prev]; omega
def partG : Option Int → List Int → List (List Row) → Bool
 | _, [], _ => true
 | o, i :: is, b :: bs => inR i 1 6 && (match o with | some q => decide (q < i) | none => true) && decide (0 < b.length) && blockOk b && partG (some i) is bs
 | _, _ :: _, [] => false
def partOk (p : Prt) : Bool := decide (p.ids.length = p.blocks.length) && partG none p.ids p.blocks
def partIn (p : Prt) (n : Int) : Bool := partOk p && (match p.ids.getLast? with | some i => decide (i ≤ n) | none => false)
def idxF (v : Int) : Nat → List Int → Int
 | _, [] => -1
 | i, x :: xs => if x == v then (i : Int) else idxF v (i + 1) xs
def maxF : Int → List Int → Int
 | m, [] => m
 | m, x :: xs => maxF (if x > m then x else m) xs
def maxOf : List Int → Int
 | [] => 0
 | x :: xs => maxF x xs
def text1 (t : Tag) : Str := t.key ++ [61] ++ t.val
def textF : Nat → List Tag → Str
 | _, [] => []
 | i, t :: ts => (if i > 0 then [44] else []) ++ text1 t ++ textF (i + 1) ts
def text (n : List Tag) : Str := textF 0 n
def tagLt (a b : Tag) : Bool := strLt a.key b.key || a.key == b.key && strLt a.val b.val
def rowsP (id : Int) (o : List Row) (p : Prt) : List Row := sMerge o (partOf p id)
def rowsM (id : Int) (o : List Row) (m : Smp) : List Row := if m.id == id then sPut o m.row else o
def rowsOf (s : Sto) (id : Int) : List Row := s.mem.foldl (rowsM id) (s.parts.foldl (rowsP id) [])
def pMergeL (a b : Prt) (n : Nat) : List (List Row) := (List.range n).map (fun (i : Nat) => sMerge (partOf a ((i : Int) + 1)) (partOf b ((i : Int) + 1)))
def pMerge (a b : Prt) : Prt := pMake (pMergeL a b 6)
theorem pMergeL_succ (a b : Prt) (n : Nat) : pMergeL a b (n + 1) = pMergeL a b n ++ [sMerge (partOf a ((n : Int) + 1)) (partOf b ((n : Int) + 1))] := by simp [pMergeL, List.range_succ]
theorem pMergeL_len (a b : Prt) (n : Nat) : (pMergeL a b n).length = n := by simp [pMergeL]
def NmSz (n : List Tag) : Prop := n.length ≤ 1000 ∧ ∀ t ∈ n, t.key.length ≤ 1000 ∧ t.val.length ≤ 1000
def PrtSz (p : Prt) : Prop := p.ids.length = p.blocks.length ∧ p.blocks.length ≤ 1000 ∧ ∀ b ∈ p.blocks, b.length ≤ 1000
theorem sMerge_len (a b : List Row) : (sMerge a b).length ≤ a.length + b.length := by
 unfold sMerge
 induction b generalizing a with
 | nil => simp
 | cons x xs ih =>
   simp only [List.foldl_cons, List.length_cons]
   have h1 := ih (sPut a x)
   have h2 := sPut_len a x
   omega
theorem partF_mem (id : Int) : ∀ (is : List Int) (bs : List (List Row)), partF id is bs = [] ∨ partF id is bs ∈ bs := by
 intro is
 induction is with
 | nil => intro bs; left; unfold partF; rfl
 | cons i is ih =>
   intro bs
   cases bs with
   | nil => left; unfold partF; rfl
   | cons b bs =>
     unfold partF
     split
     ·right; simp
     ·rcases ih bs with h | h
      ·left; exact h
      ·right; exact List.mem_cons_of_mem _ h
theorem partOf_len {p : Prt} (h : PrtSz p) (id : Int) : (partOf p id).length ≤ 1000 := by
 rcases partF_mem id p.ids p.blocks with h1 | h1
 ·unfold partOf; rw [h1]; simp
 ·exact h.2.2 _ h1
theorem pMergeL_mem {a b : Prt} (ha : PrtSz a) (hb : PrtSz b) (n : Nat) : ∀ x ∈ pMergeL a b n, x.length ≤ 2000 := by
 intro x hx
 simp only [pMergeL, List.mem_map] at hx
 obtain ⟨i, _, rfl⟩ := hx
 have h1 := sMerge_len (partOf a ((i : Int) + 1)) (partOf b ((i : Int) + 1))
 have h2 := partOf_len ha ((i : Int) + 1)
 have h3 := partOf_len hb ((i : Int) + 1)
 omega
def numF (num : Int) : Nat → List Fil → Int
 | _, [] => -1
 | i, f :: fs => if f.num == num then (i : Int) else numF num (i + 1) fs
def numAt (d : Dsk) (num : Int) : Int := numF num 0 d.files
def nmF (t : Str) : Nat → List (List Tag) → Int
 | _, [] => 0
 | i, x :: xs => if text x == t then (i : Int) + 1 else nmF t (i + 1) xs
def nmAt (ix : Idx) (n : List Tag) : Int := nmF (text n) 0 ix.names
theorem pst_eq (a b : Pst) : a = b ↔ a.tag = b.tag ∧ a.ids = b.ids := by cases a; cases b; simp
end Go.Proofs.YtfnpaglcnmcnbaaGreat
namespace Go.Proofs.YtfnpaglcnmcnbaaGreat
set_option maxRecDepth 100000
set_option maxHeartbeats 4000000
theorem c_impl_within (n : Int) (low : Int) (high : Int) {w : World} {F : Nat → Prop}   : Calls Tryz.prog 76 [.int .i64 n, .int .i64 low, .int .i64 high].toArray w (rets fun rv w' => rv = .bool (inR n low high) ∧ Ext w w') := by
 exact goT Tryz.func76 <| .s <| .g <| .r 1 <| .d <| .s <| .g <| .r 2 <| .bp (n ≥ low) (fun C => .r 6 <| .d <| .rt Tryz.func76 Tryz.results76 (.bool (decide (n ≤ high))) ⟨(congrArg Value.bool (by simp [inR]; omega)), (Chg.refl _ _)⟩) fun C => .r 6 <| .d <| .rt Tryz.func76 Tryz.results76 (.bool false) ⟨(congrArg Value.bool (by simp [inR]; omega)), (Chg.refl _ _)⟩
theorem c_spec_l6In (n : Int) (low : Int) (high : Int) {w : World} {F : Nat → Prop}   : Calls Tryz.prog 67 [.int .i64 n, .int .i64 low, .int .i64 high].toArray w (rets fun rv w' => rv = .bool (inR n low high) ∧ Ext w w') := by
 exact goT Tryz.func67 <| .s <| .g <| .r 1 <| .d <| .s <| .g <| .r 2 <| .bp (n ≥ low) (fun C => .r 6 <| .d <| .rt Tryz.func67 Tryz.results67 (.bool (decide (n ≤ high))) ⟨(congrArg Value.bool (by simp [inR]; omega)), (Chg.refl _ _)⟩) fun C => .r 6 <| .d <| .rt Tryz.func67 Tryz.results67 (.bool false) ⟨(congrArg Value.bool (by simp [inR]; omega)), (Chg.refl _ _)⟩
theorem c_impl_rowOk (r : Row) {w : World} {F : Nat → Prop}   : Calls Tryz.prog 63 [.agg #[.int .i64 r.t, .int .i64 r.v]].toArray w (rets fun rv w' => rv = .bool (rowOk r) ∧ Ext w w') := by
 refine goT Tryz.func63 <| .s <| .g <| .np 33 [vI r.t, vI r.v] fun ag ab Z J E aa => ?_
 have C := J
 clear J aa Z
 refine .r 1 <| .d <| .s <| .g <| .r 1 <| .lb E <| .cl (c_impl_within r.t 0 99 (w := ab) (F := all)) ?_
 rintro ah ac ⟨rfl, O⟩
 replace ⟨E, C⟩ := (se [] O).g2 E C
 clear O
 cases V : (inR r.t 0 99)
 ·have ae := inR_f V
  exact .r 6 <| .d <| .rt Tryz.func63 Tryz.results63 (.bool false) ⟨(congrArg Value.bool (by simp_all [rowOk])), C⟩
 have af := inR_t V
 refine .r 2 <| .lb E <| .cl (c_impl_within r.v (-99) 99 (w := ac) (F := all)) ?_
 rintro ai aj ⟨rfl, W⟩
 replace C := (se [] W).g1 C
 clear W
 exact .r 2 <| .d <| .rt Tryz.func63 Tryz.results63 (.bool (inR r.v (-99) 99)) ⟨(congrArg Value.bool (by simp_all [rowOk])), C⟩
theorem c_spec_l2Row (r : Row) {w : World} {F : Nat → Prop}   : Calls Tryz.prog 68 [.agg #[.int .i64 r.t, .int .i64 r.v]].toArray w (rets fun rv w' => rv = .bool (rowOk r) ∧ Ext w w') := by
 refine goT Tryz.func68 <| .s <| .g <| .np 33 [vI r.t, vI r.v] fun ag ab Z J E aa => ?_
 have C := J
 clear J aa Z
 refine .r 1 <| .d <| .s <| .g <| .r 1 <| .lb E <| .cl (c_spec_l6In r.t 0 99 (w := ab) (F := all)) ?_
 rintro ah ac ⟨rfl, O⟩
 replace ⟨E, C⟩ := (se [] O).g2 E C
 clear O
 cases V : (inR r.t 0 99)
 ·have ae := inR_f V
  exact .r 6 <| .d <| .rt Tryz.func68 Tryz.results68 (.bool false) ⟨(congrArg Value.bool (by simp_all [rowOk])), C⟩
 have af := inR_t V
 refine .r 2 <| .lb E <| .cl (c_spec_l6In r.v (-99) 99 (w := ac) (F := all)) ?_
 rintro ai aj ⟨rfl, W⟩
 replace C := (se [] W).g1 C
 clear W
 exact .r 2 <| .d <| .rt Tryz.func68 Tryz.results68 (.bool (inR r.v (-99) 99)) ⟨(congrArg Value.bool (by simp_all [rowOk])), C⟩
theorem c_spec_l11Names (names : List (List Tag)) {w : World} {F : Nat → Prop} {a1 : Option Addr} {n1 c1 : Nat} (h1 : RepS w F a1 n1 c1 names) (p0 : names.length ≤ 1000000) (p1 : ∀ n ∈ names, n.length ≤ 1000000) : Calls Tryz.prog 151 [.slice a1 n1 c1].toArray w (rets fun rv w' => VO 31 w.heap.size w' (names : List (List Tag)) rv ∧ Ext w w') := by
 refine goT Tryz.func151 ?_
 obtain ⟨rfl, bi, h1⟩ := h1.tp
 refine .s <| .g <| .r 1 <| .d <| .s <| .g <| .ns 0 31 [] fun W ae ac af aB aC => ?_
 have aD := gb_new ac (Nat.le_refl _)
 have aE : Cov nil w W := cov_new ac (Nat.le_refl _)
 replace h1 := (sn [] af ac).g1 h1
 have C := af
 clear af aC ac
 have aF : Own (α := List Tag) ae W 31 (nin (ge w.heap.size) [W]) 0 0 [] := Own.nil' aB
 refine .r 1 <| .d <| .s <| .s <| .g <| .r 1 <| .d <| .b 0 <| T.loop (X := (List (List Tag)) × Nat × Nat × Nat × Nat) (([] : List (List Tag)), W, 0, 0, 0) (fun (out, r_out, n_out, c_out, i) => [(0, .slice a1 names.length c1), (3, vS r_out n_out c_out), (4, vI (i : Int))]) (fun (out, r_out, n_out, c_out, i) al => Chg (ins [W]) ae al ∧ Own al r_out 31 (nin (ge w.heap.size) [r_out]) n_out c_out out ∧ OrB r_out W ae.heap.size ∧ (i ≤ names.length) ∧ (out ++ names.drop i = names)) (fun (out, r_out, n_out, c_out, i) => names.length - i) (by kernel_rfl) ⟨by kernel_rfl, by kernel_rfl, by kernel_rfl, trivial⟩ ⟨Chg.refl _ _, aF, orb_refl, (by omega), (by rfl)⟩ ?_
 rintro ⟨out, r_out, n_out, c_out, i⟩ bB al ⟨J, E, aa, bj, bk⟩ ag
 have aG := gb_or' aa aD C.size
 have bm := cov_or' aa aE C.size
 have aH : Cov (ins [W]) ae W := ⟨.inl (.head _)⟩
 have bn := cov_or' aa aH (Nat.le_refl _)
 have ar : Mv [W] [r_out] ae al := Mv.inl J (all_cons (.head _) all_nil) (all_cons (orb_mem aa (.head _)) all_nil)
 replace ⟨h1, C⟩ := (sp ar J).g2 h1 C
 clear ar
 have bo := E.len; have bq := E.max
 refine .s <| .s <| .g <| .r 3 <| .bp ((i : Int) < (names.length : Int)) (fun aI => ?_) (fun aI => .d <| .cf <| .x 0 rfl <| .s <| .g <| .r 2 <| .d <| .rt Tryz.func151 Tryz.results151 (vS r_out n_out c_out) ⟨(VO.of E (by grind) aG), C⟩)
 refine .d <| .ct <| .sk <| .s <| .b 1 <| .g <| .r 1 <| .ns 0 112 [] fun am aX V au aJ aK => ?_
 have aL := nb_new V E.lt
 have aM := gb_new V C.size
 have br := C.cn V
 have bt := J.cn V
 replace ⟨h1, E, C, J⟩ := (sn [r_out] au V).g4 h1 E C J
 clear au aK V
 have aN : Own (α := Tag) aX am 112 (nin (ge w.heap.size) [am, r_out]) 0 0 [] := Own.nil' aJ
 refine .r 2 ?_
 have aO : i < names.length := (by omega)
 refine .ix i 1 h1 aO ?_
 obtain ⟨ao, ah⟩ : ∃ y, names[i]? = some y := ⟨_, List.getElem?_eq_getElem (by omega)⟩
 have bu := drop_at ah; have aW := List.mem_of_getElem? ah
 obtain ⟨_, ⟨bC, bD, bE, rfl, az⟩, aP⟩ := h1.elem i ao ah
 have aQ := az.len
 subst aQ
 have bv := az.max
 refine .lh 0 aP <| RG.appendF (T := 31) (ty := 31) flat_tag aN az (by kernel_rfl) (by kernel_rfl) (fun b h e => h.2 (e ▸ (.head _))) (by grind) fun aq aY bF O Z av => ?_
 have bw := nb_or Z aL E.lt
 have aR := gb_or Z aM C.size
 replace ⟨E, C, J⟩ := (sa [am, r_out] av Z).g3 E C J
 clear av
 replace O := O.rn am
 clear Z
 have bz := O.len; have bA := O.max
 refine .ns 1 31 [vS aq (0 + ao.length) aY] fun aS aZ ai aw aT aU => ?_
 have ax := nb_new ai E.lt
 have aV := gb_new ai C.size
 replace ⟨E, O, C, J⟩ := (se [aq, r_out] aw).g4 E O C J
 clear aw aU ai
 have ba := O.sl aR
 replace E := (sd aZ [aq, r_out] aq).g1 E
 have aj : nin (ge w.heap.size) [r_out] aS ∧ aS ≠ r_out := hap_mk aV (all_cons ax all_nil) ax
 refine RG.append1 (T := 23) (ty := 23) (y := ([] ++ ao)) E aT (by kernel_rfl) (by kernel_rfl) ⟨_, _, _, rfl, ba.oi⟩ aj (by grind) fun bc bd bG ab ak ay => ?_
 have aA := orb_or ak aa J.size
 replace ⟨C, J⟩ := (s1 ay).g2 C J
 clear ay
 replace ab := ab.rn r_out
 clear ak
 have bg := ab.len; have bh := ab.max
 exact .r 1 <| .d <| .ib 1 <| .g <| .r 1 <| .it ((i : Int) + 1) <| .r 1 <| .d <| ag ((out ++ [([] ++ ao)]), bc, n_out + 1, bd, i + 1) _ _ ⟨by kernel_rfl, by kernel_rfl, by kernel_rfl, trivial⟩ ⟨J, ab, aA, (by omega), (by grind)⟩ (by (simp only []; omega))
theorem c_impl_cloneNames (names : List (List Tag)) {w : World} {F : Nat → Prop} {a1 : Option Addr} {n1 c1 : Nat} (h1 : RepS w F a1 n1 c1 names) (p0 : names.length ≤ 1000000) (p1 : ∀ n ∈ names, n.length ≤ 1000000) : Calls Tryz.prog 74 [.slice a1 n1 c1].toArray w (rets fun rv w' => VO 31 w.heap.size w' (names : List (List Tag)) rv ∧ Ext w w') := by
 refine goT Tryz.func74 ?_
 obtain ⟨rfl, bi, h1⟩ := h1.tp
 refine .s <| .g <| .r 1 <| .d <| .s <| .g <| .ns 0 31 [] fun W ae ac af aB aC => ?_
 have aD := gb_new ac (Nat.le_refl _)
 have aE : Cov nil w W := cov_new ac (Nat.le_refl _)
 replace h1 := (sn [] af ac).g1 h1
 have C := af
 clear af aC ac
 have aF : Own (α := List Tag) ae W 31 (nin (ge w.heap.size) [W]) 0 0 [] := Own.nil' aB
 refine .r 1 <| .d <| .s <| .s <| .g <| .r 3 <| .d <| .b 0 <| T.loop (X := (List (List Tag)) × Nat × Nat × Nat × Nat) (([] : List (List Tag)), W, 0, 0, 0) (fun (out, r_out, n_out, c_out, k) => [(3, vS r_out n_out c_out), (7, .slice a1 names.length c1), (8, vI (names.length : Int)), (9, vI (k : Int))]) (fun (out, r_out, n_out, c_out, k) am => Chg (ins [W]) ae am ∧ Own am r_out 31 (nin (ge w.heap.size) [r_out]) n_out c_out out ∧ OrB r_out W ae.heap.size ∧ (k ≤ names.length) ∧ (out ++ names.drop k = names)) (fun (out, r_out, n_out, c_out, k) => names.length - k) (by kernel_rfl) ⟨by kernel_rfl, by kernel_rfl, by kernel_rfl, by kernel_rfl, trivial⟩ ⟨Chg.refl _ _, aF, orb_refl, (by omega), (by rfl)⟩ ?_
 rintro ⟨out, r_out, n_out, c_out, k⟩ bB am ⟨J, E, aa, bj, bk⟩ ag
 have aG := gb_or' aa aD C.size
 have bm := cov_or' aa aE C.size
 have aH : Cov (ins [W]) ae W := ⟨.inl (.head _)⟩
 have bn := cov_or' aa aH (Nat.le_refl _)
 have au : Mv [W] [r_out] ae am := Mv.inl J (all_cons (.head _) all_nil) (all_cons (orb_mem aa (.head _)) all_nil)
 replace ⟨h1, C⟩ := (sp au J).g2 h1 C
 clear au
 have bo := E.len; have bq := E.max
 refine .s <| .g <| .bp ((k : Int) < (names.length : Int)) (fun aI => ?_) (fun aI => .d <| .s <| .cf <| .x 0 rfl <| .s <| .g <| .r 2 <| .d <| .rt Tryz.func74 Tryz.results74 (vS r_out n_out c_out) ⟨(VO.of E (by grind) aG), C⟩)
 refine .d <| .s <| .ct <| .sk <| .s <| .b 1 <| .s <| .g ?_
 have aJ : k < names.length := (by omega)
 refine .ix k 1 h1 aJ ?_
 obtain ⟨ao, ah⟩ : ∃ y, names[k]? = some y := ⟨_, List.getElem?_eq_getElem (by omega)⟩
 have br := drop_at ah; have aW := List.mem_of_getElem? ah
 obtain ⟨_, ⟨bC, bD, bE, rfl, ai⟩, aK⟩ := h1.elem k ao ah
 have aL := ai.len
 subst aL
 have bt := ai.max
 refine .lh 0 aK <| .r 1 <| .d <| .g <| .r 1 <| .ns 0 112 [] fun aq aX V av aM aN => ?_
 have aO := nb_new V E.lt
 have aP := gb_new V C.size
 have bu := C.cn V
 have bv := J.cn V
 replace ⟨E, ai, C, J⟩ := (sn [r_out] av V).g4 E ai C J
 clear av aN V
 have aQ : Own (α := Tag) aX aq 112 (nin (ge w.heap.size) [aq, r_out]) 0 0 [] := Own.nil' aM
 refine .r 1 <| RG.appendF (T := 31) (ty := 31) flat_tag aQ ai (by kernel_rfl) (by kernel_rfl) (fun b h e => h.2 (e ▸ (.head _))) (by grind) fun ar aY bF O Z aw => ?_
 have bw := nb_or Z aO E.lt
 have aR := gb_or Z aP C.size
 replace ⟨E, C, J⟩ := (sa [aq, r_out] aw Z).g3 E C J
 clear aw
 replace O := O.rn aq
 clear Z
 have bz := O.len; have bA := O.max
 refine .ns 1 31 [vS ar (0 + ao.length) aY] fun aS aZ aj ax aT aU => ?_
 have ay := nb_new aj E.lt
 have aV := gb_new aj C.size
 replace ⟨E, O, C, J⟩ := (se [ar, r_out] ax).g4 E O C J
 clear ax aU aj
 have ba := O.sl aR
 replace E := (sd aZ [ar, r_out] ar).g1 E
 have ak : nin (ge w.heap.size) [r_out] aS ∧ aS ≠ r_out := hap_mk aV (all_cons ay all_nil) ay
 refine RG.append1 (T := 23) (ty := 23) (y := ([] ++ ao)) E aT (by kernel_rfl) (by kernel_rfl) ⟨_, _, _, rfl, ba.oi⟩ ak (by grind) fun bc bd bG ab al az => ?_
 have aA := orb_or al aa J.size
 replace ⟨C, J⟩ := (s1 az).g2 C J
 clear az
 replace ab := ab.rn r_out
 clear al
 have bg := ab.len; have bh := ab.max
 exact .r 1 <| .d <| .ib 1 <| .g <| .it ((k : Int) + 1) <| .r 1 <| .d <| ag ((out ++ [([] ++ ao)]), bc, n_out + 1, bd, k + 1) _ _ ⟨by kernel_rfl, by kernel_rfl, by kernel_rfl, by kernel_rfl, trivial⟩ ⟨J, ab, aA, (by omega), (by grind)⟩ (by (simp only []; omega))
theorem c_spec_l2Put (b : List Row) (r : Row) {w : World} {F : Nat → Prop} {a1 : Option Addr} {n1 c1 : Nat} (h1 : RepS w F a1 n1 c1 b) (p0 : b.length ≤ 1000000) : Calls Tryz.prog 115 [.slice a1 n1 c1, .agg #[.int .i64 r.t, .int .i64 r.v]].toArray w (rets fun rv w' => VL (ge w.heap.size) w' (sPut b r : List Row) rv ∧ Ext w w') := by
 refine goT Tryz.func115 ?_
 obtain ⟨rfl, da, h1⟩ := h1.tp
 refine .s <| .g <| .np 33 [vI r.t, vI r.v] fun V dG bc aF C ce => ?_
 replace h1 := (sn [] aF bc).g1 h1
 have E := aF
 clear aF ce bc
 refine .r 1 <| .d <| .s <| .g <| .ns 0 33 [] fun aw aG ax bd cg ci => ?_
 have cj := nb_new ax C.lt
 have ck := gb_new ax E.size
 have cm := E.cn ax
 replace ⟨h1, C, E⟩ := (sn [V] bd ax).g3 h1 C E
 clear bd ci ax
 have co : Own (α := Row) aG aw 33 (nin (ge w.heap.size) [aw, V]) 0 0 [] := Own.nil' cg
 refine .r 1 <| .d <| .s <| .g <| .r 1 <| .d <| .s <| .s <| .g <| .r 1 <| .d <| .b 0 <| T.loop (X := (List Row) × Nat × Nat × Nat × Bool × Nat) (([] : List Row), aw, 0, 0, false, 0) (fun (out, r_out, n_out, c_out, put, i) => [(0, .slice a1 b.length c1), (3, .pointer (some ⟨V, 0, none⟩)), (5, vS r_out n_out c_out), (6, .bool put), (7, vI (i : Int))]) (fun (out, r_out, n_out, c_out, put, i) ba => Chg (ins [aw]) aG ba ∧ Own ba r_out 33 (nin (ge w.heap.size) [r_out, V]) n_out c_out out ∧ OrB r_out aw aG.heap.size ∧ (i ≤ b.length) ∧ (out.length ≤ i + 1) ∧ (put = false → out.length ≤ i) ∧ (put1 out r put (b.drop i) = sPut b r)) (fun (out, r_out, n_out, c_out, put, i) => b.length - i) (by kernel_rfl) ⟨by kernel_rfl, by kernel_rfl, by kernel_rfl, by kernel_rfl, by kernel_rfl, trivial⟩ ⟨Chg.refl _ _, co, orb_refl, (by simp [sPut]), (by simp [sPut]), (by simp [sPut]), (by simp [sPut])⟩ ?_
 rintro ⟨out, r_out, n_out, c_out, put, i⟩ dH ba ⟨J, O, ab, db, dd, de, df⟩ W
 have bg := nb_or' ab cj C.lt
 have bh := gb_or' ab ck E.size
 have cp := cov_or' ab cm E.size
 have cq : Cov (ins [aw]) aG aw := ⟨.inl (.head _)⟩
 have cr := cov_or' ab cq (Nat.le_refl _)
 have bi : Mv [aw, V] [r_out, V] aG ba := Mv.inl J (all_cons (.head _) all_nil) (all_cons (orb_mem ab (.head _)) (all_cons (.inl (.tail _ (.head _))) all_nil))
 replace ⟨h1, C, E⟩ := (sp bi J).g3 h1 C E
 clear bi
 have dg := O.len; have dh := O.max
 refine .s <| .s <| .g <| .r 3 <| .bp ((i : Int) < (b.length : Int)) (fun cu => ?_) (fun cu => ?_)
 ·refine .d <| .ct <| .sk <| .s <| .b 1 <| .s <| .s <| .gd nil 10 fun dI bj => ?_
  replace ⟨h1, C, O, E, J⟩ := (se [r_out, V] bj).g5 h1 C O E J
  clear bj
  refine .r [0] ?_
  cases di : put
  ·refine .r [1, 2, 3, 4] ?_
   have cv : i < b.length := (by omega)
   refine .ix 5 i 2 h1 cv <| .r [6] ?_
   obtain ⟨aa, ae⟩ : ∃ y, b[i]? = some y := ⟨_, List.getElem?_eq_getElem (by omega)⟩
   have dj := drop_at ae; have cQ := List.mem_of_getElem? ae
   obtain ⟨_, rfl, cw⟩ := h1.elem i aa ae
   refine .lh 7 0 cw id <| .r [8] <| .lb 9 C id <| .d fun dJ bk => ?_
   replace ⟨h1, C, O, E, J⟩ := (se [r_out, V] bk).g5 h1 C O E J
   clear bk
   refine .bp (aa.t ≥ r.t) (fun cx => ?_) (fun cx => ?_)
   ·refine .r 1 <| .d <| .ct <| .s <| .g <| .r 1 <| .ln C <| .ns 1 33 [vI r.t, vI r.v] fun cy dK az bm cz cA => ?_
    have cB := nb_new az C.lt
    have bn := nb_new az O.lt
    have cC := gb_new az E.size
    replace ⟨h1, C, O, E, J⟩ := (se [r_out, V] bm).g5 h1 C O E J
    clear bm cA az
    have aH : nin (ge w.heap.size) [r_out, V] cy ∧ cy ≠ r_out := hap_mk cC (all_cons bn (all_cons cB all_nil)) bn
    refine RG.append1 (T := 42) (ty := 42) (y := r) O cz (by kernel_rfl) (by kernel_rfl) rfl aH (by omega) fun ay cR dL Z ac bo => ?_
    have dk := nb_or ac bg C.lt
    have dm := cov_or ac cp E.size
    have dp := cov_or ac cr J.size
    have bq := orb_or ac ab J.size
    replace ⟨h1, C, E, J⟩ := (sa [r_out, V] bo ac).g4 h1 C E J
    clear bo
    replace Z := Z.rn r_out
    clear ac
    have dq := Z.len; have dr := Z.max
    refine .r 1 <| .d <| .g <| .r 1 <| .d <| .s <| .gd nil 7 fun dM br => ?_
    replace ⟨h1, C, Z, E, J⟩ := (se [ay, V] br).g5 h1 C Z E J
    clear br
    refine .r [0, 1] ?_
    have cD : i < b.length := (by omega)
    refine .ix 2 i 2 h1 cD <| .r [3] ?_
    obtain ⟨_, rfl, cE⟩ := h1.elem i aa ae
    refine .lh 4 0 cE id <| .r [5] <| .lb 6 C id <| .d fun dN aI => ?_
    replace ⟨h1, C, Z, E, J⟩ := (se [ay, V] aI).g5 h1 C Z E J
    clear aI
    refine .ne aa.t r.t (fun bz => ?_) (fun bz => .d <| .cf <| .sk <| .ib 1 <| .g <| .r 1 <| .it ((i : Int) + 1) <| .r 1 <| .d <| W ((out ++ [r]), ay, n_out + 1, cR, true, i + 1) _ _ ⟨by kernel_rfl, by kernel_rfl, by kernel_rfl, by kernel_rfl, by kernel_rfl, trivial⟩ ⟨J, Z, bq, (by grind [put1]), (by grind [put1]), (by grind [put1]), (by grind [put1])⟩ (by (simp only []; omega)))
    refine .d <| .ct <| .g <| .r 3 ?_
    have bA : i < b.length := (by omega)
    refine .ix i 2 h1 bA ?_
    obtain ⟨_, rfl, bB⟩ := h1.elem i aa ae
    refine .lg 0 bB <| .ns 1 33 [vI aa.t, vI aa.v] fun bt dt ak aJ bC bD => ?_
    have bE := nb_new ak C.lt
    have aK := nb_new ak Z.lt
    have bF := gb_new ak E.size
    replace ⟨h1, C, Z, E, J⟩ := (se [ay, V] aJ).g5 h1 C Z E J
    clear aJ bD ak
    have aB : nin (ge w.heap.size) [ay, V] bt ∧ bt ≠ ay := hap_mk bF (all_cons aK (all_cons bE all_nil)) aK
    refine RG.append1 (T := 42) (ty := 42) (y := aa) Z bC (by kernel_rfl) (by kernel_rfl) rfl aB (by omega) fun cF cG du af al aL => ?_
    have bG := orb_or al bq J.size
    replace ⟨h1, C, E, J⟩ := (sa [ay, V] aL al).g4 h1 C E J
    clear aL
    replace af := af.rn ay
    clear al
    have cS := af.len; have cT := af.max
    exact .r 1 <| .d <| .ib 1 <| .g <| .r 1 <| .it ((i : Int) + 1) <| .r 1 <| .d <| W (((out ++ [r]) ++ [aa]), cF, n_out + 1 + 1, cG, true, i + 1) _ _ ⟨by kernel_rfl, by kernel_rfl, by kernel_rfl, by kernel_rfl, by kernel_rfl, trivial⟩ ⟨J, af, bG, (by grind [put1]), (by grind [put1]), (by grind [put1]), (by grind [put1])⟩ (by (simp only []; omega))
   refine .r 1 <| .d <| .cf <| .sk <| .s <| .gd nil 7 fun dv aM => ?_
   replace ⟨h1, C, O, E, J⟩ := (se [r_out, V] aM).g5 h1 C O E J
   clear aM
   refine .r [0, 1] ?_
   have bH : i < b.length := (by omega)
   refine .ix 2 i 2 h1 bH <| .r [3] ?_
   obtain ⟨_, rfl, bI⟩ := h1.elem i aa ae
   refine .lh 4 0 bI id <| .r [5] <| .lb 6 C id <| .d fun dw aN => ?_
   replace ⟨h1, C, O, E, J⟩ := (se [r_out, V] aN).g5 h1 C O E J
   clear aN
   refine .ne aa.t r.t (fun bJ => ?_) (fun bJ => .d <| .cf <| .sk <| .ib 1 <| .g <| .r 1 <| .it ((i : Int) + 1) <| .r 1 <| .d <| W (out, r_out, n_out, c_out, false, i + 1) _ _ ⟨by kernel_rfl, by kernel_rfl, by kernel_rfl, by kernel_rfl, by kernel_rfl, trivial⟩ ⟨J, O, ab, (by grind [put1]), (by grind [put1]), (by grind [put1]), (by grind [put1])⟩ (by omega))
   refine .d <| .ct <| .g <| .r 3 ?_
   have bK : i < b.length := (by omega)
   refine .ix i 2 h1 bK ?_
   obtain ⟨_, rfl, bL⟩ := h1.elem i aa ae
   refine .lg 0 bL <| .ns 1 33 [vI aa.t, vI aa.v] fun bu dx am aO bM bN => ?_
   have bO := nb_new am C.lt
   have aP := nb_new am O.lt
   have bP := gb_new am E.size
   replace ⟨h1, C, O, E, J⟩ := (se [r_out, V] aO).g5 h1 C O E J
   clear aO bN am
   have aC : nin (ge w.heap.size) [r_out, V] bu ∧ bu ≠ r_out := hap_mk bP (all_cons aP (all_cons bO all_nil)) aP
   refine RG.append1 (T := 42) (ty := 42) (y := aa) O bM (by kernel_rfl) (by kernel_rfl) rfl aC (by omega) fun cH cI dy ag ao aQ => ?_
   have bQ := orb_or ao ab J.size
   replace ⟨h1, C, E, J⟩ := (sa [r_out, V] aQ ao).g4 h1 C E J
   clear aQ
   replace ag := ag.rn r_out
   clear ao
   have cU := ag.len; have cV := ag.max
   exact .r 1 <| .d <| .ib 1 <| .g <| .r 1 <| .it ((i : Int) + 1) <| .r 1 <| .d <| W ((out ++ [aa]), cH, n_out + 1, cI, false, i + 1) _ _ ⟨by kernel_rfl, by kernel_rfl, by kernel_rfl, by kernel_rfl, by kernel_rfl, trivial⟩ ⟨J, ag, bQ, (by grind [put1]), (by grind [put1]), (by grind [put1]), (by grind [put1])⟩ (by (simp only []; omega))
  refine .r [1, 2, 3, 4, 5, 6, 7, 8, 9] <| .d fun dz aR => ?_
  replace ⟨h1, C, O, E, J⟩ := (se [r_out, V] aR).g5 h1 C O E J
  clear aR
  refine .r 2 <| .d <| .cf <| .sk <| .s <| .gd nil 7 fun dA aS => ?_
  replace ⟨h1, C, O, E, J⟩ := (se [r_out, V] aS).g5 h1 C O E J
  clear aS
  refine .r [0, 1] ?_
  have bR : i < b.length := (by omega)
  refine .ix 2 i 2 h1 bR <| .r [3] ?_
  obtain ⟨ah, aq⟩ : ∃ y, b[i]? = some y := ⟨_, List.getElem?_eq_getElem (by omega)⟩
  have cW := drop_at aq; have cJ := List.mem_of_getElem? aq
  obtain ⟨_, rfl, bS⟩ := h1.elem i ah aq
  refine .lh 4 0 bS id <| .r [5] <| .lb 6 C id <| .d fun dB aT => ?_
  replace ⟨h1, C, O, E, J⟩ := (se [r_out, V] aT).g5 h1 C O E J
  clear aT
  refine .ne ah.t r.t (fun bT => ?_) (fun bT => .d <| .cf <| .sk <| .ib 1 <| .g <| .r 1 <| .it ((i : Int) + 1) <| .r 1 <| .d <| W (out, r_out, n_out, c_out, true, i + 1) _ _ ⟨by kernel_rfl, by kernel_rfl, by kernel_rfl, by kernel_rfl, by kernel_rfl, trivial⟩ ⟨J, O, ab, (by grind [put1]), (by grind [put1]), (by grind [put1]), (by grind [put1])⟩ (by (simp only []; omega)))
  refine .d <| .ct <| .g <| .r 3 ?_
  have bU : i < b.length := (by omega)
  refine .ix i 2 h1 bU ?_
  obtain ⟨_, rfl, bV⟩ := h1.elem i ah aq
  refine .lg 0 bV <| .ns 1 33 [vI ah.t, vI ah.v] fun bv dC ar aU bW bX => ?_
  have bY := nb_new ar C.lt
  have aV := nb_new ar O.lt
  have bZ := gb_new ar E.size
  replace ⟨C, O, E, J⟩ := (se [r_out, V] aU).g4 C O E J
  clear aU bX ar
  have aD : nin (ge w.heap.size) [r_out, V] bv ∧ bv ≠ r_out := hap_mk bZ (all_cons aV (all_cons bY all_nil)) aV
  refine RG.append1 (T := 42) (ty := 42) (y := ah) O bW (by kernel_rfl) (by kernel_rfl) rfl aD (by omega) fun cK cL dD ai aA aW => ?_
  have b0 := orb_or aA ab J.size
  replace ⟨C, E, J⟩ := (s1 aW).g3 C E J
  clear aW
  replace ai := ai.rn r_out
  clear aA
  have cX := ai.len; have cY := ai.max
  exact .r 1 <| .d <| .ib 1 <| .g <| .r 1 <| .it ((i : Int) + 1) <| .r 1 <| .d <| W ((out ++ [ah]), cK, n_out + 1, cL, true, i + 1) _ _ ⟨by kernel_rfl, by kernel_rfl, by kernel_rfl, by kernel_rfl, by kernel_rfl, trivial⟩ ⟨J, ai, b0, (by grind [put1]), (by grind [put1]), (by grind [put1]), (by grind [put1])⟩ (by (simp only []; omega))
 refine .d <| .cf <| .x 0 rfl <| .s <| .s <| .g <| .r 1 ?_
 cases cZ : put
 ·refine .r 1 <| .d <| .ct <| .g <| .r 1 <| .ln C <| .ns 1 33 [vI r.t, vI r.v] fun bw dE au aX b6 b7 => ?_
  have b8 := nb_new au C.lt
  have aY := nb_new au O.lt
  have b9 := gb_new au E.size
  replace ⟨C, O, E⟩ := (se [r_out, V] aX).g3 C O E
  clear aX b7 au
  have aE : nin (ge w.heap.size) [r_out, V] bw ∧ bw ≠ r_out := hap_mk b9 (all_cons aY (all_cons b8 all_nil)) aY
  refine RG.append1 (T := 42) (ty := 42) (y := r) O b6 (by kernel_rfl) (by kernel_rfl) rfl aE (by omega) fun cM cN dF aj av aZ => ?_
  have c7 := nb_or av bg C.lt
  have cd := gb_or av bh E.size
  replace E := (s1 aZ).g1 E
  clear aZ
  replace aj := aj.rn r_out
  clear av
  have c8 := aj.len; have c9 := aj.max
  refine .r 1 <| .d <| .s <| .g <| .r 2 <| .d ?_
  have cO := aj.sl cd
  exact .rt Tryz.func115 Tryz.results115 (vS cM (n_out + 1) cN) ⟨(cO.vl (by grind [put1]) (fun _ _ h => h.1)), E⟩
 refine .r 1 <| .d <| .cf <| .sk <| .s <| .g <| .r 2 <| .d ?_
 have cP := O.sl bh
 exact .rt Tryz.func115 Tryz.results115 (vS r_out n_out c_out) ⟨(cP.vl (by grind [put1]) (fun _ _ h => h.1)), E⟩
theorem c_spec_l3Tag (t : Tag) {w : World} {F : Nat → Prop}   : Calls Tryz.prog 70 [.agg #[.string (bs t.key), .string (bs t.val)]].toArray w (rets fun rv w' => rv = .bool (tagOk t) ∧ Ext w w') := by
 refine goT Tryz.func70 <| .s <| .g <| .np 112 [vT t.key, vT t.val] fun au ai ae V E af => ?_
 have C := V
 clear V af ae
 refine .r 1 <| .d <| .s <| .g <| .r 1 <| .lb E <| RG.eqv (v := vI (t.key.length : Int)) (by kernel_rfl) (s_len t.key) <| .eq (t.key.length : Int) 1 (fun ag => ?_) (fun ag => .r 21 <| .d <| .rt Tryz.func70 Tryz.results70 (.bool false) ⟨(congrArg Value.bool (by grind [tagOk_k, tagOk_v, tagOk_def, one1_at])), C⟩)
 refine .r 2 <| .lb E <| RG.eqv (v := vI (t.val.length : Int)) (by kernel_rfl) (s_len t.val) <| .eq (t.val.length : Int) 1 (fun ah => ?_) (fun ah => .r 16 <| .d <| .rt Tryz.func70 Tryz.results70 (.bool false) ⟨(congrArg Value.bool (by grind [tagOk_k, tagOk_v, tagOk_def, one1_at])), C⟩)
 refine .r 3 <| .lb E ?_
 obtain ⟨J, W⟩ : ∃ y, t.key[0]? = some y := ⟨_, List.getElem?_eq_getElem (by omega)⟩
 have ak := UInt8.toNat_lt J; have al := drop_at W
 refine RG.sidx (t := 9) (s := t.key) (k := .i64) (i := 0) 0 (by kernel_rfl) (by kernel_rfl) (by omega) W <| .it ((J.toNat : Int)) <| .cl (c_spec_l6In (J.toNat : Int) 97 100 (w := ai) (F := all)) ?_
 rintro av aj ⟨rfl, Z⟩
 replace ⟨E, C⟩ := (se [] Z).g2 E C
 clear Z
 cases aa : (inR (J.toNat : Int) 97 100)
 ·have am := inR_f aa
  exact .r 9 <| .d <| .rt Tryz.func70 Tryz.results70 (.bool false) ⟨(congrArg Value.bool (by grind [tagOk_k, tagOk_v, tagOk_def, one1_at])), C⟩
 have ao := inR_t aa
 refine .r 3 <| .lb E ?_
 obtain ⟨O, ab⟩ : ∃ y, t.val[0]? = some y := ⟨_, List.getElem?_eq_getElem (by omega)⟩
 have aq := UInt8.toNat_lt O; have ar := drop_at ab
 refine RG.sidx (t := 9) (s := t.val) (k := .i64) (i := 0) 0 (by kernel_rfl) (by kernel_rfl) (by omega) ab <| .it ((O.toNat : Int)) <| .cl (c_spec_l6In (O.toNat : Int) 112 122 (w := aj) (F := all)) ?_
 rintro aw ax ⟨rfl, ac⟩
 replace C := (se [] ac).g1 C
 clear ac
 exact .r 2 <| .d <| .rt Tryz.func70 Tryz.results70 (.bool (inR (O.toNat : Int) 112 122)) ⟨(congrArg Value.bool (by grind [tagOk_k, tagOk_v, tagOk_def, one1_at])), C⟩
theorem c_impl_tagOk (t : Tag) {w : World} {F : Nat → Prop}   : Calls Tryz.prog 107 [.agg #[.string (bs t.key), .string (bs t.val)]].toArray w (rets fun rv w' => rv = .bool (tagOk t) ∧ Ext w w') := by
 refine goT Tryz.func107 <| .s <| .g <| .np 112 [vT t.key, vT t.val] fun ae af O J C V => ?_
 have E := J
 clear J V O
 refine .r 1 <| .d <| .s <| .g <| .r 1 <| .lb C <| RG.eqv (v := vI (t.key.length : Int)) (by kernel_rfl) (s_len t.key) <| .eq (t.key.length : Int) 1 (fun W => ?_) (fun W => .r 27 <| .d <| .rt Tryz.func107 Tryz.results107 (.bool false) ⟨(congrArg Value.bool (by grind [tagOk_k, tagOk_v, tagOk_cmp, tagOk_lt, tagOk_le])), E⟩)
 refine .r 2 <| .lb C <| RG.eqv (v := .bool (!(strLt t.key [97]))) (by kernel_rfl) (s_ge t.key [97]) ?_
 cases aa : (strLt t.key [97])
 ·refine .r 3 <| .lb C <| RG.eqv (v := .bool ((strLe t.key [100]))) (by kernel_rfl) (s_le t.key [100]) ?_
  cases ab : (strLe t.key [100])
  ·exact .r 18 <| .d <| .rt Tryz.func107 Tryz.results107 (.bool false) ⟨(congrArg Value.bool (by grind [tagOk_k, tagOk_v, tagOk_cmp, tagOk_lt, tagOk_le])), E⟩
  refine .r 3 <| .lb C <| RG.eqv (v := vI (t.val.length : Int)) (by kernel_rfl) (s_len t.val) <| .eq (t.val.length : Int) 1 (fun Z => ?_) (fun Z => .r 12 <| .d <| .rt Tryz.func107 Tryz.results107 (.bool false) ⟨(congrArg Value.bool (by grind [tagOk_k, tagOk_v, tagOk_cmp, tagOk_lt, tagOk_le])), E⟩)
  refine .r 3 <| .lb C <| RG.eqv (v := .bool (!(strLt t.val [112]))) (by kernel_rfl) (s_ge t.val [112]) ?_
  cases ac : (strLt t.val [112])
  ·exact .r 3 <| .lb C <| RG.eqv (v := .bool ((strLe t.val [122]))) (by kernel_rfl) (s_le t.val [122]) <| .r 2 <| .d <| .rt Tryz.func107 Tryz.results107 (.bool (strLe t.val [122])) ⟨(congrArg Value.bool (by grind [tagOk_k, tagOk_v, tagOk_cmp, tagOk_lt, tagOk_le])), E⟩
  exact .r 7 <| .d <| .rt Tryz.func107 Tryz.results107 (.bool false) ⟨(congrArg Value.bool (by grind [tagOk_k, tagOk_v, tagOk_cmp, tagOk_lt, tagOk_le])), E⟩
 exact .r 23 <| .d <| .rt Tryz.func107 Tryz.results107 (.bool false) ⟨(congrArg Value.bool (by grind [tagOk_k, tagOk_v, tagOk_cmp, tagOk_lt, tagOk_le])), E⟩
theorem c_slices_Equal_int_int (a : List Int) (b : List Int) {w : World} {F : Nat → Prop} {a1 : Option Addr} {n1 c1 : Nat} (h1 : RepS w F a1 n1 c1 a) {a2 : Option Addr} {n2 c2 : Nat} (h2 : RepS w F a2 n2 c2 b)  : Calls Tryz.prog 119 [.slice a1 n1 c1, .slice a2 n2 c2].toArray w (rets fun rv w' => rv = .bool ((a == b)) ∧ Ext w w') := by
 refine goT Tryz.func119 ?_
 obtain ⟨rfl, aq, h1⟩ := h1.tp
 obtain ⟨rfl, ar, h2⟩ := h2.tp
 refine .s <| .g <| .r 1 <| .d <| .s <| .s <| .g <| .r 4 <| .ne (a.length : Int) (b.length : Int) (fun ac => .d <| .ct <| .s <| .g <| .r 1 <| .d <| .rt Tryz.func119 Tryz.results119 (.bool false) ⟨(congrArg Value.bool (by grind [drop_end])), (Chg.refl _ _)⟩) fun ac => .d <| .cf <| .sk <| .s <| .s <| .g <| .r 3 <| .d <| .b 0 <| T.loop (X := Nat) 0 (fun k => [(0, .slice a1 a.length c1), (1, .slice a2 b.length c2), (12, vI (a.length : Int)), (13, vI (k : Int))]) (fun k W => Chg (ins []) w W ∧ (k ≤ a.length) ∧ (a.drop k = b.drop k ↔ a = b)) (fun k => a.length - k) (by kernel_rfl) ⟨by kernel_rfl, by kernel_rfl, by kernel_rfl, by kernel_rfl, trivial⟩ ⟨Chg.refl _ _, (by simp), (by simp)⟩ ?_
 rintro k ay W ⟨C, au, av⟩ J
 have Z : Mv [] [] w W := Mv.inl C all_nil all_nil
 replace ⟨h1, h2⟩ := (sp Z C).g2 h1 h2
 have E : Chg nil w W := Chg.stepI (Chg.refl nil w) C all_nil
 clear Z
 refine .s <| .g <| .bp ((k : Int) < (a.length : Int)) (fun ae => ?_) (fun ae => .d <| .s <| .cf <| .x 0 rfl <| .s <| .g <| .r 1 <| .d <| .rt Tryz.func119 Tryz.results119 (.bool true) ⟨(congrArg Value.bool (by grind [drop_end])), E⟩)
 refine .d <| .s <| .ct <| .sk <| .s <| .b 1 <| .s <| .g <| .r 2 <| .d <| .s <| .gd nil 8 fun az aa => ?_
 replace ⟨h1, h2, E, C⟩ := (se [] aa).g4 h1 h2 E C
 clear aa
 refine .r [0, 1] ?_
 have af : k < a.length := (by omega)
 refine .ix 2 k 1 h1 af ?_
 obtain ⟨ag, O⟩ : ∃ y, a[k]? = some y := ⟨_, List.getElem?_eq_getElem (by omega)⟩
 have aw := drop_at O; have am := List.mem_of_getElem? O
 obtain ⟨_, rfl, ah⟩ := h1.elem k ag O
 refine .lh 3 0 ah id <| .r [4, 5] ?_
 have ai : k < b.length := (by omega)
 refine .ix 6 k 1 h2 ai ?_
 obtain ⟨aj, V⟩ : ∃ y, b[k]? = some y := ⟨_, List.getElem?_eq_getElem (by omega)⟩
 have ax := drop_at V; have ao := List.mem_of_getElem? V
 obtain ⟨_, rfl, ak⟩ := h2.elem k aj V
 refine .lh 7 0 ak id <| .d fun aA ab => ?_
 replace ⟨E, C⟩ := (se [] ab).g2 E C
 clear ab
 exact .ne ag aj (fun al => .d <| .ct <| .s <| .g <| .r 1 <| .d <| .rt Tryz.func119 Tryz.results119 (.bool false) ⟨(congrArg Value.bool (by grind [drop_end])), E⟩) fun al => .d <| .cf <| .sk <| .ib 1 <| .g <| .it ((k : Int) + 1) <| .r 1 <| .d <| J (k + 1) _ _ ⟨by kernel_rfl, by kernel_rfl, by kernel_rfl, by kernel_rfl, trivial⟩ ⟨C, (by omega), (by grind)⟩ (by omega)
theorem c_spec_l11Same (a : List Int) (b : List Int) {w : World} {F : Nat → Prop} {a1 : Option Addr} {n1 c1 : Nat} (h1 : RepS w F a1 n1 c1 a) {a2 : Option Addr} {n2 c2 : Nat} (h2 : RepS w F a2 n2 c2 b)  : Calls Tryz.prog 110 [.slice a1 n1 c1, .slice a2 n2 c2].toArray w (rets fun rv w' => rv = .bool ((a == b)) ∧ Ext w w') := by
 refine goT Tryz.func110 ?_
 obtain ⟨rfl, aq, h1⟩ := h1.tp
 obtain ⟨rfl, ar, h2⟩ := h2.tp
 refine .s <| .g <| .r 1 <| .d <| .s <| .s <| .g <| .r 4 <| .ne (a.length : Int) (b.length : Int) (fun ac => .d <| .ct <| .s <| .g <| .r 1 <| .d <| .rt Tryz.func110 Tryz.results110 (.bool false) ⟨(congrArg Value.bool (by grind [drop_end])), (Chg.refl _ _)⟩) fun ac => .d <| .cf <| .sk <| .s <| .s <| .g <| .r 1 <| .d <| .b 0 <| T.loop (X := Nat) 0 (fun i => [(0, .slice a1 a.length c1), (1, .slice a2 b.length c2), (5, vI (i : Int))]) (fun i W => Chg (ins []) w W ∧ (i ≤ a.length) ∧ (a.drop i = b.drop i ↔ a = b)) (fun i => a.length - i) (by kernel_rfl) ⟨by kernel_rfl, by kernel_rfl, by kernel_rfl, trivial⟩ ⟨Chg.refl _ _, (by simp), (by simp)⟩ ?_
 rintro i ay W ⟨C, au, av⟩ J
 have Z : Mv [] [] w W := Mv.inl C all_nil all_nil
 replace ⟨h1, h2⟩ := (sp Z C).g2 h1 h2
 have E : Chg nil w W := Chg.stepI (Chg.refl nil w) C all_nil
 clear Z
 refine .s <| .s <| .g <| .r 3 <| .bp ((i : Int) < (a.length : Int)) (fun ae => ?_) (fun ae => .d <| .cf <| .x 0 rfl <| .s <| .g <| .r 1 <| .d <| .rt Tryz.func110 Tryz.results110 (.bool true) ⟨(congrArg Value.bool (by grind [drop_end])), E⟩)
 refine .d <| .ct <| .sk <| .s <| .b 1 <| .s <| .gd nil 8 fun az aa => ?_
 replace ⟨h1, h2, E, C⟩ := (se [] aa).g4 h1 h2 E C
 clear aa
 refine .r [0, 1] ?_
 have af : i < a.length := (by omega)
 refine .ix 2 i 1 h1 af ?_
 obtain ⟨ag, O⟩ : ∃ y, a[i]? = some y := ⟨_, List.getElem?_eq_getElem (by omega)⟩
 have aw := drop_at O; have am := List.mem_of_getElem? O
 obtain ⟨_, rfl, ah⟩ := h1.elem i ag O
 refine .lh 3 0 ah id <| .r [4, 5] ?_
 have ai : i < b.length := (by omega)
 refine .ix 6 i 1 h2 ai ?_
 obtain ⟨aj, V⟩ : ∃ y, b[i]? = some y := ⟨_, List.getElem?_eq_getElem (by omega)⟩
 have ax := drop_at V; have ao := List.mem_of_getElem? V
 obtain ⟨_, rfl, ak⟩ := h2.elem i aj V
 refine .lh 7 0 ak id <| .d fun aA ab => ?_
 replace ⟨E, C⟩ := (se [] ab).g2 E C
 clear ab
 exact .ne ag aj (fun al => .d <| .ct <| .s <| .g <| .r 1 <| .d <| .rt Tryz.func110 Tryz.results110 (.bool false) ⟨(congrArg Value.bool (by grind [drop_end])), E⟩) fun al => .d <| .cf <| .sk <| .ib 1 <| .g <| .r 1 <| .it ((i : Int) + 1) <| .r 1 <| .d <| J (i + 1) _ _ ⟨by kernel_rfl, by kernel_rfl, by kernel_rfl, trivial⟩ ⟨C, (by omega), (by grind)⟩ (by omega)
theorem c_laws_lyInts (a : List Int) (b : List Int) {w : World} {F : Nat → Prop} {a1 : Option Addr} {n1 c1 : Nat} (h1 : RepS w F a1 n1 c1 a) {a2 : Option Addr} {n2 c2 : Nat} (h2 : RepS w F a2 n2 c2 b)  : Calls Tryz.prog 54 [.slice a1 n1 c1, .slice a2 n2 c2].toArray w (rets fun rv w' => rv = .bool ((a == b)) ∧ Ext w w') := by
 refine goT Tryz.func54 ?_
 obtain ⟨rfl, aq, h1⟩ := h1.tp
 obtain ⟨rfl, ar, h2⟩ := h2.tp
 refine .s <| .g <| .r 1 <| .d <| .s <| .s <| .g <| .r 4 <| .ne (a.length : Int) (b.length : Int) (fun ac => .d <| .ct <| .s <| .g <| .r 1 <| .d <| .rt Tryz.func54 Tryz.results54 (.bool false) ⟨(congrArg Value.bool (by grind [drop_end])), (Chg.refl _ _)⟩) fun ac => .d <| .cf <| .sk <| .s <| .s <| .g <| .r 1 <| .d <| .b 0 <| T.loop (X := Nat) 0 (fun i => [(0, .slice a1 a.length c1), (1, .slice a2 b.length c2), (5, vI (i : Int))]) (fun i W => Chg (ins []) w W ∧ (i ≤ a.length) ∧ (a.drop i = b.drop i ↔ a = b)) (fun i => a.length - i) (by kernel_rfl) ⟨by kernel_rfl, by kernel_rfl, by kernel_rfl, trivial⟩ ⟨Chg.refl _ _, (by simp), (by simp)⟩ ?_
 rintro i ay W ⟨C, au, av⟩ J
 have Z : Mv [] [] w W := Mv.inl C all_nil all_nil
 replace ⟨h1, h2⟩ := (sp Z C).g2 h1 h2
 have E : Chg nil w W := Chg.stepI (Chg.refl nil w) C all_nil
 clear Z
 refine .s <| .s <| .g <| .r 3 <| .bp ((i : Int) < (a.length : Int)) (fun ae => ?_) (fun ae => .d <| .cf <| .x 0 rfl <| .s <| .g <| .r 1 <| .d <| .rt Tryz.func54 Tryz.results54 (.bool true) ⟨(congrArg Value.bool (by grind [drop_end])), E⟩)
 refine .d <| .ct <| .sk <| .s <| .b 1 <| .s <| .gd nil 8 fun az aa => ?_
 replace ⟨h1, h2, E, C⟩ := (se [] aa).g4 h1 h2 E C
 clear aa
 refine .r [0, 1] ?_
 have af : i < a.length := (by omega)
 refine .ix 2 i 1 h1 af ?_
 obtain ⟨ag, O⟩ : ∃ y, a[i]? = some y := ⟨_, List.getElem?_eq_getElem (by omega)⟩
 have aw := drop_at O; have am := List.mem_of_getElem? O
 obtain ⟨_, rfl, ah⟩ := h1.elem i ag O
 refine .lh 3 0 ah id <| .r [4, 5] ?_
 have ai : i < b.length := (by omega)
 refine .ix 6 i 1 h2 ai ?_
 obtain ⟨aj, V⟩ : ∃ y, b[i]? = some y := ⟨_, List.getElem?_eq_getElem (by omega)⟩
 have ax := drop_at V; have ao := List.mem_of_getElem? V
 obtain ⟨_, rfl, ak⟩ := h2.elem i aj V
 refine .lh 7 0 ak id <| .d fun aA ab => ?_
 replace ⟨E, C⟩ := (se [] ab).g2 E C
 clear ab
 exact .ne ag aj (fun al => .d <| .ct <| .s <| .g <| .r 1 <| .d <| .rt Tryz.func54 Tryz.results54 (.bool false) ⟨(congrArg Value.bool (by grind [drop_end])), E⟩) fun al => .d <| .cf <| .sk <| .ib 1 <| .g <| .r 1 <| .it ((i : Int) + 1) <| .r 1 <| .d <| J (i + 1) _ _ ⟨by kernel_rfl, by kernel_rfl, by kernel_rfl, trivial⟩ ⟨C, (by omega), (by grind)⟩ (by omega)
theorem c_slices_Equal_impl_Tag_impl_Tag (a : List Tag) (b : List Tag) {w : World} {F : Nat → Prop} {a1 : Option Addr} {n1 c1 : Nat} (h1 : RepS w F a1 n1 c1 a) {a2 : Option Addr} {n2 c2 : Nat} (h2 : RepS w F a2 n2 c2 b)  : Calls Tryz.prog 122 [.slice a1 n1 c1, .slice a2 n2 c2].toArray w (rets fun rv w' => rv = .bool ((a == b)) ∧ Ext w w') := by
 refine goT Tryz.func122 ?_
 obtain ⟨rfl, ao, h1⟩ := h1.tp
 obtain ⟨rfl, aq, h2⟩ := h2.tp
 refine .s <| .g <| .r 1 <| .d <| .s <| .s <| .g <| .r 4 <| .ne (a.length : Int) (b.length : Int) (fun af => .d <| .ct <| .s <| .g <| .r 1 <| .d <| .rt Tryz.func122 Tryz.results122 (.bool false) ⟨(congrArg Value.bool (by grind [drop_end])), (Chg.refl _ _)⟩) fun af => .d <| .cf <| .sk <| .s <| .s <| .g <| .r 3 <| .d <| .b 0 <| T.loop (X := Nat) 0 (fun k => [(0, .slice a1 a.length c1), (1, .slice a2 b.length c2), (12, vI (a.length : Int)), (13, vI (k : Int))]) (fun k W => Chg (ins []) w W ∧ (k ≤ a.length) ∧ (a.drop k = b.drop k ↔ a = b)) (fun k => a.length - k) (by kernel_rfl) ⟨by kernel_rfl, by kernel_rfl, by kernel_rfl, by kernel_rfl, trivial⟩ ⟨Chg.refl _ _, (by simp), (by simp)⟩ ?_
 rintro k ay W ⟨C, ar, au⟩ J
 have Z : Mv [] [] w W := Mv.inl C all_nil all_nil
 replace ⟨h1, h2⟩ := (sp Z C).g2 h1 h2
 have E : Chg nil w W := Chg.stepI (Chg.refl nil w) C all_nil
 clear Z
 refine .s <| .g <| .bp ((k : Int) < (a.length : Int)) (fun ag => ?_) (fun ag => .d <| .s <| .cf <| .x 0 rfl <| .s <| .g <| .r 1 <| .d <| .rt Tryz.func122 Tryz.results122 (.bool true) ⟨(congrArg Value.bool (by grind [drop_end])), E⟩)
 refine .d <| .s <| .ct <| .sk <| .s <| .b 1 <| .s <| .g <| .r 2 <| .d <| .s <| .gd nil 8 fun az aa => ?_
 replace ⟨h1, h2, E, C⟩ := (se [] aa).g4 h1 h2 E C
 clear aa
 refine .r [0, 1] ?_
 have ah : k < a.length := (by omega)
 refine .ix 2 k 2 h1 ah ?_
 obtain ⟨ac, O⟩ : ∃ y, a[k]? = some y := ⟨_, List.getElem?_eq_getElem (by omega)⟩
 have av := drop_at O; have al := List.mem_of_getElem? O
 obtain ⟨_, rfl, ai⟩ := h1.elem k ac O
 refine .lg 3 0 ai id <| .r [4, 5] ?_
 have aj : k < b.length := (by omega)
 refine .ix 6 k 2 h2 aj ?_
 obtain ⟨ae, V⟩ : ∃ y, b[k]? = some y := ⟨_, List.getElem?_eq_getElem (by omega)⟩
 have aw := drop_at V; have am := List.mem_of_getElem? V
 obtain ⟨_, rfl, ak⟩ := h2.elem k ae V
 refine .lg 7 0 ak id <| .d fun aA ab => ?_
 replace ⟨E, C⟩ := (se [] ab).g2 E C
 clear ab
 refine RG.tagNe (t := 112) (x := ac) (y := ae) (by kernel_rfl) (by kernel_rfl) ?_
 cases ax : (ac == ae)
 ·exact .d <| .ct <| .s <| .g <| .r 1 <| .d <| .rt Tryz.func122 Tryz.results122 (.bool false) ⟨(congrArg Value.bool (by grind [drop_end])), E⟩
 exact .d <| .cf <| .sk <| .ib 1 <| .g <| .it ((k : Int) + 1) <| .r 1 <| .d <| J (k + 1) _ _ ⟨by kernel_rfl, by kernel_rfl, by kernel_rfl, by kernel_rfl, trivial⟩ ⟨C, (by omega), (by grind)⟩ (by omega)
theorem c_laws_lyName (a : List Tag) (b : List Tag) {w : World} {F : Nat → Prop} {a1 : Option Addr} {n1 c1 : Nat} (h1 : RepS w F a1 n1 c1 a) {a2 : Option Addr} {n2 c2 : Nat} (h2 : RepS w F a2 n2 c2 b)  : Calls Tryz.prog 87 [.slice a1 n1 c1, .slice a2 n2 c2].toArray w (rets fun rv w' => rv = .bool ((a == b)) ∧ Ext w w') := by
 refine goT Tryz.func87 ?_
 obtain ⟨rfl, ao, h1⟩ := h1.tp
 obtain ⟨rfl, aq, h2⟩ := h2.tp
 refine .s <| .g <| .r 1 <| .d <| .s <| .s <| .g <| .r 4 <| .ne (a.length : Int) (b.length : Int) (fun af => .d <| .ct <| .s <| .g <| .r 1 <| .d <| .rt Tryz.func87 Tryz.results87 (.bool false) ⟨(congrArg Value.bool (by grind [drop_end])), (Chg.refl _ _)⟩) fun af => .d <| .cf <| .sk <| .s <| .s <| .g <| .r 1 <| .d <| .b 0 <| T.loop (X := Nat) 0 (fun i => [(0, .slice a1 a.length c1), (1, .slice a2 b.length c2), (5, vI (i : Int))]) (fun i W => Chg (ins []) w W ∧ (i ≤ a.length) ∧ (a.drop i = b.drop i ↔ a = b)) (fun i => a.length - i) (by kernel_rfl) ⟨by kernel_rfl, by kernel_rfl, by kernel_rfl, trivial⟩ ⟨Chg.refl _ _, (by simp), (by simp)⟩ ?_
 rintro i ay W ⟨C, ar, au⟩ J
 have Z : Mv [] [] w W := Mv.inl C all_nil all_nil
 replace ⟨h1, h2⟩ := (sp Z C).g2 h1 h2
 have E : Chg nil w W := Chg.stepI (Chg.refl nil w) C all_nil
 clear Z
 refine .s <| .s <| .g <| .r 3 <| .bp ((i : Int) < (a.length : Int)) (fun ag => ?_) (fun ag => .d <| .cf <| .x 0 rfl <| .s <| .g <| .r 1 <| .d <| .rt Tryz.func87 Tryz.results87 (.bool true) ⟨(congrArg Value.bool (by grind [drop_end])), E⟩)
 refine .d <| .ct <| .sk <| .s <| .b 1 <| .s <| .gd nil 8 fun az aa => ?_
 replace ⟨h1, h2, E, C⟩ := (se [] aa).g4 h1 h2 E C
 clear aa
 refine .r [0, 1] ?_
 have ah : i < a.length := (by omega)
 refine .ix 2 i 2 h1 ah ?_
 obtain ⟨ac, O⟩ : ∃ y, a[i]? = some y := ⟨_, List.getElem?_eq_getElem (by omega)⟩
 have av := drop_at O; have al := List.mem_of_getElem? O
 obtain ⟨_, rfl, ai⟩ := h1.elem i ac O
 refine .lg 3 0 ai id <| .r [4, 5] ?_
 have aj : i < b.length := (by omega)
 refine .ix 6 i 2 h2 aj ?_
 obtain ⟨ae, V⟩ : ∃ y, b[i]? = some y := ⟨_, List.getElem?_eq_getElem (by omega)⟩
 have aw := drop_at V; have am := List.mem_of_getElem? V
 obtain ⟨_, rfl, ak⟩ := h2.elem i ae V
 refine .lg 7 0 ak id <| .d fun aA ab => ?_
 replace ⟨E, C⟩ := (se [] ab).g2 E C
 clear ab
 refine RG.tagNe (t := 112) (x := ac) (y := ae) (by kernel_rfl) (by kernel_rfl) ?_
 cases ax : (ac == ae)
 ·exact .d <| .ct <| .s <| .g <| .r 1 <| .d <| .rt Tryz.func87 Tryz.results87 (.bool false) ⟨(congrArg Value.bool (by grind [drop_end])), E⟩
 exact .d <| .cf <| .sk <| .ib 1 <| .g <| .r 1 <| .it ((i : Int) + 1) <| .r 1 <| .d <| J (i + 1) _ _ ⟨by kernel_rfl, by kernel_rfl, by kernel_rfl, trivial⟩ ⟨C, (by omega), (by grind)⟩ (by omega)
theorem c_laws_lyRows (a : List Row) (b : List Row) {w : World} {F : Nat → Prop} {a1 : Option Addr} {n1 c1 : Nat} (h1 : RepS w F a1 n1 c1 a) {a2 : Option Addr} {n2 c2 : Nat} (h2 : RepS w F a2 n2 c2 b)  : Calls Tryz.prog 25 [.slice a1 n1 c1, .slice a2 n2 c2].toArray w (rets fun rv w' => rv = .bool ((a == b)) ∧ Ext w w') := by
 refine goT Tryz.func25 ?_
 obtain ⟨rfl, ao, h1⟩ := h1.tp
 obtain ⟨rfl, aq, h2⟩ := h2.tp
 refine .s <| .g <| .r 1 <| .d <| .s <| .s <| .g <| .r 4 <| .ne (a.length : Int) (b.length : Int) (fun af => .d <| .ct <| .s <| .g <| .r 1 <| .d <| .rt Tryz.func25 Tryz.results25 (.bool false) ⟨(congrArg Value.bool (by grind [drop_end])), (Chg.refl _ _)⟩) fun af => .d <| .cf <| .sk <| .s <| .s <| .g <| .r 1 <| .d <| .b 0 <| T.loop (X := Nat) 0 (fun i => [(0, .slice a1 a.length c1), (1, .slice a2 b.length c2), (5, vI (i : Int))]) (fun i W => Chg (ins []) w W ∧ (i ≤ a.length) ∧ (a.drop i = b.drop i ↔ a = b)) (fun i => a.length - i) (by kernel_rfl) ⟨by kernel_rfl, by kernel_rfl, by kernel_rfl, trivial⟩ ⟨Chg.refl _ _, (by simp), (by simp)⟩ ?_
 rintro i ay W ⟨C, ar, au⟩ J
 have Z : Mv [] [] w W := Mv.inl C all_nil all_nil
 replace ⟨h1, h2⟩ := (sp Z C).g2 h1 h2
 have E : Chg nil w W := Chg.stepI (Chg.refl nil w) C all_nil
 clear Z
 refine .s <| .s <| .g <| .r 3 <| .bp ((i : Int) < (a.length : Int)) (fun ag => ?_) (fun ag => .d <| .cf <| .x 0 rfl <| .s <| .g <| .r 1 <| .d <| .rt Tryz.func25 Tryz.results25 (.bool true) ⟨(congrArg Value.bool (by grind [drop_end])), E⟩)
 refine .d <| .ct <| .sk <| .s <| .b 1 <| .s <| .gd nil 8 fun az aa => ?_
 replace ⟨h1, h2, E, C⟩ := (se [] aa).g4 h1 h2 E C
 clear aa
 refine .r [0, 1] ?_
 have ah : i < a.length := (by omega)
 refine .ix 2 i 2 h1 ah ?_
 obtain ⟨ac, O⟩ : ∃ y, a[i]? = some y := ⟨_, List.getElem?_eq_getElem (by omega)⟩
 have av := drop_at O; have al := List.mem_of_getElem? O
 obtain ⟨_, rfl, ai⟩ := h1.elem i ac O
 refine .lg 3 0 ai id <| .r [4, 5] ?_
 have aj : i < b.length := (by omega)
 refine .ix 6 i 2 h2 aj ?_
 obtain ⟨ae, V⟩ : ∃ y, b[i]? = some y := ⟨_, List.getElem?_eq_getElem (by omega)⟩
 have aw := drop_at V; have am := List.mem_of_getElem? V
 obtain ⟨_, rfl, ak⟩ := h2.elem i ae V
 refine .lg 7 0 ak id <| .d fun aA ab => ?_
 replace ⟨E, C⟩ := (se [] ab).g2 E C
 clear ab
 refine RG.rowNe (t := 33) (x := ac) (y := ae) (by kernel_rfl) (by kernel_rfl) ?_
 cases ax : (ac == ae)
 ·exact .d <| .ct <| .s <| .g <| .r 1 <| .d <| .rt Tryz.func25 Tryz.results25 (.bool false) ⟨(congrArg Value.bool (by grind [drop_end])), E⟩
 exact .d <| .cf <| .sk <| .ib 1 <| .g <| .r 1 <| .it ((i : Int) + 1) <| .r 1 <| .d <| J (i + 1) _ _ ⟨by kernel_rfl, by kernel_rfl, by kernel_rfl, trivial⟩ ⟨C, (by omega), (by grind)⟩ (by omega)
theorem c_spec_l3Has (n : List Tag) (t : Tag) {w : World} {F : Nat → Prop} {a1 : Option Addr} {n1 c1 : Nat} (h1 : RepS w F a1 n1 c1 n)  : Calls Tryz.prog 158 [.slice a1 n1 c1, .agg #[.string (bs t.key), .string (bs t.val)]].toArray w (rets fun rv w' => rv = .bool (has n t) ∧ Ext w w') := by
 refine goT Tryz.func158 ?_
 obtain ⟨rfl, ao, h1⟩ := h1.tp
 refine .s <| .g <| .np 112 [vT t.key, vT t.val] fun Z ah aa O J ai => ?_
 replace h1 := (sn [] O aa).g1 h1
 have C := O
 clear O ai aa
 refine .r 1 <| .d <| .s <| .s <| .g <| .r 1 <| .d <| .b 0 <| T.loop (X := Nat) 0 (fun i => [(0, .slice a1 n.length c1), (3, .pointer (some ⟨Z, 0, none⟩)), (5, vI (i : Int))]) (fun i af => Chg (ins []) ah af ∧ (i ≤ n.length) ∧ (has (n.drop i) t = has n t)) (fun i => n.length - i) (by kernel_rfl) ⟨by kernel_rfl, by kernel_rfl, by kernel_rfl, trivial⟩ ⟨Chg.refl _ _, (by simp), (by simp)⟩ ?_
 rintro i aw af ⟨E, aq, ar⟩ V
 have ab : Mv [Z] [Z] ah af := Mv.inl E all_nil (all_cons (.inl (.head _)) all_nil)
 replace ⟨h1, J, C⟩ := (sp ab E).g3 h1 J C
 clear ab
 refine .s <| .s <| .g <| .r 3 <| .bp ((i : Int) < (n.length : Int)) (fun aj => ?_) (fun aj => .d <| .cf <| .x 0 rfl <| .s <| .g <| .r 1 <| .d <| .rt Tryz.func158 Tryz.results158 (.bool false) ⟨(congrArg Value.bool (by grind [has])), C⟩)
 refine .d <| .ct <| .sk <| .s <| .b 1 <| .s <| .gd nil 5 fun ax ac => ?_
 replace ⟨h1, J, C, E⟩ := (se [Z] ac).g4 h1 J C E
 clear ac
 refine .r [0, 1] ?_
 have ak : i < n.length := (by omega)
 refine .ix 2 i 2 h1 ak ?_
 obtain ⟨ag, W⟩ : ∃ y, n[i]? = some y := ⟨_, List.getElem?_eq_getElem (by omega)⟩
 have au := drop_at W; have am := List.mem_of_getElem? W
 obtain ⟨_, rfl, al⟩ := h1.elem i ag W
 refine .lg 3 0 al id <| .ln 4 J id <| .d fun ay ae => ?_
 replace ⟨C, E⟩ := (se [] ae).g2 C E
 clear ae
 refine RG.tagEq (t := 112) (x := ag) (y := t) (by kernel_rfl) (by kernel_rfl) ?_
 cases av : (ag == t)
 ·exact .d <| .cf <| .sk <| .ib 1 <| .g <| .r 1 <| .it ((i : Int) + 1) <| .r 1 <| .d <| V (i + 1) _ _ ⟨by kernel_rfl, by kernel_rfl, by kernel_rfl, trivial⟩ ⟨E, (by omega), (by grind [has])⟩ (by omega)
 exact .d <| .ct <| .s <| .g <| .r 1 <| .d <| .rt Tryz.func158 Tryz.results158 (.bool true) ⟨(congrArg Value.bool (by grind [has])), C⟩
theorem c_spec_l11Ids (names : List (List Tag)) (t : Tag) {w : World} {F : Nat → Prop} {a1 : Option Addr} {n1 c1 : Nat} (h1 : RepS w F a1 n1 c1 names) (p0 : names.length ≤ 1000000) : Calls Tryz.prog 111 [.slice a1 n1 c1, .agg #[.string (bs t.key), .string (bs t.val)]].toArray w (rets fun rv w' => VL (ge w.heap.size) w' (ids names t : List Int) rv ∧ Ext w w') := by
 refine goT Tryz.func111 ?_
 obtain ⟨rfl, ba, h1⟩ := h1.tp
 refine .s <| .g <| .np 112 [vT t.key, vT t.val] fun V br am af J aA => ?_
 replace h1 := (sn [] af am).g1 h1
 have C := af
 clear af aA am
 refine .r 1 <| .d <| .s <| .g <| .ns 0 3 [] fun Z ag aa ao aB aC => ?_
 have aD := nb_new aa J.lt
 have aE := gb_new aa C.size
 have aF := C.cn aa
 replace ⟨h1, J, C⟩ := (sn [V] ao aa).g3 h1 J C
 clear ao aC aa
 have aG : Own (α := Int) ag Z 3 (nin (ge w.heap.size) [Z, V]) 0 0 [] := Own.nil' aB
 refine .r 1 <| .d <| .s <| .s <| .g <| .r 1 <| .d <| .b 0 <| T.loop (X := (List Int) × Nat × Nat × Nat × Nat) (([] : List Int), Z, 0, 0, 0) (fun (out, r_out, n_out, c_out, i) => [(0, .slice a1 names.length c1), (3, .pointer (some ⟨V, 0, none⟩)), (5, vS r_out n_out c_out), (6, vI (i : Int))]) (fun (out, r_out, n_out, c_out, i) al => Chg (ins [Z]) ag al ∧ Own al r_out 3 (nin (ge w.heap.size) [r_out, V]) n_out c_out out ∧ OrB r_out Z ag.heap.size ∧ (i ≤ names.length) ∧ (out.length ≤ i) ∧ (out ++ idsF t i (names.drop i) = ids names t)) (fun (out, r_out, n_out, c_out, i) => names.length - i) (by kernel_rfl) ⟨by kernel_rfl, by kernel_rfl, by kernel_rfl, by kernel_rfl, trivial⟩ ⟨Chg.refl _ _, aG, orb_refl, (by simp [ids]), (by simp [ids]), (by simp [ids])⟩ ?_
 rintro ⟨out, r_out, n_out, c_out, i⟩ bt al ⟨E, O, W, bc, bd, bg⟩ ab
 have bh := nb_or' W aD J.lt
 have aH := gb_or' W aE C.size
 have bi := cov_or' W aF C.size
 have aI : Cov (ins [Z]) ag Z := ⟨.inl (.head _)⟩
 have bj := cov_or' W aI (Nat.le_refl _)
 have aq : Mv [Z, V] [r_out, V] ag al := Mv.inl E (all_cons (.head _) all_nil) (all_cons (orb_mem W (.head _)) (all_cons (.inl (.tail _ (.head _))) all_nil))
 replace ⟨h1, J, C⟩ := (sp aq E).g3 h1 J C
 clear aq
 have bk := O.len; have bm := O.max
 refine .s <| .s <| .g <| .r 3 <| .bp ((i : Int) < (names.length : Int)) (fun aJ => ?_) (fun aJ => ?_)
 ·refine .d <| .ct <| .sk <| .s <| .b 1 <| .s <| .gd nil 5 fun bu ar => ?_
  replace ⟨h1, J, O, C, E⟩ := (se [r_out, V] ar).g5 h1 J O C E
  clear ar
  refine .r [0, 1] ?_
  have aK : i < names.length := (by omega)
  refine .ix 2 i 1 h1 aK ?_
  obtain ⟨az, ah⟩ : ∃ y, names[i]? = some y := ⟨_, List.getElem?_eq_getElem (by omega)⟩
  have bn := drop_at ah; have aU := List.mem_of_getElem? ah
  obtain ⟨_, ⟨bv, bw, bz, rfl, ai⟩, aL⟩ := h1.elem i az ah
  have aM := ai.len
  subst aM
  have bo := ai.max
  refine .lh 3 0 aL id <| .ln 4 J id <| .d fun aV au => ?_
  replace ⟨J, O, ai, C, E⟩ := (se [r_out, V] au).g5 J O ai C E
  clear au
  refine .cl (c_spec_l3Has az t ai.ta (w := aV) (F := all)) ?_
  rintro bA bB ⟨rfl, av⟩
  replace ⟨J, O, C, E⟩ := (se [r_out, V] av).g4 J O C E
  clear av
  cases bq : (has az t)
  ·exact .d <| .cf <| .sk <| .ib 1 <| .g <| .r 1 <| .it ((i : Int) + 1) <| .r 1 <| .d <| ab (out, r_out, n_out, c_out, i + 1) _ _ ⟨by kernel_rfl, by kernel_rfl, by kernel_rfl, by kernel_rfl, trivial⟩ ⟨E, O, W, (by grind [idsF]), (by grind [idsF]), (by grind [idsF])⟩ (by (simp only []; omega))
  refine .d <| .ct <| .g <| .r 2 <| .it ((i : Int) + 1) <| .ns 1 3 [vI ((i : Int) + 1)] fun aN bC ae aw aO aP => ?_
  have aQ := nb_new ae J.lt
  have ax := nb_new ae O.lt
  have aR := gb_new ae C.size
  replace ⟨O, C, E⟩ := (se [r_out, V] aw).g3 O C E
  clear aw aP ae
  have aj : nin (ge w.heap.size) [r_out, V] aN ∧ aN ≠ r_out := hap_mk aR (all_cons ax (all_cons aQ all_nil)) ax
  refine RG.append1 (T := 68) (ty := 68) (y := (i : Int) + 1) O aO (by kernel_rfl) (by kernel_rfl) rfl aj (by omega) fun aW aX bD ac ak ay => ?_
  have aS := orb_or ak W E.size
  replace ⟨C, E⟩ := (s1 ay).g2 C E
  clear ay
  replace ac := ac.rn r_out
  clear ak
  have aY := ac.len; have aZ := ac.max
  exact .r 1 <| .d <| .ib 1 <| .g <| .r 1 <| .it ((i : Int) + 1) <| .r 1 <| .d <| ab ((out ++ [(i : Int) + 1]), aW, n_out + 1, aX, i + 1) _ _ ⟨by kernel_rfl, by kernel_rfl, by kernel_rfl, by kernel_rfl, trivial⟩ ⟨E, ac, aS, (by grind [idsF]), (by grind [idsF]), (by grind [idsF])⟩ (by (simp only []; omega))
 refine .d <| .cf <| .x 0 rfl <| .s <| .g <| .r 2 <| .d ?_
 have aT := O.sl aH
 exact .rt Tryz.func111 Tryz.results111 (vS r_out n_out c_out) ⟨(aT.vl (by grind [idsF]) (fun _ _ h => h.1)), C⟩
theorem c_spec_l2Merge (a : List Row) (b : List Row) {w : World} {F : Nat → Prop} {a1 : Option Addr} {n1 c1 : Nat} (h1 : RepS w F a1 n1 c1 a) {a2 : Option Addr} {n2 c2 : Nat} (h2 : RepS w F a2 n2 c2 b) (p0 : a.length + b.length ≤ 1000000) : Calls Tryz.prog 113 [.slice a1 n1 c1, .slice a2 n2 c2].toArray w (rets fun rv w' => VL (ge w.heap.size) w' (sMerge a b : List Row) rv ∧ Ext w w') := by
 refine goT Tryz.func113 ?_
 obtain ⟨rfl, aG, h1⟩ := h1.tp
 obtain ⟨rfl, aH, h2⟩ := h2.tp
 refine .s <| .g <| .r 1 <| .d <| .s <| .g <| .ns 0 33 [] fun aa aB Z ab ao aq => ?_
 have ar := gb_new Z (Nat.le_refl _)
 have aI : Cov nil w aa := cov_new Z (Nat.le_refl _)
 replace ⟨h1, h2⟩ := (sn [] ab Z).g2 h1 h2
 have C := ab
 clear ab aq Z
 have au : Own (α := Row) aB aa 33 (nin (ge w.heap.size) [aa]) 0 0 [] := Own.nil' ao
 refine .r 1 <| RG.appendF (T := 42) (ty := 42) flat_row au h1 (by kernel_rfl) (by kernel_rfl) (fun b h e => h.2 (e ▸ (.head _))) (by omega) fun al aC am J V ah => ?_
 have av := gb_or V ar C.size
 replace ⟨h2, C⟩ := (sa [aa] ah V).g2 h2 C
 clear ah
 replace J := J.rn aa
 clear V
 have aJ := J.len; have aK := J.max
 refine .r 1 <| .d <| .s <| .s <| .g <| .r 1 <| .d <| .b 0 ?_
 have aD := J.sl av
 replace h2 := (sd am [al] al).g1 h2
 refine T.loop (X := (List Row) × (Option Addr) × Nat × Nat × Nat) ((([] ++ a) : List Row), some ⟨al, 0, none⟩, 0 + a.length, aC, 0) (fun (out, a_out, n_out, c_out, i) => [(1, .slice a2 b.length c2), (5, .slice a_out n_out c_out), (6, vI (i : Int))]) (fun (out, a_out, n_out, c_out, i) W => Chg (ins []) am W ∧ RepS W (nin (ge w.heap.size) []) a_out n_out c_out out ∧ (i ≤ b.length) ∧ (out.length ≤ a.length + i) ∧ ((b.drop i).foldl sPut out = sMerge a b)) (fun (out, a_out, n_out, c_out, i) => b.length - i) (by kernel_rfl) ⟨by kernel_rfl, by kernel_rfl, by kernel_rfl, trivial⟩ ⟨Chg.refl _ _, aD, (by simp [sMerge]), (by simp [sMerge]), (by simp [sMerge])⟩ ?_
 rintro ⟨out, a_out, n_out, c_out, i⟩ aS W ⟨O, E, aL, aM, aN⟩ ac
 have ai : Mv [] [] am W := Mv.inl O all_nil all_nil
 replace ⟨h2, C⟩ := (sp ai O).g2 h2 C
 clear ai
 have aO := E.len; have aP := E.max
 refine .s <| .s <| .g <| .r 3 <| .bp ((i : Int) < (b.length : Int)) (fun aw => ?_) (fun aw => .d <| .cf <| .x 0 rfl <| .s <| .g <| .r 2 <| .d <| .rt Tryz.func113 Tryz.results113 (.slice a_out n_out c_out) ⟨(E.vl (by grind [drop_end]) (fun _ _ h => h.1)), C⟩)
 refine .d <| .ct <| .sk <| .s <| .b 1 <| .g <| .r 3 ?_
 have ax : i < b.length := (by omega)
 refine .ix i 2 h2 ax ?_
 obtain ⟨af, ae⟩ : ∃ y, b[i]? = some y := ⟨_, List.getElem?_eq_getElem (by omega)⟩
 have aQ := drop_at ae; have aA := List.mem_of_getElem? ae
 obtain ⟨_, rfl, ay⟩ := h2.elem i af ae
 refine .lg 0 ay <| .cl (c_spec_l2Put out af E.ta (by omega) (w := W) (F := all)) ?_
 rintro aT aU ⟨⟨aE, aF, rfl, ag⟩, aj⟩
 have ak : ∀ q_ ∈ ([] : List Nat), q_ < W.heap.size := all_nil
 have az : Gb w.heap.size W.heap.size := C.size
 replace ⟨E, C, O⟩ := (se [] aj).g3 E C O
 clear aj
 have ag := ag.fr ak az
 have aR := ag.max
 clear ak
 exact .r 1 <| .d <| .ib 1 <| .g <| .r 1 <| .it ((i : Int) + 1) <| .r 1 <| .d <| ac (sPut out af, aE, (sPut out af).length, aF, i + 1) _ _ ⟨by kernel_rfl, by kernel_rfl, by kernel_rfl, trivial⟩ ⟨O, ag, (by grind [sPut_len]), (by grind [sPut_len]), (by grind [sPut_len])⟩ (by (simp only []; omega))
theorem c_spec_l12Of (p : Prt) (id : Int) {w : World} {F : Nat → Prop} {a1 : Option Addr} {n1 c1 : Nat} (h1 : RepS w F a1 n1 c1 p.ids) {a2 : Option Addr} {n2 c2 : Nat} (h2 : RepS w F a2 n2 c2 p.blocks) (p0 : p.ids.length ≤ p.blocks.length) : Calls Tryz.prog 114 [.agg #[.slice a1 n1 c1, .slice a2 n2 c2], .int .i64 id].toArray w (rets fun rv w' => VL (fo F w.heap.size) w' (partOf p id : List Row) rv ∧ Ext w w') := by
 refine goT Tryz.func114 ?_
 obtain ⟨rfl, aI, h1⟩ := h1.tp
 obtain ⟨rfl, aJ, h2⟩ := h2.tp
 refine .s <| .g <| .np 75 [.slice a1 p.ids.length c1, .slice a2 p.blocks.length c2] fun ab aj ac J E ak => ?_
 replace ⟨h1, h2⟩ := (sn [] J ac).g2 h1 h2
 have C := J
 clear J ak ac
 refine .r 1 <| .d <| .s <| .s <| .g <| .r 1 <| .d <| .b 0 <| T.loop (X := Nat) 0 (fun i => [(1, vI id), (2, .pointer (some ⟨ab, 0, none⟩)), (5, vI (i : Int))]) (fun i ag => Chg (ins []) aj ag ∧ (i ≤ p.ids.length) ∧ (partF id (p.ids.drop i) (p.blocks.drop i) = partOf p id)) (fun i => p.ids.length - i) (by kernel_rfl) ⟨by kernel_rfl, by kernel_rfl, by kernel_rfl, trivial⟩ ⟨Chg.refl _ _, (by simp [partOf]), (by simp [partOf])⟩ ?_
 rintro i aQ ag ⟨O, aK, aL⟩ V
 have ae : Mv [ab] [ab] aj ag := Mv.inl O all_nil (all_cons (.inl (.head _)) all_nil)
 replace ⟨h1, h2, E, C⟩ := (sp ae O).g4 h1 h2 E C
 clear ae
 refine .s <| .s <| .g <| .r 2 <| .lb E <| .r 1 <| .bp ((i : Int) < (p.ids.length : Int)) (fun al => ?_) (fun al => ?_)
 ·refine .d <| .ct <| .sk <| .s <| .b 1 <| .s <| .g <| .r 1 <| .lb E <| .r 1 ?_
  have am : i < p.ids.length := (by omega)
  refine .ix i 1 h1 am ?_
  obtain ⟨ao, W⟩ : ∃ y, p.ids[i]? = some y := ⟨_, List.getElem?_eq_getElem (by omega)⟩
  have aM := drop_at W; have aC := List.mem_of_getElem? W
  obtain ⟨_, rfl, aq⟩ := h1.elem i ao W
  refine .lh 0 aq <| .r 1 <| .eq ao id (fun ar => ?_) (fun ar => .d <| .cf <| .sk <| .ib 1 <| .g <| .r 1 <| .it ((i : Int) + 1) <| .r 1 <| .d <| V (i + 1) _ _ ⟨by kernel_rfl, by kernel_rfl, by kernel_rfl, trivial⟩ ⟨O, (by have := List.drop_eq_getElem_cons (l := p.blocks) (i := i) (by omega); grind [partF]), (by have := List.drop_eq_getElem_cons (l := p.blocks) (i := i) (by omega); grind [partF])⟩ (by omega))
  refine .d <| .ct <| .s <| .g <| .r 1 <| .lb E <| .r 1 ?_
  have au : i < p.blocks.length := (by omega)
  refine .ix i 1 h2 au ?_
  obtain ⟨av, Z⟩ : ∃ y, p.blocks[i]? = some y := ⟨_, List.getElem?_eq_getElem (by omega)⟩
  have aN := drop_at Z; have aD := List.mem_of_getElem? Z
  obtain ⟨_, ⟨aE, aR, aF, rfl, ah⟩, aw⟩ := h2.elem i av Z
  have ax := ah.len
  subst ax
  have aO := ah.max
  exact .lh 0 aw <| .r 1 <| .d <| .rt Tryz.func114 Tryz.results114 (.slice aE av.length aF) ⟨(ah.vl (by grind [partF, drop_end]) (fun _ _ h => h.1)), C⟩
 refine .d <| .cf <| .x 0 rfl <| .s <| .g <| .ns 0 33 [] fun ai aG aa af ay az => ?_
 have aP := nb_new aa E.lt
 have aA := gb_new aa C.size
 replace C := (se [] af).g1 C
 clear af az aa
 have aB : Own (α := Row) aG ai 33 (nin (fo F w.heap.size) [ai, ab]) 0 0 [] := Own.nil' ay
 refine .r 1 <| .d ?_
 have aH := aB.sl (.inr aA)
 exact .rt Tryz.func114 Tryz.results114 (vS ai 0 0) ⟨(aH.vl (by grind [partF, drop_end]) (fun _ _ h => h.1)), C⟩
theorem c_spec_l12Make (blocks : List (List Row)) {w : World} {F : Nat → Prop} {a1 : Option Addr} {n1 c1 : Nat} (h1 : RepS w F a1 n1 c1 blocks) (p0 : blocks.length ≤ 1000000) (p1 : ∀ b ∈ blocks, b.length ≤ 1000000) : Calls Tryz.prog 164 [.slice a1 n1 c1].toArray w (rets fun rv w' => VS (ge w.heap.size) w' (pMake blocks : Prt) rv ∧ Ext w w') := by
 refine goT Tryz.func164 ?_
 obtain ⟨rfl, dx, h1⟩ := h1.tp
 refine .s <| .g <| .np 75 [.slice none 0 0, .slice none 0 0] fun aa d6 aS aT E cx => ?_
 have dy : Cov nil w aa := cov_new aS (Nat.le_refl _)
 replace h1 := (sn [] aT aS).g1 h1
 have C := aT
 clear aT cx aS
 refine .d <| .s <| .g <| .ns 0 3 [] fun ai db aF br cy cz => ?_
 have cA := nb_new aF E.lt
 have cB := gb_new aF C.size
 have cC := C.cn aF
 replace ⟨h1, E, C⟩ := (sn [aa] br aF).g3 h1 E C
 clear br cz aF
 have ak : Own (α := Int) db ai 3 (nin (ge w.heap.size) [ai, aa]) 0 0 [] := Own.nil' cy
 refine .ns 0 42 [] fun ao dd ax bt cD cE => ?_
 have cF := nb_new ax E.lt
 have cG := nb_new ax ak.lt
 have cH := gb_new ax C.size
 have cI := C.cn ax
 replace ⟨h1, E, ak, C⟩ := (sn [ai, aa] bt ax).g4 h1 E ak C
 clear bt cE ax
 have ay : Own (α := List Row) dd ao 42 (nin (ge w.heap.size) [ao, ai, aa]) 0 0 [] := Own.nil' cD
 refine .r 1 <| .np 75 [.slice none 0 0, .slice none 0 0] fun Z d7 az bu cJ cK => ?_
 have dz := nb_new az E.lt
 have cL := nb_new az ak.lt
 have cM := nb_new az ay.lt
 have dA := C.cn az
 replace ⟨h1, E, ak, ay, C⟩ := (sn [ao, ai, aa] bu az).g5 h1 E ak ay C
 clear bu cK az
 refine .sc [vS ai 0 0, vS ao 0 0] cJ fun aI bv aU cN => ?_
 replace ⟨h1, E, ak, ay, C⟩ := (so [Z, ao, ai, aa] bv).g5 h1 E ak ay C
 clear bv cN
 refine .d <| .s <| .s <| .g <| .r 1 <| .d <| .b 0 <| T.loop (X := Nat × (List Int) × Nat × Nat × Nat × (List (List Row)) × Nat × Nat × Nat) (0, ([] : List Int), ai, 0, 0, ([] : List (List Row)), ao, 0, 0) (fun (i, aD, r_p_0, n_p_0, c_p_0, aE, r_p_1, n_p_1, c_p_1) => [(0, .slice a1 blocks.length c1), (2, .pointer (some ⟨aa, 0, none⟩)), (3, .pointer (some ⟨Z, 0, none⟩)), (4, vI (i : Int))]) (fun (i, aD, r_p_0, n_p_0, c_p_0, aE, r_p_1, n_p_1, c_p_1) aP => Chg (ins [ai, ao, Z]) aI aP ∧ Own aP r_p_0 3 (nin (ge w.heap.size) [Z, r_p_1, r_p_0, aa]) n_p_0 c_p_0 aD ∧ OrB r_p_0 ai aI.heap.size ∧ Own aP r_p_1 42 (nin (ge w.heap.size) [Z, r_p_1, r_p_0, aa]) n_p_1 c_p_1 aE ∧ OrB r_p_1 ao aI.heap.size ∧ Nb r_p_1 r_p_0 ∧ Box aP Z 75 [vS r_p_0 n_p_0 c_p_0, vS r_p_1 n_p_1 c_p_1] ∧ (i ≤ blocks.length) ∧ (aD.length ≤ i) ∧ (aE.length ≤ i) ∧ (aD ++ (makeF i (blocks.drop i)).1 = (makeF 0 blocks).1) ∧ (aE ++ (makeF i (blocks.drop i)).2 = (makeF 0 blocks).2)) (fun (i, aD, r_p_0, n_p_0, c_p_0, aE, r_p_1, n_p_1, c_p_1) => blocks.length - i) (by kernel_rfl) ⟨by kernel_rfl, by kernel_rfl, by kernel_rfl, by kernel_rfl, trivial⟩ ⟨Chg.refl _ _, ak, orb_refl, ay, orb_refl, cG, aU, (by simp), (by simp), (by simp), (by simp), (by simp)⟩ ?_
 rintro ⟨i, aD, r_p_0, n_p_0, c_p_0, aE, r_p_1, n_p_1, c_p_1⟩ d8 aP ⟨W, ag, au, O, av, bw, ah, dB, dC, dD, dE, dF⟩ aG
 have dG := nb_or' au cA E.lt
 have cO := nb_or' au (Nb.symm cL) aU.lt
 have cP := gb_or' au cB C.size
 have dH := cov_or' au cC C.size
 have dI := nb_or' av cF E.lt
 have bz := nb_or' av (Nb.symm cM) aU.lt
 have cQ := gb_or' av cH C.size
 have dJ := cov_or' av cI C.size
 have cR : Cov (ins [ai, ao, Z]) aI ai := ⟨.inl (.head _)⟩
 have cS : Cov (ins [ai, ao, Z]) aI ao := ⟨.inl (.tail _ (.head _))⟩
 have dK : Cov (ins [ai, ao, Z]) aI Z := ⟨.inl (.tail _ (.tail _ (.head _)))⟩
 have dL := cov_or' au cR (Nat.le_refl _)
 have dM := cov_or' av cS (Nat.le_refl _)
 have bA : Mv [Z, ao, ai, aa] [Z, r_p_1, r_p_0, aa] aI aP := Mv.inl W (all_cons (.tail _ (.tail _ (.head _))) (all_cons (.tail _ (.head _)) (all_cons (.head _) all_nil))) (all_cons (.inl (.head _)) (all_cons (orb_mem av (.tail _ (.head _))) (all_cons (orb_mem au (.tail _ (.tail _ (.head _)))) (all_cons (.inl (.tail _ (.tail _ (.tail _ (.head _))))) all_nil))))
 replace ⟨h1, E, C⟩ := (sp bA W).g3 h1 E C
 clear bA
 have dN := ag.len; have dO := ag.max
 have dP := O.len; have dQ := O.max
 refine .s <| .s <| .g <| .r 3 <| .bp ((i : Int) < (blocks.length : Int)) (fun cT => ?_) (fun cT => ?_)
 ·refine .d <| .ct <| .sk <| .s <| .b 1 <| .s <| .g <| .r 2 ?_
  have cU : i < blocks.length := (by omega)
  refine .ix i 1 h1 cU ?_
  obtain ⟨aJ, aH⟩ : ∃ y, blocks[i]? = some y := ⟨_, List.getElem?_eq_getElem (by omega)⟩
  have de := drop_at aH; have cV := List.mem_of_getElem? aH
  obtain ⟨_, ⟨dR, dS, dT, rfl, bB⟩, bH⟩ := h1.elem i aJ aH
  have bI := bB.len
  subst bI
  have df := bB.max
  refine .lh 0 bH <| .r 1 <| .bp ((aJ.length : Int) > 0) (fun bJ => ?_) (fun bJ => .d <| .cf <| .sk <| .ib 1 <| .g <| .r 1 <| .it ((i : Int) + 1) <| .r 1 <| .d <| aG (i + 1, aD, r_p_0, n_p_0, c_p_0, aE, r_p_1, n_p_1, c_p_1) _ _ ⟨by kernel_rfl, by kernel_rfl, by kernel_rfl, by kernel_rfl, trivial⟩ ⟨W, ag, au, O, av, bw, ah, (by grind [makeF]), (by grind [makeF]), (by grind [makeF]), (by grind [makeF]), (by grind [makeF])⟩ (by (simp only []; omega)))
  refine .d <| .ct <| .s <| .g <| .r 1 <| .lb ah <| .r 1 <| .it ((i : Int) + 1) <| .ns 1 3 [vI ((i : Int) + 1)] fun bC dU aq aV bK bL => ?_
  have bM := nb_new aq E.lt
  have aW := nb_new aq ag.lt
  have bN := nb_new aq O.lt
  have bO := nb_new aq ah.lt
  have bP := gb_new aq C.size
  replace ⟨h1, E, ag, O, ah, C, W⟩ := (se [Z, r_p_1, r_p_0, aa] aV).g7 h1 E ag O ah C W
  clear aV bL aq
  have aQ : nin (ge w.heap.size) [Z, r_p_1, r_p_0, aa] bC ∧ bC ≠ r_p_0 := hap_mk bP (all_cons bO (all_cons bN (all_cons aW (all_cons bM all_nil)))) aW
  refine RG.append1 (T := 68) (ty := 68) (y := (i : Int) + 1) ag bK (by kernel_rfl) (by kernel_rfl) rfl aQ (by grind) fun ab bD dV J al aX => ?_
  have bQ := nb_or al (Nb.symm bw) O.lt
  have bR := nb_or al cO ah.lt
  have bS := orb_or al au W.size
  replace ⟨h1, E, O, ah, C, W⟩ := (sa [Z, r_p_1, r_p_0, aa] aX al).g6 h1 E O ah C W
  clear aX
  replace J := J.rn r_p_0
  clear al
  have dg := J.len; have dh := J.max
  refine .r 1 <| .ss 0 (vS ab (n_p_0 + 1) bD) ah fun aA aY V bT => ?_
  replace ⟨h1, E, J, O, C, W⟩ := (so [Z, r_p_1, ab, aa] aY).g6 h1 E J O C W
  clear aY bT
  refine .d ?_
  replace h1 := h1.into
  have bU : Gb (Z + 1) aA.heap.size := V.lt
  refine .gd (mtb [ab, r_p_1] aA.heap.size) 9 fun cW aK => ?_
  replace ⟨h1, E, J, O, V, C, W⟩ := (se [Z, r_p_1, ab, aa] aK).g7 h1 E J O V C W
  have aL : Chg (mtb [ab, r_p_1] aA.heap.size) aA cW := Chg.stepN (Chg.refl (mtb [ab, r_p_1] aA.heap.size) aA) aK
  clear aK
  refine .r [0] <| .lb 1 V (nS_of (all_cons (Nb.symm bR) (all_cons (Nb.symm bz) all_nil)) bU) <| .r [3, 4] ?_
  have bV : i < blocks.length := (by omega)
  refine .ix 5 i 1 h1 bV ?_
  obtain ⟨_, ⟨cX, dW, cY, rfl, aw⟩, bW⟩ := h1.elem i aJ aH
  have bX := aw.len
  subst bX
  refine .lh 6 0 bW (h1.nS (pos_of aH) (all_cons (.tail _ (.tail _ (.head _))) (all_cons (.tail _ (.head _)) all_nil))) <| .go 2 <| .ns 0 33 [] fun dX aZ => ?_
  replace ⟨E, J, O, V, aw, C, W, aL⟩ := (se [Z, r_p_1, ab, aa] aZ).g8 E J O V aw C W aL
  clear aZ
  intro aB cZ ae ba bY bZ
  have b0 := nb_new ae E.lt
  have b6 := nb_new ae J.lt
  have b7 := nb_new ae O.lt
  have b8 := nb_new ae V.lt
  have b9 := gb_new ae C.size
  have di := C.cn ae
  have dj := W.cn ae
  have cd := aL.cn ae
  replace ⟨E, J, O, V, aw, C, W⟩ := (sn [Z, r_p_1, ab, aa] ba ae).g7 E J O V aw C W
  clear ba bZ ae
  have aM : Own (α := Row) cZ aB 33 (nin (ge w.heap.size) [aB, Z, r_p_1, ab, aa]) 0 0 [] := Own.nil' bY
  refine .go 7 <| GE.append (T := 42) (ty := 42) (args := [vS aB 0 0, .slice cX aJ.length cY]) (by kernel_rfl) fun dY bc => ?_
  replace ⟨E, J, O, V, aw, aM, C, W⟩ := (se [aB, Z, r_p_1, ab, aa] bc).g8 E J O V aw aM C W
  clear bc
  obtain ⟨aC, c7, dZ, bd, ac, af, aN, ce⟩ := Own.appendF (P := Tryz.prog) (T := 42) (ty := 42) flat_row aM (by kernel_rfl) aw (fun b h e => h.2 (e ▸ (.head _))) (by grind)
  refine ⟨_, _, bd, Chg.toS aN (Cov.toS cd), ?_⟩
  clear ce
  have dk := nb_or af b0 E.lt
  have dm := nb_or af b6 J.lt
  have dp := nb_or af b7 O.lt
  have dq := nb_or af b8 V.lt
  have cg := gb_or af b9 C.size
  replace ⟨E, J, O, V, C, W⟩ := (sa [aB, Z, r_p_1, ab, aa] aN af).g6 E J O V C W
  clear aN
  replace ac := ac.rn aB
  clear af
  have dr := ac.len; have dt := ac.max
  refine .go 8 <| .ns 1 42 [vS aC (0 + aJ.length) c7] fun d0 bg => ?_
  replace ⟨E, J, O, V, ac, C, W⟩ := (se [aC, Z, r_p_1, ab, aa] bg).g7 E J O V ac C W
  clear bg
  intro bE d3 ar bh aO ci
  have cj := nb_new ar E.lt
  have ck := nb_new ar J.lt
  have bi := nb_new ar O.lt
  have cm := nb_new ar V.lt
  have co := gb_new ar C.size
  replace ⟨E, J, O, V, ac, C, W⟩ := (se [aC, Z, r_p_1, ab, aa] bh).g7 E J O V ac C W
  clear bh ci ar
  refine .d fun c8 bj => ?_
  replace ⟨E, J, O, V, ac, aO, C, W⟩ := (se [aC, Z, r_p_1, ab, aa] bj).g8 E J O V ac aO C W
  clear bj
  have c9 := ac.sl cg
  replace ⟨J, O⟩ := (sd c8 [aC, Z, r_p_1, ab, aa] aC).g2 J O
  have aR : nin (ge w.heap.size) [Z, r_p_1, ab, aa] bE ∧ bE ≠ r_p_1 := hap_mk co (all_cons cm (all_cons bi (all_cons ck (all_cons cj all_nil)))) bi
  refine RG.append1 (T := 73) (ty := 73) (y := ([] ++ aJ)) O aO (by kernel_rfl) (by kernel_rfl) ⟨_, _, _, rfl, c9.oi⟩ aR (by grind) fun bk bF d4 aj am bm => ?_
  have cp := nb_or am (Nb.symm bQ) J.lt
  have du := nb_or am bz V.lt
  have cq := orb_or am av W.size
  replace ⟨E, J, V, C, W⟩ := (sa [Z, r_p_1, ab, aa] bm am).g5 E J V C W
  clear bm
  replace aj := aj.rn r_p_1
  clear am
  have dv := aj.len; have dw := aj.max
  refine .r 1 <| .ss 1 (vS bk (n_p_1 + 1) bF) V fun d5 bn cr cu => ?_
  replace ⟨E, J, aj, C, W⟩ := (so [Z, bk, ab, aa] bn).g5 E J aj C W
  clear bn cu
  exact .d <| .ib 1 <| .g <| .r 1 <| .it ((i : Int) + 1) <| .r 1 <| .d <| aG (i + 1, (aD ++ [(i : Int) + 1]), ab, n_p_0 + 1, bD, (aE ++ [([] ++ aJ)]), bk, n_p_1 + 1, bF) _ _ ⟨by kernel_rfl, by kernel_rfl, by kernel_rfl, by kernel_rfl, trivial⟩ ⟨W, J, bS, aj, cq, cp, cr, (by grind [makeF]), (by grind [makeF]), (by grind [makeF]), (by grind [makeF]), (by grind [makeF])⟩ (by (simp only []; omega))
 refine .d <| .cf <| .x 0 rfl <| .s <| .g <| .ln ah <| .sc [vS r_p_0 n_p_0 c_p_0, vS r_p_1 n_p_1 c_p_1] E fun bG bo cv cw => ?_
 replace ⟨ag, O, C⟩ := (so [Z, r_p_1, r_p_0, aa] bo).g3 ag O C
 clear bo cw
 refine .d ?_
 have bq := ag.sl cP
 replace O := (sd bG [Z, r_p_1, r_p_0, aa] r_p_0).g1 O
 have da := O.sl cQ
 replace bq := (sd bG [Z, r_p_1, aa] r_p_1).g1 bq
 exact .rb Tryz.func164 Tryz.results164 cv ⟨(VS.of (y := (⟨aD, aE⟩ : Prt)) ⟨_, rfl, ⟨_, _, _, _, _, _, rfl, bq.w1, da.w1⟩⟩ (by grind [makeF, pMake])), C⟩
end Go.Proofs.YtfnpaglcnmcnbaaGreat
