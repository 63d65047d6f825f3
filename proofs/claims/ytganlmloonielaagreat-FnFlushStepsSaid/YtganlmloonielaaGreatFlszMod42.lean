/- Blocks and parts merged, as the program does it: plain laws. -/
import Derived.Test.YtganlmloonielaaGreatFlszMod30
import Derived.Test.YtganlmloonielaaGreatFlszMod23
import Derived.Test.YtganlmloonielaaGreatFlszMod20
set_option linter.unusedVariables false
set_option linter.unusedSimpArgs false
namespace Go.Proofs.YtganlmloonielaaGreat
theorem blkOf {b : List Row} (h : blockOk b = true) : Blk b := by
 unfold blockOk at h
 simp only [Bool.and_eq_true] at h
 exact h.1
def mergI (a b : List Row) : List Row × Bool := if blockOk a = true ∧ blockOk b = true ∧ ¬ ((sMerge a b).length : Int) > 24 then (sMerge a b, true) else ([], false)
def okM (a b : Prt) (n : Nat) : Bool := (List.range n).all (fun i => (mergI (partI a ((i : Int) + 1)) (partI b ((i : Int) + 1))).2)
def mergQ (a b : Prt) : Prt × Bool := if partOk a = true ∧ partOk b = true ∧ okM a b 6 = true then (pMerge a b, true) else (⟨[], []⟩, false)
def mergeT (s : Sto) (at_ : Int) : Sto × Bool := if storeOk s then mergeR (copyS s) at_ else (⟨⟨[], []⟩, [], []⟩, false)
theorem mergeT_no {s : Sto} {i : Int} (h : storeOk s = false) : mergeT s i = (⟨⟨[], []⟩, [], []⟩, false) := by unfold mergeT; rw [if_neg (by simp [h])]
theorem mergeT_yes {s : Sto} {i : Int} (h : storeOk s = true) : mergeT s i = mergeR (copyS s) i := by unfold mergeT; rw [if_pos h]
end Go.Proofs.YtganlmloonielaaGreat
namespace Go.Proofs.YtganlmloonielaaGreat
section
variable {P : Program} {n : Nat} {K : Env → World → Prop} {ops : Array Oper} {j : Nat} {e : Env} {w : World}
theorem RG.clear {ats : List TypeId} {ty : TypeId} {args : List Value} {v : Value} {w' : World} (h : bltAt n ops j e = some (.clear, ats, ty, args))
 (hr : (Builtin.clear_ ats.toArray ty args.toArray).run P w = .ok v w') (H : RG P n K ops (j + 1) (putE e (opAt ops j).dst v) w') : RG P n K ops j e w := by
 obtain ⟨hg, h⟩ := goAt_of h
 refine RG.val (v := v) hg ?_ H
 split at h
 ·rename_i c hop
  split at h
  ·rename_i b hcal
   simp only [Option.some.injEq, Prod.mk.injEq] at h
   obtain ⟨rfl, rfl, rfl, rfl⟩ := h
   have ha : (c.args.toList.map (ev e)).toArray = c.args.map (ev e) := by apply Array.toList_inj.1; simp
   rw [ha, Array.toArray_toList] at hr
   simp only [execOp, hop, resolve, hcal]
   exact run_bind_ok hr
  ·cases h
 ·cases h
end
theorem prt_one {w : World} {F : Nat → Prop} {x : Prt} {cs : List Value} (h : Rep.rep w F x cs) : ∀ v ∈ cs, oneC v = true := Rep.flat h
theorem Own.oneC {w : World} {r : Nat} {t : TypeId} {F : Nat → Prop} {n c i : Nat} {xs : List Prt} {cs : List Value} (h : Own w r t F n c xs) (hB : Box w r t cs) : ∀ v, i + (n - i) ≤ n → v ∈ (cs.drop (i * 2)).take ((n - i) * 2) → Go.Proofs.YtganlmloonielaaGreat.oneC v = true := by
 intro v hin hv
 obtain ⟨k, hk⟩ := List.mem_iff_getElem?.1 hv
 rw [List.getElem?_take] at hk
 split at hk
 ·rename_i hlt
  rw [List.getElem?_drop] at hk
  have hn := h.len
  have hj : i + k / 2 < xs.length := by omega
  obtain ⟨c1, g1, g2⟩ := h.elem (i + k / 2) xs[i + k / 2] (List.getElem?_eq_getElem hj)
  have hl : c1.length = 2 := Rep.len g1
  have hk2 : k % 2 < c1.length := by omega
  have h3 := g2 (k % 2) c1[k % 2] (List.getElem?_eq_getElem hk2)
  have hz : Rep.sz Prt = 2 := rfl
  unfold Box at hB
  rw [add_lit, hz] at h3
  simp only [World.cell?, hB] at h3
  have e : (i + k / 2) * 2 + k % 2 = i * 2 + k := by omega
  rw [e] at h3
  have h4 : cs[i * 2 + k]? = some c1[k % 2] := by simpa using h3
  rw [hk] at h4
  cases h4
  exact prt_one g1 _ (List.getElem_mem hk2)
 ·cases hk
theorem partG_blk : ∀ (is : List Int) (bs : List (List Row)) (o : Option Int), partG o is bs = true → is.length = bs.length → ∀ b ∈ bs, blockOk b = true := by
 intro is
 induction is with
 | nil =>
   intro bs o _ hl b hb
   cases bs with
   | nil => cases hb
   | cons c cs => simp at hl
 | cons i is ih =>
   intro bs o h hl b hb
   cases bs with
   | nil => cases hb
   | cons c cs =>
     unfold partG at h
     simp only [Bool.and_eq_true] at h
     rcases List.mem_cons.1 hb with rfl | hb
     ·exact h.1.2
     ·exact ih cs (some i) h.2 (by simpa using hl) b hb
theorem partOk_of {p : Prt} (h : partOk p = true) (id : Int) : blockOk (partOf p id) = true := by
 rcases partF_mem id p.ids p.blocks with h1 | h1
 ·unfold partOf; rw [h1]; rfl
 ·unfold partOk at h
  simp only [Bool.and_eq_true, decide_eq_true_eq] at h
  exact partG_blk p.ids p.blocks none h.2 h.1 _ h1
theorem parts_some {id t : Int} : ∀ (ps : List Prt) (o : List Row), (∀ p ∈ ps, PrtI p) → Blk o → ((look t o).isSome = true ∨ ∃ p ∈ ps, (look t (partOf p id)).isSome = true) → (look t (ps.foldl (rowsP id) o)).isSome = true := by
 intro ps
 induction ps with
 | nil =>
   rintro o _ _ (h | ⟨p, hp, _⟩)
   ·exact h
   ·cases hp
 | cons p ps ih =>
   intro o hI ho h
   have hp : Blk (partOf p id) := (hI p (by simp)).of id
   refine ih _ (fun q hq => hI q (by simp [hq])) (ho.merge hp) ?_
   have e : look t (rowsP id o p) = (look t (partOf p id)).or (look t o) := look_merge t o ho hp
   rcases h with h | ⟨q, hq, h⟩
   ·refine .inl ?_
    rw [e]
    cases look t (partOf p id) with
    | none => exact h
    | some x => rfl
   ·rcases List.mem_cons.1 hq with rfl | hq
    ·refine .inl ?_
     rw [e]
     obtain ⟨x, hx⟩ := Option.isSome_iff_exists.1 h
     rw [hx]; rfl
    ·exact .inr ⟨q, hq, h⟩
theorem part_le {p : Prt} {n : Int} (h : partIn p n = true) : ∀ i ∈ p.ids, i ≤ n := by
 unfold partIn at h
 simp only [Bool.and_eq_true] at h
 obtain ⟨h1, h2⟩ := h
 unfold partOk at h1
 simp only [Bool.and_eq_true, decide_eq_true_eq] at h1
 have key : ∀ (is : List Int) (bs : List (List Row)) (o : Option Int), partG o is bs = true → (∀ q, o = some q → ∀ i ∈ is, q < i) ∧ ∀ l, is.getLast? = some l → ∀ i ∈ is, i ≤ l := by
  intro is
  induction is with
  | nil => intro bs o _; exact ⟨fun _ _ i hi => (by cases hi), fun l hl => (by simp at hl)⟩
  | cons x xs ih =>
    intro bs o hg
    cases bs with
    | nil => simp [partG] at hg
    | cons b bs =>
      simp only [partG, Bool.and_eq_true] at hg
      obtain ⟨k1, k2⟩ := ih bs (some x) hg.2
      have hx : ∀ q, o = some q → q < x := fun q hq => by
       have := hg.1.1.1.2
       rw [hq] at this
       simpa using this
      refine ⟨fun q hq i hi => ?_, fun l hl i hi => ?_⟩
      ·rcases List.mem_cons.1 hi with rfl | hi
       ·exact hx q hq
       ·have := k1 x rfl i hi; have := hx q hq; omega
      ·cases hc : xs.getLast? with
       | none =>
         have : xs = [] := List.getLast?_eq_none_iff.1 hc
         subst this
         simp at hl hi
         omega
       | some l2 =>
         have e : (x :: xs).getLast? = some l2 := by rw [List.getLast?_cons, hc]; rfl
         rw [e] at hl
         cases hl
         rcases List.mem_cons.1 hi with rfl | hi
         ·have := k1 i rfl l (List.mem_of_getLast? hc); omega
         ·exact k2 l hc i hi
 intro i hi
 cases hl : p.ids.getLast? with
 | none => rw [hl] at h2; cases h2
 | some l =>
   rw [hl] at h2
   have := (key p.ids p.blocks none h1.2).2 l hl i hi
   have h3 : l ≤ n := by simpa using h2
   omega
theorem partOf_gt {p : Prt} {id : Int} (h : ∀ i ∈ p.ids, i < id) : partOf p id = [] := by
 have key : ∀ (is : List Int) (bs : List (List Row)), (∀ i ∈ is, i < id) → partF id is bs = [] := by
  intro is
  induction is with
  | nil => intro bs _; unfold partF; rfl
  | cons i is ih =>
    intro bs h
    cases bs with
    | nil => unfold partF; rfl
    | cons b bs =>
      unfold partF
      rw [if_neg (by have := h i (by simp); simp; omega)]
      exact ih bs (fun j hj => h j (by simp [hj]))
 exact key _ _ h
theorem mergQ_ok {s : Sto} (h : SD s) (hk : storeOk s = true) {x y : Prt} (hx : x ∈ s.parts) (hy : y ∈ s.parts) : mergQ x y = (pMerge x y, true) := by
 have hK := StoK.of h hk
 have ox := (hK.part x hx).2
 have oy := (hK.part y hy).2
 unfold mergQ
 rw [if_pos]
 refine ⟨ox, oy, ?_⟩
 unfold okM
 rw [List.all_eq_true]
 intro i hi
 rw [List.mem_range] at hi
 have e1 : partI x ((i : Int) + 1) = partOf x ((i : Int) + 1) := by unfold partI; rw [if_pos ox]
 have e2 : partI y ((i : Int) + 1) = partOf y ((i : Int) + 1) := by unfold partI; rw [if_pos oy]
 rw [e1, e2]
 have b1 := partOk_of ox ((i : Int) + 1)
 have b2 := partOk_of oy ((i : Int) + 1)
 have hl : (sMerge (partOf x ((i : Int) + 1)) (partOf y ((i : Int) + 1))).length ≤ 24 := by
  unfold storeOk at hk
  simp only [Bool.and_eq_true, decide_eq_true_eq, List.all_eq_true, List.mem_range, cntOk] at hk
  by_cases hin : i < s.idx.names.length
  ·have bb := (blkOf b1).merge (blkOf b2)
   have hP : Blk (s.parts.foldl (rowsP ((i : Int) + 1)) []) := parts_blk h.part Blk.nil
   refine Nat.le_trans (look_le bb (b := rowsOf s ((i : Int) + 1)) ?_ (fun t ht => ?_)) (hk.2 i hin)
   ·exact (look_mem 0 _ s.mem _ hK.row hP).2
   ·refine rows_ge hK _ t (.inl (parts_some s.parts [] h.part Blk.nil (.inr ?_)))
    rw [look_merge t _ (blkOf b1) (blkOf b2)] at ht
    cases hc : look t (partOf y ((i : Int) + 1)) with
    | some q => exact ⟨y, hy, by rw [hc]; rfl⟩
    | none => rw [hc] at ht; exact ⟨x, hx, ht⟩
  ·have g := fun p hp => partOf_gt (p := p) (id := (i : Int) + 1) (fun j hj => by have := part_le (hk.1.1.2 p hp) j hj; omega)
   rw [g x hx, g y hy]
   decide
 unfold mergI
 rw [if_pos ⟨b1, b2, by omega⟩]
theorem mergeJ_1 {s : Sto} {i : Int} (_h : SD s) (hk : storeOk s = true) (h1 : inR i 0 ((s.parts.length : Int) - 2) = false) : mergeT s i = (copyS s, false) := by
 rw [mergeT_yes hk]; exact mergeR_f h1
end Go.Proofs.YtganlmloonielaaGreat
namespace Go.Proofs.YtganlmloonielaaGreat
theorem rowsI_cut {s : Sto} (h : SD s) (hk : storeOk s = true) {id : Int} {p : List Tag → Bool} (hid : id ∈ findP p 0 s.idx.names) (lo hi : Int) : cutI (rowsI s id) lo hi = cutB (rowsOf s id) lo hi := by
 have := findP_in hid
 rw [rowsI_in hk this.1 this.2, cutI_rows h hk this.1 this.2]
def askInv (s : Sto) (f : List Cnd) (lo hi : Int) (i k : Nat) : Prop := ((findP (fitsI f) 0 s.idx.names).drop i).flatMap (hit1 s lo hi) = (askS s f lo hi).drop k
theorem askInv.start {s : Sto} {f : List Cnd} {lo hi : Int} (h : SD s) (hk : storeOk s = true) : askInv s f lo hi 0 0 := by
 unfold askInv
 rw [askS_I h hk]
 rfl
theorem askInv.skip {s : Sto} {f : List Cnd} {lo hi : Int} {i k : Nat} {id : Int} (h : askInv s f lo hi i k) (hs : SD s) (hk : storeOk s = true) (hd : (findP (fitsI f) 0 s.idx.names).drop i = id :: (findP (fitsI f) 0 s.idx.names).drop (i + 1)) (hl : ((cutI (rowsI s id) lo hi).length : Int) = 0) : askInv s f lo hi (i + 1) k := by
 have hm : id ∈ findP (fitsI f) 0 s.idx.names := List.mem_of_mem_drop (by rw [hd]; simp)
 rw [rowsI_cut hs hk hm] at hl
 unfold askInv at h ⊢
 rw [hd, List.flatMap_cons] at h
 have e : hit1 s lo hi id = [] := by unfold hit1; rw [if_neg (by omega)]
 rw [e, List.nil_append] at h
 exact h
theorem askInv.fin {s : Sto} {f : List Cnd} {lo hi : Int} {i k : Nat} (h : askInv s f lo hi i k) (hi2 : (findP (fitsI f) 0 s.idx.names).length ≤ i) : (askS s f lo hi).length ≤ k := by
 unfold askInv at h
 rw [drop_end hi2] at h
 have := congrArg List.length h
 simp only [List.flatMap_nil, List.length_nil, List.length_drop] at this
 omega
end Go.Proofs.YtganlmloonielaaGreat
namespace Go.Proofs.YtganlmloonielaaGreat
theorem flush_yes {s : Sto} (h : SD s) (h1 : (flushP s).2 = true) : (flushP s).1 = flushX s ∧ storeOk s = true ∧ s.mem ≠ [] ∧ s.parts.length < 6 := by
 cases hk : storeOk s with
 | false => rw [flushP_no hk] at h1; cases h1
 | true =>
   by_cases hc : (s.mem.length : Int) = 0 ∨ (s.parts.length : Int) = 6
   ·rw [flushJ_1 h hk hc] at h1; cases h1
   ·have h6 := parts6 hk
    rw [flushJ_2 h hk (by omega) (by omega)]
    refine ⟨?_, rfl, fun e => ?_, by omega⟩
    ·show (⟨(copyS s).idx, (copyS s).parts ++ [memPart s.mem], []⟩ : Sto) = flushX s
     rw [h.copy]
     rfl
    ·rw [e] at hc; simp at hc
theorem flush_sd {s : Sto} (h : SD s) (h1 : (flushP s).2 = true) : SD (flushP s).1 := by
 obtain ⟨e, hk, _, h4⟩ := flush_yes h h1
 rw [e]
 refine ⟨h.idx, h.nm, h.nd, by simp [flushX]; omega, fun p hp => ?_, by simp [flushX], fun m hm => by simp [flushX] at hm⟩
 rcases List.mem_append.1 hp with hp | hp
 ·exact h.part p hp
 ·simp at hp
  subst hp
  exact PrtI.mem (StoK.of h hk).row
theorem ask_same {s x : Sto} {f : List Cnd} (hi : x.idx = s.idx) (hk : storeOk s = storeOk x) (hr : storeOk s = true → ∀ id : Int, 1 ≤ id → id ≤ s.idx.names.length → rowsOf x id = rowsOf s id) (lo hi2 : Int) : askS x f lo hi2 = askS s f lo hi2 := by
 unfold askS
 rw [← hk]
 cases hs : storeOk s && filtOk f with
 | false => rfl
 | true =>
   simp only [Bool.and_eq_true] at hs
   rw [if_pos rfl, if_pos rfl]
   unfold askP
   rw [hi]
   have key : ∀ (l : List Int), (∀ i ∈ l, 1 ≤ i ∧ i ≤ s.idx.names.length) → l.flatMap (hit1 x lo hi2) = l.flatMap (hit1 s lo hi2) := by
    intro l
    induction l with
    | nil => intro _; rfl
    | cons i is ih =>
      intro h
      rw [List.flatMap_cons, List.flatMap_cons, ih (fun j hj => h j (by simp [hj]))]
      have h1 := h i (by simp)
      unfold hit1
      rw [hr hs.1 i h1.1 h1.2, hi]
   exact key _ (fun i hi => findP_in hi)
end Go.Proofs.YtganlmloonielaaGreat
namespace Go.Proofs.YtganlmloonielaaGreat
theorem pMerge_of (a b : Prt) {id : Int} (h1 : 1 ≤ id) (h2 : id ≤ 6) : partOf (pMerge a b) id = sMerge (partOf a id) (partOf b id) := by
 unfold pMerge
 rw [pMake_of _ h1, List.getD_eq_getElem?_getD]
 unfold pMergeL
 rw [List.getElem?_map, List.getElem?_range (by omega)]
 simp only [Option.map_some, Option.getD_some]
 rw [show (((id - 1).toNat : Nat) : Int) + 1 = id by omega]
def mergeX (s : Sto) (k : Nat) : Sto := ⟨s.idx, mergeP s.parts k, s.mem⟩
theorem mgT_yes {s : Sto} {i : Int} (h : SD s) (h1 : (mergeT s i).2 = true) : storeOk s = true ∧ 0 ≤ i ∧ i + 2 ≤ s.parts.length ∧ (mergeT s i).1 = mergeX s i.toNat := by
 cases hk : storeOk s with
 | false => rw [mergeT_no hk] at h1; cases h1
 | true =>
   cases hr : inR i 0 ((s.parts.length : Int) - 2) with
   | false => rw [mergeJ_1 h hk hr] at h1; cases h1
   | true =>
     have h2 := inR_t hr
     refine ⟨rfl, h2.1, by omega, ?_⟩
     rw [mergeT_yes hk, h.copy]
     unfold mergeR
     rw [if_pos hr]
     rfl
theorem mergeX_at {s : Sto} {k : Nat} (hk : k + 2 ≤ s.parts.length) : ∃ x y, s.parts[k]? = some x ∧ s.parts[k + 1]? = some y ∧ (mergeX s k).parts = s.parts.take k ++ [pMerge x y] ++ s.parts.drop (k + 2) := by
 refine ⟨_, _, List.getElem?_eq_getElem (by omega), List.getElem?_eq_getElem (by omega), ?_⟩
 exact mergeP_at (List.getElem?_eq_getElem (by omega)) (List.getElem?_eq_getElem (by omega))
theorem mergeX_rows {s : Sto} (h : StoK s) {k : Nat} (hk : k + 2 ≤ s.parts.length) {id : Int} (h1 : 1 ≤ id) (h2 : id ≤ 6) : (mergeX s k).parts.foldl (rowsP id) [] = s.parts.foldl (rowsP id) [] ∧ rowsOf (mergeX s k) id = rowsOf s id := by
 obtain ⟨x, y, hx, hy, e⟩ := mergeX_at hk
 have key : (mergeX s k).parts.foldl (rowsP id) [] = s.parts.foldl (rowsP id) [] := by
  have hs : s.parts = s.parts.take k ++ [x, y] ++ s.parts.drop (k + 2) := by
   have e1 := List.take_append_drop k s.parts
   rw [drop_at hx, drop_at hy] at e1
   rw [List.append_assoc]
   exact e1.symm
  rw [e]
  conv => rhs; rw [hs]
  simp only [List.foldl_append, List.foldl_cons, List.foldl_nil]
  congr 1
  have px := h.sd.part x (List.mem_of_getElem? hx)
  have py := h.sd.part y (List.mem_of_getElem? hy)
  have ho : Blk ((s.parts.take k).foldl (rowsP id) []) := parts_blk (fun p hp => h.sd.part p (List.mem_of_mem_take hp)) Blk.nil
  unfold rowsP
  rw [pMerge_of x y h1 h2]
  exact (sMerge_assoc ho (px.of id) (py.of id)).symm
 refine ⟨key, ?_⟩
 unfold rowsOf
 rw [key]
 rfl
theorem partIn_pos {p : Prt} {n : Int} (h : partIn p n = true) : ∃ id : Int, 1 ≤ id ∧ id ≤ 6 ∧ id ≤ n ∧ 0 < (partOf p id).length := by
 have hle := part_le h
 unfold partIn at h
 simp only [Bool.and_eq_true] at h
 obtain ⟨h1, h2⟩ := h
 unfold partOk at h1
 simp only [Bool.and_eq_true, decide_eq_true_eq] at h1
 obtain ⟨h3, h4⟩ := h1
 unfold partOf
 cases hi : p.ids with
 | nil => rw [hi] at h2; simp at h2
 | cons i is =>
   cases hb : p.blocks with
   | nil => rw [hi, hb] at h3; simp at h3
   | cons b bs =>
     rw [hi, hb] at h4
     unfold partG at h4
     simp only [Bool.and_eq_true, decide_eq_true_eq] at h4
     have h5 := inR_t h4.1.1.1.1
     refine ⟨i, h5.1, h5.2, hle i (by rw [hi]; simp), ?_⟩
     unfold partF
     rw [if_pos (by simp)]
     exact h4.1.1.2
theorem merge_len24 {s : Sto} (h : SD s) (hk : storeOk s = true) {x y : Prt} (hx : x ∈ s.parts) (hy : y ∈ s.parts) {id : Int} (h1 : 1 ≤ id) (h2 : id ≤ 6) : Blk (sMerge (partOf x id) (partOf y id)) ∧ (sMerge (partOf x id) (partOf y id)).length ≤ 24 := by
 have e := mergQ_ok h hk hx hy
 unfold mergQ at e
 split at e
 ·rename_i hc
  obtain ⟨ox, oy, hm⟩ := hc
  unfold okM at hm
  rw [List.all_eq_true] at hm
  have := hm (id - 1).toNat (by rw [List.mem_range]; omega)
  rw [show (((id - 1).toNat : Nat) : Int) + 1 = id by omega] at this
  have e1 : partI x id = partOf x id := by unfold partI; rw [if_pos ox]
  have e2 : partI y id = partOf y id := by unfold partI; rw [if_pos oy]
  rw [e1, e2] at this
  refine ⟨(blkOf (partOk_of ox id)).merge (blkOf (partOk_of oy id)), ?_⟩
  unfold mergI at this
  split at this
  ·rename_i hc; have := hc.2.2; omega
  ·cases this
 ·exact absurd (congrArg Prod.snd e) (by simp)
theorem mergeX_ok {s : Sto} (h : SD s) (hk : storeOk s = true) {k : Nat} (hl : k + 2 ≤ s.parts.length) : storeOk (mergeX s k) = true := by
 have hK := StoK.of h hk
 obtain ⟨x, y, hx, hy, e⟩ := mergeX_at hl
 have mx := List.mem_of_getElem? hx
 have my := List.mem_of_getElem? hy
 have hn := h.nm.len
 have hk2 := hk
 unfold storeOk at hk2 ⊢
 simp only [Bool.and_eq_true, decide_eq_true_eq, List.all_eq_true, List.mem_range, cntOk] at hk2 ⊢
 obtain ⟨⟨⟨⟨a1, a2⟩, a3⟩, a4⟩, a5⟩ := hk2
 refine ⟨⟨⟨⟨?_, a2⟩, fun p hp => ?_⟩, a4⟩, fun i hi => ?_⟩
 ·rw [e]
  simp only [List.length_append, List.length_take, List.length_drop, List.length_cons, List.length_nil]
  omega
 ·rw [e] at hp
  simp only [List.mem_append, List.mem_cons, List.not_mem_nil, or_false] at hp
  rcases hp with (hp | rfl) | hp
  ·exact a3 p (List.mem_of_mem_take hp)
  ·show partIn (pMake (pMergeL x y 6)) s.idx.names.length = true
   have hblk : ∀ (i : Nat) b, (pMergeL x y 6)[i]? = some b → i < 6 ∧ b = sMerge (partOf x ((i : Int) + 1)) (partOf y ((i : Int) + 1)) := fun i b hb => by
    unfold pMergeL at hb
    rw [List.getElem?_map] at hb
    by_cases hi : i < 6
    ·rw [List.getElem?_range hi] at hb
     simp only [Option.map_some, Option.some.injEq] at hb
     exact ⟨hi, hb.symm⟩
    ·rw [List.getElem?_eq_none (by simp; omega)] at hb
     cases hb
   refine pMake_in (fun b hb => ?_) (by rw [pMergeL_len]; omega) ?_ (fun i b hb hp => ?_)
   ·obtain ⟨i, hi⟩ := List.mem_iff_getElem?.1 hb
    obtain ⟨h6, rfl⟩ := hblk i b hi
    exact merge_len24 h hk mx my (by omega) (by omega)
   ·obtain ⟨id, g1, g2, _, g4⟩ := partIn_pos (a3 x mx)
    refine ⟨sMerge (partOf x id) (partOf y id), ?_, ?_⟩
    ·unfold pMergeL
     refine List.mem_map.2 ⟨(id - 1).toNat, by simp; omega, ?_⟩
     rw [show (((id - 1).toNat : Nat) : Int) + 1 = id by omega]
    ·have bx := (h.part x mx).of id
     have by' := (h.part y my).of id
     have := look_le bx (bx.merge by') (fun t ht => by
      rw [look_merge t _ bx by']
      cases look t (partOf y id) with
      | none => exact ht
      | some q => rfl)
     omega
   ·obtain ⟨h6, rfl⟩ := hblk i b hb
    by_cases hin : i < s.idx.names.length
    ·exact hin
    ·rw [partOf_gt (p := x) (fun j hj => by have := part_le (a3 x mx) j hj; omega), partOf_gt (p := y) (fun j hj => by have := part_le (a3 y my) j hj; omega)] at hp
     exact absurd hp (by decide)
  ·exact a3 p (List.mem_of_mem_drop hp)
 ·rw [(mergeX_rows hK hl (by omega) (by have : i < s.idx.names.length := hi; omega)).2]
  exact a5 i hi
theorem mergeX_sd {s : Sto} (h : SD s) {k : Nat} (hl : k + 2 ≤ s.parts.length) : SD (mergeX s k) := by
 obtain ⟨x, y, hx, hy, e⟩ := mergeX_at hl
 refine ⟨h.idx, h.nm, h.nd, ?_, fun p hp => ?_, h.nm2, h.mem⟩
 ·have := h.np
  rw [e]
  simp only [List.length_append, List.length_take, List.length_drop, List.length_cons, List.length_nil]
  omega
 ·rw [e] at hp
  simp only [List.mem_append, List.mem_cons, List.not_mem_nil, or_false] at hp
  rcases hp with (hp | rfl) | hp
  ·exact h.part p (List.mem_of_mem_take hp)
  ·exact (h.part x (List.mem_of_getElem? hx)).merge (h.part y (List.mem_of_getElem? hy))
  ·exact h.part p (List.mem_of_mem_drop hp)
section
variable {s : Sto} {i : Int}
theorem merge_sd (h : SD s) (h1 : (mergeT s i).2 = true) : SD (mergeT s i).1 := by
 obtain ⟨_, h2, h3, e⟩ := mgT_yes h h1
 rw [e]
 exact mergeX_sd h (by omega)
theorem merge_says (h : SD s) (h1 : (mergeT s i).2 = true) : askS (mergeT s i).1 [] 0 99 = askS s [] 0 99 ∧ storeOk (mergeT s i).1 = true := by
 obtain ⟨hk, h2, h3, e⟩ := mgT_yes h h1
 have h5 := mergeX_ok h hk (k := i.toNat) (by omega)
 rw [e]
 exact ⟨ask_same (x := mergeX s i.toNat) (s := s) rfl (hk.trans h5.symm) (fun _ id a b => (mergeX_rows (StoK.of h hk) (by omega) a (by have := h.nm.len; omega)).2) _ _, h5⟩
theorem merge_len (h : SD s) (h1 : (mergeT s i).2 = true) : (mergeT s i).1.parts.length + 1 = s.parts.length ∧ 0 ≤ i ∧ i + 2 ≤ s.parts.length ∧ i + 1 ≤ (mergeT s i).1.parts.length := by
 obtain ⟨hk, h2, h3, e⟩ := mgT_yes h h1
 obtain ⟨x, y, hx, hy, e2⟩ := mergeX_at (s := s) (k := i.toNat) (by omega)
 rw [e, e2]
 simp only [List.length_append, List.length_take, List.length_drop, List.length_cons, List.length_nil]
 omega
end
end Go.Proofs.YtganlmloonielaaGreat
namespace Go.Proofs.YtganlmloonielaaGreat
theorem idxF_has (v : Int) : ∀ (l : List Int) (i : Nat), l.contains v = decide (idxF v i l ≥ 0) := by
 intro l
 induction l with
 | nil => intro i; simp [idxF]
 | cons x xs ih =>
   intro i
   have := ih (i + 1)
   have e : idxF v i (x :: xs) = if x == v then (i : Int) else idxF v (i + 1) xs := rfl
   rw [e, List.contains_cons, this]
   by_cases h : x = v
   ·subst h; simp
   ·have h1 : (x == v) = false := beq_eq_false_iff_ne.2 h
    have h2 : (v == x) = false := beq_eq_false_iff_ne.2 (fun e => h e.symm)
    rw [h1, h2]
    simp
def fileF (nx : Int) : Option Int → List Fil → Bool
 | _, [] => true
 | o, f :: fs => inR f.num 1 (nx - 1) && (match o with | some q => decide (q < f.num) | none => true) && partOk f.part && fileF nx (some f.num) fs
def lstOk (d : Dsk) : Bool := d.list.all (fun n => decide (0 ≤ numAt d n)) && decide d.list.Nodup
def diskOk (d : Dsk) : Bool := inR d.next 1 999 && decide (d.files.length ≤ 20) && decide (d.list.length ≤ 6) && fileF d.next none d.files && lstOk d && (nmB d.names && storeOk (openS d))
structure DD (d : Dsk) : Prop where
 g : NmG d.names
 nl : d.list.length ≤ 7
 nf : d.files.length ≤ 20
 file : ∀ f ∈ d.files, PrtI f.part
 next : 0 ≤ d.next ∧ d.next ≤ 999
theorem DD.part {d : Dsk} (h : DD d) (n : Int) : PrtI (partNo d n) := by
 unfold partNo
 rw [List.getD_eq_getElem?_getD]
 cases hx : d.files[(numAt d n).toNat]? with
 | none => exact PrtI.nil
 | some f => exact h.file f (List.mem_of_getElem? hx)
theorem DD.sg {d : Dsk} (h : DD d) : SG (openS d) := by
 refine ⟨⟨h.g, fun _ => rfl⟩, by simp [openS]; exact h.nl, fun p hp => ?_, by simp [openS], by simp [openS]⟩
 simp only [openS, List.mem_map] at hp
 obtain ⟨n, _, rfl⟩ := hp
 exact h.part n
def pnum (fs : List Fil) (k : Nat) : Option Int := prev (fs.map Fil.num) k
theorem fileStep {nx : Int} {fs : List Fil} {k : Nat} {f : Fil} {b : Bool} (h : fileF nx (pnum fs k) (fs.drop k) = b) (hd : fs.drop k = f :: fs.drop (k + 1)) (hf : fs[k]? = some f) (h1 : inR f.num 1 (nx - 1) = true) (h2 : k = 0 ∨ ∃ q, fs[k - 1]? = some q ∧ ¬ q.num ≥ f.num) (h3 : partOk f.part = true) : fileF nx (pnum fs (k + 1)) (fs.drop (k + 1)) = b := by
 rw [hd] at h
 unfold fileF at h
 have e : pnum fs (k + 1) = some f.num := by unfold pnum; rw [prev_succ, List.getElem?_map, hf]; rfl
 have e2 : (match pnum fs k with | some q => decide (q < f.num) | none => true) = true := by
  rcases h2 with rfl | ⟨q, hq, hlt⟩
  ·rfl
  ·by_cases hk : k = 0
   ·subst hk; rfl
   ·have : pnum fs k = some q.num := by unfold pnum; rw [prev_pos _ _ (by omega), List.getElem?_map, hq]; rfl
    rw [this]
    simp
    omega
 rw [h1, h3, e2] at h
 rw [e]
 simpa using h
theorem fileNo {nx : Int} {fs : List Fil} {k : Nat} {f : Fil} {b : Bool} (h : fileF nx (pnum fs k) (fs.drop k) = b) (hd : fs.drop k = f :: fs.drop (k + 1)) (h1 : inR f.num 1 (nx - 1) = false ∨ (0 < k ∧ ∃ q, fs[k - 1]? = some q ∧ q.num ≥ f.num) ∨ partOk f.part = false) : b = false := by
 rw [hd] at h
 unfold fileF at h
 rw [← h]
 rcases h1 with h1 | ⟨hk, q, hq, hge⟩ | h1
 ·rw [h1]; simp
 ·have : pnum fs k = some q.num := by unfold pnum; rw [prev_pos _ _ (by omega), List.getElem?_map, hq]; rfl
  have e2 : decide (q.num < f.num) = false := decide_eq_false (by omega)
  rw [this]
  simp only [e2]
  simp
 ·rw [h1]; simp
theorem fileEnd {nx : Int} {fs : List Fil} {k : Nat} {b : Bool} (h : fileF nx (pnum fs k) (fs.drop k) = b) (hk : fs.length ≤ k) : b = true := by
 rw [drop_end hk] at h
 exact h.symm
def lsTo (d : Dsk) (k : Nat) : Prop := ∀ j n, j < k → d.list[j]? = some n → 0 ≤ numAt d n ∧ n ∉ d.list.take j
theorem lsTo_0 (d : Dsk) : lsTo d 0 := fun j _ h => absurd h (by omega)
def fresh (d : Dsk) (n : Int) (k : Nat) : Prop := n ∉ d.list.take k
theorem fresh_0 (d : Dsk) (n : Int) : fresh d n 0 := by unfold fresh; simp
theorem fresh_step {d : Dsk} {n m : Int} {k : Nat} (h : fresh d n k) (hm : d.list[k]? = some m) (h2 : m ≠ n) : fresh d n (k + 1) := by
 unfold fresh at h ⊢
 rw [List.take_add_one, hm]
 simp only [Option.toList_some, List.mem_append, List.mem_cons, List.not_mem_nil, or_false, not_or]
 exact ⟨h, fun e => h2 e.symm⟩
theorem fresh_of {d : Dsk} {n : Int} {k : Nat} (h : ((d.list.take k).drop 0).contains n = false) : fresh d n k := by
 unfold fresh
 rw [List.drop_zero] at h
 intro hm
 rw [List.contains_iff_mem.2 hm] at h
 cases h
theorem lsTo_step {d : Dsk} {k j : Nat} {n : Int} (h : lsTo d k) (hn : d.list[k]? = some n) (h1 : ¬ numAt d n < 0) (h2 : fresh d n j) (hj : k ≤ j) : lsTo d (k + 1) := fun i m hi hm => by
 by_cases e : i = k
 ·subst e
  rw [hn] at hm
  cases hm
  refine ⟨by omega, fun hmem => h2 ?_⟩
  obtain ⟨a, ha⟩ := List.mem_iff_getElem?.1 hmem
  rw [List.getElem?_take] at ha
  split at ha
  ·exact List.mem_iff_getElem?.2 ⟨a, by rw [List.getElem?_take, if_pos (by omega)]; exact ha⟩
  ·cases ha
 ·exact h i m (by omega) hm
theorem lsTo_end {d : Dsk} {k : Nat} (h : lsTo d k) (hk : d.list.length ≤ k) : lstOk d = true := by
 unfold lstOk
 rw [Bool.and_eq_true, List.all_eq_true, decide_eq_true_eq]
 refine ⟨fun n hn => ?_, ?_⟩
 ·obtain ⟨j, hj⟩ := List.mem_iff_getElem?.1 hn
  have := (h j n (by have := (List.getElem?_eq_some_iff.1 hj).1; omega) hj).1
  simpa using this
 ·unfold List.Nodup
  rw [List.pairwise_iff_getElem]
  intro i j hi hj hij e
  refine (h j d.list[j] (by omega) (List.getElem?_eq_getElem hj)).2 ?_
  rw [← e]
  exact List.mem_iff_getElem?.2 ⟨i, by rw [List.getElem?_take, if_pos hij]; exact List.getElem?_eq_getElem hi⟩
theorem lstNo1 {d : Dsk} {k : Nat} {n : Int} (hn : d.list[k]? = some n) (h : numAt d n < 0) : lstOk d = false := by
 cases hb : lstOk d with
 | false => rfl
 | true =>
   unfold lstOk at hb
   rw [Bool.and_eq_true, List.all_eq_true] at hb
   have := hb.1 n (List.mem_of_getElem? hn)
   simp at this
   omega
theorem lstNo2 {d : Dsk} {k : Nat} {n : Int} (hn : d.list[k]? = some n) (h : n ∈ d.list.take k) : lstOk d = false := by
 cases hb : lstOk d with
 | false => rfl
 | true =>
   unfold lstOk at hb
   rw [Bool.and_eq_true, decide_eq_true_eq] at hb
   obtain ⟨i, hi⟩ := List.mem_iff_getElem?.1 h
   rw [List.getElem?_take] at hi
   split at hi
   ·rename_i hik
    have hd := hb.2
    unfold List.Nodup at hd
    rw [List.pairwise_iff_getElem] at hd
    obtain ⟨a1, a2⟩ := List.getElem?_eq_some_iff.1 hi
    obtain ⟨b1, b2⟩ := List.getElem?_eq_some_iff.1 hn
    exact absurd (a2.trans b2.symm) (hd i k a1 b1 hik)
   ·cases hi
theorem lstOk_at {d : Dsk} (h : lstOk d = true) : ∀ n ∈ d.list, 0 ≤ numAt d n := fun n hn => by
 unfold lstOk at h
 rw [Bool.and_eq_true, List.all_eq_true] at h
 have := h.1 n hn
 simpa using this
theorem lstNo3 {d : Dsk} {k j : Nat} {n m : Int} (hn : d.list[k]? = some n) (hm : d.list[j]? = some m) (hj : j < k) (e : m = n) : lstOk d = false := by
 subst e
 exact lstNo2 hn (List.mem_iff_getElem?.2 ⟨j, by rw [List.getElem?_take, if_pos hj]; exact hm⟩)
theorem lstNo4 {d : Dsk} {k : Nat} {n : Int} (hn : d.list[k]? = some n) (h : ((d.list.take k).drop 0).contains n = true) : lstOk d = false := by
 rw [List.drop_zero] at h
 exact lstNo2 hn (List.contains_iff_mem.1 h)
section
variable {d : Dsk}
theorem dk_1 (h : inR d.next 1 999 = false ∨ (d.files.length : Int) > 20 ∨ (d.list.length : Int) > 6 ∨ (d.names.length : Int) > 6) : diskOk d = false := by
 unfold diskOk
 rcases h with h | h | h | h
 ·rw [h]; simp
 ·rw [decide_eq_false (p := d.files.length ≤ 20) (by omega)]; simp
 ·rw [decide_eq_false (p := d.list.length ≤ 6) (by omega)]; simp
 ·rw [← okS_no1 h]; simp
theorem dk_2 (h : fileF d.next none d.files = false) : diskOk d = false := by unfold diskOk; rw [h]; simp
theorem dk_3 (h : lstOk d = false) : diskOk d = false := by unfold diskOk; rw [h]; simp
theorem dk_4 (h1 : inR d.next 1 999 = true) (h2 : ¬ (d.files.length : Int) > 20) (h3 : ¬ (d.list.length : Int) > 6) (h5 : fileF d.next none d.files = true) (h6 : lstOk d = true) : diskOk d = (nmB d.names && storeOk (openS d)) := by
 unfold diskOk
 rw [h1, h5, h6, decide_eq_true (by omega), decide_eq_true (by omega)]
 simp
theorem dk_5 {y : Sto} (h1 : inR d.next 1 999 = true) (h2 : ¬ (d.files.length : Int) > 20) (h3 : ¬ (d.list.length : Int) > 6) (h5 : fileF d.next none d.files = true) (h6 : lstOk d = true) (hd : NsD d.names) (hy : y.idx.names = d.names ∧ (NmI d.names → NsD d.names → y = openS d)) : (nmB y.idx.names && storeOk y) = diskOk d := by
 rw [dk_4 h1 h2 h3 h5 h6, hy.1]
 cases hb : nmB d.names with
 | false => rfl
 | true => rw [hy.2 (nmB_iff.1 hb) hd]
theorem diskOk_nm (h : diskOk d = true) : NmI d.names ∧ storeOk (openS d) = true ∧ lstOk d = true := by
 unfold diskOk at h
 simp only [Bool.and_eq_true] at h
 exact ⟨nmB_iff.1 h.2.1, h.2.2, h.1.2⟩
theorem DD.sd (h : DD d) (hk : diskOk d = true) : SD (openS d) := by
 obtain ⟨h1, h2, _⟩ := diskOk_nm hk
 have h3 := parts6 h2
 exact h.sg.sd (nmB_iff.2 h1) h3
def dopenS (d : Dsk) : Sto := if diskOk d then openS d else ⟨⟨[], []⟩, [], []⟩
theorem dopen_2 (h : diskOk d = true) : dopenS d = openS d := by unfold dopenS; rw [if_pos h]
end
theorem open_step {d : Dsk} {l : List Int} {i : Nat} {n : Int} {k Y : List Prt} {f : Fil} (h : k ++ (l.drop i).map (partNo d) = Y) (hd : l.drop i = n :: l.drop (i + 1)) (hf : d.files[(numAt d n).toNat]? = some f) : (k ++ [f.part]) ++ (l.drop (i + 1)).map (partNo d) = Y := by
 rw [hd, List.map_cons] at h
 rw [← h]
 have : partNo d n = f.part := by unfold partNo; rw [List.getD_eq_getElem?_getD, hf]; rfl
 rw [this]
 simp
theorem open_end {d : Dsk} {l : List Int} {i : Nat} {k Y : List Prt} (h : k ++ (l.drop i).map (partNo d) = Y) (hi : l.length ≤ i) : k = Y := by
 rw [drop_end hi] at h
 simpa using h
theorem numAt_i {d : Dsk} {n : Int} (h : 0 ≤ numAt d n) : (numAt d n).toNat < d.files.length ∧ numAt d n = ((numAt d n).toNat : Int) := by
 have := (numF_lt n d.files 0).1
 unfold numAt at h ⊢
 omega
def OpenY (d : Dsk) (y : Sto) : Prop := y.idx.names = d.names ∧ y.parts = (openS d).parts ∧ y.mem = [] ∧ (NmI d.names → NsD d.names → y = openS d)
theorem OpenY.mk {d : Dsk} {a : List (List Tag)} {b : List Pst} {c : List Prt} {e : List Smp} (h1 : a = d.names) (h2 : c = d.list.map (partNo d)) (h3 : e = []) (h4 : NmI d.names → NsD d.names → (⟨a, b⟩ : Idx) = idxOf d.names) : OpenY d ⟨⟨a, b⟩, c, e⟩ := by
 subst h2 h3
 refine ⟨h1, rfl, rfl, fun x y => ?_⟩
 unfold openS
 rw [h4 x y]
theorem OpenY.sg {d : Dsk} {y : Sto} (q : OpenY d y) (h : DD d) : SG y := by
 obtain ⟨q1, q2, q3, q4⟩ := q
 refine ⟨⟨by rw [q1]; exact h.g, fun hn => ?_⟩, by rw [q2]; exact h.sg.np, fun p hp => h.sg.part p (by rw [← q2]; exact hp), by rw [q3]; simp, by rw [q3]; simp⟩
 rw [q1] at hn ⊢
 have := q4 hn h.g.nd
 rw [this]
 rfl
theorem OpenY.eq {d : Dsk} {y : Sto} (q : OpenY d y) (h : DD d) (hk : diskOk d = true) : y = dopenS d := by rw [dopen_2 hk]; exact q.2.2.2 (diskOk_nm hk).1 h.g.nd
theorem OpenY.dk {d : Dsk} {y : Sto} (hy : OpenY d y) (h : DD d) (h1 : inR d.next 1 999 = true) (h2 : ¬ (d.files.length : Int) > 20) (h3 : ¬ (d.list.length : Int) > 6) (h5 : fileF d.next none d.files = true) (h6 : lstOk d = true) : (nmB y.idx.names && storeOk y) = diskOk d := dk_5 h1 h2 h3 h5 h6 h.g.nd ⟨hy.1, hy.2.2.2⟩
end Go.Proofs.YtganlmloonielaaGreat
namespace Go.Proofs.YtganlmloonielaaGreat
set_option maxRecDepth 100000
set_option maxHeartbeats 4000000
theorem c_impl_Disk_file_1 (f : Fil) (num : Int) {w : World} {F : Nat → Prop} {a1 : Option Addr} {n1 c1 : Nat} (h1 : RepS w F a1 n1 c1 f.part.ids) {a2 : Option Addr} {n2 c2 : Nat} (h2 : RepS w F a2 n2 c2 f.part.blocks) {bq_num : Nat} (hb_num : Box w bq_num 3 [.int .i64 num])  : Calls Tryz.prog 120 [.agg #[.int .i64 f.num, .slice a1 n1 c1, .slice a2 n2 c2], .pointer (some ⟨bq_num, 0, none⟩)].toArray w (rets fun rv w' => rv = .bool ((f.num == num)) ∧ Ext w w') := by
 refine goT Tryz.func120 ?_
 obtain ⟨rfl, aa, h1⟩ := h1.tp
 obtain ⟨rfl, ab, h2⟩ := h2.tp
 refine .s <| .g <| .np 66 [vI f.num, .slice a1 f.part.ids.length c1, .slice a2 f.part.blocks.length c2] fun ac ae E C J O => ?_
 replace hb_num := (se [] C).g1 hb_num
 have W := C
 exact .r 1 <| .d <| .s <| .g <| .r 1 <| .lb J <| .lb hb_num <| .r 2 <| .d <| .rt Tryz.func120 Tryz.results120 (.bool (f.num == num)) ⟨(congrArg Value.bool (by rfl)), W⟩
theorem c_IndexFunc_files (s : List Fil) (num : Int) {w : World} {F : Nat → Prop} {a1 : Option Addr} {n1 c1 : Nat} (h1 : RepS w F a1 n1 c1 s) {bq_num : Nat} (hb_num : Box w bq_num 3 [.int .i64 num])  : Calls Tryz.prog 119 [.slice a1 n1 c1, .func (.func 120) #[] #[.pointer (some ⟨bq_num, 0, none⟩)]].toArray w (rets fun rv w' => rv = .int .i64 (numF num 0 s) ∧ Ext w w') := by
 refine goT Tryz.func119 ?_
 obtain ⟨rfl, am, h1⟩ := h1.tp
 refine .s <| .g <| .r 1 <| .d <| .s <| .s <| .g <| .r 3 <| .d <| .b 0 <| T.loop (X := Nat) 0 (fun k => [(0, .slice a1 s.length c1), (1, .func (.func 120) #[] #[.pointer (some ⟨bq_num, 0, none⟩)]), (7, vI (s.length : Int)), (8, vI (k : Int))]) (fun k J => Chg (ins []) w J ∧ (k ≤ s.length) ∧ (numF num k (s.drop k) = numF num 0 s)) (fun k => s.length - k) (by kernel_rfl) ⟨by kernel_rfl, by kernel_rfl, by kernel_rfl, by kernel_rfl, trivial⟩ ⟨Chg.refl _ _, (by simp), (by simp)⟩ ?_
 rintro k ax J ⟨C, ao, aq⟩ O
 have aa : Mv [] [] w J := Mv.inl C all_nil all_nil
 replace ⟨h1, hb_num⟩ := (sp aa C).g2 h1 hb_num
 have E : Chg nil w J := Chg.stepI (Chg.refl nil w) C all_nil
 refine .s <| .g <| .bp ((k : Int) < (s.length : Int)) (fun ag => ?_) (fun ag => .d <| .s <| .cf <| .x 0 rfl <| .s <| .g <| .r 1 <| .d <| .rt Tryz.func119 Tryz.results119 (vI (-1)) ⟨(congrArg (Value.int .i64) (by grind [numF, drop_end])), E⟩)
 refine .d <| .s <| .ct <| .sk <| .s <| .b 1 <| .s <| .g <| .r 2 <| .d <| .s <| .g <| .r 3 ?_
 have ah : k < s.length := (by omega)
 refine .ix k 3 h1 ah ?_
 obtain ⟨ac, W⟩ : ∃ y, s[k]? = some y := ⟨_, List.getElem?_eq_getElem (by omega)⟩
 have ar := drop_at W; have al := List.mem_of_getElem? W
 obtain ⟨_, ⟨ay, az, aA, aB, aC, aD, rfl, ae, af⟩, ai⟩ := h1.elem k ac W
 have aj := ae.len
 subst aj
 have au := ae.max
 have ak := af.len
 subst ak
 have av := af.max
 refine .lg 0 ai <| .cl (c_impl_Disk_file_1 ac num ae.ta af.ta hb_num (w := J) (F := all)) ?_
 rintro aE aF ⟨rfl, ab⟩
 replace ⟨hb_num, E, C⟩ := (se [] ab).g3 hb_num E C
 cases aw : (ac.num == num)
 ·exact .d <| .cf <| .sk <| .ib 1 <| .g <| .it ((k : Int) + 1) <| .r 1 <| .d <| O (k + 1) _ _ ⟨by kernel_rfl, by kernel_rfl, by kernel_rfl, by kernel_rfl, trivial⟩ ⟨C, (by omega), (by grind [numF])⟩ (by omega)
 exact .d <| .ct <| .s <| .g <| .r 2 <| .d <| .rt Tryz.func119 Tryz.results119 (vI (k : Int)) ⟨(congrArg (Value.int .i64) (by grind [numF, drop_end])), E⟩
theorem c_impl_Disk_file (d : Dsk) (num : Int) {w : World} {F : Nat → Prop} {a1 : Option Addr} {n1 c1 : Nat} (h1 : RepS w F a1 n1 c1 d.files) {a2 : Option Addr} {n2 c2 : Nat} (h2 : RepS w F a2 n2 c2 d.list) {a3 : Option Addr} {n3 c3 : Nat} (h3 : RepS w F a3 n3 c3 d.names)  : Calls Tryz.prog 71 [.agg #[.slice a1 n1 c1, .slice a2 n2 c2, .slice a3 n3 c3, .int .i64 d.next], .int .i64 num].toArray w (rets fun rv w' => rv = .int .i64 (numAt d num) ∧ Ext w w') := by
 refine goT Tryz.func71 ?_
 obtain ⟨rfl, ai, h1⟩ := h1.tp
 obtain ⟨rfl, aj, h2⟩ := h2.tp
 obtain ⟨rfl, ak, h3⟩ := h3.tp
 refine .s <| .g <| .np 27 [.slice a1 d.files.length c1, .slice a2 d.list.length c2, .slice a3 d.names.length c3, vI d.next] fun ag al O E J ac => ?_
 replace h1 := (sn [] E O).g1 h1
 have C := E
 refine .np 3 [vI num] fun am ah W aa ae af => ?_
 replace ⟨h1, J, C⟩ := (sn [ag] aa W).g3 h1 J C
 refine .r 1 <| .d <| .s <| .g <| .r 1 <| .lb J <| .r 1 <| .cl (c_IndexFunc_files d.files num h1.ta ae (w := ah) (F := all)) ?_
 rintro ao aq ⟨rfl, ab⟩
 replace C := (se [] ab).g1 C
 exact .r 1 <| .d <| .rt Tryz.func71 Tryz.results71 (vI (numF num 0 d.files)) ⟨(congrArg (Value.int .i64) (by rfl)), C⟩
theorem c_slices_Contains_int_int (s : List Int) (v : Int) {w : World} {F : Nat → Prop} {a1 : Option Addr} {n1 c1 : Nat} (h1 : RepS w F a1 n1 c1 s)  : Calls Tryz.prog 72 [.slice a1 n1 c1, .int .i64 v].toArray w (rets fun rv w' => rv = .bool (s.contains v) ∧ Ext w w') := by
 refine goT Tryz.func72 ?_
 obtain ⟨rfl, J, h1⟩ := h1.tp
 refine .s <| .g <| .r 1 <| .d <| .s <| .g <| .r 2 <| .cl (c_slices_Index_int_int s v h1.ta (w := w) (F := all)) ?_
 rintro O W ⟨rfl, C⟩
 have E := C
 exact .r 2 <| .d <| .rt Tryz.func72 Tryz.results72 (.bool (decide (idxF v 0 s ≥ 0))) ⟨(congrArg Value.bool (by exact (idxF_has v s 0).symm)), E⟩
theorem c_spec_DiskOk (d : Dsk) {w : World} {F : Nat → Prop} {a1 : Option Addr} {n1 c1 : Nat} (h1 : RepS w F a1 n1 c1 d.files) {a2 : Option Addr} {n2 c2 : Nat} (h2 : RepS w F a2 n2 c2 d.list) {a3 : Option Addr} {n3 c3 : Nat} (h3 : RepS w F a3 n3 c3 d.names) (p0 : DD d) : Calls Tryz.prog 26 [.agg #[.slice a1 n1 c1, .slice a2 n2 c2, .slice a3 n3 c3, .int .i64 d.next]].toArray w (rets fun rv w' => rv = .bool (diskOk d) ∧ Ext w w') := by
 refine goT Tryz.func26 ?_
 obtain ⟨rfl, cD, h1⟩ := h1.tp
 obtain ⟨rfl, cE, h2⟩ := h2.tp
 obtain ⟨rfl, cF, h3⟩ := h3.tp
 refine .s <| .g <| .np 27 [.slice a1 d.files.length c1, .slice a2 d.list.length c2, .slice a3 d.names.length c3, vI d.next] fun W cj aM aw C bH => ?_
 replace ⟨h1, h2, h3⟩ := (sn [] aw aM).g3 h1 h2 h3
 have E := aw
 refine .r 1 <| .d <| .s <| .s <| .g <| .r 1 <| .lb C <| .cl (c_spec_l6In d.next 1 999 (w := cj) (F := all)) ?_
 rintro dJ bI ⟨rfl, aN⟩
 replace ⟨h1, h2, h3, C, E⟩ := (se [W] aN).g5 h1 h2 h3 C E
 cases aO : (inR d.next 1 999)
 ·have cG := inR_f aO
  exact .r 19 <| .d <| .ct <| .s <| .g <| .r 1 <| .d <| .rt Tryz.func26 Tryz.results26 (.bool false) ⟨(congrArg Value.bool (by symm; exact dk_1 (.inl ‹_›))), E⟩
 have cH := inR_t aO
 refine .r 3 <| .lb C <| .r 1 <| .bp ((d.files.length : Int) > 20) (fun bJ => .r 13 <| .d <| .ct <| .s <| .g <| .r 1 <| .d <| .rt Tryz.func26 Tryz.results26 (.bool false) ⟨(congrArg Value.bool (by symm; exact dk_1 (.inr (.inl ‹_›)))), E⟩) fun bJ => .r 3 <| .lb C <| .r 1 <| .bp ((d.list.length : Int) > 6) (fun bK => .r 7 <| .d <| .ct <| .s <| .g <| .r 1 <| .d <| .rt Tryz.func26 Tryz.results26 (.bool false) ⟨(congrArg Value.bool (by symm; exact dk_1 (.inr (.inr (.inl ‹_›))))), E⟩) fun bK => .r 3 <| .lb C <| .r 1 <| .bp ((d.names.length : Int) > 6) (fun bL => .r 1 <| .d <| .ct <| .s <| .g <| .r 1 <| .d <| .rt Tryz.func26 Tryz.results26 (.bool false) ⟨(congrArg Value.bool (by symm; exact dk_1 (.inr (.inr (.inr ‹_›))))), E⟩) fun bL => .r 1 <| .d <| .cf <| .sk <| .s <| .s <| .g <| .r 1 <| .d <| .b 0 <| T.loop (X := Nat) 0 (fun k => [(1, .pointer (some ⟨W, 0, none⟩)), (3, vI (k : Int))]) (fun k ax => Chg (ins []) bI ax ∧ (k ≤ d.files.length) ∧ (fileF d.next (pnum d.files k) (d.files.drop k) = fileF d.next none d.files)) (fun k => d.files.length - k) (by kernel_rfl) ⟨by kernel_rfl, by kernel_rfl, trivial⟩ ⟨Chg.refl _ _, (by simp), (by rfl)⟩ ?_
 rintro k dK ax ⟨O, cI, cJ⟩ ai
 have aP : Mv [W] [W] bI ax := Mv.inl O all_nil (all_cons (.inl (.head _)) all_nil)
 replace ⟨h1, h2, h3, C, E⟩ := (sp aP O).g5 h1 h2 h3 C E
 refine .s <| .s <| .g <| .r 2 <| .lb C <| .r 1 <| .bp ((k : Int) < (d.files.length : Int)) (fun bM => ?_) (fun bM => ?_)
 ·refine .d <| .ct <| .sk <| .s <| .b 1 <| .s <| .gd nil 35 fun dL aQ => ?_
  replace ⟨h1, h2, h3, C, E, O⟩ := (se [W] aQ).g6 h1 h2 h3 C E O
  refine .r [0] <| .lb 1 C id <| .r [2] ?_
  have bN : k < d.files.length := (by omega)
  refine .ix 3 k 3 h1 bN <| .r [4] ?_
  obtain ⟨ae, aj⟩ : ∃ y, d.files[k]? = some y := ⟨_, List.getElem?_eq_getElem (by omega)⟩
  have cK := drop_at aj; have cg := List.mem_of_getElem? aj
  obtain ⟨_, ⟨dM, dN, dO, dP, dQ, dR, rfl, bO, bP⟩, aR⟩ := h1.elem k ae aj
  have bQ := bO.len
  subst bQ
  have cL := bO.max
  have bR := bP.len
  subst bR
  have cM := bP.max
  refine .lh 5 0 aR id <| .r [6] <| .lb 7 C id <| GA.int (i := 8) (d.next - 1) (by kernel_rfl) (by have q1 := p0.next; omega) <| GA.call1 (i := 9) (by kernel_rfl) (fun ck cN => c_spec_l6In ae.num 1 (d.next - 1) (w := ck) (F := all)) ?_
  cases aS : (inR ae.num 1 (d.next - 1))
  ·have cO := inR_f aS
   refine .r [10, 11, 12, 13, 14, 15, 16, 17, 18, 19, 20, 21, 22, 23, 24, 25, 26, 27, 28, 29, 30, 31, 32, 33, 34] <| .d fun dS aT => ?_
   replace ⟨h1, h2, h3, C, E, O⟩ := (se [W] aT).g6 h1 h2 h3 C E O
   exact .r 6 <| .d <| .ct <| .s <| .g <| .r 1 <| .d <| .rt Tryz.func26 Tryz.results26 (.bool false) ⟨(congrArg Value.bool (by symm; exact dk_2 (fileNo ‹_› ‹_› (.inl ‹_›)))), E⟩
  have cP := inR_t aS
  refine .r [10, 11, 12] <| GA.boolP (i := 13) ((k : Int) > 0) (by kernel_rfl) (fun bT => ?_) (fun bT => ?_)
  ·refine .r [14, 15] <| .lb 16 C id <| .r [17] <| GA.int (i := 18) ((k : Int) - 1) (by kernel_rfl) (by have q1 := p0.next; omega) ?_
   have aU : k - 1 < d.files.length := (by omega)
   refine GA.idx (i := 19) (k - 1) (len := d.files.length) (z := (k : Int) - 1) (sz := 3) (by kernel_rfl) (by omega) aU (h1.addr (Nat.zero_lt_of_lt aU)) <| .r [20] ?_
   obtain ⟨bU, ay⟩ : ∃ y, d.files[k - 1]? = some y := ⟨_, List.getElem?_eq_getElem (by omega)⟩
   have cQ := drop_at ay; have ci := List.mem_of_getElem? ay
   obtain ⟨_, ⟨dT, dU, dV, dW, dX, dY, rfl, bV, bW⟩, bX⟩ := h1.elem (k - 1) bU ay
   have bY := bV.len
   subst bY
   have cR := bV.max
   have bZ := bW.len
   subst bZ
   have cS := bW.max
   refine .lh 21 0 bX id <| .r [22] <| .lb 23 C id <| .r [24] ?_
   have b0 : k < d.files.length := (by omega)
   refine .ix 25 k 3 h1 b0 <| .r [26] <| .lh 27 0 aR id <| GA.boolP (i := 28) (bU.num ≥ ae.num) (by kernel_rfl) (fun b6 => ?_) (fun b6 => ?_)
   ·refine .r [29, 30, 31, 32, 33, 34] <| .d fun dZ aV => ?_
    replace ⟨h1, h2, h3, C, E, O⟩ := (se [W] aV).g6 h1 h2 h3 C E O
    exact .r 6 <| .d <| .ct <| .s <| .g <| .r 1 <| .d <| .rt Tryz.func26 Tryz.results26 (.bool false) ⟨(congrArg Value.bool (by symm; exact dk_2 (fileNo ‹_› ‹_› (.inr (.inl ⟨by omega, _, by assumption, by assumption⟩))))), E⟩
   refine .r [29, 30, 31, 32] <| .lb 33 C id <| .r [34] <| .d fun cm aW => ?_
   replace ⟨h1, h2, h3, C, E, O⟩ := (se [W] aW).g6 h1 h2 h3 C E O
   have bg : k < d.files.length := (by omega)
   refine .ix k 3 h1 bg <| .r 1 ?_
   obtain ⟨_, ⟨cT, cU, cV, cW, cX, cY, rfl, aX, aY⟩, bh⟩ := h1.elem k ae aj
   have bi := aX.len
   subst bi
   have bj := aY.len
   subst bj
   refine .lg 1 bh <| .cl (c_spec_PartOk ae.part aX.ta aY.ta (w := cm) (F := all)) ?_
   rintro cZ c7 ⟨rfl, az⟩
   replace ⟨h1, h2, h3, C, E, O⟩ := (se [W] az).g6 h1 h2 h3 C E O
   cases co : (partOk ae.part)
   ·exact .r 2 <| .d <| .ct <| .s <| .g <| .r 1 <| .d <| .rt Tryz.func26 Tryz.results26 (.bool false) ⟨(congrArg Value.bool (by symm; exact dk_2 (fileNo ‹_› ‹_› (.inr (.inr ‹_›))))), E⟩
   exact .r 2 <| .d <| .cf <| .sk <| .ib 1 <| .g <| .r 1 <| RG.int ((k : Int) + 1) (by kernel_rfl) (by have q1 := p0.next; omega) <| .r 1 <| .d <| ai (k + 1) _ _ ⟨by kernel_rfl, by kernel_rfl, trivial⟩ ⟨O, (by omega), (by exact fileStep ‹_› ‹_› ‹_› ‹_› (.inr ⟨_, by assumption, by assumption⟩) ‹_›)⟩ (by omega)
  refine .r [14, 15, 16, 17, 18, 19, 20, 21, 22, 23, 24, 25, 26, 27, 28, 29, 30, 31, 32] <| .lb 33 C id <| .r [34] <| .d fun b7 aA => ?_
  replace ⟨h1, h2, h3, C, E, O⟩ := (se [W] aA).g6 h1 h2 h3 C E O
  have bk : k < d.files.length := (by omega)
  refine .ix k 3 h1 bk <| .r 1 ?_
  obtain ⟨_, ⟨c8, c9, da, db, de, df, rfl, aZ, ba⟩, bm⟩ := h1.elem k ae aj
  have bn := aZ.len
  subst bn
  have bo := ba.len
  subst bo
  refine .lg 1 bm <| .cl (c_spec_PartOk ae.part aZ.ta ba.ta (w := b7) (F := all)) ?_
  rintro dg dh ⟨rfl, aB⟩
  replace ⟨h1, h2, h3, C, E, O⟩ := (se [W] aB).g6 h1 h2 h3 C E O
  cases cp : (partOk ae.part)
  ·exact .r 2 <| .d <| .ct <| .s <| .g <| .r 1 <| .d <| .rt Tryz.func26 Tryz.results26 (.bool false) ⟨(congrArg Value.bool (by symm; exact dk_2 (fileNo ‹_› ‹_› (.inr (.inr ‹_›))))), E⟩
  exact .r 2 <| .d <| .cf <| .sk <| .ib 1 <| .g <| .r 1 <| RG.int ((k : Int) + 1) (by kernel_rfl) (by have q1 := p0.next; omega) <| .r 1 <| .d <| ai (k + 1) _ _ ⟨by kernel_rfl, by kernel_rfl, trivial⟩ ⟨O, (by omega), (by exact fileStep ‹_› ‹_› ‹_› ‹_› (.inl (by omega)) ‹_›)⟩ (by omega)
 refine .d <| .cf <| .x 0 rfl <| .s <| .s <| .g <| .r 1 <| .d <| .b 2 <| T.loop (X := Nat) 0 (fun k => [(1, .pointer (some ⟨W, 0, none⟩)), (4, vI (k : Int))]) (fun k ak => Chg (ins []) ax ak ∧ (k ≤ d.list.length) ∧ (fileF d.next none d.files = true) ∧ (lsTo d k)) (fun k => d.list.length - k) (by kernel_rfl) ⟨by kernel_rfl, by kernel_rfl, trivial⟩ ⟨Chg.refl _ _, (by simp), (by exact fileEnd ‹_› (by omega)), (by exact lsTo_0 _)⟩ ?_
 rintro k dj ak ⟨J, cq, cr, cu⟩ au
 have aC : Mv [W] [W] ax ak := Mv.inl J all_nil (all_cons (.inl (.head _)) all_nil)
 replace ⟨h1, h2, h3, C, E⟩ := (sp aC J).g5 h1 h2 h3 C E
 refine .s <| .s <| .g <| .r 2 <| .lb C <| .r 1 <| .bp ((k : Int) < (d.list.length : Int)) (fun bq => ?_) (fun bq => ?_)
 ·refine .d <| .ct <| .sk <| .s <| .b 3 <| .s <| .s <| .gd nil 6 fun dm aD => ?_
  replace ⟨h1, h2, h3, C, E, J⟩ := (se [W] aD).g6 h1 h2 h3 C E J
  refine .ln 0 C id <| .r [1] <| .lb 2 C id <| .r [3] ?_
  have br : k < d.list.length := (by omega)
  refine .ix 4 k 1 h2 br ?_
  obtain ⟨af, ag⟩ : ∃ y, d.list[k]? = some y := ⟨_, List.getElem?_eq_getElem (by omega)⟩
  have cv := drop_at ag; have b8 := List.mem_of_getElem? ag
  obtain ⟨_, rfl, bt⟩ := h2.elem k af ag
  refine .lh 5 0 bt id <| .d fun b9 aE => ?_
  replace ⟨h1, h2, h3, C, E, J⟩ := (se [W] aE).g6 h1 h2 h3 C E J
  refine .cl (c_spec_l21At d af h1.ta h2.ta h3.ta (w := b9) (F := all)) ?_
  rintro dp bc ⟨rfl, aF⟩
  replace ⟨h1, h2, h3, C, E, J⟩ := (se [W] aF).g6 h1 h2 h3 C E J
  refine .bp (numAt d af < 0) (fun bu => .d <| .ct <| .s <| .g <| .r 1 <| .d <| .rt Tryz.func26 Tryz.results26 (.bool false) ⟨(congrArg Value.bool (by symm; exact dk_3 (lstNo1 ‹_› ‹_›))), E⟩) fun bu => .d <| .cf <| .sk <| .s <| .g <| .r 1 <| .d <| .b 4 <| T.loop (X := Nat) 0 (fun k1 => [(1, .pointer (some ⟨W, 0, none⟩)), (4, vI (k : Int)), (5, vI (k1 : Int))]) (fun k1 aG => Chg (ins []) bc aG ∧ (k1 ≤ k) ∧ (fresh d af k1)) (fun k1 => k - k1) (by kernel_rfl) ⟨by kernel_rfl, by kernel_rfl, by kernel_rfl, trivial⟩ ⟨Chg.refl _ _, (by omega), (by exact fresh_0 _ _)⟩ ?_
  rintro k1 dq aG ⟨aa, cw, cx⟩ av
  have aH : Mv [W] [W] bc aG := Mv.inl aa all_nil (all_cons (.inl (.head _)) all_nil)
  replace ⟨h1, h2, h3, C, E, J⟩ := (sp aH aa).g6 h1 h2 h3 C E J
  refine .s <| .s <| .g <| .r 2 <| .bp ((k1 : Int) < (k : Int)) (fun bv => ?_) (fun bv => .d <| .cf <| .x 4 rfl <| .ib 3 <| .g <| .r 1 <| RG.int ((k : Int) + 1) (by kernel_rfl) (by have q1 := p0.next; omega) <| .r 1 <| .d <| au (k + 1) _ _ ⟨by kernel_rfl, by kernel_rfl, trivial⟩ ⟨J, (by omega), ‹_›, (by exact lsTo_step ‹_› ‹_› ‹_› (by assumption : fresh d _ k1) (by omega))⟩ (by omega))
  refine .d <| .ct <| .sk <| .s <| .b 5 <| .s <| .gd nil 10 fun dr aI => ?_
  replace ⟨h1, h2, h3, C, E, J, aa⟩ := (se [W] aI).g7 h1 h2 h3 C E J aa
  refine .r [0] <| .lb 1 C id <| .r [2] ?_
  have bw : k1 < d.list.length := (by omega)
  refine .ix 3 k1 1 h2 bw ?_
  obtain ⟨bd, ar⟩ : ∃ y, d.list[k1]? = some y := ⟨_, List.getElem?_eq_getElem (by omega)⟩
  have cy := drop_at ar; have cd := List.mem_of_getElem? ar
  obtain ⟨_, rfl, bz⟩ := h2.elem k1 bd ar
  refine .lh 4 0 bz id <| .r [5] <| .lb 6 C id <| .r [7] ?_
  have bA : k < d.list.length := (by omega)
  refine .ix 8 k 1 h2 bA ?_
  obtain ⟨_, rfl, bB⟩ := h2.elem k af ag
  refine .lh 9 0 bB id <| .d fun dt aJ => ?_
  replace ⟨h1, h2, h3, C, E, J, aa⟩ := (se [W] aJ).g7 h1 h2 h3 C E J aa
  exact .eq bd af (fun bC => .d <| .ct <| .s <| .g <| .r 1 <| .d <| .rt Tryz.func26 Tryz.results26 (.bool false) ⟨(congrArg Value.bool (by symm; exact dk_3 (lstNo3 (k := k) (j := k1) ‹_› ‹_› (by omega) ‹_›))), E⟩) fun bC => .d <| .cf <| .sk <| .ib 5 <| .g <| .r 1 <| RG.int ((k1 : Int) + 1) (by kernel_rfl) (by have q1 := p0.next; omega) <| .r 1 <| .d <| av (k1 + 1) _ _ ⟨by kernel_rfl, by kernel_rfl, by kernel_rfl, trivial⟩ ⟨aa, (by omega), (by exact fresh_step ‹_› ‹_› ‹_›)⟩ (by omega)
 refine .d <| .cf <| .x 2 rfl <| .s <| .g <| .ln C <| .cl (c_spec_l21Open d h1 h2 h3 (by have := p0.g.len; omega) p0.g.sz (by have := p0.nl; omega) (lstOk_at (lsTo_end ‹_› (by omega))) (w := ak) (F := nin (fo F w.heap.size) [W])) ?_
 rintro du ce ⟨⟨_, rfl, ⟨dv, dw, dx, dy, dz, dA, dB, dC, dD, dE, dF, dG, rfl, al, am, ao, aq⟩⟩, aK⟩
 have ac := al1 C.lt
 have ah : Gb w.heap.size ak.heap.size := E.size
 replace E := (se [] aK).g1 E
 replace al := RepS.mixed' (M := [W]) al ac ah
 have cz := al.max
 replace am := RepS.mixed' (M := [W]) am ac ah
 have cA := am.max
 replace ao := RepS.mixed' (M := [W]) ao ac ah
 have cB := ao.max
 replace aq := RepS.mixed' (M := [W]) aq ac ah
 have cC := aq.max
 have bD := al.len
 subst bD
 have bE := am.len
 subst bE
 have bF := ao.len
 subst bF
 have bG := aq.len
 subst bG
 refine .cl (c_spec_StoreOkG (⟨(⟨((openS d).idx).names, ((openS d).idx).posts⟩ : Idx), (openS d).parts, (openS d).mem⟩ : Sto) al.ta am.ta ao.ta aq.ta p0.sg (w := ce) (F := all)) ?_
 rintro dH dI ⟨rfl, aL⟩
 replace E := (se [] aL).g1 E
 exact .r 1 <| .d <| .rt Tryz.func26 Tryz.results26 (.bool (nmB (⟨(⟨((openS d).idx).names, ((openS d).idx).posts⟩ : Idx), (openS d).parts, (openS d).mem⟩ : Sto).idx.names && storeOk (⟨(⟨((openS d).idx).names, ((openS d).idx).posts⟩ : Idx), (openS d).parts, (openS d).mem⟩ : Sto))) ⟨(congrArg Value.bool (by (rw [dk_4 ‹_› (by omega) (by omega) ‹_› (lsTo_end ‹_› (by omega))]; rfl))), E⟩
theorem c_impl_Disk_open (d : Dsk) {w : World} {F : Nat → Prop} {a1 : Option Addr} {n1 c1 : Nat} (h1 : RepS w F a1 n1 c1 d.files) {a2 : Option Addr} {n2 c2 : Nat} (h2 : RepS w F a2 n2 c2 d.list) {a3 : Option Addr} {n3 c3 : Nat} (h3 : RepS w F a3 n3 c3 d.names) (p0 : DD d) (p1 : ∀ n ∈ d.list, 0 ≤ numAt d n) : Calls Tryz.prog 73 [.agg #[.slice a1 n1 c1, .slice a2 n2 c2, .slice a3 n3 c3, .int .i64 d.next]].toArray w (rets fun rv w' => (∃ (y : Sto), VS (ge w.heap.size) w' (y : Sto) rv ∧ (OpenY d y)) ∧ Ext w w') := by
 refine goT Tryz.func73 ?_
 obtain ⟨rfl, dF, h1⟩ := h1.tp
 obtain ⟨rfl, dG, h2⟩ := h2.tp
 obtain ⟨rfl, dH, h3⟩ := h3.tp
 refine .s <| .g <| .np 27 [.slice a1 d.files.length c1, .slice a2 d.list.length c2, .slice a3 d.names.length c3, vI d.next] fun af d9 bB aU aa cm => ?_
 replace ⟨h1, h2, h3⟩ := (sn [] aU bB).g3 h1 h2 h3
 have C := aU
 refine .np 34 [.slice none 0 0, .slice none 0 0, .slice none 0 0, .slice none 0 0] fun ag co aV bC O cp => ?_
 have dI := C.cn aV
 replace ⟨h1, h2, h3, aa, C⟩ := (sn [af] bC aV).g5 h1 h2 h3 aa C
 refine .d <| .s <| .g <| .r 1 <| .lb aa <| .cl (c_impl_indexOfG d.names h3.ta p0.g.len p0.g.l5 p0.g.bl (w := co) (F := all)) ?_
 rintro ec ed ⟨⟨aC, ⟨_, rfl, ⟨cq, ee, cr, cu, ef, cv, rfl, av, aw⟩⟩, dJ⟩, bD⟩
 have aW := al2 O.lt aa.lt
 have bE : Gb w.heap.size co.heap.size := C.size
 replace ⟨h1, h2, h3, aa, O, C⟩ := (se [ag, af] bD).g6 h1 h2 h3 aa O C
 have av := av.fr aW bE
 have dK := av.max
 have aw := aw.fr aW bE
 have dL := aw.max
 have cw := av.len
 subst cw
 have cx := aw.len
 subst cx
 refine .ns 0 42 [] fun aq cX aD bF cy cz => ?_
 have cA := nb_new aD aa.lt
 have cB := nb_new aD O.lt
 have cC := gb_new aD C.size
 have cD := C.cn aD
 replace ⟨h1, h2, h3, aa, O, av, aw, C⟩ := (sn [ag, af] bF aD).g8 h1 h2 h3 aa O av aw C
 have ar : Own (α := Prt) cX aq 42 (nin (ge w.heap.size) [aq, ag, af]) 0 0 [] := Own.nil' cy
 refine .ns 0 107 [] fun ay cY az bG cE cF => ?_
 have cG := nb_new az aa.lt
 have cH := nb_new az O.lt
 have cI := nb_new az ar.lt
 have cJ := gb_new az C.size
 have dM := C.cn az
 replace ⟨h1, h2, h3, aa, O, av, aw, ar, C⟩ := (sn [aq, ag, af] bG az).g9 h1 h2 h3 aa O av aw ar C
 have aE : Own (α := Smp) cY ay 107 (nin (ge w.heap.size) [ay, aq, ag, af]) 0 0 [] := Own.nil' cE
 refine .r 1 <| .np 34 [.slice none 0 0, .slice none 0 0, .slice none 0 0, .slice none 0 0] fun ah eg aA bH cK cL => ?_
 have dN := nb_new aA aa.lt
 have dO := nb_new aA O.lt
 have cM := nb_new aA ar.lt
 have cN := nb_new aA aE.lt
 have dP := C.cn aA
 replace ⟨h1, h2, h3, aa, O, av, aw, ar, aE, C⟩ := (sn [ay, aq, ag, af] bH aA).g10 h1 h2 h3 aa O av aw ar aE C
 refine .sc [.slice cq aC.names.length cr, .slice cu aC.posts.length cv, vS aq 0 0, vS ay 0 0] cK fun aR bI aX cO => ?_
 replace ⟨h1, h2, h3, aa, O, av, aw, ar, aE, C⟩ := (so [ah, ay, aq, ag, af] bI).g10 h1 h2 h3 aa O av aw ar aE C
 refine .d <| .s <| .s <| .g <| .r 1 <| .lb aa <| .r 2 <| .d <| .b 0 <| T.loop (X := Nat × (List (List Tag)) × (Option Addr) × Nat × Nat × (List Pst) × (Option Addr) × Nat × Nat × (List Prt) × Nat × Nat × Nat × (List Smp) × Nat × Nat × Nat) (0, (aC.names : List (List Tag)), cq, aC.names.length, cr, (aC.posts : List Pst), cu, aC.posts.length, cv, ([] : List Prt), aq, 0, 0, ([] : List Smp), ay, 0, 0) (fun (k, aI, a_s_0, n_s_0, c_s_0, aK, a_s_1, n_s_1, c_s_1, aJ, r_s_2, n_s_2, c_s_2, aL, r_s_3, n_s_3, c_s_3) => [(1, .pointer (some ⟨af, 0, none⟩)), (2, .pointer (some ⟨ag, 0, none⟩)), (3, .pointer (some ⟨ah, 0, none⟩)), (13, .slice a2 d.list.length c2), (14, vI (d.list.length : Int)), (15, vI (k : Int))]) (fun (k, aI, a_s_0, n_s_0, c_s_0, aK, a_s_1, n_s_1, c_s_1, aJ, r_s_2, n_s_2, c_s_2, aL, r_s_3, n_s_3, c_s_3) ai => Chg (ins [aq, ay, ah]) aR ai ∧ Own ai r_s_2 42 (nin (ge w.heap.size) [ah, r_s_3, r_s_2, ag, af]) n_s_2 c_s_2 aJ ∧ OrB r_s_2 aq aR.heap.size ∧ Own ai r_s_3 107 (nin (ge w.heap.size) [ah, r_s_3, r_s_2, ag, af]) n_s_3 c_s_3 aL ∧ OrB r_s_3 ay aR.heap.size ∧ Nb r_s_3 r_s_2 ∧ RepS ai (nin (ge w.heap.size) [ah, r_s_3, r_s_2, ag, af]) a_s_0 n_s_0 c_s_0 aI ∧ RepS ai (nin (ge w.heap.size) [ah, r_s_3, r_s_2, ag, af]) a_s_1 n_s_1 c_s_1 aK ∧ Box ai ah 34 [.slice a_s_0 n_s_0 c_s_0, .slice a_s_1 n_s_1 c_s_1, vS r_s_2 n_s_2 c_s_2, vS r_s_3 n_s_3 c_s_3] ∧ (k ≤ d.list.length) ∧ (aJ.length ≤ k) ∧ (aJ ++ (d.list.drop k).map (partNo d) = d.list.map (partNo d)) ∧ (aL = []) ∧ (aI = d.names) ∧ ((NmI d.names → NsD d.names → (⟨aI, aK⟩ : Idx) = idxOf d.names))) (fun (k, aI, a_s_0, n_s_0, c_s_0, aK, a_s_1, n_s_1, c_s_1, aJ, r_s_2, n_s_2, c_s_2, aL, r_s_3, n_s_3, c_s_3) => d.list.length - k) (by kernel_rfl) ⟨by kernel_rfl, by kernel_rfl, by kernel_rfl, by kernel_rfl, by kernel_rfl, by kernel_rfl, trivial⟩ ⟨Chg.refl _ _, ar, orb_refl, aE, orb_refl, cI, av, aw, aX, (by simp), (by simp), (by rfl), (by rfl), (by have q1 : aC.names = d.names ∧ (NmI d.names → NsD d.names → aC = idxOf d.names) := ‹_›; exact q1.1), (by have q1 : aC.names = d.names ∧ (NmI d.names → NsD d.names → aC = idxOf d.names) := ‹_›; exact q1.2)⟩ ?_
 rintro ⟨k, aI, a_s_0, n_s_0, c_s_0, aK, a_s_1, n_s_1, c_s_1, aJ, r_s_2, n_s_2, c_s_2, aL, r_s_3, n_s_3, c_s_3⟩ dQ ai ⟨ac, ae, aj, W, ax, bM, E, J, ab, c7, c8, c9, da, db, de⟩ aS
 have aY := nb_or' aj cA aa.lt
 have df := nb_or' aj cB O.lt
 have aZ := nb_or' aj (Nb.symm cM) aX.lt
 have bN := gb_or' aj cC C.size
 have dg := cov_or' aj cD C.size
 have ba := nb_or' ax cG aa.lt
 have dh := nb_or' ax cH O.lt
 have bO := nb_or' ax (Nb.symm cN) aX.lt
 have bP := gb_or' ax cJ C.size
 have bQ : Cov (ins [aq, ay, ah]) aR aq := ⟨.inl (.head _)⟩
 have dj : Cov (ins [aq, ay, ah]) aR ah := ⟨.inl (.tail _ (.tail _ (.head _)))⟩
 have dm := cov_or' aj bQ (Nat.le_refl _)
 have bc : Mv [ah, ay, aq, ag, af] [ah, r_s_3, r_s_2, ag, af] aR ai := Mv.inl ac (all_cons (.tail _ (.tail _ (.head _))) (all_cons (.tail _ (.head _)) (all_cons (.head _) all_nil))) (all_cons (.inl (.head _)) (all_cons (orb_mem ax (.tail _ (.head _))) (all_cons (orb_mem aj (.tail _ (.tail _ (.head _)))) (all_cons (.inl (.tail _ (.tail _ (.tail _ (.head _))))) (all_cons (.inl (.tail _ (.tail _ (.tail _ (.tail _ (.head _)))))) all_nil)))))
 replace ⟨h1, h2, h3, aa, O, C⟩ := (sp bc ac).g6 h1 h2 h3 aa O C
 have dp := ae.len; have dq := ae.max
 have dr := W.len; have dt := W.max
 have du := E.len; have dv := E.max
 have dw := J.len; have dx := J.max
 refine .s <| .g <| .bp ((k : Int) < (d.list.length : Int)) (fun bR => ?_) (fun bR => ?_)
 ·refine .d <| .s <| .ct <| .sk <| .s <| .b 1 <| .s <| .g ?_
  have bd : k < d.list.length := (by omega)
  refine RG.idx k (len := d.list.length) (i := (k : Int)) (sz := 1) (by kernel_rfl) (by omega) bd (h2.addr (Nat.zero_lt_of_lt bd)) ?_
  obtain ⟨aB, aM⟩ : ∃ y, d.list[k]? = some y := ⟨_, List.getElem?_eq_getElem (by omega)⟩
  have dy := drop_at aM; have cP := List.mem_of_getElem? aM
  obtain ⟨_, rfl, bS⟩ := h2.elem k aB aM
  refine .lh 0 bS <| .r 1 <| .d ?_
  replace h1 := h1.into
  replace h2 := h2.into
  replace h3 := h3.into
  replace E := E.into
  replace J := J.into
  have bg : Gb (af + 1) ai.heap.size := aa.lt
  have bT : Gb (ah + 1) ai.heap.size := ab.lt
  refine .gd (mtb [r_s_2, r_s_3] ai.heap.size) 12 fun dR bh => ?_
  replace ⟨h1, h2, h3, aa, O, ae, W, ab, E, J, C, ac⟩ := (se [ah, r_s_3, r_s_2, ag, af] bh).g12 h1 h2 h3 aa O ae W ab E J C ac
  refine .r [0] <| .lb 1 ab (nS_of (all_cons (Nb.symm aZ) (all_cons (Nb.symm bO) all_nil)) bT) <| .r [2] <| .lb 3 aa (nS_of (all_cons (Nb.symm aY) (all_cons (Nb.symm ba) all_nil)) bg) <| .ln 4 aa (nS_of (all_cons (Nb.symm aY) (all_cons (Nb.symm ba) all_nil)) bg) <| .r [5] <| GA.call1 (i := 6) (by kernel_rfl) (fun cQ aN => c_impl_Disk_file d aB (h1.chgS aN (all_cons (.tail _ (.tail _ (.head _))) (all_cons (.tail _ (.head _)) all_nil))) (h2.chgS aN (all_cons (.tail _ (.tail _ (.head _))) (all_cons (.tail _ (.head _)) all_nil))) (h3.chgS aN (all_cons (.tail _ (.tail _ (.head _))) (all_cons (.tail _ (.head _)) all_nil))) (w := cQ) (F := all)) ?_
  have bi : (numAt d aB).toNat < d.files.length := (by exact (numAt_i (p1 _ ‹_›)).1)
  refine GA.idx (i := 7) ((numAt d aB).toNat) (len := d.files.length) (z := numAt d aB) (sz := 3) (by kernel_rfl) (by exact (numAt_i (p1 _ ‹_›)).2) bi (h1.addr (Nat.zero_lt_of_lt bi)) <| .r [8] ?_
  obtain ⟨aF, aG⟩ : ∃ y, d.files[(numAt d aB).toNat]? = some y := ⟨_, List.getElem?_eq_getElem (by omega)⟩
  have dz := drop_at aG; have cR := List.mem_of_getElem? aG
  obtain ⟨_, ⟨dS, dT, dU, dV, dW, dX, rfl, bj, bk⟩, bU⟩ := h1.elem ((numAt d aB).toNat) aF aG
  have bV := bj.len
  subst bV
  have dA := bj.max
  have bW := bk.len
  subst bW
  have dB := bk.max
  refine .lg 9 1 bU (h1.nS (pos_of aG) (all_cons (.tail _ (.tail _ (.head _))) (all_cons (.tail _ (.head _)) all_nil))) <| .go 10 <| .cl (fun bm aH => c_impl_clonePart aF.part (bj.ta.ext aH) (bk.ta.ext aH) (p0.file _ ‹_›).sz (w := bm) (F := all)) ?_
  intro bm aH
  replace ⟨aa, O, ae, W, ab, E, J, C, ac⟩ := (se [ah, r_s_3, r_s_2, ag, af] aH).g9 aa O ae W ab E J C ac
  rintro dY dZ ⟨⟨_, rfl, ⟨cS, d0, cT, cU, d3, cV, rfl, ak, al⟩⟩, aO⟩
  have aP := al5 ab.lt W.lt ae.lt O.lt aa.lt
  have bn : Gb w.heap.size bm.heap.size := C.size
  have hkeep_ := aO
  replace ⟨aa, O, ae, W, ab, E, J, C, ac⟩ := (se [ah, r_s_3, r_s_2, ag, af] aO).g9 aa O ae W ab E J C ac
  refine ⟨Ext.chg hkeep_, ?_⟩
  have ak := ak.fr aP bn
  have al := al.fr aP bn
  have bX := ak.len
  subst bX
  have bY := al.len
  subst bY
  refine .go 11 <| .ns 1 42 [.slice cS aF.part.ids.length cT, .slice cU aF.part.blocks.length cV] fun d4 bo => ?_
  replace ⟨aa, O, ae, W, ab, E, J, ak, al, C, ac⟩ := (se [ah, r_s_3, r_s_2, ag, af] bo).g11 aa O ae W ab E J ak al C ac
  intro bJ d5 am bq aQ bZ
  have b0 := nb_new am aa.lt
  have b6 := nb_new am O.lt
  have br := nb_new am ae.lt
  have b7 := nb_new am W.lt
  have b8 := nb_new am ab.lt
  have b9 := gb_new am C.size
  replace ⟨O, ae, W, ab, E, J, ak, al, C, ac⟩ := (se [ah, r_s_3, r_s_2, ag, af] bq).g10 O ae W ab E J ak al C ac
  refine .d fun d6 bt => ?_
  replace ⟨O, ae, W, ab, E, J, ak, al, aQ, C, ac⟩ := (se [ah, r_s_3, r_s_2, ag, af] bt).g11 O ae W ab E J ak al aQ C ac
  replace E := E.outof
  replace J := J.outof
  have aT : nin (ge w.heap.size) [ah, r_s_3, r_s_2, ag, af] bJ ∧ bJ ≠ r_s_2 := hap_mk b9 (all_cons b8 (all_cons b7 (all_cons br (all_cons b6 (all_cons b0 all_nil))))) br
  refine RG.append1 (T := 31) (ty := 31) (y := aF.part) ae aQ (by kernel_rfl) (by kernel_rfl) ⟨_, _, _, _, _, _, rfl, ak.oi, al.oi⟩ aT (by have := p0.nl; omega) fun bu bK d7 ao au bv => ?_
  have cd := nb_or au (Nb.symm bM) W.lt
  have dC := nb_or au aZ ab.lt
  have ce := orb_or au aj ac.size
  replace ⟨O, W, ab, E, J, C, ac⟩ := (sa [ah, r_s_3, r_s_2, ag, af] bv au).g7 O W ab E J C ac
  replace ao := ao.rn r_s_2
  have dD := ao.len; have dE := ao.max
  refine .r 1 <| .ss 2 (vS bu (n_s_2 + 1) bK) ab fun d8 bw cg ci => ?_
  replace ⟨O, ao, W, E, J, C, ac⟩ := (so [ah, r_s_3, bu, ag, af] bw).g7 O ao W E J C ac
  exact .d <| .ib 1 <| .g <| RG.int ((k : Int) + 1) (by kernel_rfl) (by omega) <| .r 1 <| .d <| aS (k + 1, aI, a_s_0, n_s_0, c_s_0, aK, a_s_1, n_s_1, c_s_1, (aJ ++ [aF.part]), bu, n_s_2 + 1, bK, aL, r_s_3, n_s_3, c_s_3) _ _ ⟨by kernel_rfl, by kernel_rfl, by kernel_rfl, by kernel_rfl, by kernel_rfl, by kernel_rfl, trivial⟩ ⟨ac, ao, ce, W, ax, (Nb.symm cd), E, J, cg, (by omega), (by simp; omega), (by exact open_step ‹_› ‹_› ‹_›), ‹_›, ‹_›, ‹_›⟩ (by (simp only []; omega))
 refine .d <| .s <| .cf <| .x 0 rfl <| .s <| .g <| .ln ab <| .sc [.slice a_s_0 n_s_0 c_s_0, .slice a_s_1 n_s_1 c_s_1, vS r_s_2 n_s_2 c_s_2, vS r_s_3 n_s_3 c_s_3] O fun bL bz cj ck => ?_
 replace ⟨ae, W, E, J, C⟩ := (so [ah, r_s_3, r_s_2, ag, af] bz).g5 ae W E J C
 refine .d ?_
 have bA := ae.sl bN
 replace ⟨W, E, J⟩ := (sd bL [ah, r_s_3, r_s_2, ag, af] r_s_2).g3 W E J
 have cW := W.sl bP
 replace ⟨bA, E, J⟩ := (sd bL [ah, r_s_3, ag, af] r_s_3).g3 bA E J
 exact .rb Tryz.func73 Tryz.results73 cj ⟨⟨((⟨(⟨aI, aK⟩ : Idx), aJ, aL⟩ : Sto) : Sto), ⟨_, rfl, ⟨_, _, _, _, _, _, _, _, _, _, _, _, rfl, E.w1, J.w1, bA.w1, cW.w1⟩⟩, (by exact OpenY.mk ‹_› (open_end ‹_› (by omega)) ‹_› ‹_›)⟩, C⟩
theorem c_impl_DiskOk (d : Dsk) {w : World} {F : Nat → Prop} {a1 : Option Addr} {n1 c1 : Nat} (h1 : RepS w F a1 n1 c1 d.files) {a2 : Option Addr} {n2 c2 : Nat} (h2 : RepS w F a2 n2 c2 d.list) {a3 : Option Addr} {n3 c3 : Nat} (h3 : RepS w F a3 n3 c3 d.names) (p0 : DD d) : Calls Tryz.prog 27 [.agg #[.slice a1 n1 c1, .slice a2 n2 c2, .slice a3 n3 c3, .int .i64 d.next]].toArray w (rets fun rv w' => rv = .bool (diskOk d) ∧ Ext w w') := by
 refine goT Tryz.func27 ?_
 obtain ⟨rfl, cp, h1⟩ := h1.tp
 obtain ⟨rfl, cq, h2⟩ := h2.tp
 obtain ⟨rfl, cr, h3⟩ := h3.tp
 refine .s <| .g <| .np 27 [.slice a1 d.files.length c1, .slice a2 d.list.length c2, .slice a3 d.names.length c3, vI d.next] fun W bR aL aw E bq => ?_
 replace ⟨h1, h2, h3⟩ := (sn [] aw aL).g3 h1 h2 h3
 have C := aw
 refine .r 1 <| .d <| .s <| .s <| .g <| .r 1 <| .lb E <| .cl (c_impl_within d.next 1 999 (w := bR) (F := all)) ?_
 rintro dh br ⟨rfl, aM⟩
 replace ⟨h1, h2, h3, E, C⟩ := (se [W] aM).g5 h1 h2 h3 E C
 cases aN : (inR d.next 1 999)
 ·have cu := inR_f aN
  exact .r 13 <| .d <| .ct <| .s <| .g <| .r 1 <| .d <| .rt Tryz.func27 Tryz.results27 (.bool false) ⟨(congrArg Value.bool (by symm; exact dk_1 (.inl ‹_›))), C⟩
 have cv := inR_t aN
 refine .r 3 <| .lb E <| .r 1 <| .bp ((d.files.length : Int) > 20) (fun bt => .r 7 <| .d <| .ct <| .s <| .g <| .r 1 <| .d <| .rt Tryz.func27 Tryz.results27 (.bool false) ⟨(congrArg Value.bool (by symm; exact dk_1 (.inr (.inl ‹_›)))), C⟩) fun bt => .r 3 <| .lb E <| .r 1 <| .bp ((d.list.length : Int) > 6) (fun bu => .r 1 <| .d <| .ct <| .s <| .g <| .r 1 <| .d <| .rt Tryz.func27 Tryz.results27 (.bool false) ⟨(congrArg Value.bool (by symm; exact dk_1 (.inr (.inr (.inl ‹_›))))), C⟩) fun bu => .r 1 <| .d <| .cf <| .sk <| .s <| .s <| .g <| .r 1 <| .lb E <| .r 2 <| .d <| .b 0 <| T.loop (X := Nat) 0 (fun k => [(1, .pointer (some ⟨W, 0, none⟩)), (24, .slice a1 d.files.length c1), (25, vI (d.files.length : Int)), (26, vI (k : Int))]) (fun k ax => Chg (ins []) br ax ∧ (k ≤ d.files.length) ∧ (fileF d.next (pnum d.files k) (d.files.drop k) = fileF d.next none d.files)) (fun k => d.files.length - k) (by kernel_rfl) ⟨by kernel_rfl, by kernel_rfl, by kernel_rfl, by kernel_rfl, trivial⟩ ⟨Chg.refl _ _, (by simp), (by rfl)⟩ ?_
 rintro k dj ax ⟨J, cw, cx⟩ aj
 have aO : Mv [W] [W] br ax := Mv.inl J all_nil (all_cons (.inl (.head _)) all_nil)
 replace ⟨h1, h2, h3, E, C⟩ := (sp aO J).g5 h1 h2 h3 E C
 refine .s <| .g <| .bp ((k : Int) < (d.files.length : Int)) (fun bv => ?_) (fun bv => ?_)
 ·refine .d <| .s <| .ct <| .sk <| .s <| .b 1 <| .s <| .g <| .r 1 ?_
  have bw : k < d.files.length := (by omega)
  refine .ix k 3 h1 bw ?_
  obtain ⟨ae, ay⟩ : ∃ y, d.files[k]? = some y := ⟨_, List.getElem?_eq_getElem (by omega)⟩
  have cy := drop_at ay; have bO := List.mem_of_getElem? ay
  obtain ⟨_, ⟨bS, dm, bT, bU, dp, bV, rfl, aa, ab⟩, bz⟩ := h1.elem k ae ay
  have bA := aa.len
  subst bA
  have cz := aa.max
  have bB := ab.len
  subst bB
  have cA := ab.max
  refine .lg 0 bz <| .np 66 [vI 0, .slice none 0 0, .slice none 0 0] fun ah dq ak aP bC bD => ?_
  have cB := nb_new ak E.lt
  have cC := C.cn ak
  have cD := J.cn ak
  replace ⟨h1, h2, h3, E, aa, ab, C, J⟩ := (sn [W] aP ak).g8 h1 h2 h3 E aa ab C J
  refine .r 1 <| .sc [vI ae.num, .slice bS ae.part.ids.length bT, .slice bU ae.part.blocks.length bV] bC fun dr aQ O bE => ?_
  replace ⟨h1, h2, h3, E, aa, ab, C, J⟩ := (so [ah, W] aQ).g8 h1 h2 h3 E aa ab C J
  refine .d <| .s <| .gd nil 20 fun dt aR => ?_
  replace ⟨h1, h2, h3, E, aa, ab, O, C, J⟩ := (se [ah, W] aR).g9 h1 h2 h3 E aa ab O C J
  refine .r [0] <| .lb 1 O id <| .r [2] <| .lb 3 E id <| GA.int (i := 4) (d.next - 1) (by kernel_rfl) (by have q1 := p0.next; omega) <| GA.call1 (i := 5) (by kernel_rfl) (fun bW cE => c_impl_within ae.num 1 (d.next - 1) (w := bW) (F := all)) ?_
  cases aS : (inR ae.num 1 (d.next - 1))
  ·have cF := inR_f aS
   refine .r [6, 7] <| GA.skip (by kernel_rfl) fun du aT => ?_
   replace ⟨h1, h2, h3, E, aa, ab, O, C, J⟩ := (se [ah, W] aT).g9 h1 h2 h3 E aa ab O C J
   exact .r 9 <| .d <| .ct <| .s <| .g <| .r 1 <| .d <| .rt Tryz.func27 Tryz.results27 (.bool false) ⟨(congrArg Value.bool (by symm; exact dk_2 (fileNo ‹_› ‹_› (.inl ‹_›)))), C⟩
  have cG := inR_t aS
  refine .r [6, 7, 8] <| GA.boolP (i := 9) ((k : Int) > 0) (by kernel_rfl) (fun bF => ?_) (fun bF => ?_)
  ·refine .r [10, 11] <| .lb 12 E id <| .r [13] <| GA.int (i := 14) ((k : Int) - 1) (by kernel_rfl) (by have q1 := p0.next; omega) ?_
   have aU : k - 1 < d.files.length := (by omega)
   refine GA.idx (i := 15) (k - 1) (len := d.files.length) (z := (k : Int) - 1) (sz := 3) (by kernel_rfl) (by omega) aU (h1.addr (Nat.zero_lt_of_lt aU)) <| .r [16] ?_
   obtain ⟨bG, az⟩ : ∃ y, d.files[k - 1]? = some y := ⟨_, List.getElem?_eq_getElem (by omega)⟩
   have cH := drop_at az; have bQ := List.mem_of_getElem? az
   obtain ⟨_, ⟨dv, dw, dx, cI, cJ, cK, rfl, bH, aV⟩, bI⟩ := h1.elem (k - 1) bG az
   have aY := bH.len
   subst aY
   have bX := bH.max
   have aZ := aV.len
   subst aZ
   have bY := aV.max
   refine .lh 17 0 bI id <| .r [18] <| .lb 19 O id <| .d fun bJ aA => ?_
   replace ⟨h1, h2, h3, E, aa, ab, O, C, J⟩ := (se [ah, W] aA).g9 h1 h2 h3 E aa ab O C J
   refine .bp (bG.num ≥ ae.num) (fun ba => .r 8 <| .d <| .ct <| .s <| .g <| .r 1 <| .d <| .rt Tryz.func27 Tryz.results27 (.bool false) ⟨(congrArg Value.bool (by symm; exact dk_2 (fileNo ‹_› ‹_› (.inr (.inl ⟨by omega, _, by assumption, by assumption⟩))))), C⟩) fun ba => .r 4 <| .ln O <| .cl (c_impl_PartOk ae.part aa.ta ab.ta (w := bJ) (F := all)) ?_
   rintro cL aW ⟨rfl, aB⟩
   replace ⟨h1, h2, h3, E, aa, ab, O, C, J⟩ := (se [ah, W] aB).g9 h1 h2 h3 E aa ab O C J
   cases bZ : (partOk ae.part)
   ·exact .r 2 <| .d <| .ct <| .s <| .g <| .r 1 <| .d <| .rt Tryz.func27 Tryz.results27 (.bool false) ⟨(congrArg Value.bool (by symm; exact dk_2 (fileNo ‹_› ‹_› (.inr (.inr ‹_›))))), C⟩
   refine .r 2 <| .d <| .cf <| .sk <| .ib 1 <| .g <| RG.int ((k : Int) + 1) (by kernel_rfl) (by have q1 := p0.next; omega) <| .r 1 <| .d ?_
   have bc : Mv [ah, W] [W] aW aW := Mv.less (all_cons (.tail _ (.head _)) all_nil)
   replace ⟨h1, h2, h3, aa, ab⟩ := (sp bc (Chg.refl nil _)).g5 h1 h2 h3 aa ab
   exact aj (k + 1) _ _ ⟨by kernel_rfl, by kernel_rfl, by kernel_rfl, by kernel_rfl, trivial⟩ ⟨J, (by omega), (by exact fileStep ‹_› ‹_› ‹_› ‹_› (.inr ⟨_, by assumption, by assumption⟩) ‹_›)⟩ (by omega)
  refine .r [10] <| GA.skip (by kernel_rfl) fun bK aC => ?_
  replace ⟨h1, h2, h3, E, aa, ab, O, C, J⟩ := (se [ah, W] aC).g9 h1 h2 h3 E aa ab O C J
  refine .r 5 <| .ln O <| .cl (c_impl_PartOk ae.part aa.ta ab.ta (w := bK) (F := all)) ?_
  rintro cM aX ⟨rfl, aD⟩
  replace ⟨h1, h2, h3, E, C, J⟩ := (se [ah, W] aD).g6 h1 h2 h3 E C J
  cases b0 : (partOk ae.part)
  ·exact .r 2 <| .d <| .ct <| .s <| .g <| .r 1 <| .d <| .rt Tryz.func27 Tryz.results27 (.bool false) ⟨(congrArg Value.bool (by symm; exact dk_2 (fileNo ‹_› ‹_› (.inr (.inr ‹_›))))), C⟩
  refine .r 2 <| .d <| .cf <| .sk <| .ib 1 <| .g <| RG.int ((k : Int) + 1) (by kernel_rfl) (by have q1 := p0.next; omega) <| .r 1 <| .d ?_
  have bd : Mv [ah, W] [W] aX aX := Mv.less (all_cons (.tail _ (.head _)) all_nil)
  replace ⟨h1, h2, h3⟩ := (sp bd (Chg.refl nil _)).g3 h1 h2 h3
  exact aj (k + 1) _ _ ⟨by kernel_rfl, by kernel_rfl, by kernel_rfl, by kernel_rfl, trivial⟩ ⟨J, (by omega), (by exact fileStep ‹_› ‹_› ‹_› ‹_› (.inl (by omega)) ‹_›)⟩ (by omega)
 refine .d <| .s <| .cf <| .x 0 rfl <| .s <| .s <| .g <| .r 1 <| .lb E <| .r 2 <| .d <| .b 2 <| T.loop (X := Nat) 0 (fun k => [(1, .pointer (some ⟨W, 0, none⟩)), (62, .slice a2 d.list.length c2), (63, vI (d.list.length : Int)), (64, vI (k : Int))]) (fun k ag => Chg (ins []) ax ag ∧ (k ≤ d.list.length) ∧ (fileF d.next none d.files = true) ∧ (lsTo d k)) (fun k => d.list.length - k) (by kernel_rfl) ⟨by kernel_rfl, by kernel_rfl, by kernel_rfl, by kernel_rfl, trivial⟩ ⟨Chg.refl _ _, (by simp), (by exact fileEnd ‹_› (by omega)), (by exact lsTo_0 _)⟩ ?_
 rintro k cN ag ⟨ac, b6, b7, b8⟩ av
 have aE : Mv [W] [W] ax ag := Mv.inl ac all_nil (all_cons (.inl (.head _)) all_nil)
 replace ⟨h1, h2, h3, E, C⟩ := (sp aE ac).g5 h1 h2 h3 E C
 refine .s <| .g <| .bp ((k : Int) < (d.list.length : Int)) (fun bg => ?_) (fun bg => ?_)
 ·refine .d <| .s <| .ct <| .sk <| .s <| .b 3 <| .s <| .g <| .r 1 ?_
  have bh : k < d.list.length := (by omega)
  refine .ix k 1 h2 bh ?_
  obtain ⟨al, au⟩ : ∃ y, d.list[k]? = some y := ⟨_, List.getElem?_eq_getElem (by omega)⟩
  have b9 := drop_at au; have bL := List.mem_of_getElem? au
  obtain ⟨_, rfl, bi⟩ := h2.elem k al au
  refine .lh 0 bi <| .r 2 <| .d <| .s <| .g <| .ln E <| .r 1 <| .cl (c_impl_Disk_file d al h1.ta h2.ta h3.ta (w := ag) (F := all)) ?_
  rintro cO bM ⟨rfl, aF⟩
  replace ⟨h1, h2, h3, E, C, ac⟩ := (se [W] aF).g6 h1 h2 h3 E C ac
  refine .bp (numAt d al < 0) (fun bj => .r 8 <| .d <| .ct <| .s <| .g <| .r 1 <| .d <| .rt Tryz.func27 Tryz.results27 (.bool false) ⟨(congrArg Value.bool (by symm; exact dk_3 (lstNo1 ‹_› ‹_›))), C⟩) fun bj => .r 2 <| .lb E <| .r 1 <| RG.sub (t := 24) (lo := none) (hi := some (vI (k : Int))) h2 0 k (by kernel_rfl) (by kernel_rfl) (.inl ⟨rfl, rfl⟩) (.inr ⟨_, _, rfl, by omega⟩) (by omega) (by omega) fun cP cQ aG => ?_
  have cd := aG.len; have ce := aG.max
  refine .r 1 <| .cl (c_slices_Contains_int_int ((d.list.take k).drop 0) al aG.ta (w := bM) (F := all)) ?_
  rintro cR cS ⟨rfl, aH⟩
  replace ⟨h1, h2, h3, E, C, ac⟩ := (se [W] aH).g6 h1 h2 h3 E C ac
  cases cg : ((d.list.take k).drop 0).contains al
  ·exact .r 1 <| .d <| .cf <| .sk <| .ib 3 <| .g <| RG.int ((k : Int) + 1) (by kernel_rfl) (by have q1 := p0.next; omega) <| .r 1 <| .d <| av (k + 1) _ _ ⟨by kernel_rfl, by kernel_rfl, by kernel_rfl, by kernel_rfl, trivial⟩ ⟨ac, (by omega), ‹_›, (by exact lsTo_step ‹_› ‹_› ‹_› (fresh_of ‹_›) (Nat.le_refl _))⟩ (by omega)
  exact .r 1 <| .d <| .ct <| .s <| .g <| .r 1 <| .d <| .rt Tryz.func27 Tryz.results27 (.bool false) ⟨(congrArg Value.bool (by symm; exact dk_3 (lstNo4 ‹_› ‹_›))), C⟩
 refine .d <| .s <| .cf <| .x 2 rfl <| .s <| .g <| .ln E <| .cl (c_impl_Disk_open d h1.ta h2.ta h3.ta p0 (lstOk_at (lsTo_end ‹_› (by omega))) (w := ag) (F := all)) ?_
 rintro cT bN ⟨⟨aI, ⟨_, rfl, ⟨cU, cV, cW, cX, cY, cZ, c7, c8, c9, da, db, de, rfl, am, ao, aq, ar⟩⟩, ci⟩, aJ⟩
 have af := al1 E.lt
 have ai : Gb w.heap.size ag.heap.size := C.size
 replace C := (se [] aJ).g1 C
 have am := am.fr af ai
 have cj := am.max
 have ao := ao.fr af ai
 have ck := ao.max
 have aq := aq.fr af ai
 have cm := aq.max
 have ar := ar.fr af ai
 have co := ar.max
 have bk := am.len
 subst bk
 have bm := ao.len
 subst bm
 have bn := aq.len
 subst bn
 have bo := ar.len
 subst bo
 refine .cl (c_impl_StoreOkG aI am.ta ao.ta aq.ta ar.ta (OpenY.sg (by assumption : OpenY d _) p0) (w := bN) (F := all)) ?_
 rintro df dg ⟨rfl, aK⟩
 replace C := (se [] aK).g1 C
 exact .r 1 <| .d <| .rt Tryz.func27 Tryz.results27 (.bool (nmB aI.idx.names && storeOk aI)) ⟨(congrArg Value.bool (by exact OpenY.dk (by assumption : OpenY d _) p0 ‹_› (by omega) (by omega) ‹_› (lsTo_end ‹_› (by omega)))), C⟩
end Go.Proofs.YtganlmloonielaaGreat
namespace Go.Proofs.YtganlmloonielaaGreat
structure MI (s y : Sto) (i : Nat) : Prop where
 sd : SD y
 ok : storeOk y = true
 idx : y.idx = s.idx
 mem : y.mem = s.mem
 lo : 1 ≤ y.parts.length
 hi : y.parts.length ≤ 1 ∨ y.parts.length + i ≤ 6
 rows : ∀ id : Int, 1 ≤ id → id ≤ 6 → y.parts.foldl (rowsP id) [] = s.parts.foldl (rowsP id) []
theorem MI.step {s y : Sto} {i : Nat} {a : Int} (h : MI s y i) (h1 : (mergeT y a).2 = true) : MI s (mergeT y a).1 (i + 1) := by
 obtain ⟨hk, h2, h3, e⟩ := mgT_yes h.sd h1
 have hl := merge_len h.sd h1
 refine ⟨merge_sd h.sd h1, (merge_says h.sd h1).2, by rw [e]; exact h.idx, by rw [e]; exact h.mem, by omega, ?_, fun id a1 a2 => ?_⟩
 ·have := h.hi; omega
 ·rw [e, (mergeX_rows (StoK.of h.sd hk) (by omega) a1 a2).1]
  exact h.rows id a1 a2
theorem MI.start {s : Sto} {a : Int} (h : SD s) (h1 : (mergeT s a).2 = true) : MI s s 0 ∧ MI s (mergeT s a).1 0 := by
 obtain ⟨hk, h2, h3, e⟩ := mgT_yes h h1
 have h0 : MI s s 0 := ⟨h, hk, rfl, rfl, by omega, .inr (by have := h.np; omega), fun _ _ _ => rfl⟩
 have h4 := h0.step h1
 exact ⟨h0, h4.sd, h4.ok, h4.idx, h4.mem, h4.lo, by have := h4.hi; omega, h4.rows⟩
theorem MI.one {s y : Sto} {i : Nat} (h : MI s y i) (hi : 6 ≤ i) : y.parts.length = 1 := by have := h.lo; have := h.hi; omega
theorem partG_at : ∀ (is : List Int) (bs : List (List Row)) (o : Option Int), partG o is bs = true → is.length = bs.length → ∀ is' bs', partG o is' bs' = true → is'.length = bs'.length → (∀ id : Int, partF id is bs = partF id is' bs') → is = is' ∧ bs = bs' := by
 have low : ∀ (is : List Int) (bs : List (List Row)) (o : Option Int), partG o is bs = true → ∀ q, o = some q → ∀ i ∈ is, q < i := by
  intro is
  induction is with
  | nil => intro bs o _ q _ i hi; cases hi
  | cons x xs ih =>
    intro bs o hg q hq i hi
    cases bs with
    | nil => simp [partG] at hg
    | cons b bs =>
      simp only [partG, Bool.and_eq_true] at hg
      have hx : q < x := by have := hg.1.1.1.2; rw [hq] at this; simpa using this
      rcases List.mem_cons.1 hi with rfl | hi
      ·exact hx
      ·have := ih bs (some x) hg.2 x rfl i hi; omega
 have none_of : ∀ (is : List Int) (bs : List (List Row)) (id : Int), (∀ i ∈ is, i ≠ id) → partF id is bs = [] := by
  intro is
  induction is with
  | nil => intro bs id _; unfold partF; rfl
  | cons i is ih =>
    intro bs id h
    cases bs with
    | nil => unfold partF; rfl
    | cons b bs =>
      unfold partF
      rw [if_neg (by have := h i (by simp); simpa using this)]
      exact ih bs id (fun j hj => h j (by simp [hj]))
 have mem_of : ∀ (is : List Int) (bs : List (List Row)) (id : Int), partF id is bs ≠ [] → id ∈ is := by
  intro is bs id h
  rcases Classical.em (id ∈ is) with h1 | h1
  ·exact h1
  ·exact absurd (none_of is bs id (fun i hi e => h1 (e ▸ hi))) h
 intro is
 induction is with
 | nil =>
   intro bs o hg hl is' bs' hg' hl' h
   cases bs with
   | cons _ _ => simp at hl
   | nil =>
     cases is' with
     | nil =>
       cases bs' with
       | nil => exact ⟨rfl, rfl⟩
       | cons _ _ => simp at hl'
     | cons i is' =>
       cases bs' with
       | nil => simp at hl'
       | cons b bs' =>
         simp only [partG, Bool.and_eq_true, decide_eq_true_eq] at hg'
         have := h i
         unfold partF at this
         rw [if_pos (by simp)] at this
         rw [← this] at hg'
         exact absurd hg'.1.1.2 (by simp)
 | cons i is ih =>
   intro bs o hg hl is' bs' hg' hl' h
   cases bs with
   | nil => simp at hl
   | cons b bs =>
     have hg0 := hg
     simp only [partG, Bool.and_eq_true, decide_eq_true_eq] at hg
     cases is' with
     | nil =>
       cases bs' with
       | cons _ _ => simp at hl'
       | nil =>
         have := h i
         unfold partF at this
         rw [if_pos (by simp)] at this
         rw [this] at hg
         exact absurd hg.1.1.2 (by simp)
     | cons i' is' =>
       cases bs' with
       | nil => simp at hl'
       | cons b' bs' =>
         have hg0' := hg'
         simp only [partG, Bool.and_eq_true, decide_eq_true_eq] at hg'
         have a1 : partF i (i' :: is') (b' :: bs') = b := by rw [← h i]; unfold partF; rw [if_pos (by simp)]
         have a2 : partF i' (i :: is) (b :: bs) = b' := by rw [h i']; unfold partF; rw [if_pos (by simp)]
         have m1 := mem_of _ _ i (by rw [a1]; exact List.ne_nil_of_length_pos hg.1.1.2)
         have m2 := mem_of _ _ i' (by rw [a2]; exact List.ne_nil_of_length_pos hg'.1.1.2)
         have hii : i = i' := by
          rcases List.mem_cons.1 m1 with e | e
          ·exact e
          ·rcases List.mem_cons.1 m2 with e2 | e2
           ·exact e2.symm
           ·have := low is' bs' (some i') hg'.2 i' rfl i e
            have := low is bs (some i) hg.2 i rfl i' e2
            omega
         subst hii
         have hbb : b = b' := by
          rw [← a1]
          unfold partF
          rw [if_pos (by simp)]
         subst hbb
         have := ih bs (some i) hg.2 (by simpa using hl) is' bs' hg'.2 (by simpa using hl') (fun id => by
          by_cases e : i = id
          ·subst e
           rw [none_of is bs i (fun j hj e => by have := low is bs (some i) hg.2 i rfl j hj; omega), none_of is' bs' i (fun j hj e => by have := low is' bs' (some i) hg'.2 i rfl j hj; omega)]
          ·have := h id
           unfold partF at this
           rw [if_neg (by simpa using e), if_neg (by simpa using e)] at this
           exact this)
         rw [this.1, this.2]
         exact ⟨rfl, rfl⟩
theorem part_ext {p q : Prt} (hp : partOk p = true) (hq : partOk q = true) (h : ∀ id : Int, partOf p id = partOf q id) : p = q := by
 unfold partOk at hp hq
 simp only [Bool.and_eq_true, decide_eq_true_eq] at hp hq
 obtain ⟨e1, e2⟩ := partG_at p.ids p.blocks none hp.2 hp.1 q.ids q.blocks hq.2 hq.1 h
 cases p
 cases q
 simp only [Prt.mk.injEq]
 exact ⟨e1, e2⟩
end Go.Proofs.YtganlmloonielaaGreat
namespace Go.Proofs.YtganlmloonielaaGreat
theorem nmg_snoc {ns : List (List Tag)} {n : List Tag} (h : NmI ns) (h2 : NsD ns) (hn : NmX n) : NmG (ns ++ [n]) := by
 have hl := h.len
 refine ⟨by rw [List.length_append]; simp; omega, fun m hm => ?_, ?_⟩
 ·rcases List.mem_append.1 hm with hm | hm
  ·exact h2 m hm
  ·simp at hm
   subst hm
   exact hn.1
 ·have hb : bldF 0 [] (ns ++ [n]) = n.foldl (addT ((ns.length : Int) + 1)) (bldF 0 [] ns) := by
   have key : ∀ (ns : List (List Tag)) (i : Nat) (xs : List Pst), bldF i xs (ns ++ [n]) = n.foldl (addT (((i + ns.length : Nat) : Int) + 1)) (bldF i xs ns) := by
    intro ns
    induction ns with
    | nil => intro i xs; rfl
    | cons m ms ih =>
      intro i xs
      show bldF (i + 1) (m.foldl (addT ((i : Int) + 1)) xs) (ms ++ [n]) = _
      rw [ih]
      show _ = n.foldl _ (bldF (i + 1) (m.foldl (addT ((i : Int) + 1)) xs) ms)
      rw [List.length_cons, show i + 1 + ms.length = i + (ms.length + 1) by omega]
   have := key ns 0 []
   simpa using this
  rw [hb]
  have hr := RepP.all0 h
  have hm : ∀ x ∈ bldF 0 [] ns, x.tag ∈ tags9 := fun x hx => by
   have g := hr.el x hx
   obtain ⟨m, hm, ht⟩ := ids_ne (by rw [← g.1]; exact g.2 : ids ns x.tag ≠ [])
   have ho := h.ok m hm
   simp only [nameOk, Bool.and_eq_true] at ho
   exact tags9_mem (nameF_tags m none ho.1 _ ht) ((h2 m hm).2 _ ht)
  have key : ∀ (n : List Tag) (xs : List Pst) (L : Tag → List Int) (i : Int), RepP xs L → (∃ L', RepP (n.foldl (addT i) xs) L') ∧ ∀ x ∈ n.foldl (addT i) xs, (∃ y ∈ xs, y.tag = x.tag) ∨ x.tag ∈ n := by
   intro n
   induction n with
   | nil => intro xs L i hx; exact ⟨⟨L, hx⟩, fun x hx => .inl ⟨x, hx, rfl⟩⟩
   | cons t ts ih =>
     intro xs L i hx
     have h1 : ∀ x ∈ addT i xs t, (∃ y ∈ xs, y.tag = x.tag) ∨ x.tag = t := fun x hx => by
      rcases idxP_spec t xs 0 with ⟨g1, _⟩ | ⟨g1, g2, y, g3, g4⟩
      ·rw [addT_new (by omega)] at hx
       rcases List.mem_append.1 hx with hx | hx
       ·exact .inl ⟨x, hx, rfl⟩
       ·simp at hx
        subst hx
        exact .inr rfl
      ·rw [Nat.sub_zero] at g3
       rw [addT_old (by omega) g3] at hx
       rcases List.mem_or_eq_of_mem_set hx with hx | rfl
       ·exact .inl ⟨x, hx, rfl⟩
       ·exact .inr g4
     obtain ⟨a, b⟩ := ih (addT i xs t) _ i (hx.add i t)
     refine ⟨a, fun x hx => ?_⟩
     rcases b x hx with ⟨y, hy, e⟩ | hm
     ·rcases h1 y hy with ⟨z, hz, e2⟩ | e2
      ·exact .inl ⟨z, hz, e2.trans e⟩
      ·exact .inr (by rw [← e, e2]; simp)
     ·exact .inr (by simp [hm])
  obtain ⟨⟨L', hL⟩, hmem⟩ := key n _ _ ((ns.length : Int) + 1) hr
  have := nodup_len _ (tags9 ++ n.filter (fun t => !tagOk t)) hL.nd (fun t ht => by
   obtain ⟨x, hx, rfl⟩ := List.mem_map.1 ht
   rcases hmem x hx with ⟨y, hy, e⟩ | hx2
   ·exact List.mem_append.2 (.inl (e ▸ hm y hy))
   ·cases hk : tagOk x.tag with
    | true => exact List.mem_append.2 (.inl (tags9_mem hk (hn.1.2 _ hx2)))
    | false => exact List.mem_append.2 (.inr (List.mem_filter.2 ⟨hx2, by rw [hk]; rfl⟩)))
  rw [List.length_map, List.length_append] at this
  have e9 : tags9.length = 9 := rfl
  have hb2 := hn.2
  unfold badN at hb2
  omega
theorem WD.dd {w : Wld} (h : WD w) : DD w.disk := ⟨NmG.of h.wi.dsk.nm h.dn, by have := h.wi.dsk.nl; omega, h.wi.dsk.nf, h.wi.dsk.file, by have := h.wi.dsk.next; omega⟩
def WG (w : Wld) : Prop := SD w.store ∧ DD w.disk
theorem WD.wg {w : Wld} (h : WD w) : WG w := ⟨h.sd, h.dd⟩
theorem WD.wg1 {w : Wld} (h : WD w) (n : Int) : WG ⟨w.store, ⟨w.disk.files, w.disk.list ++ [n], w.disk.names, w.disk.next⟩⟩ := ⟨h.sd, h.dd.g, by have := h.wi.dsk.nl; simp; omega, h.dd.nf, h.dd.file, h.dd.next⟩
theorem WD.wg2 {w : Wld} (h : WD w) {y : Int} {r : Row} (hy : 0 ≤ y ∧ y ≤ 7) (hr : RowSm r) : WG ⟨⟨w.store.idx, w.store.parts, w.store.mem ++ [⟨y, r⟩]⟩, w.disk⟩ := ⟨h.spoil hy hr, h.dd⟩
theorem WD.wg3 {w : Wld} (h : WD w) {k j : Nat} : WG ⟨w.store, ⟨(w.disk.files.take k).drop j, w.disk.list, w.disk.names, w.disk.next⟩⟩ := ⟨h.sd, h.dd.g, h.dd.nl, by have := h.dd.nf; rw [List.length_drop, List.length_take]; omega, fun f hf => h.dd.file f (List.mem_of_mem_take (List.mem_of_mem_drop hf)), h.dd.next⟩
theorem WD.wg4 {w : Wld} (h : WD w) {n : List Tag} (hn : NmX n) : WG ⟨w.store, ⟨w.disk.files, w.disk.list, w.disk.names ++ [n], w.disk.next⟩⟩ := ⟨h.sd, nmg_snoc h.wi.dsk.nm h.dn hn, h.dd.nl, h.dd.nf, h.dd.file, h.dd.next⟩
end Go.Proofs.YtganlmloonielaaGreat
namespace Go.Proofs.YtganlmloonielaaGreat
set_option maxRecDepth 100000
set_option maxHeartbeats 4000000
theorem c_spec_l72WorldX  {w : World} {F : Nat → Prop} {b : Nat} {ad : Option Addr} {cd p : Nat} {D : List UInt8} (hr : Box w b 122 [.slice ad D.length cd, .int .i64 (p : Int)]) (hD : RepS w (nin all [b]) ad D.length cd D) (hp : p + 3100 ≤ 1000000000)  : Calls Tryz.prog 49 [.pointer (some ⟨b, 0, none⟩)].toArray w (rets fun rv w' => (∃ (y : Wld), (∃ (a0 : Option Addr) (n0 c0 : Nat) (a1 : Option Addr) (n1 c1 : Nat) (a2 : Option Addr) (n2 c2 : Nat) (r3 n3 c3 : Nat) (a4 : Option Addr) (n4 c4 : Nat) (a5 : Option Addr) (n5 c5 : Nat) (a6 : Option Addr) (n6 c6 : Nat), rv = .agg #[.slice a0 n0 c0, .slice a1 n1 c1, .slice a2 n2 c2, .slice (some ⟨r3, 0, none⟩) n3 c3, .slice a4 n4 c4, .slice a5 n5 c5, .slice a6 n6 c6, .int .i64 (y.disk.next)] ∧ RepS w' (nin (ge w.heap.size) [r3]) a0 n0 c0 (y.store.idx.names) ∧ RepS w' (nin (ge w.heap.size) [r3]) a1 n1 c1 (y.store.idx.posts) ∧ RepS w' (nin (ge w.heap.size) [r3]) a2 n2 c2 (y.store.parts) ∧ Own w' r3 107 (nin (ge w.heap.size) [r3]) n3 c3 (y.store.mem) ∧ w.heap.size ≤ r3 ∧ RepS w' (nin (ge w.heap.size) [r3]) a4 n4 c4 (y.disk.files) ∧ RepS w' (nin (ge w.heap.size) [r3]) a5 n5 c5 (y.disk.list) ∧ RepS w' (nin (ge w.heap.size) [r3]) a6 n6 c6 (y.disk.names)) ∧ (WG y)) ∧ ∃ p' : Nat, p' ≤ p + 3100 ∧ Box w' b 122 [.slice ad D.length cd, .int .i64 (p' : Int)] ∧ Chg (one b) w w') := by
 refine goT Tryz.func49 ?_
 have f7 := hD.max
 refine .s <| .g <| .np 70 [.slice none 0 0, .slice none 0 0, .slice none 0 0, .slice none 0 0, .slice none 0 0, .slice none 0 0, .slice none 0 0, vI 0] fun am db bV b7 af eO => ?_
 have f8 := nb_new bV hr.lt
 have f9 : Cov (one b) w am := cov_new bV (Nat.le_refl _)
 replace ⟨hD, hr⟩ := (sn [b] b7 bV).g2 hD hr
 have J : Chg (one b) w db := Chg.stepN (Chg.refl (one b) w) b7
 refine .d <| .s <| .g <| .r 1 <| .cl (c_spec_l72Play hr (hD.toAll (.tail _ (.head _))) (by omega) (w := db) (F := all)) ?_
 rintro hJ bA ⟨⟨ak, ⟨hN, hO, rfl, -, ⟨aO, hQ, aP, aQ, hV, aR, aS, hW, aT, ai, aK, aX, al, aH, aY, aj, aL, aZ, ah, aM, ba, rfl, aa, ab, ac, C, bd, ae, bB, eP, W, bg, de, eQ, E, bh, df, eR, dg⟩⟩, ga⟩, ia, gb, bi, b8⟩
 have aU := al2 af.lt hr.lt
 have bc : Gb w.heap.size db.heap.size := J.size
 have gf := nb_ge bd hr.lt
 have eS := nb_ge bd af.lt
 have bj := gb_ge bd J.size
 have gh : Cov (one b) w ai := cov_ge bd J.size
 have gi := nb_ge bB hr.lt
 have gj := nb_ge bB af.lt
 have bk := gb_ge bB J.size
 have eT := nb_ge bg hr.lt
 have eU := nb_ge bg af.lt
 have bm := gb_ge bg J.size
 have gk : Cov (one b) w aj := cov_ge bg J.size
 have eV := nb_ge bh hr.lt
 have eW := nb_ge bh af.lt
 have bn := gb_ge bh J.size
 have gl : Cov (one b) w ah := cov_ge bh J.size
 have dh : Mv [am, b] [ai, al, aj, ah, am, b] db bA := Mv.cons (Mv.cons (Mv.cons (Mv.cons (Mv.on b8 (.tail _ (.head _))) bh) bg) bB) bd
 replace ⟨hD, af, J⟩ := (sp dh b8).g3 hD af J
 replace aa : RepS bA (nin (ge w.heap.size) [ai, al, aj, ah, am, b]) _ _ _ _ := RepS.takeM (s0 := w.heap.size) (M := [am, b]) aa aU bc
 have gm := aa.max
 replace ab : RepS bA (nin (ge w.heap.size) [ai, al, aj, ah, am, b]) _ _ _ _ := RepS.takeM (s0 := w.heap.size) (M := [am, b]) ab aU bc
 have gn := ab.max
 replace ac : RepS bA (nin (ge w.heap.size) [ai, al, aj, ah, am, b]) _ _ _ _ := RepS.takeM (s0 := w.heap.size) (M := [am, b]) ac aU bc
 have gp := ac.max
 replace C : Own bA ai 107 (nin (ge w.heap.size) [ai, al, aj, ah, am, b]) _ _ _ := Own.takeM (s0 := w.heap.size) (M := [am, b]) C aU bc
 have gq := C.max
 have gr := C.len
 replace ae : Own bA al 66 (nin (ge w.heap.size) [ai, al, aj, ah, am, b]) _ _ _ := Own.takeM (s0 := w.heap.size) (M := [am, b]) ae aU bc
 have gs := ae.max
 have gt := ae.len
 replace W : Own bA aj 3 (nin (ge w.heap.size) [ai, al, aj, ah, am, b]) _ _ _ := Own.takeM (s0 := w.heap.size) (M := [am, b]) W aU bc
 have gu := W.max
 have gv := W.len
 replace E : Own bA ah 77 (nin (ge w.heap.size) [ai, al, aj, ah, am, b]) _ _ _ := Own.takeM (s0 := w.heap.size) (M := [am, b]) E aU bc
 have fi := E.max
 have fj := E.len
 have dv := aa.len
 subst dv
 have dw := ab.len
 subst dw
 have dx := ac.len
 subst dx
 refine .r 3 <| .np 70 [.slice none 0 0, .slice none 0 0, .slice none 0 0, .slice none 0 0, .slice none 0 0, .slice none 0 0, .slice none 0 0, vI 0] fun ag gw aD b9 dy dz => ?_
 have bH := nb_new aD bi.lt
 have fk := nb_new aD af.lt
 have bq := nb_new aD C.lt
 have bI := nb_new aD ae.lt
 have br := nb_new aD W.lt
 have bt := nb_new aD E.lt
 have fm := J.cn aD
 replace ⟨hD, bi, af, aa, ab, ac, C, ae, W, E, J⟩ := (sn [ai, al, aj, ah, am, b] b9 aD).g11 hD bi af aa ab ac C ae W E J
 refine .r 1 <| .sc [.slice aO ak.store.idx.names.length aP, .slice aQ ak.store.idx.posts.length aR, .slice aS ak.store.parts.length aT, vS ai aK aX, vS al aH aY, vS aj aL aZ, vS ah aM ba, vI ak.disk.next] dy fun eX ce O dA => ?_
 replace ⟨hD, bi, af, aa, ab, ac, C, ae, W, E, J⟩ := (so [ag, ai, al, aj, ah, am, b] ce).g11 hD bi af aa ab ac C ae W E J
 refine .d <| .s <| .s <| .g <| .r 1 <| .cl (c_spec_l6Rd_pick 40 bi (hD.toAll (.tail _ (.tail _ (.tail _ (.tail _ (.tail _ (.tail _ (.head _)))))))) (by omega) (w := eX) (F := all)) ?_
 rintro gx aC ⟨⟨bW, rfl, fp⟩, cg, fq, ao, ci⟩
 replace ⟨hD, af, aa, ab, ac, C, ae, W, E, O, J⟩ := (so [ag, ai, al, aj, ah, am, b] ci).g11 hD af aa ab ac C ae W E O J
 refine .d <| .b 0 <| .s <| .g <| .eq bW 0 (fun dB => ?_) (fun dB => ?_)
 ·refine .r 1 <| .d <| .ct ?_
  replace hD := hD.into
  replace aa := aa.into
  replace ab := ab.into
  replace ac := ac.into
  have dC : Cov (mtb [ai, al, aj, ah, b] aC.heap.size) aC b := ⟨.inl (.inl (.tail _ (.tail _ (.tail _ (.tail _ (.head _))))))⟩
  have dD : Gb (ag + 1) aC.heap.size := O.lt
  refine .gd (mtb [ai, al, aj, ah, b] aC.heap.size) 7 fun gy cj => ?_
  replace ⟨hD, ao, af, aa, ab, ac, C, ae, W, E, O, J⟩ := (se [ag, ai, al, aj, ah, am, b] cj).g12 hD ao af aa ab ac C ae W E O J
  refine .r [0, 1] <| .lb 2 O (nS_of (all_cons bq (all_cons bI (all_cons br (all_cons bt (all_cons bH all_nil))))) dD) <| .r [3] <| .go 4 <| .cl (fun dj bu => c_spec_l6Rd_pick 6 (ao.ext bu) ((hD.toAll (.tail _ (.tail _ (.tail _ (.tail _ (.tail _ (.tail _ (.head _)))))))).ext bu) (by omega) (w := dj) (F := all)) ?_
  intro dj bu
  replace ⟨hD, ao, af, aa, ab, ac, C, ae, W, E, O, J⟩ := (se [ag, ai, al, aj, ah, am, b] bu).g12 hD ao af aa ab ac C ae W E O J
  rintro gz gA ⟨⟨bX, rfl, ft⟩, eY, fu, aq, bJ⟩
  have hkeep_ := bJ
  replace ⟨hD, af, aa, ab, ac, C, ae, W, E, O, J⟩ := (so [ag, ai, al, aj, ah, am, b] bJ).g11 hD af aa ab ac C ae W E O J
  refine ⟨Chg.toS hkeep_ (Cov.toS dC), ?_⟩
  refine GA.int (i := 5) (1 + bX) (by kernel_rfl) (by omega) <| .go 6 <| .ns 1 3 [vI (1 + bX)] fun gC ck => ?_
  replace ⟨hD, aq, af, aa, ab, ac, C, ae, W, E, O, J⟩ := (se [ag, ai, al, aj, ah, am, b] ck).g12 hD aq af aa ab ac C ae W E O J
  intro dm gD aE cm bK dE
  have dF := nb_new aE aq.lt
  have dG := nb_new aE af.lt
  have dH := nb_new aE C.lt
  have dI := nb_new aE ae.lt
  have co := nb_new aE W.lt
  have dJ := nb_new aE E.lt
  have dK := nb_new aE O.lt
  have dL := gb_new aE J.size
  replace ⟨hD, aq, af, aa, ab, ac, C, ae, W, E, O, J⟩ := (se [ag, ai, al, aj, ah, am, b] cm).g12 hD aq af aa ab ac C ae W E O J
  refine .d fun gE bL => ?_
  replace ⟨hD, aq, af, aa, ab, ac, C, ae, W, E, O, bK⟩ := (se [ag, ai, al, aj, ah, am, b] bL).g12 hD aq af aa ab ac C ae W E O bK
  replace J := (se [ag, ai, al, aj, ah, am, b] bL).g1 J
  replace hD := hD.outof
  replace aa := aa.outof
  replace ab := ab.outof
  replace ac := ac.outof
  have bZ : nin (ge w.heap.size) [ag, ai, al, aj, ah, am, b] dm ∧ dm ≠ aj := hap_mk dL (all_cons dK (all_cons dH (all_cons dI (all_cons co (all_cons dJ (all_cons dG (all_cons dF all_nil))))))) co
  refine RG.append1 (T := 24) (ty := 24) (y := 1 + bX) W bK (by kernel_rfl) (by kernel_rfl) rfl bZ (by have q1 : WD _ := ‹_›; have q2 := q1.wi.dsk.nl; have q3 := q1.wi.dsk.nm.len; have q4 := q1.wi.sto.nm2; omega) fun aV cp gI aA ax cq => ?_
  have fv := nb_or ax eT aq.lt
  have fw := nb_or ax eU af.lt
  have fz := nb_or ax de C.lt
  have fA := nb_or ax eQ ae.lt
  have fB := nb_or ax (Nb.symm dg) E.lt
  have fC := nb_or ax (Nb.symm br) O.lt
  have dM := gb_or ax bm J.size
  replace ⟨hD, aq, af, aa, ab, ac, C, ae, E, O, J⟩ := (sa [ag, ai, al, aj, ah, am, b] cq ax).g11 hD aq af aa ab ac C ae E O J
  replace aA := aA.rn aj
  have fD := aA.len; have fE := aA.max
  refine .r 2 <| .ss 5 (vS aV (aL + 1) cp) O fun gJ cr dN dO => ?_
  replace ⟨hD, aq, af, aa, ab, ac, C, ae, aA, E, J⟩ := (so [ag, ai, al, aV, ah, am, b] cr).g11 hD aq af aa ab ac C ae aA E J
  refine .d <| .ib 0 <| .s <| .g <| .ln dN <| .sc [.slice aO ak.store.idx.names.length aP, .slice aQ ak.store.idx.posts.length aR, .slice aS ak.store.parts.length aT, vS ai aK aX, vS al aH aY, vS aV (aL + 1) cp, vS ah aM ba, vI ak.disk.next] af fun cu cv dP dQ => ?_
  replace ⟨hD, aq, aa, ab, ac, C, ae, aA, E, J⟩ := (so [ag, ai, al, aV, ah, am, b] cv).g10 hD aq aa ab ac C ae aA E J
  refine .d ?_
  have bC := ae.sl bk
  replace ⟨hD, aa, ab, ac, C, aA, E⟩ := (sd cu [ag, ai, al, aV, ah, am, b] al).g7 hD aa ab ac C aA E
  have cw := aA.sl dM
  replace ⟨hD, aa, ab, ac, C, bC, E⟩ := (sd cu [ag, ai, aV, ah, am, b] aV).g7 hD aa ab ac C bC E
  have eZ := E.sl bn
  replace ⟨hD, aa, ab, ac, C, bC, cw⟩ := (sd cu [ag, ai, ah, am, b] ah).g7 hD aa ab ac C bC cw
  exact .rb Tryz.func49 Tryz.results49 dP ⟨⟨((⟨(⟨(⟨ak.store.idx.names, ak.store.idx.posts⟩ : Idx), ak.store.parts, ak.store.mem⟩ : Sto), (⟨ak.disk.files, (ak.disk.list ++ [1 + bX]), ak.disk.names, ak.disk.next⟩ : Dsk)⟩ : Wld) : Wld), ⟨aO, ak.store.idx.names.length, aP, aQ, ak.store.idx.posts.length, aR, aS, ak.store.parts.length, aT, ai, aK, aX, (some ⟨al, 0, none⟩), aH, aY, (some ⟨aV, 0, none⟩), (aL + 1), cp, (some ⟨ah, 0, none⟩), aM, ba, rfl, ((RepS.lessM aa (all_cons (.tail _ (.head _)) all_nil)).eqx (by rfl)), ((RepS.lessM ab (all_cons (.tail _ (.head _)) all_nil)).eqx (by rfl)), ((RepS.lessM ac (all_cons (.tail _ (.head _)) all_nil)).eqx (by rfl)), ((Own.lessM C (all_cons (.tail _ (.head _)) all_nil)).eqx (by rfl)), bj, ((RepS.lessM bC (all_cons (.tail _ (.head _)) all_nil)).eqx (by rfl)), ((RepS.lessM cw (all_cons (.tail _ (.head _)) all_nil)).eqx (by rfl)), ((RepS.lessM eZ (all_cons (.tail _ (.head _)) all_nil)).eqx (by rfl))⟩, (by have q1 : WD _ := ‹_›; exact q1.wg1 _)⟩, eY, by omega, aq, J⟩
 refine .r 1 <| .d <| .cf <| .s <| .g <| .eq bW 1 (fun dR => ?_) (fun dR => ?_)
 ·refine .r 1 <| .d <| .ct ?_
  replace hD := hD.into
  replace aa := aa.into
  replace ab := ab.into
  replace ac := ac.into
  have cx : Cov (mtb [ai, al, aj, ah, b] aC.heap.size) aC b := ⟨.inl (.inl (.tail _ (.tail _ (.tail _ (.tail _ (.head _))))))⟩
  have dS : Gb (ag + 1) aC.heap.size := O.lt
  refine .gd (mtb [ai, al, aj, ah, b] aC.heap.size) 10 fun gK cy => ?_
  replace ⟨hD, ao, af, aa, ab, ac, C, ae, W, E, O, J⟩ := (se [ag, ai, al, aj, ah, am, b] cy).g12 hD ao af aa ab ac C ae W E O J
  refine .r [0, 1] <| .lb 2 O (nS_of (all_cons bq (all_cons bI (all_cons br (all_cons bt (all_cons bH all_nil))))) dS) <| .r [3, 6] <| .go 4 <| .cl (fun dp bv => c_spec_l6Rd_pick 7 (ao.ext bv) ((hD.toAll (.tail _ (.tail _ (.tail _ (.tail _ (.tail _ (.tail _ (.head _)))))))).ext bv) (by omega) (w := dp) (F := all)) ?_
  intro dp bv
  replace ⟨hD, ao, af, aa, ab, ac, C, ae, W, E, O, J⟩ := (se [ag, ai, al, aj, ah, am, b] bv).g12 hD ao af aa ab ac C ae W E O J
  rintro gL gM ⟨⟨bY, rfl, fF⟩, gN, fG, dT, bM⟩
  have hkeep_ := bM
  replace ⟨hD, af, aa, ab, ac, C, ae, W, E, O, J⟩ := (so [ag, ai, al, aj, ah, am, b] bM).g11 hD af aa ab ac C ae W E O J
  refine ⟨Chg.toS hkeep_ (Cov.toS cx), ?_⟩
  refine GA.int (i := 5) (1 + bY) (by kernel_rfl) (by omega) <| .go 7 <| .cl (fun dq bw => c_spec_l71Row (dT.ext bw) ((hD.toAll (.tail _ (.tail _ (.tail _ (.tail _ (.tail _ (.tail _ (.head _)))))))).ext bw) (by omega) (w := dq) (F := all)) ?_
  intro dq bw
  replace ⟨hD, af, aa, ab, ac, C, ae, W, E, O, J⟩ := (se [ag, ai, al, aj, ah, am, b] bw).g11 hD af aa ab ac C ae W E O J
  rintro gO gP ⟨⟨bo, ⟨_, rfl, rfl⟩, fH⟩, e7, fI, av, bN⟩
  have hkeep_ := bN
  replace ⟨hD, af, aa, ab, ac, C, ae, W, E, O, J⟩ := (so [ag, ai, al, aj, ah, am, b] bN).g11 hD af aa ab ac C ae W E O J
  refine ⟨Chg.toS hkeep_ (Cov.toS cx), ?_⟩
  refine .r [8] <| .go 9 <| .ns 1 107 [vI (1 + bY), vI bo.t, vI bo.v] fun gQ cz => ?_
  replace ⟨hD, av, af, aa, ab, ac, C, ae, W, E, O, J⟩ := (se [ag, ai, al, aj, ah, am, b] cz).g12 hD av af aa ab ac C ae W E O J
  intro dr gR aF cA bO dU
  have dV := nb_new aF av.lt
  have dW := nb_new aF af.lt
  have cB := nb_new aF C.lt
  have dX := nb_new aF ae.lt
  have dY := nb_new aF W.lt
  have dZ := nb_new aF E.lt
  have d0 := nb_new aF O.lt
  have d3 := gb_new aF J.size
  replace ⟨hD, av, af, aa, ab, ac, C, ae, W, E, O, J⟩ := (se [ag, ai, al, aj, ah, am, b] cA).g12 hD av af aa ab ac C ae W E O J
  refine .d fun gS bP => ?_
  replace ⟨hD, av, af, aa, ab, ac, C, ae, W, E, O, bO⟩ := (se [ag, ai, al, aj, ah, am, b] bP).g12 hD av af aa ab ac C ae W E O bO
  replace J := (se [ag, ai, al, aj, ah, am, b] bP).g1 J
  replace hD := hD.outof
  replace aa := aa.outof
  replace ab := ab.outof
  replace ac := ac.outof
  have b0 : nin (ge w.heap.size) [ag, ai, al, aj, ah, am, b] dr ∧ dr ≠ ai := hap_mk d3 (all_cons d0 (all_cons cB (all_cons dX (all_cons dY (all_cons dZ (all_cons dW (all_cons dV all_nil))))))) cB
  refine RG.append1 (T := 32) (ty := 32) (y := (⟨1 + bY, (⟨bo.t, bo.v⟩ : Row)⟩ : Smp)) C bO (by kernel_rfl) (by kernel_rfl) rfl b0 (by have q1 : WD _ := ‹_›; have q2 := q1.wi.dsk.nl; have q3 := q1.wi.dsk.nm.len; have q4 := q1.wi.sto.nm2; omega) fun aW cC gT ar aB cD => ?_
  have fJ := nb_or aB eS af.lt
  have fK := nb_or aB (Nb.symm eP) ae.lt
  have fL := nb_or aB (Nb.symm de) W.lt
  have fM := nb_or aB (Nb.symm df) E.lt
  have fN := nb_or aB (Nb.symm bq) O.lt
  have d4 := gb_or aB bj J.size
  replace ⟨hD, av, af, aa, ab, ac, ae, W, E, O, J⟩ := (sa [ag, ai, al, aj, ah, am, b] cD aB).g11 hD av af aa ab ac ae W E O J
  replace ar := ar.rn ai
  have fO := ar.len; have fP := ar.max
  refine .r 2 <| .ss 3 (vS aW (aK + 1) cC) O fun gU cE d5 d6 => ?_
  replace ⟨hD, av, af, aa, ab, ac, ar, ae, W, E, J⟩ := (so [ag, aW, al, aj, ah, am, b] cE).g11 hD av af aa ab ac ar ae W E J
  refine .d <| .ib 0 <| .s <| .g <| .ln d5 <| .sc [.slice aO ak.store.idx.names.length aP, .slice aQ ak.store.idx.posts.length aR, .slice aS ak.store.parts.length aT, vS aW (aK + 1) cC, vS al aH aY, vS aj aL aZ, vS ah aM ba, vI ak.disk.next] af fun cF cG d7 d8 => ?_
  replace ⟨hD, av, aa, ab, ac, ar, ae, W, E, J⟩ := (so [ag, aW, al, aj, ah, am, b] cG).g10 hD av aa ab ac ar ae W E J
  refine .d ?_
  have bD := ae.sl bk
  replace ⟨hD, aa, ab, ac, ar, W, E⟩ := (sd cF [ag, aW, al, aj, ah, am, b] al).g7 hD aa ab ac ar W E
  have cH := W.sl bm
  replace ⟨hD, aa, ab, ac, ar, bD, E⟩ := (sd cF [ag, aW, aj, ah, am, b] aj).g7 hD aa ab ac ar bD E
  have e8 := E.sl bn
  replace ⟨hD, aa, ab, ac, ar, bD, cH⟩ := (sd cF [ag, aW, ah, am, b] ah).g7 hD aa ab ac ar bD cH
  exact .rb Tryz.func49 Tryz.results49 d7 ⟨⟨((⟨(⟨(⟨ak.store.idx.names, ak.store.idx.posts⟩ : Idx), ak.store.parts, (ak.store.mem ++ [(⟨1 + bY, (⟨bo.t, bo.v⟩ : Row)⟩ : Smp)])⟩ : Sto), (⟨ak.disk.files, ak.disk.list, ak.disk.names, ak.disk.next⟩ : Dsk)⟩ : Wld) : Wld), ⟨aO, ak.store.idx.names.length, aP, aQ, ak.store.idx.posts.length, aR, aS, ak.store.parts.length, aT, aW, (aK + 1), cC, (some ⟨al, 0, none⟩), aH, aY, (some ⟨aj, 0, none⟩), aL, aZ, (some ⟨ah, 0, none⟩), aM, ba, rfl, ((RepS.lessM aa (all_cons (.tail _ (.head _)) all_nil)).eqx (by rfl)), ((RepS.lessM ab (all_cons (.tail _ (.head _)) all_nil)).eqx (by rfl)), ((RepS.lessM ac (all_cons (.tail _ (.head _)) all_nil)).eqx (by rfl)), ((Own.lessM ar (all_cons (.tail _ (.head _)) all_nil)).eqx (by rfl)), d4, ((RepS.lessM bD (all_cons (.tail _ (.head _)) all_nil)).eqx (by rfl)), ((RepS.lessM cH (all_cons (.tail _ (.head _)) all_nil)).eqx (by rfl)), ((RepS.lessM e8 (all_cons (.tail _ (.head _)) all_nil)).eqx (by rfl))⟩, (by have q1 : WD _ := ‹_›; exact q1.wg2 (by omega) ‹_›)⟩, e7, by omega, av, J⟩
 refine .r 1 <| .d <| .cf <| .s <| .g <| .eq bW 2 (fun d9 => ?_) (fun d9 => ?_)
 ·refine .r 1 <| .d <| .ct <| .s <| .g <| .r 2 <| .lb O <| .r 1 <| .bp ((aH : Int) > 0) (fun ec => ?_) (fun ec => ?_)
  ·refine .d <| .ct <| .g <| .r 2 <| .lb O ?_
   have fa := ae.sl bk
   replace ⟨hD, aa, ab, ac, C, W, E⟩ := (sd aC [ag, ai, al, aj, ah, am, b] al).g7 hD aa ab ac C W E
   refine RG.sub (t := 23) (lo := some (vI 1)) (hi := none) fa 1 aH (by kernel_rfl) (by kernel_rfl) (.inr ⟨_, _, rfl, by omega⟩) (.inl ⟨rfl, rfl⟩) (by omega) (by omega) fun cI cJ aI => ?_
   have fQ := aI.len; have fR := aI.max
   refine .r 2 <| .ss 4 (.slice cI (aH - 1) cJ) O fun gV cK ed ee => ?_
   replace ⟨hD, ao, af, aa, ab, ac, C, W, E, aI, J⟩ := (so [ag, ai, aj, ah, am, b] cK).g11 hD ao af aa ab ac C W E aI J
   refine .d <| .ib 0 <| .s <| .g <| .ln ed <| .sc [.slice aO ak.store.idx.names.length aP, .slice aQ ak.store.idx.posts.length aR, .slice aS ak.store.parts.length aT, vS ai aK aX, .slice cI (aH - 1) cJ, vS aj aL aZ, vS ah aM ba, vI ak.disk.next] af fun dt cL ef eg => ?_
   replace ⟨hD, ao, aa, ab, ac, C, W, E, aI, J⟩ := (so [ag, ai, aj, ah, am, b] cL).g10 hD ao aa ab ac C W E aI J
   refine .d ?_
   have cM := W.sl bm
   replace ⟨hD, aa, ab, ac, C, E, aI⟩ := (sd dt [ag, ai, aj, ah, am, b] aj).g7 hD aa ab ac C E aI
   have fb := E.sl bn
   replace ⟨hD, aa, ab, ac, C, cM, aI⟩ := (sd dt [ag, ai, ah, am, b] ah).g7 hD aa ab ac C cM aI
   exact .rb Tryz.func49 Tryz.results49 ef ⟨⟨((⟨(⟨(⟨ak.store.idx.names, ak.store.idx.posts⟩ : Idx), ak.store.parts, ak.store.mem⟩ : Sto), (⟨((ak.disk.files.take aH).drop 1), ak.disk.list, ak.disk.names, ak.disk.next⟩ : Dsk)⟩ : Wld) : Wld), ⟨aO, ak.store.idx.names.length, aP, aQ, ak.store.idx.posts.length, aR, aS, ak.store.parts.length, aT, ai, aK, aX, cI, (aH - 1), cJ, (some ⟨aj, 0, none⟩), aL, aZ, (some ⟨ah, 0, none⟩), aM, ba, rfl, ((RepS.lessM aa (all_cons (.tail _ (.head _)) all_nil)).eqx (by rfl)), ((RepS.lessM ab (all_cons (.tail _ (.head _)) all_nil)).eqx (by rfl)), ((RepS.lessM ac (all_cons (.tail _ (.head _)) all_nil)).eqx (by rfl)), ((Own.lessM C (all_cons (.tail _ (.head _)) all_nil)).eqx (by rfl)), bj, ((RepS.lessM aI (all_cons (.tail _ (.head _)) all_nil)).eqx (by rfl)), ((RepS.lessM cM (all_cons (.tail _ (.head _)) all_nil)).eqx (by rfl)), ((RepS.lessM fb (all_cons (.tail _ (.head _)) all_nil)).eqx (by rfl))⟩, (by have q1 : WD _ := ‹_›; exact q1.wg3)⟩, cg, by omega, ao, J⟩
  refine .d <| .cf <| .sk <| .ib 0 <| .s <| .g <| .ln O <| .sc [.slice aO ak.store.idx.names.length aP, .slice aQ ak.store.idx.posts.length aR, .slice aS ak.store.parts.length aT, vS ai aK aX, vS al aH aY, vS aj aL aZ, vS ah aM ba, vI ak.disk.next] af fun cN cO eh ej => ?_
  replace ⟨hD, ao, aa, ab, ac, C, ae, W, E, O, J⟩ := (so [ag, ai, al, aj, ah, am, b] cO).g11 hD ao aa ab ac C ae W E O J
  refine .d ?_
  have bE := ae.sl bk
  replace ⟨hD, aa, ab, ac, C, W, E⟩ := (sd cN [ag, ai, al, aj, ah, am, b] al).g7 hD aa ab ac C W E
  have cP := W.sl bm
  replace ⟨hD, aa, ab, ac, C, bE, E⟩ := (sd cN [ag, ai, aj, ah, am, b] aj).g7 hD aa ab ac C bE E
  have fc := E.sl bn
  replace ⟨hD, aa, ab, ac, C, bE, cP⟩ := (sd cN [ag, ai, ah, am, b] ah).g7 hD aa ab ac C bE cP
  exact .rb Tryz.func49 Tryz.results49 eh ⟨⟨(ak : Wld), ⟨aO, ak.store.idx.names.length, aP, aQ, ak.store.idx.posts.length, aR, aS, ak.store.parts.length, aT, ai, aK, aX, (some ⟨al, 0, none⟩), aH, aY, (some ⟨aj, 0, none⟩), aL, aZ, (some ⟨ah, 0, none⟩), aM, ba, rfl, ((RepS.lessM aa (all_cons (.tail _ (.head _)) all_nil)).eqx (by rfl)), ((RepS.lessM ab (all_cons (.tail _ (.head _)) all_nil)).eqx (by rfl)), ((RepS.lessM ac (all_cons (.tail _ (.head _)) all_nil)).eqx (by rfl)), ((Own.lessM C (all_cons (.tail _ (.head _)) all_nil)).eqx (by rfl)), bj, ((RepS.lessM bE (all_cons (.tail _ (.head _)) all_nil)).eqx (by rfl)), ((RepS.lessM cP (all_cons (.tail _ (.head _)) all_nil)).eqx (by rfl)), ((RepS.lessM fc (all_cons (.tail _ (.head _)) all_nil)).eqx (by rfl))⟩, (by have q1 : WD _ := ‹_›; exact q1.wg)⟩, cg, by omega, ao, J⟩
 refine .r 1 <| .d <| .cf <| .s <| .g <| .eq bW 3 (fun ek => ?_) (fun ek => ?_)
 ·refine .r 1 <| .d <| .ct ?_
  replace hD := hD.into
  replace aa := aa.into
  replace ab := ab.into
  replace ac := ac.into
  have en : Cov (mtb [ai, al, aj, ah, b] aC.heap.size) aC b := ⟨.inl (.inl (.tail _ (.tail _ (.tail _ (.tail _ (.head _))))))⟩
  have et : Gb (ag + 1) aC.heap.size := O.lt
  refine .gd (mtb [ai, al, aj, ah, b] aC.heap.size) 6 fun gW cQ => ?_
  replace ⟨hD, ao, af, aa, ab, ac, C, ae, W, E, O, J⟩ := (se [ag, ai, al, aj, ah, am, b] cQ).g12 hD ao af aa ab ac C ae W E O J
  refine .r [0, 1] <| .lb 2 O (nS_of (all_cons bq (all_cons bI (all_cons br (all_cons bt (all_cons bH all_nil))))) et) <| .r [3] <| .go 4 <| .cl (fun cR bz => c_spec_l71Name (ao.ext bz) ((hD.toAll (.tail _ (.tail _ (.tail _ (.tail _ (.tail _ (.tail _ (.head _)))))))).ext bz) (by omega) (w := cR) (F := all)) ?_
  intro cR bz
  replace ⟨hD, ao, af, aa, ab, ac, C, ae, W, E, O, J⟩ := (se [ag, ai, al, aj, ah, am, b] bz).g12 hD ao af aa ab ac C ae W E O J
  rintro gX gY ⟨⟨cS, ⟨fd, fe, rfl, aJ⟩, fS⟩, ff, fT, au, bQ⟩
  have cT := al7 O.lt C.lt ae.lt W.lt E.lt af.lt ao.lt
  have ey : Gb w.heap.size cR.heap.size := J.size
  have hkeep_ := bQ
  replace ⟨hD, af, aa, ab, ac, C, ae, W, E, O, J⟩ := (so [ag, ai, al, aj, ah, am, b] bQ).g11 hD af aa ab ac C ae W E O J
  refine ⟨Chg.toS hkeep_ (Cov.toS en), ?_⟩
  have aJ := aJ.fr cT ey
  have fU := aJ.max
  refine .go 5 <| .ns 1 77 [.slice fd cS.length fe] fun gZ bR => ?_
  replace ⟨hD, au, af, aa, ab, ac, C, ae, W, E, O, aJ⟩ := (se [ag, ai, al, aj, ah, am, b] bR).g12 hD au af aa ab ac C ae W E O aJ
  replace J := (se [ag, ai, al, aj, ah, am, b] bR).g1 J
  intro du g0 aG bS bT ez
  have eA := nb_new aG au.lt
  have eB := nb_new aG af.lt
  have eC := nb_new aG C.lt
  have eD := nb_new aG ae.lt
  have eE := nb_new aG W.lt
  have cU := nb_new aG E.lt
  have eF := nb_new aG O.lt
  have eG := gb_new aG J.size
  replace ⟨hD, au, af, aa, ab, ac, C, ae, W, E, O, aJ⟩ := (se [ag, ai, al, aj, ah, am, b] bS).g12 hD au af aa ab ac C ae W E O aJ
  replace J := (se [ag, ai, al, aj, ah, am, b] bS).g1 J
  refine .d fun hC bU => ?_
  replace ⟨hD, au, af, aa, ab, ac, C, ae, W, E, O, aJ⟩ := (se [ag, ai, al, aj, ah, am, b] bU).g12 hD au af aa ab ac C ae W E O aJ
  replace ⟨bT, J⟩ := (se [ag, ai, al, aj, ah, am, b] bU).g2 bT J
  replace hD := hD.outof
  replace aa := aa.outof
  replace ab := ab.outof
  replace ac := ac.outof
  have b6 : nin (ge w.heap.size) [ag, ai, al, aj, ah, am, b] du ∧ du ≠ ah := hap_mk eG (all_cons eF (all_cons eC (all_cons eD (all_cons eE (all_cons cU (all_cons eB (all_cons eA all_nil))))))) cU
  refine RG.append1 (T := 25) (ty := 25) (y := cS) E bT (by kernel_rfl) (by kernel_rfl) ⟨_, _, _, rfl, aJ.oi⟩ b6 (by have q1 : WD _ := ‹_›; have q2 := q1.wi.dsk.nl; have q3 := q1.wi.dsk.nm.len; have q4 := q1.wi.sto.nm2; omega) fun aN cV hE aw ay cW => ?_
  have fV := nb_or ay eV au.lt
  have fW := nb_or ay eW af.lt
  have fX := nb_or ay df C.lt
  have fY := nb_or ay eR ae.lt
  have fZ := nb_or ay dg W.lt
  have f0 := nb_or ay (Nb.symm bt) O.lt
  have eH := gb_or ay bn J.size
  replace ⟨hD, au, af, aa, ab, ac, C, ae, W, O, J⟩ := (sa [ag, ai, al, aj, ah, am, b] cW ay).g11 hD au af aa ab ac C ae W O J
  replace aw := aw.rn ah
  have f5 := aw.len; have f6 := aw.max
  refine .r 2 <| .ss 6 (vS aN (aM + 1) cV) O fun hH cX eI eJ => ?_
  replace ⟨hD, au, af, aa, ab, ac, C, ae, W, aw, J⟩ := (so [ag, ai, al, aj, aN, am, b] cX).g11 hD au af aa ab ac C ae W aw J
  refine .d <| .ib 0 <| .s <| .g <| .ln eI <| .sc [.slice aO ak.store.idx.names.length aP, .slice aQ ak.store.idx.posts.length aR, .slice aS ak.store.parts.length aT, vS ai aK aX, vS al aH aY, vS aj aL aZ, vS aN (aM + 1) cV, vI ak.disk.next] af fun cY cZ eK eL => ?_
  replace ⟨hD, au, aa, ab, ac, C, ae, W, aw, J⟩ := (so [ag, ai, al, aj, aN, am, b] cZ).g10 hD au aa ab ac C ae W aw J
  refine .d ?_
  have bF := ae.sl bk
  replace ⟨hD, aa, ab, ac, C, W, aw⟩ := (sd cY [ag, ai, al, aj, aN, am, b] al).g7 hD aa ab ac C W aw
  have c7 := W.sl bm
  replace ⟨hD, aa, ab, ac, C, bF, aw⟩ := (sd cY [ag, ai, aj, aN, am, b] aj).g7 hD aa ab ac C bF aw
  have fg := aw.sl eH
  replace ⟨hD, aa, ab, ac, C, bF, c7⟩ := (sd cY [ag, ai, aN, am, b] aN).g7 hD aa ab ac C bF c7
  exact .rb Tryz.func49 Tryz.results49 eK ⟨⟨((⟨(⟨(⟨ak.store.idx.names, ak.store.idx.posts⟩ : Idx), ak.store.parts, ak.store.mem⟩ : Sto), (⟨ak.disk.files, ak.disk.list, (ak.disk.names ++ [cS]), ak.disk.next⟩ : Dsk)⟩ : Wld) : Wld), ⟨aO, ak.store.idx.names.length, aP, aQ, ak.store.idx.posts.length, aR, aS, ak.store.parts.length, aT, ai, aK, aX, (some ⟨al, 0, none⟩), aH, aY, (some ⟨aj, 0, none⟩), aL, aZ, (some ⟨aN, 0, none⟩), (aM + 1), cV, rfl, ((RepS.lessM aa (all_cons (.tail _ (.head _)) all_nil)).eqx (by rfl)), ((RepS.lessM ab (all_cons (.tail _ (.head _)) all_nil)).eqx (by rfl)), ((RepS.lessM ac (all_cons (.tail _ (.head _)) all_nil)).eqx (by rfl)), ((Own.lessM C (all_cons (.tail _ (.head _)) all_nil)).eqx (by rfl)), bj, ((RepS.lessM bF (all_cons (.tail _ (.head _)) all_nil)).eqx (by rfl)), ((RepS.lessM c7 (all_cons (.tail _ (.head _)) all_nil)).eqx (by rfl)), ((RepS.lessM fg (all_cons (.tail _ (.head _)) all_nil)).eqx (by rfl))⟩, (by have q1 : WD _ := ‹_›; exact q1.wg4 ‹_›)⟩, ff, by omega, au, J⟩
 refine .r 1 <| .d <| .cf <| .sk <| .ib 0 <| .s <| .g <| .ln O <| .sc [.slice aO ak.store.idx.names.length aP, .slice aQ ak.store.idx.posts.length aR, .slice aS ak.store.parts.length aT, vS ai aK aX, vS al aH aY, vS aj aL aZ, vS ah aM ba, vI ak.disk.next] af fun c8 c9 eM eN => ?_
 replace ⟨hD, ao, aa, ab, ac, C, ae, W, E, J⟩ := (so [ag, ai, al, aj, ah, am, b] c9).g10 hD ao aa ab ac C ae W E J
 refine .d ?_
 have bG := ae.sl bk
 replace ⟨hD, aa, ab, ac, C, W, E⟩ := (sd c8 [ag, ai, al, aj, ah, am, b] al).g7 hD aa ab ac C W E
 have da := W.sl bm
 replace ⟨hD, aa, ab, ac, C, bG, E⟩ := (sd c8 [ag, ai, aj, ah, am, b] aj).g7 hD aa ab ac C bG E
 have fh := E.sl bn
 replace ⟨hD, aa, ab, ac, C, bG, da⟩ := (sd c8 [ag, ai, ah, am, b] ah).g7 hD aa ab ac C bG da
 exact .rb Tryz.func49 Tryz.results49 eM ⟨⟨(ak : Wld), ⟨aO, ak.store.idx.names.length, aP, aQ, ak.store.idx.posts.length, aR, aS, ak.store.parts.length, aT, ai, aK, aX, (some ⟨al, 0, none⟩), aH, aY, (some ⟨aj, 0, none⟩), aL, aZ, (some ⟨ah, 0, none⟩), aM, ba, rfl, ((RepS.lessM aa (all_cons (.tail _ (.head _)) all_nil)).eqx (by rfl)), ((RepS.lessM ab (all_cons (.tail _ (.head _)) all_nil)).eqx (by rfl)), ((RepS.lessM ac (all_cons (.tail _ (.head _)) all_nil)).eqx (by rfl)), ((Own.lessM C (all_cons (.tail _ (.head _)) all_nil)).eqx (by rfl)), bj, ((RepS.lessM bG (all_cons (.tail _ (.head _)) all_nil)).eqx (by rfl)), ((RepS.lessM da (all_cons (.tail _ (.head _)) all_nil)).eqx (by rfl)), ((RepS.lessM fh (all_cons (.tail _ (.head _)) all_nil)).eqx (by rfl))⟩, (by have q1 : WD _ := ‹_›; exact q1.wg)⟩, cg, by omega, ao, J⟩
end Go.Proofs.YtganlmloonielaaGreat
namespace Go.Proofs.YtganlmloonielaaGreat
theorem RG.b2s {P : Program} {n : Nat} {K : Env → World → Prop} {ops : Array Oper} {j : Nat} {e : Env} {w : World} {s d : TypeId} {r c : Nat} {y : UInt8} {t : TypeId} {F : Nat → Prop}
 (ho : Own w r t F 1 c [y]) (h : cvtAt n ops j e = some (s, d, .slice (some ⟨r, 0, none⟩) 1 c)) (ht : b2sB P s d = true)
 (H : RG P n K ops (j + 1) (putE e (opAt ops j).dst (.string (bs [y]))) w) : RG P n K ops j e w := by
 obtain ⟨cs, h1, h2⟩ := ho.elem 0 y rfl
 cases h1
 have h3 : Has w ⟨r, 0, none⟩ [.int .u8 (y.toNat : Int)] := by simpa using h2
 have h4 := run_cvtAt (P := P) (w := w) h (run_b2s1 h3 ht)
 exact RG.val h4.1 h4.2 H
theorem to_byte {n : Int} (h : 0 ≤ n ∧ n ≤ 255) : ∃ y : UInt8, (y.toNat : Int) = n := by
 refine ⟨UInt8.ofNat n.toNat, ?_⟩
 rw [UInt8.toNat_ofNat']
 omega
theorem to_byte_v {n : Int} {y : UInt8} (h : (y.toNat : Int) = n) : Value.int .u8 (IntKind.u8.wrap n) = Value.int .u8 (y.toNat : Int) := by
 have := UInt8.toNat_lt y
 rw [← h, IntWalk.u8_in _ (by omega)]
def zigI (n : Int) : Int := if n < 0 then -2 * n - 1 else 2 * n
theorem zigI_b {n m : Int} (h : -m ≤ n ∧ n ≤ m) (hm : 0 ≤ m) : 0 ≤ zigI n ∧ zigI n ≤ 2 * m := by unfold zigI; split <;> omega
theorem zig_put {n : Int} (h : -10000 ≤ n ∧ n ≤ 10000) : 0 ≤ zigI n ∧ zigI n ≤ 1000000 := by have := zigI_b h (by omega); omega
theorem row_t {r : Row} (h : rowOk r = true) : -1000 ≤ r.t ∧ r.t ≤ 1000 := by have := rowOk_t h; omega
theorem row_v {r : Row} (h : rowOk r = true) : -1000 ≤ r.v ∧ r.v ≤ 1000 := by have := rowOk_v h; omega
theorem and_r {a b : Bool} (h : (a && b) = true) : b = true := by cases a <;> simp_all
theorem td128 {z : Int} (h : 0 ≤ z) : 0 ≤ Int.tdiv z 128 ∧ Int.tdiv z 128 * 128 ≤ z ∧ 0 ≤ Int.tmod z 128 ∧ Int.tmod z 128 < 128 := by
 obtain ⟨k, rfl⟩ : ∃ k : Nat, z = k := ⟨z.toNat, by omega⟩
 have e : Int.tdiv (k : Int) 128 = ((k / 128 : Nat) : Int) := rfl
 have e2 : Int.tmod (k : Int) 128 = ((k % 128 : Nat) : Int) := rfl
 rw [e, e2]
 omega
theorem fileF_ok : ∀ (fs : List Fil) (nx : Int) (o : Option Int), fileF nx o fs = true → ∀ f ∈ fs, 1 ≤ f.num ∧ f.num ≤ nx - 1 ∧ partOk f.part = true := by
 intro fs
 induction fs with
 | nil => intro nx o _ f hf; cases hf
 | cons x xs ih =>
   intro nx o h f hf
   unfold fileF at h
   simp only [Bool.and_eq_true] at h
   rcases List.mem_cons.1 hf with rfl | hf
   ·have := inR_t h.1.1.1
    exact ⟨this.1, this.2, h.1.2⟩
   ·exact ih nx _ h.2 f hf
theorem diskOk_f {d : Dsk} (h : diskOk d = true) : (1 ≤ d.next ∧ d.next ≤ 999) ∧ d.list.length ≤ 6 ∧ fileF d.next none d.files = true ∧ lstOk d = true := by
 unfold diskOk at h
 simp only [Bool.and_eq_true, decide_eq_true_eq] at h
 exact ⟨inR_t h.1.1.1.1.1, h.1.1.1.2, h.1.1.2, h.1.2⟩
end Go.Proofs.YtganlmloonielaaGreat
namespace Go.Proofs.YtganlmloonielaaGreat
set_option maxRecDepth 100000
set_option maxHeartbeats 4000000
theorem c_spec_l1Zig (n : Int) {w : World} {F : Nat → Prop}  (p0 : -1000000 ≤ n ∧ n ≤ 1000000) : Calls Tryz.prog 173 [.int .i64 n].toArray w (rets fun rv w' => rv = .int .i64 (zigI n) ∧ Ext w w') := by
 exact goT Tryz.func173 <| .s <| .g <| .r 1 <| .d <| .s <| .s <| .g <| .r 1 <| .bp (n < 0) (fun C => .d <| .ct <| .s <| .g <| .r 1 <| .it ((-2) * n) <| .it (((-2) * n) - 1) <| .r 1 <| .d <| .rt Tryz.func173 Tryz.results173 (vI (((-2) * n) - 1)) ⟨(congrArg (Value.int .i64) (by unfold zigI; (rw [if_pos ‹_›]; done))), (Chg.refl _ _)⟩) fun C => .d <| .cf <| .sk <| .s <| .g <| .r 1 <| .it (2 * n) <| .r 1 <| .d <| .rt Tryz.func173 Tryz.results173 (vI (2 * n)) ⟨(congrArg (Value.int .i64) (by unfold zigI; (rw [if_neg ‹_›]; done))), (Chg.refl _ _)⟩
end Go.Proofs.YtganlmloonielaaGreat
namespace Go.Proofs.YtganlmloonielaaGreat
def putF (z : Nat) : Str := if h : z < 128 then [UInt8.ofNat z] else UInt8.ofNat (z % 128 + 128) :: putF (z / 128)
termination_by z
decreasing_by omega
theorem putF_1 {z : Nat} (h : z < 128) : putF z = [UInt8.ofNat z] := by rw [putF, dif_pos h]
theorem putF_2 {z : Nat} (h : ¬ z < 128) : putF z = UInt8.ofNat (z % 128 + 128) :: putF (z / 128) := by rw [putF, dif_neg h]
theorem putF_pos (z : Nat) : 0 < (putF z).length := by rw [putF]; split <;> simp
theorem putF_len1 {z : Nat} (h : z < 128) : (putF z).length = 1 := by rw [putF_1 h]; rfl
theorem putF_len2 {z : Nat} (h : z < 16384) : (putF z).length ≤ 2 := by
 by_cases h1 : z < 128
 ·rw [putF_len1 h1]; omega
 ·rw [putF_2 h1, List.length_cons, putF_len1 (by omega)]; omega
theorem putF_len {z : Nat} (h : z < 2097152) : (putF z).length ≤ 3 := by
 by_cases h1 : z < 128
 ·rw [putF_len1 h1]; omega
 ·rw [putF_2 h1, List.length_cons]
  have := putF_len2 (z := z / 128) (by omega)
  omega
theorem ofNat_inj {a b : Nat} (ha : a < 256) (hb : b < 256) (h : UInt8.ofNat a = UInt8.ofNat b) : a = b := by
 have := congrArg UInt8.toNat h
 rw [UInt8.toNat_ofNat', UInt8.toNat_ofNat'] at this
 omega
theorem putF_inj : ∀ (z y : Nat) (r s : Str), putF z ++ r = putF y ++ s → z = y ∧ r = s := by
 intro z
 induction z using Nat.strongRecOn with
 | ind z ih =>
   intro y r s h
   by_cases h1 : z < 128
   ·by_cases h2 : y < 128
    ·rw [putF_1 h1, putF_1 h2] at h
     simp only [List.cons_append, List.nil_append, List.cons.injEq] at h
     exact ⟨ofNat_inj (by omega) (by omega) h.1, h.2⟩
    ·rw [putF_1 h1, putF_2 h2] at h
     simp only [List.cons_append, List.nil_append, List.cons.injEq] at h
     have := ofNat_inj (by omega) (by omega) h.1
     omega
   ·by_cases h2 : y < 128
    ·rw [putF_2 h1, putF_1 h2] at h
     simp only [List.cons_append, List.nil_append, List.cons.injEq] at h
     have := ofNat_inj (by omega) (by omega) h.1
     omega
    ·rw [putF_2 h1, putF_2 h2] at h
     simp only [List.cons_append, List.cons.injEq] at h
     have e := ofNat_inj (by omega) (by omega) h.1
     obtain ⟨e2, e3⟩ := ih (z / 128) (by omega) (y / 128) r s h.2
     exact ⟨by omega, e3⟩
theorem putStep {out : Str} {z y : Int} {Y : Str} (h : out ++ putF z.toNat = Y) (hz : z ≥ 128) (hy : y = Int.tmod z 128 + 128) : (out ++ [UInt8.ofNat y.toNat]) ++ putF (Int.tdiv z 128).toNat = Y := by
 obtain ⟨k, rfl⟩ : ∃ k : Nat, z = k := ⟨z.toNat, by omega⟩
 have e : Int.tdiv (k : Int) 128 = ((k / 128 : Nat) : Int) := rfl
 have e2 : Int.tmod (k : Int) 128 = ((k % 128 : Nat) : Int) := rfl
 rw [e2] at hy
 have hk : ¬ k < 128 := by omega
 have e3 : ((k : Int)).toNat = k := by omega
 have e4 : (((k / 128 : Nat) : Int)).toNat = k / 128 := Int.toNat_natCast _
 have e5 : (((k % 128 : Nat) : Int) + 128).toNat = k % 128 + 128 := by omega
 rw [e, ← h, hy, e3, e4, e5, putF_2 hk, List.append_assoc]
 rfl
theorem putEnd {out : Str} {z : Int} {Y : Str} (h : out ++ putF z.toNat = Y) (hz : ¬ z ≥ 128) : out ++ [UInt8.ofNat z.toNat] = Y := by
 rw [← h, putF_1 (by omega)]
theorem put_room {out : Str} {z y : Int} (h : out ++ putF z.toNat = putF y.toNat) (hy : 0 ≤ y ∧ y ≤ 1000000) : out.length ≤ 3 := by
 have := congrArg List.length h
 rw [List.length_append] at this
 have := putF_len (z := y.toNat) (by omega)
 omega
theorem zigI_inj {a b : Int} (h : (zigI a).toNat = (zigI b).toNat) : a = b := by
 unfold zigI at h
 split at h <;> split at h <;> omega
def zp (i : Nat) (step d : Int) : Nat := (zigI (if i < 2 then d else d - step)).toNat
def packF : Nat → Int → Int → List Int → Str
 | _, _, _, [] => []
 | i, last, step, x :: xs => putF (zp i step (x - last)) ++ packF (i + 1) x (x - last) xs
theorem packF_inj : ∀ (xs ys : List Int) (i : Nat) (last step : Int), packF i last step xs = packF i last step ys → xs = ys := by
 intro xs
 induction xs with
 | nil =>
   intro ys i last step h
   cases ys with
   | nil => rfl
   | cons y ys =>
     have := congrArg List.length h
     simp only [packF, List.length_nil, List.length_append] at this
     have := putF_pos (zp i step (y - last))
     omega
 | cons x xs ih =>
   intro ys i last step h
   cases ys with
   | nil =>
     have := congrArg List.length h
     simp only [packF, List.length_nil, List.length_append] at this
     have := putF_pos (zp i step (x - last))
     omega
   | cons y ys =>
     simp only [packF] at h
     obtain ⟨e1, e2⟩ := putF_inj _ _ _ _ h
     have e3 : x = y := by
      have := zigI_inj e1
      split at this <;> omega
     subst e3
     rw [ih ys _ _ _ e2]
theorem zp_len {i : Nat} {step d : Int} (h : -3000 ≤ step ∧ step ≤ 3000) (hd : -3000 ≤ d ∧ d ≤ 3000) : (putF (zp i step d)).length ≤ 2 := by
 refine putF_len2 ?_
 unfold zp zigI
 split <;> split <;> omega
theorem packF_len : ∀ (l : List Int) (i : Nat) (last step : Int), (∀ x ∈ l, -1000 ≤ x ∧ x ≤ 1000) → (-1000 ≤ last ∧ last ≤ 1000) → (-2000 ≤ step ∧ step ≤ 2000) → (packF i last step l).length ≤ 2 * l.length := by
 intro l
 induction l with
 | nil => intro i last step _ _ _; simp [packF]
 | cons x xs ih =>
   intro i last step h h1 h2
   simp only [packF, List.length_append, List.length_cons]
   have hx := h x (by simp)
   have a := zp_len (i := i) (step := step) (d := x - last) (by omega) (by omega)
   have b := ih (i + 1) x (x - last) (fun y hy => h y (by simp [hy])) hx (by omega)
   omega
theorem packStep {out Y : Str} {l : List Int} {i : Nat} {last step x y z : Int} (h : out ++ packF i last step (l.drop i) = Y) (hd : l.drop i = x :: l.drop (i + 1)) (hy : y = zigI z) (hz : (i < 2 ∧ z = x - last) ∨ (¬ i < 2 ∧ z = x - last - step)) : (out ++ putF y.toNat) ++ packF (i + 1) x (x - last) (l.drop (i + 1)) = Y := by
 rw [hd] at h
 rw [← h, hy]
 simp only [packF]
 have e : (zigI z).toNat = zp i step (x - last) := by
  unfold zp
  rcases hz with ⟨h1, h2⟩ | ⟨h1, h2⟩
  ·rw [if_pos h1, h2]
  ·rw [if_neg h1, h2]
 rw [e, List.append_assoc]
theorem packEnd {out Y : Str} {l : List Int} {i : Nat} {last step : Int} (h : out ++ packF i last step (l.drop i) = Y) (hi : l.length ≤ i) : out = Y := by
 rw [drop_end hi] at h
 simpa [packF] using h
theorem pack_room {out : Str} {l : List Int} {i : Nat} {last step : Int} (h : out ++ packF i last step (l.drop i) = packF 0 0 0 l) (hl : ∀ x ∈ l, -1000 ≤ x ∧ x ≤ 1000) : out.length ≤ 2 * l.length := by
 have := congrArg List.length h
 rw [List.length_append] at this
 have := packF_len l 0 0 0 hl (by omega) (by omega)
 omega
theorem pack_cat {out : Str} {l : List Int} {i : Nat} {last step z : Int} (h : out ++ packF i last step (l.drop i) = packF 0 0 0 l) (hl : ∀ x ∈ l, -1000 ≤ x ∧ x ≤ 1000) (hn : l.length ≤ 1000) (h1 : -10000 ≤ z) (h2 : z ≤ 10000) : out.length + (putF (zigI z).toNat).length ≤ 9000000000000000000 := by
 have := pack_room h hl
 have := zigI_b (n := z) (m := 10000) ⟨h1, h2⟩ (by omega)
 have := putF_len (z := (zigI z).toNat) (by omega)
 omega
theorem byte_of {n : Int} {y : UInt8} (h : (y.toNat : Int) = n) : y = UInt8.ofNat n.toNat := by
 rw [← h, show ((y.toNat : Int)).toNat = y.toNat from Int.toNat_natCast _, UInt8.ofNat_toNat]
def packB (b : List Row) : Str := [UInt8.ofNat (packF 0 0 0 (b.map Row.t)).length] ++ packF 0 0 0 (b.map Row.t) ++ packF 0 0 0 (b.map Row.v)
def packI (b : List Row) : Str := if blockOk b = true then packB b else []
theorem packI_no {b : List Row} (h : blockOk b = false) : [] = packI b := by unfold packI; rw [if_neg (by simp [h])]
theorem row_bt {b : List Row} (h : blockOk b = true) : ∀ x ∈ b.map Row.t, -1000 ≤ x ∧ x ≤ 1000 := fun x hx => by
 obtain ⟨r, hr, rfl⟩ := List.mem_map.1 hx
 exact row_t ((blkOf h).rows r hr)
theorem row_bv {b : List Row} (h : blockOk b = true) : ∀ x ∈ b.map Row.v, -1000 ≤ x ∧ x ≤ 1000 := fun x hx => by
 obtain ⟨r, hr, rfl⟩ := List.mem_map.1 hx
 exact row_v ((blkOf h).rows r hr)
theorem packT_len {b : List Row} (h : blockOk b = true) : (packF 0 0 0 (b.map Row.t)).length ≤ 48 := by
 have := packF_len (b.map Row.t) 0 0 0 (row_bt h) (by omega) (by omega)
 rw [List.length_map] at this
 have := bok h
 omega
theorem packV_len {b : List Row} (h : blockOk b = true) : (packF 0 0 0 (b.map Row.v)).length ≤ 48 := by
 have := packF_len (b.map Row.v) 0 0 0 (row_bv h) (by omega) (by omega)
 rw [List.length_map] at this
 have := bok h
 omega
theorem packTS {b : List Row} {ts : List Int} {i : Nat} (h : ts ++ (b.drop i).map Row.t = b.map Row.t) (hi : b.length ≤ i) (hb : blockOk b = true) : (packF 0 0 0 ts).length ≤ 48 := by
 rw [mapEnd h hi]; exact packT_len hb
theorem packVS {b : List Row} {ts : List Int} {i : Nat} (h : ts ++ (b.drop i).map Row.v = b.map Row.v) (hi : b.length ≤ i) (hb : blockOk b = true) : (packF 0 0 0 ts).length ≤ 48 := by
 rw [mapEnd h hi]; exact packV_len hb
theorem packEE {b : List Row} {ts vs : List Int} {i : Nat} (h : ts ++ (b.drop i).map Row.t = b.map Row.t) (h2 : vs ++ (b.drop i).map Row.v = b.map Row.v) (hi : b.length ≤ i) (hb : blockOk b = true) : UInt8.ofNat (packF 0 0 0 ts).length :: (packF 0 0 0 ts ++ packF 0 0 0 vs) = packI b := by
 rw [mapEnd h hi, mapEnd h2 hi]
 unfold packI; rw [if_pos hb]; rfl
theorem rows_ext : ∀ (a b : List Row), a.map Row.t = b.map Row.t → a.map Row.v = b.map Row.v → a = b := by
 intro a
 induction a with
 | nil => intro b h _; cases b with | nil => rfl | cons y ys => simp at h
 | cons x xs ih =>
   intro b h1 h2
   cases b with
   | nil => simp at h1
   | cons y ys =>
     simp only [List.map_cons, List.cons.injEq] at h1 h2
     obtain ⟨h3, h4⟩ := h1
     obtain ⟨h5, h6⟩ := h2
     rw [ih ys h4 h6]
     cases x
     cases y
     simp only [Row.mk.injEq] at *
     simp_all
theorem packI_inj {a b : List Row} (ha : blockOk a = true) (hb : blockOk b = true) (h : packI a = packI b) : a = b := by
 unfold packI at h
 rw [if_pos ha, if_pos hb] at h
 unfold packB at h
 simp only [List.cons_append, List.nil_append, List.cons.injEq] at h
 have e := ofNat_inj (by have := packT_len ha; omega) (by have := packT_len hb; omega) h.1
 obtain ⟨e1, e2⟩ := List.append_inj h.2 e
 exact rows_ext a b (packF_inj _ _ _ _ _ e1) (packF_inj _ _ _ _ _ e2)
def fitsB (d : Dsk) (s : Sto) : Bool := diskOk d && (nmB s.idx.names && storeOk s) && decide (s.parts = d.list.map (partNo d)) && decide (d.names = s.idx.names.take d.names.length)
theorem fits_1 {d : Dsk} {s : Sto} (h : diskOk d = false) : false = fitsB d s := by unfold fitsB; rw [h]; rfl
theorem fits_2 {d : Dsk} {s : Sto} (h : (nmB s.idx.names && storeOk s) = false) : false = fitsB d s := by unfold fitsB; rw [h, Bool.and_false]; rfl
theorem fits_3 {d : Dsk} {s : Sto} (h : s.parts ≠ d.list.map (partNo d)) : false = fitsB d s := by unfold fitsB; rw [decide_eq_false h, Bool.and_false]; rfl
theorem fits_3l {d : Dsk} {s : Sto} (h : (s.parts.length : Int) ≠ d.list.length) : false = fitsB d s := fits_3 (fun e => h (by rw [e, List.length_map]))
theorem fits_4 {d : Dsk} {s : Sto} (h : d.names ≠ s.idx.names.take d.names.length) : false = fitsB d s := by unfold fitsB; rw [decide_eq_false h, Bool.and_false]
theorem fits_4l {d : Dsk} {s : Sto} (h : (s.idx.names.length : Int) < d.names.length) : false = fitsB d s := fits_4 (fun e => by
 have := congrArg List.length e
 rw [List.length_take] at this
 omega)
theorem fits_5 {d : Dsk} {s : Sto} {k : Nat} {a b : List Tag} (ha : d.names[k]? = some a) (hb : s.idx.names[k]? = some b) (h : (text a == text b) = false) : false = fitsB d s := fits_4 (fun e => (beq_eq_false_iff_ne.1 h) (by
 have hk := (List.getElem?_eq_some_iff.1 ha).1
 have h2 : d.names[k]? = (s.idx.names.take d.names.length)[k]? := congrArg (fun l => l[k]?) e
 rw [List.getElem?_take, if_pos hk, ha, hb] at h2
 cases h2
 rfl))
theorem fits_yes {d : Dsk} {s : Sto} (h1 : diskOk d = true) (h2 : (nmB s.idx.names && storeOk s) = true) (h3 : s.parts = d.list.map (partNo d)) (h4 : d.names = s.idx.names.take d.names.length) : true = fitsB d s := by unfold fitsB; rw [h1, h2, decide_eq_true h3, decide_eq_true h4]; rfl
structure Fits (d : Dsk) (s : Sto) : Prop where
 dk : diskOk d = true
 nm : nmB s.idx.names = true
 sk : storeOk s = true
 p : s.parts = d.list.map (partNo d)
 m : d.names = s.idx.names.take d.names.length
theorem fits_of {d : Dsk} {s : Sto} (h : fitsB d s = true) : Fits d s := by
 unfold fitsB at h
 simp only [Bool.and_eq_true, decide_eq_true_eq] at h
 exact ⟨h.1.1.1, h.1.1.2.1, h.1.1.2.2, h.1.2, h.2⟩
def nmTo (d : Dsk) (s : Sto) (k : Nat) : Prop := ∀ j a b, j < k → d.names[j]? = some a → s.idx.names[j]? = some b → text a = text b
theorem nmTo_0 (d : Dsk) (s : Sto) : nmTo d s 0 := fun j _ _ h => absurd h (by omega)
theorem nmTo_s {d : Dsk} {s : Sto} {k : Nat} {a b : List Tag} (h : nmTo d s k) (ha : d.names[k]? = some a) (hb : s.idx.names[k]? = some b) (e : (text a == text b) = true) : nmTo d s (k + 1) := fun j x y hj hx hy => by
 by_cases e1 : j = k
 ·subst e1
  rw [ha] at hx
  rw [hb] at hy
  cases hx
  cases hy
  exact eq_of_beq e
 ·exact h j x y (by omega) hx hy
theorem nmTo_e {d : Dsk} {s : Sto} {k : Nat} (h : nmTo d s k) (hk : d.names.length ≤ k) (hd : NmI d.names) (hs : NmI s.idx.names) (hl : d.names.length ≤ s.idx.names.length) : d.names = s.idx.names.take d.names.length := by
 apply List.ext_getElem?
 intro j
 by_cases hj : j < d.names.length
 ·rw [List.getElem?_take, if_pos hj]
  have ha := List.getElem?_eq_getElem hj
  have hb := List.getElem?_eq_getElem (l := s.idx.names) (i := j) (by omega)
  rw [ha, hb, text_inj (hd.ok _ (List.getElem_mem _)) (hs.ok _ (List.getElem_mem _)) (h j _ _ (by omega) ha hb)]
 ·rw [List.getElem?_eq_none (by omega), List.getElem?_eq_none (by rw [List.length_take]; omega)]
def ptTo (d : Dsk) (s : Sto) (k : Nat) : Prop := ∀ j n q, j < k → d.list[j]? = some n → s.parts[j]? = some q → partNo d n = q
theorem ptTo_0 (d : Dsk) (s : Sto) : ptTo d s 0 := fun j _ _ h => absurd h (by omega)
theorem ptTo_e {d : Dsk} {s : Sto} {k : Nat} (h : ptTo d s k) (hk : d.list.length ≤ k) (hl : (s.parts.length : Int) = d.list.length) : s.parts = d.list.map (partNo d) := by
 apply List.ext_getElem?
 intro j
 by_cases hj : j < d.list.length
 ·have ha := List.getElem?_eq_getElem hj
  have hb := List.getElem?_eq_getElem (l := s.parts) (i := j) (by omega)
  rw [List.getElem?_map, ha, hb, ← h j _ _ (by omega) ha hb]
  rfl
 ·rw [List.getElem?_eq_none (by omega), List.getElem?_eq_none (by rw [List.length_map]; omega)]
def idTo (d : Dsk) (s : Sto) (k : Nat) (k1 : Int) : Prop := ∀ n q, d.list[k]? = some n → s.parts[k]? = some q → ∀ id : Int, 1 ≤ id → id < k1 → partOf (partNo d n) id = partOf q id
theorem idTo_1 (d : Dsk) (s : Sto) (k : Nat) : idTo d s k 1 := fun _ _ _ _ id h1 h2 => absurd h1 (by omega)
theorem partNo_ok {d : Dsk} (h : diskOk d = true) (n : Int) : partOk (partNo d n) = true := by
 unfold partNo
 rw [List.getD_eq_getElem?_getD]
 cases hx : d.files[(numAt d n).toNat]? with
 | none => rfl
 | some f => exact (fileF_ok _ _ _ (diskOk_f h).2.2.1 f (List.mem_of_getElem? hx)).2.2
theorem idTo_s {d : Dsk} {s : Sto} {k : Nat} {k1 : Int} {n : Int} {q : Prt} {f : Fil} (h : idTo d s k k1) (hk : diskOk d = true) (hs : storeOk s = true) (hss : SD s) (hn : d.list[k]? = some n) (hq : s.parts[k]? = some q) (hf : d.files[(numAt d n).toNat]? = some f) (e : (packI (partOf f.part k1) == packI (partOf q k1)) = true) : idTo d s k (k1 + 1) := fun m r hm hr id h1 h2 => by
 rw [hn] at hm
 rw [hq] at hr
 cases hm
 cases hr
 by_cases e1 : id = k1
 ·subst e1
  have e2 := partNo_at hf
  have a : blockOk (partOf f.part id) = true := partOk_of (by rw [← e2]; exact partNo_ok hk n) id
  have b : blockOk (partOf q id) = true := partOk_of ((StoK.of hss hs).part q (List.mem_of_getElem? hq)).2 id
  rw [e2]
  exact packI_inj a b (eq_of_beq e)
 ·exact h n q hn hq id h1 (by omega)
theorem fits_6 {d : Dsk} {s : Sto} {k : Nat} {k1 n : Int} {q : Prt} {f : Fil} (hn : d.list[k]? = some n) (hq : s.parts[k]? = some q) (hf : d.files[(numAt d n).toNat]? = some f) (e : (packI (partOf f.part k1) == packI (partOf q k1)) = false) : false = fitsB d s := fits_3 (fun e2 => (beq_eq_false_iff_ne.1 e) (by
 have h2 : s.parts[k]? = (d.list.map (partNo d))[k]? := congrArg (fun l => l[k]?) e2
 rw [List.getElem?_map, hn, hq] at h2
 have h3 := Option.some.inj h2
 rw [h3, partNo_at hf]))
theorem part_out {p : Prt} (h : partOk p = true) {id : Int} (hid : ¬ (1 ≤ id ∧ id ≤ 6)) : partOf p id = [] := by
 unfold partOk at h
 simp only [Bool.and_eq_true, decide_eq_true_eq] at h
 have key : ∀ (is : List Int) (bs : List (List Row)) (o : Option Int), partG o is bs = true → partF id is bs = [] := by
  intro is
  induction is with
  | nil => intro bs o _; unfold partF; rfl
  | cons i is ih =>
    intro bs o hg
    cases bs with
    | nil => unfold partF; rfl
    | cons b bs =>
      simp only [partG, Bool.and_eq_true] at hg
      have h5 := inR_t hg.1.1.1.1
      unfold partF
      rw [if_neg (by simp; omega)]
      exact ih bs _ hg.2
 exact key _ _ _ h.2
theorem part_ext6 {p q : Prt} (hp : partOk p = true) (hq : partOk q = true) (h : ∀ id : Int, 1 ≤ id → id ≤ 6 → partOf p id = partOf q id) : p = q := part_ext hp hq (fun id => by
 by_cases hid : 1 ≤ id ∧ id ≤ 6
 ·exact h id hid.1 hid.2
 ·rw [part_out hp hid, part_out hq hid])
theorem ptTo_s {d : Dsk} {s : Sto} {k : Nat} {k1 : Int} (h : ptTo d s k) (hi : idTo d s k k1) (h7 : ¬ k1 ≤ 6) (hk : diskOk d = true) (hs : storeOk s = true) (hss : SD s) : ptTo d s (k + 1) := fun j n q hj hn hq => by
 by_cases e1 : j = k
 ·subst e1
  exact part_ext6 (partNo_ok hk n) ((StoK.of hss hs).part q (List.mem_of_getElem? hq)).2 (fun id h1 h2 => hi n q hn hq id h1 (by omega))
 ·exact h j n q (by omega) hn hq
def dflush (d : Dsk) (s : Sto) : List Stp := if fitsB d s then flushSt d s else []
theorem dflush_1 {d : Dsk} {s : Sto} (h : fitsB d s = true) : dflush d s = flushSt d s := by unfold dflush; rw [if_pos h]
theorem dflush_0 {d : Dsk} {s : Sto} (h : fitsB d s = false) : dflush d s = [] := by unfold dflush; rw [if_neg (by simp [h])]
end Go.Proofs.YtganlmloonielaaGreat
namespace Go.Proofs.YtganlmloonielaaGreat
set_option maxRecDepth 100000
set_option maxHeartbeats 4000000
theorem c_spec_l1ByteE (n : Int) {w : World} {F : Nat → Prop}  (p0 : 0 ≤ n ∧ n ≤ 255) : Calls Tryz.prog 146 [.int .i64 n].toArray w (rets fun rv w' => rv = .string (bs ([UInt8.ofNat n.toNat])) ∧ Ext w w') := by
 refine goT Tryz.func146 <| .s <| .g <| .r 1 <| .d <| .s <| .g <| .r 1 ?_
 obtain ⟨C, J⟩ : ∃ y : UInt8, (y.toNat : Int) = n := to_byte (by omega)
 refine RG.eqv (v := .int .u8 (C.toNat : Int)) (v' := .int .u8 (IntKind.u8.wrap n)) (by kernel_rfl) (to_byte_v J) <| .ns 1 5 [.int .u8 (C.toNat : Int)] fun O af W E aa ab => ?_
 have ac := E
 have ae : Own (α := UInt8) af O 5 (nin (ge w.heap.size) [O]) 1 1 [C] := Own.lit aa rfl (by decide) ⟨rfl, rfl⟩
 exact RG.b2s (s := 22) (d := 9) (y := C) ae (by kernel_rfl) (by kernel_rfl) <| .r 1 <| .d <| .rt Tryz.func146 Tryz.results146 (.string (bs [C])) ⟨(congrArg (fun s => Value.string (bs s)) (by rw [List.cons.injEq]; exact ⟨byte_of ‹_›, rfl⟩)), ac⟩
theorem c_spec_l1PutE (z : Int) {w : World} {F : Nat → Prop}  (p0 : 0 ≤ z ∧ z ≤ 1000000) : Calls Tryz.prog 172 [.int .i64 z].toArray w (rets fun rv w' => rv = .string (bs (putF z.toNat)) ∧ Ext w w') := by
 refine goT Tryz.func172 <| .s <| .g <| .r 1 <| .d <| .s <| .g <| .r 1 <| .d <| .s <| .b 0 <| T.loop (X := Int × Str) (z, []) (fun (C, out) => [(0, vI C), (3, vT out)]) (fun (C, out) O => Chg (ins []) w O ∧ (0 ≤ C ∧ C ≤ 1000000) ∧ (out ++ putF C.toNat = putF z.toNat)) (fun (C, out) => C.toNat) (by kernel_rfl) ⟨by kernel_rfl, by kernel_rfl, trivial⟩ ⟨Chg.refl _ _, (by omega), (by rfl)⟩ ?_
 rintro ⟨C, out⟩ ah O ⟨J, af, ag⟩ W
 have E : Chg nil w O := Chg.stepI (Chg.refl nil w) J all_nil
 refine .s <| .s <| .g <| .r 1 <| .bp (C ≥ 128) (fun ae => ?_) (fun ae => ?_)
 ·refine .d <| .ct <| .sk <| .b 1 <| .s <| .g <| .r 3 <| RG.int (Int.tmod C 128 + 128) (by kernel_rfl) (by (have q1 := td128 (z := C) (by omega); omega)) <| .cl (c_spec_l1ByteE (Int.tmod C 128 + 128) (by (have q1 := td128 (z := C) (by omega); omega)) (w := O) (F := all)) ?_
  rintro ai aj ⟨rfl, aa⟩
  replace ⟨E, J⟩ := (se [] aa).g2 E J
  exact RG.cat (t := 9) (s := out) (u := [UInt8.ofNat (Int.tmod C 128 + 128).toNat]) (by kernel_rfl) (by have q1 := put_room ‹_› p0; simp only [List.length_cons, List.length_nil]; omega) <| .r 1 <| .d <| .g <| .r 1 <| RG.quo (t := 3) (a := C) (b := 128) (by kernel_rfl) (by omega) (by (have q1 := td128 (z := C) (by omega); omega)) <| .r 1 <| .d <| .ib 1 <| W ((Int.tdiv C 128), (out ++ [UInt8.ofNat (Int.tmod C 128 + 128).toNat])) _ _ ⟨by kernel_rfl, by kernel_rfl, trivial⟩ ⟨J, (by have q1 := td128 (z := C) (by omega); omega), (by exact putStep ‹_› (by omega) rfl)⟩ (by simp only []; have q1 := td128 (z := C) (by omega); omega)
 refine .d <| .cf <| .x 0 rfl <| .s <| .g <| .r 2 <| .cl (c_spec_l1ByteE C (by omega) (w := O) (F := all)) ?_
 rintro ak al ⟨rfl, ab⟩
 replace E := (se [] ab).g1 E
 exact RG.cat (t := 9) (s := out) (u := [UInt8.ofNat C.toNat]) (by kernel_rfl) (by have q1 := put_room ‹_› p0; simp only [List.length_cons, List.length_nil]; omega) <| .r 1 <| .d <| .rt Tryz.func172 Tryz.results172 (.string (bs (out ++ [UInt8.ofNat C.toNat]))) ⟨(congrArg (fun s => Value.string (bs s)) (by exact putEnd ‹_› (by omega))), E⟩
theorem c_spec_l1PackE (list : List Int) {w : World} {F : Nat → Prop} {a1 : Option Addr} {n1 c1 : Nat} (h1 : RepS w F a1 n1 c1 list) (p0 : list.length ≤ 1000) (p1 : ∀ x ∈ list, -1000 ≤ x ∧ x ≤ 1000) : Calls Tryz.prog 145 [.slice a1 n1 c1].toArray w (rets fun rv w' => rv = .string (bs (packF 0 0 0 list)) ∧ Ext w w') := by
 refine goT Tryz.func145 ?_
 obtain ⟨rfl, ax, h1⟩ := h1.tp
 refine .s <| .g <| .r 1 <| .d <| .s <| .g <| .r 1 <| .d <| .s <| .g <| .r 1 <| .d <| .s <| .g <| .r 1 <| .d <| .s <| .s <| .g <| .r 1 <| .d <| .b 0 <| T.loop (X := Str × Int × Int × Nat) ([], 0, 0, 0) (fun (out, last, step, i) => [(0, .slice a1 list.length c1), (3, vT out), (4, vI last), (5, vI step), (6, vI (i : Int))]) (fun (out, last, step, i) aa => Chg (ins []) w aa ∧ (i ≤ list.length) ∧ (-1000 ≤ last ∧ last ≤ 1000) ∧ (-2000 ≤ step ∧ step ≤ 2000) ∧ (out ++ packF i last step (list.drop i) = packF 0 0 0 list)) (fun (out, last, step, i) => list.length - i) (by kernel_rfl) ⟨by kernel_rfl, by kernel_rfl, by kernel_rfl, by kernel_rfl, by kernel_rfl, trivial⟩ ⟨Chg.refl _ _, (by omega), (by omega), (by omega), (by rfl)⟩ ?_
 rintro ⟨out, last, step, i⟩ aD aa ⟨C, ay, az, aA, aB⟩ O
 have ac : Mv [] [] w aa := Mv.inl C all_nil all_nil
 replace h1 := (sp ac C).g1 h1
 have J : Chg nil w aa := Chg.stepI (Chg.refl nil w) C all_nil
 refine .s <| .s <| .g <| .r 3 <| .bp ((i : Int) < (list.length : Int)) (fun ai => ?_) (fun ai => .d <| .cf <| .x 0 rfl <| .s <| .g <| .r 2 <| .d <| .rt Tryz.func145 Tryz.results145 (vT out) ⟨(congrArg (fun s => Value.string (bs s)) (by exact packEnd ‹_› (by omega))), J⟩)
 refine .d <| .ct <| .sk <| .s <| .b 1 <| .s <| .g <| .r 2 ?_
 have aj : i < list.length := (by omega)
 refine .ix i 1 h1 aj ?_
 obtain ⟨E, W⟩ : ∃ y, list[i]? = some y := ⟨_, List.getElem?_eq_getElem (by omega)⟩
 have aC := drop_at W; have au := List.mem_of_getElem? W
 obtain ⟨_, rfl, ak⟩ := h1.elem i E W
 refine .lh 0 ak <| .r 1 <| RG.int (E - last) (by kernel_rfl) (by (have q1 := p1 _ ‹_›; omega)) <| .r 1 <| .d <| .s <| .s <| .g <| .r 1 <| .bp ((i : Int) < 2) (fun al => ?_) (fun al => ?_)
 ·refine .d <| .ct <| .g <| .r 2 <| .cl (c_spec_l1Zig (E - last) (by have q1 := p1 _ ‹_›; omega) (w := aa) (F := all)) ?_
  rintro aE av ⟨rfl, ae⟩
  replace ⟨h1, J, C⟩ := (se [] ae).g3 h1 J C
  refine .cl (c_spec_l1PutE (zigI (E - last)) (by have q1 := p1 _ ‹_›; exact zig_put (by omega)) (w := av) (F := all)) ?_
  rintro aF aG ⟨rfl, af⟩
  replace ⟨h1, J, C⟩ := (se [] af).g3 h1 J C
  refine RG.cat (t := 9) (s := out) (u := putF (zigI (E - last)).toNat) (by kernel_rfl) (by have q2 := p1 _ ‹_›; exact pack_cat ‹_› p1 p0 (by omega) (by omega)) <| .r 1 <| .d <| .s <| .g <| .r 2 <| .d <| .g <| .r 2 ?_
  have am : i < list.length := (by omega)
  refine .ix i 1 h1 am ?_
  obtain ⟨_, rfl, ao⟩ := h1.elem i E W
  exact .lh 0 ao <| .r 1 <| .d <| .ib 1 <| .g <| .r 1 <| RG.int ((i : Int) + 1) (by kernel_rfl) (by omega) <| .r 1 <| .d <| O ((out ++ (putF (zigI (E - last)).toNat)), E, E - last, i + 1) _ _ ⟨by kernel_rfl, by kernel_rfl, by kernel_rfl, by kernel_rfl, by kernel_rfl, trivial⟩ ⟨C, (by omega), (by exact p1 _ ‹_›), (by have q1 := p1 _ ‹_›; omega), (by exact packStep ‹_› ‹_› rfl (by exact .inl ⟨by omega, rfl⟩))⟩ (by (simp only []; omega))
 refine .d <| .cf <| .g <| .r 3 <| RG.int ((E - last) - step) (by kernel_rfl) (by (have q1 := p1 _ ‹_›; omega)) <| .cl (c_spec_l1Zig ((E - last) - step) (by have q1 := p1 _ ‹_›; omega) (w := aa) (F := all)) ?_
 rintro aI aw ⟨rfl, ag⟩
 replace ⟨h1, J, C⟩ := (se [] ag).g3 h1 J C
 refine .cl (c_spec_l1PutE (zigI ((E - last) - step)) (by have q1 := p1 _ ‹_›; exact zig_put (by omega)) (w := aw) (F := all)) ?_
 rintro aJ aK ⟨rfl, ah⟩
 replace ⟨h1, J, C⟩ := (se [] ah).g3 h1 J C
 refine RG.cat (t := 9) (s := out) (u := putF (zigI ((E - last) - step)).toNat) (by kernel_rfl) (by have q2 := p1 _ ‹_›; exact pack_cat ‹_› p1 p0 (by omega) (by omega)) <| .r 1 <| .d <| .s <| .g <| .r 2 <| .d <| .g <| .r 2 ?_
 have aq : i < list.length := (by omega)
 refine .ix i 1 h1 aq ?_
 obtain ⟨_, rfl, ar⟩ := h1.elem i E W
 exact .lh 0 ar <| .r 1 <| .d <| .ib 1 <| .g <| .r 1 <| RG.int ((i : Int) + 1) (by kernel_rfl) (by omega) <| .r 1 <| .d <| O ((out ++ (putF (zigI ((E - last) - step)).toNat)), E, E - last, i + 1) _ _ ⟨by kernel_rfl, by kernel_rfl, by kernel_rfl, by kernel_rfl, by kernel_rfl, trivial⟩ ⟨C, (by omega), (by exact p1 _ ‹_›), (by have q1 := p1 _ ‹_›; omega), (by exact packStep ‹_› ‹_› rfl (by exact .inr ⟨by omega, rfl⟩))⟩ (by (simp only []; omega))
theorem c_spec_BlockPackE (b : List Row) {w : World} {F : Nat → Prop} {a1 : Option Addr} {n1 c1 : Nat} (h1 : RepS w F a1 n1 c1 b) (p0 : b.length ≤ 1000) : Calls Tryz.prog 99 [.slice a1 n1 c1].toArray w (rets fun rv w' => rv = .string (bs (packI b)) ∧ Ext w w') := by
 refine goT Tryz.func99 ?_
 obtain ⟨rfl, bI, h1⟩ := h1.tp
 refine .s <| .g <| .r 1 <| .d <| .s <| .s <| .g <| .r 1 <| .cl (c_spec_BlockOk b h1.ta (w := w) (F := all)) ?_
 rintro cg ci ⟨rfl, av⟩
 replace h1 := (se [] av).g1 h1
 have C := av
 cases bJ : (blockOk b)
 ·exact .r 1 <| .d <| .ct <| .s <| .g <| .r 1 <| .d <| .rt Tryz.func99 Tryz.results99 (.string (bs [])) ⟨(congrArg (fun s => Value.string (bs s)) (by exact packI_no ‹_›)), C⟩
 refine .r 1 <| .d <| .cf <| .sk <| .s <| .g <| .ns 0 3 [] fun aa bD aw aG aV aW => ?_
 have aX := C.cn aw
 replace ⟨h1, C⟩ := (sn [] aG aw).g2 h1 C
 have aj : Own (α := Int) bD aa 3 (nin (ge w.heap.size) [aa]) 0 0 [] := Own.nil' aV
 refine .r 1 <| .d <| .s <| .g <| .ns 0 3 [] fun ae ai ak aH aY aZ => ?_
 have ba := nb_new ak aj.lt
 have bc := C.cn ak
 replace ⟨h1, aj, C⟩ := (sn [aa] aH ak).g3 h1 aj C
 have bd : Own (α := Int) ai ae 3 (nin (ge w.heap.size) [ae, aa]) 0 0 [] := Own.nil' aY
 refine .r 1 <| .d <| .s <| .s <| .g <| .r 1 <| .d <| .b 0 <| T.loop (X := (List Int) × Nat × Nat × Nat × (List Int) × Nat × Nat × Nat × Nat) (([] : List Int), aa, 0, 0, ([] : List Int), ae, 0, 0, 0) (fun (ts, r_ts, n_ts, c_ts, vs, r_vs, n_vs, c_vs, i) => [(0, .slice a1 b.length c1), (3, vS r_ts n_ts c_ts), (4, vS r_vs n_vs c_vs), (5, vI (i : Int))]) (fun (ts, r_ts, n_ts, c_ts, vs, r_vs, n_vs, c_vs, i) ar => Chg (ins [aa, ae]) ai ar ∧ Own ar r_ts 3 (nin (ge w.heap.size) [r_vs, r_ts]) n_ts c_ts ts ∧ OrB r_ts aa ai.heap.size ∧ Own ar r_vs 3 (nin (ge w.heap.size) [r_vs, r_ts]) n_vs c_vs vs ∧ OrB r_vs ae ai.heap.size ∧ Nb r_vs r_ts ∧ (i ≤ b.length) ∧ (ts.length = i) ∧ (vs.length = i) ∧ (ts ++ (b.drop i).map Row.t = b.map Row.t) ∧ (vs ++ (b.drop i).map Row.v = b.map Row.v)) (fun (ts, r_ts, n_ts, c_ts, vs, r_vs, n_vs, c_vs, i) => b.length - i) (by kernel_rfl) ⟨by kernel_rfl, by kernel_rfl, by kernel_rfl, by kernel_rfl, trivial⟩ ⟨Chg.refl _ _, aj, orb_refl, bd, orb_refl, ba, (by omega), (by rfl), (by rfl), (by rfl), (by rfl)⟩ ?_
 rintro ⟨ts, r_ts, n_ts, c_ts, vs, r_vs, n_vs, c_vs, i⟩ cj ar ⟨J, ab, al, E, am, bg, bK, bL, bM, bN, bO⟩ ax
 have bP := cov_or' al aX C.size
 have bQ := cov_or' am bc C.size
 have bh : Cov (ins [aa, ae]) ai aa := ⟨.inl (.head _)⟩
 have bi : Cov (ins [aa, ae]) ai ae := ⟨.inl (.tail _ (.head _))⟩
 have bR := cov_or' al bh (Nat.le_refl _)
 have bS := cov_or' am bi (Nat.le_refl _)
 have aI : Mv [ae, aa] [r_vs, r_ts] ai ar := Mv.inl J (all_cons (.tail _ (.head _)) (all_cons (.head _) all_nil)) (all_cons (orb_mem am (.head _)) (all_cons (orb_mem al (.tail _ (.head _))) all_nil))
 replace ⟨h1, C⟩ := (sp aI J).g2 h1 C
 have bT := ab.len; have bU := ab.max
 have bV := E.len; have bW := E.max
 refine .s <| .s <| .g <| .r 3 <| .bp ((i : Int) < (b.length : Int)) (fun bj => ?_) (fun bj => ?_)
 ·refine .d <| .ct <| .sk <| .s <| .b 1 <| .s <| .g <| .r 3 ?_
  have bk : i < b.length := (by omega)
  refine .ix i 2 h1 bk <| .r 1 ?_
  obtain ⟨ah, ao⟩ : ∃ y, b[i]? = some y := ⟨_, List.getElem?_eq_getElem (by omega)⟩
  have bX := drop_at ao; have bC := List.mem_of_getElem? ao
  obtain ⟨_, rfl, bm⟩ := h1.elem i ah ao
  refine .lh 0 bm <| .ns 1 3 [vI ah.t] fun bn ck aq aJ bo bq => ?_
  have aK := nb_new aq ab.lt
  have br := nb_new aq E.lt
  have bt := gb_new aq C.size
  replace ⟨h1, ab, E, C, J⟩ := (se [r_vs, r_ts] aJ).g5 h1 ab E C J
  have ay : nin (ge w.heap.size) [r_vs, r_ts] bn ∧ bn ≠ r_ts := hap_mk bt (all_cons br (all_cons aK all_nil)) aK
  refine RG.append1 (T := 24) (ty := 24) (y := ah.t) ab bo (by kernel_rfl) (by kernel_rfl) rfl ay (by omega) fun aF bE cm O af aL => ?_
  have bu := nb_or af (Nb.symm bg) E.lt
  have bv := orb_or af al J.size
  replace ⟨h1, E, C, J⟩ := (sa [r_vs, r_ts] aL af).g4 h1 E C J
  replace O := O.rn r_ts
  have bY := O.len; have bF := O.max
  refine .r 1 <| .d <| .g <| .r 3 ?_
  have aN : i < b.length := (by omega)
  refine .ix i 2 h1 aN <| .r 1 ?_
  obtain ⟨_, rfl, aO⟩ := h1.elem i ah ao
  refine .lh 1 aO <| .ns 1 3 [vI ah.v] fun aM bZ ag az aP aQ => ?_
  have aR := nb_new ag O.lt
  have aA := nb_new ag E.lt
  have aS := gb_new ag C.size
  replace ⟨O, E, C, J⟩ := (se [r_vs, aF] az).g4 O E C J
  have au : nin (ge w.heap.size) [r_vs, aF] aM ∧ aM ≠ r_vs := hap_mk aS (all_cons aA (all_cons aR all_nil)) aA
  refine RG.append1 (T := 24) (ty := 24) (y := ah.v) E aP (by kernel_rfl) (by kernel_rfl) rfl au (by omega) fun bw bz b0 ac W aB => ?_
  have aT := nb_or W (Nb.symm bu) O.lt
  have aU := orb_or W am J.size
  replace ⟨O, C, J⟩ := (sa [r_vs, aF] aB W).g3 O C J
  replace ac := ac.rn r_vs
  have bG := ac.len; have bH := ac.max
  exact .r 1 <| .d <| .ib 1 <| .g <| .r 1 <| .it ((i : Int) + 1) <| .r 1 <| .d <| ax ((ts ++ [ah.t]), aF, n_ts + 1, bE, (vs ++ [ah.v]), bw, n_vs + 1, bz, i + 1) _ _ ⟨by kernel_rfl, by kernel_rfl, by kernel_rfl, by kernel_rfl, trivial⟩ ⟨J, O, bv, ac, aU, aT, (by omega), (by (simp; omega)), (by (simp; omega)), (by exact mapStep ‹_› ‹_› rfl), (by exact mapStep ‹_› ‹_› rfl)⟩ (by (simp only []; omega))
 refine .d <| .cf <| .x 0 rfl <| .s <| .g <| .r 1 <| .cl (c_spec_l1PackE ts (ab.rep) (by omega) (by exact mapEnd (by assumption : _ ++ (b.drop _).map Row.t = _) (by omega) ▸ row_bt ‹_›) (w := ar) (F := all)) ?_
 rintro b6 bA ⟨rfl, aC⟩
 replace ⟨E, C⟩ := (se [r_vs, r_ts] aC).g2 E C
 refine .r 1 <| .d <| .s <| .g <| .r 1 <| RG.eqv (v := vI ((packF 0 0 0 ts).length : Int)) (by kernel_rfl) (s_len (packF 0 0 0 ts)) <| .cl (c_spec_l1ByteE ((packF 0 0 0 ts).length : Int) (by have q1 := packTS ‹_› (by omega) (by assumption : blockOk b = true); have q2 := packVS ‹_› (by omega) (by assumption : blockOk b = true); omega) (w := bA) (F := all)) ?_
 rintro b9 bB ⟨rfl, aD⟩
 replace ⟨E, C⟩ := (se [r_vs, r_ts] aD).g2 E C
 refine .r 1 <| RG.cat (t := 9) (s := [UInt8.ofNat ((packF 0 0 0 ts).length : Int).toNat]) (u := packF 0 0 0 ts) (by kernel_rfl) (by have q1 := packTS ‹_› (by omega) (by assumption : blockOk b = true); have q2 := packVS ‹_› (by omega) (by assumption : blockOk b = true); (simp only [List.length_append, List.length_cons, List.length_nil]; omega)) <| .r 1 <| .cl (c_spec_l1PackE vs (E.rep) (by omega) (by exact mapEnd (by assumption : _ ++ (b.drop _).map Row.v = _) (by omega) ▸ row_bv ‹_›) (w := bB) (F := all)) ?_
 rintro cd ce ⟨rfl, aE⟩
 replace C := (se [] aE).g1 C
 exact RG.cat (t := 9) (s := ([UInt8.ofNat ((packF 0 0 0 ts).length : Int).toNat] ++ (packF 0 0 0 ts))) (u := packF 0 0 0 vs) (by kernel_rfl) (by have q1 := packTS ‹_› (by omega) (by assumption : blockOk b = true); have q2 := packVS ‹_› (by omega) (by assumption : blockOk b = true); (simp only [List.length_append, List.length_cons, List.length_nil]; omega)) <| .r 1 <| .d <| .rt Tryz.func99 Tryz.results99 (.string (bs (([UInt8.ofNat ((packF 0 0 0 ts).length : Int).toNat] ++ (packF 0 0 0 ts)) ++ (packF 0 0 0 vs)))) ⟨(congrArg (fun s => Value.string (bs s)) (by exact packEE ‹_› ‹_› (by omega) ‹_›)), C⟩
theorem c_spec_l21FitsE (d : Dsk) (s : Sto) {w : World} {F : Nat → Prop} {a1 : Option Addr} {n1 c1 : Nat} (h1 : RepS w F a1 n1 c1 d.files) {a2 : Option Addr} {n2 c2 : Nat} (h2 : RepS w F a2 n2 c2 d.list) {a3 : Option Addr} {n3 c3 : Nat} (h3 : RepS w F a3 n3 c3 d.names) {a4 : Option Addr} {n4 c4 : Nat} (h4 : RepS w F a4 n4 c4 s.idx.names) {a5 : Option Addr} {n5 c5 : Nat} (h5 : RepS w F a5 n5 c5 s.idx.posts) {a6 : Option Addr} {n6 c6 : Nat} (h6 : RepS w F a6 n6 c6 s.parts) {a7 : Option Addr} {n7 c7 : Nat} (h7 : RepS w F a7 n7 c7 s.mem) (p0 : DD d) (p1 : SD s) : Calls Tryz.prog 55 [.agg #[.slice a1 n1 c1, .slice a2 n2 c2, .slice a3 n3 c3, .int .i64 d.next], .agg #[.slice a4 n4 c4, .slice a5 n5 c5, .slice a6 n6 c6, .slice a7 n7 c7]].toArray w (rets fun rv w' => rv = .bool (fitsB d s) ∧ Ext w w') := by
 refine goT Tryz.func55 ?_
 obtain ⟨rfl, cP, h1⟩ := h1.tp
 obtain ⟨rfl, cQ, h2⟩ := h2.tp
 obtain ⟨rfl, cR, h3⟩ := h3.tp
 obtain ⟨rfl, cS, h4⟩ := h4.tp
 obtain ⟨rfl, cT, h5⟩ := h5.tp
 obtain ⟨rfl, cU, h6⟩ := h6.tp
 obtain ⟨rfl, cV, h7⟩ := h7.tp
 refine .s <| .g <| .np 27 [.slice a1 d.files.length c1, .slice a2 d.list.length c2, .slice a3 d.names.length c3, vI d.next] fun aa dI bj aE E bQ => ?_
 replace ⟨h1, h2, h3, h4, h5, h6, h7⟩ := (sn [] aE bj).g7 h1 h2 h3 h4 h5 h6 h7
 have C := aE
 refine .np 34 [.slice a4 s.idx.names.length c4, .slice a5 s.idx.posts.length c5, .slice a6 s.parts.length c6, .slice a7 s.mem.length c7] fun ab cp bk bm J bR => ?_
 replace ⟨h1, h2, h3, h4, h5, h6, h7, E, C⟩ := (sn [aa] bm bk).g9 h1 h2 h3 h4 h5 h6 h7 E C
 refine .r 1 <| .d <| .s <| .s <| .g <| .ln E <| .cl (c_spec_DiskOk d h1.ta h2.ta h3.ta p0 (w := cp) (F := all)) ?_
 rintro dJ cq ⟨rfl, bn⟩
 replace ⟨h1, h2, h3, h4, h5, h6, h7, E, J, C⟩ := (se [ab, aa] bn).g10 h1 h2 h3 h4 h5 h6 h7 E J C
 cases cW : (diskOk d)
 ·exact .r 25 <| .d <| .ct <| .s <| .g <| .r 1 <| .d <| .rt Tryz.func55 Tryz.results55 (.bool false) ⟨(congrArg Value.bool (by exact fits_1 ‹_›)), C⟩
 refine .r 2 <| .ln J <| .cl (c_spec_StoreOkG s h4.ta h5.ta h6.ta h7.ta (SG.of p1) (w := cq) (F := all)) ?_
 rintro dK bS ⟨rfl, bo⟩
 replace ⟨h1, h2, h3, h4, h6, E, J, C⟩ := (se [ab, aa] bo).g8 h1 h2 h3 h4 h6 E J C
 cases cX : (nmB s.idx.names && storeOk s)
 ·exact .r 21 <| .d <| .ct <| .s <| .g <| .r 1 <| .d <| .rt Tryz.func55 Tryz.results55 (.bool false) ⟨(congrArg Value.bool (by exact fits_2 ‹_›)), C⟩
 refine .r 4 <| .lb J <| .r 2 <| .lb E <| .r 1 <| .ne (s.parts.length : Int) (d.list.length : Int) (fun bT => .r 11 <| .d <| .ct <| .s <| .g <| .r 1 <| .d <| .rt Tryz.func55 Tryz.results55 (.bool false) ⟨(congrArg Value.bool (by exact fits_3l ‹_›)), C⟩) fun bT => .r 4 <| .lb J <| .r 2 <| .lb E <| .r 1 <| .bp ((s.idx.names.length : Int) < (d.names.length : Int)) (fun bU => .r 1 <| .d <| .ct <| .s <| .g <| .r 1 <| .d <| .rt Tryz.func55 Tryz.results55 (.bool false) ⟨(congrArg Value.bool (by exact fits_4l ‹_›)), C⟩) fun bU => .r 1 <| .d <| .cf <| .sk <| .s <| .s <| .g <| .r 1 <| .d <| .b 0 <| T.loop (X := Nat) 0 (fun k => [(2, .pointer (some ⟨aa, 0, none⟩)), (3, .pointer (some ⟨ab, 0, none⟩)), (5, vI (k : Int))]) (fun k aF => Chg (ins []) bS aF ∧ (k ≤ d.names.length) ∧ (nmTo d s k)) (fun k => d.names.length - k) (by kernel_rfl) ⟨by kernel_rfl, by kernel_rfl, by kernel_rfl, trivial⟩ ⟨Chg.refl _ _, (by omega), (by exact nmTo_0 _ _)⟩ ?_
 rintro k dL aF ⟨ah, cY, cZ⟩ aG
 have bq : Mv [ab, aa] [ab, aa] bS aF := Mv.inl ah all_nil (all_cons (.inl (.head _)) (all_cons (.inl (.tail _ (.head _))) all_nil))
 replace ⟨h1, h2, h3, h4, h6, E, J, C⟩ := (sp bq ah).g8 h1 h2 h3 h4 h6 E J C
 refine .s <| .s <| .g <| .r 2 <| .lb E <| .r 1 <| .bp ((k : Int) < (d.names.length : Int)) (fun bV => ?_) (fun bV => ?_)
 ·refine .d <| .ct <| .sk <| .s <| .b 1 <| .s <| .gd nil 12 fun dM br => ?_
  replace ⟨h1, h2, h3, h4, h6, E, J, C, ah⟩ := (se [ab, aa] br).g9 h1 h2 h3 h4 h6 E J C ah
  refine .r [0] <| .lb 1 E id <| .r [2] ?_
  have bt : k < d.names.length := (by omega)
  refine GA.idx (i := 3) k (len := d.names.length) (z := (k : Int)) (sz := 1) (by kernel_rfl) (by omega) bt (h3.addr (Nat.zero_lt_of_lt bt)) ?_
  obtain ⟨aH, aI⟩ : ∃ y, d.names[k]? = some y := ⟨_, List.getElem?_eq_getElem (by omega)⟩
  have c8 := drop_at aI; have cm := List.mem_of_getElem? aI
  obtain ⟨_, ⟨dN, dO, dP, rfl, bB⟩, bW⟩ := h3.elem k aH aI
  have bX := bB.len
  subst bX
  have c9 := bB.max
  refine .lh 4 0 bW id <| GA.call1 (i := 5) (by kernel_rfl) (fun cr bY => c_spec_l3Text aH (bB.ta.ext bY) (by (have q1 := (p0.g.sz _ ‹_›).1; omega)) (fun t ht => by (have q1 := (p0.g.sz _ ‹_›).2 t ht; omega)) (w := cr) (F := all)) <| .r [6, 7] <| .lb 8 J id <| .r [9] ?_
  have bu : k < s.idx.names.length := (by omega)
  refine GA.idx (i := 10) k (len := s.idx.names.length) (z := (k : Int)) (sz := 1) (by kernel_rfl) (by omega) bu (h4.addr (Nat.zero_lt_of_lt bu)) ?_
  obtain ⟨aK, aL⟩ : ∃ y, s.idx.names[k]? = some y := ⟨_, List.getElem?_eq_getElem (by omega)⟩
  have da := drop_at aL; have co := List.mem_of_getElem? aL
  obtain ⟨_, ⟨dQ, dR, dS, rfl, aM⟩, bZ⟩ := h4.elem k aK aL
  have b0 := aM.len
  subst b0
  have db := aM.max
  refine .lh 11 0 bZ id <| .d fun cu bv => ?_
  replace ⟨h1, h2, h3, h6, E, J, aM, C, ah⟩ := (se [ab, aa] bv).g9 h1 h2 h3 h6 E J aM C ah
  refine .cl (c_spec_l3Text aK aM.ta (by (have q1 := (p1.nm.sz _ ‹_›).1; omega)) (fun t ht => by (have q1 := (p1.nm.sz _ ‹_›).2 t ht; omega)) (w := cu) (F := all)) ?_
  rintro dT dU ⟨rfl, bw⟩
  replace ⟨h1, h2, h3, h6, E, J, C, ah⟩ := (se [ab, aa] bw).g8 h1 h2 h3 h6 E J C ah
  refine RG.eqv (v := .bool (!(text aH == text aK))) (by kernel_rfl) (s_ne (text aH) (text aK)) ?_
  cases cv : (text aH == text aK)
  ·exact .d <| .ct <| .s <| .g <| .r 1 <| .d <| .rt Tryz.func55 Tryz.results55 (.bool false) ⟨(congrArg Value.bool (by exact fits_5 ‹_› ‹_› ‹_›)), C⟩
  exact .d <| .cf <| .sk <| .ib 1 <| .g <| .r 1 <| .it ((k : Int) + 1) <| .r 1 <| .d <| aG (k + 1) _ _ ⟨by kernel_rfl, by kernel_rfl, by kernel_rfl, trivial⟩ ⟨ah, (by omega), (by exact nmTo_s ‹_› ‹_› ‹_› ‹_›)⟩ (by omega)
 refine .d <| .cf <| .x 0 rfl <| .s <| .s <| .g <| .r 1 <| .d <| .b 2 <| T.loop (X := Nat) 0 (fun k => [(2, .pointer (some ⟨aa, 0, none⟩)), (3, .pointer (some ⟨ab, 0, none⟩)), (6, vI (k : Int))]) (fun k aN => Chg (ins []) aF aN ∧ (k ≤ d.list.length) ∧ (ptTo d s k)) (fun k => d.list.length - k) (by kernel_rfl) ⟨by kernel_rfl, by kernel_rfl, by kernel_rfl, trivial⟩ ⟨Chg.refl _ _, (by omega), (by exact ptTo_0 _ _)⟩ ?_
 rintro k de aN ⟨O, cw, cx⟩ aC
 have aO : Mv [ab, aa] [ab, aa] aF aN := Mv.inl O all_nil (all_cons (.inl (.head _)) (all_cons (.inl (.tail _ (.head _))) all_nil))
 replace ⟨h1, h2, h3, h6, E, J, C⟩ := (sp aO O).g7 h1 h2 h3 h6 E J C
 refine .s <| .s <| .g <| .r 2 <| .lb E <| .r 1 <| .bp ((k : Int) < (d.list.length : Int)) (fun bC => ?_) (fun bC => .d <| .cf <| .x 2 rfl <| .s <| .g <| .r 1 <| .d <| .rt Tryz.func55 Tryz.results55 (.bool true) ⟨(congrArg Value.bool (by exact fits_yes ‹_› ‹_› (ptTo_e ‹_› (by omega) (by omega)) (nmTo_e ‹_› (by omega) (diskOk_nm ‹_›).1 p1.nm (by omega)))), C⟩)
 refine .d <| .ct <| .sk <| .s <| .b 3 <| .s <| .gd nil 13 fun df aP => ?_
 replace ⟨h1, h2, h3, h6, E, J, C, O⟩ := (se [ab, aa] aP).g8 h1 h2 h3 h6 E J C O
 refine .r [0] <| .lb 1 E id <| .ln 2 E id <| .r [3] <| .lb 4 E id <| .r [5] ?_
 have aQ : k < d.list.length := (by omega)
 refine GA.idx (i := 6) k (len := d.list.length) (z := (k : Int)) (sz := 1) (by kernel_rfl) (by omega) aQ (h2.addr (Nat.zero_lt_of_lt aQ)) ?_
 obtain ⟨am, au⟩ : ∃ y, d.list[k]? = some y := ⟨_, List.getElem?_eq_getElem (by omega)⟩
 have cy := drop_at au; have b6 := List.mem_of_getElem? au
 obtain ⟨_, rfl, bD⟩ := h2.elem k am au
 refine .lh 7 0 bD id <| GA.call1 (i := 8) (by kernel_rfl) (fun b7 av => c_spec_l21At d am (h1.ta.ext av) (h2.ta.ext av) (h3.ta.ext av) (w := b7) (F := all)) ?_
 have aR : (numAt d am).toNat < d.files.length := (by exact (numAt_i (lstOk_at (diskOk_f ‹_›).2.2.2 _ ‹_›)).1)
 refine GA.idx (i := 9) ((numAt d am).toNat) (len := d.files.length) (z := numAt d am) (sz := 3) (by kernel_rfl) (by exact (numAt_i (lstOk_at (diskOk_f ‹_›).2.2.2 _ ‹_›)).2) aR (h1.addr (Nat.zero_lt_of_lt aR)) <| .r [10] ?_
 obtain ⟨al, aw⟩ : ∃ y, d.files[(numAt d am).toNat]? = some y := ⟨_, List.getElem?_eq_getElem (by omega)⟩
 have cz := drop_at aw; have b8 := List.mem_of_getElem? aw
 obtain ⟨_, ⟨b9, dg, cd, ce, dh, cg, rfl, ae, af⟩, bE⟩ := h1.elem ((numAt d am).toNat) al aw
 have bF := ae.len
 subst bF
 have cA := ae.max
 have bG := af.len
 subst bG
 have cB := af.max
 refine .lg 11 1 bE id <| .go 12 <| .nw (fun b => .pointer (some ⟨b, 0, none⟩)) 42 [.slice none 0 0, .slice none 0 0] fun dj aS => ?_
 replace ⟨h6, E, J, ae, af, C, O⟩ := (se [ab, aa] aS).g7 h6 E J ae af C O
 intro ag dm ak aT ax bH
 have cC := nb_new ak E.lt
 have cD := nb_new ak J.lt
 have cE := C.cn ak
 have cF := O.cn ak
 replace ⟨h6, E, J, ae, af, C, O⟩ := (sn [ab, aa] aT ak).g7 h6 E J ae af C O
 refine .d fun dp aU => ?_
 replace ⟨h6, E, J, ae, af, ax, C, O⟩ := (se [ag, ab, aa] aU).g8 h6 E J ae af ax C O
 refine .sc [.slice b9 al.part.ids.length cd, .slice ce al.part.blocks.length cg] ax fun bz aV ac bI => ?_
 replace ⟨h6, E, J, ae, af, C, O⟩ := (so [ag, ab, aa] aV).g7 h6 E J ae af C O
 refine .d <| .s <| .g <| .r 1 <| .d <| .b 4 <| T.loop (X := Nat) 1 (fun k1 => [(2, .pointer (some ⟨aa, 0, none⟩)), (3, .pointer (some ⟨ab, 0, none⟩)), (6, vI (k : Int)), (7, .pointer (some ⟨ag, 0, none⟩)), (8, vI (k1 : Int))]) (fun k1 aW => Chg (ins []) bz aW ∧ (1 ≤ k1) ∧ (k1 ≤ 7) ∧ (idTo d s k k1)) (fun k1 => 7 - k1) (by kernel_rfl) ⟨by kernel_rfl, by kernel_rfl, by kernel_rfl, by kernel_rfl, by kernel_rfl, trivial⟩ ⟨Chg.refl _ _, (by omega), (by omega), (by exact idTo_1 _ _ _)⟩ ?_
 rintro k1 dq aW ⟨W, cG, cH, cI⟩ aD
 have aX : Mv [ag, ab, aa] [ag, ab, aa] bz aW := Mv.inl W all_nil (all_cons (.inl (.head _)) (all_cons (.inl (.tail _ (.head _))) (all_cons (.inl (.tail _ (.tail _ (.head _)))) all_nil)))
 replace ⟨h6, E, J, ae, af, ac, C, O⟩ := (sp aX W).g8 h6 E J ae af ac C O
 refine .s <| .s <| .g <| .r 1 <| .bp ((k1 : Int) ≤ 6) (fun bJ => ?_) (fun bJ => .d <| .cf <| .x 4 rfl <| .ib 3 <| .g <| .r 1 <| .it ((k : Int) + 1) <| .r 1 <| .d <| aC (k + 1) _ _ ⟨by kernel_rfl, by kernel_rfl, by kernel_rfl, trivial⟩ ⟨O, (by omega), (by exact ptTo_s ‹_› ‹_› (by omega) ‹_› (and_r ‹_›) p1)⟩ (by omega))
 refine .d <| .ct <| .sk <| .s <| .b 5 <| .s <| .gd nil 10 fun dr aY => ?_
 replace ⟨h6, E, J, ae, af, ac, C, O, W⟩ := (se [ag, ab, aa] aY).g9 h6 E J ae af ac C O W
 refine .ln 0 ac id <| .r [1, 4] <| .lb 5 J id <| .r [6] ?_
 have aZ : k < s.parts.length := (by omega)
 refine GA.idx (i := 7) k (len := s.parts.length) (z := (k : Int)) (sz := 2) (by kernel_rfl) (by omega) aZ (h6.addr (Nat.zero_lt_of_lt aZ)) ?_
 obtain ⟨aq, ay⟩ : ∃ y, s.parts[k]? = some y := ⟨_, List.getElem?_eq_getElem (by omega)⟩
 have cJ := drop_at ay; have ci := List.mem_of_getElem? ay
 obtain ⟨_, ⟨dt, du, dv, dw, dx, dy, rfl, ai, aj⟩, bK⟩ := h6.elem k aq ay
 have bL := ai.len
 subst bL
 have cK := ai.max
 have bM := aj.len
 subst bM
 have cL := aj.max
 refine .lg 8 0 bK id <| .r [9] <| .go 2 <| .cl (fun ba ar => c_spec_l12Of al.part (k1 : Int) (ae.ext ar) (af.ext ar) (by (have q1 := (p0.file _ ‹_›).sz.1; omega)) (w := ba) (F := nin (fo F w.heap.size) [ag, ab, aa])) ?_
 intro ba ar
 replace ⟨E, J, ac, ai, aj, C, O, W⟩ := (se [ag, ab, aa] ar).g8 E J ac ai aj C O W
 rintro dz dA ⟨⟨dB, dC, rfl, aA⟩, az⟩
 have bc := al3 ac.lt J.lt E.lt
 have bN : Gb w.heap.size ba.heap.size := C.size
 have hkeep_ := az
 replace ⟨E, J, ac, ai, aj, C, O, W⟩ := (se [ag, ab, aa] az).g8 E J ac ai aj C O W
 refine ⟨Ext.chg hkeep_, ?_⟩
 replace aA := RepS.mixed' (M := [ag, ab, aa]) aA bc bN
 have cM := aA.max
 refine GA.call1 (i := 3) (by kernel_rfl) (fun cj bO => c_spec_BlockPackE (partOf al.part (k1 : Int)) (aA.ta.ext bO) (by exact partOf_len (p0.file _ ‹_›).sz _) (w := cj) (F := all)) <| .d fun bA bd => ?_
 replace ⟨E, J, ac, ai, aj, C, O, W⟩ := (se [ag, ab, aa] bd).g8 E J ac ai aj C O W
 refine .cl (c_spec_l12Of aq (k1 : Int) ai aj (by (have q1 := (p1.part _ ‹_›).sz.1; omega)) (w := bA) (F := nin (fo F w.heap.size) [ag, ab, aa])) ?_
 rintro dD ck ⟨⟨dE, dF, rfl, aB⟩, bg⟩
 have bh := al3 ac.lt J.lt E.lt
 have bP : Gb w.heap.size bA.heap.size := C.size
 replace ⟨C, O, W⟩ := (se [] bg).g3 C O W
 replace aB := RepS.mixed' (M := [ag, ab, aa]) aB bh bP
 have cN := aB.max
 refine .cl (c_spec_BlockPackE (partOf aq (k1 : Int)) aB.ta (by exact partOf_len (p1.part _ ‹_›).sz _) (w := ck) (F := all)) ?_
 rintro dG dH ⟨rfl, bi⟩
 replace ⟨C, O, W⟩ := (se [] bi).g3 C O W
 refine RG.eqv (v := .bool (!(packI (partOf al.part (k1 : Int)) == packI (partOf aq (k1 : Int))))) (by kernel_rfl) (s_ne (packI (partOf al.part (k1 : Int))) (packI (partOf aq (k1 : Int)))) ?_
 cases cO : (packI (partOf al.part (k1 : Int)) == packI (partOf aq (k1 : Int)))
 ·exact .d <| .ct <| .s <| .g <| .r 1 <| .d <| .rt Tryz.func55 Tryz.results55 (.bool false) ⟨(congrArg Value.bool (by exact fits_6 ‹_› ‹_› ‹_› ‹_›)), C⟩
 exact .d <| .cf <| .sk <| .ib 5 <| .g <| .r 1 <| .it ((k1 : Int) + 1) <| .r 1 <| .d <| aD (k1 + 1) _ _ ⟨by kernel_rfl, by kernel_rfl, by kernel_rfl, by kernel_rfl, by kernel_rfl, trivial⟩ ⟨W, (by omega), (by omega), (by exact idTo_s ‹_› ‹_› (and_r ‹_›) p1 ‹_› ‹_› ‹_› ‹_›)⟩ (by omega)
theorem c_spec_StepsFlushE (d : Dsk) (s : Sto) {w : World} {F : Nat → Prop} {a1 : Option Addr} {n1 c1 : Nat} (h1 : RepS w F a1 n1 c1 d.files) {a2 : Option Addr} {n2 c2 : Nat} (h2 : RepS w F a2 n2 c2 d.list) {a3 : Option Addr} {n3 c3 : Nat} (h3 : RepS w F a3 n3 c3 d.names) {a4 : Option Addr} {n4 c4 : Nat} (h4 : RepS w F a4 n4 c4 s.idx.names) {a5 : Option Addr} {n5 c5 : Nat} (h5 : RepS w F a5 n5 c5 s.idx.posts) {a6 : Option Addr} {n6 c6 : Nat} (h6 : RepS w F a6 n6 c6 s.parts) {a7 : Option Addr} {n7 c7 : Nat} (h7 : RepS w F a7 n7 c7 s.mem) (p0 : DD d) (p1 : SD s) : Calls Tryz.prog 18 [.agg #[.slice a1 n1 c1, .slice a2 n2 c2, .slice a3 n3 c3, .int .i64 d.next], .agg #[.slice a4 n4 c4, .slice a5 n5 c5, .slice a6 n6 c6, .slice a7 n7 c7]].toArray w (rets fun rv w' => VL (ge w.heap.size) w' (dflush d s : List Stp) rv ∧ Ext w w') := by
 refine goT Tryz.func18 ?_
 obtain ⟨rfl, aD, h1⟩ := h1.tp
 obtain ⟨rfl, aE, h2⟩ := h2.tp
 obtain ⟨rfl, aF, h3⟩ := h3.tp
 obtain ⟨rfl, aG, h4⟩ := h4.tp
 obtain ⟨rfl, aH, h5⟩ := h5.tp
 obtain ⟨rfl, aI, h6⟩ := h6.tp
 obtain ⟨rfl, aJ, h7⟩ := h7.tp
 refine .s <| .g <| .np 27 [.slice a1 d.files.length c1, .slice a2 d.list.length c2, .slice a3 d.names.length c3, vI d.next] fun W aO af aa E am => ?_
 replace ⟨h1, h2, h3, h4, h5, h6, h7⟩ := (sn [] aa af).g7 h1 h2 h3 h4 h5 h6 h7
 have C := aa
 refine .np 34 [.slice a4 s.idx.names.length c4, .slice a5 s.idx.posts.length c5, .slice a6 s.parts.length c6, .slice a7 s.mem.length c7] fun ac az ag ah J ao => ?_
 replace ⟨h1, h2, h3, h4, h5, h6, h7, E, C⟩ := (sn [W] ah ag).g9 h1 h2 h3 h4 h5 h6 h7 E C
 refine .r 1 <| .d <| .s <| .s <| .g <| .ln E <| .ln J <| .cl (c_spec_l21FitsE d s h1.ta h2.ta h3.ta h4.ta h5.ta h6.ta h7.ta p0 p1 (w := az) (F := all)) ?_
 rintro aP aq ⟨rfl, ai⟩
 replace ⟨h1, h2, h3, h4, h5, h6, h7, E, J, C⟩ := (se [ac, W] ai).g10 h1 h2 h3 h4 h5 h6 h7 E J C
 cases aK : (fitsB d s)
 ·refine .r 1 <| .d <| .ct <| .s <| .g <| .ns 0 44 [] fun ab ar O aj au av => ?_
  have aL := nb_new O E.lt
  have aM := nb_new O J.lt
  have aw := gb_new O C.size
  replace ⟨h1, h2, h3, h4, h5, h6, h7, E, J, C⟩ := (sn [ac, W] aj O).g10 h1 h2 h3 h4 h5 h6 h7 E J C
  have ax : Own (α := Stp) ar ab 44 (nin (ge w.heap.size) [ab, ac, W]) 0 0 [] := Own.nil' au
  refine .r 1 <| .d ?_
  have aA := ax.sl aw
  replace ⟨h1, h2, h3, h4, h5, h6, h7⟩ := (sd ar [ab, ac, W] ab).g7 h1 h2 h3 h4 h5 h6 h7
  exact .rt Tryz.func18 Tryz.results18 (vS ab 0 0) ⟨(aA.vl (by exact (dflush_0 ‹_›).symm) (fun _ _ h => h.1)), C⟩
 refine .r 1 <| .d <| .cf <| .sk <| .s <| .g <| .ln E <| .ln J <| .cl (c_spec_l21Flush d s h1.ta h2.ta h3.ta h4.ta h5.ta h6.ta h7.ta (by have := p1.nm2; omega) (StoK.of p1 (fits_of ‹_›).sk).stoI.mem6 (by have := p0.nl; omega) (by have := p1.nm.len; omega) (fun n hn => (p1.nm.sz n hn).1) (w := aq) (F := all)) ?_
 rintro aQ aR ⟨⟨aB, aC, rfl, ae⟩, ak⟩
 have al := al2 J.lt E.lt
 have ay : Gb w.heap.size aq.heap.size := C.size
 replace C := (se [] ak).g1 C
 have ae := ae.fr al ay
 have aN := ae.max
 exact .r 1 <| .d <| .rt Tryz.func18 Tryz.results18 (.slice aB ((flushSt d s).length) aC) ⟨(ae.vl (by exact (dflush_1 ‹_›).symm) (fun _ _ h => h.1)), C⟩
end Go.Proofs.YtganlmloonielaaGreat
namespace Go.Proofs.YtganlmloonielaaGreat
theorem fitG_1 {d : Dsk} {s y : Sto} (hy : OpenY d y) (h : (s.parts == y.parts) = false) : false = fitsB d s := fits_3 (fun e => by
 have e2 : s.parts = y.parts := e.trans hy.2.1.symm
 rw [e2] at h
 simp at h)
theorem fitG_2 {d : Dsk} {s y : Sto} (hy : OpenY d y) (h : (s.parts == y.parts) = true) : s.parts = d.list.map (partNo d) := (eq_of_beq h).trans hy.2.1
theorem fitG_3 {d : Dsk} {s : Sto} (h : ¬ (d.names.length : Int) ≤ s.idx.names.length) : false = fitsB d s := fits_4l (by omega)
theorem fitG_4 {d : Dsk} {s y : Sto} {l : List (List Tag)} (hy : OpenY d y) (h1 : diskOk d = true) (h2 : (nmB s.idx.names && storeOk s) = true) (h3 : (s.parts == y.parts) = true) (hl : l = s.idx.names.take d.names.length) : (d.names == l) = fitsB d s := by
 subst hl
 by_cases e : d.names = s.idx.names.take d.names.length
 ·rw [beq_iff_eq.2 e]
  exact fits_yes h1 h2 (fitG_2 hy h3) e
 ·rw [beq_eq_false_iff_ne.2 e]
  exact fits_4 e
def fullB (d : Dsk) : Bool := (d.next == 999) || decide ((d.files.length : Int) = 20)
theorem fullB_1 {d : Dsk} (h : (d.next == 999) = true) : true = fullB d := by unfold fullB; rw [h]; rfl
theorem fullB_1' {d : Dsk} (h : d.next = 999) : true = fullB d := fullB_1 (by simp [h])
theorem fullB_2 {d : Dsk} (h : ¬ d.next = 999) : ((d.files.length : Int) == 20) = fullB d := by unfold fullB; rw [beq_eq_false_iff_ne.2 h, Bool.false_or]; by_cases e : (d.files.length : Int) = 20 <;> simp [e]
theorem fullB_f {d : Dsk} (h : fullB d = false) : ¬ d.next = 999 ∧ ¬ (d.files.length : Int) = 20 := by
 unfold fullB at h
 simpa using h
theorem fullB_t {d : Dsk} (h : fullB d = true) : d.next = 999 ∨ (d.files.length : Int) = 20 := by
 unfold fullB at h
 simpa using h
theorem sf_1 {d : Dsk} {s : Sto} (h : fitsB d s = false) : [] = dflush d s := (dflush_0 h).symm
theorem sf_2 {d : Dsk} {s : Sto} (h : (s.mem.length : Int) = 0 ∨ (d.list.length : Int) = 6 ∨ fullB d = true) : [] = dflush d s := by
 cases hf : fitsB d s with
 | false => exact sf_1 hf
 | true =>
   rw [dflush_1 hf, flushSt_no]
   rcases h with h | h | h
   ·exact .inl h
   ·exact .inr (.inl (by omega))
   ·rcases fullB_t h with h | h
    ·exact .inr (.inr (.inl (by omega)))
    ·exact .inr (.inr (.inr (by omega)))
theorem sf_3 {d : Dsk} {s : Sto} (hf : fitsB d s = true) (h1 : ¬ (s.mem.length : Int) = 0) (h2 : ¬ (d.list.length : Int) = 6) (h3 : fullB d = false) (hd : DD d) : [⟨1, d.next, memPart s.mem, [], []⟩, ⟨2, 0, ⟨[], []⟩, d.list ++ [d.next], s.idx.names⟩] = dflush d s := by
 have hk := (fits_of hf).dk
 have := (diskOk_f hk).2.1
 have := (diskOk_f hk).1
 have := hd.nf
 have := fullB_f h3
 rw [dflush_1 hf, flushSt_yes h1 (by omega) (by omega) (by omega)]
theorem fits_stok {d : Dsk} {s : Sto} (hs : SG s) (h : fitsB d s = true) : SD s := by
 obtain ⟨h1, h2, h3, h4, h5⟩ := fits_of h
 exact hs.sd h2 (parts6 h3)
end Go.Proofs.YtganlmloonielaaGreat
