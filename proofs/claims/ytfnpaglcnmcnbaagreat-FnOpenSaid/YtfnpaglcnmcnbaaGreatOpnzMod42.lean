/- Blocks and parts merged, as the program does it: plain laws. -/
import Derived.Test.YtfnpaglcnmcnbaaGreatOpnzMod20
import Derived.Test.YtfnpaglcnmcnbaaGreatOpnzMod30
import Derived.Test.YtfnpaglcnmcnbaaGreatOpnzMod23
set_option linter.unusedVariables false
set_option linter.unusedSimpArgs false
namespace Go.Proofs.YtfnpaglcnmcnbaaGreat
theorem blkOf {b : List Row} (h : blockOk b = true) : Blk b := by
 unfold blockOk at h
 simp only [Bool.and_eq_true] at h
 exact h.1
def mergI (a b : List Row) : List Row × Bool := if blockOk a = true ∧ blockOk b = true ∧ ¬ ((sMerge a b).length : Int) > 24 then (sMerge a b, true) else ([], false)
def okM (a b : Prt) (n : Nat) : Bool := (List.range n).all (fun i => (mergI (partI a ((i : Int) + 1)) (partI b ((i : Int) + 1))).2)
def mergQ (a b : Prt) : Prt × Bool := if partOk a = true ∧ partOk b = true ∧ okM a b 6 = true then (pMerge a b, true) else (⟨[], []⟩, false)
def mergeT (s : Sto) (at_ : Int) : Sto × Bool := if storeOk s then mergeR (copyS s) at_ else (⟨⟨[], []⟩, [], []⟩, false)
theorem mergeT_no {s : Sto} {i : Int} (h : storeOk s = false) : mergeT s i = (⟨⟨[], []⟩, [], []⟩, false) := by unfold mergeT; rw [if_neg (by simp [h])]
theorem mergeT_yes {s : Sto} {i : Int} (h : storeOk s = true) : mergeT s i = mergeR (copyS s) i := by unfold mergeT; rw [if_pos h]
end Go.Proofs.YtfnpaglcnmcnbaaGreat
namespace Go.Proofs.YtfnpaglcnmcnbaaGreat
section
variable {P : Program} {n : Nat} {K : Env → World → Prop} {ops : Array Oper} {j : Nat} {e : Env} {w : World}
theorem RG.clear {ats : List TypeId} {ty : TypeId} {args : List Value} {v : Value} {w' : World} (h : bltAt n ops j e = some (.clear, ats, ty, args))
 (hr : (Builtin.clear_ ats.toArray ty args.toArray).run P w = .ok v w') (H : RG P n K ops (j + 1) (putE e (opAt ops j).dst v) w') : RG P n K ops j e w := by
 obtain ⟨hg, h⟩ := goAt_of h
 refine RG.val (v := v) hg ?_ H
 split at h
 ·rename_i c hop
  split at h
  ·rename_i b hcal
   simp only [Option.some.injEq, Prod.mk.injEq] at h
   obtain ⟨rfl, rfl, rfl, rfl⟩ := h
   have ha : (c.args.toList.map (ev e)).toArray = c.args.map (ev e) := by apply Array.toList_inj.1; simp
   rw [ha, Array.toArray_toList] at hr
   simp only [execOp, hop, resolve, hcal]
   exact run_bind_ok hr
  ·cases h
 ·cases h
end
theorem prt_one {w : World} {F : Nat → Prop} {x : Prt} {cs : List Value} (h : Rep.rep w F x cs) : ∀ v ∈ cs, oneC v = true := Rep.flat h
theorem Own.oneC {w : World} {r : Nat} {t : TypeId} {F : Nat → Prop} {n c i : Nat} {xs : List Prt} {cs : List Value} (h : Own w r t F n c xs) (hB : Box w r t cs) : ∀ v, i + (n - i) ≤ n → v ∈ (cs.drop (i * 2)).take ((n - i) * 2) → Go.Proofs.YtfnpaglcnmcnbaaGreat.oneC v = true := by
 intro v hin hv
 obtain ⟨k, hk⟩ := List.mem_iff_getElem?.1 hv
 rw [List.getElem?_take] at hk
 split at hk
 ·rename_i hlt
  rw [List.getElem?_drop] at hk
  have hn := h.len
  have hj : i + k / 2 < xs.length := by omega
  obtain ⟨c1, g1, g2⟩ := h.elem (i + k / 2) xs[i + k / 2] (List.getElem?_eq_getElem hj)
  have hl : c1.length = 2 := Rep.len g1
  have hk2 : k % 2 < c1.length := by omega
  have h3 := g2 (k % 2) c1[k % 2] (List.getElem?_eq_getElem hk2)
  have hz : Rep.sz Prt = 2 := rfl
  unfold Box at hB
  rw [add_lit, hz] at h3
  simp only [World.cell?, hB] at h3
  have e : (i + k / 2) * 2 + k % 2 = i * 2 + k := by omega
  rw [e] at h3
  have h4 : cs[i * 2 + k]? = some c1[k % 2] := by simpa using h3
  rw [hk] at h4
  cases h4
  exact prt_one g1 _ (List.getElem_mem hk2)
 ·cases hk
theorem partG_blk : ∀ (is : List Int) (bs : List (List Row)) (o : Option Int), partG o is bs = true → is.length = bs.length → ∀ b ∈ bs, blockOk b = true := by
 intro is
 induction is with
 | nil =>
   intro bs o _ hl b hb
   cases bs with
   | nil => cases hb
   | cons c cs => simp at hl
 | cons i is ih =>
   intro bs o h hl b hb
   cases bs with
   | nil => cases hb
   | cons c cs =>
     unfold partG at h
     simp only [Bool.and_eq_true] at h
     rcases List.mem_cons.1 hb with rfl | hb
     ·exact h.1.2
     ·exact ih cs (some i) h.2 (by simpa using hl) b hb
theorem partOk_of {p : Prt} (h : partOk p = true) (id : Int) : blockOk (partOf p id) = true := by
 rcases partF_mem id p.ids p.blocks with h1 | h1
 ·unfold partOf; rw [h1]; rfl
 ·unfold partOk at h
  simp only [Bool.and_eq_true, decide_eq_true_eq] at h
  exact partG_blk p.ids p.blocks none h.2 h.1 _ h1
theorem parts_some {id t : Int} : ∀ (ps : List Prt) (o : List Row), (∀ p ∈ ps, PrtI p) → Blk o → ((look t o).isSome = true ∨ ∃ p ∈ ps, (look t (partOf p id)).isSome = true) → (look t (ps.foldl (rowsP id) o)).isSome = true := by
 intro ps
 induction ps with
 | nil =>
   rintro o _ _ (h | ⟨p, hp, _⟩)
   ·exact h
   ·cases hp
 | cons p ps ih =>
   intro o hI ho h
   have hp : Blk (partOf p id) := (hI p (by simp)).of id
   refine ih _ (fun q hq => hI q (by simp [hq])) (ho.merge hp) ?_
   have e : look t (rowsP id o p) = (look t (partOf p id)).or (look t o) := look_merge t o ho hp
   rcases h with h | ⟨q, hq, h⟩
   ·refine .inl ?_
    rw [e]
    cases look t (partOf p id) with
    | none => exact h
    | some x => rfl
   ·rcases List.mem_cons.1 hq with rfl | hq
    ·refine .inl ?_
     rw [e]
     obtain ⟨x, hx⟩ := Option.isSome_iff_exists.1 h
     rw [hx]; rfl
    ·exact .inr ⟨q, hq, h⟩
theorem part_le {p : Prt} {n : Int} (h : partIn p n = true) : ∀ i ∈ p.ids, i ≤ n := by
 unfold partIn at h
 simp only [Bool.and_eq_true] at h
 obtain ⟨h1, h2⟩ := h
 unfold partOk at h1
 simp only [Bool.and_eq_true, decide_eq_true_eq] at h1
 have key : ∀ (is : List Int) (bs : List (List Row)) (o : Option Int), partG o is bs = true → (∀ q, o = some q → ∀ i ∈ is, q < i) ∧ ∀ l, is.getLast? = some l → ∀ i ∈ is, i ≤ l := by
  intro is
  induction is with
  | nil => intro bs o _; exact ⟨fun _ _ i hi => (by cases hi), fun l hl => (by simp at hl)⟩
  | cons x xs ih =>
    intro bs o hg
    cases bs with
    | nil => simp [partG] at hg
    | cons b bs =>
      simp only [partG, Bool.and_eq_true] at hg
      obtain ⟨k1, k2⟩ := ih bs (some x) hg.2
      have hx : ∀ q, o = some q → q < x := fun q hq => by
       have := hg.1.1.1.2
       rw [hq] at this
       simpa using this
      refine ⟨fun q hq i hi => ?_, fun l hl i hi => ?_⟩
      ·rcases List.mem_cons.1 hi with rfl | hi
       ·exact hx q hq
       ·have := k1 x rfl i hi; have := hx q hq; omega
      ·cases hc : xs.getLast? with
       | none =>
         have : xs = [] := List.getLast?_eq_none_iff.1 hc
         subst this
         simp at hl hi
         omega
       | some l2 =>
         have e : (x :: xs).getLast? = some l2 := by rw [List.getLast?_cons, hc]; rfl
         rw [e] at hl
         cases hl
         rcases List.mem_cons.1 hi with rfl | hi
         ·have := k1 i rfl l (List.mem_of_getLast? hc); omega
         ·exact k2 l hc i hi
 intro i hi
 cases hl : p.ids.getLast? with
 | none => rw [hl] at h2; cases h2
 | some l =>
   rw [hl] at h2
   have := (key p.ids p.blocks none h1.2).2 l hl i hi
   have h3 : l ≤ n := by simpa using h2
   omega
theorem partOf_gt {p : Prt} {id : Int} (h : ∀ i ∈ p.ids, i < id) : partOf p id = [] := by
 have key : ∀ (is : List Int) (bs : List (List Row)), (∀ i ∈ is, i < id) → partF id is bs = [] := by
  intro is
  induction is with
  | nil => intro bs _; unfold partF; rfl
  | cons i is ih =>
    intro bs h
    cases bs with
    | nil => unfold partF; rfl
    | cons b bs =>
      unfold partF
      rw [if_neg (by have := h i (by simp); simp; omega)]
      exact ih bs (fun j hj => h j (by simp [hj]))
 exact key _ _ h
theorem mergQ_ok {s : Sto} (h : SD s) (hk : storeOk s = true) {x y : Prt} (hx : x ∈ s.parts) (hy : y ∈ s.parts) : mergQ x y = (pMerge x y, true) := by
 have hK := StoK.of h hk
 have ox := (hK.part x hx).2
 have oy := (hK.part y hy).2
 unfold mergQ
 rw [if_pos]
 refine ⟨ox, oy, ?_⟩
 unfold okM
 rw [List.all_eq_true]
 intro i hi
 rw [List.mem_range] at hi
 have e1 : partI x ((i : Int) + 1) = partOf x ((i : Int) + 1) := by unfold partI; rw [if_pos ox]
 have e2 : partI y ((i : Int) + 1) = partOf y ((i : Int) + 1) := by unfold partI; rw [if_pos oy]
 rw [e1, e2]
 have b1 := partOk_of ox ((i : Int) + 1)
 have b2 := partOk_of oy ((i : Int) + 1)
 have hl : (sMerge (partOf x ((i : Int) + 1)) (partOf y ((i : Int) + 1))).length ≤ 24 := by
  unfold storeOk at hk
  simp only [Bool.and_eq_true, decide_eq_true_eq, List.all_eq_true, List.mem_range, cntOk] at hk
  by_cases hin : i < s.idx.names.length
  ·have bb := (blkOf b1).merge (blkOf b2)
   have hP : Blk (s.parts.foldl (rowsP ((i : Int) + 1)) []) := parts_blk h.part Blk.nil
   refine Nat.le_trans (look_le bb (b := rowsOf s ((i : Int) + 1)) ?_ (fun t ht => ?_)) (hk.2 i hin)
   ·exact (look_mem 0 _ s.mem _ hK.row hP).2
   ·refine rows_ge hK _ t (.inl (parts_some s.parts [] h.part Blk.nil (.inr ?_)))
    rw [look_merge t _ (blkOf b1) (blkOf b2)] at ht
    cases hc : look t (partOf y ((i : Int) + 1)) with
    | some q => exact ⟨y, hy, by rw [hc]; rfl⟩
    | none => rw [hc] at ht; exact ⟨x, hx, ht⟩
  ·have g := fun p hp => partOf_gt (p := p) (id := (i : Int) + 1) (fun j hj => by have := part_le (hk.1.1.2 p hp) j hj; omega)
   rw [g x hx, g y hy]
   decide
 unfold mergI
 rw [if_pos ⟨b1, b2, by omega⟩]
theorem mergeJ_1 {s : Sto} {i : Int} (_h : SD s) (hk : storeOk s = true) (h1 : inR i 0 ((s.parts.length : Int) - 2) = false) : mergeT s i = (copyS s, false) := by
 rw [mergeT_yes hk]; exact mergeR_f h1
end Go.Proofs.YtfnpaglcnmcnbaaGreat
namespace Go.Proofs.YtfnpaglcnmcnbaaGreat
set_option maxRecDepth 100000
set_option maxHeartbeats 4000000
theorem c_impl_indexOfG (names : List (List Tag)) {w : World} {F : Nat → Prop} {a1 : Option Addr} {n1 c1 : Nat} (h1 : RepS w F a1 n1 c1 names) (p0 : names.length ≤ 7) (p1 : ∀ n ∈ names, n.length ≤ 5) (p2 : (bldF 0 [] names).length ≤ 12) : Calls Tryz.prog 73 [.slice a1 n1 c1].toArray w (rets fun rv w' => (∃ (y : Idx), VS (ge w.heap.size) w' (y : Idx) rv ∧ y.names = names ∧ (NmI names → NsD names → y = idxOf names)) ∧ Ext w w') := by
 refine goT Tryz.func73 ?_
 obtain ⟨rfl, dr, h1⟩ := h1.tp
 refine .s <| .g <| .np 26 [.slice none 0 0, .slice none 0 0] fun O cD bn bo aw cE => ?_
 have cF := gb_new bn (Nat.le_refl _)
 replace h1 := (sn [] bo bn).g1 h1
 have ah := bo
 clear bo cE bn
 refine .d <| .s <| .g <| .r 1 <| .cl (c_impl_cloneNames names h1.ta (by omega) (fun n hn => by have := p1 n hn; omega) (w := cD) (F := all)) ?_
 rintro dP W ⟨⟨bm, bJ, bK, rfl, ax, bg⟩, bP⟩
 have bQ := al1 aw.lt
 have cG : Gb w.heap.size cD.heap.size := ah.size
 have dt := nb_ge bg aw.lt
 have cH := gb_ge bg ah.size
 replace ⟨h1, aw, ah⟩ := (sz [O] bP bg).g3 h1 aw ah
 clear bP bg
 replace ax := Own.take (s0 := w.heap.size) (M := [O]) ax bQ cG
 have du := ax.len; have dv := ax.max
 clear bQ
 have al := ax.sl cH
 replace h1 := (sd W [bm, O] bm).g1 h1
 have bX : w.heap.size ≤ W.heap.size := ah.size
 replace al : RepS W (nin (GN w.heap.size W.heap.size O) [O]) _ _ _ _ := al.toGN.weak (fun b _ h => ⟨h, by simp; exact h.2.2⟩)
 have h1c := h1.toLow; have hEc := ah; have hb2c := aw
 refine .ns 0 130 [] fun aC dj bq br cI cJ => ?_
 have cK : Cov nil W aC := cov_new bq (Nat.le_refl _)
 replace al := (sn [O] br bq).g1 al
 have ai := br
 clear br cJ bq
 have aj : Own (α := Pst) dj aC 130 (nin (ge w.heap.size) [aC, O]) 0 0 [] := Own.nil' cI
 refine .r 1 <| .np 26 [.slice none 0 0, .slice none 0 0] fun V dQ bh bR cL cM => ?_
 have cN := nb_new bh aj.lt
 have cO := ai.cn bh
 replace ⟨al, aj, ai⟩ := (sn [aC, O] bR bh).g3 al aj ai
 clear bR cM bh
 refine .sc [vS bm bJ bK, vS aC 0 0] cL fun dR bS cP cQ => ?_
 replace ⟨al, aj, ai⟩ := (so [V, aC, O] bS).g3 al aj ai
 clear bS cQ
 refine .d <| .s <| .s <| .g <| .r 3 <| .d <| .b 0 ?_
 have hix := IX.new0 (tX := 26) (tP := 130) (tI := 3) (s0 := w.heap.size) (s1 := W.heap.size) bX (GN.lt (b2 := O)) al.w1 cP aj cN (Cov.ge cO) (Cov.ge cK)
 have hE := ai
 refine T.loop (X := Nat × Nat × Nat × List RP × List Pst × List Nat) (aC, 0, 0, [], [], []) (fun (r, c, k, ys, xs, rs) => [(2, .pointer (some ⟨O, 0, none⟩)), (3, .pointer (some ⟨V, 0, none⟩)), (13, .slice a1 names.length c1), (14, vI (names.length : Int)), (15, vI (k : Int))]) (fun (r, c, k, ys, xs, rs) w_ => Ext W w_ ∧ IX 26 130 3 w.heap.size W.heap.size (GN w.heap.size W.heap.size O) w_ V r c (some ⟨bm, 0, none⟩) bJ bK names ys xs rs ∧ k ≤ names.length ∧ xs.length ≤ 5 * k ∧ (∀ x ∈ xs, x.ids.length ≤ 5 * k) ∧ bldF k xs (names.drop k) = bldF 0 [] names) (fun (r, c, k, ys, xs, rs) => names.length - k) (by kernel_rfl) ⟨by kernel_rfl, by kernel_rfl, by kernel_rfl, by kernel_rfl, by kernel_rfl, trivial⟩ ⟨hE, hix, by omega, by simp, by simp, rfl⟩ ?_
 clear hix hE
 rintro ⟨r, c, k, ys, xs, rs⟩ e1_ dS ⟨hE, hix, hk, hxl, hil, hbl⟩ bL
 have hnm := h1c.ext hE
 refine .s <| .g <| .bp ((k : Int) < (names.length : Int)) (fun cR => ?_) (fun cR => ?_)
 ·refine .d <| .s <| .ct <| .sk <| .s <| .b 1 <| .s <| .g <| .r 1 ?_
  have cS : k < names.length := (by omega)
  refine .ix k 1 hnm cS ?_
  obtain ⟨af, ay⟩ : ∃ y, names[k]? = some y := ⟨_, List.getElem?_eq_getElem (by omega)⟩
  have dw := drop_at ay; have dh := List.mem_of_getElem? ay
  obtain ⟨_, ⟨dk, dT, dm, rfl, bY⟩, cT⟩ := hnm.elem k af ay
  have cU := bY.len
  subst cU
  have dx := bY.max
  refine .lh 0 cT <| .r 2 <| .d <| .s <| .g <| .r 3 <| .d <| .b 2 ?_
  have hEA := hE; have dU := p1 af (List.mem_of_getElem? ay); have hnl := p0
  refine T.loop (X := Nat × Nat × Nat × List RP × List Pst × List Nat) (r, c, 0, ys, xs, rs) (fun (rq, cq, j, J, E, ab) => [(2, .pointer (some ⟨O, 0, none⟩)), (3, .pointer (some ⟨V, 0, none⟩)), (4, vI (k : Int)), (13, .slice a1 names.length c1), (14, vI (names.length : Int)), (15, vI (k : Int)), (20, .slice dk af.length dm), (21, vI (af.length : Int)), (22, vI (j : Int))]) (fun (rq, cq, j, J, E, ab) w_ => Ext W w_ ∧ IX 26 130 3 w.heap.size W.heap.size (GN w.heap.size W.heap.size O) w_ V rq cq (some ⟨bm, 0, none⟩) bJ bK names J E ab ∧ j ≤ af.length ∧ E.length ≤ 5 * k + j ∧ (∀ x ∈ E, x.ids.length ≤ 5 * k + j) ∧ (af.drop j).foldl (addT ((k : Int) + 1)) E = af.foldl (addT ((k : Int) + 1)) xs) (fun (rq, cq, j, J, E, ab) => af.length - j) (by kernel_rfl) ⟨by kernel_rfl, by kernel_rfl, by kernel_rfl, by kernel_rfl, by kernel_rfl, by kernel_rfl, by kernel_rfl, by kernel_rfl, by kernel_rfl, trivial⟩ ⟨hE, hix, by omega, by omega, fun x hx => by have := hil x hx; omega, rfl⟩ ?_
  clear hix hE
  rintro ⟨rq, cq, j, J, E, ab⟩ e2_ dV ⟨hE, hix, hj, bT, ag, hfl⟩ bi
  have cV := bY.via hEA hE
  refine .s <| .g <| .bp ((j : Int) < (af.length : Int)) (fun cW => ?_) (fun cW => .d <| .s <| .cf <| .x 2 rfl <| .ib 1 <| .g <| .it ((k : Int) + 1) <| .r 1 <| .d <| bL (rq, cq, k + 1, J, E, ab) _ _ ⟨by kernel_rfl, by kernel_rfl, by kernel_rfl, by kernel_rfl, by kernel_rfl, trivial⟩ ⟨hE, hix, by omega, by omega, fun x hx => by have := ag x hx; omega, bldStep hbl (drop_at ay) (foldEnd hfl (by omega))⟩ (by (simp only []; omega)))
  refine .d <| .s <| .ct <| .sk <| .s <| .b 3 <| .s <| .g ?_
  have cX : j < af.length := (by omega)
  refine .ix j 2 cV cX ?_
  obtain ⟨C, az⟩ : ∃ y, af[j]? = some y := ⟨_, List.getElem?_eq_getElem (by omega)⟩
  have dy := drop_at az; have di := List.mem_of_getElem? az
  obtain ⟨_, rfl, cY⟩ := cV.elem j C az
  refine .lg 0 cY <| .np 112 [.string (bs []), .string (bs [])] fun cZ dW bt bu c7 bZ => ?_
  have b0 : ∀ q_ ∈ V :: rq :: ab, Nb cZ q_ := fun q_ hq_ => nb_new bt (hix.lt q_ hq_)
  have bv : W.heap.size ≤ cZ := Nat.le_trans hE.size (Nat.le_of_eq (Eq.symm bt))
  replace hix := hix.ext bu
  replace hE := hE.trans bu
  clear bu bZ bt
  refine .sc [vT C.key, vT C.val] c7 fun c8 aD am b6 => ?_
  replace hix := hix.one aD b0 bv
  replace hE := Chg.stepO hE aD ⟨.inr bv⟩
  clear aD b6
  refine .d <| .s <| .g <| .r 1 <| .lb hix.box <| .r 1 <| .cl (c_IndexFunc_posts E C (hix.rep.weak (F' := all) (fun _ _ _ => trivial)) am (w := c8) (F := all)) ?_
  rintro dz bw ⟨rfl, ao⟩
  replace am := am.ext ao
  replace hix := hix.ext ao
  replace hE := hE.trans ao
  clear ao
  refine .r 1 <| .d <| .s <| .s <| .g <| .r 1 <| .bp (idxP C 0 E < 0) (fun b7 => ?_) (fun b7 => ?_)
  ·refine .d <| .ct <| .s <| .g <| .r 1 <| .lb hix.box <| .r 2 <| .d <| .g <| .r 1 <| .lb hix.box <| .ln am <| .r 1 <| .ns 1 130 [vT C.key, vT C.val, .slice none 0 0] fun ak dA aE aF bz b8 => ?_
   have bA : ∀ q_ ∈ V :: rq :: ab, Nb ak q_ := fun q_ hq_ => nb_new aE (hix.lt q_ hq_)
   have b9 : W.heap.size ≤ ak := Nat.le_trans hE.size (Nat.le_of_eq (Eq.symm aE))
   replace hix := hix.ext aF
   replace hE := hE.trans aF
   clear aF b8 aE
   have bU := hix.lx; have c9 := hix.lr; have hvl_ := bz.lt; have hge_r := hix.new rq (.tail _ (.head _)); have cd := hix.new V (.head _); have hEs := hE.size
   refine RG.append1 (T := 24) (ty := 24) (y := (⟨C.key, C.val, none, 0, 0⟩ : RP)) hix.own bz (by kernel_rfl) (by kernel_rfl) rfl ⟨trivial, bA rq (.tail _ (.head _))⟩ (by omega) fun aa bV dB ce bM aG => ?_
   replace hE := Chg.stepO hE aG ⟨.inr hge_r⟩
   refine .r 1 <| .ss 1 (vS aa (J.length + 1) bV) (hix.box.chg aG (Nb.one hix.ne)) fun bB aH cg ci => ?_
   replace hix := hix.push (t := ⟨C.key, C.val⟩) (vb := ak) hEs aG ce bM bA b9 hvl_ aH cg
   replace hE := Chg.stepO hE aH ⟨.inr cd⟩
   clear aH ci
   refine .d ?_
   obtain ⟨xi, hxi⟩ : ∃ q, (E ++ [(⟨⟨C.key, C.val⟩, []⟩ : Pst)])[J.length]? = some q := ⟨_, List.getElem?_eq_getElem (by (simp; omega))⟩
   obtain ⟨yi, hyi⟩ : ∃ q, (J ++ [(⟨C.key, C.val, none, 0, 0⟩ : RP)])[J.length]? = some q := ⟨_, List.getElem?_eq_getElem (by (simp; done))⟩
   obtain ⟨ri, hri⟩ : ∃ q, (ab ++ [ak])[J.length]? = some q := ⟨_, List.getElem?_eq_getElem (by (simp; omega))⟩
   have hiy : J.length < (J ++ [(⟨C.key, C.val, none, 0, 0⟩ : RP)]).length := (List.getElem?_eq_some_iff.1 hyi).1
   have hl3_ : V < bB.heap.size := hix.lt _ (.head _); have hlr_ : aa < bB.heap.size := hix.lt _ (.tail _ (.head _)); have hn3_ := hix.ne3 hri; have hnr_ := hix.ner hri
   refine .gd (mtb [ri] bB.heap.size) 13 fun da aI => ?_
   replace hix := hix.ext aI
   replace hE := hE.trans aI
   clear aI
   refine .r [0] <| .lb 1 hix.box (nS_of (all_cons hn3_ all_nil) hl3_) <| .r [2, 3] <| .lb 4 hix.box (nS_of (all_cons hn3_ all_nil) hl3_) <| .r [5] ?_
   have cj : J.length < (J ++ [(⟨C.key, C.val, none, 0, 0⟩ : RP)]).length := (by omega)
   refine GA.idx (i := 6) (b := aa) (o := 0) J.length (len := (J ++ [(⟨C.key, C.val, none, 0, 0⟩ : RP)]).length) (z := (J.length : Int)) (sz := 3) (by kernel_rfl) (by omega) cj rfl <| .r [7] ?_
   obtain ⟨_, rfl, aJ⟩ := hix.own.elem J.length yi hyi
   replace aJ : Has da ⟨aa, 0 + J.length * Rep.sz RP, none⟩ [vT yi.key, vT yi.val, .slice yi.a yi.n yi.c] := by rw [Nat.zero_add]; exact aJ
   refine .lh 8 2 aJ (nS_of (all_cons hnr_ all_nil) hlr_) <| .r [9] <| GA.int (i := 10) ((k : Int) + 1) (by kernel_rfl) (by omega) <| .go 11 <| .ns 1 3 [vI ((k : Int) + 1)] fun dC aK => ?_
   replace hix := hix.ext aK
   replace hE := hE.trans aK
   clear aK
   intro bC dD aL aM aN ck
   have cm : ∀ q_ ∈ V :: aa :: (ab ++ [ak]), Nb bC q_ := fun q_ hq_ => nb_new aL (hix.lt q_ hq_)
   have dp : W.heap.size ≤ bC := Nat.le_trans hE.size (Nat.le_of_eq (Eq.symm aL))
   replace hix := hix.ext aM
   replace hE := hE.trans aM
   clear aM ck aL
   refine .go 12 <| GE.append (T := 68) (ty := 68) (args := [.slice yi.a yi.n yi.c, vS bC 1 1]) (by kernel_rfl) fun dE aq => ?_
   replace aN := aN.ext aq
   replace hix := hix.ext aq
   replace hE := hE.trans aq
   clear aq
   have hyn := (hix.el J.length xi yi ri hxi hyi hri).2.2.n; have hyl : xi.ids.length ≤ 1000 := by have hm := List.mem_of_getElem? hxi; (rcases List.mem_append.1 hm with hm | hm; (have := ag _ hm; omega); (simp at hm; subst hm; simp))
   have bD := hE.size; have hge_ri := hix.new ri (IX.mi hri)
   obtain ⟨aA, bj, dF, bE, aO, bN, ac⟩ := IdsO.app (P := Tryz.prog) (T := 68) (ty := 68) (hix.el J.length xi yi ri hxi hyi hri).2.2 (by kernel_rfl) aN (cm ri (IX.mi hri)) (by omega)
   refine ⟨_, _, bE, Chg.toS ac (.inl (.head _)), ?_⟩
   replace hE := Chg.stepO hE ac ⟨.inr hge_ri⟩
   refine .d fun db ar => ?_
   replace ac := Chg.trans ac (Ext.chg ar)
   replace aO := aO.ext ar
   replace hE := hE.trans ar
   clear ar
   have co : J.length < (J ++ [(⟨C.key, C.val, none, 0, 0⟩ : RP)]).length := (by omega)
   refine RG.idx (b := aa) (o := 0) J.length (len := (J ++ [(⟨C.key, C.val, none, 0, 0⟩ : RP)]).length) (i := (J.length : Int)) (sz := 3) (by kernel_rfl) (by omega) co rfl <| .r 1 ?_
   have bF := ownF flat_rp hix.own ac (Nb.one (hix.ner hri))
   obtain ⟨_, rfl, aP⟩ := bF.elem J.length yi hyi
   replace aP : Has db ⟨aa, 0 + J.length * Rep.sz RP, none⟩ [vT yi.key, vT yi.val, .slice yi.a yi.n yi.c] := by rw [Nat.zero_add]; exact aP
   refine RG.storeO (t' := 68) (i := J.length) (k := 2) (v := vS aA (yi.n + 1) bj) (cs := [vT yi.key, vT yi.val, .slice yi.a yi.n yi.c]) (⟨yi.key, yi.val, some ⟨aA, 0, none⟩, yi.n + 1, bj⟩ : RP) bF hyi aP (by kernel_rfl) (by kernel_rfl) (by kernel_rfl) rfl fun dG cp aQ cr => ?_
   have hge_r2 := hix.new aa (.tail _ (.head _))
   replace hix := hix.upd (i := J.length) (z := (k : Int) + 1) bD hxi hyi hri ac aO bN aQ (y' := (⟨yi.key, yi.val, some ⟨aA, 0, none⟩, yi.n + 1, bj⟩ : RP)) rfl cp
   replace hE := Chg.stepO hE aQ ⟨.inr hge_r2⟩
   clear aQ cr
   refine .d <| .ib 3 <| .g <| .it ((j : Int) + 1) <| .r 1 <| .d ?_
   have hxN : ((E ++ [(⟨⟨C.key, C.val⟩, []⟩ : Pst)]).set J.length ⟨xi.tag, xi.ids ++ [(k : Int) + 1]⟩) = addT ((k : Int) + 1) E C := (topSet hxi (by rw [← bU])).trans (addT_new (by assumption)).symm
   have hbd := addT_len ((k : Int) + 1) E C (5 * k + j) bT ag; rw [← hxN] at hbd
   have hfs := foldStep hfl (drop_at az); rw [← hxN] at hfs
   exact bi (aa, bV, j + 1, ((J ++ [(⟨C.key, C.val, none, 0, 0⟩ : RP)]).set J.length (⟨yi.key, yi.val, some ⟨aA, 0, none⟩, yi.n + 1, bj⟩ : RP)), ((E ++ [(⟨⟨C.key, C.val⟩, []⟩ : Pst)]).set J.length ⟨xi.tag, xi.ids ++ [(k : Int) + 1]⟩), ((ab ++ [ak]).set J.length aA)) _ _ ⟨by kernel_rfl, by kernel_rfl, by kernel_rfl, by kernel_rfl, by kernel_rfl, by kernel_rfl, by kernel_rfl, by kernel_rfl, by kernel_rfl, trivial⟩ ⟨hE, hix, by omega, by have := hbd.1; omega, fun x hx => by have := hbd.2 x hx; omega, hfs⟩ (by (simp only []; omega))
  refine .d <| .cf <| .sk ?_
  have bU := hix.lx; have c9 := hix.lr; have hib := idxP_lt (t := C) (xs := E) (by assumption)
  obtain ⟨xi, hxi⟩ : ∃ q, E[(idxP C 0 E).toNat]? = some q := ⟨_, List.getElem?_eq_getElem (by omega)⟩
  obtain ⟨yi, hyi⟩ : ∃ q, J[(idxP C 0 E).toNat]? = some q := ⟨_, List.getElem?_eq_getElem (by omega)⟩
  obtain ⟨ri, hri⟩ : ∃ q, ab[(idxP C 0 E).toNat]? = some q := ⟨_, List.getElem?_eq_getElem (by omega)⟩
  have hiy : (idxP C 0 E).toNat < J.length := (List.getElem?_eq_some_iff.1 hyi).1
  have hl3_ : V < bw.heap.size := hix.lt _ (.head _); have hlr_ : rq < bw.heap.size := hix.lt _ (.tail _ (.head _)); have hn3_ := hix.ne3 hri; have hnr_ := hix.ner hri
  refine .gd (mtb [ri] bw.heap.size) 13 fun dd aR => ?_
  replace hix := hix.ext aR
  replace hE := hE.trans aR
  clear aR
  refine .r [0] <| .lb 1 hix.box (nS_of (all_cons hn3_ all_nil) hl3_) <| .r [2, 3] <| .lb 4 hix.box (nS_of (all_cons hn3_ all_nil) hl3_) <| .r [5] ?_
  have cu : (idxP C 0 E).toNat < J.length := (by omega)
  refine GA.idx (i := 6) (b := rq) (o := 0) ((idxP C 0 E).toNat) (len := J.length) (z := idxP C 0 E) (sz := 3) (by kernel_rfl) (by omega) cu rfl <| .r [7] ?_
  obtain ⟨_, rfl, aS⟩ := hix.own.elem ((idxP C 0 E).toNat) yi hyi
  replace aS : Has dd ⟨rq, 0 + ((idxP C 0 E).toNat) * Rep.sz RP, none⟩ [vT yi.key, vT yi.val, .slice yi.a yi.n yi.c] := by rw [Nat.zero_add]; exact aS
  refine .lh 8 2 aS (nS_of (all_cons hnr_ all_nil) hlr_) <| .r [9] <| GA.int (i := 10) ((k : Int) + 1) (by kernel_rfl) (by omega) <| .go 11 <| .ns 1 3 [vI ((k : Int) + 1)] fun dH aT => ?_
  replace hix := hix.ext aT
  replace hE := hE.trans aT
  clear aT
  intro bG dI aU aV aW cv
  have cw : ∀ q_ ∈ V :: rq :: ab, Nb bG q_ := fun q_ hq_ => nb_new aU (hix.lt q_ hq_)
  have dq : W.heap.size ≤ bG := Nat.le_trans hE.size (Nat.le_of_eq (Eq.symm aU))
  replace hix := hix.ext aV
  replace hE := hE.trans aV
  clear aV cv aU
  refine .go 12 <| GE.append (T := 68) (ty := 68) (args := [.slice yi.a yi.n yi.c, vS bG 1 1]) (by kernel_rfl) fun dJ au => ?_
  replace aW := aW.ext au
  replace hix := hix.ext au
  replace hE := hE.trans au
  clear au
  have hyn := (hix.el (idxP C 0 E).toNat xi yi ri hxi hyi hri).2.2.n; have hyl : xi.ids.length ≤ 1000 := by have hm := List.mem_of_getElem? hxi; (have := ag _ hm; omega)
  have bD := hE.size; have hge_ri := hix.new ri (IX.mi hri)
  obtain ⟨aB, bk, dK, bH, aX, bO, ae⟩ := IdsO.app (P := Tryz.prog) (T := 68) (ty := 68) (hix.el (idxP C 0 E).toNat xi yi ri hxi hyi hri).2.2 (by kernel_rfl) aW (cw ri (IX.mi hri)) (by omega)
  refine ⟨_, _, bH, Chg.toS ae (.inl (.head _)), ?_⟩
  replace hE := Chg.stepO hE ae ⟨.inr hge_ri⟩
  refine .d fun de av => ?_
  replace ae := Chg.trans ae (Ext.chg av)
  replace aX := aX.ext av
  replace hE := hE.trans av
  clear av
  have cx : (idxP C 0 E).toNat < J.length := (by omega)
  refine RG.idx (b := rq) (o := 0) ((idxP C 0 E).toNat) (len := J.length) (i := idxP C 0 E) (sz := 3) (by kernel_rfl) (by omega) cx rfl <| .r 1 ?_
  have bI := ownF flat_rp hix.own ae (Nb.one (hix.ner hri))
  obtain ⟨_, rfl, aY⟩ := bI.elem ((idxP C 0 E).toNat) yi hyi
  replace aY : Has de ⟨rq, 0 + ((idxP C 0 E).toNat) * Rep.sz RP, none⟩ [vT yi.key, vT yi.val, .slice yi.a yi.n yi.c] := by rw [Nat.zero_add]; exact aY
  refine RG.storeO (t' := 68) (i := ((idxP C 0 E).toNat)) (k := 2) (v := vS aB (yi.n + 1) bk) (cs := [vT yi.key, vT yi.val, .slice yi.a yi.n yi.c]) (⟨yi.key, yi.val, some ⟨aB, 0, none⟩, yi.n + 1, bk⟩ : RP) bI hyi aY (by kernel_rfl) (by kernel_rfl) (by kernel_rfl) rfl fun dL cy aZ cz => ?_
  have hge_r2 := hix.new rq (.tail _ (.head _))
  replace hix := hix.upd (i := (idxP C 0 E).toNat) (z := (k : Int) + 1) bD hxi hyi hri ae aX bO aZ (y' := (⟨yi.key, yi.val, some ⟨aB, 0, none⟩, yi.n + 1, bk⟩ : RP)) rfl cy
  replace hE := Chg.stepO hE aZ ⟨.inr hge_r2⟩
  clear aZ cz
  refine .d <| .ib 3 <| .g <| .it ((j : Int) + 1) <| .r 1 <| .d ?_
  have hxN : (E.set ((idxP C 0 E).toNat) ⟨xi.tag, xi.ids ++ [(k : Int) + 1]⟩) = addT ((k : Int) + 1) E C := (addT_old (by assumption) hxi).symm
  have hbd := addT_len ((k : Int) + 1) E C (5 * k + j) bT ag; rw [← hxN] at hbd
  have hfs := foldStep hfl (drop_at az); rw [← hxN] at hfs
  exact bi (rq, cq, j + 1, (J.set ((idxP C 0 E).toNat) (⟨yi.key, yi.val, some ⟨aB, 0, none⟩, yi.n + 1, bk⟩ : RP)), (E.set ((idxP C 0 E).toNat) ⟨xi.tag, xi.ids ++ [(k : Int) + 1]⟩), (ab.set ((idxP C 0 E).toNat) aB)) _ _ ⟨by kernel_rfl, by kernel_rfl, by kernel_rfl, by kernel_rfl, by kernel_rfl, by kernel_rfl, by kernel_rfl, by kernel_rfl, by kernel_rfl, trivial⟩ ⟨hE, hix, by omega, by have := hbd.1; omega, fun x hx => by have := hbd.2 x hx; omega, hfs⟩ (by (simp only []; omega))
 refine .d <| .s <| .cf <| .x 0 rfl <| .s <| .g <| .r 1 ?_
 have hEw := hEc.trans hE; have hb2n := hb2c.ext hE; have hb2l := hb2c.lt; have hoP := hix.done2 hb2l; have hNn := hix.names2; have hb3n := hix.box; have hn3r := hix.ne
 have dM : Nb V O := nb_ge (hix.new _ (.head _)) hb2l; have dN : Nb r O := nb_ge (hix.new _ (.tail _ (.head _))) hb2l
 have dX : Gb w.heap.size V := Nat.le_trans bX (hix.new _ (.head _)); have hgr : Gb w.heap.size r := Nat.le_trans bX (hix.new _ (.tail _ (.head _)))
 have hbe := bldEnd hbl (by omega)
 refine .lb hb3n <| .cl (c_SortFunc_posts hoP (by rw [hix.lx, hbe]; exact p2)) ?_
 rintro dO df ⟨rfl, cA, hperm_, hsort_, ba, bc⟩
 replace ⟨hNn, hb3n, hb2n⟩ := (so [V, r, O] bc).g3 hNn hb3n hb2n
 replace hEw : Chg nil w df := Chg.stepO hEw bc ⟨.inr hgr⟩
 clear bc
 refine .d <| .s <| .g <| .ln hb3n <| .sc [vS bm bJ bK, vS r ys.length c] hb2n fun bW bd cB cC => ?_
 replace ⟨hNn, ba, hb3n⟩ := (so [V, r, O] bd).g3 hNn ba hb3n
 replace hEw : Chg nil w bW := Chg.stepO hEw bd ⟨.inr cF⟩
 clear bd cC
 refine .d ?_
 have dg := ba.sl hgr
 replace hNn := (sd bW [V, r, O] r).g1 hNn
 exact .rb Tryz.func73 Tryz.results73 cB ⟨⟨((⟨names, cA⟩ : Idx) : Idx), ⟨_, rfl, ⟨_, _, _, _, _, _, rfl, hNn.w1, dg.w1⟩⟩, (by exact ⟨rfl, fun a b => sort_idx a b hperm_ hsort_ hbe⟩)⟩, hEw⟩
end Go.Proofs.YtfnpaglcnmcnbaaGreat
namespace Go.Proofs.YtfnpaglcnmcnbaaGreat
def nmB (names : List (List Tag)) : Bool := decide (names.length ≤ 6) && names.all nameOk && decide ((names.map text).Nodup)
theorem nmB_iff {names : List (List Tag)} : nmB names = true ↔ NmI names := by
 unfold nmB
 simp only [Bool.and_eq_true, decide_eq_true_eq, List.all_eq_true]
 exact ⟨fun h => ⟨h.1.1, h.1.2, h.2⟩, fun h => ⟨⟨h.len, h.ok⟩, h.nodup⟩⟩
theorem nmB_no {names : List (List Tag)} (h : ¬ NmI names) : nmB names = false := by
 cases hb : nmB names with
 | false => rfl
 | true => exact absurd (nmB_iff.1 hb) h
structure NmG (names : List (List Tag)) : Prop where
 len : names.length ≤ 7
 nd : NsD names
 bl : (bldF 0 [] names).length ≤ 12
theorem NmG.of {names : List (List Tag)} (h : NmI names) (h2 : NsD names) : NmG names := ⟨by have := h.len; omega, h2, bld_le h h2⟩
theorem NmG.sz {names : List (List Tag)} (h : NmG names) : ∀ n ∈ names, NmSz n := fun n hn => (h.nd n hn).sz
theorem NmG.l5 {names : List (List Tag)} (h : NmG names) : ∀ n ∈ names, n.length ≤ 5 := fun n hn => (h.nd n hn).1
theorem nodup_of {names : List (List Tag)} (h : ∀ (i j : Nat) (x y : List Tag), i < j → names[i]? = some x → names[j]? = some y → text x ≠ text y) : (names.map text).Nodup := by
 unfold List.Nodup
 rw [List.pairwise_iff_getElem]
 intro i j hi hj hij
 rw [List.getElem_map, List.getElem_map]
 exact h i j _ _ hij (List.getElem?_eq_getElem _) (List.getElem?_eq_getElem _)
def okTo (names : List (List Tag)) (k : Nat) : Prop := ∀ j n, j < k → names[j]? = some n → nameOk n = true ∧ idxN n 0 names = j
theorem okTo_0 (names : List (List Tag)) : okTo names 0 := fun j _ h => absurd h (by omega)
theorem okTo_step {names : List (List Tag)} {k : Nat} {n : List Tag} (h : okTo names k) (hn : names[k]? = some n) (h1 : nameOk n = true) (h2 : idxN n 0 names + 1 = (k : Int) + 1) : okTo names (k + 1) := fun j m hj hm => by
 by_cases e : j = k
 ·subst e
  rw [hn] at hm
  cases hm
  exact ⟨h1, by omega⟩
 ·exact h j m (by omega) hm
theorem okTo_no {names : List (List Tag)} {k : Nat} {n : List Tag} (hn : names[k]? = some n) (h : nameOk n = false ∨ idxN n 0 names + 1 ≠ (k : Int) + 1) : false = nmB names := (nmB_no (fun hI => namesNo hI hn h)).symm
theorem okTo_end {names : List (List Tag)} {k : Nat} (h : okTo names k) (hk : names.length ≤ k) : decide ((names.length : Int) ≤ 6) = nmB names := by
 unfold nmB
 have h1 : names.all nameOk = true := List.all_eq_true.2 (fun n hn => by
  obtain ⟨j, hj⟩ := List.mem_iff_getElem?.1 hn
  exact (h j n (by have := (List.getElem?_eq_some_iff.1 hj).1; omega) hj).1)
 have h2 : (names.map text).Nodup := nodup_of (fun i j x y hij hx hy e => by
  have hj := (List.getElem?_eq_some_iff.1 hy).1
  have a := h i x (by omega) hx
  have b := h j y (by omega) hy
  have := text_inj a.1 b.1 e
  subst this
  omega)
 rw [h1, decide_eq_true h2, Bool.and_true, Bool.and_true, decide_eq_decide]
 omega
def okS (names : List (List Tag)) (k : Nat) : Prop := ∀ j n, j < k → names[j]? = some n → nameOk n = true ∧ ∀ i m, i < j → names[i]? = some m → text n ≠ text m
theorem okS_0 (names : List (List Tag)) : okS names 0 := fun j _ h => absurd h (by omega)
def apart (names : List (List Tag)) (n : List Tag) (k : Nat) : Prop := ∀ i m, i < k → names[i]? = some m → text n ≠ text m
theorem apart_0 (names : List (List Tag)) (n : List Tag) : apart names n 0 := fun j _ h => absurd h (by omega)
theorem apart_step {names : List (List Tag)} {n m : List Tag} {k : Nat} (h : apart names n k) (hm : names[k]? = some m) (h2 : (text n == text m) = false) : apart names n (k + 1) := fun i x hi hx => by
 by_cases e : i = k
 ·subst e
  rw [hm] at hx
  cases hx
  exact beq_eq_false_iff_ne.1 h2
 ·exact h i x (by omega) hx
theorem okS_step {names : List (List Tag)} {n : List Tag} {k j : Nat} (h : okS names k) (hn : names[k]? = some n) (h1 : nameOk n = true) (h2 : apart names n j) (hj : k ≤ j) : okS names (k + 1) := fun i m hi hm => by
 by_cases e : i = k
 ·subst e
  rw [hn] at hm
  cases hm
  exact ⟨h1, fun a b ha hb => h2 a b (by omega) hb⟩
 ·exact h i m (by omega) hm
theorem okS_end {names : List (List Tag)} {k : Nat} (h : okS names k) (hk : names.length ≤ k) (hl : ¬ (names.length : Int) > 6) : NmI names :=
 ⟨by omega, fun n hn => by
  obtain ⟨j, hj⟩ := List.mem_iff_getElem?.1 hn
  exact (h j n (by have := (List.getElem?_eq_some_iff.1 hj).1; omega) hj).1, nodup_of (fun i j x y hij hx hy e => (h j y (by have := (List.getElem?_eq_some_iff.1 hy).1; omega) hy).2 i x hij hx e.symm)⟩
theorem okS_no1 {names : List (List Tag)} (h : (names.length : Int) > 6) : false = nmB names := (nmB_no (fun hI => by have := hI.len; omega)).symm
theorem okS_no2 {names : List (List Tag)} {k : Nat} {n : List Tag} (hn : names[k]? = some n) (h : nameOk n = false) : false = nmB names := (nmB_no (fun hI => by rw [hI.ok n (List.mem_of_getElem? hn)] at h; cases h)).symm
theorem okS_no3 {names : List (List Tag)} {k j : Nat} {n m : List Tag} (hn : names[k]? = some n) (hm : names[j]? = some m) (hj : j < k) (h : (text n == text m) = true) : false = nmB names := (nmB_no (fun hI => nodup_at hI.nodup hn hm hj (eq_of_beq h))).symm
structure IxG (x : Idx) : Prop where
 g : NmG x.names
 eq : NmI x.names → x = idxOf x.names
theorem IxG.ix {x : Idx} (h : IxG x) (h2 : NmI x.names) : IxI x := ⟨h.eq h2, h2⟩
structure SG (s : Sto) : Prop where
 ix : IxG s.idx
 np : s.parts.length ≤ 7
 part : ∀ p ∈ s.parts, PrtI p
 nm2 : s.mem.length ≤ 21
 mem : ∀ m ∈ s.mem, 0 ≤ m.id ∧ m.id ≤ 7 ∧ RowSm m.row
theorem SG.pt {s : Sto} (h : SG s) (h3 : s.parts.all (fun p => partIn p s.idx.names.length) = true) : ∀ p ∈ s.parts, PrtI p ∧ partOk p = true := fun p hp => ⟨h.part p hp, partIn_ok (List.all_eq_true.1 h3 p hp)⟩
theorem SG.of {s : Sto} (h : SD s) : SG s := ⟨⟨NmG.of h.nm h.nd, fun _ => h.idx⟩, by have := h.np; omega, h.part, h.nm2, h.mem⟩
theorem SG.sd {s : Sto} (h : SG s) (h2 : nmB s.idx.names = true) (h3 : s.parts.length ≤ 6) : SD s := ⟨h.ix.eq (nmB_iff.1 h2), nmB_iff.1 h2, h.ix.g.nd, h3, h.part, h.nm2, h.mem⟩
theorem nm_true {names : List (List Tag)} (h : NmI names) : true = nmB names := (nmB_iff.2 h).symm
end Go.Proofs.YtfnpaglcnmcnbaaGreat
namespace Go.Proofs.YtfnpaglcnmcnbaaGreat
set_option maxRecDepth 100000
set_option maxHeartbeats 4000000
theorem c_impl_namesOkG (names : List (List Tag)) {w : World} {F : Nat → Prop} {a1 : Option Addr} {n1 c1 : Nat} (h1 : RepS w F a1 n1 c1 names) (p0 : NmG names) : Calls Tryz.prog 116 [.slice a1 n1 c1].toArray w (rets fun rv w' => rv = .bool (nmB names) ∧ Ext w w') := by
 refine goT Tryz.func116 ?_
 obtain ⟨rfl, am, h1⟩ := h1.tp
 refine .s <| .g <| .r 1 <| .d <| .s <| .s <| .g <| .r 3 <| .d <| .b 0 <| T.loop (X := Nat) 0 (fun k => [(0, .slice a1 names.length c1), (5, .slice a1 names.length c1), (6, vI (names.length : Int)), (7, vI (k : Int))]) (fun k O => Chg (ins []) w O ∧ (k ≤ names.length) ∧ (okTo names k)) (fun k => names.length - k) (by kernel_rfl) ⟨by kernel_rfl, by kernel_rfl, by kernel_rfl, by kernel_rfl, trivial⟩ ⟨Chg.refl _ _, (by simp), (by exact okTo_0 _)⟩ ?_
 rintro k aw O ⟨C, ao, aq⟩ V
 have ab : Mv [] [] w O := Mv.inl C all_nil all_nil
 replace h1 := (sp ab C).g1 h1
 have E : Chg nil w O := Chg.stepI (Chg.refl nil w) C all_nil
 clear ab
 refine .s <| .g <| .bp ((k : Int) < (names.length : Int)) (fun af => ?_) (fun af => .d <| .s <| .cf <| .x 0 rfl <| .s <| .g <| .r 4 <| .d <| .rt Tryz.func116 Tryz.results116 (.bool (decide ((names.length : Int) ≤ 6))) ⟨(congrArg Value.bool (by exact okTo_end (by assumption) (by omega))), E⟩)
 refine .d <| .s <| .ct <| .sk <| .s <| .b 1 <| .s <| .g <| .r 1 ?_
 have ag : k < names.length := (by omega)
 refine .ix k 1 h1 ag ?_
 obtain ⟨W, aa⟩ : ∃ y, names[k]? = some y := ⟨_, List.getElem?_eq_getElem (by omega)⟩
 have ar := drop_at aa; have ak := List.mem_of_getElem? aa
 obtain ⟨_, ⟨ax, ay, az, rfl, J⟩, ah⟩ := h1.elem k W aa
 have ai := J.len
 subst ai
 have au := J.max
 refine .lh 0 ah <| .r 2 <| .d <| .s <| .g <| .r 1 <| .cl (c_impl_NameOk W J.ta (w := O) (F := all)) ?_
 rintro aA al ⟨rfl, ac⟩
 replace ⟨h1, J, E, C⟩ := (se [] ac).g4 h1 J E C
 clear ac
 cases av : (nameOk W)
 ·exact .r 9 <| .d <| .ct <| .s <| .g <| .r 1 <| .d <| .rt Tryz.func116 Tryz.results116 (.bool false) ⟨(congrArg Value.bool (by exact okTo_no (by assumption) (.inl (by assumption)))), E⟩
 refine .r 4 <| .cl (c_impl_numberOf names W h1.ta J.ta (w := al) (F := all)) ?_
 rintro aB aC ⟨rfl, ae⟩
 replace ⟨E, C⟩ := (se [] ae).g2 E C
 clear ae
 exact .r 1 <| .it ((k : Int) + 1) <| .ne (idxN W 0 names + 1) ((k : Int) + 1) (fun aj => .r 1 <| .d <| .ct <| .s <| .g <| .r 1 <| .d <| .rt Tryz.func116 Tryz.results116 (.bool false) ⟨(congrArg Value.bool (by exact okTo_no (by assumption) (.inr (by assumption)))), E⟩) fun aj => .r 1 <| .d <| .cf <| .sk <| .ib 1 <| .g <| .it ((k : Int) + 1) <| .r 1 <| .d <| V (k + 1) _ _ ⟨by kernel_rfl, by kernel_rfl, by kernel_rfl, by kernel_rfl, trivial⟩ ⟨C, (by omega), (by exact okTo_step (by assumption) (by assumption) (by assumption) (by assumption))⟩ (by omega)
theorem c_spec_IndexOkG (ix : Idx) {w : World} {F : Nat → Prop} {a1 : Option Addr} {n1 c1 : Nat} (h1 : RepS w F a1 n1 c1 ix.names) {a2 : Option Addr} {n2 c2 : Nat} (h2 : RepS w F a2 n2 c2 ix.posts) (p0 : IxG ix) : Calls Tryz.prog 65 [.agg #[.slice a1 n1 c1, .slice a2 n2 c2]].toArray w (rets fun rv w' => rv = .bool (nmB ix.names) ∧ Ext w w') := by
 refine goT Tryz.func65 ?_
 obtain ⟨rfl, cx, h1⟩ := h1.tp
 obtain ⟨rfl, cy, h2⟩ := h2.tp
 refine .s <| .g <| .np 26 [.slice a1 ix.names.length c1, .slice a2 ix.posts.length c2] fun ae bA aV az J bB => ?_
 replace ⟨h1, h2⟩ := (sn [] az aV).g2 h1 h2
 have E := az
 clear az bB aV
 refine .r 1 <| .d <| .s <| .s <| .g <| .r 1 <| .lb J <| .r 1 <| .bp ((ix.names.length : Int) > 6) (fun bC => .d <| .ct <| .s <| .g <| .r 1 <| .d <| .rt Tryz.func65 Tryz.results65 (.bool false) ⟨(congrArg Value.bool (by exact okS_no1 (by assumption))), E⟩) fun bC => .d <| .cf <| .sk <| .s <| .g <| .r 1 <| .d <| .s <| .s <| .g <| .r 1 <| .d <| .b 0 <| T.loop (X := Int × Nat) (0, 0) (fun (k, W) => [(1, .pointer (some ⟨ae, 0, none⟩)), (3, vI k), (4, vI (W : Int))]) (fun (k, W) ay => Chg (ins []) bA ay ∧ (W ≤ ix.names.length) ∧ (okS ix.names W) ∧ (k = (((ix.names.take W).map List.length).sum : Nat)) ∧ (0 ≤ k) ∧ (k ≤ 1000 * W)) (fun (k, W) => ix.names.length - W) (by kernel_rfl) ⟨by kernel_rfl, by kernel_rfl, by kernel_rfl, trivial⟩ ⟨Chg.refl _ _, (by simp), (by exact okS_0 _), (by simp), (by simp), (by simp)⟩ ?_
 rintro ⟨k, W⟩ da ay ⟨af, cz, cA, cB, cC, cD⟩ aA
 have aW : Mv [ae] [ae] bA ay := Mv.inl af all_nil (all_cons (.inl (.head _)) all_nil)
 replace ⟨h1, h2, J, E⟩ := (sp aW af).g4 h1 h2 J E
 clear aW
 refine .s <| .s <| .g <| .r 2 <| .lb J <| .r 1 <| .bp ((W : Int) < (ix.names.length : Int)) (fun bD => ?_) (fun bD => ?_)
 ·refine .d <| .ct <| .sk <| .s <| .b 1 <| .s <| .s <| .g <| .r 1 <| .lb J <| .r 1 ?_
  have bE : W < ix.names.length := (by omega)
  refine .ix W 1 h1 bE ?_
  obtain ⟨ai, aq⟩ : ∃ y, ix.names[W]? = some y := ⟨_, List.getElem?_eq_getElem (by omega)⟩
  have cE := drop_at aq; have bZ := List.mem_of_getElem? aq
  obtain ⟨_, ⟨db, dd, de, rfl, bg⟩, bF⟩ := h1.elem W ai aq
  have bG := bg.len
  subst bG
  have cF := bg.max
  refine .lh 0 bF <| .cl (c_spec_NameOk ai bg.ta (w := ay) (F := all)) ?_
  rintro df bH ⟨rfl, aX⟩
  replace ⟨h1, h2, J, E, af⟩ := (se [ae] aX).g5 h1 h2 J E af
  clear aX
  cases cG : (nameOk ai)
  ·exact .r 1 <| .d <| .ct <| .s <| .g <| .r 1 <| .d <| .rt Tryz.func65 Tryz.results65 (.bool false) ⟨(congrArg Value.bool (by exact okS_no2 (by assumption) (by assumption))), E⟩
  refine .r 1 <| .d <| .cf <| .sk <| .s <| .s <| .g <| .r 1 <| .d <| .b 2 <| T.loop (X := Nat) 0 (fun k2 => [(1, .pointer (some ⟨ae, 0, none⟩)), (3, vI k), (4, vI (W : Int)), (5, vI (k2 : Int))]) (fun k2 bh => Chg (ins []) bH bh ∧ (k2 ≤ W) ∧ (apart ix.names ai k2)) (fun k2 => W - k2) (by kernel_rfl) ⟨by kernel_rfl, by kernel_rfl, by kernel_rfl, by kernel_rfl, trivial⟩ ⟨Chg.refl _ _, (by omega), (by exact apart_0 _ _)⟩ ?_
  rintro k2 dg bh ⟨ah, cH, cI⟩ aB
  have aY : Mv [ae] [ae] bH bh := Mv.inl ah all_nil (all_cons (.inl (.head _)) all_nil)
  replace ⟨h1, h2, J, E, af⟩ := (sp aY ah).g5 h1 h2 J E af
  clear aY
  refine .s <| .s <| .g <| .r 2 <| .bp ((k2 : Int) < (W : Int)) (fun bI => ?_) (fun bI => ?_)
  ·refine .d <| .ct <| .sk <| .s <| .b 3 <| .s <| .gd nil 11 fun dh aZ => ?_
   replace ⟨h1, h2, J, E, af, ah⟩ := (se [ae] aZ).g6 h1 h2 J E af ah
   clear aZ
   refine .r [0] <| .lb 1 J id <| .r [2] ?_
   have bJ : W < ix.names.length := (by omega)
   refine .ix 3 W 1 h1 bJ ?_
   obtain ⟨_, ⟨di, dj, dk, rfl, bK⟩, bL⟩ := h1.elem W ai aq
   have bM := bK.len
   subst bM
   refine .lh 4 0 bL id <| GA.call1 (i := 5) (by kernel_rfl) (fun b6 bN => c_spec_l3Text ai (bK.ta.ext bN) (by have q1 := (p0.g.sz _ (by assumption)).1; omega) (fun t ht => by have q1 := (p0.g.sz _ (by assumption)).2 t ht; omega) (w := b6) (F := all)) <| .r [6] <| .lb 7 J id <| .r [8] ?_
   have bO : k2 < ix.names.length := (by omega)
   refine .ix 9 k2 1 h1 bO ?_
   obtain ⟨aC, aD⟩ : ∃ y, ix.names[k2]? = some y := ⟨_, List.getElem?_eq_getElem (by omega)⟩
   have cJ := drop_at aD; have b0 := List.mem_of_getElem? aD
   obtain ⟨_, ⟨dm, dp, dq, rfl, aE⟩, bP⟩ := h1.elem k2 aC aD
   have bQ := aE.len
   subst bQ
   have cK := aE.max
   refine .lh 10 0 bP id <| .d fun b7 ba => ?_
   replace ⟨h1, h2, J, aE, E, af, ah⟩ := (se [ae] ba).g7 h1 h2 J aE E af ah
   clear ba
   refine .cl (c_spec_l3Text aC aE.ta (by have q1 := (p0.g.sz _ (by assumption)).1; omega) (fun t ht => by have q1 := (p0.g.sz _ (by assumption)).2 t ht; omega) (w := b7) (F := all)) ?_
   rintro dr dt ⟨rfl, bc⟩
   replace ⟨h1, h2, J, E, af, ah⟩ := (se [ae] bc).g6 h1 h2 J E af ah
   clear bc
   refine RG.eqv (v := .bool ((text ai == text aC))) (by kernel_rfl) (s_eq (text ai) (text aC)) ?_
   cases cL : (text ai == text aC)
   ·exact .d <| .cf <| .sk <| .ib 3 <| .g <| .r 1 <| RG.int ((k2 : Int) + 1) (by kernel_rfl) (by have q0 := p0.g.len; omega) <| .r 1 <| .d <| aB (k2 + 1) _ _ ⟨by kernel_rfl, by kernel_rfl, by kernel_rfl, by kernel_rfl, trivial⟩ ⟨ah, (by omega), (by exact apart_step (by assumption) (by assumption) (by assumption))⟩ (by omega)
   exact .d <| .ct <| .s <| .g <| .r 1 <| .d <| .rt Tryz.func65 Tryz.results65 (.bool false) ⟨(congrArg Value.bool (by exact okS_no3 (k := W) (j := k2) (by assumption) (by assumption) (by omega) (by assumption))), E⟩
  refine .d <| .cf <| .x 2 rfl <| .g <| .r 2 <| .lb J <| .r 1 ?_
  have bR : W < ix.names.length := (by omega)
  refine .ix W 1 h1 bR ?_
  obtain ⟨_, ⟨du, dv, dw, rfl, b8⟩, bS⟩ := h1.elem W ai aq
  have bi := b8.len
  subst bi
  exact .lh 0 bS <| .r 1 <| RG.int (k + (ai.length : Int)) (by kernel_rfl) (by have q0 := p0.g.len; (have q1 := (p0.g.sz _ (by assumption)).1; omega)) <| .r 1 <| .d <| .ib 1 <| .g <| .r 1 <| RG.int ((W : Int) + 1) (by kernel_rfl) (by have q0 := p0.g.len; omega) <| .r 1 <| .d <| aA (k + (ai.length : Int), W + 1) _ _ ⟨by kernel_rfl, by kernel_rfl, by kernel_rfl, trivial⟩ ⟨af, (by omega), (by exact okS_step (by assumption) (by assumption) (by assumption) (by assumption : apart _ _ k2) (by omega)), (by rw [lenStep (f := List.length) (by assumption)]; omega), (by omega), (by have q1 := (p0.g.sz ai (by assumption)).1; omega)⟩ (by (simp only []; omega))
 refine .d <| .cf <| .x 0 rfl <| .s <| .s <| .g <| .r 1 <| .d <| .b 4 <| T.loop (X := Int × Nat) (k, 0) (fun (k, W) => [(1, .pointer (some ⟨ae, 0, none⟩)), (3, vI k), (6, vI (W : Int))]) (fun (k, W) aF => Chg (ins []) ay aF ∧ (W ≤ ix.posts.length) ∧ (NmI ix.names) ∧ (k = (lenSum ix.names : Int) - (((ix.posts.take W).map (fun p => p.ids.length)).sum : Nat)) ∧ (k ≤ 6000) ∧ (k ≥ - (1000 * W : Int))) (fun (k, W) => ix.posts.length - W) (by kernel_rfl) ⟨by kernel_rfl, by kernel_rfl, by kernel_rfl, trivial⟩ ⟨Chg.refl _ _, (by omega), (by exact okS_end (by assumption) (by omega) (by omega)), (by have q1 : ix.names.take W = ix.names := List.take_of_length_le (by omega); have q2 : k = (((ix.names.take W).map List.length).sum : Nat) := (by assumption); rw [q1] at q2; simp [q2, lenSum]), (by have q0 := p0.g.len; omega), (by omega)⟩ ?_
 rintro ⟨k, W⟩ cM aF ⟨O, b9, cd, ce, cg, ci⟩ al
 have aG : Mv [ae] [ae] ay aF := Mv.inl O all_nil (all_cons (.inl (.head _)) all_nil)
 replace ⟨h1, h2, J, E⟩ := (sp aG O).g4 h1 h2 J E
 clear aG
 refine .s <| .s <| .g <| .r 2 <| .lb J <| .r 1 <| .bp ((W : Int) < (ix.posts.length : Int)) (fun bj => ?_) (fun bj => .d <| .cf <| .x 4 rfl <| .s <| .g <| .r 3 <| .d <| .rt Tryz.func65 Tryz.results65 (.bool (k == 0)) ⟨(congrArg Value.bool (by have p9 := p0.ix (by assumption); rw [← nm_true p9.nm]; have q1 : ix.posts.take W = ix.posts := List.take_of_length_le (by omega); have q2 : k = (lenSum ix.names : Int) - (((ix.posts.take W).map (fun p => p.ids.length)).sum : Nat) := (by assumption); have q3 := ix_sum p9; unfold idSum at q3; rw [q1] at q2; simp; omega)), E⟩)
 refine .d <| .ct <| .sk <| .s <| .b 5 <| .s <| .g <| .r 1 <| .lb J <| .r 1 ?_
 have bk : W < ix.posts.length := (by omega)
 refine .ix W 3 h2 bk ?_
 obtain ⟨C, ar⟩ : ∃ y, ix.posts[W]? = some y := ⟨_, List.getElem?_eq_getElem (by omega)⟩
 have cj := drop_at ar; have bT := List.mem_of_getElem? ar
 obtain ⟨_, ⟨bU, cN, bV, rfl, ac⟩, bm⟩ := h2.elem W C ar
 have bn := ac.len
 subst bn
 have ck := ac.max
 refine .lg 0 bm <| .np 130 [.string (bs []), .string (bs []), .slice none 0 0] fun am cO aj aH bo bq => ?_
 have cm := nb_new aj J.lt
 have co := E.cn aj
 have cp := O.cn aj
 replace ⟨h1, h2, J, ac, E, O⟩ := (sn [ae] aH aj).g6 h1 h2 J ac E O
 clear aH bq aj
 refine .sc [vT C.tag.key, vT C.tag.val, .slice bU C.ids.length bV] bo fun cP aI V br => ?_
 replace ⟨h1, h2, J, ac, E, O⟩ := (so [am, ae] aI).g6 h1 h2 J ac E O
 clear aI br
 refine .d <| .s <| .s <| .gd nil 28 fun cQ aJ => ?_
 replace ⟨h1, h2, J, ac, V, E, O⟩ := (se [am, ae] aJ).g7 h1 h2 J ac V E O
 clear aJ
 refine .r [0] <| .lb 1 V id <| .r [2] <| GA.eqI (i := 3) (a := (C.ids.length : Int)) (b := 0) (by kernel_rfl) (fun bt => ?_) (fun bt => ?_)
 ·refine .r [4, 5, 6, 7, 8, 9, 10, 11, 12, 13, 14, 15, 16, 17, 18, 19, 20, 21, 22, 23, 24, 25, 26, 27] <| .d fun cR aK => ?_
  replace ⟨h1, h2, J, ac, V, E, O⟩ := (se [am, ae] aK).g7 h1 h2 J ac V E O
  clear aK
  exact .r 4 <| .d <| .ct <| .s <| .g <| .r 1 <| .d <| .rt Tryz.func65 Tryz.results65 (.bool false) ⟨(congrArg Value.bool (by (have p9 := p0.ix (by assumption); (exfalso; have q1 := posts_mem (p9.posts ▸ (by assumption : C ∈ ix.posts)); (have q2 := q1.2.1; omega))))), E⟩
 refine .r [4, 5] <| .lb 6 V id <| .r [7] <| .lb 8 J id <| .r [9] <| .ln 10 V id <| .go 11 <| .cl (fun aL au => c_spec_l11Ids ix.names C.tag (h1.ta.ext au) (by have q0 := p0.g.len; omega) (w := aL) (F := all)) ?_
 intro aL au
 replace ⟨h2, J, ac, V, E, O⟩ := (se [am, ae] au).g6 h2 J ac V E O
 rintro cS cT ⟨⟨cU, cV, rfl, ax⟩, av⟩
 have aM := al2 V.lt J.lt
 have bu : Gb w.heap.size aL.heap.size := E.size
 have hkeep_ := av
 replace ⟨h2, J, ac, V, E, O⟩ := (se [am, ae] av).g6 h2 J ac V E O
 clear av
 refine ⟨Ext.chg hkeep_, ?_⟩
 have ax := ax.fr aM bu
 have cq := ax.max
 clear aM
 refine GA.call1 (i := 12) (by kernel_rfl) (fun bW aN => c_spec_l11Same C.ids (ids ix.names C.tag) (ac.ta.ext aN) (ax.ta.ext aN) (w := bW) (F := all)) ?_
 cases cr : (C.ids == (ids ix.names C.tag))
 ·refine .r [13, 14, 15, 16, 17, 18, 19, 20, 21, 22, 23, 24, 25, 26, 27] <| .d fun cW aO => ?_
  replace ⟨h2, J, V, E, O⟩ := (se [am, ae] aO).g5 h2 J V E O
  clear aO
  exact .r 4 <| .d <| .ct <| .s <| .g <| .r 1 <| .d <| .rt Tryz.func65 Tryz.results65 (.bool false) ⟨(congrArg Value.bool (by (have p9 := p0.ix (by assumption); (exfalso; have q1 := posts_mem (p9.posts ▸ (by assumption : C ∈ ix.posts)); exact absurd (by rw [← q1.1]; simp : (C.ids == ids ix.names C.tag) = true) (by rw [(by assumption : (C.ids == ids ix.names C.tag) = false)]; simp))))), E⟩
 refine .r [13, 14, 15, 16] <| GA.boolP (i := 17) ((W : Int) > 0) (by kernel_rfl) (fun bv => ?_) (fun bv => ?_)
 ·refine .r [18, 19] <| .lb 20 J id <| .r [21] <| GA.int (i := 22) ((W : Int) - 1) (by kernel_rfl) (by have q0 := p0.g.len; omega) ?_
  have aP : W - 1 < ix.posts.length := (by omega)
  refine GA.idx (i := 23) (W - 1) (len := ix.posts.length) (z := (W : Int) - 1) (sz := 3) (by kernel_rfl) (by omega) aP (h2.addr (Nat.zero_lt_of_lt aP)) <| .r [24] ?_
  obtain ⟨aQ, aw⟩ : ∃ y, ix.posts[W - 1]? = some y := ⟨_, List.getElem?_eq_getElem (by omega)⟩
  have cu := drop_at aw; have bX := List.mem_of_getElem? aw
  obtain ⟨_, ⟨cX, cY, cZ, rfl, bd⟩, bw⟩ := h2.elem (W - 1) aQ aw
  have bz := bd.len
  subst bz
  have cv := bd.max
  refine .lg 25 0 bw id <| .r [26] <| .ln 27 V id <| .d fun bY aR => ?_
  replace ⟨V, E, O⟩ := (se [] aR).g3 V E O
  clear aR
  refine .cl (c_spec_l11Less aQ.tag C.tag (w := bY) (F := all)) ?_
  rintro c7 c8 ⟨rfl, aS⟩
  replace ⟨V, E, O⟩ := (se [] aS).g3 V E O
  clear aS
  cases cw : (tagLt aQ.tag C.tag)
  ·exact .r 3 <| .d <| .ct <| .s <| .g <| .r 1 <| .d <| .rt Tryz.func65 Tryz.results65 (.bool false) ⟨(congrArg Value.bool (by (have p9 := p0.ix (by assumption); (exfalso; have q1 := posts_mem (p9.posts ▸ (by assumption : C ∈ ix.posts)); exact absurd (posts_prev (names := ix.names) (i := W) (by rw [← p9.posts]; assumption) (by rw [← p9.posts]; assumption) (by omega)) (by simp [*]))))), E⟩
  exact .r 3 <| .d <| .cf <| .sk <| .g <| .r 2 <| .lb V <| .r 1 <| RG.int (k - (C.ids.length : Int)) (by kernel_rfl) (by have q0 := p0.g.len; (have p9 := p0.ix (by assumption); have q1 := posts_mem (p9.posts ▸ (by assumption : C ∈ ix.posts)); have q2 := ids_len ix.names C.tag; rw [← q1.1] at q2; have q3 := posts_len ix.names; rw [← p9.posts] at q3; omega)) <| .r 1 <| .d <| .ib 5 <| .g <| .r 1 <| RG.int ((W : Int) + 1) (by kernel_rfl) (by have q0 := p0.g.len; omega) <| .r 1 <| .d <| al (k - (C.ids.length : Int), W + 1) _ _ ⟨by kernel_rfl, by kernel_rfl, by kernel_rfl, trivial⟩ ⟨O, (by omega), (by assumption), (by rw [lenStep (f := fun p => p.ids.length) (l := ix.posts) (i := W) (x := C) (by assumption)]; omega), (by omega), (by have p9 := p0.ix (by assumption); have q1 := posts_mem (p9.posts ▸ (by assumption : C ∈ ix.posts)); have q2 := ids_len ix.names C.tag; rw [← q1.1] at q2; have q3 := p9.nm.len; omega)⟩ (by (simp only []; omega))
 refine .r [18, 19, 20, 21, 22, 23, 24, 25, 26, 27] <| .d fun c9 aT => ?_
 replace ⟨V, E, O⟩ := (se [] aT).g3 V E O
 clear aT
 exact .r 4 <| .d <| .cf <| .sk <| .g <| .r 2 <| .lb V <| .r 1 <| RG.int (k - (C.ids.length : Int)) (by kernel_rfl) (by have q0 := p0.g.len; omega) <| .r 1 <| .d <| .ib 5 <| .g <| .r 1 <| RG.int ((W : Int) + 1) (by kernel_rfl) (by have q0 := p0.g.len; omega) <| .r 1 <| .d <| al (k - (C.ids.length : Int), W + 1) _ _ ⟨by kernel_rfl, by kernel_rfl, by kernel_rfl, trivial⟩ ⟨O, (by omega), (by assumption), (by rw [lenStep (f := fun p => p.ids.length) (l := ix.posts) (i := W) (x := C) (by assumption)]; omega), (by omega), (by have p9 := p0.ix (by assumption); have q1 := posts_mem (p9.posts ▸ (by assumption : C ∈ ix.posts)); have q2 := ids_len ix.names C.tag; rw [← q1.1] at q2; have q3 := p9.nm.len; omega)⟩ (by (simp only []; omega))
theorem c_impl_IndexOkG (ix : Idx) {w : World} {F : Nat → Prop} {a1 : Option Addr} {n1 c1 : Nat} (h1 : RepS w F a1 n1 c1 ix.names) {a2 : Option Addr} {n2 c2 : Nat} (h2 : RepS w F a2 n2 c2 ix.posts) (p0 : IxG ix) : Calls Tryz.prog 71 [.agg #[.slice a1 n1 c1, .slice a2 n2 c2]].toArray w (rets fun rv w' => rv = .bool (nmB ix.names) ∧ Ext w w') := by
 refine goT Tryz.func71 ?_
 obtain ⟨rfl, av, h1⟩ := h1.tp
 obtain ⟨rfl, aw, h2⟩ := h2.tp
 refine .s <| .g <| .np 26 [.slice a1 ix.names.length c1, .slice a2 ix.posts.length c2] fun O aA ae V E al => ?_
 replace ⟨h1, h2⟩ := (sn [] V ae).g2 h1 h2
 have C := V
 clear V al ae
 refine .r 1 <| .d <| .s <| .gd nil 10 fun aB af => ?_
 replace ⟨h1, h2, E, C⟩ := (se [O] af).g4 h1 h2 E C
 clear af
 refine .r [0] <| .lb 1 E id <| GA.call1 (i := 2) (by kernel_rfl) (fun ar am => c_impl_namesOkG ix.names (h1.ta.ext am) p0.g (w := ar) (F := all)) ?_
 cases ax : (nmB ix.names)
 ·refine .r [3, 4, 5, 6, 7, 8, 9] <| .d fun aC ag => ?_
  replace ⟨h1, h2, E, C⟩ := (se [O] ag).g4 h1 h2 E C
  clear ag
  exact .r 3 <| .d <| .rt Tryz.func71 Tryz.results71 (.bool false) ⟨(congrArg Value.bool (by rfl)), C⟩
 refine .r [3, 4] <| .lb 5 E id <| .r [6] <| .lb 7 E id <| .go 8 <| .cl (fun ak W => c_impl_indexOf ix.names (h1.ta.ext W) (nmB_iff.1 (by assumption)) p0.g.nd (w := ak) (F := all)) ?_
 intro ak W
 replace ⟨h2, E, C⟩ := (se [O] W).g3 h2 E C
 rintro aD aE ⟨⟨_, rfl, ⟨aF, aG, aH, aI, aJ, aK, rfl, ac, J⟩⟩, aa⟩
 have ab := al1 E.lt
 have ah : Gb w.heap.size ak.heap.size := C.size
 have hkeep_ := aa
 replace ⟨h2, C⟩ := (se [O] aa).g2 h2 C
 clear aa
 refine ⟨Ext.chg hkeep_, ?_⟩
 have ac := ac.fr ab ah
 have ay := ac.max
 have J := J.fr ab ah
 have az := J.max
 clear ab
 have ao := ac.len
 subst ao
 have aq := J.len
 subst aq
 refine .r [9] <| .d fun au ai => ?_
 replace ⟨h2, J, C⟩ := (se [O] ai).g3 h2 J C
 clear ai
 refine .cl (c_EqualFunc_posts ix.posts ((idxOf ix.names).posts) h2.ta J.ta (w := au) (F := all)) ?_
 rintro aL aM ⟨rfl, aj⟩
 replace C := (se [] aj).g1 C
 clear aj
 exact .r 2 <| .d <| .rt Tryz.func71 Tryz.results71 (.bool (ix.posts == ((idxOf ix.names).posts))) ⟨(congrArg Value.bool (by (have p9 := p0.ix (nmB_iff.1 (by assumption)); rw [p9.posts]; simp [idxOf]; done))), C⟩
theorem c_spec_StoreOkG (s : Sto) {w : World} {F : Nat → Prop} {a1 : Option Addr} {n1 c1 : Nat} (h1 : RepS w F a1 n1 c1 s.idx.names) {a2 : Option Addr} {n2 c2 : Nat} (h2 : RepS w F a2 n2 c2 s.idx.posts) {a3 : Option Addr} {n3 c3 : Nat} (h3 : RepS w F a3 n3 c3 s.parts) {a4 : Option Addr} {n4 c4 : Nat} (h4 : RepS w F a4 n4 c4 s.mem) (p0 : SG s) : Calls Tryz.prog 19 [.agg #[.slice a1 n1 c1, .slice a2 n2 c2, .slice a3 n3 c3, .slice a4 n4 c4]].toArray w (rets fun rv w' => rv = .bool (nmB s.idx.names && storeOk s) ∧ Ext w w') := by
 refine goT Tryz.func19 ?_
 obtain ⟨rfl, bi, h1⟩ := h1.tp
 obtain ⟨rfl, bj, h2⟩ := h2.tp
 obtain ⟨rfl, bk, h3⟩ := h3.tp
 obtain ⟨rfl, bm, h4⟩ := h4.tp
 refine .s <| .g <| .np 30 [.slice a1 s.idx.names.length c1, .slice a2 s.idx.posts.length c2, .slice a3 s.parts.length c3, .slice a4 s.mem.length c4] fun J aX ar ag C aH => ?_
 replace ⟨h1, h2, h3, h4⟩ := (sn [] ag ar).g4 h1 h2 h3 h4
 have E := ag
 clear ag aH ar
 refine .r 1 <| .d <| .s <| .g <| .r 2 <| .lb C <| .r 2 <| .d <| .s <| .s <| .g <| .r 1 <| .ln C <| .cl (c_spec_IndexOkG s.idx h1.ta h2.ta p0.ix (w := aX) (F := all)) ?_
 rintro bN aI ⟨rfl, au⟩
 replace ⟨h1, h2, h3, h4, C, E⟩ := (se [J] au).g6 h1 h2 h3 h4 C E
 clear au
 cases bn : (nmB s.idx.names)
 ·exact .r 13 <| .d <| .ct <| .s <| .g <| .r 1 <| .d <| .rt Tryz.func19 Tryz.results19 (.bool false) ⟨(congrArg Value.bool (by rfl)), E⟩
 refine .r 3 <| .lb C <| .r 1 <| .bp ((s.parts.length : Int) > 6) (fun aJ => .r 7 <| .d <| .ct <| .s <| .g <| .r 1 <| .d <| .rt Tryz.func19 Tryz.results19 (.bool false) ⟨(congrArg Value.bool (by (rw [Bool.true_and]; symm; exact storeOk_1 (by omega)))), E⟩) fun aJ => .r 3 <| .lb C <| .r 1 <| .bp ((s.mem.length : Int) > 20) (fun aK => .r 1 <| .d <| .ct <| .s <| .g <| .r 1 <| .d <| .rt Tryz.func19 Tryz.results19 (.bool false) ⟨(congrArg Value.bool (by (rw [Bool.true_and]; symm; exact storeOk_1 (by omega)))), E⟩) fun aK => .r 1 <| .d <| .cf <| .sk <| .s <| .s <| .g <| .r 1 <| .d <| .b 0 <| T.loop (X := Nat) 0 (fun k => [(1, .pointer (some ⟨J, 0, none⟩)), (3, vI (s.idx.names.length : Int)), (4, vI (k : Int))]) (fun k ab => Chg (ins []) aI ab ∧ (k ≤ s.parts.length) ∧ ((s.parts.drop k).all (fun p => partIn p s.idx.names.length) = s.parts.all (fun p => partIn p s.idx.names.length)) ∧ (nmB s.idx.names = true)) (fun k => s.parts.length - k) (by kernel_rfl) ⟨by kernel_rfl, by kernel_rfl, by kernel_rfl, trivial⟩ ⟨Chg.refl _ _, (by simp), (by rfl), (by assumption)⟩ ?_
 rintro k bO ab ⟨W, bo, bq, br⟩ ah
 have av : Mv [J] [J] aI ab := Mv.inl W all_nil (all_cons (.inl (.head _)) all_nil)
 replace ⟨h1, h2, h3, h4, C, E⟩ := (sp av W).g6 h1 h2 h3 h4 C E
 clear av
 refine .s <| .s <| .g <| .r 2 <| .lb C <| .r 1 <| .bp ((k : Int) < (s.parts.length : Int)) (fun aL => ?_) (fun aL => ?_)
 ·refine .d <| .ct <| .sk <| .s <| .b 1 <| .s <| .g <| .r 1 <| .lb C <| .r 1 ?_
  have aM : k < s.parts.length := (by omega)
  refine .ix k 2 h3 aM ?_
  obtain ⟨aB, ai⟩ : ∃ y, s.parts[k]? = some y := ⟨_, List.getElem?_eq_getElem (by omega)⟩
  have bt := drop_at ai; have aV := List.mem_of_getElem? ai
  obtain ⟨_, ⟨bP, bQ, bR, bS, bT, bU, rfl, aC, aD⟩, aN⟩ := h3.elem k aB ai
  have aO := aC.len
  subst aO
  have bu := aC.max
  have aP := aD.len
  subst aP
  have bv := aD.max
  refine .lg 0 aN <| .r 1 <| .cl (c_spec_l13Part aB (s.idx.names.length : Int) aC.ta aD.ta (w := ab) (F := all)) ?_
  rintro bV bW ⟨rfl, aw⟩
  replace ⟨h1, h2, h3, h4, C, E, W⟩ := (se [J] aw).g7 h1 h2 h3 h4 C E W
  clear aw
  cases bw : (partIn aB (s.idx.names.length : Int))
  ·exact .r 1 <| .d <| .ct <| .s <| .g <| .r 1 <| .d <| .rt Tryz.func19 Tryz.results19 (.bool false) ⟨(congrArg Value.bool (by (rw [Bool.true_and]; symm; exact storeOk_2 (allNo (by assumption) (by assumption) (by assumption))))), E⟩
  exact .r 1 <| .d <| .cf <| .sk <| .ib 1 <| .g <| .r 1 <| RG.int ((k : Int) + 1) (by kernel_rfl) (by have := p0.ix.g.len; omega) <| .r 1 <| .d <| ah (k + 1) _ _ ⟨by kernel_rfl, by kernel_rfl, by kernel_rfl, trivial⟩ ⟨W, (by omega), (by exact allStep (by assumption) (by assumption) (by assumption)), (by assumption)⟩ (by omega)
 refine .d <| .cf <| .x 0 rfl <| .s <| .s <| .g <| .r 1 <| .d <| .b 2 <| T.loop (X := Nat) 0 (fun k => [(1, .pointer (some ⟨J, 0, none⟩)), (3, vI (s.idx.names.length : Int)), (5, vI (k : Int))]) (fun k ac => Chg (ins []) ab ac ∧ (k ≤ s.mem.length) ∧ (s.parts.all (fun p => partIn p s.idx.names.length) = true) ∧ ((s.mem.drop k).all (memOk s.idx.names.length) = s.mem.all (memOk s.idx.names.length)) ∧ (nmB s.idx.names = true)) (fun k => s.mem.length - k) (by kernel_rfl) ⟨by kernel_rfl, by kernel_rfl, by kernel_rfl, trivial⟩ ⟨Chg.refl _ _, (by simp), (by exact allEnd (by assumption) (by omega)), (by simp), (by assumption)⟩ ?_
 rintro k bX ac ⟨O, bz, bA, bB, bC⟩ aj
 have ax : Mv [J] [J] ab ac := Mv.inl O all_nil (all_cons (.inl (.head _)) all_nil)
 replace ⟨h1, h2, h3, h4, C, E⟩ := (sp ax O).g6 h1 h2 h3 h4 C E
 clear ax
 refine .s <| .s <| .g <| .r 2 <| .lb C <| .r 1 <| .bp ((k : Int) < (s.mem.length : Int)) (fun aQ => ?_) (fun aQ => ?_)
 ·refine .d <| .ct <| .sk <| .s <| .b 3 <| .s <| .g <| .r 1 <| .lb C <| .r 1 ?_
  have aR : k < s.mem.length := (by omega)
  refine .ix k 3 h4 aR <| .r 1 ?_
  obtain ⟨ae, aa⟩ : ∃ y, s.mem[k]? = some y := ⟨_, List.getElem?_eq_getElem (by omega)⟩
  have bD := drop_at aa; have aW := List.mem_of_getElem? aa
  obtain ⟨_, rfl, aS⟩ := h4.elem k ae aa
  refine .lh 0 aS <| .r 1 <| .cl (c_spec_l6In ae.id 1 (s.idx.names.length : Int) (w := ac) (F := all)) ?_
  rintro bY aY ⟨rfl, ay⟩
  replace ⟨h1, h2, h3, h4, C, E, O⟩ := (se [J] ay).g7 h1 h2 h3 h4 C E O
  clear ay
  cases az : (inR ae.id 1 (s.idx.names.length : Int))
  ·have bE := inR_f az
   exact .r 11 <| .d <| .ct <| .s <| .g <| .r 1 <| .d <| .rt Tryz.func19 Tryz.results19 (.bool false) ⟨(congrArg Value.bool (by (rw [Bool.true_and]; symm; exact storeOk_3 (allNo (by assumption) (by assumption) (by simp [memOk, *]))))), E⟩
  have bF := inR_t az
  refine .r 3 <| .lb C <| .r 1 ?_
  have aT : k < s.mem.length := (by omega)
  refine .ix k 3 h4 aT <| .r 1 ?_
  obtain ⟨_, rfl, aU⟩ := h4.elem k ae aa
  refine .lg 1 aU <| .cl (c_spec_l2Row ae.row (w := aY) (F := all)) ?_
  rintro bZ b0 ⟨rfl, aA⟩
  replace ⟨h1, h2, h3, h4, C, E, O⟩ := (se [J] aA).g7 h1 h2 h3 h4 C E O
  clear aA
  cases bG : (rowOk ae.row)
  ·exact .r 2 <| .d <| .ct <| .s <| .g <| .r 1 <| .d <| .rt Tryz.func19 Tryz.results19 (.bool false) ⟨(congrArg Value.bool (by (rw [Bool.true_and]; symm; exact storeOk_3 (allNo (by assumption) (by assumption) (by simp [memOk, *]))))), E⟩
  exact .r 2 <| .d <| .cf <| .sk <| .ib 3 <| .g <| .r 1 <| RG.int ((k : Int) + 1) (by kernel_rfl) (by have := p0.ix.g.len; omega) <| .r 1 <| .d <| aj (k + 1) _ _ ⟨by kernel_rfl, by kernel_rfl, by kernel_rfl, trivial⟩ ⟨O, (by omega), (by assumption), (by exact allStep (by assumption) (by assumption) (by simp only [memOk, *]; rfl)), (by assumption)⟩ (by omega)
 refine .d <| .cf <| .x 2 rfl <| .s <| .s <| .g <| .r 1 <| .d <| .b 4 <| T.loop (X := Nat) 1 (fun k => [(1, .pointer (some ⟨J, 0, none⟩)), (3, vI (s.idx.names.length : Int)), (6, vI (k : Int))]) (fun k ak => Chg (ins []) ac ak ∧ (1 ≤ k) ∧ (k ≤ s.idx.names.length + 1) ∧ (s.parts.all (fun p => partIn p s.idx.names.length) = true) ∧ (s.mem.all (memOk s.idx.names.length) = true) ∧ (((List.range s.idx.names.length).drop (k - 1)).all (cntOk s) = (List.range s.idx.names.length).all (cntOk s)) ∧ (nmB s.idx.names = true)) (fun k => s.idx.names.length + 1 - k) (by kernel_rfl) ⟨by kernel_rfl, by kernel_rfl, by kernel_rfl, trivial⟩ ⟨Chg.refl _ _, (by omega), (by omega), (by assumption), (by exact allEnd (by assumption) (by omega)), (by rfl), (by assumption)⟩ ?_
 rintro k bH ak ⟨V, bI, aZ, ba, bc, bd, bg⟩ af
 have al : Mv [J] [J] ac ak := Mv.inl V all_nil (all_cons (.inl (.head _)) all_nil)
 replace ⟨h1, h2, h3, h4, C, E⟩ := (sp al V).g6 h1 h2 h3 h4 C E
 clear al
 refine .s <| .s <| .g <| .r 2 <| .bp ((k : Int) ≤ (s.idx.names.length : Int)) (fun aE => ?_) (fun aE => .d <| .cf <| .x 4 rfl <| .s <| .g <| .r 1 <| .d <| .rt Tryz.func19 Tryz.results19 (.bool true) ⟨(congrArg Value.bool (by rw [Bool.true_and]; symm; exact storeOk_5 (by omega) (by omega) (by assumption) (by assumption) (cntEnd (by assumption) (by omega)))), E⟩)
 refine .d <| .ct <| .sk <| .s <| .b 5 <| .s <| .g <| .ln C <| .r 1 <| .cl (c_spec_l13Rows s (k : Int) h1.ta h2.ta h3.ta h4.ta (by have := p0.np; omega) (fun p hp => (p0.part p hp).sz) (by have := p0.nm2; omega) (w := ak) (F := all)) ?_
 rintro bJ bK ⟨⟨bL, bM, rfl, am⟩, ao⟩
 have aq := al1 C.lt
 have aF : Gb w.heap.size ak.heap.size := E.size
 replace ⟨E, V⟩ := (se [] ao).g2 E V
 clear ao
 have am := am.fr aq aF
 have bh := am.max
 clear aq
 exact .r 1 <| .bp ((((rowsOf s (k : Int)).length) : Int) > 24) (fun aG => .d <| .ct <| .s <| .g <| .r 1 <| .d <| .rt Tryz.func19 Tryz.results19 (.bool false) ⟨(congrArg Value.bool (by (rw [Bool.true_and]; symm; exact storeOk_4 (cntNo (by assumption) (by omega) (by omega) (by omega))))), E⟩) fun aG => .d <| .cf <| .sk <| .ib 5 <| .g <| .r 1 <| RG.int ((k : Int) + 1) (by kernel_rfl) (by have := p0.ix.g.len; omega) <| .r 1 <| .d <| af (k + 1) _ _ ⟨by kernel_rfl, by kernel_rfl, by kernel_rfl, trivial⟩ ⟨V, (by omega), (by omega), (by assumption), (by assumption), (by exact cntStep (by assumption) (by omega) (by omega) (by omega)), (by assumption)⟩ (by omega)
theorem c_impl_StoreOkG (s : Sto) {w : World} {F : Nat → Prop} {a1 : Option Addr} {n1 c1 : Nat} (h1 : RepS w F a1 n1 c1 s.idx.names) {a2 : Option Addr} {n2 c2 : Nat} (h2 : RepS w F a2 n2 c2 s.idx.posts) {a3 : Option Addr} {n3 c3 : Nat} (h3 : RepS w F a3 n3 c3 s.parts) {a4 : Option Addr} {n4 c4 : Nat} (h4 : RepS w F a4 n4 c4 s.mem) (p0 : SG s) : Calls Tryz.prog 26 [.agg #[.slice a1 n1 c1, .slice a2 n2 c2, .slice a3 n3 c3, .slice a4 n4 c4]].toArray w (rets fun rv w' => rv = .bool (nmB s.idx.names && storeOk s) ∧ Ext w w') := by
 refine goT Tryz.func26 ?_
 obtain ⟨rfl, bX, h1⟩ := h1.tp
 obtain ⟨rfl, bY, h2⟩ := h2.tp
 obtain ⟨rfl, bZ, h3⟩ := h3.tp
 obtain ⟨rfl, b0, h4⟩ := h4.tp
 refine .s <| .g <| .np 30 [.slice a1 s.idx.names.length c1, .slice a2 s.idx.posts.length c2, .slice a3 s.parts.length c3, .slice a4 s.mem.length c4] fun J bC aH ao E ba => ?_
 replace ⟨h1, h2, h3, h4⟩ := (sn [] ao aH).g4 h1 h2 h3 h4
 have C := ao
 clear ao ba aH
 refine .r 1 <| .d <| .s <| .s <| .g <| .r 1 <| .ln E <| .cl (c_impl_IndexOkG s.idx h1.ta h2.ta p0.ix (w := bC) (F := all)) ?_
 rintro cC bc ⟨rfl, aI⟩
 replace ⟨h1, h2, h3, h4, E, C⟩ := (se [J] aI).g6 h1 h2 h3 h4 E C
 clear aI
 cases b6 : (nmB s.idx.names)
 ·exact .r 13 <| .d <| .ct <| .s <| .g <| .r 1 <| .d <| .rt Tryz.func26 Tryz.results26 (.bool false) ⟨(congrArg Value.bool (by rfl)), C⟩
 refine .r 3 <| .lb E <| .r 1 <| .bp ((s.parts.length : Int) > 6) (fun bd => .r 7 <| .d <| .ct <| .s <| .g <| .r 1 <| .d <| .rt Tryz.func26 Tryz.results26 (.bool false) ⟨(congrArg Value.bool (by (rw [Bool.true_and]; symm; exact storeOk_1 (by omega)))), C⟩) fun bd => .r 3 <| .lb E <| .r 1 <| .bp ((s.mem.length : Int) > 20) (fun bg => .r 1 <| .d <| .ct <| .s <| .g <| .r 1 <| .d <| .rt Tryz.func26 Tryz.results26 (.bool false) ⟨(congrArg Value.bool (by (rw [Bool.true_and]; symm; exact storeOk_1 (by omega)))), C⟩) fun bg => .r 1 <| .d <| .cf <| .sk <| .s <| .g <| .r 2 <| .lb E <| .r 2 <| .d <| .s <| .s <| .g <| .r 1 <| .lb E <| .r 2 <| .d <| .b 0 <| T.loop (X := Nat) 0 (fun k => [(1, .pointer (some ⟨J, 0, none⟩)), (3, vI (s.idx.names.length : Int)), (30, .slice a3 s.parts.length c3), (31, vI (s.parts.length : Int)), (32, vI (k : Int))]) (fun k aq => Chg (ins []) bc aq ∧ (k ≤ s.parts.length) ∧ ((s.parts.drop k).all (fun p => partIn p s.idx.names.length) = s.parts.all (fun p => partIn p s.idx.names.length)) ∧ (nmB s.idx.names = true)) (fun k => s.parts.length - k) (by kernel_rfl) ⟨by kernel_rfl, by kernel_rfl, by kernel_rfl, by kernel_rfl, by kernel_rfl, trivial⟩ ⟨Chg.refl _ _, (by simp), (by rfl), (by assumption)⟩ ?_
 rintro k cD aq ⟨O, b7, b8, b9⟩ ar
 have aJ : Mv [J] [J] bc aq := Mv.inl O all_nil (all_cons (.inl (.head _)) all_nil)
 replace ⟨h1, h2, h3, h4, E, C⟩ := (sp aJ O).g6 h1 h2 h3 h4 E C
 clear aJ
 refine .s <| .g <| .bp ((k : Int) < (s.parts.length : Int)) (fun bh => ?_) (fun bh => ?_)
 ·refine .d <| .s <| .ct <| .sk <| .s <| .b 1 <| .s <| .g ?_
  have bi : k < s.parts.length := (by omega)
  refine .ix k 2 h3 bi ?_
  obtain ⟨af, au⟩ : ∃ y, s.parts[k]? = some y := ⟨_, List.getElem?_eq_getElem (by omega)⟩
  have cd := drop_at au; have bB := List.mem_of_getElem? au
  obtain ⟨_, ⟨bD, cE, bE, bF, cF, bG, rfl, ac, aj⟩, bj⟩ := h3.elem k af au
  have bk := ac.len
  subst bk
  have ce := ac.max
  have bm := aj.len
  subst bm
  have cg := aj.max
  refine .lg 0 bj <| .np 75 [.slice none 0 0, .slice none 0 0] fun aG cG ag aK bn bo => ?_
  have ci := nb_new ag E.lt
  have cj := C.cn ag
  have ck := O.cn ag
  replace ⟨h1, h2, h3, h4, E, ac, aj, C, O⟩ := (sn [J] aK ag).g9 h1 h2 h3 h4 E ac aj C O
  clear aK bo ag
  refine .sc [.slice bD af.ids.length bE, .slice bF af.blocks.length bG] bn fun bH aL ah bq => ?_
  replace ⟨h1, h2, h3, h4, E, ac, aj, C, O⟩ := (so [aG, J] aL).g9 h1 h2 h3 h4 E ac aj C O
  clear aL bq
  refine .d <| .s <| .g <| .ln ah <| .cl (c_impl_PartOk af ac.ta aj.ta (w := bH) (F := all)) ?_
  rintro cH bI ⟨rfl, aM⟩
  replace ⟨h1, h2, h3, h4, E, ac, ah, C, O⟩ := (se [aG, J] aM).g9 h1 h2 h3 h4 E ac ah C O
  clear aM
  cases cm : (partOk af)
  ·exact .r 14 <| .d <| .ct <| .s <| .g <| .r 1 <| .d <| .rt Tryz.func26 Tryz.results26 (.bool false) ⟨(congrArg Value.bool (by (rw [Bool.true_and]; symm; exact storeOk_2 (allNo (by assumption) (by assumption) (by exact partIn_1 (by assumption)))))), C⟩
  refine .r 3 <| .lb ah <| .r 1 <| .eq (af.ids.length : Int) 0 (fun br => .r 8 <| .d <| .ct <| .s <| .g <| .r 1 <| .d <| .rt Tryz.func26 Tryz.results26 (.bool false) ⟨(congrArg Value.bool (by (rw [Bool.true_and]; symm; exact storeOk_2 (allNo (by assumption) (by assumption) (by exact partIn_2 (by assumption)))))), C⟩) fun br => .r 3 <| .lb ah <| .cl (c_slices_Max_int_int af.ids ac.ta (by omega) (w := bI) (F := all)) ?_
  rintro cI bt ⟨rfl, aN⟩
  replace ⟨h1, h2, h3, h4, E, C, O⟩ := (se [aG, J] aN).g7 h1 h2 h3 h4 E C O
  clear aN
  refine .r 1 <| .bp (maxOf af.ids > (s.idx.names.length : Int)) (fun bu => .r 1 <| .d <| .ct <| .s <| .g <| .r 1 <| .d <| .rt Tryz.func26 Tryz.results26 (.bool false) ⟨(congrArg Value.bool (by (rw [Bool.true_and]; symm; exact storeOk_2 (allNo (by assumption) (by assumption) (by exact partIn_3 (by assumption) (by assumption) (by assumption)))))), C⟩) fun bu => .r 1 <| .d <| .cf <| .sk <| .ib 1 <| .g <| RG.int ((k : Int) + 1) (by kernel_rfl) (by have := p0.ix.g.len; omega) <| .r 1 <| .d ?_
  have bv : Mv [aG, J] [J] bt bt := Mv.less (all_cons (.tail _ (.head _)) all_nil)
  replace ⟨h1, h2, h3, h4⟩ := (sp bv (Chg.refl nil _)).g4 h1 h2 h3 h4
  exact ar (k + 1) _ _ ⟨by kernel_rfl, by kernel_rfl, by kernel_rfl, by kernel_rfl, by kernel_rfl, trivial⟩ ⟨O, (by omega), (by exact allStep (by assumption) (by assumption) (partIn_4 (by assumption) (by assumption) (by assumption))), (by assumption)⟩ (by omega)
 refine .d <| .s <| .cf <| .x 0 rfl <| .s <| .s <| .g <| .r 1 <| .lb E <| .r 2 <| .d <| .b 2 <| T.loop (X := Nat) 0 (fun k => [(1, .pointer (some ⟨J, 0, none⟩)), (3, vI (s.idx.names.length : Int)), (54, .slice a4 s.mem.length c4), (55, vI (s.mem.length : Int)), (56, vI (k : Int))]) (fun k av => Chg (ins []) aq av ∧ (k ≤ s.mem.length) ∧ (s.parts.all (fun p => partIn p s.idx.names.length) = true) ∧ ((s.mem.drop k).all (memOk s.idx.names.length) = s.mem.all (memOk s.idx.names.length)) ∧ (nmB s.idx.names = true)) (fun k => s.mem.length - k) (by kernel_rfl) ⟨by kernel_rfl, by kernel_rfl, by kernel_rfl, by kernel_rfl, by kernel_rfl, trivial⟩ ⟨Chg.refl _ _, (by simp), (by exact allEnd (by assumption) (by omega)), (by simp), (by assumption)⟩ ?_
 rintro k cJ av ⟨V, co, cp, cq, cr⟩ aw
 have aO : Mv [J] [J] aq av := Mv.inl V all_nil (all_cons (.inl (.head _)) all_nil)
 replace ⟨h1, h2, h3, h4, E, C⟩ := (sp aO V).g6 h1 h2 h3 h4 E C
 clear aO
 refine .s <| .g <| .bp ((k : Int) < (s.mem.length : Int)) (fun aQ => ?_) (fun aQ => ?_)
 ·refine .d <| .s <| .ct <| .sk <| .s <| .b 3 <| .s <| .g ?_
  have aR : k < s.mem.length := (by omega)
  refine .ix k 3 h4 aR ?_
  obtain ⟨W, ak⟩ : ∃ y, s.mem[k]? = some y := ⟨_, List.getElem?_eq_getElem (by omega)⟩
  have bJ := drop_at ak; have bw := List.mem_of_getElem? ak
  obtain ⟨_, rfl, aS⟩ := h4.elem k W ak
  refine .lg 0 aS <| .np 51 [vI 0, vI 0, vI 0] fun al cu aa ax aT aU => ?_
  have bK := nb_new aa E.lt
  have bL := C.cn aa
  have bM := V.cn aa
  replace ⟨h1, h2, h3, h4, E, C, V⟩ := (sn [J] ax aa).g7 h1 h2 h3 h4 E C V
  clear ax aU aa
  refine .sc [vI W.id, vI W.row.t, vI W.row.v] aT fun bz ay ae aV => ?_
  replace ⟨h1, h2, h3, h4, E, C, V⟩ := (so [al, J] ay).g7 h1 h2 h3 h4 E C V
  clear ay aV
  refine .d <| .s <| .g <| .r 1 <| .lb ae <| .r 1 <| .cl (c_impl_within W.id 1 (s.idx.names.length : Int) (w := bz) (F := all)) ?_
  rintro cv bA ⟨rfl, az⟩
  replace ⟨h1, h2, h3, h4, E, ae, C, V⟩ := (se [al, J] az).g8 h1 h2 h3 h4 E ae C V
  clear az
  cases aA : (inR W.id 1 (s.idx.names.length : Int))
  ·have bN := inR_f aA
   exact .r 7 <| .d <| .ct <| .s <| .g <| .r 1 <| .d <| .rt Tryz.func26 Tryz.results26 (.bool false) ⟨(congrArg Value.bool (by (rw [Bool.true_and]; symm; exact storeOk_3 (allNo (by assumption) (by assumption) (by simp [memOk, *]))))), C⟩
  have bO := inR_t aA
  refine .r 3 <| .ln ae <| .cl (c_impl_rowOk W.row (w := bA) (F := all)) ?_
  rintro cw aP ⟨rfl, aB⟩
  replace ⟨h1, h2, h3, h4, E, C, V⟩ := (se [al, J] aB).g7 h1 h2 h3 h4 E C V
  clear aB
  cases bP : (rowOk W.row)
  ·exact .r 2 <| .d <| .ct <| .s <| .g <| .r 1 <| .d <| .rt Tryz.func26 Tryz.results26 (.bool false) ⟨(congrArg Value.bool (by (rw [Bool.true_and]; symm; exact storeOk_3 (allNo (by assumption) (by assumption) (by simp [memOk, *]))))), C⟩
  refine .r 2 <| .d <| .cf <| .sk <| .ib 3 <| .g <| RG.int ((k : Int) + 1) (by kernel_rfl) (by have := p0.ix.g.len; omega) <| .r 1 <| .d ?_
  have aW : Mv [al, J] [J] aP aP := Mv.less (all_cons (.tail _ (.head _)) all_nil)
  replace ⟨h1, h2, h3, h4⟩ := (sp aW (Chg.refl nil _)).g4 h1 h2 h3 h4
  exact aw (k + 1) _ _ ⟨by kernel_rfl, by kernel_rfl, by kernel_rfl, by kernel_rfl, by kernel_rfl, trivial⟩ ⟨V, (by omega), (by assumption), (by exact allStep (by assumption) (by assumption) (by simp only [memOk, *]; rfl)), (by assumption)⟩ (by omega)
 refine .d <| .s <| .cf <| .x 2 rfl <| .s <| .s <| .g <| .r 1 <| .d <| .b 4 <| T.loop (X := Nat) 1 (fun k => [(1, .pointer (some ⟨J, 0, none⟩)), (3, vI (s.idx.names.length : Int)), (8, vI (k : Int))]) (fun k ai => Chg (ins []) av ai ∧ (1 ≤ k) ∧ (k ≤ s.idx.names.length + 1) ∧ (s.parts.all (fun p => partIn p s.idx.names.length) = true) ∧ (s.mem.all (memOk s.idx.names.length) = true) ∧ (((List.range s.idx.names.length).drop (k - 1)).all (cntOk s) = (List.range s.idx.names.length).all (cntOk s)) ∧ (nmB s.idx.names = true)) (fun k => s.idx.names.length + 1 - k) (by kernel_rfl) ⟨by kernel_rfl, by kernel_rfl, by kernel_rfl, trivial⟩ ⟨Chg.refl _ _, (by omega), (by omega), (by assumption), (by exact allEnd (by assumption) (by omega)), (by rfl), (by assumption)⟩ ?_
 rintro k cx ai ⟨ab, bQ, bR, bS, bT, bU, bV⟩ am
 have aC : Mv [J] [J] av ai := Mv.inl ab all_nil (all_cons (.inl (.head _)) all_nil)
 replace ⟨h1, h2, h3, h4, E, C⟩ := (sp aC ab).g6 h1 h2 h3 h4 E C
 clear aC
 refine .s <| .s <| .g <| .r 2 <| .bp ((k : Int) ≤ (s.idx.names.length : Int)) (fun aX => ?_) (fun aX => .d <| .cf <| .x 4 rfl <| .s <| .g <| .r 1 <| .d <| .rt Tryz.func26 Tryz.results26 (.bool true) ⟨(congrArg Value.bool (by rw [Bool.true_and]; symm; exact storeOk_5 (by omega) (by omega) (by assumption) (by assumption) (cntEnd (by assumption) (by omega)))), C⟩)
 refine .d <| .ct <| .sk <| .s <| .b 5 <| .s <| .g <| .ln E <| .r 1 <| .cl (c_impl_Store_rows s (k : Int) h1.ta h2.ta h3.ta h4.ta (SG.pt p0 (by assumption)) (StoK.rw (by assumption)) (by have := p0.np; omega) (by have := p0.nm2; omega) (w := ai) (F := all)) ?_
 rintro cy cz ⟨⟨cA, cB, rfl, aD⟩, aE⟩
 have aF := al1 E.lt
 have aY : Gb w.heap.size ai.heap.size := C.size
 replace ⟨C, ab⟩ := (se [] aE).g2 C ab
 clear aE
 have aD := aD.fr aF aY
 have bW := aD.max
 clear aF
 exact .r 1 <| .bp ((((rowsOf s (k : Int)).length) : Int) > 24) (fun aZ => .d <| .ct <| .s <| .g <| .r 1 <| .d <| .rt Tryz.func26 Tryz.results26 (.bool false) ⟨(congrArg Value.bool (by (rw [Bool.true_and]; symm; exact storeOk_4 (cntNo (by assumption) (by omega) (by omega) (by omega))))), C⟩) fun aZ => .d <| .cf <| .sk <| .ib 5 <| .g <| .r 1 <| RG.int ((k : Int) + 1) (by kernel_rfl) (by have := p0.ix.g.len; omega) <| .r 1 <| .d <| am (k + 1) _ _ ⟨by kernel_rfl, by kernel_rfl, by kernel_rfl, trivial⟩ ⟨ab, (by omega), (by omega), (by assumption), (by assumption), (by exact cntStep (by assumption) (by omega) (by omega) (by omega)), (by assumption)⟩ (by omega)
end Go.Proofs.YtfnpaglcnmcnbaaGreat
namespace Go.Proofs.YtfnpaglcnmcnbaaGreat
theorem idxF_has (v : Int) : ∀ (l : List Int) (i : Nat), l.contains v = decide (idxF v i l ≥ 0) := by
 intro l
 induction l with
 | nil => intro i; simp [idxF]
 | cons x xs ih =>
   intro i
   have := ih (i + 1)
   have e : idxF v i (x :: xs) = if x == v then (i : Int) else idxF v (i + 1) xs := rfl
   rw [e, List.contains_cons, this]
   by_cases h : x = v
   ·subst h; simp
   ·have h1 : (x == v) = false := beq_eq_false_iff_ne.2 h
    have h2 : (v == x) = false := beq_eq_false_iff_ne.2 (fun e => h e.symm)
    rw [h1, h2]
    simp
def fileF (nx : Int) : Option Int → List Fil → Bool
 | _, [] => true
 | o, f :: fs => inR f.num 1 (nx - 1) && (match o with | some q => decide (q < f.num) | none => true) && partOk f.part && fileF nx (some f.num) fs
def lstOk (d : Dsk) : Bool := d.list.all (fun n => decide (0 ≤ numAt d n)) && decide d.list.Nodup
def diskOk (d : Dsk) : Bool := inR d.next 1 999 && decide (d.files.length ≤ 20) && decide (d.list.length ≤ 6) && fileF d.next none d.files && lstOk d && (nmB d.names && storeOk (openS d))
structure DD (d : Dsk) : Prop where
 g : NmG d.names
 nl : d.list.length ≤ 7
 nf : d.files.length ≤ 20
 file : ∀ f ∈ d.files, PrtI f.part
 next : 0 ≤ d.next ∧ d.next ≤ 999
theorem DD.part {d : Dsk} (h : DD d) (n : Int) : PrtI (partNo d n) := by
 unfold partNo
 rw [List.getD_eq_getElem?_getD]
 cases hx : d.files[(numAt d n).toNat]? with
 | none => exact PrtI.nil
 | some f => exact h.file f (List.mem_of_getElem? hx)
theorem DD.sg {d : Dsk} (h : DD d) : SG (openS d) := by
 refine ⟨⟨h.g, fun _ => rfl⟩, by simp [openS]; exact h.nl, fun p hp => ?_, by simp [openS], by simp [openS]⟩
 simp only [openS, List.mem_map] at hp
 obtain ⟨n, _, rfl⟩ := hp
 exact h.part n
def pnum (fs : List Fil) (k : Nat) : Option Int := prev (fs.map Fil.num) k
theorem fileStep {nx : Int} {fs : List Fil} {k : Nat} {f : Fil} {b : Bool} (h : fileF nx (pnum fs k) (fs.drop k) = b) (hd : fs.drop k = f :: fs.drop (k + 1)) (hf : fs[k]? = some f) (h1 : inR f.num 1 (nx - 1) = true) (h2 : k = 0 ∨ ∃ q, fs[k - 1]? = some q ∧ ¬ q.num ≥ f.num) (h3 : partOk f.part = true) : fileF nx (pnum fs (k + 1)) (fs.drop (k + 1)) = b := by
 rw [hd] at h
 unfold fileF at h
 have e : pnum fs (k + 1) = some f.num := by unfold pnum; rw [prev_succ, List.getElem?_map, hf]; rfl
 have e2 : (match pnum fs k with | some q => decide (q < f.num) | none => true) = true := by
  rcases h2 with rfl | ⟨q, hq, hlt⟩
  ·rfl
  ·by_cases hk : k = 0
   ·subst hk; rfl
   ·have : pnum fs k = some q.num := by unfold pnum; rw [prev_pos _ _ (by omega), List.getElem?_map, hq]; rfl
    rw [this]
    simp
    omega
 rw [h1, h3, e2] at h
 rw [e]
 simpa using h
theorem fileNo {nx : Int} {fs : List Fil} {k : Nat} {f : Fil} {b : Bool} (h : fileF nx (pnum fs k) (fs.drop k) = b) (hd : fs.drop k = f :: fs.drop (k + 1)) (h1 : inR f.num 1 (nx - 1) = false ∨ (0 < k ∧ ∃ q, fs[k - 1]? = some q ∧ q.num ≥ f.num) ∨ partOk f.part = false) : b = false := by
 rw [hd] at h
 unfold fileF at h
 rw [← h]
 rcases h1 with h1 | ⟨hk, q, hq, hge⟩ | h1
 ·rw [h1]; simp
 ·have : pnum fs k = some q.num := by unfold pnum; rw [prev_pos _ _ (by omega), List.getElem?_map, hq]; rfl
  have e2 : decide (q.num < f.num) = false := decide_eq_false (by omega)
  rw [this]
  simp only [e2]
  simp
 ·rw [h1]; simp
theorem fileEnd {nx : Int} {fs : List Fil} {k : Nat} {b : Bool} (h : fileF nx (pnum fs k) (fs.drop k) = b) (hk : fs.length ≤ k) : b = true := by
 rw [drop_end hk] at h
 exact h.symm
def lsTo (d : Dsk) (k : Nat) : Prop := ∀ j n, j < k → d.list[j]? = some n → 0 ≤ numAt d n ∧ n ∉ d.list.take j
theorem lsTo_0 (d : Dsk) : lsTo d 0 := fun j _ h => absurd h (by omega)
def fresh (d : Dsk) (n : Int) (k : Nat) : Prop := n ∉ d.list.take k
theorem fresh_0 (d : Dsk) (n : Int) : fresh d n 0 := by unfold fresh; simp
theorem fresh_step {d : Dsk} {n m : Int} {k : Nat} (h : fresh d n k) (hm : d.list[k]? = some m) (h2 : m ≠ n) : fresh d n (k + 1) := by
 unfold fresh at h ⊢
 rw [List.take_add_one, hm]
 simp only [Option.toList_some, List.mem_append, List.mem_cons, List.not_mem_nil, or_false, not_or]
 exact ⟨h, fun e => h2 e.symm⟩
theorem fresh_of {d : Dsk} {n : Int} {k : Nat} (h : ((d.list.take k).drop 0).contains n = false) : fresh d n k := by
 unfold fresh
 rw [List.drop_zero] at h
 intro hm
 rw [List.contains_iff_mem.2 hm] at h
 cases h
theorem lsTo_step {d : Dsk} {k j : Nat} {n : Int} (h : lsTo d k) (hn : d.list[k]? = some n) (h1 : ¬ numAt d n < 0) (h2 : fresh d n j) (hj : k ≤ j) : lsTo d (k + 1) := fun i m hi hm => by
 by_cases e : i = k
 ·subst e
  rw [hn] at hm
  cases hm
  refine ⟨by omega, fun hmem => h2 ?_⟩
  obtain ⟨a, ha⟩ := List.mem_iff_getElem?.1 hmem
  rw [List.getElem?_take] at ha
  split at ha
  ·exact List.mem_iff_getElem?.2 ⟨a, by rw [List.getElem?_take, if_pos (by omega)]; exact ha⟩
  ·cases ha
 ·exact h i m (by omega) hm
theorem lsTo_end {d : Dsk} {k : Nat} (h : lsTo d k) (hk : d.list.length ≤ k) : lstOk d = true := by
 unfold lstOk
 rw [Bool.and_eq_true, List.all_eq_true, decide_eq_true_eq]
 refine ⟨fun n hn => ?_, ?_⟩
 ·obtain ⟨j, hj⟩ := List.mem_iff_getElem?.1 hn
  have := (h j n (by have := (List.getElem?_eq_some_iff.1 hj).1; omega) hj).1
  simpa using this
 ·unfold List.Nodup
  rw [List.pairwise_iff_getElem]
  intro i j hi hj hij e
  refine (h j d.list[j] (by omega) (List.getElem?_eq_getElem hj)).2 ?_
  rw [← e]
  exact List.mem_iff_getElem?.2 ⟨i, by rw [List.getElem?_take, if_pos hij]; exact List.getElem?_eq_getElem hi⟩
theorem lstNo1 {d : Dsk} {k : Nat} {n : Int} (hn : d.list[k]? = some n) (h : numAt d n < 0) : lstOk d = false := by
 cases hb : lstOk d with
 | false => rfl
 | true =>
   unfold lstOk at hb
   rw [Bool.and_eq_true, List.all_eq_true] at hb
   have := hb.1 n (List.mem_of_getElem? hn)
   simp at this
   omega
theorem lstNo2 {d : Dsk} {k : Nat} {n : Int} (hn : d.list[k]? = some n) (h : n ∈ d.list.take k) : lstOk d = false := by
 cases hb : lstOk d with
 | false => rfl
 | true =>
   unfold lstOk at hb
   rw [Bool.and_eq_true, decide_eq_true_eq] at hb
   obtain ⟨i, hi⟩ := List.mem_iff_getElem?.1 h
   rw [List.getElem?_take] at hi
   split at hi
   ·rename_i hik
    have hd := hb.2
    unfold List.Nodup at hd
    rw [List.pairwise_iff_getElem] at hd
    obtain ⟨a1, a2⟩ := List.getElem?_eq_some_iff.1 hi
    obtain ⟨b1, b2⟩ := List.getElem?_eq_some_iff.1 hn
    exact absurd (a2.trans b2.symm) (hd i k a1 b1 hik)
   ·cases hi
theorem lstOk_at {d : Dsk} (h : lstOk d = true) : ∀ n ∈ d.list, 0 ≤ numAt d n := fun n hn => by
 unfold lstOk at h
 rw [Bool.and_eq_true, List.all_eq_true] at h
 have := h.1 n hn
 simpa using this
theorem lstNo3 {d : Dsk} {k j : Nat} {n m : Int} (hn : d.list[k]? = some n) (hm : d.list[j]? = some m) (hj : j < k) (e : m = n) : lstOk d = false := by
 subst e
 exact lstNo2 hn (List.mem_iff_getElem?.2 ⟨j, by rw [List.getElem?_take, if_pos hj]; exact hm⟩)
theorem lstNo4 {d : Dsk} {k : Nat} {n : Int} (hn : d.list[k]? = some n) (h : ((d.list.take k).drop 0).contains n = true) : lstOk d = false := by
 rw [List.drop_zero] at h
 exact lstNo2 hn (List.contains_iff_mem.1 h)
section
variable {d : Dsk}
theorem dk_1 (h : inR d.next 1 999 = false ∨ (d.files.length : Int) > 20 ∨ (d.list.length : Int) > 6 ∨ (d.names.length : Int) > 6) : diskOk d = false := by
 unfold diskOk
 rcases h with h | h | h | h
 ·rw [h]; simp
 ·rw [decide_eq_false (p := d.files.length ≤ 20) (by omega)]; simp
 ·rw [decide_eq_false (p := d.list.length ≤ 6) (by omega)]; simp
 ·rw [← okS_no1 h]; simp
theorem dk_2 (h : fileF d.next none d.files = false) : diskOk d = false := by unfold diskOk; rw [h]; simp
theorem dk_3 (h : lstOk d = false) : diskOk d = false := by unfold diskOk; rw [h]; simp
theorem dk_4 (h1 : inR d.next 1 999 = true) (h2 : ¬ (d.files.length : Int) > 20) (h3 : ¬ (d.list.length : Int) > 6) (h5 : fileF d.next none d.files = true) (h6 : lstOk d = true) : diskOk d = (nmB d.names && storeOk (openS d)) := by
 unfold diskOk
 rw [h1, h5, h6, decide_eq_true (by omega), decide_eq_true (by omega)]
 simp
theorem dk_5 {y : Sto} (h1 : inR d.next 1 999 = true) (h2 : ¬ (d.files.length : Int) > 20) (h3 : ¬ (d.list.length : Int) > 6) (h5 : fileF d.next none d.files = true) (h6 : lstOk d = true) (hd : NsD d.names) (hy : y.idx.names = d.names ∧ (NmI d.names → NsD d.names → y = openS d)) : (nmB y.idx.names && storeOk y) = diskOk d := by
 rw [dk_4 h1 h2 h3 h5 h6, hy.1]
 cases hb : nmB d.names with
 | false => rfl
 | true => rw [hy.2 (nmB_iff.1 hb) hd]
theorem diskOk_nm (h : diskOk d = true) : NmI d.names ∧ storeOk (openS d) = true ∧ lstOk d = true := by
 unfold diskOk at h
 simp only [Bool.and_eq_true] at h
 exact ⟨nmB_iff.1 h.2.1, h.2.2, h.1.2⟩
theorem DD.sd (h : DD d) (hk : diskOk d = true) : SD (openS d) := by
 obtain ⟨h1, h2, _⟩ := diskOk_nm hk
 have h3 := parts6 h2
 exact h.sg.sd (nmB_iff.2 h1) h3
def dopenS (d : Dsk) : Sto := if diskOk d then openS d else ⟨⟨[], []⟩, [], []⟩
theorem dopen_1 (h : diskOk d = false) : dopenS d = ⟨⟨[], []⟩, [], []⟩ := by unfold dopenS; rw [if_neg (by simp [h])]
theorem dopen_2 (h : diskOk d = true) : dopenS d = openS d := by unfold dopenS; rw [if_pos h]
end
theorem open_step {d : Dsk} {l : List Int} {i : Nat} {n : Int} {k Y : List Prt} {f : Fil} (h : k ++ (l.drop i).map (partNo d) = Y) (hd : l.drop i = n :: l.drop (i + 1)) (hf : d.files[(numAt d n).toNat]? = some f) : (k ++ [f.part]) ++ (l.drop (i + 1)).map (partNo d) = Y := by
 rw [hd, List.map_cons] at h
 rw [← h]
 have : partNo d n = f.part := by unfold partNo; rw [List.getD_eq_getElem?_getD, hf]; rfl
 rw [this]
 simp
theorem open_end {d : Dsk} {l : List Int} {i : Nat} {k Y : List Prt} (h : k ++ (l.drop i).map (partNo d) = Y) (hi : l.length ≤ i) : k = Y := by
 rw [drop_end hi] at h
 simpa using h
theorem numAt_i {d : Dsk} {n : Int} (h : 0 ≤ numAt d n) : (numAt d n).toNat < d.files.length ∧ numAt d n = ((numAt d n).toNat : Int) := by
 have := (numF_lt n d.files 0).1
 unfold numAt at h ⊢
 omega
def OpenY (d : Dsk) (y : Sto) : Prop := y.idx.names = d.names ∧ y.parts = (openS d).parts ∧ y.mem = [] ∧ (NmI d.names → NsD d.names → y = openS d)
theorem OpenY.mk {d : Dsk} {a : List (List Tag)} {b : List Pst} {c : List Prt} {e : List Smp} (h1 : a = d.names) (h2 : c = d.list.map (partNo d)) (h3 : e = []) (h4 : NmI d.names → NsD d.names → (⟨a, b⟩ : Idx) = idxOf d.names) : OpenY d ⟨⟨a, b⟩, c, e⟩ := by
 subst h2 h3
 refine ⟨h1, rfl, rfl, fun x y => ?_⟩
 unfold openS
 rw [h4 x y]
theorem OpenY.sg {d : Dsk} {y : Sto} (q : OpenY d y) (h : DD d) : SG y := by
 obtain ⟨q1, q2, q3, q4⟩ := q
 refine ⟨⟨by rw [q1]; exact h.g, fun hn => ?_⟩, by rw [q2]; exact h.sg.np, fun p hp => h.sg.part p (by rw [← q2]; exact hp), by rw [q3]; simp, by rw [q3]; simp⟩
 rw [q1] at hn ⊢
 have := q4 hn h.g.nd
 rw [this]
 rfl
theorem OpenY.eq {d : Dsk} {y : Sto} (q : OpenY d y) (h : DD d) (hk : diskOk d = true) : y = dopenS d := by rw [dopen_2 hk]; exact q.2.2.2 (diskOk_nm hk).1 h.g.nd
theorem OpenY.dk {d : Dsk} {y : Sto} (hy : OpenY d y) (h : DD d) (h1 : inR d.next 1 999 = true) (h2 : ¬ (d.files.length : Int) > 20) (h3 : ¬ (d.list.length : Int) > 6) (h5 : fileF d.next none d.files = true) (h6 : lstOk d = true) : (nmB y.idx.names && storeOk y) = diskOk d := dk_5 h1 h2 h3 h5 h6 h.g.nd ⟨hy.1, hy.2.2.2⟩
theorem dopen_c {d : Dsk} (h : DD d) (hk : diskOk d = true) : copyS (openS d) = dopenS d := by rw [dopen_2 hk, (h.sd hk).copy]
end Go.Proofs.YtfnpaglcnmcnbaaGreat
namespace Go.Proofs.YtfnpaglcnmcnbaaGreat
set_option maxRecDepth 100000
set_option maxHeartbeats 4000000
theorem c_impl_Disk_file_1 (f : Fil) (num : Int) {w : World} {F : Nat → Prop} {a1 : Option Addr} {n1 c1 : Nat} (h1 : RepS w F a1 n1 c1 f.part.ids) {a2 : Option Addr} {n2 c2 : Nat} (h2 : RepS w F a2 n2 c2 f.part.blocks) {bq_num : Nat} (hb_num : Box w bq_num 3 [.int .i64 num])  : Calls Tryz.prog 173 [.agg #[.int .i64 f.num, .slice a1 n1 c1, .slice a2 n2 c2], .pointer (some ⟨bq_num, 0, none⟩)].toArray w (rets fun rv w' => rv = .bool ((f.num == num)) ∧ Ext w w') := by
 refine goT Tryz.func173 ?_
 obtain ⟨rfl, W, h1⟩ := h1.tp
 obtain ⟨rfl, aa, h2⟩ := h2.tp
 refine .s <| .g <| .np 88 [vI f.num, .slice a1 f.part.ids.length c1, .slice a2 f.part.blocks.length c2] fun ab ac E C J O => ?_
 replace hb_num := (se [] C).g1 hb_num
 have V := C
 clear C O E
 exact .r 1 <| .d <| .s <| .g <| .r 1 <| .lb J <| .lb hb_num <| .r 2 <| .d <| .rt Tryz.func173 Tryz.results173 (.bool (f.num == num)) ⟨(congrArg Value.bool (by rfl)), V⟩
theorem c_IndexFunc_files (s : List Fil) (num : Int) {w : World} {F : Nat → Prop} {a1 : Option Addr} {n1 c1 : Nat} (h1 : RepS w F a1 n1 c1 s) {bq_num : Nat} (hb_num : Box w bq_num 3 [.int .i64 num])  : Calls Tryz.prog 172 [.slice a1 n1 c1, .func (.func 173) #[] #[.pointer (some ⟨bq_num, 0, none⟩)]].toArray w (rets fun rv w' => rv = .int .i64 (numF num 0 s) ∧ Ext w w') := by
 refine goT Tryz.func172 ?_
 obtain ⟨rfl, al, h1⟩ := h1.tp
 refine .s <| .g <| .r 1 <| .d <| .s <| .s <| .g <| .r 3 <| .d <| .b 0 <| T.loop (X := Nat) 0 (fun k => [(0, .slice a1 s.length c1), (1, .func (.func 173) #[] #[.pointer (some ⟨bq_num, 0, none⟩)]), (7, vI (s.length : Int)), (8, vI (k : Int))]) (fun k J => Chg (ins []) w J ∧ (k ≤ s.length) ∧ (numF num k (s.drop k) = numF num 0 s)) (fun k => s.length - k) (by kernel_rfl) ⟨by kernel_rfl, by kernel_rfl, by kernel_rfl, by kernel_rfl, trivial⟩ ⟨Chg.refl _ _, (by simp), (by simp)⟩ ?_
 rintro k aw J ⟨C, am, ao⟩ O
 have W : Mv [] [] w J := Mv.inl C all_nil all_nil
 replace ⟨h1, hb_num⟩ := (sp W C).g2 h1 hb_num
 have E : Chg nil w J := Chg.stepI (Chg.refl nil w) C all_nil
 clear W
 refine .s <| .g <| .bp ((k : Int) < (s.length : Int)) (fun af => ?_) (fun af => .d <| .s <| .cf <| .x 0 rfl <| .s <| .g <| .r 1 <| .d <| .rt Tryz.func172 Tryz.results172 (vI (-1)) ⟨(congrArg (Value.int .i64) (by grind [numF, drop_end])), E⟩)
 refine .d <| .s <| .ct <| .sk <| .s <| .b 1 <| .s <| .g <| .r 2 <| .d <| .s <| .g <| .r 3 ?_
 have ag : k < s.length := (by omega)
 refine .ix k 3 h1 ag ?_
 obtain ⟨ab, V⟩ : ∃ y, s[k]? = some y := ⟨_, List.getElem?_eq_getElem (by omega)⟩
 have aq := drop_at V; have ak := List.mem_of_getElem? V
 obtain ⟨_, ⟨ax, ay, az, aA, aB, aC, rfl, ac, ae⟩, ah⟩ := h1.elem k ab V
 have ai := ac.len
 subst ai
 have ar := ac.max
 have aj := ae.len
 subst aj
 have au := ae.max
 refine .lg 0 ah <| .cl (c_impl_Disk_file_1 ab num ac.ta ae.ta hb_num (w := J) (F := all)) ?_
 rintro aD aE ⟨rfl, aa⟩
 replace ⟨hb_num, E, C⟩ := (se [] aa).g3 hb_num E C
 clear aa
 cases av : (ab.num == num)
 ·exact .d <| .cf <| .sk <| .ib 1 <| .g <| .it ((k : Int) + 1) <| .r 1 <| .d <| O (k + 1) _ _ ⟨by kernel_rfl, by kernel_rfl, by kernel_rfl, by kernel_rfl, trivial⟩ ⟨C, (by omega), (by grind [numF])⟩ (by omega)
 exact .d <| .ct <| .s <| .g <| .r 2 <| .d <| .rt Tryz.func172 Tryz.results172 (vI (k : Int)) ⟨(congrArg (Value.int .i64) (by grind [numF, drop_end])), E⟩
theorem c_impl_Disk_file (d : Dsk) (num : Int) {w : World} {F : Nat → Prop} {a1 : Option Addr} {n1 c1 : Nat} (h1 : RepS w F a1 n1 c1 d.files) {a2 : Option Addr} {n2 c2 : Nat} (h2 : RepS w F a2 n2 c2 d.list) {a3 : Option Addr} {n3 c3 : Nat} (h3 : RepS w F a3 n3 c3 d.names)  : Calls Tryz.prog 143 [.agg #[.slice a1 n1 c1, .slice a2 n2 c2, .slice a3 n3 c3, .int .i64 d.next], .int .i64 num].toArray w (rets fun rv w' => rv = .int .i64 (numAt d num) ∧ Ext w w') := by
 refine goT Tryz.func143 ?_
 obtain ⟨rfl, ah, h1⟩ := h1.tp
 obtain ⟨rfl, ai, h2⟩ := h2.tp
 obtain ⟨rfl, aj, h3⟩ := h3.tp
 refine .s <| .g <| .np 83 [.slice a1 d.files.length c1, .slice a2 d.list.length c2, .slice a3 d.names.length c3, vI d.next] fun af ak O E J ab => ?_
 replace h1 := (sn [] E O).g1 h1
 have C := E
 clear E ab O
 refine .np 3 [vI num] fun al ag V W ac ae => ?_
 replace ⟨h1, J, C⟩ := (sn [af] W V).g3 h1 J C
 clear W ae V
 refine .r 1 <| .d <| .s <| .g <| .r 1 <| .lb J <| .r 1 <| .cl (c_IndexFunc_files d.files num h1.ta ac (w := ag) (F := all)) ?_
 rintro am ao ⟨rfl, aa⟩
 replace C := (se [] aa).g1 C
 clear aa
 exact .r 1 <| .d <| .rt Tryz.func143 Tryz.results143 (vI (numF num 0 d.files)) ⟨(congrArg (Value.int .i64) (by rfl)), C⟩
theorem c_slices_Contains_int_int (s : List Int) (v : Int) {w : World} {F : Nat → Prop} {a1 : Option Addr} {n1 c1 : Nat} (h1 : RepS w F a1 n1 c1 s)  : Calls Tryz.prog 144 [.slice a1 n1 c1, .int .i64 v].toArray w (rets fun rv w' => rv = .bool (s.contains v) ∧ Ext w w') := by
 refine goT Tryz.func144 ?_
 obtain ⟨rfl, J, h1⟩ := h1.tp
 refine .s <| .g <| .r 1 <| .d <| .s <| .g <| .r 2 <| .cl (c_slices_Index_int_int s v h1.ta (w := w) (F := all)) ?_
 rintro O V ⟨rfl, C⟩
 have E := C
 clear C
 exact .r 2 <| .d <| .rt Tryz.func144 Tryz.results144 (.bool (decide (idxF v 0 s ≥ 0))) ⟨(congrArg Value.bool (by exact (idxF_has v s 0).symm)), E⟩
theorem c_spec_DiskOk (d : Dsk) {w : World} {F : Nat → Prop} {a1 : Option Addr} {n1 c1 : Nat} (h1 : RepS w F a1 n1 c1 d.files) {a2 : Option Addr} {n2 c2 : Nat} (h2 : RepS w F a2 n2 c2 d.list) {a3 : Option Addr} {n3 c3 : Nat} (h3 : RepS w F a3 n3 c3 d.names) (p0 : DD d) : Calls Tryz.prog 49 [.agg #[.slice a1 n1 c1, .slice a2 n2 c2, .slice a3 n3 c3, .int .i64 d.next]].toArray w (rets fun rv w' => rv = .bool (diskOk d) ∧ Ext w w') := by
 refine goT Tryz.func49 ?_
 obtain ⟨rfl, cC, h1⟩ := h1.tp
 obtain ⟨rfl, cD, h2⟩ := h2.tp
 obtain ⟨rfl, cE, h3⟩ := h3.tp
 refine .s <| .g <| .np 83 [.slice a1 d.files.length c1, .slice a2 d.list.length c2, .slice a3 d.names.length c3, vI d.next] fun V ci aL av C bG => ?_
 replace ⟨h1, h2, h3⟩ := (sn [] av aL).g3 h1 h2 h3
 have E := av
 clear av bG aL
 refine .r 1 <| .d <| .s <| .s <| .g <| .r 1 <| .lb C <| .cl (c_spec_l6In d.next 1 999 (w := ci) (F := all)) ?_
 rintro dH bH ⟨rfl, aM⟩
 replace ⟨h1, h2, h3, C, E⟩ := (se [V] aM).g5 h1 h2 h3 C E
 clear aM
 cases aN : (inR d.next 1 999)
 ·have cF := inR_f aN
  exact .r 19 <| .d <| .ct <| .s <| .g <| .r 1 <| .d <| .rt Tryz.func49 Tryz.results49 (.bool false) ⟨(congrArg Value.bool (by symm; exact dk_1 (.inl (by assumption)))), E⟩
 have cG := inR_t aN
 refine .r 3 <| .lb C <| .r 1 <| .bp ((d.files.length : Int) > 20) (fun bI => .r 13 <| .d <| .ct <| .s <| .g <| .r 1 <| .d <| .rt Tryz.func49 Tryz.results49 (.bool false) ⟨(congrArg Value.bool (by symm; exact dk_1 (.inr (.inl (by assumption))))), E⟩) fun bI => .r 3 <| .lb C <| .r 1 <| .bp ((d.list.length : Int) > 6) (fun bJ => .r 7 <| .d <| .ct <| .s <| .g <| .r 1 <| .d <| .rt Tryz.func49 Tryz.results49 (.bool false) ⟨(congrArg Value.bool (by symm; exact dk_1 (.inr (.inr (.inl (by assumption)))))), E⟩) fun bJ => .r 3 <| .lb C <| .r 1 <| .bp ((d.names.length : Int) > 6) (fun bK => .r 1 <| .d <| .ct <| .s <| .g <| .r 1 <| .d <| .rt Tryz.func49 Tryz.results49 (.bool false) ⟨(congrArg Value.bool (by symm; exact dk_1 (.inr (.inr (.inr (by assumption)))))), E⟩) fun bK => .r 1 <| .d <| .cf <| .sk <| .s <| .s <| .g <| .r 1 <| .d <| .b 0 <| T.loop (X := Nat) 0 (fun k => [(1, .pointer (some ⟨V, 0, none⟩)), (3, vI (k : Int))]) (fun k aw => Chg (ins []) bH aw ∧ (k ≤ d.files.length) ∧ (fileF d.next (pnum d.files k) (d.files.drop k) = fileF d.next none d.files)) (fun k => d.files.length - k) (by kernel_rfl) ⟨by kernel_rfl, by kernel_rfl, trivial⟩ ⟨Chg.refl _ _, (by simp), (by rfl)⟩ ?_
 rintro k dI aw ⟨O, cH, cI⟩ ah
 have aO : Mv [V] [V] bH aw := Mv.inl O all_nil (all_cons (.inl (.head _)) all_nil)
 replace ⟨h1, h2, h3, C, E⟩ := (sp aO O).g5 h1 h2 h3 C E
 clear aO
 refine .s <| .s <| .g <| .r 2 <| .lb C <| .r 1 <| .bp ((k : Int) < (d.files.length : Int)) (fun bL => ?_) (fun bL => ?_)
 ·refine .d <| .ct <| .sk <| .s <| .b 1 <| .s <| .gd nil 35 fun dJ aP => ?_
  replace ⟨h1, h2, h3, C, E, O⟩ := (se [V] aP).g6 h1 h2 h3 C E O
  clear aP
  refine .r [0] <| .lb 1 C id <| .r [2] ?_
  have bM : k < d.files.length := (by omega)
  refine .ix 3 k 3 h1 bM <| .r [4] ?_
  obtain ⟨ac, ai⟩ : ∃ y, d.files[k]? = some y := ⟨_, List.getElem?_eq_getElem (by omega)⟩
  have cJ := drop_at ai; have ce := List.mem_of_getElem? ai
  obtain ⟨_, ⟨dK, dL, dM, dN, dO, dP, rfl, bN, bO⟩, aQ⟩ := h1.elem k ac ai
  have bP := bN.len
  subst bP
  have cK := bN.max
  have bQ := bO.len
  subst bQ
  have cL := bO.max
  refine .lh 5 0 aQ id <| .r [6] <| .lb 7 C id <| GA.int (i := 8) (d.next - 1) (by kernel_rfl) (by have q1 := p0.next; omega) <| GA.call1 (i := 9) (by kernel_rfl) (fun cj cM => c_spec_l6In ac.num 1 (d.next - 1) (w := cj) (F := all)) ?_
  cases aR : (inR ac.num 1 (d.next - 1))
  ·have cN := inR_f aR
   refine .r [10, 11, 12, 13, 14, 15, 16, 17, 18, 19, 20, 21, 22, 23, 24, 25, 26, 27, 28, 29, 30, 31, 32, 33, 34] <| .d fun dQ aS => ?_
   replace ⟨h1, h2, h3, C, E, O⟩ := (se [V] aS).g6 h1 h2 h3 C E O
   clear aS
   exact .r 6 <| .d <| .ct <| .s <| .g <| .r 1 <| .d <| .rt Tryz.func49 Tryz.results49 (.bool false) ⟨(congrArg Value.bool (by symm; exact dk_2 (fileNo (by assumption) (by assumption) (.inl (by assumption))))), E⟩
  have cO := inR_t aR
  refine .r [10, 11, 12] <| GA.boolP (i := 13) ((k : Int) > 0) (by kernel_rfl) (fun bS => ?_) (fun bS => ?_)
  ·refine .r [14, 15] <| .lb 16 C id <| .r [17] <| GA.int (i := 18) ((k : Int) - 1) (by kernel_rfl) (by have q1 := p0.next; omega) ?_
   have aT : k - 1 < d.files.length := (by omega)
   refine GA.idx (i := 19) (k - 1) (len := d.files.length) (z := (k : Int) - 1) (sz := 3) (by kernel_rfl) (by omega) aT (h1.addr (Nat.zero_lt_of_lt aT)) <| .r [20] ?_
   obtain ⟨bT, ax⟩ : ∃ y, d.files[k - 1]? = some y := ⟨_, List.getElem?_eq_getElem (by omega)⟩
   have cP := drop_at ax; have cg := List.mem_of_getElem? ax
   obtain ⟨_, ⟨dR, dS, dT, dU, dV, dW, rfl, bU, bV⟩, bW⟩ := h1.elem (k - 1) bT ax
   have bX := bU.len
   subst bX
   have cQ := bU.max
   have bY := bV.len
   subst bY
   have cR := bV.max
   refine .lh 21 0 bW id <| .r [22] <| .lb 23 C id <| .r [24] ?_
   have bZ : k < d.files.length := (by omega)
   refine .ix 25 k 3 h1 bZ <| .r [26] <| .lh 27 0 aQ id <| GA.boolP (i := 28) (bT.num ≥ ac.num) (by kernel_rfl) (fun b0 => ?_) (fun b0 => ?_)
   ·refine .r [29, 30, 31, 32, 33, 34] <| .d fun dX aU => ?_
    replace ⟨h1, h2, h3, C, E, O⟩ := (se [V] aU).g6 h1 h2 h3 C E O
    clear aU
    exact .r 6 <| .d <| .ct <| .s <| .g <| .r 1 <| .d <| .rt Tryz.func49 Tryz.results49 (.bool false) ⟨(congrArg Value.bool (by symm; exact dk_2 (fileNo (by assumption) (by assumption) (.inr (.inl ⟨by omega, _, by assumption, by assumption⟩))))), E⟩
   refine .r [29, 30, 31, 32] <| .lb 33 C id <| .r [34] <| .d fun ck aV => ?_
   replace ⟨h1, h2, h3, C, E, O⟩ := (se [V] aV).g6 h1 h2 h3 C E O
   clear aV
   have bd : k < d.files.length := (by omega)
   refine .ix k 3 h1 bd <| .r 1 ?_
   obtain ⟨_, ⟨cS, cT, cU, cV, cW, cX, rfl, aW, aX⟩, bg⟩ := h1.elem k ac ai
   have bh := aW.len
   subst bh
   have bi := aX.len
   subst bi
   refine .lg 1 bg <| .cl (c_spec_PartOk ac.part aW.ta aX.ta (w := ck) (F := all)) ?_
   rintro cY cZ ⟨rfl, ay⟩
   replace ⟨h1, h2, h3, C, E, O⟩ := (se [V] ay).g6 h1 h2 h3 C E O
   clear ay
   cases cm : (partOk ac.part)
   ·exact .r 2 <| .d <| .ct <| .s <| .g <| .r 1 <| .d <| .rt Tryz.func49 Tryz.results49 (.bool false) ⟨(congrArg Value.bool (by symm; exact dk_2 (fileNo (by assumption) (by assumption) (.inr (.inr (by assumption)))))), E⟩
   exact .r 2 <| .d <| .cf <| .sk <| .ib 1 <| .g <| .r 1 <| RG.int ((k : Int) + 1) (by kernel_rfl) (by have q1 := p0.next; omega) <| .r 1 <| .d <| ah (k + 1) _ _ ⟨by kernel_rfl, by kernel_rfl, trivial⟩ ⟨O, (by omega), (by exact fileStep (by assumption) (by assumption) (by assumption) (by assumption) (.inr ⟨_, by assumption, by assumption⟩) (by assumption))⟩ (by omega)
  refine .r [14, 15, 16, 17, 18, 19, 20, 21, 22, 23, 24, 25, 26, 27, 28, 29, 30, 31, 32] <| .lb 33 C id <| .r [34] <| .d fun b6 az => ?_
  replace ⟨h1, h2, h3, C, E, O⟩ := (se [V] az).g6 h1 h2 h3 C E O
  clear az
  have bj : k < d.files.length := (by omega)
  refine .ix k 3 h1 bj <| .r 1 ?_
  obtain ⟨_, ⟨c7, c8, c9, da, db, de, rfl, aY, aZ⟩, bk⟩ := h1.elem k ac ai
  have bm := aY.len
  subst bm
  have bn := aZ.len
  subst bn
  refine .lg 1 bk <| .cl (c_spec_PartOk ac.part aY.ta aZ.ta (w := b6) (F := all)) ?_
  rintro df dg ⟨rfl, aA⟩
  replace ⟨h1, h2, h3, C, E, O⟩ := (se [V] aA).g6 h1 h2 h3 C E O
  clear aA
  cases co : (partOk ac.part)
  ·exact .r 2 <| .d <| .ct <| .s <| .g <| .r 1 <| .d <| .rt Tryz.func49 Tryz.results49 (.bool false) ⟨(congrArg Value.bool (by symm; exact dk_2 (fileNo (by assumption) (by assumption) (.inr (.inr (by assumption)))))), E⟩
  exact .r 2 <| .d <| .cf <| .sk <| .ib 1 <| .g <| .r 1 <| RG.int ((k : Int) + 1) (by kernel_rfl) (by have q1 := p0.next; omega) <| .r 1 <| .d <| ah (k + 1) _ _ ⟨by kernel_rfl, by kernel_rfl, trivial⟩ ⟨O, (by omega), (by exact fileStep (by assumption) (by assumption) (by assumption) (by assumption) (.inl (by omega)) (by assumption))⟩ (by omega)
 refine .d <| .cf <| .x 0 rfl <| .s <| .s <| .g <| .r 1 <| .d <| .b 2 <| T.loop (X := Nat) 0 (fun k => [(1, .pointer (some ⟨V, 0, none⟩)), (4, vI (k : Int))]) (fun k aj => Chg (ins []) aw aj ∧ (k ≤ d.list.length) ∧ (fileF d.next none d.files = true) ∧ (lsTo d k)) (fun k => d.list.length - k) (by kernel_rfl) ⟨by kernel_rfl, by kernel_rfl, trivial⟩ ⟨Chg.refl _ _, (by simp), (by exact fileEnd (by assumption) (by omega)), (by exact lsTo_0 _)⟩ ?_
 rintro k dh aj ⟨J, cp, cq, cr⟩ ar
 have aB : Mv [V] [V] aw aj := Mv.inl J all_nil (all_cons (.inl (.head _)) all_nil)
 replace ⟨h1, h2, h3, C, E⟩ := (sp aB J).g5 h1 h2 h3 C E
 clear aB
 refine .s <| .s <| .g <| .r 2 <| .lb C <| .r 1 <| .bp ((k : Int) < (d.list.length : Int)) (fun bo => ?_) (fun bo => ?_)
 ·refine .d <| .ct <| .sk <| .s <| .b 3 <| .s <| .s <| .gd nil 6 fun di aC => ?_
  replace ⟨h1, h2, h3, C, E, J⟩ := (se [V] aC).g6 h1 h2 h3 C E J
  clear aC
  refine .ln 0 C id <| .r [1] <| .lb 2 C id <| .r [3] ?_
  have bq : k < d.list.length := (by omega)
  refine .ix 4 k 1 h2 bq ?_
  obtain ⟨ae, af⟩ : ∃ y, d.list[k]? = some y := ⟨_, List.getElem?_eq_getElem (by omega)⟩
  have cu := drop_at af; have b7 := List.mem_of_getElem? af
  obtain ⟨_, rfl, br⟩ := h2.elem k ae af
  refine .lh 5 0 br id <| .d fun b8 aD => ?_
  replace ⟨h1, h2, h3, C, E, J⟩ := (se [V] aD).g6 h1 h2 h3 C E J
  clear aD
  refine .cl (c_spec_l21At d ae h1.ta h2.ta h3.ta (w := b8) (F := all)) ?_
  rintro dj ba ⟨rfl, aE⟩
  replace ⟨h1, h2, h3, C, E, J⟩ := (se [V] aE).g6 h1 h2 h3 C E J
  clear aE
  refine .bp (numAt d ae < 0) (fun bt => .d <| .ct <| .s <| .g <| .r 1 <| .d <| .rt Tryz.func49 Tryz.results49 (.bool false) ⟨(congrArg Value.bool (by symm; exact dk_3 (lstNo1 (by assumption) (by assumption)))), E⟩) fun bt => .d <| .cf <| .sk <| .s <| .g <| .r 1 <| .d <| .b 4 <| T.loop (X := Nat) 0 (fun k1 => [(1, .pointer (some ⟨V, 0, none⟩)), (4, vI (k : Int)), (5, vI (k1 : Int))]) (fun k1 aF => Chg (ins []) ba aF ∧ (k1 ≤ k) ∧ (fresh d ae k1)) (fun k1 => k - k1) (by kernel_rfl) ⟨by kernel_rfl, by kernel_rfl, by kernel_rfl, trivial⟩ ⟨Chg.refl _ _, (by omega), (by exact fresh_0 _ _)⟩ ?_
  rintro k1 dm aF ⟨W, cv, cw⟩ au
  have aG : Mv [V] [V] ba aF := Mv.inl W all_nil (all_cons (.inl (.head _)) all_nil)
  replace ⟨h1, h2, h3, C, E, J⟩ := (sp aG W).g6 h1 h2 h3 C E J
  clear aG
  refine .s <| .s <| .g <| .r 2 <| .bp ((k1 : Int) < (k : Int)) (fun bu => ?_) (fun bu => .d <| .cf <| .x 4 rfl <| .ib 3 <| .g <| .r 1 <| RG.int ((k : Int) + 1) (by kernel_rfl) (by have q1 := p0.next; omega) <| .r 1 <| .d <| ar (k + 1) _ _ ⟨by kernel_rfl, by kernel_rfl, trivial⟩ ⟨J, (by omega), (by assumption), (by exact lsTo_step (by assumption) (by assumption) (by assumption) (by assumption : fresh d _ k1) (by omega))⟩ (by omega))
  refine .d <| .ct <| .sk <| .s <| .b 5 <| .s <| .gd nil 10 fun dp aH => ?_
  replace ⟨h1, h2, h3, C, E, J, W⟩ := (se [V] aH).g7 h1 h2 h3 C E J W
  clear aH
  refine .r [0] <| .lb 1 C id <| .r [2] ?_
  have bv : k1 < d.list.length := (by omega)
  refine .ix 3 k1 1 h2 bv ?_
  obtain ⟨bc, aq⟩ : ∃ y, d.list[k1]? = some y := ⟨_, List.getElem?_eq_getElem (by omega)⟩
  have cx := drop_at aq; have b9 := List.mem_of_getElem? aq
  obtain ⟨_, rfl, bw⟩ := h2.elem k1 bc aq
  refine .lh 4 0 bw id <| .r [5] <| .lb 6 C id <| .r [7] ?_
  have bz : k < d.list.length := (by omega)
  refine .ix 8 k 1 h2 bz ?_
  obtain ⟨_, rfl, bA⟩ := h2.elem k ae af
  refine .lh 9 0 bA id <| .d fun dq aI => ?_
  replace ⟨h1, h2, h3, C, E, J, W⟩ := (se [V] aI).g7 h1 h2 h3 C E J W
  clear aI
  exact .eq bc ae (fun bB => .d <| .ct <| .s <| .g <| .r 1 <| .d <| .rt Tryz.func49 Tryz.results49 (.bool false) ⟨(congrArg Value.bool (by symm; exact dk_3 (lstNo3 (k := k) (j := k1) (by assumption) (by assumption) (by omega) (by assumption)))), E⟩) fun bB => .d <| .cf <| .sk <| .ib 5 <| .g <| .r 1 <| RG.int ((k1 : Int) + 1) (by kernel_rfl) (by have q1 := p0.next; omega) <| .r 1 <| .d <| au (k1 + 1) _ _ ⟨by kernel_rfl, by kernel_rfl, by kernel_rfl, trivial⟩ ⟨W, (by omega), (by exact fresh_step (by assumption) (by assumption) (by assumption))⟩ (by omega)
 refine .d <| .cf <| .x 2 rfl <| .s <| .g <| .ln C <| .cl (c_spec_l21Open d h1 h2 h3 (by have := p0.g.len; omega) p0.g.sz (by have := p0.nl; omega) (lstOk_at (lsTo_end (by assumption) (by omega))) (w := aj) (F := nin (fo F w.heap.size) [V])) ?_
 rintro dr cd ⟨⟨_, rfl, ⟨dt, du, dv, dw, dx, dy, dz, dA, dB, dC, dD, dE, rfl, ak, al, am, ao⟩⟩, aJ⟩
 have ab := al1 C.lt
 have ag : Gb w.heap.size aj.heap.size := E.size
 replace E := (se [] aJ).g1 E
 clear aJ
 replace ak := RepS.mixed' (M := [V]) ak ab ag
 have cy := ak.max
 replace al := RepS.mixed' (M := [V]) al ab ag
 have cz := al.max
 replace am := RepS.mixed' (M := [V]) am ab ag
 have cA := am.max
 replace ao := RepS.mixed' (M := [V]) ao ab ag
 have cB := ao.max
 clear ab
 have bC := ak.len
 subst bC
 have bD := al.len
 subst bD
 have bE := am.len
 subst bE
 have bF := ao.len
 subst bF
 refine .cl (c_spec_StoreOkG (⟨(⟨((openS d).idx).names, ((openS d).idx).posts⟩ : Idx), (openS d).parts, (openS d).mem⟩ : Sto) ak.ta al.ta am.ta ao.ta p0.sg (w := cd) (F := all)) ?_
 rintro dF dG ⟨rfl, aK⟩
 replace E := (se [] aK).g1 E
 clear aK
 exact .r 1 <| .d <| .rt Tryz.func49 Tryz.results49 (.bool (nmB (⟨(⟨((openS d).idx).names, ((openS d).idx).posts⟩ : Idx), (openS d).parts, (openS d).mem⟩ : Sto).idx.names && storeOk (⟨(⟨((openS d).idx).names, ((openS d).idx).posts⟩ : Idx), (openS d).parts, (openS d).mem⟩ : Sto))) ⟨(congrArg Value.bool (by (rw [dk_4 (by assumption) (by omega) (by omega) (by assumption) (lsTo_end (by assumption) (by omega))]; rfl))), E⟩
theorem c_impl_Disk_open (d : Dsk) {w : World} {F : Nat → Prop} {a1 : Option Addr} {n1 c1 : Nat} (h1 : RepS w F a1 n1 c1 d.files) {a2 : Option Addr} {n2 c2 : Nat} (h2 : RepS w F a2 n2 c2 d.list) {a3 : Option Addr} {n3 c3 : Nat} (h3 : RepS w F a3 n3 c3 d.names) (p0 : DD d) (p1 : ∀ n ∈ d.list, 0 ≤ numAt d n) : Calls Tryz.prog 93 [.agg #[.slice a1 n1 c1, .slice a2 n2 c2, .slice a3 n3 c3, .int .i64 d.next]].toArray w (rets fun rv w' => (∃ (y : Sto), VS (ge w.heap.size) w' (y : Sto) rv ∧ OpenY d y) ∧ Ext w w') := by
 refine goT Tryz.func93 ?_
 obtain ⟨rfl, dD, h1⟩ := h1.tp
 obtain ⟨rfl, dE, h2⟩ := h2.tp
 obtain ⟨rfl, dF, h3⟩ := h3.tp
 refine .s <| .g <| .np 83 [.slice a1 d.files.length c1, .slice a2 d.list.length c2, .slice a3 d.names.length c3, vI d.next] fun ae d7 bA aT W ck => ?_
 replace ⟨h1, h2, h3⟩ := (sn [] aT bA).g3 h1 h2 h3
 have C := aT
 clear aT ck bA
 refine .np 30 [.slice none 0 0, .slice none 0 0, .slice none 0 0, .slice none 0 0] fun af cm aU bB O co => ?_
 have dG := C.cn aU
 replace ⟨h1, h2, h3, W, C⟩ := (sn [ae] bB aU).g5 h1 h2 h3 W C
 clear bB co aU
 refine .d <| .s <| .g <| .r 1 <| .lb W <| .cl (c_impl_indexOfG d.names h3.ta p0.g.len p0.g.l5 p0.g.bl (w := cm) (F := all)) ?_
 rintro d8 d9 ⟨⟨aB, ⟨_, rfl, ⟨cp, ec, cq, cr, ed, cu, rfl, au, av⟩⟩, dH⟩, bC⟩
 have aV := al2 O.lt W.lt
 have bD : Gb w.heap.size cm.heap.size := C.size
 replace ⟨h1, h2, h3, W, O, C⟩ := (se [af, ae] bC).g6 h1 h2 h3 W O C
 clear bC
 have au := au.fr aV bD
 have dI := au.max
 have av := av.fr aV bD
 have dJ := av.max
 clear aV
 have cv := au.len
 subst cv
 have cw := av.len
 subst cw
 refine .ns 0 75 [] fun ao cW aC bE cx cy => ?_
 have cz := nb_new aC W.lt
 have cA := nb_new aC O.lt
 have cB := gb_new aC C.size
 have cC := C.cn aC
 replace ⟨h1, h2, h3, W, O, au, av, C⟩ := (sn [af, ae] bE aC).g8 h1 h2 h3 W O au av C
 clear bE cy aC
 have aq : Own (α := Prt) cW ao 75 (nin (ge w.heap.size) [ao, af, ae]) 0 0 [] := Own.nil' cx
 refine .ns 0 51 [] fun ax cX ay bF cD cE => ?_
 have cF := nb_new ay W.lt
 have cG := nb_new ay O.lt
 have cH := nb_new ay aq.lt
 have cI := gb_new ay C.size
 have dK := C.cn ay
 replace ⟨h1, h2, h3, W, O, au, av, aq, C⟩ := (sn [ao, af, ae] bF ay).g9 h1 h2 h3 W O au av aq C
 clear bF cE ay
 have aD : Own (α := Smp) cX ax 51 (nin (ge w.heap.size) [ax, ao, af, ae]) 0 0 [] := Own.nil' cD
 refine .r 1 <| .np 30 [.slice none 0 0, .slice none 0 0, .slice none 0 0, .slice none 0 0] fun ag ee az bG cJ cK => ?_
 have dL := nb_new az W.lt
 have dM := nb_new az O.lt
 have cL := nb_new az aq.lt
 have cM := nb_new az aD.lt
 have dN := C.cn az
 replace ⟨h1, h2, h3, W, O, au, av, aq, aD, C⟩ := (sn [ax, ao, af, ae] bG az).g10 h1 h2 h3 W O au av aq aD C
 clear bG cK az
 refine .sc [.slice cp aB.names.length cq, .slice cr aB.posts.length cu, vS ao 0 0, vS ax 0 0] cJ fun aQ bH aW cN => ?_
 replace ⟨h1, h2, h3, W, O, au, av, aq, aD, C⟩ := (so [ag, ax, ao, af, ae] bH).g10 h1 h2 h3 W O au av aq aD C
 clear bH cN
 refine .d <| .s <| .s <| .g <| .r 1 <| .lb W <| .r 2 <| .d <| .b 0 <| T.loop (X := Nat × (List (List Tag)) × (Option Addr) × Nat × Nat × (List Pst) × (Option Addr) × Nat × Nat × (List Prt) × Nat × Nat × Nat × (List Smp) × Nat × Nat × Nat) (0, (aB.names : List (List Tag)), cp, aB.names.length, cq, (aB.posts : List Pst), cr, aB.posts.length, cu, ([] : List Prt), ao, 0, 0, ([] : List Smp), ax, 0, 0) (fun (k, aH, a_s_0, n_s_0, c_s_0, aJ, a_s_1, n_s_1, c_s_1, aI, r_s_2, n_s_2, c_s_2, aK, r_s_3, n_s_3, c_s_3) => [(1, .pointer (some ⟨ae, 0, none⟩)), (2, .pointer (some ⟨af, 0, none⟩)), (3, .pointer (some ⟨ag, 0, none⟩)), (13, .slice a2 d.list.length c2), (14, vI (d.list.length : Int)), (15, vI (k : Int))]) (fun (k, aH, a_s_0, n_s_0, c_s_0, aJ, a_s_1, n_s_1, c_s_1, aI, r_s_2, n_s_2, c_s_2, aK, r_s_3, n_s_3, c_s_3) ah => Chg (ins [ao, ax, ag]) aQ ah ∧ Own ah r_s_2 75 (nin (ge w.heap.size) [ag, r_s_3, r_s_2, af, ae]) n_s_2 c_s_2 aI ∧ OrB r_s_2 ao aQ.heap.size ∧ Own ah r_s_3 51 (nin (ge w.heap.size) [ag, r_s_3, r_s_2, af, ae]) n_s_3 c_s_3 aK ∧ OrB r_s_3 ax aQ.heap.size ∧ Nb r_s_3 r_s_2 ∧ RepS ah (nin (ge w.heap.size) [ag, r_s_3, r_s_2, af, ae]) a_s_0 n_s_0 c_s_0 aH ∧ RepS ah (nin (ge w.heap.size) [ag, r_s_3, r_s_2, af, ae]) a_s_1 n_s_1 c_s_1 aJ ∧ Box ah ag 30 [.slice a_s_0 n_s_0 c_s_0, .slice a_s_1 n_s_1 c_s_1, vS r_s_2 n_s_2 c_s_2, vS r_s_3 n_s_3 c_s_3] ∧ (k ≤ d.list.length) ∧ (aI.length ≤ k) ∧ (aI ++ (d.list.drop k).map (partNo d) = d.list.map (partNo d)) ∧ (aK = []) ∧ (aH = d.names) ∧ ((NmI d.names → NsD d.names → (⟨aH, aJ⟩ : Idx) = idxOf d.names))) (fun (k, aH, a_s_0, n_s_0, c_s_0, aJ, a_s_1, n_s_1, c_s_1, aI, r_s_2, n_s_2, c_s_2, aK, r_s_3, n_s_3, c_s_3) => d.list.length - k) (by kernel_rfl) ⟨by kernel_rfl, by kernel_rfl, by kernel_rfl, by kernel_rfl, by kernel_rfl, by kernel_rfl, trivial⟩ ⟨Chg.refl _ _, aq, orb_refl, aD, orb_refl, cH, au, av, aW, (by simp), (by simp), (by rfl), (by rfl), (by have q1 : aB.names = d.names ∧ (NmI d.names → NsD d.names → aB = idxOf d.names) := (by assumption); exact q1.1), (by have q1 : aB.names = d.names ∧ (NmI d.names → NsD d.names → aB = idxOf d.names) := (by assumption); exact q1.2)⟩ ?_
 rintro ⟨k, aH, a_s_0, n_s_0, c_s_0, aJ, a_s_1, n_s_1, c_s_1, aI, r_s_2, n_s_2, c_s_2, aK, r_s_3, n_s_3, c_s_3⟩ dO ah ⟨ab, ac, ai, V, aw, bL, E, J, aa, cZ, c7, c8, c9, da, db⟩ aR
 have aX := nb_or' ai cz W.lt
 have de := nb_or' ai cA O.lt
 have aY := nb_or' ai (Nb.symm cL) aW.lt
 have bM := gb_or' ai cB C.size
 have df := cov_or' ai cC C.size
 have aZ := nb_or' aw cF W.lt
 have dg := nb_or' aw cG O.lt
 have bN := nb_or' aw (Nb.symm cM) aW.lt
 have bO := gb_or' aw cI C.size
 have bP : Cov (ins [ao, ax, ag]) aQ ao := ⟨.inl (.head _)⟩
 have dh : Cov (ins [ao, ax, ag]) aQ ag := ⟨.inl (.tail _ (.tail _ (.head _)))⟩
 have di := cov_or' ai bP (Nat.le_refl _)
 have ba : Mv [ag, ax, ao, af, ae] [ag, r_s_3, r_s_2, af, ae] aQ ah := Mv.inl ab (all_cons (.tail _ (.tail _ (.head _))) (all_cons (.tail _ (.head _)) (all_cons (.head _) all_nil))) (all_cons (.inl (.head _)) (all_cons (orb_mem aw (.tail _ (.head _))) (all_cons (orb_mem ai (.tail _ (.tail _ (.head _)))) (all_cons (.inl (.tail _ (.tail _ (.tail _ (.head _))))) (all_cons (.inl (.tail _ (.tail _ (.tail _ (.tail _ (.head _)))))) all_nil)))))
 replace ⟨h1, h2, h3, W, O, C⟩ := (sp ba ab).g6 h1 h2 h3 W O C
 clear ba
 have dj := ac.len; have dm := ac.max
 have dp := V.len; have dq := V.max
 have dr := E.len; have dt := E.max
 have du := J.len; have dv := J.max
 refine .s <| .g <| .bp ((k : Int) < (d.list.length : Int)) (fun bQ => ?_) (fun bQ => ?_)
 ·refine .d <| .s <| .ct <| .sk <| .s <| .b 1 <| .s <| .g ?_
  have bc : k < d.list.length := (by omega)
  refine RG.idx k (len := d.list.length) (i := (k : Int)) (sz := 1) (by kernel_rfl) (by omega) bc (h2.addr (Nat.zero_lt_of_lt bc)) ?_
  obtain ⟨aA, aL⟩ : ∃ y, d.list[k]? = some y := ⟨_, List.getElem?_eq_getElem (by omega)⟩
  have dw := drop_at aL; have cO := List.mem_of_getElem? aL
  obtain ⟨_, rfl, bR⟩ := h2.elem k aA aL
  refine .lh 0 bR <| .r 1 <| .d ?_
  replace h1 := h1.into
  replace h2 := h2.into
  replace h3 := h3.into
  replace E := E.into
  replace J := J.into
  have bd : Gb (ae + 1) ah.heap.size := W.lt
  have bS : Gb (ag + 1) ah.heap.size := aa.lt
  refine .gd (mtb [r_s_2, r_s_3] ah.heap.size) 12 fun dP bg => ?_
  replace ⟨h1, h2, h3, W, O, ac, V, aa, E, J, C, ab⟩ := (se [ag, r_s_3, r_s_2, af, ae] bg).g12 h1 h2 h3 W O ac V aa E J C ab
  clear bg
  refine .r [0] <| .lb 1 aa (nS_of (all_cons (Nb.symm aY) (all_cons (Nb.symm bN) all_nil)) bS) <| .r [2] <| .lb 3 W (nS_of (all_cons (Nb.symm aX) (all_cons (Nb.symm aZ) all_nil)) bd) <| .ln 4 W (nS_of (all_cons (Nb.symm aX) (all_cons (Nb.symm aZ) all_nil)) bd) <| .r [5] <| GA.call1 (i := 6) (by kernel_rfl) (fun cP aM => c_impl_Disk_file d aA (h1.chgS aM (all_cons (.tail _ (.tail _ (.head _))) (all_cons (.tail _ (.head _)) all_nil))) (h2.chgS aM (all_cons (.tail _ (.tail _ (.head _))) (all_cons (.tail _ (.head _)) all_nil))) (h3.chgS aM (all_cons (.tail _ (.tail _ (.head _))) (all_cons (.tail _ (.head _)) all_nil))) (w := cP) (F := all)) ?_
  have bh : (numAt d aA).toNat < d.files.length := (by exact (numAt_i (p1 _ (by assumption))).1)
  refine GA.idx (i := 7) ((numAt d aA).toNat) (len := d.files.length) (z := numAt d aA) (sz := 3) (by kernel_rfl) (by exact (numAt_i (p1 _ (by assumption))).2) bh (h1.addr (Nat.zero_lt_of_lt bh)) <| .r [8] ?_
  obtain ⟨aE, aF⟩ : ∃ y, d.files[(numAt d aA).toNat]? = some y := ⟨_, List.getElem?_eq_getElem (by omega)⟩
  have dx := drop_at aF; have cQ := List.mem_of_getElem? aF
  obtain ⟨_, ⟨dQ, dR, dS, dT, dU, dV, rfl, bi, bj⟩, bT⟩ := h1.elem ((numAt d aA).toNat) aE aF
  have bU := bi.len
  subst bU
  have dy := bi.max
  have bV := bj.len
  subst bV
  have dz := bj.max
  refine .lg 9 1 bT (h1.nS (pos_of aF) (all_cons (.tail _ (.tail _ (.head _))) (all_cons (.tail _ (.head _)) all_nil))) <| .go 10 <| .cl (fun bk aG => c_impl_clonePart aE.part (bi.ta.ext aG) (bj.ta.ext aG) (p0.file _ (by assumption)).sz (w := bk) (F := all)) ?_
  intro bk aG
  replace ⟨W, O, ac, V, aa, E, J, C, ab⟩ := (se [ag, r_s_3, r_s_2, af, ae] aG).g9 W O ac V aa E J C ab
  rintro dW dX ⟨⟨_, rfl, ⟨cR, dY, cS, cT, dZ, cU, rfl, aj, ak⟩⟩, aN⟩
  have aO := al5 aa.lt V.lt ac.lt O.lt W.lt
  have bm : Gb w.heap.size bk.heap.size := C.size
  have hkeep_ := aN
  replace ⟨W, O, ac, V, aa, E, J, C, ab⟩ := (se [ag, r_s_3, r_s_2, af, ae] aN).g9 W O ac V aa E J C ab
  clear aN
  refine ⟨Ext.chg hkeep_, ?_⟩
  have aj := aj.fr aO bm
  have ak := ak.fr aO bm
  clear aO
  have bW := aj.len
  subst bW
  have bX := ak.len
  subst bX
  refine .go 11 <| .ns 1 75 [.slice cR aE.part.ids.length cS, .slice cT aE.part.blocks.length cU] fun d0 bn => ?_
  replace ⟨W, O, ac, V, aa, E, J, aj, ak, C, ab⟩ := (se [ag, r_s_3, r_s_2, af, ae] bn).g11 W O ac V aa E J aj ak C ab
  clear bn
  intro bI d3 al bo aP bY
  have bZ := nb_new al W.lt
  have b0 := nb_new al O.lt
  have bq := nb_new al ac.lt
  have b6 := nb_new al V.lt
  have b7 := nb_new al aa.lt
  have b8 := gb_new al C.size
  replace ⟨O, ac, V, aa, E, J, aj, ak, C, ab⟩ := (se [ag, r_s_3, r_s_2, af, ae] bo).g10 O ac V aa E J aj ak C ab
  clear bo bY al
  refine .d fun d4 br => ?_
  replace ⟨O, ac, V, aa, E, J, aj, ak, aP, C, ab⟩ := (se [ag, r_s_3, r_s_2, af, ae] br).g11 O ac V aa E J aj ak aP C ab
  clear br
  replace E := E.outof
  replace J := J.outof
  have aS : nin (ge w.heap.size) [ag, r_s_3, r_s_2, af, ae] bI ∧ bI ≠ r_s_2 := hap_mk b8 (all_cons b7 (all_cons b6 (all_cons bq (all_cons b0 (all_cons bZ all_nil))))) bq
  refine RG.append1 (T := 27) (ty := 27) (y := aE.part) ac aP (by kernel_rfl) (by kernel_rfl) ⟨_, _, _, _, _, _, rfl, aj.oi, ak.oi⟩ aS (by have := p0.nl; omega) fun bt bJ d5 am ar bu => ?_
  have b9 := nb_or ar (Nb.symm bL) V.lt
  have dA := nb_or ar aY aa.lt
  have cd := orb_or ar ai ab.size
  replace ⟨O, V, aa, E, J, C, ab⟩ := (sa [ag, r_s_3, r_s_2, af, ae] bu ar).g7 O V aa E J C ab
  clear bu
  replace am := am.rn r_s_2
  clear ar
  have dB := am.len; have dC := am.max
  refine .r 1 <| .ss 2 (vS bt (n_s_2 + 1) bJ) aa fun d6 bv ce cg => ?_
  replace ⟨O, am, V, E, J, C, ab⟩ := (so [ag, r_s_3, bt, af, ae] bv).g7 O am V E J C ab
  clear bv cg
  exact .d <| .ib 1 <| .g <| RG.int ((k : Int) + 1) (by kernel_rfl) (by omega) <| .r 1 <| .d <| aR (k + 1, aH, a_s_0, n_s_0, c_s_0, aJ, a_s_1, n_s_1, c_s_1, (aI ++ [aE.part]), bt, n_s_2 + 1, bJ, aK, r_s_3, n_s_3, c_s_3) _ _ ⟨by kernel_rfl, by kernel_rfl, by kernel_rfl, by kernel_rfl, by kernel_rfl, by kernel_rfl, trivial⟩ ⟨ab, am, cd, V, aw, (Nb.symm b9), E, J, ce, (by omega), (by simp; omega), (by exact open_step (by assumption) (by assumption) (by assumption)), (by assumption), (by assumption), (by assumption)⟩ (by (simp only []; omega))
 refine .d <| .s <| .cf <| .x 0 rfl <| .s <| .g <| .ln aa <| .sc [.slice a_s_0 n_s_0 c_s_0, .slice a_s_1 n_s_1 c_s_1, vS r_s_2 n_s_2 c_s_2, vS r_s_3 n_s_3 c_s_3] O fun bK bw ci cj => ?_
 replace ⟨ac, V, E, J, C⟩ := (so [ag, r_s_3, r_s_2, af, ae] bw).g5 ac V E J C
 clear bw cj
 refine .d ?_
 have bz := ac.sl bM
 replace ⟨V, E, J⟩ := (sd bK [ag, r_s_3, r_s_2, af, ae] r_s_2).g3 V E J
 have cV := V.sl bO
 replace ⟨bz, E, J⟩ := (sd bK [ag, r_s_3, af, ae] r_s_3).g3 bz E J
 exact .rb Tryz.func93 Tryz.results93 ci ⟨⟨((⟨(⟨aH, aJ⟩ : Idx), aI, aK⟩ : Sto) : Sto), ⟨_, rfl, ⟨_, _, _, _, _, _, _, _, _, _, _, _, rfl, E.w1, J.w1, bz.w1, cV.w1⟩⟩, (by exact OpenY.mk (by assumption) (open_end (by assumption) (by omega)) (by assumption) (by assumption))⟩, C⟩
theorem c_impl_DiskOk (d : Dsk) {w : World} {F : Nat → Prop} {a1 : Option Addr} {n1 c1 : Nat} (h1 : RepS w F a1 n1 c1 d.files) {a2 : Option Addr} {n2 c2 : Nat} (h2 : RepS w F a2 n2 c2 d.list) {a3 : Option Addr} {n3 c3 : Nat} (h3 : RepS w F a3 n3 c3 d.names) (p0 : DD d) : Calls Tryz.prog 92 [.agg #[.slice a1 n1 c1, .slice a2 n2 c2, .slice a3 n3 c3, .int .i64 d.next]].toArray w (rets fun rv w' => rv = .bool (diskOk d) ∧ Ext w w') := by
 refine goT Tryz.func92 ?_
 obtain ⟨rfl, co, h1⟩ := h1.tp
 obtain ⟨rfl, cp, h2⟩ := h2.tp
 obtain ⟨rfl, cq, h3⟩ := h3.tp
 refine .s <| .g <| .np 83 [.slice a1 d.files.length c1, .slice a2 d.list.length c2, .slice a3 d.names.length c3, vI d.next] fun V bQ aK av E bo => ?_
 replace ⟨h1, h2, h3⟩ := (sn [] av aK).g3 h1 h2 h3
 have C := av
 clear av bo aK
 refine .r 1 <| .d <| .s <| .s <| .g <| .r 1 <| .lb E <| .cl (c_impl_within d.next 1 999 (w := bQ) (F := all)) ?_
 rintro dg bq ⟨rfl, aL⟩
 replace ⟨h1, h2, h3, E, C⟩ := (se [V] aL).g5 h1 h2 h3 E C
 clear aL
 cases aM : (inR d.next 1 999)
 ·have cr := inR_f aM
  exact .r 13 <| .d <| .ct <| .s <| .g <| .r 1 <| .d <| .rt Tryz.func92 Tryz.results92 (.bool false) ⟨(congrArg Value.bool (by symm; exact dk_1 (.inl (by assumption)))), C⟩
 have cu := inR_t aM
 refine .r 3 <| .lb E <| .r 1 <| .bp ((d.files.length : Int) > 20) (fun br => .r 7 <| .d <| .ct <| .s <| .g <| .r 1 <| .d <| .rt Tryz.func92 Tryz.results92 (.bool false) ⟨(congrArg Value.bool (by symm; exact dk_1 (.inr (.inl (by assumption))))), C⟩) fun br => .r 3 <| .lb E <| .r 1 <| .bp ((d.list.length : Int) > 6) (fun bt => .r 1 <| .d <| .ct <| .s <| .g <| .r 1 <| .d <| .rt Tryz.func92 Tryz.results92 (.bool false) ⟨(congrArg Value.bool (by symm; exact dk_1 (.inr (.inr (.inl (by assumption)))))), C⟩) fun bt => .r 1 <| .d <| .cf <| .sk <| .s <| .s <| .g <| .r 1 <| .lb E <| .r 2 <| .d <| .b 0 <| T.loop (X := Nat) 0 (fun k => [(1, .pointer (some ⟨V, 0, none⟩)), (24, .slice a1 d.files.length c1), (25, vI (d.files.length : Int)), (26, vI (k : Int))]) (fun k aw => Chg (ins []) bq aw ∧ (k ≤ d.files.length) ∧ (fileF d.next (pnum d.files k) (d.files.drop k) = fileF d.next none d.files)) (fun k => d.files.length - k) (by kernel_rfl) ⟨by kernel_rfl, by kernel_rfl, by kernel_rfl, by kernel_rfl, trivial⟩ ⟨Chg.refl _ _, (by simp), (by rfl)⟩ ?_
 rintro k dh aw ⟨J, cv, cw⟩ ai
 have aN : Mv [V] [V] bq aw := Mv.inl J all_nil (all_cons (.inl (.head _)) all_nil)
 replace ⟨h1, h2, h3, E, C⟩ := (sp aN J).g5 h1 h2 h3 E C
 clear aN
 refine .s <| .g <| .bp ((k : Int) < (d.files.length : Int)) (fun bu => ?_) (fun bu => ?_)
 ·refine .d <| .s <| .ct <| .sk <| .s <| .b 1 <| .s <| .g <| .r 1 ?_
  have bv : k < d.files.length := (by omega)
  refine .ix k 3 h1 bv ?_
  obtain ⟨ac, ax⟩ : ∃ y, d.files[k]? = some y := ⟨_, List.getElem?_eq_getElem (by omega)⟩
  have cx := drop_at ax; have bN := List.mem_of_getElem? ax
  obtain ⟨_, ⟨bR, di, bS, bT, dj, bU, rfl, W, aa⟩, bw⟩ := h1.elem k ac ax
  have bz := W.len
  subst bz
  have cy := W.max
  have bA := aa.len
  subst bA
  have cz := aa.max
  refine .lg 0 bw <| .np 88 [vI 0, .slice none 0 0, .slice none 0 0] fun ag dm aj aO bB bC => ?_
  have cA := nb_new aj E.lt
  have cB := C.cn aj
  have cC := J.cn aj
  replace ⟨h1, h2, h3, E, W, aa, C, J⟩ := (sn [V] aO aj).g8 h1 h2 h3 E W aa C J
  clear aO bC aj
  refine .r 1 <| .sc [vI ac.num, .slice bR ac.part.ids.length bS, .slice bT ac.part.blocks.length bU] bB fun dp aP O bD => ?_
  replace ⟨h1, h2, h3, E, W, aa, C, J⟩ := (so [ag, V] aP).g8 h1 h2 h3 E W aa C J
  clear aP bD
  refine .d <| .s <| .gd nil 20 fun dq aQ => ?_
  replace ⟨h1, h2, h3, E, W, aa, O, C, J⟩ := (se [ag, V] aQ).g9 h1 h2 h3 E W aa O C J
  clear aQ
  refine .r [0] <| .lb 1 O id <| .r [2] <| .lb 3 E id <| GA.int (i := 4) (d.next - 1) (by kernel_rfl) (by have q1 := p0.next; omega) <| GA.call1 (i := 5) (by kernel_rfl) (fun bV cD => c_impl_within ac.num 1 (d.next - 1) (w := bV) (F := all)) ?_
  cases aR : (inR ac.num 1 (d.next - 1))
  ·have cE := inR_f aR
   refine .r [6, 7, 8, 9, 10, 11, 12, 13, 14, 15, 16, 17, 18, 19] <| .d fun dr aS => ?_
   replace ⟨h1, h2, h3, E, W, aa, O, C, J⟩ := (se [ag, V] aS).g9 h1 h2 h3 E W aa O C J
   clear aS
   exact .r 9 <| .d <| .ct <| .s <| .g <| .r 1 <| .d <| .rt Tryz.func92 Tryz.results92 (.bool false) ⟨(congrArg Value.bool (by symm; exact dk_2 (fileNo (by assumption) (by assumption) (.inl (by assumption))))), C⟩
  have cF := inR_t aR
  refine .r [6, 7, 8] <| GA.boolP (i := 9) ((k : Int) > 0) (by kernel_rfl) (fun bE => ?_) (fun bE => ?_)
  ·refine .r [10, 11] <| .lb 12 E id <| .r [13] <| GA.int (i := 14) ((k : Int) - 1) (by kernel_rfl) (by have q1 := p0.next; omega) ?_
   have aT : k - 1 < d.files.length := (by omega)
   refine GA.idx (i := 15) (k - 1) (len := d.files.length) (z := (k : Int) - 1) (sz := 3) (by kernel_rfl) (by omega) aT (h1.addr (Nat.zero_lt_of_lt aT)) <| .r [16] ?_
   obtain ⟨bF, ay⟩ : ∃ y, d.files[k - 1]? = some y := ⟨_, List.getElem?_eq_getElem (by omega)⟩
   have cG := drop_at ay; have bP := List.mem_of_getElem? ay
   obtain ⟨_, ⟨dt, du, dv, cH, cI, cJ, rfl, bG, aU⟩, bH⟩ := h1.elem (k - 1) bF ay
   have aX := bG.len
   subst aX
   have bW := bG.max
   have aY := aU.len
   subst aY
   have bX := aU.max
   refine .lh 17 0 bH id <| .r [18] <| .lb 19 O id <| .d fun bI az => ?_
   replace ⟨h1, h2, h3, E, W, aa, O, C, J⟩ := (se [ag, V] az).g9 h1 h2 h3 E W aa O C J
   clear az
   refine .bp (bF.num ≥ ac.num) (fun aZ => .r 8 <| .d <| .ct <| .s <| .g <| .r 1 <| .d <| .rt Tryz.func92 Tryz.results92 (.bool false) ⟨(congrArg Value.bool (by symm; exact dk_2 (fileNo (by assumption) (by assumption) (.inr (.inl ⟨by omega, _, by assumption, by assumption⟩))))), C⟩) fun aZ => .r 4 <| .ln O <| .cl (c_impl_PartOk ac.part W.ta aa.ta (w := bI) (F := all)) ?_
   rintro cK aV ⟨rfl, aA⟩
   replace ⟨h1, h2, h3, E, W, aa, O, C, J⟩ := (se [ag, V] aA).g9 h1 h2 h3 E W aa O C J
   clear aA
   cases bY : (partOk ac.part)
   ·exact .r 2 <| .d <| .ct <| .s <| .g <| .r 1 <| .d <| .rt Tryz.func92 Tryz.results92 (.bool false) ⟨(congrArg Value.bool (by symm; exact dk_2 (fileNo (by assumption) (by assumption) (.inr (.inr (by assumption)))))), C⟩
   refine .r 2 <| .d <| .cf <| .sk <| .ib 1 <| .g <| RG.int ((k : Int) + 1) (by kernel_rfl) (by have q1 := p0.next; omega) <| .r 1 <| .d ?_
   have ba : Mv [ag, V] [V] aV aV := Mv.less (all_cons (.tail _ (.head _)) all_nil)
   replace ⟨h1, h2, h3, W, aa⟩ := (sp ba (Chg.refl nil _)).g5 h1 h2 h3 W aa
   exact ai (k + 1) _ _ ⟨by kernel_rfl, by kernel_rfl, by kernel_rfl, by kernel_rfl, trivial⟩ ⟨J, (by omega), (by exact fileStep (by assumption) (by assumption) (by assumption) (by assumption) (.inr ⟨_, by assumption, by assumption⟩) (by assumption))⟩ (by omega)
  refine .r [10, 11, 12, 13, 14, 15, 16, 17, 18, 19] <| .d fun bJ aB => ?_
  replace ⟨h1, h2, h3, E, W, aa, O, C, J⟩ := (se [ag, V] aB).g9 h1 h2 h3 E W aa O C J
  clear aB
  refine .r 5 <| .ln O <| .cl (c_impl_PartOk ac.part W.ta aa.ta (w := bJ) (F := all)) ?_
  rintro cL aW ⟨rfl, aC⟩
  replace ⟨h1, h2, h3, E, C, J⟩ := (se [ag, V] aC).g6 h1 h2 h3 E C J
  clear aC
  cases bZ : (partOk ac.part)
  ·exact .r 2 <| .d <| .ct <| .s <| .g <| .r 1 <| .d <| .rt Tryz.func92 Tryz.results92 (.bool false) ⟨(congrArg Value.bool (by symm; exact dk_2 (fileNo (by assumption) (by assumption) (.inr (.inr (by assumption)))))), C⟩
  refine .r 2 <| .d <| .cf <| .sk <| .ib 1 <| .g <| RG.int ((k : Int) + 1) (by kernel_rfl) (by have q1 := p0.next; omega) <| .r 1 <| .d ?_
  have bc : Mv [ag, V] [V] aW aW := Mv.less (all_cons (.tail _ (.head _)) all_nil)
  replace ⟨h1, h2, h3⟩ := (sp bc (Chg.refl nil _)).g3 h1 h2 h3
  exact ai (k + 1) _ _ ⟨by kernel_rfl, by kernel_rfl, by kernel_rfl, by kernel_rfl, trivial⟩ ⟨J, (by omega), (by exact fileStep (by assumption) (by assumption) (by assumption) (by assumption) (.inl (by omega)) (by assumption))⟩ (by omega)
 refine .d <| .s <| .cf <| .x 0 rfl <| .s <| .s <| .g <| .r 1 <| .lb E <| .r 2 <| .d <| .b 2 <| T.loop (X := Nat) 0 (fun k => [(1, .pointer (some ⟨V, 0, none⟩)), (62, .slice a2 d.list.length c2), (63, vI (d.list.length : Int)), (64, vI (k : Int))]) (fun k af => Chg (ins []) aw af ∧ (k ≤ d.list.length) ∧ (fileF d.next none d.files = true) ∧ (lsTo d k)) (fun k => d.list.length - k) (by kernel_rfl) ⟨by kernel_rfl, by kernel_rfl, by kernel_rfl, by kernel_rfl, trivial⟩ ⟨Chg.refl _ _, (by simp), (by exact fileEnd (by assumption) (by omega)), (by exact lsTo_0 _)⟩ ?_
 rintro k cM af ⟨ab, b0, b6, b7⟩ au
 have aD : Mv [V] [V] aw af := Mv.inl ab all_nil (all_cons (.inl (.head _)) all_nil)
 replace ⟨h1, h2, h3, E, C⟩ := (sp aD ab).g5 h1 h2 h3 E C
 clear aD
 refine .s <| .g <| .bp ((k : Int) < (d.list.length : Int)) (fun bd => ?_) (fun bd => ?_)
 ·refine .d <| .s <| .ct <| .sk <| .s <| .b 3 <| .s <| .g <| .r 1 ?_
  have bg : k < d.list.length := (by omega)
  refine .ix k 1 h2 bg ?_
  obtain ⟨ak, ar⟩ : ∃ y, d.list[k]? = some y := ⟨_, List.getElem?_eq_getElem (by omega)⟩
  have b8 := drop_at ar; have bK := List.mem_of_getElem? ar
  obtain ⟨_, rfl, bh⟩ := h2.elem k ak ar
  refine .lh 0 bh <| .r 2 <| .d <| .s <| .g <| .ln E <| .r 1 <| .cl (c_impl_Disk_file d ak h1.ta h2.ta h3.ta (w := af) (F := all)) ?_
  rintro cN bL ⟨rfl, aE⟩
  replace ⟨h1, h2, h3, E, C, ab⟩ := (se [V] aE).g6 h1 h2 h3 E C ab
  clear aE
  refine .bp (numAt d ak < 0) (fun bi => .r 8 <| .d <| .ct <| .s <| .g <| .r 1 <| .d <| .rt Tryz.func92 Tryz.results92 (.bool false) ⟨(congrArg Value.bool (by symm; exact dk_3 (lstNo1 (by assumption) (by assumption)))), C⟩) fun bi => .r 2 <| .lb E <| .r 1 <| RG.sub (t := 68) (lo := none) (hi := some (vI (k : Int))) h2 0 k (by kernel_rfl) (by kernel_rfl) (.inl ⟨rfl, rfl⟩) (.inr ⟨_, _, rfl, by omega⟩) (by omega) (by omega) fun cO cP aF => ?_
  have b9 := aF.len; have cd := aF.max
  refine .r 1 <| .cl (c_slices_Contains_int_int ((d.list.take k).drop 0) ak aF.ta (w := bL) (F := all)) ?_
  rintro cQ cR ⟨rfl, aG⟩
  replace ⟨h1, h2, h3, E, C, ab⟩ := (se [V] aG).g6 h1 h2 h3 E C ab
  clear aG
  cases ce : ((d.list.take k).drop 0).contains ak
  ·exact .r 1 <| .d <| .cf <| .sk <| .ib 3 <| .g <| RG.int ((k : Int) + 1) (by kernel_rfl) (by have q1 := p0.next; omega) <| .r 1 <| .d <| au (k + 1) _ _ ⟨by kernel_rfl, by kernel_rfl, by kernel_rfl, by kernel_rfl, trivial⟩ ⟨ab, (by omega), (by assumption), (by exact lsTo_step (by assumption) (by assumption) (by assumption) (fresh_of (by assumption)) (Nat.le_refl _))⟩ (by omega)
  exact .r 1 <| .d <| .ct <| .s <| .g <| .r 1 <| .d <| .rt Tryz.func92 Tryz.results92 (.bool false) ⟨(congrArg Value.bool (by symm; exact dk_3 (lstNo4 (by assumption) (by assumption)))), C⟩
 refine .d <| .s <| .cf <| .x 2 rfl <| .s <| .g <| .ln E <| .cl (c_impl_Disk_open d h1.ta h2.ta h3.ta p0 (lstOk_at (lsTo_end (by assumption) (by omega))) (w := af) (F := all)) ?_
 rintro cS bM ⟨⟨aH, ⟨_, rfl, ⟨cT, cU, cV, cW, cX, cY, cZ, c7, c8, c9, da, db, rfl, al, am, ao, aq⟩⟩, cg⟩, aI⟩
 have ae := al1 E.lt
 have ah : Gb w.heap.size af.heap.size := C.size
 replace C := (se [] aI).g1 C
 clear aI
 have al := al.fr ae ah
 have ci := al.max
 have am := am.fr ae ah
 have cj := am.max
 have ao := ao.fr ae ah
 have ck := ao.max
 have aq := aq.fr ae ah
 have cm := aq.max
 clear ae
 have bj := al.len
 subst bj
 have bk := am.len
 subst bk
 have bm := ao.len
 subst bm
 have bn := aq.len
 subst bn
 refine .cl (c_impl_StoreOkG aH al.ta am.ta ao.ta aq.ta (OpenY.sg (by assumption : OpenY d _) p0) (w := bM) (F := all)) ?_
 rintro de df ⟨rfl, aJ⟩
 replace C := (se [] aJ).g1 C
 clear aJ
 exact .r 1 <| .d <| .rt Tryz.func92 Tryz.results92 (.bool (nmB aH.idx.names && storeOk aH)) ⟨(congrArg Value.bool (by exact OpenY.dk (by assumption : OpenY d _) p0 (by assumption) (by omega) (by omega) (by assumption) (lsTo_end (by assumption) (by omega)))), C⟩
theorem c_spec_DiskOpen (d : Dsk) {w : World} {F : Nat → Prop} {a1 : Option Addr} {n1 c1 : Nat} (h1 : RepS w F a1 n1 c1 d.files) {a2 : Option Addr} {n2 c2 : Nat} (h2 : RepS w F a2 n2 c2 d.list) {a3 : Option Addr} {n3 c3 : Nat} (h3 : RepS w F a3 n3 c3 d.names) (p0 : DD d) : Calls Tryz.prog 48 [.agg #[.slice a1 n1 c1, .slice a2 n2 c2, .slice a3 n3 c3, .int .i64 d.next]].toArray w (rets fun rv w' => VS (fo F w.heap.size) w' (dopenS d : Sto) rv ∧ Ext w w') := by
 refine goT Tryz.func48 ?_
 obtain ⟨rfl, bo, h1⟩ := h1.tp
 obtain ⟨rfl, bq, h2⟩ := h2.tp
 obtain ⟨rfl, br, h3⟩ := h3.tp
 refine .s <| .g <| .np 83 [.slice a1 d.files.length c1, .slice a2 d.list.length c2, .slice a3 d.names.length c3, vI d.next] fun J bC aw al E aI => ?_
 replace ⟨h1, h2, h3⟩ := (sn [] al aw).g3 h1 h2 h3
 have C := al
 clear al aI aw
 refine .np 30 [.slice none 0 0, .slice none 0 0, .slice none 0 0, .slice none 0 0] fun O aU ai ax V aJ => ?_
 have bt := nb_new ai E.lt
 have bu := C.cn ai
 replace ⟨h1, h2, h3, E, C⟩ := (sn [J] ax ai).g5 h1 h2 h3 E C
 clear ax aJ ai
 refine .d <| .s <| .s <| .g <| .ln E <| .cl (c_spec_DiskOk d h1.ta h2.ta h3.ta p0 (w := aU) (F := all)) ?_
 rintro bD aK ⟨rfl, ay⟩
 replace ⟨h1, h2, h3, E, V, C⟩ := (se [O, J] ay).g6 h1 h2 h3 E V C
 clear ay
 cases bv : (diskOk d)
 ·refine .r 1 <| .d <| .ct <| .s <| .g <| .r 1 <| .sc [.slice none 0 0, .slice none 0 0, .slice none 0 0, .slice none 0 0] V fun bE az aL aM => ?_
  replace ⟨h1, h2, h3, E, C⟩ := (so [O, J] az).g5 h1 h2 h3 E C
  clear az aM
  exact .d <| .rb Tryz.func48 Tryz.results48 aL ⟨(VS.of (y := (⟨(⟨([] : List (List Tag)), ([] : List Pst)⟩ : Idx), ([] : List Prt), ([] : List Smp)⟩ : Sto)) ⟨_, rfl, ⟨_, _, _, _, _, _, _, _, _, _, _, _, rfl, (RepS.nil' _ _ none 0 (by decide)), (RepS.nil' _ _ none 0 (by decide)), (RepS.nil' _ _ none 0 (by decide)), (RepS.nil' _ _ none 0 (by decide))⟩⟩ (by exact (dopen_1 (by assumption)).symm)), C⟩
 refine .r 1 <| .d <| .cf <| .sk <| .s <| .g <| .ln E <| .cl (c_spec_l21Open d h1 h2 h3 (by have := p0.g.len; omega) p0.g.sz (by have := p0.nl; omega) (lstOk_at (diskOk_nm (by assumption)).2.2) (w := aK) (F := nin (fo F w.heap.size) [O, J])) ?_
 rintro bF aN ⟨⟨_, rfl, ⟨bG, bH, bI, bJ, bK, bL, bM, bN, bO, bP, bQ, bR, rfl, am, ao, aq, ar⟩⟩, aA⟩
 have ag := al2 V.lt E.lt
 have aj : Gb w.heap.size aK.heap.size := C.size
 replace ⟨E, V, C⟩ := (se [] aA).g3 E V C
 clear aA
 replace am := RepS.mixed' (M := [O, J]) am ag aj
 have bw := am.max
 replace ao := RepS.mixed' (M := [O, J]) ao ag aj
 have bz := ao.max
 replace aq := RepS.mixed' (M := [O, J]) aq ag aj
 have bA := aq.max
 replace ar := RepS.mixed' (M := [O, J]) ar ag aj
 have bB := ar.max
 clear ag
 have aO := am.len
 subst aO
 have aP := ao.len
 subst aP
 have aQ := aq.len
 subst aQ
 have aR := ar.len
 subst aR
 refine .cl (c_spec_l13Copy (⟨(⟨((openS d).idx).names, ((openS d).idx).posts⟩ : Idx), (openS d).parts, (openS d).mem⟩ : Sto) am.ta ao.ta aq.ta ar.ta (p0.sd (by assumption)).sz (w := aN) (F := all)) ?_
 rintro bS av ⟨⟨aV, bT, aW, aX, bU, aY, aZ, bV, ba, ae, bc, bd, rfl, aa, ab, ac, W, ak⟩, aB⟩
 have ah := al2 V.lt E.lt
 have af : Gb w.heap.size aN.heap.size := C.size
 have bg := nb_ge ak E.lt
 have bh := nb_ge ak V.lt
 have aC := gb_ge ak C.size
 replace ⟨V, C⟩ := (se [] aB).g2 V C
 clear aB ak
 replace aa : RepS av (nin (ge w.heap.size) [ae, O, J]) _ _ _ _ := RepS.takeM (s0 := w.heap.size) (M := [O, J]) aa ah af
 replace aa := aa.base (G' := fo F w.heap.size) (fun _ _ h => .inr h)
 have bi := aa.max
 replace ab : RepS av (nin (ge w.heap.size) [ae, O, J]) _ _ _ _ := RepS.takeM (s0 := w.heap.size) (M := [O, J]) ab ah af
 replace ab := ab.base (G' := fo F w.heap.size) (fun _ _ h => .inr h)
 have bj := ab.max
 replace ac : RepS av (nin (ge w.heap.size) [ae, O, J]) _ _ _ _ := RepS.takeM (s0 := w.heap.size) (M := [O, J]) ac ah af
 replace ac := ac.base (G' := fo F w.heap.size) (fun _ _ h => .inr h)
 have bk := ac.max
 replace W : Own av ae 51 (nin (ge w.heap.size) [ae, O, J]) _ _ _ := Own.takeM (s0 := w.heap.size) (M := [O, J]) W ah af
 replace W := W.base (G' := fo F w.heap.size) (fun _ _ h => .inr h)
 have bm := W.max
 have bn := W.len
 clear ah
 have aD := aa.len
 subst aD
 have aE := ab.len
 subst aE
 have aF := ac.len
 subst aF
 refine .sc [.slice aV (((((copyS (⟨(⟨((openS d).idx).names, ((openS d).idx).posts⟩ : Idx), (openS d).parts, (openS d).mem⟩ : Sto))).idx).names).length) aW, .slice aX (((((copyS (⟨(⟨((openS d).idx).names, ((openS d).idx).posts⟩ : Idx), (openS d).parts, (openS d).mem⟩ : Sto))).idx).posts).length) aY, .slice aZ ((((copyS (⟨(⟨((openS d).idx).names, ((openS d).idx).posts⟩ : Idx), (openS d).parts, (openS d).mem⟩ : Sto))).parts).length) ba, vS ae bc bd] V fun aS au aG aH => ?_
 replace ⟨aa, ab, ac, W, C⟩ := (so [ae, O, J] au).g5 aa ab ac W C
 clear au aH
 refine .d ?_
 have aT := W.sl (.inr aC)
 replace ⟨aa, ab, ac⟩ := (sd aS [ae, O, J] ae).g3 aa ab ac
 exact .rb Tryz.func48 Tryz.results48 aG ⟨(VS.of (y := (⟨(⟨(((copyS (⟨(⟨((openS d).idx).names, ((openS d).idx).posts⟩ : Idx), (openS d).parts, (openS d).mem⟩ : Sto))).idx).names, (((copyS (⟨(⟨((openS d).idx).names, ((openS d).idx).posts⟩ : Idx), (openS d).parts, (openS d).mem⟩ : Sto))).idx).posts⟩ : Idx), ((copyS (⟨(⟨((openS d).idx).names, ((openS d).idx).posts⟩ : Idx), (openS d).parts, (openS d).mem⟩ : Sto))).parts, ((copyS (⟨(⟨((openS d).idx).names, ((openS d).idx).posts⟩ : Idx), (openS d).parts, (openS d).mem⟩ : Sto))).mem⟩ : Sto)) ⟨_, rfl, ⟨_, _, _, _, _, _, _, _, _, _, _, _, rfl, aa.w1, ab.w1, ac.w1, aT.w1⟩⟩ (by exact dopen_c p0 (by assumption))), C⟩
theorem c_impl_DiskOpen (d : Dsk) {w : World} {F : Nat → Prop} {a1 : Option Addr} {n1 c1 : Nat} (h1 : RepS w F a1 n1 c1 d.files) {a2 : Option Addr} {n2 c2 : Nat} (h2 : RepS w F a2 n2 c2 d.list) {a3 : Option Addr} {n3 c3 : Nat} (h3 : RepS w F a3 n3 c3 d.names) (p0 : DD d) : Calls Tryz.prog 47 [.agg #[.slice a1 n1 c1, .slice a2 n2 c2, .slice a3 n3 c3, .int .i64 d.next]].toArray w (rets fun rv w' => VS (fo F w.heap.size) w' (dopenS d : Sto) rv ∧ Ext w w') := by
 refine goT Tryz.func47 ?_
 obtain ⟨rfl, aN, h1⟩ := h1.tp
 obtain ⟨rfl, aO, h2⟩ := h2.tp
 obtain ⟨rfl, aP, h3⟩ := h3.tp
 refine .s <| .g <| .np 83 [.slice a1 d.files.length c1, .slice a2 d.list.length c2, .slice a3 d.names.length c3, vI d.next] fun ah aY ai af E ar => ?_
 replace ⟨h1, h2, h3⟩ := (sn [] af ai).g3 h1 h2 h3
 have C := af
 clear af ar ai
 refine .np 30 [.slice none 0 0, .slice none 0 0, .slice none 0 0, .slice none 0 0] fun aq aE ac aj J au => ?_
 have aQ := nb_new ac E.lt
 have aR := C.cn ac
 replace ⟨h1, h2, h3, E, C⟩ := (sn [ah] aj ac).g5 h1 h2 h3 E C
 clear aj au ac
 refine .d <| .s <| .s <| .g <| .ln E <| .cl (c_impl_DiskOk d h1.ta h2.ta h3.ta p0 (w := aE) (F := all)) ?_
 rintro aZ av ⟨rfl, ak⟩
 replace ⟨h1, h2, h3, E, J, C⟩ := (se [aq, ah] ak).g6 h1 h2 h3 E J C
 clear ak
 cases aS : (diskOk d)
 ·refine .r 1 <| .d <| .ct <| .s <| .g <| .r 1 <| .sc [.slice none 0 0, .slice none 0 0, .slice none 0 0, .slice none 0 0] J fun ba al aw ax => ?_
  replace ⟨h1, h2, h3, E, C⟩ := (so [aq, ah] al).g5 h1 h2 h3 E C
  clear al ax
  exact .d <| .rb Tryz.func47 Tryz.results47 aw ⟨(VS.of (y := (⟨(⟨([] : List (List Tag)), ([] : List Pst)⟩ : Idx), ([] : List Prt), ([] : List Smp)⟩ : Sto)) ⟨_, rfl, ⟨_, _, _, _, _, _, _, _, _, _, _, _, rfl, (RepS.nil' _ _ none 0 (by decide)), (RepS.nil' _ _ none 0 (by decide)), (RepS.nil' _ _ none 0 (by decide)), (RepS.nil' _ _ none 0 (by decide))⟩⟩ (by exact (dopen_1 (by assumption)).symm)), C⟩
 refine .r 1 <| .d <| .cf <| .sk <| .s <| .g <| .ln E <| .cl (c_impl_Disk_open d h1.ta h2.ta h3.ta p0 (lstOk_at (diskOk_nm (by assumption)).2.2) (w := av) (F := all)) ?_
 rintro bc bd ⟨⟨ag, ⟨_, rfl, ⟨aF, bg, aG, aH, bh, aI, aJ, bi, aK, aL, bj, aM, rfl, O, V, W, aa⟩⟩, aT⟩, am⟩
 have ab := al2 J.lt E.lt
 have ae : Gb w.heap.size av.heap.size := C.size
 replace ⟨J, C⟩ := (se [] am).g2 J C
 clear am
 have O := O.fr ab ae
 replace O := O.base (G' := fo F w.heap.size) (fun _ _ h => .inr h)
 have aU := O.max
 have V := V.fr ab ae
 replace V := V.base (G' := fo F w.heap.size) (fun _ _ h => .inr h)
 have aV := V.max
 have W := W.fr ab ae
 replace W := W.base (G' := fo F w.heap.size) (fun _ _ h => .inr h)
 have aW := W.max
 have aa := aa.fr ab ae
 replace aa := aa.base (G' := fo F w.heap.size) (fun _ _ h => .inr h)
 have aX := aa.max
 clear ab
 have ay := O.len
 subst ay
 have az := V.len
 subst az
 have aA := W.len
 subst aA
 have aB := aa.len
 subst aB
 refine .sc [.slice aF ag.idx.names.length aG, .slice aH ag.idx.posts.length aI, .slice aJ ag.parts.length aK, .slice aL ag.mem.length aM] J fun bk ao aC aD => ?_
 replace ⟨O, V, W, aa, C⟩ := (so [aq, ah] ao).g5 O V W aa C
 clear ao aD
 exact .d <| .rb Tryz.func47 Tryz.results47 aC ⟨(VS.of (y := ag) ⟨_, rfl, ⟨_, _, _, _, _, _, _, _, _, _, _, _, rfl, O.w1, V.w1, W.w1, aa.w1⟩⟩ (by exact OpenY.eq (by assumption : OpenY d _) p0 (by assumption))), C⟩
end Go.Proofs.YtfnpaglcnmcnbaaGreat
namespace Go.Proofs.YtfnpaglcnmcnbaaGreat
theorem rowsI_cut {s : Sto} (h : SD s) (hk : storeOk s = true) {id : Int} {p : List Tag → Bool} (hid : id ∈ findP p 0 s.idx.names) (lo hi : Int) : cutI (rowsI s id) lo hi = cutB (rowsOf s id) lo hi := by
 have := findP_in hid
 rw [rowsI_in hk this.1 this.2, cutI_rows h hk this.1 this.2]
def askInv (s : Sto) (f : List Cnd) (lo hi : Int) (i k : Nat) : Prop := ((findP (fitsI f) 0 s.idx.names).drop i).flatMap (hit1 s lo hi) = (askS s f lo hi).drop k
theorem askInv.start {s : Sto} {f : List Cnd} {lo hi : Int} (h : SD s) (hk : storeOk s = true) : askInv s f lo hi 0 0 := by
 unfold askInv
 rw [askS_I h hk]
 rfl
theorem askInv.skip {s : Sto} {f : List Cnd} {lo hi : Int} {i k : Nat} {id : Int} (h : askInv s f lo hi i k) (hs : SD s) (hk : storeOk s = true) (hd : (findP (fitsI f) 0 s.idx.names).drop i = id :: (findP (fitsI f) 0 s.idx.names).drop (i + 1)) (hl : ((cutI (rowsI s id) lo hi).length : Int) = 0) : askInv s f lo hi (i + 1) k := by
 have hm : id ∈ findP (fitsI f) 0 s.idx.names := List.mem_of_mem_drop (by rw [hd]; simp)
 rw [rowsI_cut hs hk hm] at hl
 unfold askInv at h ⊢
 rw [hd, List.flatMap_cons] at h
 have e : hit1 s lo hi id = [] := by unfold hit1; rw [if_neg (by omega)]
 rw [e, List.nil_append] at h
 exact h
theorem askInv.fin {s : Sto} {f : List Cnd} {lo hi : Int} {i k : Nat} (h : askInv s f lo hi i k) (hi2 : (findP (fitsI f) 0 s.idx.names).length ≤ i) : (askS s f lo hi).length ≤ k := by
 unfold askInv at h
 rw [drop_end hi2] at h
 have := congrArg List.length h
 simp only [List.flatMap_nil, List.length_nil, List.length_drop] at this
 omega
end Go.Proofs.YtfnpaglcnmcnbaaGreat
namespace Go.Proofs.YtfnpaglcnmcnbaaGreat
theorem ask_same {s x : Sto} {f : List Cnd} (hi : x.idx = s.idx) (hk : storeOk s = storeOk x) (hr : storeOk s = true → ∀ id : Int, 1 ≤ id → id ≤ s.idx.names.length → rowsOf x id = rowsOf s id) (lo hi2 : Int) : askS x f lo hi2 = askS s f lo hi2 := by
 unfold askS
 rw [← hk]
 cases hs : storeOk s && filtOk f with
 | false => rfl
 | true =>
   simp only [Bool.and_eq_true] at hs
   rw [if_pos rfl, if_pos rfl]
   unfold askP
   rw [hi]
   have key : ∀ (l : List Int), (∀ i ∈ l, 1 ≤ i ∧ i ≤ s.idx.names.length) → l.flatMap (hit1 x lo hi2) = l.flatMap (hit1 s lo hi2) := by
    intro l
    induction l with
    | nil => intro _; rfl
    | cons i is ih =>
      intro h
      rw [List.flatMap_cons, List.flatMap_cons, ih (fun j hj => h j (by simp [hj]))]
      have h1 := h i (by simp)
      unfold hit1
      rw [hr hs.1 i h1.1 h1.2, hi]
   exact key _ (fun i hi => findP_in hi)
end Go.Proofs.YtfnpaglcnmcnbaaGreat
namespace Go.Proofs.YtfnpaglcnmcnbaaGreat
theorem pMerge_of (a b : Prt) {id : Int} (h1 : 1 ≤ id) (h2 : id ≤ 6) : partOf (pMerge a b) id = sMerge (partOf a id) (partOf b id) := by
 unfold pMerge
 rw [pMake_of _ h1, List.getD_eq_getElem?_getD]
 unfold pMergeL
 rw [List.getElem?_map, List.getElem?_range (by omega)]
 simp only [Option.map_some, Option.getD_some]
 rw [show (((id - 1).toNat : Nat) : Int) + 1 = id by omega]
def mergeX (s : Sto) (k : Nat) : Sto := ⟨s.idx, mergeP s.parts k, s.mem⟩
theorem mgT_yes {s : Sto} {i : Int} (h : SD s) (h1 : (mergeT s i).2 = true) : storeOk s = true ∧ 0 ≤ i ∧ i + 2 ≤ s.parts.length ∧ (mergeT s i).1 = mergeX s i.toNat := by
 cases hk : storeOk s with
 | false => rw [mergeT_no hk] at h1; cases h1
 | true =>
   cases hr : inR i 0 ((s.parts.length : Int) - 2) with
   | false => rw [mergeJ_1 h hk hr] at h1; cases h1
   | true =>
     have h2 := inR_t hr
     refine ⟨rfl, h2.1, by omega, ?_⟩
     rw [mergeT_yes hk, h.copy]
     unfold mergeR
     rw [if_pos hr]
     rfl
theorem mergeX_at {s : Sto} {k : Nat} (hk : k + 2 ≤ s.parts.length) : ∃ x y, s.parts[k]? = some x ∧ s.parts[k + 1]? = some y ∧ (mergeX s k).parts = s.parts.take k ++ [pMerge x y] ++ s.parts.drop (k + 2) := by
 refine ⟨_, _, List.getElem?_eq_getElem (by omega), List.getElem?_eq_getElem (by omega), ?_⟩
 exact mergeP_at (List.getElem?_eq_getElem (by omega)) (List.getElem?_eq_getElem (by omega))
theorem mergeX_rows {s : Sto} (h : StoK s) {k : Nat} (hk : k + 2 ≤ s.parts.length) {id : Int} (h1 : 1 ≤ id) (h2 : id ≤ 6) : (mergeX s k).parts.foldl (rowsP id) [] = s.parts.foldl (rowsP id) [] ∧ rowsOf (mergeX s k) id = rowsOf s id := by
 obtain ⟨x, y, hx, hy, e⟩ := mergeX_at hk
 have key : (mergeX s k).parts.foldl (rowsP id) [] = s.parts.foldl (rowsP id) [] := by
  have hs : s.parts = s.parts.take k ++ [x, y] ++ s.parts.drop (k + 2) := by
   have e1 := List.take_append_drop k s.parts
   rw [drop_at hx, drop_at hy] at e1
   rw [List.append_assoc]
   exact e1.symm
  rw [e]
  conv => rhs; rw [hs]
  simp only [List.foldl_append, List.foldl_cons, List.foldl_nil]
  congr 1
  have px := h.sd.part x (List.mem_of_getElem? hx)
  have py := h.sd.part y (List.mem_of_getElem? hy)
  have ho : Blk ((s.parts.take k).foldl (rowsP id) []) := parts_blk (fun p hp => h.sd.part p (List.mem_of_mem_take hp)) Blk.nil
  unfold rowsP
  rw [pMerge_of x y h1 h2]
  exact (sMerge_assoc ho (px.of id) (py.of id)).symm
 refine ⟨key, ?_⟩
 unfold rowsOf
 rw [key]
 rfl
theorem partIn_pos {p : Prt} {n : Int} (h : partIn p n = true) : ∃ id : Int, 1 ≤ id ∧ id ≤ 6 ∧ id ≤ n ∧ 0 < (partOf p id).length := by
 have hle := part_le h
 unfold partIn at h
 simp only [Bool.and_eq_true] at h
 obtain ⟨h1, h2⟩ := h
 unfold partOk at h1
 simp only [Bool.and_eq_true, decide_eq_true_eq] at h1
 obtain ⟨h3, h4⟩ := h1
 unfold partOf
 cases hi : p.ids with
 | nil => rw [hi] at h2; simp at h2
 | cons i is =>
   cases hb : p.blocks with
   | nil => rw [hi, hb] at h3; simp at h3
   | cons b bs =>
     rw [hi, hb] at h4
     unfold partG at h4
     simp only [Bool.and_eq_true, decide_eq_true_eq] at h4
     have h5 := inR_t h4.1.1.1.1
     refine ⟨i, h5.1, h5.2, hle i (by rw [hi]; simp), ?_⟩
     unfold partF
     rw [if_pos (by simp)]
     exact h4.1.1.2
theorem merge_len24 {s : Sto} (h : SD s) (hk : storeOk s = true) {x y : Prt} (hx : x ∈ s.parts) (hy : y ∈ s.parts) {id : Int} (h1 : 1 ≤ id) (h2 : id ≤ 6) : Blk (sMerge (partOf x id) (partOf y id)) ∧ (sMerge (partOf x id) (partOf y id)).length ≤ 24 := by
 have e := mergQ_ok h hk hx hy
 unfold mergQ at e
 split at e
 ·rename_i hc
  obtain ⟨ox, oy, hm⟩ := hc
  unfold okM at hm
  rw [List.all_eq_true] at hm
  have := hm (id - 1).toNat (by rw [List.mem_range]; omega)
  rw [show (((id - 1).toNat : Nat) : Int) + 1 = id by omega] at this
  have e1 : partI x id = partOf x id := by unfold partI; rw [if_pos ox]
  have e2 : partI y id = partOf y id := by unfold partI; rw [if_pos oy]
  rw [e1, e2] at this
  refine ⟨(blkOf (partOk_of ox id)).merge (blkOf (partOk_of oy id)), ?_⟩
  unfold mergI at this
  split at this
  ·rename_i hc; have := hc.2.2; omega
  ·cases this
 ·exact absurd (congrArg Prod.snd e) (by simp)
theorem mergeX_ok {s : Sto} (h : SD s) (hk : storeOk s = true) {k : Nat} (hl : k + 2 ≤ s.parts.length) : storeOk (mergeX s k) = true := by
 have hK := StoK.of h hk
 obtain ⟨x, y, hx, hy, e⟩ := mergeX_at hl
 have mx := List.mem_of_getElem? hx
 have my := List.mem_of_getElem? hy
 have hn := h.nm.len
 have hk2 := hk
 unfold storeOk at hk2 ⊢
 simp only [Bool.and_eq_true, decide_eq_true_eq, List.all_eq_true, List.mem_range, cntOk] at hk2 ⊢
 obtain ⟨⟨⟨⟨a1, a2⟩, a3⟩, a4⟩, a5⟩ := hk2
 refine ⟨⟨⟨⟨?_, a2⟩, fun p hp => ?_⟩, a4⟩, fun i hi => ?_⟩
 ·rw [e]
  simp only [List.length_append, List.length_take, List.length_drop, List.length_cons, List.length_nil]
  omega
 ·rw [e] at hp
  simp only [List.mem_append, List.mem_cons, List.not_mem_nil, or_false] at hp
  rcases hp with (hp | rfl) | hp
  ·exact a3 p (List.mem_of_mem_take hp)
  ·show partIn (pMake (pMergeL x y 6)) s.idx.names.length = true
   have hblk : ∀ (i : Nat) b, (pMergeL x y 6)[i]? = some b → i < 6 ∧ b = sMerge (partOf x ((i : Int) + 1)) (partOf y ((i : Int) + 1)) := fun i b hb => by
    unfold pMergeL at hb
    rw [List.getElem?_map] at hb
    by_cases hi : i < 6
    ·rw [List.getElem?_range hi] at hb
     simp only [Option.map_some, Option.some.injEq] at hb
     exact ⟨hi, hb.symm⟩
    ·rw [List.getElem?_eq_none (by simp; omega)] at hb
     cases hb
   refine pMake_in (fun b hb => ?_) (by rw [pMergeL_len]; omega) ?_ (fun i b hb hp => ?_)
   ·obtain ⟨i, hi⟩ := List.mem_iff_getElem?.1 hb
    obtain ⟨h6, rfl⟩ := hblk i b hi
    exact merge_len24 h hk mx my (by omega) (by omega)
   ·obtain ⟨id, g1, g2, _, g4⟩ := partIn_pos (a3 x mx)
    refine ⟨sMerge (partOf x id) (partOf y id), ?_, ?_⟩
    ·unfold pMergeL
     refine List.mem_map.2 ⟨(id - 1).toNat, by simp; omega, ?_⟩
     rw [show (((id - 1).toNat : Nat) : Int) + 1 = id by omega]
    ·have bx := (h.part x mx).of id
     have by' := (h.part y my).of id
     have := look_le bx (bx.merge by') (fun t ht => by
      rw [look_merge t _ bx by']
      cases look t (partOf y id) with
      | none => exact ht
      | some q => rfl)
     omega
   ·obtain ⟨h6, rfl⟩ := hblk i b hb
    by_cases hin : i < s.idx.names.length
    ·exact hin
    ·rw [partOf_gt (p := x) (fun j hj => by have := part_le (a3 x mx) j hj; omega), partOf_gt (p := y) (fun j hj => by have := part_le (a3 y my) j hj; omega)] at hp
     exact absurd hp (by decide)
  ·exact a3 p (List.mem_of_mem_drop hp)
 ·rw [(mergeX_rows hK hl (by omega) (by have : i < s.idx.names.length := hi; omega)).2]
  exact a5 i hi
theorem mergeX_sd {s : Sto} (h : SD s) {k : Nat} (hl : k + 2 ≤ s.parts.length) : SD (mergeX s k) := by
 obtain ⟨x, y, hx, hy, e⟩ := mergeX_at hl
 refine ⟨h.idx, h.nm, h.nd, ?_, fun p hp => ?_, h.nm2, h.mem⟩
 ·have := h.np
  rw [e]
  simp only [List.length_append, List.length_take, List.length_drop, List.length_cons, List.length_nil]
  omega
 ·rw [e] at hp
  simp only [List.mem_append, List.mem_cons, List.not_mem_nil, or_false] at hp
  rcases hp with (hp | rfl) | hp
  ·exact h.part p (List.mem_of_mem_take hp)
  ·exact (h.part x (List.mem_of_getElem? hx)).merge (h.part y (List.mem_of_getElem? hy))
  ·exact h.part p (List.mem_of_mem_drop hp)
section
variable {s : Sto} {i : Int}
theorem merge_sd (h : SD s) (h1 : (mergeT s i).2 = true) : SD (mergeT s i).1 := by
 obtain ⟨_, h2, h3, e⟩ := mgT_yes h h1
 rw [e]
 exact mergeX_sd h (by omega)
theorem merge_says (h : SD s) (h1 : (mergeT s i).2 = true) : askS (mergeT s i).1 [] 0 99 = askS s [] 0 99 ∧ storeOk (mergeT s i).1 = true := by
 obtain ⟨hk, h2, h3, e⟩ := mgT_yes h h1
 have h5 := mergeX_ok h hk (k := i.toNat) (by omega)
 rw [e]
 exact ⟨ask_same (x := mergeX s i.toNat) (s := s) rfl (hk.trans h5.symm) (fun _ id a b => (mergeX_rows (StoK.of h hk) (by omega) a (by have := h.nm.len; omega)).2) _ _, h5⟩
theorem merge_len (h : SD s) (h1 : (mergeT s i).2 = true) : (mergeT s i).1.parts.length + 1 = s.parts.length ∧ 0 ≤ i ∧ i + 2 ≤ s.parts.length ∧ i + 1 ≤ (mergeT s i).1.parts.length := by
 obtain ⟨hk, h2, h3, e⟩ := mgT_yes h h1
 obtain ⟨x, y, hx, hy, e2⟩ := mergeX_at (s := s) (k := i.toNat) (by omega)
 rw [e, e2]
 simp only [List.length_append, List.length_take, List.length_drop, List.length_cons, List.length_nil]
 omega
end
end Go.Proofs.YtfnpaglcnmcnbaaGreat
namespace Go.Proofs.YtfnpaglcnmcnbaaGreat
structure MI (s y : Sto) (i : Nat) : Prop where
 sd : SD y
 ok : storeOk y = true
 idx : y.idx = s.idx
 mem : y.mem = s.mem
 lo : 1 ≤ y.parts.length
 hi : y.parts.length ≤ 1 ∨ y.parts.length + i ≤ 6
 rows : ∀ id : Int, 1 ≤ id → id ≤ 6 → y.parts.foldl (rowsP id) [] = s.parts.foldl (rowsP id) []
theorem MI.step {s y : Sto} {i : Nat} {a : Int} (h : MI s y i) (h1 : (mergeT y a).2 = true) : MI s (mergeT y a).1 (i + 1) := by
 obtain ⟨hk, h2, h3, e⟩ := mgT_yes h.sd h1
 have hl := merge_len h.sd h1
 refine ⟨merge_sd h.sd h1, (merge_says h.sd h1).2, by rw [e]; exact h.idx, by rw [e]; exact h.mem, by omega, ?_, fun id a1 a2 => ?_⟩
 ·have := h.hi; omega
 ·rw [e, (mergeX_rows (StoK.of h.sd hk) (by omega) a1 a2).1]
  exact h.rows id a1 a2
theorem MI.start {s : Sto} {a : Int} (h : SD s) (h1 : (mergeT s a).2 = true) : MI s s 0 ∧ MI s (mergeT s a).1 0 := by
 obtain ⟨hk, h2, h3, e⟩ := mgT_yes h h1
 have h0 : MI s s 0 := ⟨h, hk, rfl, rfl, by omega, .inr (by have := h.np; omega), fun _ _ _ => rfl⟩
 have h4 := h0.step h1
 exact ⟨h0, h4.sd, h4.ok, h4.idx, h4.mem, h4.lo, by have := h4.hi; omega, h4.rows⟩
theorem MI.one {s y : Sto} {i : Nat} (h : MI s y i) (hi : 6 ≤ i) : y.parts.length = 1 := by have := h.lo; have := h.hi; omega
theorem partG_at : ∀ (is : List Int) (bs : List (List Row)) (o : Option Int), partG o is bs = true → is.length = bs.length → ∀ is' bs', partG o is' bs' = true → is'.length = bs'.length → (∀ id : Int, partF id is bs = partF id is' bs') → is = is' ∧ bs = bs' := by
 have low : ∀ (is : List Int) (bs : List (List Row)) (o : Option Int), partG o is bs = true → ∀ q, o = some q → ∀ i ∈ is, q < i := by
  intro is
  induction is with
  | nil => intro bs o _ q _ i hi; cases hi
  | cons x xs ih =>
    intro bs o hg q hq i hi
    cases bs with
    | nil => simp [partG] at hg
    | cons b bs =>
      simp only [partG, Bool.and_eq_true] at hg
      have hx : q < x := by have := hg.1.1.1.2; rw [hq] at this; simpa using this
      rcases List.mem_cons.1 hi with rfl | hi
      ·exact hx
      ·have := ih bs (some x) hg.2 x rfl i hi; omega
 have none_of : ∀ (is : List Int) (bs : List (List Row)) (id : Int), (∀ i ∈ is, i ≠ id) → partF id is bs = [] := by
  intro is
  induction is with
  | nil => intro bs id _; unfold partF; rfl
  | cons i is ih =>
    intro bs id h
    cases bs with
    | nil => unfold partF; rfl
    | cons b bs =>
      unfold partF
      rw [if_neg (by have := h i (by simp); simpa using this)]
      exact ih bs id (fun j hj => h j (by simp [hj]))
 have mem_of : ∀ (is : List Int) (bs : List (List Row)) (id : Int), partF id is bs ≠ [] → id ∈ is := by
  intro is bs id h
  rcases Classical.em (id ∈ is) with h1 | h1
  ·exact h1
  ·exact absurd (none_of is bs id (fun i hi e => h1 (e ▸ hi))) h
 intro is
 induction is with
 | nil =>
   intro bs o hg hl is' bs' hg' hl' h
   cases bs with
   | cons _ _ => simp at hl
   | nil =>
     cases is' with
     | nil =>
       cases bs' with
       | nil => exact ⟨rfl, rfl⟩
       | cons _ _ => simp at hl'
     | cons i is' =>
       cases bs' with
       | nil => simp at hl'
       | cons b bs' =>
         simp only [partG, Bool.and_eq_true, decide_eq_true_eq] at hg'
         have := h i
         unfold partF at this
         rw [if_pos (by simp)] at this
         rw [← this] at hg'
         exact absurd hg'.1.1.2 (by simp)
 | cons i is ih =>
   intro bs o hg hl is' bs' hg' hl' h
   cases bs with
   | nil => simp at hl
   | cons b bs =>
     have hg0 := hg
     simp only [partG, Bool.and_eq_true, decide_eq_true_eq] at hg
     cases is' with
     | nil =>
       cases bs' with
       | cons _ _ => simp at hl'
       | nil =>
         have := h i
         unfold partF at this
         rw [if_pos (by simp)] at this
         rw [this] at hg
         exact absurd hg.1.1.2 (by simp)
     | cons i' is' =>
       cases bs' with
       | nil => simp at hl'
       | cons b' bs' =>
         have hg0' := hg'
         simp only [partG, Bool.and_eq_true, decide_eq_true_eq] at hg'
         have a1 : partF i (i' :: is') (b' :: bs') = b := by rw [← h i]; unfold partF; rw [if_pos (by simp)]
         have a2 : partF i' (i :: is) (b :: bs) = b' := by rw [h i']; unfold partF; rw [if_pos (by simp)]
         have m1 := mem_of _ _ i (by rw [a1]; exact List.ne_nil_of_length_pos hg.1.1.2)
         have m2 := mem_of _ _ i' (by rw [a2]; exact List.ne_nil_of_length_pos hg'.1.1.2)
         have hii : i = i' := by
          rcases List.mem_cons.1 m1 with e | e
          ·exact e
          ·rcases List.mem_cons.1 m2 with e2 | e2
           ·exact e2.symm
           ·have := low is' bs' (some i') hg'.2 i' rfl i e
            have := low is bs (some i) hg.2 i rfl i' e2
            omega
         subst hii
         have hbb : b = b' := by
          rw [← a1]
          unfold partF
          rw [if_pos (by simp)]
         subst hbb
         have := ih bs (some i) hg.2 (by simpa using hl) is' bs' hg'.2 (by simpa using hl') (fun id => by
          by_cases e : i = id
          ·subst e
           rw [none_of is bs i (fun j hj e => by have := low is bs (some i) hg.2 i rfl j hj; omega), none_of is' bs' i (fun j hj e => by have := low is' bs' (some i) hg'.2 i rfl j hj; omega)]
          ·have := h id
           unfold partF at this
           rw [if_neg (by simpa using e), if_neg (by simpa using e)] at this
           exact this)
         rw [this.1, this.2]
         exact ⟨rfl, rfl⟩
theorem part_ext {p q : Prt} (hp : partOk p = true) (hq : partOk q = true) (h : ∀ id : Int, partOf p id = partOf q id) : p = q := by
 unfold partOk at hp hq
 simp only [Bool.and_eq_true, decide_eq_true_eq] at hp hq
 obtain ⟨e1, e2⟩ := partG_at p.ids p.blocks none hp.2 hp.1 q.ids q.blocks hq.2 hq.1 h
 cases p
 cases q
 simp only [Prt.mk.injEq]
 exact ⟨e1, e2⟩
end Go.Proofs.YtfnpaglcnmcnbaaGreat
namespace Go.Proofs.YtfnpaglcnmcnbaaGreat
def badN (n : List Tag) : Nat := (n.filter (fun t => !tagOk t)).length
def NmX (n : List Tag) : Prop := NmD n ∧ badN n ≤ 1
theorem bad_all {n : List Tag} (h : ∀ t ∈ n, tagOk t = true) : badN n = 0 := by
 unfold badN
 rw [List.length_eq_zero_iff, List.filter_eq_nil_iff]
 intro t ht
 rw [h t ht]
 simp
theorem nmx_all {n : List Tag} (hl : n.length ≤ 5) (hd : ∀ t ∈ n, TagD t) (h : ∀ t ∈ n, tagOk t = true) : NmX n := ⟨⟨hl, hd⟩, by rw [bad_all h]; omega⟩
theorem nmx_set {n : List Tag} {i : Nat} {u : Tag} (hl : n.length ≤ 5) (hd : ∀ t ∈ n.set i u, TagD t) (h : ∀ t ∈ n, tagOk t = true) : NmX (n.set i u) := by
 refine ⟨⟨by rw [List.length_set]; exact hl, hd⟩, ?_⟩
 by_cases hi : i < n.length
 ·rw [List.set_eq_take_append_cons_drop, if_pos hi]
  unfold badN
  rw [List.filter_append, List.filter_cons]
  have h1 : ((n.take i).filter (fun t => !tagOk t)) = [] := List.filter_eq_nil_iff.2 (fun t ht => by rw [h t (List.mem_of_mem_take ht)]; simp)
  have h2 : ((n.drop (i + 1)).filter (fun t => !tagOk t)) = [] := List.filter_eq_nil_iff.2 (fun t ht => by rw [h t (List.mem_of_mem_drop ht)]; simp)
  rw [h1, h2]
  split <;> simp
 ·rw [List.set_eq_of_length_le (by omega), bad_all h]
  omega
theorem tag_ok9 {k v : Str} (hk : k ∈ [[97], [98], [99]]) (hv : v ∈ [[112], [113], [122]]) : tagOk ⟨k, v⟩ = true := by
 simp only [List.mem_cons, List.not_mem_nil, or_false] at hk hv
 rcases hk with rfl | rfl | rfl <;> rcases hv with rfl | rfl | rfl <;> decide
theorem tag_x9 {k v : Str} (hk : (⟨k⟩ : Txt) ∈ ([⟨[97]⟩, ⟨[98]⟩, ⟨[99]⟩] : List Txt)) (hv : (⟨v⟩ : Txt) ∈ ([⟨[112]⟩, ⟨[113]⟩, ⟨[122]⟩] : List Txt)) : TagD ⟨k, v⟩ ∧ tagOk ⟨k, v⟩ = true := by
 simp only [List.mem_cons, List.not_mem_nil, or_false, Txt.mk.injEq] at hk hv
 refine ⟨⟨?_, ?_⟩, tag_ok9 (by simpa using hk) (by simpa using hv)⟩
 ·simpa using hk
 ·rcases hv with rfl | rfl | rfl <;> simp
theorem tag_y9 {b : Txt} {v : Str} (hk : b = ⟨[97]⟩ ∨ b = ⟨[98]⟩ ∨ b = ⟨[99]⟩) (hv : (⟨v⟩ : Txt) ∈ ([⟨[112]⟩, ⟨[113]⟩, ⟨[122]⟩] : List Txt)) : TagD ⟨b.s, v⟩ ∧ tagOk ⟨b.s, v⟩ = true := tag_x9 (by rcases hk with rfl | rfl | rfl <;> simp) hv
theorem all_snoc {α : Type} {P : α → Prop} {l : List α} {x : α} (h : ∀ t ∈ l, P t) (hx : P x) : ∀ t ∈ l ++ [x], P t := fun t ht => by
 rcases List.mem_append.1 ht with ht | ht
 ·exact h t ht
 ·simp at ht
  subst ht
  exact hx
theorem nmg_snoc {ns : List (List Tag)} {n : List Tag} (h : NmI ns) (h2 : NsD ns) (hn : NmX n) : NmG (ns ++ [n]) := by
 have hl := h.len
 refine ⟨by rw [List.length_append]; simp; omega, fun m hm => ?_, ?_⟩
 ·rcases List.mem_append.1 hm with hm | hm
  ·exact h2 m hm
  ·simp at hm
   subst hm
   exact hn.1
 ·have hb : bldF 0 [] (ns ++ [n]) = n.foldl (addT ((ns.length : Int) + 1)) (bldF 0 [] ns) := by
   have key : ∀ (ns : List (List Tag)) (i : Nat) (xs : List Pst), bldF i xs (ns ++ [n]) = n.foldl (addT (((i + ns.length : Nat) : Int) + 1)) (bldF i xs ns) := by
    intro ns
    induction ns with
    | nil => intro i xs; rfl
    | cons m ms ih =>
      intro i xs
      show bldF (i + 1) (m.foldl (addT ((i : Int) + 1)) xs) (ms ++ [n]) = _
      rw [ih]
      show _ = n.foldl _ (bldF (i + 1) (m.foldl (addT ((i : Int) + 1)) xs) ms)
      rw [List.length_cons, show i + 1 + ms.length = i + (ms.length + 1) by omega]
   have := key ns 0 []
   simpa using this
  rw [hb]
  have hr := RepP.all0 h
  have hm : ∀ x ∈ bldF 0 [] ns, x.tag ∈ tags9 := fun x hx => by
   have g := hr.el x hx
   obtain ⟨m, hm, ht⟩ := ids_ne (by rw [← g.1]; exact g.2 : ids ns x.tag ≠ [])
   have ho := h.ok m hm
   simp only [nameOk, Bool.and_eq_true] at ho
   exact tags9_mem (nameF_tags m none ho.1 _ ht) ((h2 m hm).2 _ ht)
  have key : ∀ (n : List Tag) (xs : List Pst) (L : Tag → List Int) (i : Int), RepP xs L → (∃ L', RepP (n.foldl (addT i) xs) L') ∧ ∀ x ∈ n.foldl (addT i) xs, (∃ y ∈ xs, y.tag = x.tag) ∨ x.tag ∈ n := by
   intro n
   induction n with
   | nil => intro xs L i hx; exact ⟨⟨L, hx⟩, fun x hx => .inl ⟨x, hx, rfl⟩⟩
   | cons t ts ih =>
     intro xs L i hx
     have h1 : ∀ x ∈ addT i xs t, (∃ y ∈ xs, y.tag = x.tag) ∨ x.tag = t := fun x hx => by
      rcases idxP_spec t xs 0 with ⟨g1, _⟩ | ⟨g1, g2, y, g3, g4⟩
      ·rw [addT_new (by omega)] at hx
       rcases List.mem_append.1 hx with hx | hx
       ·exact .inl ⟨x, hx, rfl⟩
       ·simp at hx
        subst hx
        exact .inr rfl
      ·rw [Nat.sub_zero] at g3
       rw [addT_old (by omega) g3] at hx
       rcases List.mem_or_eq_of_mem_set hx with hx | rfl
       ·exact .inl ⟨x, hx, rfl⟩
       ·exact .inr g4
     obtain ⟨a, b⟩ := ih (addT i xs t) _ i (hx.add i t)
     refine ⟨a, fun x hx => ?_⟩
     rcases b x hx with ⟨y, hy, e⟩ | hm
     ·rcases h1 y hy with ⟨z, hz, e2⟩ | e2
      ·exact .inl ⟨z, hz, e2.trans e⟩
      ·exact .inr (by rw [← e, e2]; simp)
     ·exact .inr (by simp [hm])
  obtain ⟨⟨L', hL⟩, hmem⟩ := key n _ _ ((ns.length : Int) + 1) hr
  have := nodup_len _ (tags9 ++ n.filter (fun t => !tagOk t)) hL.nd (fun t ht => by
   obtain ⟨x, hx, rfl⟩ := List.mem_map.1 ht
   rcases hmem x hx with ⟨y, hy, e⟩ | hx2
   ·exact List.mem_append.2 (.inl (e ▸ hm y hy))
   ·cases hk : tagOk x.tag with
    | true => exact List.mem_append.2 (.inl (tags9_mem hk (hn.1.2 _ hx2)))
    | false => exact List.mem_append.2 (.inr (List.mem_filter.2 ⟨hx2, by rw [hk]; rfl⟩)))
  rw [List.length_map, List.length_append] at this
  have e9 : tags9.length = 9 := rfl
  have hb2 := hn.2
  unfold badN at hb2
  omega
theorem WD.dd {w : Wld} (h : WD w) : DD w.disk := ⟨NmG.of h.wi.dsk.nm h.dn, by have := h.wi.dsk.nl; omega, h.wi.dsk.nf, h.wi.dsk.file, by have := h.wi.dsk.next; omega⟩
def WG (w : Wld) : Prop := SD w.store ∧ DD w.disk
theorem WD.wg {w : Wld} (h : WD w) : WG w := ⟨h.sd, h.dd⟩
theorem WD.wg1 {w : Wld} (h : WD w) (n : Int) : WG ⟨w.store, ⟨w.disk.files, w.disk.list ++ [n], w.disk.names, w.disk.next⟩⟩ := ⟨h.sd, h.dd.g, by have := h.wi.dsk.nl; simp; omega, h.dd.nf, h.dd.file, h.dd.next⟩
theorem WD.wg2 {w : Wld} (h : WD w) {y : Int} {r : Row} (hy : 0 ≤ y ∧ y ≤ 7) (hr : RowSm r) : WG ⟨⟨w.store.idx, w.store.parts, w.store.mem ++ [⟨y, r⟩]⟩, w.disk⟩ := ⟨h.spoil hy hr, h.dd⟩
theorem WD.wg3 {w : Wld} (h : WD w) {k j : Nat} : WG ⟨w.store, ⟨(w.disk.files.take k).drop j, w.disk.list, w.disk.names, w.disk.next⟩⟩ := ⟨h.sd, h.dd.g, h.dd.nl, by have := h.dd.nf; rw [List.length_drop, List.length_take]; omega, fun f hf => h.dd.file f (List.mem_of_mem_take (List.mem_of_mem_drop hf)), h.dd.next⟩
theorem WD.wg4 {w : Wld} (h : WD w) {n : List Tag} (hn : NmX n) : WG ⟨w.store, ⟨w.disk.files, w.disk.list, w.disk.names ++ [n], w.disk.next⟩⟩ := ⟨h.sd, nmg_snoc h.wi.dsk.nm h.dn hn, h.dd.nl, h.dd.nf, h.dd.file, h.dd.next⟩
end Go.Proofs.YtfnpaglcnmcnbaaGreat
