/- Merged to one part all is told as it was: plain laws. -/
import Derived.Test.YtfnpaglcnmcnbaaGreatMrgzMod42
set_option linter.unusedVariables false
set_option linter.unusedSimpArgs false
namespace Go.Proofs.YtfnpaglcnmcnbaaGreat
structure MI (s y : Sto) (i : Nat) : Prop where
 sd : SD y
 ok : storeOk y = true
 idx : y.idx = s.idx
 mem : y.mem = s.mem
 lo : 1 ≤ y.parts.length
 hi : y.parts.length ≤ 1 ∨ y.parts.length + i ≤ 6
 rows : ∀ id : Int, 1 ≤ id → id ≤ 6 → y.parts.foldl (rowsP id) [] = s.parts.foldl (rowsP id) []
theorem MI.step {s y : Sto} {i : Nat} {a : Int} (h : MI s y i) (h1 : (mergeT y a).2 = true) : MI s (mergeT y a).1 (i + 1) := by
 obtain ⟨hk, h2, h3, e⟩ := mgT_yes h.sd h1
 have hl := merge_len h.sd h1
 refine ⟨merge_sd h.sd h1, (merge_says h.sd h1).2, by rw [e]; exact h.idx, by rw [e]; exact h.mem, by omega, ?_, fun id a1 a2 => ?_⟩
 ·have := h.hi; omega
 ·rw [e, (mergeX_rows (StoK.of h.sd hk) (by omega) a1 a2).1]
  exact h.rows id a1 a2
theorem MI.stay {s y : Sto} {i : Nat} {a : Int} (h : MI s y i) (h1 : (mergeT y a).2 = false) (ha : 0 ≤ a ∧ (2 ≤ y.parts.length → a + 2 ≤ y.parts.length)) : MI s y (i + 1) := by
 have h2 := (mgT_no h.sd h.ok h1).2
 exact ⟨h.sd, h.ok, h.idx, h.mem, h.lo, .inl (by omega), h.rows⟩
theorem MI.start {s : Sto} {a : Int} (h : SD s) (h1 : (mergeT s a).2 = true) : MI s s 0 ∧ MI s (mergeT s a).1 0 := by
 obtain ⟨hk, h2, h3, e⟩ := mgT_yes h h1
 have h0 : MI s s 0 := ⟨h, hk, rfl, rfl, by omega, .inr (by have := h.np; omega), fun _ _ _ => rfl⟩
 have h4 := h0.step h1
 exact ⟨h0, h4.sd, h4.ok, h4.idx, h4.mem, h4.lo, by have := h4.hi; omega, h4.rows⟩
theorem MI.one {s y : Sto} {i : Nat} (h : MI s y i) (hi : 6 ≤ i) : y.parts.length = 1 := by have := h.lo; have := h.hi; omega
theorem MI.says {s y : Sto} {i : Nat} (h : MI s y i) (hs : SD s) (hk : storeOk s = true) : askS y [] 0 99 = askS s [] 0 99 :=
 ask_same (x := y) (s := s) h.idx (hk.trans h.ok.symm) (fun _ id a b => by
  unfold rowsOf
  rw [h.rows id a (by have := hs.nm.len; omega), h.mem]) _ _
theorem partG_at : ∀ (is : List Int) (bs : List (List Row)) (o : Option Int), partG o is bs = true → is.length = bs.length → ∀ is' bs', partG o is' bs' = true → is'.length = bs'.length → (∀ id : Int, partF id is bs = partF id is' bs') → is = is' ∧ bs = bs' := by
 have low : ∀ (is : List Int) (bs : List (List Row)) (o : Option Int), partG o is bs = true → ∀ q, o = some q → ∀ i ∈ is, q < i := by
  intro is
  induction is with
  | nil => intro bs o _ q _ i hi; cases hi
  | cons x xs ih =>
    intro bs o hg q hq i hi
    cases bs with
    | nil => simp [partG] at hg
    | cons b bs =>
      simp only [partG, Bool.and_eq_true] at hg
      have hx : q < x := by have := hg.1.1.1.2; rw [hq] at this; simpa using this
      rcases List.mem_cons.1 hi with rfl | hi
      ·exact hx
      ·have := ih bs (some x) hg.2 x rfl i hi; omega
 have none_of : ∀ (is : List Int) (bs : List (List Row)) (id : Int), (∀ i ∈ is, i ≠ id) → partF id is bs = [] := by
  intro is
  induction is with
  | nil => intro bs id _; unfold partF; rfl
  | cons i is ih =>
    intro bs id h
    cases bs with
    | nil => unfold partF; rfl
    | cons b bs =>
      unfold partF
      rw [if_neg (by have := h i (by simp); simpa using this)]
      exact ih bs id (fun j hj => h j (by simp [hj]))
 have mem_of : ∀ (is : List Int) (bs : List (List Row)) (id : Int), partF id is bs ≠ [] → id ∈ is := by
  intro is bs id h
  rcases Classical.em (id ∈ is) with h1 | h1
  ·exact h1
  ·exact absurd (none_of is bs id (fun i hi e => h1 (e ▸ hi))) h
 intro is
 induction is with
 | nil =>
   intro bs o hg hl is' bs' hg' hl' h
   cases bs with
   | cons _ _ => simp at hl
   | nil =>
     cases is' with
     | nil =>
       cases bs' with
       | nil => exact ⟨rfl, rfl⟩
       | cons _ _ => simp at hl'
     | cons i is' =>
       cases bs' with
       | nil => simp at hl'
       | cons b bs' =>
         simp only [partG, Bool.and_eq_true, decide_eq_true_eq] at hg'
         have := h i
         unfold partF at this
         rw [if_pos (by simp)] at this
         rw [← this] at hg'
         exact absurd hg'.1.1.2 (by simp)
 | cons i is ih =>
   intro bs o hg hl is' bs' hg' hl' h
   cases bs with
   | nil => simp at hl
   | cons b bs =>
     have hg0 := hg
     simp only [partG, Bool.and_eq_true, decide_eq_true_eq] at hg
     cases is' with
     | nil =>
       cases bs' with
       | cons _ _ => simp at hl'
       | nil =>
         have := h i
         unfold partF at this
         rw [if_pos (by simp)] at this
         rw [this] at hg
         exact absurd hg.1.1.2 (by simp)
     | cons i' is' =>
       cases bs' with
       | nil => simp at hl'
       | cons b' bs' =>
         have hg0' := hg'
         simp only [partG, Bool.and_eq_true, decide_eq_true_eq] at hg'
         have a1 : partF i (i' :: is') (b' :: bs') = b := by rw [← h i]; unfold partF; rw [if_pos (by simp)]
         have a2 : partF i' (i :: is) (b :: bs) = b' := by rw [h i']; unfold partF; rw [if_pos (by simp)]
         have m1 := mem_of _ _ i (by rw [a1]; exact List.ne_nil_of_length_pos hg.1.1.2)
         have m2 := mem_of _ _ i' (by rw [a2]; exact List.ne_nil_of_length_pos hg'.1.1.2)
         have hii : i = i' := by
          rcases List.mem_cons.1 m1 with e | e
          ·exact e
          ·rcases List.mem_cons.1 m2 with e2 | e2
           ·exact e2.symm
           ·have := low is' bs' (some i') hg'.2 i' rfl i e
            have := low is bs (some i) hg.2 i rfl i' e2
            omega
         subst hii
         have hbb : b = b' := by
          rw [← a1]
          unfold partF
          rw [if_pos (by simp)]
         subst hbb
         have := ih bs (some i) hg.2 (by simpa using hl) is' bs' hg'.2 (by simpa using hl') (fun id => by
          by_cases e : i = id
          ·subst e
           rw [none_of is bs i (fun j hj e => by have := low is bs (some i) hg.2 i rfl j hj; omega), none_of is' bs' i (fun j hj e => by have := low is' bs' (some i) hg'.2 i rfl j hj; omega)]
          ·have := h id
           unfold partF at this
           rw [if_neg (by simpa using e), if_neg (by simpa using e)] at this
           exact this)
         rw [this.1, this.2]
         exact ⟨rfl, rfl⟩
theorem part_ext {p q : Prt} (hp : partOk p = true) (hq : partOk q = true) (h : ∀ id : Int, partOf p id = partOf q id) : p = q := by
 unfold partOk at hp hq
 simp only [Bool.and_eq_true, decide_eq_true_eq] at hp hq
 obtain ⟨e1, e2⟩ := partG_at p.ids p.blocks none hp.2 hp.1 q.ids q.blocks hq.2 hq.1 h
 cases p
 cases q
 simp only [Prt.mk.injEq]
 exact ⟨e1, e2⟩
theorem MI.same {s y z : Sto} {i : Nat} (hy : MI s y i) (hz : MI s z i) (hi : 6 ≤ i) {p q : Prt} (hp : y.parts[0]? = some p) (hq : z.parts[0]? = some q) (hf : (p == q) = false) : False := by
 have l1 := hy.one hi
 have l2 := hz.one hi
 have e1 : y.parts = [p] := by
  match hh : y.parts, l1 with
  | [x], _ => rw [hh] at hp; simp at hp; rw [hp]
 have e2 : z.parts = [q] := by
  match hh : z.parts, l2 with
  | [x], _ => rw [hh] at hq; simp at hq; rw [hq]
 have kp := (StoK.of hy.sd hy.ok).part p (by rw [e1]; simp)
 have kq := (StoK.of hz.sd hz.ok).part q (by rw [e2]; simp)
 have key : p = q := part_ext kp.2 kq.2 (fun id => by
  by_cases hid : 1 ≤ id ∧ id ≤ 6
  ·have h1 := hy.rows id hid.1 hid.2
   have h2 := hz.rows id hid.1 hid.2
   rw [e1] at h1
   rw [e2] at h2
   simp only [List.foldl_cons, List.foldl_nil] at h1 h2
   unfold rowsP at h1 h2
   rw [nil_sMerge (kp.1.of id)] at h1
   rw [nil_sMerge (kq.1.of id)] at h2
   rw [h1, h2]
  ·have g : ∀ p : Prt, partOk p = true → partOf p id = [] := fun p hp => by
    unfold partOk at hp
    simp only [Bool.and_eq_true, decide_eq_true_eq] at hp
    have key : ∀ (is : List Int) (bs : List (List Row)) (o : Option Int), partG o is bs = true → partF id is bs = [] := by
     intro is
     induction is with
     | nil => intro bs o _; unfold partF; rfl
     | cons i is ih =>
       intro bs o hg
       cases bs with
       | nil => unfold partF; rfl
       | cons b bs =>
         simp only [partG, Bool.and_eq_true] at hg
         have h5 := inR_t hg.1.1.1.1
         unfold partF
         rw [if_neg (by simp; omega)]
         exact ih bs _ hg.2
    exact key _ _ _ hp.2
   rw [g p kp.2, g q kq.2])
 rw [key] at hf
 simp at hf
theorem tm_at {n L nk : Nat} (hL : nk = L) : 0 ≤ Int.tmod (n : Int) (if 1 > (nk : Int) - 1 then 1 else (nk : Int) - 1) ∧ (2 ≤ L → Int.tmod (n : Int) (if 1 > (nk : Int) - 1 then 1 else (nk : Int) - 1) + 2 ≤ (L : Int)) := by
 subst hL
 generalize hm : (if 1 > (nk : Int) - 1 then (1 : Int) else (nk : Int) - 1) = m
 have h0 : 0 < m ∧ (2 ≤ nk → m + 1 ≤ nk) := by
  rw [← hm]
  split <;> omega
 have h1 := Int.tmod_lt_of_pos (n : Int) h0.1
 have h2 : 0 ≤ Int.tmod (n : Int) m := Int.tmod_nonneg m (by omega)
 omega
end Go.Proofs.YtfnpaglcnmcnbaaGreat
namespace Go.Proofs.YtfnpaglcnmcnbaaGreat
set_option maxRecDepth 100000
set_option maxHeartbeats 4000000
theorem c_laws_FnMergeAll (code : List UInt8) (more : List UInt8) {w : World} {F : Nat → Prop} {a1 : Option Addr} {n1 c1 : Nat} (h1 : RepS w F a1 n1 c1 code) {a2 : Option Addr} {n2 c2 : Nat} (h2 : RepS w F a2 n2 c2 more)  : Calls Tryz.prog 10 [.slice a1 n1 c1, .slice a2 n2 c2].toArray w (rets fun rv w' => rv = .bool (true) ∧ Ext w w') := by
 refine goT Tryz.func10 ?_
 obtain ⟨rfl, lF, h1⟩ := h1.tp
 obtain ⟨rfl, lG, h2⟩ := h2.tp
 refine .s <| .g <| .r 1 <| .d <| .s <| .s <| .g <| .r 2 <| .bp ((code.length : Int) > 1048576) (fun iz => .r 5 <| .d <| .ct <| .s <| .g <| .r 1 <| .d <| .rt Tryz.func10 Tryz.results10 (.bool true) ⟨(congrArg Value.bool (by rfl)), (Chg.refl _ _)⟩) fun iz => .r 3 <| .bp ((more.length : Int) > 1048576) (fun iA => .r 1 <| .d <| .ct <| .s <| .g <| .r 1 <| .d <| .rt Tryz.func10 Tryz.results10 (.bool true) ⟨(congrArg Value.bool (by rfl)), (Chg.refl _ _)⟩) fun iA => .r 1 <| .d <| .cf <| .sk <| .s <| .g <| .r 1 <| .cl (c_spec_DrawStoreMerge code h1 (w := w) (F := nin (fo F w.heap.size) [])) ?_
 rintro oe og ⟨⟨au, aJ, ⟨oh, rfl, ⟨_, rfl, ⟨fR, ol, fS, fT, om, fU, fV, oo, fW, fX, oq, fY, rfl, aA, aB, aC, aD⟩⟩⟩, lH⟩, fD⟩
 have d4 : ∀ q_ ∈ ([] : List Nat), q_ < w.heap.size := all_nil
 have eH : Gb w.heap.size w.heap.size := (Nat.le_refl _)
 have ah := fD
 clear fD
 replace aA := RepS.mixed' (M := []) aA d4 eH
 have lI := aA.max
 replace aB := RepS.mixed' (M := []) aB d4 eH
 have lJ := aB.max
 replace aC := RepS.mixed' (M := []) aC d4 eH
 have lK := aC.max
 replace aD := RepS.mixed' (M := []) aD d4 eH
 have lL := aD.max
 clear d4
 have iB := aA.len
 subst iB
 have iC := aB.len
 subst iC
 have iD := aC.len
 subst iD
 have iE := aD.len
 subst iE
 refine .r 3 <| .np 30 [.slice none 0 0, .slice none 0 0, .slice none 0 0, .slice none 0 0] fun ar ou eS fE iF iG => ?_
 have lM := ah.cn eS
 replace ⟨aA, aB, aC, aD, ah⟩ := (sn [] fE eS).g5 aA aB aC aD ah
 clear fE iG eS
 refine .sc [.slice fR au.idx.names.length fS, .slice fT au.idx.posts.length fU, .slice fV au.parts.length fW, .slice fX au.mem.length fY] iF fun iH fF aj iI => ?_
 replace ⟨aA, aB, aC, aD, ah⟩ := (so [ar] fF).g5 aA aB aC aD ah
 clear fF iI
 refine .r 1 <| .d <| .s <| .g <| .ln aj <| .r 1 <| .cl (c_spec_StoreMerge au aJ aA aB aC aD (by (have q1 : SD au ∧ (_ ∧ _) := (by assumption); exact q1.1)) (w := iH) (F := nin (fo F w.heap.size) [ar])) ?_
 rintro ov ow ⟨⟨oz, rfl, ⟨_, rfl, ⟨iW, oA, iX, iY, oB, iZ, ja, oC, jb, jc, oD, jd, rfl, bt, bu, bv, bw⟩⟩⟩, fG⟩
 have d5 := al1 aj.lt
 have eI : Gb w.heap.size iH.heap.size := ah.size
 replace ⟨aA, aB, aC, aD, aj, ah⟩ := (se [ar] fG).g6 aA aB aC aD aj ah
 clear fG
 replace bt := RepS.mixed' (M := [ar]) bt d5 eI
 have lN := bt.max
 replace bu := RepS.mixed' (M := [ar]) bu d5 eI
 have lO := bu.max
 replace bv := RepS.mixed' (M := [ar]) bv d5 eI
 have lP := bv.max
 replace bw := RepS.mixed' (M := [ar]) bw d5 eI
 have lQ := bw.max
 clear d5
 have iJ := bt.len
 subst iJ
 have iK := bu.len
 subst iK
 have iL := bv.len
 subst iL
 have iM := bw.len
 subst iM
 refine .r 3 <| .np 30 [.slice none 0 0, .slice none 0 0, .slice none 0 0, .slice none 0 0] fun av lR dk eT fZ f0 => ?_
 have je := nb_new dk aj.lt
 have jf := ah.cn dk
 replace ⟨aA, aB, aC, aD, aj, bt, bu, bv, bw, ah⟩ := (sn [ar] eT dk).g10 aA aB aC aD aj bt bu bv bw ah
 clear eT f0 dk
 refine .sc [.slice iW (((((mergeT au aJ).1).idx).names).length) iX, .slice iY (((((mergeT au aJ).1).idx).posts).length) iZ, .slice ja ((((mergeT au aJ).1).parts).length) jb, .slice jc ((((mergeT au aJ).1).mem).length) jd] fZ fun fH eU ac f3 => ?_
 replace ⟨aA, aB, aC, aD, aj, bt, bu, bv, bw, ah⟩ := (so [av, ar] eU).g10 aA aB aC aD aj bt bu bv bw ah
 clear eU f3
 refine .r 1 <| .d <| .s <| .g <| .ln aj <| .r 1 <| .cl (c_impl_StoreMerge au aJ aA aB aC aD (by (have q1 : SD au ∧ (_ ∧ _) := (by assumption); exact q1.1)) (w := fH) (F := nin (fo F w.heap.size) [av, ar])) ?_
 rintro lS lT ⟨⟨lU, rfl, ⟨_, rfl, ⟨eJ, lV, eK, eL, lW, eM, eN, lX, eO, eP, lY, eQ, rfl, aR, aS, aT, aU⟩⟩⟩, eV⟩
 have b8 := al2 ac.lt aj.lt
 have dm : Gb w.heap.size fH.heap.size := ah.size
 replace ⟨aA, aB, aC, aD, aj, bt, bu, bv, bw, ac, ah⟩ := (se [av, ar] eV).g11 aA aB aC aD aj bt bu bv bw ac ah
 clear eV
 replace aR := RepS.mixed' (M := [av, ar]) aR b8 dm
 replace aS := RepS.mixed' (M := [av, ar]) aS b8 dm
 replace aT := RepS.mixed' (M := [av, ar]) aT b8 dm
 replace aU := RepS.mixed' (M := [av, ar]) aU b8 dm
 clear b8
 have f4 := aR.len
 subst f4
 have f5 := aS.len
 subst f5
 have f6 := aT.len
 subst f6
 have f7 := aU.len
 subst f7
 refine .r 2 ?_
 cases jg : (mergeT au aJ).2
 ·refine .r 1 <| .np 30 [.slice none 0 0, .slice none 0 0, .slice none 0 0, .slice none 0 0] fun b7 lZ bY d6 f8 f9 => ?_
  have jh := nb_new bY aj.lt
  have ji := nb_new bY ac.lt
  have jj := ah.cn bY
  replace ⟨aA, aB, aC, aD, aj, bt, bu, bv, bw, ac, aR, aS⟩ := (sn [av, ar] d6 bY).g12 aA aB aC aD aj bt bu bv bw ac aR aS
  replace ⟨aT, aU, ah⟩ := (sn [av, ar] d6 bY).g3 aT aU ah
  clear d6 f9 bY
  refine .sc [.slice eJ (((((mergeT au aJ).1).idx).names).length) eK, .slice eL (((((mergeT au aJ).1).idx).posts).length) eM, .slice eN ((((mergeT au aJ).1).parts).length) eO, .slice eP ((((mergeT au aJ).1).mem).length) eQ] f8 fun iN d7 bX ga => ?_
  replace ⟨aA, aB, aC, aD, aj, bt, bu, bv, bw, ac, aR, aS⟩ := (so [b7, av, ar] d7).g12 aA aB aC aD aj bt bu bv bw ac aR aS
  replace ⟨aT, aU, ah⟩ := (so [b7, av, ar] d7).g3 aT aU ah
  clear d7 ga
  refine .r 1 <| .d <| .s <| .s <| .g <| .r 2 <| RG.eqv (v := .bool false) (v' := .bool (false != false)) (by kernel_rfl) (by simp) <| .r 1 <| .ln bX <| .ln ac <| .cl (c_laws_lyStore (⟨(⟨(((mergeT au aJ).1).idx).names, (((mergeT au aJ).1).idx).posts⟩ : Idx), ((mergeT au aJ).1).parts, ((mergeT au aJ).1).mem⟩ : Sto) (⟨(⟨(((mergeT au aJ).1).idx).names, (((mergeT au aJ).1).idx).posts⟩ : Idx), ((mergeT au aJ).1).parts, ((mergeT au aJ).1).mem⟩ : Sto) aR.ta aS.ta aT.ta aU.ta bt.ta bu.ta bv.ta bw.ta (w := iN) (F := all)) ?_
  rintro l0 fI ⟨rfl, d8⟩
  replace ⟨aA, aB, aC, aD, aj, bt, bu, bv, bw, ac, aR, aS⟩ := (se [b7, av, ar] d8).g12 aA aB aC aD aj bt bu bv bw ac aR aS
  replace ⟨aT, aU, bX, ah⟩ := (se [b7, av, ar] d8).g4 aT aU bX ah
  clear d8
  cases jk : ((⟨(⟨(((mergeT au aJ).1).idx).names, (((mergeT au aJ).1).idx).posts⟩ : Idx), ((mergeT au aJ).1).parts, ((mergeT au aJ).1).mem⟩ : Sto) == (⟨(⟨(((mergeT au aJ).1).idx).names, (((mergeT au aJ).1).idx).posts⟩ : Idx), ((mergeT au aJ).1).parts, ((mergeT au aJ).1).mem⟩ : Sto))
  ·refine .r 6 <| .d <| .ct <| .s <| .g <| .r 2 <| RG.eqv (v := .bool true) (v' := .bool (false == false)) (by kernel_rfl) (by simp) <| .r 1 <| .ln bX <| .ln ac <| .cl (c_laws_lyStore (⟨(⟨(((mergeT au aJ).1).idx).names, (((mergeT au aJ).1).idx).posts⟩ : Idx), ((mergeT au aJ).1).parts, ((mergeT au aJ).1).mem⟩ : Sto) (⟨(⟨(((mergeT au aJ).1).idx).names, (((mergeT au aJ).1).idx).posts⟩ : Idx), ((mergeT au aJ).1).parts, ((mergeT au aJ).1).mem⟩ : Sto) aR.ta aS.ta aT.ta aU.ta bt.ta bu.ta bv.ta bw.ta (w := fI) (F := all)) ?_
   rintro l3 l4 ⟨rfl, d9⟩
   replace ⟨aA, aB, aC, aD, aj, bt, bu, bv, bw, ac, aR, aS⟩ := (se [b7, av, ar] d9).g12 aA aB aC aD aj bt bu bv bw ac aR aS
   replace ⟨aT, aU, bX, ah⟩ := (se [b7, av, ar] d9).g4 aT aU bX ah
   clear d9
   exact .r 2 <| .d <| .rt Tryz.func10 Tryz.results10 (.bool ((⟨(⟨(((mergeT au aJ).1).idx).names, (((mergeT au aJ).1).idx).posts⟩ : Idx), ((mergeT au aJ).1).parts, ((mergeT au aJ).1).mem⟩ : Sto) == (⟨(⟨(((mergeT au aJ).1).idx).names, (((mergeT au aJ).1).idx).posts⟩ : Idx), ((mergeT au aJ).1).parts, ((mergeT au aJ).1).mem⟩ : Sto))) ⟨(congrArg Value.bool (by (simp_all; done))), ah⟩
  refine .r 6 <| .d <| .ct <| .s <| .g <| .r 2 <| RG.eqv (v := .bool true) (v' := .bool (false == false)) (by kernel_rfl) (by simp) <| .r 1 <| .ln bX <| .ln ac <| .cl (c_laws_lyStore (⟨(⟨(((mergeT au aJ).1).idx).names, (((mergeT au aJ).1).idx).posts⟩ : Idx), ((mergeT au aJ).1).parts, ((mergeT au aJ).1).mem⟩ : Sto) (⟨(⟨(((mergeT au aJ).1).idx).names, (((mergeT au aJ).1).idx).posts⟩ : Idx), ((mergeT au aJ).1).parts, ((mergeT au aJ).1).mem⟩ : Sto) aR.ta aS.ta aT.ta aU.ta bt.ta bu.ta bv.ta bw.ta (w := fI) (F := all)) ?_
  rintro l5 l6 ⟨rfl, ec⟩
  replace ⟨aA, aB, aC, aD, aj, bt, bu, bv, bw, ac, aR, aS⟩ := (se [b7, av, ar] ec).g12 aA aB aC aD aj bt bu bv bw ac aR aS
  replace ⟨aT, aU, ah⟩ := (se [b7, av, ar] ec).g3 aT aU ah
  clear ec
  exact .r 2 <| .d <| .rt Tryz.func10 Tryz.results10 (.bool ((⟨(⟨(((mergeT au aJ).1).idx).names, (((mergeT au aJ).1).idx).posts⟩ : Idx), ((mergeT au aJ).1).parts, ((mergeT au aJ).1).mem⟩ : Sto) == (⟨(⟨(((mergeT au aJ).1).idx).names, (((mergeT au aJ).1).idx).posts⟩ : Idx), ((mergeT au aJ).1).parts, ((mergeT au aJ).1).mem⟩ : Sto))) ⟨(congrArg Value.bool (by (simp_all; done))), ah⟩
 refine .r 1 <| .np 30 [.slice none 0 0, .slice none 0 0, .slice none 0 0, .slice none 0 0] fun E l7 bZ ed gb gf => ?_
 have jl := nb_new bZ aj.lt
 have jm := nb_new bZ ac.lt
 have jn := ah.cn bZ
 replace ⟨aA, aB, aC, aD, aj, bt, bu, bv, bw, ac, aR, aS⟩ := (sn [av, ar] ed bZ).g12 aA aB aC aD aj bt bu bv bw ac aR aS
 replace ⟨aT, aU, ah⟩ := (sn [av, ar] ed bZ).g3 aT aU ah
 clear ed gf bZ
 refine .sc [.slice eJ (((((mergeT au aJ).1).idx).names).length) eK, .slice eL (((((mergeT au aJ).1).idx).posts).length) eM, .slice eN ((((mergeT au aJ).1).parts).length) eO, .slice eP ((((mergeT au aJ).1).mem).length) eQ] gb fun iO ee aq gg => ?_
 replace ⟨aA, aB, aC, aD, aj, bt, bu, bv, bw, ac, aR, aS⟩ := (so [E, av, ar] ee).g12 aA aB aC aD aj bt bu bv bw ac aR aS
 replace ⟨aT, aU, ah⟩ := (so [E, av, ar] ee).g3 aT aU ah
 clear ee gg
 refine .r 1 <| .d <| .s <| .s <| .g <| .r 2 <| RG.eqv (v := .bool false) (v' := .bool (true != true)) (by kernel_rfl) (by simp) <| .r 1 <| .ln aq <| .ln ac <| .cl (c_laws_lyStore (⟨(⟨(((mergeT au aJ).1).idx).names, (((mergeT au aJ).1).idx).posts⟩ : Idx), ((mergeT au aJ).1).parts, ((mergeT au aJ).1).mem⟩ : Sto) (⟨(⟨(((mergeT au aJ).1).idx).names, (((mergeT au aJ).1).idx).posts⟩ : Idx), ((mergeT au aJ).1).parts, ((mergeT au aJ).1).mem⟩ : Sto) aR.ta aS.ta aT.ta aU.ta bt.ta bu.ta bv.ta bw.ta (w := iO) (F := all)) ?_
 rintro l8 iP ⟨rfl, ef⟩
 replace ⟨aA, aB, aC, aD, aj, bt, bu, bv, bw, ac, aR, aS⟩ := (se [E, av, ar] ef).g12 aA aB aC aD aj bt bu bv bw ac aR aS
 replace ⟨aT, aU, aq, ah⟩ := (se [E, av, ar] ef).g4 aT aU aq ah
 clear ef
 cases jo : ((⟨(⟨(((mergeT au aJ).1).idx).names, (((mergeT au aJ).1).idx).posts⟩ : Idx), ((mergeT au aJ).1).parts, ((mergeT au aJ).1).mem⟩ : Sto) == (⟨(⟨(((mergeT au aJ).1).idx).names, (((mergeT au aJ).1).idx).posts⟩ : Idx), ((mergeT au aJ).1).parts, ((mergeT au aJ).1).mem⟩ : Sto))
 ·refine .r 6 <| .d <| .ct <| .s <| .g <| .r 2 <| RG.eqv (v := .bool true) (v' := .bool (true == true)) (by kernel_rfl) (by simp) <| .r 1 <| .ln aq <| .ln ac <| .cl (c_laws_lyStore (⟨(⟨(((mergeT au aJ).1).idx).names, (((mergeT au aJ).1).idx).posts⟩ : Idx), ((mergeT au aJ).1).parts, ((mergeT au aJ).1).mem⟩ : Sto) (⟨(⟨(((mergeT au aJ).1).idx).names, (((mergeT au aJ).1).idx).posts⟩ : Idx), ((mergeT au aJ).1).parts, ((mergeT au aJ).1).mem⟩ : Sto) aR.ta aS.ta aT.ta aU.ta bt.ta bu.ta bv.ta bw.ta (w := iP) (F := all)) ?_
  rintro l9 ma ⟨rfl, eW⟩
  replace ⟨aA, aB, aC, aD, aj, ac, aR, aS, aT, aU, aq, ah⟩ := (se [E, av, ar] eW).g12 aA aB aC aD aj ac aR aS aT aU aq ah
  clear eW
  exact .r 2 <| .d <| .rt Tryz.func10 Tryz.results10 (.bool ((⟨(⟨(((mergeT au aJ).1).idx).names, (((mergeT au aJ).1).idx).posts⟩ : Idx), ((mergeT au aJ).1).parts, ((mergeT au aJ).1).mem⟩ : Sto) == (⟨(⟨(((mergeT au aJ).1).idx).names, (((mergeT au aJ).1).idx).posts⟩ : Idx), ((mergeT au aJ).1).parts, ((mergeT au aJ).1).mem⟩ : Sto))) ⟨(congrArg Value.bool (by (simp_all; done))), ah⟩
 refine .r 6 <| .d <| .cf <| .sk <| .s <| .g <| .ln aj <| .np 30 [.slice none 0 0, .slice none 0 0, .slice none 0 0, .slice none 0 0] fun J mb b0 eX gh gi => ?_
 have jp := nb_new b0 aj.lt
 have jq := nb_new b0 ac.lt
 have jr := nb_new b0 aq.lt
 have js := ah.cn b0
 replace ⟨aA, aB, aC, aD, aj, ac, aR, aS, aT, aU, aq, ah⟩ := (sn [E, av, ar] eX b0).g12 aA aB aC aD aj ac aR aS aT aU aq ah
 clear eX gi b0
 refine .sc [.slice fR au.idx.names.length fS, .slice fT au.idx.posts.length fU, .slice fV au.parts.length fW, .slice fX au.mem.length fY] gh fun mc eY b6 gj => ?_
 replace ⟨aA, aB, aC, aD, aj, ac, aR, aS, aT, aU, aq, ah⟩ := (so [J, E, av, ar] eY).g12 aA aB aC aD aj ac aR aS aT aU aq ah
 clear eY gj
 refine .d <| .s <| .g <| .ln aq <| .np 30 [.slice none 0 0, .slice none 0 0, .slice none 0 0, .slice none 0 0] fun O me bQ eg gk gl => ?_
 have jt := nb_new bQ aj.lt
 have ju := nb_new bQ ac.lt
 have jv := nb_new bQ aq.lt
 have jw := nb_new bQ b6.lt
 have jx := ah.cn bQ
 replace ⟨aA, aB, aC, aD, aj, ac, aR, aS, aT, aU, aq, b6⟩ := (sn [J, E, av, ar] eg bQ).g12 aA aB aC aD aj ac aR aS aT aU aq b6
 replace ah := (sn [J, E, av, ar] eg bQ).g1 ah
 clear eg gl bQ
 refine .sc [.slice eJ (((((mergeT au aJ).1).idx).names).length) eK, .slice eL (((((mergeT au aJ).1).idx).posts).length) eM, .slice eN ((((mergeT au aJ).1).parts).length) eO, .slice eP ((((mergeT au aJ).1).mem).length) eQ] gk fun eR eh gm gn => ?_
 replace ⟨aA, aB, aC, aD, aj, ac, aR, aS, aT, aU, aq, b6⟩ := (so [O, J, E, av, ar] eh).g12 aA aB aC aD aj ac aR aS aT aU aq b6
 replace ah := (so [O, J, E, av, ar] eh).g1 ah
 clear eh gn
 refine .d <| .s <| .s <| .g <| .r 1 <| .d <| .b 0 <| T.loop (X := Nat × (List (List Tag)) × (Option Addr) × Nat × Nat × (List Pst) × (Option Addr) × Nat × Nat × (List Prt) × (Option Addr) × Nat × Nat × (List Smp) × (Option Addr) × Nat × Nat × (List (List Tag)) × (Option Addr) × Nat × Nat × (List Pst) × (Option Addr) × Nat × Nat × (List Prt) × (Option Addr) × Nat × Nat × (List Smp) × (Option Addr) × Nat × Nat) (0, (au.idx.names : List (List Tag)), fR, au.idx.names.length, fS, (au.idx.posts : List Pst), fT, au.idx.posts.length, fU, (au.parts : List Prt), fV, au.parts.length, fW, (au.mem : List Smp), fX, au.mem.length, fY, ((((mergeT au aJ).1).idx).names : List (List Tag)), eJ, ((((mergeT au aJ).1).idx).names).length, eK, ((((mergeT au aJ).1).idx).posts : List Pst), eL, ((((mergeT au aJ).1).idx).posts).length, eM, (((mergeT au aJ).1).parts : List Prt), eN, (((mergeT au aJ).1).parts).length, eO, (((mergeT au aJ).1).mem : List Smp), eP, (((mergeT au aJ).1).mem).length, eQ) (fun (k, aK, a_k_0, n_k_0, c_k_0, aL, a_k_1, n_k_1, c_k_1, aI, a_k_2, n_k_2, c_k_2, aM, a_k_3, n_k_3, c_k_3, ak, a_k_01, n_k_01, c_k_01, al, a_k_11, n_k_11, c_k_11, ab, a_k_21, n_k_21, c_k_21, am, a_k_31, n_k_31, c_k_31) => [(1, .slice a2 more.length c2), (5, .pointer (some ⟨ar, 0, none⟩)), (11, .pointer (some ⟨J, 0, none⟩)), (12, .pointer (some ⟨O, 0, none⟩)), (13, vI (k : Int))]) (fun (k, aK, a_k_0, n_k_0, c_k_0, aL, a_k_1, n_k_1, c_k_1, aI, a_k_2, n_k_2, c_k_2, aM, a_k_3, n_k_3, c_k_3, ak, a_k_01, n_k_01, c_k_01, al, a_k_11, n_k_11, c_k_11, ab, a_k_21, n_k_21, c_k_21, am, a_k_31, n_k_31, c_k_31) bF => Chg (ins [J, O]) eR bF ∧ RepS bF (nin (fo F w.heap.size) [O, J, E, av, ar]) a_k_0 n_k_0 c_k_0 aK ∧ RepS bF (nin (fo F w.heap.size) [O, J, E, av, ar]) a_k_1 n_k_1 c_k_1 aL ∧ RepS bF (nin (fo F w.heap.size) [O, J, E, av, ar]) a_k_2 n_k_2 c_k_2 aI ∧ RepS bF (nin (fo F w.heap.size) [O, J, E, av, ar]) a_k_3 n_k_3 c_k_3 aM ∧ RepS bF (nin (fo F w.heap.size) [O, J, E, av, ar]) a_k_01 n_k_01 c_k_01 ak ∧ RepS bF (nin (fo F w.heap.size) [O, J, E, av, ar]) a_k_11 n_k_11 c_k_11 al ∧ RepS bF (nin (fo F w.heap.size) [O, J, E, av, ar]) a_k_21 n_k_21 c_k_21 ab ∧ RepS bF (nin (fo F w.heap.size) [O, J, E, av, ar]) a_k_31 n_k_31 c_k_31 am ∧ Box bF J 30 [.slice a_k_0 n_k_0 c_k_0, .slice a_k_1 n_k_1 c_k_1, .slice a_k_2 n_k_2 c_k_2, .slice a_k_3 n_k_3 c_k_3] ∧ Box bF O 30 [.slice a_k_01 n_k_01 c_k_01, .slice a_k_11 n_k_11 c_k_11, .slice a_k_21 n_k_21 c_k_21, .slice a_k_31 n_k_31 c_k_31] ∧ (k ≤ 6) ∧ (MI au (⟨⟨aK, aL⟩, aI, aM⟩ : Sto) k) ∧ (MI au (⟨⟨ak, al⟩, ab, am⟩ : Sto) k)) (fun (k, aK, a_k_0, n_k_0, c_k_0, aL, a_k_1, n_k_1, c_k_1, aI, a_k_2, n_k_2, c_k_2, aM, a_k_3, n_k_3, c_k_3, ak, a_k_01, n_k_01, c_k_01, al, a_k_11, n_k_11, c_k_11, ab, a_k_21, n_k_21, c_k_21, am, a_k_31, n_k_31, c_k_31) => 6 - k) (by kernel_rfl) ⟨by kernel_rfl, by kernel_rfl, by kernel_rfl, by kernel_rfl, by kernel_rfl, trivial⟩ ⟨Chg.refl _ _, aA, aB, aC, aD, aR, aS, aT, aU, b6, gm, (by omega), (by have q1 : SD au ∧ (_ ∧ _) := (by assumption); exact (MI.start q1.1 (by assumption)).1), (by have q1 : SD au ∧ (_ ∧ _) := (by assumption); exact (MI.start q1.1 (by assumption)).2)⟩ ?_
 rintro ⟨k, aK, a_k_0, n_k_0, c_k_0, aL, a_k_1, n_k_1, c_k_1, aI, a_k_2, n_k_2, c_k_2, aM, a_k_3, n_k_3, c_k_3, ak, a_k_01, n_k_01, c_k_01, al, a_k_11, n_k_11, c_k_11, ab, a_k_21, n_k_21, c_k_21, am, a_k_31, n_k_31, c_k_31⟩ mf bF ⟨ao, V, W, C, Z, ae, af, aa, ag, aE, ai, jy, jz, jA⟩ bA
 have jB : Cov (ins [J, O]) eR J := ⟨.inl (.head _)⟩
 have jC : Cov (ins [J, O]) eR O := ⟨.inl (.tail _ (.head _))⟩
 have eZ : Mv [O, J, E, av, ar] [O, J, E, av, ar] eR bF := Mv.inl ao (all_cons (.tail _ (.head _)) (all_cons (.head _) all_nil)) (all_cons (.inl (.head _)) (all_cons (.inl (.tail _ (.head _))) (all_cons (.inl (.tail _ (.tail _ (.head _)))) (all_cons (.inl (.tail _ (.tail _ (.tail _ (.head _))))) (all_cons (.inl (.tail _ (.tail _ (.tail _ (.tail _ (.head _)))))) all_nil)))))
 replace ⟨aA, aB, aC, aD, aj, ac, aq, ah⟩ := (sp eZ ao).g8 aA aB aC aD aj ac aq ah
 clear eZ
 have jD := V.len; have jE := V.max
 have jF := W.len; have jG := W.max
 have jH := C.len; have jI := C.max
 have jJ := Z.len; have jK := Z.max
 have jL := ae.len; have jM := ae.max
 have jN := af.len; have jO := af.max
 have jP := aa.len; have jQ := aa.max
 have jR := ag.len; have jS := ag.max
 refine .s <| .s <| .g <| .r 1 <| .bp ((k : Int) < 6) (fun gp => ?_) (fun gp => ?_)
 ·refine .d <| .ct <| .sk <| .s <| .b 1 <| .s <| .g <| .ln aE <| .cl (c_impl_StoreMerge (⟨(⟨aK, aL⟩ : Idx), aI, aM⟩ : Sto) 0 V W C Z (by exact MI.sd (by assumption : MI au (⟨⟨aK, aL⟩, aI, aM⟩ : Sto) k)) (w := bF) (F := nin (fo F w.heap.size) [O, J, E, av, ar])) ?_
  rintro mg mh ⟨⟨mj, rfl, ⟨_, rfl, ⟨b9, ml, cd, ce, mm, cg, ci, mn, cj, ck, mo, cm, rfl, aw, ax, ay, az⟩⟩⟩, ei⟩
  have co := al5 ai.lt aE.lt aq.lt ac.lt aj.lt
  have dp : Gb w.heap.size bF.heap.size := ah.size
  replace ⟨aA, aB, aC, aD, aj, ac, aq, aE, ai, V, W, C⟩ := (se [O, J, E, av, ar] ei).g12 aA aB aC aD aj ac aq aE ai V W C
  replace ⟨Z, ae, af, aa, ag, ah, ao⟩ := (se [O, J, E, av, ar] ei).g7 Z ae af aa ag ah ao
  clear ei
  replace aw := RepS.mixed' (M := [O, J, E, av, ar]) aw co dp
  have jT := aw.max
  replace ax := RepS.mixed' (M := [O, J, E, av, ar]) ax co dp
  have jU := ax.max
  replace ay := RepS.mixed' (M := [O, J, E, av, ar]) ay co dp
  have jV := ay.max
  replace az := RepS.mixed' (M := [O, J, E, av, ar]) az co dp
  have jW := az.max
  clear co
  have gq := aw.len
  subst gq
  have gr := ax.len
  subst gr
  have gs := ay.len
  subst gs
  have gt := az.len
  subst gt
  refine .r 2 ?_
  cases jX : (mergeT (⟨(⟨aK, aL⟩ : Idx), aI, aM⟩ : Sto) 0).2
  ·refine .r 1 <| .np 30 [.slice none 0 0, .slice none 0 0, .slice none 0 0, .slice none 0 0] fun aF mp bI ej gu gv => ?_
   have jY := nb_new bI aj.lt
   have jZ := nb_new bI ac.lt
   have j0 := nb_new bI aq.lt
   have j1 := nb_new bI aE.lt
   have j2 := nb_new bI ai.lt
   have j3 := ah.cn bI
   have j4 := ao.cn bI
   replace ⟨aA, aB, aC, aD, aj, ac, aq, aE, ai, V, W, C⟩ := (sn [O, J, E, av, ar] ej bI).g12 aA aB aC aD aj ac aq aE ai V W C
   replace ⟨Z, ae, af, aa, ag, aw, ax, ay, az, ah, ao⟩ := (sn [O, J, E, av, ar] ej bI).g11 Z ae af aa ag aw ax ay az ah ao
   clear ej gv bI
   refine .sc [.slice b9 (((((mergeT (⟨(⟨aK, aL⟩ : Idx), aI, aM⟩ : Sto) 0).1).idx).names).length) cd, .slice ce (((((mergeT (⟨(⟨aK, aL⟩ : Idx), aI, aM⟩ : Sto) 0).1).idx).posts).length) cg, .slice ci ((((mergeT (⟨(⟨aK, aL⟩ : Idx), aI, aM⟩ : Sto) 0).1).parts).length) cj, .slice ck ((((mergeT (⟨(⟨aK, aL⟩ : Idx), aI, aM⟩ : Sto) 0).1).mem).length) cm] gu fun cE ek aO gw => ?_
   replace ⟨aA, aB, aC, aD, aj, ac, aq, aE, ai, V, W, C⟩ := (so [aF, O, J, E, av, ar] ek).g12 aA aB aC aD aj ac aq aE ai V W C
   replace ⟨Z, ae, af, aa, ag, aw, ax, ay, az, ah, ao⟩ := (so [aF, O, J, E, av, ar] ek).g11 Z ae af aa ag aw ax ay az ah ao
   clear ek gw
   refine .r 1 <| .d <| .s <| .s <| .g <| .r 1 <| .d <| .cf <| .sk <| .s ?_
   replace aA := aA.into
   replace aB := aB.into
   replace aC := aC.into
   replace aD := aD.into
   replace V := V.into
   replace W := W.into
   replace C := C.into
   replace Z := Z.into
   replace ae := ae.into
   replace af := af.into
   replace aa := aa.into
   replace ag := ag.into
   replace aw := aw.into
   replace ax := ax.into
   replace ay := ay.into
   replace az := az.into
   have e0 : Gb (O + 1) cE.heap.size := ai.lt
   refine .gd (mtb [] cE.heap.size) 15 fun iQ dq => ?_
   replace ⟨aA, aB, aC, aD, aj, ac, aq, aE, ai, V, W, C⟩ := (se [aF, O, J, E, av, ar] dq).g12 aA aB aC aD aj ac aq aE ai V W C
   replace ⟨Z, ae, af, aa, ag, aw, ax, ay, az, aO, ah, ao⟩ := (se [aF, O, J, E, av, ar] dq).g12 Z ae af aa ag aw ax ay az aO ah ao
   have aP : Chg (mtb [] cE.heap.size) cE iQ := Chg.stepN (Chg.refl (mtb [] cE.heap.size) cE) dq
   clear dq
   refine .ln 0 ai (nS_of all_nil e0) <| .r [1, 2, 3] <| .lb 4 ai (nS_of all_nil e0) <| .r [5] <| GA.int (i := 6) ((n_k_21 : Int) - 1) (by kernel_rfl) (by have q2 := (MI.sd (by assumption : MI au (⟨⟨ak, al⟩, ab, am⟩ : Sto) k)).np; have q3 : ab.length ≤ 6 := q2; omega) <| .r [7] <| GA.rem (i := 8) (t := 3) (k := .i64) (a := (more.length : Int)) (b := (if 1 > (n_k_21 : Int) - 1 then 1 else (n_k_21 : Int) - 1)) (by kernel_rfl) (by kernel_rfl) (by omega) <| .tw 9 13 ?_ ?_
   ·refine .cl (fun e7 bR => c_impl_StoreMerge (⟨(⟨ak, al⟩ : Idx), ab, am⟩ : Sto) (Int.tmod (more.length : Int) (if 1 > (n_k_21 : Int) - 1 then 1 else (n_k_21 : Int) - 1)) ((ae.base (fun _ _ h => h.1)).ext bR) ((af.base (fun _ _ h => h.1)).ext bR) ((aa.base (fun _ _ h => h.1)).ext bR) ((ag.base (fun _ _ h => h.1)).ext bR) (by exact MI.sd (by assumption : MI au (⟨⟨ak, al⟩, ab, am⟩ : Sto) k)) (w := e7) (F := nin (fo F w.heap.size) [aF, O, J, E, av, ar])) ?_
    intro e7 bR
    replace ⟨aA, aB, aC, aD, aj, ac, aq, aE, ai, V, W, C⟩ := (se [aF, O, J, E, av, ar] bR).g12 aA aB aC aD aj ac aq aE ai V W C
    replace ⟨Z, ae, af, aa, ag, aw, ax, ay, az, aO, ah, ao⟩ := (se [aF, O, J, E, av, ar] bR).g12 Z ae af aa ag aw ax ay az aO ah ao
    replace aP := (se [aF, O, J, E, av, ar] bR).g1 aP
    rintro mq mr ⟨⟨mt, rfl, ⟨_, rfl, ⟨cF, mu, cG, cH, mw, cI, cJ, mz, cK, cL, mA, cM, rfl, aW, aX, aY, aZ⟩⟩⟩, cp⟩
    have cq := al6 aO.lt ai.lt aE.lt aq.lt ac.lt aj.lt
    have dr : Gb w.heap.size e7.heap.size := ah.size
    have hkeep_ := cp
    replace ⟨aA, aB, aC, aD, aj, ac, aq, aE, ai, V, W, C⟩ := (se [aF, O, J, E, av, ar] cp).g12 aA aB aC aD aj ac aq aE ai V W C
    replace ⟨Z, ae, af, aa, ag, aw, ax, ay, az, aO, ah, ao⟩ := (se [aF, O, J, E, av, ar] cp).g12 Z ae af aa ag aw ax ay az aO ah ao
    replace aP := (se [aF, O, J, E, av, ar] cp).g1 aP
    clear cp
    refine ⟨Ext.chg hkeep_, ?_⟩
    replace aW := RepS.mixed' (M := [aF, O, J, E, av, ar]) aW cq dr
    have j5 := aW.max
    replace aX := RepS.mixed' (M := [aF, O, J, E, av, ar]) aX cq dr
    have j6 := aX.max
    replace aY := RepS.mixed' (M := [aF, O, J, E, av, ar]) aY cq dr
    have j7 := aY.max
    replace aZ := RepS.mixed' (M := [aF, O, J, E, av, ar]) aZ cq dr
    have j8 := aZ.max
    clear cq
    have gx := aW.len
    subst gx
    have gy := aX.len
    subst gy
    have gz := aY.len
    subst gz
    have gA := aZ.len
    subst gA
    refine .r [10, 11] ?_
    cases j9 : (mergeT (⟨(⟨ak, al⟩ : Idx), ab, am⟩ : Sto) (Int.tmod (more.length : Int) (if 1 > (n_k_21 : Int) - 1 then 1 else (n_k_21 : Int) - 1))).2
    ·refine .r [12] <| .go 13 <| .nw (fun b => .pointer (some ⟨b, 0, none⟩)) 30 [.slice none 0 0, .slice none 0 0, .slice none 0 0, .slice none 0 0] fun mB dt => ?_
     replace ⟨aA, aB, aC, aD, aj, ac, aq, aE, ai, V, W, C⟩ := (se [aF, O, J, E, av, ar] dt).g12 aA aB aC aD aj ac aq aE ai V W C
     replace ⟨Z, ae, af, aa, ag, aw, ax, ay, az, aO, aW, aX⟩ := (se [aF, O, J, E, av, ar] dt).g12 Z ae af aa ag aw ax ay az aO aW aX
     replace ⟨aY, aZ, ah, ao, aP⟩ := (se [aF, O, J, E, av, ar] dt).g5 aY aZ ah ao aP
     clear dt
     intro bV mC bB du gC gD
     have ka := nb_new bB aj.lt
     have kb := nb_new bB ac.lt
     have kc := nb_new bB aq.lt
     have kd := nb_new bB aE.lt
     have ke := nb_new bB ai.lt
     have kf := nb_new bB aO.lt
     have kg := ah.cn bB
     have kh := ao.cn bB
     have gE := aP.cn bB
     replace ⟨aA, aB, aC, aD, aj, ac, aq, aE, ai, V, W, C⟩ := (sn [aF, O, J, E, av, ar] du bB).g12 aA aB aC aD aj ac aq aE ai V W C
     replace ⟨Z, ae, af, aa, ag, aw, ax, ay, az, aO, aW, aX⟩ := (sn [aF, O, J, E, av, ar] du bB).g12 Z ae af aa ag aw ax ay az aO aW aX
     replace ⟨aY, aZ, ah, ao, aP⟩ := (sn [aF, O, J, E, av, ar] du bB).g5 aY aZ ah ao aP
     clear du gD bB
     refine .go 14 <| GE.storeB (t' := 30) (o := 0) (v := .agg #[.slice cF (((((mergeT (⟨(⟨ak, al⟩ : Idx), ab, am⟩ : Sto) (Int.tmod (more.length : Int) (if 1 > (n_k_21 : Int) - 1 then 1 else (n_k_21 : Int) - 1))).1).idx).names).length) cG, .slice cH (((((mergeT (⟨(⟨ak, al⟩ : Idx), ab, am⟩ : Sto) (Int.tmod (more.length : Int) (if 1 > (n_k_21 : Int) - 1 then 1 else (n_k_21 : Int) - 1))).1).idx).posts).length) cI, .slice cJ ((((mergeT (⟨(⟨ak, al⟩ : Idx), ab, am⟩ : Sto) (Int.tmod (more.length : Int) (if 1 > (n_k_21 : Int) - 1 then 1 else (n_k_21 : Int) - 1))).1).parts).length) cK, .slice cL ((((mergeT (⟨(⟨ak, al⟩ : Idx), ab, am⟩ : Sto) (Int.tmod (more.length : Int) (if 1 > (n_k_21 : Int) - 1 then 1 else (n_k_21 : Int) - 1))).1).mem).length) cM]) [.slice cF (((((mergeT (⟨(⟨ak, al⟩ : Idx), ab, am⟩ : Sto) (Int.tmod (more.length : Int) (if 1 > (n_k_21 : Int) - 1 then 1 else (n_k_21 : Int) - 1))).1).idx).names).length) cG, .slice cH (((((mergeT (⟨(⟨ak, al⟩ : Idx), ab, am⟩ : Sto) (Int.tmod (more.length : Int) (if 1 > (n_k_21 : Int) - 1 then 1 else (n_k_21 : Int) - 1))).1).idx).posts).length) cI, .slice cJ ((((mergeT (⟨(⟨ak, al⟩ : Idx), ab, am⟩ : Sto) (Int.tmod (more.length : Int) (if 1 > (n_k_21 : Int) - 1 then 1 else (n_k_21 : Int) - 1))).1).parts).length) cK, .slice cL ((((mergeT (⟨(⟨ak, al⟩ : Idx), ab, am⟩ : Sto) (Int.tmod (more.length : Int) (if 1 > (n_k_21 : Int) - 1 then 1 else (n_k_21 : Int) - 1))).1).mem).length) cM] gC (by kernel_rfl) (by kernel_rfl) (by kernel_rfl) fun mD dv => ?_
     replace ⟨aA, aB, aC, aD, aj, ac, aq, aE, ai, V, W, C⟩ := (se [bV, aF, O, J, E, av, ar] dv).g12 aA aB aC aD aj ac aq aE ai V W C
     replace ⟨Z, ae, af, aa, ag, aw, ax, ay, az, aO, aW, aX⟩ := (se [bV, aF, O, J, E, av, ar] dv).g12 Z ae af aa ag aw ax ay az aO aW aX
     replace ⟨aY, aZ, ah, ao, aP⟩ := (se [bV, aF, O, J, E, av, ar] dv).g5 aY aZ ah ao aP
     clear dv
     intro mE cr ki gF
     have hkeep_ := Chg.toS cr (Cov.toS gE)
     clear gF
     replace ⟨aA, aB, aC, aD, aj, ac, aq, aE, ai, V, W, C⟩ := (so [bV, aF, O, J, E, av, ar] cr).g12 aA aB aC aD aj ac aq aE ai V W C
     replace ⟨Z, ae, af, aa, ag, aw, ax, ay, az, aO, aW, aX⟩ := (so [bV, aF, O, J, E, av, ar] cr).g12 Z ae af aa ag aw ax ay az aO aW aX
     replace ⟨aY, aZ, ah, ao, aP⟩ := (so [bV, aF, O, J, E, av, ar] cr).g5 aY aZ ah ao aP
     clear cr
     refine ⟨hkeep_, ?_⟩
     refine .d fun fJ dw => ?_
     replace ⟨aA, aB, aC, aD, aj, ac, aq, aE, ai, V, W, C⟩ := (se [bV, aF, O, J, E, av, ar] dw).g12 aA aB aC aD aj ac aq aE ai V W C
     replace ⟨Z, ae, af, aa, ag, aw, ax, ay, az, aO, aW, aX⟩ := (se [bV, aF, O, J, E, av, ar] dw).g12 Z ae af aa ag aw ax ay az aO aW aX
     replace ⟨aY, aZ, ah, ao, aP⟩ := (se [bV, aF, O, J, E, av, ar] dw).g5 aY aZ ah ao aP
     clear dw
     replace aA := aA.outof
     replace aB := aB.outof
     replace aC := aC.outof
     replace aD := aD.outof
     replace V := V.outof
     replace W := W.outof
     replace C := C.outof
     replace Z := Z.outof
     replace ae := ae.outof
     replace af := af.outof
     replace aa := aa.outof
     replace ag := ag.outof
     replace aw := aw.outof
     replace ax := ax.outof
     replace ay := ay.outof
     replace az := az.outof
     refine .r 1 <| .d <| .s <| .g <| .r 1 <| .d <| .cf <| .sk <| .ib 1 <| .g <| .r 1 <| RG.int ((k : Int) + 1) (by kernel_rfl) (by have q2 := (MI.sd (by assumption : MI au (⟨⟨ak, al⟩, ab, am⟩ : Sto) k)).np; have q3 : ab.length ≤ 6 := q2; omega) <| .r 1 <| .d ?_
     have e8 : Mv [bV, aF, O, J, E, av, ar] [O, J, E, av, ar] fJ fJ := Mv.less (all_cons (.tail _ (.tail _ (.head _))) (all_cons (.tail _ (.tail _ (.tail _ (.head _)))) (all_cons (.tail _ (.tail _ (.tail _ (.tail _ (.head _))))) (all_cons (.tail _ (.tail _ (.tail _ (.tail _ (.tail _ (.head _)))))) (all_cons (.tail _ (.tail _ (.tail _ (.tail _ (.tail _ (.tail _ (.head _))))))) all_nil)))))
     replace ⟨aA, aB, aC, aD, V, W, C, Z, ae, af, aa, ag⟩ := (sp e8 (Chg.refl nil _)).g12 aA aB aC aD V W C Z ae af aa ag
     replace ⟨aw, ax, ay, az, aW, aX, aY, aZ⟩ := (sp e8 (Chg.refl nil _)).g8 aw ax ay az aW aX aY aZ
     exact bA (k + 1, aK, a_k_0, n_k_0, c_k_0, aL, a_k_1, n_k_1, c_k_1, aI, a_k_2, n_k_2, c_k_2, aM, a_k_3, n_k_3, c_k_3, ak, a_k_01, n_k_01, c_k_01, al, a_k_11, n_k_11, c_k_11, ab, a_k_21, n_k_21, c_k_21, am, a_k_31, n_k_31, c_k_31) _ _ ⟨by kernel_rfl, by kernel_rfl, by kernel_rfl, by kernel_rfl, by kernel_rfl, trivial⟩ ⟨ao, V, W, C, Z, ae, af, aa, ag, aE, ai, (by omega), (by exact MI.stay (by assumption : MI au (⟨⟨aK, aL⟩, aI, aM⟩ : Sto) k) (by assumption) ⟨by omega, fun h => by omega⟩), (by exact MI.stay (by assumption : MI au (⟨⟨ak, al⟩, ab, am⟩ : Sto) k) (by assumption) (tm_at (L := ab.length) (by omega)))⟩ (by (simp only []; omega))
    refine .r [12] <| .go 13 <| .nw (fun b => .pointer (some ⟨b, 0, none⟩)) 30 [.slice none 0 0, .slice none 0 0, .slice none 0 0, .slice none 0 0] fun mF dx => ?_
    replace ⟨aA, aB, aC, aD, aj, ac, aq, aE, ai, V, W, C⟩ := (se [aF, O, J, E, av, ar] dx).g12 aA aB aC aD aj ac aq aE ai V W C
    replace ⟨Z, ae, af, aa, ag, aw, ax, ay, az, aO, aW, aX⟩ := (se [aF, O, J, E, av, ar] dx).g12 Z ae af aa ag aw ax ay az aO aW aX
    replace ⟨aY, aZ, ah, ao, aP⟩ := (se [aF, O, J, E, av, ar] dx).g5 aY aZ ah ao aP
    clear dx
    intro bK mG bC dy gG gH
    have kj := nb_new bC aj.lt
    have kk := nb_new bC ac.lt
    have kl := nb_new bC aq.lt
    have km := nb_new bC aE.lt
    have ko := nb_new bC ai.lt
    have kr := nb_new bC aO.lt
    have ks := ah.cn bC
    have kt := ao.cn bC
    have gI := aP.cn bC
    replace ⟨aA, aB, aC, aD, aj, ac, aq, aE, ai, V, W, C⟩ := (sn [aF, O, J, E, av, ar] dy bC).g12 aA aB aC aD aj ac aq aE ai V W C
    replace ⟨Z, ae, af, aa, ag, aw, ax, ay, az, aO, aW, aX⟩ := (sn [aF, O, J, E, av, ar] dy bC).g12 Z ae af aa ag aw ax ay az aO aW aX
    replace ⟨aY, aZ, ah, ao, aP⟩ := (sn [aF, O, J, E, av, ar] dy bC).g5 aY aZ ah ao aP
    clear dy gH bC
    refine .go 14 <| GE.storeB (t' := 30) (o := 0) (v := .agg #[.slice cF (((((mergeT (⟨(⟨ak, al⟩ : Idx), ab, am⟩ : Sto) (Int.tmod (more.length : Int) (if 1 > (n_k_21 : Int) - 1 then 1 else (n_k_21 : Int) - 1))).1).idx).names).length) cG, .slice cH (((((mergeT (⟨(⟨ak, al⟩ : Idx), ab, am⟩ : Sto) (Int.tmod (more.length : Int) (if 1 > (n_k_21 : Int) - 1 then 1 else (n_k_21 : Int) - 1))).1).idx).posts).length) cI, .slice cJ ((((mergeT (⟨(⟨ak, al⟩ : Idx), ab, am⟩ : Sto) (Int.tmod (more.length : Int) (if 1 > (n_k_21 : Int) - 1 then 1 else (n_k_21 : Int) - 1))).1).parts).length) cK, .slice cL ((((mergeT (⟨(⟨ak, al⟩ : Idx), ab, am⟩ : Sto) (Int.tmod (more.length : Int) (if 1 > (n_k_21 : Int) - 1 then 1 else (n_k_21 : Int) - 1))).1).mem).length) cM]) [.slice cF (((((mergeT (⟨(⟨ak, al⟩ : Idx), ab, am⟩ : Sto) (Int.tmod (more.length : Int) (if 1 > (n_k_21 : Int) - 1 then 1 else (n_k_21 : Int) - 1))).1).idx).names).length) cG, .slice cH (((((mergeT (⟨(⟨ak, al⟩ : Idx), ab, am⟩ : Sto) (Int.tmod (more.length : Int) (if 1 > (n_k_21 : Int) - 1 then 1 else (n_k_21 : Int) - 1))).1).idx).posts).length) cI, .slice cJ ((((mergeT (⟨(⟨ak, al⟩ : Idx), ab, am⟩ : Sto) (Int.tmod (more.length : Int) (if 1 > (n_k_21 : Int) - 1 then 1 else (n_k_21 : Int) - 1))).1).parts).length) cK, .slice cL ((((mergeT (⟨(⟨ak, al⟩ : Idx), ab, am⟩ : Sto) (Int.tmod (more.length : Int) (if 1 > (n_k_21 : Int) - 1 then 1 else (n_k_21 : Int) - 1))).1).mem).length) cM] gG (by kernel_rfl) (by kernel_rfl) (by kernel_rfl) fun mH dz => ?_
    replace ⟨aA, aB, aC, aD, aj, ac, aq, aE, ai, V, W, C⟩ := (se [bK, aF, O, J, E, av, ar] dz).g12 aA aB aC aD aj ac aq aE ai V W C
    replace ⟨Z, ae, af, aa, ag, aw, ax, ay, az, aO, aW, aX⟩ := (se [bK, aF, O, J, E, av, ar] dz).g12 Z ae af aa ag aw ax ay az aO aW aX
    replace ⟨aY, aZ, ah, ao, aP⟩ := (se [bK, aF, O, J, E, av, ar] dz).g5 aY aZ ah ao aP
    clear dz
    intro mI cu en gJ
    have hkeep_ := Chg.toS cu (Cov.toS gI)
    clear gJ
    replace ⟨aA, aB, aC, aD, aj, ac, aq, aE, ai, V, W, C⟩ := (so [bK, aF, O, J, E, av, ar] cu).g12 aA aB aC aD aj ac aq aE ai V W C
    replace ⟨Z, ae, af, aa, ag, aw, ax, ay, az, aO, aW, aX⟩ := (so [bK, aF, O, J, E, av, ar] cu).g12 Z ae af aa ag aw ax ay az aO aW aX
    replace ⟨aY, aZ, ah, ao, aP⟩ := (so [bK, aF, O, J, E, av, ar] cu).g5 aY aZ ah ao aP
    clear cu
    refine ⟨hkeep_, ?_⟩
    refine .d fun mJ dA => ?_
    replace ⟨aA, aB, aC, aD, aj, ac, aq, aE, ai, V, W, C⟩ := (se [bK, aF, O, J, E, av, ar] dA).g12 aA aB aC aD aj ac aq aE ai V W C
    replace ⟨Z, ae, af, aa, ag, aw, ax, ay, az, aO, aW, aX⟩ := (se [bK, aF, O, J, E, av, ar] dA).g12 Z ae af aa ag aw ax ay az aO aW aX
    replace ⟨aY, aZ, en, ah, ao, aP⟩ := (se [bK, aF, O, J, E, av, ar] dA).g6 aY aZ en ah ao aP
    clear dA
    replace aA := aA.outof
    replace aB := aB.outof
    replace aC := aC.outof
    replace aD := aD.outof
    replace V := V.outof
    replace W := W.outof
    replace C := C.outof
    replace Z := Z.outof
    replace ae := ae.outof
    replace af := af.outof
    replace aa := aa.outof
    replace ag := ag.outof
    replace aw := aw.outof
    replace ax := ax.outof
    replace ay := ay.outof
    replace az := az.outof
    refine .r 1 <| .d <| .s <| .g <| .r 1 <| .d <| .ct <| .g <| .ln en <| .sc [.slice cF (((((mergeT (⟨(⟨ak, al⟩ : Idx), ab, am⟩ : Sto) (Int.tmod (more.length : Int) (if 1 > (n_k_21 : Int) - 1 then 1 else (n_k_21 : Int) - 1))).1).idx).names).length) cG, .slice cH (((((mergeT (⟨(⟨ak, al⟩ : Idx), ab, am⟩ : Sto) (Int.tmod (more.length : Int) (if 1 > (n_k_21 : Int) - 1 then 1 else (n_k_21 : Int) - 1))).1).idx).posts).length) cI, .slice cJ ((((mergeT (⟨(⟨ak, al⟩ : Idx), ab, am⟩ : Sto) (Int.tmod (more.length : Int) (if 1 > (n_k_21 : Int) - 1 then 1 else (n_k_21 : Int) - 1))).1).parts).length) cK, .slice cL ((((mergeT (⟨(⟨ak, al⟩ : Idx), ab, am⟩ : Sto) (Int.tmod (more.length : Int) (if 1 > (n_k_21 : Int) - 1 then 1 else (n_k_21 : Int) - 1))).1).mem).length) cM] ai fun fK dB gK gL => ?_
    replace ⟨aA, aB, aC, aD, aj, ac, aq, aE, V, W, C, Z⟩ := (so [bK, aF, O, J, E, av, ar] dB).g12 aA aB aC aD aj ac aq aE V W C Z
    replace ⟨ae, af, aa, ag, aw, ax, ay, az, aO, aW, aX, aY⟩ := (so [bK, aF, O, J, E, av, ar] dB).g12 ae af aa ag aw ax ay az aO aW aX aY
    replace ⟨aZ, ah, ao⟩ := (so [bK, aF, O, J, E, av, ar] dB).g3 aZ ah ao
    clear dB gL
    refine .d <| .ib 1 <| .g <| .r 1 <| RG.int ((k : Int) + 1) (by kernel_rfl) (by have q2 := (MI.sd (by assumption : MI au (⟨⟨ak, al⟩, ab, am⟩ : Sto) k)).np; have q3 : ab.length ≤ 6 := q2; omega) <| .r 1 <| .d ?_
    have e9 : Mv [bK, aF, O, J, E, av, ar] [O, J, E, av, ar] fK fK := Mv.less (all_cons (.tail _ (.tail _ (.head _))) (all_cons (.tail _ (.tail _ (.tail _ (.head _)))) (all_cons (.tail _ (.tail _ (.tail _ (.tail _ (.head _))))) (all_cons (.tail _ (.tail _ (.tail _ (.tail _ (.tail _ (.head _)))))) (all_cons (.tail _ (.tail _ (.tail _ (.tail _ (.tail _ (.tail _ (.head _))))))) all_nil)))))
    replace ⟨aA, aB, aC, aD, V, W, C, Z, ae, af, aa, ag⟩ := (sp e9 (Chg.refl nil _)).g12 aA aB aC aD V W C Z ae af aa ag
    replace ⟨aw, ax, ay, az, aW, aX, aY, aZ⟩ := (sp e9 (Chg.refl nil _)).g8 aw ax ay az aW aX aY aZ
    exact bA (k + 1, aK, a_k_0, n_k_0, c_k_0, aL, a_k_1, n_k_1, c_k_1, aI, a_k_2, n_k_2, c_k_2, aM, a_k_3, n_k_3, c_k_3, (((mergeT (⟨(⟨ak, al⟩ : Idx), ab, am⟩ : Sto) (Int.tmod (more.length : Int) (if 1 > (n_k_21 : Int) - 1 then 1 else (n_k_21 : Int) - 1))).1).idx).names, cF, ((((mergeT (⟨(⟨ak, al⟩ : Idx), ab, am⟩ : Sto) (Int.tmod (more.length : Int) (if 1 > (n_k_21 : Int) - 1 then 1 else (n_k_21 : Int) - 1))).1).idx).names).length, cG, (((mergeT (⟨(⟨ak, al⟩ : Idx), ab, am⟩ : Sto) (Int.tmod (more.length : Int) (if 1 > (n_k_21 : Int) - 1 then 1 else (n_k_21 : Int) - 1))).1).idx).posts, cH, ((((mergeT (⟨(⟨ak, al⟩ : Idx), ab, am⟩ : Sto) (Int.tmod (more.length : Int) (if 1 > (n_k_21 : Int) - 1 then 1 else (n_k_21 : Int) - 1))).1).idx).posts).length, cI, ((mergeT (⟨(⟨ak, al⟩ : Idx), ab, am⟩ : Sto) (Int.tmod (more.length : Int) (if 1 > (n_k_21 : Int) - 1 then 1 else (n_k_21 : Int) - 1))).1).parts, cJ, (((mergeT (⟨(⟨ak, al⟩ : Idx), ab, am⟩ : Sto) (Int.tmod (more.length : Int) (if 1 > (n_k_21 : Int) - 1 then 1 else (n_k_21 : Int) - 1))).1).parts).length, cK, ((mergeT (⟨(⟨ak, al⟩ : Idx), ab, am⟩ : Sto) (Int.tmod (more.length : Int) (if 1 > (n_k_21 : Int) - 1 then 1 else (n_k_21 : Int) - 1))).1).mem, cL, (((mergeT (⟨(⟨ak, al⟩ : Idx), ab, am⟩ : Sto) (Int.tmod (more.length : Int) (if 1 > (n_k_21 : Int) - 1 then 1 else (n_k_21 : Int) - 1))).1).mem).length, cM) _ _ ⟨by kernel_rfl, by kernel_rfl, by kernel_rfl, by kernel_rfl, by kernel_rfl, trivial⟩ ⟨ao, V, W, C, Z, aW, aX, aY, aZ, aE, gK, (by omega), (by exact MI.stay (by assumption : MI au (⟨⟨aK, aL⟩, aI, aM⟩ : Sto) k) (by assumption) ⟨by omega, fun h => by omega⟩), (by exact MI.step (by assumption : MI au (⟨⟨ak, al⟩, ab, am⟩ : Sto) k) (by assumption))⟩ (by (simp only []; omega))
   refine .nw (fun b => .pointer (some ⟨b, 0, none⟩)) 30 [.slice none 0 0, .slice none 0 0, .slice none 0 0, .slice none 0 0] fun mK dC => ?_
   replace ⟨aA, aB, aC, aD, aj, ac, aq, aE, ai, V, W, C⟩ := (se [aF, O, J, E, av, ar] dC).g12 aA aB aC aD aj ac aq aE ai V W C
   replace ⟨Z, ae, af, aa, ag, aw, ax, ay, az, aO, ah, ao⟩ := (se [aF, O, J, E, av, ar] dC).g12 Z ae af aa ag aw ax ay az aO ah ao
   replace aP := (se [aF, O, J, E, av, ar] dC).g1 aP
   clear dC
   intro aV mL bG eo bM gM
   have ku := nb_new bG aj.lt
   have kv := nb_new bG ac.lt
   have kw := nb_new bG aq.lt
   have kx := nb_new bG aE.lt
   have ky := nb_new bG ai.lt
   have kz := ah.cn bG
   have kA := ao.cn bG
   have fa := aP.cn bG
   replace ⟨aA, aB, aC, aD, aj, ac, aq, aE, ai, V, W, C⟩ := (sn [aF, O, J, E, av, ar] eo bG).g12 aA aB aC aD aj ac aq aE ai V W C
   replace ⟨Z, ae, af, aa, ag, aw, ax, ay, az, aO, ah, ao⟩ := (sn [aF, O, J, E, av, ar] eo bG).g12 Z ae af aa ag aw ax ay az aO ah ao
   clear eo gM bG
   refine .go 9 <| .cl (fun fb bS => c_impl_StoreMerge (⟨(⟨ak, al⟩ : Idx), ab, am⟩ : Sto) (Int.tmod (more.length : Int) (if 1 > (n_k_21 : Int) - 1 then 1 else (n_k_21 : Int) - 1)) ((ae.base (fun _ _ h => h.1)).ext bS) ((af.base (fun _ _ h => h.1)).ext bS) ((aa.base (fun _ _ h => h.1)).ext bS) ((ag.base (fun _ _ h => h.1)).ext bS) (by exact MI.sd (by assumption : MI au (⟨⟨ak, al⟩, ab, am⟩ : Sto) k)) (w := fb) (F := nin (fo F w.heap.size) [aV, aF, O, J, E, av, ar])) ?_
   intro fb bS
   replace ⟨aA, aB, aC, aD, aj, ac, aq, aE, ai, V, W, C⟩ := (se [aV, aF, O, J, E, av, ar] bS).g12 aA aB aC aD aj ac aq aE ai V W C
   replace ⟨Z, ae, af, aa, ag, aw, ax, ay, az, aO, bM, ah⟩ := (se [aV, aF, O, J, E, av, ar] bS).g12 Z ae af aa ag aw ax ay az aO bM ah
   replace ao := (se [aV, aF, O, J, E, av, ar] bS).g1 ao
   rintro mM mN ⟨⟨mO, rfl, ⟨_, rfl, ⟨cN, mP, cO, cP, mQ, cQ, cR, mR, cS, cT, mS, cU, rfl, bi, bj, bk, bm⟩⟩⟩, dD⟩
   have cv := al7 bM.lt aO.lt ai.lt aE.lt aq.lt ac.lt aj.lt
   have dE : Gb w.heap.size fb.heap.size := ah.size
   have hkeep_ := dD
   replace ⟨aA, aB, aC, aD, aj, ac, aq, aE, ai, V, W, C⟩ := (se [aV, aF, O, J, E, av, ar] dD).g12 aA aB aC aD aj ac aq aE ai V W C
   replace ⟨Z, ae, af, aa, ag, aw, ax, ay, az, bM, ah, ao⟩ := (se [aV, aF, O, J, E, av, ar] dD).g12 Z ae af aa ag aw ax ay az bM ah ao
   clear dD
   refine ⟨Ext.chg hkeep_, ?_⟩
   replace bi := RepS.mixed' (M := [aV, aF, O, J, E, av, ar]) bi cv dE
   have kB := bi.max
   replace bj := RepS.mixed' (M := [aV, aF, O, J, E, av, ar]) bj cv dE
   have kC := bj.max
   replace bk := RepS.mixed' (M := [aV, aF, O, J, E, av, ar]) bk cv dE
   have kD := bk.max
   replace bm := RepS.mixed' (M := [aV, aF, O, J, E, av, ar]) bm cv dE
   have kE := bm.max
   clear cv
   have gN := bi.len
   subst gN
   have gO := bj.len
   subst gO
   have gP := bk.len
   subst gP
   have gQ := bm.len
   subst gQ
   refine .r [10, 11] ?_
   cases kF : (mergeT (⟨(⟨ak, al⟩ : Idx), ab, am⟩ : Sto) (Int.tmod (more.length : Int) (if 1 > (n_k_21 : Int) - 1 then 1 else (n_k_21 : Int) - 1))).2
   ·refine .r [12] <| .go 14 <| GE.storeB (t' := 30) (o := 0) (v := .agg #[.slice cN (((((mergeT (⟨(⟨ak, al⟩ : Idx), ab, am⟩ : Sto) (Int.tmod (more.length : Int) (if 1 > (n_k_21 : Int) - 1 then 1 else (n_k_21 : Int) - 1))).1).idx).names).length) cO, .slice cP (((((mergeT (⟨(⟨ak, al⟩ : Idx), ab, am⟩ : Sto) (Int.tmod (more.length : Int) (if 1 > (n_k_21 : Int) - 1 then 1 else (n_k_21 : Int) - 1))).1).idx).posts).length) cQ, .slice cR ((((mergeT (⟨(⟨ak, al⟩ : Idx), ab, am⟩ : Sto) (Int.tmod (more.length : Int) (if 1 > (n_k_21 : Int) - 1 then 1 else (n_k_21 : Int) - 1))).1).parts).length) cS, .slice cT ((((mergeT (⟨(⟨ak, al⟩ : Idx), ab, am⟩ : Sto) (Int.tmod (more.length : Int) (if 1 > (n_k_21 : Int) - 1 then 1 else (n_k_21 : Int) - 1))).1).mem).length) cU]) [.slice cN (((((mergeT (⟨(⟨ak, al⟩ : Idx), ab, am⟩ : Sto) (Int.tmod (more.length : Int) (if 1 > (n_k_21 : Int) - 1 then 1 else (n_k_21 : Int) - 1))).1).idx).names).length) cO, .slice cP (((((mergeT (⟨(⟨ak, al⟩ : Idx), ab, am⟩ : Sto) (Int.tmod (more.length : Int) (if 1 > (n_k_21 : Int) - 1 then 1 else (n_k_21 : Int) - 1))).1).idx).posts).length) cQ, .slice cR ((((mergeT (⟨(⟨ak, al⟩ : Idx), ab, am⟩ : Sto) (Int.tmod (more.length : Int) (if 1 > (n_k_21 : Int) - 1 then 1 else (n_k_21 : Int) - 1))).1).parts).length) cS, .slice cT ((((mergeT (⟨(⟨ak, al⟩ : Idx), ab, am⟩ : Sto) (Int.tmod (more.length : Int) (if 1 > (n_k_21 : Int) - 1 then 1 else (n_k_21 : Int) - 1))).1).mem).length) cU] bM (by kernel_rfl) (by kernel_rfl) (by kernel_rfl) fun mT dF => ?_
    replace ⟨aA, aB, aC, aD, aj, ac, aq, aE, ai, V, W, C⟩ := (se [aV, aF, O, J, E, av, ar] dF).g12 aA aB aC aD aj ac aq aE ai V W C
    replace ⟨Z, ae, af, aa, ag, aw, ax, ay, az, bM, bi, bj⟩ := (se [aV, aF, O, J, E, av, ar] dF).g12 Z ae af aa ag aw ax ay az bM bi bj
    replace ⟨bk, bm, ah, ao⟩ := (se [aV, aF, O, J, E, av, ar] dF).g4 bk bm ah ao
    clear dF
    intro mU cw kG gR
    have hkeep_ := Chg.toS cw (Cov.toS fa)
    clear gR
    replace ⟨aA, aB, aC, aD, aj, ac, aq, aE, ai, V, W, C⟩ := (so [aV, aF, O, J, E, av, ar] cw).g12 aA aB aC aD aj ac aq aE ai V W C
    replace ⟨Z, ae, af, aa, ag, aw, ax, ay, az, bi, bj, bk⟩ := (so [aV, aF, O, J, E, av, ar] cw).g12 Z ae af aa ag aw ax ay az bi bj bk
    replace ⟨bm, ah, ao⟩ := (so [aV, aF, O, J, E, av, ar] cw).g3 bm ah ao
    clear cw
    refine ⟨hkeep_, ?_⟩
    refine .d fun fL dG => ?_
    replace ⟨aA, aB, aC, aD, aj, ac, aq, aE, ai, V, W, C⟩ := (se [aV, aF, O, J, E, av, ar] dG).g12 aA aB aC aD aj ac aq aE ai V W C
    replace ⟨Z, ae, af, aa, ag, aw, ax, ay, az, bi, bj, bk⟩ := (se [aV, aF, O, J, E, av, ar] dG).g12 Z ae af aa ag aw ax ay az bi bj bk
    replace ⟨bm, ah, ao⟩ := (se [aV, aF, O, J, E, av, ar] dG).g3 bm ah ao
    clear dG
    replace aA := aA.outof
    replace aB := aB.outof
    replace aC := aC.outof
    replace aD := aD.outof
    replace V := V.outof
    replace W := W.outof
    replace C := C.outof
    replace Z := Z.outof
    replace ae := ae.outof
    replace af := af.outof
    replace aa := aa.outof
    replace ag := ag.outof
    replace aw := aw.outof
    replace ax := ax.outof
    replace ay := ay.outof
    replace az := az.outof
    refine .r 1 <| .d <| .s <| .g <| .r 1 <| .d <| .cf <| .sk <| .ib 1 <| .g <| .r 1 <| RG.int ((k : Int) + 1) (by kernel_rfl) (by have q2 := (MI.sd (by assumption : MI au (⟨⟨ak, al⟩, ab, am⟩ : Sto) k)).np; have q3 : ab.length ≤ 6 := q2; omega) <| .r 1 <| .d ?_
    have fc : Mv [aV, aF, O, J, E, av, ar] [O, J, E, av, ar] fL fL := Mv.less (all_cons (.tail _ (.tail _ (.head _))) (all_cons (.tail _ (.tail _ (.tail _ (.head _)))) (all_cons (.tail _ (.tail _ (.tail _ (.tail _ (.head _))))) (all_cons (.tail _ (.tail _ (.tail _ (.tail _ (.tail _ (.head _)))))) (all_cons (.tail _ (.tail _ (.tail _ (.tail _ (.tail _ (.tail _ (.head _))))))) all_nil)))))
    replace ⟨aA, aB, aC, aD, V, W, C, Z, ae, af, aa, ag⟩ := (sp fc (Chg.refl nil _)).g12 aA aB aC aD V W C Z ae af aa ag
    replace ⟨aw, ax, ay, az, bi, bj, bk, bm⟩ := (sp fc (Chg.refl nil _)).g8 aw ax ay az bi bj bk bm
    exact bA (k + 1, aK, a_k_0, n_k_0, c_k_0, aL, a_k_1, n_k_1, c_k_1, aI, a_k_2, n_k_2, c_k_2, aM, a_k_3, n_k_3, c_k_3, ak, a_k_01, n_k_01, c_k_01, al, a_k_11, n_k_11, c_k_11, ab, a_k_21, n_k_21, c_k_21, am, a_k_31, n_k_31, c_k_31) _ _ ⟨by kernel_rfl, by kernel_rfl, by kernel_rfl, by kernel_rfl, by kernel_rfl, trivial⟩ ⟨ao, V, W, C, Z, ae, af, aa, ag, aE, ai, (by omega), (by exact MI.stay (by assumption : MI au (⟨⟨aK, aL⟩, aI, aM⟩ : Sto) k) (by assumption) ⟨by omega, fun h => by omega⟩), (by exact MI.stay (by assumption : MI au (⟨⟨ak, al⟩, ab, am⟩ : Sto) k) (by assumption) (tm_at (L := ab.length) (by omega)))⟩ (by (simp only []; omega))
   refine .r [12] <| .go 14 <| GE.storeB (t' := 30) (o := 0) (v := .agg #[.slice cN (((((mergeT (⟨(⟨ak, al⟩ : Idx), ab, am⟩ : Sto) (Int.tmod (more.length : Int) (if 1 > (n_k_21 : Int) - 1 then 1 else (n_k_21 : Int) - 1))).1).idx).names).length) cO, .slice cP (((((mergeT (⟨(⟨ak, al⟩ : Idx), ab, am⟩ : Sto) (Int.tmod (more.length : Int) (if 1 > (n_k_21 : Int) - 1 then 1 else (n_k_21 : Int) - 1))).1).idx).posts).length) cQ, .slice cR ((((mergeT (⟨(⟨ak, al⟩ : Idx), ab, am⟩ : Sto) (Int.tmod (more.length : Int) (if 1 > (n_k_21 : Int) - 1 then 1 else (n_k_21 : Int) - 1))).1).parts).length) cS, .slice cT ((((mergeT (⟨(⟨ak, al⟩ : Idx), ab, am⟩ : Sto) (Int.tmod (more.length : Int) (if 1 > (n_k_21 : Int) - 1 then 1 else (n_k_21 : Int) - 1))).1).mem).length) cU]) [.slice cN (((((mergeT (⟨(⟨ak, al⟩ : Idx), ab, am⟩ : Sto) (Int.tmod (more.length : Int) (if 1 > (n_k_21 : Int) - 1 then 1 else (n_k_21 : Int) - 1))).1).idx).names).length) cO, .slice cP (((((mergeT (⟨(⟨ak, al⟩ : Idx), ab, am⟩ : Sto) (Int.tmod (more.length : Int) (if 1 > (n_k_21 : Int) - 1 then 1 else (n_k_21 : Int) - 1))).1).idx).posts).length) cQ, .slice cR ((((mergeT (⟨(⟨ak, al⟩ : Idx), ab, am⟩ : Sto) (Int.tmod (more.length : Int) (if 1 > (n_k_21 : Int) - 1 then 1 else (n_k_21 : Int) - 1))).1).parts).length) cS, .slice cT ((((mergeT (⟨(⟨ak, al⟩ : Idx), ab, am⟩ : Sto) (Int.tmod (more.length : Int) (if 1 > (n_k_21 : Int) - 1 then 1 else (n_k_21 : Int) - 1))).1).mem).length) cU] bM (by kernel_rfl) (by kernel_rfl) (by kernel_rfl) fun mV dH => ?_
   replace ⟨aA, aB, aC, aD, aj, ac, aq, aE, ai, V, W, C⟩ := (se [aV, aF, O, J, E, av, ar] dH).g12 aA aB aC aD aj ac aq aE ai V W C
   replace ⟨Z, ae, af, aa, ag, aw, ax, ay, az, bi, bj, bk⟩ := (se [aV, aF, O, J, E, av, ar] dH).g12 Z ae af aa ag aw ax ay az bi bj bk
   replace ⟨bm, ah, ao⟩ := (se [aV, aF, O, J, E, av, ar] dH).g3 bm ah ao
   clear dH
   intro mW cx es gS
   have hkeep_ := Chg.toS cx (Cov.toS fa)
   clear gS
   replace ⟨aA, aB, aC, aD, aj, ac, aq, aE, ai, V, W, C⟩ := (so [aV, aF, O, J, E, av, ar] cx).g12 aA aB aC aD aj ac aq aE ai V W C
   replace ⟨Z, ae, af, aa, ag, aw, ax, ay, az, bi, bj, bk⟩ := (so [aV, aF, O, J, E, av, ar] cx).g12 Z ae af aa ag aw ax ay az bi bj bk
   replace ⟨bm, ah, ao⟩ := (so [aV, aF, O, J, E, av, ar] cx).g3 bm ah ao
   clear cx
   refine ⟨hkeep_, ?_⟩
   refine .d fun mX dI => ?_
   replace ⟨aA, aB, aC, aD, aj, ac, aq, aE, ai, V, W, C⟩ := (se [aV, aF, O, J, E, av, ar] dI).g12 aA aB aC aD aj ac aq aE ai V W C
   replace ⟨Z, ae, af, aa, ag, aw, ax, ay, az, es, bi, bj⟩ := (se [aV, aF, O, J, E, av, ar] dI).g12 Z ae af aa ag aw ax ay az es bi bj
   replace ⟨bk, bm, ah, ao⟩ := (se [aV, aF, O, J, E, av, ar] dI).g4 bk bm ah ao
   clear dI
   replace aA := aA.outof
   replace aB := aB.outof
   replace aC := aC.outof
   replace aD := aD.outof
   replace V := V.outof
   replace W := W.outof
   replace C := C.outof
   replace Z := Z.outof
   replace ae := ae.outof
   replace af := af.outof
   replace aa := aa.outof
   replace ag := ag.outof
   replace aw := aw.outof
   replace ax := ax.outof
   replace ay := ay.outof
   replace az := az.outof
   refine .r 1 <| .d <| .s <| .g <| .r 1 <| .d <| .ct <| .g <| .ln es <| .sc [.slice cN (((((mergeT (⟨(⟨ak, al⟩ : Idx), ab, am⟩ : Sto) (Int.tmod (more.length : Int) (if 1 > (n_k_21 : Int) - 1 then 1 else (n_k_21 : Int) - 1))).1).idx).names).length) cO, .slice cP (((((mergeT (⟨(⟨ak, al⟩ : Idx), ab, am⟩ : Sto) (Int.tmod (more.length : Int) (if 1 > (n_k_21 : Int) - 1 then 1 else (n_k_21 : Int) - 1))).1).idx).posts).length) cQ, .slice cR ((((mergeT (⟨(⟨ak, al⟩ : Idx), ab, am⟩ : Sto) (Int.tmod (more.length : Int) (if 1 > (n_k_21 : Int) - 1 then 1 else (n_k_21 : Int) - 1))).1).parts).length) cS, .slice cT ((((mergeT (⟨(⟨ak, al⟩ : Idx), ab, am⟩ : Sto) (Int.tmod (more.length : Int) (if 1 > (n_k_21 : Int) - 1 then 1 else (n_k_21 : Int) - 1))).1).mem).length) cU] ai fun fM dJ gT gU => ?_
   replace ⟨aA, aB, aC, aD, aj, ac, aq, aE, V, W, C, Z⟩ := (so [aV, aF, O, J, E, av, ar] dJ).g12 aA aB aC aD aj ac aq aE V W C Z
   replace ⟨ae, af, aa, ag, aw, ax, ay, az, bi, bj, bk, bm⟩ := (so [aV, aF, O, J, E, av, ar] dJ).g12 ae af aa ag aw ax ay az bi bj bk bm
   replace ⟨ah, ao⟩ := (so [aV, aF, O, J, E, av, ar] dJ).g2 ah ao
   clear dJ gU
   refine .d <| .ib 1 <| .g <| .r 1 <| RG.int ((k : Int) + 1) (by kernel_rfl) (by have q2 := (MI.sd (by assumption : MI au (⟨⟨ak, al⟩, ab, am⟩ : Sto) k)).np; have q3 : ab.length ≤ 6 := q2; omega) <| .r 1 <| .d ?_
   have fd : Mv [aV, aF, O, J, E, av, ar] [O, J, E, av, ar] fM fM := Mv.less (all_cons (.tail _ (.tail _ (.head _))) (all_cons (.tail _ (.tail _ (.tail _ (.head _)))) (all_cons (.tail _ (.tail _ (.tail _ (.tail _ (.head _))))) (all_cons (.tail _ (.tail _ (.tail _ (.tail _ (.tail _ (.head _)))))) (all_cons (.tail _ (.tail _ (.tail _ (.tail _ (.tail _ (.tail _ (.head _))))))) all_nil)))))
   replace ⟨aA, aB, aC, aD, V, W, C, Z, ae, af, aa, ag⟩ := (sp fd (Chg.refl nil _)).g12 aA aB aC aD V W C Z ae af aa ag
   replace ⟨aw, ax, ay, az, bi, bj, bk, bm⟩ := (sp fd (Chg.refl nil _)).g8 aw ax ay az bi bj bk bm
   exact bA (k + 1, aK, a_k_0, n_k_0, c_k_0, aL, a_k_1, n_k_1, c_k_1, aI, a_k_2, n_k_2, c_k_2, aM, a_k_3, n_k_3, c_k_3, (((mergeT (⟨(⟨ak, al⟩ : Idx), ab, am⟩ : Sto) (Int.tmod (more.length : Int) (if 1 > (n_k_21 : Int) - 1 then 1 else (n_k_21 : Int) - 1))).1).idx).names, cN, ((((mergeT (⟨(⟨ak, al⟩ : Idx), ab, am⟩ : Sto) (Int.tmod (more.length : Int) (if 1 > (n_k_21 : Int) - 1 then 1 else (n_k_21 : Int) - 1))).1).idx).names).length, cO, (((mergeT (⟨(⟨ak, al⟩ : Idx), ab, am⟩ : Sto) (Int.tmod (more.length : Int) (if 1 > (n_k_21 : Int) - 1 then 1 else (n_k_21 : Int) - 1))).1).idx).posts, cP, ((((mergeT (⟨(⟨ak, al⟩ : Idx), ab, am⟩ : Sto) (Int.tmod (more.length : Int) (if 1 > (n_k_21 : Int) - 1 then 1 else (n_k_21 : Int) - 1))).1).idx).posts).length, cQ, ((mergeT (⟨(⟨ak, al⟩ : Idx), ab, am⟩ : Sto) (Int.tmod (more.length : Int) (if 1 > (n_k_21 : Int) - 1 then 1 else (n_k_21 : Int) - 1))).1).parts, cR, (((mergeT (⟨(⟨ak, al⟩ : Idx), ab, am⟩ : Sto) (Int.tmod (more.length : Int) (if 1 > (n_k_21 : Int) - 1 then 1 else (n_k_21 : Int) - 1))).1).parts).length, cS, ((mergeT (⟨(⟨ak, al⟩ : Idx), ab, am⟩ : Sto) (Int.tmod (more.length : Int) (if 1 > (n_k_21 : Int) - 1 then 1 else (n_k_21 : Int) - 1))).1).mem, cT, (((mergeT (⟨(⟨ak, al⟩ : Idx), ab, am⟩ : Sto) (Int.tmod (more.length : Int) (if 1 > (n_k_21 : Int) - 1 then 1 else (n_k_21 : Int) - 1))).1).mem).length, cU) _ _ ⟨by kernel_rfl, by kernel_rfl, by kernel_rfl, by kernel_rfl, by kernel_rfl, trivial⟩ ⟨ao, V, W, C, Z, bi, bj, bk, bm, aE, gT, (by omega), (by exact MI.stay (by assumption : MI au (⟨⟨aK, aL⟩, aI, aM⟩ : Sto) k) (by assumption) ⟨by omega, fun h => by omega⟩), (by exact MI.step (by assumption : MI au (⟨⟨ak, al⟩, ab, am⟩ : Sto) k) (by assumption))⟩ (by (simp only []; omega))
  refine .r 1 <| .np 30 [.slice none 0 0, .slice none 0 0, .slice none 0 0, .slice none 0 0] fun aG mY bJ et gV gW => ?_
  have kH := nb_new bJ aj.lt
  have kI := nb_new bJ ac.lt
  have kJ := nb_new bJ aq.lt
  have kK := nb_new bJ aE.lt
  have kL := nb_new bJ ai.lt
  have kM := ah.cn bJ
  have kN := ao.cn bJ
  replace ⟨aA, aB, aC, aD, aj, ac, aq, aE, ai, V, W, C⟩ := (sn [O, J, E, av, ar] et bJ).g12 aA aB aC aD aj ac aq aE ai V W C
  replace ⟨Z, ae, af, aa, ag, aw, ax, ay, az, ah, ao⟩ := (sn [O, J, E, av, ar] et bJ).g11 Z ae af aa ag aw ax ay az ah ao
  clear et gW bJ
  refine .sc [.slice b9 (((((mergeT (⟨(⟨aK, aL⟩ : Idx), aI, aM⟩ : Sto) 0).1).idx).names).length) cd, .slice ce (((((mergeT (⟨(⟨aK, aL⟩ : Idx), aI, aM⟩ : Sto) 0).1).idx).posts).length) cg, .slice ci ((((mergeT (⟨(⟨aK, aL⟩ : Idx), aI, aM⟩ : Sto) 0).1).parts).length) cj, .slice ck ((((mergeT (⟨(⟨aK, aL⟩ : Idx), aI, aM⟩ : Sto) 0).1).mem).length) cm] gV fun mZ ew aN gX => ?_
  replace ⟨aA, aB, aC, aD, aj, ac, aq, aE, ai, V, W, C⟩ := (so [aG, O, J, E, av, ar] ew).g12 aA aB aC aD aj ac aq aE ai V W C
  replace ⟨Z, ae, af, aa, ag, aw, ax, ay, az, ah, ao⟩ := (so [aG, O, J, E, av, ar] ew).g11 Z ae af aa ag aw ax ay az ah ao
  clear ew gX
  refine .r 1 <| .d <| .s <| .s <| .g <| .r 1 <| .d <| .ct <| .g <| .ln aN <| .sc [.slice b9 (((((mergeT (⟨(⟨aK, aL⟩ : Idx), aI, aM⟩ : Sto) 0).1).idx).names).length) cd, .slice ce (((((mergeT (⟨(⟨aK, aL⟩ : Idx), aI, aM⟩ : Sto) 0).1).idx).posts).length) cg, .slice ci ((((mergeT (⟨(⟨aK, aL⟩ : Idx), aI, aM⟩ : Sto) 0).1).parts).length) cj, .slice ck ((((mergeT (⟨(⟨aK, aL⟩ : Idx), aI, aM⟩ : Sto) 0).1).mem).length) cm] aE fun cV ex aH gY => ?_
  replace ⟨aA, aB, aC, aD, aj, ac, aq, ai, V, W, C, Z⟩ := (so [aG, O, J, E, av, ar] ex).g12 aA aB aC aD aj ac aq ai V W C Z
  replace ⟨ae, af, aa, ag, aw, ax, ay, az, aN, ah, ao⟩ := (so [aG, O, J, E, av, ar] ex).g11 ae af aa ag aw ax ay az aN ah ao
  clear ex gY
  refine .d <| .s ?_
  replace aA := aA.into
  replace aB := aB.into
  replace aC := aC.into
  replace aD := aD.into
  replace V := V.into
  replace W := W.into
  replace C := C.into
  replace Z := Z.into
  replace ae := ae.into
  replace af := af.into
  replace aa := aa.into
  replace ag := ag.into
  replace aw := aw.into
  replace ax := ax.into
  replace ay := ay.into
  replace az := az.into
  have fe : Gb (O + 1) cV.heap.size := ai.lt
  refine .gd (mtb [] cV.heap.size) 15 fun iR dK => ?_
  replace ⟨aA, aB, aC, aD, aj, ac, aq, aH, ai, V, W, C⟩ := (se [aG, O, J, E, av, ar] dK).g12 aA aB aC aD aj ac aq aH ai V W C
  replace ⟨Z, ae, af, aa, ag, aw, ax, ay, az, aN, ah, ao⟩ := (se [aG, O, J, E, av, ar] dK).g12 Z ae af aa ag aw ax ay az aN ah ao
  have aQ : Chg (mtb [] cV.heap.size) cV iR := Chg.stepN (Chg.refl (mtb [] cV.heap.size) cV) dK
  clear dK
  refine .ln 0 ai (nS_of all_nil fe) <| .r [1, 2, 3] <| .lb 4 ai (nS_of all_nil fe) <| .r [5] <| GA.int (i := 6) ((n_k_21 : Int) - 1) (by kernel_rfl) (by have q2 := (MI.sd (by assumption : MI au (⟨⟨ak, al⟩, ab, am⟩ : Sto) k)).np; have q3 : ab.length ≤ 6 := q2; omega) <| .r [7] <| GA.rem (i := 8) (t := 3) (k := .i64) (a := (more.length : Int)) (b := (if 1 > (n_k_21 : Int) - 1 then 1 else (n_k_21 : Int) - 1)) (by kernel_rfl) (by kernel_rfl) (by omega) <| .tw 9 13 ?_ ?_
  ·refine .cl (fun ff bT => c_impl_StoreMerge (⟨(⟨ak, al⟩ : Idx), ab, am⟩ : Sto) (Int.tmod (more.length : Int) (if 1 > (n_k_21 : Int) - 1 then 1 else (n_k_21 : Int) - 1)) ((ae.base (fun _ _ h => h.1)).ext bT) ((af.base (fun _ _ h => h.1)).ext bT) ((aa.base (fun _ _ h => h.1)).ext bT) ((ag.base (fun _ _ h => h.1)).ext bT) (by exact MI.sd (by assumption : MI au (⟨⟨ak, al⟩, ab, am⟩ : Sto) k)) (w := ff) (F := nin (fo F w.heap.size) [aG, O, J, E, av, ar])) ?_
   intro ff bT
   replace ⟨aA, aB, aC, aD, aj, ac, aq, aH, ai, V, W, C⟩ := (se [aG, O, J, E, av, ar] bT).g12 aA aB aC aD aj ac aq aH ai V W C
   replace ⟨Z, ae, af, aa, ag, aw, ax, ay, az, aN, ah, ao⟩ := (se [aG, O, J, E, av, ar] bT).g12 Z ae af aa ag aw ax ay az aN ah ao
   replace aQ := (se [aG, O, J, E, av, ar] bT).g1 aQ
   rintro m0 m5 ⟨⟨m6, rfl, ⟨_, rfl, ⟨cW, m7, cX, cY, m8, cZ, c7, m9, c8, c9, nc, da, rfl, ba, bc, bd, bg⟩⟩⟩, cy⟩
   have cz := al6 aN.lt ai.lt aH.lt aq.lt ac.lt aj.lt
   have dL : Gb w.heap.size ff.heap.size := ah.size
   have hkeep_ := cy
   replace ⟨aA, aB, aC, aD, aj, ac, aq, aH, ai, V, W, C⟩ := (se [aG, O, J, E, av, ar] cy).g12 aA aB aC aD aj ac aq aH ai V W C
   replace ⟨Z, ae, af, aa, ag, aw, ax, ay, az, aN, ah, ao⟩ := (se [aG, O, J, E, av, ar] cy).g12 Z ae af aa ag aw ax ay az aN ah ao
   replace aQ := (se [aG, O, J, E, av, ar] cy).g1 aQ
   clear cy
   refine ⟨Ext.chg hkeep_, ?_⟩
   replace ba := RepS.mixed' (M := [aG, O, J, E, av, ar]) ba cz dL
   have kO := ba.max
   replace bc := RepS.mixed' (M := [aG, O, J, E, av, ar]) bc cz dL
   have kP := bc.max
   replace bd := RepS.mixed' (M := [aG, O, J, E, av, ar]) bd cz dL
   have kQ := bd.max
   replace bg := RepS.mixed' (M := [aG, O, J, E, av, ar]) bg cz dL
   have kR := bg.max
   clear cz
   have gZ := ba.len
   subst gZ
   have g0 := bc.len
   subst g0
   have hC := bd.len
   subst hC
   have hD := bg.len
   subst hD
   refine .r [10, 11] ?_
   cases kS : (mergeT (⟨(⟨ak, al⟩ : Idx), ab, am⟩ : Sto) (Int.tmod (more.length : Int) (if 1 > (n_k_21 : Int) - 1 then 1 else (n_k_21 : Int) - 1))).2
   ·refine .r [12] <| .go 13 <| .nw (fun b => .pointer (some ⟨b, 0, none⟩)) 30 [.slice none 0 0, .slice none 0 0, .slice none 0 0, .slice none 0 0] fun ng dM => ?_
    replace ⟨aA, aB, aC, aD, aj, ac, aq, aH, ai, V, W, C⟩ := (se [aG, O, J, E, av, ar] dM).g12 aA aB aC aD aj ac aq aH ai V W C
    replace ⟨Z, ae, af, aa, ag, aw, ax, ay, az, aN, ba, bc⟩ := (se [aG, O, J, E, av, ar] dM).g12 Z ae af aa ag aw ax ay az aN ba bc
    replace ⟨bd, bg, ah, ao, aQ⟩ := (se [aG, O, J, E, av, ar] dM).g5 bd bg ah ao aQ
    clear dM
    intro bW nh bD dN hE hH
    have kT := nb_new bD aj.lt
    have kU := nb_new bD ac.lt
    have kV := nb_new bD aq.lt
    have kW := nb_new bD aH.lt
    have kX := nb_new bD ai.lt
    have kY := nb_new bD aN.lt
    have kZ := ah.cn bD
    have k0 := ao.cn bD
    have hJ := aQ.cn bD
    replace ⟨aA, aB, aC, aD, aj, ac, aq, aH, ai, V, W, C⟩ := (sn [aG, O, J, E, av, ar] dN bD).g12 aA aB aC aD aj ac aq aH ai V W C
    replace ⟨Z, ae, af, aa, ag, aw, ax, ay, az, aN, ba, bc⟩ := (sn [aG, O, J, E, av, ar] dN bD).g12 Z ae af aa ag aw ax ay az aN ba bc
    replace ⟨bd, bg, ah, ao, aQ⟩ := (sn [aG, O, J, E, av, ar] dN bD).g5 bd bg ah ao aQ
    clear dN hH bD
    refine .go 14 <| GE.storeB (t' := 30) (o := 0) (v := .agg #[.slice cW (((((mergeT (⟨(⟨ak, al⟩ : Idx), ab, am⟩ : Sto) (Int.tmod (more.length : Int) (if 1 > (n_k_21 : Int) - 1 then 1 else (n_k_21 : Int) - 1))).1).idx).names).length) cX, .slice cY (((((mergeT (⟨(⟨ak, al⟩ : Idx), ab, am⟩ : Sto) (Int.tmod (more.length : Int) (if 1 > (n_k_21 : Int) - 1 then 1 else (n_k_21 : Int) - 1))).1).idx).posts).length) cZ, .slice c7 ((((mergeT (⟨(⟨ak, al⟩ : Idx), ab, am⟩ : Sto) (Int.tmod (more.length : Int) (if 1 > (n_k_21 : Int) - 1 then 1 else (n_k_21 : Int) - 1))).1).parts).length) c8, .slice c9 ((((mergeT (⟨(⟨ak, al⟩ : Idx), ab, am⟩ : Sto) (Int.tmod (more.length : Int) (if 1 > (n_k_21 : Int) - 1 then 1 else (n_k_21 : Int) - 1))).1).mem).length) da]) [.slice cW (((((mergeT (⟨(⟨ak, al⟩ : Idx), ab, am⟩ : Sto) (Int.tmod (more.length : Int) (if 1 > (n_k_21 : Int) - 1 then 1 else (n_k_21 : Int) - 1))).1).idx).names).length) cX, .slice cY (((((mergeT (⟨(⟨ak, al⟩ : Idx), ab, am⟩ : Sto) (Int.tmod (more.length : Int) (if 1 > (n_k_21 : Int) - 1 then 1 else (n_k_21 : Int) - 1))).1).idx).posts).length) cZ, .slice c7 ((((mergeT (⟨(⟨ak, al⟩ : Idx), ab, am⟩ : Sto) (Int.tmod (more.length : Int) (if 1 > (n_k_21 : Int) - 1 then 1 else (n_k_21 : Int) - 1))).1).parts).length) c8, .slice c9 ((((mergeT (⟨(⟨ak, al⟩ : Idx), ab, am⟩ : Sto) (Int.tmod (more.length : Int) (if 1 > (n_k_21 : Int) - 1 then 1 else (n_k_21 : Int) - 1))).1).mem).length) da] hE (by kernel_rfl) (by kernel_rfl) (by kernel_rfl) fun ni dO => ?_
    replace ⟨aA, aB, aC, aD, aj, ac, aq, aH, ai, V, W, C⟩ := (se [bW, aG, O, J, E, av, ar] dO).g12 aA aB aC aD aj ac aq aH ai V W C
    replace ⟨Z, ae, af, aa, ag, aw, ax, ay, az, aN, ba, bc⟩ := (se [bW, aG, O, J, E, av, ar] dO).g12 Z ae af aa ag aw ax ay az aN ba bc
    replace ⟨bd, bg, ah, ao, aQ⟩ := (se [bW, aG, O, J, E, av, ar] dO).g5 bd bg ah ao aQ
    clear dO
    intro nj cA k4 hN
    have hkeep_ := Chg.toS cA (Cov.toS hJ)
    clear hN
    replace ⟨aA, aB, aC, aD, aj, ac, aq, aH, ai, V, W, C⟩ := (so [bW, aG, O, J, E, av, ar] cA).g12 aA aB aC aD aj ac aq aH ai V W C
    replace ⟨Z, ae, af, aa, ag, aw, ax, ay, az, aN, ba, bc⟩ := (so [bW, aG, O, J, E, av, ar] cA).g12 Z ae af aa ag aw ax ay az aN ba bc
    replace ⟨bd, bg, ah, ao, aQ⟩ := (so [bW, aG, O, J, E, av, ar] cA).g5 bd bg ah ao aQ
    clear cA
    refine ⟨hkeep_, ?_⟩
    refine .d fun fN dP => ?_
    replace ⟨aA, aB, aC, aD, aj, ac, aq, aH, ai, V, W, C⟩ := (se [bW, aG, O, J, E, av, ar] dP).g12 aA aB aC aD aj ac aq aH ai V W C
    replace ⟨Z, ae, af, aa, ag, aw, ax, ay, az, aN, ba, bc⟩ := (se [bW, aG, O, J, E, av, ar] dP).g12 Z ae af aa ag aw ax ay az aN ba bc
    replace ⟨bd, bg, ah, ao, aQ⟩ := (se [bW, aG, O, J, E, av, ar] dP).g5 bd bg ah ao aQ
    clear dP
    replace aA := aA.outof
    replace aB := aB.outof
    replace aC := aC.outof
    replace aD := aD.outof
    replace V := V.outof
    replace W := W.outof
    replace C := C.outof
    replace Z := Z.outof
    replace ae := ae.outof
    replace af := af.outof
    replace aa := aa.outof
    replace ag := ag.outof
    replace aw := aw.outof
    replace ax := ax.outof
    replace ay := ay.outof
    replace az := az.outof
    refine .r 1 <| .d <| .s <| .g <| .r 1 <| .d <| .cf <| .sk <| .ib 1 <| .g <| .r 1 <| RG.int ((k : Int) + 1) (by kernel_rfl) (by have q2 := (MI.sd (by assumption : MI au (⟨⟨ak, al⟩, ab, am⟩ : Sto) k)).np; have q3 : ab.length ≤ 6 := q2; omega) <| .r 1 <| .d ?_
    have fg : Mv [bW, aG, O, J, E, av, ar] [O, J, E, av, ar] fN fN := Mv.less (all_cons (.tail _ (.tail _ (.head _))) (all_cons (.tail _ (.tail _ (.tail _ (.head _)))) (all_cons (.tail _ (.tail _ (.tail _ (.tail _ (.head _))))) (all_cons (.tail _ (.tail _ (.tail _ (.tail _ (.tail _ (.head _)))))) (all_cons (.tail _ (.tail _ (.tail _ (.tail _ (.tail _ (.tail _ (.head _))))))) all_nil)))))
    replace ⟨aA, aB, aC, aD, V, W, C, Z, ae, af, aa, ag⟩ := (sp fg (Chg.refl nil _)).g12 aA aB aC aD V W C Z ae af aa ag
    replace ⟨aw, ax, ay, az, ba, bc, bd, bg⟩ := (sp fg (Chg.refl nil _)).g8 aw ax ay az ba bc bd bg
    exact bA (k + 1, (((mergeT (⟨(⟨aK, aL⟩ : Idx), aI, aM⟩ : Sto) 0).1).idx).names, b9, ((((mergeT (⟨(⟨aK, aL⟩ : Idx), aI, aM⟩ : Sto) 0).1).idx).names).length, cd, (((mergeT (⟨(⟨aK, aL⟩ : Idx), aI, aM⟩ : Sto) 0).1).idx).posts, ce, ((((mergeT (⟨(⟨aK, aL⟩ : Idx), aI, aM⟩ : Sto) 0).1).idx).posts).length, cg, ((mergeT (⟨(⟨aK, aL⟩ : Idx), aI, aM⟩ : Sto) 0).1).parts, ci, (((mergeT (⟨(⟨aK, aL⟩ : Idx), aI, aM⟩ : Sto) 0).1).parts).length, cj, ((mergeT (⟨(⟨aK, aL⟩ : Idx), aI, aM⟩ : Sto) 0).1).mem, ck, (((mergeT (⟨(⟨aK, aL⟩ : Idx), aI, aM⟩ : Sto) 0).1).mem).length, cm, ak, a_k_01, n_k_01, c_k_01, al, a_k_11, n_k_11, c_k_11, ab, a_k_21, n_k_21, c_k_21, am, a_k_31, n_k_31, c_k_31) _ _ ⟨by kernel_rfl, by kernel_rfl, by kernel_rfl, by kernel_rfl, by kernel_rfl, trivial⟩ ⟨ao, aw, ax, ay, az, ae, af, aa, ag, aH, ai, (by omega), (by exact MI.step (by assumption : MI au (⟨⟨aK, aL⟩, aI, aM⟩ : Sto) k) (by assumption)), (by exact MI.stay (by assumption : MI au (⟨⟨ak, al⟩, ab, am⟩ : Sto) k) (by assumption) (tm_at (L := ab.length) (by omega)))⟩ (by (simp only []; omega))
   refine .r [12] <| .go 13 <| .nw (fun b => .pointer (some ⟨b, 0, none⟩)) 30 [.slice none 0 0, .slice none 0 0, .slice none 0 0, .slice none 0 0] fun nq dQ => ?_
   replace ⟨aA, aB, aC, aD, aj, ac, aq, aH, ai, V, W, C⟩ := (se [aG, O, J, E, av, ar] dQ).g12 aA aB aC aD aj ac aq aH ai V W C
   replace ⟨Z, ae, af, aa, ag, aw, ax, ay, az, aN, ba, bc⟩ := (se [aG, O, J, E, av, ar] dQ).g12 Z ae af aa ag aw ax ay az aN ba bc
   replace ⟨bd, bg, ah, ao, aQ⟩ := (se [aG, O, J, E, av, ar] dQ).g5 bd bg ah ao aQ
   clear dQ
   intro bL nt bE dR hO hQ
   have k5 := nb_new bE aj.lt
   have k6 := nb_new bE ac.lt
   have k7 := nb_new bE aq.lt
   have k8 := nb_new bE aH.lt
   have k9 := nb_new bE ai.lt
   have lc := nb_new bE aN.lt
   have ld := ah.cn bE
   have lf := ao.cn bE
   have hV := aQ.cn bE
   replace ⟨aA, aB, aC, aD, aj, ac, aq, aH, ai, V, W, C⟩ := (sn [aG, O, J, E, av, ar] dR bE).g12 aA aB aC aD aj ac aq aH ai V W C
   replace ⟨Z, ae, af, aa, ag, aw, ax, ay, az, aN, ba, bc⟩ := (sn [aG, O, J, E, av, ar] dR bE).g12 Z ae af aa ag aw ax ay az aN ba bc
   replace ⟨bd, bg, ah, ao, aQ⟩ := (sn [aG, O, J, E, av, ar] dR bE).g5 bd bg ah ao aQ
   clear dR hQ bE
   refine .go 14 <| GE.storeB (t' := 30) (o := 0) (v := .agg #[.slice cW (((((mergeT (⟨(⟨ak, al⟩ : Idx), ab, am⟩ : Sto) (Int.tmod (more.length : Int) (if 1 > (n_k_21 : Int) - 1 then 1 else (n_k_21 : Int) - 1))).1).idx).names).length) cX, .slice cY (((((mergeT (⟨(⟨ak, al⟩ : Idx), ab, am⟩ : Sto) (Int.tmod (more.length : Int) (if 1 > (n_k_21 : Int) - 1 then 1 else (n_k_21 : Int) - 1))).1).idx).posts).length) cZ, .slice c7 ((((mergeT (⟨(⟨ak, al⟩ : Idx), ab, am⟩ : Sto) (Int.tmod (more.length : Int) (if 1 > (n_k_21 : Int) - 1 then 1 else (n_k_21 : Int) - 1))).1).parts).length) c8, .slice c9 ((((mergeT (⟨(⟨ak, al⟩ : Idx), ab, am⟩ : Sto) (Int.tmod (more.length : Int) (if 1 > (n_k_21 : Int) - 1 then 1 else (n_k_21 : Int) - 1))).1).mem).length) da]) [.slice cW (((((mergeT (⟨(⟨ak, al⟩ : Idx), ab, am⟩ : Sto) (Int.tmod (more.length : Int) (if 1 > (n_k_21 : Int) - 1 then 1 else (n_k_21 : Int) - 1))).1).idx).names).length) cX, .slice cY (((((mergeT (⟨(⟨ak, al⟩ : Idx), ab, am⟩ : Sto) (Int.tmod (more.length : Int) (if 1 > (n_k_21 : Int) - 1 then 1 else (n_k_21 : Int) - 1))).1).idx).posts).length) cZ, .slice c7 ((((mergeT (⟨(⟨ak, al⟩ : Idx), ab, am⟩ : Sto) (Int.tmod (more.length : Int) (if 1 > (n_k_21 : Int) - 1 then 1 else (n_k_21 : Int) - 1))).1).parts).length) c8, .slice c9 ((((mergeT (⟨(⟨ak, al⟩ : Idx), ab, am⟩ : Sto) (Int.tmod (more.length : Int) (if 1 > (n_k_21 : Int) - 1 then 1 else (n_k_21 : Int) - 1))).1).mem).length) da] hO (by kernel_rfl) (by kernel_rfl) (by kernel_rfl) fun nu dS => ?_
   replace ⟨aA, aB, aC, aD, aj, ac, aq, aH, ai, V, W, C⟩ := (se [bL, aG, O, J, E, av, ar] dS).g12 aA aB aC aD aj ac aq aH ai V W C
   replace ⟨Z, ae, af, aa, ag, aw, ax, ay, az, aN, ba, bc⟩ := (se [bL, aG, O, J, E, av, ar] dS).g12 Z ae af aa ag aw ax ay az aN ba bc
   replace ⟨bd, bg, ah, ao, aQ⟩ := (se [bL, aG, O, J, E, av, ar] dS).g5 bd bg ah ao aQ
   clear dS
   intro nv cB ey hW
   have hkeep_ := Chg.toS cB (Cov.toS hV)
   clear hW
   replace ⟨aA, aB, aC, aD, aj, ac, aq, aH, ai, V, W, C⟩ := (so [bL, aG, O, J, E, av, ar] cB).g12 aA aB aC aD aj ac aq aH ai V W C
   replace ⟨Z, ae, af, aa, ag, aw, ax, ay, az, aN, ba, bc⟩ := (so [bL, aG, O, J, E, av, ar] cB).g12 Z ae af aa ag aw ax ay az aN ba bc
   replace ⟨bd, bg, ah, ao, aQ⟩ := (so [bL, aG, O, J, E, av, ar] cB).g5 bd bg ah ao aQ
   clear cB
   refine ⟨hkeep_, ?_⟩
   refine .d fun ny dT => ?_
   replace ⟨aA, aB, aC, aD, aj, ac, aq, aH, ai, V, W, C⟩ := (se [bL, aG, O, J, E, av, ar] dT).g12 aA aB aC aD aj ac aq aH ai V W C
   replace ⟨Z, ae, af, aa, ag, aw, ax, ay, az, aN, ba, bc⟩ := (se [bL, aG, O, J, E, av, ar] dT).g12 Z ae af aa ag aw ax ay az aN ba bc
   replace ⟨bd, bg, ey, ah, ao, aQ⟩ := (se [bL, aG, O, J, E, av, ar] dT).g6 bd bg ey ah ao aQ
   clear dT
   replace aA := aA.outof
   replace aB := aB.outof
   replace aC := aC.outof
   replace aD := aD.outof
   replace V := V.outof
   replace W := W.outof
   replace C := C.outof
   replace Z := Z.outof
   replace ae := ae.outof
   replace af := af.outof
   replace aa := aa.outof
   replace ag := ag.outof
   replace aw := aw.outof
   replace ax := ax.outof
   replace ay := ay.outof
   replace az := az.outof
   refine .r 1 <| .d <| .s <| .g <| .r 1 <| .d <| .ct <| .g <| .ln ey <| .sc [.slice cW (((((mergeT (⟨(⟨ak, al⟩ : Idx), ab, am⟩ : Sto) (Int.tmod (more.length : Int) (if 1 > (n_k_21 : Int) - 1 then 1 else (n_k_21 : Int) - 1))).1).idx).names).length) cX, .slice cY (((((mergeT (⟨(⟨ak, al⟩ : Idx), ab, am⟩ : Sto) (Int.tmod (more.length : Int) (if 1 > (n_k_21 : Int) - 1 then 1 else (n_k_21 : Int) - 1))).1).idx).posts).length) cZ, .slice c7 ((((mergeT (⟨(⟨ak, al⟩ : Idx), ab, am⟩ : Sto) (Int.tmod (more.length : Int) (if 1 > (n_k_21 : Int) - 1 then 1 else (n_k_21 : Int) - 1))).1).parts).length) c8, .slice c9 ((((mergeT (⟨(⟨ak, al⟩ : Idx), ab, am⟩ : Sto) (Int.tmod (more.length : Int) (if 1 > (n_k_21 : Int) - 1 then 1 else (n_k_21 : Int) - 1))).1).mem).length) da] ai fun fO dU hX hY => ?_
   replace ⟨aA, aB, aC, aD, aj, ac, aq, aH, V, W, C, Z⟩ := (so [bL, aG, O, J, E, av, ar] dU).g12 aA aB aC aD aj ac aq aH V W C Z
   replace ⟨ae, af, aa, ag, aw, ax, ay, az, aN, ba, bc, bd⟩ := (so [bL, aG, O, J, E, av, ar] dU).g12 ae af aa ag aw ax ay az aN ba bc bd
   replace ⟨bg, ah, ao⟩ := (so [bL, aG, O, J, E, av, ar] dU).g3 bg ah ao
   clear dU hY
   refine .d <| .ib 1 <| .g <| .r 1 <| RG.int ((k : Int) + 1) (by kernel_rfl) (by have q2 := (MI.sd (by assumption : MI au (⟨⟨ak, al⟩, ab, am⟩ : Sto) k)).np; have q3 : ab.length ≤ 6 := q2; omega) <| .r 1 <| .d ?_
   have fh : Mv [bL, aG, O, J, E, av, ar] [O, J, E, av, ar] fO fO := Mv.less (all_cons (.tail _ (.tail _ (.head _))) (all_cons (.tail _ (.tail _ (.tail _ (.head _)))) (all_cons (.tail _ (.tail _ (.tail _ (.tail _ (.head _))))) (all_cons (.tail _ (.tail _ (.tail _ (.tail _ (.tail _ (.head _)))))) (all_cons (.tail _ (.tail _ (.tail _ (.tail _ (.tail _ (.tail _ (.head _))))))) all_nil)))))
   replace ⟨aA, aB, aC, aD, V, W, C, Z, ae, af, aa, ag⟩ := (sp fh (Chg.refl nil _)).g12 aA aB aC aD V W C Z ae af aa ag
   replace ⟨aw, ax, ay, az, ba, bc, bd, bg⟩ := (sp fh (Chg.refl nil _)).g8 aw ax ay az ba bc bd bg
   exact bA (k + 1, (((mergeT (⟨(⟨aK, aL⟩ : Idx), aI, aM⟩ : Sto) 0).1).idx).names, b9, ((((mergeT (⟨(⟨aK, aL⟩ : Idx), aI, aM⟩ : Sto) 0).1).idx).names).length, cd, (((mergeT (⟨(⟨aK, aL⟩ : Idx), aI, aM⟩ : Sto) 0).1).idx).posts, ce, ((((mergeT (⟨(⟨aK, aL⟩ : Idx), aI, aM⟩ : Sto) 0).1).idx).posts).length, cg, ((mergeT (⟨(⟨aK, aL⟩ : Idx), aI, aM⟩ : Sto) 0).1).parts, ci, (((mergeT (⟨(⟨aK, aL⟩ : Idx), aI, aM⟩ : Sto) 0).1).parts).length, cj, ((mergeT (⟨(⟨aK, aL⟩ : Idx), aI, aM⟩ : Sto) 0).1).mem, ck, (((mergeT (⟨(⟨aK, aL⟩ : Idx), aI, aM⟩ : Sto) 0).1).mem).length, cm, (((mergeT (⟨(⟨ak, al⟩ : Idx), ab, am⟩ : Sto) (Int.tmod (more.length : Int) (if 1 > (n_k_21 : Int) - 1 then 1 else (n_k_21 : Int) - 1))).1).idx).names, cW, ((((mergeT (⟨(⟨ak, al⟩ : Idx), ab, am⟩ : Sto) (Int.tmod (more.length : Int) (if 1 > (n_k_21 : Int) - 1 then 1 else (n_k_21 : Int) - 1))).1).idx).names).length, cX, (((mergeT (⟨(⟨ak, al⟩ : Idx), ab, am⟩ : Sto) (Int.tmod (more.length : Int) (if 1 > (n_k_21 : Int) - 1 then 1 else (n_k_21 : Int) - 1))).1).idx).posts, cY, ((((mergeT (⟨(⟨ak, al⟩ : Idx), ab, am⟩ : Sto) (Int.tmod (more.length : Int) (if 1 > (n_k_21 : Int) - 1 then 1 else (n_k_21 : Int) - 1))).1).idx).posts).length, cZ, ((mergeT (⟨(⟨ak, al⟩ : Idx), ab, am⟩ : Sto) (Int.tmod (more.length : Int) (if 1 > (n_k_21 : Int) - 1 then 1 else (n_k_21 : Int) - 1))).1).parts, c7, (((mergeT (⟨(⟨ak, al⟩ : Idx), ab, am⟩ : Sto) (Int.tmod (more.length : Int) (if 1 > (n_k_21 : Int) - 1 then 1 else (n_k_21 : Int) - 1))).1).parts).length, c8, ((mergeT (⟨(⟨ak, al⟩ : Idx), ab, am⟩ : Sto) (Int.tmod (more.length : Int) (if 1 > (n_k_21 : Int) - 1 then 1 else (n_k_21 : Int) - 1))).1).mem, c9, (((mergeT (⟨(⟨ak, al⟩ : Idx), ab, am⟩ : Sto) (Int.tmod (more.length : Int) (if 1 > (n_k_21 : Int) - 1 then 1 else (n_k_21 : Int) - 1))).1).mem).length, da) _ _ ⟨by kernel_rfl, by kernel_rfl, by kernel_rfl, by kernel_rfl, by kernel_rfl, trivial⟩ ⟨ao, aw, ax, ay, az, ba, bc, bd, bg, aH, hX, (by omega), (by exact MI.step (by assumption : MI au (⟨⟨aK, aL⟩, aI, aM⟩ : Sto) k) (by assumption)), (by exact MI.step (by assumption : MI au (⟨⟨ak, al⟩, ab, am⟩ : Sto) k) (by assumption))⟩ (by (simp only []; omega))
  refine .nw (fun b => .pointer (some ⟨b, 0, none⟩)) 30 [.slice none 0 0, .slice none 0 0, .slice none 0 0, .slice none 0 0] fun nz dV => ?_
  replace ⟨aA, aB, aC, aD, aj, ac, aq, aH, ai, V, W, C⟩ := (se [aG, O, J, E, av, ar] dV).g12 aA aB aC aD aj ac aq aH ai V W C
  replace ⟨Z, ae, af, aa, ag, aw, ax, ay, az, aN, ah, ao⟩ := (se [aG, O, J, E, av, ar] dV).g12 Z ae af aa ag aw ax ay az aN ah ao
  replace aQ := (se [aG, O, J, E, av, ar] dV).g1 aQ
  clear dV
  intro bh nA bN ez bO hZ
  have li := nb_new bN aj.lt
  have lj := nb_new bN aH.lt
  have lk := nb_new bN ai.lt
  have ll := ah.cn bN
  have lm := ao.cn bN
  have fi := aQ.cn bN
  replace ⟨aA, aB, aC, aD, aj, ac, aq, aH, ai, V, W, C⟩ := (sn [aG, O, J, E, av, ar] ez bN).g12 aA aB aC aD aj ac aq aH ai V W C
  replace ⟨Z, ae, af, aa, ag, aw, ax, ay, az, aN, ah, ao⟩ := (sn [aG, O, J, E, av, ar] ez bN).g12 Z ae af aa ag aw ax ay az aN ah ao
  clear ez hZ bN
  refine .go 9 <| .cl (fun fj bU => c_impl_StoreMerge (⟨(⟨ak, al⟩ : Idx), ab, am⟩ : Sto) (Int.tmod (more.length : Int) (if 1 > (n_k_21 : Int) - 1 then 1 else (n_k_21 : Int) - 1)) ((ae.base (fun _ _ h => h.1)).ext bU) ((af.base (fun _ _ h => h.1)).ext bU) ((aa.base (fun _ _ h => h.1)).ext bU) ((ag.base (fun _ _ h => h.1)).ext bU) (by exact MI.sd (by assumption : MI au (⟨⟨ak, al⟩, ab, am⟩ : Sto) k)) (w := fj) (F := nin (fo F w.heap.size) [bh, aG, O, J, E, av, ar])) ?_
  intro fj bU
  replace ⟨aA, aB, aC, aD, aj, ac, aq, aH, ai, V, W, C⟩ := (se [bh, aG, O, J, E, av, ar] bU).g12 aA aB aC aD aj ac aq aH ai V W C
  replace ⟨Z, ae, af, aa, ag, aw, ax, ay, az, aN, bO, ah⟩ := (se [bh, aG, O, J, E, av, ar] bU).g12 Z ae af aa ag aw ax ay az aN bO ah
  replace ao := (se [bh, aG, O, J, E, av, ar] bU).g1 ao
  rintro nB nC ⟨⟨nD, rfl, ⟨_, rfl, ⟨db, nE, dd, de, nF, df, dg, nG, dh, di, nH, dj, rfl, bn, bo, bq, br⟩⟩⟩, dW⟩
  have cC := al7 bO.lt aN.lt ai.lt aH.lt aq.lt ac.lt aj.lt
  have dX : Gb w.heap.size fj.heap.size := ah.size
  have hkeep_ := dW
  replace ⟨aA, aB, aC, aD, aj, aH, ai, V, W, C, Z, ae⟩ := (se [bh, aG, O, J, E, av, ar] dW).g12 aA aB aC aD aj aH ai V W C Z ae
  replace ⟨af, aa, ag, aw, ax, ay, az, bO, ah, ao⟩ := (se [bh, aG, O, J, E, av, ar] dW).g10 af aa ag aw ax ay az bO ah ao
  clear dW
  refine ⟨Ext.chg hkeep_, ?_⟩
  replace bn := RepS.mixed' (M := [bh, aG, O, J, E, av, ar]) bn cC dX
  have lp := bn.max
  replace bo := RepS.mixed' (M := [bh, aG, O, J, E, av, ar]) bo cC dX
  have lq := bo.max
  replace bq := RepS.mixed' (M := [bh, aG, O, J, E, av, ar]) bq cC dX
  have ls := bq.max
  replace br := RepS.mixed' (M := [bh, aG, O, J, E, av, ar]) br cC dX
  have lu := br.max
  clear cC
  have ia := bn.len
  subst ia
  have ic := bo.len
  subst ic
  have ie := bq.len
  subst ie
  have ig := br.len
  subst ig
  refine .r [10, 11] ?_
  cases lv : (mergeT (⟨(⟨ak, al⟩ : Idx), ab, am⟩ : Sto) (Int.tmod (more.length : Int) (if 1 > (n_k_21 : Int) - 1 then 1 else (n_k_21 : Int) - 1))).2
  ·refine .r [12] <| .go 14 <| GE.storeB (t' := 30) (o := 0) (v := .agg #[.slice db (((((mergeT (⟨(⟨ak, al⟩ : Idx), ab, am⟩ : Sto) (Int.tmod (more.length : Int) (if 1 > (n_k_21 : Int) - 1 then 1 else (n_k_21 : Int) - 1))).1).idx).names).length) dd, .slice de (((((mergeT (⟨(⟨ak, al⟩ : Idx), ab, am⟩ : Sto) (Int.tmod (more.length : Int) (if 1 > (n_k_21 : Int) - 1 then 1 else (n_k_21 : Int) - 1))).1).idx).posts).length) df, .slice dg ((((mergeT (⟨(⟨ak, al⟩ : Idx), ab, am⟩ : Sto) (Int.tmod (more.length : Int) (if 1 > (n_k_21 : Int) - 1 then 1 else (n_k_21 : Int) - 1))).1).parts).length) dh, .slice di ((((mergeT (⟨(⟨ak, al⟩ : Idx), ab, am⟩ : Sto) (Int.tmod (more.length : Int) (if 1 > (n_k_21 : Int) - 1 then 1 else (n_k_21 : Int) - 1))).1).mem).length) dj]) [.slice db (((((mergeT (⟨(⟨ak, al⟩ : Idx), ab, am⟩ : Sto) (Int.tmod (more.length : Int) (if 1 > (n_k_21 : Int) - 1 then 1 else (n_k_21 : Int) - 1))).1).idx).names).length) dd, .slice de (((((mergeT (⟨(⟨ak, al⟩ : Idx), ab, am⟩ : Sto) (Int.tmod (more.length : Int) (if 1 > (n_k_21 : Int) - 1 then 1 else (n_k_21 : Int) - 1))).1).idx).posts).length) df, .slice dg ((((mergeT (⟨(⟨ak, al⟩ : Idx), ab, am⟩ : Sto) (Int.tmod (more.length : Int) (if 1 > (n_k_21 : Int) - 1 then 1 else (n_k_21 : Int) - 1))).1).parts).length) dh, .slice di ((((mergeT (⟨(⟨ak, al⟩ : Idx), ab, am⟩ : Sto) (Int.tmod (more.length : Int) (if 1 > (n_k_21 : Int) - 1 then 1 else (n_k_21 : Int) - 1))).1).mem).length) dj] bO (by kernel_rfl) (by kernel_rfl) (by kernel_rfl) fun nI dY => ?_
   replace ⟨aA, aB, aC, aD, aj, aH, ai, V, W, C, Z, ae⟩ := (se [bh, aG, O, J, E, av, ar] dY).g12 aA aB aC aD aj aH ai V W C Z ae
   replace ⟨af, aa, ag, aw, ax, ay, az, bO, bn, bo, bq, br⟩ := (se [bh, aG, O, J, E, av, ar] dY).g12 af aa ag aw ax ay az bO bn bo bq br
   replace ⟨ah, ao⟩ := (se [bh, aG, O, J, E, av, ar] dY).g2 ah ao
   clear dY
   intro nJ cD lw ii
   have hkeep_ := Chg.toS cD (Cov.toS fi)
   clear ii
   replace ⟨aA, aB, aC, aD, aj, aH, ai, V, W, C, Z, ae⟩ := (so [bh, aG, O, J, E, av, ar] cD).g12 aA aB aC aD aj aH ai V W C Z ae
   replace ⟨af, aa, ag, aw, ax, ay, az, bn, bo, bq, br, ah⟩ := (so [bh, aG, O, J, E, av, ar] cD).g12 af aa ag aw ax ay az bn bo bq br ah
   replace ao := (so [bh, aG, O, J, E, av, ar] cD).g1 ao
   clear cD
   refine ⟨hkeep_, ?_⟩
   refine .d fun fP dZ => ?_
   replace ⟨aA, aB, aC, aD, aj, aH, ai, V, W, C, Z, ae⟩ := (se [bh, aG, O, J, E, av, ar] dZ).g12 aA aB aC aD aj aH ai V W C Z ae
   replace ⟨af, aa, ag, aw, ax, ay, az, bn, bo, bq, br, ah⟩ := (se [bh, aG, O, J, E, av, ar] dZ).g12 af aa ag aw ax ay az bn bo bq br ah
   replace ao := (se [bh, aG, O, J, E, av, ar] dZ).g1 ao
   clear dZ
   replace aA := aA.outof
   replace aB := aB.outof
   replace aC := aC.outof
   replace aD := aD.outof
   replace V := V.outof
   replace W := W.outof
   replace C := C.outof
   replace Z := Z.outof
   replace ae := ae.outof
   replace af := af.outof
   replace aa := aa.outof
   replace ag := ag.outof
   replace aw := aw.outof
   replace ax := ax.outof
   replace ay := ay.outof
   replace az := az.outof
   refine .r 1 <| .d <| .s <| .g <| .r 1 <| .d <| .cf <| .sk <| .ib 1 <| .g <| .r 1 <| RG.int ((k : Int) + 1) (by kernel_rfl) (by have q2 := (MI.sd (by assumption : MI au (⟨⟨ak, al⟩, ab, am⟩ : Sto) k)).np; have q3 : ab.length ≤ 6 := q2; omega) <| .r 1 <| .d ?_
   have fk : Mv [bh, aG, O, J, E, av, ar] [O, J, E, av, ar] fP fP := Mv.less (all_cons (.tail _ (.tail _ (.head _))) (all_cons (.tail _ (.tail _ (.tail _ (.head _)))) (all_cons (.tail _ (.tail _ (.tail _ (.tail _ (.head _))))) (all_cons (.tail _ (.tail _ (.tail _ (.tail _ (.tail _ (.head _)))))) (all_cons (.tail _ (.tail _ (.tail _ (.tail _ (.tail _ (.tail _ (.head _))))))) all_nil)))))
   replace ⟨aA, aB, aC, aD, V, W, C, Z, ae, af, aa, ag⟩ := (sp fk (Chg.refl nil _)).g12 aA aB aC aD V W C Z ae af aa ag
   replace ⟨aw, ax, ay, az, bn, bo, bq, br⟩ := (sp fk (Chg.refl nil _)).g8 aw ax ay az bn bo bq br
   exact bA (k + 1, (((mergeT (⟨(⟨aK, aL⟩ : Idx), aI, aM⟩ : Sto) 0).1).idx).names, b9, ((((mergeT (⟨(⟨aK, aL⟩ : Idx), aI, aM⟩ : Sto) 0).1).idx).names).length, cd, (((mergeT (⟨(⟨aK, aL⟩ : Idx), aI, aM⟩ : Sto) 0).1).idx).posts, ce, ((((mergeT (⟨(⟨aK, aL⟩ : Idx), aI, aM⟩ : Sto) 0).1).idx).posts).length, cg, ((mergeT (⟨(⟨aK, aL⟩ : Idx), aI, aM⟩ : Sto) 0).1).parts, ci, (((mergeT (⟨(⟨aK, aL⟩ : Idx), aI, aM⟩ : Sto) 0).1).parts).length, cj, ((mergeT (⟨(⟨aK, aL⟩ : Idx), aI, aM⟩ : Sto) 0).1).mem, ck, (((mergeT (⟨(⟨aK, aL⟩ : Idx), aI, aM⟩ : Sto) 0).1).mem).length, cm, ak, a_k_01, n_k_01, c_k_01, al, a_k_11, n_k_11, c_k_11, ab, a_k_21, n_k_21, c_k_21, am, a_k_31, n_k_31, c_k_31) _ _ ⟨by kernel_rfl, by kernel_rfl, by kernel_rfl, by kernel_rfl, by kernel_rfl, trivial⟩ ⟨ao, aw, ax, ay, az, ae, af, aa, ag, aH, ai, (by omega), (by exact MI.step (by assumption : MI au (⟨⟨aK, aL⟩, aI, aM⟩ : Sto) k) (by assumption)), (by exact MI.stay (by assumption : MI au (⟨⟨ak, al⟩, ab, am⟩ : Sto) k) (by assumption) (tm_at (L := ab.length) (by omega)))⟩ (by (simp only []; omega))
  refine .r [12] <| .go 14 <| GE.storeB (t' := 30) (o := 0) (v := .agg #[.slice db (((((mergeT (⟨(⟨ak, al⟩ : Idx), ab, am⟩ : Sto) (Int.tmod (more.length : Int) (if 1 > (n_k_21 : Int) - 1 then 1 else (n_k_21 : Int) - 1))).1).idx).names).length) dd, .slice de (((((mergeT (⟨(⟨ak, al⟩ : Idx), ab, am⟩ : Sto) (Int.tmod (more.length : Int) (if 1 > (n_k_21 : Int) - 1 then 1 else (n_k_21 : Int) - 1))).1).idx).posts).length) df, .slice dg ((((mergeT (⟨(⟨ak, al⟩ : Idx), ab, am⟩ : Sto) (Int.tmod (more.length : Int) (if 1 > (n_k_21 : Int) - 1 then 1 else (n_k_21 : Int) - 1))).1).parts).length) dh, .slice di ((((mergeT (⟨(⟨ak, al⟩ : Idx), ab, am⟩ : Sto) (Int.tmod (more.length : Int) (if 1 > (n_k_21 : Int) - 1 then 1 else (n_k_21 : Int) - 1))).1).mem).length) dj]) [.slice db (((((mergeT (⟨(⟨ak, al⟩ : Idx), ab, am⟩ : Sto) (Int.tmod (more.length : Int) (if 1 > (n_k_21 : Int) - 1 then 1 else (n_k_21 : Int) - 1))).1).idx).names).length) dd, .slice de (((((mergeT (⟨(⟨ak, al⟩ : Idx), ab, am⟩ : Sto) (Int.tmod (more.length : Int) (if 1 > (n_k_21 : Int) - 1 then 1 else (n_k_21 : Int) - 1))).1).idx).posts).length) df, .slice dg ((((mergeT (⟨(⟨ak, al⟩ : Idx), ab, am⟩ : Sto) (Int.tmod (more.length : Int) (if 1 > (n_k_21 : Int) - 1 then 1 else (n_k_21 : Int) - 1))).1).parts).length) dh, .slice di ((((mergeT (⟨(⟨ak, al⟩ : Idx), ab, am⟩ : Sto) (Int.tmod (more.length : Int) (if 1 > (n_k_21 : Int) - 1 then 1 else (n_k_21 : Int) - 1))).1).mem).length) dj] bO (by kernel_rfl) (by kernel_rfl) (by kernel_rfl) fun nK eA => ?_
  replace ⟨aA, aB, aC, aD, aj, aH, ai, V, W, C, Z, aa⟩ := (se [bh, aG, O, J, E, av, ar] eA).g12 aA aB aC aD aj aH ai V W C Z aa
  replace ⟨aw, ax, ay, az, bn, bo, bq, br, ah, ao⟩ := (se [bh, aG, O, J, E, av, ar] eA).g10 aw ax ay az bn bo bq br ah ao
  clear eA
  intro nL d0 eB ij
  have hkeep_ := Chg.toS d0 (Cov.toS fi)
  clear ij
  replace ⟨aA, aB, aC, aD, aj, aH, ai, V, W, C, Z, aa⟩ := (so [bh, aG, O, J, E, av, ar] d0).g12 aA aB aC aD aj aH ai V W C Z aa
  replace ⟨aw, ax, ay, az, bn, bo, bq, br, ah, ao⟩ := (so [bh, aG, O, J, E, av, ar] d0).g10 aw ax ay az bn bo bq br ah ao
  clear d0
  refine ⟨hkeep_, ?_⟩
  refine .d fun nM eC => ?_
  replace ⟨aA, aB, aC, aD, aj, aH, ai, V, W, C, Z, aa⟩ := (se [bh, aG, O, J, E, av, ar] eC).g12 aA aB aC aD aj aH ai V W C Z aa
  replace ⟨aw, ax, ay, az, eB, bn, bo, bq, br, ah, ao⟩ := (se [bh, aG, O, J, E, av, ar] eC).g11 aw ax ay az eB bn bo bq br ah ao
  clear eC
  replace aA := aA.outof
  replace aB := aB.outof
  replace aC := aC.outof
  replace aD := aD.outof
  replace V := V.outof
  replace W := W.outof
  replace C := C.outof
  replace Z := Z.outof
  replace aa := aa.outof
  replace aw := aw.outof
  replace ax := ax.outof
  replace ay := ay.outof
  replace az := az.outof
  refine .r 1 <| .d <| .s <| .g <| .r 1 <| .d <| .ct <| .g <| .ln eB <| .sc [.slice db (((((mergeT (⟨(⟨ak, al⟩ : Idx), ab, am⟩ : Sto) (Int.tmod (more.length : Int) (if 1 > (n_k_21 : Int) - 1 then 1 else (n_k_21 : Int) - 1))).1).idx).names).length) dd, .slice de (((((mergeT (⟨(⟨ak, al⟩ : Idx), ab, am⟩ : Sto) (Int.tmod (more.length : Int) (if 1 > (n_k_21 : Int) - 1 then 1 else (n_k_21 : Int) - 1))).1).idx).posts).length) df, .slice dg ((((mergeT (⟨(⟨ak, al⟩ : Idx), ab, am⟩ : Sto) (Int.tmod (more.length : Int) (if 1 > (n_k_21 : Int) - 1 then 1 else (n_k_21 : Int) - 1))).1).parts).length) dh, .slice di ((((mergeT (⟨(⟨ak, al⟩ : Idx), ab, am⟩ : Sto) (Int.tmod (more.length : Int) (if 1 > (n_k_21 : Int) - 1 then 1 else (n_k_21 : Int) - 1))).1).mem).length) dj] ai fun fQ eD ik il => ?_
  replace ⟨aA, aB, aC, aD, aj, aH, V, W, C, Z, aa, aw⟩ := (so [bh, aG, O, J, E, av, ar] eD).g12 aA aB aC aD aj aH V W C Z aa aw
  replace ⟨ax, ay, az, bn, bo, bq, br, ah, ao⟩ := (so [bh, aG, O, J, E, av, ar] eD).g9 ax ay az bn bo bq br ah ao
  clear eD il
  refine .d <| .ib 1 <| .g <| .r 1 <| RG.int ((k : Int) + 1) (by kernel_rfl) (by have q2 := (MI.sd (by assumption : MI au (⟨⟨ak, al⟩, ab, am⟩ : Sto) k)).np; have q3 : ab.length ≤ 6 := q2; omega) <| .r 1 <| .d ?_
  have fl : Mv [bh, aG, O, J, E, av, ar] [O, J, E, av, ar] fQ fQ := Mv.less (all_cons (.tail _ (.tail _ (.head _))) (all_cons (.tail _ (.tail _ (.tail _ (.head _)))) (all_cons (.tail _ (.tail _ (.tail _ (.tail _ (.head _))))) (all_cons (.tail _ (.tail _ (.tail _ (.tail _ (.tail _ (.head _)))))) (all_cons (.tail _ (.tail _ (.tail _ (.tail _ (.tail _ (.tail _ (.head _))))))) all_nil)))))
  replace ⟨aA, aB, aC, aD, V, W, C, Z, aa, aw, ax, ay⟩ := (sp fl (Chg.refl nil _)).g12 aA aB aC aD V W C Z aa aw ax ay
  replace ⟨az, bn, bo, bq, br⟩ := (sp fl (Chg.refl nil _)).g5 az bn bo bq br
  exact bA (k + 1, (((mergeT (⟨(⟨aK, aL⟩ : Idx), aI, aM⟩ : Sto) 0).1).idx).names, b9, ((((mergeT (⟨(⟨aK, aL⟩ : Idx), aI, aM⟩ : Sto) 0).1).idx).names).length, cd, (((mergeT (⟨(⟨aK, aL⟩ : Idx), aI, aM⟩ : Sto) 0).1).idx).posts, ce, ((((mergeT (⟨(⟨aK, aL⟩ : Idx), aI, aM⟩ : Sto) 0).1).idx).posts).length, cg, ((mergeT (⟨(⟨aK, aL⟩ : Idx), aI, aM⟩ : Sto) 0).1).parts, ci, (((mergeT (⟨(⟨aK, aL⟩ : Idx), aI, aM⟩ : Sto) 0).1).parts).length, cj, ((mergeT (⟨(⟨aK, aL⟩ : Idx), aI, aM⟩ : Sto) 0).1).mem, ck, (((mergeT (⟨(⟨aK, aL⟩ : Idx), aI, aM⟩ : Sto) 0).1).mem).length, cm, (((mergeT (⟨(⟨ak, al⟩ : Idx), ab, am⟩ : Sto) (Int.tmod (more.length : Int) (if 1 > (n_k_21 : Int) - 1 then 1 else (n_k_21 : Int) - 1))).1).idx).names, db, ((((mergeT (⟨(⟨ak, al⟩ : Idx), ab, am⟩ : Sto) (Int.tmod (more.length : Int) (if 1 > (n_k_21 : Int) - 1 then 1 else (n_k_21 : Int) - 1))).1).idx).names).length, dd, (((mergeT (⟨(⟨ak, al⟩ : Idx), ab, am⟩ : Sto) (Int.tmod (more.length : Int) (if 1 > (n_k_21 : Int) - 1 then 1 else (n_k_21 : Int) - 1))).1).idx).posts, de, ((((mergeT (⟨(⟨ak, al⟩ : Idx), ab, am⟩ : Sto) (Int.tmod (more.length : Int) (if 1 > (n_k_21 : Int) - 1 then 1 else (n_k_21 : Int) - 1))).1).idx).posts).length, df, ((mergeT (⟨(⟨ak, al⟩ : Idx), ab, am⟩ : Sto) (Int.tmod (more.length : Int) (if 1 > (n_k_21 : Int) - 1 then 1 else (n_k_21 : Int) - 1))).1).parts, dg, (((mergeT (⟨(⟨ak, al⟩ : Idx), ab, am⟩ : Sto) (Int.tmod (more.length : Int) (if 1 > (n_k_21 : Int) - 1 then 1 else (n_k_21 : Int) - 1))).1).parts).length, dh, ((mergeT (⟨(⟨ak, al⟩ : Idx), ab, am⟩ : Sto) (Int.tmod (more.length : Int) (if 1 > (n_k_21 : Int) - 1 then 1 else (n_k_21 : Int) - 1))).1).mem, di, (((mergeT (⟨(⟨ak, al⟩ : Idx), ab, am⟩ : Sto) (Int.tmod (more.length : Int) (if 1 > (n_k_21 : Int) - 1 then 1 else (n_k_21 : Int) - 1))).1).mem).length, dj) _ _ ⟨by kernel_rfl, by kernel_rfl, by kernel_rfl, by kernel_rfl, by kernel_rfl, trivial⟩ ⟨ao, aw, ax, ay, az, bn, bo, bq, br, aH, ik, (by omega), (by exact MI.step (by assumption : MI au (⟨⟨aK, aL⟩, aI, aM⟩ : Sto) k) (by assumption)), (by exact MI.step (by assumption : MI au (⟨⟨ak, al⟩, ab, am⟩ : Sto) k) (by assumption))⟩ (by (simp only []; omega))
 refine .d <| .cf <| .x 0 rfl <| .s <| .gd nil 24 fun nN eE => ?_
 replace ⟨aA, aB, aC, aD, aj, aE, ai, V, W, C, Z, aa⟩ := (se [O, J, E, av, ar] eE).g12 aA aB aC aD aj aE ai V W C Z aa
 replace ah := (se [O, J, E, av, ar] eE).g1 ah
 clear eE
 refine .r [0] <| .lb 1 aE id <| .r [2] <| GA.eqI (i := 3) (a := (n_k_2 : Int)) (b := 1) (by kernel_rfl) (fun im => ?_) (fun im => ?_)
 ·refine .r [4, 5] <| .lb 6 ai id <| .r [7] <| GA.eqI (i := 8) (a := (n_k_21 : Int)) (b := 1) (by kernel_rfl) (fun io => ?_) (fun io => ?_)
  ·refine .r [9, 10, 11] <| .lb 12 aE id ?_
   have fm : 0 < n_k_2 := (by (have q2 := MI.one (by assumption : MI au (⟨⟨aK, aL⟩, aI, aM⟩ : Sto) k) (by omega); have q3 : aI.length = 1 := q2; omega))
   refine GA.idx (i := 13) 0 (len := n_k_2) (z := 0) (sz := 2) (by kernel_rfl) (by (have q2 := MI.one (by assumption : MI au (⟨⟨aK, aL⟩, aI, aM⟩ : Sto) k) (by omega); have q3 : aI.length = 1 := q2; omega)) fm (C.addr (Nat.zero_lt_of_lt fm)) ?_
   obtain ⟨fp, eF⟩ : ∃ y, aI[0]? = some y := ⟨_, List.getElem?_eq_getElem (by (have q2 := MI.one (by assumption : MI au (⟨⟨aK, aL⟩, aI, aM⟩ : Sto) k) (by omega); have q3 : aI.length = 1 := q2; omega))⟩
   have ly := drop_at eF; have iS := List.mem_of_getElem? eF
   obtain ⟨_, ⟨nO, nP, nQ, nR, nT, nU, rfl, fq, ft⟩, ip⟩ := C.elem 0 fp eF
   have iq := fq.len
   subst iq
   have lz := fq.max
   have ir := ft.len
   subst ir
   have lA := ft.max
   refine .lg 14 0 ip id <| .r [15] <| .lb 16 ai id ?_
   have fu : 0 < n_k_21 := (by (have q2 := MI.one (by assumption : MI au (⟨⟨aK, aL⟩, aI, aM⟩ : Sto) k) (by omega); have q3 : aI.length = 1 := q2; omega))
   refine GA.idx (i := 17) 0 (len := n_k_21) (z := 0) (sz := 2) (by kernel_rfl) (by (have q2 := MI.one (by assumption : MI au (⟨⟨aK, aL⟩, aI, aM⟩ : Sto) k) (by omega); have q3 : aI.length = 1 := q2; omega)) fu (aa.addr (Nat.zero_lt_of_lt fu)) ?_
   obtain ⟨fv, eG⟩ : ∃ y, ab[0]? = some y := ⟨_, List.getElem?_eq_getElem (by (have q2 := MI.one (by assumption : MI au (⟨⟨aK, aL⟩, aI, aM⟩ : Sto) k) (by omega); have q3 : aI.length = 1 := q2; omega))⟩
   have lB := drop_at eG; have iT := List.mem_of_getElem? eG
   obtain ⟨_, ⟨nV, nW, nX, nY, nZ, n7, rfl, fw, fx⟩, iu⟩ := aa.elem 0 fv eG
   have iw := fw.len
   subst iw
   have lC := fw.max
   have iy := fx.len
   subst iy
   have lD := fx.max
   refine .lg 18 0 iu id <| GA.call1 (i := 19) (by kernel_rfl) (fun iU d3 => c_laws_lyPart fp fv (fq.ta.ext d3) (ft.ta.ext d3) (fw.ta.ext d3) (fx.ta.ext d3) (w := iU) (F := all)) ?_
   cases lE : (fp == fv)
   ·refine .r [20, 21, 22, 23] <| .d fun n8 fy => ?_
    replace ⟨aA, aB, aC, aD, aj, aE, V, W, C, Z, ah⟩ := (se [O, J, E, av, ar] fy).g11 aA aB aC aD aj aE V W C Z ah
    clear fy
    exact .r 3 <| .d <| .rt Tryz.func10 Tryz.results10 (.bool false) ⟨(congrArg Value.bool (by have q1 : SD au ∧ (_ ∧ _) := (by assumption); exfalso; exact MI.same (by assumption : MI au (⟨⟨aK, aL⟩, aI, aM⟩ : Sto) k) (by assumption : MI au (⟨⟨ak, al⟩, ab, am⟩ : Sto) k) (by omega) (by assumption) (by assumption) (by assumption))), ah⟩
   refine .r [20, 21] <| .ln 22 aE id <| .ln 23 aj id <| .d fun iV fz => ?_
   replace ⟨aA, aB, aC, aD, V, W, C, Z, ah⟩ := (se [O, J, E, av, ar] fz).g9 aA aB aC aD V W C Z ah
   clear fz
   refine .cl (c_laws_lySays (⟨(⟨aK, aL⟩ : Idx), aI, aM⟩ : Sto) au V.ta W.ta C.ta Z.ta aA.ta aB.ta aC.ta aD.ta (by exact MI.sd (by assumption : MI au (⟨⟨aK, aL⟩, aI, aM⟩ : Sto) k)) (by (have q1 : SD au ∧ (_ ∧ _) := (by assumption); exact q1.1)) (w := iV) (F := all)) ?_
   rintro n9 oa ⟨rfl, fA⟩
   replace ah := (se [] fA).g1 ah
   clear fA
   exact .r 2 <| .d <| .rt Tryz.func10 Tryz.results10 (.bool (askS (⟨(⟨aK, aL⟩ : Idx), aI, aM⟩ : Sto) [] 0 99 == askS au [] 0 99)) ⟨(congrArg Value.bool (by (have q1 : SD au ∧ (_ ∧ _) := (by assumption); have q2 := MI.says (by assumption : MI au (⟨⟨aK, aL⟩, aI, aM⟩ : Sto) k) q1.1 (mgT_yes q1.1 (by assumption)).1; have q3 : askS (⟨⟨aK, aL⟩, aI, aM⟩ : Sto) [] 0 99 = askS au [] 0 99 := q2; rw [beq_iff_eq]; exact q3))), ah⟩
  refine .r [9, 10, 11, 12, 13, 14, 15, 16, 17, 18, 19, 20, 21, 22, 23] <| .d fun oc fB => ?_
  replace ah := (se [] fB).g1 ah
  clear fB
  exact .r 3 <| .d <| .rt Tryz.func10 Tryz.results10 (.bool false) ⟨(congrArg Value.bool (by have q1 : SD au ∧ (_ ∧ _) := (by assumption); exfalso; (have q2 := MI.one (by assumption : MI au (⟨⟨ak, al⟩, ab, am⟩ : Sto) k) (by omega); have q3 : ab.length = 1 := q2; omega))), ah⟩
 refine .r [4, 5, 6, 7, 8, 9, 10, 11, 12, 13, 14, 15, 16, 17, 18, 19, 20, 21, 22, 23] <| .d fun od fC => ?_
 replace ah := (se [] fC).g1 ah
 clear fC
 exact .r 3 <| .d <| .rt Tryz.func10 Tryz.results10 (.bool false) ⟨(congrArg Value.bool (by have q1 : SD au ∧ (_ ∧ _) := (by assumption); exfalso; (have q2 := MI.one (by assumption : MI au (⟨⟨aK, aL⟩, aI, aM⟩ : Sto) k) (by omega); have q3 : aI.length = 1 := q2; omega))), ah⟩
end Go.Proofs.YtfnpaglcnmcnbaaGreat
