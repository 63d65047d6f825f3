/- walks; squeezed -/
import Derived.Test.YtfnpaglcnmcnbaaGreatFluzMod20
set_option linter.unusedVariables false
set_option linter.unusedSimpArgs false
namespace Go.Proofs.YtfnpaglcnmcnbaaGreat
set_option maxRecDepth 100000
set_option maxHeartbeats 4000000
theorem c_insertionSort {w : World} {F : Nat → Prop} {r n c : Nat} {xs0 : List Pst} (ho : Own w r 130 F n c xs0) : Calls Tryz.prog 184 [.slice (some ⟨r, 0, none⟩) n c, .int .i64 0, .int .i64 (n : Int), .func (.func 126) #[] #[]].toArray w (rets fun rv w' => rv = .tuple #[] ∧ ∃ zs, zs.Perm xs0 ∧ zs.Pairwise Le ∧ Own w' r 130 F n c zs ∧ Chg (one r) w w') := by
 refine goT Tryz.func184 ?_
 replace ho := ho.toNin; have hnl := ho.len; have hnm := ho.max
 refine .s <| .g <| .r 1 <| .it (1) <| .r 1 <| .d <| .b 0 <| T.loop (X := Nat × (List Pst)) (1, xs0) (fun (i, xs) => [(0, vS r n c), (1, vI 0), (2, vI (n : Int)), (3, .func (.func 126) #[] #[]), (8, vI (i : Int))]) (fun (i, xs) aK => Chg (ins [r]) w aK ∧ Own aK r 130 (nin F [r]) n c xs ∧ (1 ≤ i) ∧ (xs.Perm xs0) ∧ ((xs.take i).Pairwise Le)) (fun (i, xs) => n - i) (by kernel_rfl) ⟨by kernel_rfl, by kernel_rfl, by kernel_rfl, by kernel_rfl, by kernel_rfl, trivial⟩ ⟨Chg.refl _ _, ho, (by omega), (by exact List.Perm.refl _), (by cases xs0 <;> simp)⟩ ?_
 rintro ⟨i, xs⟩ di aK ⟨C, aH, cG, cH, cI⟩ aq
 have cJ : Cov (ins [r]) w r := ⟨.inl (.head _)⟩
 have E : Chg (one r) w aK := Chg.stepI (Chg.refl (one r) w) C (all_cons (Cov.mk1 w r) all_nil)
 have cK := aH.len; have cL := aH.max
 refine .s <| .s <| .g <| .r 2 <| .bp ((i : Int) < (n : Int)) (fun bX => ?_) (fun bX => .d <| .cf <| .x 0 rfl <| T.fall0 Tryz.func184 Tryz.results184 ⟨rfl, _, (by assumption : xs.Perm xs0), (by have q1 : (xs.take i).Pairwise Le := (by assumption); rw [List.take_of_length_le (by omega)] at q1; exact q1), aH.ofNin, E⟩)
 refine .d <| .ct <| .sk <| .s <| .b 1 <| .s <| .g <| .r 2 <| .d <| .b 2 <| T.loop (X := Int × (List Pst)) ((i : Int), xs) (fun (j, W) => [(0, vS r n c), (1, vI 0), (2, vI (n : Int)), (3, .func (.func 126) #[] #[]), (8, vI (i : Int)), (9, vI j)]) (fun (j, W) bC => Chg (ins [r]) aK bC ∧ Own bC r 130 (nin F [r]) n c W ∧ (0 ≤ j) ∧ (W.Perm xs0) ∧ (InsInv W i j.toNat)) (fun (j, W) => j.toNat) (by kernel_rfl) ⟨by kernel_rfl, by kernel_rfl, by kernel_rfl, by kernel_rfl, by kernel_rfl, by kernel_rfl, trivial⟩ ⟨Chg.refl _ _, aH, (by omega), (by assumption), (by exact InsInv.start (by assumption) (by omega))⟩ ?_
 rintro ⟨j, W⟩ dj bC ⟨O, J, cM, cN, cO⟩ ar
 have cP : Cov (ins [r]) aK r := ⟨.inl (.head _)⟩
 replace ⟨E, C⟩ := (si O).g2 E C
 have cQ := J.len; have cR := J.max
 refine .s <| .s <| .gd nil 14 fun bY bj => ?_
 replace ⟨J, E, C, O⟩ := (se [r] bj).g4 J E C O
 clear bj
 refine .r [0, 1] <| GA.boolP (i := 2) (j > 0) (by kernel_rfl) (fun bZ => ?_) (fun bZ => ?_)
 · refine .r [3, 4, 5, 6] ?_
   have b0 : (j).toNat < n := (by have q1 : InsInv W i j.toNat := (by assumption); have q2 := q1.1; have q3 := q1.2.1; first | omega | (rw [List.length_set]; omega))
   refine GA.idx (i := 7) (b := r) (o := 0) ((j).toNat) (len := n) (z := j) (sz := 3) (by kernel_rfl) (by have q1 : InsInv W i j.toNat := (by assumption); have q2 := q1.1; have q3 := q1.2.1; first | omega | (rw [List.length_set]; omega)) b0 rfl ?_
   obtain ⟨V, ae⟩ : ∃ y, W[(j).toNat]? = some y := ⟨_, List.getElem?_eq_getElem (by have q1 : InsInv W i j.toNat := (by assumption); have q2 := q1.1; have q3 := q1.2.1; first | omega | (rw [List.length_set]; omega))⟩
   have cS := drop_at ae; have cu := List.mem_of_getElem? ae
   obtain ⟨_, ⟨cw, dk, cx, rfl, aw⟩, aL⟩ := J.elem ((j).toNat) V ae
   replace aw := aw.weak (fun _ _ h => h.1)
   have b6 := aw.len
   subst b6
   have cT := aw.max
   replace aL : Has bY ⟨r, 0 + ((j).toNat) * Rep.sz Pst, none⟩ [vT V.tag.key, vT V.tag.val, .slice cw V.ids.length cx] := by rw [Nat.zero_add]; exact aL
   refine .lg 8 0 aL id <| .r [9, 10] <| GA.int (i := 11) (j - 1) (by kernel_rfl) (by omega) ?_
   have b7 : (j - 1).toNat < n := (by have q1 : InsInv W i j.toNat := (by assumption); have q2 := q1.1; have q3 := q1.2.1; first | omega | (rw [List.length_set]; omega))
   refine GA.idx (i := 12) (b := r) (o := 0) ((j - 1).toNat) (len := n) (z := j - 1) (sz := 3) (by kernel_rfl) (by have q1 : InsInv W i j.toNat := (by assumption); have q2 := q1.1; have q3 := q1.2.1; first | omega | (rw [List.length_set]; omega)) b7 rfl ?_
   obtain ⟨Z, au⟩ : ∃ y, W[(j - 1).toNat]? = some y := ⟨_, List.getElem?_eq_getElem (by have q1 : InsInv W i j.toNat := (by assumption); have q2 := q1.1; have q3 := q1.2.1; first | omega | (rw [List.length_set]; omega))⟩
   have cU := drop_at au; have cv := List.mem_of_getElem? au
   obtain ⟨_, ⟨cy, dm, cz, rfl, ax⟩, aM⟩ := J.elem ((j - 1).toNat) Z au
   replace ax := ax.weak (fun _ _ h => h.1)
   have b8 := ax.len
   subst b8
   have cV := ax.max
   replace aM : Has bY ⟨r, 0 + ((j - 1).toNat) * Rep.sz Pst, none⟩ [vT Z.tag.key, vT Z.tag.val, .slice cy Z.ids.length cz] := by rw [Nat.zero_add]; exact aM
   refine .lg 13 0 aM id <| .d fun cA bk => ?_
   replace ⟨J, aw, ax, E, C, O⟩ := (se [r] bk).g6 J aw ax E C O
   clear bk
   refine .cl (c_impl_indexOf_2 V Z aw.ta ax.ta (w := cA) (F := all)) ?_
   rintro dp bD ⟨rfl, bm⟩
   replace ⟨J, E, C, O⟩ := (se [r] bm).g4 J E C O
   clear bm
   refine .bp (cmpP V Z < 0) (fun b9 => ?_) (fun b9 => .r 1 <| .d <| .cf <| .x 2 rfl <| .ib 1 <| .g <| .r 1 <| .it ((i : Int) + 1) <| .r 1 <| .d <| aq (i + 1, W) _ _ ⟨by kernel_rfl, by kernel_rfl, by kernel_rfl, by kernel_rfl, by kernel_rfl, trivial⟩ ⟨C, J, (by omega), (by assumption), (by first | exact InsInv.exit0 (by assumption) (by assumption) | exact InsInv.exit1 (by assumption) (by assumption) (by assumption) (by assumption) (by assumption))⟩ (by first | omega | (simp only []; omega)))
   refine .r 1 <| .d <| .ct <| .sk <| .s <| .b 3 ?_
   have bn : Cov (mtb [r] bD.heap.size) bD r := ⟨.inl (.inl (.head _))⟩
   refine .gd (mtb [r] bD.heap.size) 16 fun cd bo => ?_
   replace ⟨J, E, C, O⟩ := (se [r] bo).g4 J E C O
   clear bo
   refine .r [0, 1, 2, 3] <| GA.int (i := 4) (j - 1) (by kernel_rfl) (by omega) <| .r [5, 6] <| GA.int (i := 7) (j - 1) (by kernel_rfl) (by omega) ?_
   have ce : (j - 1).toNat < n := (by have q1 : InsInv W i j.toNat := (by assumption); have q2 := q1.1; have q3 := q1.2.1; first | omega | (rw [List.length_set]; omega))
   refine GA.idx (i := 8) (b := r) (o := 0) ((j - 1).toNat) (len := n) (z := j - 1) (sz := 3) (by kernel_rfl) (by have q1 : InsInv W i j.toNat := (by assumption); have q2 := q1.1; have q3 := q1.2.1; first | omega | (rw [List.length_set]; omega)) ce rfl <| .r [10, 11] ?_
   have cg : (j).toNat < n := (by have q1 : InsInv W i j.toNat := (by assumption); have q2 := q1.1; have q3 := q1.2.1; first | omega | (rw [List.length_set]; omega))
   refine GA.idx (i := 12) (b := r) (o := 0) ((j).toNat) (len := n) (z := j) (sz := 3) (by kernel_rfl) (by have q1 : InsInv W i j.toNat := (by assumption); have q2 := q1.1; have q3 := q1.2.1; first | omega | (rw [List.length_set]; omega)) cg rfl <| .tw 9 13 ?_ ?_
   · obtain ⟨_, ⟨bE, dq, bF, rfl, av⟩, aN⟩ := J.elem ((j - 1).toNat) Z au
     replace av := av.weak (fun _ _ h => h.1)
     have ci := av.len
     subst ci
     replace aN : Has cd ⟨r, 0 + ((j - 1).toNat) * Rep.sz Pst, none⟩ [vT Z.tag.key, vT Z.tag.val, .slice bE Z.ids.length bF] := by rw [Nat.zero_add]; exact aN
     refine GE.loadHN (t' := 130) 0 [vT Z.tag.key, vT Z.tag.val, .slice bE Z.ids.length bF] aN (by kernel_rfl) (by kernel_rfl) (by kernel_rfl) fun cB bq => ?_
     replace ⟨J, av, E, C, O⟩ := (se [r] bq).g5 J av E C O
     clear bq
     refine .go 13 ?_
     obtain ⟨_, ⟨aO, cW, aP, rfl, ac⟩, ay⟩ := J.elem ((j).toNat) V ae
     replace ac := ac.weak (fun _ _ h => h.1)
     have bG := ac.len
     subst bG
     replace ay : Has cB ⟨r, 0 + ((j).toNat) * Rep.sz Pst, none⟩ [vT V.tag.key, vT V.tag.val, .slice aO V.ids.length aP] := by rw [Nat.zero_add]; exact ay
     refine GE.loadHN (t' := 130) 0 [vT V.tag.key, vT V.tag.val, .slice aO V.ids.length aP] ay (by kernel_rfl) (by kernel_rfl) (by kernel_rfl) fun cj aQ => ?_
     replace ⟨J, av, ac, E, C, O⟩ := (se [r] aQ).g6 J av ac E C O
     clear aQ
     have bH : (j).toNat < n := (by have q1 : InsInv W i j.toNat := (by assumption); have q2 := q1.1; have q3 := q1.2.1; first | omega | (rw [List.length_set]; omega))
     refine GA.idx (i := 14) (b := r) (o := 0) ((j).toNat) (len := n) (z := j) (sz := 3) (by kernel_rfl) (by have q1 : InsInv W i j.toNat := (by assumption); have q2 := q1.1; have q3 := q1.2.1; first | omega | (rw [List.length_set]; omega)) bH rfl <| .go 15 ?_
     obtain ⟨_, ⟨br, cX, bt, rfl, aR⟩, az⟩ := J.elem ((j).toNat) V ae
     replace aR := aR.weak (fun _ _ h => h.1)
     have bI := aR.len
     subst bI
     replace az : Has cj ⟨r, 0 + ((j).toNat) * Rep.sz Pst, none⟩ [vT V.tag.key, vT V.tag.val, .slice br V.ids.length bt] := by rw [Nat.zero_add]; exact az
     refine GE.storeO (t' := 130) (q := ((j).toNat)) (k := 0) (v := .agg #[vT Z.tag.key, vT Z.tag.val, .slice bE Z.ids.length bF]) (cs := [vT V.tag.key, vT V.tag.val, .slice br V.ids.length bt]) Z J ae az ⟨_, _, _, rfl, av.oi⟩ (by kernel_rfl) (by kernel_rfl) (by kernel_rfl) fun cY aS => ?_
     replace ⟨J, ac, E, C, O⟩ := (se [r] aS).g5 J ac E C O
     clear aS
     intro cZ ak aA bJ
     have hkeep_ := Chg.toS aA (Cov.toS bn)
     replace ⟨ac, E, C, O⟩ := (so [r] aA).g4 ac E C O
     clear aA
     refine ⟨hkeep_, ?_⟩
     clear bJ
     refine .d fun ck aT => ?_
     replace ⟨ak, ac, E, C, O⟩ := (se [r] aT).g5 ak ac E C O
     clear aT
     have bK : (j - 1).toNat < n := (by have q1 : InsInv W i j.toNat := (by assumption); have q2 := q1.1; have q3 := q1.2.1; first | omega | (rw [List.length_set]; omega))
     refine RG.idx (b := r) (o := 0) ((j - 1).toNat) (len := n) (i := j - 1) (sz := 3) (by kernel_rfl) (by have q1 : InsInv W i j.toNat := (by assumption); have q2 := q1.1; have q3 := q1.2.1; first | omega | (rw [List.length_set]; omega)) bK rfl ?_
     obtain ⟨af, al⟩ : ∃ y, (W.set ((j).toNat) Z)[(j - 1).toNat]? = some y := ⟨_, List.getElem?_eq_getElem (by have q1 : InsInv W i j.toNat := (by assumption); have q2 := q1.1; have q3 := q1.2.1; first | omega | (rw [List.length_set]; omega))⟩
     have cC := drop_at al; have cm := List.mem_of_getElem? al
     obtain ⟨_, ⟨bu, c7, bv, rfl, aI⟩, aB⟩ := ak.elem ((j - 1).toNat) af al
     replace aI := aI.weak (fun _ _ h => h.1)
     have bL := aI.len
     subst bL
     have cD := aI.max
     replace aB : Has ck ⟨r, 0 + ((j - 1).toNat) * Rep.sz Pst, none⟩ [vT af.tag.key, vT af.tag.val, .slice bu af.ids.length bv] := by rw [Nat.zero_add]; exact aB
     refine RG.storeO (t' := 130) (i := ((j - 1).toNat)) (k := 0) (v := .agg #[vT V.tag.key, vT V.tag.val, .slice aO V.ids.length aP]) (cs := [vT af.tag.key, vT af.tag.val, .slice bu af.ids.length bv]) V ak al aB (by kernel_rfl) (by kernel_rfl) (by kernel_rfl) ⟨_, _, _, rfl, ac.oi⟩ fun c8 bM aU bN => ?_
     replace ⟨E, C, O⟩ := (s1 aU).g3 E C O
     clear aU bN
     exact .d <| .ib 3 <| .g <| .r 1 <| .it (j - 1) <| .r 1 <| .d <| ar (j - 1, ((W.set ((j).toNat) Z).set ((j - 1).toNat) V)) _ _ ⟨by kernel_rfl, by kernel_rfl, by kernel_rfl, by kernel_rfl, by kernel_rfl, by kernel_rfl, trivial⟩ ⟨O, bM, (by omega), (by exact swap_permZ (by assumption) (by assumption) (by assumption) (by assumption)), (by exact InsInv.stepZ (by assumption) (by assumption) (by assumption) (by assumption) (by assumption))⟩ (by first | omega | (simp only []; omega))
   obtain ⟨_, ⟨aV, c9, aW, rfl, ab⟩, aC⟩ := J.elem ((j).toNat) V ae
   replace ab := ab.weak (fun _ _ h => h.1)
   have bO := ab.len
   subst bO
   replace aC : Has cd ⟨r, 0 + ((j).toNat) * Rep.sz Pst, none⟩ [vT V.tag.key, vT V.tag.val, .slice aV V.ids.length aW] := by rw [Nat.zero_add]; exact aC
   refine GE.loadHN (t' := 130) 0 [vT V.tag.key, vT V.tag.val, .slice aV V.ids.length aW] aC (by kernel_rfl) (by kernel_rfl) (by kernel_rfl) fun co aX => ?_
   replace ⟨J, ab, E, C, O⟩ := (se [r] aX).g5 J ab E C O
   clear aX
   refine .go 9 ?_
   obtain ⟨_, ⟨aY, da, aZ, rfl, ah⟩, aD⟩ := J.elem ((j - 1).toNat) Z au
   replace ah := ah.weak (fun _ _ h => h.1)
   have bP := ah.len
   subst bP
   replace aD : Has co ⟨r, 0 + ((j - 1).toNat) * Rep.sz Pst, none⟩ [vT Z.tag.key, vT Z.tag.val, .slice aY Z.ids.length aZ] := by rw [Nat.zero_add]; exact aD
   refine GE.loadHN (t' := 130) 0 [vT Z.tag.key, vT Z.tag.val, .slice aY Z.ids.length aZ] aD (by kernel_rfl) (by kernel_rfl) (by kernel_rfl) fun cp ba => ?_
   replace ⟨J, ab, ah, E, C, O⟩ := (se [r] ba).g6 J ab ah E C O
   clear ba
   have bQ : (j).toNat < n := (by have q1 : InsInv W i j.toNat := (by assumption); have q2 := q1.1; have q3 := q1.2.1; first | omega | (rw [List.length_set]; omega))
   refine GA.idx (i := 14) (b := r) (o := 0) ((j).toNat) (len := n) (z := j) (sz := 3) (by kernel_rfl) (by have q1 : InsInv W i j.toNat := (by assumption); have q2 := q1.1; have q3 := q1.2.1; first | omega | (rw [List.length_set]; omega)) bQ rfl <| .go 15 ?_
   obtain ⟨_, ⟨bw, db, bz, rfl, bc⟩, aE⟩ := J.elem ((j).toNat) V ae
   replace bc := bc.weak (fun _ _ h => h.1)
   have bR := bc.len
   subst bR
   replace aE : Has cp ⟨r, 0 + ((j).toNat) * Rep.sz Pst, none⟩ [vT V.tag.key, vT V.tag.val, .slice bw V.ids.length bz] := by rw [Nat.zero_add]; exact aE
   refine GE.storeO (t' := 130) (q := ((j).toNat)) (k := 0) (v := .agg #[vT Z.tag.key, vT Z.tag.val, .slice aY Z.ids.length aZ]) (cs := [vT V.tag.key, vT V.tag.val, .slice bw V.ids.length bz]) Z J ae aE ⟨_, _, _, rfl, ah.oi⟩ (by kernel_rfl) (by kernel_rfl) (by kernel_rfl) fun dd bd => ?_
   replace ⟨J, ab, E, C, O⟩ := (se [r] bd).g5 J ab E C O
   clear bd
   intro de am aF bS
   have hkeep_ := Chg.toS aF (Cov.toS bn)
   replace ⟨ab, E, C, O⟩ := (so [r] aF).g4 ab E C O
   clear aF
   refine ⟨hkeep_, ?_⟩
   clear bS
   refine .d fun cq bg => ?_
   replace ⟨am, ab, E, C, O⟩ := (se [r] bg).g5 am ab E C O
   clear bg
   have bT : (j - 1).toNat < n := (by have q1 : InsInv W i j.toNat := (by assumption); have q2 := q1.1; have q3 := q1.2.1; first | omega | (rw [List.length_set]; omega))
   refine RG.idx (b := r) (o := 0) ((j - 1).toNat) (len := n) (i := j - 1) (sz := 3) (by kernel_rfl) (by have q1 : InsInv W i j.toNat := (by assumption); have q2 := q1.1; have q3 := q1.2.1; first | omega | (rw [List.length_set]; omega)) bT rfl ?_
   obtain ⟨ag, ao⟩ : ∃ y, (W.set ((j).toNat) Z)[(j - 1).toNat]? = some y := ⟨_, List.getElem?_eq_getElem (by have q1 : InsInv W i j.toNat := (by assumption); have q2 := q1.1; have q3 := q1.2.1; first | omega | (rw [List.length_set]; omega))⟩
   have cE := drop_at ao; have cr := List.mem_of_getElem? ao
   obtain ⟨_, ⟨bA, df, bB, rfl, aJ⟩, aG⟩ := am.elem ((j - 1).toNat) ag ao
   replace aJ := aJ.weak (fun _ _ h => h.1)
   have bU := aJ.len
   subst bU
   have cF := aJ.max
   replace aG : Has cq ⟨r, 0 + ((j - 1).toNat) * Rep.sz Pst, none⟩ [vT ag.tag.key, vT ag.tag.val, .slice bA ag.ids.length bB] := by rw [Nat.zero_add]; exact aG
   refine RG.storeO (t' := 130) (i := ((j - 1).toNat)) (k := 0) (v := .agg #[vT V.tag.key, vT V.tag.val, .slice aV V.ids.length aW]) (cs := [vT ag.tag.key, vT ag.tag.val, .slice bA ag.ids.length bB]) V am ao aG (by kernel_rfl) (by kernel_rfl) (by kernel_rfl) ⟨_, _, _, rfl, ab.oi⟩ fun dg bV bh bW => ?_
   replace ⟨E, C, O⟩ := (s1 bh).g3 E C O
   clear bh bW
   exact .d <| .ib 3 <| .g <| .r 1 <| .it (j - 1) <| .r 1 <| .d <| ar (j - 1, ((W.set ((j).toNat) Z).set ((j - 1).toNat) V)) _ _ ⟨by kernel_rfl, by kernel_rfl, by kernel_rfl, by kernel_rfl, by kernel_rfl, by kernel_rfl, trivial⟩ ⟨O, bV, (by omega), (by exact swap_permZ (by assumption) (by assumption) (by assumption) (by assumption)), (by exact InsInv.stepZ (by assumption) (by assumption) (by assumption) (by assumption) (by assumption))⟩ (by first | omega | (simp only []; omega))
 refine .r [3, 4, 5, 6, 7, 8, 9, 10, 11, 12, 13] <| .d fun dh bi => ?_
 replace ⟨J, E, C⟩ := (se [r] bi).g3 J E C
 clear bi
 exact .r 3 <| .d <| .cf <| .x 2 rfl <| .ib 1 <| .g <| .r 1 <| .it ((i : Int) + 1) <| .r 1 <| .d <| aq (i + 1, W) _ _ ⟨by kernel_rfl, by kernel_rfl, by kernel_rfl, by kernel_rfl, by kernel_rfl, trivial⟩ ⟨C, J, (by omega), (by assumption), (by first | exact InsInv.exit0 (by assumption) (by assumption) | exact InsInv.exit1 (by assumption) (by assumption) (by assumption) (by assumption) (by assumption))⟩ (by first | omega | (simp only []; omega))
theorem c_pdqsort {w : World} {F : Nat → Prop} {r n c : Nat} {xs0 : List Pst} {z : Int} (ho : Own w r 130 F n c xs0) (hn : n ≤ 12) : Calls Tryz.prog 159 [.slice (some ⟨r, 0, none⟩) n c, .int .i64 0, .int .i64 (n : Int), .int .i64 z, .func (.func 126) #[] #[]].toArray w (rets fun rv w' => rv = .tuple #[] ∧ ∃ zs, zs.Perm xs0 ∧ zs.Pairwise Le ∧ Own w' r 130 F n c zs ∧ Chg (one r) w w') := by
 refine goT Tryz.func159 ?_
 replace ho := ho.toNin; have hnl := ho.len; have hnm := ho.max
 refine .s <| .g <| .r 1 <| .d <| .s <| .g <| .r 1 <| .d <| .b 0 <| T.loop (X := Unit) () (fun _ => [(0, vS r n c), (1, vI 0), (2, vI (n : Int)), (3, vI z), (4, .func (.func 126) #[] #[]), (10, .bool true), (11, .bool true)]) (fun _ w_ => w_ = w) (fun _ => 0) (by kernel_rfl) ⟨by kernel_rfl, by kernel_rfl, by kernel_rfl, by kernel_rfl, by kernel_rfl, by kernel_rfl, by kernel_rfl, trivial⟩ rfl ?_
 rintro u_ e_ ab hw_ hl_; clear hl_; rw [hw_]; clear hw_
 refine .b 1 <| .s <| .g <| .r 2 <| .it ((n : Int) - 0) <| .r 1 <| .d <| .s <| .s <| .g <| .r 1 <| .bp ((n : Int) - 0 ≤ 12) (fun E => ?_) (fun E => absurd (show False by omega) id)
 refine .d <| .ct <| .s <| .g <| .r 4 <| .cl (c_insertionSort ho) ?_
 rintro ac Z ⟨rfl, aa, J, O, V, C⟩
 have W : Chg (one r) w Z := Chg.stepO (Chg.refl (one r) w) C (Cov.mk1 w r)
 clear C
 exact .d <| T.ret0 (by kernel_rfl) Tryz.func159 Tryz.results159 ⟨rfl, _, J, O, V.ofNin, W⟩
theorem c_bits_Len {w : World} {n : Nat} (h : n ≤ 1000) : Calls Tryz.prog 160 [.int .u64 (n : Int)].toArray w (rets fun rv w' => ∃ z : Int, rv = .int .i64 z ∧ Ext w w') := by
 refine (bits_Len (n : Int) w (by omega) (by omega)).mono ?_
 rintro e w' ⟨rfl, rfl⟩
 exact ⟨_, rfl, _, rfl, Ext.refl _⟩
theorem c_SortFunc_posts {w : World} {F : Nat → Prop} {r n c : Nat} {xs0 : List Pst} (ho : Own w r 130 F n c xs0) (hn : n ≤ 12) : Calls Tryz.prog 125 [.slice (some ⟨r, 0, none⟩) n c, .func (.func 126) #[] #[]].toArray w (rets fun rv w' => rv = .tuple #[] ∧ ∃ zs, zs.Perm xs0 ∧ zs.Pairwise Le ∧ Own w' r 130 F n c zs ∧ Chg (one r) w w') := by
 refine goT Tryz.func125 ?_
 replace ho := ho.toNin; have hnl := ho.len; have hnm := ho.max
 refine .s <| .g <| .r 3 <| .d <| .g <| .r 3 <| RG.eqv (v := .int .u64 (n : Int)) (v' := .int .u64 (IntKind.u64.wrap (n : Int))) (by kernel_rfl) (by rw [IntWalk.u64_in _ (by omega)]) <| .cl (c_bits_Len (n := n) (by omega)) ?_
 rintro ac Z ⟨aa, rfl, C⟩
 replace ho := (se [r] C).g1 ho
 have E : Chg (one r) w Z := Chg.stepN (Chg.refl (one r) w) C
 clear C
 refine .r 1 <| .cl (c_pdqsort ho (by omega) (z := aa)) ?_
 rintro ae af ⟨rfl, ab, O, V, W, J⟩
 replace E := (s1 J).g1 E
 clear J
 exact .d <| T.fall0 Tryz.func125 Tryz.results125 ⟨rfl, _, O, V, W.ofNin, E⟩
end Go.Proofs.YtfnpaglcnmcnbaaGreat
