/- walks; squeezed -/
import Derived.Test.YtfnpaglcnmcnbaaGreatFnAddRowszMod24
set_option linter.unusedVariables false
set_option linter.unusedSimpArgs false
namespace Go.Proofs.YtfnpaglcnmcnbaaGreat
set_option maxRecDepth 100000
set_option maxHeartbeats 4000000
theorem c_impl_BlockPut (b : List Row) (r : Row) {w : World} {F : Nat → Prop} {a1 : Option Addr} {n1 c1 : Nat} (h1 : RepS w F a1 n1 c1 b) (p0 : b.length ≤ 1000) : Calls Tryz.prog 23 [.slice a1 n1 c1, .agg #[.int .i64 r.t, .int .i64 r.v]].toArray w (rets fun rv w' => (∃ v0, rv = .tuple #[v0, .bool ((putI b r).2)] ∧ VL (ge w.heap.size) w' ((putI b r).1 : List Row) v0) ∧ Ext w w') := by
 refine goT Tryz.func23 ?_
 obtain ⟨rfl, aZ, h1⟩ := h1.tp
 refine .s <| .g <| .np 33 [vI r.t, vI r.v] fun J aP ah ac E av => ?_
 replace h1 := (sn [] ac ah).g1 h1
 have C := ac
 clear ac av ah
 refine .r 2 <| .d <| .s <| .s <| .g <| .r 1 <| .cl (c_impl_BlockOk b h1.ta (w := aP) (F := all)) ?_
 rintro bn aQ ⟨rfl, ai⟩
 replace ⟨h1, E, C⟩ := (se [J] ai).g3 h1 E C
 clear ai
 cases ba : (blockOk b)
 · refine .r 6 <| .d <| .ct <| .s <| .g <| .ns 0 33 [] fun ae aw aa aj ax ay => ?_
   have bc := nb_new aa E.lt
   have az := gb_new aa C.size
   replace ⟨h1, E, C⟩ := (sn [J] aj aa).g3 h1 E C
   clear aj ay aa
   have aA : Own (α := Row) aw ae 33 (nin (ge w.heap.size) [ae, J]) 0 0 [] := Own.nil' ax
   refine .r 2 <| .d ?_
   have aR := aA.sl az
   replace h1 := (sd aw [ae, J] ae).g1 h1
   exact .r2 Tryz.func23 Tryz.results23 (.t (vS ae 0 0)) (.t (.bool false)) ⟨⟨_, (tup2 rfl (congrArg Value.bool (by first | exact (congrArg Prod.fst (putI_1 (.inl (by assumption)))).symm | exact (congrArg Prod.fst (putI_1 (.inr (by assumption)))).symm | exact (congrArg Prod.snd (putI_1 (.inl (by assumption)))).symm | exact (congrArg Prod.snd (putI_1 (.inr (by assumption)))).symm | exact (congrArg Prod.fst (putI_2 (by assumption) (by assumption) (by assumption))).symm | exact (congrArg Prod.snd (putI_2 (by assumption) (by assumption) (by assumption))).symm | exact (congrArg Prod.fst (putI_3 (by assumption) (by assumption) (by assumption))).symm | exact (congrArg Prod.snd (putI_3 (by assumption) (by assumption) (by assumption))).symm))), (aR.vl (by first | exact (congrArg Prod.fst (putI_1 (.inl (by assumption)))).symm | exact (congrArg Prod.fst (putI_1 (.inr (by assumption)))).symm | exact (congrArg Prod.snd (putI_1 (.inl (by assumption)))).symm | exact (congrArg Prod.snd (putI_1 (.inr (by assumption)))).symm | exact (congrArg Prod.fst (putI_2 (by assumption) (by assumption) (by assumption))).symm | exact (congrArg Prod.snd (putI_2 (by assumption) (by assumption) (by assumption))).symm | exact (congrArg Prod.fst (putI_3 (by assumption) (by assumption) (by assumption))).symm | exact (congrArg Prod.snd (putI_3 (by assumption) (by assumption) (by assumption))).symm) (fun _ _ h => h.1))⟩, C⟩
 refine .r 2 <| .ln E <| .cl (c_impl_rowOk r (w := aQ) (F := all)) ?_
 rintro bo aB ⟨rfl, ak⟩
 replace ⟨h1, E, C⟩ := (se [J] ak).g3 h1 E C
 clear ak
 cases bd : (rowOk r)
 · refine .r 2 <| .d <| .ct <| .s <| .g <| .ns 0 33 [] fun af aC ab al aD aE => ?_
   have bg := nb_new ab E.lt
   have aF := gb_new ab C.size
   replace ⟨h1, E, C⟩ := (sn [J] al ab).g3 h1 E C
   clear al aE ab
   have aG : Own (α := Row) aC af 33 (nin (ge w.heap.size) [af, J]) 0 0 [] := Own.nil' aD
   refine .r 2 <| .d ?_
   have aS := aG.sl aF
   replace h1 := (sd aC [af, J] af).g1 h1
   exact .r2 Tryz.func23 Tryz.results23 (.t (vS af 0 0)) (.t (.bool false)) ⟨⟨_, (tup2 rfl (congrArg Value.bool (by first | exact (congrArg Prod.fst (putI_1 (.inl (by assumption)))).symm | exact (congrArg Prod.fst (putI_1 (.inr (by assumption)))).symm | exact (congrArg Prod.snd (putI_1 (.inl (by assumption)))).symm | exact (congrArg Prod.snd (putI_1 (.inr (by assumption)))).symm | exact (congrArg Prod.fst (putI_2 (by assumption) (by assumption) (by assumption))).symm | exact (congrArg Prod.snd (putI_2 (by assumption) (by assumption) (by assumption))).symm | exact (congrArg Prod.fst (putI_3 (by assumption) (by assumption) (by assumption))).symm | exact (congrArg Prod.snd (putI_3 (by assumption) (by assumption) (by assumption))).symm))), (aS.vl (by first | exact (congrArg Prod.fst (putI_1 (.inl (by assumption)))).symm | exact (congrArg Prod.fst (putI_1 (.inr (by assumption)))).symm | exact (congrArg Prod.snd (putI_1 (.inl (by assumption)))).symm | exact (congrArg Prod.snd (putI_1 (.inr (by assumption)))).symm | exact (congrArg Prod.fst (putI_2 (by assumption) (by assumption) (by assumption))).symm | exact (congrArg Prod.snd (putI_2 (by assumption) (by assumption) (by assumption))).symm | exact (congrArg Prod.fst (putI_3 (by assumption) (by assumption) (by assumption))).symm | exact (congrArg Prod.snd (putI_3 (by assumption) (by assumption) (by assumption))).symm) (fun _ _ h => h.1))⟩, C⟩
 refine .r 2 <| .d <| .cf <| .sk <| .s <| .g <| .r 1 <| .ln E <| .cl (c_impl_put b r h1.ta (by omega) (w := aB) (F := all)) ?_
 rintro bq br ⟨⟨aT, aU, rfl, O⟩, am⟩
 have ao := al1 E.lt
 have aH : Gb w.heap.size aB.heap.size := C.size
 replace ⟨h1, E, C⟩ := (se [J] am).g3 h1 E C
 clear am
 have O := O.fr ao aH
 have bh := O.max
 clear ao
 refine .r 1 <| .d <| .s <| .s <| .g <| .r 2 <| .bp ((((insR r b).length) : Int) > 24) (fun aI => ?_) (fun aI => .d <| .cf <| .sk <| .s <| .g <| .r 3 <| .d <| .r2 Tryz.func23 Tryz.results23 (.t (.slice aT ((insR r b).length) aU)) (.t (.bool true)) ⟨⟨_, (tup2 rfl (congrArg Value.bool (by first | exact (congrArg Prod.fst (putI_1 (.inl (by assumption)))).symm | exact (congrArg Prod.fst (putI_1 (.inr (by assumption)))).symm | exact (congrArg Prod.snd (putI_1 (.inl (by assumption)))).symm | exact (congrArg Prod.snd (putI_1 (.inr (by assumption)))).symm | exact (congrArg Prod.fst (putI_2 (by assumption) (by assumption) (by assumption))).symm | exact (congrArg Prod.snd (putI_2 (by assumption) (by assumption) (by assumption))).symm | exact (congrArg Prod.fst (putI_3 (by assumption) (by assumption) (by assumption))).symm | exact (congrArg Prod.snd (putI_3 (by assumption) (by assumption) (by assumption))).symm))), (O.vl (by first | exact (congrArg Prod.fst (putI_1 (.inl (by assumption)))).symm | exact (congrArg Prod.fst (putI_1 (.inr (by assumption)))).symm | exact (congrArg Prod.snd (putI_1 (.inl (by assumption)))).symm | exact (congrArg Prod.snd (putI_1 (.inr (by assumption)))).symm | exact (congrArg Prod.fst (putI_2 (by assumption) (by assumption) (by assumption))).symm | exact (congrArg Prod.snd (putI_2 (by assumption) (by assumption) (by assumption))).symm | exact (congrArg Prod.fst (putI_3 (by assumption) (by assumption) (by assumption))).symm | exact (congrArg Prod.snd (putI_3 (by assumption) (by assumption) (by assumption))).symm) (fun _ _ h => h.1))⟩, C⟩)
 refine .d <| .ct <| .s <| .g <| .ns 0 33 [] fun ag aV W aq aJ aK => ?_
 have aL := nb_new W E.lt
 have aM := gb_new W C.size
 have bi := C.cn W
 replace ⟨h1, E, O, C⟩ := (sn [J] aq W).g4 h1 E O C
 clear aq aK W
 have aN : Own (α := Row) aV ag 33 (nin (ge w.heap.size) [ag, J]) 0 0 [] := Own.nil' aJ
 refine .r 1 <| RG.appendF (T := 42) (ty := 42) flat_row aN h1 (by kernel_rfl) (by kernel_rfl) (fun b h e => h.2 (e ▸ (.head _))) (by omega) fun au aW aX Z V ar => ?_
 have bj := nb_or V aL E.lt
 have aO := gb_or V aM C.size
 replace ⟨O, C⟩ := (sa [ag, J] ar V).g2 O C
 clear ar
 replace Z := Z.rn ag
 clear V
 have bk := Z.len; have bm := Z.max
 refine .r 2 <| .d ?_
 have aY := Z.sl aO
 replace O := (sd aX [au, J] au).g1 O
 exact .r2 Tryz.func23 Tryz.results23 (.t (vS au (0 + b.length) aW)) (.t (.bool false)) ⟨⟨_, (tup2 rfl (congrArg Value.bool (by first | exact (congrArg Prod.fst (putI_1 (.inl (by assumption)))).symm | exact (congrArg Prod.fst (putI_1 (.inr (by assumption)))).symm | exact (congrArg Prod.snd (putI_1 (.inl (by assumption)))).symm | exact (congrArg Prod.snd (putI_1 (.inr (by assumption)))).symm | exact (congrArg Prod.fst (putI_2 (by assumption) (by assumption) (by assumption))).symm | exact (congrArg Prod.snd (putI_2 (by assumption) (by assumption) (by assumption))).symm | exact (congrArg Prod.fst (putI_3 (by assumption) (by assumption) (by assumption))).symm | exact (congrArg Prod.snd (putI_3 (by assumption) (by assumption) (by assumption))).symm))), (aY.vl (by first | exact (congrArg Prod.fst (putI_1 (.inl (by assumption)))).symm | exact (congrArg Prod.fst (putI_1 (.inr (by assumption)))).symm | exact (congrArg Prod.snd (putI_1 (.inl (by assumption)))).symm | exact (congrArg Prod.snd (putI_1 (.inr (by assumption)))).symm | exact (congrArg Prod.fst (putI_2 (by assumption) (by assumption) (by assumption))).symm | exact (congrArg Prod.snd (putI_2 (by assumption) (by assumption) (by assumption))).symm | exact (congrArg Prod.fst (putI_3 (by assumption) (by assumption) (by assumption))).symm | exact (congrArg Prod.snd (putI_3 (by assumption) (by assumption) (by assumption))).symm) (fun _ _ h => h.1))⟩, C⟩
end Go.Proofs.YtfnpaglcnmcnbaaGreat
