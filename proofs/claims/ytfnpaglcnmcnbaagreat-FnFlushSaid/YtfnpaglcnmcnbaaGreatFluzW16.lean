/- walks; squeezed -/
import Derived.Test.YtfnpaglcnmcnbaaGreatFluzMod16
set_option linter.unusedVariables false
set_option linter.unusedSimpArgs false
namespace Go.Proofs.YtfnpaglcnmcnbaaGreat
set_option maxRecDepth 100000
set_option maxHeartbeats 4000000
theorem c_slices_Insert {w : World} {F : Nat → Prop} {r n c vb i : Nat} {xs : List Row} {y : Row} (ho : Own w r 33 F n c xs) (hv : Box w vb 33 [.int .i64 y.t, .int .i64 y.v]) (hne : vb ≠ r) (hi : i ≤ n) (hn : n ≤ 1000000) : Calls Tryz.prog 129 [.slice (some ⟨r, 0, none⟩) n c, .int .i64 (i : Int), .slice (some ⟨vb, 0, none⟩) 1 1].toArray w (rets fun rv w' => (∃ r2 c2, rv = .slice (some ⟨r2, 0, none⟩) (n + 1) c2 ∧ Own w' r2 33 all (n + 1) c2 (xs.take i ++ y :: xs.drop i) ∧ OrB r2 r w.heap.size) ∧ Chg (one r) w w') := by
 refine goT Tryz.func129 ?_
 replace hne : Nb vb r := hne
 have hnx := ho.len; have hle := ho.le; have hcm := ho.cap
 replace ho : Own w r 33 (nin all [r]) n c xs := ho.flat flat_row
 refine .s <| .g <| .r 1 <| .d <| .s <| .g <| .r 2 <| RG.subA (a := some ⟨r, 0, none⟩) (t := 42) (lo := some (vI (i : Int))) (hi := none) (sz := 2) i n (by kernel_rfl) (by kernel_rfl) (.inr ⟨_, _, rfl, by omega⟩) (.inl ⟨rfl, rfl⟩) (by omega) (by omega) fun v_ => .d <| .s <| .g <| .r 3 <| .d <| .s <| .s <| .g <| .r 1 <| .eq 1 0 (fun av => .d <| .ct <| .s <| .g <| .r 2 <| .d <| absurd (show False by omega) id) fun av => .d <| .cf <| .sk <| .s <| .g <| .r 3 <| .d <| .s <| .s <| .g <| .r 2 <| .eq (i : Int) (n : Int) (fun aw => ?_) (fun aw => ?_)
 · refine .d <| .ct <| .s <| .g <| .r 2 ?_
   have V : nin all [r] vb ∧ vb ≠ r := hap_mk trivial (all_cons hne all_nil) hne
   refine RG.append1 (T := 42) (ty := 42) (y := y) ho hv (by kernel_rfl) (by kernel_rfl) rfl V (by omega) fun aE aF aG O W Z => ?_
   have ax := cov_or W (Cov.mk1 w r) (Nat.le_refl _)
   replace hv := (s1 Z).g1 hv
   have ay : Chg (one r) w aG := Chg.stepO (Chg.refl (one r) w) Z (Cov.mk1 w r)
   clear Z
   replace O := O.rn r
   clear W
   have aK := O.len; have aL := O.max
   exact .r 1 <| .d <| .rt Tryz.func129 Tryz.results129 (vS aE (n + 1) aF) ⟨⟨_, _, rfl, ins_end (O.flat flat_row) (by omega), ax⟩, ay⟩
 refine .d <| .cf <| .sk <| .s <| .s <| .g <| .r 2 <| .it ((n : Int) + 1) <| .r 2 <| .bp ((n : Int) + 1 > (c : Int)) (fun az => ?_) (fun az => ?_)
 · refine .d <| .ct <| .s <| .g <| .r 2 ?_
   obtain ⟨cs, hbx, hcl, hct, aA, aB⟩ := ho.box
   refine RG.subN (r := r) (o := 0) (len := n) (cap := c) (t := 42) (lo := none) (hi := some (vI (i : Int))) (sz := 2) 0 i (by kernel_rfl) (by kernel_rfl) (.inl ⟨rfl, rfl⟩) (.inr ⟨_, _, rfl, by omega⟩) (by omega) (by omega) (by omega) <| .r 2 <| .it ((n : Int) + 1) <| .r 1 <| .it (((n : Int) + 1) - (i : Int)) ?_
   obtain ⟨b2, hq, gc, ob, w2, hrun, aH, hol, hge, hgm, hot, aC, aM⟩ := appendZB (P := Tryz.prog) (T := 42) (tn := 3) (ty := 42) (kn := .i64) (n := n) (by kernel_rfl) (by kernel_rfl) hbx hcl (by omega : i < n) (by omega) (by omega) (by omega)
   refine RG.append (ats := [42, 3]) (args := [vS r i c, vI ((n : Int) + 1 - i)]) (by kernel_rfl) hrun ?_
   have aN := nb_new hq hbx.lt
   have aO := nb_new hq hv.lt
   have aD : Cov (one r) w b2 := cov_new hq (Nat.le_refl _)
   replace ⟨hbx, hv⟩ := (se [] aC).g2 hbx hv
   have C : Chg (one r) w w2 := Chg.stepN (Chg.refl (one r) w) aC
   refine .r 1 <| .d <| .s <| .g <| .r 2 <| RG.subN (r := b2) (o := 0) (len := (n + 1)) (cap := gc) (t := 42) (lo := some (vI (i : Int))) (hi := none) (sz := 2) i (n + 1) (by kernel_rfl) (by kernel_rfl) (.inr ⟨_, _, rfl, by omega⟩) (.inl ⟨rfl, rfl⟩) (by omega) (by omega) (by omega) <| .r 1 ?_
   obtain ⟨aI, ab, J, ag, aP⟩ := run_copyB (P := Tryz.prog) (a2 := ⟨vb, 0, none⟩) (T := 42) (T2 := 42) (ty := 3) (t := 33) (sz := 2) (o := (0 + i * 2)) (dl := ((n + 1) - i)) (dc := (gc - i)) (sl := 1) (sc := 1) (k := 1) (vs := (rowC y)) (by kernel_rfl) aH (hv.has 0 (rowC y) rfl) (by rfl) (Nat.min_eq_left (by omega)) (by have := hcl; omega) (by intro v hv_; simp [rowC] at hv_; rcases hv_ with rfl | rfl <;> rfl)
   refine RG.copy (ats := [42, 42]) (args := [.slice (some ⟨b2, 0 + i * 2, none⟩) ((n + 1) - i) (gc - i), vS vb 1 1]) (by kernel_rfl) ab ?_
   rw [Nat.zero_add] at J
   replace ⟨hbx, hv, C⟩ := (s1 ag).g3 hbx hv C
   clear ag
   refine .d <| .s <| .gd (mtb [] aI.heap.size) 8 fun aU ah => ?_
   replace ⟨hbx, hv, J, C⟩ := (se [] ah).g4 hbx hv J C
   clear ah
   refine .r [0, 1, 2] <| GA.int (i := 3) ((i : Int) + 1) (by kernel_rfl) (by omega) <| GA.subN (i := 4) (r := b2) (o := 0) (len := (n + 1)) (cap := gc) (t := 42) (lo := some (vI ((i : Int) + 1))) (hi := none) (sz := 2) (i + 1) (n + 1) (by kernel_rfl) (by kernel_rfl) (by kernel_rfl) (.inr ⟨_, _, rfl, by omega⟩) (.inl ⟨rfl, rfl⟩) (by omega) (by omega) (by omega) <| .r [5, 6] <| GA.subN (i := 7) (r := r) (o := 0) (len := n) (cap := c) (t := 42) (lo := some (vI (i : Int))) (hi := none) (sz := 2) i n (by kernel_rfl) (by kernel_rfl) (by kernel_rfl) (.inr ⟨_, _, rfl, by omega⟩) (.inl ⟨rfl, rfl⟩) (by omega) (by omega) (by omega) <| .d fun aV ai => ?_
   replace ⟨hbx, hv, J, C⟩ := (se [] ai).g4 hbx hv J C
   clear ai
   obtain ⟨aW, ac, aj, ak, aQ⟩ := run_copyB (P := Tryz.prog) (a2 := ⟨r, 0 + i * 2, none⟩) (T := 42) (T2 := 42) (ty := 3) (t := 33) (sz := 2) (o := (0 + (i + 1) * 2)) (dl := ((n + 1) - (i + 1))) (dc := (gc - (i + 1))) (sl := (n - i)) (sc := (c - i)) (k := (n - i)) (vs := ((cs.drop (i * 2)).take ((n - i) * 2))) (by kernel_rfl) J (by rw [Nat.zero_add]; exact hbx.has (i * 2) ((cs.drop (i * 2)).take ((n - i) * 2)) (has_take (by simp; omega))) (by rw [midR hct hnx, cellsR_len, List.length_drop]; omega) (nat_min (by omega)) (by have := hcl; rw [spl_len (by rw [rowC_len]; omega)]; omega) (by rw [midR hct hnx]; exact cellsR_one _)
   refine RG.copy (ats := [42, 42]) (args := [.slice (some ⟨b2, 0 + (i + 1) * 2, none⟩) ((n + 1) - (i + 1)) (gc - (i + 1)), .slice (some ⟨r, 0 + i * 2, none⟩) (n - i) (c - i)]) (by kernel_rfl) ac ?_
   rw [Nat.zero_add] at aj
   replace ⟨hbx, hv, C⟩ := (s1 ak).g3 hbx hv C
   clear ak
   refine .d <| .s <| .g <| .r 2 <| .d ?_
   have hfin := insB (y := y) hol hot hct hnx (by omega : i < n) (by omega)
   have hlen : (xs.take i ++ y :: xs.drop i).length = n + 1 := by simp; omega
   have hown := Own.ofBox (F := all) aj hfin.2 hfin.1 (by rw [hlen]; omega) (by omega)
   rw [hlen] at hown
   exact .rt Tryz.func129 Tryz.results129 (vS b2 (n + 1) gc) ⟨⟨_, _, rfl, hown, aD⟩, C⟩
 refine .d <| .cf <| .sk <| .s <| .g <| .r 3 <| .it ((n : Int) + 1) ?_
 obtain ⟨cs, hbx, hcl, hct, aA, aB⟩ := ho.box
 refine RG.subN (r := r) (o := 0) (len := n) (cap := c) (t := 42) (lo := none) (hi := some (vI ((n : Int) + 1))) (sz := 2) 0 (n + 1) (by kernel_rfl) (by kernel_rfl) (.inl ⟨rfl, rfl⟩) (.inr ⟨_, _, rfl, by omega⟩) (by omega) (by omega) (by omega) <| .r 1 <| .d <| .s <| .s <| .g <| .r 4 <| .it ((i : Int) + 1) <| RG.subN (r := r) (o := 0) (len := (n + 1)) (cap := c) (t := 42) (lo := some (vI ((i : Int) + 1))) (hi := none) (sz := 2) (i + 1) (n + 1) (by kernel_rfl) (by kernel_rfl) (.inr ⟨_, _, rfl, by omega⟩) (.inl ⟨rfl, rfl⟩) (by omega) (by omega) (by omega) <| RG.ext (f := 162) (args := [vS vb 1 1, .slice (some ⟨r, 0 + (i + 1) * 2, none⟩) (n + 1 - (i + 1)) (c - (i + 1))]) (by kernel_rfl) (ovl_false (fn := Tryz.f162) (tS := 42) (tR := 4) (sz := 2) Tryz.func162 (by kernel_rfl) (by kernel_rfl) (by kernel_rfl) (by kernel_rfl) (by kernel_rfl) hv hbx hne (by omega)) <| .r 1 <| .d <| .ct <| .s <| .gd (mtb [] w.heap.size) 8 fun aJ aa => ?_
 replace ⟨hbx, hv⟩ := (se [] aa).g2 hbx hv
 have E : Chg (one r) w aJ := Chg.stepN (Chg.refl (one r) w) aa
 clear aa
 refine .r [0, 1, 2] <| GA.int (i := 3) ((i : Int) + 1) (by kernel_rfl) (by omega) <| GA.subN (i := 4) (r := r) (o := 0) (len := (n + 1)) (cap := c) (t := 42) (lo := some (vI ((i : Int) + 1))) (hi := none) (sz := 2) (i + 1) (n + 1) (by kernel_rfl) (by kernel_rfl) (by kernel_rfl) (.inr ⟨_, _, rfl, by omega⟩) (.inl ⟨rfl, rfl⟩) (by omega) (by omega) (by omega) <| .r [5, 6] <| GA.subN (i := 7) (r := r) (o := 0) (len := (n + 1)) (cap := c) (t := 42) (lo := some (vI (i : Int))) (hi := none) (sz := 2) i (n + 1) (by kernel_rfl) (by kernel_rfl) (by kernel_rfl) (.inr ⟨_, _, rfl, by omega⟩) (.inl ⟨rfl, rfl⟩) (by omega) (by omega) (by omega) <| .d fun aX al => ?_
 replace ⟨hbx, hv, E⟩ := (se [] al).g3 hbx hv E
 clear al
 obtain ⟨aY, ae, am, ao, aR⟩ := run_copyB (P := Tryz.prog) (a2 := ⟨r, 0 + i * 2, none⟩) (T := 42) (T2 := 42) (ty := 3) (t := 33) (sz := 2) (o := (0 + (i + 1) * 2)) (dl := (n + 1 - (i + 1))) (dc := (c - (i + 1))) (sl := (n + 1 - i)) (sc := (c - i)) (k := (n - i)) (vs := ((cs.drop (i * 2)).take ((n - i) * 2))) (by kernel_rfl) hbx (by rw [Nat.zero_add]; exact hbx.has (i * 2) ((cs.drop (i * 2)).take ((n - i) * 2)) (has_take (by simp; omega))) (by rw [midR hct hnx, cellsR_len, List.length_drop]; omega) (nat_min (by omega)) (by have := hcl; omega) (by rw [midR hct hnx]; exact cellsR_one _)
 refine RG.copy (ats := [42, 42]) (args := [.slice (some ⟨r, 0 + (i + 1) * 2, none⟩) (n + 1 - (i + 1)) (c - (i + 1)), .slice (some ⟨r, 0 + i * 2, none⟩) (n + 1 - i) (c - i)]) (by kernel_rfl) ae ?_
 rw [Nat.zero_add] at am
 replace ⟨hv, E⟩ := (s1 ao).g2 hv E
 clear ao
 refine .d <| .s <| .g <| .r 2 <| RG.subN (r := r) (o := 0) (len := (n + 1)) (cap := c) (t := 42) (lo := some (vI (i : Int))) (hi := none) (sz := 2) i (n + 1) (by kernel_rfl) (by kernel_rfl) (.inr ⟨_, _, rfl, by omega⟩) (.inl ⟨rfl, rfl⟩) (by omega) (by omega) (by omega) <| .r 1 ?_
 obtain ⟨aZ, af, aq, ar, aS⟩ := run_copyB (P := Tryz.prog) (a2 := ⟨vb, 0, none⟩) (T := 42) (T2 := 42) (ty := 3) (t := 33) (sz := 2) (o := (0 + i * 2)) (dl := (n + 1 - i)) (dc := (c - i)) (sl := 1) (sc := 1) (k := 1) (vs := (rowC y)) (by kernel_rfl) am (hv.has 0 (rowC y) rfl) (by rfl) (Nat.min_eq_left (by omega)) (by have := hcl; rw [spl_len (by rw [midR hct hnx, cellsR_len, List.length_drop]; omega)]; omega) (by intro v hv_; simp [rowC] at hv_; rcases hv_ with rfl | rfl <;> rfl)
 refine RG.copy (ats := [42, 42]) (args := [.slice (some ⟨r, 0 + i * 2, none⟩) (n + 1 - i) (c - i), vS vb 1 1]) (by kernel_rfl) af ?_
 rw [Nat.zero_add] at aq
 replace ⟨hv, E⟩ := (s1 ar).g2 hv E
 clear ar
 refine .d <| .s <| .g <| .r 2 <| .d ?_
 have hfin := insC (y := y) hcl hct hnx (by omega : i < n) (by omega)
 have hlen : (xs.take i ++ y :: xs.drop i).length = n + 1 := by simp; omega
 have hown := Own.ofBox (F := all) aq hfin.2 hfin.1 (by rw [hlen]; omega) (by omega)
 rw [hlen] at hown
 exact .rt Tryz.func129 Tryz.results129 (vS r (n + 1) c) ⟨⟨_, _, rfl, hown, orb_refl⟩, E⟩
end Go.Proofs.YtfnpaglcnmcnbaaGreat
