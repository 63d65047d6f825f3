/- The law FnLinesMerge holds: for every input the given Go function returns true, and its arguments read as they did. Conditions: the listed package variables read as the program lays them (tied by the card). The frame was written by the kit's proof-skeleton. -/
import Derived.Test.YtckdhcbbgmiccaaGreatDoorLdzW87gk9
import Derived.Test.YtckdhcbbgmiccaaGreatDoorLdzDr
import Derived.Test.YtckdhcbbgmiccaaGreatDoorTie
import Derived.Test.YtckdhcbbgmiccaaGreatDoorCards
import Derived.SevenTiedAt
import Derived.WalkKit
import Derived.ProofKit
import Derived.OpenShut
import Derived.ShutString
import Derived.ChangeOld
open Go.Proofs.Tryz
set_option linter.unusedVariables false
set_option linter.unusedSimpArgs false
namespace Go.Proofs.YtckdhcbbgmiccaaGreatDoor.fnLinesMerge
open Go.ChangeShapes Go.WideShapes Go.ChangeAt Go.RowKit
open Go.ChangeMaps (open_string shut_string)
set_option linter.unusedVariables false
theorem own : ownKnob Tryz.prog.godebug = none := by kernel_rfl
theorem laidOut : laidOutB Tryz.prog = true := by kernel_rfl
def IsRow (k : IntKind) (w : World) (a : Option Addr) (len cap : Nat) (zs : List Int) : Prop :=
 (a = none ∧ len = 0 ∧ cap = 0 ∧ zs = []) ∨
 ∃ x, a = some x ∧ len ≤ cap ∧ cap ≤ maxLen ∧ zs.length = cap ∧ (∀ i, i < zs.length → w.cell? (x.add i) = some (.int k (zs.getD i 0))) ∧ ∀ n ∈ zs, (Lit.int k n).wf = true
theorem isRow_rep {w : World} {a : Option Addr} {len cap : Nat} {zs : List Int} (h : IsRow .u8 w a len cap zs) : ∃ xs : List UInt8, RepS w all a len cap xs := by
 rcases h with ⟨rfl, rfl, rfl, _⟩ | ⟨x, rfl, hl, hm, hz, hc, hw⟩
 ·exact ⟨[], RepS.BX _ _ _ _ (by decide)⟩
 ·refine ⟨(zs.take len).map (fun z => UInt8.ofNat z.toNat), by rw [List.length_map, List.length_take]; omega, hl, hm, fun h0 => ?_, fun _ => trivial, fun i y hy => ⟨_, rfl, fun k u hu => ?_⟩⟩
  ·have h1 := hc 0 (by omega)
   have h2 : x.spot = none := by
    cases hs : x.spot with
    | none => rfl
    | some q =>
      have : x.add 0 = x := by simp [Addr.add]
      rw [this] at h1
      unfold World.cell? at h1
      split at h1
      ·simp [hs] at h1
      ·cases h1
   obtain ⟨b, o, sp⟩ := x
   simp only at h2
   subst h2
   rfl
  ·rw [List.getElem?_map, List.getElem?_take] at hy
   by_cases hi : i < len
   ·rw [if_pos hi] at hy
    have hil : i < zs.length := by omega
    rw [List.getElem?_eq_getElem hil] at hy
    simp only [Option.map_some, Option.some.injEq] at hy
    subst hy
    have h1 := hc i hil
    have hwf := hw zs[i] (List.getElem_mem hil)
    have hk : 0 ≤ zs[i] ∧ zs[i] ≤ 255 := by
     simp only [Lit.wf, Bool.and_eq_true, decide_eq_true_eq] at hwf
     have e1 : IntKind.u8.min = 0 := by decide
     have e2 : IntKind.u8.max = 255 := by decide
     omega
    have hu2 : u = .int .u8 zs[i] := by
     cases k with
     | zero =>
       simp only [List.getElem?_cons_zero, Option.some.injEq] at hu
       rw [← hu]
       congr 1
       have : (UInt8.ofNat zs[i].toNat).toNat = zs[i].toNat := by rw [UInt8.toNat_ofNat']; omega
       rw [this]
       omega
     | succ k => simp at hu
    have hk0 : k = 0 := by
     cases k with
     | zero => rfl
     | succ k => simp at hu
    subst hk0
    rw [hu2]
    have h2 : zs.getD i 0 = zs[i] := by simp [hil]
    rw [h2] at h1
    have h3 : x.spot = none := by
     cases hs : x.spot with
     | none => rfl
     | some q =>
       have h0 := hc 0 (by omega)
       have : x.add 0 = x := by simp [Addr.add]
       rw [this] at h0
       unfold World.cell? at h0
       split at h0
       ·simp [hs] at h0
       ·cases h0
    obtain ⟨b, o, sp⟩ := x
    simp only at h3
    subst h3
    rw [add_lit] at h1 ⊢
    show w.cell? ⟨b, o + i * 1 + 0, none⟩ = _
    rw [Nat.mul_one, Nat.add_zero]
    exact h1
   ·rw [if_neg hi] at hy
    simp at hy
theorem walk (a0 : Option Addr) (len0 cap0 : Nat) (z0 : List Int) (w : World) (ht : RepS w all (some ⟨5, 0, none⟩) CE.length CE.length CE) (w0 : IsRow .u8 w a0 len0 cap0 z0) :
 Calls Tryz.prog 9 #[.slice a0 len0 cap0] w fun e w' => e = .returned (.bool true) ∧ Below w.heap.size w w' := by
 obtain ⟨x0, r0⟩ := isRow_rep w0
 refine (IN x0 r0 ht).mono ?_
 rintro e w' ⟨v, rfl, rfl, hx⟩
 exact ⟨rfl, hx.below⟩
set_option maxRecDepth 100000 in
theorem lifted (os : Os) (started : os.Started) (H : Type) (enc : TypeId × Value → H) :
 ReturnsInHanded {} Tryz.checked os 9 .any (fun w args => (Rows.fnLinesMergeSpec.pre enc Tryz.prog Tryz.f9 [] false w args ∧ laidMetH Tryz.prog Rows.fnLinesRunRow.laid w) ∧ sizedMet enc Tryz.prog Tryz.f9 (OpenSpec.ofChange Rows.fnLinesMergeSpec) false w args)
  (Rows.fnLinesMergeSpec.post enc Tryz.prog Tryz.f9 false true false false) := by
 refine returnsInHanded_of_change_and (C := Tryz.checked) (X := fun w _ => laidMetH Tryz.prog Rows.fnLinesRunRow.laid w) (fun _ _ _ hh h => h.of_heap hh) own started (by kernel_rfl) func9
  (ChangeSpec.witness_shaped (enc := enc) (C := Tryz.checked) (os := os) (X := fun w _ => laidMetH Tryz.prog Rows.fnLinesRunRow.laid w) false ({ World.doorLaid Tryz.prog 72 os with heap := (World.doorLaid Tryz.prog 72 os).heap.modify 1 (fun o => match o with | .cells _ t fr => .cells (Go.Pinned.utf8FirstZ.map (fun (n : Nat) => Value.int .u8 n)).toArray t fr | o => o) } : World) #[.slice none 0 0] 8 rfl (Eu os) (by kernel_rfl) (by kernel_rfl) (by kernel_rfl) (I1 os _)) ?_
 intro W base args ds gs before hval0 hW _ _ hL _
 have hval : ∀ (j : Nat) t v, Tryz.f9.params[j]? = some t → args[j]? = some v → Value.okWide Tryz.prog W .any base t v := hval0
 have hW' := hW
 obtain ⟨p, q, hA0, hV, rfl, hfz, hnd⟩ := hW
 have hA : DataW.TrodAll enc Tryz.prog W 0 (fun _ => true) true Tryz.f9.params.toList args.toList ds p := hA0
 rw [Tryz.params9] at hA hval
 obtain ⟨v0, vs0, d0, ds0, p0, q0, hargs, rfl, rfl, h0, r0⟩ := trodAll_cons hA
 obtain ⟨rfl, rfl, rfl⟩ := trodAll_nil r0
 obtain rfl : args = #[v0] := by cases args; simp_all
 obtain ⟨rfl, rfl⟩ := trodVars_none hV
 obtain ⟨a0, len0, cap0, rfl⟩ := okWide_slice Tryz.underlying22 (hval 0 22 v0 rfl rfl)
 have k0 := h0
 have lt0 : ∀ x ∈ p0, x.block < W.heap.size := by obtain ⟨m, hm⟩ := k0; exact DataW.trod_lt m _ _ _ hm
 obtain ⟨z0, w0⟩ : ∃ zs, IsRow .u8 W a0 len0 cap0 zs := by
  obtain ⟨fuel, hf⟩ := h0
  rcases open_ints Tryz.underlying22 Tryz.underlying5 (by kernel_rfl) hf with ⟨hcs, _⟩ | ⟨x, l, c, zs, hcs, _, hl, hm, hz, _, hcell, hwz⟩
  ·simp [Value.cells] at hcs
   obtain ⟨rfl, rfl, rfl⟩ := hcs
   exact ⟨[], .inl ⟨rfl, rfl, rfl, rfl⟩⟩
  ·simp [Value.cells] at hcs
   obtain ⟨rfl, rfl, rfl⟩ := hcs
   exact ⟨zs, .inr ⟨_, rfl, hl, hm, by simpa using hz, hcell, hwz⟩⟩
 clear hA0 hval0
 refine (walk a0 len0 cap0 z0 W (G4 hL) w0).mono fun e W' ⟨he, bel⟩ => ?_
 subst he
 exact ⟨_, rfl, _, _, _, [], _, [], hW', trodAll_mk1 (shut_bool Tryz.underlying4 _), (trodAll_cons_mk (Below.trod laidOut (by kernel_rfl) (of_decide_eq_true (by kernel_rfl)) k0 bel lt0) trodAll_mk0), rfl, bel.frame _, fun h => by cases h⟩
theorem named_ : Tryz.pinned.checked.prog.funcNamed Rows.fnLinesMergeRow.func = some 9 := by kernel_rfl
theorem j_inPlace : (Rows.fnLinesMergeRow.inPlace == Tryz.pinned.checked.prog.inPlace 9) = true := by kernel_rfl
theorem j_unfollowed : (Rows.fnLinesMergeRow.unfollowed == Tryz.pinned.checked.prog.unfollowed 9) = true := by kernel_rfl
theorem j_recurses : (Rows.fnLinesMergeRow.recurses == Tryz.pinned.checked.prog.recurses 9) = true := by kernel_rfl
theorem j_named : (Rows.fnLinesMergeRow.named == Tryz.pinned.checked.prog.varsNamed 9) = true := by kernel_rfl
theorem joined_ : joinedFacts Tryz.pinned.checked.prog 9 Tryz.f9 Rows.fnLinesMergeSpec Rows.fnLinesMergeRow = true := by
 unfold joinedFacts
 rw [j_inPlace, j_unfollowed, j_recurses, j_named]
 kernel_rfl
theorem over : Rows.fnLinesMergeRow.holds Tryz.pinned (OpenSpec.ofChange Rows.fnLinesMergeSpec) :=
 OpenClaim.holds_of_wide 9 Tryz.f9 rfl rfl rfl rfl rfl rfl rfl ⟨rfl, rfl, rfl, rfl, rfl⟩ rfl rfl rfl rfl rfl named_ func9 joined_
  (of_decide_eq_true (by kernel_rfl)) (by unfold Func.isWrapper; first | (rw [if_pos (by decide +kernel)]; kernel_rfl) | (rw [if_neg (by decide +kernel)]; exact ⟨rfl, rfl⟩))
  (fun os started H enc _ => lifted os started H enc)
theorem proved : Rows.FnLinesMergeCardSaid :=
 Claim7.holds_tied_plain_at .later [] [.data, .data, .data, .data, .sentinel, .sentinel, .pinned] true (true, "6e6f94bb9d6061f81d3699de274a8bc122ba6f358ffedbf4f53e9782dddbbef7") true
  over (fun _ h => by cases h) (by kernel_rfl) (fun _ h => by cases h) fnLinesMerge_row_tie rfl ⟨rfl, rfl⟩ (by kernel_rfl) rfl
  (fun f fn hf hfn => by
   obtain rfl : f = 9 := Option.some.inj (named_.symm.trans hf) |>.symm
   obtain rfl : fn = Tryz.f9 := (Option.some.inj (func9.symm.trans hfn)).symm
   exact ⟨by kernel_rfl, fun j t ht => by
    rw [Tryz.params9] at ht
    have hm : t ∈ [22] := by simpa using Array.mem_of_getElem? ht
    have hall : ([22].all fun u => !Tryz.prog.wantsStandIn u) = true := by kernel_rfl
    exact (show Tryz.prog.wantsStandIn t = false by simpa using List.all_eq_true.1 hall t hm)⟩)
  (by kernel_rfl)
end Go.Proofs.YtckdhcbbgmiccaaGreatDoor.fnLinesMerge
