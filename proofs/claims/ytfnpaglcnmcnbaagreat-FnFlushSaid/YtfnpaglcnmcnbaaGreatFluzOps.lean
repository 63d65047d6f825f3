/- Rules on operations that look into their operands: texts, parts of slices, equal structs, rest of a division. No conditions. -/
import Derived.Test.YtfnpaglcnmcnbaaGreatFluzMem
set_option linter.unusedVariables false
set_option linter.unusedSimpArgs false
namespace Go.Proofs.YtfnpaglcnmcnbaaGreat
section
variable {α : Type} [Rep α] {w : World} {F : Nat → Prop} {a : Option Addr} {n c l h : Nat} {xs : List α}
theorem RepS.sub (hr : RepS w F a n c xs) (hlh : l ≤ h) (hh : h ≤ n) : RepS w F (if c = l then a else a.map (·.add (l * Rep.sz α))) (h - l) (c - l) ((xs.take h).drop l) := by
  have hlen := hr.len
  have hle := hr.le
  by_cases he : h = l
  · subst he
    rw [Nat.sub_self, List.drop_of_length_le (by rw [List.length_take]; omega)]
    exact RepS.nil' _ _ _ _ (by have := hr.cap; omega)
  · have hcl : c ≠ l := by omega
    rw [if_neg hcl]
    have ha := hr.addr (by omega)
    have hsome : (a.map (·.add (l * Rep.sz α))) = some ⟨blk a, off a + l * Rep.sz α, none⟩ := by
      rw [ha]
      simp [add_lit, blk, off]
    rw [hsome]
    refine ⟨by rw [List.length_drop, List.length_take]; omega, by omega, by have := hr.cap; omega, fun _ => rfl, fun _ => hr.inF (by omega), fun i x hx => ?_⟩
    rw [List.getElem?_drop, List.getElem?_take] at hx
    split at hx
    · obtain ⟨cs, h1, h2⟩ := hr.elem (l + i) x hx
      refine ⟨cs, h1, ?_⟩
      have : off (some (⟨blk a, off a + l * Rep.sz α, none⟩ : Addr)) + i * Rep.sz α = off a + (l + i) * Rep.sz α := by
        simp only [off, Nat.add_mul]
        omega
      rw [this]
      exact h2
    · cases hx
end
section
variable {P : Program}
def undB (P : Program) (t : TypeId) : Bool := match P.underlying t with | some .string => true | _ => false
theorem undB_spec {t : TypeId} (h : undB P t = true) : P.underlying t = some .string := by
  unfold undB at h; split at h <;> simp_all
theorem run_sidx {t : TypeId} {s : Str} {k : IntKind} {i : Int} {x : UInt8} (i' : Nat) (ht : undB P t = true) (hi : i = (i' : Int)) (hx : s[i']? = some x) (w : World) :
    (Instr.index t (.string (bs s)) (.int k i)).run P w = .ok (.int .u8 (x.toNat : Int)) w := by
  subst hi
  have hu := undB_spec ht
  have hs : (bs s)[i']? = some x := by
    obtain ⟨h1, h2⟩ := List.getElem?_eq_some_iff.1 hx
    have h3 : i' < (bs s).size := by rw [bs_size]; exact h1
    rw [getElem?_pos (bs s) i' h3]
    congr 1
  unfold Instr.index
  have h1 : (asIntOf (.int k (i' : Int))).run P w = .ok (k, (i' : Int)) w := rfl
  rw [run_bind_ok h1]
  simp only []
  rw [run_bind_ok (show (underlying t).run P w = .ok .string w by simp [underlying, hu, go_sem])]
  simp [hs, go_sem]
theorem run_cat {t : TypeId} {x y : Operand} {s u : Str} (h : s.length + u.length ≤ 9000000000000000000) (w : World) :
    (do eqGuard .add t x y (.string (bs s)) (.string (bs u)); binOp .add t (.string (bs s)) (.string (bs u))).run P w = .ok (.string (bs (s ++ u))) w := by
  have h1 : (eqGuard .add t x y (.string (bs s)) (.string (bs u))).run P w = .ok () w := rfl
  rw [run_bind_ok h1]
  have hle : ¬ (((bs s).size + (bs u).size : Nat) : Int) > IntKind.i64.max := by
    rw [bs_size, bs_size]
    have : IntKind.i64.max = 9223372036854775807 := by decide
    rw [this]
    omega
  simp only [binOp, Op.stringOp, if_neg hle]
  rw [bs_app]
  rfl
theorem run_rem {k : IntKind} {t : TypeId} {x y : Operand} {a b : Int} (hb : b ≠ 0) (w : World) :
    (do eqGuard .rem t x y (.int k a) (.int k b); binOp .rem t (.int k a) (.int k b)).run P w = .ok (.int k (a.tmod b)) w := by
  have h1 : (eqGuard .rem t x y (.int k a) (.int k b)).run P w = .ok () w := rfl
  rw [run_bind_ok h1]
  simp [binOp, Op.intDiv, hb, go_sem]
theorem run_quo {t : TypeId} {x y : Operand} {a b : Int} (hb : b ≠ 0) (hr : -9223372036854775808 ≤ a.tdiv b ∧ a.tdiv b ≤ 9223372036854775807) (w : World) :
    (do eqGuard .quo t x y (.int .i64 a) (.int .i64 b); binOp .quo t (.int .i64 a) (.int .i64 b)).run P w = .ok (.int .i64 (a.tdiv b)) w := by
  have h1 : (eqGuard .quo t x y (.int .i64 a) (.int .i64 b)).run P w = .ok () w := rfl
  rw [run_bind_ok h1]
  simp [binOp, Op.intDiv, hb, go_sem, IntWalk.i64_in _ hr]
def bnd (o : Option Value) (d l : Nat) : Prop := o = none ∧ l = d ∨ ∃ k i, o = some (.int k i) ∧ i = (l : Int)
theorem run_bound {k : IntKind} {i : Int} {l y : Nat} {code : BoundsCode} (hi : i = (l : Int)) (hl : l ≤ y) (w : World) : (Instr.sliceBound (.int k i) y code).run P w = .ok l w := by
  subst hi
  unfold Instr.sliceBound
  have h1 : (asIntOf (.int k (l : Int))).run P w = .ok (k, (l : Int)) w := rfl
  rw [run_bind_ok h1]
  have h2 : (0 : Int) ≤ (l : Int) ∧ (l : Int) ≤ (y : Int) := by omega
  simp only [h2, and_self, if_true]
  simp [go_sem]
theorem run_bounds {b : Bool} {len cap l h : Nat} {lo hi : Option Value} (hlo : bnd lo 0 l) (hhi : bnd hi len h) (hlh : l ≤ h) (hh : h ≤ cap) (w : World) :
    (Instr.sliceBounds b len cap lo hi none).run P w = .ok (l, h, cap) w := by
  unfold Instr.sliceBounds
  rcases hlo with ⟨rfl, rfl⟩ | ⟨k, i, rfl, hi1⟩ <;> rcases hhi with ⟨rfl, rfl⟩ | ⟨k2, i2, rfl, hi2⟩
  · simp [go_sem]
  · simp only [pure_bind]
    rw [run_bind_ok (run_bound hi2 hh w)]
    simp [go_sem]
  · simp only [pure_bind]
    rw [run_bind_ok (run_bound hi1 hlh w)]
    simp [go_sem]
  · simp only [pure_bind]
    rw [run_bind_ok (run_bound hi2 hh w), run_bind_ok (run_bound hi1 hlh w)]
    simp [go_sem]
theorem run_ssub {t : TypeId} {s : Str} {l h : Nat} {lo hi : Option Value} (ht : undB P t = true) (hlo : bnd lo 0 l) (hhi : bnd hi s.length h) (hlh : l ≤ h) (hh : h ≤ s.length) (w : World) :
    (Instr.sliceAt t (.string (bs s)) lo hi none).run P w = .ok (.string (bs ((s.take h).drop l))) w := by
  have hu := undB_spec ht
  have hun : (underlying t).run P w = .ok .string w := by simp [underlying, hu, go_sem]
  unfold Instr.sliceAt
  rw [run_bind_ok hun]
  unfold Instr.slice
  rw [run_bind_ok hun]
  have hb := run_bounds (P := P) (b := false) hlo (len := (bs s).size) (cap := (bs s).size) (by rw [bs_size]; exact hhi) hlh (by rw [bs_size]; exact hh) w
  simp only [Option.isSome_none, Bool.false_eq_true, if_false, pure_bind]
  rw [run_bind_ok hb]
  have hx : (bs s).extract l h = bs ((s.take h).drop l) := by
    apply ByteArray.ext
    simp [bs, ByteArray.data_extract]
    exact List.drop_take.symm
  simp only []
  rw [hx]
  rfl
def sliB (P : Program) (t : TypeId) (sz : Nat) : Bool := match P.underlying t with | some (.slice e) => (match P.info? e with | some i => Nat.beq i.size sz | none => false) | _ => false
theorem run_sub {t : TypeId} {sz : Nat} {a : Option Addr} {len cap l h : Nat} {lo hi : Option Value} (ht : sliB P t sz = true) (hlo : bnd lo 0 l) (hhi : bnd hi len h) (hlh : l ≤ h) (hh : h ≤ cap) (w : World) :
    (Instr.sliceAt t (.slice a len cap) lo hi none).run P w = .ok (.slice (if cap = l then a else a.map (·.add (l * sz))) (h - l) (cap - l)) w := by
  unfold sliB at ht
  split at ht
  · rename_i e hu
    split at ht
    · rename_i i hi'
      have hsz := Nat.eq_of_beq_eq_true ht
      have hun : (underlying t).run P w = .ok (.slice e) w := by simp [underlying, hu, go_sem]
      unfold Instr.sliceAt
      rw [run_bind_ok hun]
      simp only []
      unfold Instr.slice
      rw [run_bind_ok hun]
      simp only []
      rw [run_bind_ok (run_bounds (P := P) (b := true) hlo hhi hlh hh w)]
      simp only []
      rw [run_bind_ok (show (sizeOf e).run P w = .ok i.size w by simp [sizeOf, typeInfo, hi', go_sem])]
      rw [hsz]
      rfl
    · cases ht
  · cases ht
def tagB (P : Program) (t : TypeId) : Bool :=
  (match P.underlying t with
   | some (.struct fs) => (match fs.toList with
     | [f, g] => f.name != "_" && g.name != "_" && undB P f.type && undB P g.type && Nat.beq f.offset 0 && Nat.beq g.offset 1
     | _ => false)
   | _ => false) && !P.stoodInHeld t && !P.eqGuardType P.depth t
theorem run_equal_str {d : Nat} {t : TypeId} {s u : Str} (ht : undB P t = true) (w : World) : (Op.equalIn (d + 1) t (.string (bs s)) (.string (bs u))).run P w = .ok (s == u) w := by
  have hu := undB_spec ht
  have hun : (underlying t).run P w = .ok .string w := by simp [underlying, hu, go_sem]
  unfold Op.equalIn
  rw [run_bind_ok hun]
  simp only []
  rw [bs_beq]
  rfl
theorem run_part_str {t : TypeId} {cs : Array Value} {o : Nat} {v : Value} (ht : undB P t = true) (hv : cs[o]? = some v) (w : World) : (part t cs o).run P w = .ok v w := by
  have hu := undB_spec ht
  have hsc : scalarB P t = true := by unfold scalarB; rw [hu]
  unfold part
  rw [run_bind_ok (run_isAgg_false hsc w)]
  simp [hv, go_sem]
theorem tagB_guard {t : TypeId} {op : BinOp} {x y : Operand} {cs cs' : Array Value} (ht : (!P.eqGuardType P.depth t) = true) (w : World) : (eqGuard op t x y (.agg cs) (.agg cs')).run P w = .ok () w := by
  simp only [Bool.not_eq_true'] at ht
  unfold eqGuard
  cases op <;> simp [ht, go_sem, run_program]
theorem run_equal_tag {t : TypeId} {k v k' v' : Str} (ht : tagB P t = true) (w : World) :
    (Op.equal t (.agg #[.string (bs k), .string (bs v)]) (.agg #[.string (bs k'), .string (bs v')])).run P w = .ok (k == k' && v == v') w := by
  unfold tagB at ht
  simp only [Bool.and_eq_true, Bool.not_eq_true'] at ht
  obtain ⟨⟨h1, h2⟩, h3⟩ := ht
  split at h1
  · rename_i fs hu
    split at h1
    · rename_i f g hfg
      simp only [Bool.and_eq_true] at h1
      obtain ⟨⟨⟨⟨⟨a1, a2⟩, a3⟩, a4⟩, a5⟩, a6⟩ := h1
      have a5' := Nat.eq_of_beq_eq_true a5
      have a6' := Nat.eq_of_beq_eq_true a6
      have hun : (underlying t).run P w = .ok (.struct fs) w := by simp [underlying, hu, go_sem]
      have hfs : fs = #[f, g] := Array.toList_inj.1 (by simpa using hfg)
      subst hfs
      unfold Op.equal
      rw [show Op.maxDepth = 9999 + 1 from rfl]
      unfold Op.equalIn
      rw [run_bind_ok hun]
      simp only []
      have hp : (program : Sem Program).run P w = .ok P w := run_program P w
      rw [run_bind_ok hp]
      simp only [h2, Bool.false_eq_true, if_false]
      have e1 := fun (w : World) => run_part_str (P := P) (t := f.type) (cs := #[.string (bs k), .string (bs v)]) (o := f.offset) (v := .string (bs k)) a3 (by rw [a5']; rfl) w
      have e2 := fun (w : World) => run_part_str (P := P) (t := f.type) (cs := #[.string (bs k'), .string (bs v')]) (o := f.offset) (v := .string (bs k')) a3 (by rw [a5']; rfl) w
      have e3 := fun (w : World) => run_part_str (P := P) (t := g.type) (cs := #[.string (bs k), .string (bs v)]) (o := g.offset) (v := .string (bs v)) a4 (by rw [a6']; rfl) w
      have e4 := fun (w : World) => run_part_str (P := P) (t := g.type) (cs := #[.string (bs k'), .string (bs v')]) (o := g.offset) (v := .string (bs v')) a4 (by rw [a6']; rfl) w
      have e5 := run_equal_str (P := P) (d := 9998) (t := f.type) (s := k) (u := k') a3
      have e6 := run_equal_str (P := P) (d := 9998) (t := g.type) (s := v) (u := v') a4
      have c1 : (f.name ≠ "_") = True := by simpa using a1
      have c2 : (g.name ≠ "_") = True := by simpa using a2
      simp only [List.forIn_toArray, Array.forIn_toList, List.forIn_cons, List.forIn_nil, c1, c2, if_true, bind_assoc]
      rw [run_bind_ok (e1 w), run_bind_ok (e2 w), run_bind_ok (e5 w)]
      cases hk : (k == k') with
      | false => simp [go_sem]
      | true =>
        simp only [Bool.not_true, Bool.false_eq_true, if_false, pure_bind, bind_assoc]
        rw [run_bind_ok (e3 w), run_bind_ok (e4 w), run_bind_ok (e6 w)]
        cases hv : (v == v') <;> simp [go_sem]
    · cases h1
  · cases h1
def intB (P : Program) (t : TypeId) : Bool := match P.underlying t with | some (.int _) => true | _ => false
def rowB (P : Program) (t : TypeId) : Bool :=
  (match P.underlying t with
   | some (.struct fs) => (match fs.toList with
     | [f, g] => f.name != "_" && g.name != "_" && intB P f.type && intB P g.type && Nat.beq f.offset 0 && Nat.beq g.offset 1
     | _ => false)
   | _ => false) && !P.stoodInHeld t && !P.eqGuardType P.depth t
theorem run_equal_int {d : Nat} {t : TypeId} {s u : Int} (ht : intB P t = true) (w : World) : (Op.equalIn (d + 1) t (.int .i64 s) (.int .i64 u)).run P w = .ok (s == u) w := by
  unfold intB at ht
  split at ht
  · rename_i k hu
    have hun : (underlying t).run P w = .ok (.int k) w := by simp [underlying, hu, go_sem]
    unfold Op.equalIn
    rw [run_bind_ok hun]
    simp [go_sem]
  · cases ht
theorem run_part_int {t : TypeId} {cs : Array Value} {o : Nat} {v : Value} (ht : intB P t = true) (hv : cs[o]? = some v) (w : World) : (part t cs o).run P w = .ok v w := by
  unfold intB at ht
  split at ht
  · rename_i k hu
    have hsc : scalarB P t = true := by unfold scalarB; rw [hu]
    unfold part
    rw [run_bind_ok (run_isAgg_false hsc w)]
    simp [hv, go_sem]
  · cases ht
theorem run_equalIn_row {d : Nat} {t : TypeId} {k v k' v' : Int} (ht : rowB P t = true) (w : World) :
    (Op.equalIn (d + 2) t (.agg #[.int .i64 k, .int .i64 v]) (.agg #[.int .i64 k', .int .i64 v'])).run P w = .ok (k == k' && v == v') w := by
  unfold rowB at ht
  simp only [Bool.and_eq_true, Bool.not_eq_true'] at ht
  obtain ⟨⟨h1, h2⟩, h3⟩ := ht
  split at h1
  · rename_i fs hu
    split at h1
    · rename_i f g hfg
      simp only [Bool.and_eq_true] at h1
      obtain ⟨⟨⟨⟨⟨a1, a2⟩, a3⟩, a4⟩, a5⟩, a6⟩ := h1
      have a5' := Nat.eq_of_beq_eq_true a5
      have a6' := Nat.eq_of_beq_eq_true a6
      have hun : (underlying t).run P w = .ok (.struct fs) w := by simp [underlying, hu, go_sem]
      have hfs : fs = #[f, g] := Array.toList_inj.1 (by simpa using hfg)
      subst hfs
      unfold Op.equalIn
      rw [run_bind_ok hun]
      simp only []
      have hp : (program : Sem Program).run P w = .ok P w := run_program P w
      rw [run_bind_ok hp]
      simp only [h2, Bool.false_eq_true, if_false]
      have e1 := fun (w : World) => run_part_int (P := P) (t := f.type) (cs := #[.int .i64 k, .int .i64 v]) (o := f.offset) (v := .int .i64 k) a3 (by rw [a5']; rfl) w
      have e2 := fun (w : World) => run_part_int (P := P) (t := f.type) (cs := #[.int .i64 k', .int .i64 v']) (o := f.offset) (v := .int .i64 k') a3 (by rw [a5']; rfl) w
      have e3 := fun (w : World) => run_part_int (P := P) (t := g.type) (cs := #[.int .i64 k, .int .i64 v]) (o := g.offset) (v := .int .i64 v) a4 (by rw [a6']; rfl) w
      have e4 := fun (w : World) => run_part_int (P := P) (t := g.type) (cs := #[.int .i64 k', .int .i64 v']) (o := g.offset) (v := .int .i64 v') a4 (by rw [a6']; rfl) w
      have e5 := run_equal_int (P := P) (d := d) (t := f.type) (s := k) (u := k') a3
      have e6 := run_equal_int (P := P) (d := d) (t := g.type) (s := v) (u := v') a4
      have c1 : (f.name ≠ "_") = True := by simpa using a1
      have c2 : (g.name ≠ "_") = True := by simpa using a2
      simp only [List.forIn_toArray, Array.forIn_toList, List.forIn_cons, List.forIn_nil, c1, c2, if_true, bind_assoc]
      rw [run_bind_ok (e1 w), run_bind_ok (e2 w), run_bind_ok (e5 w)]
      cases hk : (k == k') with
      | false => simp [go_sem]
      | true =>
        simp only [Bool.not_true, Bool.false_eq_true, if_false, pure_bind, bind_assoc]
        rw [run_bind_ok (e3 w), run_bind_ok (e4 w), run_bind_ok (e6 w)]
        cases hv : (v == v') <;> simp [go_sem]
    · cases h1
  · cases h1
theorem run_equal_row {t : TypeId} {k v k' v' : Int} (ht : rowB P t = true) (w : World) :
    (Op.equal t (.agg #[.int .i64 k, .int .i64 v]) (.agg #[.int .i64 k', .int .i64 v'])).run P w = .ok (k == k' && v == v') w := run_equalIn_row (d := 9998) ht w
def smpB (P : Program) (t : TypeId) : Bool :=
  (match P.underlying t with
   | some (.struct fs) => (match fs.toList with
     | [f, g] => f.name != "_" && g.name != "_" && intB P f.type && rowB P g.type && aggB P g.type 2 && Nat.beq f.offset 0 && Nat.beq g.offset 1
     | _ => false)
   | _ => false) && !P.stoodInHeld t && !P.eqGuardType P.depth t
theorem run_part_agg {t : TypeId} {cs : Array Value} {o n : Nat} (ht : aggB P t n = true) (w : World) : (part t cs o).run P w = .ok (.agg (cs.extract o (o + n))) w := by
  simp only [aggB, Bool.and_eq_true] at ht
  unfold part
  have h1 : (isAgg t).run P w = .ok true w := by
    unfold isAgg underlying
    have := ht.1
    split at this
    · rename_i d hd; simp [run_program, hd, go_sem]
    · rename_i d hd; simp [run_program, hd, go_sem]
    · cases this
  rw [run_bind_ok h1]
  simp only [if_true]
  rw [run_bind_ok (run_sizeOf (n := n) ht.2 w)]
  rfl
theorem run_equal_smp {t : TypeId} {i k v i' k' v' : Int} (ht : smpB P t = true) (w : World) :
    (Op.equal t (.agg #[.int .i64 i, .int .i64 k, .int .i64 v]) (.agg #[.int .i64 i', .int .i64 k', .int .i64 v'])).run P w = .ok (i == i' && (k == k' && v == v')) w := by
  unfold smpB at ht
  simp only [Bool.and_eq_true, Bool.not_eq_true'] at ht
  obtain ⟨⟨h1, h2⟩, h3⟩ := ht
  split at h1
  · rename_i fs hu
    split at h1
    · rename_i f g hfg
      simp only [Bool.and_eq_true] at h1
      obtain ⟨⟨⟨⟨⟨⟨a1, a2⟩, a3⟩, a4⟩, a7⟩, a5⟩, a6⟩ := h1
      have a5' := Nat.eq_of_beq_eq_true a5
      have a6' := Nat.eq_of_beq_eq_true a6
      have hun : (underlying t).run P w = .ok (.struct fs) w := by simp [underlying, hu, go_sem]
      have hfs : fs = #[f, g] := Array.toList_inj.1 (by simpa using hfg)
      subst hfs
      unfold Op.equal
      rw [show Op.maxDepth = 9999 + 1 from rfl]
      unfold Op.equalIn
      rw [run_bind_ok hun]
      simp only []
      have hp : (program : Sem Program).run P w = .ok P w := run_program P w
      rw [run_bind_ok hp]
      simp only [h2, Bool.false_eq_true, if_false]
      have e1 := fun (w : World) => run_part_int (P := P) (t := f.type) (cs := #[.int .i64 i, .int .i64 k, .int .i64 v]) (o := f.offset) (v := .int .i64 i) a3 (by rw [a5']; rfl) w
      have e2 := fun (w : World) => run_part_int (P := P) (t := f.type) (cs := #[.int .i64 i', .int .i64 k', .int .i64 v']) (o := f.offset) (v := .int .i64 i') a3 (by rw [a5']; rfl) w
      have e3 := fun (w : World) => run_part_agg (P := P) (t := g.type) (cs := #[.int .i64 i, .int .i64 k, .int .i64 v]) (o := g.offset) (n := 2) a7 w
      have e4 := fun (w : World) => run_part_agg (P := P) (t := g.type) (cs := #[.int .i64 i', .int .i64 k', .int .i64 v']) (o := g.offset) (n := 2) a7 w
      have x1 : (#[.int .i64 i, .int .i64 k, .int .i64 v] : Array Value).extract g.offset (g.offset + 2) = #[.int .i64 k, .int .i64 v] := by rw [a6']; rfl
      have x2 : (#[.int .i64 i', .int .i64 k', .int .i64 v'] : Array Value).extract g.offset (g.offset + 2) = #[.int .i64 k', .int .i64 v'] := by rw [a6']; rfl
      simp only [x1] at e3
      simp only [x2] at e4
      have e5 := run_equal_int (P := P) (d := 9998) (t := f.type) (s := i) (u := i') a3
      have e6 := run_equalIn_row (P := P) (d := 9997) (t := g.type) (k := k) (v := v) (k' := k') (v' := v') a4
      have c1 : (f.name ≠ "_") = True := by simpa using a1
      have c2 : (g.name ≠ "_") = True := by simpa using a2
      simp only [List.forIn_toArray, Array.forIn_toList, List.forIn_cons, List.forIn_nil, c1, c2, if_true, bind_assoc]
      rw [run_bind_ok (e1 w), run_bind_ok (e2 w), run_bind_ok (e5 w)]
      cases hk : (i == i') with
      | false => simp [go_sem]
      | true =>
        simp only [Bool.not_true, Bool.false_eq_true, if_false, pure_bind, bind_assoc]
        rw [run_bind_ok (e3 w), run_bind_ok (e4 w), run_bind_ok (e6 w)]
        cases hv : (k == k' && v == v') <;> simp [go_sem]
    · cases h1
  · cases h1
theorem smpB_g {t : TypeId} (h : smpB P t = true) : (!P.eqGuardType P.depth t) = true := by unfold smpB at h; simp only [Bool.and_eq_true] at h; exact h.2
theorem run_smpNe {t : TypeId} {x y : Operand} {i k v i' k' v' : Int} (ht : smpB P t = true) (w : World) :
    (do eqGuard .neq t x y (.agg #[.int .i64 i, .int .i64 k, .int .i64 v]) (.agg #[.int .i64 i', .int .i64 k', .int .i64 v']); binOp .neq t (.agg #[.int .i64 i, .int .i64 k, .int .i64 v]) (.agg #[.int .i64 i', .int .i64 k', .int .i64 v'])).run P w
      = .ok (.bool (!(i == i' && (k == k' && v == v')))) w := by
  rw [run_bind_ok (tagB_guard (smpB_g ht) w)]
  simp only [binOp]
  rw [run_bind_ok (run_equal_smp ht w)]
  rfl
theorem smp_beq (x y : Smp) : (x == y) = (x.id == y.id && (x.row.t == y.row.t && x.row.v == y.row.v)) := by
  rw [Bool.eq_iff_iff]
  simp only [beq_iff_eq, Bool.and_eq_true]
  constructor
  · rintro rfl; exact ⟨rfl, rfl, rfl⟩
  · rintro ⟨h1, h2, h3⟩
    cases x with | mk i r => cases y with | mk i' r' => cases r; cases r'; simp_all
theorem tagB_g {t : TypeId} (h : tagB P t = true) : (!P.eqGuardType P.depth t) = true := by unfold tagB at h; simp only [Bool.and_eq_true] at h; exact h.2
theorem rowB_g {t : TypeId} (h : rowB P t = true) : (!P.eqGuardType P.depth t) = true := by unfold rowB at h; simp only [Bool.and_eq_true] at h; exact h.2
theorem run_tagEq {t : TypeId} {x y : Operand} {k v k' v' : Str} (ht : tagB P t = true) (w : World) :
    (do eqGuard .eql t x y (.agg #[.string (bs k), .string (bs v)]) (.agg #[.string (bs k'), .string (bs v')]); binOp .eql t (.agg #[.string (bs k), .string (bs v)]) (.agg #[.string (bs k'), .string (bs v')])).run P w
      = .ok (.bool (k == k' && v == v')) w := by
  rw [run_bind_ok (tagB_guard (tagB_g ht) w)]
  simp only [binOp]
  rw [run_bind_ok (run_equal_tag ht w)]
  rfl
theorem run_tagNe {t : TypeId} {x y : Operand} {k v k' v' : Str} (ht : tagB P t = true) (w : World) :
    (do eqGuard .neq t x y (.agg #[.string (bs k), .string (bs v)]) (.agg #[.string (bs k'), .string (bs v')]); binOp .neq t (.agg #[.string (bs k), .string (bs v)]) (.agg #[.string (bs k'), .string (bs v')])).run P w
      = .ok (.bool (!(k == k' && v == v'))) w := by
  rw [run_bind_ok (tagB_guard (tagB_g ht) w)]
  simp only [binOp]
  rw [run_bind_ok (run_equal_tag ht w)]
  rfl
theorem run_rowNe {t : TypeId} {x y : Operand} {k v k' v' : Int} (ht : rowB P t = true) (w : World) :
    (do eqGuard .neq t x y (.agg #[.int .i64 k, .int .i64 v]) (.agg #[.int .i64 k', .int .i64 v']); binOp .neq t (.agg #[.int .i64 k, .int .i64 v]) (.agg #[.int .i64 k', .int .i64 v'])).run P w
      = .ok (.bool (!(k == k' && v == v'))) w := by
  rw [run_bind_ok (tagB_guard (rowB_g ht) w)]
  simp only [binOp]
  rw [run_bind_ok (run_equal_row ht w)]
  rfl
theorem row_beq (x y : Row) : (x == y) = (x.t == y.t && x.v == y.v) := by
  rw [Bool.eq_iff_iff]
  simp only [beq_iff_eq, Bool.and_eq_true]
  constructor
  · rintro rfl; exact ⟨rfl, rfl⟩
  · rintro ⟨h1, h2⟩; cases x; cases y; simp_all
theorem tag_beq (x y : Tag) : (x == y) = (x.key == y.key && x.val == y.val) := by
  rw [Bool.eq_iff_iff]
  simp only [beq_iff_eq, Bool.and_eq_true]
  constructor
  · rintro rfl; exact ⟨rfl, rfl⟩
  · rintro ⟨h1, h2⟩; cases x; cases y; simp_all
def binAt (n : Nat) (ops : Array Oper) (j : Nat) (e : Env) : Option (BinOp × TypeId × Value × Value) :=
  bif goAt n ops j e then
    match (opAt ops j).op with
    | .binOp op t x y _ => some (op, t, ev e x, ev e y)
    | _ => none
  else none
def sidxAt (n : Nat) (ops : Array Oper) (j : Nat) (e : Env) : Option (TypeId × Value × Value) :=
  bif goAt n ops j e then
    match (opAt ops j).op with
    | .index t x y => some (t, ev e x, ev e y)
    | _ => none
  else none
def sliAt (n : Nat) (ops : Array Oper) (j : Nat) (e : Env) : Option (TypeId × Value × Option Value × Option Value) :=
  bif goAt n ops j e then
    match (opAt ops j).op with
    | .slice t x lo hi none => some (t, ev e x, lo.map (ev e), hi.map (ev e))
    | _ => none
  else none
theorem run_bin {n : Nat} {ops : Array Oper} {j : Nat} {e : Env} {op : BinOp} {t : TypeId} {a b v : Value} {w : World} (h : binAt n ops j e = some (op, t, a, b))
    (hr : ∀ x y, (do eqGuard op t x y a b; binOp op t a b).run P w = .ok v w) : goAt n ops j e = true ∧ (execOp (ev e) (opAt ops j)).run P w = .ok (.value v) w := by
  obtain ⟨hg, h⟩ := goAt_of h
  refine ⟨hg, ?_⟩
  split at h
  · rename_i op' t' x y z hop
    simp only [Option.some.injEq, Prod.mk.injEq] at h
    obtain ⟨rfl, rfl, rfl, rfl⟩ := h
    simp only [execOp, hop]
    exact run_bind_ok (hr x y)
  · cases h
theorem run_sidxAt {n : Nat} {ops : Array Oper} {j : Nat} {e : Env} {t : TypeId} {a b v : Value} {w : World} (h : sidxAt n ops j e = some (t, a, b))
    (hr : (Instr.index t a b).run P w = .ok v w) : goAt n ops j e = true ∧ (execOp (ev e) (opAt ops j)).run P w = .ok (.value v) w := by
  obtain ⟨hg, h⟩ := goAt_of h
  refine ⟨hg, ?_⟩
  split at h
  · rename_i t' x y hop
    simp only [Option.some.injEq, Prod.mk.injEq] at h
    obtain ⟨rfl, rfl, rfl⟩ := h
    simp only [execOp, hop]
    exact run_bind_ok hr
  · cases h
theorem run_sliAt {n : Nat} {ops : Array Oper} {j : Nat} {e : Env} {t : TypeId} {a v : Value} {lo hi : Option Value} {w : World} (h : sliAt n ops j e = some (t, a, lo, hi))
    (hr : (Instr.sliceAt t a lo hi none).run P w = .ok v w) : goAt n ops j e = true ∧ (execOp (ev e) (opAt ops j)).run P w = .ok (.value v) w := by
  obtain ⟨hg, h⟩ := goAt_of h
  refine ⟨hg, ?_⟩
  split at h
  · rename_i t' x lo' hi' hop
    simp only [Option.some.injEq, Prod.mk.injEq] at h
    obtain ⟨rfl, rfl, rfl, rfl⟩ := h
    simp only [execOp, hop]
    exact run_bind_ok hr
  · cases h
end
section
variable {P : Program} {n : Nat} {K : Env → World → Prop} {ops : Array Oper} {j : Nat} {e : Env} {w : World}
theorem RG.cat {t : TypeId} {s u : Str} (h : binAt n ops j e = some (.add, t, .string (bs s), .string (bs u))) (hl : s.length + u.length ≤ 9000000000000000000)
    (H : RG P n K ops (j + 1) (putE e (opAt ops j).dst (.string (bs (s ++ u)))) w) : RG P n K ops j e w :=
  have h1 := run_bin (P := P) (w := w) h (fun _ _ => run_cat hl w)
  RG.val h1.1 h1.2 H
theorem RG.tagEq {t : TypeId} {x y : Tag} (h : binAt n ops j e = some (.eql, t, .agg #[.string (bs x.key), .string (bs x.val)], .agg #[.string (bs y.key), .string (bs y.val)])) (ht : tagB P t = true)
    (H : RG P n K ops (j + 1) (putE e (opAt ops j).dst (.bool (x == y))) w) : RG P n K ops j e w :=
  have h1 := run_bin (P := P) (w := w) h (fun _ _ => run_tagEq ht w)
  RG.val h1.1 (by rw [tag_beq]; exact h1.2) H
theorem RG.tagNe {t : TypeId} {x y : Tag} (h : binAt n ops j e = some (.neq, t, .agg #[.string (bs x.key), .string (bs x.val)], .agg #[.string (bs y.key), .string (bs y.val)])) (ht : tagB P t = true)
    (H : RG P n K ops (j + 1) (putE e (opAt ops j).dst (.bool (!(x == y)))) w) : RG P n K ops j e w :=
  have h1 := run_bin (P := P) (w := w) h (fun _ _ => run_tagNe ht w)
  RG.val h1.1 (by rw [tag_beq]; exact h1.2) H
theorem RG.rowNe {t : TypeId} {x y : Row} (h : binAt n ops j e = some (.neq, t, .agg #[.int .i64 x.t, .int .i64 x.v], .agg #[.int .i64 y.t, .int .i64 y.v])) (ht : rowB P t = true)
    (H : RG P n K ops (j + 1) (putE e (opAt ops j).dst (.bool (!(x == y)))) w) : RG P n K ops j e w :=
  have h1 := run_bin (P := P) (w := w) h (fun _ _ => run_rowNe ht w)
  RG.val h1.1 (by rw [row_beq]; exact h1.2) H
theorem RG.smpNe {t : TypeId} {x y : Smp} (h : binAt n ops j e = some (.neq, t, .agg #[.int .i64 x.id, .int .i64 x.row.t, .int .i64 x.row.v], .agg #[.int .i64 y.id, .int .i64 y.row.t, .int .i64 y.row.v])) (ht : smpB P t = true)
    (H : RG P n K ops (j + 1) (putE e (opAt ops j).dst (.bool (!(x == y)))) w) : RG P n K ops j e w :=
  have h1 := run_bin (P := P) (w := w) h (fun _ _ => run_smpNe ht w)
  RG.val h1.1 (by rw [smp_beq]; exact h1.2) H
theorem RG.rem {t : TypeId} {k : IntKind} {a b : Int} (h : binAt n ops j e = some (.rem, t, .int k a, .int k b)) (hb : b ≠ 0)
    (H : RG P n K ops (j + 1) (putE e (opAt ops j).dst (.int k (a.tmod b))) w) : RG P n K ops j e w :=
  have h1 := run_bin (P := P) (w := w) h (fun _ _ => run_rem hb w)
  RG.val h1.1 h1.2 H
theorem RG.quo {t : TypeId} {a b : Int} (h : binAt n ops j e = some (.quo, t, .int .i64 a, .int .i64 b)) (hb : b ≠ 0) (hr : -9223372036854775808 ≤ a.tdiv b ∧ a.tdiv b ≤ 9223372036854775807)
    (H : RG P n K ops (j + 1) (putE e (opAt ops j).dst (.int .i64 (a.tdiv b))) w) : RG P n K ops j e w :=
  have h1 := run_bin (P := P) (w := w) h (fun _ _ => run_quo hb hr w)
  RG.val h1.1 h1.2 H
theorem RG.sidx {t : TypeId} {s : Str} {k : IntKind} {i : Int} {x : UInt8} (i' : Nat) (h : sidxAt n ops j e = some (t, .string (bs s), .int k i)) (ht : undB P t = true) (hi : i = (i' : Int)) (hx : s[i']? = some x)
    (H : RG P n K ops (j + 1) (putE e (opAt ops j).dst (.int .u8 (x.toNat : Int))) w) : RG P n K ops j e w :=
  have h1 := run_sidxAt h (run_sidx i' ht hi hx w)
  RG.val h1.1 h1.2 H
theorem RG.ssub {t : TypeId} {s : Str} {lo hi : Option Value} (l h' : Nat) (h : sliAt n ops j e = some (t, .string (bs s), lo, hi)) (ht : undB P t = true) (hlo : bnd lo 0 l) (hhi : bnd hi s.length h') (hlh : l ≤ h') (hh : h' ≤ s.length)
    (H : RG P n K ops (j + 1) (putE e (opAt ops j).dst (.string (bs ((s.take h').drop l)))) w) : RG P n K ops j e w :=
  have h1 := run_sliAt h (run_ssub ht hlo hhi hlh hh w)
  RG.val h1.1 h1.2 H
theorem RG.sub {α : Type} [Rep α] {F : Nat → Prop} {xs : List α} {t : TypeId} {a : Option Addr} {len cap : Nat} {lo hi : Option Value} (hr : RepS w F a len cap xs) (l h' : Nat) (h : sliAt n ops j e = some (t, .slice a len cap, lo, hi)) (ht : sliB P t (Rep.sz α) = true) (hlo : bnd lo 0 l) (hhi : bnd hi len h') (hlh : l ≤ h') (hh : h' ≤ len)
    (H : ∀ a' c', RepS w F a' (h' - l) c' ((xs.take h').drop l) → RG P n K ops (j + 1) (putE e (opAt ops j).dst (.slice a' (h' - l) c')) w) : RG P n K ops j e w :=
  have h1 := run_sliAt h (run_sub ht hlo hhi hlh (Nat.le_trans hh hr.le) w)
  RG.val h1.1 h1.2 (H _ _ (hr.sub hlh hh))
end
section
variable {P : Program} {S : Nat → Prop} {n m : Nat} {L : Env → World → Prop} {ops : Array Oper} {l : List Nat} {e : Env} {w : World}
def gB (n m : Nat) (ops : Array Oper) (l : List Nat) (i : Nat) : Bool := stepB n m ops l i && Region.free .any ops (lst ops.size l) i
theorem GA.det' {i : Nat} {v : Value} (hb : gB n m ops l i = true) (hy : ∀ w1 : World, goAt n ops i e = true ∧ (execOp (ev e) (opAt ops i)).run P w1 = .ok (.value v) w1) (H : GA P S n m L ops (i :: l) (putE e (opAt ops i).dst v) w) : GA P S n m L ops l e w :=
  GA.det (by unfold gB at hb; rw [hb, (hy w).1]; rfl) (fun w1 _ => (hy w1).2) H
theorem GA.sub {α : Type} [Rep α] {F : Nat → Prop} {xs : List α} {i : Nat} {t : TypeId} {a : Option Addr} {len cap : Nat} {lo hi : Option Value} (hb : gB n m ops l i = true) (hr : RepS w F a len cap xs) (l' h' : Nat) (h : sliAt n ops i e = some (t, .slice a len cap, lo, hi)) (ht : sliB P t (Rep.sz α) = true) (hlo : bnd lo 0 l') (hhi : bnd hi len h') (hlh : l' ≤ h') (hh : h' ≤ len)
    (H : ∀ a' c', RepS w F a' (h' - l') c' ((xs.take h').drop l') → GA P S n m L ops (i :: l) (putE e (opAt ops i).dst (.slice a' (h' - l') c')) w) : GA P S n m L ops l e w :=
  GA.det' hb (fun w => run_sliAt h (run_sub ht hlo hhi hlh (Nat.le_trans hh hr.le) w)) (H _ _ (hr.sub hlh hh))
theorem GA.cat {i : Nat} {t : TypeId} {s u : Str} (hb : gB n m ops l i = true) (h : binAt n ops i e = some (.add, t, .string (bs s), .string (bs u))) (hl : s.length + u.length ≤ 9000000000000000000)
    (H : GA P S n m L ops (i :: l) (putE e (opAt ops i).dst (.string (bs (s ++ u)))) w) : GA P S n m L ops l e w :=
  GA.det' hb (fun w => run_bin h (fun _ _ => run_cat hl w)) H
theorem GA.tagEq {i : Nat} {t : TypeId} {x y : Tag} (hb : gB n m ops l i = true) (h : binAt n ops i e = some (.eql, t, .agg #[.string (bs x.key), .string (bs x.val)], .agg #[.string (bs y.key), .string (bs y.val)])) (ht : tagB P t = true)
    (H : GA P S n m L ops (i :: l) (putE e (opAt ops i).dst (.bool (x == y))) w) : GA P S n m L ops l e w :=
  GA.det' hb (fun w => by rw [tag_beq]; exact run_bin h (fun _ _ => run_tagEq ht w)) H
theorem GA.tagNe {i : Nat} {t : TypeId} {x y : Tag} (hb : gB n m ops l i = true) (h : binAt n ops i e = some (.neq, t, .agg #[.string (bs x.key), .string (bs x.val)], .agg #[.string (bs y.key), .string (bs y.val)])) (ht : tagB P t = true)
    (H : GA P S n m L ops (i :: l) (putE e (opAt ops i).dst (.bool (!(x == y)))) w) : GA P S n m L ops l e w :=
  GA.det' hb (fun w => by rw [tag_beq]; exact run_bin h (fun _ _ => run_tagNe ht w)) H
theorem GA.rowNe {i : Nat} {t : TypeId} {x y : Row} (hb : gB n m ops l i = true) (h : binAt n ops i e = some (.neq, t, .agg #[.int .i64 x.t, .int .i64 x.v], .agg #[.int .i64 y.t, .int .i64 y.v])) (ht : rowB P t = true)
    (H : GA P S n m L ops (i :: l) (putE e (opAt ops i).dst (.bool (!(x == y)))) w) : GA P S n m L ops l e w :=
  GA.det' hb (fun w => by rw [row_beq]; exact run_bin h (fun _ _ => run_rowNe ht w)) H
theorem GA.smpNe {i : Nat} {t : TypeId} {x y : Smp} (hb : gB n m ops l i = true) (h : binAt n ops i e = some (.neq, t, .agg #[.int .i64 x.id, .int .i64 x.row.t, .int .i64 x.row.v], .agg #[.int .i64 y.id, .int .i64 y.row.t, .int .i64 y.row.v])) (ht : smpB P t = true)
    (H : GA P S n m L ops (i :: l) (putE e (opAt ops i).dst (.bool (!(x == y)))) w) : GA P S n m L ops l e w :=
  GA.det' hb (fun w => by rw [smp_beq]; exact run_bin h (fun _ _ => run_smpNe ht w)) H
theorem GA.rem {i : Nat} {t : TypeId} {k : IntKind} {a b : Int} (hb : gB n m ops l i = true) (h : binAt n ops i e = some (.rem, t, .int k a, .int k b)) (hb0 : b ≠ 0)
    (H : GA P S n m L ops (i :: l) (putE e (opAt ops i).dst (.int k (a.tmod b))) w) : GA P S n m L ops l e w :=
  GA.det' hb (fun w => run_bin h (fun _ _ => run_rem hb0 w)) H
theorem GA.sidx {i : Nat} {t : TypeId} {s : Str} {k : IntKind} {z : Int} {x : UInt8} (hb : gB n m ops l i = true) (i' : Nat) (h : sidxAt n ops i e = some (t, .string (bs s), .int k z)) (ht : undB P t = true) (hi : z = (i' : Int)) (hx : s[i']? = some x)
    (H : GA P S n m L ops (i :: l) (putE e (opAt ops i).dst (.int .u8 (x.toNat : Int))) w) : GA P S n m L ops l e w :=
  GA.det' hb (fun w => run_sidxAt h (run_sidx i' ht hi hx w)) H
theorem GA.ssub {i : Nat} {t : TypeId} {s : Str} {lo hi : Option Value} (hb : gB n m ops l i = true) (l' h' : Nat) (h : sliAt n ops i e = some (t, .string (bs s), lo, hi)) (ht : undB P t = true) (hlo : bnd lo 0 l') (hhi : bnd hi s.length h') (hlh : l' ≤ h') (hh : h' ≤ s.length)
    (H : GA P S n m L ops (i :: l) (putE e (opAt ops i).dst (.string (bs ((s.take h').drop l')))) w) : GA P S n m L ops l e w :=
  GA.det' hb (fun w => run_sliAt h (run_ssub ht hlo hhi hlh hh w)) H
end
end Go.Proofs.YtfnpaglcnmcnbaaGreat
