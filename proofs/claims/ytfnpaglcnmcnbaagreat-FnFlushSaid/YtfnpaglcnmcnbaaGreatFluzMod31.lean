/- What asking says: plain laws. -/
import Derived.Test.YtfnpaglcnmcnbaaGreatFluzW31
set_option linter.unusedVariables false
set_option linter.unusedSimpArgs false
namespace Go.Proofs.YtfnpaglcnmcnbaaGreat
theorem rowsI_cut {s : Sto} (h : SD s) (hk : storeOk s = true) {id : Int} {p : List Tag → Bool} (hid : id ∈ findP p 0 s.idx.names) (lo hi : Int) : cutI (rowsI s id) lo hi = cutB (rowsOf s id) lo hi := by
  have := findP_in hid
  rw [rowsI_in hk this.1 this.2, cutI_rows h hk this.1 this.2]
def askInv (s : Sto) (f : List Cnd) (lo hi : Int) (i k : Nat) : Prop := ((findP (fitsI f) 0 s.idx.names).drop i).flatMap (hit1 s lo hi) = (askS s f lo hi).drop k
theorem askInv.start {s : Sto} {f : List Cnd} {lo hi : Int} (h : SD s) (hk : storeOk s = true) : askInv s f lo hi 0 0 := by
  unfold askInv
  rw [askS_I h hk]
  rfl
theorem askInv.skip {s : Sto} {f : List Cnd} {lo hi : Int} {i k : Nat} {id : Int} (h : askInv s f lo hi i k) (hs : SD s) (hk : storeOk s = true) (hd : (findP (fitsI f) 0 s.idx.names).drop i = id :: (findP (fitsI f) 0 s.idx.names).drop (i + 1)) (hl : ((cutI (rowsI s id) lo hi).length : Int) = 0) : askInv s f lo hi (i + 1) k := by
  have hm : id ∈ findP (fitsI f) 0 s.idx.names := List.mem_of_mem_drop (by rw [hd]; simp)
  rw [rowsI_cut hs hk hm] at hl
  unfold askInv at h ⊢
  rw [hd, List.flatMap_cons] at h
  have e : hit1 s lo hi id = [] := by unfold hit1; rw [if_neg (by omega)]
  rw [e, List.nil_append] at h
  exact h
theorem askInv.fin {s : Sto} {f : List Cnd} {lo hi : Int} {i k : Nat} (h : askInv s f lo hi i k) (hi2 : (findP (fitsI f) 0 s.idx.names).length ≤ i) : (askS s f lo hi).length ≤ k := by
  unfold askInv at h
  rw [drop_end hi2] at h
  have := congrArg List.length h
  simp only [List.flatMap_nil, List.length_nil, List.length_drop] at this
  omega
end Go.Proofs.YtfnpaglcnmcnbaaGreat
