/- Short forms. No conditions. -/
import Derived.KernelRfl
import Derived.Calls
theorem Go.AA.{u} {α : Sort u} {a b : α} (h : a = b := by kernel_rfl) : a = b := h
theorem Go.AB {p : Prop} (h : p := by omega) : p := h
theorem Go.AD {p : Prop} (h : p := by simp) : p := h
theorem Go.AE {p : Prop} (h : p := by decide) : p := h
theorem Go.AF {p : Prop} (h : p := by rfl) : p := h
theorem Go.AG {a b : Bool} (h : a = b) : Value.bool a = Value.bool b := congrArg Value.bool h
@[reducible] def Go.AH : Value := .slice none 0 0
theorem Go.AI.{u} {α : Type u} {a : α} {l : List α} : a ∈ a :: l := .head _
theorem Go.AJ.{u} {α : Type u} {b0 a : α} {l : List α} : a ∈ b0 :: a :: l := .tail _ (.head _)
theorem Go.AK.{u} {α : Type u} {b0 b1 a : α} {l : List α} : a ∈ b0 :: b1 :: a :: l := .tail _ (.tail _ (.head _))
theorem Go.AL.{u} {α : Type u} {b0 b1 b2 a : α} {l : List α} : a ∈ b0 :: b1 :: b2 :: a :: l := .tail _ (.tail _ (.tail _ (.head _)))
theorem Go.AM.{u} {α : Type u} {b0 b1 b2 b3 a : α} {l : List α} : a ∈ b0 :: b1 :: b2 :: b3 :: a :: l := .tail _ (.tail _ (.tail _ (.tail _ (.head _))))
theorem Go.AN.{u} {α : Type u} {b0 b1 b2 b3 b4 a : α} {l : List α} : a ∈ b0 :: b1 :: b2 :: b3 :: b4 :: a :: l := .tail _ (.tail _ (.tail _ (.tail _ (.tail _ (.head _)))))
theorem Go.AO.{u} {α : Type u} {b0 b1 b2 b3 b4 b5 a : α} {l : List α} : a ∈ b0 :: b1 :: b2 :: b3 :: b4 :: b5 :: a :: l := .tail _ (.tail _ (.tail _ (.tail _ (.tail _ (.tail _ (.head _))))))
theorem Go.AP.{u} {α : Type u} {b0 b1 b2 b3 b4 b5 b6 a : α} {l : List α} : a ∈ b0 :: b1 :: b2 :: b3 :: b4 :: b5 :: b6 :: a :: l := .tail _ (.tail _ (.tail _ (.tail _ (.tail _ (.tail _ (.tail _ (.head _)))))))
theorem Go.AQ.{u} {α : Type u} {b0 b1 b2 b3 b4 b5 b6 b7 a : α} {l : List α} : a ∈ b0 :: b1 :: b2 :: b3 :: b4 :: b5 :: b6 :: b7 :: a :: l := .tail _ (.tail _ (.tail _ (.tail _ (.tail _ (.tail _ (.tail _ (.tail _ (.head _))))))))
theorem Go.AR.{u} {α : Type u} {b0 b1 b2 b3 b4 b5 b6 b7 b8 a : α} {l : List α} : a ∈ b0 :: b1 :: b2 :: b3 :: b4 :: b5 :: b6 :: b7 :: b8 :: a :: l := .tail _ (.tail _ (.tail _ (.tail _ (.tail _ (.tail _ (.tail _ (.tail _ (.tail _ (.head _)))))))))
theorem Go.AS.{u} {α : Type u} {b0 b1 b2 b3 b4 b5 b6 b7 b8 b9 a : α} {l : List α} : a ∈ b0 :: b1 :: b2 :: b3 :: b4 :: b5 :: b6 :: b7 :: b8 :: b9 :: a :: l := .tail _ (.tail _ (.tail _ (.tail _ (.tail _ (.tail _ (.tail _ (.tail _ (.tail _ (.tail _ (.head _))))))))))
theorem Go.AT.{u} {α : Type u} {b0 b1 b2 b3 b4 b5 b6 b7 b8 b9 b10 a : α} {l : List α} : a ∈ b0 :: b1 :: b2 :: b3 :: b4 :: b5 :: b6 :: b7 :: b8 :: b9 :: b10 :: a :: l := .tail _ (.tail _ (.tail _ (.tail _ (.tail _ (.tail _ (.tail _ (.tail _ (.tail _ (.tail _ (.tail _ (.head _)))))))))))
theorem Go.AU.{u} {α : Type u} {l : List α} {i : Nat} (h : i < l.length) : l[i]? = some l[i] := List.getElem?_eq_getElem h
theorem Go.AV.{u} {α : Type u} {l : List α} {i : Nat} {a : α} (e : l[i]? = some a) : a ∈ l := List.mem_of_getElem? e
theorem Go.AW (a b : Bool) : ((a && b) = true) = (a = true ∧ b = true) := Bool.and_eq_true a b
