/- A row made with a number of elements that is not written: make([]T, n). No conditions: over any program. -/
import Derived.Test.YtcginoabkicdiaaGreatDzzMem
import Derived.Laws.MakeOwn
set_option linter.unusedVariables false
set_option linter.unusedSimpArgs false
namespace Go.Proofs.YtcginoabkicdiaaGreat
def Ij (P:Program) (n:Nat) (ops:Array Oper) (j:Nat) (e:Env):Option (TypeId × Int × Int) :=
 bif CC n ops j e then
  match (Ad ops j).op with
  | .makeSlice t l c => match P.underlying t, ev e l, ev e c with
    | some (.slice el),.int .i64 a,.int .i64 b=>some (el,a,b)
    | _,_,_=>none
  | _=>none
 else none
def M4 (P:Program) (el:TypeId):Option (List Value × Nat × Nat) :=
 match P.info? el with
 | some i => match i.zero with
   | some z=>some (z.cells.toList,i.size,i.bytes)
   | none=>none
 | none=>none
def mkE (o:Option (TypeId × Int × Int)):TypeId:=match o with | some p=>p.1 | none=>0
def zrB (o:Option (List Value × Nat × Nat)):Nat:=match o with | some p=>p.2.2 | none=>0
theorem V4 (zs:List Value) (k m i u:Nat) (hk:k=zs.length) (hi:i< m) (hu:u< k):(madeCells zs.toArray (m * k))[i * k+u]? = zs[u]? := by
 subst hk
 have h1:i * zs.length+u< m * zs.length:=by
  have:(i+1) * zs.length≤m * zs.length:=Nat.mul_le_mul_right _ hi
  rw [Nat.succ_mul] at this
  omega
 have h2:(i * zs.length+u) % zs.length=u:=by
  rw [Nat.add_comm,Nat.add_mul_mod_self_right,Nat.mod_eq_of_lt hu]
 simp [madeCells,h1,h2,hu]
section
variable {P:Program} {n:Nat} {K:Env→World→Prop} {ops:Array Oper} {j:Nat} {e:Env}
variable {κ:Cx} {ρ:Option Rg} {Φ:List Ob} {Ψ:List Fz} {Θ:List (Nat × Nat × List Value)} {w:World} {α:Type} [Rep α]
theorem run_mk {el:TypeId}{m sz by_:Nat}{zs:List Value}(h:Ij P n ops j e=some (el,(m:Int),(m:Int))) (hz:M4 P el=some (zs,sz,by_)) (hb:by_ * m≤281474976710656) (hm:m≤9223372036854775807) (w:World) :
 CC n ops j e=true∧(execOp (ev e) (Ad ops j)).run P w=.ok (.value (.slice (some ⟨w.heap.size,0,none⟩) m m)) (w.alloc (.cells (madeCells zs.toArray (m * sz)) el)):=by
 obtain ⟨hg,h⟩:=CG h
 refine ⟨hg,?_⟩
 unfold M4 at hz
 split at hz
 ·rename_i i hi
  split at hz
  ·rename_i z hzz
   simp only [Option.some.injEq,Prod.mk.injEq] at hz
   obtain ⟨rfl,rfl,rfl⟩:=hz
   split at h
   ·rename_i t l c hop
    split at h
    ·rename_i el' a b hu hl hc
     simp only [Option.some.injEq,Prod.mk.injEq] at h
     obtain ⟨rfl,rfl,rfl⟩:=h
     simp only [execOp,hop,hl,hc]
     have hb':(i.bytes:Int) * (m:Int)≤281474976710656:=by
      have h:((i.bytes * m:Nat):Int)≤281474976710656:=by omega
      rwa [Int.natCast_mul] at h
     have hr:=run_make (P:=P) w t el' i z hu hi hzz .i64 .i64 m m AB (Int.le_refl _) hb' AB
     simp only [Int.toNat_natCast] at hr
     rw [show z.cells.toList.toArray=z.cells by simp]
     exact AZ hr
    ·cases h
   ·cases h
  ·cases hz
 ·cases hz
theorem Own.made {t:TypeId}{F:Nat→Prop}{m:Nat}{z:α}{zs:List Value}(hz:∀ w F,Rep.rep w F z zs) (hm:m≤maxLen) :
 Own (w.alloc (.cells (madeCells zs.toArray (m * Rep.sz α)) t)) w.heap.size t F m m (List.replicate m z):=by
 have hl:zs.length=Rep.sz α:=Rep.len (hz w F)
 have hnew:(w.alloc (.cells (madeCells zs.toArray (m * Rep.sz α)) t)).heap[w.heap.size]? = some (.cells (madeCells zs.toArray (m * Rep.sz α)) t (0,0)):=by
  show (w.heap.push _)[w.heap.size]? = _
  simp
 refine ⟨by simp,Nat.le_refl _,hm,⟨_,hnew,size_madeCells _ _⟩,fun i x hi=>⟨zs,?_,fun u v hu=>?_⟩⟩
 ·rw [List.getElem?_replicate] at hi
  split at hi
  ·cases hi; exact hz _ _
  ·cases hi
 ·have hi2:i< m:=by simpa using (List.getElem?_eq_some_iff.1 hi).1
  have hu2:u< zs.length:=(List.getElem?_eq_some_iff.1 hu).1
  rw [add_lit]
  simp only [World.cell?,hnew]
  rw [V4 zs (Rep.sz α) m i u hl.symm hi2 AB]
  exact hu
theorem RG.Mk [Shp α] (g:Nat) (z:α) (m:Nat) (hf:∀ w F,∀ f∈Shp.facts z [],Fr.ok w F f) (Z:St κ ρ Φ Ψ Θ w)
 (H:∀ b w',St κ ρ (.own g b (mkE (Ij P n ops j e)) m (List.replicate m z)::Φ) Ψ Θ w'→RG P n K ops (j+1) (Ag e (Ad ops j).dst (.slice (some ⟨b,0,none⟩) m m)) w')
 (hb:m≤2000000:=by omega)
 (h:Ij P n ops j e=some (mkE (Ij P n ops j e),(m:Int),(m:Int)):=by kernel_rfl) (hz:M4 P (mkE (Ij P n ops j e))=some (Shp.cells z [],Rep.sz α,zrB (M4 P (mkE (Ij P n ops j e)))):=by kernel_rfl) (hy:Nat.ble (zrB (M4 P (mkE (Ij P n ops j e)))) 1000=true:=by kernel_rfl):RG P n K ops j e w:=by
 generalize mkE (Ij P n ops j e)=el at *
 generalize zrB (M4 P el)=by_ at *
 have hrep:∀ w F,Rep.rep w F z (Shp.cells z []):=fun w F=>Shp.un [] (hf w F)
 have hy2:=Nat.le_of_ble_eq_true hy
 have hb2:by_ * m≤281474976710656:=Nat.le_trans (Nat.mul_le_mul hy2 hb) AE
 have hr:=run_mk h hz hb2 AB w
 refine RG.val hr.1 hr.2 (H w.heap.size _ ?_)
 have ho:Own (w.alloc (.cells (madeCells (Shp.cells z []).toArray (m * Rep.sz α)) el)) w.heap.size el (nin (κ.g g) (w.heap.size::bl Φ)) m m (List.replicate m z):=Own.made hrep (by unfold maxLen; omega)
 refine Z.push (o:=.own g w.heap.size el m (List.replicate m z)) (Ext.alloc _ _) (Nat.le_refl _) ho.lt ⟨?_,Z.ch.size⟩
 show Own _ _ _ _ (List.replicate m z).length _ _
 rw [List.length_replicate]
 exact ho
end
end Go.Proofs.YtcginoabkicdiaaGreat
