/- strings.Join joins texts: the shelf's contract at this program. Conditions: the texts' lengths. -/
import Derived.Test.YtckdhcbbgmiccaaGreatWyzMem
import Derived.Shelf.Lays
import Derived.Shelf.Strings.OnBuilder
set_option linter.unusedVariables false
set_option linter.unusedSimpArgs false
namespace Go.Proofs.YtckdhcbbgmiccaaGreat
def Vz:Shelf.Ren where
 f := fun x => match x with
   | 156=>138
   | 165=>166
   | 166=>167
   | 169=>168
   | 240=>188
   | 241=>189
   | 276=>198
   | 277=>199
   | n=>n
 t := fun x => match x with
   | 0=>0
   | 3=>3
   | 4=>4
   | 5=>5
   | 9=>9
   | 20=>20
   | 31=>167
   | 37=>22
   | 70=>194
   | 72=>196
   | 75=>199
   | 76=>200
   | 80=>202
   | 127=>219
   | 164=>229
   | n=>n
 g:=fun x=>x
theorem UM:Lays.n156 Tryz.prog Vz where
 mixed:=by kernel_rfl
 f156:=by kernel_rfl
 f165:=by kernel_rfl
 f166:=by kernel_rfl
 f169:=by kernel_rfl
 f240:=by kernel_rfl
 f241:=by kernel_rfl
 f276:=by kernel_rfl
 f277:=by kernel_rfl
 t0:=Tryz.underlying0
 a0:=Tryz.isAgg0
 z0:=Tryz.sizeOf0
 v0:=Tryz.zeroValue0
 t3:=Tryz.underlying3
 a3:=Tryz.isAgg3
 z3:=Tryz.sizeOf3
 v3:=Tryz.zeroValue3
 t4:=Tryz.underlying4
 a4:=Tryz.isAgg4
 z4:=Tryz.sizeOf4
 v4:=Tryz.zeroValue4
 t9:=Tryz.underlying9
 a9:=Tryz.isAgg9
 z9:=Tryz.sizeOf9
 v9:=Tryz.zeroValue9
 t20:=Tryz.underlying20
 a20:=Tryz.isAgg20
 z20:=Tryz.sizeOf20
 v20:=Tryz.zeroValue20
 t31:=Tryz.underlying167
 a31:=Tryz.isAgg167
 z31:=Tryz.sizeOf167
 v31:=Tryz.zeroValue167
 t37:=Tryz.underlying22
 a37:=Tryz.isAgg22
 z37:=Tryz.sizeOf22
 v37:=Tryz.zeroValue22
 t70:=Tryz.underlying194
 a70:=Tryz.isAgg194
 z70:=Tryz.sizeOf194
 v70:=Tryz.zeroValue194
 t72:=Tryz.underlying196
 a72:=Tryz.isAgg196
 z72:=Tryz.sizeOf196
 v72:=Tryz.zeroValue196
 t75:=Tryz.underlying199
 a75:=Tryz.isAgg199
 z75:=Tryz.sizeOf199
 v75:=Tryz.zeroValue199
 t76:=Tryz.underlying200
 a76:=Tryz.isAgg200
 z76:=Tryz.sizeOf200
 v76:=Tryz.zeroValue200
 t127:=Tryz.underlying219
 a127:=Tryz.isAgg219
 z127:=Tryz.sizeOf219
 v127:=Tryz.zeroValue219
 t164:=Tryz.underlying229
 a164:=Tryz.isAgg229
 z164:=Tryz.sizeOf229
 v164:=Tryz.zeroValue229
theorem Rj:Builder.Extra Tryz.prog Vz where
 sizeBuilder:=by kernel_rfl
 liesBuilder:=by kernel_rfl
 t5:=Tryz.underlying5
 a5:=Tryz.isAgg5
 z5:=Tryz.sizeOf5
 v5:=Tryz.zeroValue5
 infoByte:=by kernel_rfl
 cellsByte:=by kernel_rfl
 sizeByte:=by kernel_rfl
 neB5:=by decide
variable {w:World} {F:Nat→Prop} {a1:Option Addr} {n1 c1:Nat}
theorem Kr (xs:List Txt) (sep:Str) (h1:RepS w F a1 n1 c1 xs) (hl:(Lib.join (xs.map Txt.s) sep).length≤100000000000) (hn:xs.length≤1000000) :
 Calls Tryz.prog 138 [.slice a1 n1 c1,.string (bs sep)].toArray w (Al fun rv w'=>rv=.string (bs (Lib.join (xs.map Txt.s) sep))∧Ext w w'):=by
 obtain rfl:=h1.len
 by_cases h0:xs.length=0
 ·have:=List.length_eq_zero_iff.1 h0
  subst this
  refine (Any.strings_Join_none UM Rj a1 c1 (bs sep) w).mono ?_
  rintro e w' ⟨rfl,rfl⟩
  exact ⟨_,rfl,rfl,Ext.refl _⟩
 ·have ha:=h1.addr AB
  have hx:(xs.map fun x=>bs x.s).length=xs.length:=List.length_map _
  have hm:(xs.map fun x=>bs x.s).map (fun x=>x.data.toList)=xs.map Txt.s:=by rw [List.map_map]; rfl
  have hc:∀ (j:Nat) x,(xs.map fun x=>bs x.s)[j]? = some x→w.cell? ⟨blk a1,off a1+j,none⟩=some (.string x):=fun j x hj=>by
   rw [List.getElem?_map] at hj
   cases hy:xs[j]? with
   | none=>rw [hy] at hj; cases hj
   | some y =>
     rw [hy] at hj
     simp only [Option.map_some,Option.some.injEq] at hj
     subst hj
     obtain ⟨cs,hr,hh⟩:=h1.elem j y hy
     have hr2:cs=[.string (bs y.s)]:=hr
     subst hr2
     have:=hh 0 (.string (bs y.s)) rfl
     have e:Rep.sz Txt=1:=rfl
     rw [e,Nat.mul_one] at this
     exact this
  have hb:blk a1< w.heap.size:=by
   obtain ⟨y,ys,hy⟩:∃ y ys,xs=y::ys:=by
    cases xs with
    | nil=>exact absurd rfl h0
    | cons y ys=>exact ⟨y,ys,rfl⟩
   have h:=hc 0 (bs y.s) (by rw [hy]; rfl)
   exact World.block_lt_of_cell? w _ h
  have hj:=Any.strings_Join UM Rj (blk a1) (off a1) c1 (xs.map fun x=>bs x.s) (bs sep) w hc hb (by rw [hx]; omega) (by rw [hx]; exact h1.le) (by rw [hm,O2]; omega)
  rw [hx,hm,O2] at hj
  rw [ha]
  refine hj.mono ?_
  rintro e w' ⟨rfl,hw⟩
  exact ⟨_,rfl,rfl,⟨hw.os,hw.tape,hw.output,hw.size,fun k hk _=>hw.block k hk⟩⟩
end Go.Proofs.YtckdhcbbgmiccaaGreat
