/- strings.Join joins texts: the shelf's contract at this program. Conditions: the texts' lengths. -/
import Derived.Test.YtfninflnngpchaaGreatDoorLxzMem
import Derived.Shelf.Lays
import Derived.Shelf.Strings.OnBuilder
set_option linter.unusedVariables false
set_option linter.unusedSimpArgs false
namespace Go.Proofs.YtfninflnngpchaaGreatDoor
def ZI:Shelf.Ren where
 f := fun x => match x with
   | 156=>38
   | 165=>82
   | 166=>83
   | 169=>84
   | 240=>143
   | 241=>144
   | 276=>192
   | 277=>193
   | n=>n
 t := fun x => match x with
   | 0=>0
   | 3=>3
   | 4=>4
   | 5=>5
   | 9=>9
   | 20=>20
   | 31=>39
   | 37=>50
   | 70=>123
   | 72=>125
   | 75=>119
   | 76=>120
   | 80=>127
   | 127=>176
   | 164=>218
   | n=>n
 g:=fun x=>x
theorem XK:Lays.n156 Tryz.prog ZI where
 mixed:=by kernel_rfl
 f156:=by kernel_rfl
 f165:=by kernel_rfl
 f166:=by kernel_rfl
 f169:=by kernel_rfl
 f240:=by kernel_rfl
 f241:=by kernel_rfl
 f276:=by kernel_rfl
 f277:=by kernel_rfl
 t0:=Tryz.underlying0
 a0:=Tryz.isAgg0
 z0:=Tryz.sizeOf0
 v0:=Tryz.zeroValue0
 t3:=Tryz.underlying3
 a3:=Tryz.isAgg3
 z3:=Tryz.sizeOf3
 v3:=Tryz.zeroValue3
 t4:=Tryz.underlying4
 a4:=Tryz.isAgg4
 z4:=Tryz.sizeOf4
 v4:=Tryz.zeroValue4
 t9:=Tryz.underlying9
 a9:=Tryz.isAgg9
 z9:=Tryz.sizeOf9
 v9:=Tryz.zeroValue9
 t20:=Tryz.underlying20
 a20:=Tryz.isAgg20
 z20:=Tryz.sizeOf20
 v20:=Tryz.zeroValue20
 t31:=Tryz.underlying39
 a31:=Tryz.isAgg39
 z31:=Tryz.sizeOf39
 v31:=Tryz.zeroValue39
 t37:=Tryz.underlying50
 a37:=Tryz.isAgg50
 z37:=Tryz.sizeOf50
 v37:=Tryz.zeroValue50
 t70:=Tryz.underlying123
 a70:=Tryz.isAgg123
 z70:=Tryz.sizeOf123
 v70:=Tryz.zeroValue123
 t72:=Tryz.underlying125
 a72:=Tryz.isAgg125
 z72:=Tryz.sizeOf125
 v72:=Tryz.zeroValue125
 t75:=Tryz.underlying119
 a75:=Tryz.isAgg119
 z75:=Tryz.sizeOf119
 v75:=Tryz.zeroValue119
 t76:=Tryz.underlying120
 a76:=Tryz.isAgg120
 z76:=Tryz.sizeOf120
 v76:=Tryz.zeroValue120
 t127:=Tryz.underlying176
 a127:=Tryz.isAgg176
 z127:=Tryz.sizeOf176
 v127:=Tryz.zeroValue176
 t164:=Tryz.underlying218
 a164:=Tryz.isAgg218
 z164:=Tryz.sizeOf218
 v164:=Tryz.zeroValue218
theorem T7:Builder.Extra Tryz.prog ZI where
 sizeBuilder:=by kernel_rfl
 liesBuilder:=by kernel_rfl
 t5:=Tryz.underlying5
 a5:=Tryz.isAgg5
 z5:=Tryz.sizeOf5
 v5:=Tryz.zeroValue5
 infoByte:=by kernel_rfl
 cellsByte:=by kernel_rfl
 sizeByte:=by kernel_rfl
 neB5:=by decide
variable {w:World} {F:Nat→Prop} {a1:Option Addr} {n1 c1:Nat}
theorem FV (xs:List Txt) (sep:Str) (h1:RepS w F a1 n1 c1 xs) (hl:(Lib.join (xs.map Txt.s) sep).length≤100000000000) (hn:xs.length≤1000000) :
 Calls Tryz.prog 38 [.slice a1 n1 c1,.string (bs sep)].toArray w (Am fun rv w'=>rv=.string (bs (Lib.join (xs.map Txt.s) sep))∧Ext w w'):=by
 obtain rfl:=h1.len
 by_cases h0:xs.length=0
 ·have:=List.length_eq_zero_iff.1 h0
  subst this
  refine (Any.strings_Join_none XK T7 a1 c1 (bs sep) w).mono ?_
  rintro e w' ⟨rfl,rfl⟩
  exact ⟨_,rfl,rfl,Ext.refl _⟩
 ·have ha:=h1.addr AB
  have hx:(xs.map fun x=>bs x.s).length=xs.length:=List.length_map _
  have hm:(xs.map fun x=>bs x.s).map (fun x=>x.data.toList)=xs.map Txt.s:=by rw [List.map_map]; rfl
  have hc:∀ (j:Nat) x,(xs.map fun x=>bs x.s)[j]? = some x→w.cell? ⟨blk a1,off a1+j,none⟩=some (.string x):=fun j x hj=>by
   rw [List.getElem?_map] at hj
   cases hy:xs[j]? with
   | none=>rw [hy] at hj; cases hj
   | some y =>
     rw [hy] at hj
     simp only [Option.map_some,Option.some.injEq] at hj
     subst hj
     obtain ⟨cs,hr,hh⟩:=h1.elem j y hy
     have hr2:cs=[.string (bs y.s)]:=hr
     subst hr2
     have:=hh 0 (.string (bs y.s)) rfl
     have e:Rep.sz Txt=1:=rfl
     rw [e,Nat.mul_one] at this
     exact this
  have hb:blk a1< w.heap.size:=by
   obtain ⟨y,ys,hy⟩:∃ y ys,xs=y::ys:=by
    cases xs with
    | nil=>exact absurd rfl h0
    | cons y ys=>exact ⟨y,ys,rfl⟩
   have h:=hc 0 (bs y.s) (by rw [hy]; rfl)
   exact World.block_lt_of_cell? w _ h
  have hj:=Any.strings_Join XK T7 (blk a1) (off a1) c1 (xs.map fun x=>bs x.s) (bs sep) w hc hb (by rw [hx]; omega) (by rw [hx]; exact h1.le) (by rw [hm,Eo]; omega)
  rw [hx,hm,Eo] at hj
  rw [ha]
  refine hj.mono ?_
  rintro e w' ⟨rfl,hw⟩
  exact ⟨_,rfl,rfl,⟨hw.os,hw.tape,hw.output,hw.size,fun k hk _=>hw.block k hk⟩⟩
end Go.Proofs.YtfninflnngpchaaGreatDoor
