/- The listed variables: a world in which they read as listed, and what the walks take of them: the table of tens. Conditions: the rows' own. -/
import Derived.Test.YtfninflnngpchaaGreatDoorLxzLb
import Derived.Test.YtfninflnngpchaaGreatDoorRows
import Derived.LaidMore
import Derived.LaidLaws
import Derived.LaidHandle
import Derived.Stop.Joined
import Derived.Lib.LaidTab
set_option linter.unusedVariables false
set_option linter.unusedSimpArgs false
namespace Go.Proofs.YtfninflnngpchaaGreatDoor
theorem Yy (os:Os) (args:Array Value):laidMetH Tryz.prog Rows.fnExactLinesRunRow.laid (({ World.doorLaid Tryz.prog 72 os with heap:=(World.doorLaid Tryz.prog 72 os).heap.modify 1 (fun o=>match o with | .cells _ t fr=>.cells (Go.Pinned.utf8FirstZ.map (fun (n:Nat)=>Value.int .u8 n)).toArray t fr | o=>o) }:World).forCall (fun _ _=>0) ⟨#[],args,[]⟩).memory :=
 laidMetH_of_parts3 (fuel:=8) (laidMet_of_run' 8 AA AA) AA AA
theorem S2 (os:Os):(({ World.doorLaid Tryz.prog 72 os with heap:=(World.doorLaid Tryz.prog 72 os).heap.modify 1 (fun o=>match o with | .cells _ t fr=>.cells (Go.Pinned.utf8FirstZ.map (fun (n:Nat)=>Value.int .u8 n)).toArray t fr | o=>o) }:World).forCall (fun _ _=>0) ⟨#[],#[.string ByteArray.empty],[]⟩).Shaped Tryz.prog :=
 World.shaped_of_RefB AA AA
theorem W7 {W:World}(h:laidMetH Tryz.prog Rows.fnExactLinesRunRow.laid W):RepS W all (some ⟨5,0,none⟩) Em.length Em.length Em:=by
 rw [MakeChecks.laidMetH_plain _ _ _ AA] at h
 obtain ⟨ps,⟨g0,t0,cs0,f0,p0,q0,hg0,ht0,hv0,hd0,⟨g1,t1,cs1,f1,p1,q1,hg1,ht1,hv1,hd1,⟨g2,t2,cs2,f2,p2,q2,hg2,ht2,hv2,hd2,_,_⟩,_⟩,_⟩,_⟩:=h
 have e2:Tryz.prog.globalNamed "internal/strconv.uint64pow10" = some 5:=by kernel_rfl
 obtain rfl:=Option.some.inj (e2.symm.trans hg2)
 have e3:(Tryz.prog.globals[5]?).map (·.type)=some 249:=by kernel_rfl
 obtain rfl:=Option.some.inj (e3.symm.trans ht2)
 have hc:=Lib.cells_of_tab (zs:=Lib.pow10Tab) (k:=.u64) Tryz.underlying249 Tryz.underlying213 AA AA hd2
 have hv:W.var? Tryz.prog "internal/strconv.uint64pow10" = some (Lib.pow10Tab.map fun z=>Value.int .u64 z).toArray:=by
  rw [hv2,← hc]
 have h0:W.cell? ⟨5,0,none⟩=some (.int .u64 1):=by
  have:=World.var?_cell hg2 hv 0
  rw [this]
  rfl
 have hs:5< W.heap.size:=World.block_lt_of_cell? W _ h0
 refine ⟨rfl,Nat.le_refl _,by decide,fun _=>rfl,fun _=>trivial,fun i x hx=>?_⟩
 cases i with
 | succ i=>simp [Em] at hx
 | zero =>
   refine ⟨[.int .u64 1],⟨rfl,trivial,hv,hs⟩,fun k u hu=>?_⟩
   cases k with
   | succ k=>simp at hu
   | zero =>
     simp only [List.getElem?_cons_zero,Option.some.injEq] at hu
     subst hu
     exact h0
end Go.Proofs.YtfninflnngpchaaGreatDoor
