/- proofs; no conditions -/
import Derived.Test.YtcginoabkicdiaaGreatDzzMod20
import Derived.Test.YtcginoabkicdiaaGreatDzzDn
import Derived.Sort.Grow
import Derived.LoopN
open Go.Proofs.Tryz
set_option linter.unusedVariables false
set_option linter.unusedSimpArgs false
namespace Go.Proofs.YtcginoabkicdiaaGreat
theorem WG (x:ByteArray) (w:World):Calls Tryz.prog 208 #[.string x] w fun e w'=>e=.returned (.bool false)∧w'=w:=by
 go_enter func208,Tryz.ntmps208
 go_wp2
 go_ret
 exact ⟨by simp,rfl⟩
@[go_sem] theorem VQ (t:TypeId) (a b:ByteArray):binOp .gtr t (.string a) (.string b)=pure (.bool !(Op.bytesLess a.toList b.toList || a.toList==b.toList)):=by simp [binOp,Op.stringOp]
set_option maxHeartbeats 1000000 in
theorem Nq (x y:Str) (w:World):Calls Tryz.prog 167 #[.string (bs x),.string (bs y)] w fun e w'=>e=.returned (.int .i64 (EV x y))∧w'=w:=by
 have hc:∀ s W,Calls Tryz.prog 208 #[.string s] W _:=WG
 go_enter func167,Tryz.ntmps167
 go_wp2_with (go_at_call 208; refine (hc _ _).mono ?_; rintro e w' ⟨rfl,hw⟩; rw [hw])
 all_goals go_ret
 ·rename_i h
  exact ⟨congrArg (fun z=>Ending.returned (.int .i64 z)) (by rw [Bw,Bw] at h; have h2:Bh x y=true:=h; unfold EV; rw [if_pos h2]),rfl⟩
 ·rename_i h K a h3
  clear a
  exact ⟨congrArg (fun z=>Ending.returned (.int .i64 z)) (by
   rw [Bw,Bw] at h h3
   have h2:Bh x y=false:=h
   cases h4:Bh y x with
   | true=>unfold EV; rw [if_neg (by simp [h2]),if_pos h4]
   | false=>have:=H6 h2 h4; subst this; simp at h3),rfl⟩
 ·rename_i h h3
  exact ⟨congrArg (fun z=>Ending.returned (.int .i64 z)) (by
   rw [Bw,Bw] at h h3
   have h2:Bh x y=false:=h
   have h5:x=y:=by simpa using h3
   subst h5
   unfold EV; rw [if_neg (by simp [h2]),if_neg (by simp [h2])]),rfl⟩
set_option maxHeartbeats 1000000 in
theorem pI (b o c:Nat) (x y:Int) (w:World) (h0:w.cell? ⟨b,o,none⟩=some (.int .i64 x)) (h1:w.cell? ⟨b,o+1,none⟩=some (.int .i64 y)) :
 Calls Tryz.prog 166 #[.slice (some ⟨b,o,none⟩) 2 c] w fun e w'=>e=.returned (.int .i64 (orF [x,y]))∧w'=w:=by
 go_enter func166,Tryz.ntmps166
 go_wp2
 refine wp_loop_rounds 3 ?_
 rw [rounds_succ]
 go_wp2
 ·go_ret
  exact ⟨congrArg (fun z=>Ending.returned (.int .i64 z)) (by simp_all [orF]),rfl⟩
 ·rw [rounds_succ]
  go_wp2
  ·go_ret
   exact ⟨congrArg (fun z=>Ending.returned (.int .i64 z)) (by simp_all [orF]),rfl⟩
  ·rw [rounds_succ]
   go_wp2
   go_ret
   exact ⟨congrArg (fun z=>Ending.returned (.int .i64 z)) (by simp_all [orF]),rfl⟩
theorem Tv (w:World) (o1 o2 o3:Obj) (q:Nat):∃ q' os',(((w.alloc o1).alloc o2).drewN q).alloc o3=Sort.grow (w.drewN q') os':=⟨q,#[o1,o2,o3],by
 rw [Sort.alloc_eq_grow,Sort.alloc_eq_grow,Sort.alloc_eq_grow,Sort.grow_grow]
 show Sort.grow (Sort.grow (w.drewN q) (#[o1] ++ #[o2])) #[o3]=_
 rw [Sort.grow_grow]
 rfl⟩
set_option maxRecDepth 100000 in
theorem Zc (x y:Tag) (u v:Value) (w:World):Calls Tryz.prog 165 [.agg #[.string (bs x.key),.string (bs x.val),u],.agg #[.string (bs y.key),.string (bs y.val),v]].toArray w
 (Af fun r w'=>r=.int .i64 (orF [EV x.key y.key,EV x.val y.val])∧∃ q os',w'=Sort.grow (w.drewN q) os'):=by
 have hc:∀ (a b:Str) (W W0:World),Calls Tryz.prog 167 [.string (bs a),.string (bs b)].toArray W (Af fun r w'=>r=.int .i64 (EV a b)∧Dr W w'):=fun a b W _=>(Nq a b W).mono fun e w' ⟨h1,h2⟩=>⟨_,h1,rfl,0,h2⟩
 have hc2:∀ (a b:Str) (W:World),Calls Tryz.prog 167 [.string (bs a),.string (bs b)].toArray W (Af fun r w'=>r=.int .i64 (EV a b)∧w'=W):=fun a b W=>(Nq a b W).mono fun e w' ⟨h1,h2⟩=>⟨_,h1,rfl,h2⟩
 refine goT func165 ?_
 refine .s<|.g<|RG.VU (v:=.pointer (some ⟨w.heap.size,0,none⟩)) (o:=.cells #[.string (bs x.key),.string (bs x.val),u] 204) AA ?_
 generalize ho1:Obj.cells #[.string (bs x.key),.string (bs x.val),u] 204=o1
 refine RG.VU (v:=.pointer (some ⟨(w.alloc o1).heap.size,0,none⟩)) (o:=.cells #[.string (bs y.key),.string (bs y.val),v] 204) AA ?_
 have b1:Box (w.alloc o1) w.heap.size 204 [.string (bs x.key),.string (bs x.val),u]:=by rw [← ho1]; exact Box.new w 204 _
 have b2:Box ((w.alloc o1).alloc (.cells #[.string (bs y.key),.string (bs y.val),v] 204)) (w.alloc o1).heap.size 204 [.string (bs y.key),.string (bs y.val),v]:=Box.new _ 204 _
 generalize Obj.cells #[.string (bs y.key),.string (bs y.val),v] 204=o2 at b2 ⊢
 replace b1:=b1.ext (Ext.alloc _ o2)
 have hq:∀ o3 q,∃ q' os',(((w.alloc o1).alloc o2).drewN q).alloc o3=Sort.grow (w.drewN q') os':=fun o3 q=>Tv w o1 o2 o3 q
 generalize e1:w.heap.size=n1 at b1 ⊢
 generalize e2:(w.alloc o1).heap.size=n2 at b2 ⊢
 generalize (w.alloc o1).alloc o2=W at b1 b2 hq ⊢
 refine .r 1<|.d<|.s<|T.WE 13 AA fun w1 hx1=>?_
 refine GD.run [0,1] AA<|GD.KY (i:=2) (t':=9) (o:=0) (v:=.string (bs x.key)) (b1.ext hx1.ext) AA AA AA ?_
 refine GD.run [3,4] AA<|GD.KY (i:=5) (t':=9) (o:=0) (v:=.string (bs y.key)) (b2.ext hx1.ext) AA AA AA ?_
 refine GD.NQ (i:=6) (f:=167) (args:=[.string (bs x.key),.string (bs y.key)]) (v:=.int .i64 (EV x.key y.key)) AA (fun w2 _=>hc _ _ _ w) ?_
 refine GD.run [7,8] AA<|GD.KY (i:=9) (t':=9) (o:=1) (v:=.string (bs x.val)) (b1.ext hx1.ext) AA AA AA ?_
 refine GD.run [10,11] AA<|GD.KY (i:=12) (t':=9) (o:=1) (v:=.string (bs y.val)) (b2.ext hx1.ext) AA AA AA ?_
 refine GD.done AA fun w2 hx2=>?_
 obtain ⟨q,rfl⟩:=hx1.trans hx2
 refine RG.call (f:=167) (args:=[.string (bs x.val),.string (bs y.val)]) AA (hc2 _ _ _) ?_
 rintro _ _ ⟨rfl,rfl⟩
 refine RG.VU (v:=.slice (some ⟨(W.drewN q).heap.size,0,none⟩) 2 2) (o:=.cells #[.int .i64 (EV x.key y.key),.int .i64 (EV x.val y.val)] 3) AA ?_
 have b3:Box ((W.drewN q).alloc (.cells #[.int .i64 (EV x.key y.key),.int .i64 (EV x.val y.val)] 3)) (W.drewN q).heap.size 3 [.int .i64 (EV x.key y.key),.int .i64 (EV x.val y.val)]:=Box.new _ 3 _
 refine RG.call (f:=166) (args:=[.slice (some ⟨(W.drewN q).heap.size,0,none⟩) 2 2]) (Q:=fun r w'=>r=.int .i64 (orF [EV x.key y.key,EV x.val y.val])∧w'=((W.drewN q).alloc (.cells #[.int .i64 (EV x.key y.key),.int .i64 (EV x.val y.val)] 3))) AA
  ((pI _ 0 2 _ _ _ (b3.has 0 [.int .i64 (EV x.key y.key),.int .i64 (EV x.val y.val)] rfl 0 _ rfl) (b3.has 0 [.int .i64 (EV x.key y.key),.int .i64 (EV x.val y.val)] rfl 1 _ rfl)).mono fun e w' ⟨h1,h2⟩=>⟨_,h1,rfl,h2⟩) ?_
 rintro _ _ ⟨rfl,rfl⟩
 exact .r 1<|.d<|T.rt func165 results165 (.int .i64 (orF [EV x.key y.key,EV x.val y.val])) ⟨rfl,hq _ _⟩
end Go.Proofs.YtcginoabkicdiaaGreat
