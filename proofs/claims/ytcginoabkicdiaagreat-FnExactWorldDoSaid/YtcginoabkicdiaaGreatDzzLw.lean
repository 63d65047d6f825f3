/- The laws' calls, on data. No conditions. -/
import Derived.Test.YtcginoabkicdiaaGreatDzzDq
open Go.Proofs.Tryz
set_option linter.unusedVariables false
set_option linter.unusedSimpArgs false
namespace Go.Proofs.YtcginoabkicdiaaGreat
section
variable {w:World} {F:Nat→Prop} {x y:Wld} {e:Evt} {cs cs':List Value} {k:Int}
theorem ID (h:Rep.rep w all x cs) (h':Rep.rep w all y cs') (e:x=y):Calls Tryz.prog 9 [.agg cs.toArray,.agg cs'.toArray].toArray w (Af fun rv w'=>rv=.bool true∧Ext w w'):=by
 obtain ⟨a0,n0,c0,a1,n1,c1,a2,n2,c2,a3,n3,c3,a4,n4,c4,a5,n5,c5,a6,n6,c6,rfl,r0,r1,r2,r3,r4,r5,r6⟩:=h
 obtain ⟨b0,m0,d0,b1,m1,d1,b2,m2,d2,b3,m3,d3,b4,m4,d4,b5,m5,d5,b6,m6,d6,rfl,s0,s1,s2,s3,s4,s5,s6⟩:=h'
 exact tv (by rw [e]; exact AG (beq_self_eq_true _)) (MZ x y r0 r1 r2 r3 r4 r5 r6 s0 s1 s2 s3 s4 s5 s6)
theorem Kj (h:Rep.rep w all y cs) (p0:YA y k) (p1:1≤k) (p2:k+D8 y≤4611686018427387904):Calls Tryz.prog 13 [.agg cs.toArray,vI k].toArray w (Af fun rv w'=>rv=vI (k+D8 y)∧Ext w w'):=by
 obtain ⟨a0,n0,c0,a1,n1,c1,a2,n2,c2,a3,n3,c3,a4,n4,c4,a5,n5,c5,a6,n6,c6,rfl,r0,r1,r2,r3,r4,r5,r6⟩:=h
 exact KW y k r0 r1 r2 r3 r4 r5 r6 p0 p1 p2
theorem S6 (h:Rep.rep w all e cs) (h':Rep.rep w all e cs'):Calls Tryz.prog 20 [.agg cs.toArray,.agg cs'.toArray].toArray w (Af fun rv w'=>rv=.bool true∧Ext w w'):=by
 obtain ⟨a0,n0,c0,rfl,r0⟩:=h
 obtain ⟨b0,m0,d0,rfl,s0⟩:=h'
 exact tv (AG (beq_self_eq_true _)) (Ma e e r0 s0)
theorem Jg (h:Rep.rep w F x cs) (h':Rep.rep w F e cs') (hm:mWd x≤1048576):Calls Tryz.prog 16 [.agg cs.toArray,.agg cs'.toArray].toArray w (Af fun rv w'=>VS (fo F w.heap.size) w' (doX x e) rv∧Ext w w') :=
 VK h h' (wdl hm).2.2.2.2 (wdl hm).1.1.2.1
theorem Hm (h:Rep.rep w all x cs) (h':Rep.rep w all e cs') (hm:mWd x≤1048576) (he:e.name.length≤1100000):Calls Tryz.prog 19 [.agg cs.toArray,.agg cs'.toArray].toArray w (Af fun rv w'=>VD w.heap.size w' (doX x e) rv∧Ext w w'):=by
 obtain ⟨a0,n0,c0,a1,n1,c1,a2,n2,c2,a3,n3,c3,a4,n4,c4,a5,n5,c5,a6,n6,c6,rfl,r0,r1,r2,r3,r4,r5,r6⟩:=h
 obtain ⟨b0,m0,d0,rfl,s0⟩:=h'
 exact LD x e r0 r1 r2 r3 r4 r5 r6 s0 (wdl hm).2.2.2.1 (Yl hm) he
theorem FF (h:Rep.rep w all x cs) (hm:mWd x≤1048576):Calls Tryz.prog 17 [.agg cs.toArray].toArray w (Af fun rv w'=>VD w.heap.size w' x rv∧Ext w w'):=by
 obtain ⟨a0,n0,c0,a1,n1,c1,a2,n2,c2,a3,n3,c3,a4,n4,c4,a5,n5,c5,a6,n6,c6,rfl,r0,r1,r2,r3,r4,r5,r6⟩:=h
 exact Mp x r0 r1 r2 r3 r4 r5 r6 (wdl hm)
theorem D7 (h:Rep.rep w all e cs) (he:e.name.length≤1100000):Calls Tryz.prog 18 [.agg cs.toArray].toArray w (Af fun rv w'=>VD w.heap.size w' e rv∧Ext w w'):=by
 obtain ⟨b0,m0,d0,rfl,s0⟩:=h
 exact Mq e s0 he
theorem S7 (h:Rep.rep w all x cs) (p:WdB x):Calls Tryz.prog 14 [.agg cs.toArray,vI 1048576].toArray w (Af fun rv w'=>rv=vI (szI (mWd x) 1048576)∧Ext w w'):=by
 obtain ⟨a0,n0,c0,a1,n1,c1,a2,n2,c2,a3,n3,c3,a4,n4,c4,a5,n5,c5,a6,n6,c6,rfl,r0,r1,r2,r3,r4,r5,r6⟩:=h
 exact MP x 1048576 r0 r1 r2 r3 r4 r5 r6 p AB
theorem S8 {z:Int}(h:Rep.rep w all e cs) (p:EvB e) (hz:0≤z∧z≤1048576):Calls Tryz.prog 15 [.agg cs.toArray,vI z].toArray w (Af fun rv w'=>rv=vI (szI (mEv e) z)∧Ext w w'):=by
 obtain ⟨b0,m0,d0,rfl,s0⟩:=h
 exact MQ e z s0 p hz
end
theorem pY {e:Evt}(h:mEv e≤1048576):evZ e≤10000000:=by
 have h2:=VF e.name
 have h4:evZ e=nmZ e.name:=rfl
 have h5:mEv e=mNm e.name:=rfl
 omega
theorem KX {e:Evt}(h:mEv e≤1048576):e.name.length≤1100000:=by
 unfold mEv mNm mL at h
 omega
theorem Oo (w:Wld):0≤D8 w:=by have:=HS w.store; have:=HT w.disk; unfold D8; omega
theorem nb {a b:Int}(h:a=b):Value.bool (a != b)=.bool false:=by rw [h]; simp
theorem dl {a:Int}(h:¬ a< 0):Value.bool (decide (a< 0))=.bool false:=by rw [decide_eq_false h]
end Go.Proofs.YtcginoabkicdiaaGreat
namespace Go.Proofs.YtcginoabkicdiaaGreat
set_option maxRecDepth 100000
set_option maxHeartbeats 4000000
theorem G1 (x:Wld) (e:Evt){W:World}{a0:Option Addr}{n0 c0:Nat}(h0:RepS W all a0 n0 c0 x.store.idx.names){a1:Option Addr}{n1 c1:Nat}(h1:RepS W all a1 n1 c1 x.store.idx.AX){a2:Option Addr}{n2 c2:Nat}(h2:RepS W all a2 n2 c2 x.store.parts){a3:Option Addr}{n3 c3:Nat}(h3:RepS W all a3 n3 c3 x.store.mem){a4:Option Addr}{n4 c4:Nat}(h4:RepS W all a4 n4 c4 x.disk.files){a5:Option Addr}{n5 c5:Nat}(h5:RepS W all a5 n5 c5 x.disk.list){a6:Option Addr}{n6 c6:Nat}(h6:RepS W all a6 n6 c6 x.disk.names){a7:Option Addr}{n7 c7:Nat}(h7:RepS W all a7 n7 c7 e.name) (p0:WdB x) (p1:EvB e):Calls Tryz.prog 4 [.agg #[.slice a0 n0 c0,.slice a1 n1 c1,.slice a2 n2 c2,.slice a3 n3 c3,.slice a4 n4 c4,.slice a5 n5 c5,.slice a6 n6 c6,.int .i64 x.disk.next],.agg #[.int .i64 e.kind,.int .i64 e.at_,.int .i64 e.cut,.slice a7 n7 c7,.int .i64 e.row.t,.int .i64 e.row.v]].toArray W (Af fun rv w'=>rv=.bool true∧Ext W w'):=by
 have hX:Rep.rep W all x [.slice a0 n0 c0,.slice a1 n1 c1,.slice a2 n2 c2,.slice a3 n3 c3,.slice a4 n4 c4,.slice a5 n5 c5,.slice a6 n6 c6,.int .i64 x.disk.next]:=⟨a0,n0,c0,a1,n1,c1,a2,n2,c2,a3,n3,c3,a4,n4,c4,a5,n5,c5,a6,n6,c6,rfl,h0,h1,h2,h3,h4,h5,h6⟩
 have hE:Rep.rep W all e [.int .i64 e.kind,.int .i64 e.at_,.int .i64 e.cut,.slice a7 n7 c7,.int .i64 e.row.t,.int .i64 e.row.v]:=⟨a7,n7,c7,rfl,h7⟩
 refine goT func4 ?_
 have Z:=SP.init W
 refine .s<|.g<|RG.qB Z fun b1 w Z=>?_
 refine RG.qB Z fun b2 w Z=>?_
 refine .r 1<|.d<|.s<|.g<|.r 1<|.d<|.s<|.g<|RG.ln (Z.bx 1 b1 59 [.slice a0 n0 c0,.slice a1 n1 c1,.slice a2 n2 c2,.slice a3 n3 c3,.slice a4 n4 c4,.slice a5 n5 c5,.slice a6 n6 c6,.int .i64 x.disk.next])<|.r 1<|RG.qV Z (S7 (Rep.frame hX fun b hb _=>⟨trivial,Z.x.block hb⟩) p0) fun w Z=>?_
 refine .r 1<|.d<|.s<|.s<|.g<|.r 1<|.bp ((szI (mWd x) 1048576)< 0) (fun af=>?_) (fun af=>?_)
 ·exact .d<|.ct<|.s<|.g<|.r 1<|.d<|T.rt func4 results4 (.bool true) ⟨rfl,Z.x⟩
 have hm:mWd x≤1048576:=by have:=D5 af; omega
 have hm2:0≤szI (mWd x) 1048576∧szI (mWd x) 1048576≤1048576:=by have:=D5 af; omega
 refine .d<|.cf<|.sk<|.s<|.g<|RG.ln (Z.bx 0 b2 64 [.int .i64 e.kind,.int .i64 e.at_,.int .i64 e.cut,.slice a7 n7 c7,.int .i64 e.row.t,.int .i64 e.row.v])<|.r 1<|RG.qV Z (S8 (Rep.frame hE fun b hb _=>⟨trivial,Z.x.block hb⟩) p1 AB) fun w Z=>?_
 refine .r 1<|.d<|.s<|.s<|.g<|.r 1<|.bp ((szI (mEv e) (szI (mWd x) 1048576))< 0) (fun af=>?_) (fun af=>?_)
 ·exact .d<|.ct<|.s<|.g<|.r 1<|.d<|T.rt func4 results4 (.bool true) ⟨rfl,Z.x⟩
 have hn:mEv e≤1048576:=by have:=D5 af; omega
 refine .d<|.cf<|.sk<|.s<|T.RR nil 6 (fun (y:Nat × List Value)=>[(2,vP b1),(3,vP b2),(6,vP y.1),(28,.agg y.2.toArray)]) (fun (y:Nat × List Value) w=>SP W (thB y.1 37 zeW::thR (doX x e) y.2::thB b2 64 [.int .i64 e.kind,.int .i64 e.at_,.int .i64 e.cut,.slice a7 n7 c7,.int .i64 e.row.t,.int .i64 e.row.v]::thB b1 59 [.slice a0 n0 c0,.slice a1 n1 c1,.slice a2 n2 c2,.slice a3 n3 c3,.slice a4 n4 c4,.slice a5 n5 c5,.slice a6 n6 c6,.int .i64 x.disk.next]::[]) w) AA (fun w hx=>?_) (fun y e' w hI=>?_)
 ·have Z:=Z.ext hx
  refine GA.ln 0 (Z.bx 1 b1 59 [.slice a0 n0 c0,.slice a1 n1 c1,.slice a2 n2 c2,.slice a3 n3 c3,.slice a4 n4 c4,.slice a5 n5 c5,.slice a6 n6 c6,.int .i64 x.disk.next]) (fun h=>h)<|GA.ln 2 (Z.bx 0 b2 64 [.int .i64 e.kind,.int .i64 e.at_,.int .i64 e.cut,.slice a7 n7 c7,.int .i64 e.row.t,.int .i64 e.row.v]) (fun h=>h) ?_
  refine GA.tw 1 5 ?_ ?_
  ·refine GE.qD x Z (fun w Z=>FF (Rep.frame hX fun b hb _=>⟨trivial,Z.x.block hb⟩) hm) fun xa0 xc0 xa1 xc1 xa2 xc2 xa3 xc3 xa4 xc4 xa5 xc5 xa6 xc6 w Z=>?_
   refine GA.tw 3 5 ?_ ?_
   ·refine GE.qD e Z (fun w Z=>D7 (Rep.frame hE fun b hb _=>⟨trivial,Z.x.block hb⟩) (KX hn)) fun ya yc w Z=>?_
    refine GA.tw 4 5 ?_ ?_
    ·refine GE.qF (doX x e) Z (fun w F f1 f2=>Jg (Cl (l:=[(xa0,xc0),(xa1,xc1),(xa2,xc2),(xa3,xc3),(xa4,xc4),(xa5,xc5),(xa6,xc6)]) rfl f2) (Cl (l:=[(ya,yc)]) rfl f1) hm) fun cs w hr Z=>?_
     refine .go 5<|GE.qB Z fun bb w Z=>?_
     refine GA.d (fun w hx=>?_)
     have Z:=Z.ext hx
     exact ⟨(bb,cs),ag_ AA,Z.cv AA⟩
    ·refine GE.qB Z fun bb w Z=>?_
     have Z:=Z.sw
     have Z:=Z.sw1
     refine .go 4<|GE.qF (doX x e) Z (fun w F f1 f2=>Jg (Cl (l:=[(xa0,xc0),(xa1,xc1),(xa2,xc2),(xa3,xc3),(xa4,xc4),(xa5,xc5),(xa6,xc6)]) rfl f2) (Cl (l:=[(ya,yc)]) rfl f1) hm) fun cs w hr Z=>?_
     refine GA.d (fun w hx=>?_)
     have Z:=Z.ext hx
     have Z:=Z.sw
     exact ⟨(bb,cs),ag_ AA,Z.cv AA⟩
   ·refine GE.qB Z fun bb w Z=>?_
    refine .go 3<|GE.qD e Z (fun w Z=>D7 (Rep.frame hE fun b hb _=>⟨trivial,Z.x.block hb⟩) (KX hn)) fun ya yc w Z=>?_
    have Z:=Z.sw1
    refine .go 4<|GE.qF (doX x e) Z (fun w F f1 f2=>Jg (Cl (l:=[(xa0,xc0),(xa1,xc1),(xa2,xc2),(xa3,xc3),(xa4,xc4),(xa5,xc5),(xa6,xc6)]) rfl f2) (Cl (l:=[(ya,yc)]) rfl f1) hm) fun cs w hr Z=>?_
    refine GA.d (fun w hx=>?_)
    have Z:=Z.ext hx
    have Z:=Z.sw
    exact ⟨(bb,cs),ag_ AA,Z.cv AA⟩
  ·refine GE.qB Z fun bb w Z=>?_
   refine .go 1<|GE.qD x Z (fun w Z=>FF (Rep.frame hX fun b hb _=>⟨trivial,Z.x.block hb⟩) hm) fun xa0 xc0 xa1 xc1 xa2 xc2 xa3 xc3 xa4 xc4 xa5 xc5 xa6 xc6 w Z=>?_
   refine .go 3<|GE.qD e Z (fun w Z=>D7 (Rep.frame hE fun b hb _=>⟨trivial,Z.x.block hb⟩) (KX hn)) fun ya yc w Z=>?_
   refine .go 4<|GE.qF (doX x e) Z (fun w F f1 f2=>Jg (Cl (l:=[(xa0,xc0),(xa1,xc1),(xa2,xc2),(xa3,xc3),(xa4,xc4),(xa5,xc5),(xa6,xc6)]) rfl f2) (Cl (l:=[(ya,yc)]) rfl f1) hm) fun cs w hr Z=>?_
   refine GA.d (fun w hx=>?_)
   have Z:=Z.ext hx
   have Z:=Z.sw
   exact ⟨(bb,cs),ag_ AA,Z.cv AA⟩
 obtain ⟨bb,cs⟩:=y
 have Z:SP W (thB bb 37 zeW::thR (doX x e) cs::thB b2 64 [.int .i64 e.kind,.int .i64 e.at_,.int .i64 e.cut,.slice a7 n7 c7,.int .i64 e.row.t,.int .i64 e.row.v]::thB b1 59 [.slice a0 n0 c0,.slice a1 n1 c1,.slice a2 n2 c2,.slice a3 n3 c3,.slice a4 n4 c4,.slice a5 n5 c5,.slice a6 n6 c6,.int .i64 x.disk.next]::[]) w:=hI
 obtain ⟨q3a0,q3n0,q3c0,q3a1,q3n1,q3c1,q3a2,q3n2,q3c2,q3a3,q3n3,q3c3,q3a4,q3n4,q3c4,q3a5,q3n5,q3c5,q3a6,q3n6,q3c6,rfl⟩:=Ts (Z.rp 1 (doX x e) cs)
 revert Z
 generalize bb=b6
 intro Z
 refine RG.qS Z 0 b6 37 zeW [.slice q3a0 q3n0 q3c0,.slice q3a1 q3n1 q3c1,.slice q3a2 q3n2 q3c2,.slice q3a3 q3n3 q3c3,.slice q3a4 q3n4 q3c4,.slice q3a5 q3n5 q3c5,.slice q3a6 q3n6 q3c6,.int .i64 (doX x e).disk.next] fun w Z=>?_
 refine .d<|.s<|.g<|RG.ln (Z.bx 3 b1 59 [.slice a0 n0 c0,.slice a1 n1 c1,.slice a2 n2 c2,.slice a3 n3 c3,.slice a4 n4 c4,.slice a5 n5 c5,.slice a6 n6 c6,.int .i64 x.disk.next])<|RG.qD x Z (FF (Rep.frame hX fun b hb _=>⟨trivial,Z.x.block hb⟩) hm) fun la7 lc8 la9 lc10 la11 lc12 la13 lc14 la15 lc16 la17 lc18 la19 lc20 w Z=>?_
 refine RG.qB Z fun b22 w Z=>?_
 refine RG.qS Z 0 b22 37 zeW (Shp.cells x [(la7,lc8),(la9,lc10),(la11,lc12),(la13,lc14),(la15,lc16),(la17,lc18),(la19,lc20)]) fun w Z=>?_
 refine .d<|.s<|.g<|RG.ln (Z.bx 4 b2 64 [.int .i64 e.kind,.int .i64 e.at_,.int .i64 e.cut,.slice a7 n7 c7,.int .i64 e.row.t,.int .i64 e.row.v])<|RG.qD e Z (D7 (Rep.frame hE fun b hb _=>⟨trivial,Z.x.block hb⟩) (KX hn)) fun la24 lc25 w Z=>?_
 refine RG.qB Z fun b27 w Z=>?_
 refine RG.qS Z 0 b27 72 [.int .i64 0,.int .i64 0,.int .i64 0,AH,.int .i64 0,.int .i64 0] (Shp.cells e [(la24,lc25)]) fun w Z=>?_
 refine .d<|.s<|.g<|RG.ln (Z.bx 2 b22 37 (Shp.cells x [(la7,lc8),(la9,lc10),(la11,lc12),(la13,lc14),(la15,lc16),(la17,lc18),(la19,lc20)]))<|RG.ln (Z.bx 0 b27 72 (Shp.cells e [(la24,lc25)]))<|RG.qD (doX x e) Z (Hm (Cl rfl (Z.it 3 (Lf.its x [(la7,lc8),(la9,lc10),(la11,lc12),(la13,lc14),(la15,lc16),(la17,lc18),(la19,lc20)]))) (Cl rfl (Z.it 1 (Lf.its e [(la24,lc25)]))) hm (KX hn)) fun la29 lc30 la31 lc32 la33 lc34 la35 lc36 la37 lc38 la39 lc40 la41 lc42 w Z=>?_
 refine RG.qB Z fun b44 w Z=>?_
 refine RG.qS Z 0 b44 37 zeW (Shp.cells (doX x e) [(la29,lc30),(la31,lc32),(la33,lc34),(la35,lc36),(la37,lc38),(la39,lc40),(la41,lc42)]) fun w Z=>?_
 refine .d<|.s<|.s<|.g<|RG.ln (Z.bx 0 b44 37 (Shp.cells (doX x e) [(la29,lc30),(la31,lc32),(la33,lc34),(la35,lc36),(la37,lc38),(la39,lc40),(la41,lc42)]))<|RG.ln (Z.bx 6 b6 37 [.slice q3a0 q3n0 q3c0,.slice q3a1 q3n1 q3c1,.slice q3a2 q3n2 q3c2,.slice q3a3 q3n3 q3c3,.slice q3a4 q3n4 q3c4,.slice q3a5 q3n5 q3c5,.slice q3a6 q3n6 q3c6,.int .i64 (doX x e).disk.next])<|RG.qV Z (ID (Cl rfl (Z.it 1 (Lf.its (doX x e) [(la29,lc30),(la31,lc32),(la33,lc34),(la35,lc36),(la37,lc38),(la39,lc40),(la41,lc42)]))) (Z.rp 7 (doX x e) [.slice q3a0 q3n0 q3c0,.slice q3a1 q3n1 q3c1,.slice q3a2 q3n2 q3c2,.slice q3a3 q3n3 q3c3,.slice q3a4 q3n4 q3c4,.slice q3a5 q3n5 q3c5,.slice q3a6 q3n6 q3c6,.int .i64 (doX x e).disk.next]) rfl) fun w Z=>?_
 refine .r 1<|.d<|.cf<|.sk<|.s<|.s<|T.gd nil 5 (fun w hx=>?_)
 have Z:=Z.ext hx
 refine GA.ln 0 (Z.bx 4 b22 37 (Shp.cells x [(la7,lc8),(la9,lc10),(la11,lc12),(la13,lc14),(la15,lc16),(la17,lc18),(la19,lc20)])) (fun h=>h)<|GA.ln 1 (Z.bx 9 b1 59 [.slice a0 n0 c0,.slice a1 n1 c1,.slice a2 n2 c2,.slice a3 n3 c3,.slice a4 n4 c4,.slice a5 n5 c5,.slice a6 n6 c6,.int .i64 x.disk.next]) (fun h=>h)<|.go 2<|GE.qD x Z (fun w Z=>FF (Rep.frame hX fun b hb _=>⟨trivial,Z.x.block hb⟩) hm) fun la46 lc47 la48 lc49 la50 lc51 la52 lc53 la54 lc55 la56 lc57 la58 lc59 w Z=>?_
 refine .go 3<|GE.qV Z (fun w Z=>ID (Cl rfl (Z.it 6 (Lf.its x [(la7,lc8),(la9,lc10),(la11,lc12),(la13,lc14),(la15,lc16),(la17,lc18),(la19,lc20)]))) (Cl rfl (Z.it 0 (Lf.its x [(la46,lc47),(la48,lc49),(la50,lc51),(la52,lc53),(la54,lc55),(la56,lc57),(la58,lc59)]))) rfl) fun w Z=>?_
 refine .r [4]<|GA.d (fun w hx=>?_)
 have Z:=Z.ext hx
 refine .d<|.cf<|.sk<|.s<|.s<|T.gd nil 5 (fun w hx=>?_)
 have Z:=Z.ext hx
 refine GA.ln 0 (Z.bx 3 b27 72 (Shp.cells e [(la24,lc25)])) (fun h=>h)<|GA.ln 1 (Z.bx 9 b2 64 [.int .i64 e.kind,.int .i64 e.at_,.int .i64 e.cut,.slice a7 n7 c7,.int .i64 e.row.t,.int .i64 e.row.v]) (fun h=>h)<|.go 2<|GE.qD e Z (fun w Z=>D7 (Rep.frame hE fun b hb _=>⟨trivial,Z.x.block hb⟩) (KX hn)) fun la61 lc62 w Z=>?_
 refine .go 3<|GE.qV Z (fun w Z=>S6 (Cl rfl (Z.it 5 (Lf.its e [(la24,lc25)]))) (Cl rfl (Z.it 0 (Lf.its e [(la61,lc62)])))) fun w Z=>?_
 refine .r [4]<|GA.d (fun w hx=>?_)
 have Z:=Z.ext hx
 refine .d<|.cf<|.sk<|.s<|.g<|.r 1<|.d<|.s<|.g<|RG.ln (Z.bx 6 b22 37 (Shp.cells x [(la7,lc8),(la9,lc10),(la11,lc12),(la13,lc14),(la15,lc16),(la17,lc18),(la19,lc20)]))<|.r 1<|RG.qW Z 7 Kh x [(la7,lc8),(la9,lc10),(la11,lc12),(la13,lc14),(la15,lc16),(la17,lc18),(la19,lc20)] 1 rfl AB (by have:=VH x; omega) (fun w v64 Z u65 m66 z67=>?_)
 have hz68:=Oo x
 refine .r 1<|.d<|.s<|.g<|RG.ln (Z.bx 4 b27 72 (Shp.cells e [(la24,lc25)]))<|.r 1<|RG.qW Z 5 QH e [(la24,lc25)] (1+D8 x) rfl AB (by have:=VH x; have:=pY hn; omega) (fun w v69 Z u70 m71 z72=>?_)
 have hz73:=ZZ e
 refine .r 1<|.d<|.s<|.s<|.g<|.r 1<|RG.eqv (v':=.bool (decide (((1+D8 x)+evZ e)< 0))) (v:=.bool false) AA (dl AB)<|.r 1<|RG.ln (Z.bx 2 b44 37 (Shp.cells (doX x e) [(la29,lc30),(la31,lc32),(la33,lc34),(la35,lc36),(la37,lc38),(la39,lc40),(la41,lc42)]))<|RG.ln (Z.bx 8 b6 37 [.slice q3a0 q3n0 q3c0,.slice q3a1 q3n1 q3c1,.slice q3a2 q3n2 q3c2,.slice q3a3 q3n3 q3c3,.slice q3a4 q3n4 q3c4,.slice q3a5 q3n5 q3c5,.slice q3a6 q3n6 q3c6,.int .i64 (doX x e).disk.next])<|RG.qV Z (ID (Cl rfl (Z.it 3 (Lf.its (doX x e) [(la29,lc30),(la31,lc32),(la33,lc34),(la35,lc36),(la37,lc38),(la39,lc40),(la41,lc42)]))) (Z.rp 9 (doX x e) [.slice q3a0 q3n0 q3c0,.slice q3a1 q3n1 q3c1,.slice q3a2 q3n2 q3c2,.slice q3a3 q3n3 q3c3,.slice q3a4 q3n4 q3c4,.slice q3a5 q3n5 q3c5,.slice q3a6 q3n6 q3c6,.int .i64 (doX x e).disk.next]) rfl) fun w Z=>?_
 refine .r 2<|.d<|.cf<|.sk<|.s<|.g<|.r 1<|.d<|.s<|.g<|RG.ln (Z.bx 2 b44 37 (Shp.cells (doX x e) [(la29,lc30),(la31,lc32),(la33,lc34),(la35,lc36),(la37,lc38),(la39,lc40),(la41,lc42)]))<|.r 1<|RG.qW Z 3 Kh (doX x e) [(la29,lc30),(la31,lc32),(la33,lc34),(la35,lc36),(la37,lc38),(la39,lc40),(la41,lc42)] 1 rfl AB (by have:=Yy x e; omega) (fun w v74 Z u75 m76 z77=>?_)
 have hz78:=Oo (doX x e)
 refine .r 1<|.d<|.s<|.g<|.r 1<|.d<|.s<|.g<|RG.ln (Z.bx 2 b44 37 (Shp.cells (doX x e) [(la29,lc30),(la31,lc32),(la33,lc34),(la35,lc36),(la37,lc38),(la39,lc40),(la41,lc42)]))<|.r 1<|RG.qV Z (Kj (XQ (Cl rfl (Z.it 3 (Lf.its v74 [(la29,lc30),(la31,lc32),(la33,lc34),(la35,lc36),(la37,lc38),(la39,lc40),(la41,lc42)]))) u75) m76 AB (by have:=Yy x e; omega)) fun w Z=>?_
 have hz79:=Oo v74
 refine .r 1<|.d<|.s<|.s<|.g<|.r 1<|RG.eqv (v':=.bool (decide ((1+D8 v74)< 0))) (v:=.bool false) AA (dl AB)<|.d<|.cf<|.sk<|.s<|.s<|.g<|.r 2<|RG.eqv (v':=.bool ((1+D8 v74) != (1+D8 (doX x e)))) (v:=.bool false) AA (nb AB)<|.d<|.cf<|.sk<|.s<|T.RR nil 6 (fun (y:Nat × List (Option Addr × Nat))=>[(2,vP b1),(3,vP b2),(6,vP b6),(7,vP b22),(8,vP b27),(9,vP b44),(11,vI (1+D8 (doX x e))),(13,vP y.1),(79,.agg (Shp.cells (doX x e) y.2).toArray)]) (fun (y:Nat × List (Option Addr × Nat)) w=>y.2.length=7∧SP W (thB y.1 37 zeW::thI (Lf.its (doX x e) y.2)::thI (Lf.its e [(la61,lc62)])::thI (Lf.its x [(la46,lc47),(la48,lc49),(la50,lc51),(la52,lc53),(la54,lc55),(la56,lc57),(la58,lc59)])::thB b44 37 (Shp.cells (doX x e) [(la29,lc30),(la31,lc32),(la33,lc34),(la35,lc36),(la37,lc38),(la39,lc40),(la41,lc42)])::thI (Lf.its v74 [(la29,lc30),(la31,lc32),(la33,lc34),(la35,lc36),(la37,lc38),(la39,lc40),(la41,lc42)])::thB b27 72 (Shp.cells e [(la24,lc25)])::thI (Lf.its v69 [(la24,lc25)])::thB b22 37 (Shp.cells x [(la7,lc8),(la9,lc10),(la11,lc12),(la13,lc14),(la15,lc16),(la17,lc18),(la19,lc20)])::thI (Lf.its v64 [(la7,lc8),(la9,lc10),(la11,lc12),(la13,lc14),(la15,lc16),(la17,lc18),(la19,lc20)])::thB b6 37 [.slice q3a0 q3n0 q3c0,.slice q3a1 q3n1 q3c1,.slice q3a2 q3n2 q3c2,.slice q3a3 q3n3 q3c3,.slice q3a4 q3n4 q3c4,.slice q3a5 q3n5 q3c5,.slice q3a6 q3n6 q3c6,.int .i64 (doX x e).disk.next]::thR (doX x e) [.slice q3a0 q3n0 q3c0,.slice q3a1 q3n1 q3c1,.slice q3a2 q3n2 q3c2,.slice q3a3 q3n3 q3c3,.slice q3a4 q3n4 q3c4,.slice q3a5 q3n5 q3c5,.slice q3a6 q3n6 q3c6,.int .i64 (doX x e).disk.next]::thB b2 64 [.int .i64 e.kind,.int .i64 e.at_,.int .i64 e.cut,.slice a7 n7 c7,.int .i64 e.row.t,.int .i64 e.row.v]::thB b1 59 [.slice a0 n0 c0,.slice a1 n1 c1,.slice a2 n2 c2,.slice a3 n3 c3,.slice a4 n4 c4,.slice a5 n5 c5,.slice a6 n6 c6,.int .i64 x.disk.next]::[]) w) AA (fun w hx=>?_) (fun y e' w hI=>?_)
 ·have Z:=Z.ext hx
  refine GA.ln 0 (Z.bx 11 b1 59 [.slice a0 n0 c0,.slice a1 n1 c1,.slice a2 n2 c2,.slice a3 n3 c3,.slice a4 n4 c4,.slice a5 n5 c5,.slice a6 n6 c6,.int .i64 x.disk.next]) (fun h=>h)<|GA.ln 2 (Z.bx 10 b2 64 [.int .i64 e.kind,.int .i64 e.at_,.int .i64 e.cut,.slice a7 n7 c7,.int .i64 e.row.t,.int .i64 e.row.v]) (fun h=>h) ?_
  refine GA.tw 1 5 ?_ ?_
  ·refine GE.qD x Z (fun w Z=>FF (Rep.frame hX fun b hb _=>⟨trivial,Z.x.block hb⟩) hm) fun xa0 xc0 xa1 xc1 xa2 xc2 xa3 xc3 xa4 xc4 xa5 xc5 xa6 xc6 w Z=>?_
   refine GA.tw 3 5 ?_ ?_
   ·refine GE.qD e Z (fun w Z=>D7 (Rep.frame hE fun b hb _=>⟨trivial,Z.x.block hb⟩) (KX hn)) fun ya yc w Z=>?_
    refine GA.tw 4 5 ?_ ?_
    ·refine GE.qD (doX x e) Z (fun w Z=>Hm (Cl (l:=[(xa0,xc0),(xa1,xc1),(xa2,xc2),(xa3,xc3),(xa4,xc4),(xa5,xc5),(xa6,xc6)]) rfl (Z.it 1 (Lf.its x [(xa0,xc0),(xa1,xc1),(xa2,xc2),(xa3,xc3),(xa4,xc4),(xa5,xc5),(xa6,xc6)]))) (Cl (l:=[(ya,yc)]) rfl (Z.it 0 (Lf.its e [(ya,yc)]))) hm (KX hn)) fun ra0 rc0 ra1 rc1 ra2 rc2 ra3 rc3 ra4 rc4 ra5 rc5 ra6 rc6 w Z=>?_
     refine .go 5<|GE.qB Z fun bb w Z=>?_
     refine GA.d (fun w hx=>?_)
     have Z:=Z.ext hx
     exact ⟨(bb,[(ra0,rc0),(ra1,rc1),(ra2,rc2),(ra3,rc3),(ra4,rc4),(ra5,rc5),(ra6,rc6)]),ag_ AA,rfl,Z.d2.d2.cv AA⟩
    ·refine GE.qB Z fun bb w Z=>?_
     refine .go 4<|GE.qD (doX x e) Z (fun w Z=>Hm (Cl (l:=[(xa0,xc0),(xa1,xc1),(xa2,xc2),(xa3,xc3),(xa4,xc4),(xa5,xc5),(xa6,xc6)]) rfl (Z.it 2 (Lf.its x [(xa0,xc0),(xa1,xc1),(xa2,xc2),(xa3,xc3),(xa4,xc4),(xa5,xc5),(xa6,xc6)]))) (Cl (l:=[(ya,yc)]) rfl (Z.it 1 (Lf.its e [(ya,yc)]))) hm (KX hn)) fun ra0 rc0 ra1 rc1 ra2 rc2 ra3 rc3 ra4 rc4 ra5 rc5 ra6 rc6 w Z=>?_
     refine GA.d (fun w hx=>?_)
     have Z:=Z.ext hx
     exact ⟨(bb,[(ra0,rc0),(ra1,rc1),(ra2,rc2),(ra3,rc3),(ra4,rc4),(ra5,rc5),(ra6,rc6)]),ag_ AA,rfl,Z.sw.d2.d2.cv AA⟩
   ·refine GE.qB Z fun bb w Z=>?_
    refine .go 3<|GE.qD e Z (fun w Z=>D7 (Rep.frame hE fun b hb _=>⟨trivial,Z.x.block hb⟩) (KX hn)) fun ya yc w Z=>?_
    refine .go 4<|GE.qD (doX x e) Z (fun w Z=>Hm (Cl (l:=[(xa0,xc0),(xa1,xc1),(xa2,xc2),(xa3,xc3),(xa4,xc4),(xa5,xc5),(xa6,xc6)]) rfl (Z.it 2 (Lf.its x [(xa0,xc0),(xa1,xc1),(xa2,xc2),(xa3,xc3),(xa4,xc4),(xa5,xc5),(xa6,xc6)]))) (Cl (l:=[(ya,yc)]) rfl (Z.it 0 (Lf.its e [(ya,yc)]))) hm (KX hn)) fun ra0 rc0 ra1 rc1 ra2 rc2 ra3 rc3 ra4 rc4 ra5 rc5 ra6 rc6 w Z=>?_
    refine GA.d (fun w hx=>?_)
    have Z:=Z.ext hx
    exact ⟨(bb,[(ra0,rc0),(ra1,rc1),(ra2,rc2),(ra3,rc3),(ra4,rc4),(ra5,rc5),(ra6,rc6)]),ag_ AA,rfl,Z.d1.sw.d2.cv AA⟩
  ·refine GE.qB Z fun bb w Z=>?_
   refine .go 1<|GE.qD x Z (fun w Z=>FF (Rep.frame hX fun b hb _=>⟨trivial,Z.x.block hb⟩) hm) fun xa0 xc0 xa1 xc1 xa2 xc2 xa3 xc3 xa4 xc4 xa5 xc5 xa6 xc6 w Z=>?_
   refine .go 3<|GE.qD e Z (fun w Z=>D7 (Rep.frame hE fun b hb _=>⟨trivial,Z.x.block hb⟩) (KX hn)) fun ya yc w Z=>?_
   refine .go 4<|GE.qD (doX x e) Z (fun w Z=>Hm (Cl (l:=[(xa0,xc0),(xa1,xc1),(xa2,xc2),(xa3,xc3),(xa4,xc4),(xa5,xc5),(xa6,xc6)]) rfl (Z.it 1 (Lf.its x [(xa0,xc0),(xa1,xc1),(xa2,xc2),(xa3,xc3),(xa4,xc4),(xa5,xc5),(xa6,xc6)]))) (Cl (l:=[(ya,yc)]) rfl (Z.it 0 (Lf.its e [(ya,yc)]))) hm (KX hn)) fun ra0 rc0 ra1 rc1 ra2 rc2 ra3 rc3 ra4 rc4 ra5 rc5 ra6 rc6 w Z=>?_
   refine GA.d (fun w hx=>?_)
   have Z:=Z.ext hx
   exact ⟨(bb,[(ra0,rc0),(ra1,rc1),(ra2,rc2),(ra3,rc3),(ra4,rc4),(ra5,rc5),(ra6,rc6)]),ag_ AA,rfl,Z.d1.d1.sw.cv AA⟩
 obtain ⟨bb,y⟩:=y
 obtain ⟨hl,Z⟩:=hI
 obtain ⟨la81,lc82,la83,lc84,la85,lc86,la87,lc88,la89,lc90,la91,lc92,la93,lc94,rfl⟩:=l7_ y hl
 have Z:SP W (thB bb 37 zeW::thI (Lf.its (doX x e) [(la81,lc82),(la83,lc84),(la85,lc86),(la87,lc88),(la89,lc90),(la91,lc92),(la93,lc94)])::thI (Lf.its e [(la61,lc62)])::thI (Lf.its x [(la46,lc47),(la48,lc49),(la50,lc51),(la52,lc53),(la54,lc55),(la56,lc57),(la58,lc59)])::thB b44 37 (Shp.cells (doX x e) [(la29,lc30),(la31,lc32),(la33,lc34),(la35,lc36),(la37,lc38),(la39,lc40),(la41,lc42)])::thI (Lf.its v74 [(la29,lc30),(la31,lc32),(la33,lc34),(la35,lc36),(la37,lc38),(la39,lc40),(la41,lc42)])::thB b27 72 (Shp.cells e [(la24,lc25)])::thI (Lf.its v69 [(la24,lc25)])::thB b22 37 (Shp.cells x [(la7,lc8),(la9,lc10),(la11,lc12),(la13,lc14),(la15,lc16),(la17,lc18),(la19,lc20)])::thI (Lf.its v64 [(la7,lc8),(la9,lc10),(la11,lc12),(la13,lc14),(la15,lc16),(la17,lc18),(la19,lc20)])::thB b6 37 [.slice q3a0 q3n0 q3c0,.slice q3a1 q3n1 q3c1,.slice q3a2 q3n2 q3c2,.slice q3a3 q3n3 q3c3,.slice q3a4 q3n4 q3c4,.slice q3a5 q3n5 q3c5,.slice q3a6 q3n6 q3c6,.int .i64 (doX x e).disk.next]::thR (doX x e) [.slice q3a0 q3n0 q3c0,.slice q3a1 q3n1 q3c1,.slice q3a2 q3n2 q3c2,.slice q3a3 q3n3 q3c3,.slice q3a4 q3n4 q3c4,.slice q3a5 q3n5 q3c5,.slice q3a6 q3n6 q3c6,.int .i64 (doX x e).disk.next]::thB b2 64 [.int .i64 e.kind,.int .i64 e.at_,.int .i64 e.cut,.slice a7 n7 c7,.int .i64 e.row.t,.int .i64 e.row.v]::thB b1 59 [.slice a0 n0 c0,.slice a1 n1 c1,.slice a2 n2 c2,.slice a3 n3 c3,.slice a4 n4 c4,.slice a5 n5 c5,.slice a6 n6 c6,.int .i64 x.disk.next]::[]) w:=Z
 revert Z
 generalize bb=b97
 intro Z
 refine RG.qS Z 0 b97 37 zeW (Shp.cells (doX x e) [(la81,lc82),(la83,lc84),(la85,lc86),(la87,lc88),(la89,lc90),(la91,lc92),(la93,lc94)]) fun w Z=>?_
 refine .d<|.s<|.s<|.g<|RG.ln (Z.bx 0 b97 37 (Shp.cells (doX x e) [(la81,lc82),(la83,lc84),(la85,lc86),(la87,lc88),(la89,lc90),(la91,lc92),(la93,lc94)]))<|RG.ln (Z.bx 10 b6 37 [.slice q3a0 q3n0 q3c0,.slice q3a1 q3n1 q3c1,.slice q3a2 q3n2 q3c2,.slice q3a3 q3n3 q3c3,.slice q3a4 q3n4 q3c4,.slice q3a5 q3n5 q3c5,.slice q3a6 q3n6 q3c6,.int .i64 (doX x e).disk.next])<|RG.qV Z (ID (Cl rfl (Z.it 1 (Lf.its (doX x e) [(la81,lc82),(la83,lc84),(la85,lc86),(la87,lc88),(la89,lc90),(la91,lc92),(la93,lc94)]))) (Z.rp 11 (doX x e) [.slice q3a0 q3n0 q3c0,.slice q3a1 q3n1 q3c1,.slice q3a2 q3n2 q3c2,.slice q3a3 q3n3 q3c3,.slice q3a4 q3n4 q3c4,.slice q3a5 q3n5 q3c5,.slice q3a6 q3n6 q3c6,.int .i64 (doX x e).disk.next]) rfl) fun w Z=>?_
 refine .r 1<|.d<|.cf<|.sk<|.s<|.g<|.r 1<|.d<|.s<|.g<|RG.ln (Z.bx 4 b44 37 (Shp.cells (doX x e) [(la29,lc30),(la31,lc32),(la33,lc34),(la35,lc36),(la37,lc38),(la39,lc40),(la41,lc42)]))<|.r 1<|RG.qV Z (Kj (XQ (Cl rfl (Z.it 5 (Lf.its v74 [(la29,lc30),(la31,lc32),(la33,lc34),(la35,lc36),(la37,lc38),(la39,lc40),(la41,lc42)]))) u75) m76 AB (by have:=Yy x e; omega)) fun w Z=>?_
 have hz98:=Oo v74
 exact .r 1<|.d<|.s<|.s<|.g<|.r 1<|RG.eqv (v':=.bool (decide ((1+D8 v74)< 0))) (v:=.bool false) AA (dl AB)<|.d<|.cf<|.sk<|.s<|.s<|.g<|.r 2<|RG.eqv (v':=.bool ((1+D8 v74) != (1+D8 (doX x e)))) (v:=.bool false) AA (nb AB)<|.d<|.cf<|.sk<|.s<|.g<|.r 1<|.d<|T.rt func4 results4 (.bool true) ⟨rfl,Z.x⟩
end Go.Proofs.YtcginoabkicdiaaGreat
