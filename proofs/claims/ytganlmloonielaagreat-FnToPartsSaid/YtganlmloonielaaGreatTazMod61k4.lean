/- Steps done on a disk, tidying, which steps merge: what the program computes; plain laws. -/
import Derived.Test.YtganlmloonielaaGreatTazMod43k23
import Derived.Test.YtganlmloonielaaGreatTazMod54k17
import Derived.Test.YtganlmloonielaaGreatTazMod58k21
set_option linter.unusedVariables false
set_option linter.unusedSimpArgs false
namespace Go.Proofs.YtganlmloonielaaGreat
theorem U9 {a b:List Fil} {k:Nat} {x y:Fil} (h:a.drop k=b.drop k↔a=b) (ha:a.drop k=x::a.drop (k+1)) (hb:b.drop k=y::b.drop (k+1)) (h1:x.num=y.num) (h2:(x.part==y.part)=true):a.drop (k+1)=b.drop (k+1)↔a=b:=by
 have e:x=y:=by
  have:=eq_of_beq h2
  cases x; cases y
  simp_all
 rw [← h,ha,hb,e]
 simp
theorem R0 {a b:List Fil} {k:Nat} {x y:Fil} (h:a.drop k=b.drop k↔a=b) (ha:a.drop k=x::a.drop (k+1)) (hb:b.drop k=y::b.drop (k+1)) (h1:x.num≠y.num∨(x.part==y.part)=false):a≠b:=fun e=>by
 have:=h.2 e
 rw [ha,hb,List.cons.injEq] at this
 rcases h1 with h1 | h1
 ·exact h1 (by rw [this.1])
 ·rw [this.1] at h1; simp at h1
theorem NK {α:Type} {a b:List α} {k:Nat} (h:a.drop k=b.drop k↔a=b) (ha:a.length≤k) (hl:(a.length:Int)=b.length):a=b:=h.1 (by rw [AY ha,AY AB])
theorem HZ {a b:Dsk} (h:a.files≠b.files∨a.list≠b.list∨a.names≠b.names∨a.next≠b.next):false=(a==b):=(beq_eq_false_iff_ne.2 (fun e=>by subst e; simp at h)).symm
theorem VA {a b:Dsk} (h1:a.files=b.files) (h2:(a.list==b.list)=true) (h3:a.names=b.names) (h4:a.next=b.next):true=(a==b):=by
 symm
 rw [beq_iff_eq]
 have:=eq_of_beq h2
 cases a; cases b
 simp_all
theorem R1 {α:Type} {a b:List α} (h:(a.length:Int)≠b.length):a≠b:=fun e=>h (by rw [e])
theorem VB {α:Type} [BEq α] [LawfulBEq α] {a b:α} (h:(a==b)=false):a≠b:=beq_eq_false_iff_ne.1 h
end Go.Proofs.YtganlmloonielaaGreat
namespace Go.Proofs.YtganlmloonielaaGreat
set_option maxRecDepth 100000
set_option maxHeartbeats 4000000
theorem By (a:Dsk) (b:Dsk) {w:World} {F:Nat→Prop} {a1:Option Addr} {n1 c1:Nat} (h1:RepS w F a1 n1 c1 a.files) {a2:Option Addr} {n2 c2:Nat} (h2:RepS w F a2 n2 c2 a.list) {a3:Option Addr} {n3 c3:Nat} (h3:RepS w F a3 n3 c3 a.names) {a4:Option Addr} {n4 c4:Nat} (h4:RepS w F a4 n4 c4 b.files) {a5:Option Addr} {n5 c5:Nat} (h5:RepS w F a5 n5 c5 b.list) {a6:Option Addr} {n6 c6:Nat} (h6:RepS w F a6 n6 c6 b.names)  : Calls Tryz.prog 24 [.agg #[.slice a1 n1 c1,.slice a2 n2 c2,.slice a3 n3 c3,.int .i64 a.next],.agg #[.slice a4 n4 c4,.slice a5 n5 c5,.slice a6 n6 c6,.int .i64 b.next]].toArray w (As fun rv w'=>rv=.bool ((a==b))∧Ext w w'):=by
 refine goT Tryz.func24 ?_
 obtain ⟨rfl,bK,h1⟩:=h1.tp
 obtain ⟨rfl,bL,h2⟩:=h2.tp
 obtain ⟨rfl,bM,h3⟩:=h3.tp
 obtain ⟨rfl,bN,h4⟩:=h4.tp
 obtain ⟨rfl,bO,h5⟩:=h5.tp
 obtain ⟨rfl,bP,h6⟩:=h6.tp
 refine .s<|.g<|.np 27 [.slice a1 a.files.length c1,.slice a2 a.list.length c2,.slice a3 a.names.length c3,vI a.next] fun aa cm aH am E aY=>?_
 replace ⟨h1,h2,h3,h4,h5,h6⟩:=(sn [] am aH).g6 h1 h2 h3 h4 h5 h6
 have C:=am
 refine .np 27 [.slice a4 b.files.length c4,.slice a5 b.list.length c5,.slice a6 b.names.length c6,vI b.next] fun ab bA aI aJ J aZ=>?_
 replace ⟨h1,h2,h3,h4,h5,h6,E,C⟩:=(sn [aa] aJ aI).g8 h1 h2 h3 h4 h5 h6 E C
 refine .r 1<|.d<|.s<|.s<|.g<|.r 1<|.lb E<|.r 2<|.lb J<|.r 1<|.ne (a.files.length:Int) (b.files.length:Int) (fun ba=>.r 24<|.d<|.ct<|.s<|.g<|.r 1<|.d<|.rt Tryz.func24 Tryz.results24 (.bool false) ⟨(congrArg Value.bool (by exact HZ (.inl (R1 ‹_›)))),C⟩) fun ba=>.r 2<|.lb E<|.r 1<|.lb J<|.cl (C6 a.list b.list h2.ta h5.ta (w:=bA) (F:=all)) ?_
 rintro co bc ⟨rfl,aK⟩
 replace ⟨h1,h3,h4,h6,E,J,C⟩:=(se [ab,aa] aK).g7 h1 h3 h4 h6 E J C
 cases bQ:(a.list==b.list)
 ·exact .r 18<|.d<|.ct<|.s<|.g<|.r 1<|.d<|.rt Tryz.func24 Tryz.results24 (.bool false) ⟨(congrArg Value.bool (by exact HZ (.inr (.inl (VB ‹_›))))),C⟩
 refine .r 4<|.lb E<|.r 2<|.lb J<|.r 1<|.ne (a.names.length:Int) (b.names.length:Int) (fun bd=>.r 8<|.d<|.ct<|.s<|.g<|.r 1<|.d<|.rt Tryz.func24 Tryz.results24 (.bool false) ⟨(congrArg Value.bool (by exact HZ (.inr (.inr (.inl (R1 ‹_›)))))),C⟩) fun bd=>.r 3<|.lb E<|.r 1<|.lb J<|.ne a.next b.next (fun bg=>.r 1<|.d<|.ct<|.s<|.g<|.r 1<|.d<|.rt Tryz.func24 Tryz.results24 (.bool false) ⟨(congrArg Value.bool (by exact HZ (.inr (.inr (.inr ‹_›))))),C⟩) fun bg=>.r 1<|.d<|.cf<|.sk<|.s<|.s<|.g<|.r 1<|.d<|.b 0<|T.loop (X:=Nat) 0 (fun k=>[(2,.pointer (some ⟨aa,0,none⟩)),(3,.pointer (some ⟨ab,0,none⟩)),(5,vI (k:Int))]) (fun k ao=>Chg (ins []) bc ao∧(k≤a.files.length)∧(a.files.drop k=b.files.drop k↔a.files=b.files)) (fun k=>a.files.length - k) AA ⟨AA,AA,AA,trivial⟩ ⟨Chg.refl _ _,AB,(by exact Iff.rfl)⟩ ?_
 rintro k cp ao ⟨W,bR,bS⟩ aq
 have aL:Mv [ab,aa] [ab,aa] bc ao:=Mv.inl W all_nil (all_cons (.inl AD) (all_cons (.inl AE) all_nil))
 replace ⟨h1,h3,h4,h6,E,J,C⟩:=(sp aL W).g7 h1 h3 h4 h6 E J C
 refine .s<|.s<|.g<|.r 2<|.lb E<|.r 1<|.bp ((k:Int)< (a.files.length:Int)) (fun bh=>?_) (fun bh=>?_)
 ·refine .d<|.ct<|.sk<|.s<|.b 1<|.s<|.gd nil 26 fun cq aM=>?_
  replace ⟨h1,h3,h4,h6,E,J,C,W⟩:=(se [ab,aa] aM).g8 h1 h3 h4 h6 E J C W
  refine .r [0]<|.lb 1 E id<|.r [2] ?_
  have bi:k< a.files.length:=AB
  refine .ix 3 k 3 h1 bi<|.r [4] ?_
  obtain ⟨aF,ar⟩:∃ y,a.files[k]? = some y:=⟨_,AP AB⟩
  have bT:=AX ar; have bw:=AQ ar
  obtain ⟨_,⟨cr,cu,cv,cw,cx,cy,rfl,af,ag⟩,aN⟩:=h1.elem k aF ar
  have bj:=af.len
  subst bj
  have bU:=af.max
  have bk:=ag.len
  subst bk
  have bV:=ag.max
  refine .lh 5 0 aN id<|.r [6]<|.lb 7 J id<|.r [8] ?_
  have bm:k< b.files.length:=AB
  refine .ix 9 k 3 h4 bm<|.r [10] ?_
  obtain ⟨aG,au⟩:∃ y,b.files[k]? = some y:=⟨_,AP AB⟩
  have bW:=AX au; have bz:=AQ au
  obtain ⟨_,⟨cz,cA,cB,cC,cD,cE,rfl,ah,ai⟩,aO⟩:=h4.elem k aG au
  have bn:=ah.len
  subst bn
  have bX:=ah.max
  have bo:=ai.len
  subst bo
  have bY:=ai.max
  refine .lh 11 0 aO id<|GA.neI (i:=12) (a:=aF.num) (b:=aG.num) AA (fun bq=>?_) (fun bq=>?_)
  ·refine .r [13]<|GA.skip AA fun cF av=>?_
   replace ⟨h1,h3,h4,h6,E,J,af,ag,ah,ai,C,W⟩:=(se [ab,aa] av).g12 h1 h3 h4 h6 E J af ag ah ai C W
   exact .r 3<|.d<|.ct<|.s<|.g<|.r 1<|.d<|.rt Tryz.func24 Tryz.results24 (.bool false) ⟨(congrArg Value.bool (by exact HZ (.inl (R0 ‹_› ‹_› ‹_› (.inl ‹_›))))),C⟩
  refine .r [13,14]<|.lb 15 E id<|.r [16] ?_
  have aP:k< a.files.length:=AB
  refine .ix 17 k 3 h1 aP<|.r [18]<|.lg 19 1 aN id<|.r [20]<|.lb 21 J id<|.r [22] ?_
  have aQ:k< b.files.length:=AB
  refine .ix 23 k 3 h4 aQ<|.r [24]<|.lg 25 1 aO id<|.d fun br aw=>?_
  replace ⟨h3,h6,E,J,af,ag,ah,ai,C,W⟩:=(se [ab,aa] aw).g10 h3 h6 E J af ag ah ai C W
  refine .cl (DW aF.part aG.part af.ta ag.ta ah.ta ai.ta (w:=br) (F:=all)) ?_
  rintro bZ b0 ⟨rfl,ax⟩
  replace ⟨h3,h6,E,J,C,W⟩:=(se [ab,aa] ax).g6 h3 h6 E J C W
  cases bB:(aF.part==aG.part)
  ·exact .r 2<|.d<|.ct<|.s<|.g<|.r 1<|.d<|.rt Tryz.func24 Tryz.results24 (.bool false) ⟨(congrArg Value.bool (by exact HZ (.inl (R0 ‹_› ‹_› ‹_› (.inr ‹_›))))),C⟩
  exact .r 2<|.d<|.cf<|.sk<|.ib 1<|.g<|.r 1<|.it ((k:Int)+1)<|.r 1<|.d<|aq (k+1) _ _ ⟨AA,AA,AA,trivial⟩ ⟨W,AB,(by exact U9 ‹_› ‹_› ‹_› ‹_› ‹_›)⟩ AB
 refine .d<|.cf<|.x 0 rfl<|.s<|.s<|.g<|.r 1<|.d<|.b 2<|T.loop (X:=Nat) 0 (fun k=>[(2,.pointer (some ⟨aa,0,none⟩)),(3,.pointer (some ⟨ab,0,none⟩)),(6,vI (k:Int))]) (fun k ay=>Chg (ins []) ao ay∧(k≤a.names.length)∧(a.files=b.files)∧(a.names.drop k=b.names.drop k↔a.names=b.names)) (fun k=>a.names.length - k) AA ⟨AA,AA,AA,trivial⟩ ⟨Chg.refl _ _,AB,(by exact NK ‹_› AB AB),(by exact Iff.rfl)⟩ ?_
 rintro k b6 ay ⟨O,bC,bD,bE⟩ al
 have az:Mv [ab,aa] [ab,aa] ao ay:=Mv.inl O all_nil (all_cons (.inl AD) (all_cons (.inl AE) all_nil))
 replace ⟨h3,h6,E,J,C⟩:=(sp az O).g5 h3 h6 E J C
 refine .s<|.s<|.g<|.r 2<|.lb E<|.r 1<|.bp ((k:Int)< (a.names.length:Int)) (fun aR=>?_) (fun aR=>.d<|.cf<|.x 2 rfl<|.s<|.g<|.r 1<|.d<|.rt Tryz.func24 Tryz.results24 (.bool true) ⟨(congrArg Value.bool (by exact VA ‹_› ‹_› (NK ‹_› AB AB) ‹_›)),C⟩)
 refine .d<|.ct<|.sk<|.s<|.b 3<|.s<|.gd nil 10 fun b7 aA=>?_
 replace ⟨h3,h6,E,J,C,O⟩:=(se [ab,aa] aA).g6 h3 h6 E J C O
 refine .r [0]<|.lb 1 E id<|.r [2] ?_
 have aS:k< a.names.length:=AB
 refine .ix 3 k 1 h3 aS ?_
 obtain ⟨aB,aj⟩:∃ y,a.names[k]? = some y:=⟨_,AP AB⟩
 have bF:=AX aj; have bt:=AQ aj
 obtain ⟨_,⟨b8,b9,cd,rfl,ac⟩,aT⟩:=h3.elem k aB aj
 have aU:=ac.len
 subst aU
 have bG:=ac.max
 refine .lh 4 0 aT id<|.r [5]<|.lb 6 J id<|.r [7] ?_
 have aV:k< b.names.length:=AB
 refine .ix 8 k 1 h6 aV ?_
 obtain ⟨aC,ak⟩:∃ y,b.names[k]? = some y:=⟨_,AP AB⟩
 have bH:=AX ak; have bu:=AQ ak
 obtain ⟨_,⟨ce,cg,ci,rfl,ae⟩,aW⟩:=h6.elem k aC ak
 have aX:=ae.len
 subst aX
 have bI:=ae.max
 refine .lh 9 0 aW id<|.d fun bv aD=>?_
 replace ⟨ac,ae,C,O⟩:=(se [ab,aa] aD).g4 ac ae C O
 refine .cl (FU aB aC ac.ta ae.ta (w:=bv) (F:=all)) ?_
 rintro cj ck ⟨rfl,aE⟩
 replace ⟨C,O⟩:=(se [] aE).g2 C O
 cases bJ:(aB==aC)
 ·exact .r 1<|.d<|.ct<|.s<|.g<|.r 1<|.d<|.rt Tryz.func24 Tryz.results24 (.bool false) ⟨(congrArg Value.bool (by exact HZ (.inr (.inr (.inl (T1 ‹_› ‹_› ‹_› ‹_›)))))),C⟩
 exact .r 1<|.d<|.cf<|.sk<|.ib 3<|.g<|.r 1<|.it ((k:Int)+1)<|.r 1<|.d<|al (k+1) _ _ ⟨AA,AA,AA,trivial⟩ ⟨O,AB,‹_›,(by exact T0 ‹_› ‹_› ‹_› ‹_›)⟩ AB
end Go.Proofs.YtganlmloonielaaGreat
