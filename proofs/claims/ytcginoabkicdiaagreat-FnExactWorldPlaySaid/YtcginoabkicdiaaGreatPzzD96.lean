/- walks; pruned haves; hints pruned; squeezed -/
import Derived.Test.YtcginoabkicdiaaGreatPzzD95
open Go.Proofs.Tryz
set_option linter.unusedVariables false
set_option linter.unusedSimpArgs false
namespace Go.Proofs.YtcginoabkicdiaaGreat
set_option maxRecDepth 100000
set_option maxHeartbeats 4000000
variable {w:World} {F:Nat→Prop} {a1 a2 a3 a4 a5:Option Addr} {n1 c1 n2 c2 n3 c3 n4 c4 n5 c5:Nat}
theorem CW (s:Sto) (h1:RepS w F a1 n1 c1 s.idx.names) (h2:RepS w F a2 n2 c2 s.idx.AY) (h3:RepS w F a3 n3 c3 s.parts) (h4:RepS w F a4 n4 c4 s.mem) (p0:NmI s.idx.names) (p1:NsD s.idx.names) (p2:Nq s):Calls Tryz.prog 43 [.agg #[.slice a1 n1 c1,.slice a2 n2 c2,.slice a3 n3 c3,.slice a4 n4 c4]].toArray w (Ag fun rv w'=>(∃ (a0:Option Addr) (c0:Nat) (a1:Option Addr) (c1:Nat) (r2 c2:Nat) (hs2:List (Hd 1)) (r3 c3:Nat),rv=.agg #[.slice a0 ((((Ad s)).idx).names).length c0,.slice a1 ((((Ad s)).idx).AY).length c1,.slice (some ⟨r2,0,none⟩) (((Ad s)).parts).length c2,.slice (some ⟨r3,0,none⟩) (((Ad s)).mem).length c3]∧VX w.heap.size w' [.raw 0 r2 146 c2 (((Ad s)).parts) hs2,.own 0 r3 158 c3 (((Ad s)).mem)] [.s a0 c0 ((((Ad s)).idx).names),.s a1 c1 ((((Ad s)).idx).AY),.e (((Ad s)).parts) hs2])∧Ext w w'):=by
 cases h1.len
 cases h2.len
 cases h3.len
 cases h4.len
 refine goT func43 ?_
 have Z:=((((St.i0 F w).p h1).p h2).p h3).p h4
 have aK:=h3.max
 have aL:=h4.max
 have Z:=Z.s0 0
 refine .s<|.g<|RG.Np Z fun ai w Z=>RG.Np Z fun aj w Z=>.d<|.s<|T.GS 10 [aj,ai] Z fun _ w Z=>.r [0,1]<|GA.Lb (q:=1) 2 1 Z<|.r [4]<|GA.Lb (q:=1) 5 1 Z<|.r [8]<|GA.Lb (q:=1) 9 1 Z<|.tw 3 7 ?_ ?_
 ·refine GE.DD 0 0 (fun w Z=>CN s.idx.names (Z.a 4) p0 p1) Z fun aa ab ac ae w Z=>.tw 6 7 ?_ ?_
  ·exact GE.DB 0 0 (fun w Z=>EA s.parts (Z.a 5) (by have:=p2.2.1; omega) p2.2.2.1) Z fun ak am af w Z=>.go 7<|GE.N0 Smp 0 Z fun aM w Z=>GA.Do Z fun w Z=>RG.An (hs:=by (simp only [List.nil_append,List.length_nil,List.length_append,List.length_cons] <;> exact (by have:=p2.2.2.2; omega))) (hf:=.inr Ge) 0 5 ([]:List Smp) s.mem Z fun ao aq w Z=>.r 1<|RG.Ss 2 Z fun w Z=>.d<|T.Rb 2 func43 results43 Z ⟨⟨aa,ab,ac,ae,ak,am,af,ao,aq,by rw [show ((((Ad s)).idx).names)=(idxOf s.idx.names).names from Eq.symm AF,show ((((Ad s)).idx).AY)=(idxOf s.idx.names).AY from Eq.symm AF,show (((Ad s)).parts)=s.parts from Eq.symm AF,show (((Ad s)).mem)=([]++s.mem) from Eq.symm AF]; kernel_rfl,by rw [show ((((Ad s)).idx).names)=(idxOf s.idx.names).names from Eq.symm AF,show ((((Ad s)).idx).AY)=(idxOf s.idx.names).AY from Eq.symm AF,show (((Ad s)).parts)=s.parts from Eq.symm AF,show (((Ad s)).mem)=([]++s.mem) from Eq.symm AF]; exact Z.rX 0 [0,2,2] [1,0] _ _ AE⟩,Z.xt⟩
  exact GE.N0 Smp 0 Z fun aN w Z=>.go 6<|GE.DB 0 0 (fun w Z=>EA s.parts (Z.a 5) (by have:=p2.2.1; omega) p2.2.2.1) Z fun ar ax ag w Z=>GA.Do Z fun w Z=>RG.An (hs:=by (simp only [List.nil_append,List.length_nil,List.length_append,List.length_cons] <;> exact (by have:=p2.2.2.2; omega))) (hf:=.inr Ge) 1 5 ([]:List Smp) s.mem Z fun ay az w Z=>.r 1<|RG.Ss 2 Z fun w Z=>.d<|T.Rb 2 func43 results43 Z ⟨⟨aa,ab,ac,ae,ar,ax,ag,ay,az,by rw [show ((((Ad s)).idx).names)=(idxOf s.idx.names).names from Eq.symm AF,show ((((Ad s)).idx).AY)=(idxOf s.idx.names).AY from Eq.symm AF,show (((Ad s)).parts)=s.parts from Eq.symm AF,show (((Ad s)).mem)=([]++s.mem) from Eq.symm AF]; kernel_rfl,by rw [show ((((Ad s)).idx).names)=(idxOf s.idx.names).names from Eq.symm AF,show ((((Ad s)).idx).AY)=(idxOf s.idx.names).AY from Eq.symm AF,show (((Ad s)).parts)=s.parts from Eq.symm AF,show (((Ad s)).mem)=([]++s.mem) from Eq.symm AF]; exact Z.rX 0 [0,2,2] [0,1] _ _ AE⟩,Z.xt⟩
 exact GE.N0 Smp 0 Z fun aO w Z=>.go 3<|GE.DD 0 0 (fun w Z=>CN s.idx.names (Z.a 4) p0 p1) Z fun aA aB aC aD w Z=>.go 6<|GE.DB 0 0 (fun w Z=>EA s.parts (Z.a 5) (by have:=p2.2.1; omega) p2.2.2.1) Z fun aE aF ah w Z=>GA.Do Z fun w Z=>RG.An (hs:=by (simp only [List.nil_append,List.length_nil,List.length_append,List.length_cons] <;> exact (by have:=p2.2.2.2; omega))) (hf:=.inr Ge) 1 5 ([]:List Smp) s.mem Z fun aG aH w Z=>.r 1<|RG.Ss 2 Z fun w Z=>.d<|T.Rb 2 func43 results43 Z ⟨⟨aA,aB,aC,aD,aE,aF,ah,aG,aH,by rw [show ((((Ad s)).idx).names)=(idxOf s.idx.names).names from Eq.symm AF,show ((((Ad s)).idx).AY)=(idxOf s.idx.names).AY from Eq.symm AF,show (((Ad s)).parts)=s.parts from Eq.symm AF,show (((Ad s)).mem)=([]++s.mem) from Eq.symm AF]; kernel_rfl,by rw [show ((((Ad s)).idx).names)=(idxOf s.idx.names).names from Eq.symm AF,show ((((Ad s)).idx).AY)=(idxOf s.idx.names).AY from Eq.symm AF,show (((Ad s)).parts)=s.parts from Eq.symm AF,show (((Ad s)).mem)=([]++s.mem) from Eq.symm AF]; exact Z.rX 0 [0,2,2] [0,1] _ _ AE⟩,Z.xt⟩
theorem Jy (ix:Idx) (n:List Tag) (h1:RepS w F a1 n1 c1 ix.names) (h2:RepS w F a2 n2 c2 ix.AY) (h3:RepS w F a3 n3 c3 n) (p0:IxI ix) (p1:NsD ix.names) (p2:n.length≤1100000):Calls Tryz.prog 123 [.agg #[.slice a1 n1 c1,.slice a2 n2 c2],.slice a3 n3 c3].toArray w (Ag fun rv w'=>(∃ v0,rv=.tuple #[v0,.int .i64 ((CD ix n).2.1),.bool ((CD ix n).2.2)]∧VD w.heap.size w' ((CD ix n).1:Idx) v0)∧Ext w w'):=by
 cases h1.len
 cases h2.len
 cases h3.len
 refine goT func123 ?_
 have Z:=(((St.i0 F w).p h1).p h2).p h3
 have aC:=h1.max
 have Z:=Z.s0 0
 refine .s<|.g<|RG.Np Z fun ac w Z=>RG.Np Z fun aG w Z=>.r 2<|.d<|.s<|.s<|.g<|RG.Ln 1 Z<|RG.C0 (Kt ix (Z.a 3) (Z.a 2) p0 p1) Z fun w Z=>.r 3<|RG.C0 (FG n (Z.a 1)) Z fun w Z=>?_
 cases aF:(At n)
 ·refine .r 2<|.d<|.ct<|.s<|.g<|.r 1<|RG.Ss 0 Z fun w Z=>.r 2<|.d ?_
  have Z:=(Z.sZ (List Tag) 0 0).sZ Pst 1 0
  exact T.r3 func123 results123 (.B 0 Z) (.t (vI 0)) (.t (.bool false)) ⟨⟨_,(Mp rfl (congrArg (Value.int .i64) (by rw [NC ‹_›])) (AG (by rw [NC ‹_›]))),Z.rD 1 [0,1] (⟨([]:List (List Tag)),([]:List Pst)⟩:Idx) [(none,0),(none,0)] (by rw [NC ‹_›])⟩,Z.xt⟩
 refine .r 2<|.d<|.cf<|.sk<|.s<|.s<|.g<|.r 1<|RG.Lb 1 Z<|.r 1<|RG.C0 (GK ix.names n (Z.a 3) (Z.a 1)) Z fun w Z=>.r 1<|.d<|.s<|.g<|.r 1<|.bp ((DP n 0 ix.names+1) > 0) (fun aa=>.d<|.ct<|.s<|.g<|.r 1<|RG.Lb 1 Z<|RG.DD 0 0 (CN ix.names (Z.a 3) (by exact p0.nm) (by exact p1)) Z fun ae af ag ah w Z=>.r 1<|RG.Ss 0 Z fun w Z=>.r 2<|.d<|T.r3 func123 results123 (.B 0 Z) (.t (vI (DP n 0 ix.names+1))) (.t (.bool true)) ⟨⟨_,(Mp rfl (congrArg (Value.int .i64) (by (rw [Kq p0 ‹_› ‹_›]; done))) (AG (by (rw [Kq p0 ‹_› ‹_›]; done)))),Z.rD 0 [1,1] (idxOf ix.names) [(ae,af),(ag,ah)] (by (rw [Kq p0 ‹_› ‹_›]; done))⟩,Z.xt⟩) fun aa=>.d<|.cf<|.sk<|.s<|.s<|.g<|.r 1<|RG.Lb 1 Z<|.r 1<|.eq (ix.names.length:Int) 6 (fun ab=>.d<|.ct<|.s<|.g<|.r 1<|RG.Lb 1 Z<|RG.DD 0 0 (CN ix.names (Z.a 3) (by exact p0.nm) (by exact p1)) Z fun ai aj ak am w Z=>RG.Ss 0 Z fun w Z=>.r 2<|.d<|T.r3 func123 results123 (.B 0 Z) (.t (vI 0)) (.t (.bool false)) ⟨⟨_,(Mp rfl (congrArg (Value.int .i64) (by (rw [JC p0 ‹_› ‹_› ‹_›]; done))) (AG (by (rw [JC p0 ‹_› ‹_› ‹_›]; done)))),Z.rD 0 [1,1] (idxOf ix.names) [(ai,aj),(ak,am)] (by (rw [JC p0 ‹_› ‹_› ‹_›]; done))⟩,Z.xt⟩) fun ab=>.d<|.cf<|.sk<|.s<|T.GS 12 [ac] Z fun _ w Z=>.r [0]<|GA.Lb 1 1 Z<|.r [3,7]<|GA.Lb 8 1 Z<|.r [9]<|GA.int (i:=10) ((ix.names.length:Int)+1) AA (by have:=p0.nm.len; omega)<|.tw 2 4 ?_ ?_
 ·exact GE.CO 1 (fun w Z=>BH ix.names (Z.a 3) (by have:=p0.nm.len; omega) (fun n hn=>by have:=(p0.nm.sz n hn).1; omega)) Z fun aH aI w Z=>.go 4<|GE.Nb 1 Z fun aJ w Z=>.go 5<|GE.Ap (hs:=by exact (by have:=p0.nm.len; omega)) 0 0 ix.names n [1] [2] Z fun aK aL w Z=>.go 6<|GE.DD 0 0 (fun w Z=>CN (ix.names++[n]) (Z.oa 0) (by exact NmI.XG p0 ‹_› ‹_› ‹_›) (by exact p1.add (TA ‹_›))) Z fun ao aq ar ax w Z=>.go 11<|GE.Ss 1 [2] Z fun w Z=>GA.Do Z fun w Z=>.r 2<|.d<|T.r3 func123 results123 (.B 1 Z) (.t (vI ((ix.names.length:Int)+1))) (.t (.bool true)) ⟨⟨_,(Mp rfl (congrArg (Value.int .i64) (by (rw [Fa p0 ‹_› ‹_› ‹_›]; done))) (AG (by (rw [Fa p0 ‹_› ‹_› ‹_›]; done)))),Z.rD 0 [1,1] (idxOf (ix.names++[n])) [(ao,aq),(ar,ax)] (by (rw [Fa p0 ‹_› ‹_› ‹_›]; done))⟩,Z.xt⟩
 exact GE.Nb 1 Z fun aM w Z=>.go 2<|GE.CO 1 (fun w Z=>BH ix.names (Z.a 3) (by have:=p0.nm.len; omega) (fun n hn=>by have:=(p0.nm.sz n hn).1; omega)) Z fun aN aO w Z=>.go 5<|GE.Ap (hs:=by exact (by have:=p0.nm.len; omega)) 0 1 ix.names n [1] [2] Z fun aP aQ w Z=>.go 6<|GE.DD 0 0 (fun w Z=>CN (ix.names++[n]) (Z.oa 0) (by exact NmI.XG p0 ‹_› ‹_› ‹_›) (by exact p1.add (TA ‹_›))) Z fun ay az aA aB w Z=>.go 11<|GE.Ss 1 [2] Z fun w Z=>GA.Do Z fun w Z=>.r 2<|.d<|T.r3 func123 results123 (.B 1 Z) (.t (vI ((ix.names.length:Int)+1))) (.t (.bool true)) ⟨⟨_,(Mp rfl (congrArg (Value.int .i64) (by (rw [Fa p0 ‹_› ‹_› ‹_›]; done))) (AG (by (rw [Fa p0 ‹_› ‹_› ‹_›]; done)))),Z.rD 0 [1,1] (idxOf (ix.names++[n])) [(ay,az),(aA,aB)] (by (rw [Fa p0 ‹_› ‹_› ‹_›]; done))⟩,Z.xt⟩
theorem Fj (d:Dsk) (h1:RepS w F a1 n1 c1 d.files) (h2:RepS w F a2 n2 c2 d.list) (h3:RepS w F a3 n3 c3 d.names) (p0:d.files.length≤1000) (p1:∀ f∈d.files,CK f.part) (p2:d.list.length≤1000) (p3:d.names.length≤1000) (p4:∀ n∈d.names,n.length≤1000):Calls Tryz.prog 44 [.agg #[.slice a1 n1 c1,.slice a2 n2 c2,.slice a3 n3 c3,.int .i64 d.next]].toArray w (Ag fun rv w'=>(∃ (r0 c0:Nat) (hs0:List (Hd 2)) (a1:Option Addr) (c1:Nat) (a2:Option Addr) (c2:Nat),rv=.agg #[.slice (some ⟨r0,0,none⟩) d.files.length c0,.slice a1 d.list.length c1,.slice a2 d.names.length c2,.int .i64 (d.next)]∧VX w.heap.size w' [.raw 0 r0 148 c0 (d.files) hs0] [.e (d.files) hs0,.s a1 c1 (d.list),.s a2 c2 (d.names)])∧Ext w w'):=by
 cases h1.len
 cases h2.len
 cases h3.len
 refine goT func44 ?_
 have Z:=(((St.i0 F w).p h1).p h2).p h3
 have Z:=Z.s0 0
 refine .s<|.g<|RG.Np Z fun ah w Z=>RG.Np Z fun ag w Z=>.d<|.s<|T.GS 12 [ag,ah] Z fun _ w Z=>.r [2]<|GA.Lb (q:=1) 3 1 Z<|.r [5]<|GA.Lb (q:=1) 6 1 Z<|.r [8]<|GA.Lb (q:=1) 9 1 Z<|GE.many [0,1,11] AA (all_cons ?_ (all_cons ?_ (all_cons ?_ all_nil)))
 ·refine GE.N0 (Hd 2) 0 Z fun dR w Z=>?_
  have Z:=Z.o2r 0 0 Fil 2
  refine .tw 1 11 ?_ ?_
  ·refine GE.N0 Int 0 Z fun o5 w Z=>.tw 4 11 ?_ ?_
   ·refine GE.An (hf:=.inr Au) 0 3 ([]:List Int) d.list [2,3] Z fun e8 fa w Z=>.tw 7 11 ?_ ?_
    ·refine GE.DB 0 0 (fun w Z=>Al d.names (Z.a 2) AB (fun n hn=>by have:=p4 n hn; omega)) Z fun iV iW fb w Z=>.r [10]<|.go 11<|GE.Np Z fun d3 w Z=>GA.Do Z fun w Z=>RG.Ss 0 Z fun w Z=>.d<|.s<|.s<|.g<|.r 1<|RG.Lb 5 Z<|.r 2<|.d<|.b 0<|T.Lp ((0:Nat),([]:List Fil),dR,(0:Nat),([]:List (Hd 2)),(([]++d.list):List Int),e8,fa,(d.names:List (List Tag)),iV,iW,fb,d.next) (fun (k,aa,r_out_0,c_out_0,hs,ac,r_out_1,c_out_1,ab,r_out_2,c_out_2,af,ae)=>([(2,vP ag),(3,vP d3),(18,.slice a1 d.files.length c1),(19,vI (d.files.length:Int)),(20,vI (k:Int))],[(0,.box d3 35 [vS r_out_0 aa.length c_out_0,vS r_out_1 ac.length c_out_1,vS r_out_2 ab.length c_out_2,vI ae]),(1,.raw 0 r_out_2 69 c_out_2 ab af),(2,.own 0 r_out_1 3 c_out_1 ac),(3,.raw 0 r_out_0 148 c_out_0 aa hs)],[⟨0,none,.sep [.e ab af,.e aa hs]⟩],d.files.length - k,(k≤d.files.length)∧(aa.length≤k)∧(aa++d.files.drop k=d.files)∧(ac=d.list)∧(ab=d.names)∧(ae=d.next))) [0] Z ⟨AB,AD,AF,AF,AF,AB⟩ ?_
     rintro ⟨k,aa,r_out_0,c_out_0,hs,ac,r_out_1,c_out_1,ab,r_out_2,c_out_2,af,ae⟩ o6 w Z ⟨lL,lM,lN,lO,lP,lQ⟩ dw
     refine .s<|.g<|.bp ((k:Int)< (d.files.length:Int)) (fun fd=>?_) (fun fd=>?_)
     ·refine .d<|.s<|.ct<|.sk<|.s<|.b 1<|.s<|.g<|gx d.files k fun aN cT=>?_
      have lR:=AZ cT; have iT:=AV cT
      refine RG.Ix 6 cT Z<|Z.el 6 cT fun o7 o8 o9 pa Z=>RG.Lg 0 0 Z<|RG.Np Z fun iX w Z=>RG.Ss 0 Z fun w Z=>.d<|T.GS 9 [iX,d3,ag,ah] Z fun _ w Z=>.r [0]<|GA.Lb (q:=1) 1 1 Z<|.r [2]<|GA.Lb 3 0 Z<|.r [4]<|GA.Ln 5 0 Z<|.go 6<|GE.DD 3 0 (fun w Z=>Ai aN.part (Z.a 1) (Z.a 2) (p1 _ ‹_›)) Z fun dx dy dA dB w Z=>.r [7]<|.go 8<|GE.Nb 1 Z fun pc w Z=>GA.Do Z fun w Z=>RG.Ar 4 0 aa aN hs (⟨Shp.cells aN ([(dx,dy),(dA,dB)]:List (Option Addr × Nat)),AA⟩:Hd 2) Z fun iY iZ w Z=>?_
      have Z:=Z.eA 0 0 [3,2,2] aa hs (⟨Shp.cells aN ([(dx,dy),(dA,dB)]:List (Option Addr × Nat)),AA⟩:Hd 2) aN ([(dx,dy),(dA,dB)]:List (Option Addr × Nat))
      refine .r 1<|RG.Ss 1 Z fun w Z=>.d<|.ib 1<|.g<|.it ((k:Int)+1)<|.r 1<|.d ?_
      have Z:=Z.sM 0 0 [0,1] [.e ab af,.e (aa++[aN]) (hs++[(⟨Shp.cells aN ([(dx,dy),(dA,dB)]:List (Option Addr × Nat)),AA⟩:Hd 2)])]
      exact dw (k+1,(aa++[aN]),iY,iZ,(hs++[(⟨Shp.cells aN ([(dx,dy),(dA,dB)]:List (Option Addr × Nat)),AA⟩:Hd 2)]),ac,r_out_1,c_out_1,ab,r_out_2,c_out_2,af,ae) _ _ AA (Z.to 1 [0] 9) ⟨AB,(by (simp; omega)),(by exact Ce ‹_› ‹_›),‹_›,‹_›,‹_›⟩ (by (simp only []; omega))
     refine .d<|.s<|.cf<|.x 0 rfl<|.s<|.g<|RG.Ln 0 Z<|RG.Ss 4 Z fun w Z=>.d ?_
     have Z:=(Z.fL 2 0 0 ac).eL 1 1 0 [1] ab af
     exact T.Rb 2 func44 results44 Z ⟨⟨r_out_0,c_out_0,hs,(some ⟨r_out_1,0,none⟩),c_out_1,(some ⟨r_out_2,0,none⟩),c_out_2,by rw [show d.files=aa from Eq.symm (by exact BN ‹_› AB),show d.list=ac from Eq.symm ‹_›,show d.names=ab from Eq.symm ‹_›,show d.next=ae from Eq.symm ‹_›]; kernel_rfl,by rw [show d.files=aa from Eq.symm (by exact BN ‹_› AB),show d.list=ac from Eq.symm ‹_›,show d.names=ab from Eq.symm ‹_›]; exact Z.rX 1 [0,1,2] [1] _ _ AE⟩,Z.xt⟩
    refine GE.Np Z fun d4 w Z=>.go 7<|GE.DB 0 0 (fun w Z=>Al d.names (Z.a 2) AB (fun n hn=>by have:=p4 n hn; omega)) Z fun ja jb fe w Z=>.r [10]<|GA.Do Z fun w Z=>RG.Ss 1 Z fun w Z=>.d<|.s<|.s<|.g<|.r 1<|RG.Lb 5 Z<|.r 2<|.d<|.b 0<|T.Lp ((0:Nat),([]:List Fil),dR,(0:Nat),([]:List (Hd 2)),(([]++d.list):List Int),e8,fa,(d.names:List (List Tag)),ja,jb,fe,d.next) (fun (k,aa,r_out_0,c_out_0,hs,ac,r_out_1,c_out_1,ab,r_out_2,c_out_2,af,ae)=>([(2,vP ag),(3,vP d4),(18,.slice a1 d.files.length c1),(19,vI (d.files.length:Int)),(20,vI (k:Int))],[(0,.raw 0 r_out_2 69 c_out_2 ab af),(1,.box d4 35 [vS r_out_0 aa.length c_out_0,vS r_out_1 ac.length c_out_1,vS r_out_2 ab.length c_out_2,vI ae]),(2,.own 0 r_out_1 3 c_out_1 ac),(3,.raw 0 r_out_0 148 c_out_0 aa hs)],[⟨0,none,.sep [.e ab af,.e aa hs]⟩],d.files.length - k,(k≤d.files.length)∧(aa.length≤k)∧(aa++d.files.drop k=d.files)∧(ac=d.list)∧(ab=d.names)∧(ae=d.next))) [0] Z ⟨AB,AD,AF,AF,AF,AB⟩ ?_
    rintro ⟨k,aa,r_out_0,c_out_0,hs,ac,r_out_1,c_out_1,ab,r_out_2,c_out_2,af,ae⟩ pd w Z ⟨lS,lT,lU,lV,lW,lX⟩ dC
    refine .s<|.g<|.bp ((k:Int)< (d.files.length:Int)) (fun ff=>?_) (fun ff=>?_)
    ·refine .d<|.s<|.ct<|.sk<|.s<|.b 1<|.s<|.g<|gx d.files k fun aO cU=>?_
     have lY:=AZ cU; have iU:=AV cU
     refine RG.Ix 6 cU Z<|Z.el 6 cU fun pe pf pg ph Z=>RG.Lg 0 0 Z<|RG.Np Z fun jc w Z=>RG.Ss 0 Z fun w Z=>.d<|T.GS 9 [jc,d4,ag,ah] Z fun _ w Z=>.r [0]<|GA.Lb (q:=1) 1 2 Z<|.r [2]<|GA.Lb 3 0 Z<|.r [4]<|GA.Ln 5 0 Z<|.go 6<|GE.DD 3 0 (fun w Z=>Ai aO.part (Z.a 1) (Z.a 2) (p1 _ ‹_›)) Z fun dD dE dF dG w Z=>.r [7]<|.go 8<|GE.Nb 1 Z fun pi w Z=>GA.Do Z fun w Z=>RG.Ar 4 0 aa aO hs (⟨Shp.cells aO ([(dD,dE),(dF,dG)]:List (Option Addr × Nat)),AA⟩:Hd 2) Z fun jd je w Z=>?_
     have Z:=Z.eA 0 0 [3,2,2] aa hs (⟨Shp.cells aO ([(dD,dE),(dF,dG)]:List (Option Addr × Nat)),AA⟩:Hd 2) aO ([(dD,dE),(dF,dG)]:List (Option Addr × Nat))
     refine .r 1<|RG.Ss 2 Z fun w Z=>.d<|.ib 1<|.g<|.it ((k:Int)+1)<|.r 1<|.d ?_
     have Z:=Z.sM 0 0 [0,1] [.e ab af,.e (aa++[aO]) (hs++[(⟨Shp.cells aO ([(dD,dE),(dF,dG)]:List (Option Addr × Nat)),AA⟩:Hd 2)])]
     exact dC (k+1,(aa++[aO]),jd,je,(hs++[(⟨Shp.cells aO ([(dD,dE),(dF,dG)]:List (Option Addr × Nat)),AA⟩:Hd 2)]),ac,r_out_1,c_out_1,ab,r_out_2,c_out_2,af,ae) _ _ AA (Z.to 1 [0] 9) ⟨AB,(by (simp; omega)),(by exact Ce ‹_› ‹_›),‹_›,‹_›,‹_›⟩ (by (simp only []; omega))
    refine .d<|.s<|.cf<|.x 0 rfl<|.s<|.g<|RG.Ln 1 Z<|RG.Ss 4 Z fun w Z=>.d ?_
    have Z:=(Z.fL 2 0 0 ac).eL 0 1 0 [1] ab af
    exact T.Rb 2 func44 results44 Z ⟨⟨r_out_0,c_out_0,hs,(some ⟨r_out_1,0,none⟩),c_out_1,(some ⟨r_out_2,0,none⟩),c_out_2,by rw [show d.files=aa from Eq.symm (by exact BN ‹_› AB),show d.list=ac from Eq.symm ‹_›,show d.names=ab from Eq.symm ‹_›,show d.next=ae from Eq.symm ‹_›]; kernel_rfl,by rw [show d.files=aa from Eq.symm (by exact BN ‹_› AB),show d.list=ac from Eq.symm ‹_›,show d.names=ab from Eq.symm ‹_›]; exact Z.rX 1 [0,1,2] [1] _ _ AE⟩,Z.xt⟩
   refine GE.Np Z fun d5 w Z=>.go 4<|GE.An (hf:=.inr Au) 1 3 ([]:List Int) d.list [3,4] Z fun jf jg w Z=>.go 7<|GE.DB 0 0 (fun w Z=>Al d.names (Z.a 2) AB (fun n hn=>by have:=p4 n hn; omega)) Z fun jh ji fg w Z=>.r [10]<|GA.Do Z fun w Z=>RG.Ss 1 Z fun w Z=>.d<|.s<|.s<|.g<|.r 1<|RG.Lb 5 Z<|.r 2<|.d<|.b 0<|T.Lp ((0:Nat),([]:List Fil),dR,(0:Nat),([]:List (Hd 2)),(([]++d.list):List Int),jf,jg,(d.names:List (List Tag)),jh,ji,fg,d.next) (fun (k,aa,r_out_0,c_out_0,hs,ac,r_out_1,c_out_1,ab,r_out_2,c_out_2,af,ae)=>([(2,vP ag),(3,vP d5),(18,.slice a1 d.files.length c1),(19,vI (d.files.length:Int)),(20,vI (k:Int))],[(0,.raw 0 r_out_2 69 c_out_2 ab af),(1,.box d5 35 [vS r_out_0 aa.length c_out_0,vS r_out_1 ac.length c_out_1,vS r_out_2 ab.length c_out_2,vI ae]),(2,.own 0 r_out_1 3 c_out_1 ac),(3,.raw 0 r_out_0 148 c_out_0 aa hs)],[⟨0,none,.sep [.e ab af,.e aa hs]⟩],d.files.length - k,(k≤d.files.length)∧(aa.length≤k)∧(aa++d.files.drop k=d.files)∧(ac=d.list)∧(ab=d.names)∧(ae=d.next))) [0] Z ⟨AB,AD,AF,AF,AF,AB⟩ ?_
   rintro ⟨k,aa,r_out_0,c_out_0,hs,ac,r_out_1,c_out_1,ab,r_out_2,c_out_2,af,ae⟩ lZ w Z ⟨l3,l4,l6,jj,jk,jl⟩ cV
   refine .s<|.g<|.bp ((k:Int)< (d.files.length:Int)) (fun d6=>?_) (fun d6=>?_)
   ·refine .d<|.s<|.ct<|.sk<|.s<|.b 1<|.s<|.g<|gx d.files k fun aj aP=>?_
    have jm:=AZ aP; have fi:=AV aP
    refine RG.Ix 6 aP Z<|Z.el 6 aP fun l7 l8 l9 mh Z=>RG.Lg 0 0 Z<|RG.Np Z fun fj w Z=>RG.Ss 0 Z fun w Z=>.d<|T.GS 9 [fj,d5,ag,ah] Z fun _ w Z=>.r [0]<|GA.Lb (q:=1) 1 2 Z<|.r [2]<|GA.Lb 3 0 Z<|.r [4]<|GA.Ln 5 0 Z<|.go 6<|GE.DD 3 0 (fun w Z=>Ai aj.part (Z.a 1) (Z.a 2) (p1 _ ‹_›)) Z fun bn bo bq br w Z=>.r [7]<|.go 8<|GE.Nb 1 Z fun mj w Z=>GA.Do Z fun w Z=>RG.Ar 4 0 aa aj hs (⟨Shp.cells aj ([(bn,bo),(bq,br)]:List (Option Addr × Nat)),AA⟩:Hd 2) Z fun fm fp w Z=>?_
    have Z:=Z.eA 0 0 [3,2,2] aa hs (⟨Shp.cells aj ([(bn,bo),(bq,br)]:List (Option Addr × Nat)),AA⟩:Hd 2) aj ([(bn,bo),(bq,br)]:List (Option Addr × Nat))
    refine .r 1<|RG.Ss 2 Z fun w Z=>.d<|.ib 1<|.g<|.it ((k:Int)+1)<|.r 1<|.d ?_
    have Z:=Z.sM 0 0 [0,1] [.e ab af,.e (aa++[aj]) (hs++[(⟨Shp.cells aj ([(bn,bo),(bq,br)]:List (Option Addr × Nat)),AA⟩:Hd 2)])]
    exact cV (k+1,(aa++[aj]),fm,fp,(hs++[(⟨Shp.cells aj ([(bn,bo),(bq,br)]:List (Option Addr × Nat)),AA⟩:Hd 2)]),ac,r_out_1,c_out_1,ab,r_out_2,c_out_2,af,ae) _ _ AA (Z.to 1 [0] 9) ⟨AB,(by (simp; omega)),(by exact Ce ‹_› ‹_›),‹_›,‹_›,‹_›⟩ (by (simp only []; omega))
   refine .d<|.s<|.cf<|.x 0 rfl<|.s<|.g<|RG.Ln 1 Z<|RG.Ss 4 Z fun w Z=>.d ?_
   have Z:=(Z.fL 2 0 0 ac).eL 0 1 0 [1] ab af
   exact T.Rb 2 func44 results44 Z ⟨⟨r_out_0,c_out_0,hs,(some ⟨r_out_1,0,none⟩),c_out_1,(some ⟨r_out_2,0,none⟩),c_out_2,by rw [show d.files=aa from Eq.symm (by exact BN ‹_› AB),show d.list=ac from Eq.symm ‹_›,show d.names=ab from Eq.symm ‹_›,show d.next=ae from Eq.symm ‹_›]; kernel_rfl,by rw [show d.files=aa from Eq.symm (by exact BN ‹_› AB),show d.list=ac from Eq.symm ‹_›,show d.names=ab from Eq.symm ‹_›]; exact Z.rX 1 [0,1,2] [1] _ _ AE⟩,Z.xt⟩
  refine GE.Np Z fun dH w Z=>.go 1<|GE.N0 Int 0 Z fun mp w Z=>.go 4<|GE.An (hf:=.inr Au) 0 3 ([]:List Int) d.list [3,4] Z fun fq fu w Z=>.go 7<|GE.DB 0 0 (fun w Z=>Al d.names (Z.a 2) AB (fun n hn=>by have:=p4 n hn; omega)) Z fun fv fw d7 w Z=>.r [10]<|GA.Do Z fun w Z=>RG.Ss 2 Z fun w Z=>.d<|.s<|.s<|.g<|.r 1<|RG.Lb 5 Z<|.r 2<|.d<|.b 0<|T.Lp ((0:Nat),([]:List Fil),dR,(0:Nat),([]:List (Hd 2)),(([]++d.list):List Int),fq,fu,(d.names:List (List Tag)),fv,fw,d7,d.next) (fun (k,aa,r_out_0,c_out_0,hs,ac,r_out_1,c_out_1,ab,r_out_2,c_out_2,af,ae)=>([(2,vP ag),(3,vP dH),(18,.slice a1 d.files.length c1),(19,vI (d.files.length:Int)),(20,vI (k:Int))],[(0,.raw 0 r_out_2 69 c_out_2 ab af),(1,.own 0 r_out_1 3 c_out_1 ac),(2,.box dH 35 [vS r_out_0 aa.length c_out_0,vS r_out_1 ac.length c_out_1,vS r_out_2 ab.length c_out_2,vI ae]),(3,.raw 0 r_out_0 148 c_out_0 aa hs)],[⟨0,none,.sep [.e ab af,.e aa hs]⟩],d.files.length - k,(k≤d.files.length)∧(aa.length≤k)∧(aa++d.files.drop k=d.files)∧(ac=d.list)∧(ab=d.names)∧(ae=d.next))) [0] Z ⟨AB,AD,AF,AF,AF,AB⟩ ?_
  rintro ⟨k,aa,r_out_0,c_out_0,hs,ac,r_out_1,c_out_1,ab,r_out_2,c_out_2,af,ae⟩ mq w Z ⟨jn,jo,jp,jq,jr,jt⟩ cW
  refine .s<|.g<|.bp ((k:Int)< (d.files.length:Int)) (fun d8=>?_) (fun d8=>?_)
  ·refine .d<|.s<|.ct<|.sk<|.s<|.b 1<|.s<|.g<|gx d.files k fun ak aQ=>?_
   have ju:=AZ aQ; have fA:=AV aQ
   refine RG.Ix 6 aQ Z<|Z.el 6 aQ fun mu mw mz mA Z=>RG.Lg 0 0 Z<|RG.Np Z fun fB w Z=>RG.Ss 0 Z fun w Z=>.d<|T.GS 9 [fB,dH,ag,ah] Z fun _ w Z=>.r [0]<|GA.Lb (q:=1) 1 3 Z<|.r [2]<|GA.Lb 3 0 Z<|.r [4]<|GA.Ln 5 0 Z<|.go 6<|GE.DD 3 0 (fun w Z=>Ai ak.part (Z.a 1) (Z.a 2) (p1 _ ‹_›)) Z fun bu bv bw bz w Z=>.r [7]<|.go 8<|GE.Nb 1 Z fun mB w Z=>GA.Do Z fun w Z=>RG.Ar 4 0 aa ak hs (⟨Shp.cells ak ([(bu,bv),(bw,bz)]:List (Option Addr × Nat)),AA⟩:Hd 2) Z fun fC fD w Z=>?_
   have Z:=Z.eA 0 0 [3,2,2] aa hs (⟨Shp.cells ak ([(bu,bv),(bw,bz)]:List (Option Addr × Nat)),AA⟩:Hd 2) ak ([(bu,bv),(bw,bz)]:List (Option Addr × Nat))
   refine .r 1<|RG.Ss 3 Z fun w Z=>.d<|.ib 1<|.g<|.it ((k:Int)+1)<|.r 1<|.d ?_
   have Z:=Z.sM 0 0 [0,1] [.e ab af,.e (aa++[ak]) (hs++[(⟨Shp.cells ak ([(bu,bv),(bw,bz)]:List (Option Addr × Nat)),AA⟩:Hd 2)])]
   exact cW (k+1,(aa++[ak]),fC,fD,(hs++[(⟨Shp.cells ak ([(bu,bv),(bw,bz)]:List (Option Addr × Nat)),AA⟩:Hd 2)]),ac,r_out_1,c_out_1,ab,r_out_2,c_out_2,af,ae) _ _ AA (Z.to 1 [0] 9) ⟨AB,(by (simp; omega)),(by exact Ce ‹_› ‹_›),‹_›,‹_›,‹_›⟩ (by (simp only []; omega))
  refine .d<|.s<|.cf<|.x 0 rfl<|.s<|.g<|RG.Ln 2 Z<|RG.Ss 4 Z fun w Z=>.d ?_
  have Z:=(Z.fL 1 0 0 ac).eL 0 1 0 [1] ab af
  exact T.Rb 2 func44 results44 Z ⟨⟨r_out_0,c_out_0,hs,(some ⟨r_out_1,0,none⟩),c_out_1,(some ⟨r_out_2,0,none⟩),c_out_2,by rw [show d.files=aa from Eq.symm (by exact BN ‹_› AB),show d.list=ac from Eq.symm ‹_›,show d.names=ab from Eq.symm ‹_›,show d.next=ae from Eq.symm ‹_›]; kernel_rfl,by rw [show d.files=aa from Eq.symm (by exact BN ‹_› AB),show d.list=ac from Eq.symm ‹_›,show d.names=ab from Eq.symm ‹_›]; exact Z.rX 1 [0,1,2] [1] _ _ AE⟩,Z.xt⟩
 ·refine GE.N0 Int 0 Z fun mC w Z=>GE.many [0,4,11] AA (all_cons ?_ (all_cons ?_ (all_cons ?_ all_nil)))
  ·refine GE.N0 (Hd 2) 0 Z fun dI w Z=>?_
   have Z:=Z.o2r 0 0 Fil 2
   refine .tw 4 11 ?_ ?_
   ·refine GE.An (hf:=.inr Au) 1 3 ([]:List Int) d.list [2,3] Z fun dS dT w Z=>.tw 7 11 ?_ ?_
    ·refine GE.DB 0 0 (fun w Z=>Al d.names (Z.a 2) AB (fun n hn=>by have:=p4 n hn; omega)) Z fun fE fF d9 w Z=>.r [10]<|.go 11<|GE.Np Z fun dJ w Z=>GA.Do Z fun w Z=>RG.Ss 0 Z fun w Z=>.d<|.s<|.s<|.g<|.r 1<|RG.Lb 5 Z<|.r 2<|.d<|.b 0<|T.Lp ((0:Nat),([]:List Fil),dI,(0:Nat),([]:List (Hd 2)),(([]++d.list):List Int),dS,dT,(d.names:List (List Tag)),fE,fF,d9,d.next) (fun (k,aa,r_out_0,c_out_0,hs,ac,r_out_1,c_out_1,ab,r_out_2,c_out_2,af,ae)=>([(2,vP ag),(3,vP dJ),(18,.slice a1 d.files.length c1),(19,vI (d.files.length:Int)),(20,vI (k:Int))],[(0,.box dJ 35 [vS r_out_0 aa.length c_out_0,vS r_out_1 ac.length c_out_1,vS r_out_2 ab.length c_out_2,vI ae]),(1,.raw 0 r_out_2 69 c_out_2 ab af),(2,.raw 0 r_out_0 148 c_out_0 aa hs),(3,.own 0 r_out_1 3 c_out_1 ac)],[⟨0,none,.sep [.e ab af,.e aa hs]⟩],d.files.length - k,(k≤d.files.length)∧(aa.length≤k)∧(aa++d.files.drop k=d.files)∧(ac=d.list)∧(ab=d.names)∧(ae=d.next))) [0] Z ⟨AB,AD,AF,AF,AF,AB⟩ ?_
     rintro ⟨k,aa,r_out_0,c_out_0,hs,ac,r_out_1,c_out_1,ab,r_out_2,c_out_2,af,ae⟩ mD w Z ⟨jv,jw,jx,jy,jz,jA⟩ cX
     refine .s<|.g<|.bp ((k:Int)< (d.files.length:Int)) (fun ec=>?_) (fun ec=>?_)
     ·refine .d<|.s<|.ct<|.sk<|.s<|.b 1<|.s<|.g<|gx d.files k fun am aR=>?_
      have jB:=AZ aR; have fG:=AV aR
      refine RG.Ix 6 aR Z<|Z.el 6 aR fun mE mF mG mH Z=>RG.Lg 0 0 Z<|RG.Np Z fun fH w Z=>RG.Ss 0 Z fun w Z=>.d<|T.GS 9 [fH,dJ,ag,ah] Z fun _ w Z=>.r [0]<|GA.Lb (q:=1) 1 1 Z<|.r [2]<|GA.Lb 3 0 Z<|.r [4]<|GA.Ln 5 0 Z<|.go 6<|GE.DD 3 0 (fun w Z=>Ai am.part (Z.a 1) (Z.a 2) (p1 _ ‹_›)) Z fun bA bC bD bE w Z=>.r [7]<|.go 8<|GE.Nb 1 Z fun mI w Z=>GA.Do Z fun w Z=>RG.Ar 3 0 aa am hs (⟨Shp.cells am ([(bA,bC),(bD,bE)]:List (Option Addr × Nat)),AA⟩:Hd 2) Z fun fI fJ w Z=>?_
      have Z:=Z.eA 0 0 [3,2,2] aa hs (⟨Shp.cells am ([(bA,bC),(bD,bE)]:List (Option Addr × Nat)),AA⟩:Hd 2) am ([(bA,bC),(bD,bE)]:List (Option Addr × Nat))
      refine .r 1<|RG.Ss 1 Z fun w Z=>.d<|.ib 1<|.g<|.it ((k:Int)+1)<|.r 1<|.d ?_
      have Z:=Z.sM 0 0 [0,1] [.e ab af,.e (aa++[am]) (hs++[(⟨Shp.cells am ([(bA,bC),(bD,bE)]:List (Option Addr × Nat)),AA⟩:Hd 2)])]
      exact cX (k+1,(aa++[am]),fI,fJ,(hs++[(⟨Shp.cells am ([(bA,bC),(bD,bE)]:List (Option Addr × Nat)),AA⟩:Hd 2)]),ac,r_out_1,c_out_1,ab,r_out_2,c_out_2,af,ae) _ _ AA (Z.to 1 [0] 9) ⟨AB,(by (simp; omega)),(by exact Ce ‹_› ‹_›),‹_›,‹_›,‹_›⟩ (by (simp only []; omega))
     refine .d<|.s<|.cf<|.x 0 rfl<|.s<|.g<|RG.Ln 0 Z<|RG.Ss 4 Z fun w Z=>.d ?_
     have Z:=(Z.fL 3 0 0 ac).eL 1 1 0 [1] ab af
     exact T.Rb 2 func44 results44 Z ⟨⟨r_out_0,c_out_0,hs,(some ⟨r_out_1,0,none⟩),c_out_1,(some ⟨r_out_2,0,none⟩),c_out_2,by rw [show d.files=aa from Eq.symm (by exact BN ‹_› AB),show d.list=ac from Eq.symm ‹_›,show d.names=ab from Eq.symm ‹_›,show d.next=ae from Eq.symm ‹_›]; kernel_rfl,by rw [show d.files=aa from Eq.symm (by exact BN ‹_› AB),show d.list=ac from Eq.symm ‹_›,show d.names=ab from Eq.symm ‹_›]; exact Z.rX 1 [0,1,2] [1] _ _ AE⟩,Z.xt⟩
    refine GE.Np Z fun dK w Z=>.go 7<|GE.DB 0 0 (fun w Z=>Al d.names (Z.a 2) AB (fun n hn=>by have:=p4 n hn; omega)) Z fun fK fM ee w Z=>.r [10]<|GA.Do Z fun w Z=>RG.Ss 1 Z fun w Z=>.d<|.s<|.s<|.g<|.r 1<|RG.Lb 5 Z<|.r 2<|.d<|.b 0<|T.Lp ((0:Nat),([]:List Fil),dI,(0:Nat),([]:List (Hd 2)),(([]++d.list):List Int),dS,dT,(d.names:List (List Tag)),fK,fM,ee,d.next) (fun (k,aa,r_out_0,c_out_0,hs,ac,r_out_1,c_out_1,ab,r_out_2,c_out_2,af,ae)=>([(2,vP ag),(3,vP dK),(18,.slice a1 d.files.length c1),(19,vI (d.files.length:Int)),(20,vI (k:Int))],[(0,.raw 0 r_out_2 69 c_out_2 ab af),(1,.box dK 35 [vS r_out_0 aa.length c_out_0,vS r_out_1 ac.length c_out_1,vS r_out_2 ab.length c_out_2,vI ae]),(2,.raw 0 r_out_0 148 c_out_0 aa hs),(3,.own 0 r_out_1 3 c_out_1 ac)],[⟨0,none,.sep [.e ab af,.e aa hs]⟩],d.files.length - k,(k≤d.files.length)∧(aa.length≤k)∧(aa++d.files.drop k=d.files)∧(ac=d.list)∧(ab=d.names)∧(ae=d.next))) [0] Z ⟨AB,AD,AF,AF,AF,AB⟩ ?_
    rintro ⟨k,aa,r_out_0,c_out_0,hs,ac,r_out_1,c_out_1,ab,r_out_2,c_out_2,af,ae⟩ mJ w Z ⟨jC,jD,jE,jF,jG,jH⟩ cY
    refine .s<|.g<|.bp ((k:Int)< (d.files.length:Int)) (fun eg=>?_) (fun eg=>?_)
    ·refine .d<|.s<|.ct<|.sk<|.s<|.b 1<|.s<|.g<|gx d.files k fun ao aS=>?_
     have jI:=AZ aS; have fN:=AV aS
     refine RG.Ix 6 aS Z<|Z.el 6 aS fun mK mM mN mO Z=>RG.Lg 0 0 Z<|RG.Np Z fun fO w Z=>RG.Ss 0 Z fun w Z=>.d<|T.GS 9 [fO,dK,ag,ah] Z fun _ w Z=>.r [0]<|GA.Lb (q:=1) 1 2 Z<|.r [2]<|GA.Lb 3 0 Z<|.r [4]<|GA.Ln 5 0 Z<|.go 6<|GE.DD 3 0 (fun w Z=>Ai ao.part (Z.a 1) (Z.a 2) (p1 _ ‹_›)) Z fun bF bG bH bI w Z=>.r [7]<|.go 8<|GE.Nb 1 Z fun mP w Z=>GA.Do Z fun w Z=>RG.Ar 3 0 aa ao hs (⟨Shp.cells ao ([(bF,bG),(bH,bI)]:List (Option Addr × Nat)),AA⟩:Hd 2) Z fun fP fQ w Z=>?_
     have Z:=Z.eA 0 0 [3,2,2] aa hs (⟨Shp.cells ao ([(bF,bG),(bH,bI)]:List (Option Addr × Nat)),AA⟩:Hd 2) ao ([(bF,bG),(bH,bI)]:List (Option Addr × Nat))
     refine .r 1<|RG.Ss 2 Z fun w Z=>.d<|.ib 1<|.g<|.it ((k:Int)+1)<|.r 1<|.d ?_
     have Z:=Z.sM 0 0 [0,1] [.e ab af,.e (aa++[ao]) (hs++[(⟨Shp.cells ao ([(bF,bG),(bH,bI)]:List (Option Addr × Nat)),AA⟩:Hd 2)])]
     exact cY (k+1,(aa++[ao]),fP,fQ,(hs++[(⟨Shp.cells ao ([(bF,bG),(bH,bI)]:List (Option Addr × Nat)),AA⟩:Hd 2)]),ac,r_out_1,c_out_1,ab,r_out_2,c_out_2,af,ae) _ _ AA (Z.to 1 [0] 9) ⟨AB,(by (simp; omega)),(by exact Ce ‹_› ‹_›),‹_›,‹_›,‹_›⟩ (by (simp only []; omega))
    refine .d<|.s<|.cf<|.x 0 rfl<|.s<|.g<|RG.Ln 1 Z<|RG.Ss 4 Z fun w Z=>.d ?_
    have Z:=(Z.fL 3 0 0 ac).eL 0 1 0 [1] ab af
    exact T.Rb 2 func44 results44 Z ⟨⟨r_out_0,c_out_0,hs,(some ⟨r_out_1,0,none⟩),c_out_1,(some ⟨r_out_2,0,none⟩),c_out_2,by rw [show d.files=aa from Eq.symm (by exact BN ‹_› AB),show d.list=ac from Eq.symm ‹_›,show d.names=ab from Eq.symm ‹_›,show d.next=ae from Eq.symm ‹_›]; kernel_rfl,by rw [show d.files=aa from Eq.symm (by exact BN ‹_› AB),show d.list=ac from Eq.symm ‹_›,show d.names=ab from Eq.symm ‹_›]; exact Z.rX 1 [0,1,2] [1] _ _ AE⟩,Z.xt⟩
   refine GE.Np Z fun dL w Z=>.go 4<|GE.An (hf:=.inr Au) 2 3 ([]:List Int) d.list [3,4] Z fun fR fS w Z=>.go 7<|GE.DB 0 0 (fun w Z=>Al d.names (Z.a 2) AB (fun n hn=>by have:=p4 n hn; omega)) Z fun fT fU ej w Z=>.r [10]<|GA.Do Z fun w Z=>RG.Ss 1 Z fun w Z=>.d<|.s<|.s<|.g<|.r 1<|RG.Lb 5 Z<|.r 2<|.d<|.b 0<|T.Lp ((0:Nat),([]:List Fil),dI,(0:Nat),([]:List (Hd 2)),(([]++d.list):List Int),fR,fS,(d.names:List (List Tag)),fT,fU,ej,d.next) (fun (k,aa,r_out_0,c_out_0,hs,ac,r_out_1,c_out_1,ab,r_out_2,c_out_2,af,ae)=>([(2,vP ag),(3,vP dL),(18,.slice a1 d.files.length c1),(19,vI (d.files.length:Int)),(20,vI (k:Int))],[(0,.raw 0 r_out_2 69 c_out_2 ab af),(1,.box dL 35 [vS r_out_0 aa.length c_out_0,vS r_out_1 ac.length c_out_1,vS r_out_2 ab.length c_out_2,vI ae]),(2,.raw 0 r_out_0 148 c_out_0 aa hs),(3,.own 0 r_out_1 3 c_out_1 ac)],[⟨0,none,.sep [.e ab af,.e aa hs]⟩],d.files.length - k,(k≤d.files.length)∧(aa.length≤k)∧(aa++d.files.drop k=d.files)∧(ac=d.list)∧(ab=d.names)∧(ae=d.next))) [0] Z ⟨AB,AD,AF,AF,AF,AB⟩ ?_
   rintro ⟨k,aa,r_out_0,c_out_0,hs,ac,r_out_1,c_out_1,ab,r_out_2,c_out_2,af,ae⟩ mQ w Z ⟨jJ,jK,jL,jM,jN,jO⟩ cZ
   refine .s<|.g<|.bp ((k:Int)< (d.files.length:Int)) (fun ek=>?_) (fun ek=>?_)
   ·refine .d<|.s<|.ct<|.sk<|.s<|.b 1<|.s<|.g<|gx d.files k fun aq aT=>?_
    have jP:=AZ aT; have fV:=AV aT
    refine RG.Ix 6 aT Z<|Z.el 6 aT fun mR mU mV mW Z=>RG.Lg 0 0 Z<|RG.Np Z fun fW w Z=>RG.Ss 0 Z fun w Z=>.d<|T.GS 9 [fW,dL,ag,ah] Z fun _ w Z=>.r [0]<|GA.Lb (q:=1) 1 2 Z<|.r [2]<|GA.Lb 3 0 Z<|.r [4]<|GA.Ln 5 0 Z<|.go 6<|GE.DD 3 0 (fun w Z=>Ai aq.part (Z.a 1) (Z.a 2) (p1 _ ‹_›)) Z fun bJ bK bL bM w Z=>.r [7]<|.go 8<|GE.Nb 1 Z fun mX w Z=>GA.Do Z fun w Z=>RG.Ar 3 0 aa aq hs (⟨Shp.cells aq ([(bJ,bK),(bL,bM)]:List (Option Addr × Nat)),AA⟩:Hd 2) Z fun fX fY w Z=>?_
    have Z:=Z.eA 0 0 [3,2,2] aa hs (⟨Shp.cells aq ([(bJ,bK),(bL,bM)]:List (Option Addr × Nat)),AA⟩:Hd 2) aq ([(bJ,bK),(bL,bM)]:List (Option Addr × Nat))
    refine .r 1<|RG.Ss 2 Z fun w Z=>.d<|.ib 1<|.g<|.it ((k:Int)+1)<|.r 1<|.d ?_
    have Z:=Z.sM 0 0 [0,1] [.e ab af,.e (aa++[aq]) (hs++[(⟨Shp.cells aq ([(bJ,bK),(bL,bM)]:List (Option Addr × Nat)),AA⟩:Hd 2)])]
    exact cZ (k+1,(aa++[aq]),fX,fY,(hs++[(⟨Shp.cells aq ([(bJ,bK),(bL,bM)]:List (Option Addr × Nat)),AA⟩:Hd 2)]),ac,r_out_1,c_out_1,ab,r_out_2,c_out_2,af,ae) _ _ AA (Z.to 1 [0] 9) ⟨AB,(by (simp; omega)),(by exact Ce ‹_› ‹_›),‹_›,‹_›,‹_›⟩ (by (simp only []; omega))
   refine .d<|.s<|.cf<|.x 0 rfl<|.s<|.g<|RG.Ln 1 Z<|RG.Ss 4 Z fun w Z=>.d ?_
   have Z:=(Z.fL 3 0 0 ac).eL 0 1 0 [1] ab af
   exact T.Rb 2 func44 results44 Z ⟨⟨r_out_0,c_out_0,hs,(some ⟨r_out_1,0,none⟩),c_out_1,(some ⟨r_out_2,0,none⟩),c_out_2,by rw [show d.files=aa from Eq.symm (by exact BN ‹_› AB),show d.list=ac from Eq.symm ‹_›,show d.names=ab from Eq.symm ‹_›,show d.next=ae from Eq.symm ‹_›]; kernel_rfl,by rw [show d.files=aa from Eq.symm (by exact BN ‹_› AB),show d.list=ac from Eq.symm ‹_›,show d.names=ab from Eq.symm ‹_›]; exact Z.rX 1 [0,1,2] [1] _ _ AE⟩,Z.xt⟩
  ·refine GE.An (hf:=.inr Au) 0 2 ([]:List Int) d.list [1,2] Z fun aK aL w Z=>GE.many [0,7,11] AA (all_cons ?_ (all_cons ?_ (all_cons ?_ all_nil)))
   ·refine GE.N0 (Hd 2) 0 Z fun dU w Z=>?_
    have Z:=Z.o2r 0 0 Fil 2
    refine .tw 7 11 ?_ ?_
    ·refine GE.DB 0 0 (fun w Z=>Al d.names (Z.a 2) AB (fun n hn=>by have:=p4 n hn; omega)) Z fun fZ f5 en w Z=>.r [10]<|.go 11<|GE.Np Z fun dM w Z=>GA.Do Z fun w Z=>RG.Ss 0 Z fun w Z=>.d<|.s<|.s<|.g<|.r 1<|RG.Lb 5 Z<|.r 2<|.d<|.b 0<|T.Lp ((0:Nat),([]:List Fil),dU,(0:Nat),([]:List (Hd 2)),(([]++d.list):List Int),aK,aL,(d.names:List (List Tag)),fZ,f5,en,d.next) (fun (k,aa,r_out_0,c_out_0,hs,ac,r_out_1,c_out_1,ab,r_out_2,c_out_2,af,ae)=>([(2,vP ag),(3,vP dM),(18,.slice a1 d.files.length c1),(19,vI (d.files.length:Int)),(20,vI (k:Int))],[(0,.box dM 35 [vS r_out_0 aa.length c_out_0,vS r_out_1 ac.length c_out_1,vS r_out_2 ab.length c_out_2,vI ae]),(1,.raw 0 r_out_2 69 c_out_2 ab af),(2,.raw 0 r_out_0 148 c_out_0 aa hs),(3,.own 0 r_out_1 3 c_out_1 ac)],[⟨0,none,.sep [.e ab af,.e aa hs]⟩],d.files.length - k,(k≤d.files.length)∧(aa.length≤k)∧(aa++d.files.drop k=d.files)∧(ac=d.list)∧(ab=d.names)∧(ae=d.next))) [0] Z ⟨AB,AD,AF,AF,AF,AB⟩ ?_
     rintro ⟨k,aa,r_out_0,c_out_0,hs,ac,r_out_1,c_out_1,ab,r_out_2,c_out_2,af,ae⟩ mY w Z ⟨jQ,jR,jS,jT,jU,jV⟩ c7
     refine .s<|.g<|.bp ((k:Int)< (d.files.length:Int)) (fun eB=>?_) (fun eB=>?_)
     ·refine .d<|.s<|.ct<|.sk<|.s<|.b 1<|.s<|.g<|gx d.files k fun ar aU=>?_
      have jW:=AZ aU; have f6:=AV aU
      refine RG.Ix 6 aU Z<|Z.el 6 aU fun mZ m5 m6 m7 Z=>RG.Lg 0 0 Z<|RG.Np Z fun f7 w Z=>RG.Ss 0 Z fun w Z=>.d<|T.GS 9 [f7,dM,ag,ah] Z fun _ w Z=>.r [0]<|GA.Lb (q:=1) 1 1 Z<|.r [2]<|GA.Lb 3 0 Z<|.r [4]<|GA.Ln 5 0 Z<|.go 6<|GE.DD 3 0 (fun w Z=>Ai ar.part (Z.a 1) (Z.a 2) (p1 _ ‹_›)) Z fun bN bO bP bQ w Z=>.r [7]<|.go 8<|GE.Nb 1 Z fun m8 w Z=>GA.Do Z fun w Z=>RG.Ar 3 0 aa ar hs (⟨Shp.cells ar ([(bN,bO),(bP,bQ)]:List (Option Addr × Nat)),AA⟩:Hd 2) Z fun f8 f9 w Z=>?_
      have Z:=Z.eA 0 0 [3,2,2] aa hs (⟨Shp.cells ar ([(bN,bO),(bP,bQ)]:List (Option Addr × Nat)),AA⟩:Hd 2) ar ([(bN,bO),(bP,bQ)]:List (Option Addr × Nat))
      refine .r 1<|RG.Ss 1 Z fun w Z=>.d<|.ib 1<|.g<|.it ((k:Int)+1)<|.r 1<|.d ?_
      have Z:=Z.sM 0 0 [0,1] [.e ab af,.e (aa++[ar]) (hs++[(⟨Shp.cells ar ([(bN,bO),(bP,bQ)]:List (Option Addr × Nat)),AA⟩:Hd 2)])]
      exact c7 (k+1,(aa++[ar]),f8,f9,(hs++[(⟨Shp.cells ar ([(bN,bO),(bP,bQ)]:List (Option Addr × Nat)),AA⟩:Hd 2)]),ac,r_out_1,c_out_1,ab,r_out_2,c_out_2,af,ae) _ _ AA (Z.to 1 [0] 9) ⟨AB,(by (simp; omega)),(by exact Ce ‹_› ‹_›),‹_›,‹_›,‹_›⟩ (by (simp only []; omega))
     refine .d<|.s<|.cf<|.x 0 rfl<|.s<|.g<|RG.Ln 0 Z<|RG.Ss 4 Z fun w Z=>.d ?_
     have Z:=(Z.fL 3 0 0 ac).eL 1 1 0 [1] ab af
     exact T.Rb 2 func44 results44 Z ⟨⟨r_out_0,c_out_0,hs,(some ⟨r_out_1,0,none⟩),c_out_1,(some ⟨r_out_2,0,none⟩),c_out_2,by rw [show d.files=aa from Eq.symm (by exact BN ‹_› AB),show d.list=ac from Eq.symm ‹_›,show d.names=ab from Eq.symm ‹_›,show d.next=ae from Eq.symm ‹_›]; kernel_rfl,by rw [show d.files=aa from Eq.symm (by exact BN ‹_› AB),show d.list=ac from Eq.symm ‹_›,show d.names=ab from Eq.symm ‹_›]; exact Z.rX 1 [0,1,2] [1] _ _ AE⟩,Z.xt⟩
    refine GE.Np Z fun dN w Z=>.go 7<|GE.DB 0 0 (fun w Z=>Al d.names (Z.a 2) AB (fun n hn=>by have:=p4 n hn; omega)) Z fun gb gf eC w Z=>.r [10]<|GA.Do Z fun w Z=>RG.Ss 1 Z fun w Z=>.d<|.s<|.s<|.g<|.r 1<|RG.Lb 5 Z<|.r 2<|.d<|.b 0<|T.Lp ((0:Nat),([]:List Fil),dU,(0:Nat),([]:List (Hd 2)),(([]++d.list):List Int),aK,aL,(d.names:List (List Tag)),gb,gf,eC,d.next) (fun (k,aa,r_out_0,c_out_0,hs,ac,r_out_1,c_out_1,ab,r_out_2,c_out_2,af,ae)=>([(2,vP ag),(3,vP dN),(18,.slice a1 d.files.length c1),(19,vI (d.files.length:Int)),(20,vI (k:Int))],[(0,.raw 0 r_out_2 69 c_out_2 ab af),(1,.box dN 35 [vS r_out_0 aa.length c_out_0,vS r_out_1 ac.length c_out_1,vS r_out_2 ab.length c_out_2,vI ae]),(2,.raw 0 r_out_0 148 c_out_0 aa hs),(3,.own 0 r_out_1 3 c_out_1 ac)],[⟨0,none,.sep [.e ab af,.e aa hs]⟩],d.files.length - k,(k≤d.files.length)∧(aa.length≤k)∧(aa++d.files.drop k=d.files)∧(ac=d.list)∧(ab=d.names)∧(ae=d.next))) [0] Z ⟨AB,AD,AF,AF,AF,AB⟩ ?_
    rintro ⟨k,aa,r_out_0,c_out_0,hs,ac,r_out_1,c_out_1,ab,r_out_2,c_out_2,af,ae⟩ m9 w Z ⟨jX,jY,jZ,j0,j1,j2⟩ c8
    refine .s<|.g<|.bp ((k:Int)< (d.files.length:Int)) (fun eD=>?_) (fun eD=>?_)
    ·refine .d<|.s<|.ct<|.sk<|.s<|.b 1<|.s<|.g<|gx d.files k fun ax aV=>?_
     have j3:=AZ aV; have gh:=AV aV
     refine RG.Ix 6 aV Z<|Z.el 6 aV fun nc nh ni nj Z=>RG.Lg 0 0 Z<|RG.Np Z fun gi w Z=>RG.Ss 0 Z fun w Z=>.d<|T.GS 9 [gi,dN,ag,ah] Z fun _ w Z=>.r [0]<|GA.Lb (q:=1) 1 2 Z<|.r [2]<|GA.Lb 3 0 Z<|.r [4]<|GA.Ln 5 0 Z<|.go 6<|GE.DD 3 0 (fun w Z=>Ai ax.part (Z.a 1) (Z.a 2) (p1 _ ‹_›)) Z fun bR bS bT bU w Z=>.r [7]<|.go 8<|GE.Nb 1 Z fun nt w Z=>GA.Do Z fun w Z=>RG.Ar 3 0 aa ax hs (⟨Shp.cells ax ([(bR,bS),(bT,bU)]:List (Option Addr × Nat)),AA⟩:Hd 2) Z fun gj gk w Z=>?_
     have Z:=Z.eA 0 0 [3,2,2] aa hs (⟨Shp.cells ax ([(bR,bS),(bT,bU)]:List (Option Addr × Nat)),AA⟩:Hd 2) ax ([(bR,bS),(bT,bU)]:List (Option Addr × Nat))
     refine .r 1<|RG.Ss 2 Z fun w Z=>.d<|.ib 1<|.g<|.it ((k:Int)+1)<|.r 1<|.d ?_
     have Z:=Z.sM 0 0 [0,1] [.e ab af,.e (aa++[ax]) (hs++[(⟨Shp.cells ax ([(bR,bS),(bT,bU)]:List (Option Addr × Nat)),AA⟩:Hd 2)])]
     exact c8 (k+1,(aa++[ax]),gj,gk,(hs++[(⟨Shp.cells ax ([(bR,bS),(bT,bU)]:List (Option Addr × Nat)),AA⟩:Hd 2)]),ac,r_out_1,c_out_1,ab,r_out_2,c_out_2,af,ae) _ _ AA (Z.to 1 [0] 9) ⟨AB,(by (simp; omega)),(by exact Ce ‹_› ‹_›),‹_›,‹_›,‹_›⟩ (by (simp only []; omega))
    refine .d<|.s<|.cf<|.x 0 rfl<|.s<|.g<|RG.Ln 1 Z<|RG.Ss 4 Z fun w Z=>.d ?_
    have Z:=(Z.fL 3 0 0 ac).eL 0 1 0 [1] ab af
    exact T.Rb 2 func44 results44 Z ⟨⟨r_out_0,c_out_0,hs,(some ⟨r_out_1,0,none⟩),c_out_1,(some ⟨r_out_2,0,none⟩),c_out_2,by rw [show d.files=aa from Eq.symm (by exact BN ‹_› AB),show d.list=ac from Eq.symm ‹_›,show d.names=ab from Eq.symm ‹_›,show d.next=ae from Eq.symm ‹_›]; kernel_rfl,by rw [show d.files=aa from Eq.symm (by exact BN ‹_› AB),show d.list=ac from Eq.symm ‹_›,show d.names=ab from Eq.symm ‹_›]; exact Z.rX 1 [0,1,2] [1] _ _ AE⟩,Z.xt⟩
   ·refine GE.DB 0 0 (fun w Z=>Al d.names (Z.a 1) AB (fun n hn=>by have:=p4 n hn; omega)) Z fun dV dW dO w Z=>.tw 0 11 ?_ ?_
    ·refine GE.N0 (Hd 2) 0 Z fun gl w Z=>?_
     have Z:=Z.o2r 0 0 Fil 2
     refine .r [10]<|.go 11<|GE.Np Z fun dP w Z=>GA.Do Z fun w Z=>RG.Ss 0 Z fun w Z=>.d<|.s<|.s<|.g<|.r 1<|RG.Lb 5 Z<|.r 2<|.d<|.b 0<|T.Lp ((0:Nat),([]:List Fil),gl,(0:Nat),([]:List (Hd 2)),(([]++d.list):List Int),aK,aL,(d.names:List (List Tag)),dV,dW,dO,d.next) (fun (k,aa,r_out_0,c_out_0,hs,ac,r_out_1,c_out_1,ab,r_out_2,c_out_2,af,ae)=>([(2,vP ag),(3,vP dP),(18,.slice a1 d.files.length c1),(19,vI (d.files.length:Int)),(20,vI (k:Int))],[(0,.box dP 35 [vS r_out_0 aa.length c_out_0,vS r_out_1 ac.length c_out_1,vS r_out_2 ab.length c_out_2,vI ae]),(1,.raw 0 r_out_0 148 c_out_0 aa hs),(2,.raw 0 r_out_2 69 c_out_2 ab af),(3,.own 0 r_out_1 3 c_out_1 ac)],[⟨0,none,.sep [.e aa hs,.e ab af]⟩],d.files.length - k,(k≤d.files.length)∧(aa.length≤k)∧(aa++d.files.drop k=d.files)∧(ac=d.list)∧(ab=d.names)∧(ae=d.next))) [0] Z ⟨AB,AD,AF,AF,AF,AB⟩ ?_
     rintro ⟨k,aa,r_out_0,c_out_0,hs,ac,r_out_1,c_out_1,ab,r_out_2,c_out_2,af,ae⟩ nu w Z ⟨j4,j5,j6,j7,j8,j9⟩ da
     refine .s<|.g<|.bp ((k:Int)< (d.files.length:Int)) (fun eE=>?_) (fun eE=>?_)
     ·refine .d<|.s<|.ct<|.sk<|.s<|.b 1<|.s<|.g<|gx d.files k fun ay aW=>?_
      have ka:=AZ aW; have gm:=AV aW
      refine RG.Ix 6 aW Z<|Z.el 6 aW fun nv ny nz nA Z=>RG.Lg 0 0 Z<|RG.Np Z fun gn w Z=>RG.Ss 0 Z fun w Z=>.d<|T.GS 9 [gn,dP,ag,ah] Z fun _ w Z=>.r [0]<|GA.Lb (q:=1) 1 1 Z<|.r [2]<|GA.Lb 3 0 Z<|.r [4]<|GA.Ln 5 0 Z<|.go 6<|GE.DD 3 0 (fun w Z=>Ai ay.part (Z.a 1) (Z.a 2) (p1 _ ‹_›)) Z fun bV bW bX bY w Z=>.r [7]<|.go 8<|GE.Nb 1 Z fun nB w Z=>GA.Do Z fun w Z=>RG.Ar 2 0 aa ay hs (⟨Shp.cells ay ([(bV,bW),(bX,bY)]:List (Option Addr × Nat)),AA⟩:Hd 2) Z fun gp gq w Z=>?_
      have Z:=Z.eA 0 0 [2,2,2] aa hs (⟨Shp.cells ay ([(bV,bW),(bX,bY)]:List (Option Addr × Nat)),AA⟩:Hd 2) ay ([(bV,bW),(bX,bY)]:List (Option Addr × Nat))
      refine .r 1<|RG.Ss 1 Z fun w Z=>.d<|.ib 1<|.g<|.it ((k:Int)+1)<|.r 1<|.d ?_
      have Z:=Z.sM 0 0 [1,1] [.e (aa++[ay]) (hs++[(⟨Shp.cells ay ([(bV,bW),(bX,bY)]:List (Option Addr × Nat)),AA⟩:Hd 2)]),.e ab af]
      exact da (k+1,(aa++[ay]),gp,gq,(hs++[(⟨Shp.cells ay ([(bV,bW),(bX,bY)]:List (Option Addr × Nat)),AA⟩:Hd 2)]),ac,r_out_1,c_out_1,ab,r_out_2,c_out_2,af,ae) _ _ AA (Z.to 1 [0] 9) ⟨AB,(by (simp; omega)),(by exact Ce ‹_› ‹_›),‹_›,‹_›,‹_›⟩ (by (simp only []; omega))
     refine .d<|.s<|.cf<|.x 0 rfl<|.s<|.g<|RG.Ln 0 Z<|RG.Ss 4 Z fun w Z=>.d ?_
     have Z:=(Z.fL 3 0 0 ac).eL 2 1 0 [2] ab af
     exact T.Rb 2 func44 results44 Z ⟨⟨r_out_0,c_out_0,hs,(some ⟨r_out_1,0,none⟩),c_out_1,(some ⟨r_out_2,0,none⟩),c_out_2,by rw [show d.files=aa from Eq.symm (by exact BN ‹_› AB),show d.list=ac from Eq.symm ‹_›,show d.names=ab from Eq.symm ‹_›,show d.next=ae from Eq.symm ‹_›]; kernel_rfl,by rw [show d.files=aa from Eq.symm (by exact BN ‹_› AB),show d.list=ac from Eq.symm ‹_›,show d.names=ab from Eq.symm ‹_›]; exact Z.rX 1 [0,1,2] [1] _ _ AE⟩,Z.xt⟩
    refine GE.Np Z fun dQ w Z=>.go 0<|GE.N0 (Hd 2) 0 Z fun gr w Z=>?_
    have Z:=Z.o2r 0 0 Fil 2
    refine .r [10]<|GA.Do Z fun w Z=>RG.Ss 1 Z fun w Z=>.d<|.s<|.s<|.g<|.r 1<|RG.Lb 5 Z<|.r 2<|.d<|.b 0<|T.Lp ((0:Nat),([]:List Fil),gr,(0:Nat),([]:List (Hd 2)),(([]++d.list):List Int),aK,aL,(d.names:List (List Tag)),dV,dW,dO,d.next) (fun (k,aa,r_out_0,c_out_0,hs,ac,r_out_1,c_out_1,ab,r_out_2,c_out_2,af,ae)=>([(2,vP ag),(3,vP dQ),(18,.slice a1 d.files.length c1),(19,vI (d.files.length:Int)),(20,vI (k:Int))],[(0,.raw 0 r_out_0 148 c_out_0 aa hs),(1,.box dQ 35 [vS r_out_0 aa.length c_out_0,vS r_out_1 ac.length c_out_1,vS r_out_2 ab.length c_out_2,vI ae]),(2,.raw 0 r_out_2 69 c_out_2 ab af),(3,.own 0 r_out_1 3 c_out_1 ac)],[⟨0,none,.sep [.e aa hs,.e ab af]⟩],d.files.length - k,(k≤d.files.length)∧(aa.length≤k)∧(aa++d.files.drop k=d.files)∧(ac=d.list)∧(ab=d.names)∧(ae=d.next))) [0] Z ⟨AB,AD,AF,AF,AF,AB⟩ ?_
    rintro ⟨k,aa,r_out_0,c_out_0,hs,ac,r_out_1,c_out_1,ab,r_out_2,c_out_2,af,ae⟩ nC w Z ⟨kb,kd,ke,kf,kg,kh⟩ db
    refine .s<|.g<|.bp ((k:Int)< (d.files.length:Int)) (fun eF=>?_) (fun eF=>?_)
    ·refine .d<|.s<|.ct<|.sk<|.s<|.b 1<|.s<|.g<|gx d.files k fun az aX=>?_
     have ki:=AZ aX; have gt:=AV aX
     refine RG.Ix 6 aX Z<|Z.el 6 aX fun nD nE nF nG Z=>RG.Lg 0 0 Z<|RG.Np Z fun gu w Z=>RG.Ss 0 Z fun w Z=>.d<|T.GS 9 [gu,dQ,ag,ah] Z fun _ w Z=>.r [0]<|GA.Lb (q:=1) 1 2 Z<|.r [2]<|GA.Lb 3 0 Z<|.r [4]<|GA.Ln 5 0 Z<|.go 6<|GE.DD 3 0 (fun w Z=>Ai az.part (Z.a 1) (Z.a 2) (p1 _ ‹_›)) Z fun bZ b6 b7 b8 w Z=>.r [7]<|.go 8<|GE.Nb 1 Z fun nH w Z=>GA.Do Z fun w Z=>RG.Ar 1 0 aa az hs (⟨Shp.cells az ([(bZ,b6),(b7,b8)]:List (Option Addr × Nat)),AA⟩:Hd 2) Z fun gv gw w Z=>?_
     have Z:=Z.eA 0 0 [2,2,2] aa hs (⟨Shp.cells az ([(bZ,b6),(b7,b8)]:List (Option Addr × Nat)),AA⟩:Hd 2) az ([(bZ,b6),(b7,b8)]:List (Option Addr × Nat))
     refine .r 1<|RG.Ss 2 Z fun w Z=>.d<|.ib 1<|.g<|.it ((k:Int)+1)<|.r 1<|.d ?_
     have Z:=Z.sM 0 0 [1,1] [.e (aa++[az]) (hs++[(⟨Shp.cells az ([(bZ,b6),(b7,b8)]:List (Option Addr × Nat)),AA⟩:Hd 2)]),.e ab af]
     exact db (k+1,(aa++[az]),gv,gw,(hs++[(⟨Shp.cells az ([(bZ,b6),(b7,b8)]:List (Option Addr × Nat)),AA⟩:Hd 2)]),ac,r_out_1,c_out_1,ab,r_out_2,c_out_2,af,ae) _ _ AA (Z.to 1 [0] 9) ⟨AB,(by (simp; omega)),(by exact Ce ‹_› ‹_›),‹_›,‹_›,‹_›⟩ (by (simp only []; omega))
    refine .d<|.s<|.cf<|.x 0 rfl<|.s<|.g<|RG.Ln 1 Z<|RG.Ss 4 Z fun w Z=>.d ?_
    have Z:=(Z.fL 3 0 0 ac).eL 2 1 0 [2] ab af
    exact T.Rb 2 func44 results44 Z ⟨⟨r_out_0,c_out_0,hs,(some ⟨r_out_1,0,none⟩),c_out_1,(some ⟨r_out_2,0,none⟩),c_out_2,by rw [show d.files=aa from Eq.symm (by exact BN ‹_› AB),show d.list=ac from Eq.symm ‹_›,show d.names=ab from Eq.symm ‹_›,show d.next=ae from Eq.symm ‹_›]; kernel_rfl,by rw [show d.files=aa from Eq.symm (by exact BN ‹_› AB),show d.list=ac from Eq.symm ‹_›,show d.names=ab from Eq.symm ‹_›]; exact Z.rX 1 [0,1,2] [0] _ _ AE⟩,Z.xt⟩
   refine GE.Np Z fun aM w Z=>.tw 0 7 ?_ ?_
   ·refine GE.N0 (Hd 2) 0 Z fun gy w Z=>?_
    have Z:=Z.o2r 0 0 Fil 2
    refine .go 7<|GE.DB 0 0 (fun w Z=>Al d.names (Z.a 2) AB (fun n hn=>by have:=p4 n hn; omega)) Z fun gz gA eG w Z=>.r [10]<|GA.Do Z fun w Z=>RG.Ss 2 Z fun w Z=>.d<|.s<|.s<|.g<|.r 1<|RG.Lb 5 Z<|.r 2<|.d<|.b 0<|T.Lp ((0:Nat),([]:List Fil),gy,(0:Nat),([]:List (Hd 2)),(([]++d.list):List Int),aK,aL,(d.names:List (List Tag)),gz,gA,eG,d.next) (fun (k,aa,r_out_0,c_out_0,hs,ac,r_out_1,c_out_1,ab,r_out_2,c_out_2,af,ae)=>([(2,vP ag),(3,vP aM),(18,.slice a1 d.files.length c1),(19,vI (d.files.length:Int)),(20,vI (k:Int))],[(0,.raw 0 r_out_2 69 c_out_2 ab af),(1,.raw 0 r_out_0 148 c_out_0 aa hs),(2,.box aM 35 [vS r_out_0 aa.length c_out_0,vS r_out_1 ac.length c_out_1,vS r_out_2 ab.length c_out_2,vI ae]),(3,.own 0 r_out_1 3 c_out_1 ac)],[⟨0,none,.sep [.e ab af,.e aa hs]⟩],d.files.length - k,(k≤d.files.length)∧(aa.length≤k)∧(aa++d.files.drop k=d.files)∧(ac=d.list)∧(ab=d.names)∧(ae=d.next))) [0] Z ⟨AB,AD,AF,AF,AF,AB⟩ ?_
    rintro ⟨k,aa,r_out_0,c_out_0,hs,ac,r_out_1,c_out_1,ab,r_out_2,c_out_2,af,ae⟩ nI w Z ⟨kj,kl,km,ko,kr,ku⟩ de
    refine .s<|.g<|.bp ((k:Int)< (d.files.length:Int)) (fun eH=>?_) (fun eH=>?_)
    ·refine .d<|.s<|.ct<|.sk<|.s<|.b 1<|.s<|.g<|gx d.files k fun aA aY=>?_
     have kv:=AZ aY; have gC:=AV aY
     refine RG.Ix 6 aY Z<|Z.el 6 aY fun nJ nK nL nM Z=>RG.Lg 0 0 Z<|RG.Np Z fun gD w Z=>RG.Ss 0 Z fun w Z=>.d<|T.GS 9 [gD,aM,ag,ah] Z fun _ w Z=>.r [0]<|GA.Lb (q:=1) 1 3 Z<|.r [2]<|GA.Lb 3 0 Z<|.r [4]<|GA.Ln 5 0 Z<|.go 6<|GE.DD 3 0 (fun w Z=>Ai aA.part (Z.a 1) (Z.a 2) (p1 _ ‹_›)) Z fun b9 cd ce cg w Z=>.r [7]<|.go 8<|GE.Nb 1 Z fun nN w Z=>GA.Do Z fun w Z=>RG.Ar 2 0 aa aA hs (⟨Shp.cells aA ([(b9,cd),(ce,cg)]:List (Option Addr × Nat)),AA⟩:Hd 2) Z fun gE gF w Z=>?_
     have Z:=Z.eA 0 0 [3,2,2] aa hs (⟨Shp.cells aA ([(b9,cd),(ce,cg)]:List (Option Addr × Nat)),AA⟩:Hd 2) aA ([(b9,cd),(ce,cg)]:List (Option Addr × Nat))
     refine .r 1<|RG.Ss 3 Z fun w Z=>.d<|.ib 1<|.g<|.it ((k:Int)+1)<|.r 1<|.d ?_
     have Z:=Z.sM 0 0 [0,1] [.e ab af,.e (aa++[aA]) (hs++[(⟨Shp.cells aA ([(b9,cd),(ce,cg)]:List (Option Addr × Nat)),AA⟩:Hd 2)])]
     exact de (k+1,(aa++[aA]),gE,gF,(hs++[(⟨Shp.cells aA ([(b9,cd),(ce,cg)]:List (Option Addr × Nat)),AA⟩:Hd 2)]),ac,r_out_1,c_out_1,ab,r_out_2,c_out_2,af,ae) _ _ AA (Z.to 1 [0] 9) ⟨AB,(by (simp; omega)),(by exact Ce ‹_› ‹_›),‹_›,‹_›,‹_›⟩ (by (simp only []; omega))
    refine .d<|.s<|.cf<|.x 0 rfl<|.s<|.g<|RG.Ln 2 Z<|RG.Ss 4 Z fun w Z=>.d ?_
    have Z:=(Z.fL 3 0 0 ac).eL 0 1 0 [1] ab af
    exact T.Rb 2 func44 results44 Z ⟨⟨r_out_0,c_out_0,hs,(some ⟨r_out_1,0,none⟩),c_out_1,(some ⟨r_out_2,0,none⟩),c_out_2,by rw [show d.files=aa from Eq.symm (by exact BN ‹_› AB),show d.list=ac from Eq.symm ‹_›,show d.names=ab from Eq.symm ‹_›,show d.next=ae from Eq.symm ‹_›]; kernel_rfl,by rw [show d.files=aa from Eq.symm (by exact BN ‹_› AB),show d.list=ac from Eq.symm ‹_›,show d.names=ab from Eq.symm ‹_›]; exact Z.rX 1 [0,1,2] [0] _ _ AE⟩,Z.xt⟩
   refine GE.DB 0 0 (fun w Z=>Al d.names (Z.a 1) AB (fun n hn=>by have:=p4 n hn; omega)) Z fun gG gH eI w Z=>.go 0<|GE.N0 (Hd 2) 0 Z fun gI w Z=>?_
   have Z:=Z.o2r 0 0 Fil 2
   refine .r [10]<|GA.Do Z fun w Z=>RG.Ss 2 Z fun w Z=>.d<|.s<|.s<|.g<|.r 1<|RG.Lb 5 Z<|.r 2<|.d<|.b 0<|T.Lp ((0:Nat),([]:List Fil),gI,(0:Nat),([]:List (Hd 2)),(([]++d.list):List Int),aK,aL,(d.names:List (List Tag)),gG,gH,eI,d.next) (fun (k,aa,r_out_0,c_out_0,hs,ac,r_out_1,c_out_1,ab,r_out_2,c_out_2,af,ae)=>([(2,vP ag),(3,vP aM),(18,.slice a1 d.files.length c1),(19,vI (d.files.length:Int)),(20,vI (k:Int))],[(0,.raw 0 r_out_0 148 c_out_0 aa hs),(1,.raw 0 r_out_2 69 c_out_2 ab af),(2,.box aM 35 [vS r_out_0 aa.length c_out_0,vS r_out_1 ac.length c_out_1,vS r_out_2 ab.length c_out_2,vI ae]),(3,.own 0 r_out_1 3 c_out_1 ac)],[⟨0,none,.sep [.e aa hs,.e ab af]⟩],d.files.length - k,(k≤d.files.length)∧(aa.length≤k)∧(aa++d.files.drop k=d.files)∧(ac=d.list)∧(ab=d.names)∧(ae=d.next))) [0] Z ⟨AB,AD,AF,AF,AF,AB⟩ ?_
   rintro ⟨k,aa,r_out_0,c_out_0,hs,ac,r_out_1,c_out_1,ab,r_out_2,c_out_2,af,ae⟩ nO w Z ⟨kw,kx,ky,kz,kA,kB⟩ df
   refine .s<|.g<|.bp ((k:Int)< (d.files.length:Int)) (fun eJ=>?_) (fun eJ=>?_)
   ·refine .d<|.s<|.ct<|.sk<|.s<|.b 1<|.s<|.g<|gx d.files k fun aB aZ=>?_
    have kC:=AZ aZ; have gJ:=AV aZ
    refine RG.Ix 6 aZ Z<|Z.el 6 aZ fun nP nQ nR nT Z=>RG.Lg 0 0 Z<|RG.Np Z fun gK w Z=>RG.Ss 0 Z fun w Z=>.d<|T.GS 9 [gK,aM,ag,ah] Z fun _ w Z=>.r [0]<|GA.Lb (q:=1) 1 3 Z<|.r [2]<|GA.Lb 3 0 Z<|.r [4]<|GA.Ln 5 0 Z<|.go 6<|GE.DD 3 0 (fun w Z=>Ai aB.part (Z.a 1) (Z.a 2) (p1 _ ‹_›)) Z fun ci cj ck cm w Z=>.r [7]<|.go 8<|GE.Nb 1 Z fun nU w Z=>GA.Do Z fun w Z=>RG.Ar 1 0 aa aB hs (⟨Shp.cells aB ([(ci,cj),(ck,cm)]:List (Option Addr × Nat)),AA⟩:Hd 2) Z fun gL gM w Z=>?_
    have Z:=Z.eA 0 0 [2,2,2] aa hs (⟨Shp.cells aB ([(ci,cj),(ck,cm)]:List (Option Addr × Nat)),AA⟩:Hd 2) aB ([(ci,cj),(ck,cm)]:List (Option Addr × Nat))
    refine .r 1<|RG.Ss 3 Z fun w Z=>.d<|.ib 1<|.g<|.it ((k:Int)+1)<|.r 1<|.d ?_
    have Z:=Z.sM 0 0 [1,1] [.e (aa++[aB]) (hs++[(⟨Shp.cells aB ([(ci,cj),(ck,cm)]:List (Option Addr × Nat)),AA⟩:Hd 2)]),.e ab af]
    exact df (k+1,(aa++[aB]),gL,gM,(hs++[(⟨Shp.cells aB ([(ci,cj),(ck,cm)]:List (Option Addr × Nat)),AA⟩:Hd 2)]),ac,r_out_1,c_out_1,ab,r_out_2,c_out_2,af,ae) _ _ AA (Z.to 1 [0] 9) ⟨AB,(by (simp; omega)),(by exact Ce ‹_› ‹_›),‹_›,‹_›,‹_›⟩ (by (simp only []; omega))
   refine .d<|.s<|.cf<|.x 0 rfl<|.s<|.g<|RG.Ln 2 Z<|RG.Ss 4 Z fun w Z=>.d ?_
   have Z:=(Z.fL 3 0 0 ac).eL 1 1 0 [2] ab af
   exact T.Rb 2 func44 results44 Z ⟨⟨r_out_0,c_out_0,hs,(some ⟨r_out_1,0,none⟩),c_out_1,(some ⟨r_out_2,0,none⟩),c_out_2,by rw [show d.files=aa from Eq.symm (by exact BN ‹_› AB),show d.list=ac from Eq.symm ‹_›,show d.names=ab from Eq.symm ‹_›,show d.next=ae from Eq.symm ‹_›]; kernel_rfl,by rw [show d.files=aa from Eq.symm (by exact BN ‹_› AB),show d.list=ac from Eq.symm ‹_›,show d.names=ab from Eq.symm ‹_›]; exact Z.rX 1 [0,1,2] [0] _ _ AE⟩,Z.xt⟩
  refine GE.Np Z fun aC w Z=>.tw 0 4 ?_ ?_
  ·refine GE.N0 (Hd 2) 0 Z fun gN w Z=>?_
   have Z:=Z.o2r 0 0 Fil 2
   refine .go 4<|GE.An (hf:=.inr Au) 2 3 ([]:List Int) d.list [3,4] Z fun gO gP w Z=>.go 7<|GE.DB 0 0 (fun w Z=>Al d.names (Z.a 2) AB (fun n hn=>by have:=p4 n hn; omega)) Z fun gQ gR eK w Z=>.r [10]<|GA.Do Z fun w Z=>RG.Ss 2 Z fun w Z=>.d<|.s<|.s<|.g<|.r 1<|RG.Lb 5 Z<|.r 2<|.d<|.b 0<|T.Lp ((0:Nat),([]:List Fil),gN,(0:Nat),([]:List (Hd 2)),(([]++d.list):List Int),gO,gP,(d.names:List (List Tag)),gQ,gR,eK,d.next) (fun (k,aa,r_out_0,c_out_0,hs,ac,r_out_1,c_out_1,ab,r_out_2,c_out_2,af,ae)=>([(2,vP ag),(3,vP aC),(18,.slice a1 d.files.length c1),(19,vI (d.files.length:Int)),(20,vI (k:Int))],[(0,.raw 0 r_out_2 69 c_out_2 ab af),(1,.raw 0 r_out_0 148 c_out_0 aa hs),(2,.box aC 35 [vS r_out_0 aa.length c_out_0,vS r_out_1 ac.length c_out_1,vS r_out_2 ab.length c_out_2,vI ae]),(3,.own 0 r_out_1 3 c_out_1 ac)],[⟨0,none,.sep [.e ab af,.e aa hs]⟩],d.files.length - k,(k≤d.files.length)∧(aa.length≤k)∧(aa++d.files.drop k=d.files)∧(ac=d.list)∧(ab=d.names)∧(ae=d.next))) [0] Z ⟨AB,AD,AF,AF,AF,AB⟩ ?_
   rintro ⟨k,aa,r_out_0,c_out_0,hs,ac,r_out_1,c_out_1,ab,r_out_2,c_out_2,af,ae⟩ nV w Z ⟨kD,kE,kF,kG,kH,kI⟩ dh
   refine .s<|.g<|.bp ((k:Int)< (d.files.length:Int)) (fun eM=>?_) (fun eM=>?_)
   ·refine .d<|.s<|.ct<|.sk<|.s<|.b 1<|.s<|.g<|gx d.files k fun aD ba=>?_
    have kJ:=AZ ba; have gS:=AV ba
    refine RG.Ix 6 ba Z<|Z.el 6 ba fun nW nX nY nZ Z=>RG.Lg 0 0 Z<|RG.Np Z fun gT w Z=>RG.Ss 0 Z fun w Z=>.d<|T.GS 9 [gT,aC,ag,ah] Z fun _ w Z=>.r [0]<|GA.Lb (q:=1) 1 3 Z<|.r [2]<|GA.Lb 3 0 Z<|.r [4]<|GA.Ln 5 0 Z<|.go 6<|GE.DD 3 0 (fun w Z=>Ai aD.part (Z.a 1) (Z.a 2) (p1 _ ‹_›)) Z fun co cp cq cr w Z=>.r [7]<|.go 8<|GE.Nb 1 Z fun n7 w Z=>GA.Do Z fun w Z=>RG.Ar 2 0 aa aD hs (⟨Shp.cells aD ([(co,cp),(cq,cr)]:List (Option Addr × Nat)),AA⟩:Hd 2) Z fun gU gV w Z=>?_
    have Z:=Z.eA 0 0 [3,2,2] aa hs (⟨Shp.cells aD ([(co,cp),(cq,cr)]:List (Option Addr × Nat)),AA⟩:Hd 2) aD ([(co,cp),(cq,cr)]:List (Option Addr × Nat))
    refine .r 1<|RG.Ss 3 Z fun w Z=>.d<|.ib 1<|.g<|.it ((k:Int)+1)<|.r 1<|.d ?_
    have Z:=Z.sM 0 0 [0,1] [.e ab af,.e (aa++[aD]) (hs++[(⟨Shp.cells aD ([(co,cp),(cq,cr)]:List (Option Addr × Nat)),AA⟩:Hd 2)])]
    exact dh (k+1,(aa++[aD]),gU,gV,(hs++[(⟨Shp.cells aD ([(co,cp),(cq,cr)]:List (Option Addr × Nat)),AA⟩:Hd 2)]),ac,r_out_1,c_out_1,ab,r_out_2,c_out_2,af,ae) _ _ AA (Z.to 1 [0] 9) ⟨AB,(by (simp; omega)),(by exact Ce ‹_› ‹_›),‹_›,‹_›,‹_›⟩ (by (simp only []; omega))
   refine .d<|.s<|.cf<|.x 0 rfl<|.s<|.g<|RG.Ln 2 Z<|RG.Ss 4 Z fun w Z=>.d ?_
   have Z:=(Z.fL 3 0 0 ac).eL 0 1 0 [1] ab af
   exact T.Rb 2 func44 results44 Z ⟨⟨r_out_0,c_out_0,hs,(some ⟨r_out_1,0,none⟩),c_out_1,(some ⟨r_out_2,0,none⟩),c_out_2,by rw [show d.files=aa from Eq.symm (by exact BN ‹_› AB),show d.list=ac from Eq.symm ‹_›,show d.names=ab from Eq.symm ‹_›,show d.next=ae from Eq.symm ‹_›]; kernel_rfl,by rw [show d.files=aa from Eq.symm (by exact BN ‹_› AB),show d.list=ac from Eq.symm ‹_›,show d.names=ab from Eq.symm ‹_›]; exact Z.rX 1 [0,1,2] [0] _ _ AE⟩,Z.xt⟩
  refine GE.An (hf:=.inr Au) 1 2 ([]:List Int) d.list [2,3] Z fun dX dY w Z=>.tw 0 7 ?_ ?_
  ·refine GE.N0 (Hd 2) 0 Z fun gW w Z=>?_
   have Z:=Z.o2r 0 0 Fil 2
   refine .go 7<|GE.DB 0 0 (fun w Z=>Al d.names (Z.a 2) AB (fun n hn=>by have:=p4 n hn; omega)) Z fun gX gY eO w Z=>.r [10]<|GA.Do Z fun w Z=>RG.Ss 2 Z fun w Z=>.d<|.s<|.s<|.g<|.r 1<|RG.Lb 5 Z<|.r 2<|.d<|.b 0<|T.Lp ((0:Nat),([]:List Fil),gW,(0:Nat),([]:List (Hd 2)),(([]++d.list):List Int),dX,dY,(d.names:List (List Tag)),gX,gY,eO,d.next) (fun (k,aa,r_out_0,c_out_0,hs,ac,r_out_1,c_out_1,ab,r_out_2,c_out_2,af,ae)=>([(2,vP ag),(3,vP aC),(18,.slice a1 d.files.length c1),(19,vI (d.files.length:Int)),(20,vI (k:Int))],[(0,.raw 0 r_out_2 69 c_out_2 ab af),(1,.raw 0 r_out_0 148 c_out_0 aa hs),(2,.box aC 35 [vS r_out_0 aa.length c_out_0,vS r_out_1 ac.length c_out_1,vS r_out_2 ab.length c_out_2,vI ae]),(3,.own 0 r_out_1 3 c_out_1 ac)],[⟨0,none,.sep [.e ab af,.e aa hs]⟩],d.files.length - k,(k≤d.files.length)∧(aa.length≤k)∧(aa++d.files.drop k=d.files)∧(ac=d.list)∧(ab=d.names)∧(ae=d.next))) [0] Z ⟨AB,AD,AF,AF,AF,AB⟩ ?_
   rintro ⟨k,aa,r_out_0,c_out_0,hs,ac,r_out_1,c_out_1,ab,r_out_2,c_out_2,af,ae⟩ n8 w Z ⟨kK,kL,kM,kN,kO,kP⟩ dj
   refine .s<|.g<|.bp ((k:Int)< (d.files.length:Int)) (fun eP=>?_) (fun eP=>?_)
   ·refine .d<|.s<|.ct<|.sk<|.s<|.b 1<|.s<|.g<|gx d.files k fun aE bg=>?_
    have kQ:=AZ bg; have gZ:=AV bg
    refine RG.Ix 6 bg Z<|Z.el 6 bg fun n9 oc od oe Z=>RG.Lg 0 0 Z<|RG.Np Z fun hC w Z=>RG.Ss 0 Z fun w Z=>.d<|T.GS 9 [hC,aC,ag,ah] Z fun _ w Z=>.r [0]<|GA.Lb (q:=1) 1 3 Z<|.r [2]<|GA.Lb 3 0 Z<|.r [4]<|GA.Ln 5 0 Z<|.go 6<|GE.DD 3 0 (fun w Z=>Ai aE.part (Z.a 1) (Z.a 2) (p1 _ ‹_›)) Z fun cu cw cx cy w Z=>.r [7]<|.go 8<|GE.Nb 1 Z fun og w Z=>GA.Do Z fun w Z=>RG.Ar 2 0 aa aE hs (⟨Shp.cells aE ([(cu,cw),(cx,cy)]:List (Option Addr × Nat)),AA⟩:Hd 2) Z fun hH hO w Z=>?_
    have Z:=Z.eA 0 0 [3,2,2] aa hs (⟨Shp.cells aE ([(cu,cw),(cx,cy)]:List (Option Addr × Nat)),AA⟩:Hd 2) aE ([(cu,cw),(cx,cy)]:List (Option Addr × Nat))
    refine .r 1<|RG.Ss 3 Z fun w Z=>.d<|.ib 1<|.g<|.it ((k:Int)+1)<|.r 1<|.d ?_
    have Z:=Z.sM 0 0 [0,1] [.e ab af,.e (aa++[aE]) (hs++[(⟨Shp.cells aE ([(cu,cw),(cx,cy)]:List (Option Addr × Nat)),AA⟩:Hd 2)])]
    exact dj (k+1,(aa++[aE]),hH,hO,(hs++[(⟨Shp.cells aE ([(cu,cw),(cx,cy)]:List (Option Addr × Nat)),AA⟩:Hd 2)]),ac,r_out_1,c_out_1,ab,r_out_2,c_out_2,af,ae) _ _ AA (Z.to 1 [0] 9) ⟨AB,(by (simp; omega)),(by exact Ce ‹_› ‹_›),‹_›,‹_›,‹_›⟩ (by (simp only []; omega))
   refine .d<|.s<|.cf<|.x 0 rfl<|.s<|.g<|RG.Ln 2 Z<|RG.Ss 4 Z fun w Z=>.d ?_
   have Z:=(Z.fL 3 0 0 ac).eL 0 1 0 [1] ab af
   exact T.Rb 2 func44 results44 Z ⟨⟨r_out_0,c_out_0,hs,(some ⟨r_out_1,0,none⟩),c_out_1,(some ⟨r_out_2,0,none⟩),c_out_2,by rw [show d.files=aa from Eq.symm (by exact BN ‹_› AB),show d.list=ac from Eq.symm ‹_›,show d.names=ab from Eq.symm ‹_›,show d.next=ae from Eq.symm ‹_›]; kernel_rfl,by rw [show d.files=aa from Eq.symm (by exact BN ‹_› AB),show d.list=ac from Eq.symm ‹_›,show d.names=ab from Eq.symm ‹_›]; exact Z.rX 1 [0,1,2] [0] _ _ AE⟩,Z.xt⟩
  refine GE.DB 0 0 (fun w Z=>Al d.names (Z.a 1) AB (fun n hn=>by have:=p4 n hn; omega)) Z fun hQ hV eQ w Z=>.go 0<|GE.N0 (Hd 2) 0 Z fun hW w Z=>?_
  have Z:=Z.o2r 0 0 Fil 2
  refine .r [10]<|GA.Do Z fun w Z=>RG.Ss 2 Z fun w Z=>.d<|.s<|.s<|.g<|.r 1<|RG.Lb 5 Z<|.r 2<|.d<|.b 0<|T.Lp ((0:Nat),([]:List Fil),hW,(0:Nat),([]:List (Hd 2)),(([]++d.list):List Int),dX,dY,(d.names:List (List Tag)),hQ,hV,eQ,d.next) (fun (k,aa,r_out_0,c_out_0,hs,ac,r_out_1,c_out_1,ab,r_out_2,c_out_2,af,ae)=>([(2,vP ag),(3,vP aC),(18,.slice a1 d.files.length c1),(19,vI (d.files.length:Int)),(20,vI (k:Int))],[(0,.raw 0 r_out_0 148 c_out_0 aa hs),(1,.raw 0 r_out_2 69 c_out_2 ab af),(2,.box aC 35 [vS r_out_0 aa.length c_out_0,vS r_out_1 ac.length c_out_1,vS r_out_2 ab.length c_out_2,vI ae]),(3,.own 0 r_out_1 3 c_out_1 ac)],[⟨0,none,.sep [.e aa hs,.e ab af]⟩],d.files.length - k,(k≤d.files.length)∧(aa.length≤k)∧(aa++d.files.drop k=d.files)∧(ac=d.list)∧(ab=d.names)∧(ae=d.next))) [0] Z ⟨AB,AD,AF,AF,AF,AB⟩ ?_
  rintro ⟨k,aa,r_out_0,c_out_0,hs,ac,r_out_1,c_out_1,ab,r_out_2,c_out_2,af,ae⟩ oh w Z ⟨kR,kS,kT,kU,kV,kW⟩ dm
  refine .s<|.g<|.bp ((k:Int)< (d.files.length:Int)) (fun eR=>?_) (fun eR=>?_)
  ·refine .d<|.s<|.ct<|.sk<|.s<|.b 1<|.s<|.g<|gx d.files k fun aF bh=>?_
   have kX:=AZ bh; have ia:=AV bh
   refine RG.Ix 6 bh Z<|Z.el 6 bh fun ol om oo oq Z=>RG.Lg 0 0 Z<|RG.Np Z fun ic w Z=>RG.Ss 0 Z fun w Z=>.d<|T.GS 9 [ic,aC,ag,ah] Z fun _ w Z=>.r [0]<|GA.Lb (q:=1) 1 3 Z<|.r [2]<|GA.Lb 3 0 Z<|.r [4]<|GA.Ln 5 0 Z<|.go 6<|GE.DD 3 0 (fun w Z=>Ai aF.part (Z.a 1) (Z.a 2) (p1 _ ‹_›)) Z fun cz cA cB cC w Z=>.r [7]<|.go 8<|GE.Nb 1 Z fun ov w Z=>GA.Do Z fun w Z=>RG.Ar 1 0 aa aF hs (⟨Shp.cells aF ([(cz,cA),(cB,cC)]:List (Option Addr × Nat)),AA⟩:Hd 2) Z fun ie ig w Z=>?_
   have Z:=Z.eA 0 0 [2,2,2] aa hs (⟨Shp.cells aF ([(cz,cA),(cB,cC)]:List (Option Addr × Nat)),AA⟩:Hd 2) aF ([(cz,cA),(cB,cC)]:List (Option Addr × Nat))
   refine .r 1<|RG.Ss 3 Z fun w Z=>.d<|.ib 1<|.g<|.it ((k:Int)+1)<|.r 1<|.d ?_
   have Z:=Z.sM 0 0 [1,1] [.e (aa++[aF]) (hs++[(⟨Shp.cells aF ([(cz,cA),(cB,cC)]:List (Option Addr × Nat)),AA⟩:Hd 2)]),.e ab af]
   exact dm (k+1,(aa++[aF]),ie,ig,(hs++[(⟨Shp.cells aF ([(cz,cA),(cB,cC)]:List (Option Addr × Nat)),AA⟩:Hd 2)]),ac,r_out_1,c_out_1,ab,r_out_2,c_out_2,af,ae) _ _ AA (Z.to 1 [0] 9) ⟨AB,(by (simp; omega)),(by exact Ce ‹_› ‹_›),‹_›,‹_›,‹_›⟩ (by (simp only []; omega))
  refine .d<|.s<|.cf<|.x 0 rfl<|.s<|.g<|RG.Ln 2 Z<|RG.Ss 4 Z fun w Z=>.d ?_
  have Z:=(Z.fL 3 0 0 ac).eL 1 1 0 [2] ab af
  exact T.Rb 2 func44 results44 Z ⟨⟨r_out_0,c_out_0,hs,(some ⟨r_out_1,0,none⟩),c_out_1,(some ⟨r_out_2,0,none⟩),c_out_2,by rw [show d.files=aa from Eq.symm (by exact BN ‹_› AB),show d.list=ac from Eq.symm ‹_›,show d.names=ab from Eq.symm ‹_›,show d.next=ae from Eq.symm ‹_›]; kernel_rfl,by rw [show d.files=aa from Eq.symm (by exact BN ‹_› AB),show d.list=ac from Eq.symm ‹_›,show d.names=ab from Eq.symm ‹_›]; exact Z.rX 1 [0,1,2] [0] _ _ AE⟩,Z.xt⟩
 refine GE.Np Z fun ai w Z=>.tw 0 1 ?_ ?_
 ·refine GE.N0 (Hd 2) 0 Z fun ii w Z=>?_
  have Z:=Z.o2r 0 0 Fil 2
  refine .go 1<|GE.N0 Int 0 Z fun oz w Z=>.go 4<|GE.An (hf:=.inr Au) 0 3 ([]:List Int) d.list [3,4] Z fun ij ik w Z=>.go 7<|GE.DB 0 0 (fun w Z=>Al d.names (Z.a 2) AB (fun n hn=>by have:=p4 n hn; omega)) Z fun il im eT w Z=>.r [10]<|GA.Do Z fun w Z=>RG.Ss 3 Z fun w Z=>.d<|.s<|.s<|.g<|.r 1<|RG.Lb 5 Z<|.r 2<|.d<|.b 0<|T.Lp ((0:Nat),([]:List Fil),ii,(0:Nat),([]:List (Hd 2)),(([]++d.list):List Int),ij,ik,(d.names:List (List Tag)),il,im,eT,d.next) (fun (k,aa,r_out_0,c_out_0,hs,ac,r_out_1,c_out_1,ab,r_out_2,c_out_2,af,ae)=>([(2,vP ag),(3,vP ai),(18,.slice a1 d.files.length c1),(19,vI (d.files.length:Int)),(20,vI (k:Int))],[(0,.raw 0 r_out_2 69 c_out_2 ab af),(1,.own 0 r_out_1 3 c_out_1 ac),(2,.raw 0 r_out_0 148 c_out_0 aa hs),(3,.box ai 35 [vS r_out_0 aa.length c_out_0,vS r_out_1 ac.length c_out_1,vS r_out_2 ab.length c_out_2,vI ae])],[⟨0,none,.sep [.e ab af,.e aa hs]⟩],d.files.length - k,(k≤d.files.length)∧(aa.length≤k)∧(aa++d.files.drop k=d.files)∧(ac=d.list)∧(ab=d.names)∧(ae=d.next))) [0] Z ⟨AB,AD,AF,AF,AF,AB⟩ ?_
  rintro ⟨k,aa,r_out_0,c_out_0,hs,ac,r_out_1,c_out_1,ab,r_out_2,c_out_2,af,ae⟩ oA w Z ⟨kY,kZ,k5,k6,k7,k8⟩ dq
  refine .s<|.g<|.bp ((k:Int)< (d.files.length:Int)) (fun eU=>?_) (fun eU=>?_)
  ·refine .d<|.s<|.ct<|.sk<|.s<|.b 1<|.s<|.g<|gx d.files k fun aG bi=>?_
   have lc:=AZ bi; have io:=AV bi
   refine RG.Ix 6 bi Z<|Z.el 6 bi fun oB oC oD oE Z=>RG.Lg 0 0 Z<|RG.Np Z fun ip w Z=>RG.Ss 0 Z fun w Z=>.d<|T.GS 9 [ip,ai,ag,ah] Z fun _ w Z=>.r [0]<|GA.Lb (q:=1) 1 4 Z<|.r [2]<|GA.Lb 3 0 Z<|.r [4]<|GA.Ln 5 0 Z<|.go 6<|GE.DD 3 0 (fun w Z=>Ai aG.part (Z.a 1) (Z.a 2) (p1 _ ‹_›)) Z fun cD cE cF cG w Z=>.r [7]<|.go 8<|GE.Nb 1 Z fun oF w Z=>GA.Do Z fun w Z=>RG.Ar 3 0 aa aG hs (⟨Shp.cells aG ([(cD,cE),(cF,cG)]:List (Option Addr × Nat)),AA⟩:Hd 2) Z fun iq ir w Z=>?_
   have Z:=Z.eA 0 0 [3,2,2] aa hs (⟨Shp.cells aG ([(cD,cE),(cF,cG)]:List (Option Addr × Nat)),AA⟩:Hd 2) aG ([(cD,cE),(cF,cG)]:List (Option Addr × Nat))
   refine .r 1<|RG.Ss 4 Z fun w Z=>.d<|.ib 1<|.g<|.it ((k:Int)+1)<|.r 1<|.d ?_
   have Z:=Z.sM 0 0 [0,1] [.e ab af,.e (aa++[aG]) (hs++[(⟨Shp.cells aG ([(cD,cE),(cF,cG)]:List (Option Addr × Nat)),AA⟩:Hd 2)])]
   exact dq (k+1,(aa++[aG]),iq,ir,(hs++[(⟨Shp.cells aG ([(cD,cE),(cF,cG)]:List (Option Addr × Nat)),AA⟩:Hd 2)]),ac,r_out_1,c_out_1,ab,r_out_2,c_out_2,af,ae) _ _ AA (Z.to 1 [0] 9) ⟨AB,(by (simp; omega)),(by exact Ce ‹_› ‹_›),‹_›,‹_›,‹_›⟩ (by (simp only []; omega))
  refine .d<|.s<|.cf<|.x 0 rfl<|.s<|.g<|RG.Ln 3 Z<|RG.Ss 4 Z fun w Z=>.d ?_
  have Z:=(Z.fL 1 0 0 ac).eL 0 1 0 [1] ab af
  exact T.Rb 2 func44 results44 Z ⟨⟨r_out_0,c_out_0,hs,(some ⟨r_out_1,0,none⟩),c_out_1,(some ⟨r_out_2,0,none⟩),c_out_2,by rw [show d.files=aa from Eq.symm (by exact BN ‹_› AB),show d.list=ac from Eq.symm ‹_›,show d.names=ab from Eq.symm ‹_›,show d.next=ae from Eq.symm ‹_›]; kernel_rfl,by rw [show d.files=aa from Eq.symm (by exact BN ‹_› AB),show d.list=ac from Eq.symm ‹_›,show d.names=ab from Eq.symm ‹_›]; exact Z.rX 1 [0,1,2] [0] _ _ AE⟩,Z.xt⟩
 refine GE.N0 Int 0 Z fun oG w Z=>.tw 0 4 ?_ ?_
 ·refine GE.N0 (Hd 2) 0 Z fun iu w Z=>?_
  have Z:=Z.o2r 0 0 Fil 2
  refine .go 4<|GE.An (hf:=.inr Au) 1 3 ([]:List Int) d.list [3,4] Z fun iw iy w Z=>.go 7<|GE.DB 0 0 (fun w Z=>Al d.names (Z.a 2) AB (fun n hn=>by have:=p4 n hn; omega)) Z fun iz iA eV w Z=>.r [10]<|GA.Do Z fun w Z=>RG.Ss 3 Z fun w Z=>.d<|.s<|.s<|.g<|.r 1<|RG.Lb 5 Z<|.r 2<|.d<|.b 0<|T.Lp ((0:Nat),([]:List Fil),iu,(0:Nat),([]:List (Hd 2)),(([]++d.list):List Int),iw,iy,(d.names:List (List Tag)),iz,iA,eV,d.next) (fun (k,aa,r_out_0,c_out_0,hs,ac,r_out_1,c_out_1,ab,r_out_2,c_out_2,af,ae)=>([(2,vP ag),(3,vP ai),(18,.slice a1 d.files.length c1),(19,vI (d.files.length:Int)),(20,vI (k:Int))],[(0,.raw 0 r_out_2 69 c_out_2 ab af),(1,.raw 0 r_out_0 148 c_out_0 aa hs),(2,.own 0 r_out_1 3 c_out_1 ac),(3,.box ai 35 [vS r_out_0 aa.length c_out_0,vS r_out_1 ac.length c_out_1,vS r_out_2 ab.length c_out_2,vI ae])],[⟨0,none,.sep [.e ab af,.e aa hs]⟩],d.files.length - k,(k≤d.files.length)∧(aa.length≤k)∧(aa++d.files.drop k=d.files)∧(ac=d.list)∧(ab=d.names)∧(ae=d.next))) [0] Z ⟨AB,AD,AF,AF,AF,AB⟩ ?_
  rintro ⟨k,aa,r_out_0,c_out_0,hs,ac,r_out_1,c_out_1,ab,r_out_2,c_out_2,af,ae⟩ oH w Z ⟨ld,lf,li,lj,lk,ll⟩ dt
  refine .s<|.g<|.bp ((k:Int)< (d.files.length:Int)) (fun eW=>?_) (fun eW=>?_)
  ·refine .d<|.s<|.ct<|.sk<|.s<|.b 1<|.s<|.g<|gx d.files k fun aH bj=>?_
   have lm:=AZ bj; have iB:=AV bj
   refine RG.Ix 6 bj Z<|Z.el 6 bj fun oI oJ oK oL Z=>RG.Lg 0 0 Z<|RG.Np Z fun iC w Z=>RG.Ss 0 Z fun w Z=>.d<|T.GS 9 [iC,ai,ag,ah] Z fun _ w Z=>.r [0]<|GA.Lb (q:=1) 1 4 Z<|.r [2]<|GA.Lb 3 0 Z<|.r [4]<|GA.Ln 5 0 Z<|.go 6<|GE.DD 3 0 (fun w Z=>Ai aH.part (Z.a 1) (Z.a 2) (p1 _ ‹_›)) Z fun cH cI cJ cK w Z=>.r [7]<|.go 8<|GE.Nb 1 Z fun oM w Z=>GA.Do Z fun w Z=>RG.Ar 2 0 aa aH hs (⟨Shp.cells aH ([(cH,cI),(cJ,cK)]:List (Option Addr × Nat)),AA⟩:Hd 2) Z fun iD iE w Z=>?_
   have Z:=Z.eA 0 0 [3,2,2] aa hs (⟨Shp.cells aH ([(cH,cI),(cJ,cK)]:List (Option Addr × Nat)),AA⟩:Hd 2) aH ([(cH,cI),(cJ,cK)]:List (Option Addr × Nat))
   refine .r 1<|RG.Ss 4 Z fun w Z=>.d<|.ib 1<|.g<|.it ((k:Int)+1)<|.r 1<|.d ?_
   have Z:=Z.sM 0 0 [0,1] [.e ab af,.e (aa++[aH]) (hs++[(⟨Shp.cells aH ([(cH,cI),(cJ,cK)]:List (Option Addr × Nat)),AA⟩:Hd 2)])]
   exact dt (k+1,(aa++[aH]),iD,iE,(hs++[(⟨Shp.cells aH ([(cH,cI),(cJ,cK)]:List (Option Addr × Nat)),AA⟩:Hd 2)]),ac,r_out_1,c_out_1,ab,r_out_2,c_out_2,af,ae) _ _ AA (Z.to 1 [0] 9) ⟨AB,(by (simp; omega)),(by exact Ce ‹_› ‹_›),‹_›,‹_›,‹_›⟩ (by (simp only []; omega))
  refine .d<|.s<|.cf<|.x 0 rfl<|.s<|.g<|RG.Ln 3 Z<|RG.Ss 4 Z fun w Z=>.d ?_
  have Z:=(Z.fL 2 0 0 ac).eL 0 1 0 [1] ab af
  exact T.Rb 2 func44 results44 Z ⟨⟨r_out_0,c_out_0,hs,(some ⟨r_out_1,0,none⟩),c_out_1,(some ⟨r_out_2,0,none⟩),c_out_2,by rw [show d.files=aa from Eq.symm (by exact BN ‹_› AB),show d.list=ac from Eq.symm ‹_›,show d.names=ab from Eq.symm ‹_›,show d.next=ae from Eq.symm ‹_›]; kernel_rfl,by rw [show d.files=aa from Eq.symm (by exact BN ‹_› AB),show d.list=ac from Eq.symm ‹_›,show d.names=ab from Eq.symm ‹_›]; exact Z.rX 1 [0,1,2] [0] _ _ AE⟩,Z.xt⟩
 refine GE.An (hf:=.inr Au) 0 2 ([]:List Int) d.list [2,3] Z fun dZ d0 w Z=>.tw 0 7 ?_ ?_
 ·refine GE.N0 (Hd 2) 0 Z fun iF w Z=>?_
  have Z:=Z.o2r 0 0 Fil 2
  refine .go 7<|GE.DB 0 0 (fun w Z=>Al d.names (Z.a 2) AB (fun n hn=>by have:=p4 n hn; omega)) Z fun iG iH eX w Z=>.r [10]<|GA.Do Z fun w Z=>RG.Ss 3 Z fun w Z=>.d<|.s<|.s<|.g<|.r 1<|RG.Lb 5 Z<|.r 2<|.d<|.b 0<|T.Lp ((0:Nat),([]:List Fil),iF,(0:Nat),([]:List (Hd 2)),(([]++d.list):List Int),dZ,d0,(d.names:List (List Tag)),iG,iH,eX,d.next) (fun (k,aa,r_out_0,c_out_0,hs,ac,r_out_1,c_out_1,ab,r_out_2,c_out_2,af,ae)=>([(2,vP ag),(3,vP ai),(18,.slice a1 d.files.length c1),(19,vI (d.files.length:Int)),(20,vI (k:Int))],[(0,.raw 0 r_out_2 69 c_out_2 ab af),(1,.raw 0 r_out_0 148 c_out_0 aa hs),(2,.own 0 r_out_1 3 c_out_1 ac),(3,.box ai 35 [vS r_out_0 aa.length c_out_0,vS r_out_1 ac.length c_out_1,vS r_out_2 ab.length c_out_2,vI ae])],[⟨0,none,.sep [.e ab af,.e aa hs]⟩],d.files.length - k,(k≤d.files.length)∧(aa.length≤k)∧(aa++d.files.drop k=d.files)∧(ac=d.list)∧(ab=d.names)∧(ae=d.next))) [0] Z ⟨AB,AD,AF,AF,AF,AB⟩ ?_
  rintro ⟨k,aa,r_out_0,c_out_0,hs,ac,r_out_1,c_out_1,ab,r_out_2,c_out_2,af,ae⟩ oO w Z ⟨lp,lq,lv,lw,ly,lz⟩ du
  refine .s<|.g<|.bp ((k:Int)< (d.files.length:Int)) (fun eY=>?_) (fun eY=>?_)
  ·refine .d<|.s<|.ct<|.sk<|.s<|.b 1<|.s<|.g<|gx d.files k fun aI bk=>?_
   have lA:=AZ bk; have iI:=AV bk
   refine RG.Ix 6 bk Z<|Z.el 6 bk fun oP oQ oR oS Z=>RG.Lg 0 0 Z<|RG.Np Z fun iJ w Z=>RG.Ss 0 Z fun w Z=>.d<|T.GS 9 [iJ,ai,ag,ah] Z fun _ w Z=>.r [0]<|GA.Lb (q:=1) 1 4 Z<|.r [2]<|GA.Lb 3 0 Z<|.r [4]<|GA.Ln 5 0 Z<|.go 6<|GE.DD 3 0 (fun w Z=>Ai aI.part (Z.a 1) (Z.a 2) (p1 _ ‹_›)) Z fun cL cM cN cO w Z=>.r [7]<|.go 8<|GE.Nb 1 Z fun oT w Z=>GA.Do Z fun w Z=>RG.Ar 2 0 aa aI hs (⟨Shp.cells aI ([(cL,cM),(cN,cO)]:List (Option Addr × Nat)),AA⟩:Hd 2) Z fun iK iL w Z=>?_
   have Z:=Z.eA 0 0 [3,2,2] aa hs (⟨Shp.cells aI ([(cL,cM),(cN,cO)]:List (Option Addr × Nat)),AA⟩:Hd 2) aI ([(cL,cM),(cN,cO)]:List (Option Addr × Nat))
   refine .r 1<|RG.Ss 4 Z fun w Z=>.d<|.ib 1<|.g<|.it ((k:Int)+1)<|.r 1<|.d ?_
   have Z:=Z.sM 0 0 [0,1] [.e ab af,.e (aa++[aI]) (hs++[(⟨Shp.cells aI ([(cL,cM),(cN,cO)]:List (Option Addr × Nat)),AA⟩:Hd 2)])]
   exact du (k+1,(aa++[aI]),iK,iL,(hs++[(⟨Shp.cells aI ([(cL,cM),(cN,cO)]:List (Option Addr × Nat)),AA⟩:Hd 2)]),ac,r_out_1,c_out_1,ab,r_out_2,c_out_2,af,ae) _ _ AA (Z.to 1 [0] 9) ⟨AB,(by (simp; omega)),(by exact Ce ‹_› ‹_›),‹_›,‹_›,‹_›⟩ (by (simp only []; omega))
  refine .d<|.s<|.cf<|.x 0 rfl<|.s<|.g<|RG.Ln 3 Z<|RG.Ss 4 Z fun w Z=>.d ?_
  have Z:=(Z.fL 2 0 0 ac).eL 0 1 0 [1] ab af
  exact T.Rb 2 func44 results44 Z ⟨⟨r_out_0,c_out_0,hs,(some ⟨r_out_1,0,none⟩),c_out_1,(some ⟨r_out_2,0,none⟩),c_out_2,by rw [show d.files=aa from Eq.symm (by exact BN ‹_› AB),show d.list=ac from Eq.symm ‹_›,show d.names=ab from Eq.symm ‹_›,show d.next=ae from Eq.symm ‹_›]; kernel_rfl,by rw [show d.files=aa from Eq.symm (by exact BN ‹_› AB),show d.list=ac from Eq.symm ‹_›,show d.names=ab from Eq.symm ‹_›]; exact Z.rX 1 [0,1,2] [0] _ _ AE⟩,Z.xt⟩
 refine GE.DB 0 0 (fun w Z=>Al d.names (Z.a 1) AB (fun n hn=>by have:=p4 n hn; omega)) Z fun iM iN eZ w Z=>.go 0<|GE.N0 (Hd 2) 0 Z fun iO w Z=>?_
 have Z:=Z.o2r 0 0 Fil 2
 refine .r [10]<|GA.Do Z fun w Z=>RG.Ss 3 Z fun w Z=>.d<|.s<|.s<|.g<|.r 1<|RG.Lb 5 Z<|.r 2<|.d<|.b 0<|T.Lp ((0:Nat),([]:List Fil),iO,(0:Nat),([]:List (Hd 2)),(([]++d.list):List Int),dZ,d0,(d.names:List (List Tag)),iM,iN,eZ,d.next) (fun (k,aa,r_out_0,c_out_0,hs,ac,r_out_1,c_out_1,ab,r_out_2,c_out_2,af,ae)=>([(2,vP ag),(3,vP ai),(18,.slice a1 d.files.length c1),(19,vI (d.files.length:Int)),(20,vI (k:Int))],[(0,.raw 0 r_out_0 148 c_out_0 aa hs),(1,.raw 0 r_out_2 69 c_out_2 ab af),(2,.own 0 r_out_1 3 c_out_1 ac),(3,.box ai 35 [vS r_out_0 aa.length c_out_0,vS r_out_1 ac.length c_out_1,vS r_out_2 ab.length c_out_2,vI ae])],[⟨0,none,.sep [.e aa hs,.e ab af]⟩],d.files.length - k,(k≤d.files.length)∧(aa.length≤k)∧(aa++d.files.drop k=d.files)∧(ac=d.list)∧(ab=d.names)∧(ae=d.next))) [0] Z ⟨AB,AD,AF,AF,AF,AB⟩ ?_
 rintro ⟨k,aa,r_out_0,c_out_0,hs,ac,r_out_1,c_out_1,ab,r_out_2,c_out_2,af,ae⟩ oU w Z ⟨lB,lC,lD,lE,lF,lG⟩ dv
 refine .s<|.g<|.bp ((k:Int)< (d.files.length:Int)) (fun e7=>?_) (fun e7=>?_)
 ·refine .d<|.s<|.ct<|.sk<|.s<|.b 1<|.s<|.g<|gx d.files k fun aJ bm=>?_
  have lH:=AZ bm; have iP:=AV bm
  refine RG.Ix 6 bm Z<|Z.el 6 bm fun oV oW oX oY Z=>RG.Lg 0 0 Z<|RG.Np Z fun iQ w Z=>RG.Ss 0 Z fun w Z=>.d<|T.GS 9 [iQ,ai,ag,ah] Z fun _ w Z=>.r [0]<|GA.Lb (q:=1) 1 4 Z<|.r [2]<|GA.Lb 3 0 Z<|.r [4]<|GA.Ln 5 0 Z<|.go 6<|GE.DD 3 0 (fun w Z=>Ai aJ.part (Z.a 1) (Z.a 2) (p1 _ ‹_›)) Z fun cP cQ cR cS w Z=>.r [7]<|.go 8<|GE.Nb 1 Z fun oZ w Z=>GA.Do Z fun w Z=>RG.Ar 1 0 aa aJ hs (⟨Shp.cells aJ ([(cP,cQ),(cR,cS)]:List (Option Addr × Nat)),AA⟩:Hd 2) Z fun iR iS w Z=>?_
  have Z:=Z.eA 0 0 [2,2,2] aa hs (⟨Shp.cells aJ ([(cP,cQ),(cR,cS)]:List (Option Addr × Nat)),AA⟩:Hd 2) aJ ([(cP,cQ),(cR,cS)]:List (Option Addr × Nat))
  refine .r 1<|RG.Ss 4 Z fun w Z=>.d<|.ib 1<|.g<|.it ((k:Int)+1)<|.r 1<|.d ?_
  have Z:=Z.sM 0 0 [1,1] [.e (aa++[aJ]) (hs++[(⟨Shp.cells aJ ([(cP,cQ),(cR,cS)]:List (Option Addr × Nat)),AA⟩:Hd 2)]),.e ab af]
  exact dv (k+1,(aa++[aJ]),iR,iS,(hs++[(⟨Shp.cells aJ ([(cP,cQ),(cR,cS)]:List (Option Addr × Nat)),AA⟩:Hd 2)]),ac,r_out_1,c_out_1,ab,r_out_2,c_out_2,af,ae) _ _ AA (Z.to 1 [0] 9) ⟨AB,(by (simp; omega)),(by exact Ce ‹_› ‹_›),‹_›,‹_›,‹_›⟩ (by (simp only []; omega))
 refine .d<|.s<|.cf<|.x 0 rfl<|.s<|.g<|RG.Ln 3 Z<|RG.Ss 4 Z fun w Z=>.d ?_
 have Z:=(Z.fL 2 0 0 ac).eL 1 1 0 [2] ab af
 exact T.Rb 2 func44 results44 Z ⟨⟨r_out_0,c_out_0,hs,(some ⟨r_out_1,0,none⟩),c_out_1,(some ⟨r_out_2,0,none⟩),c_out_2,by rw [show d.files=aa from Eq.symm (by exact BN ‹_› AB),show d.list=ac from Eq.symm ‹_›,show d.names=ab from Eq.symm ‹_›,show d.next=ae from Eq.symm ‹_›]; kernel_rfl,by rw [show d.files=aa from Eq.symm (by exact BN ‹_› AB),show d.list=ac from Eq.symm ‹_›,show d.names=ab from Eq.symm ‹_›]; exact Z.rX 1 [0,1,2] [0] _ _ AE⟩,Z.xt⟩
theorem GO (s:Sto) (n:List Tag) (r:Row) (h1:RepS w F a1 n1 c1 s.idx.names) (h2:RepS w F a2 n2 c2 s.idx.AY) (h3:RepS w F a3 n3 c3 s.parts) (h4:RepS w F a4 n4 c4 s.mem) (h5:RepS w F a5 n5 c5 n) (p0:SD s) (p1:n.length≤1100000):Calls Tryz.prog 60 [.agg #[.slice a1 n1 c1,.slice a2 n2 c2,.slice a3 n3 c3,.slice a4 n4 c4],.slice a5 n5 c5,.agg #[.int .i64 r.t,.int .i64 r.v]].toArray w (Ag fun rv w'=>(∃ v0,rv=.tuple #[v0,.bool ((Db s n r).2)]∧VD w.heap.size w' ((Db s n r).1:Sto) v0)∧Ext w w'):=by
 cases h1.len
 cases h2.len
 cases h3.len
 cases h4.len
 cases h5.len
 refine goT func60 ?_
 have Z:=(((((St.i0 F w).p h1).p h2).p h3).p h4).p h5
 have aR:=h4.max
 have Z:=Z.s0 0
 refine .s<|.g<|RG.Np Z fun aX w Z=>RG.Np Z fun aY w Z=>RG.Np Z fun aZ w Z=>.r 1<|.d<|.s<|.s<|.g<|RG.Ln 2 Z<|RG.C0 (E5 s (Z.a 5) (Z.a 4) (Z.a 3) (Z.a 2) p0) Z fun w Z=>?_
 cases aT:(Ae s)
 ·refine .r 6<|.d<|.ct<|.s<|.g<|.r 1<|RG.Ss 0 Z fun w Z=>.r 1<|.d ?_
  have Z:=(((Z.sZ (List Tag) 0 0).sZ Pst 1 0).sZ Prt 1 0).sZ Smp 1 0
  exact T.r2 func60 results60 (.B 0 Z) (.t (.bool false)) ⟨⟨_,(Ch rfl (AG (by exact (congrArg Prod.snd (KI (.inl ‹_›))).symm))),Z.rD 1 [0,1,2,3] (⟨(⟨([]:List (List Tag)),([]:List Pst)⟩:Idx),([]:List Prt),([]:List Smp)⟩:Sto) [(none,0),(none,0),(none,0),(none,0)] (by exact (congrArg Prod.fst (KI (.inl ‹_›))).symm)⟩,Z.xt⟩
 refine .r 3<|RG.C0 (FG n (Z.a 1)) Z fun w Z=>?_
 cases aU:(At n)
 ·refine .r 2<|.d<|.ct<|.s<|.g<|.r 1<|RG.Ss 0 Z fun w Z=>.r 1<|.d ?_
  have Z:=(((Z.sZ (List Tag) 0 0).sZ Pst 1 0).sZ Prt 1 0).sZ Smp 1 0
  exact T.r2 func60 results60 (.B 0 Z) (.t (.bool false)) ⟨⟨_,(Ch rfl (AG (by exact (congrArg Prod.snd (KI (.inr ‹_›))).symm))),Z.rD 1 [0,1,2,3] (⟨(⟨([]:List (List Tag)),([]:List Pst)⟩:Idx),([]:List Prt),([]:List Smp)⟩:Sto) [(none,0),(none,0),(none,0),(none,0)] (by exact (congrArg Prod.fst (KI (.inr ‹_›))).symm)⟩,Z.xt⟩
 refine .r 2<|.d<|.cf<|.sk<|.s<|.g<|RG.Ln 2 Z<|RG.cl (CW s (Z.a 5) (Z.a 4) (Z.a 3) (Z.a 2) p0.nm p0.nd p0.sz) ?_
 rintro _ w ⟨⟨ae,af,ag,ah,ab,ac,aa,ai,aj,rfl,ak⟩,am⟩
 have Z:=Z.vX 0 ak am
 refine RG.Np Z fun ba w Z=>RG.Ss 0 Z fun w Z=>.d<|.s<|.g<|.r 1<|RG.Ln 5 Z<|.r 1<|RG.DT (us:=[vI ((CD s.idx n).2.1),.bool ((CD s.idx n).2.2)]) 0 0 (Jy s.idx n (Z.a 8) (Z.a 7) (Z.a 4) p0.ix p0.nd p1) Z fun aA aB aC aD w Z=>.r 3 ?_
 cases aV:(CD s.idx n).2.2
 ·refine .r 1<|RG.Np Z fun bg w Z=>RG.Ss 0 Z fun w Z=>.r 2<|.d<|.s<|.s<|.g<|.r 13<|.d<|.ct<|.s<|.g<|RG.Ln 1 Z<|RG.Ss 4 Z fun w Z=>.r 1<|.d ?_
  have Z:=(Z.eL 2 0 0 [4] (((Ad s)).parts) aa).fL 2 1 0 (((Ad s)).mem)
  exact T.r2 func60 results60 (.B 2 Z) (.t (.bool false)) ⟨⟨_,(Ch rfl (AG (by exact (congrArg Prod.snd (SA p0 ‹_› ‹_› ‹_›)).symm))),Z.rD 1 [0,1,5,5] (⟨(⟨(((Ad s)).idx).names,(((Ad s)).idx).AY⟩:Idx),((Ad s)).parts,((Ad s)).mem⟩:Sto) [(ae,af),(ag,ah),(some ⟨ab,0,none⟩,ac),(some ⟨ai,0,none⟩,aj)] (by exact (congrArg Prod.fst (SA p0 ‹_› ‹_› ‹_›)).symm)⟩,Z.xt⟩
 refine .r 1<|RG.Np Z fun bh w Z=>RG.Ss 0 Z fun w Z=>.r 2<|.d<|.s<|.s<|.g<|.r 3<|RG.Ln 5 Z<|RG.C0 (Fv r (F:=all)) Z fun w Z=>?_
 cases aW:(BU r)
 ·refine .r 8<|.d<|.ct<|.s<|.g<|RG.Ln 1 Z<|RG.Ss 4 Z fun w Z=>.r 1<|.d ?_
  have Z:=(Z.eL 2 0 0 [4] (((Ad s)).parts) aa).fL 2 1 0 (((Ad s)).mem)
  exact T.r2 func60 results60 (.B 2 Z) (.t (.bool false)) ⟨⟨_,(Ch rfl (AG (by exact (congrArg Prod.snd (SB p0 ‹_› ‹_› ‹_›)).symm))),Z.rD 1 [0,1,5,5] (⟨(⟨(((Ad s)).idx).names,(((Ad s)).idx).AY⟩:Idx),((Ad s)).parts,((Ad s)).mem⟩:Sto) [(ae,af),(ag,ah),(some ⟨ab,0,none⟩,ac),(some ⟨ai,0,none⟩,aj)] (by exact (congrArg Prod.fst (SB p0 ‹_› ‹_› ‹_›)).symm)⟩,Z.xt⟩
 refine .r 4<|RG.Lb 6 Z<|.r 1<|.eq (s.mem.length:Int) 20 (fun ao=>?_) (fun ao=>?_)
 ·refine .r 1<|.d<|.ct<|.s<|.g<|RG.Ln 1 Z<|RG.Ss 4 Z fun w Z=>.r 1<|.d ?_
  have Z:=(Z.eL 2 0 0 [4] (((Ad s)).parts) aa).fL 2 1 0 (((Ad s)).mem)
  exact T.r2 func60 results60 (.B 2 Z) (.t (.bool false)) ⟨⟨_,(Ch rfl (AG (by exact (congrArg Prod.snd (SC p0 ‹_› ‹_› ‹_›)).symm))),Z.rD 1 [0,1,5,5] (⟨(⟨(((Ad s)).idx).names,(((Ad s)).idx).AY⟩:Idx),((Ad s)).parts,((Ad s)).mem⟩:Sto) [(ae,af),(ag,ah),(some ⟨ab,0,none⟩,ac),(some ⟨ai,0,none⟩,aj)] (by exact (congrArg Prod.fst (SC p0 ‹_› ‹_› ‹_›)).symm)⟩,Z.xt⟩
 refine .r 1<|.d<|.cf<|.sk<|.s<|.g<|RG.Ln 0 Z<|.r 1<|RG.Ss 1 Z fun w Z=>.d<|.s<|.g<|.r 1<|RG.Lb 1 Z<|.r 1<|RG.Ln 5 Z<|.r 1<|RG.Nb 1 Z fun bi w Z=>RG.Ap (hs:=by exact (by have q1:=p0.nm2; have q2:(Ad s).mem.length=s.mem.length:=rfl; omega)) 3 0 (((Ad s)).mem) (⟨(CD s.idx n).2.1,(⟨r.t,r.v⟩:Row)⟩:Smp) [] Z fun aE aF w Z=>.r 1<|RG.Ss 1 Z fun w Z=>.d<|.s<|.s<|.g<|RG.Ln 1 Z<|.r 1<|RG.DA 0 0 (D9 (⟨(⟨(CD s.idx n).1.names,((CD s.idx n).1).AY⟩:Idx),((Ad s)).parts,(((Ad s)).mem++[(⟨(CD s.idx n).2.1,(⟨r.t,r.v⟩:Row)⟩:Smp)])⟩:Sto) ((CD s.idx n).2.1) (Z.a 1) (Z.a 2) (Z.ra 2 0 [4] (((Ad s)).parts) aa) (Z.oa 3) (by exact (StoK.of p0 ‹_›).part) (UA (StoK.of p0 ‹_›) ‹_›) (by have q1:=p0.np; exact Nat.le_trans q1 AB) (by have q1:=p0.nm2; simp only [Ad,List.length_append,List.length_cons,List.length_nil]; omega)) Z fun bk bm w Z=>.r 1<|.bp ((((rowsOf (⟨(⟨(CD s.idx n).1.names,((CD s.idx n).1).AY⟩:Idx),((Ad s)).parts,(((Ad s)).mem++[(⟨(CD s.idx n).2.1,(⟨r.t,r.v⟩:Row)⟩:Smp)])⟩:Sto) ((CD s.idx n).2.1)).length):Int) > 24) (fun aq=>?_) (fun aq=>?_)
 ·refine .d<|.ct<|.s<|.g<|RG.Ln 6 Z<|RG.cl (CW s (Z.a 13) (Z.a 12) (Z.a 11) (Z.a 10) p0.nm p0.nd p0.sz) ?_
  rintro _ w ⟨⟨aG,aH,aI,aJ,aK,aL,ar,aM,aN,rfl,ax⟩,ay⟩
  have Z:=Z.vX 0 ax ay
  refine RG.Ss 6 Z fun w Z=>.r 1<|.d ?_
  have Z:=(Z.eL 0 0 0 [2] (((Ad s)).parts) ar).fL 0 1 0 (((Ad s)).mem)
  exact T.r2 func60 results60 (.B 4 Z) (.t (.bool false)) ⟨⟨_,(Ch rfl (AG (by exact (congrArg Prod.snd (SE p0 ‹_› ‹_› ‹_› ‹_› ‹_› ‹_›)).symm))),Z.rD 1 [0,1,3,3] (⟨(⟨(((Ad s)).idx).names,(((Ad s)).idx).AY⟩:Idx),((Ad s)).parts,((Ad s)).mem⟩:Sto) [(aG,aH),(aI,aJ),(some ⟨aK,0,none⟩,aL),(some ⟨aM,0,none⟩,aN)] (by exact (congrArg Prod.fst (SE p0 ‹_› ‹_› ‹_› ‹_› ‹_› ‹_›)).symm)⟩,Z.xt⟩
 refine .d<|.cf<|.sk<|.s<|.g<|RG.Ln 1 Z<|RG.Ss 4 Z fun w Z=>.r 1<|.d ?_
 have Z:=(Z.eL 2 0 0 [5] (((Ad s)).parts) aa).fL 2 1 0 (((Ad s)).mem++[(⟨(CD s.idx n).2.1,(⟨r.t,r.v⟩:Row)⟩:Smp)])
 exact T.r2 func60 results60 (.B 2 Z) (.t (.bool true)) ⟨⟨_,(Ch rfl (AG (by exact (congrArg Prod.snd (SF p0 ‹_› ‹_› ‹_› ‹_› ‹_› ‹_›)).symm))),Z.rD 1 [0,1,4,4] (⟨(⟨(CD s.idx n).1.names,((CD s.idx n).1).AY⟩:Idx),((Ad s)).parts,(((Ad s)).mem++[(⟨(CD s.idx n).2.1,(⟨r.t,r.v⟩:Row)⟩:Smp)])⟩:Sto) [(aA,aB),(aC,aD),(some ⟨ab,0,none⟩,ac),(some ⟨aE,0,none⟩,aF)] (by exact (congrArg Prod.fst (SF p0 ‹_› ‹_› ‹_› ‹_› ‹_› ‹_›)).symm)⟩,Z.xt⟩
theorem Ih (s:Sto) (h1:RepS w F a1 n1 c1 s.idx.names) (h2:RepS w F a2 n2 c2 s.idx.AY) (h3:RepS w F a3 n3 c3 s.parts) (h4:RepS w F a4 n4 c4 s.mem) (p0:SD s):Calls Tryz.prog 62 [.agg #[.slice a1 n1 c1,.slice a2 n2 c2,.slice a3 n3 c3,.slice a4 n4 c4]].toArray w (Ag fun rv w'=>(∃ v0,rv=.tuple #[v0,.bool ((Cl s).2)]∧VD w.heap.size w' ((Cl s).1:Sto) v0)∧Ext w w'):=by
 cases h1.len
 cases h2.len
 cases h3.len
 cases h4.len
 refine goT func62 ?_
 have Z:=((((St.i0 F w).p h1).p h2).p h3).p h4
 have aI:=h3.max
 have aJ:=h4.max
 have Z:=Z.s0 0
 refine .s<|.g<|RG.Np Z fun aA w Z=>RG.Np Z fun aB w Z=>.r 1<|.d<|.s<|.s<|.g<|RG.Ln 1 Z<|RG.C0 (E5 s (Z.a 4) (Z.a 3) (Z.a 2) (Z.a 1) p0) Z fun w Z=>?_
 cases aK:(Ae s)
 ·refine .r 1<|.d<|.ct<|.s<|.g<|.r 1<|RG.Ss 0 Z fun w Z=>.r 1<|.d ?_
  have Z:=(((Z.sZ (List Tag) 0 0).sZ Pst 1 0).sZ Prt 1 0).sZ Smp 1 0
  exact T.r2 func62 results62 (.B 0 Z) (.t (.bool false)) ⟨⟨_,(Ch rfl (AG (by rw [JF ‹_›]))),Z.rD 1 [0,1,2,3] (⟨(⟨([]:List (List Tag)),([]:List Pst)⟩:Idx),([]:List Prt),([]:List Smp)⟩:Sto) [(none,0),(none,0),(none,0),(none,0)] (by rw [JF ‹_›])⟩,Z.xt⟩
 refine .r 1<|.d<|.cf<|.sk<|.s<|.g<|RG.Ln 1 Z<|RG.cl (CW s (Z.a 4) (Z.a 3) (Z.a 2) (Z.a 1) p0.nm p0.nd p0.sz) ?_
 rintro _ w ⟨⟨ag,ah,ai,aj,ak,am,aa,ao,aq,rfl,ar⟩,ax⟩
 have Z:=Z.vX 0 ar ax
 refine RG.Np Z fun aC w Z=>RG.Ss 0 Z fun w Z=>.d<|.s<|.s<|.g<|.r 1<|RG.Lb 4 Z<|.r 1<|.eq (s.mem.length:Int) 0 (fun ay=>?_) (fun ay=>?_)
 ·refine .r 6<|.d<|.ct<|.s<|.g<|RG.Ln 0 Z<|RG.Ss 3 Z fun w Z=>.r 1<|.d ?_
  have Z:=(Z.eL 1 0 0 [2] (((Ad s)).parts) aa).fL 1 1 0 (((Ad s)).mem)
  exact T.r2 func62 results62 (.B 1 Z) (.t (.bool false)) ⟨⟨_,(Ch rfl (AG (by rw [G4 p0 ‹_› (.inl ‹_›)]))),Z.rD 1 [0,1,3,3] (⟨(⟨(((Ad s)).idx).names,(((Ad s)).idx).AY⟩:Idx),((Ad s)).parts,((Ad s)).mem⟩:Sto) [(ag,ah),(ai,aj),(some ⟨ak,0,none⟩,am),(some ⟨ao,0,none⟩,aq)] (by rw [G4 p0 ‹_› (.inl ‹_›)])⟩,Z.xt⟩
 refine .r 2<|RG.Lb 4 Z<|.r 1<|.eq (s.parts.length:Int) 6 (fun az=>?_) (fun az=>?_)
 ·refine .r 1<|.d<|.ct<|.s<|.g<|RG.Ln 0 Z<|RG.Ss 3 Z fun w Z=>.r 1<|.d ?_
  have Z:=(Z.eL 1 0 0 [2] (((Ad s)).parts) aa).fL 1 1 0 (((Ad s)).mem)
  exact T.r2 func62 results62 (.B 1 Z) (.t (.bool false)) ⟨⟨_,(Ch rfl (AG (by rw [G4 p0 ‹_› (.inr ‹_›)]))),Z.rD 1 [0,1,3,3] (⟨(⟨(((Ad s)).idx).names,(((Ad s)).idx).AY⟩:Idx),((Ad s)).parts,((Ad s)).mem⟩:Sto) [(ag,ah),(ai,aj),(some ⟨ak,0,none⟩,am),(some ⟨ao,0,none⟩,aq)] (by rw [G4 p0 ‹_› (.inr ‹_›)])⟩,Z.xt⟩
 refine .r 1<|.d<|.cf<|.sk<|.s<|T.GS 5 [aC,aB,aA] Z fun _ w Z=>.r [0]<|GA.Lb 1 0 Z<|GA.Ln (q:=2) 2 4 Z<|.go 3<|GE.DD 0 0 (fun w Z=>EW s (Z.a 7) (Z.a 6) (Z.a 5) (Z.a 4) (StoK.of p0 ‹_›).row (StoK.of p0 ‹_›).IN.Iz (by have:=p0.nm2; omega)) Z fun ab ac ae af w Z=>.go 4<|GE.Nb 1 Z fun aL w Z=>GA.Do Z fun w Z=>RG.Ar (hsz:=by exact (by have q1:=p0.np; have q2:(Ad s).parts.length=s.parts.length:=rfl; omega)) 1 0 (((Ad s)).parts) (Ah s.mem) aa (⟨Shp.cells (Ah s.mem) ([(ab,ac),(ae,af)]:List (Option Addr × Nat)),AA⟩:Hd 1) Z fun aD aE w Z=>?_
 have Z:=Z.eA 0 0 [4,2,2] (((Ad s)).parts) aa (⟨Shp.cells (Ah s.mem) ([(ab,ac),(ae,af)]:List (Option Addr × Nat)),AA⟩:Hd 1) (Ah s.mem) ([(ab,ac),(ae,af)]:List (Option Addr × Nat))
 refine .r 1<|RG.Ss 0 Z fun w Z=>.d<|.s<|.g<|RG.N0 Smp 0 Z fun aF w Z=>.r 1<|RG.Ss 1 Z fun w Z=>.d<|.s<|.g<|RG.Ln 1 Z<|RG.Ss 4 Z fun w Z=>.r 1<|.d ?_
 have Z:=(Z.eL 2 0 0 [0] (((Ad s)).parts++[(Ah s.mem)]) (aa++[(⟨Shp.cells (Ah s.mem) ([(ab,ac),(ae,af)]:List (Option Addr × Nat)),AA⟩:Hd 1)])).fL 0 1 0 ([]:List Smp)
 exact T.r2 func62 results62 (.B 2 Z) (.t (.bool true)) ⟨⟨_,(Ch rfl (AG (by rw [IU p0 ‹_› ‹_› ‹_›]))),Z.rD 1 [0,1,3,3] (⟨(⟨(((Ad s)).idx).names,(((Ad s)).idx).AY⟩:Idx),(((Ad s)).parts++[(Ah s.mem)]),([]:List Smp)⟩:Sto) [(ag,ah),(ai,aj),(some ⟨aD,0,none⟩,aE),(some ⟨aF,0,none⟩,0)] (by rw [IU p0 ‹_› ‹_› ‹_›])⟩,Z.xt⟩
end Go.Proofs.YtcginoabkicdiaaGreat
namespace Go.Proofs.YtcginoabkicdiaaGreat
theorem WZ {d:Dsk}{a:List (List Tag)}{b:List Pst}{c:List Prt}{e:List Smp}(h2:c=d.list.map (As d)) (h3:e=[]) (h4:(⟨a,b⟩:Idx)=idxOf d.names):(⟨⟨a,b⟩,c,e⟩:Sto)=Aj d:=by
 subst h2; subst h3
 rw [h4]; rfl
end Go.Proofs.YtcginoabkicdiaaGreat
namespace Go.Proofs.YtcginoabkicdiaaGreat
set_option maxRecDepth 100000
set_option maxHeartbeats 4000000
variable {w:World} {F:Nat→Prop} {a1 a2 a3:Option Addr} {n1 c1 n2 c2 n3 c3:Nat}
theorem FE (f:Fil) (d:Dsk) (h1:RepS w F a1 n1 c1 f.part.ids) (h2:RepS w F a2 n2 c2 f.part.blocks){bq_d:Nat}{a3:Option Addr}{c3:Nat}{a4:Option Addr}{c4:Nat}{a5:Option Addr}{c5:Nat}(hb_d:Box w bq_d 35 [.slice a3 d.files.length c3,.slice a4 d.list.length c4,.slice a5 d.names.length c5,.int .i64 d.next]) (h3:RepS w F a3 d.files.length c3 d.files) (h4:RepS w F a4 d.list.length c4 d.list) (h5:RepS w F a5 d.names.length c5 d.names)  : Calls Tryz.prog 187 [.agg #[.int .i64 f.num,.slice a1 n1 c1,.slice a2 n2 c2],.pointer (some ⟨bq_d,0,none⟩)].toArray w (Ag fun rv w'=>rv=.bool ((!(d.list.contains f.num)))∧Ext w w'):=by
 cases h1.len
 cases h2.len
 refine goT func187 ?_
 have Z:=((((((St.i0 F w).p h1).p h2).p h3).p h4).p h5).pb' hb_d
 exact .s<|.g<|RG.Np Z fun ag w Z=>.r 1<|.d<|.s<|.g<|.r 1<|RG.Lh 0 1 Z<|.r 1<|RG.Lb 0 Z<|RG.C0 (CQ d.list f.num (Z.a 2)) Z fun w Z=>.r 2<|.d<|T.rt func187 results187 (.bool (!(d.list.contains f.num))) ⟨(AG AF),Z.xt⟩
theorem Ii (d:Dsk) (at_:Int) (h1:RepS w F a1 n1 c1 d.files) (h2:RepS w F a2 n2 c2 d.list) (h3:RepS w F a3 n3 c3 d.names) (p0:DD d):Calls Tryz.prog 63 [.agg #[.slice a1 n1 c1,.slice a2 n2 c2,.slice a3 n3 c3,.int .i64 d.next],.int .i64 at_].toArray w (Ag fun rv w'=>VL (ge w.heap.size) w' (Aq d at_:List Stp) rv∧Ext w w'):=by
 refine goT func63 ?_
 obtain ⟨rfl,iZ,h1⟩:=h1.tp
 obtain ⟨rfl,ja,h2⟩:=h2.tp
 obtain ⟨rfl,jb,h3⟩:=h3.tp
 refine .s<|.g<|.np 35 [.slice a1 d.files.length c1,.slice a2 d.list.length c2,.slice a3 d.names.length c3,vI d.next] fun aj gJ dP co aa fX=>?_
 replace ⟨h1,h2,h3⟩:=(sn [] co dP).g3 h1 h2 h3
 have ab:=co
 refine .r 1<|.d<|.s<|.s<|.g<|.ln aa<|.cl (Cv d h1.ta h2.ta h3.ta p0 (w:=gJ) (F:=all)) ?_
 rintro kv gK ⟨rfl,dQ⟩
 replace ⟨h1,h2,h3,aa,ab⟩:=(se [aj] dQ).g5 h1 h2 h3 aa ab
 cases jc:(Ax d)
 ·refine .r 14<|.d<|.ct<|.s<|.g<|.ns 0 163 [] fun cp fY bY dR fZ f5=>?_
  have jd:=Ay bY aa.lt
  have f6:=Cy bY ab.size
  replace ⟨h1,h2,h3,aa,ab⟩:=(sn [aj] dR bY).g5 h1 h2 h3 aa ab
  have f7:Own (α:=Stp) fY cp 163 (nin (ge w.heap.size) [cp,aj]) 0 0 []:=Own.By fZ
  refine .r 1<|.d ?_
  have gL:=f7.sl f6
  replace ⟨h1,h2,h3⟩:=(sd fY [cp,aj] cp).g3 h1 h2 h3
  exact .rt func63 results63 (vS cp 0 0) ⟨(gL.vl (by exact (OW ‹_›).symm) (fun _ _ h=>h.1)),ab⟩
 refine .r 4<|.lb aa<|.r 1<|RG.int ((d.list.length:Int) - 2) AA (by have:=p0.nl; omega)<|.cl (Bz at_ 0 ((d.list.length:Int) - 2) (w:=gK) (F:=all)) ?_
 rintro kw gM ⟨rfl,dS⟩
 replace ⟨h1,h2,h3,aa,ab⟩:=(se [aj] dS).g5 h1 h2 h3 aa ab
 cases dT:(inR at_ 0 ((d.list.length:Int) - 2))
 ·refine .r 6<|.d<|.ct<|.s<|.g<|.ns 0 163 [] fun cq f8 bZ dU f9 gb=>?_
  have jf:=Ay bZ aa.lt
  have gf:=Cy bZ ab.size
  replace ⟨h1,h2,h3,aa,ab⟩:=(sn [aj] dU bZ).g5 h1 h2 h3 aa ab
  have gh:Own (α:=Stp) f8 cq 163 (nin (ge w.heap.size) [cq,aj]) 0 0 []:=Own.By f9
  refine .r 1<|.d ?_
  have gN:=gh.sl gf
  replace ⟨h1,h2,h3⟩:=(sd f8 [cq,aj] cq).g3 h1 h2 h3
  exact .rt func63 results63 (vS cq 0 0) ⟨(gN.vl (by exact VF ‹_› (.inl ‹_›)) (fun _ _ h=>h.1)),ab⟩
 have jg:=Bu dT
 refine .r 3<|.ln aa<|.cl (Fi d h1.ta h2.ta h3.ta (w:=gM) (F:=all)) ?_
 rintro kx ky ⟨rfl,dV⟩
 replace ⟨h1,h2,h3,aa,ab⟩:=(se [aj] dV).g5 h1 h2 h3 aa ab
 cases jh:(Ef d)
 ·refine .r 1<|.d<|.cf<|.sk<|.s<|.gd nil 12 fun kz dW=>?_
  replace ⟨h1,h2,h3,aa,ab⟩:=(se [aj] dW).g5 h1 h2 h3 aa ab
  refine .r [0]<|.lb 1 aa id<|.r [2] ?_
  have dX:at_.toNat< d.list.length:=AB
  refine GA.idx (i:=3) (at_.toNat) (len:=d.list.length) (z:=at_) (sz:=1) AA AB dX (h2.addr (Nat.zero_lt_of_lt dX)) ?_
  obtain ⟨bj,cu⟩:∃ y,d.list[at_.toNat]? = some y:=⟨_,AU AB⟩
  have gG:=AV cu
  obtain ⟨_,rfl,gi⟩:=h2.elem (at_.toNat) bj cu
  refine .lh 4 0 gi id<|.r [5]<|.lb 6 aa id<|.r [7]<|GA.int (i:=8) (at_+1) AA (by have:=p0.nl; omega) ?_
  have dY:(at_+1).toNat< d.list.length:=AB
  refine GA.idx (i:=9) ((at_+1).toNat) (len:=d.list.length) (z:=at_+1) (sz:=1) AA AB dY (h2.addr (Nat.zero_lt_of_lt dY)) ?_
  obtain ⟨bk,cw⟩:∃ y,d.list[(at_+1).toNat]? = some y:=⟨_,AU AB⟩
  have gH:=AV cw
  obtain ⟨_,rfl,gj⟩:=h2.elem ((at_+1).toNat) bk cw
  refine .lh 10 0 gj id<|.r [11]<|.d fun cj dZ=>?_
  replace ⟨h1,h2,h3,aa,ab⟩:=(se [aj] dZ).g5 h1 h2 h3 aa ab
  refine .r 1<|.d<|.s ?_
  replace h1:=h1.Ey
  replace h2:=h2.Ey
  replace h3:=h3.Ey
  have b6:Gb (aj+1) cj.heap.size:=aa.lt
  refine .gd (mtb [] cj.heap.size) 22 fun gO cx=>?_
  replace ⟨h1,h2,h3,aa,ab⟩:=(se [aj] cx).g5 h1 h2 h3 aa ab
  have aD:Chg (mtb [] cj.heap.size) cj gO:=Chg.Lw (Chg.refl (mtb [] cj.heap.size) cj) cx
  refine .r [0]<|.lb 1 aa (C5 all_nil b6)<|.ln 2 aa (C5 all_nil b6)<|.r [3]<|GA.Lu (i:=4) AA (fun gP cy=>CH d bj (h1.QT cy all_nil) (h2.QT cy all_nil) (h3.QT cy all_nil) (w:=gP) (F:=all)) ?_
  have d0:(Ak d bj).toNat< d.files.length:=(by exact (FD (EX (Cs ‹_›).2.2.2 _ ‹_›)).1)
  refine GA.idx (i:=5) ((Ak d bj).toNat) (len:=d.files.length) (z:=Ak d bj) (sz:=3) AA (by exact (FD (EX (Cs ‹_›).2.2.2 _ ‹_›)).2) d0 (h1.addr (Nat.zero_lt_of_lt d0))<|.r [6] ?_
  obtain ⟨aJ,b7⟩:∃ y,d.files[(Ak d bj).toNat]? = some y:=⟨_,AU AB⟩
  have gI:=AV b7
  obtain ⟨_,⟨jl,jm,jn,jo,jp,jq,rfl,ac,ae⟩,d3⟩:=h1.elem ((Ak d bj).toNat) aJ b7
  have d4:=ac.len
  subst d4
  have d5:=ae.len
  subst d5
  refine .lg 7 1 d3 (h1.nS (Ov b7) all_nil)<|.r [8]<|.lb 9 aa (C5 all_nil b6)<|.ln 10 aa (C5 all_nil b6)<|.r [11]<|GA.Lu (i:=12) AA (fun gk bA=>CH d bk (h1.QT bA all_nil) (h2.QT bA all_nil) (h3.QT bA all_nil) (w:=gk) (F:=all)) ?_
  have cz:(Ak d bk).toNat< d.files.length:=(by exact (FD (EX (Cs ‹_›).2.2.2 _ ‹_›)).1)
  refine GA.idx (i:=13) ((Ak d bk).toNat) (len:=d.files.length) (z:=Ak d bk) (sz:=3) AA (by exact (FD (EX (Cs ‹_›).2.2.2 _ ‹_›)).2) cz (h1.addr (Nat.zero_lt_of_lt cz))<|.r [14] ?_
  obtain ⟨aA,bw⟩:∃ y,d.files[(Ak d bk).toNat]? = some y:=⟨_,AU AB⟩
  have gl:=AV bw
  obtain ⟨_,⟨jr,jt,ju,jv,jw,jx,rfl,af,ag⟩,d6⟩:=h1.elem ((Ak d bk).toNat) aA bw
  have d7:=af.len
  subst d7
  have d8:=ag.len
  subst d8
  refine .lg 15 1 d6 (h1.nS (Ov bw) all_nil)<|.tw 16 20 ?_ ?_
  ·refine .cl (fun cA aX=>Ff aJ.part aA.part (ac.ta.ext aX) (ae.ta.ext aX) (af.ta.ext aX) (ag.ta.ext aX) (by exact (p0.file _ ‹_›).sz) (by exact (p0.file _ ‹_›).sz) (w:=cA) (F:=all)) ?_
   intro cA aX
   replace ⟨h2,h3,aa,ac,ae,af,ag,ab,aD⟩:=(se [aj] aX).g9 h2 h3 aa ac ae af ag ab aD
   rintro jy jz ⟨⟨jA,rfl,⟨_,rfl,⟨cB,jB,cC,cD,jC,cE,rfl,ah,ai⟩⟩⟩,bC⟩
   have bD:=al1 aa.lt
   have cF:Gb w.heap.size cA.heap.size:=ab.size
   have hkeep_:=bC
   replace ⟨h2,h3,aa,ac,ae,af,ag,ab,aD⟩:=(se [aj] bC).g9 h2 h3 aa ac ae af ag ab aD
   refine ⟨Ext.chg hkeep_,?_⟩
   have ah:=ah.fr bD cF
   have gV:=ah.max
   have ai:=ai.fr bD cF
   have gW:=ai.max
   have d9:=ah.len
   subst d9
   have ec:=ai.len
   subst ec
   refine .r [17,18,19]<|.go 20<|.nw (fun b=>.pointer (some ⟨b,0,none⟩)) 146 [AH,AH] fun jD cG=>?_
   replace ⟨h2,h3,aa,ac,ae,af,ag,ah,ai,ab,aD⟩:=(se [aj] cG).g11 h2 h3 aa ac ae af ag ah ai ab aD
   intro ar jE bm cH ee eg
   have gX:=Ay bm aa.lt
   have gY:=ab.cn bm
   have ej:=aD.cn bm
   replace ⟨h2,h3,aa,ac,ae,af,ag,ah,ai,ab,aD⟩:=(sn [aj] cH bm).g11 h2 h3 aa ac ae af ag ah ai ab aD
   refine .go 21<|GE.KP (t':=146) (o:=0) (v:=.agg #[.slice cB ((BS aJ.part aA.part).1.ids.length) cC,.slice cD ((BS aJ.part aA.part).1.blocks.length) cE]) [.slice cB ((BS aJ.part aA.part).1.ids.length) cC,.slice cD ((BS aJ.part aA.part).1.blocks.length) cE] ee AA AA AA fun jF cI=>?_
   replace ⟨h2,h3,aa,ac,ae,af,ag,ah,ai,ab,aD⟩:=(se [ar,aj] cI).g11 h2 h3 aa ac ae af ag ah ai ab aD
   intro jG bE ak ek
   have hkeep_:=Chg.toS bE (Cov.toS ej)
   replace ⟨h2,h3,aa,ac,ae,af,ag,ah,ai,ab,aD⟩:=(so [ar,aj] bE).g11 h2 h3 aa ac ae af ag ah ai ab aD
   refine ⟨hkeep_,?_⟩
   refine .d fun jH cJ=>?_
   replace ⟨h2,h3,aa,ac,ae,af,ag,ah,ai,ak,ab,aD⟩:=(se [ar,aj] cJ).g12 h2 h3 aa ac ae af ag ah ai ak ab aD
   replace h2:=h2.Cp
   replace h3:=h3.Cp
   replace ac:=ac.Cp
   replace ae:=ae.Cp
   replace af:=af.Cp
   replace ag:=ag.Cp
   refine .r 1<|.d<|.s<|.g<|.ns 0 3 [] fun b8 gm aY cK en eB=>?_
   have eC:=Ay aY aa.lt
   have eD:=Ay aY ak.lt
   have eE:=Cy aY ab.size
   have eF:=ab.cn aY
   replace ⟨h2,h3,aa,ac,ae,af,ag,ah,ai,ak,ab⟩:=(sn [ar,aj] cK aY).g11 h2 h3 aa ac ae af ag ah ai ak ab
   have eG:Own (α:=Int) gm b8 3 (nin (ge w.heap.size) [b8,ar,aj]) 0 0 []:=Own.By en
   refine .r 1<|.lb aa<|.r 1<|RG.sub (t:=33) (lo:=none) (hi:=some (vI at_)) h2 0 (at_.toNat) AA AA (.inl ⟨rfl,rfl⟩) (.inr ⟨_,_,rfl,by omega⟩) (by have:=p0.nl; omega) (by have:=p0.nl; omega) fun jI jJ cL=>?_
   have gZ:=cL.len; have hC:=cL.max
   refine RG.DF (T:=33) (ty:=33) Au eG cL AA AA (fun b h e=>h.2 (e▸AI)) (by have:=p0.nl; omega) fun aG gn b9 aB aL cM=>?_
   have bF:=ET aL eC aa.lt
   have eH:=ET aL eD ak.lt
   have eI:=GI aL eE ab.size
   have eJ:=Hl aL eF ab.size
   replace ⟨h2,h3,aa,ac,ae,af,ag,ah,ai,ak,ab⟩:=(sa [b8,ar,aj] cM aL).g11 h2 h3 aa ac ae af ag ah ai ak ab
   replace aB:=aB.rn b8
   have hH:=aB.len
   refine .r 1<|.d<|.s ?_
   replace h2:=h2.Ey
   replace h3:=h3.Ey
   replace ac:=ac.Ey
   replace ae:=ae.Ey
   replace af:=af.Ey
   replace ag:=ag.Ey
   replace ah:=ah.Ey
   replace ai:=ai.Ey
   have cN:Gb (aj+1) b9.heap.size:=aa.lt
   have eK:Cov (mtb [aG] b9.heap.size) b9 aG:=⟨.inl (.inl AI)⟩
   refine .gd (mtb [aG] b9.heap.size) 10 fun jK cO=>?_
   replace ⟨h2,h3,aa,ac,ae,af,ag,ah,ai,ak,aB,ab⟩:=(se [aG,ar,aj] cO).g12 h2 h3 aa ac ae af ag ah ai ak aB ab
   refine .r [0,1]<|.lb 2 aa (C5 (all_cons (Nb.symm bF) all_nil) cN)<|.r [5]<|.lb 6 aa (C5 (all_cons (Nb.symm bF) all_nil) cN)<|.r [7]<|GA.int (i:=8) (at_+2) AA (by have:=p0.nl; omega)<|GA.sub (i:=9) (t:=33) (lo:=some (vI (at_+2))) (hi:=none) AA h2 ((at_+2).toNat) d.list.length AA AA (.inr ⟨_,_,rfl,by omega⟩) (.inl ⟨rfl,rfl⟩) (by have:=p0.nl; omega) (by have:=p0.nl; omega) fun jL jM aH=>?_
   have hQ:=aH.len
   refine .go 3<|.ns 1 3 [vI d.next] fun jN bG=>?_
   replace ⟨h2,h3,aa,ac,ae,af,ag,ah,ai,ak,aB,aH⟩:=(se [aG,ar,aj] bG).g12 h2 h3 aa ac ae af ag ah ai ak aB aH
   replace ab:=(se [aG,ar,aj] bG).g1 ab
   intro cP jO bn bH bI eM
   have eO:=Ay bn aa.lt
   have eP:=Ay bn ak.lt
   have cQ:=Ay bn aB.lt
   have eQ:=Cy bn ab.size
   replace ⟨h2,h3,aa,ac,ae,af,ag,ah,ai,ak,aB,aH⟩:=(se [aG,ar,aj] bH).g12 h2 h3 aa ac ae af ag ah ai ak aB aH
   replace ab:=(se [aG,ar,aj] bH).g1 ab
   refine .go 4<|GE.append (T:=33) (ty:=33) (args:=[vS aG (0+(at_.toNat - 0)) gn,vS cP 1 1]) AA fun jP bJ=>?_
   replace ⟨h2,h3,aa,ac,ae,af,ag,ah,ai,ak,aB,aH⟩:=(se [aG,ar,aj] bJ).g12 h2 h3 aa ac ae af ag ah ai ak aB aH
   replace ⟨bI,ab⟩:=(se [aG,ar,aj] bJ).g2 bI ab
   have ck:nin (ge w.heap.size) [aG,ar,aj] cP∧cP≠aG:=Ml eQ (all_cons cQ (all_cons eP (all_cons eO all_nil))) cQ
   obtain ⟨cd,jQ,jR,cR,aQ,aM,bK,eR⟩:=aB.Ei (P:=Tryz.prog) (T:=33) (ty:=33) (y:=d.next) AA bI rfl ck (by have:=p0.nl; omega)
   refine ⟨_,_,cR,Chg.toS bK (Cov.toS eK),?_⟩
   have eT:=ET aM bF aa.lt
   have eU:=ET aM eH ak.lt
   have eV:=GI aM eI ab.size
   have hW:=Hl aM eJ ab.size
   replace ⟨h2,h3,aa,ac,ae,af,ag,ah,ai,ak,aH,ab⟩:=(sa [aG,ar,aj] bK aM).g12 h2 h3 aa ac ae af ag ah ai ak aH ab
   replace aQ:=aQ.rn aG
   have ia:=aQ.len
   refine .d fun jS bL=>?_
   replace ⟨h2,h3,aa,ac,ae,af,ag,ah,ai,ak,aQ,aH⟩:=(se [cd,ar,aj] bL).g12 h2 h3 aa ac ae af ag ah ai ak aQ aH
   replace ab:=(se [cd,ar,aj] bL).g1 ab
   replace h2:=h2.Cp
   replace h3:=h3.Cp
   replace ac:=ac.Cp
   replace ae:=ae.Cp
   replace af:=af.Cp
   replace ag:=ag.Cp
   replace ah:=ah.Cp
   replace ai:=ai.Cp
   replace aH:=aH.Cp
   refine RG.DF (T:=33) (ty:=33) Au aQ aH AA AA (fun b h e=>h.2 (e▸AI)) (by have:=p0.nl; omega) fun aP gp jT ay aU cS=>?_
   have ie:=ET aU eT aa.lt
   have ig:=ET aU eU ak.lt
   have eW:=GI aU eV ab.size
   replace ⟨h2,h3,aa,ac,ae,af,ag,ah,ai,ak,ab⟩:=(sa [cd,ar,aj] cS aU).g11 h2 h3 aa ac ae af ag ah ai ak ab
   replace ay:=ay.rn cd
   refine .r 1<|.d<|.s<|.gd nil 13 fun jU cT=>?_
   replace ⟨h2,h3,aa,ac,ae,af,ag,ah,ai,ak,ay,ab⟩:=(se [aP,ar,aj] cT).g12 h2 h3 aa ac ae af ag ah ai ak ay ab
   refine .r [0]<|.lb 1 aa id<|.ln 2 ak id<|.r [3,4,5]<|.lb 6 aa id<|.r [9,10,11,12]<|.go 7<|.cl (fun cU bM=>BH d.names (h3.ta.ext bM) (by have:=p0.g.len; omega) (by (intro n hn; have:=(p0.g.sz n hn).1; omega)) (w:=cU) (F:=all)) ?_
   intro cU bM
   replace ⟨h2,h3,aa,ac,ae,af,ag,ah,ai,ak,ay,ab⟩:=(se [aP,ar,aj] bM).g12 h2 h3 aa ac ae af ag ah ai ak ay ab
   rintro jV jW ⟨⟨bo,gq,gr,rfl,aE,aZ⟩,bN⟩
   have cV:=al3 ay.lt ak.lt aa.lt
   have eX:Gb w.heap.size cU.heap.size:=ab.size
   have hkeep_:=bN
   have ik:=Cj aZ aa.lt
   have il:=Cj aZ ak.lt
   have im:=Cj aZ ay.lt
   have eY:=H6 aZ ab.size
   replace ⟨h2,h3,aa,ac,ae,af,ag,ah,ai,ak,ay,ab⟩:=(sz [aP,ar,aj] bN aZ).g12 h2 h3 aa ac ae af ag ah ai ak ay ab
   refine ⟨Ext.chg hkeep_,?_⟩
   replace aE:=Own.take (s0:=w.heap.size) (M:=[aP,ar,aj]) aE cV eX
   refine .r [8]<|.d fun jX bO=>?_
   replace ⟨h2,h3,aa,ac,ae,af,ag,ah,ai,ak,ay,aE⟩:=(se [bo,aP,ar,aj] bO).g12 h2 h3 aa ac ae af ag ah ai ak ay aE
   replace ab:=(se [bo,aP,ar,aj] bO).g1 ab
   refine .ns 4 163 [vI 1,vI d.next,.slice cB ((BS aJ.part aA.part).1.ids.length) cC,.slice cD ((BS aJ.part aA.part).1.blocks.length) cE,AH,AH,vI 2,vI 0,AH,AH,vS aP (0+(at_.toNat - 0)+1+(d.list.length - (at_+2).toNat)) gp,vS bo gq gr,vI 3,vI bj,AH,AH,AH,AH,vI 3,vI bk,AH,AH,AH,AH] fun bq ce aR cW eZ e7=>?_
   have iq:=Ay aR aa.lt
   have ir:=Ay aR ak.lt
   have iu:=Ay aR ay.lt
   have iw:=Ay aR aE.lt
   have e8:=Cy aR ab.size
   replace ⟨h2,h3,aa,ac,ae,af,ag,ah,ai,ay,aE,ab⟩:=(sn [bo,aP,ar,aj] cW aR).g12 h2 h3 aa ac ae af ag ah ai ay aE ab
   have cX:=ay.sl eW
   replace ⟨h2,h3,ac,ae,af,ag,ah,ai,aE⟩:=(sd ce [bq,bo,aP,ar,aj] aP).g9 h2 h3 ac ae af ag ah ai aE
   have gt:=aE.sl eY
   replace ⟨h2,h3,ac,ae,af,ag,ah,ai,cX⟩:=(sd ce [bq,bo,ar,aj] bo).g9 h2 h3 ac ae af ag ah ai cX
   have fa:Own (α:=Stp) ce bq 163 (nin (ge w.heap.size) [bq,ar,aj]) 4 4 [(⟨1,d.next,(⟨(BS aJ.part aA.part).1.ids,(BS aJ.part aA.part).1.blocks⟩:Prt),([]:List Int),([]:List (List Tag))⟩:Stp),(⟨2,0,(⟨([]:List Int),([]:List (List Row))⟩:Prt),((([]++((d.list.take (at_.toNat)).drop 0))++[d.next])++((d.list.take d.list.length).drop ((at_+2).toNat))),d.names⟩:Stp),(⟨3,bj,(⟨([]:List Int),([]:List (List Row))⟩:Prt),([]:List Int),([]:List (List Tag))⟩:Stp),(⟨3,bk,(⟨([]:List Int),([]:List (List Row))⟩:Prt),([]:List Int),([]:List (List Tag))⟩:Stp)]:=Own.lit eZ rfl AE ⟨⟨_,_,_,_,_,_,_,_,_,_,_,_,rfl,ah.oi,ai.oi,(RepS.By _ _ none 0 AE),(RepS.By _ _ none 0 AE)⟩,⟨_,_,_,_,_,_,_,_,_,_,_,_,rfl,(RepS.By _ _ none 0 AE),(RepS.By _ _ none 0 AE),cX.oi,gt.oi⟩,⟨_,_,_,_,_,_,_,_,_,_,_,_,rfl,(RepS.By _ _ none 0 AE),(RepS.By _ _ none 0 AE),(RepS.By _ _ none 0 AE),(RepS.By _ _ none 0 AE)⟩,⟨_,_,_,_,_,_,_,_,_,_,_,_,rfl,(RepS.By _ _ none 0 AE),(RepS.By _ _ none 0 AE),(RepS.By _ _ none 0 AE),(RepS.By _ _ none 0 AE)⟩,rfl⟩
   refine .r 1<|.d ?_
   have gu:=fa.sl e8
   replace ⟨h2,h3,ac,ae,af,ag⟩:=(sd ce [bq,ar,aj] bq).g6 h2 h3 ac ae af ag
   exact .rt func63 results63 (vS bq 4 4) ⟨(gu.vl (by exact S0 p0 ‹_› ‹_› ‹_› ‹_› ‹_› ‹_› ‹_›) (fun _ _ h=>h.1)),ab⟩
  refine .nw (fun b=>.pointer (some ⟨b,0,none⟩)) 146 [AH,AH] fun jY cY=>?_
  replace ⟨h2,h3,aa,ac,ae,af,ag,ab,aD⟩:=(se [aj] cY).g9 h2 h3 aa ac ae af ag ab aD
  intro ax jZ br cZ ba fb
  have iy:=Ay br aa.lt
  have iz:=ab.cn br
  have fd:=aD.cn br
  replace ⟨h2,h3,aa,ac,ae,af,ag,ab⟩:=(sn [aj] cZ br).g8 h2 h3 aa ac ae af ag ab
  refine .go 16<|.cl (fun c7 bg=>Ff aJ.part aA.part (ac.ta.ext bg) (ae.ta.ext bg) (af.ta.ext bg) (ag.ta.ext bg) (by exact (p0.file _ ‹_›).sz) (by exact (p0.file _ ‹_›).sz) (w:=c7) (F:=all)) ?_
  intro c7 bg
  replace ⟨h2,h3,aa,ba,ab⟩:=(se [ax,aj] bg).g5 h2 h3 aa ba ab
  rintro j0 j1 ⟨⟨j2,rfl,⟨_,rfl,⟨c8,j3,da,db,j4,de,rfl,ao,aq⟩⟩⟩,bP⟩
  have bQ:=al2 ba.lt aa.lt
  have df:Gb w.heap.size c7.heap.size:=ab.size
  have hkeep_:=bP
  replace ⟨h2,h3,aa,ba,ab⟩:=(se [ax,aj] bP).g5 h2 h3 aa ba ab
  refine ⟨Ext.chg hkeep_,?_⟩
  have ao:=ao.fr bQ df
  have iA:=ao.max
  have aq:=aq.fr bQ df
  have iB:=aq.max
  have fe:=ao.len
  subst fe
  have ff:=aq.len
  subst ff
  refine .r [17,18,19]<|.go 21<|GE.KP (t':=146) (o:=0) (v:=.agg #[.slice c8 ((BS aJ.part aA.part).1.ids.length) da,.slice db ((BS aJ.part aA.part).1.blocks.length) de]) [.slice c8 ((BS aJ.part aA.part).1.ids.length) da,.slice db ((BS aJ.part aA.part).1.blocks.length) de] ba AA AA AA fun j5 dh=>?_
  replace ⟨h2,h3,aa,ao,aq,ab⟩:=(se [ax,aj] dh).g6 h2 h3 aa ao aq ab
  intro j6 bR am fg
  have hkeep_:=Chg.toS bR (Cov.toS fd)
  replace ⟨h2,h3,aa,ao,aq,ab⟩:=(so [ax,aj] bR).g6 h2 h3 aa ao aq ab
  refine ⟨hkeep_,?_⟩
  refine .d fun j7 dj=>?_
  replace ⟨h2,h3,aa,am,ao,aq,ab⟩:=(se [ax,aj] dj).g7 h2 h3 aa am ao aq ab
  replace h2:=h2.Cp
  replace h3:=h3.Cp
  refine .r 1<|.d<|.s<|.g<|.ns 0 3 [] fun cg gv bh dm fi fj=>?_
  have fm:=Ay bh aa.lt
  have fp:=Ay bh am.lt
  have fq:=Cy bh ab.size
  have fu:=ab.cn bh
  replace ⟨h2,h3,aa,am,ao,aq,ab⟩:=(sn [ax,aj] dm bh).g7 h2 h3 aa am ao aq ab
  have fv:Own (α:=Int) gv cg 3 (nin (ge w.heap.size) [cg,ax,aj]) 0 0 []:=Own.By fi
  refine .r 1<|.lb aa<|.r 1<|RG.sub (t:=33) (lo:=none) (hi:=some (vI at_)) h2 0 (at_.toNat) AA AA (.inl ⟨rfl,rfl⟩) (.inr ⟨_,_,rfl,by omega⟩) (by have:=p0.nl; omega) (by have:=p0.nl; omega) fun j8 j9 dq=>?_
  have iC:=dq.len; have iD:=dq.max
  refine RG.DF (T:=33) (ty:=33) Au fv dq AA AA (fun b h e=>h.2 (e▸AI)) (by have:=p0.nl; omega) fun aK gw ci aC aN dt=>?_
  have bS:=ET aN fm aa.lt
  have fw:=ET aN fp am.lt
  have fA:=GI aN fq ab.size
  have fB:=Hl aN fu ab.size
  replace ⟨h2,h3,aa,am,ao,aq,ab⟩:=(sa [cg,ax,aj] dt aN).g7 h2 h3 aa am ao aq ab
  replace aC:=aC.rn cg
  have iE:=aC.len
  refine .r 1<|.d<|.s ?_
  replace h2:=h2.Ey
  replace h3:=h3.Ey
  replace ao:=ao.Ey
  replace aq:=aq.Ey
  have du:Gb (aj+1) ci.heap.size:=aa.lt
  have fC:Cov (mtb [aK] ci.heap.size) ci aK:=⟨.inl (.inl AI)⟩
  refine .gd (mtb [aK] ci.heap.size) 10 fun ka dv=>?_
  replace ⟨h2,h3,aa,am,ao,aq,aC,ab⟩:=(se [aK,ax,aj] dv).g8 h2 h3 aa am ao aq aC ab
  refine .r [0,1]<|.lb 2 aa (C5 (all_cons (Nb.symm bS) all_nil) du)<|.r [5]<|.lb 6 aa (C5 (all_cons (Nb.symm bS) all_nil) du)<|.r [7]<|GA.int (i:=8) (at_+2) AA (by have:=p0.nl; omega)<|GA.sub (i:=9) (t:=33) (lo:=some (vI (at_+2))) (hi:=none) AA h2 ((at_+2).toNat) d.list.length AA AA (.inr ⟨_,_,rfl,by omega⟩) (.inl ⟨rfl,rfl⟩) (by have:=p0.nl; omega) (by have:=p0.nl; omega) fun kb kd aI=>?_
  have iG:=aI.len
  refine .go 3<|.ns 1 3 [vI d.next] fun ke dw=>?_
  replace ⟨h3,aa,am,ao,aq,aC,aI,ab⟩:=(se [aK,ax,aj] dw).g8 h3 aa am ao aq aC aI ab
  intro dx kf bu dy bT fD
  have fE:=Ay bu aa.lt
  have fF:=Ay bu am.lt
  have dA:=Ay bu aC.lt
  have fG:=Cy bu ab.size
  replace ⟨h3,aa,am,ao,aq,aC,aI,ab⟩:=(se [aK,ax,aj] dy).g8 h3 aa am ao aq aC aI ab
  refine .go 4<|GE.append (T:=33) (ty:=33) (args:=[vS aK (0+(at_.toNat - 0)) gw,vS dx 1 1]) AA fun kg dB=>?_
  replace ⟨h3,aa,am,ao,aq,aC,aI,bT,ab⟩:=(se [aK,ax,aj] dB).g9 h3 aa am ao aq aC aI bT ab
  have cm:nin (ge w.heap.size) [aK,ax,aj] dx∧dx≠aK:=Ml fG (all_cons dA (all_cons fF (all_cons fE all_nil))) dA
  obtain ⟨dC,kh,ki,dD,aS,aO,bU,fH⟩:=aC.Ei (P:=Tryz.prog) (T:=33) (ty:=33) (y:=d.next) AA bT rfl cm (by have:=p0.nl; omega)
  refine ⟨_,_,dD,Chg.toS bU (Cov.toS fC),?_⟩
  have fI:=ET aO bS aa.lt
  have fJ:=ET aO fw am.lt
  have fK:=GI aO fA ab.size
  have iI:=Hl aO fB ab.size
  replace ⟨h3,aa,am,ao,aq,aI,ab⟩:=(sa [aK,ax,aj] bU aO).g7 h3 aa am ao aq aI ab
  replace aS:=aS.rn aK
  have iJ:=aS.len
  refine .d fun kj dE=>?_
  replace ⟨h3,aa,am,ao,aq,aS,aI,ab⟩:=(se [dC,ax,aj] dE).g8 h3 aa am ao aq aS aI ab
  replace h3:=h3.Cp
  replace ao:=ao.Cp
  replace aq:=aq.Cp
  replace aI:=aI.Cp
  refine RG.DF (T:=33) (ty:=33) Au aS aI AA AA (fun b h e=>h.2 (e▸AI)) (by have:=p0.nl; omega) fun aV gy kl az aW dF=>?_
  have iL:=ET aW fI aa.lt
  have iM:=ET aW fJ am.lt
  have fM:=GI aW fK ab.size
  replace ⟨h3,aa,am,ao,aq,ab⟩:=(sa [dC,ax,aj] dF aW).g6 h3 aa am ao aq ab
  replace az:=az.rn dC
  refine .r 1<|.d<|.s<|.gd nil 13 fun km dG=>?_
  replace ⟨h3,aa,am,ao,aq,az,ab⟩:=(se [aV,ax,aj] dG).g7 h3 aa am ao aq az ab
  refine .r [0]<|.lb 1 aa id<|.ln 2 am id<|.r [3,4,5]<|.lb 6 aa id<|.r [9,10,11,12]<|.go 7<|.cl (fun dH bV=>BH d.names (h3.ta.ext bV) (by have:=p0.g.len; omega) (by (intro n hn; have:=(p0.g.sz n hn).1; omega)) (w:=dH) (F:=all)) ?_
  intro dH bV
  replace ⟨aa,am,ao,aq,az,ab⟩:=(se [aV,ax,aj] bV).g6 aa am ao aq az ab
  rintro ko kr ⟨⟨bv,gz,gA,rfl,aF,bi⟩,bW⟩
  have dI:=al3 az.lt am.lt aa.lt
  have fN:Gb w.heap.size dH.heap.size:=ab.size
  have hkeep_:=bW
  have iP:=Cj bi aa.lt
  have iQ:=Cj bi am.lt
  have iR:=Cj bi az.lt
  have fO:=H6 bi ab.size
  replace ⟨aa,am,ao,aq,az,ab⟩:=(sz [aV,ax,aj] bW bi).g6 aa am ao aq az ab
  refine ⟨Ext.chg hkeep_,?_⟩
  replace aF:=Own.take (s0:=w.heap.size) (M:=[aV,ax,aj]) aF dI fN
  refine .r [8]<|.d fun ku dJ=>?_
  replace ⟨aa,am,ao,aq,az,aF,ab⟩:=(se [bv,aV,ax,aj] dJ).g7 aa am ao aq az aF ab
  refine .ns 4 163 [vI 1,vI d.next,.slice c8 ((BS aJ.part aA.part).1.ids.length) da,.slice db ((BS aJ.part aA.part).1.blocks.length) de,AH,AH,vI 2,vI 0,AH,AH,vS aV (0+(at_.toNat - 0)+1+(d.list.length - (at_+2).toNat)) gy,vS bv gz gA,vI 3,vI bj,AH,AH,AH,AH,vI 3,vI bk,AH,AH,AH,AH] fun bz dK aT dL fP fQ=>?_
  have iU:=Ay aT aa.lt
  have iV:=Ay aT am.lt
  have iW:=Ay aT az.lt
  have iX:=Ay aT aF.lt
  have fR:=Cy aT ab.size
  replace ⟨aa,ao,aq,az,aF,ab⟩:=(sn [bv,aV,ax,aj] dL aT).g6 aa ao aq az aF ab
  have dM:=az.sl fM
  replace ⟨ao,aq,aF⟩:=(sd dK [bz,bv,aV,ax,aj] aV).g3 ao aq aF
  have gC:=aF.sl fO
  replace ⟨ao,aq,dM⟩:=(sd dK [bz,bv,ax,aj] bv).g3 ao aq dM
  have fS:Own (α:=Stp) dK bz 163 (nin (ge w.heap.size) [bz,ax,aj]) 4 4 [(⟨1,d.next,(⟨(BS aJ.part aA.part).1.ids,(BS aJ.part aA.part).1.blocks⟩:Prt),([]:List Int),([]:List (List Tag))⟩:Stp),(⟨2,0,(⟨([]:List Int),([]:List (List Row))⟩:Prt),((([]++((d.list.take (at_.toNat)).drop 0))++[d.next])++((d.list.take d.list.length).drop ((at_+2).toNat))),d.names⟩:Stp),(⟨3,bj,(⟨([]:List Int),([]:List (List Row))⟩:Prt),([]:List Int),([]:List (List Tag))⟩:Stp),(⟨3,bk,(⟨([]:List Int),([]:List (List Row))⟩:Prt),([]:List Int),([]:List (List Tag))⟩:Stp)]:=Own.lit fP rfl AE ⟨⟨_,_,_,_,_,_,_,_,_,_,_,_,rfl,ao.oi,aq.oi,(RepS.By _ _ none 0 AE),(RepS.By _ _ none 0 AE)⟩,⟨_,_,_,_,_,_,_,_,_,_,_,_,rfl,(RepS.By _ _ none 0 AE),(RepS.By _ _ none 0 AE),dM.oi,gC.oi⟩,⟨_,_,_,_,_,_,_,_,_,_,_,_,rfl,(RepS.By _ _ none 0 AE),(RepS.By _ _ none 0 AE),(RepS.By _ _ none 0 AE),(RepS.By _ _ none 0 AE)⟩,⟨_,_,_,_,_,_,_,_,_,_,_,_,rfl,(RepS.By _ _ none 0 AE),(RepS.By _ _ none 0 AE),(RepS.By _ _ none 0 AE),(RepS.By _ _ none 0 AE)⟩,rfl⟩
  refine .r 1<|.d ?_
  have gD:=fS.sl fR
  exact .rt func63 results63 (vS bz 4 4) ⟨(gD.vl (by exact S0 p0 ‹_› ‹_› ‹_› ‹_› ‹_› ‹_› ‹_›) (fun _ _ h=>h.1)),ab⟩
 refine .r 1<|.d<|.ct<|.s<|.g<|.ns 0 163 [] fun dN gE bX dO fT fU=>?_
 have iY:=Ay bX aa.lt
 have fV:=Cy bX ab.size
 replace ab:=(se [] dO).g1 ab
 have fW:Own (α:=Stp) gE dN 163 (nin (ge w.heap.size) [dN,aj]) 0 0 []:=Own.By fT
 refine .r 1<|.d ?_
 have gF:=fW.sl fV
 exact .rt func63 results63 (vS dN 0 0) ⟨(gF.vl (by exact VF ‹_› (.inr ‹_›)) (fun _ _ h=>h.1)),ab⟩
end Go.Proofs.YtcginoabkicdiaaGreat
namespace Go.Proofs.YtcginoabkicdiaaGreat
set_option maxRecDepth 100000
set_option maxHeartbeats 4000000
variable {w:World} {F:Nat→Prop} {a1 a2 a3:Option Addr} {n1 c1 n2 c2 n3 c3:Nat}
theorem JO (d:Dsk) (h1:RepS w F a1 n1 c1 d.files) (h2:RepS w F a2 n2 c2 d.list) (h3:RepS w F a3 n3 c3 d.names) (p0:DD d) (p1:NmI d.names) (p2:NsD d.names) (p3:∀ n∈d.list,0≤Ak d n):Calls Tryz.prog 158 [.agg #[.slice a1 n1 c1,.slice a2 n2 c2,.slice a3 n3 c3,.int .i64 d.next]].toArray w (Ag fun rv w'=>VD w.heap.size w' (Aj d:Sto) rv∧Ext w w'):=by
 cases h1.len
 cases h2.len
 cases h3.len
 refine goT func158 ?_
 have Z:=(((St.i0 F w).p h1).p h2).p h3
 have aL:=h2.max
 have Z:=Z.s0 0
 refine .s<|.g<|RG.Np Z fun ax w Z=>RG.Np Z fun ay w Z=>.d<|.s<|.g<|.r 1<|RG.Lb 1 Z<|RG.DD 0 0 (CN d.names (Z.a 1) p1 p2) Z fun aC aD aE aF w Z=>RG.N0 (Hd 1) 0 Z fun aG w Z=>?_
 have Z:=Z.o2r 0 0 Prt 1
 refine RG.N0 Smp 0 Z fun aH w Z=>.r 1<|RG.Np Z fun aq w Z=>RG.Ss 0 Z fun w Z=>.d<|.s<|.s<|.g<|.r 1<|RG.Lb 4 Z<|.r 2<|.d<|.b 0<|T.Lp ((0:Nat),((idxOf d.names).names:List (List Tag)),aC,aD,((idxOf d.names).AY:List Pst),aE,aF,([]:List Prt),aG,(0:Nat),([]:List (Hd 1)),([]:List Smp),aH,(0:Nat)) (fun (k,ac,a_s_0,c_s_0,ae,a_s_1,c_s_1,aa,r_s_2,c_s_2,hs,af,r_s_3,c_s_3)=>([(1,vP ax),(2,vP ay),(3,vP aq),(13,.slice a2 d.list.length c2),(14,vI (d.list.length:Int)),(15,vI (k:Int))],[(0,.box aq 31 [.slice a_s_0 ac.length c_s_0,.slice a_s_1 ae.length c_s_1,vS r_s_2 aa.length c_s_2,vS r_s_3 af.length c_s_3]),(1,.own 0 r_s_3 158 c_s_3 af),(2,.raw 0 r_s_2 146 c_s_2 aa hs)],[⟨0,none,.sep [.e aa hs,.s a_s_0 c_s_0 ac,.s a_s_1 c_s_1 ae]⟩,⟨0,none,.rep a_s_0 c_s_0 ac⟩,⟨0,none,.rep a_s_1 c_s_1 ae⟩],d.list.length - k,(k≤d.list.length)∧(aa.length≤k)∧(aa++(d.list.drop k).map (As d)=d.list.map (As d))∧(af=[])∧((⟨ac,ae⟩:Idx)=idxOf d.names))) [0,2,3] Z ⟨AD,AD,AF,AF,AF⟩ ?_
 rintro ⟨k,ac,a_s_0,c_s_0,ae,a_s_1,c_s_1,aa,r_s_2,c_s_2,hs,af,r_s_3,c_s_3⟩ aU w Z ⟨aN,aO,aP,aQ,aR⟩ ai
 refine .s<|.g<|.bp ((k:Int)< (d.list.length:Int)) (fun az=>?_) (fun az=>?_)
 ·refine .d<|.s<|.ct<|.sk<|.s<|.b 1<|.s<|.g<|gx (h:=AB) d.list k fun ar ag=>?_
  have aS:=AZ ag; have aA:=AV ag
  refine RG.Ix 9 ag Z<|Z.el 9 ag fun Z=>RG.Lh 0 0 Z<|.r 1<|.d<|T.GS 12 [aq,ay,ax] Z fun _ w Z=>.r [0]<|GA.Lb 1 0 Z<|.r [2]<|GA.Lb (q:=2) 3 4 Z<|GA.Ln (q:=2) 4 4 Z<|.r [5]<|GA.D0 6 Z (fun w Y=>CH d ar (Y.a 11) (Y.a 10) (Y.a 9))<|gx (h:=(by exact (FD (p3 _ ‹_›)).1)) d.files ((Ak d ar).toNat) fun ab ah=>?_
  have aB:=AV ah
  refine GA.Jx (hz:=(by exact (FD (p3 _ ‹_›)).2)) 7 11 (Ak d ar) ah Z<|.r [8]<|Z.el 11 ah fun aV aW aX aY Z=>GA.Lg 9 0 1 Z<|.go 10<|GE.DD 4 0 (fun w Z=>Ai ab.part (Z.a 1) (Z.a 2) (p0.file _ ‹_›).sz) Z fun aj ak am ao w Z=>.go 11<|GE.Nb 1 Z fun aZ w Z=>GA.Do Z fun w Z=>RG.Ar (hsz:=by exact (by have:=p0.nl; omega)) 2 0 aa ab.part hs (⟨Shp.cells ab.part ([(aj,ak),(am,ao)]:List (Option Addr × Nat)),AA⟩:Hd 1) Z fun aI aJ w Z=>?_
  have Z:=Z.eA 0 0 [2,2,2] aa hs (⟨Shp.cells ab.part ([(aj,ak),(am,ao)]:List (Option Addr × Nat)),AA⟩:Hd 1) ab.part ([(aj,ak),(am,ao)]:List (Option Addr × Nat))
  refine .r 1<|RG.Ss 0 Z fun w Z=>.d<|.ib 1<|.g<|RG.int ((k:Int)+1) AA AB<|.r 1<|.d ?_
  have Z:=Z.sM 0 0 [2,2,2] [.e (aa++[ab.part]) (hs++[(⟨Shp.cells ab.part ([(aj,ak),(am,ao)]:List (Option Addr × Nat)),AA⟩:Hd 1)]),.s a_s_0 c_s_0 ac,.s a_s_1 c_s_1 ae]
  exact ai (k+1,ac,a_s_0,c_s_0,ae,a_s_1,c_s_1,(aa++[ab.part]),aI,aJ,(hs++[(⟨Shp.cells ab.part ([(aj,ak),(am,ao)]:List (Option Addr × Nat)),AA⟩:Hd 1)]),af,r_s_3,c_s_3) _ _ AA (Z.to 0 [0,10,11] 12) ⟨AB,(by simp; omega),(by exact MP ‹_› ‹_› ‹_›),‹_›,‹_›⟩ (by (simp only []; omega))
 refine .d<|.s<|.cf<|.x 0 rfl<|.s<|.g<|RG.Ln 0 Z<|RG.Ss 3 Z fun w Z=>.d ?_
 have Z:=(Z.eL 2 0 0 [0] aa hs).fL 1 1 0 af
 exact T.Rb 1 func158 results158 Z ⟨Z.rD 1 [0,1,3,3] (⟨(⟨ac,ae⟩:Idx),aa,af⟩:Sto) [(a_s_0,c_s_0),(a_s_1,c_s_1),(some ⟨r_s_2,0,none⟩,c_s_2),(some ⟨r_s_3,0,none⟩,c_s_3)] (by exact WZ (OQ ‹_› AB) ‹_› ‹_›),Z.xt⟩
theorem Jz (d:Dsk) (h1:RepS w F a1 n1 c1 d.files) (h2:RepS w F a2 n2 c2 d.list) (h3:RepS w F a3 n3 c3 d.names) (p0:DD d):Calls Tryz.prog 134 [.agg #[.slice a1 n1 c1,.slice a2 n2 c2,.slice a3 n3 c3,.int .i64 d.next]].toArray w (Ag fun rv w'=>VD w.heap.size w' (EP d:Sto) rv∧Ext w w'):=by
 cases h1.len
 cases h2.len
 cases h3.len
 refine goT func134 ?_
 have Z:=(((St.i0 F w).p h1).p h2).p h3
 have Z:=Z.s0 0
 refine .s<|.g<|RG.Np Z fun aq w Z=>RG.Np Z fun ar w Z=>.d<|.s<|.s<|.g<|RG.Ln 1 Z<|RG.C0 (Cv d (Z.a 3) (Z.a 2) (Z.a 1) p0) Z fun w Z=>?_
 cases ao:(Ax d)
 ·refine .r 1<|.d<|.ct<|.s<|.g<|.r 1<|RG.Ss 0 Z fun w Z=>.d ?_
  have Z:=(((Z.sZ (List Tag) 0 0).sZ Pst 1 0).sZ Prt 1 0).sZ Smp 1 0
  exact T.Rb 0 func134 results134 Z ⟨Z.rD 1 [0,1,2,3] (⟨(⟨([]:List (List Tag)),([]:List Pst)⟩:Idx),([]:List Prt),([]:List Smp)⟩:Sto) [(none,0),(none,0),(none,0),(none,0)] (by exact (UT ‹_›).symm),Z.xt⟩
 exact .r 1<|.d<|.cf<|.sk<|.s<|.g<|RG.Ln 1 Z<|RG.DD 0 0 (JO d (Z.a 3) (Z.a 2) (Z.a 1) p0 (Ew ‹_›).1 p0.g.nd (EX (Ew ‹_›).2.2)) Z fun aa ab ac ae af ag ah ai w Z=>RG.Ss 0 Z fun w Z=>.d<|T.Rb 0 func134 results134 Z ⟨Z.rD 0 [3,3,3,3] (⟨(⟨(Aj d).idx.names,((Aj d).idx).AY⟩:Idx),(Aj d).parts,(Aj d).mem⟩:Sto) [(aa,ab),(ac,ae),(af,ag),(ah,ai)] (by exact (IY ‹_›).symm),Z.xt⟩
end Go.Proofs.YtcginoabkicdiaaGreat
namespace Go.Proofs.YtcginoabkicdiaaGreat
structure FX where
 f:Fil
 a1:Option Addr
 c1:Nat
 a2:Option Addr
 c2:Nat
 deriving Inhabited
def FX.cs (x:FX):List Value:=[vI x.f.num,.slice x.a1 x.f.part.ids.length x.c1,.slice x.a2 x.f.part.blocks.length x.c2]
def FX.hd (x:FX):Hd 2:=⟨x.cs,rfl⟩
instance:Rep FX where
 sz:=3
 rep w F x cs:=cs=[vI x.f.num,.slice x.a1 x.f.part.ids.length x.c1,.slice x.a2 x.f.part.blocks.length x.c2]∧RepS w F x.a1 x.f.part.ids.length x.c1 x.f.part.ids∧RepS w F x.a2 x.f.part.blocks.length x.c2 x.f.part.blocks
 len:=by rintro w F x cs ⟨rfl,_⟩; rfl
 pos:=by decide
 flat:=by rintro w F x cs ⟨rfl,_⟩ v hv; simp at hv; rcases hv with rfl | rfl | rfl <;> rfl
 frame:=by rintro w w' F F' x cs ⟨rfl,h1,h2⟩ hf; exact ⟨rfl,h1.frame hf,h2.frame hf⟩
def DR (l:List Int):Nat→List FX→Int
 | _,[]=>-1
 | i,f::fs=>if l.contains f.f.num then DR l (i+1) fs else i
theorem Wa {l:List Int}{s:List FX}{k:Nat}{f:FX}(h:DR l k (s.drop k)=DR l 0 s) (hd:s.drop k=f::s.drop (k+1)) (hc:(!(l.contains f.f.num))=false):DR l (k+1) (s.drop (k+1))=DR l 0 s:=by
 rw [← h,hd]
 show _=if l.contains f.f.num then DR l (k+1) (s.drop (k+1)) else (k:Int)
 rw [if_pos (by simpa using hc)]
theorem TB {l:List Int}{s:List FX}{k:Nat}{f:FX}(h:DR l k (s.drop k)=DR l 0 s) (hd:s.drop k=f::s.drop (k+1)) (hc:(!(l.contains f.f.num))=true):(k:Int)=DR l 0 s:=by
 rw [← h,hd]
 show _=if l.contains f.f.num then DR l (k+1) (s.drop (k+1)) else (k:Int)
 rw [if_neg (by simpa using hc)]
theorem TC {l:List Int}{s:List FX}{k:Nat}(h:DR l k (s.drop k)=DR l 0 s) (hk:s.length≤k):(-1:Int)=DR l 0 s:=by
 rw [Aa hk] at h
 exact h
theorem HM (l:List Int):∀ (s:List FX) (i:Nat),(DR l i s = -1∧s.filter (fun f=>l.contains f.f.num)=s)∨∃ k:Nat,DR l i s=(i+k:Nat)∧k< s.length∧s.take k=(s.take (k+1)).filter (fun f=>l.contains f.f.num):=by
 intro s
 induction s with
 | nil=>intro i; exact .inl ⟨rfl,rfl⟩
 | cons f fs ih =>
   intro i
   unfold DR
   by_cases hc:l.contains f.f.num=true
   ·rw [if_pos hc]
    rcases ih (i+1) with ⟨h1,h2⟩ | ⟨k,h1,h2,h3⟩
    ·left
     refine ⟨h1,?_⟩
     rw [List.filter_cons,if_pos hc,h2]
    ·right
     refine ⟨k+1,by rw [h1]; omega,by simp; omega,?_⟩
     rw [List.take_succ_cons,List.take_succ_cons,List.filter_cons,if_pos hc,← h3]
   ·rw [if_neg hc]
    right
    refine ⟨0,by simp,by simp,?_⟩
    simp only [List.take_zero,Nat.zero_add,List.take_succ_cons]
    rw [List.filter_cons,if_neg hc]
    rfl
theorem QN {l:List Int}{s:List FX}(h:¬ DR l 0 s = -1):0≤DR l 0 s:=by
 rcases HM l s 0 with ⟨h1,_⟩ | ⟨k,h1,_⟩
 ·exact absurd h1 h
 ·omega
theorem QO (l:List Int) (s:List FX):DR l 0 s< s.length∨s.length=0∧DR l 0 s = -1:=by
 rcases HM l s 0 with ⟨h1,_⟩ | ⟨k,h1,h2,_⟩
 ·by_cases e:s.length=0
  ·exact .inr ⟨e,h1⟩
  ·exact .inl AB
 ·exact .inl AB
theorem Q8 {l:List Int}{s:List FX}(h:¬ DR l 0 s = -1):s.take (DR l 0 s).toNat=(s.take (DR l 0 s+1).toNat).filter (fun f=>l.contains f.f.num):=by
 rcases HM l s 0 with ⟨h1,_⟩ | ⟨k,h1,h2,h3⟩
 ·exact absurd h1 h
 ·rw [h1,show (((0+k:Nat):Int)).toNat=k by omega,show (((0+k:Nat):Int)+1).toNat=k+1 by omega]
  exact h3
theorem Uk {l:List Int}{s:List FX}(h:DR l 0 s = -1):s=s.filter (fun f=>l.contains f.f.num):=by
 rcases HM l s 0 with ⟨_,h1⟩ | ⟨k,h1,h2,h3⟩
 ·exact h1.symm
 ·omega
theorem TD {l:List Int}{xs xs0:List FX}{i j:Int}{v:FX}(h:xs.take i.toNat=(xs0.take j.toNat).filter (fun f=>l.contains f.f.num)) (h2:xs.drop j.toNat=xs0.drop j.toNat) (hv:xs[j.toNat]? = some v) (hi:0≤i) (hij:i< j) (hl:j< xs.length) (hc:(!(l.contains v.f.num))=false):(xs.set i.toNat v).take (i+1).toNat=(xs0.take (j+1).toNat).filter (fun f=>l.contains f.f.num):=by
 have h0:=Jg h2 hv
 rw [MU AB h0,List.filter_append,← h,List.filter_cons,if_pos (by simpa using hc),show (i+1).toNat=i.toNat+1 by omega,List.take_add_one,List.take_set_of_le (Nat.le_refl _),List.getElem?_set_self AB]
 rfl
theorem TE {l:List Int}{xs xs0:List FX}{i j:Int}{v:FX}(h:xs.take i.toNat=(xs0.take j.toNat).filter (fun f=>l.contains f.f.num)) (h2:xs.drop j.toNat=xs0.drop j.toNat) (hv:xs[j.toNat]? = some v) (hj:0≤j) (hc:(!(l.contains v.f.num))=true):xs.take i.toNat=(xs0.take (j+1).toNat).filter (fun f=>l.contains f.f.num):=by
 have h0:=Jg h2 hv
 rw [MU hj h0,List.filter_append,← h,List.filter_cons,if_neg (by simpa using hc)]
 simp
theorem Q9 {xs xs0:List FX}{i j:Int}{v:FX}(h2:xs.drop j.toNat=xs0.drop j.toNat) (hi:0≤i) (hij:i< j) (_hj:0≤j):(xs.set i.toNat v).drop (j+1).toNat=xs0.drop (j+1).toNat:=by
 rw [List.drop_set_of_lt AB,show (j+1).toNat=j.toNat+1 by omega,← List.drop_drop,← List.drop_drop,h2]
theorem TF {xs xs0:List FX}{j:Int}(h2:xs.drop j.toNat=xs0.drop j.toNat) (hj:0≤j):xs.drop (j+1).toNat=xs0.drop (j+1).toNat:=by
 rw [show (j+1).toNat=j.toNat+1 by omega,← List.drop_drop,← List.drop_drop,h2]
theorem Ul {l:List Int}{xs xs0:List FX}{i j:Int}(h:xs.take i.toNat=(xs0.take j.toNat).filter (fun f=>l.contains f.f.num)) (h2:xs.drop j.toNat=xs0.drop j.toNat) (hj:(xs.length:Int)≤j) (hij:0≤j):xs.take i.toNat=xs0.filter (fun f=>l.contains f.f.num):=by
 rw [h]
 congr 1
 have h3:xs0.drop j.toNat=[]:=by rw [← h2]; exact List.drop_of_length_le AB
 rw [List.drop_eq_nil_iff] at h3
 exact List.take_of_length_le h3
theorem Own.X5 {w:World}{r:Nat}{t:TypeId}{F:Nat→Prop}{n c i:Nat}{xs:List (Hd 1)}{cs:List Value}(h:Own w r t F n c xs) (hB:Box w r t cs):∀ v,i+(n - i)≤n→v∈(cs.drop (i * 2)).take ((n - i) * 2)→Go.Proofs.YtcginoabkicdiaaGreat.Cn v=true:=by
 intro v hin hv
 obtain ⟨k,hk⟩:=List.mem_iff_getElem?.1 hv
 rw [List.getElem?_take] at hk
 split at hk
 ·rename_i hlt
  rw [List.getElem?_drop] at hk
  have hn:=h.len
  have hj:i+k / 2< xs.length:=by omega
  obtain ⟨c1,g1,g2⟩:=h.elem (i+k / 2) xs[i+k / 2] (AU hj)
  have hl:c1.length=2:=Rep.len g1
  have hk2:k % 2< c1.length:=by omega
  have h3:=g2 (k % 2) c1[k % 2] (AU hk2)
  have hz:Rep.sz (Hd 1)=2:=rfl
  unfold Box at hB
  rw [add_lit,hz] at h3
  simp only [World.cell?,hB] at h3
  have e:(i+k / 2) * 2+k % 2=i * 2+k:=by omega
  rw [e] at h3
  have h4:cs[i * 2+k]? = some c1[k % 2]:=by simpa using h3
  rw [hk] at h4
  cases h4
  exact Rep.flat g1 _ (List.getElem_mem hk2)
 ·cases hk
theorem Wb {α:Type}{l' l:List α}(h:l'.Sublist l):∃ σ:Nat→Nat,(∀ i j,σ i=σ j→i=j)∧∀ i x,l'[i]? = some x→l[σ i]? = some x:=by
 induction h with
 | slnil=>exact ⟨id,fun _ _ e=>e,fun i x hx=>hx⟩
 | cons a _ ih =>
   obtain ⟨σ,h1,h2⟩:=ih
   exact ⟨fun i=>σ i+1,fun i j e=>h1 i j (by simpa using e),fun i x hx=>by simpa using h2 i x hx⟩
 | cons_cons a _ ih =>
   obtain ⟨σ,h1,h2⟩:=ih
   refine ⟨fun i=>match i with | 0=>0 | i+1=>σ i+1,fun i j e=>?_,fun i x hx=>?_⟩
   ·cases i <;> cases j <;> simp at e ⊢
    exact h1 _ _ e
   ·cases i
    ·simpa using hx
    ·simpa using h2 _ x (by simpa using hx)
section
variable {α:Type} [Rep α] [Dp α] {k:Nat} {w:World} {D:Nat→Prop}
theorem ElS.sub {L L':List (α × Hd k)}(h:L'.Sublist L) (he:ElS w D (L.map Prod.fst) (L.map Prod.snd)):ElS w D (L'.map Prod.fst) (L'.map Prod.snd):=by
 obtain ⟨σ,s1,s2⟩:=Wb h
 obtain ⟨_,E,h1,h2,h3⟩:=he
 refine ⟨by simp,fun i b=>E (σ i) b,fun i j b p q=>s1 i j (h1 _ _ b p q),fun i b p=>h2 _ b p,fun i x hd hx hh=>?_⟩
 rw [List.getElem?_map,Option.map_eq_some_iff] at hx hh
 obtain ⟨p,hp,rfl⟩:=hx
 obtain ⟨q,hq,rfl⟩:=hh
 rw [hp] at hq; cases hq
 exact h3 (σ i) _ _ (by rw [List.getElem?_map,s2 i p hp]; rfl) (by rw [List.getElem?_map,s2 i p hp]; rfl)
theorem Xc {β γ:Type}{a:List β}{b:List γ}(h:b.length=a.length):(a.zip b).map Prod.fst=a:=List.map_fst_zip AB
theorem Xd {β γ:Type}{a:List β}{b:List γ}(h:b.length=a.length):(a.zip b).map Prod.snd=b:=List.map_snd_zip AB
theorem ElS.del {xs:List α}{hs:List (Hd k)}(i:Nat) (he:ElS w D xs hs):ElS w D (xs.take i++xs.drop (i+1)) (hs.take i++hs.drop (i+1)):=by
 have hl:=he.1
 have e1:=Xc hl; have e2:=Xd hl
 have:=ElS.sub (L:=xs.zip hs) (L':=(xs.zip hs).take i++(xs.zip hs).drop (i+1)) (by
  conv=>rhs; rw [← List.take_append_drop i (xs.zip hs)]
  exact List.Sublist.append (List.Sublist.refl _) (List.drop_sublist_drop_left _ (Nat.le_succ i))) (by rw [e1,e2]; exact he)
 rwa [List.map_append,List.map_append,List.map_take,List.map_take,List.map_drop,List.map_drop,e1,e2] at this
end
theorem Xe {w:World}{D:Nat→Prop}{x:Fil}{cs:List Value}(h:Dp.dp w D x cs):∃ y:FX,y.f=x∧cs=y.cs∧RepS w D y.a1 y.f.part.ids.length y.c1 y.f.part.ids∧RepS w D y.a2 y.f.part.blocks.length y.c2 y.f.part.blocks:=by
 obtain ⟨l,hl,rfl,h⟩:=h
 match l,hl with
 | [(a1, c1), (a2, c2)], _ =>
   exact ⟨⟨x,a1,c1,a2,c2⟩,rfl,rfl,DpS.rep (D8 h me0),DpS.rep (D8 h me1)⟩
theorem Wc {w:World}{r t n c:Nat}{F D:Nat→Prop}{xs:List Fil}{hs:List (Hd 2)}(ho:Own w r t F n c hs) (he:ElS w D xs hs) (hr:¬ D r):∃ ys:List FX,ys.map FX.f=xs∧ys.map FX.hd=hs∧Own w r t all n c ys:=by
 obtain ⟨hl,E,h1,h2,h3⟩:=he
 have hx:∀ (i:Nat) (x:Fil),xs[i]? = some x→∃ y:FX,y.f=x∧hs[i]? = some y.hd∧RepS w (fun b=>all b∧b≠r) y.a1 y.f.part.ids.length y.c1 y.f.part.ids∧RepS w (fun b=>all b∧b≠r) y.a2 y.f.part.blocks.length y.c2 y.f.part.blocks:=by
  intro i x hx
  have hi:i< hs.length:=by rw [hl]; exact (List.getElem?_eq_some_iff.1 hx).1
  have hh:hs[i]? = some hs[i]:=AU hi
  obtain ⟨y,e1,e2,e3,e4⟩:=Xe (h3 i x _ hx hh)
  have hw:∀ b,b< w.heap.size→E i b→all b∧b≠r:=fun b _ hb=>⟨trivial,fun e=>hr (by subst e; exact h2 i b hb)⟩
  refine ⟨y,e1,?_,e3.Bd hw,e4.Bd hw⟩
  rw [hh]
  congr 1
  show hs[i]=⟨y.cs,rfl⟩
  generalize hs[i]=q at e2
  cases q; simp only at e2; subst e2; rfl
 obtain ⟨ys,hyl,hy⟩:=R3 hx
 have ef:ys.map FX.f=xs:=List.ext_getElem? fun i=>by
  rw [List.getElem?_map]
  by_cases hi:i< xs.length
  ·have a1:xs[i]? = some xs[i]:=AU hi
   have a2:ys[i]? = some ys[i]:=AU AB
   rw [a2,a1]; simp only [Option.map_some,(hy i _ _ a1 a2).1]
  ·rw [List.getElem?_eq_none AB,List.getElem?_eq_none AB]; rfl
 have eh:ys.map FX.hd=hs:=List.ext_getElem? fun i=>by
  rw [List.getElem?_map]
  by_cases hi:i< xs.length
  ·have a1:xs[i]? = some xs[i]:=AU hi
   have a2:ys[i]? = some ys[i]:=AU AB
   rw [a2,(hy i _ _ a1 a2).2.1]; rfl
  ·rw [List.getElem?_eq_none AB,List.getElem?_eq_none AB]; rfl
 refine ⟨ys,ef,eh,⟨by rw [ho.len,hl,hyl],ho.le,ho.cap,ho.row,fun i y hyi=>?_⟩⟩
 have hi:i< xs.length:=by rw [← hyl]; exact (List.getElem?_eq_some_iff.1 hyi).1
 have a1:xs[i]? = some xs[i]:=AU hi
 obtain ⟨g1,g2,g3,g4⟩:=hy i _ _ a1 hyi
 obtain ⟨cs,q1,q2⟩:=ho.elem i _ g2
 have q1':cs=y.hd.cs:=q1
 subst q1'
 exact ⟨_,⟨rfl,g3,g4⟩,q2⟩
theorem Wd {w:World}{r t n c:Nat}{F F':Nat→Prop}{ys:List FX}(ho:Own w r t F n c ys):Own w r t F' n c (ys.map FX.hd):=by
 refine ⟨by rw [List.length_map]; exact ho.len,ho.le,ho.cap,ho.row,fun i h hh=>?_⟩
 rw [List.getElem?_map,Option.map_eq_some_iff] at hh
 obtain ⟨y,hy,rfl⟩:=hh
 obtain ⟨cs,⟨e,_,_⟩,q2⟩:=ho.elem i y hy
 subst e
 exact ⟨_,rfl,q2⟩
theorem NO {k:Nat}{w:World}{r t n c:Nat}{F F':Nat→Prop}{hs:List (Hd k)}(ho:Own w r t F n c hs):Own w r t F' n c hs :=
 ⟨ho.len,ho.le,ho.cap,ho.row,fun i x hx=>ho.elem i x hx⟩
theorem ElS.flt {w:World}{D:Nat→Prop}{p:Fil→Bool}{ys:List FX}(he:ElS w D (ys.map FX.f) (ys.map FX.hd)):ElS w D ((ys.map FX.f).filter p) ((ys.filter (fun y=>p y.f)).map FX.hd):=by
 have:=ElS.sub (L:=ys.map fun y=>(y.f,y.hd)) (L':=(ys.filter (fun y=>p y.f)).map fun y=>(y.f,y.hd)) (List.Sublist.map _ List.filter_sublist) (by rw [List.map_map,List.map_map]; exact he)
 rw [List.map_map,List.map_map] at this
 rw [List.filter_map]
 exact this
section
variable {P:Program} {n:Nat} {K:Env→World→Prop} {ops:Array Oper} {j:Nat} {e:Env}
variable {κ:Cx} {ρ:Option Rg} {Φ:List Ob} {Ψ:List Fz} {Θ:List (Nat × Nat × List Value)} {w w':World} {α:Type} [Rep α] {xs xs' ys:List α} {i q k m:Nat} {hs hs' gs:List (Hd k)}
theorem St.dl [Dp α] (Z:St κ ρ Φ Ψ Θ w) (i p:Nat) (js:List Nat) (xs xs':List α) (hs hs':List (Hd k)) (ho:Own w' (obB Φ i) (owT Φ i) (nin (κ.g (owG Φ i)) [obB Φ i]) m (owC Φ i) hs') (hn:m=xs'.length) (hx:Chg (one (obB Φ i)) w w')
 (hE:∀ D,ElS w D xs hs→(¬ D (obB Φ i))→ElS w D xs' hs') (hi:Φ[i]? = some (.raw (owG Φ i) (obB Φ i) (owT Φ i) (owC Φ i) xs hs):=by kernel_rfl) (h:isS Ψ p (owG Φ i)=true:=by kernel_rfl) (hm:(mvs (seI Ψ p) js).take 1=[.e xs hs]:=by kernel_rfl) :
 St κ ρ (Φ.set i (.raw (owG Φ i) (obB Φ i) (owT Φ i) (owC Φ i) xs' hs')) (⟨owG Φ i,none,.sep (.e xs' hs'::(mvs (seI Ψ p) js).drop 1)⟩ :: Ψ) [] w':=by
 subst hn
 obtain ⟨D,D',e1,e2,e3,e4⟩:=E4 (Z.sp p (owG Φ i) h) hm
 have hin:obB Φ i∈bl Φ:=Cc hi
 have Z1:=Z.sA (owG Φ i) (its:=.e xs' hs'::(mvs (seI Ψ p) js).drop 1) ⟨D,D',hE D e1 (fun hD=>(e3 _ hD).1.2 hin),e2,e3,e4⟩
 refine Z1.put hi hx (.inl rfl) ho.lt ⟨?_,(Z.rw i xs hs hi).2⟩
 exact NO ho
theorem St.els [Dp α] (Z:St κ ρ Φ Ψ Θ w) (i p:Nat) (js:List Nat) (xs:List α) (hs:List (Hd k)) (hi:Φ[i]? = some (.raw (owG Φ i) (obB Φ i) (owT Φ i) (owC Φ i) xs hs):=by kernel_rfl) (h:isS Ψ p (owG Φ i)=true:=by kernel_rfl) (hm:(mvs (seI Ψ p) js).take 1=[.e xs hs]:=by kernel_rfl) :
 ∃ D:Nat→Prop,ElS w D xs hs∧¬ D (obB Φ i):=by
 obtain ⟨D,D',e1,e2,e3,e4⟩:=E4 (Z.sp p (owG Φ i) h) hm
 exact ⟨D,e1,fun hD=>(e3 _ hD).1.2 (Cc hi)⟩
theorem St.rnb {β:Type}(Z:St κ ρ Φ Ψ Θ w) (i q:Nat) (xs:List α) (ys:List β) [Rep β] (hs:List (Hd k)) (hi:Φ[i]? = some (.raw (owG Φ i) (obB Φ i) (owT Φ i) (owC Φ i) ys hs):=by kernel_rfl) (h:Ψ[q]? = some ⟨fzG Ψ q,fzL Ψ q,.rep (fzA Ψ q) (fzC Ψ q) xs⟩:=by kernel_rfl):RepS w (nin all [obB Φ i]) (fzA Ψ q) xs.length (fzC Ψ q) xs :=
 (Z.f q xs h).Bd fun b _ hb=>⟨trivial,fun hm=>hb.2 (by cases List.mem_singleton.1 hm; exact Cc hi)⟩
omit [Rep α] in
theorem St.nq {β:Type}[Rep β] (Z:St κ ρ Φ Ψ Θ w) (i q:Nat) (ys:List β) (hs:List (Hd k)) (hi:Φ[i]? = some (.box (obB Φ i) (bxT Φ i) (bxC Φ i)):=by kernel_rfl) (hq:Φ[q]? = some (.raw (owG Φ q) (obB Φ q) (owT Φ q) (owC Φ q) ys hs):=by kernel_rfl) (hn:Nat.beq q i=false:=by kernel_rfl):obB Φ q≠obB Φ i:=Gj Z.nd (Dl hi) (Dl hq) fun e=>by subst e; exact absurd hn AD
omit [Rep α] in
theorem RG.Aw (i q:Nat) (ys:List α) (gs:List (Hd k)) (Z:St κ ρ Φ Ψ Θ w)
 (H:∀ r2 c2 w',St κ ρ ((Φ.eraseIdx q).set i (.raw (owG (Φ.eraseIdx q) i) r2 (owT (Φ.eraseIdx q) i) c2 ys gs)) Ψ [] w'→RG P n K ops (j+1) (Af e (Ac ops j).dst (.slice (some ⟨r2,0,none⟩) ys.length c2)) w')
 (hsz:ys.length≤100000000000:=by first | omega | (simp <;> omega))
 (hi:(Φ.eraseIdx q)[i]? = some (.raw (owG (Φ.eraseIdx q) i) (obB (Φ.eraseIdx q) i) (owT (Φ.eraseIdx q) i) (owC (Φ.eraseIdx q) i) ([]:List α) ([]:List (Hd k))):=by kernel_rfl)
 (hq:Φ[q]? = some (.raw (owG Φ q) (obB Φ q) (owT Φ q) (owC Φ q) ys gs):=by kernel_rfl)
 (h:Bg n ops j e=some (.append,[apT (Bg n ops j e),apT (Bg n ops j e)],apY (Bg n ops j e),[.slice (some ⟨obB (Φ.eraseIdx q) i,0,none⟩) 0 (owC (Φ.eraseIdx q) i),.slice (some ⟨obB Φ q,0,none⟩) ys.length (owC Φ q)]):=by kernel_rfl)
 (hT:Eh P (apT (Bg n ops j e)) (owT (Φ.eraseIdx q) i) (k+1)=true:=by kernel_rfl):RG P n K ops j e w:=by
 have Z1:=Z.dr q
 have hb:Own w (obB Φ q) (owT Φ q) (nin (κ.g (owG Φ q)) (bl Φ)) ys.length (owC Φ q) gs∧κ.w.heap.size≤obB Φ q:=Z.ob _ (AV hq)
 have hn:obB Φ q∉bl (Φ.eraseIdx q):=by rw [L3]; exact Is Z.nd (Dl hq)
 obtain ⟨ho,hs0⟩:=Z1.rw i ([]:List α) ([]:List (Hd k)) hi
 have hr:obB (Φ.eraseIdx q) i∈bl (Φ.eraseIdx q):=Cc hi
 have hrep:RepS w (fun b=>b=obB Φ q) (some ⟨obB Φ q,0,none⟩) ys.length (owC Φ q) gs:=⟨hb.1.len,hb.1.le,hb.1.cap,fun _=>rfl,fun _=>rfl,fun u x hx=>by
  obtain ⟨cs,g1,g2⟩:=hb.1.elem u x hx
  exact ⟨cs,g1,by simpa [blk,off] using g2⟩⟩
 have hl:gs.length=ys.length:=hb.1.len.symm
 obtain ⟨r2,c2,w',hrun,ho',hor,hx,_⟩:=ho.append (P:=P) (T:=apT (Bg n ops j e)) (ty:=apY (Bg n ops j e)) hT hrep (fun b _ hF=>by
  subst hF
  exact ⟨⟨Cx.nw hb.2,hn⟩,fun e=>hn (by rw [e]; exact hr)⟩) (by simpa using hsz)
 refine RG.append h hrun ?_
 have e0:([]:List α).length+ys.length=ys.length:=by simp
 rw [e0]
 refine H r2 c2 w' (Z1.put hi hx ?_ ho'.lt ⟨?_,?_⟩)
 ·exact hor.imp id (fun e=>Nat.le_of_eq e.symm)
 ·rw [e0] at ho'
  exact NO ho'
 ·rcases hor with rfl | rfl
  ·exact hs0
  ·exact Z1.ch.size
end
section
variable {P:Program} {S:Nat→Prop} {n m:Nat} {L:Env→World→Prop} {ops:Array Oper} {l:List Nat} {e:Env}
variable {κ:Cx} {ρ:Option Rg} {Φ:List Ob} {Ψ:List Fz} {Θ:List (Nat × Nat × List Value)} {w:World} {k:Nat}
theorem GE.Sr {α:Type}[Rep α] {kk:Nat}(i d:Nat) (xs:List α) (y:α) (hs:List (Hd k)) (hd:Hd k) (js:List Nat) (Z:St κ ρ Φ Ψ Θ w)
 (H:∀ w',St κ ρ (Φ.set i (.raw (owG Φ i) (obB Φ i) (owT Φ i) (owC Φ i) (xs.set d y) (hs.set d hd))) Ψ [] w'→GA P (rS ρ) n m L ops (kk::l) (Af e (Ac ops kk).dst undef) w') (hlt:d< xs.length:=by omega)
 (hi:Φ[i]? = some (.raw (owG Φ i) (obB Φ i) (owT Φ i) (owC Φ i) xs hs):=by kernel_rfl) (hv:(stV (storeAt n ops kk e)).cells.toList=hd.cs:=by kernel_rfl) (hsz:DM P (stT (storeAt n ops kk e)) (k+1)=true:=by kernel_rfl)
 (h:storeAt n ops kk e=some (stT (storeAt n ops kk e),⟨obB Φ i,0+d * (k+1),none⟩,stV (storeAt n ops kk e)):=by kernel_rfl)
 (h0:isR ρ=true:=by kernel_rfl) (h1:(roJ ρ).map some=js.map (fun j=>(Φ[j]?).map Ob.b):=by kernel_rfl) (h2:js.all (fun j=>!(Nat.beq j i))=true:=by kernel_rfl):GE P (rS ρ) n m L ops l kk e w:=fun w1 hx=>by
 obtain ⟨w',hr,hz,hc⟩:=(Z.e hx).srC (P:=P) i d xs y hs hd hi hlt hv hsz
 rw [E8 h hr]
 exact ⟨HE (Z.QX hi js h0 h1 h2) hc,H w' hz⟩
theorem GA.Kr (q i nn d:Nat) (z:Int) (_:St κ ρ Φ Ψ Θ w) (H:GA P S n m L ops (q::l) (Af e (Ac ops q).dst (.pointer (some ⟨obB Φ i,0+d * (k+1),none⟩))) w) (hz:z=(d:Int):=by omega) (hn:d< nn:=by omega)
 (hi:Ot P n m ops l q e=some (some ⟨obB Φ i,0,none⟩,nn,z,k+1):=by kernel_rfl):GA P S n m L ops l e w:=GA.idx d hi hz hn rfl H
end
end Go.Proofs.YtcginoabkicdiaaGreat
namespace Go.Proofs.YtcginoabkicdiaaGreat
set_option maxRecDepth 100000
set_option maxHeartbeats 4000000
variable {w:World} {F:Nat→Prop} {a1:Option Addr} {n1 c1:Nat}
theorem JP (s:List FX) (d:Dsk) (h1:RepS w F a1 n1 c1 s){bq_d:Nat}{a2:Option Addr}{c2:Nat}{a3:Option Addr}{c3:Nat}{a4:Option Addr}{c4:Nat}(hb_d:Box w bq_d 35 [.slice a2 d.files.length c2,.slice a3 d.list.length c3,.slice a4 d.names.length c4,.int .i64 d.next]) (h2:RepS w F a2 d.files.length c2 d.files) (h3:RepS w F a3 d.list.length c3 d.list) (h4:RepS w F a4 d.names.length c4 d.names)  : Calls Tryz.prog 184 [.slice a1 n1 c1,.func (.func 187) #[] #[.pointer (some ⟨bq_d,0,none⟩)]].toArray w (Ag fun rv w'=>rv=.int .i64 (DR d.list 0 s)∧Ext w w'):=by
 refine goT func184 ?_
 obtain ⟨rfl,ax,h1⟩:=h1.tp
 replace h2:=h2.top (s:=w.heap.size)
 replace h3:=h3.top (s:=w.heap.size)
 replace h4:=h4.top (s:=w.heap.size)
 refine .s<|.g<|.r 1<|.d<|.s<|.s<|.g<|.r 3<|.d<|.b 0<|T.loop (X:=Nat) 0 (fun k=>[(0,.slice a1 s.length c1),(1,.func (.func 187) #[] #[.pointer (some ⟨bq_d,0,none⟩)]),(7,vI (s.length:Int)),(8,vI (k:Int))]) (fun k ac=>Chg (ins []) w ac∧(k≤s.length)∧(DR d.list k (s.drop k)=DR d.list 0 s)) (fun k=>s.length - k) AA ⟨AA,AA,AA,AA,trivial⟩ ⟨Chg.refl _ _,AD,AD⟩ ?_
 rintro k aH ac ⟨aa,aB,aC⟩ ae
 have ag:Mv [] [] w ac:=Mv.inl aa all_nil all_nil
 replace ⟨h1,h2,h3,h4,hb_d⟩:=(sp ag aa).g5 h1 h2 h3 h4 hb_d
 have ab:Chg nil w ac:=Chg.Nf (Chg.refl nil w) aa all_nil
 clear ag
 refine .s<|.g<|.bp ((k:Int)< (s.length:Int)) (fun aj=>?_) (fun aj=>.d<|.s<|.cf<|.x 0 rfl<|.s<|.g<|.r 1<|.d<|.rt func184 results184 (vI (-1)) ⟨(congrArg (Value.int .i64) (by exact TC ‹_› AB)),ab⟩)
 refine .d<|.s<|.ct<|.sk<|.s<|.b 1<|.s<|.g<|.r 2<|.d<|.s<|.g<|.r 3 ?_
 have ak:k< s.length:=AB
 refine .ix k 3 h1 ak ?_
 obtain ⟨ai,af⟩:∃ y,s[k]? = some y:=⟨_,AU AB⟩
 have aD:=AZ af
 obtain ⟨_,⟨rfl,am,ao⟩,aq⟩:=h1.elem k ai af
 refine .lg 0 aq<|.cl (FE ai.f d am.ta ao.ta hb_d h2.ta h3.ta h4.ta (w:=ac) (F:=all)) ?_
 rintro aI aJ ⟨rfl,ah⟩
 replace ⟨hb_d,ab,aa⟩:=(se [] ah).g3 hb_d ab aa
 clear ah
 cases aG:(!(d.list.contains ai.f.num))
 ·exact .d<|.cf<|.sk<|.ib 1<|.g<|.it ((k:Int)+1)<|.r 1<|.d<|ae (k+1) _ _ ⟨AA,AA,AA,AA,trivial⟩ ⟨aa,AB,(by exact Wa ‹_› ‹_› ‹_›)⟩ AB
 exact .d<|.ct<|.s<|.g<|.r 2<|.d<|.rt func184 results184 (vI (k:Int)) ⟨(congrArg (Value.int .i64) (by exact TB ‹_› ‹_› ‹_›)),ab⟩
theorem HQ (d:Dsk){r n c bq c1 c2 c3:Nat}{a1 a2 a3:Option Addr}{xs0:List FX}(ho:Own w r 148 F n c xs0) (hb:Box w bq 35 [.slice a1 d.files.length c1,.slice a2 d.list.length c2,.slice a3 d.names.length c3,.int .i64 d.next]) (h1:RepS w (nin all [r]) a1 d.files.length c1 d.files) (h2:RepS w (nin all [r]) a2 d.list.length c2 d.list) (h3:RepS w (nin all [r]) a3 d.names.length c3 d.names) (hne:Nb r bq) (hn:n≤1000000):Calls Tryz.prog 186 [.slice (some ⟨r,0,none⟩) n c,.func (.func 187) #[] #[.pointer (some ⟨bq,0,none⟩)]].toArray w (Ag fun rv w'=>(∃ m,rv=.slice (some ⟨r,0,none⟩) m c∧Own w' r 148 F m c (xs0.filter (fun f=>d.list.contains f.f.num)))∧Chg (one r) w w'):=by
 refine goT func186 ?_
 replace ho:=ho.Wy; have hnl:=ho.len; have hle:=ho.le
 refine .s<|.g<|.r 1<|.d<|.s<|.g<|.r 2<|.cl (JP xs0 d (ho.rep) hb h1.ta h2.ta h3.ta (w:=w) (F:=all)) ?_
 rintro bN aB ⟨rfl,aq⟩
 replace ⟨ho,h1,h2,h3,hb⟩:=(se [r] aq).g5 ho h1 h2 h3 hb
 have ac:Chg (one r) w aB:=Chg.Lw (Chg.refl (one r) w) aq
 clear aq
 refine .r 1<|.d<|.s<|.s<|.g<|.r 1<|.eq (DR d.list 0 xs0) (-1) (fun aP=>.d<|.ct<|.s<|.g<|.r 2<|.d<|.rt func186 results186 (vS r n c) ⟨⟨_,rfl,(Own.U1 ho).eqx (Uk ‹_›)⟩,ac⟩) fun aP=>.d<|.cf<|.sk<|.s<|.s<|.g<|.r 1<|RG.int (DR d.list 0 xs0+1) AA (by (have q1:=QN (by assumption:¬ DR d.list 0 xs0 = -1); have q2:=QO d.list xs0; omega))<|.r 1<|.d<|.b 0<|T.loop (X:=Int × Int × (List FX)) (DR d.list 0 xs0,DR d.list 0 xs0+1,xs0) (fun (i,j,xs)=>[(0,vS r n c),(1,.func (.func 187) #[] #[.pointer (some ⟨bq,0,none⟩)]),(5,vI i),(6,vI j)]) (fun (i,j,xs) ar=>Chg (ins [r]) aB ar∧Own ar r 148 (nin F [r]) n c xs∧(0≤i)∧(i< j)∧(j≤n)∧(xs.take i.toNat=(xs0.take j.toNat).filter (fun f=>d.list.contains f.f.num))∧(xs.drop j.toNat=xs0.drop j.toNat)) (fun (i,j,xs)=>n - j.toNat) AA ⟨AA,AA,AA,AA,trivial⟩ ⟨Chg.refl _ _,ho,(by exact QN ‹_›),AB,(by have:=QO d.list xs0; omega),(by exact Q8 ‹_›),AF⟩ ?_
 rintro ⟨i,j,xs⟩ bO ar ⟨ae,aa,bj,bk,bm,bn,bo⟩ aj
 have br:Cov (ins [r]) aB r:=⟨.inl AI⟩
 have aD:Mv [r] [r] aB ar:=Mv.inl ae (all_cons AI all_nil) (all_cons (.inl AI) all_nil)
 replace ⟨h1,h2,h3,hb,ac⟩:=(sp aD ae).g5 h1 h2 h3 hb ac
 clear aD
 have bu:=aa.len
 refine .s<|.s<|.g<|.r 3<|.bp (j< (n:Int)) (fun aQ=>?_) (fun aQ=>?_)
 ·refine .d<|.ct<|.sk<|.s<|.b 1<|.s<|.g<|.r 2 ?_
  have aR:j.toNat< n:=AB
  refine RG.idx (b:=r) (o:=0) (j.toNat) (len:=n) (i:=j) (sz:=3) AA AB aR rfl ?_
  obtain ⟨ab,ax⟩:∃ y,xs[j.toNat]? = some y:=⟨_,AU AB⟩
  obtain ⟨_,⟨rfl,ag,ah⟩,ay⟩:=aa.elem (j.toNat) ab ax
  replace ag:=ag.Bd (fun _ _ h=>h.1)
  replace ah:=ah.Bd (fun _ _ h=>h.1)
  replace ay:Has ar ⟨r,0+(j.toNat) * Rep.sz FX,none⟩ [vI ab.f.num,.slice ab.a1 ab.f.part.ids.length ab.c1,.slice ab.a2 ab.f.part.blocks.length ab.c2]:=by rw [Nat.zero_add]; exact ay
  refine .lg 0 ay<|.np 148 [vI 0,AH,AH] fun aC bP ai aE aS aT=>?_
  have bC:=Ay ai aa.lt
  have bD:=Ay ai hb.lt
  have bE:=ac.cn ai
  have bF:=ae.cn ai
  replace ⟨aa,h1,h2,h3,hb,ag,ah,ac,ae⟩:=(sn [r] aE ai).g9 aa h1 h2 h3 hb ag ah ac ae
  clear aE aT ai
  refine .sc [vI ab.f.num,.slice ab.a1 ab.f.part.ids.length ab.c1,.slice ab.a2 ab.f.part.blocks.length ab.c2] aS fun bg aF am aU=>?_
  replace ⟨aa,h1,h2,h3,hb,ag,ah,ac,ae⟩:=(so [aC,r] aF).g9 aa h1 h2 h3 hb ag ah ac ae
  clear aF aU
  refine .d<|.s<|.g<|.r 1<|.ln am<|.cl (FE ab.f d ag.ta ah.ta hb h1.ta h2.ta h3.ta (w:=bg) (F:=all)) ?_
  rintro bQ aI ⟨rfl,aG⟩
  replace ⟨aa,hb,ag,ah,am,ac,ae⟩:=(se [aC,r] aG).g7 aa hb ag ah am ac ae
  clear aG
  cases bG:(!(d.list.contains ab.f.num))
  ·refine .r 1<|.d<|.ct<|.s<|.g<|.r 2<|.ln am ?_
   have aV:i.toNat< n:=AB
   refine RG.idx (b:=r) (o:=0) (i.toNat) (len:=n) (i:=i) (sz:=3) AA AB aV rfl ?_
   obtain ⟨af,ao⟩:∃ y,xs[i.toNat]? = some y:=⟨_,AU AB⟩
   obtain ⟨_,⟨rfl,aJ,aK⟩,az⟩:=aa.elem (i.toNat) af ao
   replace aJ:=aJ.Bd (fun _ _ h=>h.1)
   replace aK:=aK.Bd (fun _ _ h=>h.1)
   replace az:Has aI ⟨r,0+(i.toNat) * Rep.sz FX,none⟩ [vI af.f.num,.slice af.a1 af.f.part.ids.length af.c1,.slice af.a2 af.f.part.blocks.length af.c2]:=by rw [Nat.zero_add]; exact az
   refine RG.Gc (t':=148) (i:=(i.toNat)) (k:=0) (v:=.agg #[vI ab.f.num,.slice ab.a1 ab.f.part.ids.length ab.c1,.slice ab.a2 ab.f.part.blocks.length ab.c2]) (cs:=[vI af.f.num,.slice af.a1 af.f.part.ids.length af.c1,.slice af.a2 af.f.part.blocks.length af.c2]) ab aa ao az AA AA AA ⟨rfl,ag.oi,ah.oi⟩ fun aH ak aA aL=>?_
   replace ⟨hb,ac,ae⟩:=(s1 aA).g3 hb ac ae
   clear aA aL
   refine .d<|.g<|.r 1<|RG.int (i+1) AA AB<|.r 1<|.d<|.ib 1<|.g<|.r 1<|RG.int (j+1) AA AB<|.r 1<|.d ?_
   have aM:Mv [aC,r] [r] aH aH:=Mv.less (all_cons AJ all_nil)
   replace ak:=(sp aM (Chg.refl nil _)).g1 ak
   exact aj (i+1,j+1,(xs.set (i.toNat) ab)) _ _ ⟨AA,AA,AA,AA,trivial⟩ ⟨ae,ak,AB,AB,AB,(by exact TD ‹_› ‹_› ‹_› AB AB AB ‹_›),(by exact Q9 ‹_› AB AB AB)⟩ (by (simp only []; omega))
  refine .r 1<|.d<|.cf<|.sk<|.ib 1<|.g<|.r 1<|RG.int (j+1) AA AB<|.r 1<|.d ?_
  have aN:Mv [aC,r] [r] aI aI:=Mv.less (all_cons AJ all_nil)
  replace aa:=(sp aN (Chg.refl nil _)).g1 aa
  exact aj (i,j+1,xs) _ _ ⟨AA,AA,AA,AA,trivial⟩ ⟨ae,aa,AB,AB,AB,(by exact TE ‹_› ‹_› ‹_› AB ‹_›),(by exact TF ‹_› AB)⟩ (by (simp only []; omega))
 refine .d<|.cf<|.x 0 rfl<|.s<|.g<|.r 2 ?_
 refine RG.HN (t:=32) (r:=r) (o:=0) (len:=n) (cap:=c) (lo:=some (vI i)) (hi:=none) (sz:=3) (i.toNat) n AA AA (.inr ⟨_,_,rfl,by omega⟩) (.inl ⟨rfl,rfl⟩) AB AB AB ?_
 obtain ⟨cs_,hB_,hl_⟩:=Own.V6 aa; have hz_:Rep.sz FX=3:=rfl; rw [hz_] at hl_
 obtain ⟨vs_,w5,bh,bS,aW,aO⟩:=Su (P:=Tryz.prog) (T:=32) (ty:=0) (t:=148) (sz:=3) (o:=0+(i.toNat) * 3) (m:=n - i.toNat) (c:=c - i.toNat) AA hB_ AB AB
 rw [Nat.zero_add] at aW
 have hsl_:(Av cs_ ((i.toNat) * 3) vs_).length=c * Rep.sz FX:=by rw [D4 AB,hz_]; exact hl_
 have bi:=Own.WN aa aO hB_ aW hsl_ (i:=i.toNat) AB (fun p hp=>Q7 (by rw [hz_] at hp; exact hp) AB)
 refine RG.clear (ats:=[32]) (ty:=0) (args:=[.slice (some ⟨r,0+(i.toNat) * 3,none⟩) (n - i.toNat) (c - i.toNat)]) AA bh ?_
 replace ⟨hb,ac⟩:=(s1 aO).g2 hb ac
 clear aO
 exact .d<|.s<|.g<|.r 2<|RG.HN (t:=32) (r:=r) (o:=0) (len:=n) (cap:=c) (lo:=none) (hi:=some (vI i)) (sz:=3) 0 (i.toNat) AA AA (.inl ⟨rfl,rfl⟩) (.inr ⟨_,_,rfl,by omega⟩) AB AB AB<|.r 1<|.d<|.rt func186 results186 (vS r (i.toNat) c) ⟨⟨_,rfl,(Own.U1 bi).eqx (Ul ‹_› ‹_› AB AB)⟩,ac⟩
theorem J0 {r n c i:Nat}{xs:List (Hd 1)}{a b:Int}(ho:Own w r 146 F n c xs) (ha:a=(i:Int)) (hb:b=(i:Int)+1) (hi:i< n) (hn:n≤1000000):Calls Tryz.prog 132 [.slice (some ⟨r,0,none⟩) n c,.int .i64 a,.int .i64 b].toArray w (Ag fun rv w'=>(rv=.slice (some ⟨r,0,none⟩) (n - 1) c∧Own w' r 146 F (n - 1) c (xs.take i++xs.drop (i+1)))∧Chg (one r) w w'):=by
 subst ha hb
 refine goT func132 ?_
 have hle:=ho.le
 obtain ⟨cs,hB,hl⟩:=ho.V6
 have hz:Rep.sz (Hd 1)=2:=rfl
 rw [hz] at hl
 refine .s<|.g<|.r 1<|.d<|.s<|.g<|.r 5<|RG.XN (t:=28) (k:=.i64) (k2:=.i64) (k3:=.i64) (a:=some ⟨r,0,none⟩) (len:=n) (cap:=c) (i1:=(i:Int)) (i2:=(i:Int)+1) (i3:=(n:Int)) (sz:=2) i (i+1) n AA AA rfl AB rfl AB AB hle fun v_=>.d<|.s<|.s<|.g<|.r 2<|.eq (i:Int) ((i:Int)+1) (fun h=>absurd (show False by omega) id) fun _=>.d<|.cf<|.sk<|.s<|.g<|.r 3<|.d<|.s<|.gd (one r) 7 fun w1 ag=>.r [0,1]<|GA.HN (i:=2) (t:=28) (r:=r) (o:=0) (len:=n) (cap:=c) (lo:=none) (hi:=some (vI (i:Int))) (sz:=2) 0 i AA AA AA (.inl ⟨rfl,rfl⟩) (.inr ⟨_,_,rfl,rfl⟩) AB AB AB<|.r [3,4]<|GA.XO (i:=5) (t:=28) (r:=r) (len:=n) (cap:=c) (lo:=some (vI ((i:Int)+1))) (hi:=none) (sz:=2) (i+1) n AA AA AA (.inr ⟨_,_,rfl,by omega⟩) (.inl ⟨rfl,rfl⟩) AB AB fun a2 c2 h2=>.go 6<|GE.append (T:=28) (ty:=28) (args:=[vS r i c,.slice a2 (n - (i+1)) c2]) AA fun w2 ai=>?_
 have aa:Ext w w2:=ag.trans ai
 have m1:(i+1) * 2+(n - (i+1)) * 2=n * 2:=by omega
 have ab:=hB.ext aa
 obtain ⟨w3,hr,aj,ac⟩:=OK (P:=Tryz.prog) (T:=28) (ty:=28) (t:=146) (sz:=2) (i:=i) (c:=c) (m:=n - (i+1)) (c':=c2) (a2:=a2) (vs:=(cs.drop ((i+1) * 2)).take ((n - (i+1)) * 2)) AA ab
  (fun hp=>⟨_,h2 hp,fun k u hu=>by
   rw [add_lit]
   unfold Box at ab
   simp only [World.cell?,ab]
   rw [List.getElem?_take] at hu
   split at hu
   all_goals first | (cases hu; done) | (rw [List.getElem?_drop] at hu; simpa using hu)⟩) (by rw [List.length_take,List.length_drop]; omega) AB (by rw [List.length_take,List.length_drop]; omega) (fun v hv=>ho.X5 (i:=i+1) hB v AB hv)
 refine ⟨_,w3,hr,ac,.d fun w4 ae=>.r 1<|.d<|.s<|.g<|.r 4<|?_⟩
 have ak:=aj.ext ae
 have hlen:i+(n - (i+1))=n - 1:=by omega
 rw [hlen]
 refine RG.HN (t:=28) (r:=r) (o:=0) (len:=n - 1) (cap:=c) (lo:=some (vI ((n - 1:Nat):Int))) (hi:=some (vI (n:Int))) (sz:=2) (n - 1) n AA AA (.inr ⟨_,_,rfl,rfl⟩) (.inr ⟨_,_,rfl,rfl⟩) AB AB AB ?_
 have h1:n - (n - 1)=1:=by omega
 rw [h1]
 have aB:(Av cs (i * 2) ((cs.drop ((i+1) * 2)).take ((n - (i+1)) * 2))).length=c * 2:=by rw [D4 (by rw [List.length_take,List.length_drop]; omega)]; exact hl
 obtain ⟨vs,w5,am,ao,af,aq⟩:=OL (P:=Tryz.prog) (T:=28) (ty:=0) (t:=146) (sz:=2) (o:=0+(n - 1) * 2) (c:=c - (n - 1)) AA ak AB
 rw [Nat.zero_add] at af
 have hd:=MM (sz:=2) hl hi hle rfl ao
 have hx:Chg (one r) w w5:=(((aa.chg (S:=one r)).trans ac).trans ae.chg).trans aq
 refine RG.clear (ats:=[28]) (ty:=0) (args:=[.slice (some ⟨r,0+(n - 1) * 2,none⟩) 1 (c - (n - 1))]) AA am<|.d<|.s<|.g<|.r 2<|.d<|.rt func132 results132 (vS r (n - 1) c) ⟨⟨rfl,Own.Sa ho hx hB af (by rw [hz]; exact hd.1) hi (by rw [hz]; exact hd.2)⟩,hx⟩
end Go.Proofs.YtcginoabkicdiaaGreat
namespace Go.Proofs.YtcginoabkicdiaaGreat
set_option maxRecDepth 100000
set_option maxHeartbeats 4000000
variable {w:World} {F:Nat→Prop} {a1 a2 a3 a4:Option Addr} {n1 c1 n2 c2 n3 c3 n4 c4:Nat}
theorem J1 {r c i:Nat}{xs:List Prt}{hs:List (Hd 1)}{a b:Int}(ho:Own w r 146 F xs.length c hs) (ha:a=(i:Int)) (hb:b=(i:Int)+1) (hi:i< xs.length) (hn:xs.length≤1000000):Calls Tryz.prog 132 [.slice (some ⟨r,0,none⟩) xs.length c,.int .i64 a,.int .i64 b].toArray w (Ag fun rv w'=>(rv=.slice (some ⟨r,0,none⟩) (xs.take i++xs.drop (i+1)).length c∧Own w' r 146 F (xs.take i++xs.drop (i+1)).length c (hs.take i++hs.drop (i+1)))∧Chg (one r) w w'):=by
 have e:(xs.take i++xs.drop (i+1)).length=xs.length - 1:=by rw [List.length_append,List.length_take,List.length_drop]; omega
 rw [e]
 exact J0 ho ha hb hi hn
theorem K5 (d:Dsk){r c bq c1 c2 c3:Nat}{a1 a2 a3:Option Addr}{xs:List Fil}{hs:List (Hd 2)}{D:Nat→Prop}(ho:Own w r 148 F xs.length c hs) (he:ElS w D xs hs) (hr:¬ D r) (hb:Box w bq 35 [.slice a1 d.files.length c1,.slice a2 d.list.length c2,.slice a3 d.names.length c3,.int .i64 d.next]) (h1:RepS w (nin all [r]) a1 d.files.length c1 d.files) (h2:RepS w (nin all [r]) a2 d.list.length c2 d.list) (h3:RepS w (nin all [r]) a3 d.names.length c3 d.names) (hne:Nb r bq) (hn:xs.length≤1000000):Calls Tryz.prog 186 [.slice (some ⟨r,0,none⟩) xs.length c,.func (.func 187) #[] #[.pointer (some ⟨bq,0,none⟩)]].toArray w (Ag fun rv w'=>(∃ hs':List (Hd 2),rv=.slice (some ⟨r,0,none⟩) (xs.filter (fun f=>d.list.contains f.num)).length c∧Own w' r 148 F (xs.filter (fun f=>d.list.contains f.num)).length c hs'∧∀ (w:World) (D:Nat→Prop),ElS w D xs hs→ElS w D (xs.filter (fun f=>d.list.contains f.num)) hs')∧Chg (one r) w w'):=by
 obtain ⟨ys,rfl,rfl,hy⟩:=Wc ho he hr
 refine (HQ d hy hb h1 h2 h3 hne hn).mono ?_
 rintro e w' ⟨v,rfl,⟨k,rfl,aa⟩,hx⟩
 have e:k=((ys.map FX.f).filter (fun f=>d.list.contains f.num)).length:=by rw [aa.len,List.filter_map,List.length_map]; rfl
 subst e
 exact ⟨_,rfl,⟨_,rfl,Wd aa,fun _ _ h=>h.flt⟩,hx⟩
theorem Ij (s:Sto) (at_:Int) (h1:RepS w F a1 n1 c1 s.idx.names) (h2:RepS w F a2 n2 c2 s.idx.AY) (h3:RepS w F a3 n3 c3 s.parts) (h4:RepS w F a4 n4 c4 s.mem) (p0:SD s):Calls Tryz.prog 64 [.agg #[.slice a1 n1 c1,.slice a2 n2 c2,.slice a3 n3 c3,.slice a4 n4 c4],.int .i64 at_].toArray w (Ag fun rv w'=>(∃ v0,rv=.tuple #[v0,.bool ((Bw s at_).2)]∧VD w.heap.size w' ((Bw s at_).1:Sto) v0)∧Ext w w'):=by
 cases h1.len
 cases h2.len
 cases h3.len
 cases h4.len
 refine goT func64 ?_
 have Z:=((((St.i0 F w).p h1).p h2).p h3).p h4
 have aP:=h3.max
 have Z:=Z.s0 0
 refine .s<|.g<|RG.Np Z fun aG w Z=>RG.Np Z fun aH w Z=>.r 1<|.d<|.s<|.s<|.g<|RG.Ln 1 Z<|RG.C0 (E5 s (Z.a 4) (Z.a 3) (Z.a 2) (Z.a 1) p0) Z fun w Z=>?_
 cases aR:(Ae s)
 ·refine .r 1<|.d<|.ct<|.s<|.g<|.r 1<|RG.Ss 0 Z fun w Z=>.r 1<|.d ?_
  have Z:=(((Z.sZ (List Tag) 0 0).sZ Pst 1 0).sZ Prt 1 0).sZ Smp 1 0
  exact T.r2 func64 results64 (.B 0 Z) (.t (.bool false)) ⟨⟨_,(Ch rfl (AG (by rw [JG ‹_›]))),Z.rD 1 [0,1,2,3] (⟨(⟨([]:List (List Tag)),([]:List Pst)⟩:Idx),([]:List Prt),([]:List Smp)⟩:Sto) [(none,0),(none,0),(none,0),(none,0)] (by rw [JG ‹_›])⟩,Z.xt⟩
 refine .r 1<|.d<|.cf<|.sk<|.s<|.g<|RG.Ln 1 Z<|RG.cl (CW s (Z.a 4) (Z.a 3) (Z.a 2) (Z.a 1) p0.nm p0.nd p0.sz) ?_
 rintro _ w ⟨⟨aq,ar,ax,ay,aI,aJ,ac,az,aA,rfl,aB⟩,aC⟩
 have Z:=Z.vX 0 aB aC
 refine RG.Np Z fun aK w Z=>RG.Ss 0 Z fun w Z=>.d<|.s<|.s<|.g<|.r 2<|RG.Lb 4 Z<|.r 1<|RG.int ((s.parts.length:Int) - 2) AA (by have:=p0.np; omega)<|RG.C0 (Bz at_ 0 ((s.parts.length:Int) - 2) (F:=all)) Z fun w Z=>?_
 cases ao:(inR at_ 0 ((s.parts.length:Int) - 2))
 ·refine .r 1<|.d<|.ct<|.s<|.g<|RG.Ln 0 Z<|RG.Ss 3 Z fun w Z=>.r 1<|.d ?_
  have Z:=(Z.eL 1 0 0 [2] (((Ad s)).parts) ac).fL 1 1 0 (((Ad s)).mem)
  exact T.r2 func64 results64 (.B 1 Z) (.t (.bool false)) ⟨⟨_,(Ch rfl (AG (by rw [K0 p0 ‹_› ‹_›]))),Z.rD 1 [0,1,3,3] (⟨(⟨(((Ad s)).idx).names,(((Ad s)).idx).AY⟩:Idx),((Ad s)).parts,((Ad s)).mem⟩:Sto) [(aq,ar),(ax,ay),(some ⟨aI,0,none⟩,aJ),(some ⟨az,0,none⟩,aA)] (by rw [K0 p0 ‹_› ‹_›])⟩,Z.xt⟩
 have aT:=Bu ao
 refine .r 1<|.d<|.cf<|.sk<|.s<|T.GS 20 [aK,aH,aG] Z fun _ w Z=>.r [0]<|GA.Lb 1 0 Z<|.r [2,3]<|GA.Lb (q:=2) 4 4 Z<|.r [5]<|gx (h:=(by have q2:=Bu ‹_›; have q3:(Ad s).parts.length=s.parts.length:=rfl; omega)) s.parts (at_.toNat) fun aa aj=>?_
 have aE:=AV aj
 refine GA.Jx (hz:=(by have q2:=Bu ‹_›; omega)) 6 5 at_ aj Z<|Z.el 5 aj fun aW aX aY aZ Z=>GA.Lg 7 0 0 Z<|.r [8]<|GA.Lb (q:=2) 9 4 Z<|.r [10]<|GA.int (i:=11) (at_+1) AA (by have:=p0.np; omega)<|gx (h:=(by have q2:=Bu ‹_›; have q3:(Ad s).parts.length=s.parts.length:=rfl; omega)) s.parts ((at_+1).toNat) fun ab ak=>?_
 have aF:=AV ak
 refine GA.Jx (hz:=(by have q2:=Bu ‹_›; omega)) 12 8 (at_+1) ak Z<|Z.el 8 ak fun ba bg bh bi Z=>GA.Lg 13 0 0 Z<|.go 14<|GE.DT (us:=[.bool ((BS aa ab).2)]) 6 0 (fun w Z=>Fe aa ab (Z.a 4) (Z.a 5) (Z.a 1) (Z.a 2) (by exact (p0.part _ ‹_›).sz) (by exact (p0.part _ ‹_›).sz)) Z fun ae af ag ah w Z=>.r [15,16,17]<|GA.Kr (k:=1) (hz:=(by have q2:=Bu ‹_›; omega)) (hn:=(by have q2:=Bu ‹_›; have q3:(Ad s).parts.length=s.parts.length:=rfl; omega)) 18 1 ((((Ad s)).parts).length) (at_.toNat) at_ Z<|.go 19<|GE.Sr (hlt:=(by have q2:=Bu ‹_›; have q1:=p0.np; have q3:(Ad s).parts.length=s.parts.length:=rfl; omega)) 1 (at_.toNat) (((Ad s)).parts) ((BS aa ab).1) ac (⟨Shp.cells ((BS aa ab).1) ([(ae,af),(ag,ah)]:List (Option Addr × Nat)),AA⟩:Hd 1) [0,3,4] Z fun w Z=>?_
 have Z:=Z.eS 0 0 [4,2,2] (at_.toNat) (((Ad s)).parts) ac (⟨Shp.cells ((BS aa ab).1) ([(ae,af),(ag,ah)]:List (Option Addr × Nat)),AA⟩:Hd 1) ((BS aa ab).1) ([(ae,af),(ag,ah)]:List (Option Addr × Nat))
 refine GA.Do Z fun w Z=>.d<|.s<|.g<|RG.N0 (Hd 1) 0 Z fun bj w Z=>?_
 have Z:=Z.o2r 0 0 Prt 1
 refine .r 1<|RG.Lb 1 Z<|.r 1<|RG.int (at_+1) AA (by have:=p0.np; omega)<|.r 1<|RG.int (at_+2) AA (by have:=p0.np; omega) ?_
 rw [show (((Ad s)).parts).length=((((Ad s)).parts).set (at_.toNat) ((BS aa ab).1)).length from by simp]
 refine RG.cl (J1 (i:=(at_.toNat+1)) (a:=at_+1) (b:=at_+2) (Z.rw 2 ((((Ad s)).parts).set (at_.toNat) ((BS aa ab).1)) (ac.set (at_.toNat) (⟨Shp.cells ((BS aa ab).1) ([(ae,af),(ag,ah)]:List (Option Addr × Nat)),AA⟩:Hd 1)) AA).1 (by have q2:=Bu ‹_›; (try simp only [List.length_set]); omega) (by have q2:=Bu ‹_›; (try simp only [List.length_set]); omega) (by have q2:=Bu ‹_›; have q1:=p0.np; have q3:(Ad s).parts.length=s.parts.length:=rfl; (try simp only [List.length_set]); omega) (by have q2:=Bu ‹_›; have q1:=p0.np; have q3:(Ad s).parts.length=s.parts.length:=rfl; (try simp only [List.length_set]); omega)) ?_
 rintro _ w ⟨⟨rfl,ho_⟩,hx_⟩
 have Z:=Z.dl 2 0 [1] ((((Ad s)).parts).set (at_.toNat) ((BS aa ab).1)) (((((Ad s)).parts).set (at_.toNat) ((BS aa ab).1)).take (at_.toNat+1)++((((Ad s)).parts).set (at_.toNat) ((BS aa ab).1)).drop ((at_.toNat+1)+1)) (ac.set (at_.toNat) (⟨Shp.cells ((BS aa ab).1) ([(ae,af),(ag,ah)]:List (Option Addr × Nat)),AA⟩:Hd 1)) ((ac.set (at_.toNat) (⟨Shp.cells ((BS aa ab).1) ([(ae,af),(ag,ah)]:List (Option Addr × Nat)),AA⟩:Hd 1)).take (at_.toNat+1)++(ac.set (at_.toNat) (⟨Shp.cells ((BS aa ab).1) ([(ae,af),(ag,ah)]:List (Option Addr × Nat)),AA⟩:Hd 1)).drop ((at_.toNat+1)+1)) (NO ho_) rfl hx_ (fun _ h _=>h.del (at_.toNat+1))
 refine RG.Aw (hsz:=by exact (by have q1:=p0.np; have q3:(Ad s).parts.length=s.parts.length:=rfl; (try simp only [List.length_append,List.length_take,List.length_drop,List.length_set]); omega)) 0 2 (((((Ad s)).parts).set (at_.toNat) ((BS aa ab).1)).take (at_.toNat+1)++((((Ad s)).parts).set (at_.toNat) ((BS aa ab).1)).drop ((at_.toNat+1)+1)) ((ac.set (at_.toNat) (⟨Shp.cells ((BS aa ab).1) ([(ae,af),(ag,ah)]:List (Option Addr × Nat)),AA⟩:Hd 1)).take (at_.toNat+1)++(ac.set (at_.toNat) (⟨Shp.cells ((BS aa ab).1) ([(ae,af),(ag,ah)]:List (Option Addr × Nat)),AA⟩:Hd 1)).drop ((at_.toNat+1)+1)) Z fun aL aM w Z=>.r 1<|RG.Ss 1 Z fun w Z=>.d<|.s<|.g<|RG.Ln 1 Z<|RG.Ss 3 Z fun w Z=>.r 1<|.d ?_
 have Z:=(Z.eL 0 0 0 [0] (((((Ad s)).parts).set (at_.toNat) ((BS aa ab).1)).take (at_.toNat+1)++((((Ad s)).parts).set (at_.toNat) ((BS aa ab).1)).drop ((at_.toNat+1)+1)) ((ac.set (at_.toNat) (⟨Shp.cells ((BS aa ab).1) ([(ae,af),(ag,ah)]:List (Option Addr × Nat)),AA⟩:Hd 1)).take (at_.toNat+1)++(ac.set (at_.toNat) (⟨Shp.cells ((BS aa ab).1) ([(ae,af),(ag,ah)]:List (Option Addr × Nat)),AA⟩:Hd 1)).drop ((at_.toNat+1)+1))).fL 1 1 0 (((Ad s)).mem)
 exact T.r2 func64 results64 (.B 1 Z) (.t (.bool true)) ⟨⟨_,(Ch rfl (AG (by exact (congrArg Prod.snd (OM p0 ‹_› ‹_› ‹_› ‹_›)).symm))),Z.rD 1 [0,1,4,4] (⟨(⟨(((Ad s)).idx).names,(((Ad s)).idx).AY⟩:Idx),(((((Ad s)).parts).set (at_.toNat) ((BS aa ab).1)).take (at_.toNat+1)++((((Ad s)).parts).set (at_.toNat) ((BS aa ab).1)).drop ((at_.toNat+1)+1)),((Ad s)).mem⟩:Sto) [(aq,ar),(ax,ay),(some ⟨aL,0,none⟩,aM),(some ⟨az,0,none⟩,aA)] (by exact (congrArg Prod.fst (OM p0 ‹_› ‹_› ‹_› ‹_›)).symm)⟩,Z.xt⟩
theorem J2 (d:Dsk) (h1:RepS w F a1 n1 c1 d.files) (h2:RepS w F a2 n2 c2 d.list) (h3:RepS w F a3 n3 c3 d.names) (p0:DD d):Calls Tryz.prog 133 [.agg #[.slice a1 n1 c1,.slice a2 n2 c2,.slice a3 n3 c3,.int .i64 d.next]].toArray w (Ag fun rv w'=>VD w.heap.size w' (Dt d:Dsk) rv∧Ext w w'):=by
 cases h1.len
 cases h2.len
 cases h3.len
 refine goT func133 ?_
 have Z:=(((St.i0 F w).p h1).p h2).p h3
 have am:=h1.max
 have Z:=Z.s0 0
 refine .s<|.g<|RG.Np Z fun ax w Z=>RG.Np Z fun ay w Z=>.d<|.s<|.s<|.g<|RG.Ln 1 Z<|RG.C0 (Cv d (Z.a 3) (Z.a 2) (Z.a 1) p0) Z fun w Z=>?_
 cases ar:(Ax d)
 ·refine .r 1<|.d<|.ct<|.s<|.g<|.r 1<|RG.Ss 0 Z fun w Z=>.d ?_
  have Z:=((Z.sZ Fil 0 0).sZ Int 1 0).sZ (List Tag) 1 0
  exact T.Rb 0 func133 results133 Z ⟨Z.rD 1 [0,1,2] (⟨([]:List Fil),([]:List Int),([]:List (List Tag)),0⟩:Dsk) [(none,0),(none,0),(none,0)] (by exact Uc ‹_›),Z.xt⟩
 refine .r 1<|.d<|.cf<|.sk<|.s<|.g<|RG.Ln 1 Z<|RG.cl (Fj d (Z.a 3) (Z.a 2) (Z.a 1) (by exact WQ p0) (by exact WR p0) (by exact WS p0) (by exact WT p0) (by exact WU p0)) ?_
 rintro _ w ⟨⟨az,aA,aa,af,ag,ah,ai,rfl,ac⟩,ae⟩
 have Z:=Z.vX 0 ac ae
 refine RG.Np Z fun aB w Z=>RG.Ss 0 Z fun w Z=>.d<|.s<|.g<|.r 1<|RG.Lb 0 Z<|.r 1 ?_
 obtain ⟨D_,he_,hr_⟩:=Z.els 1 0 [0] d.files aa
 refine RG.cl (K5 d (Z.rw 1 d.files aa AA).1 he_ hr_ (Z.bc 3) (Z.rnb 1 6 d.files d.files aa) (Z.rnb 1 5 d.list d.files aa) (Z.rnb 1 4 d.names d.files aa) (Nb.mk (Z.nq 3 1 d.files aa)) (by have:=p0.nf; have:=List.length_filter_le (fun f:Fil=>d.list.contains f.num) d.files; omega)) ?_
 rintro _ w ⟨⟨ab,rfl,ho_,hE_⟩,hx_⟩
 have Z:=Z.dl 1 0 [0] d.files (d.files.filter (fun f=>d.list.contains f.num)) aa ab (NO ho_) rfl hx_ (fun D_ h _=>hE_ _ D_ h)
 refine .r 1<|RG.Ss 0 Z fun w Z=>.d<|.s<|.g<|RG.N0 (Hd 2) 0 Z fun aC w Z=>?_
 have Z:=Z.o2r 0 0 Fil 2
 refine .r 1<|RG.Lb 1 Z<|RG.Aw (hsz:=by exact (by have:=p0.nf; have:=List.length_filter_le (fun f:Fil=>d.list.contains f.num) d.files; omega)) 0 2 (d.files.filter (fun f=>d.list.contains f.num)) ab Z fun aj ak w Z=>.r 1<|RG.Ss 1 Z fun w Z=>.d<|.s<|.g<|RG.Ln 1 Z<|RG.Ss 2 Z fun w Z=>.d ?_
 have Z:=Z.eL 0 0 0 [1] (d.files.filter (fun f=>d.list.contains f.num)) ab
 exact T.Rb 1 func133 results133 Z ⟨Z.rD 1 [3,3,2] (⟨(d.files.filter (fun f=>d.list.contains f.num)),d.list,d.names,d.next⟩:Dsk) [(some ⟨aj,0,none⟩,ak),(af,ag),(ah,ai)] (by (rw [KN ‹_›]; rfl)),Z.xt⟩
end Go.Proofs.YtcginoabkicdiaaGreat
namespace Go.Proofs.YtcginoabkicdiaaGreat
section
variable {κ:Cx} {ρ:Option Rg} {Φ:List Ob} {Ψ:List Fz} {Θ:List (Nat × Nat × List Value)} {w w' w0:World} {α:Type} [Rep α] [Shp α] [Dp α] [Lf α] {x y:α}
def BD (F:Nat→Prop) (s b t:Nat) (w:World) (y:α):Prop :=
 ∃ l:List (Option Addr × Nat),l.length=Shp.k α∧Box w b t (Shp.cells y l)∧BJ w (nin (fo F s) [b]) (Lf.its y l)
theorem St.i3 (F:Nat→Prop){b t:Nat}{cs:List Value}{its:List It}(hb:Box w b t cs) (hi:BJ w (nin F [b]) its):St ⟨F,w,[b]⟩ none [.box b t cs] (⟨1,none,.sep its⟩ :: (tg 1 none (frI its)++[])) [] w:=by
 have h1:BJ w (nin (Cx.g ⟨F,w,[b]⟩ 1) (bl [Ob.box b t cs])) its:=CM hi fun x _ hx=>⟨.inl hx.1,hx.2⟩
 have Z1:St ⟨F,w,[b]⟩ none [.box b t cs] (tg 1 none (frI its)++[]) [] w:=(St.i2 F hb).add fun f hf=>by
  simp only [tg,List.mem_map] at hf
  obtain ⟨q,hq,rfl⟩:=hf
  exact Fr.fr (NA h1 q hq) (fun b _ hb=>⟨hb,rfl⟩) (Nat.le_refl _)
 exact Z1.sA 1 h1
theorem St.p3 {β:Type}[Rep β] {xs:List β}{F G:Nat→Prop}{b:Nat}{o:Ob}{a:Option Addr}{c:Nat}(Z:St ⟨F,w,[b]⟩ none [o] Ψ [] w) (h:RepS w (nin G [b]) a xs.length c xs) (e:o.b=b:=by kernel_rfl):St ⟨F,w,[b]⟩ none [o] (⟨2,none,.rep a c xs⟩ :: Ψ) [] w :=
 Z.add (Ψ':=[⟨2,none,.rep a c xs⟩]) fun f hf=>by
  cases List.mem_singleton.1 hf
  exact RepS.Bd h fun k _ hk=>⟨trivial,by show k∉[o.b]; rw [e]; exact hk.2⟩
theorem St.rBD {F:Nat→Prop}{b t:Nat}(Z:St ⟨F,w0,[b]⟩ ρ Φ Ψ Θ w) (i p:Nat) (js:List Nat) (x:α) (q:List (Option Addr × Nat)) (h:x=y) (hi:Φ[i]? = some (.box b t (Shp.cells x q)):=by kernel_rfl) (hp:isS Ψ p 1=true:=by kernel_rfl) (hm:(mvs (seI Ψ p) js).take (Lf.its x q).length=Lf.its x q:=by kernel_rfl)
 (hl:q.length=Shp.k α:=by kernel_rfl):BD F w0.heap.size b t w y:=by
 subst h
 have hb:Box w b t (Shp.cells x q):=Z.ob _ (AV hi)
 exact ⟨q,hl,hb,CM (Ez (E4 (Z.sp p 1 hp) hm)) fun c _ hc=>⟨hc.1,fun hm=>hc.2 (by cases List.mem_singleton.1 hm; exact Cc hi)⟩⟩
omit [Rep α] [Shp α] [Dp α] [Lf α] in
theorem St.ib (Z:St κ ρ Φ Ψ Θ w) (i p g:Nat) (js:List Nat) (l:List It) (hi:Φ[i]? = some (.box (obB Φ i) (bxT Φ i) (bxC Φ i)):=by kernel_rfl) (hp:isS Ψ p g=true:=by kernel_rfl) (hm:(mvs (seI Ψ p) js).take l.length=l:=by kernel_rfl):BJ w (nin (nin (κ.g g) (bl Φ)) [obB Φ i]) l :=
 CM (Ez (E4 (Z.sp p g hp) hm)) fun c _ hc=>⟨hc,fun hm=>hc.2 (by cases List.mem_singleton.1 hm; exact Cc hi)⟩
theorem St.bB (Z:St κ ρ Φ Ψ Θ w) (i g:Nat){t:Nat}(h:BD (nin (κ.g g) (bl Φ)) w.heap.size (obB Φ i) t w' y) (hx:Chg (one (obB Φ i)) w w'){Q:Prop}
 (H:FF (Shp.k α) fun l=>St κ ρ (Φ.set i (.box (obB Φ i) t (Shp.cells y l))) (⟨g,none,.sep (Lf.its y l)⟩ :: (tg g none (Shp.facts y l)++Ψ)) [] w'→Q) (hi:Φ[i]? = some (.box (obB Φ i) (bxT Φ i) (bxC Φ i)):=by kernel_rfl):Q:=by
 obtain ⟨l,hl,hb,hit⟩:=h
 refine Fu _ H hl ?_
 have Z1:St κ ρ (Φ.set i (.box (obB Φ i) t (Shp.cells y l))) Ψ [] w':=Z.rx i hx hb hi
 have hbl:bl (Φ.set i (.box (obB Φ i) t (Shp.cells y l)))=bl Φ:=Mq hi rfl
 have hX:∀ b,nin (fo (nin (κ.g g) (bl Φ)) w.heap.size) [obB Φ i] b→nin (κ.g g) (bl (Φ.set i (.box (obB Φ i) t (Shp.cells y l)))) b:=fun b hb=>by
  rw [hbl]
  rcases hb.1 with h | h
  ·exact h
  ·exact ⟨Cx.nw (Nat.le_trans Z.ch.size h),fun hm=>Nat.lt_irrefl _ (Nat.lt_of_lt_of_le (Z.lt b hm) h)⟩
 have h1:=CM hit fun b _ hb=>hX b hb
 have Z2:St κ ρ (Φ.set i (.box (obB Φ i) t (Shp.cells y l))) (tg g none (Shp.facts y l)++Ψ) [] w':=Z1.add fun f hf=>by
  simp only [tg,List.mem_map] at hf
  obtain ⟨q,hq,rfl⟩:=hf
  exact Fr.fr (Lf.facts l h1 q hq) (fun b _ hb=>⟨hb,rfl⟩) (Nat.le_refl _)
 exact Z2.sA g h1
end
theorem X6 {s r t c:Nat}{w:World}{hs:List (Hd 2)}{a1 a2:Option Addr}{c1 c2:Nat}{d:Dsk}{rv:Value}(hv:rv=.agg #[.slice (some ⟨r,0,none⟩) d.files.length c,.slice a1 d.list.length c1,.slice a2 d.names.length c2,.int .i64 d.next])
 (h:VX s w [.raw 0 r t c d.files hs] [.e d.files hs,.s a1 c1 d.list,.s a2 c2 d.names]) :
 Own w r t (nin (ge s) [r]) d.files.length c d.files∧s≤r∧RepS w (nin (ge s) [r]) a1 d.list.length c1 d.list∧RepS w (nin (ge s) [r]) a2 d.names.length c2 d.names∧VD s w d rv:=by
 obtain ⟨_,ho,hr⟩:(0=0∧Own w r t (nin (ge s) [r]) d.files.length c hs∧s≤r):=h.ob _ AI
 obtain ⟨D,D',e1,e2,e3,e4⟩:=h.it
 have hnr:¬ D r:=fun hD=>(e3 _ hD).1.2 AI
 have hD:DpS w (fun b=>D b∨b=r) (some ⟨r,0,none⟩) d.files.length c d.files:=ElS.T6 e1 ho hnr rfl
 refine ⟨⟨rfl,ho.le,ho.cap,ho.row,fun i x hx=>?_⟩,hr,?_,?_,⟨[(some ⟨r,0,none⟩,c),(a1,c1),(a2,c2)],rfl,hv,⟨fun b=>D b∨b=r,D',hD,e2,fun b hb=>?_,fun b hb=>(e4 b hb).1⟩⟩⟩
 ·obtain ⟨hl,E,h1,h2,h3⟩:=e1
  have hi:i< hs.length:=by rw [hl]; exact (List.getElem?_eq_some_iff.1 hx).1
  obtain ⟨cs,g1,g2⟩:=ho.elem i hs[i] (AU hi)
  have e:cs=hs[i].cs:=g1
  subst e
  exact ⟨_,Rep.frame (Dp.rp (h3 i x _ hx (AU hi))) (fun b _ hb=>⟨⟨(e3 b (h2 i b hb)).1,fun e=>hnr (e▸h2 i b hb)⟩,rfl⟩),g2⟩
 ·exact (JA (D8 e2 me0)).Bd fun b _ hb=>e4 b hb
 ·exact (JA (D8 e2 me1)).Bd fun b _ hb=>e4 b hb
 ·rcases hb with hb | rfl
  ·exact ⟨(e3 b hb).1.1,(e3 b hb).2⟩
  ·exact ⟨hr,fun hD'=>(e4 _ hD').2 AI⟩
section
variable {α:Type} [Rep α] [Shp α] [Dp α] [Lf α] {w w':World} {y:α} {v:Value}
theorem VD.low {s s':Nat}(h:VD s w y v) (hs:s'≤s):VD s' w y v:=let ⟨l,a,b,c⟩:=h; ⟨l,a,b,CM c fun x _ hx=>Nat.le_trans hs hx⟩
theorem VD.chg {s b:Nat}(h:VD s w y v) (hx:Chg (one b) w w') (hb:b< s):VD s w' y v:=let ⟨l,a,e,c⟩:=h; ⟨l,a,e,Cb c fun x hl hX=>⟨hX,hx.block x hl (fun e=>by have e':x=b:=e; have:s≤x:=hX; omega)⟩⟩
theorem VD.eqx {s:Nat}{z:α}(h:VD s w y v) (e:y=z):VD s w z v:=e▸h
end
theorem PZ (s:Nat) (w:World):VD s w (⟨[],[],[],0⟩:Dsk) (.agg #[.slice none 0 0,.slice none 0 0,.slice none 0 0,.int .i64 0]) :=
 ⟨[(none,0),(none,0),(none,0)],rfl,rfl,itN (itN (itN trivial))⟩
end Go.Proofs.YtcginoabkicdiaaGreat
namespace Go.Proofs.YtcginoabkicdiaaGreat
set_option maxRecDepth 100000
set_option maxHeartbeats 4000000
variable {w:World} {F:Nat→Prop} {a1 a2 a3 a4:Option Addr} {n1 c1 n2 c2 n3 c3 n4 c4:Nat}
theorem Fk (d:Dsk) (h1:RepS w F a1 n1 c1 d.files) (h2:RepS w F a2 n2 c2 d.list) (h3:RepS w F a3 n3 c3 d.names) (p0:d.files.length≤1000) (p1:∀ f∈d.files,CK f.part) (p2:d.list.length≤1000) (p3:d.names.length≤1000) (p4:∀ n∈d.names,n.length≤1000):Calls Tryz.prog 44 [.agg #[.slice a1 n1 c1,.slice a2 n2 c2,.slice a3 n3 c3,.int .i64 d.next]].toArray w (Ag fun rv w'=>((∃ (r0 n0 c0:Nat) (a1:Option Addr) (n1 c1:Nat) (a2:Option Addr) (n2 c2:Nat),rv=.agg #[.slice (some ⟨r0,0,none⟩) n0 c0,.slice a1 n1 c1,.slice a2 n2 c2,.int .i64 (d.next)]∧Own w' r0 148 (nin (ge w.heap.size) [r0]) n0 c0 (d.files)∧w.heap.size≤r0∧RepS w' (nin (ge w.heap.size) [r0]) a1 n1 c1 (d.list)∧RepS w' (nin (ge w.heap.size) [r0]) a2 n2 c2 (d.names))∧VD w.heap.size w' (d:Dsk) rv)∧Ext w w'):=by
 obtain rfl:=h1.len
 obtain rfl:=h2.len
 obtain rfl:=h3.len
 refine (Fj d h1 h2 h3 p0 p1 p2 p3 p4).mono ?_
 rintro e w' ⟨v,rfl,⟨r,c,hs,a1,c1,a2,c2,hv,hV⟩,hx⟩
 obtain ⟨g1,g2,g3,g4,g5⟩:=X6 hv hV
 exact ⟨v,rfl,⟨⟨r,_,c,a1,_,c1,a2,_,c2,hv,g1,g2,g3,g4⟩,g5⟩,hx⟩
set_option maxRecDepth 100000 in
theorem JQ (d:Dsk) (h1:RepS w F a1 n1 c1 d.files) (h2:RepS w F a2 n2 c2 d.list) (h3:RepS w F a3 n3 c3 d.names) (p0:d.files.length≤1000) (p1:∀ f∈d.files,CK f.part) (p2:d.list.length≤1000) (p3:d.names.length≤1000) (p4:∀ n∈d.names,n.length≤1000):Calls Tryz.prog 44 [.agg #[.slice a1 n1 c1,.slice a2 n2 c2,.slice a3 n3 c3,.int .i64 d.next]].toArray w (Ag fun rv w'=>(∃ (r0 n0 c0:Nat) (a1:Option Addr) (n1 c1:Nat) (a2:Option Addr) (n2 c2:Nat),rv=.agg #[.slice (some ⟨r0,0,none⟩) n0 c0,.slice a1 n1 c1,.slice a2 n2 c2,.int .i64 (d.next)]∧Own w' r0 148 (nin (ge w.heap.size) [r0]) n0 c0 (d.files)∧w.heap.size≤r0∧RepS w' (nin (ge w.heap.size) [r0]) a1 n1 c1 (d.list)∧RepS w' (nin (ge w.heap.size) [r0]) a2 n2 c2 (d.names))∧Ext w w'):=by
 refine (Fk d h1 h2 h3 p0 p1 p2 p3 p4).mono ?_
 rintro e w' ⟨v,rfl,⟨h,_⟩,hx⟩
 exact ⟨v,rfl,h,hx⟩
theorem Hb (d:Dsk) (steps:List Stp) (cut:Int) (h1:RepS w F a1 n1 c1 d.files) (h2:RepS w F a2 n2 c2 d.list) (h3:RepS w F a3 n3 c3 d.names) (h4:RepS w F a4 n4 c4 steps) (p0:DD d) (p1:Ax d=true→StW d steps):Calls Tryz.prog 66 [.agg #[.slice a1 n1 c1,.slice a2 n2 c2,.slice a3 n3 c3,.int .i64 d.next],.slice a4 n4 c4,.int .i64 cut].toArray w (Ag fun rv w'=>VD w.heap.size w' (BI d steps cut:Dsk) rv∧Ext w w'):=by
 refine goT func66 ?_
 obtain ⟨rfl,ek,h1⟩:=h1.tp
 obtain ⟨rfl,en,h2⟩:=h2.tp
 obtain ⟨rfl,eB,h3⟩:=h3.tp
 obtain ⟨rfl,eC,h4⟩:=h4.tp
 refine .s<|.g<|.np 35 [.slice a1 d.files.length c1,.slice a2 d.list.length c2,.slice a3 d.names.length c3,vI d.next] fun ag fe bI bo ab cx=>?_
 replace ⟨h1,h2,h3,h4⟩:=(sn [] bo bI).g4 h1 h2 h3 h4
 have aa:=bo
 clear bo cx bI
 refine .np 35 [AH,AH,AH,vI 0] fun af dA bj bJ ac cy=>?_
 have eD:=Ay bj ab.lt
 have eE:=aa.cn bj
 replace ⟨h1,h2,h3,h4,ab,aa⟩:=(sn [ag] bJ bj).g6 h1 h2 h3 h4 ab aa
 clear bJ cy bj
 refine .d<|.s<|.s<|.g<|.ln ab<|.cl (Cv d h1.ta h2.ta h3.ta (by exact p0) (w:=dA) (F:=all)) ?_
 rintro ff cz ⟨rfl,bK⟩
 replace ⟨h1,h2,h3,h4,ab,ac,aa⟩:=(se [af,ag] bK).g7 h1 h2 h3 h4 ab ac aa
 clear bK
 cases eF:(Ax d)
 ·refine .r 5<|.d<|.ct<|.s<|.g<|.r 1<|.sc [AH,AH,AH,vI 0] ac fun fg bL cA cB=>?_
  replace ⟨h1,h2,h3,h4,ab,aa⟩:=(so [af,ag] bL).g6 h1 h2 h3 h4 ab aa
  clear bL cB
  exact .d<|.rb func66 results66 cA ⟨(PZ _ _).eqx (by exact Sz (.inl ‹_›)),aa⟩
 refine .r 3<|.bp (cut< 0) (fun cC=>?_) (fun cC=>?_)
 ·refine .r 1<|.d<|.ct<|.s<|.g<|.r 1<|.sc [AH,AH,AH,vI 0] ac fun fi bM cD cE=>?_
  replace ⟨h1,h2,h3,h4,ab,aa⟩:=(so [af,ag] bM).g6 h1 h2 h3 h4 ab aa
  clear bM cE
  exact .d<|.rb func66 results66 cD ⟨(PZ _ _).eqx (by exact Sz (.inr (.inl ‹_›))),aa⟩
 refine .r 1<|.d<|.cf<|.sk<|.s<|.g<|.ln ab<|.cl (JQ d h1.ta h2.ta h3.ta (by exact WQ p0) (by exact WR p0) (by exact WS p0) (by exact WT p0) (by exact WU p0) (w:=cz) (F:=all)) ?_
 rintro fj bR ⟨⟨aD,cF,cG,cH,fm,cI,cJ,fp,cK,rfl,az,aX,aI,aJ⟩,bN⟩
 have bk:=al2 ac.lt ab.lt
 have bq:Gb w.heap.size cz.heap.size:=aa.size
 have cL:=Cj aX ab.lt
 have cM:=Cj aX ac.lt
 have cN:Cov nil w aD:=VV aX aa.size
 replace ⟨h4,ab,ac,aa⟩:=(sz [af,ag] bN aX).g4 h4 ab ac aa
 clear bN aX
 replace az:Own bR aD 148 (nin (ge w.heap.size) [aD,af,ag]) _ _ _:=Own.E9 (s0:=w.heap.size) (M:=[af,ag]) az bk bq
 replace az:=az.base (G':=fo F w.heap.size) (fun _ _ h=>.inr h)
 have eH:=az.len
 replace aI:RepS bR (nin (ge w.heap.size) [aD,af,ag]) _ _ _ _:=RepS.E9 (s0:=w.heap.size) (M:=[af,ag]) aI bk bq
 replace aI:=aI.base (G':=fo F w.heap.size) (fun _ _ h=>.inr h)
 have eI:=aI.max
 replace aJ:RepS bR (nin (ge w.heap.size) [aD,af,ag]) _ _ _ _:=RepS.E9 (s0:=w.heap.size) (M:=[af,ag]) aJ bk bq
 replace aJ:=aJ.base (G':=fo F w.heap.size) (fun _ _ h=>.inr h)
 have eJ:=aJ.max
 clear bk
 have cO:=aI.len
 subst cO
 have cP:=aJ.len
 subst cP
 refine .np 35 [AH,AH,AH,vI 0] fun ao fq aQ bO cQ cR=>?_
 have eK:=Ay aQ ab.lt
 have eM:=Ay aQ ac.lt
 have cS:=Ay aQ az.lt
 have eO:=aa.cn aQ
 replace ⟨h4,ab,ac,az,aI,aJ,aa⟩:=(sn [aD,af,ag] bO aQ).g7 h4 ab ac az aI aJ aa
 clear bO cR aQ
 refine .sc [vS aD cF cG,.slice cH d.list.length cI,.slice cJ d.names.length cK,vI d.next] cQ fun br bP bQ bS=>?_
 replace ⟨h4,ab,ac,az,aI,aJ,aa⟩:=(so [ao,aD,af,ag] bP).g7 h4 ab ac az aI aJ aa
 clear bP bS
 refine .d<|.s<|.s<|.g<|.r 5<|RG.sub (t:=104) (lo:=none) (hi:=some (vI (if (steps.length:Int)< cut then (steps.length:Int) else cut))) h4 0 (((if (steps.length:Int)< cut then (steps.length:Int) else cut)).toNat) AA AA (.inl ⟨rfl,rfl⟩) (.inr ⟨_,_,rfl,by omega⟩) (by split <;> omega) (by split <;> omega) fun cT cU aR=>?_
 have dB:=aR.len; have dC:=aR.max
 refine .r 2<|.d<|.b 0<|T.loop (X:=Nat × (List Fil) × Nat × Nat × Nat × (List Int) × (Option Addr) × Nat × Nat × (List (List Tag)) × (Option Addr) × Nat × Nat × Int) (0,(d.files:List Fil),aD,cF,cG,(d.list:List Int),cH,d.list.length,cI,(d.names:List (List Tag)),cJ,d.names.length,cK,d.next) (fun (k,ae,r_out_0,n_out_0,c_out_0,ah,a_out_1,n_out_1,c_out_1,ai,a_out_2,n_out_2,c_out_2,aj)=>[(6,.pointer (some ⟨af,0,none⟩)),(7,.pointer (some ⟨ao,0,none⟩)),(25,.slice cT (((if (steps.length:Int)< cut then (steps.length:Int) else cut)).toNat - 0) cU),(26,vI (((((if (steps.length:Int)< cut then (steps.length:Int) else cut)).toNat - 0)):Int)),(27,vI (k:Int))]) (fun (k,ae,r_out_0,n_out_0,c_out_0,ah,a_out_1,n_out_1,c_out_1,ai,a_out_2,n_out_2,c_out_2,aj) aH=>Chg (ins [aD,ao]) br aH∧Own aH r_out_0 148 (nin (fo F w.heap.size) [ao,r_out_0,af,ag]) n_out_0 c_out_0 ae∧OrB r_out_0 aD br.heap.size∧RepS aH (nin (fo F w.heap.size) [ao,r_out_0,af,ag]) a_out_1 n_out_1 c_out_1 ah∧RepS aH (nin (fo F w.heap.size) [ao,r_out_0,af,ag]) a_out_2 n_out_2 c_out_2 ai∧Box aH ao 35 [vS r_out_0 n_out_0 c_out_0,.slice a_out_1 n_out_1 c_out_1,.slice a_out_2 n_out_2 c_out_2,vI aj]∧(k≤((steps.take (if (steps.length:Int)< cut then (steps.length:Int) else cut).toNat).drop 0).length)∧(ae.length≤d.files.length+k)∧((List.drop k ((steps.take (if (steps.length:Int)< cut then (steps.length:Int) else cut).toNat).drop 0)).foldl doD (⟨ae,ah,ai,aj⟩:Dsk)=toD d steps cut)) (fun (k,ae,r_out_0,n_out_0,c_out_0,ah,a_out_1,n_out_1,c_out_1,ai,a_out_2,n_out_2,c_out_2,aj)=>((steps.take (if (steps.length:Int)< cut then (steps.length:Int) else cut).toNat).drop 0).length - k) AA ⟨AA,AA,AA,AA,AA,trivial⟩ ⟨Chg.refl _ _,az,Nd,aI,aJ,bQ,AB,AB,(by exact WO ‹_›)⟩ ?_
 rintro ⟨k,ae,r_out_0,n_out_0,c_out_0,ah,a_out_1,n_out_1,c_out_1,ai,a_out_2,n_out_2,c_out_2,aj⟩ eP aH ⟨ax,aq,aE,ak,am,ar,dD,dE,dF⟩ bn
 have dG:=Hk aE cL ab.lt
 have dH:=Hk aE cM ac.lt
 have bT:=Hk aE (Nb.symm cS) bQ.lt
 have dI:=Pn aE cN aa.size
 have bU:Cov (ins [aD,ao]) br aD:=⟨.inl AI⟩
 have dJ:Cov (ins [aD,ao]) br ao:=⟨.inl AJ⟩
 have dK:=Pn aE bU (Nat.le_refl _)
 have bu:Mv [ao,aD,af,ag] [ao,r_out_0,af,ag] br aH:=Mv.inl ax (all_cons AJ (all_cons AI all_nil)) (all_cons (.inl AI) (all_cons (Po aE AJ) (all_cons (.inl AK) (all_cons (.inl AL) all_nil))))
 replace ⟨ab,ac,aR,aa⟩:=(sp bu ax).g4 ab ac aR aa
 clear bu
 have dL:=aq.len; have dM:=aq.max
 refine .s<|.g<|.bp ((k:Int)< (((((if (steps.length:Int)< cut then (steps.length:Int) else cut)).toNat - 0)):Int)) (fun bV=>?_) (fun bV=>?_)
 ·refine .d<|.s<|.ct<|.sk<|.s<|.b 1<|.s<|.g ?_
  have bW:k< (((if (steps.length:Int)< cut then (steps.length:Int) else cut)).toNat - 0):=AB
  refine .ix k 6 aR bW ?_
  obtain ⟨ay,aZ⟩:∃ y,((steps.take (((if (steps.length:Int)< cut then (steps.length:Int) else cut)).toNat)).drop 0)[k]? = some y:=⟨_,AU AB⟩
  have dR:=AZ aZ; have cV:=AV aZ
  obtain ⟨_,⟨cW,eQ,cX,cY,eR,cZ,c7,eT,c8,da,eU,db,rfl,aK,aL,aM,aN⟩,bX⟩:=aR.elem k ay aZ
  have bY:=aK.len
  subst bY
  have bZ:=aL.len
  subst bZ
  have b6:=aM.len
  subst b6
  have b7:=aN.len
  subst b7
  refine .lg 0 bX<|.np 163 [vI 0,vI 0,AH,AH,AH,AH] fun aA eV aB bv b8 b9=>?_
  have dW:=Ay aB ab.lt
  have dX:=Ay aB ac.lt
  have dY:=Ay aB aq.lt
  have dZ:=Ay aB ar.lt
  have d0:=aa.cn aB
  have d3:=ax.cn aB
  replace ⟨ab,ac,aq,ar,ak,am,aK,aL,aM,aN,aa,ax⟩:=(sn [ao,r_out_0,af,ag] bv aB).g12 ab ac aq ar ak am aK aL aM aN aa ax
  clear bv b9 aB
  refine .sc [vI ay.kind,vI ay.num,.slice cW ay.part.ids.length cX,.slice cY ay.part.blocks.length cZ,.slice c7 ay.list.length c8,.slice da ay.names.length db] b8 fun bw bz bA cd=>?_
  replace ⟨ab,ac,aq,ar,ak,am,aK,aL,aM,aN,aa,ax⟩:=(so [aA,ao,r_out_0,af,ag] bz).g12 ab ac aq ar ak am aK aL aM aN aa ax
  clear bz cd
  refine .d<|.g<|.ln bA<|.cl (JN (⟨ae,ah,ai,aj⟩:Dsk) ay (Own.toM aq (all_cons AJ (all_cons AK all_nil))) (RepS.toM ak (all_cons AJ (all_cons AK all_nil))) (RepS.toM am (all_cons AJ (all_cons AK all_nil))) ar bT (RepS.toM aK (all_cons AJ (all_cons AK all_nil))) (RepS.toM aL (all_cons AJ (all_cons AK all_nil))) (RepS.toM aM (all_cons AJ (all_cons AK all_nil))) (RepS.toM aN (all_cons AJ (all_cons AK all_nil))) (by have:=p0.nf; have q2:=(p1 ‹_›).len; have q3:=XU (st:=steps) (c:=cut) ‹_›; show ae.length≤1000; omega) ((p1 ‹_›).sz _ (List.mem_of_mem_take (List.mem_of_mem_drop ‹_›))) ((p1 ‹_›).pt _ (List.mem_of_mem_take (List.mem_of_mem_drop ‹_›))) (w:=bw) (F:=nin (fo F w.heap.size) [aA,ao,r_out_0,af,ag])) ?_
  rintro eW aS ⟨⟨rfl,aC,de,df,dh,eX,dj,dm,eY,dq,ce,aF,bm,d4,aO,aP⟩,ba⟩
  have aV:=al5 bA.lt ar.lt aq.lt ac.lt ab.lt
  have bg:Gb w.heap.size bw.heap.size:=aa.size
  have cg:=TX bm aE ax.size
  have bC:Mv [aA,ao,r_out_0,af,ag] [aA,ao,aC,af,ag] bw aS:=Mv.inl ba (all_cons AJ (all_cons AK all_nil)) (all_cons (.inl AI) (all_cons (.inl AJ) (all_cons (Po bm AK) (all_cons (.inl AL) (all_cons (.inl AM) all_nil)))))
  replace ⟨ab,ac,ak,am,aa,ax⟩:=(sp bC ba).g6 ab ac ak am aa ax
  clear bC ba
  replace aF:Own aS aC 148 (nin (fo F w.heap.size) [aA,ao,aC,af,ag]) _ _ _:=Own.bxM (M2:=[aA,ao,aC,af,ag]) aF aV (fun _ h=>.inr (Nat.le_trans bg h)) (all_cons (.inr AI) (all_cons (.inl AI) (all_cons (.inl AJ) (all_cons (.inr AL) (all_cons (.inr AM) all_nil)))))
  replace aO:RepS aS (nin (fo F w.heap.size) [aA,ao,aC,af,ag]) _ _ _ _:=RepS.bxM (M2:=[aA,ao,aC,af,ag]) aO aV (fun _ h=>.inr (Nat.le_trans bg h)) (all_cons (.inr AI) (all_cons (.inl AI) (all_cons (.inl AJ) (all_cons (.inr AL) (all_cons (.inr AM) all_nil)))))
  replace aP:RepS aS (nin (fo F w.heap.size) [aA,ao,aC,af,ag]) _ _ _ _:=RepS.bxM (M2:=[aA,ao,aC,af,ag]) aP aV (fun _ h=>.inr (Nat.le_trans bg h)) (all_cons (.inr AI) (all_cons (.inl AI) (all_cons (.inl AJ) (all_cons (.inr AL) (all_cons (.inr AM) all_nil)))))
  have ci:=aO.len
  subst ci
  have cj:=aP.len
  subst cj
  clear aV
  refine .d<|.ib 1<|.g<|.it ((k:Int)+1)<|.r 1<|.d ?_
  have ck:Mv [aA,ao,aC,af,ag] [ao,aC,af,ag] aS aS:=Mv.less (all_cons AJ (all_cons AK (all_cons AL (all_cons AM all_nil))))
  replace ⟨aF,ak,am,aO,aP⟩:=(sp ck (Chg.refl nil _)).g5 aF ak am aO aP
  exact bn (k+1,((doD (⟨ae,ah,ai,aj⟩:Dsk) ay)).files,aC,de,df,((doD (⟨ae,ah,ai,aj⟩:Dsk) ay)).list,dh,(((doD (⟨ae,ah,ai,aj⟩:Dsk) ay)).list).length,dj,((doD (⟨ae,ah,ai,aj⟩:Dsk) ay)).names,dm,(((doD (⟨ae,ah,ai,aj⟩:Dsk) ay)).names).length,dq,((doD (⟨ae,ah,ai,aj⟩:Dsk) ay)).next) _ _ ⟨AA,AA,AA,AA,AA,trivial⟩ ⟨ax,aF,cg,aO,aP,ce,AB,(by exact Nat.le_trans (Sy _) (by show ae.length+1≤_; omega)),(by exact UZ ‹_› ‹_›)⟩ (by (simp only []; omega))
 refine .d<|.s<|.cf<|.x 0 rfl<|.s<|.s<|.g<|.ln ar<|.cl (Cv (⟨ae,ah,ai,aj⟩:Dsk) (aq.rep) ak.ta am.ta (by exact JL ‹_› AB (p1 ‹_›)) (w:=aH) (F:=all)) ?_
 rintro eZ bD ⟨rfl,bE⟩
 replace ⟨ab,ac,aq,ar,ak,am,aa⟩:=(se [ao,r_out_0,af,ag] bE).g7 ab ac aq ar ak am aa
 clear bE
 cases d9:(Ax (⟨ae,ah,ai,aj⟩:Dsk))
 ·refine .r 1<|.d<|.ct<|.s<|.g<|.r 1<|.sc [AH,AH,AH,vI 0] ac fun e7 bF cm co=>?_
  replace ⟨ab,aq,ar,ak,am,aa⟩:=(so [ao,r_out_0,af,ag] bF).g6 ab aq ar ak am aa
  clear bF co
  exact .d<|.rb func66 results66 cm ⟨(PZ _ _).eqx (by exact Ua ‹_› AB ‹_›),aa⟩
 refine .r 1<|.d<|.cf<|.sk<|.s<|.g<|.ln ar<|.cl (Fk (⟨ae,ah,ai,aj⟩:Dsk) (aq.rep) ak.ta am.ta (by exact WQ (JL ‹_› AB (p1 ‹_›))) (by exact WR (JL ‹_› AB (p1 ‹_›))) (by exact WS (JL ‹_› AB (p1 ‹_›))) (by exact WT (JL ‹_› AB (p1 ‹_›))) (by exact WU (JL ‹_› AB (p1 ‹_›))) (w:=bD) (F:=all)) ?_
 rintro e8 bG ⟨⟨⟨aY,dt,du,dv,fa,dw,dx,fb,dy,rfl,aG,cp,aT,aU⟩,hVD_⟩,bH⟩
 have kb_:af< bD.heap.size:=ac.lt; have kz_:=aa.size
 have aW:=al4 ar.lt aq.lt ac.lt ab.lt
 have bh:Gb w.heap.size bD.heap.size:=aa.size
 replace ⟨ac,aa⟩:=(se [] bH).g2 ac aa
 clear bH cp
 replace aG:Own bG aY 148 (nin (ge w.heap.size) [aY,ao,r_out_0,af,ag]) _ _ _:=Own.E9 (s0:=w.heap.size) (M:=[ao,r_out_0,af,ag]) aG aW bh
 replace aG:=aG.base (G':=fo F w.heap.size) (fun _ _ h=>.inr h)
 replace aT:RepS bG (nin (ge w.heap.size) [aY,ao,r_out_0,af,ag]) _ _ _ _:=RepS.E9 (s0:=w.heap.size) (M:=[ao,r_out_0,af,ag]) aT aW bh
 replace aT:=aT.base (G':=fo F w.heap.size) (fun _ _ h=>.inr h)
 have eg:=aT.max
 replace aU:RepS bG (nin (ge w.heap.size) [aY,ao,r_out_0,af,ag]) _ _ _ _:=RepS.E9 (s0:=w.heap.size) (M:=[ao,r_out_0,af,ag]) aU aW bh
 replace aU:=aU.base (G':=fo F w.heap.size) (fun _ _ h=>.inr h)
 have ej:=aU.max
 clear aW
 have cq:=aT.len
 subst cq
 have cr:=aU.len
 subst cr
 refine .sc [vS aY dt du,.slice dv ((((⟨ae,ah,ai,aj⟩:Dsk)).list).length) dw,.slice dx ((((⟨ae,ah,ai,aj⟩:Dsk)).names).length) dy,vI (((⟨ae,ah,ai,aj⟩:Dsk)).next)] ac fun fd bi cu cw=>?_
 replace hVD_:=(hVD_.chg bi kb_).low kz_
 replace aa:=(s1 bi).g1 aa
 clear bi cw
 refine .d ?_
 exact .rb func66 results66 cu ⟨hVD_.eqx (by exact Ub ‹_› AB ‹_› ‹_› ‹_›),aa⟩
theorem K6  {F:Nat→Prop}   : Calls Tryz.prog 59 [].toArray w (Ag fun rv w'=>VD w.heap.size w' ((⟨[],[],[],1⟩:Dsk):Dsk) rv∧Ext w w'):=by
 refine goT func59 ?_
 have Z:=St.i0 F w
 have Z:=Z.s0 0
 refine .s<|.g<|RG.Np Z fun ae w Z=>.d<|.s<|.g<|RG.N0 (Hd 2) 0 Z fun aa w Z=>?_
 have Z:=Z.o2r 0 0 Fil 2
 refine RG.N0 Int 0 Z fun ab w Z=>RG.N0 (Hd 0) 0 Z fun ac w Z=>?_
 have Z:=Z.o2r 0 0 (List Tag) 0
 refine .r 1<|RG.Ss 3 Z fun w Z=>.d ?_
 have Z:=((Z.eL 2 0 0 [1] ([]:List Fil) ([]:List (Hd 2))).fL 1 1 0 ([]:List Int)).eL 0 1 0 [2] ([]:List (List Tag)) ([]:List (Hd 0))
 exact T.Rb 0 func59 results59 Z ⟨Z.rD 1 [0,1,2] (⟨([]:List Fil),([]:List Int),([]:List (List Tag)),1⟩:Dsk) [(some ⟨aa,0,none⟩,0),(some ⟨ab,0,none⟩,0),(some ⟨ac,0,none⟩,0)] AF,Z.xt⟩
theorem J3  {F:Nat→Prop}   : Calls Tryz.prog 25 [].toArray w (Ag fun rv w'=>VD w.heap.size w' (GW:Wld) rv∧Ext w w'):=by
 refine goT func25 ?_
 have Z:=St.i0 F w
 have Z:=Z.s0 0
 refine .s<|.g<|RG.Np Z fun aA w Z=>.d<|.s<|.g<|.r 1<|RG.cl (CW (⟨(⟨([]:List (List Tag)),([]:List Pst)⟩:Idx),([]:List Prt),([]:List Smp)⟩:Sto) Z.na Z.na Z.na Z.na WV.new.wd.wi.sto.nm NsD.nil WV.new.sd.sz) ?_
 rintro _ w ⟨⟨ae,af,ag,ah,ai,aj,aa,ak,am,rfl,ab⟩,ac⟩
 have Z:=Z.vX 0 ab ac
 refine RG.DD 0 0 (K6 (F:=all)) Z fun ao aq ar ax ay az w Z=>.r 1<|RG.Ss 2 Z fun w Z=>.d ?_
 have Z:=(Z.eL 0 0 0 [5] (((Ad (⟨(⟨([]:List (List Tag)),([]:List Pst)⟩:Idx),([]:List Prt),([]:List Smp)⟩:Sto))).parts) aa).fL 0 1 0 (((Ad (⟨(⟨([]:List (List Tag)),([]:List Pst)⟩:Idx),([]:List Prt),([]:List Smp)⟩:Sto))).mem)
 exact T.Rb 0 func25 results25 Z ⟨Z.rD 1 [4,4,4,3,4,6,6] (⟨(⟨(⟨(((Ad (⟨(⟨([]:List (List Tag)),([]:List Pst)⟩:Idx),([]:List Prt),([]:List Smp)⟩:Sto))).idx).names,(((Ad (⟨(⟨([]:List (List Tag)),([]:List Pst)⟩:Idx),([]:List Prt),([]:List Smp)⟩:Sto))).idx).AY⟩:Idx),((Ad (⟨(⟨([]:List (List Tag)),([]:List Pst)⟩:Idx),([]:List Prt),([]:List Smp)⟩:Sto))).parts,((Ad (⟨(⟨([]:List (List Tag)),([]:List Pst)⟩:Idx),([]:List Prt),([]:List Smp)⟩:Sto))).mem⟩:Sto),(⟨((⟨[],[],[],1⟩:Dsk)).files,((⟨[],[],[],1⟩:Dsk)).list,((⟨[],[],[],1⟩:Dsk)).names,((⟨[],[],[],1⟩:Dsk)).next⟩:Dsk)⟩:Wld) [(ae,af),(ag,ah),(some ⟨ai,0,none⟩,aj),(some ⟨ak,0,none⟩,am),(ao,aq),(ar,ax),(ay,az)] AF,Z.xt⟩
end Go.Proofs.YtcginoabkicdiaaGreat
namespace Go.Proofs.YtcginoabkicdiaaGreat
set_option maxRecDepth 100000
set_option maxHeartbeats 4000000
variable {w:World} {F:Nat→Prop} {a1:Option Addr} {n1 c1:Nat}
theorem EF (w_:Wld){bx:Nat}{ab0:Option Addr}{cb0:Nat}{ab1:Option Addr}{cb1:Nat}{ab2:Option Addr}{cb2:Nat}{ab3:Option Addr}{cb3:Nat}{ab4:Option Addr}{cb4:Nat}{ab5:Option Addr}{cb5:Nat}{ab6:Option Addr}{cb6:Nat}(hib:BJ w (nin F [bx]) [.s ab0 cb0 w_.store.idx.names,.s ab1 cb1 w_.store.idx.AY,.s ab2 cb2 w_.store.parts,.s ab3 cb3 w_.store.mem,.s ab4 cb4 w_.disk.files,.s ab5 cb5 w_.disk.list,.s ab6 cb6 w_.disk.names]) (hbx:Box w bx 37 [.slice ab0 w_.store.idx.names.length cb0,.slice ab1 w_.store.idx.AY.length cb1,.slice ab2 w_.store.parts.length cb2,.slice ab3 w_.store.mem.length cb3,.slice ab4 w_.disk.files.length cb4,.slice ab5 w_.disk.list.length cb5,.slice ab6 w_.disk.names.length cb6,.int .i64 w_.disk.next]) (p0:DD w_.disk) (p1:Ax w_.disk=true):Calls Tryz.prog 65 [.pointer (some ⟨bx,0,none⟩)].toArray w (Ag fun rv w'=>(rv=.tuple #[]∧BD F w.heap.size bx 37 w' (BV w_:Wld))∧Chg (ins [bx]) w w'):=by
 refine goT func65 ?_
 have Z:=St.i3 F hbx hib
 exact .s<|.g<|.r 4<|RG.Ln 0 Z<|RG.DD 0 1 (J2 w_.disk (Z.a 5) (Z.a 6) (Z.a 7) p0) Z fun aa ab ac ae af ag w Z=>.r 2<|RG.Ss 0 Z fun w Z=>.d<|.g<|.r 4<|RG.Ln 0 Z<|RG.DD 0 1 (Jz (Dt w_.disk) (Z.a 1) (Z.a 2) (Z.a 3) (Uf p0)) Z fun ah ai aj ak am ao aq ar w Z=>.r 2<|RG.Ss 0 Z fun w Z=>.d<|T.GZ func65 results65 ⟨⟨rfl,Z.rBD 0 0 [6,6,6,6,6,6,6] (⟨(⟨(⟨((EP (Dt w_.disk)).idx).names,((EP (Dt w_.disk)).idx).AY⟩:Idx),(EP (Dt w_.disk)).parts,(EP (Dt w_.disk)).mem⟩:Sto),(⟨(Dt w_.disk).files,(Dt w_.disk).list,(Dt w_.disk).names,(Dt w_.disk).next⟩:Dsk)⟩:Wld) [(ah,ai),(aj,ak),(am,ao),(aq,ar),(aa,ab),(ac,ae),(af,ag)] (Eq.symm (by exact WY p0 p1))⟩,Z.ch⟩
theorem J4 (w_:Wld) (e:Evt){bx:Nat}{ab0:Option Addr}{cb0:Nat}{ab1:Option Addr}{cb1:Nat}{ab2:Option Addr}{cb2:Nat}{ab3:Option Addr}{cb3:Nat}{ab4:Option Addr}{cb4:Nat}{ab5:Option Addr}{cb5:Nat}{ab6:Option Addr}{cb6:Nat}(hib:BJ w (nin F [bx]) [.s ab0 cb0 w_.store.idx.names,.s ab1 cb1 w_.store.idx.AY,.s ab2 cb2 w_.store.parts,.s ab3 cb3 w_.store.mem,.s ab4 cb4 w_.disk.files,.s ab5 cb5 w_.disk.list,.s ab6 cb6 w_.disk.names]) (hbx:Box w bx 37 [.slice ab0 w_.store.idx.names.length cb0,.slice ab1 w_.store.idx.AY.length cb1,.slice ab2 w_.store.parts.length cb2,.slice ab3 w_.store.mem.length cb3,.slice ab4 w_.disk.files.length cb4,.slice ab5 w_.disk.list.length cb5,.slice ab6 w_.disk.names.length cb6,.int .i64 w_.disk.next]){G:Nat→Prop}(h1:RepS w (nin G [bx]) a1 n1 c1 e.name) (p0:WV w_) (p1:e.name.length≤1100000):Calls Tryz.prog 26 [.pointer (some ⟨bx,0,none⟩),.agg #[.int .i64 e.kind,.int .i64 e.at_,.int .i64 e.cut,.slice a1 n1 c1,.int .i64 e.row.t,.int .i64 e.row.v]].toArray w (Ag fun rv w'=>(rv=.tuple #[]∧BD F w.heap.size bx 37 w' (doW w_ e:Wld))∧Chg (ins [bx]) w w'):=by
 cases h1.len
 refine goT func26 ?_
 have Z:=(St.i3 F hbx hib).p3 h1
 refine .s<|.g<|RG.Np Z fun ax w Z=>.d<|.s<|.g<|RG.N0 Stp 0 Z fun cD w Z=>.r 1<|.d<|.s<|.g<|.r 3<|RG.Ln 2 Z<|RG.Np Z fun bz w Z=>RG.Ss 0 Z fun w Z=>.d<|.s<|.s<|.g<|.r 1<|RG.Lb 2 Z<|.d<|.b 0<|.s<|.g<|.eq e.kind 1 (fun ay=>?_) (fun ay=>?_)
 ·refine .r 1<|.d<|.ct<|.s<|T.GS 14 [bz,ax,bx] Z fun _ w Z=>.r [0,1,2]<|GA.Ln (q:=2) 3 3 Z<|.r [4]<|GA.Lb (q:=1) 5 2 Z<|.r [6]<|GA.Ln (q:=1) 7 2 Z<|.tw 8 12 ?_ ?_
  ·refine GE.DT (us:=[.bool ((Db w_.store e.name e.row).2)]) 1 1 (fun w Z=>GO w_.store e.name e.row (Z.a 2) (Z.a 3) (Z.a 4) (Z.a 5) (Z.a 0) p0.sd p1) Z fun bA bC bD bE bF bG bH bI w Z=>.r [9,10] ?_
   cases cB:(Db w_.store e.name e.row).2
   ·exact .r [11]<|.go 12<|GE.Np Z fun cE w Z=>.go 13<|GE.Ss 0 [1,3,4] Z fun w Z=>GA.Do Z fun w Z=>.r 1<|.d<|.s<|.g<|.r 1<|.d<|.cf<|.sk<|.ib 0<|.s<|.s<|.g<|.r 8<|.d<|.ct<|T.LL AA func26 results26 ⟨⟨rfl,Z.rBD 4 0 [10,10,10,10,10,10,10] w_ [(ab0,cb0),(ab1,cb1),(ab2,cb2),(ab3,cb3),(ab4,cb4),(ab5,cb5),(ab6,cb6)] (Eq.symm (by exact VG p0 (by with_reducible assumption) (by with_reducible assumption)))⟩,Z.ch⟩
   exact .r [11]<|.go 12<|GE.Np Z fun cF w Z=>.go 13<|GE.Ss 0 [1,3,4] Z fun w Z=>GA.Do Z fun w Z=>.r 1<|.d<|.s<|.g<|.r 1<|.d<|.ct<|.g<|.r 1<|RG.Ln 0 Z<|.r 2<|RG.Ss 4 Z fun w Z=>.d<|.ib 0<|.s<|.s<|.g<|.r 8<|.d<|.ct<|T.LL AA func26 results26 ⟨⟨rfl,Z.rBD 4 0 [10,10,10,6,6,6,6] (⟨(⟨(⟨(Db w_.store e.name e.row).1.idx.names,((Db w_.store e.name e.row).1.idx).AY⟩:Idx),(Db w_.store e.name e.row).1.parts,(Db w_.store e.name e.row).1.mem⟩:Sto),(⟨w_.disk.files,w_.disk.list,w_.disk.names,w_.disk.next⟩:Dsk)⟩:Wld) [(bA,bC),(bD,bE),(bF,bG),(bH,bI),(ab4,cb4),(ab5,cb5),(ab6,cb6)] (Eq.symm (by exact do_1 p0 (by with_reducible assumption) (by with_reducible assumption)))⟩,Z.ch⟩
  refine GE.Np Z fun cG w Z=>.go 8<|GE.DT (us:=[.bool ((Db w_.store e.name e.row).2)]) 1 1 (fun w Z=>GO w_.store e.name e.row (Z.a 2) (Z.a 3) (Z.a 4) (Z.a 5) (Z.a 0) p0.sd p1) Z fun bJ bK bL bM bN bO bP bQ w Z=>.r [9,10] ?_
  cases cC:(Db w_.store e.name e.row).2
  ·exact .r [11]<|.go 13<|GE.Ss 0 [1,3,4] Z fun w Z=>GA.Do Z fun w Z=>.r 1<|.d<|.s<|.g<|.r 1<|.d<|.cf<|.sk<|.ib 0<|.s<|.s<|.g<|.r 8<|.d<|.ct<|T.LL AA func26 results26 ⟨⟨rfl,Z.rBD 4 0 [10,10,10,10,10,10,10] w_ [(ab0,cb0),(ab1,cb1),(ab2,cb2),(ab3,cb3),(ab4,cb4),(ab5,cb5),(ab6,cb6)] (Eq.symm (by exact VG p0 (by with_reducible assumption) (by with_reducible assumption)))⟩,Z.ch⟩
  exact .r [11]<|.go 13<|GE.Ss 0 [1,3,4] Z fun w Z=>GA.Do Z fun w Z=>.r 1<|.d<|.s<|.g<|.r 1<|.d<|.ct<|.g<|.r 1<|RG.Ln 0 Z<|.r 2<|RG.Ss 4 Z fun w Z=>.d<|.ib 0<|.s<|.s<|.g<|.r 8<|.d<|.ct<|T.LL AA func26 results26 ⟨⟨rfl,Z.rBD 4 0 [10,10,10,6,6,6,6] (⟨(⟨(⟨(Db w_.store e.name e.row).1.idx.names,((Db w_.store e.name e.row).1.idx).AY⟩:Idx),(Db w_.store e.name e.row).1.parts,(Db w_.store e.name e.row).1.mem⟩:Sto),(⟨w_.disk.files,w_.disk.list,w_.disk.names,w_.disk.next⟩:Dsk)⟩:Wld) [(bJ,bK),(bL,bM),(bN,bO),(bP,bQ),(ab4,cb4),(ab5,cb5),(ab6,cb6)] (Eq.symm (by exact do_1 p0 (by with_reducible assumption) (by with_reducible assumption)))⟩,Z.ch⟩
 refine .r 1<|.d<|.cf<|.s<|.g<|.eq e.kind 2 (fun az=>?_) (fun az=>?_)
 ·refine .r 1<|.d<|.ct<|.s<|T.Gd 8 Z fun w Z=>.r [0,1,2]<|GA.Ln 3 3 Z<|.r [4,5,6]<|GA.Ln 7 3 Z<|GA.Dn Z fun w Z=>RG.CL (Ic w_.disk w_.store (Z.a 6) (Z.a 7) (Z.a 8) (Z.a 2) (Z.a 3) (Z.a 4) (Z.a 5) p0.dd (SG.of p0.sd)) Z fun cH cI w Z=>.r 1<|.d<|.g<|.r 3<|RG.Ln 3 Z<|RG.DT (us:=[.bool ((Cl w_.store).2)]) 2 1 (Ih w_.store (Z.a 3) (Z.a 4) (Z.a 5) (Z.a 6) p0.sd) Z fun bR bS bT bU bV bW bX bY w Z=>.r 3<|RG.Ss 0 Z fun w Z=>.d<|.ib 0<|.s<|.s<|.g<|.r 2<|.eq (((Ao w_.disk w_.store).length):Int) 0 (fun aA=>.r 5<|.d<|.ct<|T.LL AA func26 results26 ⟨⟨rfl,Z.rBD 3 0 [10,10,10,10,10,10,10] w_ [(ab0,cb0),(ab1,cb1),(ab2,cb2),(ab3,cb3),(ab4,cb4),(ab5,cb5),(ab6,cb6)] (Eq.symm (by exact VH p0 (by with_reducible assumption) (.inl (by with_reducible assumption))))⟩,Z.ch⟩) fun aA=>.r 2<|RG.Lb 2 Z<|.bp (e.cut< 0) (fun aB=>.r 1<|.d<|.ct<|T.LL AA func26 results26 ⟨⟨rfl,Z.rBD 3 0 [10,10,10,10,10,10,10] w_ [(ab0,cb0),(ab1,cb1),(ab2,cb2),(ab3,cb3),(ab4,cb4),(ab5,cb5),(ab6,cb6)] (Eq.symm (by exact VH p0 (by with_reducible assumption) (.inr (by with_reducible assumption))))⟩,Z.ch⟩) fun aB=>.r 1<|.d<|.cf<|.sk<|.s<|T.Gd 9 Z fun w Z=>.r [0,1,2,3]<|GA.Ln 4 3 Z<|.r [5,6]<|GA.Lb 7 2 Z<|.go 8<|GE.DD 0 1 (fun w Z=>Hb w_.disk (Ao w_.disk w_.store) e.cut (Z.a 12) (Z.a 13) (Z.a 14) (Z.a 5) p0.dd (fun _=>by exact (JJ p0.dd p0.sd).1)) Z fun aC aD aE aF aG aH w Z=>GA.Dn Z fun w Z=>.r 2<|RG.Ss 3 Z fun w Z=>.d<|.s<|.g<|.r 1<|RG.Lb 2 Z<|.r 2<|.bp (e.cut< (((Ao w_.disk w_.store).length):Int)) (fun aI=>?_) (fun aI=>.d<|.cf<|.g<|.r 1<|RG.Ln 0 Z<|.r 2<|RG.Ss 3 Z fun w Z=>.d<|T.GZ func26 results26 ⟨⟨rfl,Z.rBD 3 0 [2,2,2,6,6,6,6] (⟨(⟨(⟨(Cl w_.store).1.idx.names,((Cl w_.store).1.idx).AY⟩:Idx),(Cl w_.store).1.parts,(Cl w_.store).1.mem⟩:Sto),(⟨(BI w_.disk (Ao w_.disk w_.store) e.cut).files,(BI w_.disk (Ao w_.disk w_.store) e.cut).list,(BI w_.disk (Ao w_.disk w_.store) e.cut).names,(BI w_.disk (Ao w_.disk w_.store) e.cut).next⟩:Dsk)⟩:Wld) [(bR,bS),(bT,bU),(bV,bW),(bX,bY),(aC,aD),(aE,aF),(aG,aH)] (Eq.symm (by exact XY p0 (by with_reducible assumption) (by with_reducible assumption) (by with_reducible assumption) (by with_reducible assumption)))⟩,Z.ch⟩)
  refine .d<|.ct<|.g<|.r 1<|RG.cl (EF (⟨(⟨(⟨w_.store.idx.names,w_.store.idx.AY⟩:Idx),w_.store.parts,w_.store.mem⟩:Sto),(⟨(BI w_.disk (Ao w_.disk w_.store) e.cut).files,(BI w_.disk (Ao w_.disk w_.store) e.cut).list,(BI w_.disk (Ao w_.disk w_.store) e.cut).names,(BI w_.disk (Ao w_.disk w_.store) e.cut).next⟩:Dsk)⟩:Wld) (Z.ib 3 0 1 [2,2,2,10,10,10,10] [.s ab0 cb0 w_.store.idx.names,.s ab1 cb1 w_.store.idx.AY,.s ab2 cb2 w_.store.parts,.s ab3 cb3 w_.store.mem,.s aC aD ((BI w_.disk (Ao w_.disk w_.store) e.cut).files),.s aE aF ((BI w_.disk (Ao w_.disk w_.store) e.cut).list),.s aG aH ((BI w_.disk (Ao w_.disk w_.store) e.cut).names)]) (Z.bc 3) (by exact (NM (e:=e) p0 (by with_reducible assumption) (by with_reducible assumption)).2.1) (by exact (NM (e:=e) p0 (by with_reducible assumption) (by with_reducible assumption)).2.2)) ?_
  rintro _ w ⟨⟨rfl,aJ⟩,aK⟩
  exact Z.bB 3 1 aJ (Ta aK) fun bZ b6 b7 b8 b9 cd ce cg ci cj ck cm co cp Z=>.d<|T.GZ func26 results26 ⟨⟨rfl,Z.rBD 3 0 [6,6,6,6,6,6,6] (⟨(⟨(⟨((((BV (⟨(⟨(⟨w_.store.idx.names,w_.store.idx.AY⟩:Idx),w_.store.parts,w_.store.mem⟩:Sto),(⟨(BI w_.disk (Ao w_.disk w_.store) e.cut).files,(BI w_.disk (Ao w_.disk w_.store) e.cut).list,(BI w_.disk (Ao w_.disk w_.store) e.cut).names,(BI w_.disk (Ao w_.disk w_.store) e.cut).next⟩:Dsk)⟩:Wld))).store).idx).names,((((BV (⟨(⟨(⟨w_.store.idx.names,w_.store.idx.AY⟩:Idx),w_.store.parts,w_.store.mem⟩:Sto),(⟨(BI w_.disk (Ao w_.disk w_.store) e.cut).files,(BI w_.disk (Ao w_.disk w_.store) e.cut).list,(BI w_.disk (Ao w_.disk w_.store) e.cut).names,(BI w_.disk (Ao w_.disk w_.store) e.cut).next⟩:Dsk)⟩:Wld))).store).idx).AY⟩:Idx),(((BV (⟨(⟨(⟨w_.store.idx.names,w_.store.idx.AY⟩:Idx),w_.store.parts,w_.store.mem⟩:Sto),(⟨(BI w_.disk (Ao w_.disk w_.store) e.cut).files,(BI w_.disk (Ao w_.disk w_.store) e.cut).list,(BI w_.disk (Ao w_.disk w_.store) e.cut).names,(BI w_.disk (Ao w_.disk w_.store) e.cut).next⟩:Dsk)⟩:Wld))).store).parts,(((BV (⟨(⟨(⟨w_.store.idx.names,w_.store.idx.AY⟩:Idx),w_.store.parts,w_.store.mem⟩:Sto),(⟨(BI w_.disk (Ao w_.disk w_.store) e.cut).files,(BI w_.disk (Ao w_.disk w_.store) e.cut).list,(BI w_.disk (Ao w_.disk w_.store) e.cut).names,(BI w_.disk (Ao w_.disk w_.store) e.cut).next⟩:Dsk)⟩:Wld))).store).mem⟩:Sto),(⟨(((BV (⟨(⟨(⟨w_.store.idx.names,w_.store.idx.AY⟩:Idx),w_.store.parts,w_.store.mem⟩:Sto),(⟨(BI w_.disk (Ao w_.disk w_.store) e.cut).files,(BI w_.disk (Ao w_.disk w_.store) e.cut).list,(BI w_.disk (Ao w_.disk w_.store) e.cut).names,(BI w_.disk (Ao w_.disk w_.store) e.cut).next⟩:Dsk)⟩:Wld))).disk).files,(((BV (⟨(⟨(⟨w_.store.idx.names,w_.store.idx.AY⟩:Idx),w_.store.parts,w_.store.mem⟩:Sto),(⟨(BI w_.disk (Ao w_.disk w_.store) e.cut).files,(BI w_.disk (Ao w_.disk w_.store) e.cut).list,(BI w_.disk (Ao w_.disk w_.store) e.cut).names,(BI w_.disk (Ao w_.disk w_.store) e.cut).next⟩:Dsk)⟩:Wld))).disk).list,(((BV (⟨(⟨(⟨w_.store.idx.names,w_.store.idx.AY⟩:Idx),w_.store.parts,w_.store.mem⟩:Sto),(⟨(BI w_.disk (Ao w_.disk w_.store) e.cut).files,(BI w_.disk (Ao w_.disk w_.store) e.cut).list,(BI w_.disk (Ao w_.disk w_.store) e.cut).names,(BI w_.disk (Ao w_.disk w_.store) e.cut).next⟩:Dsk)⟩:Wld))).disk).names,(((BV (⟨(⟨(⟨w_.store.idx.names,w_.store.idx.AY⟩:Idx),w_.store.parts,w_.store.mem⟩:Sto),(⟨(BI w_.disk (Ao w_.disk w_.store) e.cut).files,(BI w_.disk (Ao w_.disk w_.store) e.cut).list,(BI w_.disk (Ao w_.disk w_.store) e.cut).names,(BI w_.disk (Ao w_.disk w_.store) e.cut).next⟩:Dsk)⟩:Wld))).disk).next⟩:Dsk)⟩:Wld) [(bZ,b6),(b7,b8),(b9,cd),(ce,cg),(ci,cj),(ck,cm),(co,cp)] (Eq.symm (by exact XX p0 (by with_reducible assumption) (by with_reducible assumption) (by with_reducible assumption) (by with_reducible assumption)))⟩,Z.ch⟩
 refine .r 1<|.d<|.cf<|.s<|.g<|.eq e.kind 3 (fun aL=>?_) (fun aL=>?_)
 ·refine .r 1<|.d<|.ct<|.s<|T.Gd 6 Z fun w Z=>.r [0,1,2]<|GA.Ln 3 3 Z<|.r [4]<|GA.Lb 5 2 Z<|GA.Dn Z fun w Z=>RG.CL (Ii w_.disk e.at_ (Z.a 6) (Z.a 7) (Z.a 8) p0.dd) Z fun cJ cK w Z=>.r 1<|.d<|T.GS 11 [ax,bx] Z fun _ w Z=>.r [0,1,2]<|GA.Ln (q:=1) 3 3 Z<|.r [4]<|GA.Lb 5 2 Z<|.go 6<|GE.DT (us:=[.bool ((Bw w_.store e.at_).2)]) 2 1 (fun w Z=>Ij w_.store e.at_ (Z.a 3) (Z.a 4) (Z.a 5) (Z.a 6) p0.sd) Z fun cq cr cu cw cx cy cz cA w Z=>.r [7,8,9]<|.go 10<|GE.Ss 0 [2,3] Z fun w Z=>GA.Do Z fun w Z=>.d<|.ib 0<|.s<|.s<|.g<|.r 2<|.eq (((Aq w_.disk e.at_).length):Int) 0 (fun ah=>.r 5<|.d<|.ct<|T.LL AA func26 results26 ⟨⟨rfl,Z.rBD 3 0 [10,10,10,10,10,10,10] w_ [(ab0,cb0),(ab1,cb1),(ab2,cb2),(ab3,cb3),(ab4,cb4),(ab5,cb5),(ab6,cb6)] (Eq.symm (by exact VI p0 (by with_reducible assumption) (.inl (by with_reducible assumption))))⟩,Z.ch⟩) fun ah=>.r 2<|RG.Lb 2 Z<|.bp (e.cut< 0) (fun ai=>.r 1<|.d<|.ct<|T.LL AA func26 results26 ⟨⟨rfl,Z.rBD 3 0 [10,10,10,10,10,10,10] w_ [(ab0,cb0),(ab1,cb1),(ab2,cb2),(ab3,cb3),(ab4,cb4),(ab5,cb5),(ab6,cb6)] (Eq.symm (by exact VI p0 (by with_reducible assumption) (.inr (by with_reducible assumption))))⟩,Z.ch⟩) fun ai=>.r 1<|.d<|.cf<|.sk<|.s<|T.Gd 9 Z fun w Z=>.r [0,1,2,3]<|GA.Ln 4 3 Z<|.r [5,6]<|GA.Lb 7 2 Z<|.go 8<|GE.DD 0 1 (fun w Z=>Hb w_.disk (Aq w_.disk e.at_) e.cut (Z.a 12) (Z.a 13) (Z.a 14) (Z.a 5) p0.dd (fun _=>by exact (JK p0.dd _).1)) Z fun aa ab ac ae af ag w Z=>GA.Dn Z fun w Z=>.r 2<|RG.Ss 3 Z fun w Z=>.d<|.s<|.g<|.r 1<|RG.Lb 2 Z<|.r 2<|.bp (e.cut< (((Aq w_.disk e.at_).length):Int)) (fun aj=>?_) (fun aj=>.d<|.cf<|.g<|.r 1<|RG.Ln 0 Z<|.r 2<|RG.Ss 3 Z fun w Z=>.d<|T.GZ func26 results26 ⟨⟨rfl,Z.rBD 3 0 [2,2,2,6,6,6,6] (⟨(⟨(⟨(Bw w_.store e.at_).1.idx.names,((Bw w_.store e.at_).1.idx).AY⟩:Idx),(Bw w_.store e.at_).1.parts,(Bw w_.store e.at_).1.mem⟩:Sto),(⟨(BI w_.disk (Aq w_.disk e.at_) e.cut).files,(BI w_.disk (Aq w_.disk e.at_) e.cut).list,(BI w_.disk (Aq w_.disk e.at_) e.cut).names,(BI w_.disk (Aq w_.disk e.at_) e.cut).next⟩:Dsk)⟩:Wld) [(cq,cr),(cu,cw),(cx,cy),(cz,cA),(aa,ab),(ac,ae),(af,ag)] (Eq.symm (by exact Xa p0 (by with_reducible assumption) (by with_reducible assumption) (by with_reducible assumption) (by with_reducible assumption)))⟩,Z.ch⟩)
  refine .d<|.ct<|.g<|.r 1<|RG.cl (EF (⟨(⟨(⟨w_.store.idx.names,w_.store.idx.AY⟩:Idx),w_.store.parts,w_.store.mem⟩:Sto),(⟨(BI w_.disk (Aq w_.disk e.at_) e.cut).files,(BI w_.disk (Aq w_.disk e.at_) e.cut).list,(BI w_.disk (Aq w_.disk e.at_) e.cut).names,(BI w_.disk (Aq w_.disk e.at_) e.cut).next⟩:Dsk)⟩:Wld) (Z.ib 3 0 1 [2,2,2,10,10,10,10] [.s ab0 cb0 w_.store.idx.names,.s ab1 cb1 w_.store.idx.AY,.s ab2 cb2 w_.store.parts,.s ab3 cb3 w_.store.mem,.s aa ab ((BI w_.disk (Aq w_.disk e.at_) e.cut).files),.s ac ae ((BI w_.disk (Aq w_.disk e.at_) e.cut).list),.s af ag ((BI w_.disk (Aq w_.disk e.at_) e.cut).names)]) (Z.bc 3) (by exact (NN (e:=e) p0 (by with_reducible assumption) (by with_reducible assumption)).2.1) (by exact (NN (e:=e) p0 (by with_reducible assumption) (by with_reducible assumption)).2.2)) ?_
  rintro _ w ⟨⟨rfl,ak⟩,am⟩
  exact Z.bB 3 1 ak (Ta am) fun aM aN aO aP aQ aR aS aT aU aV aW aX aY aZ Z=>.d<|T.GZ func26 results26 ⟨⟨rfl,Z.rBD 3 0 [6,6,6,6,6,6,6] (⟨(⟨(⟨((((BV (⟨(⟨(⟨w_.store.idx.names,w_.store.idx.AY⟩:Idx),w_.store.parts,w_.store.mem⟩:Sto),(⟨(BI w_.disk (Aq w_.disk e.at_) e.cut).files,(BI w_.disk (Aq w_.disk e.at_) e.cut).list,(BI w_.disk (Aq w_.disk e.at_) e.cut).names,(BI w_.disk (Aq w_.disk e.at_) e.cut).next⟩:Dsk)⟩:Wld))).store).idx).names,((((BV (⟨(⟨(⟨w_.store.idx.names,w_.store.idx.AY⟩:Idx),w_.store.parts,w_.store.mem⟩:Sto),(⟨(BI w_.disk (Aq w_.disk e.at_) e.cut).files,(BI w_.disk (Aq w_.disk e.at_) e.cut).list,(BI w_.disk (Aq w_.disk e.at_) e.cut).names,(BI w_.disk (Aq w_.disk e.at_) e.cut).next⟩:Dsk)⟩:Wld))).store).idx).AY⟩:Idx),(((BV (⟨(⟨(⟨w_.store.idx.names,w_.store.idx.AY⟩:Idx),w_.store.parts,w_.store.mem⟩:Sto),(⟨(BI w_.disk (Aq w_.disk e.at_) e.cut).files,(BI w_.disk (Aq w_.disk e.at_) e.cut).list,(BI w_.disk (Aq w_.disk e.at_) e.cut).names,(BI w_.disk (Aq w_.disk e.at_) e.cut).next⟩:Dsk)⟩:Wld))).store).parts,(((BV (⟨(⟨(⟨w_.store.idx.names,w_.store.idx.AY⟩:Idx),w_.store.parts,w_.store.mem⟩:Sto),(⟨(BI w_.disk (Aq w_.disk e.at_) e.cut).files,(BI w_.disk (Aq w_.disk e.at_) e.cut).list,(BI w_.disk (Aq w_.disk e.at_) e.cut).names,(BI w_.disk (Aq w_.disk e.at_) e.cut).next⟩:Dsk)⟩:Wld))).store).mem⟩:Sto),(⟨(((BV (⟨(⟨(⟨w_.store.idx.names,w_.store.idx.AY⟩:Idx),w_.store.parts,w_.store.mem⟩:Sto),(⟨(BI w_.disk (Aq w_.disk e.at_) e.cut).files,(BI w_.disk (Aq w_.disk e.at_) e.cut).list,(BI w_.disk (Aq w_.disk e.at_) e.cut).names,(BI w_.disk (Aq w_.disk e.at_) e.cut).next⟩:Dsk)⟩:Wld))).disk).files,(((BV (⟨(⟨(⟨w_.store.idx.names,w_.store.idx.AY⟩:Idx),w_.store.parts,w_.store.mem⟩:Sto),(⟨(BI w_.disk (Aq w_.disk e.at_) e.cut).files,(BI w_.disk (Aq w_.disk e.at_) e.cut).list,(BI w_.disk (Aq w_.disk e.at_) e.cut).names,(BI w_.disk (Aq w_.disk e.at_) e.cut).next⟩:Dsk)⟩:Wld))).disk).list,(((BV (⟨(⟨(⟨w_.store.idx.names,w_.store.idx.AY⟩:Idx),w_.store.parts,w_.store.mem⟩:Sto),(⟨(BI w_.disk (Aq w_.disk e.at_) e.cut).files,(BI w_.disk (Aq w_.disk e.at_) e.cut).list,(BI w_.disk (Aq w_.disk e.at_) e.cut).names,(BI w_.disk (Aq w_.disk e.at_) e.cut).next⟩:Dsk)⟩:Wld))).disk).names,(((BV (⟨(⟨(⟨w_.store.idx.names,w_.store.idx.AY⟩:Idx),w_.store.parts,w_.store.mem⟩:Sto),(⟨(BI w_.disk (Aq w_.disk e.at_) e.cut).files,(BI w_.disk (Aq w_.disk e.at_) e.cut).list,(BI w_.disk (Aq w_.disk e.at_) e.cut).names,(BI w_.disk (Aq w_.disk e.at_) e.cut).next⟩:Dsk)⟩:Wld))).disk).next⟩:Dsk)⟩:Wld) [(aM,aN),(aO,aP),(aQ,aR),(aS,aT),(aU,aV),(aW,aX),(aY,aZ)] (Eq.symm (by exact XZ p0 (by with_reducible assumption) (by with_reducible assumption) (by with_reducible assumption) (by with_reducible assumption)))⟩,Z.ch⟩
 refine .r 1<|.d<|.cf<|.s<|.g<|.eq e.kind 4 (fun ao=>?_) (fun ao=>.r 1<|.d<|.cf<|.sk<|.ib 0<|.s<|.s<|.g<|.r 8<|.d<|.ct<|T.LL AA func26 results26 ⟨⟨rfl,Z.rBD 3 1 [6,6,6,6,6,6,6] w_ [(ab0,cb0),(ab1,cb1),(ab2,cb2),(ab3,cb3),(ab4,cb4),(ab5,cb5),(ab6,cb6)] (Eq.symm (by exact Rc (by with_reducible assumption) (by with_reducible assumption) (by with_reducible assumption) (by with_reducible assumption)))⟩,Z.ch⟩)
 refine .r 1<|.d<|.ct<|.g<|.r 1<|RG.cl (EF w_ (Z.ib 3 1 1 [6,6,6,6,6,6,6] [.s ab0 cb0 w_.store.idx.names,.s ab1 cb1 w_.store.idx.AY,.s ab2 cb2 w_.store.parts,.s ab3 cb3 w_.store.mem,.s ab4 cb4 w_.disk.files,.s ab5 cb5 w_.disk.list,.s ab6 cb6 w_.disk.names]) (Z.bc 3) (by exact p0.dd) (by exact p0.dk)) ?_
 rintro _ w ⟨⟨rfl,aq⟩,ar⟩
 exact Z.bB 3 1 aq (Ta ar) fun ba bg bh bi bj bk bm bn bo bq br bu bv bw Z=>.d<|.ib 0<|.s<|.s<|.g<|.r 8<|.d<|.ct<|T.LL AA func26 results26 ⟨⟨rfl,Z.rBD 3 0 [6,6,6,6,6,6,6] (⟨(⟨(⟨((((BV w_)).store).idx).names,((((BV w_)).store).idx).AY⟩:Idx),(((BV w_)).store).parts,(((BV w_)).store).mem⟩:Sto),(⟨(((BV w_)).disk).files,(((BV w_)).disk).list,(((BV w_)).disk).names,(((BV w_)).disk).next⟩:Dsk)⟩:Wld) [(ba,bg),(bh,bi),(bj,bk),(bm,bn),(bo,bq),(br,bu),(bv,bw)] (Eq.symm (by exact X4 (by with_reducible assumption)))⟩,Z.ch⟩
end Go.Proofs.YtcginoabkicdiaaGreat
namespace Go.Proofs.YtcginoabkicdiaaGreat
set_option maxRecDepth 100000
set_option maxHeartbeats 4000000
variable {w:World} {F:Nat→Prop} {a1:Option Addr} {n1 c1:Nat}
theorem Fm (events:List Evt) (h1:RepS w F a1 n1 c1 events) (p0:∀ e∈events,e.name.length≤1100000):Calls Tryz.prog 8 [.slice a1 n1 c1].toArray w (Ag fun rv w'=>(∃ v0,rv=.tuple #[v0,.bool ((Bi events).2)]∧VD w.heap.size w' ((Bi events).1:Wld) v0)∧Ext w w'):=by
 cases h1.len
 refine goT func8 ?_
 have Z:=(St.i0 F w).p h1
 have bi:=h1.max
 have Z:=Z.s0 0
 refine .s<|.g<|RG.Np Z fun aO w Z=>.r 1<|.d<|.s<|.s<|.g<|.r 2<|.bp ((events.length:Int) > 50) (fun ao=>?_) (fun ao=>?_)
 ·refine .d<|.ct<|.s<|.g<|.r 1<|RG.Ss 0 Z fun w Z=>.r 1<|.d ?_
  have Z:=((((((Z.sZ (List Tag) 0 0).sZ Pst 1 0).sZ Prt 1 0).sZ Smp 1 0).sZ Fil 1 0).sZ Int 1 0).sZ (List Tag) 1 0
  exact T.r2 func8 results8 (.B 0 Z) (.t (.bool false)) ⟨⟨_,(Ch rfl (AG (by (rw [NL ‹_›] <;> rfl)))),Z.rD 1 [0,1,2,3,4,5,6] (⟨(⟨(⟨([]:List (List Tag)),([]:List Pst)⟩:Idx),([]:List Prt),([]:List Smp)⟩:Sto),(⟨([]:List Fil),([]:List Int),([]:List (List Tag)),0⟩:Dsk)⟩:Wld) [(none,0),(none,0),(none,0),(none,0),(none,0),(none,0),(none,0)] (by (rw [NL ‹_›] <;> rfl))⟩,Z.xt⟩
 refine .d<|.cf<|.sk<|.s<|.g<|RG.DD 0 0 (J3 (F:=all)) Z fun aP aQ aR aS aT aU aV aW aX aY aZ ba bg bh w Z=>RG.Np Z fun aq w Z=>RG.Ss 0 Z fun w Z=>.d<|.s<|.s<|.g<|.r 3<|.d<|.b 0<|T.Lp ((0:Nat),(GW.store.idx.names:List (List Tag)),aP,aQ,(GW.store.idx.AY:List Pst),aR,aS,(GW.store.parts:List Prt),aT,aU,(GW.store.mem:List Smp),aV,aW,(GW.disk.files:List Fil),aX,aY,(GW.disk.list:List Int),aZ,ba,(GW.disk.names:List (List Tag)),bg,bh,GW.disk.next) (fun (k,aa,a_w_0,c_w_0,ab,a_w_1,c_w_1,ac,a_w_2,c_w_2,ae,a_w_3,c_w_3,af,a_w_4,c_w_4,ag,a_w_5,c_w_5,ah,a_w_6,c_w_6,ai)=>([(2,vP aO),(4,vP aq),(12,.slice a1 events.length c1),(13,vI (events.length:Int)),(14,vI (k:Int))],[(0,.box aq 37 [.slice a_w_0 aa.length c_w_0,.slice a_w_1 ab.length c_w_1,.slice a_w_2 ac.length c_w_2,.slice a_w_3 ae.length c_w_3,.slice a_w_4 af.length c_w_4,.slice a_w_5 ag.length c_w_5,.slice a_w_6 ah.length c_w_6,vI ai])],[⟨0,none,.sep [.s a_w_0 c_w_0 aa,.s a_w_1 c_w_1 ab,.s a_w_2 c_w_2 ac,.s a_w_3 c_w_3 ae,.s a_w_4 c_w_4 af,.s a_w_5 c_w_5 ag,.s a_w_6 c_w_6 ah]⟩,⟨0,none,.rep a_w_0 c_w_0 aa⟩,⟨0,none,.rep a_w_1 c_w_1 ab⟩,⟨0,none,.rep a_w_2 c_w_2 ac⟩,⟨0,none,.rep a_w_3 c_w_3 ae⟩,⟨0,none,.rep a_w_4 c_w_4 af⟩,⟨0,none,.rep a_w_5 c_w_5 ag⟩,⟨0,none,.rep a_w_6 c_w_6 ah⟩],events.length - k,(k≤events.length)∧((events.drop k).foldl doW ⟨⟨⟨aa,ab⟩,ac,ae⟩,⟨af,ag,ah,ai⟩⟩=MY events)∧(WV ⟨⟨⟨aa,ab⟩,ac,ae⟩,⟨af,ag,ah,ai⟩⟩))) [0,1,2,3,4,5,6,7] Z ⟨AB,AF,(by exact WV.new)⟩ ?_
 rintro ⟨k,aa,a_w_0,c_w_0,ab,a_w_1,c_w_1,ac,a_w_2,c_w_2,ae,a_w_3,c_w_3,af,a_w_4,c_w_4,ag,a_w_5,c_w_5,ah,a_w_6,c_w_6,ai⟩ bo w Z ⟨bj,bk,bm⟩ am
 refine .s<|.g<|.bp ((k:Int)< (events.length:Int)) (fun ar=>?_) (fun ar=>.d<|.s<|.cf<|.x 0 rfl<|.s<|.g<|RG.Ln 0 Z<|RG.Ss 1 Z fun w Z=>.r 1<|.d<|T.r2 func8 results8 (.B 1 Z) (.t (.bool true)) ⟨⟨_,(Ch rfl (AG (by (rw [NK ‹_›])))),Z.rD 0 [6,6,6,6,6,6,6] (⟨(⟨(⟨aa,ab⟩:Idx),ac,ae⟩:Sto),(⟨af,ag,ah,ai⟩:Dsk)⟩:Wld) [(a_w_0,c_w_0),(a_w_1,c_w_1),(a_w_2,c_w_2),(a_w_3,c_w_3),(a_w_4,c_w_4),(a_w_5,c_w_5),(a_w_6,c_w_6)] (by (rw [NK ‹_›]; exact QM ‹_› AB))⟩,Z.xt⟩)
 refine .d<|.s<|.ct<|.sk<|.s<|.b 1<|.s<|.g<|gx events k fun aj ak=>?_
 have bn:=AZ ak; have aN:=AV ak
 refine RG.Ix 17 ak Z<|Z.el 17 ak fun bq br Z=>RG.Lg 0 0 Z<|RG.Np Z fun bu w Z=>RG.Ss 0 Z fun w Z=>.d<|.g<|RG.Ln 0 Z<|RG.cl (J4 (⟨(⟨(⟨aa,ab⟩:Idx),ac,ae⟩:Sto),(⟨af,ag,ah,ai⟩:Dsk)⟩:Wld) aj (Z.ib 1 2 0 [6,6,6,6,6,6,6] [.s a_w_0 c_w_0 aa,.s a_w_1 c_w_1 ab,.s a_w_2 c_w_2 ac,.s a_w_3 c_w_3 ae,.s a_w_4 c_w_4 af,.s a_w_5 c_w_5 ag,.s a_w_6 c_w_6 ah]) (Z.bc 1) (Z.rd 1 1) (by assumption:WV ⟨⟨⟨aa,ab⟩,ac,ae⟩,⟨af,ag,ah,ai⟩⟩) (p0 _ ‹_›)) ?_
 rintro _ w ⟨⟨rfl,ax⟩,ay⟩
 refine Z.bB 1 0 ax (Ta ay) fun az aA aB aC aD aE aF aG aH aI aJ aK aL aM Z=>.d<|.ib 1<|.g<|.it ((k:Int)+1)<|.r 1<|.d ?_
 have Z:=Z.sM 0 0 [6,6,6,6,6,6,6] [.s az aA (((((doW (⟨(⟨(⟨aa,ab⟩:Idx),ac,ae⟩:Sto),(⟨af,ag,ah,ai⟩:Dsk)⟩:Wld) aj)).store).idx).names),.s aB aC (((((doW (⟨(⟨(⟨aa,ab⟩:Idx),ac,ae⟩:Sto),(⟨af,ag,ah,ai⟩:Dsk)⟩:Wld) aj)).store).idx).AY),.s aD aE ((((doW (⟨(⟨(⟨aa,ab⟩:Idx),ac,ae⟩:Sto),(⟨af,ag,ah,ai⟩:Dsk)⟩:Wld) aj)).store).parts),.s aF aG ((((doW (⟨(⟨(⟨aa,ab⟩:Idx),ac,ae⟩:Sto),(⟨af,ag,ah,ai⟩:Dsk)⟩:Wld) aj)).store).mem),.s aH aI ((((doW (⟨(⟨(⟨aa,ab⟩:Idx),ac,ae⟩:Sto),(⟨af,ag,ah,ai⟩:Dsk)⟩:Wld) aj)).disk).files),.s aJ aK ((((doW (⟨(⟨(⟨aa,ab⟩:Idx),ac,ae⟩:Sto),(⟨af,ag,ah,ai⟩:Dsk)⟩:Wld) aj)).disk).list),.s aL aM ((((doW (⟨(⟨(⟨aa,ab⟩:Idx),ac,ae⟩:Sto),(⟨af,ag,ah,ai⟩:Dsk)⟩:Wld) aj)).disk).names)]
 exact am (k+1,((((doW (⟨(⟨(⟨aa,ab⟩:Idx),ac,ae⟩:Sto),(⟨af,ag,ah,ai⟩:Dsk)⟩:Wld) aj)).store).idx).names,az,aA,((((doW (⟨(⟨(⟨aa,ab⟩:Idx),ac,ae⟩:Sto),(⟨af,ag,ah,ai⟩:Dsk)⟩:Wld) aj)).store).idx).AY,aB,aC,(((doW (⟨(⟨(⟨aa,ab⟩:Idx),ac,ae⟩:Sto),(⟨af,ag,ah,ai⟩:Dsk)⟩:Wld) aj)).store).parts,aD,aE,(((doW (⟨(⟨(⟨aa,ab⟩:Idx),ac,ae⟩:Sto),(⟨af,ag,ah,ai⟩:Dsk)⟩:Wld) aj)).store).mem,aF,aG,(((doW (⟨(⟨(⟨aa,ab⟩:Idx),ac,ae⟩:Sto),(⟨af,ag,ah,ai⟩:Dsk)⟩:Wld) aj)).disk).files,aH,aI,(((doW (⟨(⟨(⟨aa,ab⟩:Idx),ac,ae⟩:Sto),(⟨af,ag,ah,ai⟩:Dsk)⟩:Wld) aj)).disk).list,aJ,aK,(((doW (⟨(⟨(⟨aa,ab⟩:Idx),ac,ae⟩:Sto),(⟨af,ag,ah,ai⟩:Dsk)⟩:Wld) aj)).disk).names,aL,aM,(((doW (⟨(⟨(⟨aa,ab⟩:Idx),ac,ae⟩:Sto),(⟨af,ag,ah,ai⟩:Dsk)⟩:Wld) aj)).disk).next) _ _ AA (Z.to 1 [0,2,3,4,5,6,7,8] 19) ⟨AB,(by exact Oa ‹_› ‹_›),(by exact WV.doA ‹_› _)⟩ (by (simp only []; omega))
end Go.Proofs.YtcginoabkicdiaaGreat
