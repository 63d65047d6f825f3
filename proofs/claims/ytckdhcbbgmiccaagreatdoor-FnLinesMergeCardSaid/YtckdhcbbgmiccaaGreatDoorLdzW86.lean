/- walks; pruned haves; hints pruned; squeezed -/
import Derived.Test.YtckdhcbbgmiccaaGreatDoorLdzW84
import Derived.Test.YtckdhcbbgmiccaaGreatDoorLdzMod86
open Go.Proofs.Tryz
set_option linter.unusedVariables false
set_option linter.unusedSimpArgs false
namespace Go.Proofs.YtckdhcbbgmiccaaGreatDoor
set_option maxRecDepth 100000
set_option maxHeartbeats 4000000
variable {w:World} {F:Nat→Prop} {a1:Option Addr} {n1 c1:Nat}
theorem NJ (s:Str) (n:Int){F:Nat→Prop}  (p0:0≤n∧n≤1000000) (p1:n.toNat * s.length≤100000):Calls Tryz.prog 16 [.string (bs s),.int .i64 n].toArray w (Al fun rv w'=>rv=.string (bs (CX s ((n:Int).toNat)))∧Ext w w'):=by
 refine goT func16 ?_
 have Z:=St.i0 F w
 refine .s<|.g<|.r 1<|.d<|.s<|.g<|.r 1<|.d<|.s<|.b 0<|T.Lp (s,n,[]) (fun (s1,E,out)=>([(0,vT s1),(1,vI E),(5,vT out)],[],[],E.toNat,(0≤E∧E≤1000000)∧(out++CX s1 E.toNat=CX s n.toNat))) [] Z ⟨AB,AF⟩ ?_
 rintro ⟨s1,E,out⟩ aj w Z ⟨ag,ah⟩ aa
 exact .s<|.s<|.g<|.r 1<|.bp (E > 0) (fun ac=>.d<|.ct<|.sk<|.b 1<|.s<|.s<|.g<|.r 2<|.eq (Int.tmod E 2) 1 (fun ae=>.d<|.ct<|.g<|.r 2<|RG.cat (t:=9) (s:=out) (u:=s1) AA (by have q1:=O4 (by assumption:out++CX s1 E.toNat=CX s n.toNat) AB (by rw [Gr]; exact p1); omega)<|.r 1<|.d<|.s<|.g<|.r 2<|RG.cat (t:=9) (s:=s1) (u:=s1) AA (by have q1:=O4 (by assumption:out++CX s1 E.toNat=CX s n.toNat) AB (by rw [Gr]; exact p1); omega)<|.r 1<|.d<|.g<|.r 1<|RG.quo (t:=3) (a:=E) (b:=2) AA AB (by have q2:=td2 (n:=E) AB; omega)<|.r 1<|.d<|.ib 1<|aa ((s1++s1),(Int.tdiv E 2),(out++s1)) _ _ AA (Z.to 0 [] 0) ⟨(by have q2:=td2 (n:=E) AB; omega),(by exact Xh ‹_› ‹_› ‹_›)⟩ (by have q2:=td2 (n:=E) AB; simp only []; omega)) fun ae=>.d<|.cf<|.sk<|.s<|.g<|.r 2<|RG.cat (t:=9) (s:=s1) (u:=s1) AA (by have q1:=O4 (by assumption:out++CX s1 E.toNat=CX s n.toNat) AB (by rw [Gr]; exact p1); omega)<|.r 1<|.d<|.g<|.r 1<|RG.quo (t:=3) (a:=E) (b:=2) AA AB (by have q2:=td2 (n:=E) AB; omega)<|.r 1<|.d<|.ib 1<|aa ((s1++s1),(Int.tdiv E 2),out) _ _ AA (Z.to 0 [] 0) ⟨(by have q2:=td2 (n:=E) AB; omega),(by exact V0 ‹_› ‹_› ‹_›)⟩ (by have q2:=td2 (n:=E) AB; simp only []; omega)) fun ac=>.d<|.cf<|.x 0 rfl<|.s<|.g<|.r 2<|.d<|T.rt func16 results16 (vT out) ⟨(congrArg (fun s=>Value.string (bs s)) (by exact Xi ‹_› ‹_›)),Z.xt⟩
theorem M3  {F:Nat→Prop}{b:Nat}{ad:Option Addr}{cd p:Nat}{D:List UInt8}(hr:Box w b 56 [.slice ad D.length cd,.int .i64 (p:Int)]) (hD:RepS w (nin all [b]) ad D.length cd D) (hp:p+20≤1000000000)  : Calls Tryz.prog 15 [.pointer (some ⟨b,0,none⟩)].toArray w (Al fun rv w'=>(∃ (y:Str),rv=.string (bs (y))∧(LnO y∧y.length≤60))∧∃ p':Nat,p'≤p+20∧Box w' b 56 [.slice ad D.length cd,.int .i64 (p':Int)]∧Chg (one b) w w'):=by
 refine goT func15 ?_
 have Z:=St.i1 F hr hD
 refine .s<|.g<|.r 1<|.d<|.s<|.g<|.r 1<|RG.cl (BV 30 (Z.bc 0) (Z.rd 0 0) AB (D:=D) (p:=p) (F:=all)) ?_
 rintro _ w ⟨⟨E,rfl,cD⟩,bT,cE,ba,bd⟩
 have Z:=Z.rx 0 bd ba
 refine RG.C0 (Bu E AB (F:=all)) Z fun w Z=>.r 1<|.d<|.s<|.s<|.g<|.r 1<|RG.cl (BV 11 (Z.bc 0) (Z.rd 0 0) AB (D:=D) (p:=bT) (F:=all)) ?_
 rintro _ w ⟨⟨ae,rfl,cF⟩,aa,cG,bg,bh⟩
 have Z:=Z.rx 0 bh bg
 refine .d<|.b 0<|.s<|.s<|.g<|.eq ae 0 (fun bi=>?_) (fun bi=>?_)
 ·refine .r 1<|.d<|.ct<|.sk<|.ct<|.s<|.g<|.r 1<|RG.Nl 0 ([(⟨[97,61,112]⟩:Txt),(⟨[97,61,113,44,98,61,112]⟩:Txt),(⟨[98,61,122,44,99,61,113]⟩:Txt),(⟨[99,61,122]⟩:Txt)]:List Txt) [] Z fun df w Z=>RG.cl (Bo ([(⟨[97,61,112]⟩:Txt),(⟨[97,61,113,44,98,61,112]⟩:Txt),(⟨[98,61,122,44,99,61,113]⟩:Txt),(⟨[99,61,122]⟩:Txt)]:List Txt) (Z.bc 1) (Z.rd 1 0) AB (Z.rw_ 1 0) AD (D:=D) (p:=aa)) ?_
  rintro _ w ⟨⟨ai,rfl,cH⟩,bU,cI,bj,bk⟩
  have Z:=Z.rx 1 bk bj
  refine RG.cat (t:=9) (s:=[97,100,100,32]) (u:=ai) AA (by apply CY; (repeat' first | exact Ce ‹_› | exact Nat.le_refl _); all_goals decide)<|RG.cat (t:=9) (s:=([97,100,100,32]++ai)) (u:=[32]) AA (by apply CY; (repeat' first | exact Ce ‹_› | apply al | exact Nat.le_refl _); all_goals decide)<|.r 1<|RG.cat (t:=9) (s:=(([97,100,100,32]++ai)++[32])) (u:=BF E) AA (by apply CY; (repeat' first | exact (Au _).2 | exact Ce ‹_› | apply al | exact Nat.le_refl _); all_goals decide)<|RG.cat (t:=9) (s:=((([97,100,100,32]++ai)++[32])++(BF E))) (u:=[32]) AA (by apply CY; (repeat' first | exact (Au _).2 | exact Ce ‹_› | apply al | exact Nat.le_refl _); all_goals decide)<|.r 1<|RG.cl (BV 20 (Z.bc 1) (Z.rd 1 0) AB (D:=D) (p:=bU) (F:=all)) ?_
  rintro _ w ⟨⟨aq,rfl,cJ⟩,bV,cK,bm,bn⟩
  have Z:=Z.rx 1 bn bm
  exact .it (aq - 8)<|RG.C0 (Bu (aq - 8) AB (F:=all)) Z fun w Z=>RG.cat (t:=9) (s:=(((([97,100,100,32]++ai)++[32])++(BF E))++[32])) (u:=BF (aq - 8)) AA (by apply CY; (repeat' first | exact (Au _).2 | exact Ce ‹_› | apply al | exact Nat.le_refl _); all_goals decide)<|.r 1<|.d<|T.rt func15 results15 (.string (bs ((((([97,100,100,32]++ai)++[32])++(BF E))++[32])++(BF (aq - 8))))) ⟨⟨(((((([97,100,100,32]++ai)++[32])++(BF E))++[32])++(BF (aq - 8))):Str),(congrArg (fun s=>Value.string (bs s)) AF),(by exact M0 ‹_› AB AB)⟩,bV,by omega,Z.bc 1,Z.xr⟩
 refine .r 1<|.d<|.cf<|.s<|.g<|.eq ae 1 (fun bo=>?_) (fun bo=>?_)
 ·refine .r 1<|.d<|.ct<|.sk<|.ct<|.s<|.g<|.r 1<|RG.Nl 0 ([(⟨[97,61,112]⟩:Txt),(⟨[97,61,113,44,98,61,112]⟩:Txt),(⟨[98,61,122,44,99,61,113]⟩:Txt),(⟨[99,61,122]⟩:Txt)]:List Txt) [] Z fun dh w Z=>RG.cl (Bo ([(⟨[97,61,112]⟩:Txt),(⟨[97,61,113,44,98,61,112]⟩:Txt),(⟨[98,61,122,44,99,61,113]⟩:Txt),(⟨[99,61,122]⟩:Txt)]:List Txt) (Z.bc 1) (Z.rd 1 0) AB (Z.rw_ 1 0) AD (D:=D) (p:=aa)) ?_
  rintro _ w ⟨⟨aj,rfl,cL⟩,bW,cM,bq,br⟩
  have Z:=Z.rx 1 br bq
  refine RG.cat (t:=9) (s:=[97,100,100,32]) (u:=aj) AA (by apply CY; (repeat' first | exact Ce ‹_› | exact Nat.le_refl _); all_goals decide)<|RG.cat (t:=9) (s:=([97,100,100,32]++aj)) (u:=[32]) AA (by apply CY; (repeat' first | exact Ce ‹_› | apply al | exact Nat.le_refl _); all_goals decide)<|.r 1<|RG.cat (t:=9) (s:=(([97,100,100,32]++aj)++[32])) (u:=BF E) AA (by apply CY; (repeat' first | exact (Au _).2 | exact Ce ‹_› | apply al | exact Nat.le_refl _); all_goals decide)<|RG.cat (t:=9) (s:=((([97,100,100,32]++aj)++[32])++(BF E))) (u:=[32]) AA (by apply CY; (repeat' first | exact (Au _).2 | exact Ce ‹_› | apply al | exact Nat.le_refl _); all_goals decide)<|.r 1<|RG.cl (BV 20 (Z.bc 1) (Z.rd 1 0) AB (D:=D) (p:=bW) (F:=all)) ?_
  rintro _ w ⟨⟨ar,rfl,cN⟩,bX,cO,bu,bv⟩
  have Z:=Z.rx 1 bv bu
  exact .it (ar - 8)<|RG.C0 (Bu (ar - 8) AB (F:=all)) Z fun w Z=>RG.cat (t:=9) (s:=(((([97,100,100,32]++aj)++[32])++(BF E))++[32])) (u:=BF (ar - 8)) AA (by apply CY; (repeat' first | exact (Au _).2 | exact Ce ‹_› | apply al | exact Nat.le_refl _); all_goals decide)<|.r 1<|.d<|T.rt func15 results15 (.string (bs ((((([97,100,100,32]++aj)++[32])++(BF E))++[32])++(BF (ar - 8))))) ⟨⟨(((((([97,100,100,32]++aj)++[32])++(BF E))++[32])++(BF (ar - 8))):Str),(congrArg (fun s=>Value.string (bs s)) AF),(by exact M0 ‹_› AB AB)⟩,bX,by omega,Z.bc 1,Z.xr⟩
 refine .r 1<|.d<|.cf<|.s<|.g<|.eq ae 2 (fun bw=>?_) (fun bw=>?_)
 ·refine .r 1<|.d<|.ct<|.sk<|.ct<|.s<|.g<|.r 1<|RG.Nl 0 ([(⟨[97,61,112]⟩:Txt),(⟨[97,61,113,44,98,61,112]⟩:Txt),(⟨[98,61,122,44,99,61,113]⟩:Txt),(⟨[99,61,122]⟩:Txt)]:List Txt) [] Z fun dj w Z=>RG.cl (Bo ([(⟨[97,61,112]⟩:Txt),(⟨[97,61,113,44,98,61,112]⟩:Txt),(⟨[98,61,122,44,99,61,113]⟩:Txt),(⟨[99,61,122]⟩:Txt)]:List Txt) (Z.bc 1) (Z.rd 1 0) AB (Z.rw_ 1 0) AD (D:=D) (p:=aa)) ?_
  rintro _ w ⟨⟨ak,rfl,cP⟩,bY,cQ,bz,bA⟩
  have Z:=Z.rx 1 bA bz
  refine RG.cat (t:=9) (s:=[97,100,100,32]) (u:=ak) AA (by apply CY; (repeat' first | exact Ce ‹_› | exact Nat.le_refl _); all_goals decide)<|RG.cat (t:=9) (s:=([97,100,100,32]++ak)) (u:=[32]) AA (by apply CY; (repeat' first | exact Ce ‹_› | apply al | exact Nat.le_refl _); all_goals decide)<|.r 1<|RG.cat (t:=9) (s:=(([97,100,100,32]++ak)++[32])) (u:=BF E) AA (by apply CY; (repeat' first | exact (Au _).2 | exact Ce ‹_› | apply al | exact Nat.le_refl _); all_goals decide)<|RG.cat (t:=9) (s:=((([97,100,100,32]++ak)++[32])++(BF E))) (u:=[32]) AA (by apply CY; (repeat' first | exact (Au _).2 | exact Ce ‹_› | apply al | exact Nat.le_refl _); all_goals decide)<|.r 1<|RG.cl (BV 20 (Z.bc 1) (Z.rd 1 0) AB (D:=D) (p:=bY) (F:=all)) ?_
  rintro _ w ⟨⟨ax,rfl,cR⟩,bZ,cS,bB,bC⟩
  have Z:=Z.rx 1 bC bB
  exact .it (ax - 8)<|RG.C0 (Bu (ax - 8) AB (F:=all)) Z fun w Z=>RG.cat (t:=9) (s:=(((([97,100,100,32]++ak)++[32])++(BF E))++[32])) (u:=BF (ax - 8)) AA (by apply CY; (repeat' first | exact (Au _).2 | exact Ce ‹_› | apply al | exact Nat.le_refl _); all_goals decide)<|.r 1<|.d<|T.rt func15 results15 (.string (bs ((((([97,100,100,32]++ak)++[32])++(BF E))++[32])++(BF (ax - 8))))) ⟨⟨(((((([97,100,100,32]++ak)++[32])++(BF E))++[32])++(BF (ax - 8))):Str),(congrArg (fun s=>Value.string (bs s)) AF),(by exact M0 ‹_› AB AB)⟩,bZ,by omega,Z.bc 1,Z.xr⟩
 refine .r 1<|.d<|.cf<|.s<|.g<|.eq ae 3 (fun bD=>?_) (fun bD=>?_)
 ·refine .r 1<|.d<|.ct<|.sk<|.ct<|.s<|.g<|.r 1<|RG.Nl 0 ([(⟨[97,61,112]⟩:Txt),(⟨[97,61,113,44,98,61,112]⟩:Txt),(⟨[98,61,122,44,99,61,113]⟩:Txt),(⟨[99,61,122]⟩:Txt)]:List Txt) [] Z fun dm w Z=>RG.cl (Bo ([(⟨[97,61,112]⟩:Txt),(⟨[97,61,113,44,98,61,112]⟩:Txt),(⟨[98,61,122,44,99,61,113]⟩:Txt),(⟨[99,61,122]⟩:Txt)]:List Txt) (Z.bc 1) (Z.rd 1 0) AB (Z.rw_ 1 0) AD (D:=D) (p:=aa)) ?_
  rintro _ w ⟨⟨am,rfl,cT⟩,b0,cU,bE,bF⟩
  have Z:=Z.rx 1 bF bE
  refine RG.cat (t:=9) (s:=[97,100,100,32]) (u:=am) AA (by apply CY; (repeat' first | exact Ce ‹_› | exact Nat.le_refl _); all_goals decide)<|RG.cat (t:=9) (s:=([97,100,100,32]++am)) (u:=[32]) AA (by apply CY; (repeat' first | exact Ce ‹_› | apply al | exact Nat.le_refl _); all_goals decide)<|.r 1<|RG.cat (t:=9) (s:=(([97,100,100,32]++am)++[32])) (u:=BF E) AA (by apply CY; (repeat' first | exact (Au _).2 | exact Ce ‹_› | apply al | exact Nat.le_refl _); all_goals decide)<|RG.cat (t:=9) (s:=((([97,100,100,32]++am)++[32])++(BF E))) (u:=[32]) AA (by apply CY; (repeat' first | exact (Au _).2 | exact Ce ‹_› | apply al | exact Nat.le_refl _); all_goals decide)<|.r 1<|RG.cl (BV 20 (Z.bc 1) (Z.rd 1 0) AB (D:=D) (p:=b0) (F:=all)) ?_
  rintro _ w ⟨⟨ay,rfl,cV⟩,b6,cW,bG,bH⟩
  have Z:=Z.rx 1 bH bG
  exact .it (ay - 8)<|RG.C0 (Bu (ay - 8) AB (F:=all)) Z fun w Z=>RG.cat (t:=9) (s:=(((([97,100,100,32]++am)++[32])++(BF E))++[32])) (u:=BF (ay - 8)) AA (by apply CY; (repeat' first | exact (Au _).2 | exact Ce ‹_› | apply al | exact Nat.le_refl _); all_goals decide)<|.r 1<|.d<|T.rt func15 results15 (.string (bs ((((([97,100,100,32]++am)++[32])++(BF E))++[32])++(BF (ay - 8))))) ⟨⟨(((((([97,100,100,32]++am)++[32])++(BF E))++[32])++(BF (ay - 8))):Str),(congrArg (fun s=>Value.string (bs s)) AF),(by exact M0 ‹_› AB AB)⟩,b6,by omega,Z.bc 1,Z.xr⟩
 refine .r 1<|.d<|.cf<|.g<|.eq ae 4 (fun bI=>?_) (fun bI=>?_)
 ·refine .r 1<|.d<|.ct<|.s<|.g<|.r 1<|RG.Nl 0 ([(⟨[97,61,112]⟩:Txt),(⟨[97,61,113,44,98,61,112]⟩:Txt),(⟨[98,61,122,44,99,61,113]⟩:Txt),(⟨[99,61,122]⟩:Txt)]:List Txt) [] Z fun dp w Z=>RG.cl (Bo ([(⟨[97,61,112]⟩:Txt),(⟨[97,61,113,44,98,61,112]⟩:Txt),(⟨[98,61,122,44,99,61,113]⟩:Txt),(⟨[99,61,122]⟩:Txt)]:List Txt) (Z.bc 1) (Z.rd 1 0) AB (Z.rw_ 1 0) AD (D:=D) (p:=aa)) ?_
  rintro _ w ⟨⟨ao,rfl,cX⟩,b7,cY,bJ,bK⟩
  have Z:=Z.rx 1 bK bJ
  refine RG.cat (t:=9) (s:=[97,100,100,32]) (u:=ao) AA (by apply CY; (repeat' first | exact Ce ‹_› | exact Nat.le_refl _); all_goals decide)<|RG.cat (t:=9) (s:=([97,100,100,32]++ao)) (u:=[32]) AA (by apply CY; (repeat' first | exact Ce ‹_› | apply al | exact Nat.le_refl _); all_goals decide)<|.r 1<|RG.cat (t:=9) (s:=(([97,100,100,32]++ao)++[32])) (u:=BF E) AA (by apply CY; (repeat' first | exact (Au _).2 | exact Ce ‹_› | apply al | exact Nat.le_refl _); all_goals decide)<|RG.cat (t:=9) (s:=((([97,100,100,32]++ao)++[32])++(BF E))) (u:=[32]) AA (by apply CY; (repeat' first | exact (Au _).2 | exact Ce ‹_› | apply al | exact Nat.le_refl _); all_goals decide)<|.r 1<|RG.cl (BV 20 (Z.bc 1) (Z.rd 1 0) AB (D:=D) (p:=b7) (F:=all)) ?_
  rintro _ w ⟨⟨af,rfl,b8⟩,b9,ce,aD,aE⟩
  have Z:=Z.rx 1 aE aD
  exact .it (af - 8)<|RG.C0 (Bu (af - 8) AB (F:=all)) Z fun w Z=>RG.cat (t:=9) (s:=(((([97,100,100,32]++ao)++[32])++(BF E))++[32])) (u:=BF (af - 8)) AA (by apply CY; (repeat' first | exact (Au _).2 | exact Ce ‹_› | apply al | exact Nat.le_refl _); all_goals decide)<|.r 1<|.d<|T.rt func15 results15 (.string (bs ((((([97,100,100,32]++ao)++[32])++(BF E))++[32])++(BF (af - 8))))) ⟨⟨(((((([97,100,100,32]++ao)++[32])++(BF E))++[32])++(BF (af - 8))):Str),(congrArg (fun s=>Value.string (bs s)) AF),(by exact M0 ‹_› AB AB)⟩,b9,by omega,Z.bc 1,Z.xr⟩
 refine .r 1<|.d<|.cf<|.s<|.g<|.eq ae 5 (fun aF=>?_) (fun aF=>?_)
 ·refine .r 1<|.d<|.ct<|.s<|.g<|.r 1<|RG.Nl 0 ([(⟨[102,108,117,115,104]⟩:Txt),(⟨[102,108,117,115,104]⟩:Txt),(⟨[102,108,117,115,104,32,49]⟩:Txt),(⟨[102,108,117,115,104,32,48]⟩:Txt)]:List Txt) [] Z fun cZ w Z=>RG.cl (Bo ([(⟨[102,108,117,115,104]⟩:Txt),(⟨[102,108,117,115,104]⟩:Txt),(⟨[102,108,117,115,104,32,49]⟩:Txt),(⟨[102,108,117,115,104,32,48]⟩:Txt)]:List Txt) (Z.bc 1) (Z.rd 1 0) AB (Z.rw_ 1 0) AD (D:=D) (p:=aa)) ?_
  rintro _ w ⟨⟨az,rfl,cg⟩,bL,ci,aG,aH⟩
  have Z:=Z.rx 1 aH aG
  exact .r 1<|.d<|T.rt func15 results15 (vT az) ⟨⟨(az:Str),(congrArg (fun s=>Value.string (bs s)) AF),(by exact O5 ‹_› AE)⟩,bL,by omega,Z.bc 1,Z.xr⟩
 refine .r 1<|.d<|.cf<|.s<|.g<|.eq ae 6 (fun aI=>?_) (fun aI=>?_)
 ·refine .r 1<|.d<|.ct<|.s<|.g<|.r 1<|RG.Nl 0 ([(⟨[109,101,114,103,101,32,48]⟩:Txt),(⟨[109,101,114,103,101,32,49]⟩:Txt),(⟨[109,101,114,103,101,32,48,32,49]⟩:Txt),(⟨[109,101,114,103,101,32,48,32,50]⟩:Txt)]:List Txt) [] Z fun c7 w Z=>RG.cl (Bo ([(⟨[109,101,114,103,101,32,48]⟩:Txt),(⟨[109,101,114,103,101,32,49]⟩:Txt),(⟨[109,101,114,103,101,32,48,32,49]⟩:Txt),(⟨[109,101,114,103,101,32,48,32,50]⟩:Txt)]:List Txt) (Z.bc 1) (Z.rd 1 0) AB (Z.rw_ 1 0) AD (D:=D) (p:=aa)) ?_
  rintro _ w ⟨⟨aA,rfl,cj⟩,bM,ck,aJ,aK⟩
  have Z:=Z.rx 1 aK aJ
  exact .r 1<|.d<|T.rt func15 results15 (vT aA) ⟨⟨(aA:Str),(congrArg (fun s=>Value.string (bs s)) AF),(by exact O5 ‹_› AE)⟩,bM,by omega,Z.bc 1,Z.xr⟩
 refine .r 1<|.d<|.cf<|.s<|.g<|.eq ae 7 (fun aL=>?_) (fun aL=>?_)
 ·refine .r 1<|.d<|.ct<|.s<|.g<|.r 1<|RG.Nl 0 ([(⟨[102,97,108,108]⟩:Txt),(⟨[112,97,114,116,115]⟩:Txt)]:List Txt) [] Z fun c8 w Z=>RG.cl (Bo ([(⟨[102,97,108,108]⟩:Txt),(⟨[112,97,114,116,115]⟩:Txt)]:List Txt) (Z.bc 1) (Z.rd 1 0) AB (Z.rw_ 1 0) AD (D:=D) (p:=aa)) ?_
  rintro _ w ⟨⟨aB,rfl,cm⟩,bN,co,aM,aN⟩
  have Z:=Z.rx 1 aN aM
  exact .r 1<|.d<|T.rt func15 results15 (vT aB) ⟨⟨(aB:Str),(congrArg (fun s=>Value.string (bs s)) AF),(by exact O5 ‹_› AE)⟩,bN,by omega,Z.bc 1,Z.xr⟩
 refine .r 1<|.d<|.cf<|.s<|.s<|.g<|.eq ae 8 (fun aO=>?_) (fun aO=>?_)
 ·refine .r 1<|.d<|.ct<|.sk<|.ct<|.s<|.g<|.r 1<|RG.Nl 0 ([(⟨[42]⟩:Txt),(⟨[97,61,112]⟩:Txt),(⟨[98,33,61,122]⟩:Txt),(⟨[97,61,113,44,98,61,112]⟩:Txt)]:List Txt) [] Z fun da w Z=>RG.cl (Bo ([(⟨[42]⟩:Txt),(⟨[97,61,112]⟩:Txt),(⟨[98,33,61,122]⟩:Txt),(⟨[97,61,113,44,98,61,112]⟩:Txt)]:List Txt) (Z.bc 1) (Z.rd 1 0) AB (Z.rw_ 1 0) AD (D:=D) (p:=aa)) ?_
  rintro _ w ⟨⟨ab,rfl,cp⟩,bO,cq,aP,aQ⟩
  have Z:=Z.rx 1 aQ aP
  refine RG.cat (t:=9) (s:=[97,115,107,32]) (u:=ab) AA (by apply CY; (repeat' first | exact GQ ‹_› | exact Nat.le_refl _); all_goals decide)<|RG.cat (t:=9) (s:=([97,115,107,32]++ab)) (u:=[32]) AA (by apply CY; (repeat' first | exact GQ ‹_› | apply al | exact Nat.le_refl _); all_goals decide)<|.r 1<|RG.cat (t:=9) (s:=(([97,115,107,32]++ab)++[32])) (u:=BF E) AA (by apply CY; (repeat' first | exact (Au _).2 | exact GQ ‹_› | apply al | exact Nat.le_refl _); all_goals decide)<|RG.cat (t:=9) (s:=((([97,115,107,32]++ab)++[32])++(BF E))) (u:=[32]) AA (by apply CY; (repeat' first | exact (Au _).2 | exact GQ ‹_› | apply al | exact Nat.le_refl _); all_goals decide)<|.r 1<|RG.cl (BV 40 (Z.bc 1) (Z.rd 1 0) AB (D:=D) (p:=bO) (F:=all)) ?_
  rintro _ w ⟨⟨ag,rfl,cr⟩,bP,cu,aR,aS⟩
  have Z:=Z.rx 1 aS aR
  exact .it (20+ag)<|RG.C0 (Bu (20+ag) AB (F:=all)) Z fun w Z=>RG.cat (t:=9) (s:=(((([97,115,107,32]++ab)++[32])++(BF E))++[32])) (u:=BF (20+ag)) AA (by apply CY; (repeat' first | exact (Au _).2 | exact GQ ‹_› | apply al | exact Nat.le_refl _); all_goals decide)<|.r 1<|.d<|T.rt func15 results15 (.string (bs ((((([97,115,107,32]++ab)++[32])++(BF E))++[32])++(BF (20+ag))))) ⟨⟨(((((([97,115,107,32]++ab)++[32])++(BF E))++[32])++(BF (20+ag))):Str),(congrArg (fun s=>Value.string (bs s)) AF),(by exact V4 ‹_› AB AB)⟩,bP,by omega,Z.bc 1,Z.xr⟩
 refine .r 1<|.d<|.cf<|.g<|.eq ae 9 (fun aT=>?_) (fun aT=>?_)
 ·refine .r 1<|.d<|.ct<|.s<|.g<|.r 1<|RG.Nl 0 ([(⟨[42]⟩:Txt),(⟨[97,61,112]⟩:Txt),(⟨[98,33,61,122]⟩:Txt),(⟨[97,61,113,44,98,61,112]⟩:Txt)]:List Txt) [] Z fun db w Z=>RG.cl (Bo ([(⟨[42]⟩:Txt),(⟨[97,61,112]⟩:Txt),(⟨[98,33,61,122]⟩:Txt),(⟨[97,61,113,44,98,61,112]⟩:Txt)]:List Txt) (Z.bc 1) (Z.rd 1 0) AB (Z.rw_ 1 0) AD (D:=D) (p:=aa)) ?_
  rintro _ w ⟨⟨ac,rfl,cw⟩,bQ,cx,aU,aV⟩
  have Z:=Z.rx 1 aV aU
  refine RG.cat (t:=9) (s:=[97,115,107,32]) (u:=ac) AA (by apply CY; (repeat' first | exact GQ ‹_› | exact Nat.le_refl _); all_goals decide)<|RG.cat (t:=9) (s:=([97,115,107,32]++ac)) (u:=[32]) AA (by apply CY; (repeat' first | exact GQ ‹_› | apply al | exact Nat.le_refl _); all_goals decide)<|.r 1<|RG.cat (t:=9) (s:=(([97,115,107,32]++ac)++[32])) (u:=BF E) AA (by apply CY; (repeat' first | exact (Au _).2 | exact GQ ‹_› | apply al | exact Nat.le_refl _); all_goals decide)<|RG.cat (t:=9) (s:=((([97,115,107,32]++ac)++[32])++(BF E))) (u:=[32]) AA (by apply CY; (repeat' first | exact (Au _).2 | exact GQ ‹_› | apply al | exact Nat.le_refl _); all_goals decide)<|.r 1<|RG.cl (BV 40 (Z.bc 1) (Z.rd 1 0) AB (D:=D) (p:=bQ) (F:=all)) ?_
  rintro _ w ⟨⟨ah,rfl,cy⟩,bR,cz,aW,aX⟩
  have Z:=Z.rx 1 aX aW
  exact .it (20+ah)<|RG.C0 (Bu (20+ah) AB (F:=all)) Z fun w Z=>RG.cat (t:=9) (s:=(((([97,115,107,32]++ac)++[32])++(BF E))++[32])) (u:=BF (20+ah)) AA (by apply CY; (repeat' first | exact (Au _).2 | exact GQ ‹_› | apply al | exact Nat.le_refl _); all_goals decide)<|.r 1<|.d<|T.rt func15 results15 (.string (bs ((((([97,115,107,32]++ac)++[32])++(BF E))++[32])++(BF (20+ah))))) ⟨⟨(((((([97,115,107,32]++ac)++[32])++(BF E))++[32])++(BF (20+ah))):Str),(congrArg (fun s=>Value.string (bs s)) AF),(by exact V4 ‹_› AB AB)⟩,bR,by omega,Z.bc 1,Z.xr⟩
 refine .r 1<|.d<|.cf<|.sk<|.ib 0<|.s<|.g<|.r 1<|RG.Nl 0 ([(⟨[119,104,97,116]⟩:Txt),(⟨[]⟩:Txt),(⟨[97,100,100,32,97,61,112]⟩:Txt),(⟨[97,100,100,32,120,32,49,32,49]⟩:Txt),(⟨[97,115,107]⟩:Txt),(⟨[109,101,114,103,101]⟩:Txt),(⟨[97,115,107,32,97,32,49,32,50]⟩:Txt)]:List Txt) [] Z fun de w Z=>RG.cl (Bo ([(⟨[119,104,97,116]⟩:Txt),(⟨[]⟩:Txt),(⟨[97,100,100,32,97,61,112]⟩:Txt),(⟨[97,100,100,32,120,32,49,32,49]⟩:Txt),(⟨[97,115,107]⟩:Txt),(⟨[109,101,114,103,101]⟩:Txt),(⟨[97,115,107,32,97,32,49,32,50]⟩:Txt)]:List Txt) (Z.bc 1) (Z.rd 1 0) AB (Z.rw_ 1 0) AD (D:=D) (p:=aa)) ?_
 rintro _ w ⟨⟨aC,rfl,cA⟩,bS,cB,aY,aZ⟩
 have Z:=Z.rx 1 aZ aY
 exact .r 1<|.d<|T.rt func15 results15 (vT aC) ⟨⟨(aC:Str),(congrArg (fun s=>Value.string (bs s)) AF),(by exact O5 ‹_› AE)⟩,bS,by omega,Z.bc 1,Z.xr⟩
theorem Bw (code:List UInt8) (h1:RepS w F a1 n1 c1 code)  : Calls Tryz.prog 10 [.slice a1 n1 c1].toArray w (Al fun rv w'=>(∃ (y:Str),rv=.string (bs (y))∧(LsO y∧y.length≤2000))∧Ext w w'):=by
 refine goT func10 ?_
 obtain ⟨rfl,aO,h1⟩:=h1.tp
 refine .s<|.g<|.r 1<|.d<|.s<|.g<|.r 1<|.cl (ND code h1 (w:=w) (F:=nin (fo F w.heap.size) [])) ?_
 rintro bh aF ⟨⟨aG,ab,aH,aI,rfl,ag,az,aa⟩,ah⟩
 have ai:∀ q_∈([]:List Nat),q_< w.heap.size:=all_nil
 have aA:Gb w.heap.size w.heap.size:=(Nat.le_refl _)
 have aP:Cov nil w ab:=OO ag (Nat.le_refl _)
 have E:=ah
 replace aa:=RepS.YN (b:=ab) (M:=[]) aa ai aA
 refine .r 1<|.d<|.s<|.g<|.r 1<|.d<|.s<|.s<|.g<|.r 1<|.cl (BV 16 az (aa.MF AI) AB (w:=aF) (F:=all)) ?_
 rintro bi ax ⟨⟨aJ,rfl,aQ⟩,aK,aR,aB,aj⟩
 replace ⟨aa,E⟩:=(so [ab] aj).g2 aa E
 refine .r 1<|.d<|.b 0<|T.loop (X:=Str × Int × Nat) ([],aJ,aK) (fun (s,n,p_)=>[(3,.pointer (some ⟨ab,0,none⟩)),(4,vT s),(5,vI n)]) (fun (s,n,p_) ae=>Chg (ins [ab]) ax ae∧Box ae ab 56 [.slice aH aG.length aI,vI (p_:Int)]∧(0≤n∧n≤15)∧((s.length:Int)+61 * n≤915)∧(p_≤20 * (20 - n.toNat))∧(LsO s)) (fun (s,n,p_)=>n.toNat) AA ⟨AA,AA,AA,trivial⟩ ⟨Chg.refl _ _,aB,AB,(by (simp; omega)),AB,(by exact LsO.nil)⟩ ?_
 rintro ⟨s,n,p_⟩ bj ae ⟨ac,ak,aS,aT,aU,aV⟩ af
 have aW:Cov (ins [ab]) ax ab:=⟨.inl AI⟩
 have am:Mv [ab] [ab] ax ae:=Mv.inl ac (all_cons AI all_nil) (all_cons (.inl AI) all_nil)
 replace ⟨aa,E⟩:=(sp am ac).g2 aa E
 refine .s<|.s<|.g<|.r 1<|.bp (n > 0) (fun aC=>?_) (fun aC=>?_)
 ·refine .d<|.ct<|.sk<|.s<|.b 1<|.g<|.r 2<|.cl (M3 ak (aa.MF AI) AB (w:=ae) (F:=all)) ?_
  rintro bk bm ⟨⟨ay,rfl,aX⟩,aL,aY,aD,ao⟩
  replace ⟨aa,E,ac⟩:=(so [ab] ao).g3 aa E ac
  exact RG.cat (t:=9) (s:=s) (u:=ay) AA AB<|RG.cat (t:=9) (s:=(s++ay)) (u:=[10]) AA (by (simp only [List.length_append,List.length_cons,List.length_nil]; omega))<|.r 1<|.d<|.ib 1<|.g<|.r 1<|.it (n - 1)<|.r 1<|.d<|af (((s++ay)++[10]),n - 1,aL) _ _ ⟨AA,AA,AA,trivial⟩ ⟨ac,aD,AB,(by (simp only [List.length_append,List.length_cons,List.length_nil]; omega)),AB,(by exact LsO.snoc ‹_› (by assumption:LnO _∧_).1)⟩ (by (simp only []; omega))
 refine .d<|.cf<|.x 0 rfl<|.s<|.s<|.g<|.r 1<|.cl (BV 40 ak (aa.MF AI) AB (w:=ae) (F:=all)) ?_
 rintro bn aM ⟨⟨aN,rfl,ba⟩,bo,bd,bg,aq⟩
 replace E:=(s1 aq).g1 E
 refine .eq aN 0 (fun aE=>?_) (fun aE=>.d<|.cf<|.sk<|.s<|.g<|.r 2<|.d<|.rt func10 results10 (vT s) ⟨⟨(s:Str),(congrArg (fun s=>Value.string (bs s)) AF),(by exact ⟨by assumption,by omega⟩)⟩,E⟩)
 refine .d<|.ct<|.g<|.r 1<|.cl (NJ [112,97,114,116,115,10] 110 AB AE (w:=aM) (F:=all)) ?_
 rintro bq br ⟨rfl,ar⟩
 replace E:=(se [] ar).g1 E
 exact RG.cat (t:=9) (s:=s) (u:=CX [112,97,114,116,115,10] ((110:Int).toNat)) AA (by (rw [Gr]; simp only [List.length_cons,List.length_nil]; omega))<|.r 1<|.d<|.s<|.g<|.r 2<|.d<|.rt func10 results10 (.string (bs (s++(CX [112,97,114,116,115,10] ((110:Int).toNat))))) ⟨⟨((s++(CX [112,97,114,116,115,10] ((110:Int).toNat))):Str),(congrArg (fun s=>Value.string (bs s)) AF),(by exact ⟨LsO.app ‹_› (RN _),by rw [List.length_append,Gr]; simp only [List.length_cons,List.length_nil]; omega⟩)⟩,E⟩
end Go.Proofs.YtckdhcbbgmiccaaGreatDoor
