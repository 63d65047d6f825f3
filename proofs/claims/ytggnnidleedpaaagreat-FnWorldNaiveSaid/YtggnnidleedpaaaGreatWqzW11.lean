/- walks; pruned haves; hints pruned; squeezed -/
import Derived.Test.YtggnnidleedpaaaGreatWqzW2
open Go.Proofs.Tryz
set_option linter.unusedVariables false
set_option linter.unusedSimpArgs false
namespace Go.Proofs.YtggnnidleedpaaaGreat
set_option maxRecDepth 100000
set_option maxHeartbeats 4000000
variable {w:World} {F:Nat→Prop} {a1:Option Addr} {n1 c1:Nat}
theorem LG (code:List UInt8) (h1:RepS w F a1 n1 c1 code)  : Calls Tryz.prog 30 [.slice a1 n1 c1].toArray w (Am fun rv w'=>(∃ (D:List UInt8) (b:Nat) (a:Option Addr) (c:Nat),rv=.pointer (some ⟨b,0,none⟩)∧w.heap.size≤b∧Box w' b 95 [.slice a D.length c,.int .i64 ((0:Nat):Int)]∧RepS w' (nin (fo F w.heap.size) [b]) a D.length c D)∧Ext w w'):=by
 refine goT func30 ?_
 obtain ⟨rfl,az,h1⟩:=h1.tp
 refine .s<|.g<|.r 1<|.d<|.s<|.s<|.g<|.r 2<|.bp ((code.length:Int) > 2000) (fun ag=>?_) (fun ag=>?_)
 ·refine .d<|.ct<|.g<|.r 1<|RG.sub (t:=22) (lo:=none) (hi:=some (vI 2000)) h1 0 2000 AA AA (.inl ⟨rfl,rfl⟩) (.inr ⟨_,_,rfl,by omega⟩) AB AB fun ar au E=>?_
  refine .r 1<|.d<|.s<|.g<|.r 2<|.np 95 [.slice ar (2000 - 0) au,vI 0] fun ax aC aa ab af ah=>?_
  have ai:=BV aa (Nat.le_refl _)
  replace ⟨h1,E⟩:=(sn [] ab aa).g2 h1 E
  have aj:=ab
  refine .r 1<|.d ?_
  have ak:=E.len; rw [ak] at E af
  exact .rt func30 results30 (.pointer (some ⟨ax,0,none⟩)) ⟨⟨_,_,_,_,rfl,ai,af,(RepS.Vx E AI)⟩,aj⟩
 refine .d<|.cf<|.sk<|.s<|.g<|.r 2<|.np 95 [.slice a1 code.length c1,vI 0] fun ay aD ac ae al am=>?_
 have ao:=BV ac (Nat.le_refl _)
 replace h1:=(sn [] ae ac).g1 h1
 have aq:=ae
 exact .r 1<|.d<|.rt func30 results30 (.pointer (some ⟨ay,0,none⟩)) ⟨⟨_,_,_,_,rfl,ao,al,(RepS.Vx h1 AI)⟩,aq⟩
theorem Az (n:Int){F:Nat→Prop}{b:Nat}{ad:Option Addr}{cd p:Nat}{D:List UInt8}(hr:Box w b 95 [.slice ad D.length cd,.int .i64 (p:Int)]) (hD:RepS w (nin all [b]) ad D.length cd D) (hp:p+1≤1000000000)  : Calls Tryz.prog 32 [.pointer (some ⟨b,0,none⟩),.int .i64 n].toArray w (Am fun rv w'=>(∃ (y:Int),rv=.int .i64 (y)∧(0≤y∧(y< n∨y=0)))∧∃ p':Nat,p'≤p+1∧Box w' b 95 [.slice ad D.length cd,.int .i64 (p':Int)]∧Chg (one b) w w'):=by
 refine goT func32 ?_
 have Z:=St.i1 F hr hD
 have ao:=hD.max
 refine .s<|.g<|.r 1<|.d<|.s<|.g<|.r 4<|RG.Lb 0 Z<|.it ((p:Int)+1)<|.r 2<|RG.Ss 0 Z fun w Z=>.d<|.s<|.s<|.g<|.r 1<|.bp (n< 1) (fun ah=>.r 8<|.d<|.ct<|.s<|.g<|.r 1<|.d<|T.rt func32 results32 (vI 0) ⟨⟨(0:Int),(congrArg (Value.int .i64) AF),AB⟩,p+1,by omega,Z.bc 0,Z.xr⟩) fun ah=>.r 4<|RG.Lb 0 Z<|.r 1<|.eq (D.length:Int) 0 (fun ai=>.r 1<|.d<|.ct<|.s<|.g<|.r 1<|.d<|T.rt func32 results32 (vI 0) ⟨⟨(0:Int),(congrArg (Value.int .i64) AF),AB⟩,p+1,by omega,Z.bc 0,Z.xr⟩) fun ai=>.r 1<|.d<|.cf<|.sk<|.s<|.g<|.r 3<|RG.Lb 0 Z<|.it (((p:Int)+1) - 1)<|.r 1<|.d<|.s<|.s<|.g<|.r 4<|RG.Lb 0 Z<|.r 1<|.bp (((p:Int)+1) - 1< (D.length:Int)) (fun aj=>?_) (fun aj=>?_)
 ·refine .d<|.ct<|.s<|.g<|.r 3<|RG.Lb 0 Z<|.r 1<|gx (h:=AB) D ((((p:Int)+1) - 1).toNat) fun af ab=>?_
  have ar:=UInt8.toNat_lt af
  exact RG.Jx (hz:=AB) 0 (((p:Int)+1) - 1) ab Z<|Z.el 0 ab fun Z=>RG.Lh 0 0 Z<|.it ((af.toNat:Int))<|.r 1<|RG.rem (t:=3) (k:=.i64) (a:=(af.toNat:Int)) (b:=n) AA AB<|.r 1<|.d<|T.rt func32 results32 (vI (Int.tmod (af.toNat:Int) n)) ⟨⟨((Int.tmod (af.toNat:Int) n):Int),(congrArg (Value.int .i64) AF),(by exact UQ AB ‹_›)⟩,p+1,by omega,Z.bc 0,Z.xr⟩
 refine .d<|.cf<|.sk<|.s<|T.Gd 44 Z fun w Z=>.r [0,1,2]<|GA.Lb 3 0 Z<|.r [4,5,6,7]<|GA.Lb 8 0 Z<|.r [9]<|GA.rem (i:=10) (t:=3) (k:=.i64) (a:=((p:Int)+1) - 1) (b:=(D.length:Int)) AA AA AB<|gx (h:=(by exact Q8 AB AB)) D (((Int.tmod (((p:Int)+1) - 1) (D.length:Int))).toNat) fun E ac=>?_
 have ax:=UInt8.toNat_lt E
 refine GA.Jx (hz:=(by exact Q9 AB)) 11 0 (Int.tmod (((p:Int)+1) - 1) (D.length:Int)) ac Z<|Z.el 0 ac fun Z=>GA.Lh 12 0 0 Z<|GA.int (i:=13) ((E.toNat:Int)) AA AB<|GA.int (i:=14) ((E.toNat:Int) * 131) AA AB<|.r [15,16,17]<|GA.Lb 18 0 Z<|.r [19]<|GA.int (i:=20) ((((p:Int)+1) - 1) * 7) AA AB<|GA.int (i:=21) ((((p:Int)+1) - 1) * 7+3) AA AB<|.r [22,23,24]<|GA.Lb 25 0 Z<|.r [26]<|GA.rem (i:=27) (t:=3) (k:=.i64) (a:=(((p:Int)+1) - 1) * 7+3) (b:=(D.length:Int)) AA AA AB<|gx (h:=(by exact Q8 AB AB)) D (((Int.tmod ((((p:Int)+1) - 1) * 7+3) (D.length:Int))).toNat) fun aa ae=>?_
 have az:=UInt8.toNat_lt aa
 refine GA.Jx (hz:=(by exact Q9 AB)) 28 1 (Int.tmod ((((p:Int)+1) - 1) * 7+3) (D.length:Int)) ae Z<|Z.el 1 ae fun Z=>GA.Lh 29 0 0 Z<|GA.int (i:=30) ((aa.toNat:Int)) AA AB<|GA.int (i:=31) ((aa.toNat:Int) * 1117) AA AB<|GA.int (i:=32) ((E.toNat:Int) * 131+((aa.toNat:Int) * 1117)) AA AB<|.r [33]<|GA.int (i:=34) ((((p:Int)+1) - 1) * 29) AA AB<|GA.int (i:=35) ((E.toNat:Int) * 131+((aa.toNat:Int) * 1117)+((((p:Int)+1) - 1) * 29)) AA AB<|.r [36,37,38,39]<|GA.Lb 40 0 Z<|.r [41] ?_
 have aA:=UR (a:=((p:Int)+1) - 1) (n:=(D.length:Int)) AB AB
 refine GA.quo (i:=42) (t:=3) (a:=((p:Int)+1) - 1) (b:=(D.length:Int)) AA AA AB AB<|GA.int (i:=43) ((Int.tdiv (((p:Int)+1) - 1) (D.length:Int)) * 53) AA AB<|GA.Dn Z fun w Z=>.it ((E.toNat:Int) * 131+((aa.toNat:Int) * 1117)+((((p:Int)+1) - 1) * 29)+((Int.tdiv (((p:Int)+1) - 1) (D.length:Int)) * 53))<|.r 1<|.d<|.s<|.g<|.r 2 ?_
 have aB:=UR (a:=(E.toNat:Int) * 131+((aa.toNat:Int) * 1117)+((((p:Int)+1) - 1) * 29)+((Int.tdiv (((p:Int)+1) - 1) (D.length:Int)) * 53)) (n:=64) AB AB
 refine RG.quo (t:=3) (a:=(E.toNat:Int) * 131+((aa.toNat:Int) * 1117)+((((p:Int)+1) - 1) * 29)+((Int.tdiv (((p:Int)+1) - 1) (D.length:Int)) * 53)) (b:=64) AA AB AB<|RG.xor (t:=3) (a:=(E.toNat:Int) * 131+((aa.toNat:Int) * 1117)+((((p:Int)+1) - 1) * 29)+((Int.tdiv (((p:Int)+1) - 1) (D.length:Int)) * 53)) (b:=(Int.tdiv ((E.toNat:Int) * 131+((aa.toNat:Int) * 1117)+((((p:Int)+1) - 1) * 29)+((Int.tdiv (((p:Int)+1) - 1) (D.length:Int)) * 53)) 64)) AA AB AB ?_
 obtain ⟨ag,aC,hz35e⟩:∃ z:Nat,z< 4611686018427387904∧((((E.toNat:Int) * 131+((aa.toNat:Int) * 1117)+((((p:Int)+1) - 1) * 29)+((Int.tdiv (((p:Int)+1) - 1) (D.length:Int)) * 53)).toNat ^^^ ((Int.tdiv ((E.toNat:Int) * 131+((aa.toNat:Int) * 1117)+((((p:Int)+1) - 1) * 29)+((Int.tdiv (((p:Int)+1) - 1) (D.length:Int)) * 53)) 64)).toNat:Nat):Int)=(z:Int):=⟨_,(PN AB AB).2,rfl⟩
 rw [hz35e]
 exact .r 1<|.d<|.s<|.g<|.r 2<|RG.rem (t:=3) (k:=.i64) (a:=(ag:Int)) (b:=n) AA AB<|.r 1<|.d<|T.rt func32 results32 (vI (Int.tmod (ag:Int) n)) ⟨⟨((Int.tmod (ag:Int) n):Int),(congrArg (Value.int .i64) AF),(by exact UQ AB ‹_›)⟩,p+1,by omega,Z.bc 0,Z.xr⟩
theorem Cp (list:List Txt){b:Nat}{ad:Option Addr}{cd p:Nat}{D:List UInt8}(hr:Box w b 95 [.slice ad D.length cd,.int .i64 (p:Int)]) (hD:RepS w (nin all [b]) ad D.length cd D) (hp:p+1≤1000000000) (h1:RepS w (nin F [b]) a1 n1 c1 list) (p0:0< list.length):Calls Tryz.prog 137 [.pointer (some ⟨b,0,none⟩),.slice a1 n1 c1].toArray w (Am fun rv w'=>(∃ (y:Str),rv=.string (bs (y))∧((⟨y⟩:Txt)∈list))∧∃ p':Nat,p'≤p+1∧Box w' b 95 [.slice ad D.length cd,.int .i64 (p':Int)]∧Chg (one b) w w'):=by
 cases h1.len
 refine goT func137 ?_
 have Z:=(St.i1 F hr hD).p1 h1
 have ai:=h1.max
 refine .s<|.g<|.r 1<|.d<|.s<|.g<|.r 4<|RG.cl (Az (list.length:Int) (Z.bc 0) (Z.rd 0 1) AB (D:=D) (p:=p) (F:=all)) ?_
 rintro _ w ⟨⟨aa,rfl,aj⟩,ag,ak,ab,ac⟩
 have Z:=Z.rx 0 ac ab
 exact gxm list (aa.toNat) fun ae E af=>RG.Jx 0 aa E Z<|Z.el 0 E fun Z=>RG.Lh 0 0 Z<|.r 1<|.d<|T.rt func137 results137 (vT ae.s) ⟨⟨(ae.s:Str),(congrArg (fun s=>Value.string (bs s)) AF),‹_›⟩,ag,by omega,Z.bc 0,Z.xr⟩
theorem FO  {F:Nat→Prop}{b:Nat}{ad:Option Addr}{cd p:Nat}{D:List UInt8}(hr:Box w b 95 [.slice ad D.length cd,.int .i64 (p:Int)]) (hD:RepS w (nin all [b]) ad D.length cd D) (hp:p+4≤1000000000)  : Calls Tryz.prog 94 [.pointer (some ⟨b,0,none⟩)].toArray w (Am fun rv w'=>(∃ (y:Row),VS (ge w.heap.size) w' (y:Row) rv∧(FD y))∧∃ p':Nat,p'≤p+4∧Box w' b 95 [.slice ad D.length cd,.int .i64 (p':Int)]∧Chg (one b) w w'):=by
 refine goT func94 ?_
 have Z:=St.i1 F hr hD
 refine .s<|.g<|RG.Np Z fun aV w Z=>.d<|.s<|.g<|.r 1<|RG.cl (Az 40 (Z.bc 1) (Z.rd 1 0) AB (D:=D) (p:=p) (F:=all)) ?_
 rintro _ w ⟨⟨ac,rfl,aJ⟩,aE,aK,ah,ai⟩
 have Z:=Z.rx 1 ai ah
 refine .r 1<|RG.cl (Az 20 (Z.bc 1) (Z.rd 1 0) AB (D:=D) (p:=aE) (F:=all)) ?_
 rintro _ w ⟨⟨ab,rfl,aL⟩,aF,aM,aj,ak⟩
 have Z:=Z.rx 1 ak aj
 refine .it (ab - 6)<|.r 1<|RG.Np Z fun aW w Z=>RG.Ss 0 Z fun w Z=>.d<|.s<|.s<|.g<|.r 1<|RG.cl (Az 40 (Z.bc 2) (Z.rd 2 0) AB (D:=D) (p:=aF) (F:=all)) ?_
 rintro _ w ⟨⟨al,rfl,aN⟩,ag,aO,am,ao⟩
 have Z:=Z.rx 2 ao am
 refine .d<|.b 0<|.s<|.g<|.eq al 0 (fun aq=>?_) (fun aq=>?_)
 ·refine .r 1<|.d<|.ct<|.g<|RG.Nl 0 ([(-1),99,100]:List Int) [] Z fun aX w Z=>.r 1<|RG.cl (Az 3 (Z.bc 3) (Z.rd 3 0) AB (D:=D) (p:=ag) (F:=all)) ?_
  rintro _ w ⟨⟨ar,rfl,aP⟩,aG,aQ,au,ax⟩
  have Z:=Z.rx 3 ax au
  refine gxm ([(-1),99,100]:List Int) (ar.toNat) fun ay E ae=>?_
  simp only [List.mem_cons,List.not_mem_nil,or_false] at ae
  exact RG.Jo 0 ar E Z<|Z.eo 0 E fun Z=>RG.Lt 0 0 Z<|.r 1<|RG.Ss 1 Z fun w Z=>.d<|.ib 0<|.s<|.g<|RG.Ln 1 Z<|RG.Ss 2 Z fun w Z=>.d<|T.Rb 2 func94 results94 Z ⟨⟨((⟨ay,ab - 6⟩:Row):Row),Z.rS (⟨ay,ab - 6⟩:Row) [] rfl,(by (unfold FD; dsimp only; omega))⟩,aG,by omega,Z.bc 3,Z.xr⟩
 refine .r 1<|.d<|.cf<|.s<|.g<|.eq al 1 (fun az=>?_) (fun az=>.r 1<|.d<|.cf<|.sk<|.ib 0<|.s<|.g<|RG.Ln 0 Z<|RG.Ss 1 Z fun w Z=>.d<|T.Rb 1 func94 results94 Z ⟨⟨((⟨ac,ab - 6⟩:Row):Row),Z.rS (⟨ac,ab - 6⟩:Row) [] rfl,(by (unfold FD; dsimp only; omega))⟩,ag,by omega,Z.bc 2,Z.xr⟩)
 refine .r 1<|.d<|.ct<|.g<|RG.Nl 0 ([(-99),99,100]:List Int) [] Z fun aY w Z=>.r 1<|RG.cl (Az 3 (Z.bc 3) (Z.rd 3 0) AB (D:=D) (p:=ag) (F:=all)) ?_
 rintro _ w ⟨⟨aA,rfl,aS⟩,aH,aT,aB,aC⟩
 have Z:=Z.rx 3 aC aB
 refine gxm ([(-99),99,100]:List Int) (aA.toNat) fun aD aa af=>?_
 simp only [List.mem_cons,List.not_mem_nil,or_false] at af
 exact RG.Jo 0 aA aa Z<|Z.eo 0 aa fun Z=>RG.Lt 0 0 Z<|.r 1<|RG.Ss 1 Z fun w Z=>.d<|.ib 0<|.s<|.g<|RG.Ln 1 Z<|RG.Ss 2 Z fun w Z=>.d<|T.Rb 2 func94 results94 Z ⟨⟨((⟨ac,aD⟩:Row):Row),Z.rS (⟨ac,aD⟩:Row) [] rfl,(by (unfold FD; dsimp only; omega))⟩,aH,by omega,Z.bc 3,Z.xr⟩
theorem FP  {F:Nat→Prop}{b:Nat}{ad:Option Addr}{cd p:Nat}{D:List UInt8}(hr:Box w b 95 [.slice ad D.length cd,.int .i64 (p:Int)]) (hD:RepS w (nin all [b]) ad D.length cd D) (hp:p+2≤1000000000)  : Calls Tryz.prog 162 [.pointer (some ⟨b,0,none⟩)].toArray w (Am fun rv w'=>(∃ (y:Tag),VS (ge w.heap.size) w' (y:Tag) rv∧(HG y∧BZ y=true))∧∃ p':Nat,p'≤p+2∧Box w' b 95 [.slice ad D.length cd,.int .i64 (p':Int)]∧Chg (one b) w w'):=by
 refine goT func162 ?_
 have Z:=St.i1 F hr hD
 refine .s<|.g<|RG.Np Z fun ao w Z=>.d<|.s<|.g<|.r 1<|RG.Nl 0 ([(⟨[97]⟩:Txt),(⟨[98]⟩:Txt),(⟨[99]⟩:Txt)]:List Txt) [] Z fun aq w Z=>RG.cl (Cp ([(⟨[97]⟩:Txt),(⟨[98]⟩:Txt),(⟨[99]⟩:Txt)]:List Txt) (Z.bc 2) (Z.rd 2 0) AB (Z.rw_ 2 0) AD (D:=D) (p:=p)) ?_
 rintro _ w ⟨⟨E,rfl,aj⟩,ag,ak,aa,ab⟩
 have Z:=Z.rx 2 ab aa
 refine .r 1<|RG.Nl 0 ([(⟨[112]⟩:Txt),(⟨[113]⟩:Txt),(⟨[122]⟩:Txt)]:List Txt) [] Z fun ar w Z=>RG.cl (Cp ([(⟨[112]⟩:Txt),(⟨[113]⟩:Txt),(⟨[122]⟩:Txt)]:List Txt) (Z.bc 3) (Z.rd 3 0) AB (Z.rw_ 3 0) AD (D:=D) (p:=ag)) ?_
 rintro _ w ⟨⟨ac,rfl,al⟩,ah,am,ae,af⟩
 have Z:=Z.rx 3 af ae
 exact .r 1<|RG.Ss 2 Z fun w Z=>.d<|T.Rb 2 func162 results162 Z ⟨⟨((⟨E,ac⟩:Tag):Tag),Z.rS (⟨E,ac⟩:Tag) [] rfl,(by exact RA ‹_› ‹_›)⟩,ah,by omega,Z.bc 3,Z.xr⟩
theorem Kd  {F:Nat→Prop}{b:Nat}{ad:Option Addr}{cd p:Nat}{D:List UInt8}(hr:Box w b 95 [.slice ad D.length cd,.int .i64 (p:Int)]) (hD:RepS w (nin all [b]) ad D.length cd D) (hp:p+20≤1000000000)  : Calls Tryz.prog 135 [.pointer (some ⟨b,0,none⟩)].toArray w (Am fun rv w'=>(∃ (y:List Tag),VL (ge w.heap.size) w' (y:List Tag) rv∧(NmX y))∧∃ p':Nat,p'≤p+20∧Box w' b 95 [.slice ad D.length cd,.int .i64 (p':Int)]∧Chg (one b) w w'):=by
 refine goT func135 ?_
 refine .s<|.g<|.r 1<|.d<|.s<|.g<|.ns 0 67 [] fun ay dC aO bq dD dE=>?_
 have dF:=Ab aO hr.lt
 have dG:=BV aO (Nat.le_refl _)
 have dH:Cov (one b) w ay:=Fp aO (Nat.le_refl _)
 replace ⟨hD,hr⟩:=(sn [b] bq aO).g2 hD hr
 have E:Chg (one b) w dC:=Chg.GX (Chg.refl (one b) w) bq
 have aZ:Own (α:=Tag) dC ay 67 (nin (ge w.heap.size) [ay,b]) 0 0 []:=Own.BN dD
 refine .r 1<|.d<|.s<|.s<|.g<|.ns 3 9 [.string (bs [97]),.string (bs [98]),.string (bs [99])] fun ac bj ba b7 dI dJ=>?_
 have fm:=Ab ba hr.lt
 have dK:=Ab ba aZ.lt
 replace ⟨hD,hr,aZ,E⟩:=(sn [ay,b] b7 ba).g4 hD hr aZ E
 have aa:Own (α:=Txt) bj ac 9 (nin (ge w.heap.size) [ac,ay,b]) 3 3 [(⟨[97]⟩:Txt),(⟨[98]⟩:Txt),(⟨[99]⟩:Txt)]:=Own.lit dI rfl AE ⟨rfl,rfl,rfl,rfl⟩
 refine .r 2<|.d<|.b 0<|T.loop (X:=(List Tag) × Nat × Nat × Nat × Nat × Nat) (([]:List Tag),ay,0,0,0,p) (fun (out,r_out,n_out,c_out,k,p_)=>[(0,.pointer (some ⟨b,0,none⟩)),(3,vS r_out n_out c_out),(7,vS ac 3 3),(8,vI 3),(9,vI (k:Int))]) (fun (out,r_out,n_out,c_out,k,p_) aI=>Chg (ins [ay,b]) bj aI∧Own aI r_out 67 (nin (ge w.heap.size) [ac,r_out,b]) n_out c_out out∧OrB r_out ay bj.heap.size∧Box aI b 95 [.slice ad D.length cd,vI (p_:Int)]∧(k≤3)∧(out.length≤k)∧(∀ t∈out,HG t)∧(∀ t∈out,BZ t=true)∧(p_≤p+2 * k)) (fun (out,r_out,n_out,c_out,k,p_)=>3 - k) AA ⟨AA,AA,AA,AA,AA,trivial⟩ ⟨Chg.refl _ _,aZ,Dv,hr,AD,AD,AD,AD,AD⟩ ?_
 rintro ⟨out,r_out,n_out,c_out,k,p_⟩ fX aI ⟨ag,ab,ax,br,fp,fq,fu,fv,fw⟩ aP
 have b8:=CZ ax dF hr.lt
 have b9:=CZ ax (Nb.symm dK) aa.lt
 have bd:=Ii ax dG E.size
 have dL:=Cm ax dH E.size
 have dM:Cov (ins [ay,b]) bj ay:=⟨.inl AI⟩
 have fA:Cov (ins [ay,b]) bj b:=⟨.inl AJ⟩
 have fB:=Cm ax dM (Nat.le_refl _)
 have ce:Mv [ac,ay,b] [ac,r_out,b] bj aI:=Mv.inl ag (all_cons AJ (all_cons AK all_nil)) (all_cons (.inl AI) (all_cons (FA ax AJ) (all_cons (.inl AK) all_nil)))
 replace ⟨hD,aa,E⟩:=(sp ce ag).g3 hD aa E
 have fC:=ab.len; have fD:=ab.max
 refine .s<|.g<|.bp ((k:Int)< 3) (fun dN=>?_) (fun dN=>?_)
 ·refine .d<|.s<|.ct<|.sk<|.s<|.b 1<|.s<|.g ?_
  have dO:k< 3:=AB
  refine RG.idx (b:=ac) (o:=0) k (len:=3) (i:=(k:Int)) (sz:=1) AA AB dO rfl ?_
  obtain ⟨bt,bu⟩:∃ y,([(⟨[97]⟩:Txt),(⟨[98]⟩:Txt),(⟨[99]⟩:Txt)]:List Txt)[k]? = some y:=⟨_,AU AB⟩
  have b6:=AV bu
  simp only [List.mem_cons,List.not_mem_nil,or_false] at b6
  obtain ⟨_,rfl,bv⟩:=aa.elem k bt bu
  replace bv:Has aI ⟨ac,0+k * Rep.sz Txt,none⟩ [vT bt.s]:=by rw [Nat.zero_add]; exact bv
  refine .lh 0 bv<|.r 1<|.d<|.s<|.g<|.r 1<|.cl (Az 2 br (hD.CU AK) AB (w:=aI) (F:=all)) ?_
  rintro fY fZ ⟨⟨eB,rfl,fF⟩,eC,fG,aQ,cg⟩
  replace ⟨hD,ab,aa,E,ag⟩:=(so [ac,r_out,b] cg).g5 hD ab aa E ag
  refine .eq eB 0 (fun dP=>?_) (fun dP=>.d<|.cf<|.sk<|.ib 1<|.g<|.it ((k:Int)+1)<|.r 1<|.d<|aP (out,r_out,n_out,c_out,k+1,eC) _ _ ⟨AA,AA,AA,AA,AA,trivial⟩ ⟨ag,ab,ax,aQ,AB,AB,‹_›,‹_›,AB⟩ (by (simp only []; omega)))
  refine .d<|.ct<|.g<|.r 3<|.ns 3 9 [.string (bs [112]),.string (bs [113]),.string (bs [122])] fun aT dQ bw ci dR dS=>?_
  have dT:=Ab bw aQ.lt
  replace ⟨hD,aQ,ab,aa,E,ag⟩:=(sn [ac,r_out,b] ci bw).g6 hD aQ ab aa E ag
  have bg:Own (α:=Txt) dQ aT 9 (nin (ge w.heap.size) [aT,ac,r_out,b]) 3 3 [(⟨[112]⟩:Txt),(⟨[113]⟩:Txt),(⟨[122]⟩:Txt)]:=Own.lit dR rfl AE ⟨rfl,rfl,rfl,rfl⟩
  refine .cl (Cp ([(⟨[112]⟩:Txt),(⟨[113]⟩:Txt),(⟨[122]⟩:Txt)]:List Txt) aQ (hD.CU AL) AB (bg.CU AL dT) AD (w:=dQ) (F:=all)) ?_
  rintro f0 f5 ⟨⟨cA,rfl,fH⟩,eD,fI,aH,cj⟩
  replace ⟨hD,ab,aa,bg,E,ag⟩:=(so [aT,ac,r_out,b] cj).g6 hD ab aa bg E ag
  refine .r 1<|.ns 1 67 [vT bt.s,vT cA] fun dU f6 aq bz cB cC=>?_
  have cD:=Ab aq aH.lt
  have bA:=Ab aq ab.lt
  have cE:=Ab aq aa.lt
  have cF:=Ab aq bg.lt
  have cG:=BV aq E.size
  replace ⟨hD,aH,ab,aa,E,ag⟩:=(se [aT,ac,r_out,b] bz).g6 hD aH ab aa E ag
  have bk:nin (ge w.heap.size) [aT,ac,r_out,b] dU∧dU≠r_out:=Dw cG (all_cons cF (all_cons cE (all_cons bA (all_cons cD all_nil)))) bA
  refine RG.CW (T:=43) (ty:=43) (y:=(⟨bt.s,cA⟩:Tag)) ab cB AA AA rfl bk AB fun bB dV ck ai aJ bC=>?_
  have cH:=HZ aJ ax ag.size
  replace ⟨hD,aH,aa,E,ag⟩:=(sa [aT,ac,r_out,b] bC aJ).g5 hD aH aa E ag
  replace ai:=ai.rn r_out
  have eE:=ai.len
  refine .r 1<|.d<|.ib 1<|.g<|.it ((k:Int)+1)<|.r 1<|.d ?_
  have cI:Mv [aT,ac,bB,b] [ac,bB,b] ck ck:=Mv.less (all_cons AJ (all_cons AK (all_cons AL all_nil)))
  replace ⟨hD,ai,aa⟩:=(sp cI (Chg.refl nil _)).g3 hD ai aa
  exact aP ((out++[(⟨bt.s,cA⟩:Tag)]),bB,n_out+1,dV,k+1,eD) _ _ ⟨AA,AA,AA,AA,AA,trivial⟩ ⟨ag,ai,cH,aH,AB,AB,(by exact NG ‹_› (RB ‹_› ‹_›).1),(by exact NG ‹_› (RB ‹_› ‹_›).2),AB⟩ (by (simp only []; omega))
 refine .d<|.s<|.cf<|.x 0 rfl<|.s<|.s<|.g<|.r 2<|.eq (n_out:Int) 0 (fun cJ=>?_) (fun cJ=>?_)
 ·refine .d<|.ct<|.g<|.r 2<|.cl (FP br (hD.CU AK) AB (w:=aI) (F:=all)) ?_
  rintro fJ fK ⟨⟨az,⟨_,rfl,rfl⟩,eG⟩,fL,eH,aj,bD⟩
  replace ⟨hD,ab,aa,E⟩:=(so [ac,r_out,b] bD).g4 hD ab aa E
  refine .ns 1 67 [vT az.key,vT az.val] fun cm fM aA bE cK cL=>?_
  have cM:=Ab aA aj.lt
  have bF:=Ab aA ab.lt
  have cN:=Ab aA aa.lt
  have cO:=BV aA E.size
  replace ⟨hD,aj,ab,aa,E⟩:=(se [ac,r_out,b] bE).g5 hD aj ab aa E
  have bm:nin (ge w.heap.size) [ac,r_out,b] cm∧cm≠r_out:=Dw cO (all_cons cN (all_cons bF (all_cons cM all_nil))) bF
  refine RG.CW (T:=43) (ty:=43) (y:=az) ab cK AA AA rfl bm AB fun af co dW ae ah bG=>?_
  have cP:=Bh ah b8 aj.lt
  have cQ:=Bh ah b9 aa.lt
  have aU:=ES ah bd E.size
  have eI:=GW ah dL E.size
  replace ⟨hD,aj,aa,E⟩:=(sa [ac,r_out,b] bG ah).g4 hD aj aa E
  replace ae:=ae.rn r_out
  have eJ:=ae.len
  refine .r 1<|.d<|.s<|.s<|.g<|.r 1<|.cl (Az 40 aj (hD.CU AK) AB (w:=dW) (F:=all)) ?_
  rintro fN cp ⟨⟨cq,rfl,eL⟩,dX,eM,ar,bH⟩
  replace ⟨hD,ae,aa,E⟩:=(so [ac,af,b] bH).g4 hD ae aa E
  refine .d<|.b 2<|.s<|.g<|.eq cq 0 (fun cR=>?_) (fun cR=>?_)
  ·refine .r 1<|.d<|.ct<|.s<|.g<|.r 2<|.cl (FP ar (hD.CU AK) AB (w:=cp) (F:=all)) ?_
   rintro fO fP ⟨⟨bh,⟨_,rfl,rfl⟩,eN⟩,dY,eO,ak,bI⟩
   replace ⟨hD,ae,aa,E⟩:=(so [ac,af,b] bI).g4 hD ae aa E
   refine .ns 1 67 [vT bh.key,vT bh.val] fun cr fQ aB bJ cS cT=>?_
   have cU:=Ab aB ak.lt
   have bK:=Ab aB ae.lt
   have cV:=Ab aB aa.lt
   have cW:=BV aB E.size
   replace ⟨hD,ak,ae,aa,E⟩:=(se [ac,af,b] bJ).g5 hD ak ae aa E
   have bn:nin (ge w.heap.size) [ac,af,b] cr∧cr≠af:=Dw cW (all_cons cV (all_cons bK (all_cons cU all_nil))) bK
   refine RG.CW (T:=43) (ty:=43) (y:=bh) ae cS AA AA rfl bn AB fun bL dZ d0 aC am bM=>?_
   have eP:=Bh am cP ak.lt
   have eQ:=Bh am cQ aa.lt
   have cX:=ES am aU E.size
   replace ⟨hD,ak,aa,E⟩:=(sa [ac,af,b] bM am).g4 hD ak aa E
   replace aC:=aC.rn af
   have eR:=aC.len
   refine .r 1<|.d ?_
   have d3:=aC.sl cX
   replace ⟨hD,aa⟩:=(sd d0 [ac,bL,b] bL).g2 hD aa
   exact .rt func135 results135 (vS bL (n_out+1+1) dZ) ⟨⟨(((out++[az])++[bh]):List Tag),(d3.vl AF (fun _ _ h=>h.1)),(by exact J8 AB (by grind [HG]) (by grind))⟩,dY,by omega,ak,E⟩
  refine .r 1<|.d<|.cf<|.s<|.g<|.eq cq 1 (fun cY=>?_) (fun cY=>?_)
  ·refine .r 1<|.d<|.ct<|.g<|.r 2<|.ns 3 9 [.string (bs []),.string (bs [111]),.string (bs [112,112])] fun aR cu aK bN cZ c7=>?_
   have c8:=Ab aK ar.lt
   have eT:=Ab aK ae.lt
   replace ⟨hD,ar,ae,aa,E⟩:=(sn [ac,af,b] bN aK).g5 hD ar ae aa E
   have c9:Own (α:=Txt) cu aR 9 (nin (ge w.heap.size) [aR,ac,af,b]) 3 3 [(⟨[]⟩:Txt),(⟨[111]⟩:Txt),(⟨[112,112]⟩:Txt)]:=Own.lit cZ rfl AE ⟨rfl,rfl,rfl,rfl⟩
   refine .cl (Cp ([(⟨[]⟩:Txt),(⟨[111]⟩:Txt),(⟨[112,112]⟩:Txt)]:List Txt) ar (hD.CU AL) AB (c9.CU AL c8) AD (w:=cu) (F:=all)) ?_
   rintro fR d4 ⟨⟨bO,rfl,eU⟩,d5,eV,aV,bP⟩
   replace ⟨hD,ae,aa,E⟩:=(so [aR,ac,af,b] bP).g4 hD ae aa E
   have da:0< n_out+1:=AB
   refine RG.idx (b:=af) (o:=0) 0 (len:=n_out+1) (i:=0) (sz:=2) AA AB da rfl<|.r 1 ?_
   obtain ⟨aD,aL⟩:∃ y,(out++[az])[0]? = some y:=⟨_,AU AB⟩
   have eW:=Be aL; have d6:=AV aL
   obtain ⟨_,rfl,aW⟩:=ae.elem 0 aD aL
   replace aW:Has d4 ⟨af,0+0 * Rep.sz Tag,none⟩ [vT aD.key,vT aD.val]:=by rw [Nat.zero_add]; exact aW
   refine RG.EH (t':=9) (i:=0) (k:=1) (v:=vT bO) (cs:=[vT aD.key,vT aD.val]) (⟨aD.key,bO⟩:Tag) ae aL aW AA AA AA rfl fun d7 db bQ de=>?_
   replace ⟨hD,aV,aa,E⟩:=(so [aR,ac,af,b] bQ).g4 hD aV aa E
   refine .d<|.ib 2<|.s<|.g<|.r 2<|.d ?_
   have d8:=db.sl aU
   replace ⟨hD,aa⟩:=(sd d7 [aR,ac,af,b] af).g2 hD aa
   exact .rt func135 results135 (vS af (n_out+1) co) ⟨⟨(((out++[az]).set 0 (⟨aD.key,bO⟩:Tag)):List Tag),(d8.vl AF (fun _ _ h=>h.1)),(by exact PQ AB (by grind [HG]) (by grind))⟩,d5,by omega,aV,E⟩
  refine .r 1<|.d<|.cf<|.sk<|.ib 2<|.s<|.g<|.r 2<|.d ?_
  have d9:=ae.sl aU
  replace ⟨hD,aa⟩:=(sd cp [ac,af,b] af).g2 hD aa
  exact .rt func135 results135 (vS af (n_out+1) co) ⟨⟨((out++[az]):List Tag),(d9.vl AF (fun _ _ h=>h.1)),(by exact J8 AB (by grind [HG]) (by grind))⟩,dX,by omega,ar,E⟩
 refine .d<|.cf<|.sk<|.s<|.s<|.g<|.r 1<|.cl (Az 40 br (hD.CU AK) AB (w:=aI) (F:=all)) ?_
 rintro fS cw ⟨⟨cx,rfl,eX⟩,ec,eY,au,bR⟩
 replace ⟨hD,ab,aa,E⟩:=(so [ac,r_out,b] bR).g4 hD ab aa E
 refine .d<|.b 2<|.s<|.g<|.eq cx 0 (fun df=>?_) (fun df=>?_)
 ·refine .r 1<|.d<|.ct<|.s<|.g<|.r 2<|.cl (FP au (hD.CU AK) AB (w:=cw) (F:=all)) ?_
  rintro fT fU ⟨⟨bi,⟨_,rfl,rfl⟩,eZ⟩,ee,e7,al,bS⟩
  replace ⟨hD,ab,aa,E⟩:=(so [ac,r_out,b] bS).g4 hD ab aa E
  refine .ns 1 67 [vT bi.key,vT bi.val] fun cy fV aE bT dh dj=>?_
  have dm:=Ab aE al.lt
  have bU:=Ab aE ab.lt
  have dp:=Ab aE aa.lt
  have dq:=BV aE E.size
  replace ⟨hD,al,ab,aa,E⟩:=(se [ac,r_out,b] bT).g5 hD al ab aa E
  have bo:nin (ge w.heap.size) [ac,r_out,b] cy∧cy≠r_out:=Dw dq (all_cons dp (all_cons bU (all_cons dm all_nil))) bU
  refine RG.CW (T:=43) (ty:=43) (y:=bi) ab dh AA AA rfl bo AB fun bV ef eg aF ao bW=>?_
  have e8:=Bh ao b8 al.lt
  have fa:=Bh ao b9 aa.lt
  have dt:=ES ao bd E.size
  replace ⟨hD,al,E⟩:=(sa [ac,r_out,b] bW ao).g3 hD al E
  replace aF:=aF.rn r_out
  have fb:=aF.len
  refine .r 1<|.d ?_
  have eh:=aF.sl dt
  replace hD:=(sd eg [ac,bV,b] bV).g1 hD
  exact .rt func135 results135 (vS bV (n_out+1) ef) ⟨⟨((out++[bi]):List Tag),(eh.vl AF (fun _ _ h=>h.1)),(by exact J8 AB (by grind [HG]) (by grind))⟩,ee,by omega,al,E⟩
 refine .r 1<|.d<|.cf<|.s<|.g<|.eq cx 1 (fun du=>?_) (fun du=>?_)
 ·refine .r 1<|.d<|.ct<|.g<|.r 2<|.ns 3 9 [.string (bs []),.string (bs [111]),.string (bs [112,112])] fun aS cz aM bX dv dw=>?_
  have dx:=Ab aM au.lt
  have fe:=Ab aM ab.lt
  replace ⟨hD,au,ab,E⟩:=(sn [ac,r_out,b] bX aM).g4 hD au ab E
  have dy:Own (α:=Txt) cz aS 9 (nin (ge w.heap.size) [aS,ac,r_out,b]) 3 3 [(⟨[]⟩:Txt),(⟨[111]⟩:Txt),(⟨[112,112]⟩:Txt)]:=Own.lit dv rfl AE ⟨rfl,rfl,rfl,rfl⟩
  refine .cl (Cp ([(⟨[]⟩:Txt),(⟨[111]⟩:Txt),(⟨[112,112]⟩:Txt)]:List Txt) au (hD.CU AL) AB (dy.CU AL dx) AD (w:=cz) (F:=all)) ?_
  rintro fW ej ⟨⟨bY,rfl,ff⟩,ek,fg,aX,bZ⟩
  replace ⟨hD,ab,E⟩:=(so [aS,ac,r_out,b] bZ).g3 hD ab E
  have dz:0< n_out:=AB
  refine RG.idx (b:=r_out) (o:=0) 0 (len:=n_out) (i:=0) (sz:=2) AA AB dz rfl<|.r 1 ?_
  obtain ⟨aG,aN⟩:∃ y,out[0]? = some y:=⟨_,AU AB⟩
  have en:=AV aN
  obtain ⟨_,rfl,aY⟩:=ab.elem 0 aG aN
  replace aY:Has ej ⟨r_out,0+0 * Rep.sz Tag,none⟩ [vT aG.key,vT aG.val]:=by rw [Nat.zero_add]; exact aY
  refine RG.EH (t':=9) (i:=0) (k:=1) (v:=vT bY) (cs:=[vT aG.key,vT aG.val]) (⟨aG.key,bY⟩:Tag) ab aN aY AA AA AA rfl fun ey dA b0 dB=>?_
  replace ⟨hD,aX,E⟩:=(so [aS,ac,r_out,b] b0).g3 hD aX E
  refine .d<|.ib 2<|.s<|.g<|.r 2<|.d ?_
  have ez:=dA.sl bd
  replace hD:=(sd ey [aS,ac,r_out,b] r_out).g1 hD
  exact .rt func135 results135 (vS r_out n_out c_out) ⟨⟨((out.set 0 (⟨aG.key,bY⟩:Tag)):List Tag),(ez.vl AF (fun _ _ h=>h.1)),(by exact PQ AB (by grind [HG]) ‹_›)⟩,ek,by omega,aX,E⟩
 refine .r 1<|.d<|.cf<|.sk<|.ib 2<|.s<|.g<|.r 2<|.d ?_
 have eA:=ab.sl bd
 replace hD:=(sd cw [ac,r_out,b] r_out).g1 hD
 exact .rt func135 results135 (vS r_out n_out c_out) ⟨⟨(out:List Tag),(eA.vl AF (fun _ _ h=>h.1)),(by exact J8 AB ‹_› ‹_›)⟩,ec,by omega,au,E⟩
end Go.Proofs.YtggnnidleedpaaaGreat
namespace Go.Proofs.YtggnnidleedpaaaGreat
def TK (P:Program) (s d:TypeId):Bool :=
 match P.underlying s,P.underlying d with
 | some (.slice e),some .string=>(match P.underlying e with | some (.int .u8)=>true | _=>false)
 | _,_=>false
theorem Ke {P:Program}{w:World}{r:Nat}{src dst:TypeId}{y:UInt8}{c:Nat}(h:Has w ⟨r,0,none⟩ [.int .u8 (y.toNat:Int)]) (hb:TK P src dst=true) :
 (convert src dst (.slice (some ⟨r,0,none⟩) 1 c)).run P w=.ok (.string (bs [y])) w:=by
 unfold TK at hb
 split at hb
 ·rename_i e h1 h2
  split at hb
  ·rename_i h3
   have h4:=run_loadCellsFrom (P:=P) ⟨r,0,none⟩ [.int .u8 (y.toNat:Int)] 0 #[] _ rfl h
   have h5:(loadCells ⟨r,0,none⟩ 1).run P w=.ok #[.int .u8 (y.toNat:Int)] w:=h4
   have h6:(Conv.bytesToString (.slice (some ⟨r,0,none⟩) 1 c)).run P w=.ok (.string (bs [y])) w:=by
    unfold Conv.bytesToString
    simp only []
    rw [AX h5]
    simp [go_sem]
    rfl
   unfold convert
   rw [AX (run_underlying h1 w),AX (run_underlying h2 w)]
   simp only []
   rw [AX (run_underlying h3 w)]
   exact h6
  ·cases hb
 ·cases hb
def RC (n:Nat) (ops:Array Oper) (j:Nat) (e:Env):Option (TypeId × TypeId × Value) :=
 bif CP n ops j e then
  match (Ad ops j).op with
  | .convert s d x=>some (s,d,ev e x)
  | _=>none
 else none
theorem Is {P:Program}{n:Nat}{ops:Array Oper}{j:Nat}{e:Env}{s d:TypeId}{a v:Value}{w:World}(h:RC n ops j e=some (s,d,a))
 (hr:(convert s d a).run P w=.ok v w):CP n ops j e=true∧(execOp (ev e) (Ad ops j)).run P w=.ok (.value v) w:=by
 obtain ⟨hg,h⟩:=CN h
 refine ⟨hg,?_⟩
 split at h
 ·rename_i s' d' x hop
  simp only [Option.some.injEq,Prod.mk.injEq] at h
  obtain ⟨rfl,rfl,rfl⟩:=h
  simp only [execOp,hop]
  exact AX hr
 ·cases h
theorem GA.b2s {P:Program}{n m:Nat}{L:Env→World→Prop}{ops:Array Oper}{l:List Nat}{e:Env}{w:World}{i:Nat}{s d:TypeId}{r c:Nat}{y:UInt8}{t:TypeId}{F:Nat→Prop}
 (hb:gB n m ops l i=true) (ho:Own w r t F 1 c [y]) (h:RC n ops i e=some (s,d,.slice (some ⟨r,0,none⟩) 1 c)) (ht:TK P s d=true)
 (H:GA P nil n m L ops (i::l) (Ah e (Ad ops i).dst (.string (bs [y]))) w):GA P nil n m L ops l e w:=by
 obtain ⟨cs,h1,h2⟩:=ho.elem 0 y rfl
 cases h1
 have h3:Has w ⟨r,0,none⟩ [.int .u8 (y.toNat:Int)]:=by simpa using h2
 have h4:=Is (P:=P) (w:=w) h (Ke h3 ht)
 refine GA.det (by unfold gB at hb; rw [hb,h4.1]; rfl) (fun w1 hx=>?_) H
 exact (Is (P:=P) (w:=w1) h (Ke (h3.ext hx) ht)).2
def Hc (at_:UInt8) (out:List Txt):List UInt8→List Txt
 | []=>out
 | x::xs=>if x=at_ then Hc at_ (out++[⟨[]⟩]) xs else Hc at_ (out.set (out.length - 1) ⟨(out.getD (out.length - 1) ⟨[]⟩).s++[x]⟩) xs
def H7 (s:List UInt8) (at_:UInt8):List Txt:=Hc at_ [⟨[]⟩] s
theorem RD {at_:UInt8}{s:List UInt8}{i:Nat}{out:List Txt}{x:UInt8}{Y:List Txt}(h:Hc at_ out (s.drop i)=Y) (hd:s.drop i=x::s.drop (i+1)) (he:(x.toNat:Int)=(at_.toNat:Int)):Hc at_ (out++[⟨[]⟩]) (s.drop (i+1))=Y:=by
 have:x=at_:=UInt8.toNat_inj.1 AB
 rw [hd] at h
 unfold Hc at h
 rw [if_pos this] at h
 exact h
theorem RE {at_:UInt8}{s:List UInt8}{i:Nat}{out:List Txt}{x:UInt8}{Y:List Txt}{t:Txt}{k:Nat}(h:Hc at_ out (s.drop i)=Y) (hd:s.drop i=x::s.drop (i+1)) (he:(x.toNat:Int)≠(at_.toNat:Int)) (hk:k=out.length - 1) (ht:out[k]? = some t):Hc at_ (out.set k ⟨t.s++[x]⟩) (s.drop (i+1))=Y:=by
 have:x≠at_:=fun e=>he (by rw [e])
 rw [hd] at h
 unfold Hc at h
 rw [if_neg this,List.getD_eq_getElem?_getD,← hk,ht] at h
 exact h
theorem Uy {at_:UInt8}{s:List UInt8}{i:Nat}{out:List Txt}{Y:List Txt}(h:Hc at_ out (s.drop i)=Y) (hi:s.length≤i):out=Y:=by
 rw [Aa hi] at h
 exact h
def H8 (s:Str):Bool:=decide (s.length=4)&&decide (s[1]? = some 33)
def FE (s:Str):Str:=if H8 s then s.take 1++s.drop 2 else s
def D2 (s:Str):Cnd × Bool :=
 if (FE s).length=3∧(FE s)[1]? = some 61 then (⟨⟨(FE s).take 1,(FE s).drop 2⟩,H8 s⟩,BZ ⟨(FE s).take 1,(FE s).drop 2⟩) else (⟨⟨[],[]⟩,H8 s⟩,false)
def GF:List Cnd→List Txt→List Cnd × Bool
 | out,[]=>(out,true)
 | out,t::ts=>if (D2 t.s).2=false∨out.length≥3 then ([],false) else GF (out++[(D2 t.s).1]) ts
def Bc (s:Str):List Cnd × Bool:=if s=[42] then ([],true) else GF [] (H7 s 44)
def Dt:List Tag→List Cnd→Option (List Tag)
 | out,[]=>some out
 | out,c::cs=>if c.no then none else Dt (out++[c.tag]) cs
def Fe (s:Str):List Tag:=match Dt [] (Bc s).1 with
 | some out=>if (Bc s).2=true∧Aq out=true then out else []
 | none=>[]
theorem It {w:Str}(h:(w.length:Int)≠4):H8 w=false∧FE w=w:=by
 have:H8 w=false:=by unfold H8; rw [decide_eq_false AB]; rfl
 exact ⟨this,by unfold FE; rw [this]; rfl⟩
theorem Iu {w:Str}{y:UInt8}(h:(w.length:Int)=4) (hy:w[1]? = some y) (h2:(y.toNat:Int)≠33):H8 w=false∧FE w=w:=by
 have:H8 w=false:=by
  unfold H8
  rw [hy,decide_eq_false (p:=some y=some 33),Bool.and_false]
  intro e
  cases e
  exact h2 rfl
 exact ⟨this,by unfold FE; rw [this]; rfl⟩
theorem Iv {w:Str}{y:UInt8}(h:(w.length:Int)=4) (hy:w[1]? = some y) (h2:(y.toNat:Int)=33):H8 w=true∧FE w=((w.take 1).drop 0)++((w.take w.length).drop 2):=by
 have hy2:y=33:=UInt8.toNat_inj.1 (by show y.toNat=33; omega)
 have:H8 w=true:=by
  unfold H8
  rw [hy,hy2,decide_eq_true AB]
  rfl
 exact ⟨this,by unfold FE; rw [this]; simp⟩
theorem C1 {w u:Str}{b:Bool}(h:H8 w=b∧FE w=u) (h2:(u.length:Int)≠3∨(∃ z,u[1]? = some z∧(z.toNat:Int)≠61)):D2 w=(⟨⟨[],[]⟩,b⟩,false):=by
 obtain ⟨rfl,rfl⟩:=h
 unfold D2
 rw [if_neg]
 rintro ⟨h3,h4⟩
 rcases h2 with h2 | ⟨z,h2,h5⟩
 ·omega
 ·rw [h2] at h4
  cases h4
  exact h5 rfl
theorem Es {w u:Str}{b:Bool}{z:UInt8}(h:H8 w=b∧FE w=u) (h1:(u.length:Int)=3) (h2:u[1]? = some z) (h3:(z.toNat:Int)=61) :
 D2 w=(⟨⟨(u.take 1).drop 0,(u.take u.length).drop 2⟩,b⟩,BZ ⟨(u.take 1).drop 0,(u.take u.length).drop 2⟩):=by
 obtain ⟨rfl,rfl⟩:=h
 have hz:z=61:=UInt8.toNat_inj.1 (by show z.toNat=61; omega)
 unfold D2
 rw [if_pos ⟨by omega,by rw [h2,hz]⟩]
 simp
theorem Uz {out:List Txt}{i k:Nat}{t:Txt}{y:UInt8}(h:∀ t∈out,t.s.length≤i) (ht:out[k]? = some t):∀ t'∈out.set k ⟨t.s++[y]⟩,t'.s.length≤i+1:=by
 intro t' ht'
 rcases List.mem_or_eq_of_mem_set ht' with ht' | rfl
 ·have:=h t' ht'; omega
 ·have:=h t (AV ht)
  simp only [List.length_append,List.length_cons,List.length_nil]; omega
theorem PR {out:List Txt}{i:Nat}(h:∀ t∈out,t.s.length≤i):∀ t'∈out++[⟨[]⟩],t'.s.length≤i+1:=by
 intro t' ht'
 rcases List.mem_append.1 ht' with ht' | ht'
 ·have:=h t' ht'; omega
 ·simp at ht'; subst ht'; simp
theorem RF (a:UInt8):∀ (s:List UInt8) (out:List Txt) (i:Nat),(∀ t∈out,t.s.length≤i)→(∀ t∈Hc a out s,t.s.length≤i+s.length)∧(Hc a out s).length≤out.length+s.length:=by
 intro s
 induction s with
 | nil=>intro out i h; exact ⟨fun t ht=>by have:=h t ht; simpa using this,by unfold Hc; simp⟩
 | cons x xs ih =>
   intro out i h
   unfold Hc
   split
   ·obtain ⟨h1,h2⟩:=ih (out++[⟨[]⟩]) (i+1) (PR h)
    refine ⟨fun t ht=>?_,?_⟩
    ·have:=h1 t ht; simp only [List.length_cons]; omega
    ·simp only [List.length_append,List.length_cons,List.length_nil] at h2 ⊢; omega
   ·have h3:∀ t∈out.set (out.length - 1) ⟨(out.getD (out.length - 1) ⟨[]⟩).s++[x]⟩,t.s.length≤i+1:=by
     intro t ht
     rcases List.mem_or_eq_of_mem_set ht with ht | rfl
     ·have:=h t ht; omega
     ·rw [List.getD_eq_getElem?_getD]
      cases hq:out[out.length - 1]? with
      | none=>simp
      | some q=>have:=h q (AV hq); simp; omega
    obtain ⟨h1,h2⟩:=ih _ (i+1) h3
    refine ⟨fun t ht=>?_,?_⟩
    ·have:=h1 t ht; simp only [List.length_cons]; omega
    ·simp only [List.length_set,List.length_cons] at h2 ⊢; omega
theorem NH (s:List UInt8) (a:UInt8):(∀ t∈H7 s a,t.s.length≤s.length)∧(H7 s a).length≤s.length+1:=by
 obtain ⟨h1,h2⟩:=RF a s [⟨[]⟩] 0 AD
 refine ⟨fun t ht=>by have:=h1 t ht; omega,?_⟩
 unfold H7
 simp only [List.length_cons,List.length_nil] at h2; omega
theorem J9 {out:List Cnd}{ts:List Txt}{i:Nat}{t:Txt}{Y:List Cnd × Bool}(h:GF out (ts.drop i)=Y) (hd:ts.drop i=t::ts.drop (i+1)) (h2:(D2 t.s).2=false∨(out.length:Int)≥3):Y=([],false):=by
 rw [hd] at h
 unfold GF at h
 rw [if_pos (by rcases h2 with h2 | h2; exact .inl h2; exact .inr AB)] at h
 exact h.symm
theorem RH {out:List Cnd}{ts:List Txt}{i:Nat}{t:Txt}{Y:List Cnd × Bool}(h:GF out (ts.drop i)=Y) (hd:ts.drop i=t::ts.drop (i+1)) (h2:(D2 t.s).2=true) (h3:¬ (out.length:Int)≥3):GF (out++[(D2 t.s).1]) (ts.drop (i+1))=Y:=by
 rw [hd] at h
 unfold GF at h
 rw [if_neg (by rw [h2]; simp; omega)] at h
 exact h
theorem PS {out:List Cnd}{ts:List Txt}{i:Nat}{Y:List Cnd × Bool}(h:GF out (ts.drop i)=Y) (hi:ts.length≤i):Y=(out,true):=by
 rw [Aa hi] at h
 exact h.symm
theorem P2:∀ (ts:List Txt) (out:List Cnd),out.length≤3→(GF out ts).1.length≤3:=by
 intro ts
 induction ts with
 | nil=>intro out h; exact h
 | cons t ts ih =>
   intro out h
   unfold GF
   split
   ·simp
   ·rename_i h2
    refine ih _ ?_
    simp only [not_or] at h2
    simp only [List.length_append,List.length_cons,List.length_nil]; omega
theorem G8 (s:Str):(Bc s).1.length≤3:=by
 unfold Bc
 split
 ·simp
 ·exact P2 _ _ AD
theorem Kf {s:Str}(h:(s==[42])=true):Bc s=([],true):=by unfold Bc; rw [if_pos (by simpa using h)]
theorem OS {s:Str}(h:(s==[42])=false):GF [] (H7 s 44)=Bc s:=by unfold Bc; rw [if_neg (by simpa using h)]
theorem NI {out:List Tag}{cs:List Cnd}{i:Nat}{c:Cnd}{Y:Option (List Tag)}(h:Dt out (cs.drop i)=Y) (hd:cs.drop i=c::cs.drop (i+1)) (h2:c.no=true):Y=none:=by
 rw [hd] at h
 unfold Dt at h
 rw [if_pos h2] at h
 exact h.symm
theorem NJ {out:List Tag}{cs:List Cnd}{i:Nat}{c:Cnd}{Y:Option (List Tag)}(h:Dt out (cs.drop i)=Y) (hd:cs.drop i=c::cs.drop (i+1)) (h2:c.no=false):Dt (out++[c.tag]) (cs.drop (i+1))=Y:=by
 rw [hd] at h
 unfold Dt at h
 rw [if_neg (by rw [h2]; simp)] at h
 exact h
theorem NK {s:Str}(h:Dt [] (Bc s).1=none):Fe s=[]:=by unfold Fe; rw [h]
theorem Lf {s:Str}{out:List Tag}{i:Nat}(h:Dt out ((Bc s).1.drop i)=Dt [] (Bc s).1) (hi:(Bc s).1.length≤i):Fe s=if (Bc s).2=true∧Aq out=true then out else []:=by
 rw [Aa hi] at h
 unfold Fe
 rw [← h]
 rfl
theorem NL {s:Str}{out:List Tag}{i:Nat}(h:Dt out ((Bc s).1.drop i)=Dt [] (Bc s).1) (hi:(Bc s).1.length≤i) (h2:(Bc s).2=false∨Aq out=false):Fe s=[]:=by
 rw [Lf h hi,if_neg]
 rintro ⟨h3,h4⟩
 rcases h2 with h2 | h2
 ·rw [h2] at h3; cases h3
 ·rw [h2] at h4; cases h4
theorem RI {s:Str}{out:List Tag}{i:Nat}(h:Dt out ((Bc s).1.drop i)=Dt [] (Bc s).1) (hi:(Bc s).1.length≤i) (h2:(Bc s).2=true) (h3:Aq out=true):Fe s=out:=by
 rw [Lf h hi,if_pos ⟨h2,h3⟩]
end Go.Proofs.YtggnnidleedpaaaGreat
namespace Go.Proofs.YtggnnidleedpaaaGreat
set_option maxRecDepth 100000
set_option maxHeartbeats 4000000
variable {w:World} {F:Nat→Prop}
theorem MX (text_:Str) (by_:UInt8){F:Nat→Prop}  (p0:text_.length≤1000):Calls Tryz.prog 182 [.string (bs text_),.int .u8 (by_.toNat:Int)].toArray w (Am fun rv w'=>VL (ge w.heap.size) w' (H7 text_ by_:List Txt) rv∧Ext w w'):=by
 refine goT func182 ?_
 have Z:=St.i0 F w
 refine .s<|.g<|.r 1<|.d<|.s<|.g<|RG.Nl 0 ([(⟨[]⟩:Txt)]:List Txt) [] Z fun ai w Z=>.r 1<|.d<|.s<|.s<|.g<|.r 1<|.d<|.b 0<|T.Lp (([(⟨[]⟩:Txt)]:List Txt),ai,(1:Nat),(0:Nat)) (fun (out,r_out,c_out,i)=>([(0,vT text_),(1,.int .u8 (by_.toNat:Int)),(5,vS r_out out.length c_out),(6,vI (i:Int))],[(0,.own 0 r_out 9 c_out out)],[],text_.length - i,(i≤text_.length)∧(0< out.length)∧(out.length≤i+1)∧(∀ t∈out,t.s.length≤i)∧(Hc by_ out (text_.drop i)=H7 text_ by_))) [] Z ⟨AD,AD,AD,AD,AF⟩ ?_
 rintro ⟨out,r_out,c_out,i⟩ az w Z ⟨al,am,ao,aq,ar⟩ aa
 refine .s<|.s<|.g<|.r 2<|RG.eqv (v:=vI (text_.length:Int)) AA (Hv text_)<|.bp ((i:Int)< (text_.length:Int)) (fun af=>?_) (fun af=>.d<|.cf<|.x 0 rfl<|.s<|.g<|.r 2<|.d<|T.Rt func182 results182 ⟨Z.rM 0 out (by exact Uy ‹_› AB),Z.xt⟩)
 refine .d<|.ct<|.sk<|.s<|.b 1<|.s<|.g<|.r 2 ?_
 obtain ⟨ab,ac⟩:∃ y,text_[i]? = some y:=⟨_,AU AB⟩
 have ax:=Be ac
 exact RG.MH (t:=9) (s:=text_) (k:=.i64) (i:=(i:Int)) i AA AA AB ac<|.r 1<|.eq (ab.toNat:Int) (by_.toNat:Int) (fun ag=>.d<|.ct<|.g<|.r 1<|RG.Nb 1 Z fun aA w Z=>RG.Ap 0 0 out (⟨[]⟩:Txt) [] Z fun aj ak w Z=>.r 1<|.d<|.ib 1<|.g<|.r 1<|.it ((i:Int)+1)<|.r 1<|.d<|aa ((out++[(⟨[]⟩:Txt)]),aj,ak,i+1) _ _ AA (Z.to 0 [] 0) ⟨AB,(by simp <;> omega),(by (simp <;> omega)),(by exact PR ‹_›),(by exact RD ‹_› ‹_› ‹_›)⟩ (by (simp only []; omega))) fun ag=>.d<|.cf<|T.Gd 16 Z fun w Z=>.r [0,1,2]<|GA.int (i:=3) ((out.length:Int) - 1) AA AB<|.r [4,5,6]<|GA.int (i:=7) ((out.length:Int) - 1) AA AB<|gxm out (out.length - 1) fun ae E ah=>GA.Jo 8 0 ((out.length:Int) - 1) E Z<|Z.eo 0 E fun Z=>GA.Lt 9 0 0 Z<|.r [10,11]<|GA.MH (i:=12) (t:=9) (s:=text_) (k:=.i64) (z:=(i:Int)) AA i AA AA AB ac<|.go 13<|GE.Nl 0 ([ab]:List UInt8) [] Z fun aB w Z=>GA.b2s (i:=14) (s:=22) (d:=9) (y:=ab) AA (Z.ow 0 ([ab]:List UInt8) AA).1 AA AA<|GA.cat (i:=15) (t:=9) (s:=ae.s) (u:=[ab]) AA AA (by have q1:∀ t∈out,t.s.length≤i:=‹_›; have q2:=q1 _ ‹_›; simp only [List.length_cons,List.length_nil]; omega)<|GA.Dn Z fun w Z=>RG.Jo 1 ((out.length:Int) - 1) E Z<|RG.Se 1 0 0 E (⟨(ae.s++[ab])⟩:Txt) [] Z fun w Z=>.d<|.ib 1<|.g<|.r 1<|.it ((i:Int)+1)<|.r 1<|.d<|aa ((out.set (out.length - 1) (⟨(ae.s++[ab])⟩:Txt)),r_out,c_out,i+1) _ _ (by simp only [List.length_set]; kernel_rfl) (Z.to 1 [] 0) ⟨AB,(by simp <;> omega),(by (simp <;> omega)),(by exact Uz ‹_› ‹_›),(by exact RE ‹_› ‹_› ‹_› AB ‹_›)⟩ (by (simp only []; omega))
theorem LH (w_:Str){F:Nat→Prop}  (p0:w_.length≤1000):Calls Tryz.prog 183 [.string (bs w_)].toArray w (Am fun rv w'=>(∃ v0,rv=.tuple #[v0,.bool ((D2 w_).2)]∧VS (ge w.heap.size) w' ((D2 w_).1:Cnd) v0)∧Ext w w'):=by
 refine goT func183 ?_
 have Z:=St.i0 F w
 refine .s<|.g<|RG.Np Z fun aA w Z=>.r 1<|.d<|.s<|.g<|.r 1<|RG.Np Z fun aB w Z=>RG.Ss 0 Z fun w Z=>.d<|.s<|.s<|.g<|.r 1<|RG.eqv (v:=vI (w_.length:Int)) AA (Hv w_)<|.eq (w_.length:Int) 4 (fun ae=>?_) (fun ae=>?_)
 ·refine .r 2 ?_
  obtain ⟨ac,E⟩:∃ y,w_[1]? = some y:=⟨_,AU AB⟩
  refine RG.MH (t:=9) (s:=w_) (k:=.i64) (i:=1) 1 AA AA AB E<|.eq (ac.toNat:Int) 33 (fun af=>?_) (fun af=>.r 1<|.d<|.cf<|.sk<|.s<|.s<|.g<|.r 1<|RG.eqv (v:=vI (w_.length:Int)) AA (Hv w_)<|.ne (w_.length:Int) 3 (fun ag=>.r 5<|.d<|.ct<|.s<|.g<|RG.Ln 0 Z<|RG.Ss 1 Z fun w Z=>.r 1<|.d<|T.r2 func183 results183 (.B 1 Z) (.t (.bool false)) ⟨⟨_,(Bx rfl (AG (by rw [C1 (Iu ‹_› ‹_› ‹_›) (.inl ‹_›)]))),Z.rS (⟨(⟨[],[]⟩:Tag),false⟩:Cnd) [] (by rw [C1 (Iu ‹_› ‹_› ‹_›) (.inl ‹_›)])⟩,Z.xt⟩) fun ag=>.r 2<|RG.MH (t:=9) (s:=w_) (k:=.i64) (i:=1) 1 AA AA AB E<|.ne (ac.toNat:Int) 61 (fun ah=>.r 1<|.d<|.ct<|.s<|.g<|RG.Ln 0 Z<|RG.Ss 1 Z fun w Z=>.r 1<|.d<|T.r2 func183 results183 (.B 1 Z) (.t (.bool false)) ⟨⟨_,(Bx rfl (AG (by rw [C1 (Iu ‹_› ‹_› ‹_›) (.inr ⟨_,by assumption,by assumption⟩)]))),Z.rS (⟨(⟨[],[]⟩:Tag),false⟩:Cnd) [] (by rw [C1 (Iu ‹_› ‹_› ‹_›) (.inr ⟨_,by assumption,by assumption⟩)])⟩,Z.xt⟩) fun ah=>.r 1<|.d<|.cf<|.sk<|.s<|T.Gd 4 Z fun w Z=>.r [0]<|GA.MJ (i:=1) (t:=9) (lo:=none) (hi:=some (vI 1)) (s:=w_) AA 0 1 AA AA (.inl ⟨rfl,rfl⟩) (.inr ⟨_,_,rfl,by omega⟩) AB AB<|.r [2]<|GA.MJ (i:=3) (t:=9) (lo:=some (vI 2)) (hi:=none) (s:=w_) AA 2 w_.length AA AA (.inr ⟨_,_,rfl,by omega⟩) (.inl ⟨rfl,rfl⟩) AB AB<|GA.Dn Z fun w Z=>.r 2<|RG.Ss 0 Z fun w Z=>.d<|.s<|T.Gd 4 Z fun w Z=>GA.Ln 0 0 Z<|.r [1]<|GA.Ln 2 0 Z<|GA.C0 3 Z (fun w Z=>Em (⟨((w_.take 1).drop 0),((w_.take w_.length).drop 2)⟩:Tag) (F:=all))<|GA.Dn Z fun w Z=>RG.Ss 1 Z fun w Z=>.r 1<|.d<|T.r2 func183 results183 (.B 1 Z) (.t (.bool (BZ (⟨((w_.take 1).drop 0),((w_.take w_.length).drop 2)⟩:Tag)))) ⟨⟨_,(Bx rfl (AG (by rw [Es (Iu ‹_› ‹_› ‹_›) ‹_› ‹_› ‹_›]))),Z.rS (⟨(⟨((w_.take 1).drop 0),((w_.take w_.length).drop 2)⟩:Tag),false⟩:Cnd) [] (by rw [Es (Iu ‹_› ‹_› ‹_›) ‹_› ‹_› ‹_›])⟩,Z.xt⟩)
  refine .r 1<|.d<|.ct<|.s<|.g<|.r 1<|RG.Ss 0 Z fun w Z=>.d<|T.Gd 4 Z fun w Z=>.r [0]<|GA.MJ (i:=1) (t:=9) (lo:=none) (hi:=some (vI 1)) (s:=w_) AA 0 1 AA AA (.inl ⟨rfl,rfl⟩) (.inr ⟨_,_,rfl,by omega⟩) AB AB<|.r [2]<|GA.MJ (i:=3) (t:=9) (lo:=some (vI 2)) (hi:=none) (s:=w_) AA 2 w_.length AA AA (.inr ⟨_,_,rfl,by omega⟩) (.inl ⟨rfl,rfl⟩) AB AB<|GA.Dn Z fun w Z=>RG.cat (t:=9) (s:=((w_.take 1).drop 0)) (u:=((w_.take w_.length).drop 2)) AA (by simp; omega)<|.r 1<|.d<|.s<|.s<|.g<|.r 1<|RG.eqv (v:=vI ((((w_.take 1).drop 0)++((w_.take w_.length).drop 2)).length:Int)) AA (Hv (((w_.take 1).drop 0)++((w_.take w_.length).drop 2)))<|.ne ((((w_.take 1).drop 0)++((w_.take w_.length).drop 2)).length:Int) 3 (fun ai=>.r 5<|.d<|.ct<|.s<|.g<|RG.Ln 0 Z<|RG.Ss 1 Z fun w Z=>.r 1<|.d<|T.r2 func183 results183 (.B 1 Z) (.t (.bool false)) ⟨⟨_,(Bx rfl (AG (by rw [C1 (Iv ‹_› ‹_› ‹_›) (.inl ‹_›)]))),Z.rS (⟨(⟨[],[]⟩:Tag),true⟩:Cnd) [] (by rw [C1 (Iv ‹_› ‹_› ‹_›) (.inl ‹_›)])⟩,Z.xt⟩) fun ai=>.r 2 ?_
  obtain ⟨aj,aa⟩:∃ y,(((w_.take 1).drop 0)++((w_.take w_.length).drop 2))[1]? = some y:=⟨_,AU AB⟩
  exact RG.MH (t:=9) (s:=(((w_.take 1).drop 0)++((w_.take w_.length).drop 2))) (k:=.i64) (i:=1) 1 AA AA AB aa<|.ne (aj.toNat:Int) 61 (fun ak=>.r 1<|.d<|.ct<|.s<|.g<|RG.Ln 0 Z<|RG.Ss 1 Z fun w Z=>.r 1<|.d<|T.r2 func183 results183 (.B 1 Z) (.t (.bool false)) ⟨⟨_,(Bx rfl (AG (by rw [C1 (Iv ‹_› ‹_› ‹_›) (.inr ⟨_,by assumption,by assumption⟩)]))),Z.rS (⟨(⟨[],[]⟩:Tag),true⟩:Cnd) [] (by rw [C1 (Iv ‹_› ‹_› ‹_›) (.inr ⟨_,by assumption,by assumption⟩)])⟩,Z.xt⟩) fun ak=>.r 1<|.d<|.cf<|.sk<|.s<|T.Gd 4 Z fun w Z=>.r [0]<|GA.MJ (i:=1) (t:=9) (lo:=none) (hi:=some (vI 1)) (s:=(((w_.take 1).drop 0)++((w_.take w_.length).drop 2))) AA 0 1 AA AA (.inl ⟨rfl,rfl⟩) (.inr ⟨_,_,rfl,by omega⟩) AB AB<|.r [2]<|GA.MJ (i:=3) (t:=9) (lo:=some (vI 2)) (hi:=none) (s:=(((w_.take 1).drop 0)++((w_.take w_.length).drop 2))) AA 2 ((((w_.take 1).drop 0)++((w_.take w_.length).drop 2)).length) AA AA (.inr ⟨_,_,rfl,by omega⟩) (.inl ⟨rfl,rfl⟩) AB AB<|GA.Dn Z fun w Z=>.r 2<|RG.Ss 0 Z fun w Z=>.d<|.s<|T.Gd 4 Z fun w Z=>GA.Ln 0 0 Z<|.r [1]<|GA.Ln 2 0 Z<|GA.C0 3 Z (fun w Z=>Em (⟨(((((w_.take 1).drop 0)++((w_.take w_.length).drop 2)).take 1).drop 0),(((((w_.take 1).drop 0)++((w_.take w_.length).drop 2)).take ((((w_.take 1).drop 0)++((w_.take w_.length).drop 2)).length)).drop 2)⟩:Tag) (F:=all))<|GA.Dn Z fun w Z=>RG.Ss 1 Z fun w Z=>.r 1<|.d<|T.r2 func183 results183 (.B 1 Z) (.t (.bool (BZ (⟨(((((w_.take 1).drop 0)++((w_.take w_.length).drop 2)).take 1).drop 0),(((((w_.take 1).drop 0)++((w_.take w_.length).drop 2)).take ((((w_.take 1).drop 0)++((w_.take w_.length).drop 2)).length)).drop 2)⟩:Tag)))) ⟨⟨_,(Bx rfl (AG (by rw [Es (Iv ‹_› ‹_› ‹_›) ‹_› ‹_› ‹_›]))),Z.rS (⟨(⟨(((((w_.take 1).drop 0)++((w_.take w_.length).drop 2)).take 1).drop 0),(((((w_.take 1).drop 0)++((w_.take w_.length).drop 2)).take ((((w_.take 1).drop 0)++((w_.take w_.length).drop 2)).length)).drop 2)⟩:Tag),true⟩:Cnd) [] (by rw [Es (Iv ‹_› ‹_› ‹_›) ‹_› ‹_› ‹_›])⟩,Z.xt⟩
 refine .r 5<|.d<|.cf<|.sk<|.s<|.s<|.g<|.r 1<|RG.eqv (v:=vI (w_.length:Int)) AA (Hv w_)<|.ne (w_.length:Int) 3 (fun al=>.r 5<|.d<|.ct<|.s<|.g<|RG.Ln 0 Z<|RG.Ss 1 Z fun w Z=>.r 1<|.d<|T.r2 func183 results183 (.B 1 Z) (.t (.bool false)) ⟨⟨_,(Bx rfl (AG (by rw [C1 (It ‹_›) (.inl ‹_›)]))),Z.rS (⟨(⟨[],[]⟩:Tag),false⟩:Cnd) [] (by rw [C1 (It ‹_›) (.inl ‹_›)])⟩,Z.xt⟩) fun al=>.r 2 ?_
 obtain ⟨am,ab⟩:∃ y,w_[1]? = some y:=⟨_,AU AB⟩
 exact RG.MH (t:=9) (s:=w_) (k:=.i64) (i:=1) 1 AA AA AB ab<|.ne (am.toNat:Int) 61 (fun ao=>.r 1<|.d<|.ct<|.s<|.g<|RG.Ln 0 Z<|RG.Ss 1 Z fun w Z=>.r 1<|.d<|T.r2 func183 results183 (.B 1 Z) (.t (.bool false)) ⟨⟨_,(Bx rfl (AG (by rw [C1 (It ‹_›) (.inr ⟨_,by assumption,by assumption⟩)]))),Z.rS (⟨(⟨[],[]⟩:Tag),false⟩:Cnd) [] (by rw [C1 (It ‹_›) (.inr ⟨_,by assumption,by assumption⟩)])⟩,Z.xt⟩) fun ao=>.r 1<|.d<|.cf<|.sk<|.s<|T.Gd 4 Z fun w Z=>.r [0]<|GA.MJ (i:=1) (t:=9) (lo:=none) (hi:=some (vI 1)) (s:=w_) AA 0 1 AA AA (.inl ⟨rfl,rfl⟩) (.inr ⟨_,_,rfl,by omega⟩) AB AB<|.r [2]<|GA.MJ (i:=3) (t:=9) (lo:=some (vI 2)) (hi:=none) (s:=w_) AA 2 w_.length AA AA (.inr ⟨_,_,rfl,by omega⟩) (.inl ⟨rfl,rfl⟩) AB AB<|GA.Dn Z fun w Z=>.r 2<|RG.Ss 0 Z fun w Z=>.d<|.s<|T.Gd 4 Z fun w Z=>GA.Ln 0 0 Z<|.r [1]<|GA.Ln 2 0 Z<|GA.C0 3 Z (fun w Z=>Em (⟨((w_.take 1).drop 0),((w_.take w_.length).drop 2)⟩:Tag) (F:=all))<|GA.Dn Z fun w Z=>RG.Ss 1 Z fun w Z=>.r 1<|.d<|T.r2 func183 results183 (.B 1 Z) (.t (.bool (BZ (⟨((w_.take 1).drop 0),((w_.take w_.length).drop 2)⟩:Tag)))) ⟨⟨_,(Bx rfl (AG (by rw [Es (It ‹_›) ‹_› ‹_› ‹_›]))),Z.rS (⟨(⟨((w_.take 1).drop 0),((w_.take w_.length).drop 2)⟩:Tag),false⟩:Cnd) [] (by rw [Es (It ‹_›) ‹_› ‹_› ‹_›])⟩,Z.xt⟩
theorem H9 (text_:Str){F:Nat→Prop}  (p0:text_.length≤1000):Calls Tryz.prog 163 [.string (bs text_)].toArray w (Am fun rv w'=>(∃ v0,rv=.tuple #[v0,.bool ((Bc text_).2)]∧VL (ge w.heap.size) w' ((Bc text_).1:List Cnd) v0)∧Ext w w'):=by
 refine goT func163 ?_
 have Z:=St.i0 F w
 refine .s<|.g<|.r 2<|.d<|.s<|.g<|RG.N0 Cnd 0 Z fun ag w Z=>.r 1<|.d<|.s<|.s<|.g<|.r 1<|RG.eqv (v:=.bool ((text_==[42]))) AA (Vs text_ [42]) ?_
 cases al:(text_==[42])
 ·refine .d<|.cf<|.sk<|.s<|.g<|.r 1<|RG.CL (MX text_ (44:UInt8) AB (F:=all)) Z fun ah ai w Z=>?_
  have am:=Z.mf 0 (H7 text_ (44:UInt8))
  refine .r 1<|.d<|.s<|.s<|.g<|.r 1<|.d<|.b 0<|T.Lp (([]:List Cnd),ag,(0:Nat),(0:Nat)) (fun (out,r_out,c_out,i)=>([(4,vS r_out out.length c_out),(5,.slice ah ((H7 text_ (44:UInt8)).length) ai),(6,vI (i:Int))],[(0,.own 0 r_out 185 c_out out)],[],(H7 text_ 44).length - i,(i≤(H7 text_ 44).length)∧(out.length≤i)∧(GF out ((H7 text_ 44).drop i)=Bc text_))) [] Z ⟨(by (simp; done)),(by (simp; done)),(by exact OS ‹_›)⟩ ?_
  rintro ⟨out,r_out,c_out,i⟩ aB w Z ⟨ao,aq,ar⟩ ab
  have au:=Z.mo 0 out
  refine .s<|.s<|.g<|.r 3<|.bp ((i:Int)< (((H7 text_ (44:UInt8)).length):Int)) (fun ac=>?_) (fun ac=>.d<|.cf<|.x 0 rfl<|.s<|.g<|.r 3<|.d<|T.r2 func163 results163 (.T _) (.t (.bool true)) ⟨⟨_,(Bx rfl (AG (by rw [PS (Y:=Bc text_) ‹_› AB]))),Z.rM 0 out (by rw [PS (Y:=Bc text_) ‹_› AB])⟩,Z.xt⟩)
  refine .d<|.ct<|.sk<|.s<|.b 1<|.s<|.g<|.r 2<|gxb (H7 text_ (44:UInt8)) i fun E aa ax af=>RG.Ix 0 aa Z<|Z.el 0 aa fun Z=>RG.Lh 0 0 Z<|RG.CT (us:=[.bool ((D2 E.s).2)]) (LH E.s (by have q1:=(NH text_ 44).1 _ ‹_›; omega) (F:=all)) Z fun  w Z=>.r 2 ?_
  cases az:(D2 E.s).2
  ·exact .r 1<|RG.Np Z fun aC w Z=>RG.Ss 0 Z fun w Z=>.r 1<|.d<|.s<|.s<|.g<|.r 7<|.d<|.ct<|.s<|.g<|RG.N0 Cnd 0 Z fun aD w Z=>.r 2<|.d<|T.r2 func163 results163 (.T _) (.t (.bool false)) ⟨⟨_,(Bx rfl (AG (by rw [J9 (Y:=Bc text_) ‹_› ‹_› (.inl ‹_›)]))),Z.rM 0 ([]:List Cnd) (by rw [J9 (Y:=Bc text_) ‹_› ‹_› (.inl ‹_›)])⟩,Z.xt⟩
  exact .r 1<|RG.Np Z fun aE w Z=>RG.Ss 0 Z fun w Z=>.r 1<|.d<|.s<|.s<|.g<|.r 5<|.bp ((out.length:Int)≥3) (fun ae=>.r 1<|.d<|.ct<|.s<|.g<|RG.N0 Cnd 0 Z fun aF w Z=>.r 2<|.d<|T.r2 func163 results163 (.T _) (.t (.bool false)) ⟨⟨_,(Bx rfl (AG (by rw [J9 (Y:=Bc text_) ‹_› ‹_› (.inr AB)]))),Z.rM 0 ([]:List Cnd) (by rw [J9 (Y:=Bc text_) ‹_› ‹_› (.inr AB)])⟩,Z.xt⟩) fun ae=>.r 1<|.d<|.cf<|.sk<|.g<|.r 1<|RG.Ln 0 Z<|RG.Nb 1 Z fun aG w Z=>RG.Ap (hs:=by exact (by have q1:=(NH text_ 44).2; omega)) 1 0 out (⟨(⟨(D2 E.s).1.tag.key,(D2 E.s).1.tag.val⟩:Tag),(D2 E.s).1.no⟩:Cnd) [] Z fun aj ak w Z=>.r 1<|.d<|.ib 1<|.g<|.r 1<|.it ((i:Int)+1)<|.r 1<|.d<|ab ((out++[(⟨(⟨(D2 E.s).1.tag.key,(D2 E.s).1.tag.val⟩:Tag),(D2 E.s).1.no⟩:Cnd)]),aj,ak,i+1) _ _ AA (Z.to 1 [] 1) ⟨AB,(by simp; omega),(by exact RH ‹_› ‹_› ‹_› AB)⟩ (by (simp only []; omega))
 exact .d<|.ct<|.s<|.g<|.r 3<|.d<|T.r2 func163 results163 (.T _) (.t (.bool true)) ⟨⟨_,(Bx rfl (AG (by rw [Kf ‹_›]))),Z.rM 0 ([]:List Cnd) (by rw [Kf ‹_›])⟩,Z.xt⟩
theorem Jj (text_:Str){F:Nat→Prop}  (p0:text_.length≤1000):Calls Tryz.prog 136 [.string (bs text_)].toArray w (Am fun rv w'=>(∃ (y:Bool),(∃ v0,rv=.tuple #[v0,.bool (y)]∧VL (ge w.heap.size) w' (Fe text_:List Tag) v0)∧(True))∧Ext w w'):=by
 refine goT func136<|.s<|.g<|.r 2<|.d<|.s<|.g<|.r 1<|.cl (H9 text_ AB (w:=w) (F:=all)) ?_
 rintro dz dA ⟨⟨dB,rfl,⟨bY,bZ,rfl,ab⟩⟩,bg⟩
 have bh:∀ q_∈([]:List Nat),q_< w.heap.size:=all_nil
 have b0:Gb w.heap.size w.heap.size:=(Nat.le_refl _)
 have E:=bg
 have ab:=ab.fr bh b0
 have cZ:=ab.max
 refine .r 2 ?_
 cases c7:(Bc text_).2
 ·refine .r 3<|.d<|.s<|.g<|.ns 0 67 [] fun aq aJ aK bi b6 b7=>?_
  have b8:=E.cn aK
  replace ⟨ab,E⟩:=(sn [] bi aK).g2 ab E
  have b9:Own (α:=Tag) aJ aq 67 (nin (ge w.heap.size) [aq]) 0 0 []:=Own.BN b6
  refine .r 1<|.d<|.s<|.s<|.g<|.r 1<|.d<|.b 0<|T.loop (X:=(List Tag) × Nat × Nat × Nat × Nat) (([]:List Tag),aq,0,0,0) (fun (out,r_out,n_out,c_out,i)=>[(4,.slice bY ((Bc text_).1.length) bZ),(5,.bool false),(6,vS r_out n_out c_out),(7,vI (i:Int))]) (fun (out,r_out,n_out,c_out,i) bd=>Chg (ins [aq]) aJ bd∧Own bd r_out 67 (nin (ge w.heap.size) [r_out]) n_out c_out out∧OrB r_out aq aJ.heap.size∧(i≤(Bc text_).1.length)∧(out.length≤i)∧(Dt out ((Bc text_).1.drop i)=Dt [] (Bc text_).1)) (fun (out,r_out,n_out,c_out,i)=>(Bc text_).1.length - i) AA ⟨AA,AA,AA,AA,trivial⟩ ⟨Chg.refl _ _,b9,Dv,AD,AD,AD⟩ ?_
  rintro ⟨out,r_out,n_out,c_out,i⟩ dC bd ⟨af,ac,aD,c8,c9,da⟩ aL
  have db:=Cm aD b8 E.size
  have cd:Cov (ins [aq]) aJ aq:=⟨.inl AI⟩
  have de:=Cm aD cd (Nat.le_refl _)
  have bj:Mv [aq] [r_out] aJ bd:=Mv.inl af (all_cons AI all_nil) (all_cons (FA aD AI) all_nil)
  replace ⟨ab,E⟩:=(sp bj af).g2 ab E
  have df:=ac.len; have dh:=ac.max
  refine .s<|.s<|.g<|.r 3<|.bp ((i:Int)< (((Bc text_).1.length):Int)) (fun ce=>?_) (fun ce=>?_)
  ·refine .d<|.ct<|.sk<|.s<|.b 1<|.s<|.s<|.g<|.r 2 ?_
   have cg:i< (Bc text_).1.length:=AB
   refine .ix i 3 ab cg<|.r 1 ?_
   obtain ⟨aG,aM⟩:∃ y,((Bc text_).1)[i]? = some y:=⟨_,AU AB⟩
   have dj:=Be aM
   obtain ⟨_,rfl,bk⟩:=ab.elem i aG aM
   refine .lh 2 bk<|.d ?_
   cases dm:aG.no
   ·refine .cf<|.sk<|.g<|.r 3 ?_
    have ci:i< (Bc text_).1.length:=AB
    refine .ix i 3 ab ci<|.r 1<|.lg 0 bk<|.ns 1 67 [vT aG.tag.key,vT aG.tag.val] fun cj dD aN bm ck cm=>?_
    have bn:=Ab aN ac.lt
    have co:=BV aN E.size
    replace ⟨ab,ac,E,af⟩:=(se [r_out] bm).g4 ab ac E af
    have aO:nin (ge w.heap.size) [r_out] cj∧cj≠r_out:=Dw co (all_cons bn all_nil) bn
    refine RG.CW (T:=43) (ty:=43) (y:=aG.tag) ac ck AA AA rfl aO (by have q1:=G8 text_; omega) fun cH cI dE ar aA bo=>?_
    have cp:=HZ aA aD af.size
    replace ⟨ab,E,af⟩:=(sa [r_out] bo aA).g3 ab E af
    replace ar:=ar.rn r_out
    exact .r 1<|.d<|.ib 1<|.g<|.r 1<|RG.int ((i:Int)+1) AA (by have q1:=G8 text_; omega)<|.r 1<|.d<|aL ((out++[aG.tag]),cH,n_out+1,cI,i+1) _ _ ⟨AA,AA,AA,AA,trivial⟩ ⟨af,ar,cp,AB,(by simp; omega),(by exact NJ ‹_› ‹_› ‹_›)⟩ (by (simp only []; omega))
   refine .ct<|.s<|.g<|.ns 0 67 [] fun aP cq aE bq cr cu=>?_
   have dt:=Ab aE ac.lt
   have cw:=BV aE E.size
   replace ⟨ab,ac,E⟩:=(sn [r_out] bq aE).g3 ab ac E
   have cx:Own (α:=Tag) cq aP 67 (nin (ge w.heap.size) [aP,r_out]) 0 0 []:=Own.BN cr
   refine .r 2<|.d ?_
   have cJ:=cx.sl cw
   replace ⟨ab,ac⟩:=(sd cq [aP,r_out] aP).g2 ab ac
   exact .r2 func136 results136 (.t (vS aP 0 0)) (.t (.bool false)) ⟨⟨(false:Bool),⟨_,(Bx rfl (AG AF)),(cJ.vl (by rw [NK (NI (Y:=Dt [] (Bc text_).1) ‹_› ‹_› ‹_›)]) (fun _ _ h=>h.1))⟩,(by trivial)⟩,E⟩
  refine .d<|.cf<|.x 0 rfl<|.s<|.s<|.g<|.r 7<|.d<|.ct<|.s<|.g<|.ns 0 67 [] fun aQ br ak aR bw bz=>?_
  have cK:=Ab ak ac.lt
  have bA:=BV ak E.size
  replace ⟨ab,E⟩:=(sn [r_out] aR ak).g2 ab E
  have bB:Own (α:=Tag) br aQ 67 (nin (ge w.heap.size) [aQ,r_out]) 0 0 []:=Own.BN bw
  refine .r 2<|.d ?_
  have cy:=bB.sl bA
  replace ab:=(sd br [aQ,r_out] aQ).g1 ab
  exact .r2 func136 results136 (.t (vS aQ 0 0)) (.t (.bool false)) ⟨⟨(false:Bool),⟨_,(Bx rfl (AG AF)),(cy.vl (by rw [NL ‹_› AB (.inl ‹_›)]) (fun _ _ h=>h.1))⟩,(by trivial)⟩,E⟩
 refine .r 3<|.d<|.s<|.g<|.ns 0 67 [] fun ag au al aS bC bD=>?_
 have bE:=BV al E.size
 have bF:=E.cn al
 replace ⟨ab,E⟩:=(sn [] aS al).g2 ab E
 have bG:Own (α:=Tag) au ag 67 (nin (ge w.heap.size) [ag]) 0 0 []:=Own.BN bC
 refine .r 1<|.d<|.s<|.s<|.g<|.r 1<|.d<|.b 0<|T.loop (X:=(List Tag) × Nat × Nat × Nat × Nat) (([]:List Tag),ag,0,0,0) (fun (out,r_out,n_out,c_out,i)=>[(4,.slice bY ((Bc text_).1.length) bZ),(5,.bool true),(6,vS r_out n_out c_out),(7,vI (i:Int))]) (fun (out,r_out,n_out,c_out,i) ax=>Chg (ins [ag]) au ax∧Own ax r_out 67 (nin (ge w.heap.size) [r_out]) n_out c_out out∧OrB r_out ag au.heap.size∧(i≤(Bc text_).1.length)∧(out.length≤i)∧(Dt out ((Bc text_).1.drop i)=Dt [] (Bc text_).1)) (fun (out,r_out,n_out,c_out,i)=>(Bc text_).1.length - i) AA ⟨AA,AA,AA,AA,trivial⟩ ⟨Chg.refl _ _,bG,Dv,AD,AD,AD⟩ ?_
 rintro ⟨out,r_out,n_out,c_out,i⟩ du ax ⟨ae,aa,ah,cL,cM,cN⟩ aH
 have bH:=Ii ah bE E.size
 have cO:=Cm ah bF E.size
 have bI:Cov (ins [ag]) au ag:=⟨.inl AI⟩
 have cP:=Cm ah bI (Nat.le_refl _)
 have aT:Mv [ag] [r_out] au ax:=Mv.inl ae (all_cons AI all_nil) (all_cons (FA ah AI) all_nil)
 replace ⟨ab,E⟩:=(sp aT ae).g2 ab E
 have cQ:=aa.len; have cR:=aa.max
 refine .s<|.s<|.g<|.r 3<|.bp ((i:Int)< (((Bc text_).1.length):Int)) (fun bJ=>?_) (fun bJ=>?_)
 ·refine .d<|.ct<|.sk<|.s<|.b 1<|.s<|.s<|.g<|.r 2 ?_
  have bK:i< (Bc text_).1.length:=AB
  refine .ix i 3 ab bK<|.r 1 ?_
  obtain ⟨aj,aB⟩:∃ y,((Bc text_).1)[i]? = some y:=⟨_,AU AB⟩
  have cS:=Be aB
  obtain ⟨_,rfl,aU⟩:=ab.elem i aj aB
  refine .lh 2 aU<|.d ?_
  cases cT:aj.no
  ·refine .cf<|.sk<|.g<|.r 3 ?_
   have bL:i< (Bc text_).1.length:=AB
   refine .ix i 3 ab bL<|.r 1<|.lg 0 aU<|.ns 1 67 [vT aj.tag.key,vT aj.tag.val] fun bt dv aC aV bM bN=>?_
   have aW:=Ab aC aa.lt
   have bO:=BV aC E.size
   replace ⟨aa,E,ae⟩:=(se [r_out] aV).g3 aa E ae
   have aI:nin (ge w.heap.size) [r_out] bt∧bt≠r_out:=Dw bO (all_cons aW all_nil) aW
   refine RG.CW (T:=43) (ty:=43) (y:=aj.tag) aa bM AA AA rfl aI (by have q1:=G8 text_; omega) fun cA cB dw ai aF aX=>?_
   have bP:=HZ aF ah ae.size
   replace ⟨E,ae⟩:=(s1 aX).g2 E ae
   replace ai:=ai.rn r_out
   exact .r 1<|.d<|.ib 1<|.g<|.r 1<|RG.int ((i:Int)+1) AA (by have q1:=G8 text_; omega)<|.r 1<|.d<|aH ((out++[aj.tag]),cA,n_out+1,cB,i+1) _ _ ⟨AA,AA,AA,AA,trivial⟩ ⟨ae,ai,bP,AB,(by simp; omega),(by exact NJ ‹_› ‹_› ‹_›)⟩ (by (simp only []; omega))
  refine .ct<|.s<|.g<|.ns 0 67 [] fun ay bu am aY bQ bR=>?_
  have cW:=Ab am aa.lt
  have bS:=BV am E.size
  replace ⟨aa,E⟩:=(sn [r_out] aY am).g2 aa E
  have bT:Own (α:=Tag) bu ay 67 (nin (ge w.heap.size) [ay,r_out]) 0 0 []:=Own.BN bQ
  refine .r 2<|.d ?_
  have cC:=bT.sl bS
  replace aa:=(sd bu [ay,r_out] ay).g1 aa
  exact .r2 func136 results136 (.t (vS ay 0 0)) (.t (.bool false)) ⟨⟨(false:Bool),⟨_,(Bx rfl (AG AF)),(cC.vl (by rw [NK (NI (Y:=Dt [] (Bc text_).1) ‹_› ‹_› ‹_›)]) (fun _ _ h=>h.1))⟩,(by trivial)⟩,E⟩
 refine .d<|.cf<|.x 0 rfl<|.s<|.s<|.g<|.r 4<|.cl (FM out (aa.rep) (w:=ax) (F:=all)) ?_
 rintro dx dy ⟨rfl,aZ⟩
 replace ⟨aa,E⟩:=(se [r_out] aZ).g2 aa E
 cases cX:(Aq out)
 ·refine .r 2<|.d<|.ct<|.s<|.g<|.ns 0 67 [] fun az bv ao ba bU bV=>?_
  have cY:=Ab ao aa.lt
  have bW:=BV ao E.size
  replace ⟨aa,E⟩:=(sn [r_out] ba ao).g2 aa E
  have bX:Own (α:=Tag) bv az 67 (nin (ge w.heap.size) [az,r_out]) 0 0 []:=Own.BN bU
  refine .r 2<|.d ?_
  have cD:=bX.sl bW
  replace aa:=(sd bv [az,r_out] az).g1 aa
  exact .r2 func136 results136 (.t (vS az 0 0)) (.t (.bool false)) ⟨⟨(false:Bool),⟨_,(Bx rfl (AG AF)),(cD.vl (by rw [NL ‹_› AB (.inr ‹_›)]) (fun _ _ h=>h.1))⟩,(by trivial)⟩,E⟩
 refine .r 2<|.d<|.cf<|.sk<|.s<|.g<|.r 3<|.d ?_
 have cE:=aa.sl bH
 exact .r2 func136 results136 (.t (vS r_out n_out c_out)) (.t (.bool true)) ⟨⟨(true:Bool),⟨_,(Bx rfl (AG AF)),(cE.vl (by rw [RI ‹_› AB ‹_› ‹_›]) (fun _ _ h=>h.1))⟩,(by trivial)⟩,E⟩
end Go.Proofs.YtggnnidleedpaaaGreat
namespace Go.Proofs.YtggnnidleedpaaaGreat
theorem NmD.sz {n:List Tag}(h:NmD n):FZ n:=⟨by have:=h.1; omega,fun t ht=>by
 obtain ⟨h1,h2⟩:=h.2 t ht
 simp only [List.mem_cons,List.not_mem_nil,or_false] at h1 h2
 constructor
 ·rcases h1 with h1 | h1 | h1 <;> rw [h1] <;> simp
 ·rcases h2 with h2 | h2 | h2 | h2 | h2 | h2 <;> rw [h2] <;> simp⟩
theorem NmD.nil:NmD []:=⟨by simp,by simp⟩
theorem PT {y:Str}(h:(⟨y⟩:Txt)∈([(⟨[97,61,112]⟩:Txt),(⟨[97,61,113,44,98,61,112]⟩:Txt),(⟨[98,61,122,44,99,61,113]⟩:Txt)]:List Txt)):NmD (Fe y)∧y.length≤1000:=by
 simp only [List.mem_cons,List.not_mem_nil,or_false,Txt.mk.injEq] at h
 rcases h with rfl | rfl | rfl
 ·have:Fe [97,61,112]=[⟨[97],[112]⟩]:=by decide +kernel
  rw [this]
  exact ⟨⟨by simp,by simp [HG]⟩,by simp⟩
 ·have:Fe [97,61,113,44,98,61,112]=[⟨[97],[113]⟩,⟨[98],[112]⟩]:=by decide +kernel
  rw [this]
  exact ⟨⟨by simp,by simp [HG]⟩,by simp⟩
 ·have:Fe [98,61,122,44,99,61,113]=[⟨[98],[122]⟩,⟨[99],[113]⟩]:=by decide +kernel
  rw [this]
  exact ⟨⟨by simp,by simp [HG]⟩,by simp⟩
def NsD (ns:List (List Tag)):Prop:=∀ n∈ns,NmD n
structure WD (w:Wld):Prop where
 wi:WI w
 sn:NsD w.store.idx.names
 dn:NsD w.disk.names
theorem NsD.nil:NsD []:=by intro n hn; cases hn
theorem WD.new:WD ⟨⟨⟨[],[]⟩,[],[]⟩,⟨[],[],[],1⟩⟩:=⟨WI.new,NsD.nil,NsD.nil⟩
theorem P3 (Q:List (List Tag)→Prop):∀ (st:List Stp) (d:Dsk),Q d.names→(∀ x∈st,x.kind=2→Q x.names)→Q (st.foldl doD d).names:=by
 intro st
 induction st with
 | nil=>intro d h _; exact h
 | cons x xs ih =>
   intro d h hs
   refine ih (doD d x) ?_ (fun y hy=>hs y (by simp [hy]))
   unfold doD
   split
   ·exact h
   ·split
    ·exact hs x AD ‹_›
    ·split
     ·exact h
     ·exact h
theorem WD.steps {w:Wld}(h:WD w){st:List Stp}(hs:∀ x∈st,x.kind=2→NsD x.names) (cut:Int){s:Sto}(h2:NsD s.idx.names):NsD (Bi w st cut s).store.idx.names∧NsD (Bi w st cut s).disk.names:=by
 have h3:NsD (toD w.disk st cut).names:=P3 NsD _ _ h.dn (fun x hx hk=>hs x (List.mem_of_mem_take hx) hk)
 unfold Bi
 split
 ·exact ⟨h.sn,h.dn⟩
 ·split
  ·exact ⟨h3,h3⟩
  ·exact ⟨h2,h3⟩
theorem OT {s:Sto}{n:List Tag}{r:Row}(h:NsD s.idx.names) (hn:NmD n):NsD (CA s n r).1.idx.names:=by
 have h1:NsD (BQ s.idx n).1.names:=by
  unfold BQ
  split
  ·exact h
  ·split
   ·exact h
   ·intro m hm
    rcases List.mem_append.1 hm with hm | hm
    ·exact h m hm
    ·simp at hm; rw [hm]; exact hn
 unfold CA
 split
 ·exact h
 ·split
  ·exact h
  ·exact h1
theorem OU (s:Sto):(BE s).1.idx=s.idx:=by unfold BE; split <;> rfl
theorem OV (s:Sto) (a:Int):(BD s a).1.idx=s.idx:=by unfold BD; split <;> rfl
theorem P4 {w:Wld}(h:WD w):∀ x∈As w.disk w.store,x.kind=2→NsD x.names:=by
 unfold As
 split
 ·intro x hx; cases hx
 ·intro x hx _
  simp only [List.mem_cons,List.not_mem_nil,or_false] at hx
  rcases hx with rfl | rfl
  ·exact NsD.nil
  ·exact h.sn
theorem P5 {d:Dsk}(h:NsD d.names) (a:Int):∀ x∈Aj d a,x.kind=2→NsD x.names:=by
 unfold Aj
 split
 ·intro x hx; cases hx
 ·intro x hx _
  simp only [List.mem_cons,List.not_mem_nil,or_false] at hx
  rcases hx with rfl | rfl | rfl | rfl
  ·exact NsD.nil
  ·exact h
  ·exact NsD.nil
  ·exact NsD.nil
theorem WD.do {w:Wld}(h:WD w){e:Evt}(he:NmD e.name):WD (doW w e):=by
 have key:NsD (doW w e).store.idx.names∧NsD (doW w e).disk.names:=by
  unfold doW
  split
  ·split
   ·exact ⟨OT h.sn he,h.dn⟩
   ·exact ⟨h.sn,h.dn⟩
  ·split
   ·exact h.steps (P4 h) _ (by rw [OU]; exact h.sn)
   ·split
    ·exact h.steps (P5 h.dn _) _ (by rw [OV]; exact h.sn)
    ·split
     ·exact ⟨h.dn,h.dn⟩
     ·exact ⟨h.sn,h.dn⟩
 exact ⟨h.wi.do e,key.1,key.2⟩
theorem WD.copy {w:Wld}(h:WD w):WD (Ce w):=⟨h.wi.copy,h.sn,h.dn⟩
def EvD (e:Evt):Prop:=NmD e.name∧FD e.row
structure SD (s:Sto):Prop where
 idx:s.idx=idxOf s.idx.names
 nm:NmI s.idx.names
 nd:NsD s.idx.names
 np:s.parts.length≤6
 part:∀ p∈s.parts,PrtI p
 nm2:s.mem.length≤21
 mem:∀ m∈s.mem,0≤m.id∧m.id≤7∧FD m.row
theorem RJ {r:Row}(h:BU r=true):FD r:=by
 have h1:=MW h
 have h2:=TF h
 unfold FD
 omega
theorem WD.sd {w:Wld}(h:WD w):SD w.store:=⟨h.wi.sto.idx,h.wi.sto.nm,h.sn,h.wi.sto.np,h.wi.sto.part,by have:=h.wi.sto.nm2; omega,fun m hm=>by
 have h1:=h.wi.sto.Iq m hm
 exact ⟨by omega,by omega,RJ (h.wi.sto.mem m hm).2.2⟩⟩
end Go.Proofs.YtggnnidleedpaaaGreat
namespace Go.Proofs.YtggnnidleedpaaaGreat
set_option maxRecDepth 100000
set_option maxHeartbeats 4000000
variable {w:World} {F:Nat→Prop} {a1 a2 a3 a4 a5 a6 a7:Option Addr} {n1 c1 n2 c2 n3 c3 n4 c4 n5 c5 n6 c6 n7 c7:Nat}
theorem Eb  {F:Nat→Prop}{b:Nat}{ad:Option Addr}{cd p:Nat}{D:List UInt8}(hr:Box w b 95 [.slice ad D.length cd,.int .i64 (p:Int)]) (hD:RepS w (nin all [b]) ad D.length cd D) (hp:p+25≤1000000000)  : Calls Tryz.prog 93 [.pointer (some ⟨b,0,none⟩)].toArray w (Am fun rv w'=>(∃ (y:List Tag),VL (ge w.heap.size) w' (y:List Tag) rv∧(NmD y))∧∃ p':Nat,p'≤p+25∧Box w' b 95 [.slice ad D.length cd,.int .i64 (p':Int)]∧Chg (one b) w w'):=by
 refine goT func93 ?_
 refine .s<|.g<|.r 1<|.d<|.s<|.s<|.g<|.r 1<|.cl (Az 4 hr (hD.CU AI) AB (w:=w) (F:=all)) ?_
 rintro aY ar ⟨⟨aH,rfl,aP⟩,aZ,aQ,aa,ae⟩
 replace hD:=(so [b] ae).g1 hD
 have E:Chg (one b) w ar:=Chg.FW (Chg.refl (one b) w) ae (Cov.mk1 w b)
 refine .eq aH 0 (fun ax=>?_) (fun ax=>?_)
 ·refine .d<|.ct<|.s<|.g<|.r 1<|.cl (Kd aa (hD.CU AI) AB (w:=ar) (F:=all)) ?_
  rintro ba bd ⟨⟨ay,⟨aI,aJ,rfl,ag⟩,aR⟩,aK,aS,az,aj⟩
  have ak:=al1 aa.lt
  have aA:Gb w.heap.size ar.heap.size:=E.size
  replace ⟨hD,E⟩:=(so [b] aj).g2 hD E
  have ag:=ag.fr ak aA
  exact .r 1<|.d<|.rt func93 results93 (.slice aI ay.length aJ) ⟨⟨(ay:List Tag),(ag.vl AF (fun _ _ h=>h.1)),(by exact (by assumption:NmX _).1)⟩,aK,by omega,az,E⟩
 refine .d<|.cf<|.sk<|.s<|.g<|.r 1<|.ns 3 9 [.string (bs [97,61,112]),.string (bs [97,61,113,44,98,61,112]),.string (bs [98,61,122,44,99,61,113])] fun ah aB af al aC aD=>?_
 have aE:=Ab af aa.lt
 replace ⟨hD,aa,E⟩:=(sn [b] al af).g3 hD aa E
 have ab:Own (α:=Txt) aB ah 9 (nin (ge w.heap.size) [ah,b]) 3 3 [(⟨[97,61,112]⟩:Txt),(⟨[97,61,113,44,98,61,112]⟩:Txt),(⟨[98,61,122,44,99,61,113]⟩:Txt)]:=Own.lit aC rfl AE ⟨rfl,rfl,rfl,rfl⟩
 refine .cl (Cp ([(⟨[97,61,112]⟩:Txt),(⟨[97,61,113,44,98,61,112]⟩:Txt),(⟨[98,61,122,44,99,61,113]⟩:Txt)]:List Txt) aa (hD.CU AJ) AB (ab.CU AJ aE) AD (w:=aB) (F:=all)) ?_
 rintro bg aF ⟨⟨au,rfl,aU⟩,aL,aV,ac,am⟩
 replace ⟨hD,ab,E⟩:=(so [ah,b] am).g3 hD ab E
 refine .cl (Jj au (PT ‹_›).2 (w:=aF) (F:=all)) ?_
 rintro bh bi ⟨⟨bj,⟨bk,rfl,⟨aM,aN,rfl,ai⟩⟩,aW⟩,ao⟩
 have aq:=al2 ab.lt ac.lt
 have aG:Gb w.heap.size aF.heap.size:=E.size
 replace ⟨hD,ac,E⟩:=(se [ah,b] ao).g3 hD ac E
 have ai:=ai.fr aq aG
 exact .r 5<|.d<|.s<|.g<|.r 2<|.d<|.rt func93 results93 (.slice aM ((Fe au).length) aN) ⟨⟨(Fe au:List Tag),(ai.vl AF (fun _ _ h=>h.1)),(by exact (PT ‹_›).1)⟩,aL,by omega,ac,E⟩
theorem Jk (w_:Wld){b:Nat}{ad:Option Addr}{cd p:Nat}{D:List UInt8}(hr:Box w b 95 [.slice ad D.length cd,.int .i64 (p:Int)]) (hD:RepS w (nin all [b]) ad D.length cd D) (hp:p+60≤1000000000) (h1:RepS w (nin F [b]) a1 n1 c1 w_.store.idx.names) (h2:RepS w (nin F [b]) a2 n2 c2 w_.store.idx.AY) (h3:RepS w (nin F [b]) a3 n3 c3 w_.store.parts) (h4:RepS w (nin F [b]) a4 n4 c4 w_.store.mem) (h5:RepS w (nin F [b]) a5 n5 c5 w_.disk.files) (h6:RepS w (nin F [b]) a6 n6 c6 w_.disk.list) (h7:RepS w (nin F [b]) a7 n7 c7 w_.disk.names) (p0:w_.disk.list.length≤1000):Calls Tryz.prog 52 [.pointer (some ⟨b,0,none⟩),.agg #[.slice a1 n1 c1,.slice a2 n2 c2,.slice a3 n3 c3,.slice a4 n4 c4,.slice a5 n5 c5,.slice a6 n6 c6,.slice a7 n7 c7,.int .i64 w_.disk.next]].toArray w (Am fun rv w'=>(∃ (y:Evt),VS (ge w.heap.size) w' (y:Evt) rv∧(EvD y))∧∃ p':Nat,p'≤p+60∧Box w' b 95 [.slice ad D.length cd,.int .i64 (p':Int)]∧Chg (one b) w w'):=by
 cases h1.len
 cases h2.len
 cases h3.len
 cases h4.len
 cases h5.len
 cases h6.len
 cases h7.len
 refine goT func52 ?_
 have Z:=(((((((St.i1 F hr hD).p1 h1).p1 h2).p1 h3).p1 h4).p1 h5).p1 h6).p1 h7
 refine .s<|.g<|RG.Np Z fun cD w Z=>RG.Np Z fun cE w Z=>.d<|.s<|.s<|.g<|.r 1<|RG.cl (Az 10 (Z.bc 2) (Z.rd 2 7) AB (D:=D) (p:=p) (F:=all)) ?_
 rintro _ w ⟨⟨ag,rfl,bY⟩,af,bZ,aG,aH⟩
 have Z:=Z.rx 2 aH aG
 refine .d<|.b 0<|.s<|.s<|.g<|.eq ag 0 (fun aI=>?_) (fun aI=>?_)
 ·refine .r 1<|.d<|.ct<|.sk<|.ct<|.s<|.g<|RG.Nl 0 ([2,2,2,0,1]:List Int) [] Z fun cF w Z=>.r 1<|RG.cl (Az 5 (Z.bc 3) (Z.rd 3 7) AB (D:=D) (p:=af) (F:=all)) ?_
  rintro _ w ⟨⟨aJ,rfl,b0⟩,bw,b6,aK,aL⟩
  have Z:=Z.rx 3 aL aK
  refine gxm ([2,2,2,0,1]:List Int) (aJ.toNat) fun aM E ah=>?_
  simp only [List.mem_cons,List.not_mem_nil,or_false] at ah
  refine RG.Jo 0 aJ E Z<|Z.eo 0 E fun Z=>RG.Lt 0 0 Z<|.r 1<|RG.Ss 1 Z fun w Z=>.d ?_
  have Z:=Z.nl Tag
  exact T.Rb 1 func52 results52 Z ⟨⟨((⟨2,0,aM,([]:List Tag),(⟨0,0⟩:Row)⟩:Evt):Evt),Z.rS (⟨2,0,aM,([]:List Tag),(⟨0,0⟩:Row)⟩:Evt) [0] rfl,(by exact ⟨NmD.nil,by simp [FD]⟩)⟩,bw,by omega,Z.bc 3,Z.xr⟩
 refine .r 1<|.d<|.cf<|.g<|.eq ag 1 (fun aN=>?_) (fun aN=>?_)
 ·refine .r 1<|.d<|.ct<|.s<|.g<|RG.Nl 0 ([2,2,2,0,1]:List Int) [] Z fun cG w Z=>.r 1<|RG.cl (Az 5 (Z.bc 3) (Z.rd 3 7) AB (D:=D) (p:=af) (F:=all)) ?_
  rintro _ w ⟨⟨aO,rfl,b8⟩,bz,b9,aP,aQ⟩
  have Z:=Z.rx 3 aQ aP
  refine gxm ([2,2,2,0,1]:List Int) (aO.toNat) fun aR aa ai=>?_
  simp only [List.mem_cons,List.not_mem_nil,or_false] at ai
  refine RG.Jo 0 aO aa Z<|Z.eo 0 aa fun Z=>RG.Lt 0 0 Z<|.r 1<|RG.Ss 1 Z fun w Z=>.d ?_
  have Z:=Z.nl Tag
  exact T.Rb 1 func52 results52 Z ⟨⟨((⟨2,0,aR,([]:List Tag),(⟨0,0⟩:Row)⟩:Evt):Evt),Z.rS (⟨2,0,aR,([]:List Tag),(⟨0,0⟩:Row)⟩:Evt) [0] rfl,(by exact ⟨NmD.nil,by simp [FD]⟩)⟩,bz,by omega,Z.bc 3,Z.xr⟩
 refine .r 1<|.d<|.cf<|.s<|.g<|.eq ag 2 (fun aS=>?_) (fun aS=>?_)
 ·refine .r 1<|.d<|.ct<|.s<|.g<|.r 2<|RG.Lb 1 Z<|.r 1<|.bp ((w_.disk.list.length:Int) > 1) (fun aT=>?_) (fun aT=>?_)
  ·refine .d<|.ct<|.s<|.g<|.r 3<|RG.Lb 1 Z<|.r 1<|.it ((w_.disk.list.length:Int) - 1)<|RG.cl (Az ((w_.disk.list.length:Int) - 1) (Z.bc 2) (Z.rd 2 7) AB (D:=D) (p:=af) (F:=all)) ?_
   rintro _ w ⟨⟨aU,rfl,cg⟩,bA,ci,aV,aW⟩
   have Z:=Z.rx 2 aW aV
   refine RG.Nl 0 ([4,4,0,1,2,3]:List Int) [] Z fun cH w Z=>.r 1<|RG.cl (Az 6 (Z.bc 3) (Z.rd 3 7) AB (D:=D) (p:=bA) (F:=all)) ?_
   rintro _ w ⟨⟨aX,rfl,cj⟩,bB,ck,aY,aZ⟩
   have Z:=Z.rx 3 aZ aY
   refine gxm ([4,4,0,1,2,3]:List Int) (aX.toNat) fun ba ab aj=>?_
   simp only [List.mem_cons,List.not_mem_nil,or_false] at aj
   refine RG.Jo 0 aX ab Z<|Z.eo 0 ab fun Z=>RG.Lt 0 0 Z<|.r 1<|RG.Ss 1 Z fun w Z=>.d ?_
   have Z:=Z.nl Tag
   exact T.Rb 1 func52 results52 Z ⟨⟨((⟨3,aU,ba,([]:List Tag),(⟨0,0⟩:Row)⟩:Evt):Evt),Z.rS (⟨3,aU,ba,([]:List Tag),(⟨0,0⟩:Row)⟩:Evt) [0] rfl,(by exact ⟨NmD.nil,by simp [FD]⟩)⟩,bB,by omega,Z.bc 3,Z.xr⟩
  refine .d<|.cf<|.sk<|.ib 0<|.s<|.g<|.r 1<|RG.cl (Eb (Z.bc 2) (Z.rd 2 7) AB (D:=D) (p:=af) (F:=all)) ?_
  rintro cI w ⟨⟨bd,bC,co⟩,bD,cp,bg,bh⟩
  refine RG.wL (Z.rx 2 bh bg) Z bC ?_
  intro cJ cK Z
  refine .r 1<|RG.cl (FO (Z.bc 2) (Z.rd 2 8) AB (D:=D) (p:=bD) (F:=all)) ?_
  rintro cL w ⟨⟨ak,bE,cq⟩,bF,cr,bi,bj⟩
  refine RG.wS (Z.rx 2 bj bi) Z bE ?_
  intro Z
  exact .r 1<|RG.Ss 0 Z fun w Z=>.d<|T.Rb 0 func52 results52 Z ⟨⟨((⟨1,0,0,bd,(⟨ak.t,ak.v⟩:Row)⟩:Evt):Evt),Z.rS (⟨1,0,0,bd,(⟨ak.t,ak.v⟩:Row)⟩:Evt) [0] rfl,(by exact ⟨by assumption,by assumption⟩)⟩,bF,by omega,Z.bc 2,Z.xr⟩
 refine .r 1<|.d<|.cf<|.s<|.g<|.eq ag 3 (fun aq=>?_) (fun aq=>?_)
 ·refine .r 1<|.d<|.ct<|.s<|.g<|.r 1<|RG.cl (Az 4 (Z.bc 2) (Z.rd 2 7) AB (D:=D) (p:=af) (F:=all)) ?_
  rintro _ w ⟨⟨bk,rfl,bG⟩,al,bH,ar,au⟩
  have Z:=Z.rx 2 au ar
  refine .eq bk 0 (fun ax=>?_) (fun ax=>?_)
  ·refine .d<|.ct<|.s<|.g<|.r 1<|RG.Ss 0 Z fun w Z=>.d ?_
   have Z:=Z.nl Tag
   exact T.Rb 0 func52 results52 Z ⟨⟨((⟨4,0,0,([]:List Tag),(⟨0,0⟩:Row)⟩:Evt):Evt),Z.rS (⟨4,0,0,([]:List Tag),(⟨0,0⟩:Row)⟩:Evt) [0] rfl,(by exact ⟨NmD.nil,by simp [FD]⟩)⟩,al,by omega,Z.bc 2,Z.xr⟩
  refine .d<|.cf<|.sk<|.ib 0<|.s<|.g<|.r 1<|RG.cl (Eb (Z.bc 2) (Z.rd 2 7) AB (D:=D) (p:=al) (F:=all)) ?_
  rintro cu w ⟨⟨am,bm,bI⟩,bn,bJ,ay,az⟩
  refine RG.wL (Z.rx 2 az ay) Z bm ?_
  intro cw cx Z
  refine .r 1<|RG.cl (FO (Z.bc 2) (Z.rd 2 8) AB (D:=D) (p:=bn) (F:=all)) ?_
  rintro cy w ⟨⟨ac,bo,bK⟩,bq,bL,aA,aB⟩
  refine RG.wS (Z.rx 2 aB aA) Z bo ?_
  intro Z
  exact .r 1<|RG.Ss 0 Z fun w Z=>.d<|T.Rb 0 func52 results52 Z ⟨⟨((⟨1,0,0,am,(⟨ac.t,ac.v⟩:Row)⟩:Evt):Evt),Z.rS (⟨1,0,0,am,(⟨ac.t,ac.v⟩:Row)⟩:Evt) [0] rfl,(by exact ⟨by assumption,by assumption⟩)⟩,bq,by omega,Z.bc 2,Z.xr⟩
 refine .r 1<|.d<|.cf<|.sk<|.ib 0<|.s<|.g<|.r 1<|RG.cl (Eb (Z.bc 2) (Z.rd 2 7) AB (D:=D) (p:=af) (F:=all)) ?_
 rintro cz w ⟨⟨ao,br,bM⟩,bt,bN,aC,aD⟩
 refine RG.wL (Z.rx 2 aD aC) Z br ?_
 intro cA cB Z
 refine .r 1<|RG.cl (FO (Z.bc 2) (Z.rd 2 8) AB (D:=D) (p:=bt) (F:=all)) ?_
 rintro cC w ⟨⟨ae,bu,bO⟩,bv,bP,aE,aF⟩
 refine RG.wS (Z.rx 2 aF aE) Z bu ?_
 intro Z
 exact .r 1<|RG.Ss 0 Z fun w Z=>.d<|T.Rb 0 func52 results52 Z ⟨⟨((⟨1,0,0,ao,(⟨ae.t,ae.v⟩:Row)⟩:Evt):Evt),Z.rS (⟨1,0,0,ao,(⟨ae.t,ae.v⟩:Row)⟩:Evt) [0] rfl,(by exact ⟨by assumption,by assumption⟩)⟩,bv,by omega,Z.bc 2,Z.xr⟩
end Go.Proofs.YtggnnidleedpaaaGreat
namespace Go.Proofs.YtggnnidleedpaaaGreat
def Kg:List Tag:=(List.range' 97 4).flatMap (fun k=>(List.range' 112 11).map (H3 k))
theorem P6 (names:List (List Tag)) (k:Nat):∀ f v,Fv names k f v=((List.range' v f).map (H3 k)).flatMap (Fb names):=by
 intro f
 induction f with
 | zero=>intro v; rfl
 | succ f ih=>intro v; rw [Fv,ih,List.range'_succ]; rfl
theorem P7 (names:List (List Tag)):∀ f k,Fw names f k=((List.range' k f).flatMap (fun k=>(List.range' 112 11).map (H3 k))).flatMap (Fb names):=by
 intro f
 induction f with
 | zero=>intro k; rfl
 | succ f ih=>intro k; rw [Fw,ih,P6,show List.range' k (f+1)=k::List.range' (k+1) f from rfl,List.flatMap_cons,List.flatMap_append]
theorem Hd (names:List (List Tag)):Dg names=Kg.flatMap (Fb names):=P7 names 4 97
theorem MY:Kg.Pairwise (fun a b=>EU a b=true):=by decide +kernel
theorem P8 {t:Tag}(h:BZ t=true):t∈Kg:=by
 simp only [BZ,AW] at h
 obtain ⟨h1,h2⟩:=h
 obtain ⟨x,hx⟩:∃ x,t.key=[x]:=by
  have:=D1 h1
  match t.key,this with
  | [x],_=>exact ⟨x,rfl⟩
 obtain ⟨y,hy⟩:∃ y,t.val=[y]:=by
  have:=D1 h2
  match t.val,this with
  | [y],_=>exact ⟨y,rfl⟩
 rw [hx] at h1
 rw [hy] at h2
 have g1:=By h1
 have g2:=By h2
 unfold Kg
 refine List.mem_flatMap.2 ⟨x.toNat,?_,List.mem_map.2 ⟨y.toNat,?_,?_⟩⟩
 ·rw [List.mem_range'_1]; omega
 ·rw [List.mem_range'_1]; omega
 ·cases t
  simp only at hx hy
  subst hx hy
  simp [H3]
theorem P9 {names:List (List Tag)}{p:Pst}(h:p∈Dg names):p.ids=ids names p.tag∧0< p.ids.length∧p.tag∈Kg:=by
 rw [Hd] at h
 obtain ⟨t,ht,hp⟩:=List.mem_flatMap.1 h
 unfold Fb at hp
 split at hp
 ·simp at hp
  subst hp
  exact ⟨rfl,by assumption,ht⟩
 ·cases hp
theorem RK {names:List (List Tag)}{t:Tag}(h:t∈Kg) (h2:0< (ids names t).length):⟨t,ids names t⟩∈Dg names:=by
 rw [Hd]
 refine List.mem_flatMap.2 ⟨t,h,?_⟩
 unfold Fb
 rw [if_pos h2]
 simp
theorem MZ (names:List (List Tag)):(Dg names).Pairwise (fun a b=>EU a.tag b.tag=true):=by
 rw [Hd,List.pairwise_flatMap]
 refine ⟨fun t _=>?_,MY.imp ?_⟩
 ·unfold Fb
  split <;> simp
 ·intro a b hab x hx y hy
  have h1:x.tag=a:=by
   unfold Fb at hx
   split at hx
   ·simp at hx; rw [hx]
   ·cases hx
  have h2:y.tag=b:=by
   unfold Fb at hy
   split at hy
   ·simp at hy; rw [hy]
   ·cases hy
  rw [h1,h2]
  exact hab
theorem Iw:∀ (s:Str),Bn s s=false:=by
 intro s
 induction s with
 | nil=>rfl
 | cons x xs ih =>
   have ih':Op.bytesLess xs xs=false:=ih
   show (decide (x< x) || x==x&&Op.bytesLess xs xs)=false
   simp [ih']
theorem Li {a b:Tag}(ha:BZ a=true) (hb:BZ b=true) (h:Bn a.key b.key=true):∃ x y,a.key=[x]∧b.key=[y]∧x.toNat< y.toNat:=by
 simp only [BZ,AW] at ha hb
 have h1:=D1 ha.1
 have h2:=D1 hb.1
 match ha':a.key,h1,hb':b.key,h2 with
 | [x], _, [y], _ =>
   rw [ha',hb',KR] at h
   exact ⟨x,y,rfl,rfl,by simpa using h⟩
theorem OW:∀ (n:List Tag) (o:Option Tag),Dp o n=true→(∀ q,o=some q→BZ q=true)→(∀ q,o=some q→∀ t∈n,Bn q.key t.key=true)∧n.Nodup:=by
 intro n
 induction n with
 | nil=>intro o _ _; exact ⟨fun _ _ t ht=>(by cases ht),by simp⟩
 | cons t ts ih =>
   intro o h ho
   simp only [Dp,AW] at h
   obtain ⟨⟨h1,h2⟩,h3⟩:=h
   obtain ⟨g1,g2⟩:=ih (some t) h3 (fun q hq=>by cases hq; exact h1)
   refine ⟨fun q hq u hu=>?_,List.nodup_cons.2 ⟨fun hm=>?_,g2⟩⟩
   ·subst hq
    have h4:Bn q.key t.key=true:=h2
    rcases List.mem_cons.1 hu with rfl | hu
    ·exact h4
    ·have h5:=g1 t rfl u hu
     obtain ⟨x,y,e1,e2,l1⟩:=Li (ho q rfl) h1 h4
     obtain ⟨y',z,e3,e4,l2⟩:=Li h1 (E3 ts (some t) h3 u hu) h5
     rw [e2] at e3
     cases e3
     rw [e1,e4,KR]
     simp; omega
   ·have h5:=g1 t rfl t hm
    rw [Iw] at h5
    cases h5
theorem IA {n:List Tag}(h:Aq n=true):n.Nodup∧∀ t∈n,t∈Kg:=by
 simp only [Aq,AW] at h
 exact ⟨(OW n none h.1 AD).2,fun t ht=>P8 (E3 n none h.1 t ht)⟩
end Go.Proofs.YtggnnidleedpaaaGreat
namespace Go.Proofs.YtggnnidleedpaaaGreat
structure IxI (x:Idx):Prop where
 eq:x=idxOf x.names
 nm:NmI x.names
theorem IxI.AY {x:Idx}(h:IxI x):x.AY=Dg x.names:=by have:=h.eq; rw [this]; rfl
theorem IxI.sz {x:Idx}(h:IxI x):Q3 x:=⟨by have:=h.nm.len; omega,h.nm.sz⟩
theorem SD.ix {s:Sto}(h:SD s):IxI s.idx:=⟨h.idx,h.nm⟩
theorem SD.sz {s:Sto}(h:SD s):LX s:=⟨h.ix.sz,by have:=h.np; omega,fun p hp=>(h.part p hp).sz,by have:=h.nm2; omega⟩
theorem IB {α:Type}{f:α→Bool}{l:List α}{i:Nat}{x:α}{b:Bool}(h:(l.drop i).all f=b) (hd:l.drop i=x::l.drop (i+1)) (hx:f x=true):(l.drop (i+1)).all f=b:=by
 rw [hd,List.all_cons,hx,Bool.true_and] at h
 exact h
theorem JR {α:Type}{f:α→Bool}{l:List α}{i:Nat}{x:α}{b:Bool}(h:(l.drop i).all f=b) (hd:l.drop i=x::l.drop (i+1)) (hx:f x=false):b=false:=by
 rw [hd,List.all_cons,hx,Bool.false_and] at h
 exact h.symm
theorem Kh {α:Type}{f:α→Bool}{l:List α}{i:Nat}{b:Bool}(h:(l.drop i).all f=b) (hi:l.length≤i):b=true:=by
 rw [Aa hi] at h
 exact h.symm
def Eh (n:Nat) (m:Smp):Bool:=inR m.id 1 n&&BU m.row
def Ei (s:Sto) (i:Nat):Bool:=decide ((rowsOf s ((i:Int)+1)).length≤24)
def Ac (s:Sto):Bool :=
 decide (s.parts.length≤6)&&decide (s.mem.length≤20)&&s.parts.all (fun p=>Bk p s.idx.names.length)&&s.mem.all (Eh s.idx.names.length)&&(List.range s.idx.names.length).all (Ei s)
theorem Lj {s:Sto}(h:(s.parts.length:Int) > 6∨(s.mem.length:Int) > 20):Ac s=false:=by
 unfold Ac
 rcases h with h | h
 ·rw [decide_eq_false AB]; simp
 ·rw [decide_eq_false (p:=s.mem.length≤20) AB]; simp
theorem Iy {s:Sto}(h:s.parts.all (fun p=>Bk p s.idx.names.length)=false):Ac s=false:=by unfold Ac; rw [h]; simp
theorem Lk {s:Sto}(h:s.mem.all (Eh s.idx.names.length)=false):Ac s=false:=by unfold Ac; rw [h]; simp
theorem QA {s:Sto}(h:(List.range s.idx.names.length).all (Ei s)=false):Ac s=false:=by unfold Ac; rw [h]; simp
theorem QB {s:Sto}(h1:¬ (s.parts.length:Int) > 6) (h2:¬ (s.mem.length:Int) > 20) (h3:s.parts.all (fun p=>Bk p s.idx.names.length)=true) (h4:s.mem.all (Eh s.idx.names.length)=true) (h5:(List.range s.idx.names.length).all (Ei s)=true):Ac s=true:=by
 unfold Ac
 rw [h3,h4,h5,decide_eq_true AB,decide_eq_true AB]
 rfl
theorem NM {n i:Nat}(h:i< n):(List.range n).drop i=i::(List.range n).drop (i+1):=by
 rw [List.drop_eq_getElem_cons (by simpa using h)]
 simp
def BS (s:Sto) (n:List Tag) (r:Row):Sto × Bool:=if Ac s=true∧Aq n=true then CA (AZ s) n r else (⟨⟨[],[]⟩,[],[]⟩,false)
theorem KA {s:Sto}{n:List Tag}{r:Row}(h:Ac s=false∨Aq n=false):BS s n r=(⟨⟨[],[]⟩,[],[]⟩,false):=by
 unfold BS
 rw [if_neg]
 rintro ⟨h1,h2⟩
 rcases h with h | h
 ·rw [h] at h1; cases h1
 ·rw [h] at h2; cases h2
theorem Gn {s:Sto}{n:List Tag}{r:Row}(h:Ac s=true) (h2:Aq n=true):BS s n r=CA (AZ s) n r:=by unfold BS; rw [if_pos ⟨h,h2⟩]
theorem SD.copy {s:Sto}(h:SD s):AZ s=s:=by
 have:=h.idx
 unfold AZ
 rw [← this]
theorem TL {s:Sto}{n k:Nat}{b:Bool}(h:((List.range n).drop (k - 1)).all (Ei s)=b) (h1:1≤k) (h2:k≤n) (h3:((rowsOf s (k:Int)).length:Int)≤24):((List.range n).drop (k+1 - 1)).all (Ei s)=b:=by
 have hd:=NM (n:=n) (i:=k - 1) AB
 have:=IB h hd (by unfold Ei; rw [show ((k - 1:Nat):Int)+1=(k:Int) by omega]; simp; omega)
 rw [show k+1 - 1=k - 1+1 by omega]
 exact this
theorem Vy {s:Sto}{n k:Nat}{b:Bool}(h:((List.range n).drop (k - 1)).all (Ei s)=b) (h1:1≤k) (h2:k≤n) (h3:((rowsOf s (k:Int)).length:Int) > 24):b=false:=by
 have hd:=NM (n:=n) (i:=k - 1) AB
 exact JR h hd (by unfold Ei; rw [show ((k - 1:Nat):Int)+1=(k:Int) by omega]; simp; omega)
theorem U0 {s:Sto}{n k:Nat}{b:Bool}(h:((List.range n).drop (k - 1)).all (Ei s)=b) (h1:n+1≤k):b=true:=Kh h (by simp; omega)
end Go.Proofs.YtggnnidleedpaaaGreat
