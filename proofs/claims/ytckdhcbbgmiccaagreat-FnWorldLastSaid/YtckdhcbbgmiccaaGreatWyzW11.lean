/- walks; pruned haves; hints pruned; squeezed -/
import Derived.Test.YtckdhcbbgmiccaaGreatWyzW2
open Go.Proofs.Tryz
set_option linter.unusedVariables false
set_option linter.unusedSimpArgs false
namespace Go.Proofs.YtckdhcbbgmiccaaGreat
set_option maxRecDepth 100000
set_option maxHeartbeats 4000000
variable {w:World} {F:Nat→Prop} {a1:Option Addr} {n1 c1:Nat}
theorem LD (code:List UInt8) (h1:RepS w F a1 n1 c1 code)  : Calls Tryz.prog 32 [.slice a1 n1 c1].toArray w (Al fun rv w'=>(∃ (D:List UInt8) (b:Nat) (a:Option Addr) (c:Nat),rv=.pointer (some ⟨b,0,none⟩)∧w.heap.size≤b∧Box w' b 121 [.slice a D.length c,.int .i64 ((0:Nat):Int)]∧RepS w' (nin (fo F w.heap.size) [b]) a D.length c D)∧Ext w w'):=by
 refine goT func32 ?_
 obtain ⟨rfl,aA,h1⟩:=h1.tp
 refine .s<|.g<|.r 1<|.d<|.s<|.s<|.g<|.r 2<|.bp ((code.length:Int) > 2000) (fun ag=>?_) (fun ag=>?_)
 ·refine .d<|.ct<|.g<|.r 1<|RG.sub (t:=22) (lo:=none) (hi:=some (vI 2000)) h1 0 2000 AA AA (.inl ⟨rfl,rfl⟩) (.inr ⟨_,_,rfl,by omega⟩) AB AB fun ar ax E=>?_
  refine .r 1<|.d<|.s<|.g<|.r 2<|.np 121 [.slice ar (2000 - 0) ax,vI 0] fun ay aD aa ab af ah=>?_
  have ai:=BT aa (Nat.le_refl _)
  replace ⟨h1,E⟩:=(sn [] ab aa).g2 h1 E
  have aj:=ab
  refine .r 1<|.d ?_
  have ak:=E.len; rw [ak] at E af
  exact .rt func32 results32 (.pointer (some ⟨ay,0,none⟩)) ⟨⟨_,_,_,_,rfl,ai,af,(RepS.Vn E AI)⟩,aj⟩
 refine .d<|.cf<|.sk<|.s<|.g<|.r 2<|.np 121 [.slice a1 code.length c1,vI 0] fun az aE ac ae al am=>?_
 have ao:=BT ac (Nat.le_refl _)
 replace h1:=(sn [] ae ac).g1 h1
 have aq:=ae
 exact .r 1<|.d<|.rt func32 results32 (.pointer (some ⟨az,0,none⟩)) ⟨⟨_,_,_,_,rfl,ao,al,(RepS.Vn h1 AI)⟩,aq⟩
theorem Ay (n:Int){F:Nat→Prop}{b:Nat}{ad:Option Addr}{cd p:Nat}{D:List UInt8}(hr:Box w b 121 [.slice ad D.length cd,.int .i64 (p:Int)]) (hD:RepS w (nin all [b]) ad D.length cd D) (hp:p+1≤1000000000)  : Calls Tryz.prog 34 [.pointer (some ⟨b,0,none⟩),.int .i64 n].toArray w (Al fun rv w'=>(∃ (y:Int),rv=.int .i64 (y)∧(0≤y∧(y< n∨y=0)))∧∃ p':Nat,p'≤p+1∧Box w' b 121 [.slice ad D.length cd,.int .i64 (p':Int)]∧Chg (one b) w w'):=by
 refine goT func34 ?_
 have Z:=St.i1 F hr hD
 have ao:=hD.max
 refine .s<|.g<|.r 1<|.d<|.s<|.g<|.r 4<|RG.Lb 0 Z<|.it ((p:Int)+1)<|.r 2<|RG.Ss 0 Z fun w Z=>.d<|.s<|.s<|.g<|.r 1<|.bp (n< 1) (fun ah=>.r 8<|.d<|.ct<|.s<|.g<|.r 1<|.d<|T.rt func34 results34 (vI 0) ⟨⟨(0:Int),(congrArg (Value.int .i64) AF),AB⟩,p+1,by omega,Z.bc 0,Z.xr⟩) fun ah=>.r 4<|RG.Lb 0 Z<|.r 1<|.eq (D.length:Int) 0 (fun ai=>.r 1<|.d<|.ct<|.s<|.g<|.r 1<|.d<|T.rt func34 results34 (vI 0) ⟨⟨(0:Int),(congrArg (Value.int .i64) AF),AB⟩,p+1,by omega,Z.bc 0,Z.xr⟩) fun ai=>.r 1<|.d<|.cf<|.sk<|.s<|.g<|.r 3<|RG.Lb 0 Z<|.it (((p:Int)+1) - 1)<|.r 1<|.d<|.s<|.s<|.g<|.r 4<|RG.Lb 0 Z<|.r 1<|.bp (((p:Int)+1) - 1< (D.length:Int)) (fun aj=>?_) (fun aj=>?_)
 ·refine .d<|.ct<|.s<|.g<|.r 3<|RG.Lb 0 Z<|.r 1<|gx (h:=AB) D ((((p:Int)+1) - 1).toNat) fun af ab=>?_
  have ar:=UInt8.toNat_lt af
  exact RG.Jx (hz:=AB) 0 (((p:Int)+1) - 1) ab Z<|Z.el 0 ab fun Z=>RG.Lh 0 0 Z<|.it ((af.toNat:Int))<|.r 1<|RG.rem (t:=3) (k:=.i64) (a:=(af.toNat:Int)) (b:=n) AA AB<|.r 1<|.d<|T.rt func34 results34 (vI (Int.tmod (af.toNat:Int) n)) ⟨⟨((Int.tmod (af.toNat:Int) n):Int),(congrArg (Value.int .i64) AF),(by exact UG AB ‹_›)⟩,p+1,by omega,Z.bc 0,Z.xr⟩
 refine .d<|.cf<|.sk<|.s<|T.Gd 44 Z fun w Z=>.r [0,1,2]<|GA.Lb 3 0 Z<|.r [4,5,6,7]<|GA.Lb 8 0 Z<|.r [9]<|GA.rem (i:=10) (t:=3) (k:=.i64) (a:=((p:Int)+1) - 1) (b:=(D.length:Int)) AA AA AB<|gx (h:=(by exact Q0 AB AB)) D (((Int.tmod (((p:Int)+1) - 1) (D.length:Int))).toNat) fun E ac=>?_
 have ay:=UInt8.toNat_lt E
 refine GA.Jx (hz:=(by exact Q1 AB)) 11 0 (Int.tmod (((p:Int)+1) - 1) (D.length:Int)) ac Z<|Z.el 0 ac fun Z=>GA.Lh 12 0 0 Z<|GA.int (i:=13) ((E.toNat:Int)) AA AB<|GA.int (i:=14) ((E.toNat:Int) * 131) AA AB<|.r [15,16,17]<|GA.Lb 18 0 Z<|.r [19]<|GA.int (i:=20) ((((p:Int)+1) - 1) * 7) AA AB<|GA.int (i:=21) ((((p:Int)+1) - 1) * 7+3) AA AB<|.r [22,23,24]<|GA.Lb 25 0 Z<|.r [26]<|GA.rem (i:=27) (t:=3) (k:=.i64) (a:=(((p:Int)+1) - 1) * 7+3) (b:=(D.length:Int)) AA AA AB<|gx (h:=(by exact Q0 AB AB)) D (((Int.tmod ((((p:Int)+1) - 1) * 7+3) (D.length:Int))).toNat) fun aa ae=>?_
 have aA:=UInt8.toNat_lt aa
 refine GA.Jx (hz:=(by exact Q1 AB)) 28 1 (Int.tmod ((((p:Int)+1) - 1) * 7+3) (D.length:Int)) ae Z<|Z.el 1 ae fun Z=>GA.Lh 29 0 0 Z<|GA.int (i:=30) ((aa.toNat:Int)) AA AB<|GA.int (i:=31) ((aa.toNat:Int) * 1117) AA AB<|GA.int (i:=32) ((E.toNat:Int) * 131+((aa.toNat:Int) * 1117)) AA AB<|.r [33]<|GA.int (i:=34) ((((p:Int)+1) - 1) * 29) AA AB<|GA.int (i:=35) ((E.toNat:Int) * 131+((aa.toNat:Int) * 1117)+((((p:Int)+1) - 1) * 29)) AA AB<|.r [36,37,38,39]<|GA.Lb 40 0 Z<|.r [41] ?_
 have aB:=UH (a:=((p:Int)+1) - 1) (n:=(D.length:Int)) AB AB
 refine GA.quo (i:=42) (t:=3) (a:=((p:Int)+1) - 1) (b:=(D.length:Int)) AA AA AB AB<|GA.int (i:=43) ((Int.tdiv (((p:Int)+1) - 1) (D.length:Int)) * 53) AA AB<|GA.Dn Z fun w Z=>.it ((E.toNat:Int) * 131+((aa.toNat:Int) * 1117)+((((p:Int)+1) - 1) * 29)+((Int.tdiv (((p:Int)+1) - 1) (D.length:Int)) * 53))<|.r 1<|.d<|.s<|.g<|.r 2 ?_
 have aC:=UH (a:=(E.toNat:Int) * 131+((aa.toNat:Int) * 1117)+((((p:Int)+1) - 1) * 29)+((Int.tdiv (((p:Int)+1) - 1) (D.length:Int)) * 53)) (n:=64) AB AB
 refine RG.quo (t:=3) (a:=(E.toNat:Int) * 131+((aa.toNat:Int) * 1117)+((((p:Int)+1) - 1) * 29)+((Int.tdiv (((p:Int)+1) - 1) (D.length:Int)) * 53)) (b:=64) AA AB AB<|RG.xor (t:=3) (a:=(E.toNat:Int) * 131+((aa.toNat:Int) * 1117)+((((p:Int)+1) - 1) * 29)+((Int.tdiv (((p:Int)+1) - 1) (D.length:Int)) * 53)) (b:=(Int.tdiv ((E.toNat:Int) * 131+((aa.toNat:Int) * 1117)+((((p:Int)+1) - 1) * 29)+((Int.tdiv (((p:Int)+1) - 1) (D.length:Int)) * 53)) 64)) AA AB AB ?_
 obtain ⟨ag,aD,hz35e⟩:∃ z:Nat,z< 4611686018427387904∧((((E.toNat:Int) * 131+((aa.toNat:Int) * 1117)+((((p:Int)+1) - 1) * 29)+((Int.tdiv (((p:Int)+1) - 1) (D.length:Int)) * 53)).toNat ^^^ ((Int.tdiv ((E.toNat:Int) * 131+((aa.toNat:Int) * 1117)+((((p:Int)+1) - 1) * 29)+((Int.tdiv (((p:Int)+1) - 1) (D.length:Int)) * 53)) 64)).toNat:Nat):Int)=(z:Int):=⟨_,(PG AB AB).2,rfl⟩
 rw [hz35e]
 exact .r 1<|.d<|.s<|.g<|.r 2<|RG.rem (t:=3) (k:=.i64) (a:=(ag:Int)) (b:=n) AA AB<|.r 1<|.d<|T.rt func34 results34 (vI (Int.tmod (ag:Int) n)) ⟨⟨((Int.tmod (ag:Int) n):Int),(congrArg (Value.int .i64) AF),(by exact UG AB ‹_›)⟩,p+1,by omega,Z.bc 0,Z.xr⟩
theorem Cn (list:List Txt){b:Nat}{ad:Option Addr}{cd p:Nat}{D:List UInt8}(hr:Box w b 121 [.slice ad D.length cd,.int .i64 (p:Int)]) (hD:RepS w (nin all [b]) ad D.length cd D) (hp:p+1≤1000000000) (h1:RepS w (nin F [b]) a1 n1 c1 list) (p0:0< list.length):Calls Tryz.prog 146 [.pointer (some ⟨b,0,none⟩),.slice a1 n1 c1].toArray w (Al fun rv w'=>(∃ (y:Str),rv=.string (bs (y))∧((⟨y⟩:Txt)∈list))∧∃ p':Nat,p'≤p+1∧Box w' b 121 [.slice ad D.length cd,.int .i64 (p':Int)]∧Chg (one b) w w'):=by
 cases h1.len
 refine goT func146 ?_
 have Z:=(St.i1 F hr hD).p1 h1
 have ai:=h1.max
 refine .s<|.g<|.r 1<|.d<|.s<|.g<|.r 4<|RG.cl (Ay (list.length:Int) (Z.bc 0) (Z.rd 0 1) AB (D:=D) (p:=p) (F:=all)) ?_
 rintro _ w ⟨⟨aa,rfl,aj⟩,ag,ak,ab,ac⟩
 have Z:=Z.rx 0 ac ab
 exact gxm list (aa.toNat) fun ae E af=>RG.Jx 0 aa E Z<|Z.el 0 E fun Z=>RG.Lh 0 0 Z<|.r 1<|.d<|T.rt func146 results146 (vT ae.s) ⟨⟨(ae.s:Str),(congrArg (fun s=>Value.string (bs s)) AF),‹_›⟩,ag,by omega,Z.bc 0,Z.xr⟩
theorem FM  {F:Nat→Prop}{b:Nat}{ad:Option Addr}{cd p:Nat}{D:List UInt8}(hr:Box w b 121 [.slice ad D.length cd,.int .i64 (p:Int)]) (hD:RepS w (nin all [b]) ad D.length cd D) (hp:p+4≤1000000000)  : Calls Tryz.prog 108 [.pointer (some ⟨b,0,none⟩)].toArray w (Al fun rv w'=>(∃ (y:Row),VS (ge w.heap.size) w' (y:Row) rv∧(FB y))∧∃ p':Nat,p'≤p+4∧Box w' b 121 [.slice ad D.length cd,.int .i64 (p':Int)]∧Chg (one b) w w'):=by
 refine goT func108 ?_
 have Z:=St.i1 F hr hD
 refine .s<|.g<|RG.Np Z fun aW w Z=>.d<|.s<|.g<|.r 1<|RG.cl (Ay 40 (Z.bc 1) (Z.rd 1 0) AB (D:=D) (p:=p) (F:=all)) ?_
 rintro _ w ⟨⟨ac,rfl,aK⟩,aF,aL,ah,ai⟩
 have Z:=Z.rx 1 ai ah
 refine .r 1<|RG.cl (Ay 20 (Z.bc 1) (Z.rd 1 0) AB (D:=D) (p:=aF) (F:=all)) ?_
 rintro _ w ⟨⟨ab,rfl,aM⟩,aG,aN,aj,ak⟩
 have Z:=Z.rx 1 ak aj
 refine .it (ab - 6)<|.r 1<|RG.Np Z fun aX w Z=>RG.Ss 0 Z fun w Z=>.d<|.s<|.s<|.g<|.r 1<|RG.cl (Ay 40 (Z.bc 2) (Z.rd 2 0) AB (D:=D) (p:=aG) (F:=all)) ?_
 rintro _ w ⟨⟨al,rfl,aO⟩,ag,aP,am,ao⟩
 have Z:=Z.rx 2 ao am
 refine .d<|.b 0<|.s<|.g<|.eq al 0 (fun aq=>?_) (fun aq=>?_)
 ·refine .r 1<|.d<|.ct<|.g<|RG.Nl 0 ([(-1),99,100]:List Int) [] Z fun aY w Z=>.r 1<|RG.cl (Ay 3 (Z.bc 3) (Z.rd 3 0) AB (D:=D) (p:=ag) (F:=all)) ?_
  rintro _ w ⟨⟨ar,rfl,aQ⟩,aH,aR,ax,ay⟩
  have Z:=Z.rx 3 ay ax
  refine gxm ([(-1),99,100]:List Int) (ar.toNat) fun az E ae=>?_
  simp only [List.mem_cons,List.not_mem_nil,or_false] at ae
  exact RG.Jo 0 ar E Z<|Z.eo 0 E fun Z=>RG.Lt 0 0 Z<|.r 1<|RG.Ss 1 Z fun w Z=>.d<|.ib 0<|.s<|.g<|RG.Ln 1 Z<|RG.Ss 2 Z fun w Z=>.d<|T.Rb 2 func108 results108 Z ⟨⟨((⟨az,ab - 6⟩:Row):Row),Z.rS (⟨az,ab - 6⟩:Row) [] rfl,(by (unfold FB; dsimp only; omega))⟩,aH,by omega,Z.bc 3,Z.xr⟩
 refine .r 1<|.d<|.cf<|.s<|.g<|.eq al 1 (fun aA=>?_) (fun aA=>.r 1<|.d<|.cf<|.sk<|.ib 0<|.s<|.g<|RG.Ln 0 Z<|RG.Ss 1 Z fun w Z=>.d<|T.Rb 1 func108 results108 Z ⟨⟨((⟨ac,ab - 6⟩:Row):Row),Z.rS (⟨ac,ab - 6⟩:Row) [] rfl,(by (unfold FB; dsimp only; omega))⟩,ag,by omega,Z.bc 2,Z.xr⟩)
 refine .r 1<|.d<|.ct<|.g<|RG.Nl 0 ([(-99),99,100]:List Int) [] Z fun aZ w Z=>.r 1<|RG.cl (Ay 3 (Z.bc 3) (Z.rd 3 0) AB (D:=D) (p:=ag) (F:=all)) ?_
 rintro _ w ⟨⟨aB,rfl,aT⟩,aI,aU,aC,aD⟩
 have Z:=Z.rx 3 aD aC
 refine gxm ([(-99),99,100]:List Int) (aB.toNat) fun aE aa af=>?_
 simp only [List.mem_cons,List.not_mem_nil,or_false] at af
 exact RG.Jo 0 aB aa Z<|Z.eo 0 aa fun Z=>RG.Lt 0 0 Z<|.r 1<|RG.Ss 1 Z fun w Z=>.d<|.ib 0<|.s<|.g<|RG.Ln 1 Z<|RG.Ss 2 Z fun w Z=>.d<|T.Rb 2 func108 results108 Z ⟨⟨((⟨ac,aE⟩:Row):Row),Z.rS (⟨ac,aE⟩:Row) [] rfl,(by (unfold FB; dsimp only; omega))⟩,aI,by omega,Z.bc 3,Z.xr⟩
theorem FN  {F:Nat→Prop}{b:Nat}{ad:Option Addr}{cd p:Nat}{D:List UInt8}(hr:Box w b 121 [.slice ad D.length cd,.int .i64 (p:Int)]) (hD:RepS w (nin all [b]) ad D.length cd D) (hp:p+2≤1000000000)  : Calls Tryz.prog 147 [.pointer (some ⟨b,0,none⟩)].toArray w (Al fun rv w'=>(∃ (y:Tag),VS (ge w.heap.size) w' (y:Tag) rv∧(HF y∧BX y=true))∧∃ p':Nat,p'≤p+2∧Box w' b 121 [.slice ad D.length cd,.int .i64 (p':Int)]∧Chg (one b) w w'):=by
 refine goT func147 ?_
 have Z:=St.i1 F hr hD
 refine .s<|.g<|RG.Np Z fun ao w Z=>.d<|.s<|.g<|.r 1<|RG.Nl 0 ([(⟨[97]⟩:Txt),(⟨[98]⟩:Txt),(⟨[99]⟩:Txt)]:List Txt) [] Z fun aq w Z=>RG.cl (Cn ([(⟨[97]⟩:Txt),(⟨[98]⟩:Txt),(⟨[99]⟩:Txt)]:List Txt) (Z.bc 2) (Z.rd 2 0) AB (Z.rw_ 2 0) AD (D:=D) (p:=p)) ?_
 rintro _ w ⟨⟨E,rfl,aj⟩,ag,ak,aa,ab⟩
 have Z:=Z.rx 2 ab aa
 refine .r 1<|RG.Nl 0 ([(⟨[112]⟩:Txt),(⟨[113]⟩:Txt),(⟨[122]⟩:Txt)]:List Txt) [] Z fun ar w Z=>RG.cl (Cn ([(⟨[112]⟩:Txt),(⟨[113]⟩:Txt),(⟨[122]⟩:Txt)]:List Txt) (Z.bc 3) (Z.rd 3 0) AB (Z.rw_ 3 0) AD (D:=D) (p:=ag)) ?_
 rintro _ w ⟨⟨ac,rfl,al⟩,ah,am,ae,af⟩
 have Z:=Z.rx 3 af ae
 exact .r 1<|RG.Ss 2 Z fun w Z=>.d<|T.Rb 2 func147 results147 Z ⟨⟨((⟨E,ac⟩:Tag):Tag),Z.rS (⟨E,ac⟩:Tag) [] rfl,(by exact Q2 ‹_› ‹_›)⟩,ah,by omega,Z.bc 3,Z.xr⟩
theorem Kd  {F:Nat→Prop}{b:Nat}{ad:Option Addr}{cd p:Nat}{D:List UInt8}(hr:Box w b 121 [.slice ad D.length cd,.int .i64 (p:Int)]) (hD:RepS w (nin all [b]) ad D.length cd D) (hp:p+20≤1000000000)  : Calls Tryz.prog 109 [.pointer (some ⟨b,0,none⟩)].toArray w (Al fun rv w'=>(∃ (y:List Tag),VL (ge w.heap.size) w' (y:List Tag) rv∧(NmX y))∧∃ p':Nat,p'≤p+20∧Box w' b 121 [.slice ad D.length cd,.int .i64 (p':Int)]∧Chg (one b) w w'):=by
 refine goT func109 ?_
 refine .s<|.g<|.r 1<|.d<|.s<|.g<|.ns 0 61 [] fun az dE aP br dF dG=>?_
 have dH:=Ab aP hr.lt
 have dI:=BT aP (Nat.le_refl _)
 have dJ:Cov (one b) w az:=Fp aP (Nat.le_refl _)
 replace ⟨hD,hr⟩:=(sn [b] br aP).g2 hD hr
 have E:Chg (one b) w dE:=Chg.GW (Chg.refl (one b) w) br
 have ba:Own (α:=Tag) dE az 61 (nin (ge w.heap.size) [az,b]) 0 0 []:=Own.BM dF
 refine .r 1<|.d<|.s<|.s<|.g<|.ns 3 9 [.string (bs [97]),.string (bs [98]),.string (bs [99])] fun ac bk bd b8 dK dL=>?_
 have fw:=Ab bd hr.lt
 have dM:=Ab bd ba.lt
 replace ⟨hD,hr,ba,E⟩:=(sn [az,b] b8 bd).g4 hD hr ba E
 have aa:Own (α:=Txt) bk ac 9 (nin (ge w.heap.size) [ac,az,b]) 3 3 [(⟨[97]⟩:Txt),(⟨[98]⟩:Txt),(⟨[99]⟩:Txt)]:=Own.lit dK rfl AE ⟨rfl,rfl,rfl,rfl⟩
 refine .r 2<|.d<|.b 0<|T.loop (X:=(List Tag) × Nat × Nat × Nat × Nat × Nat) (([]:List Tag),az,0,0,0,p) (fun (out,r_out,n_out,c_out,k,p_)=>[(0,.pointer (some ⟨b,0,none⟩)),(3,vS r_out n_out c_out),(7,vS ac 3 3),(8,vI 3),(9,vI (k:Int))]) (fun (out,r_out,n_out,c_out,k,p_) aJ=>Chg (ins [az,b]) bk aJ∧Own aJ r_out 61 (nin (ge w.heap.size) [ac,r_out,b]) n_out c_out out∧OrB r_out az bk.heap.size∧Box aJ b 121 [.slice ad D.length cd,vI (p_:Int)]∧(k≤3)∧(out.length≤k)∧(∀ t∈out,HF t)∧(∀ t∈out,BX t=true)∧(p_≤p+2 * k)) (fun (out,r_out,n_out,c_out,k,p_)=>3 - k) AA ⟨AA,AA,AA,AA,AA,trivial⟩ ⟨Chg.refl _ _,ba,Dt,hr,AD,AD,AD,AD,AD⟩ ?_
 rintro ⟨out,r_out,n_out,c_out,k,p_⟩ f6 aJ ⟨ag,ab,ay,bt,fA,fB,fC,fD,fE⟩ aQ
 have b9:=CW ay dH hr.lt
 have ce:=CW ay (Nb.symm dM) aa.lt
 have bg:=Ih ay dI E.size
 have dN:=Ck ay dJ E.size
 have dO:Cov (ins [az,b]) bk az:=⟨.inl AI⟩
 have fF:Cov (ins [az,b]) bk b:=⟨.inl AJ⟩
 have fG:=Ck ay dO (Nat.le_refl _)
 have cg:Mv [ac,az,b] [ac,r_out,b] bk aJ:=Mv.inl ag (all_cons AJ (all_cons AK all_nil)) (all_cons (.inl AI) (all_cons (E7 ay AJ) (all_cons (.inl AK) all_nil)))
 replace ⟨hD,aa,E⟩:=(sp cg ag).g3 hD aa E
 have fH:=ab.len; have fI:=ab.max
 refine .s<|.g<|.bp ((k:Int)< 3) (fun dP=>?_) (fun dP=>?_)
 ·refine .d<|.s<|.ct<|.sk<|.s<|.b 1<|.s<|.g ?_
  have dQ:k< 3:=AB
  refine RG.idx (b:=ac) (o:=0) k (len:=3) (i:=(k:Int)) (sz:=1) AA AB dQ rfl ?_
  obtain ⟨bu,bv⟩:∃ y,([(⟨[97]⟩:Txt),(⟨[98]⟩:Txt),(⟨[99]⟩:Txt)]:List Txt)[k]? = some y:=⟨_,AU AB⟩
  have b7:=AV bv
  simp only [List.mem_cons,List.not_mem_nil,or_false] at b7
  obtain ⟨_,rfl,bw⟩:=aa.elem k bu bv
  replace bw:Has aJ ⟨ac,0+k * Rep.sz Txt,none⟩ [vT bu.s]:=by rw [Nat.zero_add]; exact bw
  refine .lh 0 bw<|.r 1<|.d<|.s<|.g<|.r 1<|.cl (Ay 2 bt (hD.CN AK) AB (w:=aJ) (F:=all)) ?_
  rintro f7 f8 ⟨⟨eG,rfl,fK⟩,eH,fL,aR,ci⟩
  replace ⟨hD,ab,aa,E,ag⟩:=(so [ac,r_out,b] ci).g5 hD ab aa E ag
  refine .eq eG 0 (fun dR=>?_) (fun dR=>.d<|.cf<|.sk<|.ib 1<|.g<|.it ((k:Int)+1)<|.r 1<|.d<|aQ (out,r_out,n_out,c_out,k+1,eH) _ _ ⟨AA,AA,AA,AA,AA,trivial⟩ ⟨ag,ab,ay,aR,AB,AB,‹_›,‹_›,AB⟩ (by (simp only []; omega)))
  refine .d<|.ct<|.g<|.r 3<|.ns 3 9 [.string (bs [112]),.string (bs [113]),.string (bs [122])] fun aU dS bz cj dT dU=>?_
  have dV:=Ab bz aR.lt
  replace ⟨hD,aR,ab,aa,E,ag⟩:=(sn [ac,r_out,b] cj bz).g6 hD aR ab aa E ag
  have bh:Own (α:=Txt) dS aU 9 (nin (ge w.heap.size) [aU,ac,r_out,b]) 3 3 [(⟨[112]⟩:Txt),(⟨[113]⟩:Txt),(⟨[122]⟩:Txt)]:=Own.lit dT rfl AE ⟨rfl,rfl,rfl,rfl⟩
  refine .cl (Cn ([(⟨[112]⟩:Txt),(⟨[113]⟩:Txt),(⟨[122]⟩:Txt)]:List Txt) aR (hD.CN AL) AB (bh.CN AL dV) AD (w:=dS) (F:=all)) ?_
  rintro f9 gb ⟨⟨cB,rfl,fM⟩,eI,fN,aI,ck⟩
  replace ⟨hD,ab,aa,bh,E,ag⟩:=(so [aU,ac,r_out,b] ck).g6 hD ab aa bh E ag
  refine .r 1<|.ns 1 61 [vT bu.s,vT cB] fun dW gf aq bA cC cD=>?_
  have cE:=Ab aq aI.lt
  have bB:=Ab aq ab.lt
  have cF:=Ab aq aa.lt
  have cG:=Ab aq bh.lt
  have cH:=BT aq E.size
  replace ⟨hD,aI,ab,aa,E,ag⟩:=(se [aU,ac,r_out,b] bA).g6 hD aI ab aa E ag
  have bm:nin (ge w.heap.size) [aU,ac,r_out,b] dW∧dW≠r_out:=Du cH (all_cons cG (all_cons cF (all_cons bB (all_cons cE all_nil)))) bB
  refine RG.CU (T:=42) (ty:=42) (y:=(⟨bu.s,cB⟩:Tag)) ab cC AA AA rfl bm AB fun bC dX cm ai aK bD=>?_
  have cI:=HX aK ay ag.size
  replace ⟨hD,aI,aa,E,ag⟩:=(sa [aU,ac,r_out,b] bD aK).g5 hD aI aa E ag
  replace ai:=ai.rn r_out
  have eJ:=ai.len
  refine .r 1<|.d<|.ib 1<|.g<|.it ((k:Int)+1)<|.r 1<|.d ?_
  have cJ:Mv [aU,ac,bC,b] [ac,bC,b] cm cm:=Mv.less (all_cons AJ (all_cons AK (all_cons AL all_nil)))
  replace ⟨hD,ai,aa⟩:=(sp cJ (Chg.refl nil _)).g3 hD ai aa
  exact aQ ((out++[(⟨bu.s,cB⟩:Tag)]),bC,n_out+1,dX,k+1,eI) _ _ ⟨AA,AA,AA,AA,AA,trivial⟩ ⟨ag,ai,cI,aI,AB,AB,(by exact NC ‹_› (Q3 ‹_› ‹_›).1),(by exact NC ‹_› (Q3 ‹_› ‹_›).2),AB⟩ (by (simp only []; omega))
 refine .d<|.s<|.cf<|.x 0 rfl<|.s<|.s<|.g<|.r 2<|.eq (n_out:Int) 0 (fun cK=>?_) (fun cK=>?_)
 ·refine .d<|.ct<|.g<|.r 2<|.cl (FN bt (hD.CN AK) AB (w:=aJ) (F:=all)) ?_
  rintro fO fP ⟨⟨aA,⟨_,rfl,rfl⟩,eL⟩,fQ,eM,aj,bE⟩
  replace ⟨hD,ab,aa,E⟩:=(so [ac,r_out,b] bE).g4 hD ab aa E
  refine .ns 1 61 [vT aA.key,vT aA.val] fun co fR aB bF cL cM=>?_
  have cN:=Ab aB aj.lt
  have bG:=Ab aB ab.lt
  have cO:=Ab aB aa.lt
  have cP:=BT aB E.size
  replace ⟨hD,aj,ab,aa,E⟩:=(se [ac,r_out,b] bF).g5 hD aj ab aa E
  have bn:nin (ge w.heap.size) [ac,r_out,b] co∧co≠r_out:=Du cP (all_cons cO (all_cons bG (all_cons cN all_nil))) bG
  refine RG.CU (T:=42) (ty:=42) (y:=aA) ab cL AA AA rfl bn AB fun af cp dY ae ah bH=>?_
  have cQ:=Bd ah b9 aj.lt
  have cR:=Bd ah ce aa.lt
  have aV:=EP ah bg E.size
  have eN:=GV ah dN E.size
  replace ⟨hD,aj,aa,E⟩:=(sa [ac,r_out,b] bH ah).g4 hD aj aa E
  replace ae:=ae.rn r_out
  have eO:=ae.len
  refine .r 1<|.d<|.s<|.s<|.g<|.r 1<|.cl (Ay 40 aj (hD.CN AK) AB (w:=dY) (F:=all)) ?_
  rintro fS cq ⟨⟨cr,rfl,eQ⟩,dZ,eR,ar,bI⟩
  replace ⟨hD,ae,aa,E⟩:=(so [ac,af,b] bI).g4 hD ae aa E
  refine .d<|.b 2<|.s<|.g<|.eq cr 0 (fun cS=>?_) (fun cS=>?_)
  ·refine .r 1<|.d<|.ct<|.s<|.g<|.r 2<|.cl (FN ar (hD.CN AK) AB (w:=cq) (F:=all)) ?_
   rintro fT fU ⟨⟨bi,⟨_,rfl,rfl⟩,eS⟩,d0,eT,ak,bJ⟩
   replace ⟨hD,ae,aa,E⟩:=(so [ac,af,b] bJ).g4 hD ae aa E
   refine .ns 1 61 [vT bi.key,vT bi.val] fun cu fV aC bK cT cU=>?_
   have cV:=Ab aC ak.lt
   have bL:=Ab aC ae.lt
   have cW:=Ab aC aa.lt
   have cX:=BT aC E.size
   replace ⟨hD,ak,ae,aa,E⟩:=(se [ac,af,b] bK).g5 hD ak ae aa E
   have bo:nin (ge w.heap.size) [ac,af,b] cu∧cu≠af:=Du cX (all_cons cW (all_cons bL (all_cons cV all_nil))) bL
   refine RG.CU (T:=42) (ty:=42) (y:=bi) ae cT AA AA rfl bo AB fun bM d3 d4 aD am bN=>?_
   have eU:=Bd am cQ ak.lt
   have eV:=Bd am cR aa.lt
   have cY:=EP am aV E.size
   replace ⟨hD,ak,aa,E⟩:=(sa [ac,af,b] bN am).g4 hD ak aa E
   replace aD:=aD.rn af
   have eW:=aD.len
   refine .r 1<|.d ?_
   have d5:=aD.sl cY
   replace ⟨hD,aa⟩:=(sd d4 [ac,bM,b] bM).g2 hD aa
   exact .rt func109 results109 (vS bM (n_out+1+1) d3) ⟨⟨(((out++[aA])++[bi]):List Tag),(d5.vl AF (fun _ _ h=>h.1)),(by exact J6 AB (by grind [HF]) (by grind))⟩,d0,by omega,ak,E⟩
  refine .r 1<|.d<|.cf<|.s<|.g<|.eq cr 1 (fun cZ=>?_) (fun cZ=>?_)
  ·refine .r 1<|.d<|.ct<|.g<|.r 2<|.ns 3 9 [.string (bs []),.string (bs [111]),.string (bs [112,112])] fun aS cw aL bO c7 c8=>?_
   have da:=Ab aL ar.lt
   have eY:=Ab aL ae.lt
   replace ⟨hD,ar,ae,aa,E⟩:=(sn [ac,af,b] bO aL).g5 hD ar ae aa E
   have db:Own (α:=Txt) cw aS 9 (nin (ge w.heap.size) [aS,ac,af,b]) 3 3 [(⟨[]⟩:Txt),(⟨[111]⟩:Txt),(⟨[112,112]⟩:Txt)]:=Own.lit c7 rfl AE ⟨rfl,rfl,rfl,rfl⟩
   refine .cl (Cn ([(⟨[]⟩:Txt),(⟨[111]⟩:Txt),(⟨[112,112]⟩:Txt)]:List Txt) ar (hD.CN AL) AB (db.CN AL da) AD (w:=cw) (F:=all)) ?_
   rintro fW d6 ⟨⟨bP,rfl,eZ⟩,d7,e7,aW,bQ⟩
   replace ⟨hD,ae,aa,E⟩:=(so [aS,ac,af,b] bQ).g4 hD ae aa E
   have de:0< n_out+1:=AB
   refine RG.idx (b:=af) (o:=0) 0 (len:=n_out+1) (i:=0) (sz:=2) AA AB de rfl<|.r 1 ?_
   obtain ⟨aE,aM⟩:∃ y,(out++[aA])[0]? = some y:=⟨_,AU AB⟩
   have e8:=Be aM; have d8:=AV aM
   obtain ⟨_,rfl,aX⟩:=ae.elem 0 aE aM
   replace aX:Has d6 ⟨af,0+0 * Rep.sz Tag,none⟩ [vT aE.key,vT aE.val]:=by rw [Nat.zero_add]; exact aX
   refine RG.EE (t':=9) (i:=0) (k:=1) (v:=vT bP) (cs:=[vT aE.key,vT aE.val]) (⟨aE.key,bP⟩:Tag) ae aM aX AA AA AA rfl fun d9 df bR dh=>?_
   replace ⟨hD,aW,aa,E⟩:=(so [aS,ac,af,b] bR).g4 hD aW aa E
   refine .d<|.ib 2<|.s<|.g<|.r 2<|.d ?_
   have ec:=df.sl aV
   replace ⟨hD,aa⟩:=(sd d9 [aS,ac,af,b] af).g2 hD aa
   exact .rt func109 results109 (vS af (n_out+1) cp) ⟨⟨(((out++[aA]).set 0 (⟨aE.key,bP⟩:Tag)):List Tag),(ec.vl AF (fun _ _ h=>h.1)),(by exact PI AB (by grind [HF]) (by grind))⟩,d7,by omega,aW,E⟩
  refine .r 1<|.d<|.cf<|.sk<|.ib 2<|.s<|.g<|.r 2<|.d ?_
  have ee:=ae.sl aV
  replace ⟨hD,aa⟩:=(sd cq [ac,af,b] af).g2 hD aa
  exact .rt func109 results109 (vS af (n_out+1) cp) ⟨⟨((out++[aA]):List Tag),(ee.vl AF (fun _ _ h=>h.1)),(by exact J6 AB (by grind [HF]) (by grind))⟩,dZ,by omega,ar,E⟩
 refine .d<|.cf<|.sk<|.s<|.s<|.g<|.r 1<|.cl (Ay 40 bt (hD.CN AK) AB (w:=aJ) (F:=all)) ?_
 rintro fX cx ⟨⟨cy,rfl,fa⟩,eg,fb,ax,bS⟩
 replace ⟨hD,ab,aa,E⟩:=(so [ac,r_out,b] bS).g4 hD ab aa E
 refine .d<|.b 2<|.s<|.g<|.eq cy 0 (fun dj=>?_) (fun dj=>?_)
 ·refine .r 1<|.d<|.ct<|.s<|.g<|.r 2<|.cl (FN ax (hD.CN AK) AB (w:=cx) (F:=all)) ?_
  rintro fY fZ ⟨⟨bj,⟨_,rfl,rfl⟩,fd⟩,eh,fe,al,bT⟩
  replace ⟨hD,ab,aa,E⟩:=(so [ac,r_out,b] bT).g4 hD ab aa E
  refine .ns 1 61 [vT bj.key,vT bj.val] fun cz f0 aF bU dm dp=>?_
  have dq:=Ab aF al.lt
  have bV:=Ab aF ab.lt
  have dt:=Ab aF aa.lt
  have du:=BT aF E.size
  replace ⟨hD,al,ab,aa,E⟩:=(se [ac,r_out,b] bU).g5 hD al ab aa E
  have bq:nin (ge w.heap.size) [ac,r_out,b] cz∧cz≠r_out:=Du du (all_cons dt (all_cons bV (all_cons dq all_nil))) bV
  refine RG.CU (T:=42) (ty:=42) (y:=bj) ab dm AA AA rfl bq AB fun bW ej ek aG ao bX=>?_
  have ff:=Bd ao b9 al.lt
  have fg:=Bd ao ce aa.lt
  have dv:=EP ao bg E.size
  replace ⟨hD,al,E⟩:=(sa [ac,r_out,b] bX ao).g3 hD al E
  replace aG:=aG.rn r_out
  have fi:=aG.len
  refine .r 1<|.d ?_
  have en:=aG.sl dv
  replace hD:=(sd ek [ac,bW,b] bW).g1 hD
  exact .rt func109 results109 (vS bW (n_out+1) ej) ⟨⟨((out++[bj]):List Tag),(en.vl AF (fun _ _ h=>h.1)),(by exact J6 AB (by grind [HF]) (by grind))⟩,eh,by omega,al,E⟩
 refine .r 1<|.d<|.cf<|.s<|.g<|.eq cy 1 (fun dw=>?_) (fun dw=>?_)
 ·refine .r 1<|.d<|.ct<|.g<|.r 2<|.ns 3 9 [.string (bs []),.string (bs [111]),.string (bs [112,112])] fun aT cA aN bY dx dy=>?_
  have dz:=Ab aN ax.lt
  have fm:=Ab aN ab.lt
  replace ⟨hD,ax,ab,E⟩:=(sn [ac,r_out,b] bY aN).g4 hD ax ab E
  have dA:Own (α:=Txt) cA aT 9 (nin (ge w.heap.size) [aT,ac,r_out,b]) 3 3 [(⟨[]⟩:Txt),(⟨[111]⟩:Txt),(⟨[112,112]⟩:Txt)]:=Own.lit dx rfl AE ⟨rfl,rfl,rfl,rfl⟩
  refine .cl (Cn ([(⟨[]⟩:Txt),(⟨[111]⟩:Txt),(⟨[112,112]⟩:Txt)]:List Txt) ax (hD.CN AL) AB (dA.CN AL dz) AD (w:=cA) (F:=all)) ?_
  rintro f5 eA ⟨⟨bZ,rfl,fp⟩,eB,fq,aY,b0⟩
  replace ⟨hD,ab,E⟩:=(so [aT,ac,r_out,b] b0).g3 hD ab E
  have dB:0< n_out:=AB
  refine RG.idx (b:=r_out) (o:=0) 0 (len:=n_out) (i:=0) (sz:=2) AA AB dB rfl<|.r 1 ?_
  obtain ⟨aH,aO⟩:∃ y,out[0]? = some y:=⟨_,AU AB⟩
  have eC:=AV aO
  obtain ⟨_,rfl,aZ⟩:=ab.elem 0 aH aO
  replace aZ:Has eA ⟨r_out,0+0 * Rep.sz Tag,none⟩ [vT aH.key,vT aH.val]:=by rw [Nat.zero_add]; exact aZ
  refine RG.EE (t':=9) (i:=0) (k:=1) (v:=vT bZ) (cs:=[vT aH.key,vT aH.val]) (⟨aH.key,bZ⟩:Tag) ab aO aZ AA AA AA rfl fun eD dC b6 dD=>?_
  replace ⟨hD,aY,E⟩:=(so [aT,ac,r_out,b] b6).g3 hD aY E
  refine .d<|.ib 2<|.s<|.g<|.r 2<|.d ?_
  have eE:=dC.sl bg
  replace hD:=(sd eD [aT,ac,r_out,b] r_out).g1 hD
  exact .rt func109 results109 (vS r_out n_out c_out) ⟨⟨((out.set 0 (⟨aH.key,bZ⟩:Tag)):List Tag),(eE.vl AF (fun _ _ h=>h.1)),(by exact PI AB (by grind [HF]) ‹_›)⟩,eB,by omega,aY,E⟩
 refine .r 1<|.d<|.cf<|.sk<|.ib 2<|.s<|.g<|.r 2<|.d ?_
 have eF:=ab.sl bg
 replace hD:=(sd cx [ac,r_out,b] r_out).g1 hD
 exact .rt func109 results109 (vS r_out n_out c_out) ⟨⟨(out:List Tag),(eF.vl AF (fun _ _ h=>h.1)),(by exact J6 AB ‹_› ‹_›)⟩,eg,by omega,ax,E⟩
end Go.Proofs.YtckdhcbbgmiccaaGreat
namespace Go.Proofs.YtckdhcbbgmiccaaGreat
def S9 (P:Program) (s d:TypeId):Bool :=
 match P.underlying s,P.underlying d with
 | some (.slice e),some .string=>(match P.underlying e with | some (.int .u8)=>true | _=>false)
 | _,_=>false
theorem Ke {P:Program}{w:World}{r:Nat}{src dst:TypeId}{y:UInt8}{c:Nat}(h:Has w ⟨r,0,none⟩ [.int .u8 (y.toNat:Int)]) (hb:S9 P src dst=true) :
 (convert src dst (.slice (some ⟨r,0,none⟩) 1 c)).run P w=.ok (.string (bs [y])) w:=by
 unfold S9 at hb
 split at hb
 ·rename_i e h1 h2
  split at hb
  ·rename_i h3
   have h4:=run_loadCellsFrom (P:=P) ⟨r,0,none⟩ [.int .u8 (y.toNat:Int)] 0 #[] _ rfl h
   have h5:(loadCells ⟨r,0,none⟩ 1).run P w=.ok #[.int .u8 (y.toNat:Int)] w:=h4
   have h6:(Conv.bytesToString (.slice (some ⟨r,0,none⟩) 1 c)).run P w=.ok (.string (bs [y])) w:=by
    unfold Conv.bytesToString
    simp only []
    rw [AX h5]
    simp [go_sem]
    rfl
   unfold convert
   rw [AX (run_underlying h1 w),AX (run_underlying h2 w)]
   simp only []
   rw [AX (run_underlying h3 w)]
   exact h6
  ·cases hb
 ·cases hb
def Q4 (n:Nat) (ops:Array Oper) (j:Nat) (e:Env):Option (TypeId × TypeId × Value) :=
 bif CJ n ops j e then
  match (Ad ops j).op with
  | .convert s d x=>some (s,d,ev e x)
  | _=>none
 else none
theorem Ir {P:Program}{n:Nat}{ops:Array Oper}{j:Nat}{e:Env}{s d:TypeId}{a v:Value}{w:World}(h:Q4 n ops j e=some (s,d,a))
 (hr:(convert s d a).run P w=.ok v w):CJ n ops j e=true∧(execOp (ev e) (Ad ops j)).run P w=.ok (.value v) w:=by
 obtain ⟨hg,h⟩:=CI h
 refine ⟨hg,?_⟩
 split at h
 ·rename_i s' d' x hop
  simp only [Option.some.injEq,Prod.mk.injEq] at h
  obtain ⟨rfl,rfl,rfl⟩:=h
  simp only [execOp,hop]
  exact AX hr
 ·cases h
theorem GA.b2s {P:Program}{n m:Nat}{L:Env→World→Prop}{ops:Array Oper}{l:List Nat}{e:Env}{w:World}{i:Nat}{s d:TypeId}{r c:Nat}{y:UInt8}{t:TypeId}{F:Nat→Prop}
 (hb:gB n m ops l i=true) (ho:Own w r t F 1 c [y]) (h:Q4 n ops i e=some (s,d,.slice (some ⟨r,0,none⟩) 1 c)) (ht:S9 P s d=true)
 (H:GA P nil n m L ops (i::l) (Ah e (Ad ops i).dst (.string (bs [y]))) w):GA P nil n m L ops l e w:=by
 obtain ⟨cs,h1,h2⟩:=ho.elem 0 y rfl
 cases h1
 have h3:Has w ⟨r,0,none⟩ [.int .u8 (y.toNat:Int)]:=by simpa using h2
 have h4:=Ir (P:=P) (w:=w) h (Ke h3 ht)
 refine GA.det (by unfold gB at hb; rw [hb,h4.1]; rfl) (fun w1 hx=>?_) H
 exact (Ir (P:=P) (w:=w1) h (Ke (h3.ext hx) ht)).2
def Ha (at_:UInt8) (out:List Txt):List UInt8→List Txt
 | []=>out
 | x::xs=>if x=at_ then Ha at_ (out++[⟨[]⟩]) xs else Ha at_ (out.set (out.length - 1) ⟨(out.getD (out.length - 1) ⟨[]⟩).s++[x]⟩) xs
def H7 (s:List UInt8) (at_:UInt8):List Txt:=Ha at_ [⟨[]⟩] s
theorem Q5 {at_:UInt8}{s:List UInt8}{i:Nat}{out:List Txt}{x:UInt8}{Y:List Txt}(h:Ha at_ out (s.drop i)=Y) (hd:s.drop i=x::s.drop (i+1)) (he:(x.toNat:Int)=(at_.toNat:Int)):Ha at_ (out++[⟨[]⟩]) (s.drop (i+1))=Y:=by
 have:x=at_:=UInt8.toNat_inj.1 AB
 rw [hd] at h
 unfold Ha at h
 rw [if_pos this] at h
 exact h
theorem Q6 {at_:UInt8}{s:List UInt8}{i:Nat}{out:List Txt}{x:UInt8}{Y:List Txt}{t:Txt}{k:Nat}(h:Ha at_ out (s.drop i)=Y) (hd:s.drop i=x::s.drop (i+1)) (he:(x.toNat:Int)≠(at_.toNat:Int)) (hk:k=out.length - 1) (ht:out[k]? = some t):Ha at_ (out.set k ⟨t.s++[x]⟩) (s.drop (i+1))=Y:=by
 have:x≠at_:=fun e=>he (by rw [e])
 rw [hd] at h
 unfold Ha at h
 rw [if_neg this,List.getD_eq_getElem?_getD,← hk,ht] at h
 exact h
theorem Uo {at_:UInt8}{s:List UInt8}{i:Nat}{out:List Txt}{Y:List Txt}(h:Ha at_ out (s.drop i)=Y) (hi:s.length≤i):out=Y:=by
 rw [Aa hi] at h
 exact h
def H8 (s:Str):Bool:=decide (s.length=4)&&decide (s[1]? = some 33)
def FC (s:Str):Str:=if H8 s then s.take 1++s.drop 2 else s
def Dz (s:Str):Cnd × Bool :=
 if (FC s).length=3∧(FC s)[1]? = some 61 then (⟨⟨(FC s).take 1,(FC s).drop 2⟩,H8 s⟩,BX ⟨(FC s).take 1,(FC s).drop 2⟩) else (⟨⟨[],[]⟩,H8 s⟩,false)
def GF:List Cnd→List Txt→List Cnd × Bool
 | out,[]=>(out,true)
 | out,t::ts=>if (Dz t.s).2=false∨out.length≥3 then ([],false) else GF (out++[(Dz t.s).1]) ts
def Ba (s:Str):List Cnd × Bool:=if s=[42] then ([],true) else GF [] (H7 s 44)
def Dq:List Tag→List Cnd→Option (List Tag)
 | out,[]=>some out
 | out,c::cs=>if c.no then none else Dq (out++[c.tag]) cs
def Fb (s:Str):List Tag:=match Dq [] (Ba s).1 with
 | some out=>if (Ba s).2=true∧Aq out=true then out else []
 | none=>[]
theorem Is {w:Str}(h:(w.length:Int)≠4):H8 w=false∧FC w=w:=by
 have:H8 w=false:=by unfold H8; rw [decide_eq_false AB]; rfl
 exact ⟨this,by unfold FC; rw [this]; rfl⟩
theorem It {w:Str}{y:UInt8}(h:(w.length:Int)=4) (hy:w[1]? = some y) (h2:(y.toNat:Int)≠33):H8 w=false∧FC w=w:=by
 have:H8 w=false:=by
  unfold H8
  rw [hy,decide_eq_false (p:=some y=some 33),Bool.and_false]
  intro e
  cases e
  exact h2 rfl
 exact ⟨this,by unfold FC; rw [this]; rfl⟩
theorem Iu {w:Str}{y:UInt8}(h:(w.length:Int)=4) (hy:w[1]? = some y) (h2:(y.toNat:Int)=33):H8 w=true∧FC w=((w.take 1).drop 0)++((w.take w.length).drop 2):=by
 have hy2:y=33:=UInt8.toNat_inj.1 (by show y.toNat=33; omega)
 have:H8 w=true:=by
  unfold H8
  rw [hy,hy2,decide_eq_true AB]
  rfl
 exact ⟨this,by unfold FC; rw [this]; simp⟩
theorem Cz {w u:Str}{b:Bool}(h:H8 w=b∧FC w=u) (h2:(u.length:Int)≠3∨(∃ z,u[1]? = some z∧(z.toNat:Int)≠61)):Dz w=(⟨⟨[],[]⟩,b⟩,false):=by
 obtain ⟨rfl,rfl⟩:=h
 unfold Dz
 rw [if_neg]
 rintro ⟨h3,h4⟩
 rcases h2 with h2 | ⟨z,h2,h5⟩
 ·omega
 ·rw [h2] at h4
  cases h4
  exact h5 rfl
theorem Em {w u:Str}{b:Bool}{z:UInt8}(h:H8 w=b∧FC w=u) (h1:(u.length:Int)=3) (h2:u[1]? = some z) (h3:(z.toNat:Int)=61) :
 Dz w=(⟨⟨(u.take 1).drop 0,(u.take u.length).drop 2⟩,b⟩,BX ⟨(u.take 1).drop 0,(u.take u.length).drop 2⟩):=by
 obtain ⟨rfl,rfl⟩:=h
 have hz:z=61:=UInt8.toNat_inj.1 (by show z.toNat=61; omega)
 unfold Dz
 rw [if_pos ⟨by omega,by rw [h2,hz]⟩]
 simp
theorem Up {out:List Txt}{i k:Nat}{t:Txt}{y:UInt8}(h:∀ t∈out,t.s.length≤i) (ht:out[k]? = some t):∀ t'∈out.set k ⟨t.s++[y]⟩,t'.s.length≤i+1:=by
 intro t' ht'
 rcases List.mem_or_eq_of_mem_set ht' with ht' | rfl
 ·have:=h t' ht'; omega
 ·have:=h t (AV ht)
  simp only [List.length_append,List.length_cons,List.length_nil]; omega
theorem PJ {out:List Txt}{i:Nat}(h:∀ t∈out,t.s.length≤i):∀ t'∈out++[⟨[]⟩],t'.s.length≤i+1:=by
 intro t' ht'
 rcases List.mem_append.1 ht' with ht' | ht'
 ·have:=h t' ht'; omega
 ·simp at ht'; subst ht'; simp
theorem Q7 (a:UInt8):∀ (s:List UInt8) (out:List Txt) (i:Nat),(∀ t∈out,t.s.length≤i)→(∀ t∈Ha a out s,t.s.length≤i+s.length)∧(Ha a out s).length≤out.length+s.length:=by
 intro s
 induction s with
 | nil=>intro out i h; exact ⟨fun t ht=>by have:=h t ht; simpa using this,by unfold Ha; simp⟩
 | cons x xs ih =>
   intro out i h
   unfold Ha
   split
   ·obtain ⟨h1,h2⟩:=ih (out++[⟨[]⟩]) (i+1) (PJ h)
    refine ⟨fun t ht=>?_,?_⟩
    ·have:=h1 t ht; simp only [List.length_cons]; omega
    ·simp only [List.length_append,List.length_cons,List.length_nil] at h2 ⊢; omega
   ·have h3:∀ t∈out.set (out.length - 1) ⟨(out.getD (out.length - 1) ⟨[]⟩).s++[x]⟩,t.s.length≤i+1:=by
     intro t ht
     rcases List.mem_or_eq_of_mem_set ht with ht | rfl
     ·have:=h t ht; omega
     ·rw [List.getD_eq_getElem?_getD]
      cases hq:out[out.length - 1]? with
      | none=>simp
      | some q=>have:=h q (AV hq); simp; omega
    obtain ⟨h1,h2⟩:=ih _ (i+1) h3
    refine ⟨fun t ht=>?_,?_⟩
    ·have:=h1 t ht; simp only [List.length_cons]; omega
    ·simp only [List.length_set,List.length_cons] at h2 ⊢; omega
theorem ND (s:List UInt8) (a:UInt8):(∀ t∈H7 s a,t.s.length≤s.length)∧(H7 s a).length≤s.length+1:=by
 obtain ⟨h1,h2⟩:=Q7 a s [⟨[]⟩] 0 AD
 refine ⟨fun t ht=>by have:=h1 t ht; omega,?_⟩
 unfold H7
 simp only [List.length_cons,List.length_nil] at h2; omega
theorem J7 {out:List Cnd}{ts:List Txt}{i:Nat}{t:Txt}{Y:List Cnd × Bool}(h:GF out (ts.drop i)=Y) (hd:ts.drop i=t::ts.drop (i+1)) (h2:(Dz t.s).2=false∨(out.length:Int)≥3):Y=([],false):=by
 rw [hd] at h
 unfold GF at h
 rw [if_pos (by rcases h2 with h2 | h2; exact .inl h2; exact .inr AB)] at h
 exact h.symm
theorem Q8 {out:List Cnd}{ts:List Txt}{i:Nat}{t:Txt}{Y:List Cnd × Bool}(h:GF out (ts.drop i)=Y) (hd:ts.drop i=t::ts.drop (i+1)) (h2:(Dz t.s).2=true) (h3:¬ (out.length:Int)≥3):GF (out++[(Dz t.s).1]) (ts.drop (i+1))=Y:=by
 rw [hd] at h
 unfold GF at h
 rw [if_neg (by rw [h2]; simp; omega)] at h
 exact h
theorem PK {out:List Cnd}{ts:List Txt}{i:Nat}{Y:List Cnd × Bool}(h:GF out (ts.drop i)=Y) (hi:ts.length≤i):Y=(out,true):=by
 rw [Aa hi] at h
 exact h.symm
theorem Pu:∀ (ts:List Txt) (out:List Cnd),out.length≤3→(GF out ts).1.length≤3:=by
 intro ts
 induction ts with
 | nil=>intro out h; exact h
 | cons t ts ih =>
   intro out h
   unfold GF
   split
   ·simp
   ·rename_i h2
    refine ih _ ?_
    simp only [not_or] at h2
    simp only [List.length_append,List.length_cons,List.length_nil]; omega
theorem G7 (s:Str):(Ba s).1.length≤3:=by
 unfold Ba
 split
 ·simp
 ·exact Pu _ _ AD
theorem Kf {s:Str}(h:(s==[42])=true):Ba s=([],true):=by unfold Ba; rw [if_pos (by simpa using h)]
theorem OL {s:Str}(h:(s==[42])=false):GF [] (H7 s 44)=Ba s:=by unfold Ba; rw [if_neg (by simpa using h)]
theorem NE {out:List Tag}{cs:List Cnd}{i:Nat}{c:Cnd}{Y:Option (List Tag)}(h:Dq out (cs.drop i)=Y) (hd:cs.drop i=c::cs.drop (i+1)) (h2:c.no=true):Y=none:=by
 rw [hd] at h
 unfold Dq at h
 rw [if_pos h2] at h
 exact h.symm
theorem NF {out:List Tag}{cs:List Cnd}{i:Nat}{c:Cnd}{Y:Option (List Tag)}(h:Dq out (cs.drop i)=Y) (hd:cs.drop i=c::cs.drop (i+1)) (h2:c.no=false):Dq (out++[c.tag]) (cs.drop (i+1))=Y:=by
 rw [hd] at h
 unfold Dq at h
 rw [if_neg (by rw [h2]; simp)] at h
 exact h
theorem NG {s:Str}(h:Dq [] (Ba s).1=none):Fb s=[]:=by unfold Fb; rw [h]
theorem La {s:Str}{out:List Tag}{i:Nat}(h:Dq out ((Ba s).1.drop i)=Dq [] (Ba s).1) (hi:(Ba s).1.length≤i):Fb s=if (Ba s).2=true∧Aq out=true then out else []:=by
 rw [Aa hi] at h
 unfold Fb
 rw [← h]
 rfl
theorem NH {s:Str}{out:List Tag}{i:Nat}(h:Dq out ((Ba s).1.drop i)=Dq [] (Ba s).1) (hi:(Ba s).1.length≤i) (h2:(Ba s).2=false∨Aq out=false):Fb s=[]:=by
 rw [La h hi,if_neg]
 rintro ⟨h3,h4⟩
 rcases h2 with h2 | h2
 ·rw [h2] at h3; cases h3
 ·rw [h2] at h4; cases h4
theorem Q9 {s:Str}{out:List Tag}{i:Nat}(h:Dq out ((Ba s).1.drop i)=Dq [] (Ba s).1) (hi:(Ba s).1.length≤i) (h2:(Ba s).2=true) (h3:Aq out=true):Fb s=out:=by
 rw [La h hi,if_pos ⟨h2,h3⟩]
end Go.Proofs.YtckdhcbbgmiccaaGreat
namespace Go.Proofs.YtckdhcbbgmiccaaGreat
set_option maxRecDepth 100000
set_option maxHeartbeats 4000000
variable {w:World} {F:Nat→Prop}
theorem MU (text_:Str) (by_:UInt8){F:Nat→Prop}  (p0:text_.length≤1000):Calls Tryz.prog 196 [.string (bs text_),.int .u8 (by_.toNat:Int)].toArray w (Al fun rv w'=>VL (ge w.heap.size) w' (H7 text_ by_:List Txt) rv∧Ext w w'):=by
 refine goT func196 ?_
 have Z:=St.i0 F w
 refine .s<|.g<|.r 1<|.d<|.s<|.g<|RG.Nl 0 ([(⟨[]⟩:Txt)]:List Txt) [] Z fun ai w Z=>.r 1<|.d<|.s<|.s<|.g<|.r 1<|.d<|.b 0<|T.Lp (([(⟨[]⟩:Txt)]:List Txt),ai,(1:Nat),(0:Nat)) (fun (out,r_out,c_out,i)=>([(0,vT text_),(1,.int .u8 (by_.toNat:Int)),(5,vS r_out out.length c_out),(6,vI (i:Int))],[(0,.own 0 r_out 9 c_out out)],[],text_.length - i,(i≤text_.length)∧(0< out.length)∧(out.length≤i+1)∧(∀ t∈out,t.s.length≤i)∧(Ha by_ out (text_.drop i)=H7 text_ by_))) [] Z ⟨AD,AD,AD,AD,AF⟩ ?_
 rintro ⟨out,r_out,c_out,i⟩ aA w Z ⟨al,am,ao,aq,ar⟩ aa
 refine .s<|.s<|.g<|.r 2<|RG.eqv (v:=vI (text_.length:Int)) AA (Hv text_)<|.bp ((i:Int)< (text_.length:Int)) (fun af=>?_) (fun af=>.d<|.cf<|.x 0 rfl<|.s<|.g<|.r 2<|.d<|T.Rt func196 results196 ⟨Z.rM 0 out (by exact Uo ‹_› AB),Z.xt⟩)
 refine .d<|.ct<|.sk<|.s<|.b 1<|.s<|.g<|.r 2 ?_
 obtain ⟨ab,ac⟩:∃ y,text_[i]? = some y:=⟨_,AU AB⟩
 have ay:=Be ac
 exact RG.ME (t:=9) (s:=text_) (k:=.i64) (i:=(i:Int)) i AA AA AB ac<|.r 1<|.eq (ab.toNat:Int) (by_.toNat:Int) (fun ag=>.d<|.ct<|.g<|.r 1<|RG.Nb 1 Z fun aB w Z=>RG.Ap 0 0 out (⟨[]⟩:Txt) [] Z fun aj ak w Z=>.r 1<|.d<|.ib 1<|.g<|.r 1<|.it ((i:Int)+1)<|.r 1<|.d<|aa ((out++[(⟨[]⟩:Txt)]),aj,ak,i+1) _ _ AA (Z.to 0 [] 0) ⟨AB,(by simp <;> omega),(by (simp <;> omega)),(by exact PJ ‹_›),(by exact Q5 ‹_› ‹_› ‹_›)⟩ (by (simp only []; omega))) fun ag=>.d<|.cf<|T.Gd 16 Z fun w Z=>.r [0,1,2]<|GA.int (i:=3) ((out.length:Int) - 1) AA AB<|.r [4,5,6]<|GA.int (i:=7) ((out.length:Int) - 1) AA AB<|gxm out (out.length - 1) fun ae E ah=>GA.Jo 8 0 ((out.length:Int) - 1) E Z<|Z.eo 0 E fun Z=>GA.Lt 9 0 0 Z<|.r [10,11]<|GA.ME (i:=12) (t:=9) (s:=text_) (k:=.i64) (z:=(i:Int)) AA i AA AA AB ac<|.go 13<|GE.Nl 0 ([ab]:List UInt8) [] Z fun aC w Z=>GA.b2s (i:=14) (s:=22) (d:=9) (y:=ab) AA (Z.ow 0 ([ab]:List UInt8) AA).1 AA AA<|GA.cat (i:=15) (t:=9) (s:=ae.s) (u:=[ab]) AA AA (by have q1:∀ t∈out,t.s.length≤i:=‹_›; have q2:=q1 _ ‹_›; simp only [List.length_cons,List.length_nil]; omega)<|GA.Dn Z fun w Z=>RG.Jo 1 ((out.length:Int) - 1) E Z<|RG.Se 1 0 0 E (⟨(ae.s++[ab])⟩:Txt) [] Z fun w Z=>.d<|.ib 1<|.g<|.r 1<|.it ((i:Int)+1)<|.r 1<|.d<|aa ((out.set (out.length - 1) (⟨(ae.s++[ab])⟩:Txt)),r_out,c_out,i+1) _ _ (by simp only [List.length_set]; kernel_rfl) (Z.to 1 [] 0) ⟨AB,(by simp <;> omega),(by (simp <;> omega)),(by exact Up ‹_› ‹_›),(by exact Q6 ‹_› ‹_› ‹_› AB ‹_›)⟩ (by (simp only []; omega))
theorem LF (w_:Str){F:Nat→Prop}  (p0:w_.length≤1000):Calls Tryz.prog 197 [.string (bs w_)].toArray w (Al fun rv w'=>(∃ v0,rv=.tuple #[v0,.bool ((Dz w_).2)]∧VS (ge w.heap.size) w' ((Dz w_).1:Cnd) v0)∧Ext w w'):=by
 refine goT func197 ?_
 have Z:=St.i0 F w
 refine .s<|.g<|RG.Np Z fun aB w Z=>.r 1<|.d<|.s<|.g<|.r 1<|RG.Np Z fun aC w Z=>RG.Ss 0 Z fun w Z=>.d<|.s<|.s<|.g<|.r 1<|RG.eqv (v:=vI (w_.length:Int)) AA (Hv w_)<|.eq (w_.length:Int) 4 (fun ae=>?_) (fun ae=>?_)
 ·refine .r 2 ?_
  obtain ⟨ac,E⟩:∃ y,w_[1]? = some y:=⟨_,AU AB⟩
  refine RG.ME (t:=9) (s:=w_) (k:=.i64) (i:=1) 1 AA AA AB E<|.eq (ac.toNat:Int) 33 (fun af=>?_) (fun af=>.r 1<|.d<|.cf<|.sk<|.s<|.s<|.g<|.r 1<|RG.eqv (v:=vI (w_.length:Int)) AA (Hv w_)<|.ne (w_.length:Int) 3 (fun ag=>.r 5<|.d<|.ct<|.s<|.g<|RG.Ln 0 Z<|RG.Ss 1 Z fun w Z=>.r 1<|.d<|T.r2 func197 results197 (.B 1 Z) (.t (.bool false)) ⟨⟨_,(Br rfl (AG (by rw [Cz (It ‹_› ‹_› ‹_›) (.inl ‹_›)]))),Z.rS (⟨(⟨[],[]⟩:Tag),false⟩:Cnd) [] (by rw [Cz (It ‹_› ‹_› ‹_›) (.inl ‹_›)])⟩,Z.xt⟩) fun ag=>.r 2<|RG.ME (t:=9) (s:=w_) (k:=.i64) (i:=1) 1 AA AA AB E<|.ne (ac.toNat:Int) 61 (fun ah=>.r 1<|.d<|.ct<|.s<|.g<|RG.Ln 0 Z<|RG.Ss 1 Z fun w Z=>.r 1<|.d<|T.r2 func197 results197 (.B 1 Z) (.t (.bool false)) ⟨⟨_,(Br rfl (AG (by rw [Cz (It ‹_› ‹_› ‹_›) (.inr ⟨_,by assumption,by assumption⟩)]))),Z.rS (⟨(⟨[],[]⟩:Tag),false⟩:Cnd) [] (by rw [Cz (It ‹_› ‹_› ‹_›) (.inr ⟨_,by assumption,by assumption⟩)])⟩,Z.xt⟩) fun ah=>.r 1<|.d<|.cf<|.sk<|.s<|T.Gd 4 Z fun w Z=>.r [0]<|GA.MF (i:=1) (t:=9) (lo:=none) (hi:=some (vI 1)) (s:=w_) AA 0 1 AA AA (.inl ⟨rfl,rfl⟩) (.inr ⟨_,_,rfl,by omega⟩) AB AB<|.r [2]<|GA.MF (i:=3) (t:=9) (lo:=some (vI 2)) (hi:=none) (s:=w_) AA 2 w_.length AA AA (.inr ⟨_,_,rfl,by omega⟩) (.inl ⟨rfl,rfl⟩) AB AB<|GA.Dn Z fun w Z=>.r 2<|RG.Ss 0 Z fun w Z=>.d<|.s<|T.Gd 4 Z fun w Z=>GA.Ln 0 0 Z<|.r [1]<|GA.Ln 2 0 Z<|GA.C0 3 Z (fun w Z=>Eh (⟨((w_.take 1).drop 0),((w_.take w_.length).drop 2)⟩:Tag) (F:=all))<|GA.Dn Z fun w Z=>RG.Ss 1 Z fun w Z=>.r 1<|.d<|T.r2 func197 results197 (.B 1 Z) (.t (.bool (BX (⟨((w_.take 1).drop 0),((w_.take w_.length).drop 2)⟩:Tag)))) ⟨⟨_,(Br rfl (AG (by rw [Em (It ‹_› ‹_› ‹_›) ‹_› ‹_› ‹_›]))),Z.rS (⟨(⟨((w_.take 1).drop 0),((w_.take w_.length).drop 2)⟩:Tag),false⟩:Cnd) [] (by rw [Em (It ‹_› ‹_› ‹_›) ‹_› ‹_› ‹_›])⟩,Z.xt⟩)
  refine .r 1<|.d<|.ct<|.s<|.g<|.r 1<|RG.Ss 0 Z fun w Z=>.d<|T.Gd 4 Z fun w Z=>.r [0]<|GA.MF (i:=1) (t:=9) (lo:=none) (hi:=some (vI 1)) (s:=w_) AA 0 1 AA AA (.inl ⟨rfl,rfl⟩) (.inr ⟨_,_,rfl,by omega⟩) AB AB<|.r [2]<|GA.MF (i:=3) (t:=9) (lo:=some (vI 2)) (hi:=none) (s:=w_) AA 2 w_.length AA AA (.inr ⟨_,_,rfl,by omega⟩) (.inl ⟨rfl,rfl⟩) AB AB<|GA.Dn Z fun w Z=>RG.cat (t:=9) (s:=((w_.take 1).drop 0)) (u:=((w_.take w_.length).drop 2)) AA (by simp; omega)<|.r 1<|.d<|.s<|.s<|.g<|.r 1<|RG.eqv (v:=vI ((((w_.take 1).drop 0)++((w_.take w_.length).drop 2)).length:Int)) AA (Hv (((w_.take 1).drop 0)++((w_.take w_.length).drop 2)))<|.ne ((((w_.take 1).drop 0)++((w_.take w_.length).drop 2)).length:Int) 3 (fun ai=>.r 5<|.d<|.ct<|.s<|.g<|RG.Ln 0 Z<|RG.Ss 1 Z fun w Z=>.r 1<|.d<|T.r2 func197 results197 (.B 1 Z) (.t (.bool false)) ⟨⟨_,(Br rfl (AG (by rw [Cz (Iu ‹_› ‹_› ‹_›) (.inl ‹_›)]))),Z.rS (⟨(⟨[],[]⟩:Tag),true⟩:Cnd) [] (by rw [Cz (Iu ‹_› ‹_› ‹_›) (.inl ‹_›)])⟩,Z.xt⟩) fun ai=>.r 2 ?_
  obtain ⟨aj,aa⟩:∃ y,(((w_.take 1).drop 0)++((w_.take w_.length).drop 2))[1]? = some y:=⟨_,AU AB⟩
  exact RG.ME (t:=9) (s:=(((w_.take 1).drop 0)++((w_.take w_.length).drop 2))) (k:=.i64) (i:=1) 1 AA AA AB aa<|.ne (aj.toNat:Int) 61 (fun ak=>.r 1<|.d<|.ct<|.s<|.g<|RG.Ln 0 Z<|RG.Ss 1 Z fun w Z=>.r 1<|.d<|T.r2 func197 results197 (.B 1 Z) (.t (.bool false)) ⟨⟨_,(Br rfl (AG (by rw [Cz (Iu ‹_› ‹_› ‹_›) (.inr ⟨_,by assumption,by assumption⟩)]))),Z.rS (⟨(⟨[],[]⟩:Tag),true⟩:Cnd) [] (by rw [Cz (Iu ‹_› ‹_› ‹_›) (.inr ⟨_,by assumption,by assumption⟩)])⟩,Z.xt⟩) fun ak=>.r 1<|.d<|.cf<|.sk<|.s<|T.Gd 4 Z fun w Z=>.r [0]<|GA.MF (i:=1) (t:=9) (lo:=none) (hi:=some (vI 1)) (s:=(((w_.take 1).drop 0)++((w_.take w_.length).drop 2))) AA 0 1 AA AA (.inl ⟨rfl,rfl⟩) (.inr ⟨_,_,rfl,by omega⟩) AB AB<|.r [2]<|GA.MF (i:=3) (t:=9) (lo:=some (vI 2)) (hi:=none) (s:=(((w_.take 1).drop 0)++((w_.take w_.length).drop 2))) AA 2 ((((w_.take 1).drop 0)++((w_.take w_.length).drop 2)).length) AA AA (.inr ⟨_,_,rfl,by omega⟩) (.inl ⟨rfl,rfl⟩) AB AB<|GA.Dn Z fun w Z=>.r 2<|RG.Ss 0 Z fun w Z=>.d<|.s<|T.Gd 4 Z fun w Z=>GA.Ln 0 0 Z<|.r [1]<|GA.Ln 2 0 Z<|GA.C0 3 Z (fun w Z=>Eh (⟨(((((w_.take 1).drop 0)++((w_.take w_.length).drop 2)).take 1).drop 0),(((((w_.take 1).drop 0)++((w_.take w_.length).drop 2)).take ((((w_.take 1).drop 0)++((w_.take w_.length).drop 2)).length)).drop 2)⟩:Tag) (F:=all))<|GA.Dn Z fun w Z=>RG.Ss 1 Z fun w Z=>.r 1<|.d<|T.r2 func197 results197 (.B 1 Z) (.t (.bool (BX (⟨(((((w_.take 1).drop 0)++((w_.take w_.length).drop 2)).take 1).drop 0),(((((w_.take 1).drop 0)++((w_.take w_.length).drop 2)).take ((((w_.take 1).drop 0)++((w_.take w_.length).drop 2)).length)).drop 2)⟩:Tag)))) ⟨⟨_,(Br rfl (AG (by rw [Em (Iu ‹_› ‹_› ‹_›) ‹_› ‹_› ‹_›]))),Z.rS (⟨(⟨(((((w_.take 1).drop 0)++((w_.take w_.length).drop 2)).take 1).drop 0),(((((w_.take 1).drop 0)++((w_.take w_.length).drop 2)).take ((((w_.take 1).drop 0)++((w_.take w_.length).drop 2)).length)).drop 2)⟩:Tag),true⟩:Cnd) [] (by rw [Em (Iu ‹_› ‹_› ‹_›) ‹_› ‹_› ‹_›])⟩,Z.xt⟩
 refine .r 5<|.d<|.cf<|.sk<|.s<|.s<|.g<|.r 1<|RG.eqv (v:=vI (w_.length:Int)) AA (Hv w_)<|.ne (w_.length:Int) 3 (fun al=>.r 5<|.d<|.ct<|.s<|.g<|RG.Ln 0 Z<|RG.Ss 1 Z fun w Z=>.r 1<|.d<|T.r2 func197 results197 (.B 1 Z) (.t (.bool false)) ⟨⟨_,(Br rfl (AG (by rw [Cz (Is ‹_›) (.inl ‹_›)]))),Z.rS (⟨(⟨[],[]⟩:Tag),false⟩:Cnd) [] (by rw [Cz (Is ‹_›) (.inl ‹_›)])⟩,Z.xt⟩) fun al=>.r 2 ?_
 obtain ⟨am,ab⟩:∃ y,w_[1]? = some y:=⟨_,AU AB⟩
 exact RG.ME (t:=9) (s:=w_) (k:=.i64) (i:=1) 1 AA AA AB ab<|.ne (am.toNat:Int) 61 (fun ao=>.r 1<|.d<|.ct<|.s<|.g<|RG.Ln 0 Z<|RG.Ss 1 Z fun w Z=>.r 1<|.d<|T.r2 func197 results197 (.B 1 Z) (.t (.bool false)) ⟨⟨_,(Br rfl (AG (by rw [Cz (Is ‹_›) (.inr ⟨_,by assumption,by assumption⟩)]))),Z.rS (⟨(⟨[],[]⟩:Tag),false⟩:Cnd) [] (by rw [Cz (Is ‹_›) (.inr ⟨_,by assumption,by assumption⟩)])⟩,Z.xt⟩) fun ao=>.r 1<|.d<|.cf<|.sk<|.s<|T.Gd 4 Z fun w Z=>.r [0]<|GA.MF (i:=1) (t:=9) (lo:=none) (hi:=some (vI 1)) (s:=w_) AA 0 1 AA AA (.inl ⟨rfl,rfl⟩) (.inr ⟨_,_,rfl,by omega⟩) AB AB<|.r [2]<|GA.MF (i:=3) (t:=9) (lo:=some (vI 2)) (hi:=none) (s:=w_) AA 2 w_.length AA AA (.inr ⟨_,_,rfl,by omega⟩) (.inl ⟨rfl,rfl⟩) AB AB<|GA.Dn Z fun w Z=>.r 2<|RG.Ss 0 Z fun w Z=>.d<|.s<|T.Gd 4 Z fun w Z=>GA.Ln 0 0 Z<|.r [1]<|GA.Ln 2 0 Z<|GA.C0 3 Z (fun w Z=>Eh (⟨((w_.take 1).drop 0),((w_.take w_.length).drop 2)⟩:Tag) (F:=all))<|GA.Dn Z fun w Z=>RG.Ss 1 Z fun w Z=>.r 1<|.d<|T.r2 func197 results197 (.B 1 Z) (.t (.bool (BX (⟨((w_.take 1).drop 0),((w_.take w_.length).drop 2)⟩:Tag)))) ⟨⟨_,(Br rfl (AG (by rw [Em (Is ‹_›) ‹_› ‹_› ‹_›]))),Z.rS (⟨(⟨((w_.take 1).drop 0),((w_.take w_.length).drop 2)⟩:Tag),false⟩:Cnd) [] (by rw [Em (Is ‹_›) ‹_› ‹_› ‹_›])⟩,Z.xt⟩
theorem H9 (text_:Str){F:Nat→Prop}  (p0:text_.length≤1000):Calls Tryz.prog 181 [.string (bs text_)].toArray w (Al fun rv w'=>(∃ v0,rv=.tuple #[v0,.bool ((Ba text_).2)]∧VL (ge w.heap.size) w' ((Ba text_).1:List Cnd) v0)∧Ext w w'):=by
 refine goT func181 ?_
 have Z:=St.i0 F w
 refine .s<|.g<|.r 2<|.d<|.s<|.g<|RG.N0 Cnd 0 Z fun ag w Z=>.r 1<|.d<|.s<|.s<|.g<|.r 1<|RG.eqv (v:=.bool ((text_==[42]))) AA (Vi text_ [42]) ?_
 cases al:(text_==[42])
 ·refine .d<|.cf<|.sk<|.s<|.g<|.r 1<|RG.CL (MU text_ (44:UInt8) AB (F:=all)) Z fun ah ai w Z=>?_
  have am:=Z.mf 0 (H7 text_ (44:UInt8))
  refine .r 1<|.d<|.s<|.s<|.g<|.r 1<|.d<|.b 0<|T.Lp (([]:List Cnd),ag,(0:Nat),(0:Nat)) (fun (out,r_out,c_out,i)=>([(4,vS r_out out.length c_out),(5,.slice ah ((H7 text_ (44:UInt8)).length) ai),(6,vI (i:Int))],[(0,.own 0 r_out 192 c_out out)],[],(H7 text_ 44).length - i,(i≤(H7 text_ 44).length)∧(out.length≤i)∧(GF out ((H7 text_ 44).drop i)=Ba text_))) [] Z ⟨(by (simp; done)),(by (simp; done)),(by exact OL ‹_›)⟩ ?_
  rintro ⟨out,r_out,c_out,i⟩ aC w Z ⟨ao,aq,ar⟩ ab
  have ax:=Z.mo 0 out
  refine .s<|.s<|.g<|.r 3<|.bp ((i:Int)< (((H7 text_ (44:UInt8)).length):Int)) (fun ac=>?_) (fun ac=>.d<|.cf<|.x 0 rfl<|.s<|.g<|.r 3<|.d<|T.r2 func181 results181 (.T _) (.t (.bool true)) ⟨⟨_,(Br rfl (AG (by rw [PK (Y:=Ba text_) ‹_› AB]))),Z.rM 0 out (by rw [PK (Y:=Ba text_) ‹_› AB])⟩,Z.xt⟩)
  refine .d<|.ct<|.sk<|.s<|.b 1<|.s<|.g<|.r 2<|gxb (H7 text_ (44:UInt8)) i fun E aa ay af=>RG.Ix 0 aa Z<|Z.el 0 aa fun Z=>RG.Lh 0 0 Z<|RG.CT (us:=[.bool ((Dz E.s).2)]) (LF E.s (by have q1:=(ND text_ 44).1 _ ‹_›; omega) (F:=all)) Z fun  w Z=>.r 2 ?_
  cases aA:(Dz E.s).2
  ·exact .r 1<|RG.Np Z fun aD w Z=>RG.Ss 0 Z fun w Z=>.r 1<|.d<|.s<|.s<|.g<|.r 7<|.d<|.ct<|.s<|.g<|RG.N0 Cnd 0 Z fun aE w Z=>.r 2<|.d<|T.r2 func181 results181 (.T _) (.t (.bool false)) ⟨⟨_,(Br rfl (AG (by rw [J7 (Y:=Ba text_) ‹_› ‹_› (.inl ‹_›)]))),Z.rM 0 ([]:List Cnd) (by rw [J7 (Y:=Ba text_) ‹_› ‹_› (.inl ‹_›)])⟩,Z.xt⟩
  exact .r 1<|RG.Np Z fun aF w Z=>RG.Ss 0 Z fun w Z=>.r 1<|.d<|.s<|.s<|.g<|.r 5<|.bp ((out.length:Int)≥3) (fun ae=>.r 1<|.d<|.ct<|.s<|.g<|RG.N0 Cnd 0 Z fun aG w Z=>.r 2<|.d<|T.r2 func181 results181 (.T _) (.t (.bool false)) ⟨⟨_,(Br rfl (AG (by rw [J7 (Y:=Ba text_) ‹_› ‹_› (.inr AB)]))),Z.rM 0 ([]:List Cnd) (by rw [J7 (Y:=Ba text_) ‹_› ‹_› (.inr AB)])⟩,Z.xt⟩) fun ae=>.r 1<|.d<|.cf<|.sk<|.g<|.r 1<|RG.Ln 0 Z<|RG.Nb 1 Z fun aH w Z=>RG.Ap (hs:=by exact (by have q1:=(ND text_ 44).2; omega)) 1 0 out (⟨(⟨(Dz E.s).1.tag.key,(Dz E.s).1.tag.val⟩:Tag),(Dz E.s).1.no⟩:Cnd) [] Z fun aj ak w Z=>.r 1<|.d<|.ib 1<|.g<|.r 1<|.it ((i:Int)+1)<|.r 1<|.d<|ab ((out++[(⟨(⟨(Dz E.s).1.tag.key,(Dz E.s).1.tag.val⟩:Tag),(Dz E.s).1.no⟩:Cnd)]),aj,ak,i+1) _ _ AA (Z.to 1 [] 1) ⟨AB,(by simp; omega),(by exact Q8 ‹_› ‹_› ‹_› AB)⟩ (by (simp only []; omega))
 exact .d<|.ct<|.s<|.g<|.r 3<|.d<|T.r2 func181 results181 (.T _) (.t (.bool true)) ⟨⟨_,(Br rfl (AG (by rw [Kf ‹_›]))),Z.rM 0 ([]:List Cnd) (by rw [Kf ‹_›])⟩,Z.xt⟩
theorem Jk (text_:Str){F:Nat→Prop}  (p0:text_.length≤1000):Calls Tryz.prog 148 [.string (bs text_)].toArray w (Al fun rv w'=>(∃ (y:Bool),(∃ v0,rv=.tuple #[v0,.bool (y)]∧VL (ge w.heap.size) w' (Fb text_:List Tag) v0)∧(True))∧Ext w w'):=by
 refine goT func148<|.s<|.g<|.r 2<|.d<|.s<|.g<|.r 1<|.cl (H9 text_ AB (w:=w) (F:=all)) ?_
 rintro dB dC ⟨⟨dD,rfl,⟨bZ,b0,rfl,ab⟩⟩,bh⟩
 have bi:∀ q_∈([]:List Nat),q_< w.heap.size:=all_nil
 have b6:Gb w.heap.size w.heap.size:=(Nat.le_refl _)
 have E:=bh
 have ab:=ab.fr bi b6
 have c7:=ab.max
 refine .r 2 ?_
 cases c8:(Ba text_).2
 ·refine .r 3<|.d<|.s<|.g<|.ns 0 61 [] fun aq aK aL bj b7 b8=>?_
  have b9:=E.cn aL
  replace ⟨ab,E⟩:=(sn [] bj aL).g2 ab E
  have cd:Own (α:=Tag) aK aq 61 (nin (ge w.heap.size) [aq]) 0 0 []:=Own.BM b7
  refine .r 1<|.d<|.s<|.s<|.g<|.r 1<|.d<|.b 0<|T.loop (X:=(List Tag) × Nat × Nat × Nat × Nat) (([]:List Tag),aq,0,0,0) (fun (out,r_out,n_out,c_out,i)=>[(4,.slice bZ ((Ba text_).1.length) b0),(5,.bool false),(6,vS r_out n_out c_out),(7,vI (i:Int))]) (fun (out,r_out,n_out,c_out,i) bg=>Chg (ins [aq]) aK bg∧Own bg r_out 61 (nin (ge w.heap.size) [r_out]) n_out c_out out∧OrB r_out aq aK.heap.size∧(i≤(Ba text_).1.length)∧(out.length≤i)∧(Dq out ((Ba text_).1.drop i)=Dq [] (Ba text_).1)) (fun (out,r_out,n_out,c_out,i)=>(Ba text_).1.length - i) AA ⟨AA,AA,AA,AA,trivial⟩ ⟨Chg.refl _ _,cd,Dt,AD,AD,AD⟩ ?_
  rintro ⟨out,r_out,n_out,c_out,i⟩ dE bg ⟨af,ac,aE,da,db,de⟩ aM
  have df:=Ck aE b9 E.size
  have ce:Cov (ins [aq]) aK aq:=⟨.inl AI⟩
  have dh:=Ck aE ce (Nat.le_refl _)
  have bk:Mv [aq] [r_out] aK bg:=Mv.inl af (all_cons AI all_nil) (all_cons (E7 aE AI) all_nil)
  replace ⟨ab,E⟩:=(sp bk af).g2 ab E
  have dj:=ac.len; have dm:=ac.max
  refine .s<|.s<|.g<|.r 3<|.bp ((i:Int)< (((Ba text_).1.length):Int)) (fun cg=>?_) (fun cg=>?_)
  ·refine .d<|.ct<|.sk<|.s<|.b 1<|.s<|.s<|.g<|.r 2 ?_
   have ci:i< (Ba text_).1.length:=AB
   refine .ix i 3 ab ci<|.r 1 ?_
   obtain ⟨aH,aN⟩:∃ y,((Ba text_).1)[i]? = some y:=⟨_,AU AB⟩
   have dp:=Be aN
   obtain ⟨_,rfl,bm⟩:=ab.elem i aH aN
   refine .lh 2 bm<|.d ?_
   cases dq:aH.no
   ·refine .cf<|.sk<|.g<|.r 3 ?_
    have cj:i< (Ba text_).1.length:=AB
    refine .ix i 3 ab cj<|.r 1<|.lg 0 bm<|.ns 1 61 [vT aH.tag.key,vT aH.tag.val] fun ck dF aO bn cm co=>?_
    have bo:=Ab aO ac.lt
    have cp:=BT aO E.size
    replace ⟨ab,ac,E,af⟩:=(se [r_out] bn).g4 ab ac E af
    have aP:nin (ge w.heap.size) [r_out] ck∧ck≠r_out:=Du cp (all_cons bo all_nil) bo
    refine RG.CU (T:=42) (ty:=42) (y:=aH.tag) ac cm AA AA rfl aP (by have q1:=G7 text_; omega) fun cI cJ dG ar aB bq=>?_
    have cq:=HX aB aE af.size
    replace ⟨ab,E,af⟩:=(sa [r_out] bq aB).g3 ab E af
    replace ar:=ar.rn r_out
    exact .r 1<|.d<|.ib 1<|.g<|.r 1<|RG.int ((i:Int)+1) AA (by have q1:=G7 text_; omega)<|.r 1<|.d<|aM ((out++[aH.tag]),cI,n_out+1,cJ,i+1) _ _ ⟨AA,AA,AA,AA,trivial⟩ ⟨af,ar,cq,AB,(by simp; omega),(by exact NF ‹_› ‹_› ‹_›)⟩ (by (simp only []; omega))
   refine .ct<|.s<|.g<|.ns 0 61 [] fun aQ cr aF br cu cw=>?_
   have dv:=Ab aF ac.lt
   have cx:=BT aF E.size
   replace ⟨ab,ac,E⟩:=(sn [r_out] br aF).g3 ab ac E
   have cy:Own (α:=Tag) cr aQ 61 (nin (ge w.heap.size) [aQ,r_out]) 0 0 []:=Own.BM cu
   refine .r 2<|.d ?_
   have cK:=cy.sl cx
   replace ⟨ab,ac⟩:=(sd cr [aQ,r_out] aQ).g2 ab ac
   exact .r2 func148 results148 (.t (vS aQ 0 0)) (.t (.bool false)) ⟨⟨(false:Bool),⟨_,(Br rfl (AG AF)),(cK.vl (by rw [NG (NE (Y:=Dq [] (Ba text_).1) ‹_› ‹_› ‹_›)]) (fun _ _ h=>h.1))⟩,(by trivial)⟩,E⟩
  refine .d<|.cf<|.x 0 rfl<|.s<|.s<|.g<|.r 7<|.d<|.ct<|.s<|.g<|.ns 0 61 [] fun aR bt ak aS bz bA=>?_
  have cL:=Ab ak ac.lt
  have bB:=BT ak E.size
  replace ⟨ab,E⟩:=(sn [r_out] aS ak).g2 ab E
  have bC:Own (α:=Tag) bt aR 61 (nin (ge w.heap.size) [aR,r_out]) 0 0 []:=Own.BM bz
  refine .r 2<|.d ?_
  have cz:=bC.sl bB
  replace ab:=(sd bt [aR,r_out] aR).g1 ab
  exact .r2 func148 results148 (.t (vS aR 0 0)) (.t (.bool false)) ⟨⟨(false:Bool),⟨_,(Br rfl (AG AF)),(cz.vl (by rw [NH ‹_› AB (.inl ‹_›)]) (fun _ _ h=>h.1))⟩,(by trivial)⟩,E⟩
 refine .r 3<|.d<|.s<|.g<|.ns 0 61 [] fun ag ax al aT bD bE=>?_
 have bF:=BT al E.size
 have bG:=E.cn al
 replace ⟨ab,E⟩:=(sn [] aT al).g2 ab E
 have bH:Own (α:=Tag) ax ag 61 (nin (ge w.heap.size) [ag]) 0 0 []:=Own.BM bD
 refine .r 1<|.d<|.s<|.s<|.g<|.r 1<|.d<|.b 0<|T.loop (X:=(List Tag) × Nat × Nat × Nat × Nat) (([]:List Tag),ag,0,0,0) (fun (out,r_out,n_out,c_out,i)=>[(4,.slice bZ ((Ba text_).1.length) b0),(5,.bool true),(6,vS r_out n_out c_out),(7,vI (i:Int))]) (fun (out,r_out,n_out,c_out,i) ay=>Chg (ins [ag]) ax ay∧Own ay r_out 61 (nin (ge w.heap.size) [r_out]) n_out c_out out∧OrB r_out ag ax.heap.size∧(i≤(Ba text_).1.length)∧(out.length≤i)∧(Dq out ((Ba text_).1.drop i)=Dq [] (Ba text_).1)) (fun (out,r_out,n_out,c_out,i)=>(Ba text_).1.length - i) AA ⟨AA,AA,AA,AA,trivial⟩ ⟨Chg.refl _ _,bH,Dt,AD,AD,AD⟩ ?_
 rintro ⟨out,r_out,n_out,c_out,i⟩ dw ay ⟨ae,aa,ah,cM,cN,cO⟩ aI
 have bI:=Ih ah bF E.size
 have cP:=Ck ah bG E.size
 have bJ:Cov (ins [ag]) ax ag:=⟨.inl AI⟩
 have cQ:=Ck ah bJ (Nat.le_refl _)
 have aU:Mv [ag] [r_out] ax ay:=Mv.inl ae (all_cons AI all_nil) (all_cons (E7 ah AI) all_nil)
 replace ⟨ab,E⟩:=(sp aU ae).g2 ab E
 have cR:=aa.len; have cS:=aa.max
 refine .s<|.s<|.g<|.r 3<|.bp ((i:Int)< (((Ba text_).1.length):Int)) (fun bK=>?_) (fun bK=>?_)
 ·refine .d<|.ct<|.sk<|.s<|.b 1<|.s<|.s<|.g<|.r 2 ?_
  have bL:i< (Ba text_).1.length:=AB
  refine .ix i 3 ab bL<|.r 1 ?_
  obtain ⟨aj,aC⟩:∃ y,((Ba text_).1)[i]? = some y:=⟨_,AU AB⟩
  have cT:=Be aC
  obtain ⟨_,rfl,aV⟩:=ab.elem i aj aC
  refine .lh 2 aV<|.d ?_
  cases cU:aj.no
  ·refine .cf<|.sk<|.g<|.r 3 ?_
   have bM:i< (Ba text_).1.length:=AB
   refine .ix i 3 ab bM<|.r 1<|.lg 0 aV<|.ns 1 61 [vT aj.tag.key,vT aj.tag.val] fun bu dx aD aW bN bO=>?_
   have aX:=Ab aD aa.lt
   have bP:=BT aD E.size
   replace ⟨aa,E,ae⟩:=(se [r_out] aW).g3 aa E ae
   have aJ:nin (ge w.heap.size) [r_out] bu∧bu≠r_out:=Du bP (all_cons aX all_nil) aX
   refine RG.CU (T:=42) (ty:=42) (y:=aj.tag) aa bN AA AA rfl aJ (by have q1:=G7 text_; omega) fun cB cC dy ai aG aY=>?_
   have bQ:=HX aG ah ae.size
   replace ⟨E,ae⟩:=(s1 aY).g2 E ae
   replace ai:=ai.rn r_out
   exact .r 1<|.d<|.ib 1<|.g<|.r 1<|RG.int ((i:Int)+1) AA (by have q1:=G7 text_; omega)<|.r 1<|.d<|aI ((out++[aj.tag]),cB,n_out+1,cC,i+1) _ _ ⟨AA,AA,AA,AA,trivial⟩ ⟨ae,ai,bQ,AB,(by simp; omega),(by exact NF ‹_› ‹_› ‹_›)⟩ (by (simp only []; omega))
  refine .ct<|.s<|.g<|.ns 0 61 [] fun az bv am aZ bR bS=>?_
  have cX:=Ab am aa.lt
  have bT:=BT am E.size
  replace ⟨aa,E⟩:=(sn [r_out] aZ am).g2 aa E
  have bU:Own (α:=Tag) bv az 61 (nin (ge w.heap.size) [az,r_out]) 0 0 []:=Own.BM bR
  refine .r 2<|.d ?_
  have cD:=bU.sl bT
  replace aa:=(sd bv [az,r_out] az).g1 aa
  exact .r2 func148 results148 (.t (vS az 0 0)) (.t (.bool false)) ⟨⟨(false:Bool),⟨_,(Br rfl (AG AF)),(cD.vl (by rw [NG (NE (Y:=Dq [] (Ba text_).1) ‹_› ‹_› ‹_›)]) (fun _ _ h=>h.1))⟩,(by trivial)⟩,E⟩
 refine .d<|.cf<|.x 0 rfl<|.s<|.s<|.g<|.r 4<|.cl (FL out (aa.rep) (w:=ay) (F:=all)) ?_
 rintro dz dA ⟨rfl,ba⟩
 replace ⟨aa,E⟩:=(se [r_out] ba).g2 aa E
 cases cY:(Aq out)
 ·refine .r 2<|.d<|.ct<|.s<|.g<|.ns 0 61 [] fun aA bw ao bd bV bW=>?_
  have cZ:=Ab ao aa.lt
  have bX:=BT ao E.size
  replace ⟨aa,E⟩:=(sn [r_out] bd ao).g2 aa E
  have bY:Own (α:=Tag) bw aA 61 (nin (ge w.heap.size) [aA,r_out]) 0 0 []:=Own.BM bV
  refine .r 2<|.d ?_
  have cE:=bY.sl bX
  replace aa:=(sd bw [aA,r_out] aA).g1 aa
  exact .r2 func148 results148 (.t (vS aA 0 0)) (.t (.bool false)) ⟨⟨(false:Bool),⟨_,(Br rfl (AG AF)),(cE.vl (by rw [NH ‹_› AB (.inr ‹_›)]) (fun _ _ h=>h.1))⟩,(by trivial)⟩,E⟩
 refine .r 2<|.d<|.cf<|.sk<|.s<|.g<|.r 3<|.d ?_
 have cF:=aa.sl bI
 exact .r2 func148 results148 (.t (vS r_out n_out c_out)) (.t (.bool true)) ⟨⟨(true:Bool),⟨_,(Br rfl (AG AF)),(cF.vl (by rw [Q9 ‹_› AB ‹_› ‹_›]) (fun _ _ h=>h.1))⟩,(by trivial)⟩,E⟩
end Go.Proofs.YtckdhcbbgmiccaaGreat
namespace Go.Proofs.YtckdhcbbgmiccaaGreat
theorem NmD.sz {n:List Tag}(h:NmD n):FX n:=⟨by have:=h.1; omega,fun t ht=>by
 obtain ⟨h1,h2⟩:=h.2 t ht
 simp only [List.mem_cons,List.not_mem_nil,or_false] at h1 h2
 constructor
 ·rcases h1 with h1 | h1 | h1 <;> rw [h1] <;> simp
 ·rcases h2 with h2 | h2 | h2 | h2 | h2 | h2 <;> rw [h2] <;> simp⟩
theorem NmD.nil:NmD []:=⟨by simp,by simp⟩
theorem PL {y:Str}(h:(⟨y⟩:Txt)∈([(⟨[97,61,112]⟩:Txt),(⟨[97,61,113,44,98,61,112]⟩:Txt),(⟨[98,61,122,44,99,61,113]⟩:Txt)]:List Txt)):NmD (Fb y)∧y.length≤1000:=by
 simp only [List.mem_cons,List.not_mem_nil,or_false,Txt.mk.injEq] at h
 rcases h with rfl | rfl | rfl
 ·have:Fb [97,61,112]=[⟨[97],[112]⟩]:=by decide +kernel
  rw [this]
  exact ⟨⟨by simp,by simp [HF]⟩,by simp⟩
 ·have:Fb [97,61,113,44,98,61,112]=[⟨[97],[113]⟩,⟨[98],[112]⟩]:=by decide +kernel
  rw [this]
  exact ⟨⟨by simp,by simp [HF]⟩,by simp⟩
 ·have:Fb [98,61,122,44,99,61,113]=[⟨[98],[122]⟩,⟨[99],[113]⟩]:=by decide +kernel
  rw [this]
  exact ⟨⟨by simp,by simp [HF]⟩,by simp⟩
def NsD (ns:List (List Tag)):Prop:=∀ n∈ns,NmD n
structure WD (w:Wld):Prop where
 wi:WI w
 sn:NsD w.store.idx.names
 dn:NsD w.disk.names
theorem NsD.nil:NsD []:=by intro n hn; cases hn
theorem WD.new:WD ⟨⟨⟨[],[]⟩,[],[]⟩,⟨[],[],[],1⟩⟩:=⟨WI.new,NsD.nil,NsD.nil⟩
theorem Pv (Q:List (List Tag)→Prop):∀ (st:List Stp) (d:Dsk),Q d.names→(∀ x∈st,x.kind=2→Q x.names)→Q (st.foldl doD d).names:=by
 intro st
 induction st with
 | nil=>intro d h _; exact h
 | cons x xs ih =>
   intro d h hs
   refine ih (doD d x) ?_ (fun y hy=>hs y (by simp [hy]))
   unfold doD
   split
   ·exact h
   ·split
    ·exact hs x AD ‹_›
    ·split
     ·exact h
     ·exact h
theorem WD.steps {w:Wld}(h:WD w){st:List Stp}(hs:∀ x∈st,x.kind=2→NsD x.names) (cut:Int){s:Sto}(h2:NsD s.idx.names):NsD (Bf w st cut s).store.idx.names∧NsD (Bf w st cut s).disk.names:=by
 have h3:NsD (toD w.disk st cut).names:=Pv NsD _ _ h.dn (fun x hx hk=>hs x (List.mem_of_mem_take hx) hk)
 unfold Bf
 split
 ·exact ⟨h.sn,h.dn⟩
 ·split
  ·exact ⟨h3,h3⟩
  ·exact ⟨h2,h3⟩
theorem OM {s:Sto}{n:List Tag}{r:Row}(h:NsD s.idx.names) (hn:NmD n):NsD (By s n r).1.idx.names:=by
 have h1:NsD (BO s.idx n).1.names:=by
  unfold BO
  split
  ·exact h
  ·split
   ·exact h
   ·intro m hm
    rcases List.mem_append.1 hm with hm | hm
    ·exact h m hm
    ·simp at hm; rw [hm]; exact hn
 unfold By
 split
 ·exact h
 ·split
  ·exact h
  ·exact h1
theorem ON (s:Sto):(BD s).1.idx=s.idx:=by unfold BD; split <;> rfl
theorem OO (s:Sto) (a:Int):(BC s a).1.idx=s.idx:=by unfold BC; split <;> rfl
theorem Pw {w:Wld}(h:WD w):∀ x∈Aw w.disk w.store,x.kind=2→NsD x.names:=by
 unfold Aw
 split
 ·intro x hx; cases hx
 ·intro x hx _
  simp only [List.mem_cons,List.not_mem_nil,or_false] at hx
  rcases hx with rfl | rfl
  ·exact NsD.nil
  ·exact h.sn
theorem Px {d:Dsk}(h:NsD d.names) (a:Int):∀ x∈Ak d a,x.kind=2→NsD x.names:=by
 unfold Ak
 split
 ·intro x hx; cases hx
 ·intro x hx _
  simp only [List.mem_cons,List.not_mem_nil,or_false] at hx
  rcases hx with rfl | rfl | rfl | rfl
  ·exact NsD.nil
  ·exact h
  ·exact NsD.nil
  ·exact NsD.nil
theorem WD.do {w:Wld}(h:WD w){e:Evt}(he:NmD e.name):WD (doW w e):=by
 have key:NsD (doW w e).store.idx.names∧NsD (doW w e).disk.names:=by
  unfold doW
  split
  ·split
   ·exact ⟨OM h.sn he,h.dn⟩
   ·exact ⟨h.sn,h.dn⟩
  ·split
   ·exact h.steps (Pw h) _ (by rw [ON]; exact h.sn)
   ·split
    ·exact h.steps (Px h.dn _) _ (by rw [OO]; exact h.sn)
    ·split
     ·exact ⟨h.dn,h.dn⟩
     ·exact ⟨h.sn,h.dn⟩
 exact ⟨h.wi.do e,key.1,key.2⟩
theorem WD.copy {w:Wld}(h:WD w):WD (Cb w):=⟨h.wi.copy,h.sn,h.dn⟩
def EvD (e:Evt):Prop:=NmD e.name∧FB e.row
structure SD (s:Sto):Prop where
 idx:s.idx=idxOf s.idx.names
 nm:NmI s.idx.names
 nd:NsD s.idx.names
 np:s.parts.length≤6
 part:∀ p∈s.parts,PrtI p
 nm2:s.mem.length≤21
 mem:∀ m∈s.mem,0≤m.id∧m.id≤7∧FB m.row
theorem RA {r:Row}(h:BS r=true):FB r:=by
 have h1:=MR h
 have h2:=S4 h
 unfold FB
 omega
theorem WD.sd {w:Wld}(h:WD w):SD w.store:=⟨h.wi.sto.idx,h.wi.sto.nm,h.sn,h.wi.sto.np,h.wi.sto.part,by have:=h.wi.sto.nm2; omega,fun m hm=>by
 have h1:=h.wi.sto.Ip m hm
 exact ⟨by omega,by omega,RA (h.wi.sto.mem m hm).2.2⟩⟩
end Go.Proofs.YtckdhcbbgmiccaaGreat
namespace Go.Proofs.YtckdhcbbgmiccaaGreat
set_option maxRecDepth 100000
set_option maxHeartbeats 4000000
variable {w:World} {F:Nat→Prop} {a1 a2 a3 a4 a5 a6 a7:Option Addr} {n1 c1 n2 c2 n3 c3 n4 c4 n5 c5 n6 c6 n7 c7:Nat}
theorem EX  {F:Nat→Prop}{b:Nat}{ad:Option Addr}{cd p:Nat}{D:List UInt8}(hr:Box w b 121 [.slice ad D.length cd,.int .i64 (p:Int)]) (hD:RepS w (nin all [b]) ad D.length cd D) (hp:p+25≤1000000000)  : Calls Tryz.prog 110 [.pointer (some ⟨b,0,none⟩)].toArray w (Al fun rv w'=>(∃ (y:List Tag),VL (ge w.heap.size) w' (y:List Tag) rv∧(NmD y))∧∃ p':Nat,p'≤p+25∧Box w' b 121 [.slice ad D.length cd,.int .i64 (p':Int)]∧Chg (one b) w w'):=by
 refine goT func110 ?_
 refine .s<|.g<|.r 1<|.d<|.s<|.s<|.g<|.r 1<|.cl (Ay 4 hr (hD.CN AI) AB (w:=w) (F:=all)) ?_
 rintro aZ ar ⟨⟨aI,rfl,aQ⟩,ba,aR,aa,ae⟩
 replace hD:=(so [b] ae).g1 hD
 have E:Chg (one b) w ar:=Chg.FU (Chg.refl (one b) w) ae (Cov.mk1 w b)
 refine .eq aI 0 (fun ay=>?_) (fun ay=>?_)
 ·refine .d<|.ct<|.s<|.g<|.r 1<|.cl (Kd aa (hD.CN AI) AB (w:=ar) (F:=all)) ?_
  rintro bd bg ⟨⟨az,⟨aJ,aK,rfl,ag⟩,aS⟩,aL,aT,aA,aj⟩
  have ak:=al1 aa.lt
  have aB:Gb w.heap.size ar.heap.size:=E.size
  replace ⟨hD,E⟩:=(so [b] aj).g2 hD E
  have ag:=ag.fr ak aB
  exact .r 1<|.d<|.rt func110 results110 (.slice aJ az.length aK) ⟨⟨(az:List Tag),(ag.vl AF (fun _ _ h=>h.1)),(by exact (by assumption:NmX _).1)⟩,aL,by omega,aA,E⟩
 refine .d<|.cf<|.sk<|.s<|.g<|.r 1<|.ns 3 9 [.string (bs [97,61,112]),.string (bs [97,61,113,44,98,61,112]),.string (bs [98,61,122,44,99,61,113])] fun ah aC af al aD aE=>?_
 have aF:=Ab af aa.lt
 replace ⟨hD,aa,E⟩:=(sn [b] al af).g3 hD aa E
 have ab:Own (α:=Txt) aC ah 9 (nin (ge w.heap.size) [ah,b]) 3 3 [(⟨[97,61,112]⟩:Txt),(⟨[97,61,113,44,98,61,112]⟩:Txt),(⟨[98,61,122,44,99,61,113]⟩:Txt)]:=Own.lit aD rfl AE ⟨rfl,rfl,rfl,rfl⟩
 refine .cl (Cn ([(⟨[97,61,112]⟩:Txt),(⟨[97,61,113,44,98,61,112]⟩:Txt),(⟨[98,61,122,44,99,61,113]⟩:Txt)]:List Txt) aa (hD.CN AJ) AB (ab.CN AJ aF) AD (w:=aC) (F:=all)) ?_
 rintro bh aG ⟨⟨ax,rfl,aV⟩,aM,aW,ac,am⟩
 replace ⟨hD,ab,E⟩:=(so [ah,b] am).g3 hD ab E
 refine .cl (Jk ax (PL ‹_›).2 (w:=aG) (F:=all)) ?_
 rintro bi bj ⟨⟨bk,⟨bm,rfl,⟨aN,aO,rfl,ai⟩⟩,aX⟩,ao⟩
 have aq:=al2 ab.lt ac.lt
 have aH:Gb w.heap.size aG.heap.size:=E.size
 replace ⟨hD,ac,E⟩:=(se [ah,b] ao).g3 hD ac E
 have ai:=ai.fr aq aH
 exact .r 5<|.d<|.s<|.g<|.r 2<|.d<|.rt func110 results110 (.slice aN ((Fb ax).length) aO) ⟨⟨(Fb ax:List Tag),(ai.vl AF (fun _ _ h=>h.1)),(by exact (PL ‹_›).1)⟩,aM,by omega,ac,E⟩
theorem Jl (w_:Wld){b:Nat}{ad:Option Addr}{cd p:Nat}{D:List UInt8}(hr:Box w b 121 [.slice ad D.length cd,.int .i64 (p:Int)]) (hD:RepS w (nin all [b]) ad D.length cd D) (hp:p+60≤1000000000) (h1:RepS w (nin F [b]) a1 n1 c1 w_.store.idx.names) (h2:RepS w (nin F [b]) a2 n2 c2 w_.store.idx.AY) (h3:RepS w (nin F [b]) a3 n3 c3 w_.store.parts) (h4:RepS w (nin F [b]) a4 n4 c4 w_.store.mem) (h5:RepS w (nin F [b]) a5 n5 c5 w_.disk.files) (h6:RepS w (nin F [b]) a6 n6 c6 w_.disk.list) (h7:RepS w (nin F [b]) a7 n7 c7 w_.disk.names) (p0:w_.disk.list.length≤1000):Calls Tryz.prog 54 [.pointer (some ⟨b,0,none⟩),.agg #[.slice a1 n1 c1,.slice a2 n2 c2,.slice a3 n3 c3,.slice a4 n4 c4,.slice a5 n5 c5,.slice a6 n6 c6,.slice a7 n7 c7,.int .i64 w_.disk.next]].toArray w (Al fun rv w'=>(∃ (y:Evt),VS (ge w.heap.size) w' (y:Evt) rv∧(EvD y))∧∃ p':Nat,p'≤p+60∧Box w' b 121 [.slice ad D.length cd,.int .i64 (p':Int)]∧Chg (one b) w w'):=by
 cases h1.len
 cases h2.len
 cases h3.len
 cases h4.len
 cases h5.len
 cases h6.len
 cases h7.len
 refine goT func54 ?_
 have Z:=(((((((St.i1 F hr hD).p1 h1).p1 h2).p1 h3).p1 h4).p1 h5).p1 h6).p1 h7
 refine .s<|.g<|RG.Np Z fun cE w Z=>RG.Np Z fun cF w Z=>.d<|.s<|.s<|.g<|.r 1<|RG.cl (Ay 10 (Z.bc 2) (Z.rd 2 7) AB (D:=D) (p:=p) (F:=all)) ?_
 rintro _ w ⟨⟨ag,rfl,bZ⟩,af,b0,aH,aI⟩
 have Z:=Z.rx 2 aI aH
 refine .d<|.b 0<|.s<|.s<|.g<|.eq ag 0 (fun aJ=>?_) (fun aJ=>?_)
 ·refine .r 1<|.d<|.ct<|.sk<|.ct<|.s<|.g<|RG.Nl 0 ([2,2,2,0,1]:List Int) [] Z fun cG w Z=>.r 1<|RG.cl (Ay 5 (Z.bc 3) (Z.rd 3 7) AB (D:=D) (p:=af) (F:=all)) ?_
  rintro _ w ⟨⟨aK,rfl,b6⟩,bz,b7,aL,aM⟩
  have Z:=Z.rx 3 aM aL
  refine gxm ([2,2,2,0,1]:List Int) (aK.toNat) fun aN E ah=>?_
  simp only [List.mem_cons,List.not_mem_nil,or_false] at ah
  refine RG.Jo 0 aK E Z<|Z.eo 0 E fun Z=>RG.Lt 0 0 Z<|.r 1<|RG.Ss 1 Z fun w Z=>.d ?_
  have Z:=Z.nl Tag
  exact T.Rb 1 func54 results54 Z ⟨⟨((⟨2,0,aN,([]:List Tag),(⟨0,0⟩:Row)⟩:Evt):Evt),Z.rS (⟨2,0,aN,([]:List Tag),(⟨0,0⟩:Row)⟩:Evt) [0] rfl,(by exact ⟨NmD.nil,by simp [FB]⟩)⟩,bz,by omega,Z.bc 3,Z.xr⟩
 refine .r 1<|.d<|.cf<|.g<|.eq ag 1 (fun aO=>?_) (fun aO=>?_)
 ·refine .r 1<|.d<|.ct<|.s<|.g<|RG.Nl 0 ([2,2,2,0,1]:List Int) [] Z fun cH w Z=>.r 1<|RG.cl (Ay 5 (Z.bc 3) (Z.rd 3 7) AB (D:=D) (p:=af) (F:=all)) ?_
  rintro _ w ⟨⟨aP,rfl,b9⟩,bA,ce,aQ,aR⟩
  have Z:=Z.rx 3 aR aQ
  refine gxm ([2,2,2,0,1]:List Int) (aP.toNat) fun aS aa ai=>?_
  simp only [List.mem_cons,List.not_mem_nil,or_false] at ai
  refine RG.Jo 0 aP aa Z<|Z.eo 0 aa fun Z=>RG.Lt 0 0 Z<|.r 1<|RG.Ss 1 Z fun w Z=>.d ?_
  have Z:=Z.nl Tag
  exact T.Rb 1 func54 results54 Z ⟨⟨((⟨2,0,aS,([]:List Tag),(⟨0,0⟩:Row)⟩:Evt):Evt),Z.rS (⟨2,0,aS,([]:List Tag),(⟨0,0⟩:Row)⟩:Evt) [0] rfl,(by exact ⟨NmD.nil,by simp [FB]⟩)⟩,bA,by omega,Z.bc 3,Z.xr⟩
 refine .r 1<|.d<|.cf<|.s<|.g<|.eq ag 2 (fun aT=>?_) (fun aT=>?_)
 ·refine .r 1<|.d<|.ct<|.s<|.g<|.r 2<|RG.Lb 1 Z<|.r 1<|.bp ((w_.disk.list.length:Int) > 1) (fun aU=>?_) (fun aU=>?_)
  ·refine .d<|.ct<|.s<|.g<|.r 3<|RG.Lb 1 Z<|.r 1<|.it ((w_.disk.list.length:Int) - 1)<|RG.cl (Ay ((w_.disk.list.length:Int) - 1) (Z.bc 2) (Z.rd 2 7) AB (D:=D) (p:=af) (F:=all)) ?_
   rintro _ w ⟨⟨aV,rfl,ci⟩,bB,cj,aW,aX⟩
   have Z:=Z.rx 2 aX aW
   refine RG.Nl 0 ([4,4,0,1,2,3]:List Int) [] Z fun cI w Z=>.r 1<|RG.cl (Ay 6 (Z.bc 3) (Z.rd 3 7) AB (D:=D) (p:=bB) (F:=all)) ?_
   rintro _ w ⟨⟨aY,rfl,ck⟩,bC,cm,aZ,ba⟩
   have Z:=Z.rx 3 ba aZ
   refine gxm ([4,4,0,1,2,3]:List Int) (aY.toNat) fun bd ab aj=>?_
   simp only [List.mem_cons,List.not_mem_nil,or_false] at aj
   refine RG.Jo 0 aY ab Z<|Z.eo 0 ab fun Z=>RG.Lt 0 0 Z<|.r 1<|RG.Ss 1 Z fun w Z=>.d ?_
   have Z:=Z.nl Tag
   exact T.Rb 1 func54 results54 Z ⟨⟨((⟨3,aV,bd,([]:List Tag),(⟨0,0⟩:Row)⟩:Evt):Evt),Z.rS (⟨3,aV,bd,([]:List Tag),(⟨0,0⟩:Row)⟩:Evt) [0] rfl,(by exact ⟨NmD.nil,by simp [FB]⟩)⟩,bC,by omega,Z.bc 3,Z.xr⟩
  refine .d<|.cf<|.sk<|.ib 0<|.s<|.g<|.r 1<|RG.cl (EX (Z.bc 2) (Z.rd 2 7) AB (D:=D) (p:=af) (F:=all)) ?_
  rintro cJ w ⟨⟨bg,bD,cp⟩,bE,cq,bh,bi⟩
  refine RG.wL (Z.rx 2 bi bh) Z bD ?_
  intro cK cL Z
  refine .r 1<|RG.cl (FM (Z.bc 2) (Z.rd 2 8) AB (D:=D) (p:=bE) (F:=all)) ?_
  rintro cM w ⟨⟨ak,bF,cr⟩,bG,cu,bj,bk⟩
  refine RG.wS (Z.rx 2 bk bj) Z bF ?_
  intro Z
  exact .r 1<|RG.Ss 0 Z fun w Z=>.d<|T.Rb 0 func54 results54 Z ⟨⟨((⟨1,0,0,bg,(⟨ak.t,ak.v⟩:Row)⟩:Evt):Evt),Z.rS (⟨1,0,0,bg,(⟨ak.t,ak.v⟩:Row)⟩:Evt) [0] rfl,(by exact ⟨by assumption,by assumption⟩)⟩,bG,by omega,Z.bc 2,Z.xr⟩
 refine .r 1<|.d<|.cf<|.s<|.g<|.eq ag 3 (fun aq=>?_) (fun aq=>?_)
 ·refine .r 1<|.d<|.ct<|.s<|.g<|.r 1<|RG.cl (Ay 4 (Z.bc 2) (Z.rd 2 7) AB (D:=D) (p:=af) (F:=all)) ?_
  rintro _ w ⟨⟨bm,rfl,bH⟩,al,bI,ar,ax⟩
  have Z:=Z.rx 2 ax ar
  refine .eq bm 0 (fun ay=>?_) (fun ay=>?_)
  ·refine .d<|.ct<|.s<|.g<|.r 1<|RG.Ss 0 Z fun w Z=>.d ?_
   have Z:=Z.nl Tag
   exact T.Rb 0 func54 results54 Z ⟨⟨((⟨4,0,0,([]:List Tag),(⟨0,0⟩:Row)⟩:Evt):Evt),Z.rS (⟨4,0,0,([]:List Tag),(⟨0,0⟩:Row)⟩:Evt) [0] rfl,(by exact ⟨NmD.nil,by simp [FB]⟩)⟩,al,by omega,Z.bc 2,Z.xr⟩
  refine .d<|.cf<|.sk<|.ib 0<|.s<|.g<|.r 1<|RG.cl (EX (Z.bc 2) (Z.rd 2 7) AB (D:=D) (p:=al) (F:=all)) ?_
  rintro cw w ⟨⟨am,bn,bJ⟩,bo,bK,az,aA⟩
  refine RG.wL (Z.rx 2 aA az) Z bn ?_
  intro cx cy Z
  refine .r 1<|RG.cl (FM (Z.bc 2) (Z.rd 2 8) AB (D:=D) (p:=bo) (F:=all)) ?_
  rintro cz w ⟨⟨ac,bq,bL⟩,br,bM,aB,aC⟩
  refine RG.wS (Z.rx 2 aC aB) Z bq ?_
  intro Z
  exact .r 1<|RG.Ss 0 Z fun w Z=>.d<|T.Rb 0 func54 results54 Z ⟨⟨((⟨1,0,0,am,(⟨ac.t,ac.v⟩:Row)⟩:Evt):Evt),Z.rS (⟨1,0,0,am,(⟨ac.t,ac.v⟩:Row)⟩:Evt) [0] rfl,(by exact ⟨by assumption,by assumption⟩)⟩,br,by omega,Z.bc 2,Z.xr⟩
 refine .r 1<|.d<|.cf<|.sk<|.ib 0<|.s<|.g<|.r 1<|RG.cl (EX (Z.bc 2) (Z.rd 2 7) AB (D:=D) (p:=af) (F:=all)) ?_
 rintro cA w ⟨⟨ao,bt,bN⟩,bu,bO,aD,aE⟩
 refine RG.wL (Z.rx 2 aE aD) Z bt ?_
 intro cB cC Z
 refine .r 1<|RG.cl (FM (Z.bc 2) (Z.rd 2 8) AB (D:=D) (p:=bu) (F:=all)) ?_
 rintro cD w ⟨⟨ae,bv,bP⟩,bw,bQ,aF,aG⟩
 refine RG.wS (Z.rx 2 aG aF) Z bv ?_
 intro Z
 exact .r 1<|RG.Ss 0 Z fun w Z=>.d<|T.Rb 0 func54 results54 Z ⟨⟨((⟨1,0,0,ao,(⟨ae.t,ae.v⟩:Row)⟩:Evt):Evt),Z.rS (⟨1,0,0,ao,(⟨ae.t,ae.v⟩:Row)⟩:Evt) [0] rfl,(by exact ⟨by assumption,by assumption⟩)⟩,bw,by omega,Z.bc 2,Z.xr⟩
end Go.Proofs.YtckdhcbbgmiccaaGreat
namespace Go.Proofs.YtckdhcbbgmiccaaGreat
def Kg:List Tag:=(List.range' 97 4).flatMap (fun k=>(List.range' 112 11).map (H3 k))
theorem Py (names:List (List Tag)) (k:Nat):∀ f v,Fv names k f v=((List.range' v f).map (H3 k)).flatMap (FZ names):=by
 intro f
 induction f with
 | zero=>intro v; rfl
 | succ f ih=>intro v; rw [Fv,ih,List.range'_succ]; rfl
theorem Pz (names:List (List Tag)):∀ f k,Fw names f k=((List.range' k f).flatMap (fun k=>(List.range' 112 11).map (H3 k))).flatMap (FZ names):=by
 intro f
 induction f with
 | zero=>intro k; rfl
 | succ f ih=>intro k; rw [Fw,ih,Py,show List.range' k (f+1)=k::List.range' (k+1) f from rfl,List.flatMap_cons,List.flatMap_append]
theorem Hb (names:List (List Tag)):Dd names=Kg.flatMap (FZ names):=Pz names 4 97
theorem MV:Kg.Pairwise (fun a b=>ER a b=true):=by decide +kernel
theorem P0 {t:Tag}(h:BX t=true):t∈Kg:=by
 simp only [BX,AW] at h
 obtain ⟨h1,h2⟩:=h
 obtain ⟨x,hx⟩:∃ x,t.key=[x]:=by
  have:=Dy h1
  match t.key,this with
  | [x],_=>exact ⟨x,rfl⟩
 obtain ⟨y,hy⟩:∃ y,t.val=[y]:=by
  have:=Dy h2
  match t.val,this with
  | [y],_=>exact ⟨y,rfl⟩
 rw [hx] at h1
 rw [hy] at h2
 have g1:=Bu h1
 have g2:=Bu h2
 unfold Kg
 refine List.mem_flatMap.2 ⟨x.toNat,?_,List.mem_map.2 ⟨y.toNat,?_,?_⟩⟩
 ·rw [List.mem_range'_1]; omega
 ·rw [List.mem_range'_1]; omega
 ·cases t
  simp only at hx hy
  subst hx hy
  simp [H3]
theorem P1 {names:List (List Tag)}{p:Pst}(h:p∈Dd names):p.ids=ids names p.tag∧0< p.ids.length∧p.tag∈Kg:=by
 rw [Hb] at h
 obtain ⟨t,ht,hp⟩:=List.mem_flatMap.1 h
 unfold FZ at hp
 split at hp
 ·simp at hp
  subst hp
  exact ⟨rfl,by assumption,ht⟩
 ·cases hp
theorem RB {names:List (List Tag)}{t:Tag}(h:t∈Kg) (h2:0< (ids names t).length):⟨t,ids names t⟩∈Dd names:=by
 rw [Hb]
 refine List.mem_flatMap.2 ⟨t,h,?_⟩
 unfold FZ
 rw [if_pos h2]
 simp
theorem MW (names:List (List Tag)):(Dd names).Pairwise (fun a b=>ER a.tag b.tag=true):=by
 rw [Hb,List.pairwise_flatMap]
 refine ⟨fun t _=>?_,MV.imp ?_⟩
 ·unfold FZ
  split <;> simp
 ·intro a b hab x hx y hy
  have h1:x.tag=a:=by
   unfold FZ at hx
   split at hx
   ·simp at hx; rw [hx]
   ·cases hx
  have h2:y.tag=b:=by
   unfold FZ at hy
   split at hy
   ·simp at hy; rw [hy]
   ·cases hy
  rw [h1,h2]
  exact hab
theorem Iv:∀ (s:Str),Bk s s=false:=by
 intro s
 induction s with
 | nil=>rfl
 | cons x xs ih =>
   have ih':Op.bytesLess xs xs=false:=ih
   show (decide (x< x) || x==x&&Op.bytesLess xs xs)=false
   simp [ih']
theorem Lc {a b:Tag}(ha:BX a=true) (hb:BX b=true) (h:Bk a.key b.key=true):∃ x y,a.key=[x]∧b.key=[y]∧x.toNat< y.toNat:=by
 simp only [BX,AW] at ha hb
 have h1:=Dy ha.1
 have h2:=Dy hb.1
 match ha':a.key,h1,hb':b.key,h2 with
 | [x], _, [y], _ =>
   rw [ha',hb',KR] at h
   exact ⟨x,y,rfl,rfl,by simpa using h⟩
theorem OP:∀ (n:List Tag) (o:Option Tag),Dj o n=true→(∀ q,o=some q→BX q=true)→(∀ q,o=some q→∀ t∈n,Bk q.key t.key=true)∧n.Nodup:=by
 intro n
 induction n with
 | nil=>intro o _ _; exact ⟨fun _ _ t ht=>(by cases ht),by simp⟩
 | cons t ts ih =>
   intro o h ho
   simp only [Dj,AW] at h
   obtain ⟨⟨h1,h2⟩,h3⟩:=h
   obtain ⟨g1,g2⟩:=ih (some t) h3 (fun q hq=>by cases hq; exact h1)
   refine ⟨fun q hq u hu=>?_,List.nodup_cons.2 ⟨fun hm=>?_,g2⟩⟩
   ·subst hq
    have h4:Bk q.key t.key=true:=h2
    rcases List.mem_cons.1 hu with rfl | hu
    ·exact h4
    ·have h5:=g1 t rfl u hu
     obtain ⟨x,y,e1,e2,l1⟩:=Lc (ho q rfl) h1 h4
     obtain ⟨y',z,e3,e4,l2⟩:=Lc h1 (Ey ts (some t) h3 u hu) h5
     rw [e2] at e3
     cases e3
     rw [e1,e4,KR]
     simp; omega
   ·have h5:=g1 t rfl t hm
    rw [Iv] at h5
    cases h5
theorem IA {n:List Tag}(h:Aq n=true):n.Nodup∧∀ t∈n,t∈Kg:=by
 simp only [Aq,AW] at h
 exact ⟨(OP n none h.1 AD).2,fun t ht=>P0 (Ey n none h.1 t ht)⟩
end Go.Proofs.YtckdhcbbgmiccaaGreat
namespace Go.Proofs.YtckdhcbbgmiccaaGreat
structure IxI (x:Idx):Prop where
 eq:x=idxOf x.names
 nm:NmI x.names
theorem IxI.AY {x:Idx}(h:IxI x):x.AY=Dd x.names:=by have:=h.eq; rw [this]; rfl
theorem IxI.sz {x:Idx}(h:IxI x):Qv x:=⟨by have:=h.nm.len; omega,h.nm.sz⟩
theorem SD.ix {s:Sto}(h:SD s):IxI s.idx:=⟨h.idx,h.nm⟩
theorem SD.sz {s:Sto}(h:SD s):LV s:=⟨h.ix.sz,by have:=h.np; omega,fun p hp=>(h.part p hp).sz,by have:=h.nm2; omega⟩
theorem IB {α:Type}{f:α→Bool}{l:List α}{i:Nat}{x:α}{b:Bool}(h:(l.drop i).all f=b) (hd:l.drop i=x::l.drop (i+1)) (hx:f x=true):(l.drop (i+1)).all f=b:=by
 rw [hd,List.all_cons,hx,Bool.true_and] at h
 exact h
theorem JS {α:Type}{f:α→Bool}{l:List α}{i:Nat}{x:α}{b:Bool}(h:(l.drop i).all f=b) (hd:l.drop i=x::l.drop (i+1)) (hx:f x=false):b=false:=by
 rw [hd,List.all_cons,hx,Bool.false_and] at h
 exact h.symm
theorem Kh {α:Type}{f:α→Bool}{l:List α}{i:Nat}{b:Bool}(h:(l.drop i).all f=b) (hi:l.length≤i):b=true:=by
 rw [Aa hi] at h
 exact h.symm
def Ec (n:Nat) (m:Smp):Bool:=inR m.id 1 n&&BS m.row
def Ed (s:Sto) (i:Nat):Bool:=decide ((rowsOf s ((i:Int)+1)).length≤24)
def Ac (s:Sto):Bool :=
 decide (s.parts.length≤6)&&decide (s.mem.length≤20)&&s.parts.all (fun p=>Bh p s.idx.names.length)&&s.mem.all (Ec s.idx.names.length)&&(List.range s.idx.names.length).all (Ed s)
theorem Ld {s:Sto}(h:(s.parts.length:Int) > 6∨(s.mem.length:Int) > 20):Ac s=false:=by
 unfold Ac
 rcases h with h | h
 ·rw [decide_eq_false AB]; simp
 ·rw [decide_eq_false (p:=s.mem.length≤20) AB]; simp
theorem Iw {s:Sto}(h:s.parts.all (fun p=>Bh p s.idx.names.length)=false):Ac s=false:=by unfold Ac; rw [h]; simp
theorem Lf {s:Sto}(h:s.mem.all (Ec s.idx.names.length)=false):Ac s=false:=by unfold Ac; rw [h]; simp
theorem P2 {s:Sto}(h:(List.range s.idx.names.length).all (Ed s)=false):Ac s=false:=by unfold Ac; rw [h]; simp
theorem P3 {s:Sto}(h1:¬ (s.parts.length:Int) > 6) (h2:¬ (s.mem.length:Int) > 20) (h3:s.parts.all (fun p=>Bh p s.idx.names.length)=true) (h4:s.mem.all (Ec s.idx.names.length)=true) (h5:(List.range s.idx.names.length).all (Ed s)=true):Ac s=true:=by
 unfold Ac
 rw [h3,h4,h5,decide_eq_true AB,decide_eq_true AB]
 rfl
theorem NI {n i:Nat}(h:i< n):(List.range n).drop i=i::(List.range n).drop (i+1):=by
 rw [List.drop_eq_getElem_cons (by simpa using h)]
 simp
def BQ (s:Sto) (n:List Tag) (r:Row):Sto × Bool:=if Ac s=true∧Aq n=true then By (AZ s) n r else (⟨⟨[],[]⟩,[],[]⟩,false)
theorem J8 {s:Sto}{n:List Tag}{r:Row}(h:Ac s=false∨Aq n=false):BQ s n r=(⟨⟨[],[]⟩,[],[]⟩,false):=by
 unfold BQ
 rw [if_neg]
 rintro ⟨h1,h2⟩
 rcases h with h | h
 ·rw [h] at h1; cases h1
 ·rw [h] at h2; cases h2
theorem Gj {s:Sto}{n:List Tag}{r:Row}(h:Ac s=true) (h2:Aq n=true):BQ s n r=By (AZ s) n r:=by unfold BQ; rw [if_pos ⟨h,h2⟩]
theorem SD.copy {s:Sto}(h:SD s):AZ s=s:=by
 have:=h.idx
 unfold AZ
 rw [← this]
theorem TA {s:Sto}{n k:Nat}{b:Bool}(h:((List.range n).drop (k - 1)).all (Ed s)=b) (h1:1≤k) (h2:k≤n) (h3:((rowsOf s (k:Int)).length:Int)≤24):((List.range n).drop (k+1 - 1)).all (Ed s)=b:=by
 have hd:=NI (n:=n) (i:=k - 1) AB
 have:=IB h hd (by unfold Ed; rw [show ((k - 1:Nat):Int)+1=(k:Int) by omega]; simp; omega)
 rw [show k+1 - 1=k - 1+1 by omega]
 exact this
theorem Vo {s:Sto}{n k:Nat}{b:Bool}(h:((List.range n).drop (k - 1)).all (Ed s)=b) (h1:1≤k) (h2:k≤n) (h3:((rowsOf s (k:Int)).length:Int) > 24):b=false:=by
 have hd:=NI (n:=n) (i:=k - 1) AB
 exact JS h hd (by unfold Ed; rw [show ((k - 1:Nat):Int)+1=(k:Int) by omega]; simp; omega)
theorem Uq {s:Sto}{n k:Nat}{b:Bool}(h:((List.range n).drop (k - 1)).all (Ed s)=b) (h1:n+1≤k):b=true:=Kh h (by simp; omega)
end Go.Proofs.YtckdhcbbgmiccaaGreat
