/- What asking computes, as plain functions, and its laws. -/
import Derived.Test.YtggnnidleedpaaaGreatWmzMod20
import Derived.Shelf.Lays
import Derived.Shelf.Strings.OnBuilder
open Go.Proofs.Tryz
set_option linter.unusedVariables false
set_option linter.unusedSimpArgs false
namespace Go.Proofs.YtggnnidleedpaaaGreat
section
variable {P:Program} {f:FuncId} {fn:Func} {R:Value→World→Prop} {c:Code} {e:Env} {w:World}
theorem Ts (f:ResultVar→Sem Value) (r r' r2 r3:ResultVar):(#[r,r',r2,r3]).mapM f=(do let v ← f r; let v' ← f r'; let v2 ← f r2; let v3 ← f r3; pure #[v,v',v2,v3]):=by
 simp
theorem LJ {a:Act}{r r' r'' r''':ResultVar}{v v' v'' v''':Value}(hs:Sees fn.ntmps a e) (hr:fn.results = #[r,r',r'',r''']) (h:Bs P w e r v) (h':Bs P w e r' v') (h'':Bs P w e r'' v'') (h3:Bs P w e r''' v''') :
 (results fn a.tmps).run P w=.ok (.tuple #[v,v',v'',v''']) w:=by
 rw [FF,hr,Ts]
 refine AZ (a:=#[v,v',v'',v''']) ?_
 rw [AZ (h.run hs),AZ (h'.run hs),AZ (h''.run hs),AZ (h3.run hs)]
 rfl
theorem T.UT {k}{r r' r'' r''':ResultVar}{v v' v'' v''':Value}(h:FP c=true) (hf:P.funcs[f]? = some fn) (hres:fn.results = #[r,r',r'',r''']) (h1:Bs P w e r v) (h2:Bs P w e r' v') (h3:Bs P w e r'' v'') (h4:Bs P w e r''' v''')
 (hR:R (.tuple #[v,v',v'',v''']) w):T P f fn R (.code c::k) e w :=
 T.LR h (fun _ hs=>LJ hs hres h1 h2 h3 h4) hf hR
theorem T.r4 {k}{r r' r'' r''':ResultVar}{v v' v'' v''':Value}(hf:P.funcs[f]? = some fn) (hres:fn.results = #[r,r',r'',r''']) (h1:Bs P w e r v) (h2:Bs P w e r' v') (h3:Bs P w e r'' v'') (h4:Bs P w e r''' v''') (hR:R (.tuple #[v,v',v'',v''']) w) (h:FP c=true:=by kernel_rfl):T P f fn R (.code c::k) e w :=
 T.UT h hf hres h1 h2 h3 h4 hR
end
def Oa (b:List Row) (lo hi:Int):List Row:=b.filter (fun r=>inR r.t lo hi)
def LK (b:List Row) (lo hi:Int):List Row:=if Bp b then Oa b lo hi else []
def fits (f:List Cnd) (n:List Tag):Bool:=f.all (fun c=>has n c.tag != c.no)
def H3 (f:List Cnd):Bool:=f.all (fun c=>Bq c.tag)&&decide (f.length≤3)
def Du (f:List Cnd) (n:List Tag):Bool:=H3 f&&BC n&&fits f n
def Ch (p:List Tag→Bool):Nat→List (List Tag)→List Int
 | _,[]=>[]
 | i,n::ns=>(if p n then [(i:Int)+1] else [])++Ch p (i+1) ns
def LL (s:Sto) (lo hi:Int) (id:Int):List Hit:=if (Oa (rowsOf s id) lo hi).length > 0 then [⟨text (s.idx.names.getD (id - 1).toNat []),Oa (rowsOf s id) lo hi⟩] else []
def RZ (p:List Tag→Bool) (s:Sto) (lo hi:Int):List Hit:=(Ch p 0 s.idx.names).flatMap (LL s lo hi)
def Ig (s:Sto) (f:List Cnd) (lo hi:Int):List Hit:=if Al s&&H3 f then RZ (fits f) s lo hi else []
theorem Ob {p:List Tag→Bool}:∀ (l:List (List Tag)) (i:Nat) (x:Int),x∈Ch p i l→(i:Int)+1≤x∧x≤(i:Int)+l.length:=by
 intro l
 induction l with
 | nil=>intro i x h; simp [Ch] at h
 | cons n ns ih =>
   intro i x h
   unfold Ch at h
   rcases List.mem_append.1 h with h | h
   ·split at h
    ·simp at h; subst h; simp only [List.length_cons]; omega
    ·cases h
   ·have:=ih (i+1) x h
    simp only [List.length_cons]; omega
theorem Jc {p:List Tag→Bool}{l:List (List Tag)}{x:Int}(h:x∈Ch p 0 l):1≤x∧x≤l.length:=by have:=Ob l 0 x h; omega
theorem Oc {p:List Tag→Bool}:∀ (l:List (List Tag)) (i:Nat),(∀ n∈l,p n=false)→Ch p i l=[]:=by
 intro l
 induction l with
 | nil=>intro i _; rfl
 | cons n ns ih =>
   intro i h
   unfold Ch
   rw [h n AD,ih (i+1) (fun m hm=>h m (by simp [hm]))]
   rfl
theorem Py {p q:List Tag→Bool}:∀ (l:List (List Tag)) (i:Nat),(∀ n∈l,p n=q n)→Ch p i l=Ch q i l:=by
 intro l
 induction l with
 | nil=>intro i _; rfl
 | cons n ns ih =>
   intro i h
   unfold Ch
   rw [h n AD,ih (i+1) (fun m hm=>h m (by simp [hm]))]
theorem M7 {f:List Cnd}{x:Idx}(hx:NmI x.names) (hf:H3 f=true):Ch (Du f) 0 x.names=Ch (fits f) 0 x.names:=Py _ _ (fun n hn=>by unfold Du; rw [hf,hx.ok n hn]; rfl)
theorem Pz {f:List Cnd}{x:Idx}(hf:H3 f=false):Ch (Du f) 0 x.names=[]:=Oc _ _ (fun n _=>by unfold Du; rw [hf]; rfl)
theorem P0 {s:Sto}{i:Int}(hk:Al s=true) (h1:1≤i) (h2:i≤s.idx.names.length):Ge s i=rowsOf s i:=OV hk (by unfold inR; simp [h1,h2])
theorem Sx {s:Sto}(h:SD s) (hk:Al s=true) (i:Int):Blk (rowsOf s i):=by
 have hI:=(StoK.of h hk).JW
 have key:∀ (mem:List Smp) (o:List Row),(∀ m∈mem,Bi m.row=true)→Blk o→Blk (mem.foldl (CV i) o):=by
  intro mem
  induction mem with
  | nil=>intro o _ ho; exact ho
  | cons m ms ih =>
    intro o hm ho
    refine ih _ (fun q hq=>hm q (by simp [hq])) ?_
    unfold CV
    split
    ·exact ho.put (hm m AD)
    ·exact ho
 have key2:∀ (ps:List Prt) (o:List Row),(∀ p∈ps,PrtI p)→Blk o→Blk (ps.foldl (CK i) o):=by
  intro ps
  induction ps with
  | nil=>intro o _ ho; exact ho
  | cons p ps ih=>intro o hp ho; exact ih _ (fun q hq=>hp q (by simp [hq])) (ho.merge ((hp p AD).of i))
 exact key _ _ (fun m hm=>(hI.mem m hm).2.2) (key2 _ _ hI.part Blk.nil)
theorem Tt {s:Sto}(hk:Al s=true){i:Int}(h1:1≤i) (h2:i≤s.idx.names.length):(rowsOf s i).length≤24:=by
 unfold Al at hk
 simp only [AW,decide_eq_true_eq,List.all_eq_true,List.mem_range,EJ] at hk
 have:=hk.2 (i.toNat - 1) AB
 rwa [show ((i.toNat - 1:Nat):Int)+1=i by omega] at this
theorem P1 {s:Sto}(h:SD s) (hk:Al s=true){i:Int}(h1:1≤i) (h2:i≤s.idx.names.length):Bp (rowsOf s i)=true:=by
 unfold Bp
 have a1:CX none (rowsOf s i)=true:=Sx h hk i
 rw [a1,Bool.true_and,decide_eq_true_eq]
 exact Tt hk h1 h2
theorem Od {s:Sto}(h:SD s) (hk:Al s=true){i:Int}(h1:1≤i) (h2:i≤s.idx.names.length) (lo hi:Int):LK (rowsOf s i) lo hi=Oa (rowsOf s i) lo hi:=by
 unfold LK; rw [if_pos (P1 h hk h1 h2)]
theorem Sy {s:Sto}{f:List Cnd}{lo hi:Int}(hd:SD s) (h:Al s=true):Ig s f lo hi=RZ (Du f) s lo hi:=by
 unfold Ig RZ
 cases h2:H3 f with
 | true=>rw [h,M7 hd.nm h2]; rfl
 | false=>rw [Pz h2]; simp
def KW (n:List Tag):Str:=if BC n then text n else []
theorem P2 {n:List Tag}(h:BC n=true):KW n=text n:=by unfold KW; rw [if_pos h]
end Go.Proofs.YtggnnidleedpaaaGreat
namespace Go.Proofs.YtggnnidleedpaaaGreat
set_option maxRecDepth 100000
set_option maxHeartbeats 4000000
variable {w:World} {F:Nat→Prop} {a1 a2 a3 a4:Option Addr} {n1 c1 n2 c2 n3 c3 n4 c4:Nat}
theorem CC (s:Sto) (h1:RepS w F a1 n1 c1 s.idx.names) (h2:RepS w F a2 n2 c2 s.idx.AY) (h3:RepS w F a3 n3 c3 s.parts) (h4:RepS w F a4 n4 c4 s.mem) (p0:∀ m∈s.mem,Bi m.row=true) (p1:∀ m∈s.mem,1≤m.id∧m.id≤6) (p2:s.mem.length≤1000):Calls Tryz.prog 98 [.agg #[.slice a1 n1 c1,.slice a2 n2 c2,.slice a3 n3 c3,.slice a4 n4 c4]].toArray w (BB fun rv w'=>VS (ge w.heap.size) w' (BJ s.mem:Prt) rv∧Ext w w'):=by
 refine goT func98 ?_
 obtain ⟨rfl,cX,h1⟩:=h1.tp
 obtain ⟨rfl,cY,h2⟩:=h2.tp
 obtain ⟨rfl,cZ,h3⟩:=h3.tp
 obtain ⟨rfl,c7,h4⟩:=h4.tp
 refine .s<|.g<|.np 32 [.slice a1 s.idx.names.length c1,.slice a2 s.idx.AY.length c2,.slice a3 s.parts.length c3,.slice a4 s.mem.length c4] fun ac dA bc aK J b6=>?_
 replace h4:=(sn [] aK bc).g1 h4
 have C:=aK
 refine .np 48 [AH,AH] fun af dB aL bd E b7=>?_
 have c8:=C.cn aL
 replace ⟨h4,J,C⟩:=(sn [ac] bd aL).g3 h4 J C
 refine .d<|.s<|.g<|.ns 0 3 [] fun am cD aD bg b8 b9=>?_
 have cd:=AX aD J.lt
 have ce:=AX aD E.lt
 have cg:=Ae aD C.size
 have ci:=C.cn aD
 replace ⟨h4,J,E,C⟩:=(sn [af,ac] bg aD).g4 h4 J E C
 have au:Own (α:=Int) cD am 3 (nin (ge w.heap.size) [am,af,ac]) 0 0 []:=Own.Aj b8
 refine .ns 0 62 [] fun az cE aA bh cj ck=>?_
 have cm:=AX aA J.lt
 have co:=AX aA E.lt
 have cp:=AX aA au.lt
 have cq:=Ae aA C.size
 have cr:=C.cn aA
 replace ⟨h4,J,E,au,C⟩:=(sn [am,af,ac] bh aA).g5 h4 J E au C
 have aE:Own (α:=List Row) cE az 62 (nin (ge w.heap.size) [az,am,af,ac]) 0 0 []:=Own.Aj cj
 refine .r 1<|.np 48 [AH,AH] fun ae dC aB bi cu cw=>?_
 have c9:=AX aB J.lt
 have da:=AX aB E.lt
 have cx:=AX aB au.lt
 have cy:=AX aB aE.lt
 have db:=C.cn aB
 replace ⟨h4,J,E,au,aE,C⟩:=(sn [az,am,af,ac] bi aB).g6 h4 J E au aE C
 refine .sc [vS am 0 0,vS az 0 0] cu fun aH bj aM cz=>?_
 replace ⟨h4,J,E,au,aE,C⟩:=(so [ae,az,am,af,ac] bj).g6 h4 J E au aE C
 refine .d<|.s<|.s<|.g<|.r 1<|.d<|.b 0<|T.loop (X:=Nat × (List Int) × Nat × Nat × Nat × (List (List Row)) × Nat × Nat × Nat) (1,([]:List Int),am,0,0,([]:List (List Row)),az,0,0) (fun (id,ai,r_out_0,n_out_0,c_out_0,aj,r_out_1,n_out_1,c_out_1)=>[(1,.pointer (some ⟨ac,0,none⟩)),(2,.pointer (some ⟨af,0,none⟩)),(3,.pointer (some ⟨ae,0,none⟩)),(4,vI (id:Int))]) (fun (id,ai,r_out_0,n_out_0,c_out_0,aj,r_out_1,n_out_1,c_out_1) aF=>Chg (ins [am,az,ae]) aH aF∧Own aF r_out_0 3 (nin (ge w.heap.size) [ae,r_out_1,r_out_0,af,ac]) n_out_0 c_out_0 ai∧OrB r_out_0 am aH.heap.size∧Own aF r_out_1 62 (nin (ge w.heap.size) [ae,r_out_1,r_out_0,af,ac]) n_out_1 c_out_1 aj∧OrB r_out_1 az aH.heap.size∧Nb r_out_1 r_out_0∧Box aF ae 48 [vS r_out_0 n_out_0 c_out_0,vS r_out_1 n_out_1 c_out_1]∧(1≤id)∧(id≤7)∧(ai.length≤id)∧(aj.length≤id)∧(ai=(BY 0 (DC s.mem (id - 1))).1)∧(aj=(BY 0 (DC s.mem (id - 1))).2)) (fun (id,ai,r_out_0,n_out_0,c_out_0,aj,r_out_1,n_out_1,c_out_1)=>7 - id) AA ⟨AA,AA,AA,AA,trivial⟩ ⟨Chg.refl _ _,au,BU,aE,BU,cp,aM,AB,AB,(by (simp; done)),(by (simp; done)),AF,AF⟩ ?_
 rintro ⟨id,ai,r_out_0,n_out_0,c_out_0,aj,r_out_1,n_out_1,c_out_1⟩ dD aF ⟨ab,ag,av,W,aw,bk,ah,de,df,dg,dh,dj,dm⟩ aG
 have dp:=Ay av cd J.lt
 have dq:=Ay av ce E.lt
 have bt:=Ay av (Nb.symm cx) aM.lt
 have bu:=Bz av cg C.size
 have cF:=BA av ci C.size
 have cG:=Ay aw cm J.lt
 have cH:=Ay aw co E.lt
 have bv:=Ay aw (Nb.symm cy) aM.lt
 have bw:=Bz aw cq C.size
 have cI:=BA aw cr C.size
 have bz:Cov (ins [am,az,ae]) aH am:=⟨.inl AI⟩
 have bA:Cov (ins [am,az,ae]) aH az:=⟨.inl AJ⟩
 have cJ:Cov (ins [am,az,ae]) aH ae:=⟨.inl AK⟩
 have cK:=BA av bz (Nat.le_refl _)
 have cL:=BA aw bA (Nat.le_refl _)
 have aN:Mv [ae,az,am,af,ac] [ae,r_out_1,r_out_0,af,ac] aH aF:=Mv.inl ab (all_cons AK (all_cons AJ (all_cons AI all_nil))) (all_cons (.inl AI) (all_cons (Bb aw AJ) (all_cons (Bb av AK) (all_cons (.inl AL) (all_cons (.inl AM) all_nil)))))
 replace ⟨h4,J,E,C⟩:=(sp aN ab).g4 h4 J E C
 have cM:=ag.len; have cN:=ag.max
 have cO:=W.len; have cP:=W.max
 refine .s<|.s<|.g<|.r 1<|.bp ((id:Int)≤6) (fun bB=>?_) (fun bB=>?_)
 ·refine .d<|.ct<|.sk<|.s<|.b 1<|.s<|.g<|.r 1<|.lb J<|.r 2<|.cl (Dj (⟨(⟨([]:List (List Tag)),([]:List Pst)⟩:Idx),([]:List Prt),s.mem⟩:Sto) (id:Int) (RepS.Aj _ all none 0 AE) (RepS.Aj _ all none 0 AE) (RepS.Aj _ all none 0 AE) h4.ta AD p0 AD p2 (w:=aF) (F:=all)) ?_
  rintro dr dt ⟨⟨cA,cB,rfl,ak⟩,aO⟩
  have aP:=al5 ah.lt W.lt ag.lt E.lt J.lt
  have bC:Gb w.heap.size aF.heap.size:=C.size
  replace ⟨J,E,ag,W,ah,C,ab⟩:=(se [ae,r_out_1,r_out_0,af,ac] aO).g7 J E ag W ah C ab
  have ak:=ak.fr aP bC
  refine .r 1<|.d<|.s<|.g<|.r 2<|.bp ((((rowsOf (⟨(⟨([]:List (List Tag)),([]:List Pst)⟩:Idx),([]:List Prt),s.mem⟩:Sto) (id:Int)).length):Int) > 0) (fun bD=>?_) (fun bD=>.d<|.cf<|.sk<|.ib 1<|.g<|.r 1<|.it ((id:Int)+1)<|.r 1<|.d<|aG (id+1,ai,r_out_0,n_out_0,c_out_0,aj,r_out_1,n_out_1,c_out_1) _ _ ⟨AA,AA,AA,AA,trivial⟩ ⟨ab,ag,av,W,aw,bk,ah,AB,AB,AB,AB,(by exact RW ‹_› AB ‹_›),(by exact RY ‹_› AB ‹_›)⟩ (by (simp only []; omega)))
  refine .d<|.ct<|.s<|.g<|.r 1<|.lb ah<|.r 1<|.ns 1 3 [vI (id:Int)] fun bm du ao aQ bE bF=>?_
  have bG:=AX ao J.lt
  have bH:=AX ao E.lt
  have aR:=AX ao ag.lt
  have bI:=AX ao W.lt
  have bJ:=AX ao ah.lt
  have bK:=Ae ao C.size
  replace ⟨J,E,ag,W,ah,ak,C,ab⟩:=(se [ae,r_out_1,r_out_0,af,ac] aQ).g8 J E ag W ah ak C ab
  have aI:nin (ge w.heap.size) [ae,r_out_1,r_out_0,af,ac] bm∧bm≠r_out_0:=BR bK (all_cons bJ (all_cons bI (all_cons aR (all_cons bH (all_cons bG all_nil))))) aR
  refine RG.Ax (T:=34) (ty:=34) (y:=(id:Int)) ag bE AA AA rfl aI AB fun aC bn dv aa ax aS=>?_
  have bL:=Ag ax (Nb.symm bk) W.lt
  have cR:=Ag ax bt ah.lt
  have bM:=CB ax av ab.size
  replace ⟨J,E,W,ah,ak,C,ab⟩:=(sa [ae,r_out_1,r_out_0,af,ac] aS ax).g7 J E W ah ak C ab
  replace aa:=aa.rn r_out_0
  have cS:=aa.len
  refine .r 1<|.ss 0 (vS aC (n_out_0+1) bn) ah fun dw aT al bN=>?_
  replace ⟨J,E,aa,W,ak,C,ab⟩:=(so [ae,r_out_1,aC,af,ac] aT).g7 J E aa W ak C ab
  refine .d<|.g<|.r 1<|.lb al<|.r 1<|.ns 1 62 [.slice cA ((rowsOf (⟨(⟨([]:List (List Tag)),([]:List Pst)⟩:Idx),([]:List Prt),s.mem⟩:Sto) (id:Int)).length) cB] fun bo dx aq aU bO bP=>?_
  have bQ:=AX aq J.lt
  have bR:=AX aq E.lt
  have bS:=AX aq aa.lt
  have aV:=AX aq W.lt
  have bT:=AX aq al.lt
  have bU:=Ae aq C.size
  replace ⟨E,aa,W,al,ak,C,ab⟩:=(se [ae,r_out_1,aC,af,ac] aU).g7 E aa W al ak C ab
  have aJ:nin (ge w.heap.size) [ae,r_out_1,aC,af,ac] bo∧bo≠r_out_1:=BR bU (all_cons bT (all_cons aV (all_cons bS (all_cons bR (all_cons bQ all_nil))))) aV
  refine RG.Ax (T:=46) (ty:=46) (y:=rowsOf (⟨(⟨([]:List (List Tag)),([]:List Pst)⟩:Idx),([]:List Prt),s.mem⟩:Sto) (id:Int)) W bO AA AA ⟨_,_,_,rfl,ak.oi⟩ aJ AB fun aW bq dy ar ay aX=>?_
  have bV:=Ag ay (Nb.symm bL) aa.lt
  have cU:=Ag ay bv al.lt
  have bW:=CB ay aw ab.size
  replace ⟨E,aa,al,C,ab⟩:=(sa [ae,r_out_1,aC,af,ac] aX ay).g5 E aa al C ab
  replace ar:=ar.rn r_out_1
  have cV:=ar.len
  refine .r 1<|.ss 1 (vS aW (n_out_1+1) bq) al fun dz aY bX bY=>?_
  replace ⟨E,aa,ar,C,ab⟩:=(so [ae,aW,aC,af,ac] aY).g5 E aa ar C ab
  exact .d<|.ib 1<|.g<|.r 1<|.it ((id:Int)+1)<|.r 1<|.d<|aG (id+1,(ai++[(id:Int)]),aC,n_out_0+1,bn,(aj++[rowsOf (⟨(⟨([]:List (List Tag)),([]:List Pst)⟩:Idx),([]:List Prt),s.mem⟩:Sto) (id:Int)]),aW,n_out_1+1,bq) _ _ ⟨AA,AA,AA,AA,trivial⟩ ⟨ab,aa,bM,ar,bW,bV,bX,AB,AB,AB,AB,(by exact RV ‹_› AB ‹_›),(by exact RX ‹_› AB ‹_›)⟩ (by (simp only []; omega))
 refine .d<|.cf<|.x 0 rfl<|.s<|.g<|.ln ah<|.sc [vS r_out_0 n_out_0 c_out_0,vS r_out_1 n_out_1 c_out_1] E fun br aZ bZ b0=>?_
 replace ⟨ag,W,C⟩:=(so [ae,r_out_1,r_out_0,af,ac] aZ).g3 ag W C
 refine .d ?_
 have ba:=ag.sl bu
 replace W:=(sd br [ae,r_out_1,r_out_0,af,ac] r_out_0).g1 W
 have cC:=W.sl bw
 replace ba:=(sd br [ae,r_out_1,af,ac] r_out_1).g1 ba
 exact .rb func98 results98 bZ ⟨(VS.of (y:=(⟨ai,aj⟩:Prt)) ⟨_,rfl,⟨_,_,_,_,_,_,rfl,ba.w1,cC.w1⟩⟩ (by exact Tr (k:=id) p1 AB ‹_› ‹_›)),C⟩
theorem DT (s:Sto) (h1:RepS w F a1 n1 c1 s.idx.names) (h2:RepS w F a2 n2 c2 s.idx.AY) (h3:RepS w F a3 n3 c3 s.parts) (h4:RepS w F a4 n4 c4 s.mem) (p0:NmI s.idx.names) (p1:NsD s.idx.names) (p2:KE s):Calls Tryz.prog 41 [.agg #[.slice a1 n1 c1,.slice a2 n2 c2,.slice a3 n3 c3,.slice a4 n4 c4]].toArray w (BB fun rv w'=>(∃ (a0:Option Addr) (n0 c0:Nat) (a1:Option Addr) (n1 c1:Nat) (r2 n2 c2:Nat) (r3 n3 c3:Nat),rv=.agg #[.slice a0 n0 c0,.slice a1 n1 c1,.slice (some ⟨r2,0,none⟩) n2 c2,.slice (some ⟨r3,0,none⟩) n3 c3]∧RepS w' (nin (ge w.heap.size) [r2,r3]) a0 n0 c0 ((((Am s)).idx).names)∧RepS w' (nin (ge w.heap.size) [r2,r3]) a1 n1 c1 ((((Am s)).idx).AY)∧Own w' r2 48 (nin (ge w.heap.size) [r2,r3]) n2 c2 (((Am s)).parts)∧w.heap.size≤r2∧Own w' r3 85 (nin (ge w.heap.size) [r2,r3]) n3 c3 (((Am s)).mem)∧w.heap.size≤r3∧Nb r3 r2)∧Ext w w'):=by
 refine goT func41 ?_
 obtain ⟨rfl,dA,h1⟩:=h1.tp
 obtain ⟨rfl,dB,h2⟩:=h2.tp
 obtain ⟨rfl,dC,h3⟩:=h3.tp
 obtain ⟨rfl,dD,h4⟩:=h4.tp
 refine .s<|.g<|.np 32 [.slice a1 s.idx.names.length c1,.slice a2 s.idx.AY.length c2,.slice a3 s.parts.length c3,.slice a4 s.mem.length c4] fun ac d4 bS bm W cJ=>?_
 replace ⟨h1,h3,h4⟩:=(sn [] bm bS).g3 h1 h3 h4
 have E:=bm
 refine .np 32 [AH,AH,AH,AH] fun ae aD bn bT J cK=>?_
 have dE:=E.cn bn
 replace ⟨h1,h3,h4,W,E⟩:=(sn [ac] bT bn).g5 h1 h3 h4 W E
 refine .d<|.s<|T.D3 (X:=(Option Addr) × Nat × (Option Addr) × Nat × Nat × Nat × Nat × Nat) (mtb [] aD.heap.size) 10 (fun (bd,bg,bh,bi,ak,bj,bk,aq)=>[(2,.pointer (some ⟨ae,0,none⟩)),(6,.agg #[.slice bd ((idxOf s.idx.names).names.length) bg,.slice bh ((idxOf s.idx.names).AY.length) bi]),(9,vS ak bj bk),(10,vS aq 0 0),(12,.slice a4 s.mem.length c4)]) (fun (bd,bg,bh,bi,ak,bj,bk,aq) ax=>Ext aD ax∧aD.heap.size≤ak∧aD.heap.size≤aq∧Nb aq ak∧RepS ax (nin (ge w.heap.size) [ak,aq,ae,ac]) bd ((idxOf s.idx.names).names.length) bg ((idxOf s.idx.names).names:List (List Tag))∧RepS ax (nin (ge w.heap.size) [ak,aq,ae,ac]) bh ((idxOf s.idx.names).AY.length) bi ((idxOf s.idx.names).AY:List Pst)∧Own ax ak 48 (nin (ge w.heap.size) [ak,aq,ae,ac]) bj bk (s.parts:List Prt)∧Own ax aq 85 (nin (ge w.heap.size) [ak,aq,ae,ac]) 0 0 ([]:List Smp)) AA (fun dF aJ=>?_) ?_
 ·replace h1:=h1.BO
  replace h3:=h3.BO
  replace h4:=h4.BO
  have aK:Gb (ac+1) aD.heap.size:=W.lt
  replace ⟨h1,h3,h4,W,J,E⟩:=(se [ae,ac] aJ).g6 h1 h3 h4 W J E
  have C:=aJ
  refine .r [0,1]<|.lb 2 W (BL all_nil aK)<|.r [4]<|.lb 5 W (BL all_nil aK)<|.r [8]<|.lb 9 W (BL all_nil aK)<|.tw 3 7 ?_ ?_
  ·refine .cl (fun bo aL=>CG s.idx.names (h1.ta.ext aL) p0 p1 (w:=bo) (F:=all)) ?_
   intro bo aL
   replace ⟨h1,h3,h4,W,J,E,C⟩:=(se [ae,ac] aL).g7 h1 h3 h4 W J E C
   rintro dG dH ⟨⟨_,rfl,⟨bU,dI,bV,bW,dJ,bX,rfl,aa,ab⟩⟩,aM⟩
   have aN:=al2 J.lt W.lt
   have bq:Gb w.heap.size bo.heap.size:=E.size
   have hkeep_:=aM
   replace ⟨h1,h3,h4,W,J,E,C⟩:=(se [ae,ac] aM).g7 h1 h3 h4 W J E C
   refine ⟨Ext.chg hkeep_,?_⟩
   have aa:=aa.fr aN bq
   have cY:=aa.max
   have ab:=ab.fr aN bq
   have cZ:=ab.max
   have b0:=aa.len
   subst b0
   have b6:=ab.len
   subst b6
   refine .tw 6 7 ?_ ?_
   ·refine .cl (fun br aO=>CO s.parts (h3.ta.ext aO) (by have:=p2.2.1; omega) p2.2.2.1 (w:=br) (F:=all)) ?_
    intro br aO
    replace ⟨h1,h3,h4,W,J,aa,ab,E,C⟩:=(se [ae,ac] aO).g9 h1 h3 h4 W J aa ab E C
    rintro dK dL ⟨⟨av,cL,cM,rfl,ag,aP⟩,aQ⟩
    have bt:=al2 J.lt W.lt
    have b7:Gb w.heap.size br.heap.size:=E.size
    have hkeep_:=aQ
    have b8:Cov nil aD av:=BT aP C.size
    replace ⟨h1,h3,h4,W,J,aa,ab,E,C⟩:=(sz [ae,ac] aQ aP).g9 h1 h3 h4 W J aa ab E C
    refine ⟨Ext.chg hkeep_,?_⟩
    replace ag:=Own.take (s0:=w.heap.size) (M:=[ae,ac]) ag bt b7
    refine .go 7<|.ns 0 85 [] fun dM bu=>?_
    replace ⟨h1,h3,h4,W,J,aa,ab,ag,E,C⟩:=(se [av,ae,ac] bu).g10 h1 h3 h4 W J aa ab ag E C
    intro aC cN aE bv b9 cd
    have ce:=AX aE ag.lt
    have cg:=C.cn aE
    replace ⟨h1,h3,h4,W,J,aa,ab,ag,E,C⟩:=(sn [av,ae,ac] bv aE).g10 h1 h3 h4 W J aa ab ag E C
    have aR:Own (α:=Smp) cN aC 85 (nin (ge w.heap.size) [aC,av,ae,ac]) 0 0 []:=Own.Aj b9
    refine .d fun bY bw=>?_
    replace ⟨h1,h3,h4,W,J,aa,ab,ag,aR,E,C⟩:=(se [aC,av,ae,ac] bw).g11 h1 h3 h4 W J aa ab ag aR E C
    replace h1:=h1.Aa
    replace h3:=h3.Aa
    replace h4:=h4.Aa
    have aF:Mv [aC,av,ae,ac] [av,aC,ae,ac] bY bY:=Mv.less (all_cons AJ (all_cons AI (all_cons AK (all_cons AL all_nil))))
    exact ⟨(bU,bV,bW,bX,av,cL,cM,aC),⟨AA,AA,AA,AA,AA,trivial⟩,⟨C,(Ad b8),(Ad cg),ce,(RepS.mv aa aF),(RepS.mv ab aF),(Own.mv ag aF (Chg.refl nil _) (fun h=>h)),(Own.mv aR aF (Chg.refl nil _) (fun h=>h))⟩⟩
   refine .ns 0 85 [] fun dN bz=>?_
   replace ⟨h1,h3,h4,W,J,aa,ab,E,C⟩:=(se [ae,ac] bz).g9 h1 h3 h4 W J aa ab E C
   intro ay cO aS bA ci cj
   have ck:=C.cn aS
   replace ⟨h1,h3,h4,W,J,aa,ab,E,C⟩:=(sn [ae,ac] bA aS).g9 h1 h3 h4 W J aa ab E C
   have ah:Own (α:=Smp) cO ay 85 (nin (ge w.heap.size) [ay,ae,ac]) 0 0 []:=Own.Aj ci
   refine .go 6<|.cl (fun bB aT=>CO s.parts (h3.ta.ext aT) (by have:=p2.2.1; omega) p2.2.2.1 (w:=bB) (F:=all)) ?_
   intro bB aT
   replace ⟨h1,h3,h4,W,J,aa,ab,ah,E,C⟩:=(se [ay,ae,ac] aT).g10 h1 h3 h4 W J aa ab ah E C
   rintro dO dP ⟨⟨bC,cP,cQ,rfl,al,aG⟩,aU⟩
   have bD:=al3 ah.lt J.lt W.lt
   have cm:Gb w.heap.size bB.heap.size:=E.size
   have hkeep_:=aU
   have co:=Ah aG ah.lt
   have cp:Cov nil aD bC:=BT aG C.size
   replace ⟨h1,h3,h4,W,J,aa,ab,ah,E,C⟩:=(sz [ay,ae,ac] aU aG).g10 h1 h3 h4 W J aa ab ah E C
   refine ⟨Ext.chg hkeep_,?_⟩
   replace al:=Own.take (s0:=w.heap.size) (M:=[ay,ae,ac]) al bD cm
   refine .d fun dQ bE=>?_
   replace ⟨h1,h3,h4,W,J,aa,ab,ah,al,E,C⟩:=(se [bC,ay,ae,ac] bE).g11 h1 h3 h4 W J aa ab ah al E C
   replace h1:=h1.Aa
   replace h3:=h3.Aa
   replace h4:=h4.Aa
   exact ⟨(bU,bV,bW,bX,bC,cP,cQ,ay),⟨AA,AA,AA,AA,AA,trivial⟩,⟨C,(Ad cp),(Ad ck),(Nb.symm co),aa,ab,al,ah⟩⟩
  refine .ns 0 85 [] fun dR bF=>?_
  replace ⟨h1,h3,h4,W,J,E,C⟩:=(se [ae,ac] bF).g7 h1 h3 h4 W J E C
  intro ar cR aV bG cq cr
  have cu:=C.cn aV
  replace ⟨h1,h3,h4,W,J,E,C⟩:=(sn [ae,ac] bG aV).g7 h1 h3 h4 W J E C
  have af:Own (α:=Smp) cR ar 85 (nin (ge w.heap.size) [ar,ae,ac]) 0 0 []:=Own.Aj cq
  refine .go 3<|.cl (fun bH aW=>CG s.idx.names (h1.ta.ext aW) p0 p1 (w:=bH) (F:=all)) ?_
  intro bH aW
  replace ⟨h3,h4,W,J,af,E,C⟩:=(se [ar,ae,ac] aW).g7 h3 h4 W J af E C
  rintro dS dT ⟨⟨_,rfl,⟨cS,dU,cT,cU,dV,cV,rfl,ai,aj⟩⟩,aX⟩
  have aY:=al3 af.lt J.lt W.lt
  have bI:Gb w.heap.size bH.heap.size:=E.size
  have hkeep_:=aX
  replace ⟨h3,h4,W,J,af,E,C⟩:=(se [ar,ae,ac] aX).g7 h3 h4 W J af E C
  refine ⟨Ext.chg hkeep_,?_⟩
  have ai:=ai.fr aY bI
  have db:=ai.max
  have aj:=aj.fr aY bI
  have de:=aj.max
  have cw:=ai.len
  subst cw
  have cx:=aj.len
  subst cx
  refine .go 6<|.cl (fun bJ aZ=>CO s.parts (h3.ta.ext aZ) (by have:=p2.2.1; omega) p2.2.2.1 (w:=bJ) (F:=all)) ?_
  intro bJ aZ
  replace ⟨h4,W,J,af,ai,aj,E,C⟩:=(se [ar,ae,ac] aZ).g8 h4 W J af ai aj E C
  rintro dW dX ⟨⟨bK,cW,cX,rfl,am,aH⟩,ba⟩
  have bL:=al3 af.lt J.lt W.lt
  have cy:Gb w.heap.size bJ.heap.size:=E.size
  have hkeep_:=ba
  have cz:=Ah aH af.lt
  have cA:Cov nil aD bK:=BT aH C.size
  replace ⟨h4,J,af,ai,aj,E,C⟩:=(sz [ar,ae,ac] ba aH).g7 h4 J af ai aj E C
  refine ⟨Ext.chg hkeep_,?_⟩
  replace am:=Own.take (s0:=w.heap.size) (M:=[ar,ae,ac]) am bL cy
  refine .d fun dY bM=>?_
  replace ⟨h4,J,af,ai,aj,am,E,C⟩:=(se [bK,ar,ae,ac] bM).g8 h4 J af ai aj am E C
  replace h4:=h4.Aa
  exact ⟨(cS,cT,cU,cV,bK,cW,cX,ar),⟨AA,AA,AA,AA,AA,trivial⟩,⟨C,(Ad cA),(Ad cu),(Nb.symm cz),ai,aj,am,af⟩⟩
 rintro ⟨bd,bg,bh,bi,ak,bj,bk,aq⟩ dZ ax ⟨bc,aI,az,cB,aA,aB,aw,bN⟩
 have dh:=Ah aI J.lt
 have cC:=Bo aI E.size
 have cD:=Ah az J.lt
 have cE:=Bo az E.size
 have dj:Cov nil w aq:=BT az E.size
 have bO:Mv [ae,ac] [ak,aq,ae,ac] aD ax:=Mv.cons (Mv.cons (Mv.ext bc) az) aI
 replace ⟨h4,J,E⟩:=(sp bO bc).g3 h4 J E
 refine RG.BG (T:=30) (ty:=30) EU bN h4 AA AA (fun b h e=>h.2 (e▸AJ)) (by have:=p2.2.2.2; omega) fun bP bZ d0 ao au bQ=>?_
 have dx:=Ag au cD J.lt
 have cF:=Ag au cB aw.lt
 have cG:=Bt au cE E.size
 replace ⟨J,aA,aB,aw,E⟩:=(sa [ak,aq,ae,ac] bQ au).g5 J aA aB aw E
 replace ao:=ao.rn aq
 refine .r 1<|.sc [.slice bd ((idxOf s.idx.names).names.length) bg,.slice bh ((idxOf s.idx.names).AY.length) bi,vS ak bj bk,vS bP (0+s.mem.length) bZ] J fun d3 bR cH cI=>?_
 replace ⟨aA,aB,aw,ao,E⟩:=(so [ak,bP,ae,ac] bR).g5 aA aB aw ao E
 exact .d<|.rb func41 results41 cH ⟨⟨bd,(idxOf s.idx.names).names.length,bg,bh,(idxOf s.idx.names).AY.length,bi,ak,bj,bk,bP,(0+s.mem.length),bZ,rfl,((RepS.Ap aA (all_cons AI (all_cons AJ all_nil))).eqx AF),((RepS.Ap aB (all_cons AI (all_cons AJ all_nil))).eqx AF),((Own.Ap aw (all_cons AI (all_cons AJ all_nil))).eqx AF),cC,((Own.Ap ao (all_cons AI (all_cons AJ all_nil))).eqx AF),cG,cF⟩,E⟩
theorem HN (s:Sto) (h1:RepS w F a1 n1 c1 s.idx.names) (h2:RepS w F a2 n2 c2 s.idx.AY) (h3:RepS w F a3 n3 c3 s.parts) (h4:RepS w F a4 n4 c4 s.mem) (p0:SD s):Calls Tryz.prog 56 [.agg #[.slice a1 n1 c1,.slice a2 n2 c2,.slice a3 n3 c3,.slice a4 n4 c4]].toArray w (BB fun rv w'=>(∃ v0,rv=.tuple #[v0,.bool ((Bv s).2)]∧VS (fo F w.heap.size) w' ((Bv s).1:Sto) v0)∧Ext w w'):=by
 refine goT func56 ?_
 obtain ⟨rfl,cZ,h1⟩:=h1.tp
 obtain ⟨rfl,c7,h2⟩:=h2.tp
 obtain ⟨rfl,c8,h3⟩:=h3.tp
 obtain ⟨rfl,c9,h4⟩:=h4.tp
 refine .s<|.g<|.np 32 [.slice a1 s.idx.names.length c1,.slice a2 s.idx.AY.length c2,.slice a3 s.parts.length c3,.slice a4 s.mem.length c4] fun af dG bq aJ E co=>?_
 replace ⟨h1,h2,h3,h4⟩:=(sn [] aJ bq).g4 h1 h2 h3 h4
 have C:=aJ
 refine .np 32 [AH,AH,AH,AH] fun ag cK aG br W cp=>?_
 have da:=AX aG E.lt
 have db:=C.cn aG
 replace ⟨h1,h2,h3,h4,E,C⟩:=(sn [af] br aG).g6 h1 h2 h3 h4 E C
 refine .r 1<|.d<|.s<|.s<|.g<|.ln E<|.cl (Ef s h1.ta h2.ta h3.ta h4.ta p0 (w:=cK) (F:=all)) ?_
 rintro dH bH ⟨rfl,bt⟩
 replace ⟨h1,h2,h3,h4,E,W,C⟩:=(se [ag,af] bt).g7 h1 h2 h3 h4 E W C
 cases de:(Al s)
 ·refine .r 1<|.d<|.ct<|.s<|.g<|.r 1<|.sc [AH,AH,AH,AH] W fun dI bu cq cr=>?_
  replace ⟨h1,h2,h3,h4,E,C⟩:=(so [ag,af] bu).g6 h1 h2 h3 h4 E C
  exact .r 1<|.d<|.r2 func56 results56 (.bx cq) (.t (.bool false)) ⟨⟨_,(CJ rfl (AG (by rw [H0 ‹_›]))),(VS.of (y:=(⟨(⟨([]:List (List Tag)),([]:List Pst)⟩:Idx),([]:List Prt),([]:List Smp)⟩:Sto)) ⟨_,rfl,⟨_,_,_,_,_,_,_,_,_,_,_,_,rfl,(RepS.Aj _ _ none 0 AE),(RepS.Aj _ _ none 0 AE),(RepS.Aj _ _ none 0 AE),(RepS.Aj _ _ none 0 AE)⟩⟩ (by rw [H0 ‹_›]))⟩,C⟩
 refine .r 1<|.d<|.cf<|.sk<|.s<|.g<|.ln E<|.cl (DT s h1.ta h2.ta h3.ta h4.ta p0.nm p0.nd p0.sz (w:=bH) (F:=all)) ?_
 rintro dJ aK ⟨⟨bk,dK,bm,bn,dL,bo,ai,aL,bI,ah,bJ,bK,rfl,aa,ab,ae,az,J,aB,cu⟩,aM⟩
 have aC:=al2 W.lt E.lt
 have aH:Gb w.heap.size bH.heap.size:=C.size
 have bv:=Ah az E.lt
 have cw:=Ah az W.lt
 have aN:=Bo az C.size
 have df:Cov nil w ai:=BT az C.size
 have cx:=Ah aB E.lt
 have dg:=Ah aB W.lt
 have bw:=Bo aB C.size
 have bz:Mv [ag,af] [ai,ah,ag,af] bH aK:=Mv.cons (Mv.cons (Mv.ext aM) aB) az
 replace ⟨h1,h2,h3,h4,E,W,C⟩:=(sp bz aM).g7 h1 h2 h3 h4 E W C
 replace aa:RepS aK (nin (ge w.heap.size) [ai,ah,ag,af]) _ _ _ _:=RepS.Bc (s0:=w.heap.size) (M:=[ag,af]) aa aC aH
 replace aa:=aa.base (G':=fo F w.heap.size) (fun _ _ h=>.inr h)
 have dh:=aa.max
 replace ab:RepS aK (nin (ge w.heap.size) [ai,ah,ag,af]) _ _ _ _:=RepS.Bc (s0:=w.heap.size) (M:=[ag,af]) ab aC aH
 replace ab:=ab.base (G':=fo F w.heap.size) (fun _ _ h=>.inr h)
 have dj:=ab.max
 replace ae:Own aK ai 48 (nin (ge w.heap.size) [ai,ah,ag,af]) _ _ _:=Own.Bc (s0:=w.heap.size) (M:=[ag,af]) ae aC aH
 replace ae:=ae.base (G':=fo F w.heap.size) (fun _ _ h=>.inr h)
 have dp:=ae.len
 replace J:Own aK ah 85 (nin (ge w.heap.size) [ai,ah,ag,af]) _ _ _:=Own.Bc (s0:=w.heap.size) (M:=[ag,af]) J aC aH
 replace J:=J.base (G':=fo F w.heap.size) (fun _ _ h=>.inr h)
 have cy:=aa.len
 subst cy
 have cz:=ab.len
 subst cz
 refine .np 32 [AH,AH,AH,AH] fun ak dM ay bA cA cB=>?_
 have dt:=AX ay E.lt
 have du:=AX ay W.lt
 have bB:=AX ay ae.lt
 have bL:=AX ay J.lt
 have cL:=C.cn ay
 replace ⟨h1,h2,h3,h4,E,W,aa,ab,ae,J,C⟩:=(sn [ai,ah,ag,af] bA ay).g11 h1 h2 h3 h4 E W aa ab ae J C
 refine .sc [.slice bk (((((Am s)).idx).names).length) bm,.slice bn (((((Am s)).idx).AY).length) bo,vS ai aL bI,vS ah bJ bK] cA fun aO aP ac bM=>?_
 replace ⟨h1,h2,h3,h4,E,W,aa,ab,ae,J,C⟩:=(so [ak,ai,ah,ag,af] aP).g11 h1 h2 h3 h4 E W aa ab ae J C
 refine .d<|.s<|.s<|.g<|.r 1<|.lb E<|.r 1<|.eq (s.mem.length:Int) 0 (fun bN=>?_) (fun bN=>?_)
 ·refine .r 6<|.d<|.ct<|.s<|.g<|.ln ac<|.sc [.slice bk (((((Am s)).idx).names).length) bm,.slice bn (((((Am s)).idx).AY).length) bo,vS ai aL bI,vS ah bJ bK] W fun bC aQ bO bP=>?_
  replace ⟨h1,h2,h3,h4,E,aa,ab,ae,J,ac,C⟩:=(so [ak,ai,ah,ag,af] aQ).g11 h1 h2 h3 h4 E aa ab ae J ac C
  refine .r 1<|.d ?_
  have aR:=ae.sl (.inr aN)
  replace ⟨h1,h2,h3,h4,aa,ab,J⟩:=(sd bC [ak,ai,ah,ag,af] ai).g7 h1 h2 h3 h4 aa ab J
  have cC:=J.sl (.inr bw)
  replace ⟨h1,h2,h3,h4,aa,ab,aR⟩:=(sd bC [ak,ah,ag,af] ah).g7 h1 h2 h3 h4 aa ab aR
  exact .r2 func56 results56 (.bx bO) (.t (.bool false)) ⟨⟨_,(CJ rfl (AG (by rw [F3 p0 ‹_› (.inl ‹_›)]))),(VS.of (y:=(⟨(⟨(((Am s)).idx).names,(((Am s)).idx).AY⟩:Idx),((Am s)).parts,((Am s)).mem⟩:Sto)) ⟨_,rfl,⟨_,_,_,_,_,_,_,_,_,_,_,_,rfl,aa.w1,ab.w1,aR.w1,cC.w1⟩⟩ (by rw [F3 p0 ‹_› (.inl ‹_›)]))⟩,C⟩
 refine .r 2<|.lb E<|.r 1<|.eq (s.parts.length:Int) 6 (fun bQ=>?_) (fun bQ=>?_)
 ·refine .r 1<|.d<|.ct<|.s<|.g<|.ln ac<|.sc [.slice bk (((((Am s)).idx).names).length) bm,.slice bn (((((Am s)).idx).AY).length) bo,vS ai aL bI,vS ah bJ bK] W fun bD aS bR bS=>?_
  replace ⟨h1,h2,h3,h4,E,aa,ab,ae,J,ac,C⟩:=(so [ak,ai,ah,ag,af] aS).g11 h1 h2 h3 h4 E aa ab ae J ac C
  refine .r 1<|.d ?_
  have aT:=ae.sl (.inr aN)
  replace ⟨h1,h2,h3,h4,aa,ab,J⟩:=(sd bD [ak,ai,ah,ag,af] ai).g7 h1 h2 h3 h4 aa ab J
  have cD:=J.sl (.inr bw)
  replace ⟨h1,h2,h3,h4,aa,ab,aT⟩:=(sd bD [ak,ah,ag,af] ah).g7 h1 h2 h3 h4 aa ab aT
  exact .r2 func56 results56 (.bx bR) (.t (.bool false)) ⟨⟨_,(CJ rfl (AG (by rw [F3 p0 ‹_› (.inr ‹_›)]))),(VS.of (y:=(⟨(⟨(((Am s)).idx).names,(((Am s)).idx).AY⟩:Idx),((Am s)).parts,((Am s)).mem⟩:Sto)) ⟨_,rfl,⟨_,_,_,_,_,_,_,_,_,_,_,_,rfl,aa.w1,ab.w1,aT.w1,cD.w1⟩⟩ (by rw [F3 p0 ‹_› (.inr ‹_›)]))⟩,C⟩
 refine .r 1<|.d<|.cf<|.sk<|.s ?_
 replace h1:=h1.BO
 replace h2:=h2.BO
 replace h3:=h3.BO
 replace h4:=h4.BO
 replace aa:=aa.BO
 replace ab:=ab.BO
 have bT:Gb (af+1) aO.heap.size:=E.lt
 have bU:Gb (ak+1) aO.heap.size:=ac.lt
 refine .gd (mtb [ai,ah] aO.heap.size) 5 fun dv aU=>?_
 replace ⟨h1,h2,h3,h4,E,W,aa,ab,ae,J,ac,C⟩:=(se [ak,ai,ah,ag,af] aU).g12 h1 h2 h3 h4 E W aa ab ae J ac C
 refine .r [0]<|.lb 1 ac (BL (all_cons bB (all_cons bL all_nil)) bU)<|.ln 2 E (BL (all_cons (Nb.symm bv) (all_cons (Nb.symm cx) all_nil)) bT)<|.go 3<|.cl (fun aV ax=>CC s (h1.ta.ext ax) (h2.ta.ext ax) (h3.ta.ext ax) (h4.ta.ext ax) (StoK.of p0 ‹_›).row (StoK.of p0 ‹_›).JW.Hg (by have:=p0.nm2; omega) (w:=aV) (F:=all)) ?_
 intro aV ax
 replace ⟨E,W,aa,ab,ae,J,ac,C⟩:=(se [ak,ai,ah,ag,af] ax).g8 E W aa ab ae J ac C
 rintro dw dx ⟨⟨_,rfl,⟨cE,dy,cF,cG,dz,cH,rfl,al,am⟩⟩,aD⟩
 have aE:=al5 ac.lt ae.lt J.lt W.lt E.lt
 have aW:Gb w.heap.size aV.heap.size:=C.size
 have hkeep_:=aD
 replace ⟨E,W,aa,ab,ae,J,ac,C⟩:=(se [ak,ai,ah,ag,af] aD).g8 E W aa ab ae J ac C
 refine ⟨Ext.chg hkeep_,?_⟩
 have al:=al.fr aE aW
 replace al:=al.base (G':=fo F w.heap.size) (fun _ _ h=>.inr h)
 have cM:=al.max
 have am:=am.fr aE aW
 replace am:=am.base (G':=fo F w.heap.size) (fun _ _ h=>.inr h)
 have cN:=am.max
 have bV:=al.len
 subst bV
 have bW:=am.len
 subst bW
 refine .go 4<|.ns 1 48 [.slice cE ((BJ s.mem).ids.length) cF,.slice cG ((BJ s.mem).blocks.length) cH] fun dA aX=>?_
 replace ⟨E,W,aa,ab,ae,J,ac,al,am,C⟩:=(se [ak,ai,ah,ag,af] aX).g10 E W aa ab ae J ac al am C
 intro bE dB ar aY aF bX
 have bY:=AX ar E.lt
 have bZ:=AX ar W.lt
 have aZ:=AX ar ae.lt
 have b0:=AX ar J.lt
 have b6:=AX ar ac.lt
 have b7:=Ae ar C.size
 replace ⟨E,W,aa,ab,ae,J,ac,al,am,C⟩:=(se [ak,ai,ah,ag,af] aY).g10 E W aa ab ae J ac al am C
 refine .d fun dC ba=>?_
 replace ⟨E,W,aa,ab,ae,J,ac,al,am,aF,C⟩:=(se [ak,ai,ah,ag,af] ba).g11 E W aa ab ae J ac al am aF C
 replace aa:=aa.Aa
 replace ab:=ab.Aa
 have aI:nin (fo F w.heap.size) [ak,ai,ah,ag,af] bE∧bE≠ai:=BR (.inr b7) (all_cons b6 (all_cons aZ (all_cons b0 (all_cons bZ (all_cons bY all_nil))))) aZ
 refine RG.Ax (T:=29) (ty:=29) (y:=(BJ s.mem)) ae aF AA AA ⟨_,_,_,_,_,_,rfl,al.oi,am.oi⟩ aI (by have q1:=p0.np; have q2:(Am s).parts.length=s.parts.length:=rfl; omega) fun av bF dD aj ao bc=>?_
 have cO:=Ag ao bv E.lt
 have cP:=Ag ao cw W.lt
 have cQ:=Ag ao (Nb.symm cu) J.lt
 have cR:=Ag ao (Nb.symm bB) ac.lt
 have b8:=Bt ao aN C.size
 replace ⟨E,W,aa,ab,J,ac,C⟩:=(sa [ak,ai,ah,ag,af] bc ao).g7 E W aa ab J ac C
 replace aj:=aj.rn ai
 refine .r 1<|.ss 2 (vS av (aL+1) bF) ac fun dE bd aA b9=>?_
 replace ⟨E,W,aa,ab,aj,J,C⟩:=(so [ak,av,ah,ag,af] bd).g7 E W aa ab aj J C
 refine .d<|.s<|.g<|.ns 0 85 [] fun aw cI aq bg cd ce=>?_
 have cU:=AX aq E.lt
 have cV:=AX aq W.lt
 have cW:=AX aq aj.lt
 have cX:=AX aq J.lt
 have cY:=AX aq aA.lt
 have cg:=Ae aq C.size
 replace ⟨W,aa,ab,aj,aA,C⟩:=(sn [ak,av,ah,ag,af] bg aq).g6 W aa ab aj aA C
 have au:Own (α:=Smp) cI aw 85 (nin (fo F w.heap.size) [aw,ak,av,ah,ag,af]) 0 0 []:=Own.Aj cd
 refine .r 1<|.ss 3 (vS aw 0 0) aA fun dF bh ci cj=>?_
 replace ⟨W,aa,ab,aj,au,C⟩:=(so [aw,ak,av,ah,ag,af] bh).g6 W aa ab aj au C
 refine .d<|.s<|.g<|.ln ci<|.sc [.slice bk (((((Am s)).idx).names).length) bm,.slice bn (((((Am s)).idx).AY).length) bo,vS av (aL+1) bF,vS aw 0 0] W fun bG bi ck cm=>?_
 replace ⟨aa,ab,aj,au,C⟩:=(so [aw,ak,av,ah,ag,af] bi).g5 aa ab aj au C
 refine .r 1<|.d ?_
 have bj:=aj.sl (.inr b8)
 replace ⟨aa,ab,au⟩:=(sd bG [aw,ak,av,ah,ag,af] av).g3 aa ab au
 have cJ:=au.sl (.inr cg)
 replace ⟨aa,ab,bj⟩:=(sd bG [aw,ak,ah,ag,af] aw).g3 aa ab bj
 exact .r2 func56 results56 (.bx ck) (.t (.bool true)) ⟨⟨_,(CJ rfl (AG (by rw [HM p0 ‹_› ‹_› ‹_›]))),(VS.of (y:=(⟨(⟨(((Am s)).idx).names,(((Am s)).idx).AY⟩:Idx),(((Am s)).parts++[(BJ s.mem)]),[]⟩:Sto)) ⟨_,rfl,⟨_,_,_,_,_,_,_,_,_,_,_,_,rfl,aa.w1,ab.w1,bj.w1,cJ.w1⟩⟩ (by rw [HM p0 ‹_› ‹_› ‹_›]))⟩,C⟩
end Go.Proofs.YtggnnidleedpaaaGreat
