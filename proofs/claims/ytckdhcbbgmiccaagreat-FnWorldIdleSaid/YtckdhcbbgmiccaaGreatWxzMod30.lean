/- What asking computes, as plain functions, and its laws. -/
import Derived.Test.YtckdhcbbgmiccaaGreatWxzMod20
import Derived.Shelf.Lays
import Derived.Shelf.Strings.OnBuilder
open Go.Proofs.Tryz
set_option linter.unusedVariables false
set_option linter.unusedSimpArgs false
namespace Go.Proofs.YtckdhcbbgmiccaaGreat
section
variable {P:Program} {f:FuncId} {fn:Func} {R:Value→World→Prop} {c:Code} {e:Env} {w:World}
theorem YF (f:ResultVar→Sem Value) (r r' r2 r3:ResultVar):(#[r,r',r2,r3]).mapM f=(do let v ← f r; let v' ← f r'; let v2 ← f r2; let v3 ← f r3; pure #[v,v',v2,v3]):=by
 simp
theorem Nq {a:Act}{r r' r'' r''':ResultVar}{v v' v'' v''':Value}(hs:Sees fn.ntmps a e) (hr:fn.results = #[r,r',r'',r''']) (h:Cc P w e r v) (h':Cc P w e r' v') (h'':Cc P w e r'' v'') (h3:Cc P w e r''' v''') :
 (results fn a.tmps).run P w=.ok (.tuple #[v,v',v'',v''']) w:=by
 rw [Gk,hr,YF]
 refine Aa (a:=#[v,v',v'',v''']) ?_
 rw [Aa (h.run hs),Aa (h'.run hs),Aa (h''.run hs),Aa (h3.run hs)]
 rfl
theorem T.Yp {k}{r r' r'' r''':ResultVar}{v v' v'' v''':Value}(h:Fs c=true) (hf:P.funcs[f]? = some fn) (hres:fn.results = #[r,r',r'',r''']) (h1:Cc P w e r v) (h2:Cc P w e r' v') (h3:Cc P w e r'' v'') (h4:Cc P w e r''' v''')
 (hR:R (.tuple #[v,v',v'',v''']) w):T P f fn R (.code c::k) e w :=
 T.N5 h (fun _ hs=>Nq hs hres h1 h2 h3 h4) hf hR
theorem T.r4 {k}{r r' r'' r''':ResultVar}{v v' v'' v''':Value}(hf:P.funcs[f]? = some fn) (hres:fn.results = #[r,r',r'',r''']) (h1:Cc P w e r v) (h2:Cc P w e r' v') (h3:Cc P w e r'' v'') (h4:Cc P w e r''' v''') (hR:R (.tuple #[v,v',v'',v''']) w) (h:Fs c=true:=by kernel_rfl):T P f fn R (.code c::k) e w :=
 T.Yp h hf hres h1 h2 h3 h4 hR
end
def MU (b:List Row) (lo hi:Int):List Row:=b.filter (fun r=>inR r.t lo hi)
def HH (b:List Row) (lo hi:Int):List Row:=if BA b then MU b lo hi else []
def fits (f:List Cnd) (n:List Tag):Bool:=f.all (fun c=>has n c.tag != c.no)
def Dk (f:List Cnd):Bool:=f.all (fun c=>Be c.tag)&&decide (f.length≤3)
def CH (f:List Cnd) (n:List Tag):Bool:=Dk f&&As n&&fits f n
def BK (p:List Tag→Bool):Nat→List (List Tag)→List Int
 | _,[]=>[]
 | i,n::ns=>(if p n then [(i:Int)+1] else [])++BK p (i+1) ns
def D6 (s:Sto) (lo hi:Int) (id:Int):List Hit:=if (MU (rowsOf s id) lo hi).length > 0 then [⟨text (s.idx.names.getD (id - 1).toNat []),MU (rowsOf s id) lo hi⟩] else []
def Om (p:List Tag→Bool) (s:Sto) (lo hi:Int):List Hit:=(BK p 0 s.idx.names).flatMap (D6 s lo hi)
def By (s:Sto) (f:List Cnd) (lo hi:Int):List Hit:=if Ad s&&Dk f then Om (fits f) s lo hi else []
theorem Mt {p:List Tag→Bool}:∀ (l:List (List Tag)) (i:Nat) (x:Int),x∈BK p i l→(i:Int)+1≤x∧x≤(i:Int)+l.length:=by
 intro l
 induction l with
 | nil=>intro i x h; simp [BK] at h
 | cons n ns ih =>
   intro i x h
   unfold BK at h
   rcases List.mem_append.1 h with h | h
   ·split at h
    ·simp at h; subst h; simp only [List.length_cons]; omega
    ·cases h
   ·have:=ih (i+1) x h
    simp only [List.length_cons]; omega
theorem ER {p:List Tag→Bool}{l:List (List Tag)}{x:Int}(h:x∈BK p 0 l):1≤x∧x≤l.length:=by have:=Mt l 0 x h; omega
theorem Ri {p:List Tag→Bool}:∀ (l:List (List Tag)) (i:Nat),(∀ n∈l,p n=false)→BK p i l=[]:=by
 intro l
 induction l with
 | nil=>intro i _; rfl
 | cons n ns ih =>
   intro i h
   unfold BK
   rw [h n AD,ih (i+1) (fun m hm=>h m (by simp [hm]))]
   rfl
theorem TT {p q:List Tag→Bool}:∀ (l:List (List Tag)) (i:Nat),(∀ n∈l,p n=q n)→BK p i l=BK q i l:=by
 intro l
 induction l with
 | nil=>intro i _; rfl
 | cons n ns ih =>
   intro i h
   unfold BK
   rw [h n AD,ih (i+1) (fun m hm=>h m (by simp [hm]))]
theorem Pw {f:List Cnd}{x:Idx}(hx:NmI x.names) (hf:Dk f=true):BK (CH f) 0 x.names=BK (fits f) 0 x.names:=TT _ _ (fun n hn=>by unfold CH; rw [hf,hx.ok n hn]; rfl)
theorem TU {f:List Cnd}{x:Idx}(hf:Dk f=false):BK (CH f) 0 x.names=[]:=Ri _ _ (fun n _=>by unfold CH; rw [hf]; rfl)
theorem TV {s:Sto}{i:Int}(hk:Ad s=true) (h1:1≤i) (h2:i≤s.idx.names.length):Cy s i=rowsOf s i:=J6 hk (by unfold inR; simp [h1,h2])
theorem TW {s:Sto}(h:SD s) (hk:Ad s=true) (i:Int):Blk (rowsOf s i):=by
 have hI:=(StoK.of h hk).Km
 have key:∀ (mem:List Smp) (o:List Row),(∀ m∈mem,BX m.row=true)→Blk o→Blk (mem.foldl (Ci i) o):=by
  intro mem
  induction mem with
  | nil=>intro o _ ho; exact ho
  | cons m ms ih =>
    intro o hm ho
    refine ih _ (fun q hq=>hm q (by simp [hq])) ?_
    unfold Ci
    split
    ·exact ho.put (hm m AD)
    ·exact ho
 have key2:∀ (ps:List Prt) (o:List Row),(∀ p∈ps,PrtI p)→Blk o→Blk (ps.foldl (CE i) o):=by
  intro ps
  induction ps with
  | nil=>intro o _ ho; exact ho
  | cons p ps ih=>intro o hp ho; exact ih _ (fun q hq=>hp q (by simp [hq])) (ho.merge ((hp p AD).of i))
 exact key _ _ (fun m hm=>(hI.mem m hm).2.2) (key2 _ _ hI.part Blk.nil)
theorem YG {s:Sto}(hk:Ad s=true){i:Int}(h1:1≤i) (h2:i≤s.idx.names.length):(rowsOf s i).length≤24:=by
 unfold Ad at hk
 simp only [AW,decide_eq_true_eq,List.all_eq_true,List.mem_range,Ed] at hk
 have:=hk.2 (i.toNat - 1) AB
 rwa [show ((i.toNat - 1:Nat):Int)+1=i by omega] at this
theorem TX {s:Sto}(h:SD s) (hk:Ad s=true){i:Int}(h1:1≤i) (h2:i≤s.idx.names.length):BA (rowsOf s i)=true:=by
 unfold BA
 have a1:CJ none (rowsOf s i)=true:=TW h hk i
 rw [a1,Bool.true_and,decide_eq_true_eq]
 exact YG hk h1 h2
theorem KA {s:Sto}(h:SD s) (hk:Ad s=true){i:Int}(h1:1≤i) (h2:i≤s.idx.names.length) (lo hi:Int):HH (rowsOf s i) lo hi=MU (rowsOf s i) lo hi:=by
 unfold HH; rw [if_pos (TX h hk h1 h2)]
theorem TY {s:Sto}{f:List Cnd}{lo hi:Int}(h:Ad s=true) (h2:Dk f=true):By s f lo hi=Om (fits f) s lo hi:=by unfold By; rw [h,h2]; rfl
theorem TZ {s:Sto}{f:List Cnd}{lo hi:Int}(hd:SD s) (h:Ad s=true):By s f lo hi=Om (CH f) s lo hi:=by
 unfold By Om
 cases h2:Dk f with
 | true=>rw [h,Pw hd.nm h2]; rfl
 | false=>rw [TU h2]; simp
def HB (n:List Tag):Str:=if As n then text n else []
theorem L4 {n:List Tag}(h:As n=true):HB n=text n:=by unfold HB; rw [if_pos h]
end Go.Proofs.YtckdhcbbgmiccaaGreat
namespace Go.Proofs.YtckdhcbbgmiccaaGreat
set_option maxRecDepth 100000
set_option maxHeartbeats 4000000
variable {w:World} {F:Nat→Prop} {a1 a2 a3 a4:Option Addr} {n1 c1 n2 c2 n3 c3 n4 c4:Nat}
theorem CF (s:Sto) (h1:RepS w F a1 n1 c1 s.idx.names) (h2:RepS w F a2 n2 c2 s.idx.AY) (h3:RepS w F a3 n3 c3 s.parts) (h4:RepS w F a4 n4 c4 s.mem) (p0:∀ m∈s.mem,BX m.row=true) (p1:∀ m∈s.mem,1≤m.id∧m.id≤6) (p2:s.mem.length≤1000):Calls Tryz.prog 64 [.agg #[.slice a1 n1 c1,.slice a2 n2 c2,.slice a3 n3 c3,.slice a4 n4 c4]].toArray w (Aj fun rv w'=>VS (ge w.heap.size) w' (Al s.mem:Prt) rv∧Ext w w'):=by
 cases h1.len
 cases h2.len
 cases h3.len
 cases h4.len
 refine goT func64 ?_
 have Z:=((((St.i0 F w).p h1).p h2).p h3).p h4
 refine .s<|.g<|RG.Np Z fun ag w Z=>RG.Np Z fun ah w Z=>.d<|.s<|.g<|RG.N0 Int 0 Z fun ai w Z=>RG.N0 (List Row) 0 Z fun aj w Z=>.r 1<|RG.Np Z fun ac w Z=>RG.Ss 0 Z fun w Z=>.d<|.s<|.s<|.g<|.r 1<|.d<|.b 0<|T.Lp ((1:Nat),([]:List Int),ai,(0:Nat),([]:List (List Row)),aj,(0:Nat)) (fun (id,E,r_out_0,c_out_0,aa,r_out_1,c_out_1)=>([(1,vP ag),(2,vP ah),(3,vP ac),(4,vI (id:Int))],[(0,.box ac 66 [vS r_out_0 E.length c_out_0,vS r_out_1 aa.length c_out_1]),(1,.own 0 r_out_1 55 c_out_1 aa),(2,.own 0 r_out_0 3 c_out_0 E)],[],7 - id,(1≤id)∧(id≤7)∧(E.length≤id)∧(aa.length≤id)∧(E=(BN 0 (Dj s.mem (id - 1))).1)∧(aa=(BN 0 (Dj s.mem (id - 1))).2))) [] Z ⟨AB,AB,(by (simp; done)),(by (simp; done)),AF,AF⟩ ?_
 rintro ⟨id,E,r_out_0,c_out_0,aa,r_out_1,c_out_1⟩ aF w Z ⟨az,aA,aB,aC,aD,aE⟩ ab
 refine .s<|.s<|.g<|.r 1<|.bp ((id:Int)≤6) (fun ae=>.d<|.ct<|.sk<|.s<|.b 1<|.s<|.g<|.r 1<|RG.Lb 4 Z<|.r 2<|RG.CL (Ct (⟨(⟨([]:List (List Tag)),([]:List Pst)⟩:Idx),([]:List Prt),s.mem⟩:Sto) (id:Int) Z.na Z.na Z.na (Z.a 0) AD p0 AD p2) Z fun aG aH w Z=>.r 1<|.d<|.s<|.g<|.r 2<|.bp ((((rowsOf (⟨(⟨([]:List (List Tag)),([]:List Pst)⟩:Idx),([]:List Prt),s.mem⟩:Sto) (id:Int)).length):Int) > 0) (fun af=>.d<|.ct<|.s<|.g<|.r 1<|RG.Lb 0 Z<|.r 1<|RG.Nb 1 Z fun aI w Z=>RG.Ap 2 0 E (id:Int) [] Z fun ak al w Z=>.r 1<|RG.Ss 0 Z fun w Z=>.d<|.g<|.r 1<|RG.Lb 0 Z<|.r 1<|RG.Nb 1 Z fun aJ w Z=>RG.Ap 1 0 aa (rowsOf (⟨(⟨([]:List (List Tag)),([]:List Pst)⟩:Idx),([]:List Prt),s.mem⟩:Sto) (id:Int)) [0] Z fun am ao w Z=>.r 1<|RG.Ss 0 Z fun w Z=>.d<|.ib 1<|.g<|.r 1<|.it ((id:Int)+1)<|.r 1<|.d<|ab (id+1,(E++[(id:Int)]),ak,al,(aa++[rowsOf (⟨(⟨([]:List (List Tag)),([]:List Pst)⟩:Idx),([]:List Prt),s.mem⟩:Sto) (id:Int)]),am,ao) _ _ AA (Z.to 0 [] 1) ⟨AB,AB,(by (simp; omega)),(by (simp; omega)),(by exact VT ‹_› AB ‹_›),(by exact VV ‹_› AB ‹_›)⟩ (by (simp only []; omega))) fun af=>.d<|.cf<|.sk<|.ib 1<|.g<|.r 1<|.it ((id:Int)+1)<|.r 1<|.d<|ab (id+1,E,r_out_0,c_out_0,aa,r_out_1,c_out_1) _ _ AA (Z.to 0 [] 1) ⟨AB,AB,AB,AB,(by exact VU ‹_› AB ‹_›),(by exact VW ‹_› AB ‹_›)⟩ (by (simp only []; omega))) fun ae=>.d<|.cf<|.x 0 rfl<|.s<|.g<|RG.Ln 0 Z<|RG.Ss 3 Z fun w Z=>.d ?_
 have Z:=(Z.sl 2).sl 1
 exact T.Rb 1 func64 results64 Z ⟨Z.rS (⟨E,aa⟩:Prt) [1,0] (by exact YD (k:=id) p1 AB ‹_› ‹_›),Z.xt⟩
theorem CA (s:Sto) (h1:RepS w F a1 n1 c1 s.idx.names) (h2:RepS w F a2 n2 c2 s.idx.AY) (h3:RepS w F a3 n3 c3 s.parts) (h4:RepS w F a4 n4 c4 s.mem) (p0:NmI s.idx.names) (p1:NsD s.idx.names) (p2:Mg s):Calls Tryz.prog 41 [.agg #[.slice a1 n1 c1,.slice a2 n2 c2,.slice a3 n3 c3,.slice a4 n4 c4]].toArray w (Aj fun rv w'=>(∃ (a0:Option Addr) (n0 c0:Nat) (a1:Option Addr) (n1 c1:Nat) (r2 n2 c2:Nat) (r3 n3 c3:Nat),rv=.agg #[.slice a0 n0 c0,.slice a1 n1 c1,.slice (some ⟨r2,0,none⟩) n2 c2,.slice (some ⟨r3,0,none⟩) n3 c3]∧RepS w' (nin (ge w.heap.size) [r2,r3]) a0 n0 c0 ((((AZ s)).idx).names)∧RepS w' (nin (ge w.heap.size) [r2,r3]) a1 n1 c1 ((((AZ s)).idx).AY)∧Own w' r2 66 (nin (ge w.heap.size) [r2,r3]) n2 c2 (((AZ s)).parts)∧w.heap.size≤r2∧Own w' r3 107 (nin (ge w.heap.size) [r2,r3]) n3 c3 (((AZ s)).mem)∧w.heap.size≤r3∧Nb r3 r2)∧Ext w w'):=by
 cases h1.len
 cases h2.len
 cases h3.len
 cases h4.len
 refine goT func41 ?_
 have Z:=((((St.i0 F w).p h1).p h2).p h3).p h4
 have aF:=h3.max
 have aG:=h4.max
 refine .s<|.g<|RG.Np Z fun ae w Z=>RG.Np Z fun af w Z=>.d<|.s<|T.GS 10 [af,ae] Z fun _ w Z=>.r [0,1]<|GA.Lb (q:=1) 2 1 Z<|.r [4]<|GA.Lb (q:=1) 5 1 Z<|.r [8]<|GA.Lb (q:=1) 9 1 Z<|.tw 3 7 ?_ ?_
 ·refine GE.CS (fun w Z=>CK s.idx.names (Z.a 3) p0 p1) Z fun E aa ab ac w Z=>.tw 6 7 ?_ ?_
  ·exact GE.CO 0 (fun w Z=>CX s.parts (Z.a 3) (by have:=p2.2.1; omega) p2.2.2.1) Z fun ag ah w Z=>.go 7<|GE.N0 Smp 0 Z fun aH w Z=>GA.Do Z fun w Z=>RG.An (hs:=by (simp only [List.nil_append,List.length_nil,List.length_append,List.length_cons] <;> exact (by have:=p2.2.2.2; omega))) (hf:=.inr E0) 0 2 ([]:List Smp) s.mem Z fun ai aj w Z=>.r 1<|RG.Ss 2 Z fun w Z=>.d<|T.Rb 2 func41 results41 Z ⟨⟨E,((idxOf s.idx.names).names.length),aa,ab,((idxOf s.idx.names).AY.length),ac,ag,s.parts.length,ah,ai,(([]++s.mem).length),aj,AA,Z.qr [1,0] 0 ((idxOf s.idx.names).names) AF,Z.qr [1,0] 1 ((idxOf s.idx.names).AY) AF,Z.qo [1,0] 1 s.parts AF,Z.qb 1,Z.qo [1,0] 0 ([]++s.mem) AF,Z.qb 0,Z.qn 0 1⟩,Z.xt⟩
  exact GE.N0 Smp 0 Z fun aI w Z=>.go 6<|GE.CO 0 (fun w Z=>CX s.parts (Z.a 3) (by have:=p2.2.1; omega) p2.2.2.1) Z fun ak al w Z=>GA.Do Z fun w Z=>RG.An (hs:=by (simp only [List.nil_append,List.length_nil,List.length_append,List.length_cons] <;> exact (by have:=p2.2.2.2; omega))) (hf:=.inr E0) 1 2 ([]:List Smp) s.mem Z fun am ao w Z=>.r 1<|RG.Ss 2 Z fun w Z=>.d<|T.Rb 2 func41 results41 Z ⟨⟨E,((idxOf s.idx.names).names.length),aa,ab,((idxOf s.idx.names).AY.length),ac,ak,s.parts.length,al,am,(([]++s.mem).length),ao,AA,Z.qr [0,1] 0 ((idxOf s.idx.names).names) AF,Z.qr [0,1] 1 ((idxOf s.idx.names).AY) AF,Z.qo [0,1] 0 s.parts AF,Z.qb 0,Z.qo [0,1] 1 ([]++s.mem) AF,Z.qb 1,Z.qn 1 0⟩,Z.xt⟩
 exact GE.N0 Smp 0 Z fun aJ w Z=>.go 3<|GE.CS (fun w Z=>CK s.idx.names (Z.a 3) p0 p1) Z fun aq ar ax ay w Z=>.go 6<|GE.CO 0 (fun w Z=>CX s.parts (Z.a 3) (by have:=p2.2.1; omega) p2.2.2.1) Z fun az aA w Z=>GA.Do Z fun w Z=>RG.An (hs:=by (simp only [List.nil_append,List.length_nil,List.length_append,List.length_cons] <;> exact (by have:=p2.2.2.2; omega))) (hf:=.inr E0) 1 2 ([]:List Smp) s.mem Z fun aB aC w Z=>.r 1<|RG.Ss 2 Z fun w Z=>.d<|T.Rb 2 func41 results41 Z ⟨⟨aq,((idxOf s.idx.names).names.length),ar,ax,((idxOf s.idx.names).AY.length),ay,az,s.parts.length,aA,aB,(([]++s.mem).length),aC,AA,Z.qr [0,1] 0 ((idxOf s.idx.names).names) AF,Z.qr [0,1] 1 ((idxOf s.idx.names).AY) AF,Z.qo [0,1] 0 s.parts AF,Z.qb 0,Z.qo [0,1] 1 ([]++s.mem) AF,Z.qb 1,Z.qn 1 0⟩,Z.xt⟩
theorem F1 (s:Sto) (h1:RepS w F a1 n1 c1 s.idx.names) (h2:RepS w F a2 n2 c2 s.idx.AY) (h3:RepS w F a3 n3 c3 s.parts) (h4:RepS w F a4 n4 c4 s.mem) (p0:SD s):Calls Tryz.prog 28 [.agg #[.slice a1 n1 c1,.slice a2 n2 c2,.slice a3 n3 c3,.slice a4 n4 c4]].toArray w (Aj fun rv w'=>(∃ v0,rv=.tuple #[v0,.bool ((Bg s).2)]∧VS (fo F w.heap.size) w' ((Bg s).1:Sto) v0)∧Ext w w'):=by
 cases h1.len
 cases h2.len
 cases h3.len
 cases h4.len
 refine goT func28 ?_
 have Z:=((((St.i0 F w).p h1).p h2).p h3).p h4
 have aE:=h3.max
 have aF:=h4.max
 refine .s<|.g<|RG.Np Z fun ak w Z=>RG.Np Z fun al w Z=>.r 1<|.d<|.s<|.s<|.g<|RG.Ln 1 Z<|RG.C0 (DW s (Z.a 3) (Z.a 2) (Z.a 1) (Z.a 0) p0) Z fun w Z=>?_
 cases aG:(Ad s)
 ·refine .r 1<|.d<|.ct<|.s<|.g<|.r 1<|RG.Ss 0 Z fun w Z=>.r 1<|.d ?_
  have Z:=(((Z.nl (List Tag)).nl Pst).nl Prt).nl Smp
  exact T.r2 func28 results28 (.B 0 Z) (.t (.bool false)) ⟨⟨_,(Bv rfl (AG (by rw [J9 ‹_›]))),Z.rS (g:=1) (⟨(⟨([]:List (List Tag)),([]:List Pst)⟩:Idx),([]:List Prt),([]:List Smp)⟩:Sto) [3,2,1,0] (by rw [J9 ‹_›])⟩,Z.xt⟩
 refine .r 1<|.d<|.cf<|.sk<|.s<|.g<|RG.Ln 1 Z<|RG.cl (CA s (Z.a 3) (Z.a 2) (Z.a 1) (Z.a 0) p0.nm p0.nd p0.sz) ?_
 rintro _ w ⟨⟨am,aH,ao,aq,aI,ar,ax,aJ,ay,az,aK,aA,rfl,ab,ac,E,ae,aa,af,ag⟩,ah⟩
 cases ab.len
 cases ac.len
 cases E.len
 cases aa.len
 have Z:=Z.so ah [.own 0 ax 66 ay (((AZ s)).parts),.own 0 az 107 aA (((AZ s)).mem)] [.rep am ao ((((AZ s)).idx).names),.rep aq ar ((((AZ s)).idx).AY)] (nd2 ag) (oN E ae (oN aa af o0)) (fc ab (fc ac fn_))
 refine RG.Np Z fun aB w Z=>RG.Ss 0 Z fun w Z=>.d<|.s<|.s<|.g<|.r 1<|RG.Lb 4 Z<|.r 1<|.eq (s.mem.length:Int) 0 (fun ai=>?_) (fun ai=>?_)
 ·refine .r 6<|.d<|.ct<|.s<|.g<|RG.Ln 0 Z<|RG.Ss 3 Z fun w Z=>.r 1<|.d ?_
  have Z:=(Z.sl 1).sl 1
  exact T.r2 func28 results28 (.B 1 Z) (.t (.bool false)) ⟨⟨_,(Bv rfl (AG (by rw [Hk p0 ‹_› (.inl ‹_›)]))),Z.rS (g:=1) (⟨(⟨(((AZ s)).idx).names,(((AZ s)).idx).AY⟩:Idx),((AZ s)).parts,((AZ s)).mem⟩:Sto) [2,3,1,0] (by rw [Hk p0 ‹_› (.inl ‹_›)])⟩,Z.xt⟩
 refine .r 2<|RG.Lb 4 Z<|.r 1<|.eq (s.parts.length:Int) 6 (fun aj=>?_) (fun aj=>?_)
 ·refine .r 1<|.d<|.ct<|.s<|.g<|RG.Ln 0 Z<|RG.Ss 3 Z fun w Z=>.r 1<|.d ?_
  have Z:=(Z.sl 1).sl 1
  exact T.r2 func28 results28 (.B 1 Z) (.t (.bool false)) ⟨⟨_,(Bv rfl (AG (by rw [Hk p0 ‹_› (.inr ‹_›)]))),Z.rS (g:=1) (⟨(⟨(((AZ s)).idx).names,(((AZ s)).idx).AY⟩:Idx),((AZ s)).parts,((AZ s)).mem⟩:Sto) [2,3,1,0] (by rw [Hk p0 ‹_› (.inr ‹_›)])⟩,Z.xt⟩
 refine .r 1<|.d<|.cf<|.sk<|.s<|T.GS 5 [aB,al,ak] Z fun _ w Z=>.r [0]<|GA.Lb 1 0 Z<|GA.Ln (q:=2) 2 4 Z<|.go 3<|GE.CS (fun w Z=>CF s (Z.a 5) (Z.a 4) (Z.a 3) (Z.a 2) (StoK.of p0 ‹_›).row (StoK.of p0 ‹_›).Km.Jn (by have:=p0.nm2; omega)) Z fun aL aM aN aO w Z=>.go 4<|GE.Nb 1 Z fun aP w Z=>GA.Do Z fun w Z=>RG.Ap (hs:=by exact (by have q1:=p0.np; have q2:(AZ s).parts.length=s.parts.length:=rfl; omega)) 1 0 (((AZ s)).parts) (Al s.mem) [0,1] Z fun aS aT w Z=>.r 1<|RG.Ss 0 Z fun w Z=>.d<|.s<|.g<|RG.N0 Smp 1 Z fun aU w Z=>.r 1<|RG.Ss 1 Z fun w Z=>.d<|.s<|.g<|RG.Ln 1 Z<|RG.Ss 4 Z fun w Z=>.r 1<|.d ?_
 have Z:=(Z.sl 2).sl 0
 exact T.r2 func28 results28 (.B 2 Z) (.t (.bool true)) ⟨⟨_,(Bv rfl (AG (by rw [Hl p0 ‹_› ‹_› ‹_›]))),Z.rS (g:=1) (⟨(⟨(((AZ s)).idx).names,(((AZ s)).idx).AY⟩:Idx),(((AZ s)).parts++[(Al s.mem)]),([]:List Smp)⟩:Sto) [4,5,1,0] (by rw [Hl p0 ‹_› ‹_› ‹_›])⟩,Z.xt⟩
end Go.Proofs.YtckdhcbbgmiccaaGreat
