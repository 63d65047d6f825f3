/- What asking computes, as plain functions, and its laws. -/
import Derived.Test.YtcginoabkicdiaaGreatPzzW51
import Derived.Shelf.Lays
import Derived.Shelf.Strings.OnBuilder
open Go.Proofs.Tryz
set_option linter.unusedVariables false
set_option linter.unusedSimpArgs false
namespace Go.Proofs.YtcginoabkicdiaaGreat
section
variable {P:Program} {f:FuncId} {fn:Func} {R:Value→World→Prop} {c:Code} {e:Env} {w:World}
theorem XI (f:ResultVar→Sem Value) (r r' r2 r3:ResultVar):(#[r,r',r2,r3]).mapM f=(do let v ← f r; let v' ← f r'; let v2 ← f r2; let v3 ← f r3; pure #[v,v',v2,v3]):=by
 simp
theorem NG {a:Act}{r r' r'' r''':ResultVar}{v v' v'' v''':Value}(hs:Sees fn.ntmps a e) (hr:fn.results = #[r,r',r'',r''']) (h:CG P w e r v) (h':CG P w e r' v') (h'':CG P w e r'' v'') (h3:CG P w e r''' v''') :
 (results fn a.tmps).run P w=.ok (.tuple #[v,v',v'',v''']) w:=by
 rw [Fs,hr,XI]
 refine AX (a:=#[v,v',v'',v''']) ?_
 rw [AX (h.run hs),AX (h'.run hs),AX (h''.run hs),AX (h3.run hs)]
 rfl
theorem T.Xz {k}{r r' r'' r''':ResultVar}{v v' v'' v''':Value}(h:E7 c=true) (hf:P.funcs[f]? = some fn) (hres:fn.results = #[r,r',r'',r''']) (h1:CG P w e r v) (h2:CG P w e r' v') (h3:CG P w e r'' v'') (h4:CG P w e r''' v''')
 (hR:R (.tuple #[v,v',v'',v''']) w):T P f fn R (.code c::k) e w :=
 T.NU h (fun _ hs=>NG hs hres h1 h2 h3 h4) hf hR
theorem T.r4 {k}{r r' r'' r''':ResultVar}{v v' v'' v''':Value}(hf:P.funcs[f]? = some fn) (hres:fn.results = #[r,r',r'',r''']) (h1:CG P w e r v) (h2:CG P w e r' v') (h3:CG P w e r'' v'') (h4:CG P w e r''' v''') (hR:R (.tuple #[v,v',v'',v''']) w) (h:E7 c=true:=by kernel_rfl):T P f fn R (.code c::k) e w :=
 T.Xz h hf hres h1 h2 h3 h4 hR
end
def Qw (b:List Row) (lo hi:Int):List Row:=b.filter (fun r=>inR r.t lo hi)
def NH (b:List Row) (lo hi:Int):List Row:=if Bf b then Qw b lo hi else []
def fits (f:List Cnd) (n:List Tag):Bool:=f.all (fun c=>has n c.tag != c.no)
def PO (f:List Cnd):Bool:=f.all (fun c=>CI c.tag)&&decide (f.length≤3)
def Fc (f:List Cnd) (n:List Tag):Bool:=PO f&&At n&&fits f n
def Dq (p:List Tag→Bool):Nat→List (List Tag)→List Int
 | _,[]=>[]
 | i,n::ns=>(if p n then [(i:Int)+1] else [])++Dq p (i+1) ns
def NI (s:Sto) (lo hi:Int) (id:Int):List Hit:=if (Qw (rowsOf s id) lo hi).length > 0 then [⟨text (s.idx.names.getD (id - 1).toNat []),Qw (rowsOf s id) lo hi⟩] else []
def XJ (p:List Tag→Bool) (s:Sto) (lo hi:Int):List Hit:=(Dq p 0 s.idx.names).flatMap (NI s lo hi)
def LY (s:Sto) (f:List Cnd) (lo hi:Int):List Hit:=if Ae s&&PO f then XJ (fits f) s lo hi else []
theorem Qx {p:List Tag→Bool}:∀ (l:List (List Tag)) (i:Nat) (x:Int),x∈Dq p i l→(i:Int)+1≤x∧x≤(i:Int)+l.length:=by
 intro l
 induction l with
 | nil=>intro i x h; simp [Dq] at h
 | cons n ns ih =>
   intro i x h
   unfold Dq at h
   rcases List.mem_append.1 h with h | h
   ·split at h
    ·simp at h; subst h; simp only [List.length_cons]; omega
    ·cases h
   ·have:=ih (i+1) x h
    simp only [List.length_cons]; omega
theorem Ky {p:List Tag→Bool}{l:List (List Tag)}{x:Int}(h:x∈Dq p 0 l):1≤x∧x≤l.length:=by have:=Qx l 0 x h; omega
theorem SS {s:Sto}{i:Int}(hk:Ae s=true) (h1:1≤i) (h2:i≤s.idx.names.length):Ha s i=rowsOf s i:=Qo hk (by unfold inR; simp [h1,h2])
theorem V4 {s:Sto}(h:SD s) (hk:Ae s=true) (i:Int):Blk (rowsOf s i):=by
 have hI:=(StoK.of h hk).IN
 have key:∀ (mem:List Smp) (o:List Row),(∀ m∈mem,BU m.row=true)→Blk o→Blk (mem.foldl (CJ i) o):=by
  intro mem
  induction mem with
  | nil=>intro o _ ho; exact ho
  | cons m ms ih =>
    intro o hm ho
    refine ih _ (fun q hq=>hm q (by simp [hq])) ?_
    unfold CJ
    split
    ·exact ho.put (hm m AD)
    ·exact ho
 have key2:∀ (ps:List Prt) (o:List Row),(∀ p∈ps,PrtI p)→Blk o→Blk (ps.foldl (Bx i) o):=by
  intro ps
  induction ps with
  | nil=>intro o _ ho; exact ho
  | cons p ps ih=>intro o hp ho; exact ih _ (fun q hq=>hp q (by simp [hq])) (ho.merge ((hp p AD).of i))
 exact key _ _ (fun m hm=>(hI.mem m hm).2.2) (key2 _ _ hI.part Blk.nil)
theorem XK {s:Sto}(hk:Ae s=true){i:Int}(h1:1≤i) (h2:i≤s.idx.names.length):(rowsOf s i).length≤24:=by
 unfold Ae at hk
 simp only [AW,decide_eq_true_eq,List.all_eq_true,List.mem_range,Ee] at hk
 have:=hk.2 (i.toNat - 1) AB
 rwa [show ((i.toNat - 1:Nat):Int)+1=i by omega] at this
theorem SU {s:Sto}(h:SD s) (hk:Ae s=true){i:Int}(h1:1≤i) (h2:i≤s.idx.names.length):Bf (rowsOf s i)=true:=by
 unfold Bf
 have a1:CP none (rowsOf s i)=true:=V4 h hk i
 rw [a1,Bool.true_and,decide_eq_true_eq]
 exact XK hk h1 h2
theorem Qy {s:Sto}(h:SD s) (hk:Ae s=true){i:Int}(h1:1≤i) (h2:i≤s.idx.names.length) (lo hi:Int):NH (rowsOf s i) lo hi=Qw (rowsOf s i) lo hi:=by
 unfold NH; rw [if_pos (SU h hk h1 h2)]
def MJ (n:List Tag):Str:=if At n then text n else []
theorem SV {n:List Tag}(h:At n=true):MJ n=text n:=by unfold MJ; rw [if_pos h]
end Go.Proofs.YtcginoabkicdiaaGreat
namespace Go.Proofs.YtcginoabkicdiaaGreat
theorem Jf {b:List Row}(h:Bf b=true):Blk b:=by
 unfold Bf at h
 simp only [AW] at h
 exact h.1
def Bs (a b:List Row):List Row × Bool:=if Bf a=true∧Bf b=true∧¬ ((Bb a b).length:Int) > 24 then (Bb a b,true) else ([],false)
theorem KJ {a b:List Row}(h:Bf a=false∨Bf b=false):Bs a b=([],false):=by
 unfold Bs
 rw [if_neg]
 rintro ⟨h1,h2,_⟩
 rcases h with h | h
 ·rw [h] at h1; cases h1
 ·rw [h] at h2; cases h2
theorem QD {a b out:List Row}(e:out=Bb a b) (_ha:Bf a=true) (_hb:Bf b=true) (h:(out.length:Int) > 24):[]=(Bs a b).1∧false=(Bs a b).2:=by
 subst e
 unfold Bs
 rw [if_neg (fun q=>q.2.2 h)]
 exact ⟨rfl,rfl⟩
theorem QE {a b out:List Row}(e:out=Bb a b) (ha:Bf a=true) (hb:Bf b=true) (h:¬ (out.length:Int) > 24):out=(Bs a b).1∧true=(Bs a b).2:=by
 subst e
 unfold Bs
 rw [if_pos ⟨ha,hb,h⟩]
 exact ⟨rfl,rfl⟩
theorem SW {a b:List Row}(h:(Bs a b).2=true):(Bs a b).1=Bb a b:=by
 unfold Bs at h ⊢
 split at h
 ·rename_i h1; rw [if_pos h1]
 ·cases h
def okM (a b:Prt) (n:Nat):Bool:=(List.range n).all (fun i=>(Bs (Az a ((i:Int)+1)) (Az b ((i:Int)+1))).2)
theorem SY (a b:Prt) (n:Nat):okM a b (n+1)=(okM a b n&&(Bs (Az a ((n:Int)+1)) (Az b ((n:Int)+1))).2):=by simp [okM,List.range_succ]
def BS (a b:Prt):Prt × Bool:=if Am a=true∧Am b=true∧okM a b 6=true then (BA a b,true) else (⟨[],[]⟩,false)
theorem KK {a b:Prt}(h:Am a=false∨Am b=false):BS a b=(⟨[],[]⟩,false):=by
 unfold BS
 rw [if_neg]
 rintro ⟨h1,h2,_⟩
 rcases h with h | h
 ·rw [h] at h1; cases h1
 ·rw [h] at h2; cases h2
theorem QF {a b:Prt}{k:Nat}(h1:1≤k) (h2:k≤6) (h:(Bs (Az a (k:Int)) (Az b (k:Int))).2=false):BS a b=(⟨[],[]⟩,false):=by
 unfold BS
 rw [if_neg]
 rintro ⟨_,_,h3⟩
 unfold okM at h3
 rw [List.all_eq_true] at h3
 have:=h3 (k - 1) (by simp; omega)
 rw [show ((k - 1:Nat):Int)+1=(k:Int) by omega,h] at this
 cases this
theorem OI {a b:Prt}{k:Nat}(h:okM a b (k - 1)=true) (h1:1≤k) (h2:(Bs (Az a (k:Int)) (Az b (k:Int))).2=true):okM a b (k+1 - 1)=true:=by
 rw [show k+1 - 1=(k - 1)+1 by omega,SY,h,show ((k - 1:Nat):Int)+1=(k:Int) by omega,h2]
 rfl
theorem QG {a b:Prt}(ha:Am a=true) (hb:Am b=true){k:Nat}(hk:1≤k) (h:(Bs (Az a (k:Int)) (Az b (k:Int))).2=true):BT a b (k+1 - 1)=BT a b (k - 1)++[(Bs (Az a (k:Int)) (Az b (k:Int))).1]:=by
 have ea:Az a (k:Int)=partOf a (k:Int):=by unfold Az; rw [if_pos ha]
 have eb:Az b (k:Int)=partOf b (k:Int):=by unfold Az; rw [if_pos hb]
 rw [show k+1 - 1=(k - 1)+1 by omega,H8,show ((k - 1:Nat):Int)+1=(k:Int) by omega,SW h,ea,eb]
section
variable {a b:Prt} {k:Nat}
theorem UL {o:List Int}(ha:Am a=true) (hb:Am b=true) (hk:1≤k) (h:(Bs (Az a (k:Int)) (Az b (k:Int))).2=true) (e:o=(BM 0 (BT a b (k - 1))).1) (hl:((Bs (Az a (k:Int)) (Az b (k:Int))).1.length:Int) > 0):o++[(k:Int)]=(BM 0 (BT a b (k+1 - 1))).1:=by
 rw [QG ha hb hk h,DC,if_pos AB,e,Dk,show ((0:Nat):Int)+((k - 1:Nat):Int)+1=(k:Int) by omega]
theorem UM {o:List Int}(ha:Am a=true) (hb:Am b=true) (hk:1≤k) (h:(Bs (Az a (k:Int)) (Az b (k:Int))).2=true) (e:o=(BM 0 (BT a b (k - 1))).1) (hl:¬ ((Bs (Az a (k:Int)) (Az b (k:Int))).1.length:Int) > 0):o=(BM 0 (BT a b (k+1 - 1))).1:=by
 rw [QG ha hb hk h,DC,if_neg AB,e]
theorem UN {o:List (List Row)}(ha:Am a=true) (hb:Am b=true) (hk:1≤k) (h:(Bs (Az a (k:Int)) (Az b (k:Int))).2=true) (e:o=(BM 0 (BT a b (k - 1))).2) (hl:((Bs (Az a (k:Int)) (Az b (k:Int))).1.length:Int) > 0):o++[(Bs (Az a (k:Int)) (Az b (k:Int))).1]=(BM 0 (BT a b (k+1 - 1))).2:=by
 rw [QG ha hb hk h,DC,if_pos AB,e]
theorem UO {o:List (List Row)}(ha:Am a=true) (hb:Am b=true) (hk:1≤k) (h:(Bs (Az a (k:Int)) (Az b (k:Int))).2=true) (e:o=(BM 0 (BT a b (k - 1))).2) (hl:¬ ((Bs (Az a (k:Int)) (Az b (k:Int))).1.length:Int) > 0):o=(BM 0 (BT a b (k+1 - 1))).2:=by
 rw [QG ha hb hk h,DC,if_neg AB,e]
theorem QH {x:List Int}{y:List (List Row)}(hk:k=7) (ha:Am a=true) (hb:Am b=true) (e1:x=(BM 0 (BT a b (k - 1))).1) (e2:y=(BM 0 (BT a b (k - 1))).2) (h:okM a b (k - 1)=true):(⟨x,y⟩:Prt)=(BS a b).1∧true=(BS a b).2:=by
 subst hk e1 e2
 unfold BS
 rw [if_pos ⟨ha,hb,h⟩]
 exact ⟨rfl,rfl⟩
end
theorem MK {p:Prt}(h:CK p) (id:Int):(Az p id).length≤1000:=by
 unfold Az
 split
 ·exact C7 h id
 ·simp
def Bw (s:Sto) (at_:Int):Sto × Bool:=if Ae s then BG (Ad s) at_ else (⟨⟨[],[]⟩,[],[]⟩,false)
theorem JG {s:Sto}{i:Int}(h:Ae s=false):Bw s i=(⟨⟨[],[]⟩,[],[]⟩,false):=by unfold Bw; rw [if_neg (by simp [h])]
theorem F8 {s:Sto}{i:Int}(h:Ae s=true):Bw s i=BG (Ad s) i:=by unfold Bw; rw [if_pos h]
end Go.Proofs.YtcginoabkicdiaaGreat
namespace Go.Proofs.YtcginoabkicdiaaGreat
set_option maxRecDepth 100000
set_option maxHeartbeats 4000000
variable {w:World} {F:Nat→Prop} {a1 a2 a3 a4:Option Addr} {n1 c1 n2 c2 n3 c3 n4 c4:Nat}
theorem IV (a:List Row) (b:List Row) (h1:RepS w F a1 n1 c1 a) (h2:RepS w F a2 n2 c2 b) (p0:a.length≤1000) (p1:b.length≤1000):Calls Tryz.prog 183 [.slice a1 n1 c1,.slice a2 n2 c2].toArray w (Ag fun rv w'=>(∃ v0,rv=.tuple #[v0,.bool ((Bs a b).2)]∧VA w.heap.size w' ((Bs a b).1:List Row) v0)∧Ext w w'):=by
 cases h1.len
 cases h2.len
 refine goT func183 ?_
 have Z:=((St.i0 F w).p h1).p h2
 have Z:=Z.s0 0
 refine .s<|.g<|.r 2<|.d<|.s<|.s<|.g<|.r 1<|RG.C0 (D1 a (Z.a 2)) Z fun w Z=>?_
 cases ay:(Bf a)
 ·refine .r 6<|.d<|.ct<|.s<|.g<|RG.N0 Row 0 Z fun aj w Z=>.r 2<|.d ?_
  have Z:=Z.fL 0 0 0 ([]:List Row)
  exact T.r2 func183 results183 (.T _) (.t (.bool false)) ⟨⟨_,(Ch rfl (AG (by exact (congrArg Prod.snd (KJ (.inl ‹_›))).symm))),Z.rA 1 [0] ([]:List Row) (some ⟨aj,0,none⟩) 0 (by exact (congrArg Prod.fst (KJ (.inl ‹_›))).symm)⟩,Z.xt⟩
 refine .r 3<|RG.C0 (D1 b (Z.a 1)) Z fun w Z=>?_
 cases az:(Bf b)
 ·refine .r 2<|.d<|.ct<|.s<|.g<|RG.N0 Row 0 Z fun ak w Z=>.r 2<|.d ?_
  have Z:=Z.fL 0 0 0 ([]:List Row)
  exact T.r2 func183 results183 (.T _) (.t (.bool false)) ⟨⟨_,(Ch rfl (AG (by exact (congrArg Prod.snd (KJ (.inr ‹_›))).symm))),Z.rA 1 [0] ([]:List Row) (some ⟨ak,0,none⟩) 0 (by exact (congrArg Prod.fst (KJ (.inr ‹_›))).symm)⟩,Z.xt⟩
 refine .r 2<|.d<|.cf<|.sk<|.s<|.g<|RG.N0 Row 0 Z fun aE w Z=>.r 1<|RG.An (hf:=.inr Bl) 0 2 ([]:List Row) a Z fun am ao w Z=>.r 1<|.d<|.s<|.s<|.g<|.r 3<|.d<|.b 0 ?_
 have Z:=Z.fL 0 0 0 ([]++a)
 refine T.Lp ((([]++a):List Row),sA am,ao,(0:Nat)) (fun (out,a_out,c_out,k)=>([(6,.slice a_out out.length c_out),(21,.slice a2 b.length c2),(22,vI (b.length:Int)),(23,vI (k:Int))],[],[⟨0,none,.sep [.s a_out c_out out]⟩,⟨0,none,.rep a_out c_out out⟩],b.length - k,(k≤b.length)∧(Blk out)∧((b.drop k).foldl EG out=Bb a b))) [1,0] Z ⟨AB,(by exact Jf ‹_›),AF⟩ ?_
 rintro ⟨out,a_out,c_out,k⟩ aF w Z ⟨aA,aB,aC⟩ ab
 refine .s<|.g<|.bp ((k:Int)< (b.length:Int)) (fun ae=>?_) (fun ae=>?_)
 ·refine .d<|.s<|.ct<|.sk<|.s<|.b 1<|.s<|.g<|gx b k fun ac aa=>?_
  have aD:=AZ aa; have ai:=AV aa
  refine RG.Ix 5 aa Z<|Z.el 5 aa fun Z=>RG.Lg 0 0 Z<|RG.Np Z fun aG w Z=>RG.Ss 0 Z fun w Z=>.d<|.g<|.r 1<|RG.Ln 0 Z<|RG.DA 1 0 (Hs out ac (Z.a 2) (by have:=Blk.len (by assumption:Blk out); omega)) Z fun af ag w Z=>.r 1<|.d<|.ib 1<|.g<|.it ((k:Int)+1)<|.r 1<|.d ?_
  have Z:=Z.sM 0 0 [0] [.s af ag (Cr ac out)]
  exact ab (Cr ac out,af,ag,k+1) _ _ AA (Z.to 1 [0,2] 6) ⟨AB,(by exact Blk.ins ‹_› ((Jf (by assumption:Bf b=true)).rows _ ‹_›)),(by rw [← FU ‹_›]; exact D5 ‹_› ‹_›)⟩ (by (simp only []; omega))
 refine .d<|.s<|.cf<|.x 0 rfl<|.s<|.s<|.g<|.r 2<|.bp ((out.length:Int) > 24) (fun ah=>?_) (fun ah=>.d<|.cf<|.sk<|.s<|.g<|.r 3<|.d<|T.r2 func183 results183 (.T _) (.t (.bool true)) ⟨⟨_,(Ch rfl (AG (by exact (QE (out:=out) (En ‹_› AB) ‹_› ‹_› AB).2))),Z.rA 0 [0] out a_out c_out (by exact (QE (out:=out) (En ‹_› AB) ‹_› ‹_› AB).1)⟩,Z.xt⟩)
 refine .d<|.ct<|.s<|.g<|RG.N0 Row 0 Z fun aq w Z=>.r 2<|.d ?_
 have Z:=Z.fL 0 0 0 ([]:List Row)
 exact T.r2 func183 results183 (.T _) (.t (.bool false)) ⟨⟨_,(Ch rfl (AG (by exact (QD (out:=out) (En ‹_› AB) ‹_› ‹_› AB).2))),Z.rA 1 [0] ([]:List Row) (some ⟨aq,0,none⟩) 0 (by exact (QD (out:=out) (En ‹_› AB) ‹_› ‹_› AB).1)⟩,Z.xt⟩
theorem Fe (a:Prt) (b:Prt) (h1:RepS w F a1 n1 c1 a.ids) (h2:RepS w F a2 n2 c2 a.blocks) (h3:RepS w F a3 n3 c3 b.ids) (h4:RepS w F a4 n4 c4 b.blocks) (p0:CK a) (p1:CK b):Calls Tryz.prog 130 [.agg #[.slice a1 n1 c1,.slice a2 n2 c2],.agg #[.slice a3 n3 c3,.slice a4 n4 c4]].toArray w (Ag fun rv w'=>(∃ v0,rv=.tuple #[v0,.bool ((BS a b).2)]∧VD w.heap.size w' ((BS a b).1:Prt) v0)∧Ext w w'):=by
 cases h1.len
 cases h2.len
 cases h3.len
 cases h4.len
 refine goT func130 ?_
 have Z:=((((St.i0 F w).p h1).p h2).p h3).p h4
 have Z:=Z.s0 0
 refine .s<|.g<|RG.Np Z fun aj w Z=>RG.Np Z fun ak w Z=>RG.Np Z fun am w Z=>.r 1<|.d<|.s<|.s<|.g<|RG.Ln 2 Z<|RG.C0 (Cu a (Z.a 4) (Z.a 3)) Z fun w Z=>?_
 cases aE:(Am a)
 ·refine .r 6<|.d<|.ct<|.s<|.g<|.r 1<|RG.Ss 0 Z fun w Z=>.r 1<|.d ?_
  have Z:=(Z.sZ Int 0 0).sZ (List Row) 1 0
  exact T.r2 func130 results130 (.B 0 Z) (.t (.bool false)) ⟨⟨_,(Ch rfl (AG (by exact (congrArg Prod.snd (KK (.inl ‹_›))).symm))),Z.rD 1 [0,1] (⟨([]:List Int),([]:List (List Row))⟩:Prt) [(none,0),(none,0)] (by exact (congrArg Prod.fst (KK (.inl ‹_›))).symm)⟩,Z.xt⟩
 refine .r 2<|RG.Ln 1 Z<|RG.C0 (Cu b (Z.a 2) (Z.a 1)) Z fun w Z=>?_
 cases aF:(Am b)
 ·refine .r 2<|.d<|.ct<|.s<|.g<|.r 1<|RG.Ss 0 Z fun w Z=>.r 1<|.d ?_
  have Z:=(Z.sZ Int 0 0).sZ (List Row) 1 0
  exact T.r2 func130 results130 (.B 0 Z) (.t (.bool false)) ⟨⟨_,(Ch rfl (AG (by exact (congrArg Prod.snd (KK (.inr ‹_›))).symm))),Z.rD 1 [0,1] (⟨([]:List Int),([]:List (List Row))⟩:Prt) [(none,0),(none,0)] (by exact (congrArg Prod.fst (KK (.inr ‹_›))).symm)⟩,Z.xt⟩
 refine .r 2<|.d<|.cf<|.sk<|.s<|.g<|RG.N0 Int 0 Z fun ao w Z=>RG.N0 (Hd 0) 0 Z fun aq w Z=>?_
 have Z:=Z.o2r 0 0 (List Row) 0
 refine .r 1<|RG.Np Z fun ag w Z=>RG.Ss 0 Z fun w Z=>.d<|.s<|.s<|.g<|.r 1<|.d<|.b 0<|T.Lp ((1:Nat),([]:List Int),ao,(0:Nat),([]:List (List Row)),aq,(0:Nat),([]:List (Hd 0))) (fun (j,ab,r_out_0,c_out_0,aa,r_out_1,c_out_1,hs)=>([(2,vP aj),(3,vP ak),(4,vP am),(6,vP ag),(7,vI (j:Int))],[(0,.box ag 146 [vS r_out_0 ab.length c_out_0,vS r_out_1 aa.length c_out_1]),(1,.raw 0 r_out_1 159 c_out_1 aa hs),(2,.own 0 r_out_0 3 c_out_0 ab)],[⟨0,none,.sep [.e aa hs]⟩],7 - j,(1≤j)∧(j≤7)∧(ab.length≤j)∧(aa.length≤j)∧(ab=(BM 0 (BT a b (j - 1))).1)∧(aa=(BM 0 (BT a b (j - 1))).2)∧(okM a b (j - 1)=true))) [0] Z ⟨AB,AB,(by (simp; done)),(by (simp; done)),AF,AF,AF⟩ ?_
 rintro ⟨j,ab,r_out_0,c_out_0,aa,r_out_1,c_out_1,hs⟩ aU w Z ⟨aG,aH,aI,aJ,aK,aL,aM⟩ ac
 have aN:=Z.mo 2 ab
 have aO:=Z.mr 1 aa hs
 refine .s<|.s<|.g<|.r 1<|.bp ((j:Int)≤6) (fun ah=>?_) (fun ah=>?_)
 ·refine .d<|.ct<|.sk<|.s<|.b 1<|.s<|T.Gd 11 Z fun w Z=>GA.Ln 0 5 Z<|.r [1]<|GA.Ln 3 4 Z<|.r [4]<|.go 2<|GE.CL (fun w Z=>FH a (j:Int) (Z.a 6) (Z.a 5) (by exact p0)) Z fun aV aW w Z=>?_
  refine .go 5<|GE.CL (fun w Z=>FH b (j:Int) (Z.a 5) (Z.a 4) (by exact p1)) Z fun aX aY w Z=>?_
  refine .go 6<|GE.DU (us:=[.bool ((Bs (Az a (j:Int)) (Az b (j:Int))).2)]) 2 0 (fun w Z=>IV (Az a (j:Int)) (Az b (j:Int)) (Z.a 1) (Z.a 0) (by exact MK p0 _) (by exact MK p1 _)) Z fun ae af w Z=>?_
  refine .r [7,8] ?_
  cases aS:(Bs (Az a (j:Int)) (Az b (j:Int))).2
  ·refine .r [9,10]<|GA.Dn Z fun w Z=>.r 1<|.d<|.s<|.s<|.g<|.r 2<|.d<|.ct<|.s<|.g<|.r 1<|RG.Ss 3 Z fun w Z=>.r 1<|.d ?_
   have Z:=(Z.sZ Int 0 0).sZ (List Row) 1 0
   exact T.r2 func130 results130 (.B 3 Z) (.t (.bool false)) ⟨⟨_,(Ch rfl (AG (by exact (congrArg Prod.snd (QF (k:=j) AB AB ‹_›)).symm))),Z.rD 1 [0,1] (⟨([]:List Int),([]:List (List Row))⟩:Prt) [(none,0),(none,0)] (by exact (congrArg Prod.fst (QF (k:=j) AB AB ‹_›)).symm)⟩,Z.xt⟩
  refine .r [9,10]<|GA.Dn Z fun w Z=>.r 1<|.d<|.s<|.s<|.g<|.r 2<|.d<|.cf<|.sk<|.s<|.g<|.r 2<|.bp (((((Bs (Az a (j:Int)) (Az b (j:Int))).1).length):Int) > 0) (fun ai=>?_) (fun ai=>?_)
  ·refine .d<|.ct<|.s<|.g<|.r 1<|RG.Lb 0 Z<|.r 1<|RG.Nb 1 Z fun aZ w Z=>RG.Ap 2 0 ab (j:Int) [] Z fun ar ax w Z=>?_
   refine .r 1<|RG.Ss 0 Z fun w Z=>.d<|.g<|.r 1<|RG.Lb 0 Z<|.r 1<|RG.Nb 1 Z fun ba w Z=>RG.Ar 1 0 aa ((Bs (Az a (j:Int)) (Az b (j:Int))).1) hs (⟨Shp.cells ((Bs (Az a (j:Int)) (Az b (j:Int))).1) ([(ae,af)]:List (Option Addr × Nat)),AA⟩:Hd 0) Z fun ay az w Z=>?_
   have Z:=Z.eA 0 0 [1,1] aa hs (⟨Shp.cells ((Bs (Az a (j:Int)) (Az b (j:Int))).1) ([(ae,af)]:List (Option Addr × Nat)),AA⟩:Hd 0) ((Bs (Az a (j:Int)) (Az b (j:Int))).1) ([(ae,af)]:List (Option Addr × Nat))
   refine .r 1<|RG.Ss 0 Z fun w Z=>.d<|.ib 1<|.g<|.r 1<|.it ((j:Int)+1)<|.r 1<|.d ?_
   have Z:=Z.sM 0 0 [0] [.e (aa++[(Bs (Az a (j:Int)) (Az b (j:Int))).1]) (hs++[(⟨Shp.cells ((Bs (Az a (j:Int)) (Az b (j:Int))).1) ([(ae,af)]:List (Option Addr × Nat)),AA⟩:Hd 0)])]
   exact ac (j+1,(ab++[(j:Int)]),ar,ax,(aa++[(Bs (Az a (j:Int)) (Az b (j:Int))).1]),ay,az,(hs++[(⟨Shp.cells ((Bs (Az a (j:Int)) (Az b (j:Int))).1) ([(ae,af)]:List (Option Addr × Nat)),AA⟩:Hd 0)])) _ _ AA (Z.to 0 [0] 7) ⟨AB,AB,(by (simp; omega)),(by (simp; omega)),(by exact UL ‹_› ‹_› AB ‹_› ‹_› ‹_›),(by exact UN ‹_› ‹_› AB ‹_› ‹_› ‹_›),(by exact OI ‹_› AB ‹_›)⟩ (by (simp only []; omega))
  refine .d<|.cf<|.sk<|.ib 1<|.g<|.r 1<|.it ((j:Int)+1)<|.r 1<|.d ?_
  have Z:=Z.sM 0 0 [1] [.e aa hs]
  exact ac (j+1,ab,r_out_0,c_out_0,aa,r_out_1,c_out_1,hs) _ _ AA (Z.to 0 [0] 6) ⟨AB,AB,AB,AB,(by exact UM ‹_› ‹_› AB ‹_› ‹_› ‹_›),(by exact UO ‹_› ‹_› AB ‹_› ‹_› ‹_›),(by exact OI ‹_› AB ‹_›)⟩ (by (simp only []; omega))
 refine .d<|.cf<|.x 0 rfl<|.s<|.g<|RG.Ln 0 Z<|RG.Ss 3 Z fun w Z=>.r 1<|.d ?_
 have Z:=(Z.fL 2 0 0 ab).eL 1 1 0 [1] aa hs
 exact T.r2 func130 results130 (.B 1 Z) (.t (.bool true)) ⟨⟨_,(Ch rfl (AG (by exact (QH (k:=j) AB ‹_› ‹_› ‹_› ‹_› ‹_›).2))),Z.rD 1 [0,1] (⟨ab,aa⟩:Prt) [(some ⟨r_out_0,0,none⟩,c_out_0),(some ⟨r_out_1,0,none⟩,c_out_1)] (by exact (QH (k:=j) AB ‹_› ‹_› ‹_› ‹_› ‹_›).1)⟩,Z.xt⟩
theorem EW (s:Sto) (h1:RepS w F a1 n1 c1 s.idx.names) (h2:RepS w F a2 n2 c2 s.idx.AY) (h3:RepS w F a3 n3 c3 s.parts) (h4:RepS w F a4 n4 c4 s.mem) (p0:∀ m∈s.mem,BU m.row=true) (p1:∀ m∈s.mem,1≤m.id∧m.id≤6) (p2:s.mem.length≤1000):Calls Tryz.prog 127 [.agg #[.slice a1 n1 c1,.slice a2 n2 c2,.slice a3 n3 c3,.slice a4 n4 c4]].toArray w (Ag fun rv w'=>VD w.heap.size w' (Ah s.mem:Prt) rv∧Ext w w'):=by
 cases h1.len
 cases h2.len
 cases h3.len
 cases h4.len
 refine goT func127 ?_
 have Z:=((((St.i0 F w).p h1).p h2).p h3).p h4
 have Z:=Z.s0 0
 refine .s<|.g<|RG.Np Z fun aj w Z=>RG.Np Z fun ak w Z=>.d<|.s<|.g<|RG.N0 Int 0 Z fun am w Z=>RG.N0 (Hd 0) 0 Z fun ao w Z=>?_
 have Z:=Z.o2r 0 0 (List Row) 0
 refine .r 1<|RG.Np Z fun ag w Z=>RG.Ss 0 Z fun w Z=>.d<|.s<|.s<|.g<|.r 1<|.d<|.b 0<|T.Lp ((1:Nat),([]:List Int),am,(0:Nat),([]:List (List Row)),ao,(0:Nat),([]:List (Hd 0))) (fun (id,ab,r_out_0,c_out_0,aa,r_out_1,c_out_1,hs)=>([(1,vP aj),(2,vP ak),(3,vP ag),(4,vI (id:Int))],[(0,.box ag 146 [vS r_out_0 ab.length c_out_0,vS r_out_1 aa.length c_out_1]),(1,.raw 0 r_out_1 159 c_out_1 aa hs),(2,.own 0 r_out_0 3 c_out_0 ab)],[⟨0,none,.sep [.e aa hs]⟩],7 - id,(1≤id)∧(id≤7)∧(ab.length≤id)∧(aa.length≤id)∧(ab=(BM 0 (DK s.mem (id - 1))).1)∧(aa=(BM 0 (DK s.mem (id - 1))).2))) [0] Z ⟨AB,AB,(by (simp; done)),(by (simp; done)),AF,AF⟩ ?_
 rintro ⟨id,ab,r_out_0,c_out_0,aa,r_out_1,c_out_1,hs⟩ aJ w Z ⟨aD,aE,aF,aG,aH,aI⟩ ac
 refine .s<|.s<|.g<|.r 1<|.bp ((id:Int)≤6) (fun ah=>?_) (fun ah=>?_)
 ·refine .d<|.ct<|.sk<|.s<|.b 1<|.s<|.g<|.r 1<|RG.Lb 4 Z<|.r 2<|RG.DA 0 0 (D9 (⟨(⟨([]:List (List Tag)),([]:List Pst)⟩:Idx),([]:List Prt),s.mem⟩:Sto) (id:Int) Z.na Z.na Z.na (Z.a 3) AD p0 AD p2) Z fun ae af w Z=>.r 1<|.d<|.s<|.g<|.r 2<|.bp ((((rowsOf (⟨(⟨([]:List (List Tag)),([]:List Pst)⟩:Idx),([]:List Prt),s.mem⟩:Sto) (id:Int)).length):Int) > 0) (fun ai=>?_) (fun ai=>?_)
  ·refine .d<|.ct<|.s<|.g<|.r 1<|RG.Lb 0 Z<|.r 1<|RG.Nb 1 Z fun aK w Z=>RG.Ap 2 0 ab (id:Int) [] Z fun aq ar w Z=>.r 1<|RG.Ss 0 Z fun w Z=>.d<|.g<|.r 1<|RG.Lb 0 Z<|.r 1<|RG.Nb 1 Z fun aL w Z=>RG.Ar 1 0 aa (rowsOf (⟨(⟨([]:List (List Tag)),([]:List Pst)⟩:Idx),([]:List Prt),s.mem⟩:Sto) (id:Int)) hs (⟨Shp.cells (rowsOf (⟨(⟨([]:List (List Tag)),([]:List Pst)⟩:Idx),([]:List Prt),s.mem⟩:Sto) (id:Int)) ([(ae,af)]:List (Option Addr × Nat)),AA⟩:Hd 0) Z fun ax ay w Z=>?_
   have Z:=Z.eA 0 0 [1,1] aa hs (⟨Shp.cells (rowsOf (⟨(⟨([]:List (List Tag)),([]:List Pst)⟩:Idx),([]:List Prt),s.mem⟩:Sto) (id:Int)) ([(ae,af)]:List (Option Addr × Nat)),AA⟩:Hd 0) (rowsOf (⟨(⟨([]:List (List Tag)),([]:List Pst)⟩:Idx),([]:List Prt),s.mem⟩:Sto) (id:Int)) ([(ae,af)]:List (Option Addr × Nat))
   refine .r 1<|RG.Ss 0 Z fun w Z=>.d<|.ib 1<|.g<|.r 1<|.it ((id:Int)+1)<|.r 1<|.d ?_
   have Z:=Z.sM 0 0 [0] [.e (aa++[rowsOf (⟨(⟨([]:List (List Tag)),([]:List Pst)⟩:Idx),([]:List Prt),s.mem⟩:Sto) (id:Int)]) (hs++[(⟨Shp.cells (rowsOf (⟨(⟨([]:List (List Tag)),([]:List Pst)⟩:Idx),([]:List Prt),s.mem⟩:Sto) (id:Int)) ([(ae,af)]:List (Option Addr × Nat)),AA⟩:Hd 0)])]
   exact ac (id+1,(ab++[(id:Int)]),aq,ar,(aa++[rowsOf (⟨(⟨([]:List (List Tag)),([]:List Pst)⟩:Idx),([]:List Prt),s.mem⟩:Sto) (id:Int)]),ax,ay,(hs++[(⟨Shp.cells (rowsOf (⟨(⟨([]:List (List Tag)),([]:List Pst)⟩:Idx),([]:List Prt),s.mem⟩:Sto) (id:Int)) ([(ae,af)]:List (Option Addr × Nat)),AA⟩:Hd 0)])) _ _ AA (Z.to 0 [0] 5) ⟨AB,AB,(by (simp; omega)),(by (simp; omega)),(by exact UE ‹_› AB ‹_›),(by exact UG ‹_› AB ‹_›)⟩ (by (simp only []; omega))
  refine .d<|.cf<|.sk<|.ib 1<|.g<|.r 1<|.it ((id:Int)+1)<|.r 1<|.d ?_
  have Z:=Z.sM 0 0 [1] [.e aa hs]
  exact ac (id+1,ab,r_out_0,c_out_0,aa,r_out_1,c_out_1,hs) _ _ AA (Z.to 0 [0] 4) ⟨AB,AB,AB,AB,(by exact UF ‹_› AB ‹_›),(by exact UH ‹_› AB ‹_›)⟩ (by (simp only []; omega))
 refine .d<|.cf<|.x 0 rfl<|.s<|.g<|RG.Ln 0 Z<|RG.Ss 3 Z fun w Z=>.d ?_
 have Z:=(Z.fL 2 0 0 ab).eL 1 1 0 [1] aa hs
 exact T.Rb 1 func127 results127 Z ⟨Z.rD 1 [0,1] (⟨ab,aa⟩:Prt) [(some ⟨r_out_0,0,none⟩,c_out_0),(some ⟨r_out_1,0,none⟩,c_out_1)] (by exact XH (k:=id) p1 AB ‹_› ‹_›),Z.xt⟩
end Go.Proofs.YtcginoabkicdiaaGreat
