/- Worlds of any shape: sizes, copies, what is well: plain laws. -/
import Derived.Test.YtcginoabkicdiaaGreatDzzMod20
import Derived.Test.YtcginoabkicdiaaGreatDzzMk
set_option linter.unusedVariables false
set_option linter.unusedSimpArgs false
namespace Go.Proofs.YtcginoabkicdiaaGreat
def szI (m:Nat) (l:Int):Int:=if (m:Int)≤l then l - m else -1
theorem ZO {l:Int}(h:0≤l):szI 0 l=l:=by unfold szI; rw [if_pos AB]; omega
theorem D5 {m:Nat}{l:Int}(h:¬ szI m l< 0):szI m l=l - m∧(m:Int)≤l:=by
 unfold szI at *
 split at h
 ·rename_i h1; rw [if_pos h1]; exact ⟨rfl,h1⟩
 ·omega
theorem ZP {m:Nat}{l:Int}(h:szI m l< 0) (h0:0≤l):l< m:=by
 unfold szI at h
 split at h <;> omega
theorem Tn {m:Nat}{l:Int}(h:l< m):szI m l = -1:=by unfold szI; rw [if_neg AB]
theorem X2 {a b m:Nat}{l:Int}(h:¬ szI a l< 0) (hm:m=a+b):szI b (szI a l)=szI m l:=by
 obtain ⟨h1,h2⟩:=D5 h
 rw [h1]
 subst hm
 unfold szI
 by_cases hb:(b:Int)≤l - a
 ·rw [if_pos hb,if_pos AB]; omega
 ·rw [if_neg hb,if_neg AB]
theorem H8 {a b m:Nat}{l l1:Int}(h:l1=l - a) (h0:¬ l1< 0) (hm:m=a+b):szI b l1=szI m l:=by
 subst h; subst hm
 unfold szI
 by_cases hb:(b:Int)≤l - a
 ·rw [if_pos hb,if_pos AB]; omega
 ·rw [if_neg hb,if_neg AB]
theorem X3 {a b m:Nat}{l:Int}(h:szI a l< 0) (h0:0≤l) (hm:m=a+b):-1=szI m l:=by
 have:=ZP h h0
 exact (Tn AB).symm
theorem H9 {a b m:Nat}{l:Int}(h:l - a< 0) (hm:m=a+b):-1=szI m l:=(Tn AB).symm
def Fu {α:Type}(f:α→Nat) (xs:List α):Nat:=(xs.map f).sum
def mL {α:Type}(f:α→Nat) (xs:List α):Nat:=xs.length+Fu f xs
theorem XP {α:Type}{f:α→Nat}{xs:List α}{i:Nat}{x:α}(h:xs.drop i=x::xs.drop (i+1)):Fu f (xs.drop i)=f x+Fu f (xs.drop (i+1)):=by
 rw [h]; simp [Fu]
theorem ZQ {α:Type}{f:α→Nat}{xs:List α}{i:Nat}(h:xs.length≤i):Fu f (xs.drop i)=0:=by rw [Aa h]; rfl
theorem Jz {α:Type}{f:α→Nat}{xs:List α}{x:α}(h:x∈xs):f x≤Fu f xs:=by
 unfold Fu
 induction xs with
 | nil=>cases h
 | cons y ys ih =>
   simp only [List.map_cons,List.sum_cons]
   rcases List.mem_cons.1 h with rfl | h
   ·omega
   ·have:=ih h; omega
theorem J0 {α:Type}{f:α→Nat}{xs:List α}{i:Nat}{x:α}{l Y:Int}(h:szI (Fu f (xs.drop i)) l=Y) (hd:xs.drop i=x::xs.drop (i+1)) (hn:¬ szI (f x) l< 0):szI (Fu f (xs.drop (i+1))) (szI (f x) l)=Y:=by
 rw [← h]
 exact X2 hn (XP hd)
theorem SW {α:Type}{f:α→Nat}{xs:List α}{i:Nat}{x:α}{l Y:Int}(h:szI (Fu f (xs.drop i)) l=Y) (hd:xs.drop i=x::xs.drop (i+1)) (hn:szI (f x) l< 0) (h0:0≤l):-1=Y:=by
 rw [← h]
 exact X3 hn h0 (XP hd)
theorem Nk {α:Type}{f:α→Nat}{xs:List α}{i:Nat}{l Y:Int}(h:szI (Fu f (xs.drop i)) l=Y) (hi:xs.length≤i) (h0:0≤l):l=Y:=by
 rw [ZQ hi,ZO h0] at h
 exact h
def mT (t:Tag):Nat:=t.key.length+t.val.length
def mNm:List Tag→Nat:=mL mT
def mNs:List (List Tag)→Nat:=mL mNm
def mIs (l:List Int):Nat:=l.length
def mPo (p:Pst):Nat:=mT p.tag+mIs p.ids
def PT:List Pst→Nat:=mL mPo
def mIx (x:Idx):Nat:=mNs x.names+PT x.AX
def mRw (l:List Row):Nat:=l.length
def PU:List (List Row)→Nat:=mL mRw
def mPt (p:Prt):Nat:=mIs p.ids+PU p.blocks
def M5:List Prt→Nat:=mL mPt
def mSm (l:List Smp):Nat:=l.length
def mSt (s:Sto):Nat:=mIx s.idx+(M5 s.parts+mSm s.mem)
def mFl (f:Fil):Nat:=mPt f.part
def Kv:List Fil→Nat:=mL mFl
def mDk (d:Dsk):Nat:=Kv d.files+(mIs d.list+mNs d.names)
def mWd (w:Wld):Nat:=mSt w.store+mDk w.disk
def mEv (e:Evt):Nat:=mNm e.name
def TgB (t:Tag):Prop:=t.key.length≤9223372036854775807∧t.val.length≤9223372036854775807
def NmB (n:List Tag):Prop:=∀ t∈n,TgB t
def NsB (ns:List (List Tag)):Prop:=∀ n∈ns,NmB n
def PoB (ps:List Pst):Prop:=∀ p∈ps,TgB p.tag
def IxB (x:Idx):Prop:=NsB x.names∧PoB x.AX
def StB (s:Sto):Prop:=IxB s.idx
def DkB (d:Dsk):Prop:=NsB d.names
def WdB (w:Wld):Prop:=StB w.store∧DkB w.disk
def EvB (e:Evt):Prop:=NmB e.name
def LL {α:Type}(xs:List (List α)):Prop:=xs.length≤1100000∧∀ x∈xs,x.length≤1100000
def PoL (ps:List Pst):Prop:=ps.length≤1100000∧∀ p∈ps,p.ids.length≤1100000
def IxL (x:Idx):Prop:=LL x.names∧PoL x.AX
def PtL (p:Prt):Prop:=p.ids.length≤1100000∧LL p.blocks
def X4 (ps:List Prt):Prop:=ps.length≤1100000∧∀ p∈ps,PtL p
def StL (s:Sto):Prop:=IxL s.idx∧X4 s.parts∧s.mem.length≤1100000
def X5 (fs:List Fil):Prop:=fs.length≤1100000∧∀ f∈fs,PtL f.part
def DkL (d:Dsk):Prop:=X5 d.files∧d.list.length≤1100000∧LL d.names
def WdL (w:Wld):Prop:=StL w.store∧DkL w.disk
theorem ZR {xs:List (List Tag)}(h:mNs xs≤1048576):LL xs:=by
 unfold mNs mL at h
 refine ⟨by omega,fun x hx=>?_⟩
 have:=Jz (f:=mNm) hx
 have e:mNm x=x.length+Fu mT x:=rfl
 omega
theorem pE {xs:List (List Row)}(h:PU xs≤1048576):LL xs:=by
 unfold PU mL at h
 refine ⟨by omega,fun x hx=>?_⟩
 have:=Jz (f:=mRw) hx
 have e:mRw x=x.length:=rfl
 omega
theorem pol {ps:List Pst}(h:PT ps≤1048576):PoL ps:=by
 unfold PT mL at h
 refine ⟨by omega,fun x hx=>?_⟩
 have:=Jz (f:=mPo) hx
 have e:mPo x=mT x.tag+x.ids.length:=rfl
 omega
theorem ptl {p:Prt}(h:mPt p≤1048576):PtL p:=by
 unfold mPt mIs at h
 exact ⟨by omega,pE AB⟩
theorem pF {ps:List Prt}(h:M5 ps≤1048576):X4 ps:=by
 unfold M5 mL at h
 exact ⟨by omega,fun p hp=>ptl (by have:=Jz (f:=mPt) hp; omega)⟩
theorem pG {fs:List Fil}(h:Kv fs≤1048576):X5 fs:=by
 unfold Kv mL at h
 exact ⟨by omega,fun f hf=>ptl (by have:=Jz (f:=mFl) hf; have e:mFl f=mPt f.part:=rfl; omega)⟩
theorem stl {s:Sto}(h:mSt s≤1048576):StL s:=by
 unfold mSt mIx mSm at h
 exact ⟨⟨ZR AB,pol AB⟩,pF AB,by omega⟩
theorem dkl {d:Dsk}(h:mDk d≤1048576):DkL d:=by
 unfold mDk mIs at h
 exact ⟨pG AB,by omega,ZR AB⟩
theorem wdl {w:Wld}(h:mWd w≤1048576):WdL w:=by
 unfold mWd at h
 exact ⟨stl AB,dkl AB⟩
theorem V5 {ns:List (List Tag)}:Ct ns≤mNs ns:=by
 unfold Ct mNs mL Fu
 induction ns with
 | nil=>simp
 | cons n ns ih =>
   simp only [List.map_cons,List.sum_cons,List.length_cons] at *
   have:mNm n=n.length+Fu mT n:=rfl
   omega
theorem FA {α:Type}{a xs:List α}{i:Nat}{x:α}(h:xs.take i=a.take i) (hl:xs.length=a.length) (hx:a[i]? = some x):(xs.set i x).take (i+1)=a.take (i+1):=by
 have hi:i< a.length:=(List.getElem?_eq_some_iff.1 hx).1
 rw [List.take_add_one,List.take_add_one,hx,List.getElem?_set,if_pos rfl,if_pos AB,List.take_set_of_le AB,h]
theorem Gf {α:Type}{a xs:List α}{i:Nat}(h:xs.take i=a.take i) (hl:xs.length=a.length) (hi:a.length≤i):a=xs:=by
 rw [List.take_of_length_le AB,List.take_of_length_le AB] at h
 exact h.symm
end Go.Proofs.YtcginoabkicdiaaGreat
namespace Go.Proofs.YtcginoabkicdiaaGreat
def Fv (n:Nat):Str:=if n=0 then [] else Fv (n / 10)++[(48+n % 10).toUInt8]
def mtx (k:Int):Str:=if k≤0 then [109,48] else [109]++Fv k.toNat
theorem Qk:Fv 0=[]:=by unfold Fv; rfl
theorem To {n:Nat}(h:0< n):Fv n=Fv (n / 10)++[(48+n % 10).toUInt8]:=by
 conv=>lhs; unfold Fv
 rw [if_neg AB]
theorem PV:∀ (m n:Nat),n< 10 ^ m→(Fv n).length≤m
 | 0, n, h => by
   have:n=0:=by simpa using h
   subst this; rw [Qk]; exact Nat.le_refl _
 | m + 1, n, h => by
   by_cases h0:n=0
   ·subst h0; rw [Qk]; simp
   ·rw [To AB,List.length_append]
    have:=PV m (n / 10) (by rw [Nat.pow_succ] at h; omega)
    simp only [List.length_cons,List.length_nil]; omega
theorem PW {k:Int}(h:k≤9223372036854775807):(Fv k.toNat).length≤19:=PV 19 _ AB
theorem Ql {z:Int}(h:0≤z):z.tdiv 10=((z.toNat / 10:Nat):Int)∧z.tmod 10=((z.toNat % 10:Nat):Int):=by
 obtain ⟨n,rfl⟩:=Int.eq_ofNat_of_zero_le h
 exact ⟨rfl,rfl⟩
theorem V6 {k k1:Int}{out:Str}{b:UInt8}(h:Fv k1.toNat++out=Fv k.toNat) (hk:k1 > 0) (hb:(b.toNat:Int)=48+Int.tmod k1 10):Fv (k1.tdiv 10).toNat++(b::out)=Fv k.toNat:=by
 have e:=Ql (by omega:0≤k1)
 have hb':b=(48+k1.toNat % 10).toUInt8:=by
  rw [e.2] at hb
  have h1:b.toNat=48+k1.toNat % 10:=by omega
  rw [← h1]
  exact (UInt8.ofNat_toNat (x:=b)).symm
 rw [← h,To (n:=k1.toNat) AB,e.1,hb',Int.toNat_natCast,List.append_assoc]
 rfl
theorem X6 {k k1:Int}{out:Str}(h:Fv k1.toNat++out=Fv k.toNat) (h1:¬ k1 > 0) (h2:¬ k≤0):[109]++out=mtx k:=by
 unfold mtx
 rw [if_neg h2,← h,show k1.toNat=0 by omega,Qk]; rfl
end Go.Proofs.YtcginoabkicdiaaGreat
namespace Go.Proofs.YtcginoabkicdiaaGreat
section
variable {α:Type}
def lsM (P:α→Int→Prop) (z:α→Int):List α→Int→Prop
 | [],_=>True
 | x::xs,k=>P x k∧lsM P z xs (k+z x)
def lsZ (z:α→Int):List α→Int
 | []=>0
 | x::xs=>z x+lsZ z xs
theorem Ac {z:α→Int}(h:∀ x,0≤z x):∀ l:List α,0≤lsZ z l
 | []=>Int.le_refl 0
 | x::xs=>by have:=h x; have:=Ac h xs; show 0≤z x+lsZ z xs; omega
theorem BZ {z:α→Int}{l:List α}{i:Nat}{x:α}(hd:l.drop i=x::l.drop (i+1)):lsZ z (l.drop i)=z x+lsZ z (l.drop (i+1)):=by rw [hd]; rfl
theorem BC {P:α→Int→Prop}{z:α→Int}{l:List α}{i:Nat}{x:α}{k:Int}(h:lsM P z (l.drop i) k) (hd:l.drop i=x::l.drop (i+1)):P x k∧lsM P z (l.drop (i+1)) (k+z x):=by rw [hd] at h; exact h
theorem EY {P:α→Int→Prop}{z:α→Int}{l:List α}{k k':Int}(h:lsM P z l k) (e:k=k'):lsM P z l k':=e▸h
theorem dz {z:α→Int}(h:∀ x,0≤z x){l:List α}{i:Nat}{x:α}(_:l.drop i=x::l.drop (i+1)):0≤z x:=h x
theorem JG {z:α→Int}{l:List α}{i:Nat}(h:l.length≤i):lsZ z (l.drop i)=0:=by rw [List.drop_of_length_le h]; rfl
end
def Fw (t:Tag) (k:Int):Prop:=t.key=mtx k∧t.val=mtx (k+1)
def CJ (_:Tag):Int:=2
def JH (n:Int) (k:Int):Prop:=n=k
def BQ (_:Int):Int:=1
def Ik (r:Row) (k:Int):Prop:=r.t=k∧r.v=k+1
def Cq (_:Row):Int:=2
def Gz (s:Smp) (k:Int):Prop:=s.id=k∧s.row.t=k+1∧s.row.v=k+2
def CW (_:Smp):Int:=3
def GF (p:Pst) (k:Int):Prop:=Fw p.tag k∧lsM JH BQ p.ids (k+2)
def CA (p:Pst):Int:=2+lsZ BQ p.ids
def nmM (n:List Tag) (k:Int):Prop:=lsM Fw CJ n k
def nmZ (n:List Tag):Int:=lsZ CJ n
def blM (n:List Row) (k:Int):Prop:=lsM Ik Cq n k
def blZ (n:List Row):Int:=lsZ Cq n
def X7 (x:Idx) (k:Int):Prop:=lsM nmM nmZ x.names k∧lsM GF CA x.AX (k+lsZ nmZ x.names)
def DS (x:Idx):Int:=lsZ nmZ x.names+lsZ CA x.AX
def IF (p:Prt) (k:Int):Prop:=lsM JH BQ p.ids k∧lsM blM blZ p.blocks (k+lsZ BQ p.ids)
def Bm (p:Prt):Int:=lsZ BQ p.ids+lsZ blZ p.blocks
def X8 (s:Sto) (k:Int):Prop:=X7 s.idx k∧lsM IF Bm s.parts (k+DS s.idx)∧lsM Gz CW s.mem (k+DS s.idx+lsZ Bm s.parts)
def Dt (s:Sto):Int:=DS s.idx+lsZ Bm s.parts+lsZ CW s.mem
def G0 (f:Fil) (k:Int):Prop:=f.num=k∧IF f.part (k+1)
def Bq (f:Fil):Int:=1+Bm f.part
def X9 (d:Dsk) (k:Int):Prop:=lsM G0 Bq d.files k∧lsM JH BQ d.list (k+lsZ Bq d.files)∧lsM nmM nmZ d.names (k+lsZ Bq d.files+lsZ BQ d.list)
def Et (d:Dsk):Int:=lsZ Bq d.files+lsZ BQ d.list+lsZ nmZ d.names
def YA (w:Wld) (k:Int):Prop:=X8 w.store k∧X9 w.disk (k+Dt w.store)
def D8 (w:Wld):Int:=Dt w.store+Et w.disk
theorem Il (t:Tag):0≤CJ t:=by unfold CJ; omega
theorem Bs (t:Int):0≤BQ t:=by unfold BQ; omega
theorem OY (t:Row):0≤Cq t:=by unfold Cq; omega
theorem Du (t:Smp):0≤CW t:=by unfold CW; omega
theorem EL (p:Pst):0≤CA p:=by have:=Ac Bs p.ids; unfold CA; omega
theorem Ce (n:List Tag):0≤nmZ n:=Ac Il n
theorem EM (n:List Row):0≤blZ n:=Ac OY n
theorem Dv (p:Prt):0≤Bm p:=by have:=Ac Bs p.ids; have:=Ac EM p.blocks; unfold Bm; omega
theorem Dw (f:Fil):0≤Bq f:=by have:=Dv f.part; unfold Bq; omega
theorem FP (x:Idx):0≤DS x:=by have:=Ac Ce x.names; have:=Ac EL x.AX; unfold DS; omega
theorem HS (s:Sto):0≤Dt s:=by have:=FP s.idx; have:=Ac Dv s.parts; have:=Ac Du s.mem; unfold Dt; omega
theorem HT (d:Dsk):0≤Et d:=by have:=Ac Dw d.files; have:=Ac Bs d.list; have:=Ac Ce d.names; unfold Et; omega
end Go.Proofs.YtcginoabkicdiaaGreat
