/- Worlds of any shape: sizes, copies, what is well: plain laws. -/
import Derived.Test.YtfninflnngpchaaGreatWkzMod20
import Derived.Test.YtfninflnngpchaaGreatWkzMk
set_option linter.unusedVariables false
set_option linter.unusedSimpArgs false
namespace Go.Proofs.YtfninflnngpchaaGreat
def szI (m:Nat) (l:Int):Int:=if (m:Int)≤l then l - m else -1
theorem Q5 {l:Int}(h:0≤l):szI 0 l=l:=by unfold szI; rw [if_pos AB]; omega
theorem Aq {m:Nat}{l:Int}(h:¬ szI m l< 0):szI m l=l - m∧(m:Int)≤l:=by
 unfold szI at *
 split at h
 ·rename_i h1; rw [if_pos h1]; exact ⟨rfl,h1⟩
 ·omega
theorem Q6 {m:Nat}{l:Int}(h:szI m l< 0) (h0:0≤l):l< m:=by
 unfold szI at h
 split at h <;> omega
theorem OL {m:Nat}{l:Int}(h:l< m):szI m l = -1:=by unfold szI; rw [if_neg AB]
theorem QR {a b m:Nat}{l:Int}(h:¬ szI a l< 0) (hm:m=a+b):szI b (szI a l)=szI m l:=by
 obtain ⟨h1,h2⟩:=Aq h
 rw [h1]
 subst hm
 unfold szI
 by_cases hb:(b:Int)≤l - a
 ·rw [if_pos hb,if_pos AB]; omega
 ·rw [if_neg hb,if_neg AB]
theorem Eu {a b m:Nat}{l l1:Int}(h:l1=l - a) (h0:¬ l1< 0) (hm:m=a+b):szI b l1=szI m l:=by
 subst h; subst hm
 unfold szI
 by_cases hb:(b:Int)≤l - a
 ·rw [if_pos hb,if_pos AB]; omega
 ·rw [if_neg hb,if_neg AB]
theorem QS {a b m:Nat}{l:Int}(h:szI a l< 0) (h0:0≤l) (hm:m=a+b):-1=szI m l:=by
 have:=Q6 h h0
 exact (OL AB).symm
theorem BV {a b m:Nat}{l:Int}(h:l - a< 0) (hm:m=a+b):-1=szI m l:=(OL AB).symm
def Du {α:Type}(f:α→Nat) (xs:List α):Nat:=(xs.map f).sum
def mL {α:Type}(f:α→Nat) (xs:List α):Nat:=xs.length+Du f xs
theorem Pl {α:Type}{f:α→Nat}{xs:List α}{i:Nat}{x:α}(h:xs.drop i=x::xs.drop (i+1)):Du f (xs.drop i)=f x+Du f (xs.drop (i+1)):=by
 rw [h]; simp [Du]
theorem Q7 {α:Type}{f:α→Nat}{xs:List α}{i:Nat}(h:xs.length≤i):Du f (xs.drop i)=0:=by rw [AY h]; rfl
theorem Ga {α:Type}{f:α→Nat}{xs:List α}{x:α}(h:x∈xs):f x≤Du f xs:=by
 unfold Du
 induction xs with
 | nil=>cases h
 | cons y ys ih =>
   simp only [List.map_cons,List.sum_cons]
   rcases List.mem_cons.1 h with rfl | h
   ·omega
   ·have:=ih h; omega
theorem Gc {α:Type}{f:α→Nat}{xs:List α}{i:Nat}{x:α}{l Y:Int}(h:szI (Du f (xs.drop i)) l=Y) (hd:xs.drop i=x::xs.drop (i+1)) (hn:¬ szI (f x) l< 0):szI (Du f (xs.drop (i+1))) (szI (f x) l)=Y:=by
 rw [← h]
 exact QR hn (Pl hd)
theorem EH {α:Type}{f:α→Nat}{xs:List α}{i:Nat}{x:α}{l Y:Int}(h:szI (Du f (xs.drop i)) l=Y) (hd:xs.drop i=x::xs.drop (i+1)) (hn:szI (f x) l< 0) (h0:0≤l):-1=Y:=by
 rw [← h]
 exact QS hn h0 (Pl hd)
theorem Cc {α:Type}{f:α→Nat}{xs:List α}{i:Nat}{l Y:Int}(h:szI (Du f (xs.drop i)) l=Y) (hi:xs.length≤i) (h0:0≤l):l=Y:=by
 rw [Q7 hi,Q5 h0] at h
 exact h
def mT (t:Tag):Nat:=t.key.length+t.val.length
def mNm:List Tag→Nat:=mL mT
def mNs:List (List Tag)→Nat:=mL mNm
def mIs (l:List Int):Nat:=l.length
def mPo (p:Pst):Nat:=mT p.tag+mIs p.ids
def LK:List Pst→Nat:=mL mPo
def mIx (x:Idx):Nat:=mNs x.names+LK x.Ae
def mRw (l:List Row):Nat:=l.length
def LM:List (List Row)→Nat:=mL mRw
def mPt (p:Prt):Nat:=mIs p.ids+LM p.blocks
def Jl:List Prt→Nat:=mL mPt
def mSm (l:List Smp):Nat:=l.length
def mSt (s:Sto):Nat:=mIx s.idx+(Jl s.parts+mSm s.mem)
def mFl (f:Fil):Nat:=mPt f.part
def Ht:List Fil→Nat:=mL mFl
def mDk (d:Dsk):Nat:=Ht d.files+(mIs d.list+mNs d.names)
def mWd (w:Wld):Nat:=mSt w.store+mDk w.disk
def TgB (t:Tag):Prop:=t.key.length≤9223372036854775807∧t.val.length≤9223372036854775807
def NmB (n:List Tag):Prop:=∀ t∈n,TgB t
def NsB (ns:List (List Tag)):Prop:=∀ n∈ns,NmB n
def PoB (ps:List Pst):Prop:=∀ p∈ps,TgB p.tag
def IxB (x:Idx):Prop:=NsB x.names∧PoB x.Ae
def StB (s:Sto):Prop:=IxB s.idx
def DkB (d:Dsk):Prop:=NsB d.names
def WdB (w:Wld):Prop:=StB w.store∧DkB w.disk
def LL {α:Type}(xs:List (List α)):Prop:=xs.length≤1100000∧∀ x∈xs,x.length≤1100000
def PoL (ps:List Pst):Prop:=ps.length≤1100000∧∀ p∈ps,p.ids.length≤1100000
def IxL (x:Idx):Prop:=LL x.names∧PoL x.Ae
def PtL (p:Prt):Prop:=p.ids.length≤1100000∧LL p.blocks
def QT (ps:List Prt):Prop:=ps.length≤1100000∧∀ p∈ps,PtL p
def StL (s:Sto):Prop:=IxL s.idx∧QT s.parts∧s.mem.length≤1100000
def QU (fs:List Fil):Prop:=fs.length≤1100000∧∀ f∈fs,PtL f.part
def DkL (d:Dsk):Prop:=QU d.files∧d.list.length≤1100000∧LL d.names
def WdL (w:Wld):Prop:=StL w.store∧DkL w.disk
theorem Q8 {xs:List (List Tag)}(h:mNs xs≤1048576):LL xs:=by
 unfold mNs mL at h
 refine ⟨by omega,fun x hx=>?_⟩
 have:=Ga (f:=mNm) hx
 have e:mNm x=x.length+Du mT x:=rfl
 omega
theorem RY {xs:List (List Row)}(h:LM xs≤1048576):LL xs:=by
 unfold LM mL at h
 refine ⟨by omega,fun x hx=>?_⟩
 have:=Ga (f:=mRw) hx
 have e:mRw x=x.length:=rfl
 omega
theorem pol {ps:List Pst}(h:LK ps≤1048576):PoL ps:=by
 unfold LK mL at h
 refine ⟨by omega,fun x hx=>?_⟩
 have:=Ga (f:=mPo) hx
 have e:mPo x=mT x.tag+x.ids.length:=rfl
 omega
theorem ptl {p:Prt}(h:mPt p≤1048576):PtL p:=by
 unfold mPt mIs at h
 exact ⟨by omega,RY AB⟩
theorem RZ {ps:List Prt}(h:Jl ps≤1048576):QT ps:=by
 unfold Jl mL at h
 exact ⟨by omega,fun p hp=>ptl (by have:=Ga (f:=mPt) hp; omega)⟩
theorem Ra {fs:List Fil}(h:Ht fs≤1048576):QU fs:=by
 unfold Ht mL at h
 exact ⟨by omega,fun f hf=>ptl (by have:=Ga (f:=mFl) hf; have e:mFl f=mPt f.part:=rfl; omega)⟩
theorem stl {s:Sto}(h:mSt s≤1048576):StL s:=by
 unfold mSt mIx mSm at h
 exact ⟨⟨Q8 AB,pol AB⟩,RZ AB,by omega⟩
theorem dkl {d:Dsk}(h:mDk d≤1048576):DkL d:=by
 unfold mDk mIs at h
 exact ⟨Ra AB,by omega,Q8 AB⟩
theorem wdl {w:Wld}(h:mWd w≤1048576):WdL w:=by
 unfold mWd at h
 exact ⟨stl AB,dkl AB⟩
theorem PJ {ns:List (List Tag)}:By ns≤mNs ns:=by
 unfold By mNs mL Du
 induction ns with
 | nil=>simp
 | cons n ns ih =>
   simp only [List.map_cons,List.sum_cons,List.length_cons] at *
   have:mNm n=n.length+Du mT n:=rfl
   omega
theorem C4 {α:Type}{a xs:List α}{i:Nat}{x:α}(h:xs.take i=a.take i) (hl:xs.length=a.length) (hx:a[i]? = some x):(xs.set i x).take (i+1)=a.take (i+1):=by
 have hi:i< a.length:=(List.getElem?_eq_some_iff.1 hx).1
 rw [List.take_add_one,List.take_add_one,hx,List.getElem?_set,if_pos rfl,if_pos AB,List.take_set_of_le AB,h]
theorem EA {α:Type}{a xs:List α}{i:Nat}(h:xs.take i=a.take i) (hl:xs.length=a.length) (hi:a.length≤i):a=xs:=by
 rw [List.take_of_length_le AB,List.take_of_length_le AB] at h
 exact h.symm
end Go.Proofs.YtfninflnngpchaaGreat
