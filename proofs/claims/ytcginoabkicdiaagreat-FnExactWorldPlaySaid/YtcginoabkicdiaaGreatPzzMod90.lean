/- Worlds of any shape: sizes, copies, what is well: plain laws. -/
import Derived.Test.YtcginoabkicdiaaGreatPzzMod20
import Derived.Test.YtcginoabkicdiaaGreatPzzMk
set_option linter.unusedVariables false
set_option linter.unusedSimpArgs false
namespace Go.Proofs.YtcginoabkicdiaaGreat
def szI (m:Nat) (l:Int):Int:=if (m:Int)≤l then l - m else -1
theorem Wz {l:Int}(h:0≤l):szI 0 l=l:=by unfold szI; rw [if_pos AB]; omega
theorem P5 {m:Nat}{l:Int}(h:¬ szI m l< 0):szI m l=l - m∧(m:Int)≤l:=by
 unfold szI at *
 split at h
 ·rename_i h1; rw [if_pos h1]; exact ⟨rfl,h1⟩
 ·omega
theorem W1 {m:Nat}{l:Int}(h:szI m l< 0) (h0:0≤l):l< m:=by
 unfold szI at h
 split at h <;> omega
theorem Rr {m:Nat}{l:Int}(h:l< m):szI m l = -1:=by unfold szI; rw [if_neg AB]
theorem Vi {a b m:Nat}{l:Int}(h:¬ szI a l< 0) (hm:m=a+b):szI b (szI a l)=szI m l:=by
 obtain ⟨h1,h2⟩:=P5 h
 rw [h1]
 subst hm
 unfold szI
 by_cases hb:(b:Int)≤l - a
 ·rw [if_pos hb,if_pos AB]; omega
 ·rw [if_neg hb,if_neg AB]
theorem P6 {a b m:Nat}{l l1:Int}(h:l1=l - a) (h0:¬ l1< 0) (hm:m=a+b):szI b l1=szI m l:=by
 subst h; subst hm
 unfold szI
 by_cases hb:(b:Int)≤l - a
 ·rw [if_pos hb,if_pos AB]; omega
 ·rw [if_neg hb,if_neg AB]
theorem Vj {a b m:Nat}{l:Int}(h:szI a l< 0) (h0:0≤l) (hm:m=a+b):-1=szI m l:=by
 have:=W1 h h0
 exact (Rr AB).symm
theorem P7 {a b m:Nat}{l:Int}(h:l - a< 0) (hm:m=a+b):-1=szI m l:=(Rr AB).symm
def HO {α:Type}(f:α→Nat) (xs:List α):Nat:=(xs.map f).sum
def mL {α:Type}(f:α→Nat) (xs:List α):Nat:=xs.length+HO f xs
theorem U2 {α:Type}{f:α→Nat}{xs:List α}{i:Nat}{x:α}(h:xs.drop i=x::xs.drop (i+1)):HO f (xs.drop i)=f x+HO f (xs.drop (i+1)):=by
 rw [h]; simp [HO]
theorem W2 {α:Type}{f:α→Nat}{xs:List α}{i:Nat}(h:xs.length≤i):HO f (xs.drop i)=0:=by rw [Aa h]; rfl
theorem Vk {α:Type}{f:α→Nat}{xs:List α}{x:α}(h:x∈xs):f x≤HO f xs:=by
 unfold HO
 induction xs with
 | nil=>cases h
 | cons y ys ih =>
   simp only [List.map_cons,List.sum_cons]
   rcases List.mem_cons.1 h with rfl | h
   ·omega
   ·have:=ih h; omega
theorem Rs {α:Type}{f:α→Nat}{xs:List α}{i:Nat}{x:α}{l Y:Int}(h:szI (HO f (xs.drop i)) l=Y) (hd:xs.drop i=x::xs.drop (i+1)) (hn:¬ szI (f x) l< 0):szI (HO f (xs.drop (i+1))) (szI (f x) l)=Y:=by
 rw [← h]
 exact Vi hn (U2 hd)
theorem W3 {α:Type}{f:α→Nat}{xs:List α}{i:Nat}{x:α}{l Y:Int}(h:szI (HO f (xs.drop i)) l=Y) (hd:xs.drop i=x::xs.drop (i+1)) (hn:szI (f x) l< 0) (h0:0≤l):-1=Y:=by
 rw [← h]
 exact Vj hn h0 (U2 hd)
theorem U3 {α:Type}{f:α→Nat}{xs:List α}{i:Nat}{l Y:Int}(h:szI (HO f (xs.drop i)) l=Y) (hi:xs.length≤i) (h0:0≤l):l=Y:=by
 rw [W2 hi,Wz h0] at h
 exact h
def mT (t:Tag):Nat:=t.key.length+t.val.length
def mNm:List Tag→Nat:=mL mT
def mEv (e:Evt):Nat:=mNm e.name
def M8:List Evt→Nat:=mL mEv
def TgB (t:Tag):Prop:=t.key.length≤9223372036854775807∧t.val.length≤9223372036854775807
def NmB (n:List Tag):Prop:=∀ t∈n,TgB t
def EvB (e:Evt):Prop:=NmB e.name
def Vl (es:List Evt):Prop:=∀ e∈es,EvB e
def W4 (es:List Evt):Prop:=es.length≤1100000∧∀ e∈es,e.name.length≤1100000
theorem Ql {es:List Evt}(h:M8 es≤1048576):W4 es:=by
 unfold M8 mL at h
 refine ⟨by omega,fun e he=>?_⟩
 have:=Vk (f:=mEv) he
 have e1:mEv e=e.name.length+HO mT e.name:=rfl
 omega
theorem P8 {α:Type}{a xs:List α}{i:Nat}{x:α}(h:xs.take i=a.take i) (hl:xs.length=a.length) (hx:a[i]? = some x):(xs.set i x).take (i+1)=a.take (i+1):=by
 have hi:i< a.length:=(List.getElem?_eq_some_iff.1 hx).1
 rw [List.take_add_one,List.take_add_one,hx,List.getElem?_set,if_pos rfl,if_pos AB,List.take_set_of_le AB,h]
theorem Ru {α:Type}{a xs:List α}{i:Nat}(h:xs.take i=a.take i) (hl:xs.length=a.length) (hi:a.length≤i):a=xs:=by
 rw [List.take_of_length_le AB,List.take_of_length_le AB] at h
 exact h.symm
end Go.Proofs.YtcginoabkicdiaaGreat
namespace Go.Proofs.YtcginoabkicdiaaGreat
def FI (n:Nat):Str:=if n=0 then [] else FI (n / 10)++[(48+n % 10).toUInt8]
def mtx (k:Int):Str:=if k≤0 then [109,48] else [109]++FI k.toNat
theorem PF:FI 0=[]:=by unfold FI; rfl
theorem Rv {n:Nat}(h:0< n):FI n=FI (n / 10)++[(48+n % 10).toUInt8]:=by
 conv=>lhs; unfold FI
 rw [if_neg AB]
theorem N2:∀ (m n:Nat),n< 10 ^ m→(FI n).length≤m
 | 0, n, h => by
   have:n=0:=by simpa using h
   subst this; rw [PF]; exact Nat.le_refl _
 | m + 1, n, h => by
   by_cases h0:n=0
   ·subst h0; rw [PF]; simp
   ·rw [Rv AB,List.length_append]
    have:=N2 m (n / 10) (by rw [Nat.pow_succ] at h; omega)
    simp only [List.length_cons,List.length_nil]; omega
theorem N3 {k:Int}(h:k≤9223372036854775807):(FI k.toNat).length≤19:=N2 19 _ AB
theorem PG {z:Int}(h:0≤z):z.tdiv 10=((z.toNat / 10:Nat):Int)∧z.tmod 10=((z.toNat % 10:Nat):Int):=by
 obtain ⟨n,rfl⟩:=Int.eq_ofNat_of_zero_le h
 exact ⟨rfl,rfl⟩
theorem Tz {k k1:Int}{out:Str}{b:UInt8}(h:FI k1.toNat++out=FI k.toNat) (hk:k1 > 0) (hb:(b.toNat:Int)=48+Int.tmod k1 10):FI (k1.tdiv 10).toNat++(b::out)=FI k.toNat:=by
 have e:=PG (by omega:0≤k1)
 have hb':b=(48+k1.toNat % 10).toUInt8:=by
  rw [e.2] at hb
  have h1:b.toNat=48+k1.toNat % 10:=by omega
  rw [← h1]
  exact (UInt8.ofNat_toNat (x:=b)).symm
 rw [← h,Rv (n:=k1.toNat) AB,e.1,hb',Int.toNat_natCast,List.append_assoc]
 rfl
theorem Vm {k k1:Int}{out:Str}(h:FI k1.toNat++out=FI k.toNat) (h1:¬ k1 > 0) (h2:¬ k≤0):[109]++out=mtx k:=by
 unfold mtx
 rw [if_neg h2,← h,show k1.toNat=0 by omega,PF]; rfl
end Go.Proofs.YtcginoabkicdiaaGreat
namespace Go.Proofs.YtcginoabkicdiaaGreat
section
variable {α:Type}
def lsM (P:α→Int→Prop) (z:α→Int):List α→Int→Prop
 | [],_=>True
 | x::xs,k=>P x k∧lsM P z xs (k+z x)
def lsZ (z:α→Int):List α→Int
 | []=>0
 | x::xs=>z x+lsZ z xs
theorem Ab {z:α→Int}(h:∀ x,0≤z x):∀ l:List α,0≤lsZ z l
 | []=>Int.le_refl 0
 | x::xs=>by have:=h x; have:=Ab h xs; show 0≤z x+lsZ z xs; omega
theorem BW {z:α→Int}{l:List α}{i:Nat}{x:α}(hd:l.drop i=x::l.drop (i+1)):lsZ z (l.drop i)=z x+lsZ z (l.drop (i+1)):=by rw [hd]; rfl
theorem BB {P:α→Int→Prop}{z:α→Int}{l:List α}{i:Nat}{x:α}{k:Int}(h:lsM P z (l.drop i) k) (hd:l.drop i=x::l.drop (i+1)):P x k∧lsM P z (l.drop (i+1)) (k+z x):=by rw [hd] at h; exact h
theorem EJ {P:α→Int→Prop}{z:α→Int}{l:List α}{k k':Int}(h:lsM P z l k) (e:k=k'):lsM P z l k':=e▸h
theorem dz {z:α→Int}(h:∀ x,0≤z x){l:List α}{i:Nat}{x:α}(_:l.drop i=x::l.drop (i+1)):0≤z x:=h x
theorem IL {z:α→Int}{l:List α}{i:Nat}(h:l.length≤i):lsZ z (l.drop i)=0:=by rw [List.drop_of_length_le h]; rfl
end
def FJ (t:Tag) (k:Int):Prop:=t.key=mtx k∧t.val=mtx (k+1)
def Bt (_:Tag):Int:=2
def IM (n:Int) (k:Int):Prop:=n=k
def BP (_:Int):Int:=1
def Hr (r:Row) (k:Int):Prop:=r.t=k∧r.v=k+1
def Ck (_:Row):Int:=2
def GU (s:Smp) (k:Int):Prop:=s.id=k∧s.row.t=k+1∧s.row.v=k+2
def CV (_:Smp):Int:=3
def FY (p:Pst) (k:Int):Prop:=FJ p.tag k∧lsM IM BP p.ids (k+2)
def CB (p:Pst):Int:=2+lsZ BP p.ids
def nmM (n:List Tag) (k:Int):Prop:=lsM FJ Bt n k
def nmZ (n:List Tag):Int:=lsZ Bt n
def blM (n:List Row) (k:Int):Prop:=lsM Hr Ck n k
def blZ (n:List Row):Int:=lsZ Ck n
def Vn (x:Idx) (k:Int):Prop:=lsM nmM nmZ x.names k∧lsM FY CB x.AY (k+lsZ nmZ x.names)
def DJ (x:Idx):Int:=lsZ nmZ x.names+lsZ CB x.AY
def HP (p:Prt) (k:Int):Prop:=lsM IM BP p.ids k∧lsM blM blZ p.blocks (k+lsZ BP p.ids)
def Bp (p:Prt):Int:=lsZ BP p.ids+lsZ blZ p.blocks
def Vo (s:Sto) (k:Int):Prop:=Vn s.idx k∧lsM HP Bp s.parts (k+DJ s.idx)∧lsM GU CV s.mem (k+DJ s.idx+lsZ Bp s.parts)
def Du (s:Sto):Int:=DJ s.idx+lsZ Bp s.parts+lsZ CV s.mem
def GV (f:Fil) (k:Int):Prop:=f.num=k∧HP f.part (k+1)
def Br (f:Fil):Int:=1+Bp f.part
def Vp (d:Dsk) (k:Int):Prop:=lsM GV Br d.files k∧lsM IM BP d.list (k+lsZ Br d.files)∧lsM nmM nmZ d.names (k+lsZ Br d.files+lsZ BP d.list)
def Ep (d:Dsk):Int:=lsZ Br d.files+lsZ BP d.list+lsZ nmZ d.names
def Vq (w:Wld) (k:Int):Prop:=Vo w.store k∧Vp w.disk (k+Du w.store)
def Ea (w:Wld):Int:=Du w.store+Ep w.disk
theorem F7 (t:Tag):0≤Bt t:=by unfold Bt; omega
theorem Bq (t:Int):0≤BP t:=by unfold BP; omega
theorem Kh (t:Row):0≤Ck t:=by unfold Ck; omega
theorem Dd (t:Smp):0≤CV t:=by unfold CV; omega
theorem D6 (p:Pst):0≤CB p:=by have:=Ab Bq p.ids; unfold CB; omega
theorem CY (n:List Tag):0≤nmZ n:=Ab F7 n
theorem D7 (n:List Row):0≤blZ n:=Ab Kh n
theorem De (p:Prt):0≤Bp p:=by have:=Ab Bq p.ids; have:=Ab D7 p.blocks; unfold Bp; omega
theorem Df (f:Fil):0≤Br f:=by have:=De f.part; unfold Br; omega
theorem E3 (x:Idx):0≤DJ x:=by have:=Ab CY x.names; have:=Ab D6 x.AY; unfold DJ; omega
theorem Gz (s:Sto):0≤Du s:=by have:=E3 s.idx; have:=Ab De s.parts; have:=Ab Dd s.mem; unfold Du; omega
theorem G0 (d:Dsk):0≤Ep d:=by have:=Ab Df d.files; have:=Ab Bq d.list; have:=Ab CY d.names; unfold Ep; omega
end Go.Proofs.YtcginoabkicdiaaGreat
