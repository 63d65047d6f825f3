/- Lines that are drawn, and what the laws ask of them: plain laws. -/
import Derived.Test.YtckdhcbbgmiccaaGreatDoorLdzMod84
set_option linter.unusedVariables false
set_option linter.unusedSimpArgs false
namespace Go.Proofs.YtckdhcbbgmiccaaGreatDoor
def CX (s:Str) (n:Nat):Str:=(List.replicate n s).flatten
theorem ZY (s:Str):CX s 0=[]:=rfl
theorem Vz (s:Str) (a b:Nat):CX s (a+b)=CX s a++CX s b:=by unfold CX; rw [← List.replicate_append_replicate,List.flatten_append]
theorem QP (s:Str) (n:Nat):CX (s++s) n=CX s (2 * n):=by
 induction n with
 | zero=>rfl
 | succ n ih =>
   have e:CX (s++s) (n+1)=(s++s)++CX (s++s) n:=rfl
   have e2:CX s (2 * n+1+1)=s++(s++CX s (2 * n)):=rfl
   rw [e,ih,show 2 * (n+1)=2 * n+1+1 by omega,e2,List.append_assoc]
theorem Gr (s:Str) (n:Nat):(CX s n).length=n * s.length:=by unfold CX; simp
theorem Xh {s out Y:Str}{n:Int}(h:out++CX s n.toNat=Y) (hn:n > 0) (h1:Int.tmod n 2=1):(out++s)++CX (s++s) (Int.tdiv n 2).toNat=Y:=by
 have q1:Int.tmod n 2=n % 2:=Int.tmod_eq_emod_of_nonneg AB
 have q2:Int.tdiv n 2=n / 2:=Int.tdiv_eq_ediv_of_nonneg AB
 rw [QP,← h,q2,show n.toNat=1+2 * (n / 2).toNat by omega,Vz,List.append_assoc]
 congr 2
 simp [CX]
theorem V0 {s out Y:Str}{n:Int}(h:out++CX s n.toNat=Y) (hn:n > 0) (h1:¬ Int.tmod n 2=1):out++CX (s++s) (Int.tdiv n 2).toNat=Y:=by
 have q1:Int.tmod n 2=n % 2:=Int.tmod_eq_emod_of_nonneg AB
 have q2:Int.tdiv n 2=n / 2:=Int.tdiv_eq_ediv_of_nonneg AB
 rw [QP,← h,q2,show n.toNat=2 * (n / 2).toNat by omega]
theorem Xi {s out Y:Str}{n:Int}(h:out++CX s n.toNat=Y) (hn:¬ n > 0):out=Y:=by
 rw [show n.toNat=0 by omega,ZY,List.append_nil] at h
 exact h
theorem td2 {n:Int}(h:0≤n):Int.tdiv n 2=n / 2:=Int.tdiv_eq_ediv_of_nonneg h
theorem O4 {s out Y:Str}{n:Int}(h:out++CX s n.toNat=Y) (hn:n > 0) (hl:Y.length≤100000):out.length≤100000∧s.length≤100000:=by
 have e:=congrArg List.length h
 rw [List.length_append,Gr] at e
 have:s.length≤n.toNat * s.length:=Nat.le_mul_of_pos_left _ AB
 omega
theorem RN:∀ n:Nat,LsO (CX [112,97,114,116,115,10] n):=by
 intro n
 induction n with
 | zero=>exact LsO.nil
 | succ n ih =>
   have e:CX [112,97,114,116,115,10] (n+1)=(Iy++[10])++CX [112,97,114,116,115,10] n:=rfl
   rw [e]
   exact (LsO.one LnO.parts).app ih
theorem oH {a x r:Str}(ha:(32:UInt8)∉a) (hx:(32:UInt8)∉x):Bh (AZ (a++32::(x++32::r)) 32) 1=x:=by
 rw [Oo,Mp ha,Mp hx]
 rfl
theorem SW (u:Nat) (h:u< 100):(10:UInt8)∉LP u∧(32:UInt8)∉LP u:=by
 have key:∀ d:Nat,d< 10→(10:UInt8)≠UInt8.ofNat (48+d)∧(32:UInt8)≠UInt8.ofNat (48+d):=fun d hd=>by
  constructor
  ·intro e
   have:=congrArg UInt8.toNat e
   rw [UInt8.toNat_ofNat'] at this
   have e1:(10:UInt8).toNat=10:=rfl
   omega
  ·intro e
   have:=congrArg UInt8.toNat e
   rw [UInt8.toNat_ofNat'] at this
   have e1:(32:UInt8).toNat=32:=rfl
   omega
 unfold LP
 split
 ·have:=key u AB
  simp only [List.mem_cons,List.not_mem_nil,or_false]
  exact this
 ·have h1:=key (u / 10) AB
  have h2:=key (u % 10) AB
  simp only [List.mem_cons,List.not_mem_nil,or_false,not_or]
  exact ⟨⟨h1.1,h2.1⟩,h1.2,h2.2⟩
theorem Lr {n:Int}(h:-99≤n∧n≤99):(10:UInt8)∉BF n:=by
 unfold BF
 split
 ·have:=(SW n.natAbs AB).1
  simp only [List.mem_cons,not_or]
  exact ⟨by decide,this⟩
 ·exact (SW n.toNat AB).1
theorem V1 {a x t v:Str}(ha:(32:UInt8)∉a∧(10:UInt8)∉a) (hx:(32:UInt8)∉x∧(10:UInt8)∉x∧x∈WL) (ht:(10:UInt8)∉t) (hv:(10:UInt8)∉v):LnO (((((a++[32])++x)++[32])++t)++[32]++v):=by
 have e:((((a++[32])++x)++[32])++t)++[32]++v=a++32::(x++32::(t++32::v)):=by simp
 rw [e]
 refine ⟨?_,?_⟩
 ·simp only [List.mem_append,List.mem_cons,not_or]
  exact ⟨ha.2,by decide,hx.2.1,by decide,ht,by decide,hv⟩
 ·unfold LnD
  rw [oH ha.1 hx.1]
  exact hx.2.2
theorem al {s t:Str}{a b:Nat}(h:s.length≤a) (h2:t.length≤b):(s++t).length≤a+b:=by rw [List.length_append]; omega
theorem CY {s u:Str}{a b:Nat}(h:s.length≤a) (h2:u.length≤b) (h3:a+b≤100000):s.length+u.length≤9000000000000000000:=by omega
def V2:List Txt:=[⟨[97,61,112]⟩,⟨[97,61,113,44,98,61,112]⟩,⟨[98,61,122,44,99,61,113]⟩,⟨[99,61,122]⟩]
def V3:List Txt:=[⟨[42]⟩,⟨[97,61,112]⟩,⟨[98,33,61,122]⟩,⟨[97,61,113,44,98,61,112]⟩]
theorem SX:∀ y∈V2,((32:UInt8)∉y.s∧(10:UInt8)∉y.s∧y.s∈WL)∧y.s.length≤7:=by decide
theorem SY:∀ y∈V3,((32:UInt8)∉y.s∧(10:UInt8)∉y.s∧y.s∈WL)∧y.s.length≤7:=by decide
theorem Ce {y:Str}(h:(⟨y⟩:Txt)∈V2):y.length≤7:=(SX _ h).2
theorem GQ {y:Str}(h:(⟨y⟩:Txt)∈V3):y.length≤7:=(SY _ h).2
theorem M0 {y:Str}{a b:Int}(hy:(⟨y⟩:Txt)∈V2) (ha:-99≤a∧a≤99) (hb:-99≤b∧b≤99):LnO ((((([97,100,100,32]++y)++[32])++BF a)++[32])++BF b)∧((((([97,100,100,32]++y)++[32])++BF a)++[32])++BF b).length≤60:=by
 obtain ⟨h1,h2⟩:=SX _ hy
 have h3:=Au a
 have h4:=Au b
 refine ⟨V1 (a:=[97,100,100]) AE h1 (Lr ha) (Lr hb),?_⟩
 simp only [List.length_append,List.length_cons,List.length_nil] at h2 ⊢
 omega
theorem V4 {y:Str}{a b:Int}(hy:(⟨y⟩:Txt)∈V3) (ha:-99≤a∧a≤99) (hb:-99≤b∧b≤99):LnO ((((([97,115,107,32]++y)++[32])++BF a)++[32])++BF b)∧((((([97,115,107,32]++y)++[32])++BF a)++[32])++BF b).length≤60:=by
 obtain ⟨h1,h2⟩:=SY _ hy
 have h3:=Au a
 have h4:=Au b
 refine ⟨V1 (a:=[97,115,107]) AE h1 (Lr ha) (Lr hb),?_⟩
 simp only [List.length_append,List.length_cons,List.length_nil] at h2 ⊢
 omega
def oI:List Txt:=[⟨[102,108,117,115,104]⟩,⟨[102,108,117,115,104,32,49]⟩,⟨[102,108,117,115,104,32,48]⟩,⟨[109,101,114,103,101,32,48]⟩,⟨[109,101,114,103,101,32,49]⟩,⟨[109,101,114,103,101,32,48,32,49]⟩,⟨[109,101,114,103,101,32,48,32,50]⟩,⟨[102,97,108,108]⟩,⟨[112,97,114,116,115]⟩,⟨[119,104,97,116]⟩,⟨[]⟩,⟨[97,100,100,32,97,61,112]⟩,⟨[97,100,100,32,120,32,49,32,49]⟩,⟨[97,115,107]⟩,⟨[109,101,114,103,101]⟩,⟨[97,115,107,32,97,32,49,32,50]⟩]
theorem Xj:∀ y∈oI,((10:UInt8)∉y.s∧Bh (AZ y.s 32) 1∈WL)∧y.s.length≤60:=by decide
theorem O5 {y:Str}{l:List Txt}(hy:(⟨y⟩:Txt)∈l) (hl:∀ x∈l,x∈oI):LnO y∧y.length≤60:=Xj _ (hl _ hy)
end Go.Proofs.YtckdhcbbgmiccaaGreatDoor
