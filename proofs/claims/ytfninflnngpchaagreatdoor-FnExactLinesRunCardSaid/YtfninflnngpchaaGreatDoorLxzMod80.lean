/- Texts cut at a byte, numbers in words: plain laws. -/
import Derived.Test.YtfninflnngpchaaGreatDoorLxzMod42
import Derived.Lib.SplitLaws
import Derived.Lib.Atoi
import Derived.Lib.ItoaNum
import Derived.Lib.SlTrimSet
set_option linter.unusedVariables false
set_option linter.unusedSimpArgs false
namespace Go.Proofs.YtfninflnngpchaaGreatDoor
def F1 (c:UInt8):List UInt8→List (List UInt8)
 | []=>[[]]
 | x :: xs => if x = c then [] :: F1 c xs else match F1 c xs with
   | []=>[[x]]
   | y::ys=>(x::y)::ys
theorem LL (c:UInt8):∀ s,∃ y ys,F1 c s=y::ys:=by
 intro s
 cases s with
 | nil=>exact ⟨_,_,rfl⟩
 | cons x xs =>
   unfold F1
   split
   ·exact ⟨_,_,rfl⟩
   ·split
    ·exact ⟨_,_,rfl⟩
    ·exact ⟨_,_,rfl⟩
theorem YU (c:UInt8):∀ (s:List UInt8) (pre:List Txt) (a y:List UInt8) (ys:List (List UInt8)),F1 c s=y::ys→Gm c (pre++[⟨a⟩]) s=pre ++ ⟨a++y⟩ :: ys.map Txt.mk:=by
 intro s
 induction s with
 | nil =>
   intro pre a y ys h
   cases h
   simp [Gm]
 | cons x xs ih =>
   intro pre a y ys h
   obtain ⟨z,zs,hz⟩:=LL c xs
   unfold F1 at h
   unfold Gm
   by_cases hx:x=c
   ·rw [if_pos hx] at h
    cases h
    rw [if_pos hx,ih (pre++[(⟨a⟩:Txt)]) [] z zs hz,hz]
    simp
   ·rw [if_neg hx,hz] at h
    cases h
    rw [if_neg hx]
    have e:(pre++[(⟨a⟩:Txt)]).set ((pre++[(⟨a⟩:Txt)]).length - 1) ⟨((pre++[(⟨a⟩:Txt)]).getD ((pre++[(⟨a⟩:Txt)]).length - 1) ⟨[]⟩).s++[x]⟩=pre++[⟨a++[x]⟩]:=by simp
    rw [e,ih pre (a++[x]) z _ hz]
    simp
theorem OK (s:List UInt8) (c:UInt8):AZ s c=(F1 c s).map Txt.mk:=by
 obtain ⟨y,ys,h⟩:=LL c s
 have:=YU c s [] [] y ys h
 unfold AZ
 rw [h]
 simpa using this
theorem index_one (x c:UInt8) (l:List UInt8):Lib.index (x::l) [c]=if x=c then 0 else if Lib.index l [c] == -1 then -1 else Lib.index l [c]+1:=by
 rw [Lib.index]
 by_cases h:x=c
 ·subst h; simp [List.isPrefixOf]
 ·have hp:([c]:List UInt8).isPrefixOf (x::l)=false:=by simp [List.isPrefixOf,Ne.symm h]
  rw [hp,if_neg h]
  simp
theorem Wm (c:UInt8):∀ s,Lib.splitK [c] 0 (Lib.count s [c]) s=F1 c s:=by
 intro s
 induction s with
 | nil=>rw [Lib.count_miss (by simp [Lib.index])]; rfl
 | cons x xs ih =>
   unfold F1
   by_cases h:x=c
   ·subst h
    rw [if_pos rfl,Lib.count_cons_eq,Nat.add_comm,Lib.splitK,index_one,if_pos rfl]
    simp [ih]
   ·rw [if_neg h,Lib.count_cons_ne x c xs h,← ih]
    by_cases hm:Lib.index xs [c] = -1
    ·rw [Lib.count_miss hm]
     rfl
    ·have hge:=Lib.index_ge xs [c]
     obtain ⟨j,hj⟩:∃ j:Nat,Lib.index xs [c]=j:=⟨(Lib.index xs [c]).toNat,by omega⟩
     rw [Lib.count_hit AD hj,Nat.add_comm,Lib.splitK,Lib.splitK,index_one,if_neg h,hj]
     have e1:((j:Int) == -1)=false:=beq_eq_false_iff_ne.2 AB
     have e2:(((j:Int)+1) == -1)=false:=beq_eq_false_iff_ne.2 AB
     have e3:((j:Int)+1).toNat=j+1:=by omega
     simp only [e1,e2,e3,Bool.false_eq_true,if_false,Int.toNat_natCast,Nat.add_zero,List.take_succ_cons,List.length_cons,List.length_nil,List.drop_succ_cons]
def G9 (g:Int) (s:Str):Int:=if 1≤s.length∧s.length≤2 then (match Lib.decFrom 0 s with | some n=>g * (n:Int) | none=>-999) else -999
def BG (s:Str):Int:=if s.length > 1∧s[0]? = some 45 then G9 (-1) (s.drop 1) else G9 1 s
def Aw (ws:List Txt) (k:Nat):Int:=match ws[k]? with | some t=>BG t.s | none=>-999
def Bh (ws:List Txt) (k:Nat):Str:=match ws[k]? with | some t=>t.s | none=>[]
theorem Da {ws:List Txt}{k:Nat}{t:Txt}(h:ws[k]? = some t):Aw ws k=BG t.s:=by unfold Aw; rw [h]
theorem Wn {ws:List Txt}{k:Nat}(h:ws.length≤k):Aw ws k = -999:=by unfold Aw; rw [List.getElem?_eq_none h]
theorem MH {ws:List Txt}{k:Nat}{t:Txt}(h:ws[k]? = some t):Bh ws k=t.s:=by unfold Bh; rw [h]
theorem PX {ws:List Txt}{k:Nat}(h:ws.length≤k):Bh ws k=[]:=by unfold Bh; rw [List.getElem?_eq_none h]
theorem So (ws:List Txt) (k:Nat):Aw ws k=BG (Bh ws k):=by
 unfold Aw Bh
 cases ws[k]? with
 | none=>rfl
 | some t=>rfl
theorem MJ {b:UInt8}(h:48≤b.toNat∧b.toNat≤57):Lib.digitVal b=some (b.toNat - 48):=by unfold Lib.digitVal; rw [if_pos h]
theorem PY {b:UInt8}(h:¬ (48≤b.toNat∧b.toNat≤57)):Lib.digitVal b=none:=by unfold Lib.digitVal; rw [if_neg h]
theorem Wo:∀ (s:List UInt8) (a n:Nat),Lib.decFrom a s=some n→n< (a+1) * 10 ^ s.length:=by
 intro s
 induction s with
 | nil=>intro a n h; cases h; simp
 | cons b s ih =>
   intro a n h
   unfold Lib.decFrom at h
   cases hd:Lib.digitVal b with
   | none=>rw [hd] at h; cases h
   | some d =>
     rw [hd] at h
     have hd9:d≤9:=by
      unfold Lib.digitVal at hd
      split at hd
      ·cases hd; omega
      ·cases hd
     have h2:=ih _ _ h
     have h3:(a * 10+d+1) * 10 ^ s.length≤((a+1) * 10) * 10 ^ s.length:=Nat.mul_le_mul_right _ AB
     rw [List.length_cons,Nat.pow_succ]
     calc n< (a * 10+d+1) * 10 ^ s.length:=h2
      _≤((a+1) * 10) * 10 ^ s.length:=h3
      _=(a+1) * (10 ^ s.length * 10):=by rw [Nat.mul_assoc,Nat.mul_comm 10]
theorem Wp {s:Str}{i:Nat}{b:UInt8}{n:Nat}{Y:Option Nat}(h:Lib.decFrom n (s.drop i)=Y) (hd:s.drop i=b::s.drop (i+1)) (h1:¬ (b.toNat:Int)< 48) (h2:¬ (b.toNat:Int) > 57):Lib.decFrom (10 * n+(b.toNat - 48)) (s.drop (i+1))=Y:=by
 rw [hd] at h
 unfold Lib.decFrom at h
 rw [MJ AB] at h
 rw [Nat.mul_comm]
 exact h
theorem NT {s:Str}{i:Nat}{b:UInt8}{n:Nat}{Y:Option Nat}(h:Lib.decFrom n (s.drop i)=Y) (hd:s.drop i=b::s.drop (i+1)) (h1:(b.toNat:Int)< 48∨(b.toNat:Int) > 57):Y=none:=by
 rw [hd] at h
 unfold Lib.decFrom at h
 rw [PY AB] at h
 exact h.symm
theorem Qd {s:Str}{i:Nat}{n:Nat}{Y:Option Nat}(h:Lib.decFrom n (s.drop i)=Y) (hi:s.length≤i):Y=some n:=by
 rw [List.drop_of_length_le hi] at h
 exact h.symm
theorem JS {g:Int}{s:Str}(h:inR s.length 1 2=false):G9 g s = -999:=by
 unfold G9
 rw [if_neg]
 rintro ⟨h1,h2⟩
 unfold inR at h
 rw [decide_eq_true AB,decide_eq_true AB] at h
 cases h
theorem Re {g:Int}{s:Str}(h:inR s.length 1 2=true):G9 g s=match Lib.decFrom 0 s with | some n=>g * (n:Int) | none=>-999:=by
 have:=BW h
 unfold G9
 rw [if_pos ⟨by omega,by omega⟩]
theorem FY {g:Int}{s:Str}(h:inR s.length 1 2=true) (h2:Lib.decFrom 0 s=none):G9 g s = -999:=by rw [Re h,h2]
theorem PZ {g:Int}{s:Str}{n:Nat}(h:inR s.length 1 2=true) (h2:Lib.decFrom 0 s=some n):G9 g s=g * (n:Int):=by rw [Re h,h2]
theorem YV {s:Str}{b:UInt8}(h:(s.length:Int) > 1) (hb:s[0]? = some b) (h2:(b.toNat:Int)=45):BG s=G9 (-1) (s.drop 1):=by
 have e:b=45:=UInt8.toNat_inj.1 (by show b.toNat=45; omega)
 unfold BG
 rw [if_pos ⟨by omega,by rw [hb,e]⟩]
theorem Hb {s:Str}(h:¬ (s.length:Int) > 1∨∃ b,s[0]? = some b∧(b.toNat:Int)≠45):BG s=G9 1 s:=by
 unfold BG
 rw [if_neg]
 rintro ⟨h1,h3⟩
 rcases h with h | ⟨b,hb,h2⟩
 ·omega
 ·rw [hb] at h3
  cases h3
  exact h2 rfl
def FZ:Str:=[48,49,50,51,52,53,54,55,56,57]
theorem LM (b:UInt8):FZ.contains b=true↔48≤b.toNat∧b.toNat≤57:=by
 constructor
 ·intro h
  have:=List.contains_iff_mem.1 h
  simp only [FZ,List.mem_cons,List.not_mem_nil,or_false] at this
  rcases this with rfl | rfl | rfl | rfl | rfl | rfl | rfl | rfl | rfl | rfl <;> decide
 ·intro h
  refine List.contains_iff_mem.2 ?_
  have hb:b.toNat=48∨b.toNat=49∨b.toNat=50∨b.toNat=51∨b.toNat=52∨b.toNat=53∨b.toNat=54∨b.toNat=55∨b.toNat=56∨b.toNat=57:=by omega
  have key:∀ c:UInt8,b.toNat=c.toNat→c∈FZ→b∈FZ:=fun c e hc=>by rw [UInt8.toNat_inj.1 e]; exact hc
  rcases hb with e | e | e | e | e | e | e | e | e | e
  ·exact key 48 e AE
  ·exact key 49 e AE
  ·exact key 50 e AE
  ·exact key 51 e AE
  ·exact key 52 e AE
  ·exact key 53 e AE
  ·exact key 54 e AE
  ·exact key 55 e AE
  ·exact key 56 e AE
  ·exact key 57 e AE
theorem drop_nil {p:UInt8→Bool}:∀ (l:List UInt8),l.dropWhile p=[]↔∀ x∈l,p x=true:=by
 intro l
 induction l with
 | nil=>simp
 | cons x xs ih =>
   rw [List.dropWhile_cons]
   split
   ·rename_i h; rw [ih]; simp [h]
   ·rename_i h; simp [h]
theorem MK (s:Str):Lib.trimS s FZ=[]↔∀ x∈s,FZ.contains x=true:=by
 unfold Lib.trimS Lib.trimLeftS Lib.trimRightS
 rw [drop_nil]
 constructor
 ·intro h
  have h2:∀ x∈s.reverse.dropWhile (FZ.contains ·),FZ.contains x=true:=fun x hx=>h x (by simpa using hx)
  have h3:s.reverse.dropWhile (FZ.contains ·)=[]:=by
   cases hq:s.reverse.dropWhile (FZ.contains ·) with
   | nil=>rfl
   | cons y ys =>
     have a:=h2 y (by rw [hq]; simp)
     have b:=List.head?_dropWhile_not (fun x=>FZ.contains x) s.reverse
     rw [hq] at b
     simp only [List.head?_cons] at b
     rw [a] at b
     cases b
  have h4:=(drop_nil _).1 h3
  exact fun x hx=>h4 x (by simpa using hx)
 ·intro h x hx
  have:x∈s.reverse.dropWhile (FZ.contains ·):=by simpa using hx
  exact h x (by simpa using (List.dropWhile_sublist _).subset this)
theorem Pa:∀ (s:List UInt8) (a:Nat),(∀ x∈s,FZ.contains x=true)→∃ n,Lib.decFrom a s=some n:=by
 intro s
 induction s with
 | nil=>intro a _; exact ⟨a,rfl⟩
 | cons b s ih =>
   intro a h
   unfold Lib.decFrom
   rw [MJ ((LM b).1 (h b AD))]
   exact ih _ (fun x hx=>h x (by simp [hx]))
theorem Uq:∀ (s:List UInt8) (a:Nat),(¬ ∀ x∈s,FZ.contains x=true)→Lib.decFrom a s=none:=by
 intro s
 induction s with
 | nil=>intro a h; exact absurd AD h
 | cons b s ih =>
   intro a h
   unfold Lib.decFrom
   by_cases hb:FZ.contains b=true
   ·rw [MJ ((LM b).1 hb)]
    refine ih _ (fun h2=>h (fun x hx=>?_))
    rcases List.mem_cons.1 hx with rfl | hx
    ·exact hb
    ·exact h2 x hx
   ·rw [PY (fun h2=>hb ((LM b).2 h2))]
def Fa (s:Str):Int:=match Lib.decFrom 0 s with | some n=>(n:Int) | none=>0
theorem Rf {s:Str}(h:inR s.length 1 2=true) (h2:(Lib.trimS s FZ==[])=true):Lib.atoi s=some (Fa s):=by
 have h3:=(MK s).1 (eq_of_beq h2)
 have hl:=BW h
 cases s with
 | nil=>simp at hl
 | cons b s =>
   obtain ⟨n,hn⟩:=Pa (b::s) 0 h3
   have hb:=(LM b).1 (h3 b AD)
   have e1:(b==45)=false:=beq_eq_false_iff_ne.2 (fun e=>by subst e; revert hb; decide)
   have e2:(b==43)=false:=beq_eq_false_iff_ne.2 (fun e=>by subst e; revert hb; decide)
   unfold Lib.atoi Fa
   simp only [e1,e2,Bool.false_eq_true,if_false]
   unfold Lib.decNat
   rw [hn]
   rfl
theorem Pb {g:Int}{s:Str}(h:inR s.length 1 2=true) (h2:(Lib.trimS s FZ==[])=true):G9 g s=g * Fa s:=by
 obtain ⟨n,hn⟩:=Pa s 0 ((MK s).1 (eq_of_beq h2))
 rw [PZ h hn]
 unfold Fa
 rw [hn]
theorem Pc {g:Int}{s:Str}(h:inR s.length 1 2=true) (h2:(Lib.trimS s FZ==[])=false):G9 g s = -999:=FY h (Uq s 0 (fun h3=>by rw [(MK s).2 h3] at h2; simp at h2))
theorem Pd {s:Str}(h:inR s.length 1 2=true):0≤Fa s∧Fa s≤99:=by
 have hl:=BW h
 unfold Fa
 split
 ·rename_i n hn
  have h2:=Wo _ _ _ hn
  have:10 ^ s.length≤10 ^ 2:=Nat.pow_le_pow_right AB AB
  omega
 ·omega
def Pe (s:Str):Str × Bool:=if s[0]? = some 45 then (s.drop 1,true) else (s,false)
theorem ZY {s:Str}(h:(Pe s).2=true):BG s=G9 (-1) (Pe s).1:=by
 unfold Pe at h ⊢
 split at h
 ·rename_i h1
  rw [if_pos h1]
  by_cases hl:s.length > 1
  ·unfold BG; rw [if_pos ⟨hl,h1⟩]
  ·unfold BG
   rw [if_neg (fun h2=>hl h2.1)]
   match s,h1,hl with
   | [x], h1, _ =>
     simp at h1
     subst h1
     decide
   | x::y::r,_,hl=>simp at hl
 ·cases h
theorem ZZ {s:Str}(h:(Pe s).2=false):BG s=G9 1 (Pe s).1:=by
 unfold Pe at h ⊢
 split at h
 ·cases h
 ·rename_i h1
  rw [if_neg h1]
  unfold BG
  rw [if_neg (fun h2=>h1 h2.2)]
theorem MM (s:Str) (c:UInt8):-1≤Lib.indexByte s c∧Lib.indexByte s c< s.length:=by
 refine ⟨Lib.indexByte_ge s c,?_⟩
 induction s with
 | nil=>simp [Lib.indexByte]
 | cons x xs ih =>
   unfold Lib.indexByte
   rw [List.length_cons]
   split
   ·omega
   ·split
    ·omega
    ·omega
def Cu (s:Str) (c:UInt8):Str × Str × Bool:=if 0≤Lib.indexByte s c then (s.take (Lib.indexByte s c).toNat,s.drop ((Lib.indexByte s c).toNat+1),true) else (s,[],false)
theorem Qe {s sep:Str}(p1:sep.length=1) (h:Lib.indexByte s (sep.headD 0)≥0):Cu s (sep.headD 0)=((s.take (Lib.indexByte s (sep.headD 0)).toNat).drop 0,(s.take s.length).drop (Lib.indexByte s (sep.headD 0)+sep.length).toNat,true):=by
 unfold Cu
 rw [if_pos h,p1,List.take_length,List.drop_zero,show (Lib.indexByte s (sep.headD 0)+((1:Nat):Int)).toNat=(Lib.indexByte s (sep.headD 0)).toNat+1 by omega]
theorem Qf {s:Str}{c:UInt8}(h:¬ Lib.indexByte s c≥0):Cu s c=(s,[],false):=by unfold Cu; rw [if_neg h]
def K0 (s p:Str):Bool:=decide (p.length≤s.length)&&(s.take p.length==p)
def KH (s p:Str):Bool:=decide (p.length≤s.length)&&(s.drop (s.length - p.length)==p)
theorem Pf {s p:Str}(h:K0 s p=true):p.length≤s.length:=by
 unfold K0 at h
 simp only [AW,decide_eq_true_eq] at h
 exact h.1
theorem Hc {s p:Str}(h:KH s p=true):p.length≤s.length:=by
 unfold KH at h
 simp only [AW,decide_eq_true_eq] at h
 exact h.1
theorem Wq {s p:Str}(h:¬ (s.length:Int)≥p.length):false=K0 s p:=by unfold K0; rw [decide_eq_false AB]; rfl
theorem Ur {s p:Str}(h:(s.length:Int)≥p.length):((s.take p.length).drop 0==p)=K0 s p:=by unfold K0; rw [decide_eq_true AB,List.drop_zero]; rfl
theorem Wr {s p:Str}(h:¬ (s.length:Int)≥p.length):false=KH s p:=by unfold KH; rw [decide_eq_false AB]; rfl
theorem Us {s p:Str}(h:(s.length:Int)≥p.length):((s.take s.length).drop ((s.length:Int) - p.length).toNat==p)=KH s p:=by unfold KH; rw [decide_eq_true AB,List.take_length,show ((s.length:Int) - p.length).toNat=s.length - p.length by omega]; rfl
def Bg (s p:Str):Str × Bool:=if K0 s p then (s.drop p.length,true) else (s,false)
def Db (s p:Str):Str × Bool:=if KH s p then (s.take (s.length - p.length),true) else (s,false)
theorem Ut {s p:Str}(h:K0 s p=true):Bg s p=((s.take s.length).drop p.length,true):=by unfold Bg; rw [if_pos h,List.take_length]
theorem Uu {s p:Str}(h:K0 s p=false):Bg s p=(s,false):=by unfold Bg; rw [if_neg (by simp [h])]
theorem Uv {s p:Str}(h:KH s p=true):Db s p=((s.take ((s.length:Int) - p.length).toNat).drop 0,true):=by
 have:=Hc h
 unfold Db
 rw [if_pos h,List.drop_zero,show ((s.length:Int) - p.length).toNat=s.length - p.length by omega]
theorem Uw {s p:Str}(h:KH s p=false):Db s p=(s,false):=by unfold Db; rw [if_neg (by simp [h])]
theorem Rh (s:Str):Bg s [45]=Pe s:=by
 cases s with
 | nil=>rfl
 | cons x xs =>
   unfold Bg Pe K0
   by_cases h:x=45
   ·subst h; simp
   ·simp [h]
def OL (u:Nat):Str:=if u< 10 then [UInt8.ofNat (48+u)] else [UInt8.ofNat (48+u / 10),UInt8.ofNat (48+u % 10)]
def Bs (n:Int):Str:=if n< 0 then 45::OL n.natAbs else OL n.toNat
theorem Ri {u:Nat}(h:u< 100):Lib.decDigits u=OL u:=by
 unfold OL
 split
 ·rename_i h1
  rw [Lib.decDigits,dif_pos h1]
 ·rename_i h1
  rw [Lib.decDigits,dif_neg h1,Lib.decDigits,dif_pos AB]
  rfl
def l6m (n:Int):Nat:=if n< 0 then n.natAbs+1000 else n.toNat
theorem Za {n:Int}(h:n< 0) (h2:-99≤n∧n≤99:=by assumption):l6m (0 - n)< l6m n:=by
 unfold l6m
 rw [if_neg AB,if_pos h]
 omega
theorem NU {n:Int}(h:0≤n):Int.tdiv n 10=n / 10∧Int.tmod n 10=n % 10:=⟨Int.tdiv_eq_ediv_of_nonneg h,Int.tmod_eq_emod_of_nonneg h⟩
theorem Zb {n:Int}(h:¬ n< 0) (h2:¬ n< 10):l6m (Int.tdiv n 10)< l6m n:=by
 have:=NU (n:=n) AB
 unfold l6m
 rw [if_neg AB,if_neg AB]
 omega
theorem YW {n:Int}(h:n< 0):[45]++Bs (0 - n)=Bs n:=by
 unfold Bs
 rw [if_neg AB,if_pos h,show (0 - n).toNat=n.natAbs by omega]
 rfl
theorem YX {n:Int}{b:UInt8}(h:¬ n< 0) (h2:n< 10) (hb:(b.toNat:Int)=48+n):[b]=Bs n:=by
 have e:b=UInt8.ofNat (48+n.toNat):=UInt8.toNat_inj.1 (by rw [UInt8.toNat_ofNat']; omega)
 unfold Bs OL
 rw [if_neg h,if_pos AB,e]
theorem YY {n:Int}{b:UInt8}(h:¬ n< 0) (h2:¬ n< 10) (hb:(b.toNat:Int)=48+Int.tmod n 10) (hr:-99≤n∧n≤99):Bs (Int.tdiv n 10)++[b]=Bs n:=by
 have q:=NU (n:=n) AB
 have e:b=UInt8.ofNat (48+n.toNat % 10):=UInt8.toNat_inj.1 (by rw [UInt8.toNat_ofNat']; omega)
 unfold Bs OL
 rw [if_neg AB,if_pos AB,if_neg h,if_neg AB,e,show (Int.tdiv n 10).toNat=n.toNat / 10 by omega]
 rfl
theorem YZ {n:Int}(h:-99≤n∧n≤99):Lib.itoa n=Bs n:=by
 unfold Lib.itoa Bs
 split
 ·rw [Ri AB]
 ·rw [Ri AB]
end Go.Proofs.YtfninflnngpchaaGreatDoor
namespace Go.Proofs.YtfninflnngpchaaGreatDoor
def Ml (s:Str):Str × Str × Bool:=Cu s 61
def KI (s:Str):Tag:=⟨(Ml s).1,(Ml s).2.1⟩
def E5 (s:Str):List Tag:=(AZ s 44).map (fun t=>KI t.s)
def BQ (s:Str):List Tag × Bool:=if s=[]∨D9 (E5 s)≠s then ([],false) else (E5 s,true)
def Ux (s:Str):Str × Bool:=Db s [33]
def Ij (s:Str):Cnd:=⟨⟨(Ux (Ml s).1).1,(Ml s).2.1⟩,(Ux (Ml s).1).2⟩
def EC (s:Str):List Cnd:=(AZ s 44).map (fun t=>Ij t.s)
def cwT (c:Cnd):Txt:=⟨c.tag.key++(if c.no then [33,61] else [61])++c.tag.val⟩
def H7 (f:List Cnd):Str:=if Bt f then (if f.length=0 then [42] else Lib.join ((f.map cwT).map Txt.s) [44]) else []
def CW (s:Str):List Cnd × Bool:=if s=[42] then ([],true) else if s=[]∨H7 (EC s)≠s then ([],false) else (EC s,true)
def EU (s:Str):Bool:=match CD [] (Ax s).1 with
 | some out=>(Ax s).2&&Ao out
 | none=>false
section
variable {w:Str}
theorem OM (h:(Bg w [45]).2=true):BG w=G9 (-1) (Bg w [45]).1:=by rw [Rh] at h ⊢; exact ZY h
theorem ON (h:(Bg w [45]).2=false):BG w=G9 1 (Bg w [45]).1:=by rw [Rh] at h ⊢; exact ZZ h
theorem Pg (h:inR (Bg w [45]).1.length 1 2=false):BG w = -999:=by
 cases hm:(Bg w [45]).2 with
 | true=>rw [OM hm,JS h]
 | false=>rw [ON hm,JS h]
theorem NW (h:inR (Bg w [45]).1.length 1 2=true) (h2:(Lib.trimS (Bg w [45]).1 FZ==[])=false):BG w = -999:=by
 cases hm:(Bg w [45]).2 with
 | true=>rw [OM hm,Pc h h2]
 | false=>rw [ON hm,Pc h h2]
theorem Ya (h:inR (Bg w [45]).1.length 1 2=true) (h2:(Lib.trimS (Bg w [45]).1 FZ==[])=true) (hm:(Bg w [45]).2=true):BG w=0 - Fa (Bg w [45]).1:=by
 rw [OM hm,Pb h h2]
 omega
theorem Yb (h:inR (Bg w [45]).1.length 1 2=true) (h2:(Lib.trimS (Bg w [45]).1 FZ==[])=true) (hm:(Bg w [45]).2=false):BG w=Fa (Bg w [45]).1:=by
 rw [ON hm,Pb h h2]
 omega
theorem Ph (h:CD [] (Ax w).1=none):EU w=false:=by unfold EU; rw [h]
theorem NX {out:List Tag}{i:Nat}(h:CD out ((Ax w).1.drop i)=CD [] (Ax w).1) (hi:(Ax w).1.length≤i):EU w=((Ax w).2&&Ao out):=by
 rw [Ac hi] at h
 unfold EU
 rw [← h]
 rfl
theorem Pj {out:List Tag}{i:Nat}(h:CD out ((Ax w).1.drop i)=CD [] (Ax w).1) (hi:(Ax w).1.length≤i) (h2:(Ax w).2=false∨Ao out=false):EU w=false:=by
 rw [NX h hi]
 rcases h2 with h2 | h2 <;> rw [h2] <;> simp
theorem Uy {out:List Tag}{i:Nat}(h:CD out ((Ax w).1.drop i)=CD [] (Ax w).1) (hi:(Ax w).1.length≤i) (h2:(Ax w).2=true) (h3:Ao out=true):EU w=true:=by
 rw [NX h hi,h2,h3]
 rfl
theorem MN (s:Str) (c:UInt8):(Cu s c).1.length≤s.length∧(Cu s c).2.1.length≤s.length:=by
 unfold Cu
 split
 ·simp only [List.length_take,List.length_drop]; omega
 ·simp
theorem Uz (s p:Str):(Db s p).1.length≤s.length:=by
 unfold Db
 split
 ·simp only [List.length_take]; omega
 ·simp
theorem Sq {out:List Tag}{ts:List Txt}{i:Nat}{t:Txt}{Y:List Tag}(h:out++(ts.drop i).map (fun t=>KI t.s)=Y) (hd:ts.drop i=t::ts.drop (i+1)):(out++[⟨(Cu t.s 61).1,(Cu t.s 61).2.1⟩])++(ts.drop (i+1)).map (fun t=>KI t.s)=Y:=by
 rw [hd] at h
 rw [← h]
 simp [KI,Ml]
theorem CH {α β:Type}{f:α→β}{out:List β}{ts:List α}{i:Nat}{Y:List β}(h:out++(ts.drop i).map f=Y) (hi:ts.length≤i):out=Y:=by
 rw [List.drop_of_length_le hi] at h
 simpa using h
theorem Ws (h:w.length≤999):Fw (E5 w):=by
 obtain ⟨h1,h2⟩:=BK w 44
 refine ⟨by unfold E5; rw [List.length_map]; omega,fun t ht=>?_⟩
 unfold E5 at ht
 obtain ⟨x,hx,rfl⟩:=List.mem_map.1 ht
 have h3:=h1 x hx
 have h4:=MN x.s 61
 show (Cu x.s 61).1.length≤1000∧(Cu x.s 61).2.1.length≤1000
 omega
theorem JT (h:(w==[])=true∨(D9 (E5 w)==w)=false):BQ w=([],false):=by
 unfold BQ
 rw [if_pos]
 rcases h with h | h
 ·exact .inl (eq_of_beq h)
 ·exact .inr (beq_eq_false_iff_ne.1 h)
theorem NY (h:(w==[])=false) (h2:(D9 (E5 w)==w)=true):BQ w=(E5 w,true):=by
 unfold BQ
 rw [if_neg]
 rintro (h3 | h3)
 ·exact beq_eq_false_iff_ne.1 h h3
 ·exact h3 (eq_of_beq h2)
theorem Sr {out:List Cnd}{ts:List Txt}{i:Nat}{t:Txt}{Y:List Cnd}(h:out++(ts.drop i).map (fun t=>Ij t.s)=Y) (hd:ts.drop i=t::ts.drop (i+1)):(out++[⟨⟨(Db (Cu t.s 61).1 [33]).1,(Cu t.s 61).2.1⟩,(Db (Cu t.s 61).1 [33]).2⟩])++(ts.drop (i+1)).map (fun t=>Ij t.s)=Y:=by
 rw [hd] at h
 rw [← h]
 simp [Ij,Ml,Ux]
def U0 (f:List Cnd):Prop:=f.length≤1000∧∀ c∈f,c.tag.key.length≤1000∧c.tag.val.length≤1000
theorem Wt (h:w.length≤999):U0 (EC w):=by
 obtain ⟨h1,h2⟩:=BK w 44
 refine ⟨by unfold EC; rw [List.length_map]; omega,fun t ht=>?_⟩
 unfold EC at ht
 obtain ⟨x,hx,rfl⟩:=List.mem_map.1 ht
 have h3:=h1 x hx
 have h4:=MN x.s 61
 have h5:=Uz (Cu x.s 61).1 [33]
 show (Db (Cu x.s 61).1 [33]).1.length≤1000∧(Cu x.s 61).2.1.length≤1000
 omega
theorem MO (h:(w==[42])=true):CW w=([],true):=by unfold CW; rw [if_pos (eq_of_beq h)]
theorem JU (h0:(w==[42])=false) (h:(w==[])=true∨(H7 (EC w)==w)=false):CW w=([],false):=by
 unfold CW
 rw [if_neg (beq_eq_false_iff_ne.1 h0),if_pos]
 rcases h with h | h
 ·exact .inl (eq_of_beq h)
 ·exact .inr (beq_eq_false_iff_ne.1 h)
theorem NZ (h0:(w==[42])=false) (h:(w==[])=false) (h2:(H7 (EC w)==w)=true):CW w=(EC w,true):=by
 unfold CW
 rw [if_neg (beq_eq_false_iff_ne.1 h0),if_neg]
 rintro (h3 | h3)
 ·exact beq_eq_false_iff_ne.1 h h3
 ·exact h3 (eq_of_beq h2)
end
section
variable {f:List Cnd}
theorem Rj (h:Bt f=false):H7 f=[]:=by unfold H7; rw [if_neg (by simp [h])]
theorem Yc (h:Bt f=true) (h2:(f.length:Int)=0):H7 f=[42]:=by unfold H7; rw [if_pos h,if_pos AB]
theorem U1 {k:List Txt}{i:Nat}(h:Bt f=true) (h2:¬ (f.length:Int)=0) (hk:k++(f.drop i).map cwT=f.map cwT) (hi:f.length≤i):H7 f=Lib.join (k.map Txt.s) [44]:=by
 unfold H7
 rw [if_pos h,if_neg AB,CH hk hi]
theorem Wu {k:List Txt}{i:Nat}{c:Cnd}(h:k++(f.drop i).map cwT=f.map cwT) (hd:f.drop i=c::f.drop (i+1)) (hn:c.no=true):(k++[⟨c.tag.key++[33,61]++c.tag.val⟩])++(f.drop (i+1)).map cwT=f.map cwT:=by
 rw [hd] at h
 rw [← h]
 simp [cwT,hn]
theorem Wv {k:List Txt}{i:Nat}{c:Cnd}(h:k++(f.drop i).map cwT=f.map cwT) (hd:f.drop i=c::f.drop (i+1)) (hn:c.no=false):(k++[⟨c.tag.key++[61]++c.tag.val⟩])++(f.drop (i+1)).map cwT=f.map cwT:=by
 rw [hd] at h
 rw [← h]
 simp [cwT,hn]
theorem U2 {k:List Txt}{i:Nat}(hs:U0 f) (hk:k++(f.drop i).map cwT=f.map cwT) (hi:f.length≤i):(Lib.join (k.map Txt.s) [44]).length≤100000000000∧k.length≤1000000:=by
 have e:=CH hk hi
 subst e
 have h1:=hs.1
 refine ⟨?_,by rw [List.length_map]; omega⟩
 have key:∀ (l:List Cnd),(∀ c∈l,c.tag.key.length≤1000∧c.tag.val.length≤1000)→(Lib.joinTail [44] ((l.map cwT).map Txt.s)).length≤2003 * l.length:=by
  intro l
  induction l with
  | nil=>intro _; simp [Lib.joinTail]
  | cons c cs ih =>
    intro hl
    have h2:=ih (fun x hx=>hl x (by simp [hx]))
    have h3:=hl c AD
    have e2:Lib.joinTail [44] (((c::cs).map cwT).map Txt.s)=44::(cwT c).s++Lib.joinTail [44] ((cs.map cwT).map Txt.s):=by simp [Lib.joinTail]
    have h4:(cwT c).s.length≤2002:=by
     unfold cwT
     simp only [List.length_append]
     split <;> simp only [List.length_cons,List.length_nil] <;> omega
    rw [e2]
    simp only [List.length_append,List.length_cons]
    omega
 cases f with
 | nil=>simp [Lib.join,List.intercalate]
 | cons c cs =>
   have h2:=key cs (fun x hx=>hs.2 x (by simp [hx]))
   have h3:=hs.2 c AD
   have h4:(cwT c).s.length≤2002:=by
    unfold cwT
    simp only [List.length_append]
    split <;> simp only [List.length_cons,List.length_nil] <;> omega
   rw [List.map_cons,List.map_cons,Lib.join_cons,List.length_append]
   rw [List.length_cons] at h1
   omega
end
def Pk (r:Row):Str:=[32]++Bs r.t++[58]++Bs r.v
def GU (rs:List Row):Str:=rs.flatMap Pk
def Ww (h:Hit):Str:=h.name++GU h.rows++[10]
def Cl (hs:List Hit):Str:=hs.flatMap Ww
structure HitD (h:Hit):Prop where
 n:h.name.length≤100
 l:h.rows.length≤100
 r:∀ r∈h.rows,(-99≤r.t∧r.t≤99) ∧ -99≤r.v∧r.v≤99
theorem Pl (u:Nat):1≤(OL u).length∧(OL u).length≤2:=by unfold OL; split <;> simp
theorem BP (n:Int):1≤(Bs n).length∧(Bs n).length≤3:=by
 unfold Bs
 split
 ·have:=Pl n.natAbs; simp only [List.length_cons]; omega
 ·have:=Pl n.toNat; omega
theorem MP (r:Row):(Pk r).length≤8:=by
 have h1:=BP r.t
 have h2:=BP r.v
 unfold Pk
 simp only [List.length_append,List.length_cons,List.length_nil]
 omega
theorem Su (rs:List Row):(GU rs).length≤8 * rs.length:=by
 unfold GU
 induction rs with
 | nil=>simp
 | cons r rs ih =>
   have:=MP r
   rw [List.flatMap_cons,List.length_append,List.length_cons]
   omega
theorem U3 {h:Hit}(q:HitD h):(Ww h).length≤901:=by
 have h1:=Su h.rows
 have h2:=q.n
 have h3:=q.l
 unfold Ww
 simp only [List.length_append,List.length_cons,List.length_nil]
 omega
theorem Na {hs:List Hit}(q:∀ h∈hs,HitD h):(Cl hs).length≤901 * hs.length:=by
 unfold Cl
 induction hs with
 | nil=>simp
 | cons h hs ih =>
   have h1:=U3 (q h AD)
   have h2:=ih (fun x hx=>q x (by simp [hx]))
   rw [List.flatMap_cons,List.length_append,List.length_cons]
   omega
theorem Rk {rs:List Row}{k:Nat}{r:Row}{out Y a:Str}(h:out++GU (rs.drop k)=Y) (hd:rs.drop k=r::rs.drop (k+1)) (ha:a=out++Pk r):a++GU (rs.drop (k+1))=Y:=by
 rw [hd] at h
 rw [ha,← h]
 simp [GU]
theorem U4 {rs:List Row}{k:Nat}{out Y:Str}(h:out++GU (rs.drop k)=Y) (hk:rs.length≤k):out=Y:=by
 rw [Ac hk] at h
 simpa [GU] using h
theorem Rl {hs:List Hit}{k:Nat}{h:Hit}{out o1 Y a:Str}(q:out++Cl (hs.drop k)=Y) (hd:hs.drop k=h::hs.drop (k+1)) (ho:o1=(out++h.name)++GU h.rows) (ha:a=o1++[10]):a++Cl (hs.drop (k+1))=Y:=by
 rw [hd] at q
 rw [ha,ho,← q]
 simp [Cl,Ww]
theorem U5 {hs:List Hit}{k:Nat}{out Y:Str}(h:out++Cl (hs.drop k)=Y) (hk:hs.length≤k):out=Y:=by
 rw [Ac hk] at h
 simpa [Cl] using h
theorem E2 {s:Sto}(hs:SD s) (hk:Aa s=true) (f:List Cnd) (lo hi:Int):(∀ h∈By s f lo hi,HitD h)∧(By s f lo hi).length≤6:=by
 unfold By
 split
 ·unfold FW
  have hl:=J8 (fits f) s.idx.names 0
  have hn:=hs.nm.len
  have key:∀ (q:List Int),(∀ i∈q,1≤i∧i≤s.idx.names.length)→(∀ h∈q.flatMap (DH s lo hi),HitD h)∧(q.flatMap (DH s lo hi)).length≤q.length:=by
   intro q
   induction q with
   | nil=>intro _; exact ⟨by simp,by simp⟩
   | cons i is ih =>
     intro hq
     obtain ⟨a,b⟩:=ih (fun j hj=>hq j (by simp [hj]))
     have hi1:=hq i AD
     have h1:(∀ h∈DH s lo hi i,HitD h)∧(DH s lo hi i).length≤1:=by
      unfold DH
      split
      ·refine ⟨fun h hh=>?_,by simp⟩
       simp only [List.mem_cons,List.not_mem_nil,or_false] at hh
       subst hh
       have e:s.idx.names[(i - 1).toNat]? = some (s.idx.names.getD (i - 1).toNat []):=by
        rw [List.getD_eq_getElem?_getD,AU AB]
        rfl
       have hm:=AV e
       have ho:=hs.nm.ok _ hm
       refine ⟨?_,?_,fun r hr=>?_⟩
       ·show (text _).length≤100
        have h3:(s.idx.names.getD (i - 1).toNat []).length≤3:=by
         unfold Ao at ho
         simp only [AW] at ho
         have:=BW ho.2
         omega
        have key2:∀ (n:List Tag) (j:Nat),(∀ t∈n,Bj t=true)→(D5 j n).length≤4 * n.length:=by
         intro n
         induction n with
         | nil=>intro j _; simp [D5]
         | cons t ts ih2 =>
           intro j ht
           obtain ⟨x,y,rfl⟩:=Tn (ht t AD)
           have:=ih2 (j+1) (fun u hu=>ht u (by simp [hu]))
           unfold D5 Gw
           simp only [List.length_append,List.length_cons,List.length_nil]
           split <;> simp only [List.length_cons,List.length_nil] <;> omega
        have:=key2 _ 0 (Fq ho)
        unfold text
        omega
       ·show (HW _ lo hi).length≤100
        have:=X4 hs hk hi1.1
        have h4:(HW (rowsOf s i) lo hi).length≤(rowsOf s i).length:=List.length_filter_le _ _
        omega
       ·have hr2:r∈rowsOf s i:=(List.mem_filter.1 hr).1
        have hb:Blk (rowsOf s i):=(StoK.of hs hk).J4.blk _
        have h5:=hb.rows r hr2
        have h6:=LA h5
        have h7:=Q7 h5
        omega
      ·exact ⟨by simp,by simp⟩
     refine ⟨fun h hh=>?_,?_⟩
     ·rw [List.flatMap_cons] at hh
      rcases List.mem_append.1 hh with hh | hh
      ·exact h1.1 h hh
      ·exact a h hh
     ·rw [List.flatMap_cons,List.length_append,List.length_cons]
      omega
  obtain ⟨a,b⟩:=key _ (fun i hi=>Cp hi)
  exact ⟨a,by omega⟩
 ·exact ⟨by simp,by simp⟩
def IJ:Str:=[119,104,97,116,10]
def Zc:Str:=[97,108,108,10]
def U6:Str:=[116,111,111,32,108,111,110,103,10]
def OO (w:Wld):Str:=Bs w.store.parts.length++[32]++Bs w.store.mem.length++[32]++Bs w.disk.files.length++[10]
def evA (ws:List Txt):Evt:=⟨1,0,0,Cy (Bh ws 1),⟨Aw ws 2,Aw ws 3⟩⟩
def evF (ws:List Txt):Evt:=⟨2,0,if ws.length=1 then 9 else Aw ws 1,[],⟨0,0⟩⟩
def evM (ws:List Txt):Evt:=⟨3,Aw ws 1,if ws.length< 3 then 9 else Aw ws 2,[],⟨0,0⟩⟩
def Fb (w:Wld) (ws:List Txt):Wld × Str :=
 if Bh ws 0=[97,100,100] then (if EU (Bh ws 1) then (doW w (evA ws),[]) else (w,IJ))
 else if Bh ws 0=[102,108,117,115,104] then (doW w (evF ws),[])
 else if Bh ws 0=[109,101,114,103,101] then (doW w (evM ws),[])
 else if Bh ws 0=[102,97,108,108] then (doW w ⟨4,0,0,[],⟨0,0⟩⟩,[])
 else if Bh ws 0=[97,115,107] then (if (Ax (Bh ws 1)).2 then (w,Cl (By w.store (Ax (Bh ws 1)).1 (Aw ws 2) (Aw ws 3))) else (w,IJ))
 else if Bh ws 0=[112,97,114,116,115] then (w,OO w)
 else (w,IJ)
def Au (w:Wld) (l:Str):Wld × Str:=Fb w (AZ l 32)
def lnS (p:Wld × Str) (t:Txt):Wld × Str:=((Au p.1 t.s).1,p.2++(Au p.1 t.s).2)
def Z4 (p:Wld × Str):Str:=p.2++Zc++Cl (By p.1.store [] 0 99)
def D1 (t:Str):List Txt:=(AZ t 10).take ((AZ t 10).length - 1)
def Fc (t:Str):Str:=if t.length > 600 then U6 else Z4 ((D1 t).foldl lnS (Ee,[]))
def LnD (l:Str):Prop:=l.length≤999
def Yd (t:Str):Prop:=∀ l∈D1 t,LnD l.s
end Go.Proofs.YtfninflnngpchaaGreatDoor
