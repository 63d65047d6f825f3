/- Texts cut at a byte, numbers in words: plain laws. -/
import Derived.Test.YtckdhcbbgmiccaaGreatDoorLdzMod42
import Derived.Lib.SplitLaws
import Derived.Lib.Atoi
import Derived.Lib.ItoaNum
import Derived.Lib.SlTrimSet
set_option linter.unusedVariables false
set_option linter.unusedSimpArgs false
namespace Go.Proofs.YtckdhcbbgmiccaaGreatDoor
def Iu (c:UInt8):List UInt8→List (List UInt8)
 | []=>[[]]
 | x :: xs => if x = c then [] :: Iu c xs else match Iu c xs with
   | []=>[[x]]
   | y::ys=>(x::y)::ys
theorem On (c:UInt8):∀ s,∃ y ys,Iu c s=y::ys:=by
 intro s
 cases s with
 | nil=>exact ⟨_,_,rfl⟩
 | cons x xs =>
   unfold Iu
   split
   ·exact ⟨_,_,rfl⟩
   ·split
    ·exact ⟨_,_,rfl⟩
    ·exact ⟨_,_,rfl⟩
theorem Y5 (c:UInt8):∀ (s:List UInt8) (pre:List Txt) (a y:List UInt8) (ys:List (List UInt8)),Iu c s=y::ys→HN c (pre++[⟨a⟩]) s=pre ++ ⟨a++y⟩ :: ys.map Txt.mk:=by
 intro s
 induction s with
 | nil =>
   intro pre a y ys h
   cases h
   simp [HN]
 | cons x xs ih =>
   intro pre a y ys h
   obtain ⟨z,zs,hz⟩:=On c xs
   unfold Iu at h
   unfold HN
   by_cases hx:x=c
   ·rw [if_pos hx] at h
    cases h
    rw [if_pos hx,ih (pre++[(⟨a⟩:Txt)]) [] z zs hz,hz]
    simp
   ·rw [if_neg hx,hz] at h
    cases h
    rw [if_neg hx]
    have e:(pre++[(⟨a⟩:Txt)]).set ((pre++[(⟨a⟩:Txt)]).length - 1) ⟨((pre++[(⟨a⟩:Txt)]).getD ((pre++[(⟨a⟩:Txt)]).length - 1) ⟨[]⟩).s++[x]⟩=pre++[⟨a++[x]⟩]:=by simp
    rw [e,ih pre (a++[x]) z _ hz]
    simp
theorem Oo (s:List UInt8) (c:UInt8):AZ s c=(Iu c s).map Txt.mk:=by
 obtain ⟨y,ys,h⟩:=On c s
 have:=Y5 c s [] [] y ys h
 unfold AZ
 rw [h]
 simpa using this
theorem index_one (x c:UInt8) (l:List UInt8):Lib.index (x::l) [c]=if x=c then 0 else if Lib.index l [c] == -1 then -1 else Lib.index l [c]+1:=by
 rw [Lib.index]
 by_cases h:x=c
 ·subst h; simp [List.isPrefixOf]
 ·have hp:([c]:List UInt8).isPrefixOf (x::l)=false:=by simp [List.isPrefixOf,Ne.symm h]
  rw [hp,if_neg h]
  simp
theorem XO (c:UInt8):∀ s,Lib.splitK [c] 0 (Lib.count s [c]) s=Iu c s:=by
 intro s
 induction s with
 | nil=>rw [Lib.count_miss (by simp [Lib.index])]; rfl
 | cons x xs ih =>
   unfold Iu
   by_cases h:x=c
   ·subst h
    rw [if_pos rfl,Lib.count_cons_eq,Nat.add_comm,Lib.splitK,index_one,if_pos rfl]
    simp [ih]
   ·rw [if_neg h,Lib.count_cons_ne x c xs h,← ih]
    by_cases hm:Lib.index xs [c] = -1
    ·rw [Lib.count_miss hm]
     rfl
    ·have hge:=Lib.index_ge xs [c]
     obtain ⟨j,hj⟩:∃ j:Nat,Lib.index xs [c]=j:=⟨(Lib.index xs [c]).toNat,by omega⟩
     rw [Lib.count_hit AD hj,Nat.add_comm,Lib.splitK,Lib.splitK,index_one,if_neg h,hj]
     have e1:((j:Int) == -1)=false:=beq_eq_false_iff_ne.2 AB
     have e2:(((j:Int)+1) == -1)=false:=beq_eq_false_iff_ne.2 AB
     have e3:((j:Int)+1).toNat=j+1:=by omega
     simp only [e1,e2,e3,Bool.false_eq_true,if_false,Int.toNat_natCast,Nat.add_zero,List.take_succ_cons,List.length_cons,List.length_nil,List.drop_succ_cons]
def HP (g:Int) (s:Str):Int:=if 1≤s.length∧s.length≤2 then (match Lib.decFrom 0 s with | some n=>g * (n:Int) | none=>-999) else -999
def BK (s:Str):Int:=if s.length > 1∧s[0]? = some 45 then HP (-1) (s.drop 1) else HP 1 s
def Az (ws:List Txt) (k:Nat):Int:=match ws[k]? with | some t=>BK t.s | none=>-999
def Bh (ws:List Txt) (k:Nat):Str:=match ws[k]? with | some t=>t.s | none=>[]
theorem Dl {ws:List Txt}{k:Nat}{t:Txt}(h:ws[k]? = some t):Az ws k=BK t.s:=by unfold Az; rw [h]
theorem XP {ws:List Txt}{k:Nat}(h:ws.length≤k):Az ws k = -999:=by unfold Az; rw [List.getElem?_eq_none h]
theorem Mg {ws:List Txt}{k:Nat}{t:Txt}(h:ws[k]? = some t):Bh ws k=t.s:=by unfold Bh; rw [h]
theorem P4 {ws:List Txt}{k:Nat}(h:ws.length≤k):Bh ws k=[]:=by unfold Bh; rw [List.getElem?_eq_none h]
theorem TR (ws:List Txt) (k:Nat):Az ws k=BK (Bh ws k):=by
 unfold Az Bh
 cases ws[k]? with
 | none=>rfl
 | some t=>rfl
theorem Mh {b:UInt8}(h:48≤b.toNat∧b.toNat≤57):Lib.digitVal b=some (b.toNat - 48):=by unfold Lib.digitVal; rw [if_pos h]
theorem P5 {b:UInt8}(h:¬ (48≤b.toNat∧b.toNat≤57)):Lib.digitVal b=none:=by unfold Lib.digitVal; rw [if_neg h]
theorem XQ:∀ (s:List UInt8) (a n:Nat),Lib.decFrom a s=some n→n< (a+1) * 10 ^ s.length:=by
 intro s
 induction s with
 | nil=>intro a n h; cases h; simp
 | cons b s ih =>
   intro a n h
   unfold Lib.decFrom at h
   cases hd:Lib.digitVal b with
   | none=>rw [hd] at h; cases h
   | some d =>
     rw [hd] at h
     have hd9:d≤9:=by
      unfold Lib.digitVal at hd
      split at hd
      ·cases hd; omega
      ·cases hd
     have h2:=ih _ _ h
     have h3:(a * 10+d+1) * 10 ^ s.length≤((a+1) * 10) * 10 ^ s.length:=Nat.mul_le_mul_right _ AB
     rw [List.length_cons,Nat.pow_succ]
     calc n< (a * 10+d+1) * 10 ^ s.length:=h2
      _≤((a+1) * 10) * 10 ^ s.length:=h3
      _=(a+1) * (10 ^ s.length * 10):=by rw [Nat.mul_assoc,Nat.mul_comm 10]
theorem XR {s:Str}{i:Nat}{b:UInt8}{n:Nat}{Y:Option Nat}(h:Lib.decFrom n (s.drop i)=Y) (hd:s.drop i=b::s.drop (i+1)) (h1:¬ (b.toNat:Int)< 48) (h2:¬ (b.toNat:Int) > 57):Lib.decFrom (10 * n+(b.toNat - 48)) (s.drop (i+1))=Y:=by
 rw [hd] at h
 unfold Lib.decFrom at h
 rw [Mh AB] at h
 rw [Nat.mul_comm]
 exact h
theorem N2 {s:Str}{i:Nat}{b:UInt8}{n:Nat}{Y:Option Nat}(h:Lib.decFrom n (s.drop i)=Y) (hd:s.drop i=b::s.drop (i+1)) (h1:(b.toNat:Int)< 48∨(b.toNat:Int) > 57):Y=none:=by
 rw [hd] at h
 unfold Lib.decFrom at h
 rw [P5 AB] at h
 exact h.symm
theorem RA {s:Str}{i:Nat}{n:Nat}{Y:Option Nat}(h:Lib.decFrom n (s.drop i)=Y) (hi:s.length≤i):Y=some n:=by
 rw [List.drop_of_length_le hi] at h
 exact h.symm
theorem Jl {g:Int}{s:Str}(h:inR s.length 1 2=false):HP g s = -999:=by
 unfold HP
 rw [if_neg]
 rintro ⟨h1,h2⟩
 unfold inR at h
 rw [decide_eq_true AB,decide_eq_true AB] at h
 cases h
theorem SJ {g:Int}{s:Str}(h:inR s.length 1 2=true):HP g s=match Lib.decFrom 0 s with | some n=>g * (n:Int) | none=>-999:=by
 have:=Bd h
 unfold HP
 rw [if_pos ⟨by omega,by omega⟩]
theorem Fk {g:Int}{s:Str}(h:inR s.length 1 2=true) (h2:Lib.decFrom 0 s=none):HP g s = -999:=by rw [SJ h,h2]
theorem P6 {g:Int}{s:Str}{n:Nat}(h:inR s.length 1 2=true) (h2:Lib.decFrom 0 s=some n):HP g s=g * (n:Int):=by rw [SJ h,h2]
theorem Y6 {s:Str}{b:UInt8}(h:(s.length:Int) > 1) (hb:s[0]? = some b) (h2:(b.toNat:Int)=45):BK s=HP (-1) (s.drop 1):=by
 have e:b=45:=UInt8.toNat_inj.1 (by show b.toNat=45; omega)
 unfold BK
 rw [if_pos ⟨by omega,by rw [hb,e]⟩]
theorem Hn {s:Str}(h:¬ (s.length:Int) > 1∨∃ b,s[0]? = some b∧(b.toNat:Int)≠45):BK s=HP 1 s:=by
 unfold BK
 rw [if_neg]
 rintro ⟨h1,h3⟩
 rcases h with h | ⟨b,hb,h2⟩
 ·omega
 ·rw [hb] at h3
  cases h3
  exact h2 rfl
def Fl:Str:=[48,49,50,51,52,53,54,55,56,57]
theorem Lo (b:UInt8):Fl.contains b=true↔48≤b.toNat∧b.toNat≤57:=by
 constructor
 ·intro h
  have:=List.contains_iff_mem.1 h
  simp only [Fl,List.mem_cons,List.not_mem_nil,or_false] at this
  rcases this with rfl | rfl | rfl | rfl | rfl | rfl | rfl | rfl | rfl | rfl <;> decide
 ·intro h
  refine List.contains_iff_mem.2 ?_
  have hb:b.toNat=48∨b.toNat=49∨b.toNat=50∨b.toNat=51∨b.toNat=52∨b.toNat=53∨b.toNat=54∨b.toNat=55∨b.toNat=56∨b.toNat=57:=by omega
  have key:∀ c:UInt8,b.toNat=c.toNat→c∈Fl→b∈Fl:=fun c e hc=>by rw [UInt8.toNat_inj.1 e]; exact hc
  rcases hb with e | e | e | e | e | e | e | e | e | e
  ·exact key 48 e AE
  ·exact key 49 e AE
  ·exact key 50 e AE
  ·exact key 51 e AE
  ·exact key 52 e AE
  ·exact key 53 e AE
  ·exact key 54 e AE
  ·exact key 55 e AE
  ·exact key 56 e AE
  ·exact key 57 e AE
theorem drop_nil {p:UInt8→Bool}:∀ (l:List UInt8),l.dropWhile p=[]↔∀ x∈l,p x=true:=by
 intro l
 induction l with
 | nil=>simp
 | cons x xs ih =>
   rw [List.dropWhile_cons]
   split
   ·rename_i h; rw [ih]; simp [h]
   ·rename_i h; simp [h]
theorem Mi (s:Str):Lib.trimS s Fl=[]↔∀ x∈s,Fl.contains x=true:=by
 unfold Lib.trimS Lib.trimLeftS Lib.trimRightS
 rw [drop_nil]
 constructor
 ·intro h
  have h2:∀ x∈s.reverse.dropWhile (Fl.contains ·),Fl.contains x=true:=fun x hx=>h x (by simpa using hx)
  have h3:s.reverse.dropWhile (Fl.contains ·)=[]:=by
   cases hq:s.reverse.dropWhile (Fl.contains ·) with
   | nil=>rfl
   | cons y ys =>
     have a:=h2 y (by rw [hq]; simp)
     have b:=List.head?_dropWhile_not (fun x=>Fl.contains x) s.reverse
     rw [hq] at b
     simp only [List.head?_cons] at b
     rw [a] at b
     cases b
  have h4:=(drop_nil _).1 h3
  exact fun x hx=>h4 x (by simpa using hx)
 ·intro h x hx
  have:x∈s.reverse.dropWhile (Fl.contains ·):=by simpa using hx
  exact h x (by simpa using (List.dropWhile_sublist _).subset this)
theorem P7:∀ (s:List UInt8) (a:Nat),(∀ x∈s,Fl.contains x=true)→∃ n,Lib.decFrom a s=some n:=by
 intro s
 induction s with
 | nil=>intro a _; exact ⟨a,rfl⟩
 | cons b s ih =>
   intro a h
   unfold Lib.decFrom
   rw [Mh ((Lo b).1 (h b AD))]
   exact ih _ (fun x hx=>h x (by simp [hx]))
theorem VR:∀ (s:List UInt8) (a:Nat),(¬ ∀ x∈s,Fl.contains x=true)→Lib.decFrom a s=none:=by
 intro s
 induction s with
 | nil=>intro a h; exact absurd AD h
 | cons b s ih =>
   intro a h
   unfold Lib.decFrom
   by_cases hb:Fl.contains b=true
   ·rw [Mh ((Lo b).1 hb)]
    refine ih _ (fun h2=>h (fun x hx=>?_))
    rcases List.mem_cons.1 hx with rfl | hx
    ·exact hb
    ·exact h2 x hx
   ·rw [P5 (fun h2=>hb ((Lo b).2 h2))]
def Fm (s:Str):Int:=match Lib.decFrom 0 s with | some n=>(n:Int) | none=>0
theorem SK {s:Str}(h:inR s.length 1 2=true) (h2:(Lib.trimS s Fl==[])=true):Lib.atoi s=some (Fm s):=by
 have h3:=(Mi s).1 (eq_of_beq h2)
 have hl:=Bd h
 cases s with
 | nil=>simp at hl
 | cons b s =>
   obtain ⟨n,hn⟩:=P7 (b::s) 0 h3
   have hb:=(Lo b).1 (h3 b AD)
   have e1:(b==45)=false:=beq_eq_false_iff_ne.2 (fun e=>by subst e; revert hb; decide)
   have e2:(b==43)=false:=beq_eq_false_iff_ne.2 (fun e=>by subst e; revert hb; decide)
   unfold Lib.atoi Fm
   simp only [e1,e2,Bool.false_eq_true,if_false]
   unfold Lib.decNat
   rw [hn]
   rfl
theorem P8 {g:Int}{s:Str}(h:inR s.length 1 2=true) (h2:(Lib.trimS s Fl==[])=true):HP g s=g * Fm s:=by
 obtain ⟨n,hn⟩:=P7 s 0 ((Mi s).1 (eq_of_beq h2))
 rw [P6 h hn]
 unfold Fm
 rw [hn]
theorem P9 {g:Int}{s:Str}(h:inR s.length 1 2=true) (h2:(Lib.trimS s Fl==[])=false):HP g s = -999:=Fk h (VR s 0 (fun h3=>by rw [(Mi s).2 h3] at h2; simp at h2))
theorem QA {s:Str}(h:inR s.length 1 2=true):0≤Fm s∧Fm s≤99:=by
 have hl:=Bd h
 unfold Fm
 split
 ·rename_i n hn
  have h2:=XQ _ _ _ hn
  have:10 ^ s.length≤10 ^ 2:=Nat.pow_le_pow_right AB AB
  omega
 ·omega
def QB (s:Str):Str × Bool:=if s[0]? = some 45 then (s.drop 1,true) else (s,false)
theorem hY {s:Str}(h:(QB s).2=true):BK s=HP (-1) (QB s).1:=by
 unfold QB at h ⊢
 split at h
 ·rename_i h1
  rw [if_pos h1]
  by_cases hl:s.length > 1
  ·unfold BK; rw [if_pos ⟨hl,h1⟩]
  ·unfold BK
   rw [if_neg (fun h2=>hl h2.1)]
   match s,h1,hl with
   | [x], h1, _ =>
     simp at h1
     subst h1
     decide
   | x::y::r,_,hl=>simp at hl
 ·cases h
theorem hZ {s:Str}(h:(QB s).2=false):BK s=HP 1 (QB s).1:=by
 unfold QB at h ⊢
 split at h
 ·cases h
 ·rename_i h1
  rw [if_neg h1]
  unfold BK
  rw [if_neg (fun h2=>h1 h2.2)]
theorem Mj (s:Str) (c:UInt8):-1≤Lib.indexByte s c∧Lib.indexByte s c< s.length:=by
 refine ⟨Lib.indexByte_ge s c,?_⟩
 induction s with
 | nil=>simp [Lib.indexByte]
 | cons x xs ih =>
   unfold Lib.indexByte
   rw [List.length_cons]
   split
   ·omega
   ·split
    ·omega
    ·omega
def DL (s:Str) (c:UInt8):Str × Str × Bool:=if 0≤Lib.indexByte s c then (s.take (Lib.indexByte s c).toNat,s.drop ((Lib.indexByte s c).toNat+1),true) else (s,[],false)
theorem RB {s sep:Str}(p1:sep.length=1) (h:Lib.indexByte s (sep.headD 0)≥0):DL s (sep.headD 0)=((s.take (Lib.indexByte s (sep.headD 0)).toNat).drop 0,(s.take s.length).drop (Lib.indexByte s (sep.headD 0)+sep.length).toNat,true):=by
 unfold DL
 rw [if_pos h,p1,List.take_length,List.drop_zero,show (Lib.indexByte s (sep.headD 0)+((1:Nat):Int)).toNat=(Lib.indexByte s (sep.headD 0)).toNat+1 by omega]
theorem RC {s:Str}{c:UInt8}(h:¬ Lib.indexByte s c≥0):DL s c=(s,[],false):=by unfold DL; rw [if_neg h]
def LO (s p:Str):Bool:=decide (p.length≤s.length)&&(s.take p.length==p)
def Mk (s p:Str):Bool:=decide (p.length≤s.length)&&(s.drop (s.length - p.length)==p)
theorem QC {s p:Str}(h:LO s p=true):p.length≤s.length:=by
 unfold LO at h
 simp only [AW,decide_eq_true_eq] at h
 exact h.1
theorem Ho {s p:Str}(h:Mk s p=true):p.length≤s.length:=by
 unfold Mk at h
 simp only [AW,decide_eq_true_eq] at h
 exact h.1
theorem XS {s p:Str}(h:¬ (s.length:Int)≥p.length):false=LO s p:=by unfold LO; rw [decide_eq_false AB]; rfl
theorem VT {s p:Str}(h:(s.length:Int)≥p.length):((s.take p.length).drop 0==p)=LO s p:=by unfold LO; rw [decide_eq_true AB,List.drop_zero]; rfl
theorem XT {s p:Str}(h:¬ (s.length:Int)≥p.length):false=Mk s p:=by unfold Mk; rw [decide_eq_false AB]; rfl
theorem VU {s p:Str}(h:(s.length:Int)≥p.length):((s.take s.length).drop ((s.length:Int) - p.length).toNat==p)=Mk s p:=by unfold Mk; rw [decide_eq_true AB,List.take_length,show ((s.length:Int) - p.length).toNat=s.length - p.length by omega]; rfl
def Bm (s p:Str):Str × Bool:=if LO s p then (s.drop p.length,true) else (s,false)
def EK (s p:Str):Str × Bool:=if Mk s p then (s.take (s.length - p.length),true) else (s,false)
theorem VV {s p:Str}(h:LO s p=true):Bm s p=((s.take s.length).drop p.length,true):=by unfold Bm; rw [if_pos h,List.take_length]
theorem VW {s p:Str}(h:LO s p=false):Bm s p=(s,false):=by unfold Bm; rw [if_neg (by simp [h])]
theorem VX {s p:Str}(h:Mk s p=true):EK s p=((s.take ((s.length:Int) - p.length).toNat).drop 0,true):=by
 have:=Ho h
 unfold EK
 rw [if_pos h,List.drop_zero,show ((s.length:Int) - p.length).toNat=s.length - p.length by omega]
theorem VY {s p:Str}(h:Mk s p=false):EK s p=(s,false):=by unfold EK; rw [if_neg (by simp [h])]
theorem SL (s:Str):Bm s [45]=QB s:=by
 cases s with
 | nil=>rfl
 | cons x xs =>
   unfold Bm QB LO
   by_cases h:x=45
   ·subst h; simp
   ·simp [h]
def LP (u:Nat):Str:=if u< 10 then [UInt8.ofNat (48+u)] else [UInt8.ofNat (48+u / 10),UInt8.ofNat (48+u % 10)]
def BF (n:Int):Str:=if n< 0 then 45::LP n.natAbs else LP n.toNat
theorem SN {u:Nat}(h:u< 100):Lib.decDigits u=LP u:=by
 unfold LP
 split
 ·rename_i h1
  rw [Lib.decDigits,dif_pos h1]
 ·rename_i h1
  rw [Lib.decDigits,dif_neg h1,Lib.decDigits,dif_pos AB]
  rfl
def l6m (n:Int):Nat:=if n< 0 then n.natAbs+1000 else n.toNat
theorem oA {n:Int}(h:n< 0) (h2:-99≤n∧n≤99:=by assumption):l6m (0 - n)< l6m n:=by
 unfold l6m
 rw [if_neg AB,if_pos h]
 omega
theorem N3 {n:Int}(h:0≤n):Int.tdiv n 10=n / 10∧Int.tmod n 10=n % 10:=⟨Int.tdiv_eq_ediv_of_nonneg h,Int.tmod_eq_emod_of_nonneg h⟩
theorem oB {n:Int}(h:¬ n< 0) (h2:¬ n< 10):l6m (Int.tdiv n 10)< l6m n:=by
 have:=N3 (n:=n) AB
 unfold l6m
 rw [if_neg AB,if_neg AB]
 omega
theorem Y7 {n:Int}(h:n< 0):[45]++BF (0 - n)=BF n:=by
 unfold BF
 rw [if_neg AB,if_pos h,show (0 - n).toNat=n.natAbs by omega]
 rfl
theorem Y8 {n:Int}{b:UInt8}(h:¬ n< 0) (h2:n< 10) (hb:(b.toNat:Int)=48+n):[b]=BF n:=by
 have e:b=UInt8.ofNat (48+n.toNat):=UInt8.toNat_inj.1 (by rw [UInt8.toNat_ofNat']; omega)
 unfold BF LP
 rw [if_neg h,if_pos AB,e]
theorem Y9 {n:Int}{b:UInt8}(h:¬ n< 0) (h2:¬ n< 10) (hb:(b.toNat:Int)=48+Int.tmod n 10) (hr:-99≤n∧n≤99):BF (Int.tdiv n 10)++[b]=BF n:=by
 have q:=N3 (n:=n) AB
 have e:b=UInt8.ofNat (48+n.toNat % 10):=UInt8.toNat_inj.1 (by rw [UInt8.toNat_ofNat']; omega)
 unfold BF LP
 rw [if_neg AB,if_pos AB,if_neg h,if_neg AB,e,show (Int.tdiv n 10).toNat=n.toNat / 10 by omega]
 rfl
theorem ZA {n:Int}(h:-99≤n∧n≤99):Lib.itoa n=BF n:=by
 unfold Lib.itoa BF
 split
 ·rw [SN AB]
 ·rw [SN AB]
end Go.Proofs.YtckdhcbbgmiccaaGreatDoor
namespace Go.Proofs.YtckdhcbbgmiccaaGreatDoor
def RD (s:Str):Str × Str × Bool:=DL s 61
def LQ (s:Str):Tag:=⟨(RD s).1,(RD s).2.1⟩
def Fo (s:Str):List Tag:=(AZ s 44).map (fun t=>LQ t.s)
def Ba (s:Str):List Tag × Bool:=if s=[]∨Ei (Fo s)≠s then ([],false) else (Fo s,true)
def ZB (s:Str):Str × Bool:=EK s [33]
def LR (s:Str):Cnd:=⟨⟨(ZB (RD s).1).1,(RD s).2.1⟩,(ZB (RD s).1).2⟩
def Fp (s:Str):List Cnd:=(AZ s 44).map (fun t=>LR t.s)
def cwT (c:Cnd):Txt:=⟨c.tag.key++(if c.no then [33,61] else [61])++c.tag.val⟩
def Kf (f:List Cnd):Str:=if Cq f then (if f.length=0 then [42] else Lib.join ((f.map cwT).map Txt.s) [44]) else []
def Di (s:Str):List Cnd × Bool:=if s=[42] then ([],true) else if s=[]∨Kf (Fp s)≠s then ([],false) else (Fp s,true)
def Gp (s:Str):Bool:=match Cn [] (BI s).1 with
 | some out=>(BI s).2&&Ar out
 | none=>false
def WL:List Str:=[[97,61,112],[97,61,113,44,98,61,112],[98,61,122,44,99,61,113],[99,61,122],[42],[98,33,61,122],[120],[97],[49],[48],[],[98,61,112,44,97,61,112],[98,61,112],[98,33,61,112]]
theorem Oq:∀ s∈WL,Ba s=(EI s,Gp s):=by decide +kernel
theorem SO:∀ s∈WL,Di s=BI s:=by decide +kernel
theorem RE:∀ s∈WL,NmD (EI s):=by
 unfold NmD YO
 decide +kernel
theorem TS:∀ s∈WL,Cq (BI s).1=true:=by decide +kernel
section
variable {w:Str}
theorem Ot (h:(Bm w [45]).2=true):BK w=HP (-1) (Bm w [45]).1:=by rw [SL] at h ⊢; exact hY h
theorem Ou (h:(Bm w [45]).2=false):BK w=HP 1 (Bm w [45]).1:=by rw [SL] at h ⊢; exact hZ h
theorem QD (h:inR (Bm w [45]).1.length 1 2=false):BK w = -999:=by
 cases hm:(Bm w [45]).2 with
 | true=>rw [Ot hm,Jl h]
 | false=>rw [Ou hm,Jl h]
theorem N4 (h:inR (Bm w [45]).1.length 1 2=true) (h2:(Lib.trimS (Bm w [45]).1 Fl==[])=false):BK w = -999:=by
 cases hm:(Bm w [45]).2 with
 | true=>rw [Ot hm,P9 h h2]
 | false=>rw [Ou hm,P9 h h2]
theorem ZC (h:inR (Bm w [45]).1.length 1 2=true) (h2:(Lib.trimS (Bm w [45]).1 Fl==[])=true) (hm:(Bm w [45]).2=true):BK w=0 - Fm (Bm w [45]).1:=by
 rw [Ot hm,P8 h h2]
 omega
theorem ZD (h:inR (Bm w [45]).1.length 1 2=true) (h2:(Lib.trimS (Bm w [45]).1 Fl==[])=true) (hm:(Bm w [45]).2=false):BK w=Fm (Bm w [45]).1:=by
 rw [Ou hm,P8 h h2]
 omega
theorem QE (h:Cn [] (BI w).1=none):Gp w=false:=by unfold Gp; rw [h]
theorem N5 {out:List Tag}{i:Nat}(h:Cn out ((BI w).1.drop i)=Cn [] (BI w).1) (hi:(BI w).1.length≤i):Gp w=((BI w).2&&Ar out):=by
 rw [Ac hi] at h
 unfold Gp
 rw [← h]
 rfl
theorem QF {out:List Tag}{i:Nat}(h:Cn out ((BI w).1.drop i)=Cn [] (BI w).1) (hi:(BI w).1.length≤i) (h2:(BI w).2=false∨Ar out=false):Gp w=false:=by
 rw [N5 h hi]
 rcases h2 with h2 | h2 <;> rw [h2] <;> simp
theorem VZ {out:List Tag}{i:Nat}(h:Cn out ((BI w).1.drop i)=Cn [] (BI w).1) (hi:(BI w).1.length≤i) (h2:(BI w).2=true) (h3:Ar out=true):Gp w=true:=by
 rw [N5 h hi,h2,h3]
 rfl
theorem Ml (s:Str) (c:UInt8):(DL s c).1.length≤s.length∧(DL s c).2.1.length≤s.length:=by
 unfold DL
 split
 ·simp only [List.length_take,List.length_drop]; omega
 ·simp
theorem Va (s p:Str):(EK s p).1.length≤s.length:=by
 unfold EK
 split
 ·simp only [List.length_take]; omega
 ·simp
theorem TT {out:List Tag}{ts:List Txt}{i:Nat}{t:Txt}{Y:List Tag}(h:out++(ts.drop i).map (fun t=>LQ t.s)=Y) (hd:ts.drop i=t::ts.drop (i+1)):(out++[⟨(DL t.s 61).1,(DL t.s 61).2.1⟩])++(ts.drop (i+1)).map (fun t=>LQ t.s)=Y:=by
 rw [hd] at h
 rw [← h]
 simp [LQ,RD]
theorem CW {α β:Type}{f:α→β}{out:List β}{ts:List α}{i:Nat}{Y:List β}(h:out++(ts.drop i).map f=Y) (hi:ts.length≤i):out=Y:=by
 rw [List.drop_of_length_le hi] at h
 simpa using h
theorem XU (h:w.length≤999):GI (Fo w):=by
 obtain ⟨h1,h2⟩:=BO w 44
 refine ⟨by unfold Fo; rw [List.length_map]; omega,fun t ht=>?_⟩
 unfold Fo at ht
 obtain ⟨x,hx,rfl⟩:=List.mem_map.1 ht
 have h3:=h1 x hx
 have h4:=Ml x.s 61
 show (DL x.s 61).1.length≤1000∧(DL x.s 61).2.1.length≤1000
 omega
theorem Jm (h:(w==[])=true∨(Ei (Fo w)==w)=false):Ba w=([],false):=by
 unfold Ba
 rw [if_pos]
 rcases h with h | h
 ·exact .inl (eq_of_beq h)
 ·exact .inr (beq_eq_false_iff_ne.1 h)
theorem N6 (h:(w==[])=false) (h2:(Ei (Fo w)==w)=true):Ba w=(Fo w,true):=by
 unfold Ba
 rw [if_neg]
 rintro (h3 | h3)
 ·exact beq_eq_false_iff_ne.1 h h3
 ·exact h3 (eq_of_beq h2)
theorem TU {out:List Cnd}{ts:List Txt}{i:Nat}{t:Txt}{Y:List Cnd}(h:out++(ts.drop i).map (fun t=>LR t.s)=Y) (hd:ts.drop i=t::ts.drop (i+1)):(out++[⟨⟨(EK (DL t.s 61).1 [33]).1,(DL t.s 61).2.1⟩,(EK (DL t.s 61).1 [33]).2⟩])++(ts.drop (i+1)).map (fun t=>LR t.s)=Y:=by
 rw [hd] at h
 rw [← h]
 simp [LR,RD,ZB]
def Vb (f:List Cnd):Prop:=f.length≤1000∧∀ c∈f,c.tag.key.length≤1000∧c.tag.val.length≤1000
theorem XV (h:w.length≤999):Vb (Fp w):=by
 obtain ⟨h1,h2⟩:=BO w 44
 refine ⟨by unfold Fp; rw [List.length_map]; omega,fun t ht=>?_⟩
 unfold Fp at ht
 obtain ⟨x,hx,rfl⟩:=List.mem_map.1 ht
 have h3:=h1 x hx
 have h4:=Ml x.s 61
 have h5:=Va (DL x.s 61).1 [33]
 show (EK (DL x.s 61).1 [33]).1.length≤1000∧(DL x.s 61).2.1.length≤1000
 omega
theorem Mm (h:(w==[42])=true):Di w=([],true):=by unfold Di; rw [if_pos (eq_of_beq h)]
theorem Jn (h0:(w==[42])=false) (h:(w==[])=true∨(Kf (Fp w)==w)=false):Di w=([],false):=by
 unfold Di
 rw [if_neg (beq_eq_false_iff_ne.1 h0),if_pos]
 rcases h with h | h
 ·exact .inl (eq_of_beq h)
 ·exact .inr (beq_eq_false_iff_ne.1 h)
theorem N7 (h0:(w==[42])=false) (h:(w==[])=false) (h2:(Kf (Fp w)==w)=true):Di w=(Fp w,true):=by
 unfold Di
 rw [if_neg (beq_eq_false_iff_ne.1 h0),if_neg]
 rintro (h3 | h3)
 ·exact beq_eq_false_iff_ne.1 h h3
 ·exact h3 (eq_of_beq h2)
end
section
variable {f:List Cnd}
theorem XW (h:Cq f=false):Kf f=[]:=by unfold Kf; rw [if_neg (by simp [h])]
theorem ZE (h:Cq f=true) (h2:(f.length:Int)=0):Kf f=[42]:=by unfold Kf; rw [if_pos h,if_pos AB]
theorem Vc {k:List Txt}{i:Nat}(h:Cq f=true) (h2:¬ (f.length:Int)=0) (hk:k++(f.drop i).map cwT=f.map cwT) (hi:f.length≤i):Kf f=Lib.join (k.map Txt.s) [44]:=by
 unfold Kf
 rw [if_pos h,if_neg AB,CW hk hi]
theorem XX {k:List Txt}{i:Nat}{c:Cnd}(h:k++(f.drop i).map cwT=f.map cwT) (hd:f.drop i=c::f.drop (i+1)) (hn:c.no=true):(k++[⟨c.tag.key++[33,61]++c.tag.val⟩])++(f.drop (i+1)).map cwT=f.map cwT:=by
 rw [hd] at h
 rw [← h]
 simp [cwT,hn]
theorem XY {k:List Txt}{i:Nat}{c:Cnd}(h:k++(f.drop i).map cwT=f.map cwT) (hd:f.drop i=c::f.drop (i+1)) (hn:c.no=false):(k++[⟨c.tag.key++[61]++c.tag.val⟩])++(f.drop (i+1)).map cwT=f.map cwT:=by
 rw [hd] at h
 rw [← h]
 simp [cwT,hn]
theorem Vd {k:List Txt}{i:Nat}(hs:Vb f) (hk:k++(f.drop i).map cwT=f.map cwT) (hi:f.length≤i):(Lib.join (k.map Txt.s) [44]).length≤100000000000∧k.length≤1000000:=by
 have e:=CW hk hi
 subst e
 have h1:=hs.1
 refine ⟨?_,by rw [List.length_map]; omega⟩
 have key:∀ (l:List Cnd),(∀ c∈l,c.tag.key.length≤1000∧c.tag.val.length≤1000)→(Lib.joinTail [44] ((l.map cwT).map Txt.s)).length≤2003 * l.length:=by
  intro l
  induction l with
  | nil=>intro _; simp [Lib.joinTail]
  | cons c cs ih =>
    intro hl
    have h2:=ih (fun x hx=>hl x (by simp [hx]))
    have h3:=hl c AD
    have e2:Lib.joinTail [44] (((c::cs).map cwT).map Txt.s)=44::(cwT c).s++Lib.joinTail [44] ((cs.map cwT).map Txt.s):=by simp [Lib.joinTail]
    have h4:(cwT c).s.length≤2002:=by
     unfold cwT
     simp only [List.length_append]
     split <;> simp only [List.length_cons,List.length_nil] <;> omega
    rw [e2]
    simp only [List.length_append,List.length_cons]
    omega
 cases f with
 | nil=>simp [Lib.join,List.intercalate]
 | cons c cs =>
   have h2:=key cs (fun x hx=>hs.2 x (by simp [hx]))
   have h3:=hs.2 c AD
   have h4:(cwT c).s.length≤2002:=by
    unfold cwT
    simp only [List.length_append]
    split <;> simp only [List.length_cons,List.length_nil] <;> omega
   rw [List.map_cons,List.map_cons,Lib.join_cons,List.length_append]
   rw [List.length_cons] at h1
   omega
end
def QG (r:Row):Str:=[32]++BF r.t++[58]++BF r.v
def GB (rs:List Row):Str:=rs.flatMap QG
def Ve (h:Hit):Str:=h.name++GB h.rows++[10]
def Cc (hs:List Hit):Str:=hs.flatMap Ve
structure HitD (h:Hit):Prop where
 n:h.name.length≤100
 l:h.rows.length≤100
 r:∀ r∈h.rows,(-99≤r.t∧r.t≤99) ∧ -99≤r.v∧r.v≤99
theorem QH (u:Nat):1≤(LP u).length∧(LP u).length≤2:=by unfold LP; split <;> simp
theorem Au (n:Int):1≤(BF n).length∧(BF n).length≤3:=by
 unfold BF
 split
 ·have:=QH n.natAbs; simp only [List.length_cons]; omega
 ·have:=QH n.toNat; omega
theorem Mn (r:Row):(QG r).length≤8:=by
 have h1:=Au r.t
 have h2:=Au r.v
 unfold QG
 simp only [List.length_append,List.length_cons,List.length_nil]
 omega
theorem TV (rs:List Row):(GB rs).length≤8 * rs.length:=by
 unfold GB
 induction rs with
 | nil=>simp
 | cons r rs ih =>
   have:=Mn r
   rw [List.flatMap_cons,List.length_append,List.length_cons]
   omega
theorem Vf {h:Hit}(q:HitD h):(Ve h).length≤901:=by
 have h1:=TV h.rows
 have h2:=q.n
 have h3:=q.l
 unfold Ve
 simp only [List.length_append,List.length_cons,List.length_nil]
 omega
theorem N8 {hs:List Hit}(q:∀ h∈hs,HitD h):(Cc hs).length≤901 * hs.length:=by
 unfold Cc
 induction hs with
 | nil=>simp
 | cons h hs ih =>
   have h1:=Vf (q h AD)
   have h2:=ih (fun x hx=>q x (by simp [hx]))
   rw [List.flatMap_cons,List.length_append,List.length_cons]
   omega
theorem SP {rs:List Row}{k:Nat}{r:Row}{out Y a:Str}(h:out++GB (rs.drop k)=Y) (hd:rs.drop k=r::rs.drop (k+1)) (ha:a=out++QG r):a++GB (rs.drop (k+1))=Y:=by
 rw [hd] at h
 rw [ha,← h]
 simp [GB]
theorem Vg {rs:List Row}{k:Nat}{out Y:Str}(h:out++GB (rs.drop k)=Y) (hk:rs.length≤k):out=Y:=by
 rw [Ac hk] at h
 simpa [GB] using h
theorem SQ {hs:List Hit}{k:Nat}{h:Hit}{out o1 Y a:Str}(q:out++Cc (hs.drop k)=Y) (hd:hs.drop k=h::hs.drop (k+1)) (ho:o1=(out++h.name)++GB h.rows) (ha:a=o1++[10]):a++Cc (hs.drop (k+1))=Y:=by
 rw [hd] at q
 rw [ha,ho,← q]
 simp [Cc,Ve]
theorem Vh {hs:List Hit}{k:Nat}{out Y:Str}(h:out++Cc (hs.drop k)=Y) (hk:hs.length≤k):out=Y:=by
 rw [Ac hk] at h
 simpa [Cc] using h
theorem E7 {s:Sto}(hs:SD s) (hk:Ab s=true) (f:List Cnd) (lo hi:Int):(∀ h∈Bt s f lo hi,HitD h)∧(Bt s f lo hi).length≤6:=by
 unfold Bt
 split
 ·unfold Fi
  have hl:=KW (fits f) s.idx.names 0
  have hn:=hs.nm.len
  have key:∀ (q:List Int),(∀ i∈q,1≤i∧i≤s.idx.names.length)→(∀ h∈q.flatMap (DR s lo hi),HitD h)∧(q.flatMap (DR s lo hi)).length≤q.length:=by
   intro q
   induction q with
   | nil=>intro _; exact ⟨by simp,by simp⟩
   | cons i is ih =>
     intro hq
     obtain ⟨a,b⟩:=ih (fun j hj=>hq j (by simp [hj]))
     have hi1:=hq i AD
     have h1:(∀ h∈DR s lo hi i,HitD h)∧(DR s lo hi i).length≤1:=by
      unfold DR
      split
      ·refine ⟨fun h hh=>?_,by simp⟩
       simp only [List.mem_cons,List.not_mem_nil,or_false] at hh
       subst hh
       have e:s.idx.names[(i - 1).toNat]? = some (s.idx.names.getD (i - 1).toNat []):=by
        rw [List.getD_eq_getElem?_getD,AU AB]
        rfl
       have hm:=AV e
       have ho:=hs.nm.ok _ hm
       refine ⟨?_,?_,fun r hr=>?_⟩
       ·show (text _).length≤100
        have h3:(s.idx.names.getD (i - 1).toNat []).length≤3:=by
         unfold Ar at ho
         simp only [AW] at ho
         have:=Bd ho.2
         omega
        have key2:∀ (n:List Tag) (j:Nat),(∀ t∈n,CD t=true)→(EF j n).length≤4 * n.length:=by
         intro n
         induction n with
         | nil=>intro j _; simp [EF]
         | cons t ts ih2 =>
           intro j ht
           obtain ⟨x,y,rfl⟩:=Wo (ht t AD)
           have:=ih2 (j+1) (fun u hu=>ht u (by simp [hu]))
           unfold EF HS
           simp only [List.length_append,List.length_cons,List.length_nil]
           split <;> simp only [List.length_cons,List.length_nil] <;> omega
        have:=key2 _ 0 (Hd ho)
        unfold text
        omega
       ·show (Hk _ lo hi).length≤100
        have:=Yf hs hk hi1.1
        have h4:(Hk (rowsOf s i) lo hi).length≤(rowsOf s i).length:=List.length_filter_le _ _
        omega
       ·have hr2:r∈rowsOf s i:=(List.mem_filter.1 hr).1
        have hb:Blk (rowsOf s i):=(StoK.of hs hk).KS.blk _
        have h5:=hb.rows r hr2
        have h6:=La h5
        have h7:=Rm h5
        omega
      ·exact ⟨by simp,by simp⟩
     refine ⟨fun h hh=>?_,?_⟩
     ·rw [List.flatMap_cons] at hh
      rcases List.mem_append.1 hh with hh | hh
      ·exact h1.1 h hh
      ·exact a h hh
     ·rw [List.flatMap_cons,List.length_append,List.length_cons]
      omega
  obtain ⟨a,b⟩:=key _ (fun i hi=>C3 hi)
  exact ⟨a,by omega⟩
 ·exact ⟨by simp,by simp⟩
def GC:Str:=[119,104,97,116,10]
def Vi:Str:=[97,108,108,10]
def QI:Str:=[116,111,111,32,108,111,110,103,10]
def Kg (w:Wld):Str:=BF w.store.parts.length++[32]++BF w.store.mem.length++[32]++BF w.disk.files.length++[10]
def evA (ws:List Txt):Evt:=⟨1,0,0,EI (Bh ws 1),⟨Az ws 2,Az ws 3⟩⟩
def evF (ws:List Txt):Evt:=⟨2,0,if ws.length=1 then 9 else Az ws 1,[],⟨0,0⟩⟩
def evM (ws:List Txt):Evt:=⟨3,Az ws 1,if ws.length< 3 then 9 else Az ws 2,[],⟨0,0⟩⟩
def Fq (w:Wld) (ws:List Txt):Wld × Str :=
 if Bh ws 0=[97,100,100] then (if Gp (Bh ws 1) then (doW w (evA ws),[]) else (w,GC))
 else if Bh ws 0=[102,108,117,115,104] then (doW w (evF ws),[])
 else if Bh ws 0=[109,101,114,103,101] then (doW w (evM ws),[])
 else if Bh ws 0=[102,97,108,108] then (doW w ⟨4,0,0,[],⟨0,0⟩⟩,[])
 else if Bh ws 0=[97,115,107] then (if (BI (Bh ws 1)).2 then (w,Cc (Bt w.store (BI (Bh ws 1)).1 (Az ws 2) (Az ws 3))) else (w,GC))
 else if Bh ws 0=[112,97,114,116,115] then (w,Kg w)
 else (w,GC)
def Ax (w:Wld) (l:Str):Wld × Str:=Fq w (AZ l 32)
def lnS (p:Wld × Str) (t:Txt):Wld × Str:=((Ax p.1 t.s).1,p.2++(Ax p.1 t.s).2)
def FN (p:Wld × Str):Str:=p.2++Vi++Cc (Bt p.1.store [] 0 99)
def DT (t:Str):List Txt:=(AZ t 10).take ((AZ t 10).length - 1)
def Aa (t:Str):Str:=if t.length > 600 then QI else FN ((DT t).foldl lnS (EL,[]))
def LnD (l:Str):Prop:=Bh (AZ l 32) 1∈WL
def GO (t:Str):Prop:=∀ l∈DT t,LnD l.s
end Go.Proofs.YtckdhcbbgmiccaaGreatDoor
