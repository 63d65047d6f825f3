/- Rows of cells lose elements: rows of files with their places. No conditions. -/
import Derived.Test.YtcginoabkicdiaaGreatDzzD95
import Derived.Test.YtcginoabkicdiaaGreatDzzSp
open Go.Proofs.Tryz
set_option linter.unusedVariables false
set_option linter.unusedSimpArgs false
namespace Go.Proofs.YtcginoabkicdiaaGreat
structure FX where
 f:Fil
 a1:Option Addr
 c1:Nat
 a2:Option Addr
 c2:Nat
 deriving Inhabited
def FX.cs (x:FX):List Value:=[vI x.f.num,.slice x.a1 x.f.part.ids.length x.c1,.slice x.a2 x.f.part.blocks.length x.c2]
def FX.hd (x:FX):Hd 2:=⟨x.cs,rfl⟩
instance:Rep FX where
 sz:=3
 rep w F x cs:=cs=[vI x.f.num,.slice x.a1 x.f.part.ids.length x.c1,.slice x.a2 x.f.part.blocks.length x.c2]∧RepS w F x.a1 x.f.part.ids.length x.c1 x.f.part.ids∧RepS w F x.a2 x.f.part.blocks.length x.c2 x.f.part.blocks
 len:=by rintro w F x cs ⟨rfl,_⟩; rfl
 pos:=by decide
 flat:=by rintro w F x cs ⟨rfl,_⟩ v hv; simp at hv; rcases hv with rfl | rfl | rfl <;> rfl
 frame:=by rintro w w' F F' x cs ⟨rfl,h1,h2⟩ hf; exact ⟨rfl,h1.frame hf,h2.frame hf⟩
def Df (l:List Int):Nat→List FX→Int
 | _,[]=>-1
 | i,f::fs=>if l.contains f.f.num then Df l (i+1) fs else i
theorem Ys {l:List Int}{s:List FX}{k:Nat}{f:FX}(h:Df l k (s.drop k)=Df l 0 s) (hd:s.drop k=f::s.drop (k+1)) (hc:(!(l.contains f.f.num))=false):Df l (k+1) (s.drop (k+1))=Df l 0 s:=by
 rw [← h,hd]
 show _=if l.contains f.f.num then Df l (k+1) (s.drop (k+1)) else (k:Int)
 rw [if_pos (by simpa using hc)]
theorem U5 {l:List Int}{s:List FX}{k:Nat}{f:FX}(h:Df l k (s.drop k)=Df l 0 s) (hd:s.drop k=f::s.drop (k+1)) (hc:(!(l.contains f.f.num))=true):(k:Int)=Df l 0 s:=by
 rw [← h,hd]
 show _=if l.contains f.f.num then Df l (k+1) (s.drop (k+1)) else (k:Int)
 rw [if_neg (by simpa using hc)]
theorem U6 {l:List Int}{s:List FX}{k:Nat}(h:Df l k (s.drop k)=Df l 0 s) (hk:s.length≤k):(-1:Int)=Df l 0 s:=by
 rw [Aa hk] at h
 exact h
theorem IC (l:List Int):∀ (s:List FX) (i:Nat),(Df l i s = -1∧s.filter (fun f=>l.contains f.f.num)=s)∨∃ k:Nat,Df l i s=(i+k:Nat)∧k< s.length∧s.take k=(s.take (k+1)).filter (fun f=>l.contains f.f.num):=by
 intro s
 induction s with
 | nil=>intro i; exact .inl ⟨rfl,rfl⟩
 | cons f fs ih =>
   intro i
   unfold Df
   by_cases hc:l.contains f.f.num=true
   ·rw [if_pos hc]
    rcases ih (i+1) with ⟨h1,h2⟩ | ⟨k,h1,h2,h3⟩
    ·left
     refine ⟨h1,?_⟩
     rw [List.filter_cons,if_pos hc,h2]
    ·right
     refine ⟨k+1,by rw [h1]; omega,by simp; omega,?_⟩
     rw [List.take_succ_cons,List.take_succ_cons,List.filter_cons,if_pos hc,← h3]
   ·rw [if_neg hc]
    right
    refine ⟨0,by simp,by simp,?_⟩
    simp only [List.take_zero,Nat.zero_add,List.take_succ_cons]
    rw [List.filter_cons,if_neg hc]
    rfl
theorem R6 {l:List Int}{s:List FX}(h:¬ Df l 0 s = -1):0≤Df l 0 s:=by
 rcases IC l s 0 with ⟨h1,_⟩ | ⟨k,h1,_⟩
 ·exact absurd h1 h
 ·omega
theorem R7 (l:List Int) (s:List FX):Df l 0 s< s.length∨s.length=0∧Df l 0 s = -1:=by
 rcases IC l s 0 with ⟨h1,_⟩ | ⟨k,h1,h2,_⟩
 ·by_cases e:s.length=0
  ·exact .inr ⟨e,h1⟩
  ·exact .inl AB
 ·exact .inl AB
theorem S4 {l:List Int}{s:List FX}(h:¬ Df l 0 s = -1):s.take (Df l 0 s).toNat=(s.take (Df l 0 s+1).toNat).filter (fun f=>l.contains f.f.num):=by
 rcases IC l s 0 with ⟨h1,_⟩ | ⟨k,h1,h2,h3⟩
 ·exact absurd h1 h
 ·rw [h1,show (((0+k:Nat):Int)).toNat=k by omega,show (((0+k:Nat):Int)+1).toNat=k+1 by omega]
  exact h3
theorem W2 {l:List Int}{s:List FX}(h:Df l 0 s = -1):s=s.filter (fun f=>l.contains f.f.num):=by
 rcases IC l s 0 with ⟨_,h1⟩ | ⟨k,h1,h2,h3⟩
 ·exact h1.symm
 ·omega
theorem U7 {l:List Int}{xs xs0:List FX}{i j:Int}{v:FX}(h:xs.take i.toNat=(xs0.take j.toNat).filter (fun f=>l.contains f.f.num)) (h2:xs.drop j.toNat=xs0.drop j.toNat) (hv:xs[j.toNat]? = some v) (hi:0≤i) (hij:i< j) (hl:j< xs.length) (hc:(!(l.contains v.f.num))=false):(xs.set i.toNat v).take (i+1).toNat=(xs0.take (j+1).toNat).filter (fun f=>l.contains f.f.num):=by
 have h0:=Ke h2 hv
 rw [N6 AB h0,List.filter_append,← h,List.filter_cons,if_pos (by simpa using hc),show (i+1).toNat=i.toNat+1 by omega,List.take_add_one,List.take_set_of_le (Nat.le_refl _),List.getElem?_set_self AB]
 rfl
theorem U8 {l:List Int}{xs xs0:List FX}{i j:Int}{v:FX}(h:xs.take i.toNat=(xs0.take j.toNat).filter (fun f=>l.contains f.f.num)) (h2:xs.drop j.toNat=xs0.drop j.toNat) (hv:xs[j.toNat]? = some v) (hj:0≤j) (hc:(!(l.contains v.f.num))=true):xs.take i.toNat=(xs0.take (j+1).toNat).filter (fun f=>l.contains f.f.num):=by
 have h0:=Ke h2 hv
 rw [N6 hj h0,List.filter_append,← h,List.filter_cons,if_neg (by simpa using hc)]
 simp
theorem S5 {xs xs0:List FX}{i j:Int}{v:FX}(h2:xs.drop j.toNat=xs0.drop j.toNat) (hi:0≤i) (hij:i< j) (_hj:0≤j):(xs.set i.toNat v).drop (j+1).toNat=xs0.drop (j+1).toNat:=by
 rw [List.drop_set_of_lt AB,show (j+1).toNat=j.toNat+1 by omega,← List.drop_drop,← List.drop_drop,h2]
theorem U9 {xs xs0:List FX}{j:Int}(h2:xs.drop j.toNat=xs0.drop j.toNat) (hj:0≤j):xs.drop (j+1).toNat=xs0.drop (j+1).toNat:=by
 rw [show (j+1).toNat=j.toNat+1 by omega,← List.drop_drop,← List.drop_drop,h2]
theorem W3 {l:List Int}{xs xs0:List FX}{i j:Int}(h:xs.take i.toNat=(xs0.take j.toNat).filter (fun f=>l.contains f.f.num)) (h2:xs.drop j.toNat=xs0.drop j.toNat) (hj:(xs.length:Int)≤j) (hij:0≤j):xs.take i.toNat=xs0.filter (fun f=>l.contains f.f.num):=by
 rw [h]
 congr 1
 have h3:xs0.drop j.toNat=[]:=by rw [← h2]; exact List.drop_of_length_le AB
 rw [List.drop_eq_nil_iff] at h3
 exact List.take_of_length_le h3
theorem Own.pU {w:World}{r:Nat}{t:TypeId}{F:Nat→Prop}{n c i:Nat}{xs:List (Hd 1)}{cs:List Value}(h:Own w r t F n c xs) (hB:Box w r t cs):∀ v,i+(n - i)≤n→v∈(cs.drop (i * 2)).take ((n - i) * 2)→Go.Proofs.YtcginoabkicdiaaGreat.Cy v=true:=by
 intro v hin hv
 obtain ⟨k,hk⟩:=List.mem_iff_getElem?.1 hv
 rw [List.getElem?_take] at hk
 split at hk
 ·rename_i hlt
  rw [List.getElem?_drop] at hk
  have hn:=h.len
  have hj:i+k / 2< xs.length:=by omega
  obtain ⟨c1,g1,g2⟩:=h.elem (i+k / 2) xs[i+k / 2] (AU hj)
  have hl:c1.length=2:=Rep.len g1
  have hk2:k % 2< c1.length:=by omega
  have h3:=g2 (k % 2) c1[k % 2] (AU hk2)
  have hz:Rep.sz (Hd 1)=2:=rfl
  unfold Box at hB
  rw [add_lit,hz] at h3
  simp only [World.cell?,hB] at h3
  have e:(i+k / 2) * 2+k % 2=i * 2+k:=by omega
  rw [e] at h3
  have h4:cs[i * 2+k]? = some c1[k % 2]:=by simpa using h3
  rw [hk] at h4
  cases h4
  exact Rep.flat g1 _ (List.getElem_mem hk2)
 ·cases hk
theorem Yt {α:Type}{l' l:List α}(h:l'.Sublist l):∃ σ:Nat→Nat,(∀ i j,σ i=σ j→i=j)∧∀ i x,l'[i]? = some x→l[σ i]? = some x:=by
 induction h with
 | slnil=>exact ⟨id,fun _ _ e=>e,fun i x hx=>hx⟩
 | cons a _ ih =>
   obtain ⟨σ,h1,h2⟩:=ih
   exact ⟨fun i=>σ i+1,fun i j e=>h1 i j (by simpa using e),fun i x hx=>by simpa using h2 i x hx⟩
 | cons_cons a _ ih =>
   obtain ⟨σ,h1,h2⟩:=ih
   refine ⟨fun i=>match i with | 0=>0 | i+1=>σ i+1,fun i j e=>?_,fun i x hx=>?_⟩
   ·cases i <;> cases j <;> simp at e ⊢
    exact h1 _ _ e
   ·cases i
    ·simpa using hx
    ·simpa using h2 _ x (by simpa using hx)
section
variable {α:Type} [Rep α] [Dp α] {k:Nat} {w:World} {D:Nat→Prop}
theorem ElS.sub {L L':List (α × Hd k)}(h:L'.Sublist L) (he:ElS w D (L.map Prod.fst) (L.map Prod.snd)):ElS w D (L'.map Prod.fst) (L'.map Prod.snd):=by
 obtain ⟨σ,s1,s2⟩:=Yt h
 obtain ⟨_,E,h1,h2,h3⟩:=he
 refine ⟨by simp,fun i b=>E (σ i) b,fun i j b p q=>s1 i j (h1 _ _ b p q),fun i b p=>h2 _ b p,fun i x hd hx hh=>?_⟩
 rw [List.getElem?_map,Option.map_eq_some_iff] at hx hh
 obtain ⟨p,hp,rfl⟩:=hx
 obtain ⟨q,hq,rfl⟩:=hh
 rw [hp] at hq; cases hq
 exact h3 (σ i) _ _ (by rw [List.getElem?_map,s2 i p hp]; rfl) (by rw [List.getElem?_map,s2 i p hp]; rfl)
theorem hY {β γ:Type}{a:List β}{b:List γ}(h:b.length=a.length):(a.zip b).map Prod.fst=a:=List.map_fst_zip AB
theorem hZ {β γ:Type}{a:List β}{b:List γ}(h:b.length=a.length):(a.zip b).map Prod.snd=b:=List.map_snd_zip AB
theorem ElS.del {xs:List α}{hs:List (Hd k)}(i:Nat) (he:ElS w D xs hs):ElS w D (xs.take i++xs.drop (i+1)) (hs.take i++hs.drop (i+1)):=by
 have hl:=he.1
 have e1:=hY hl; have e2:=hZ hl
 have:=ElS.sub (L:=xs.zip hs) (L':=(xs.zip hs).take i++(xs.zip hs).drop (i+1)) (by
  conv=>rhs; rw [← List.take_append_drop i (xs.zip hs)]
  exact List.Sublist.append (List.Sublist.refl _) (List.drop_sublist_drop_left _ (Nat.le_succ i))) (by rw [e1,e2]; exact he)
 rwa [List.map_append,List.map_append,List.map_take,List.map_take,List.map_drop,List.map_drop,e1,e2] at this
end
theorem k9 {w:World}{D:Nat→Prop}{x:Fil}{cs:List Value}(h:Dp.dp w D x cs):∃ y:FX,y.f=x∧cs=y.cs∧RepS w D y.a1 y.f.part.ids.length y.c1 y.f.part.ids∧RepS w D y.a2 y.f.part.blocks.length y.c2 y.f.part.blocks:=by
 obtain ⟨l,hl,rfl,h⟩:=h
 match l,hl with
 | [(a1, c1), (a2, c2)], _ =>
   exact ⟨⟨x,a1,c1,a2,c2⟩,rfl,rfl,DpS.rep (Eu h me0),DpS.rep (Eu h me1)⟩
theorem Yu {w:World}{r t n c:Nat}{F D:Nat→Prop}{xs:List Fil}{hs:List (Hd 2)}(ho:Own w r t F n c hs) (he:ElS w D xs hs) (hr:¬ D r):∃ ys:List FX,ys.map FX.f=xs∧ys.map FX.hd=hs∧Own w r t all n c ys:=by
 obtain ⟨hl,E,h1,h2,h3⟩:=he
 have hx:∀ (i:Nat) (x:Fil),xs[i]? = some x→∃ y:FX,y.f=x∧hs[i]? = some y.hd∧RepS w (fun b=>all b∧b≠r) y.a1 y.f.part.ids.length y.c1 y.f.part.ids∧RepS w (fun b=>all b∧b≠r) y.a2 y.f.part.blocks.length y.c2 y.f.part.blocks:=by
  intro i x hx
  have hi:i< hs.length:=by rw [hl]; exact (List.getElem?_eq_some_iff.1 hx).1
  have hh:hs[i]? = some hs[i]:=AU hi
  obtain ⟨y,e1,e2,e3,e4⟩:=k9 (h3 i x _ hx hh)
  have hw:∀ b,b< w.heap.size→E i b→all b∧b≠r:=fun b _ hb=>⟨trivial,fun e=>hr (by subst e; exact h2 i b hb)⟩
  refine ⟨y,e1,?_,e3.Bj hw,e4.Bj hw⟩
  rw [hh]
  congr 1
  show hs[i]=⟨y.cs,rfl⟩
  generalize hs[i]=q at e2
  cases q; simp only at e2; subst e2; rfl
 obtain ⟨ys,hyl,hy⟩:=Tw hx
 have ef:ys.map FX.f=xs:=List.ext_getElem? fun i=>by
  rw [List.getElem?_map]
  by_cases hi:i< xs.length
  ·have a1:xs[i]? = some xs[i]:=AU hi
   have a2:ys[i]? = some ys[i]:=AU AB
   rw [a2,a1]; simp only [Option.map_some,(hy i _ _ a1 a2).1]
  ·rw [List.getElem?_eq_none AB,List.getElem?_eq_none AB]; rfl
 have eh:ys.map FX.hd=hs:=List.ext_getElem? fun i=>by
  rw [List.getElem?_map]
  by_cases hi:i< xs.length
  ·have a1:xs[i]? = some xs[i]:=AU hi
   have a2:ys[i]? = some ys[i]:=AU AB
   rw [a2,(hy i _ _ a1 a2).2.1]; rfl
  ·rw [List.getElem?_eq_none AB,List.getElem?_eq_none AB]; rfl
 refine ⟨ys,ef,eh,⟨by rw [ho.len,hl,hyl],ho.le,ho.cap,ho.row,fun i y hyi=>?_⟩⟩
 have hi:i< xs.length:=by rw [← hyl]; exact (List.getElem?_eq_some_iff.1 hyi).1
 have a1:xs[i]? = some xs[i]:=AU hi
 obtain ⟨g1,g2,g3,g4⟩:=hy i _ _ a1 hyi
 obtain ⟨cs,q1,q2⟩:=ho.elem i _ g2
 have q1':cs=y.hd.cs:=q1
 subst q1'
 exact ⟨_,⟨rfl,g3,g4⟩,q2⟩
theorem Yv {w:World}{r t n c:Nat}{F F':Nat→Prop}{ys:List FX}(ho:Own w r t F n c ys):Own w r t F' n c (ys.map FX.hd):=by
 refine ⟨by rw [List.length_map]; exact ho.len,ho.le,ho.cap,ho.row,fun i h hh=>?_⟩
 rw [List.getElem?_map,Option.map_eq_some_iff] at hh
 obtain ⟨y,hy,rfl⟩:=hh
 obtain ⟨cs,⟨e,_,_⟩,q2⟩:=ho.elem i y hy
 subst e
 exact ⟨_,rfl,q2⟩
theorem Om {k:Nat}{w:World}{r t n c:Nat}{F F':Nat→Prop}{hs:List (Hd k)}(ho:Own w r t F n c hs):Own w r t F' n c hs :=
 ⟨ho.len,ho.le,ho.cap,ho.row,fun i x hx=>ho.elem i x hx⟩
theorem ElS.flt {w:World}{D:Nat→Prop}{p:Fil→Bool}{ys:List FX}(he:ElS w D (ys.map FX.f) (ys.map FX.hd)):ElS w D ((ys.map FX.f).filter p) ((ys.filter (fun y=>p y.f)).map FX.hd):=by
 have:=ElS.sub (L:=ys.map fun y=>(y.f,y.hd)) (L':=(ys.filter (fun y=>p y.f)).map fun y=>(y.f,y.hd)) (List.Sublist.map _ List.filter_sublist) (by rw [List.map_map,List.map_map]; exact he)
 rw [List.map_map,List.map_map] at this
 rw [List.filter_map]
 exact this
section
variable {P:Program} {n:Nat} {K:Env→World→Prop} {ops:Array Oper} {j:Nat} {e:Env}
variable {κ:Cx} {ρ:Option Rg} {Φ:List Ob} {Ψ:List Fz} {Θ:List (Nat × Nat × List Value)} {w w':World} {α:Type} [Rep α] {xs xs' ys:List α} {i q k m:Nat} {hs hs' gs:List (Hd k)}
theorem St.dl [Dp α] (Z:St κ ρ Φ Ψ Θ w) (i p:Nat) (js:List Nat) (xs xs':List α) (hs hs':List (Hd k)) (ho:Own w' (obB Φ i) (owT Φ i) (nin (κ.g (owG Φ i)) [obB Φ i]) m (owC Φ i) hs') (hn:m=xs'.length) (hx:Chg (one (obB Φ i)) w w')
 (hE:∀ D,ElS w D xs hs→(¬ D (obB Φ i))→ElS w D xs' hs') (hi:Φ[i]? = some (.raw (owG Φ i) (obB Φ i) (owT Φ i) (owC Φ i) xs hs):=by kernel_rfl) (h:isS Ψ p (owG Φ i)=true:=by kernel_rfl) (hm:(mvs (seI Ψ p) js).take 1=[.e xs hs]:=by kernel_rfl) :
 St κ ρ (Φ.set i (.raw (owG Φ i) (obB Φ i) (owT Φ i) (owC Φ i) xs' hs')) (⟨owG Φ i,none,.sep (.e xs' hs'::(mvs (seI Ψ p) js).drop 1)⟩ :: Ψ) [] w':=by
 subst hn
 obtain ⟨D,D',e1,e2,e3,e4⟩:=FQ (Z.sp p (owG Φ i) h) hm
 have hin:obB Φ i∈bl Φ:=Ck hi
 have Z1:=Z.sA (owG Φ i) (its:=.e xs' hs'::(mvs (seI Ψ p) js).drop 1) ⟨D,D',hE D e1 (fun hD=>(e3 _ hD).1.2 hin),e2,e3,e4⟩
 refine Z1.put hi hx (.inl rfl) ho.lt ⟨?_,(Z.rw i xs hs hi).2⟩
 exact Om ho
theorem St.els [Dp α] (Z:St κ ρ Φ Ψ Θ w) (i p:Nat) (js:List Nat) (xs:List α) (hs:List (Hd k)) (hi:Φ[i]? = some (.raw (owG Φ i) (obB Φ i) (owT Φ i) (owC Φ i) xs hs):=by kernel_rfl) (h:isS Ψ p (owG Φ i)=true:=by kernel_rfl) (hm:(mvs (seI Ψ p) js).take 1=[.e xs hs]:=by kernel_rfl) :
 ∃ D:Nat→Prop,ElS w D xs hs∧¬ D (obB Φ i):=by
 obtain ⟨D,D',e1,e2,e3,e4⟩:=FQ (Z.sp p (owG Φ i) h) hm
 exact ⟨D,e1,fun hD=>(e3 _ hD).1.2 (Ck hi)⟩
theorem St.rnb {β:Type}(Z:St κ ρ Φ Ψ Θ w) (i q:Nat) (xs:List α) (ys:List β) [Rep β] (hs:List (Hd k)) (hi:Φ[i]? = some (.raw (owG Φ i) (obB Φ i) (owT Φ i) (owC Φ i) ys hs):=by kernel_rfl) (h:Ψ[q]? = some ⟨fzG Ψ q,fzL Ψ q,.rep (fzA Ψ q) (fzC Ψ q) xs⟩:=by kernel_rfl):RepS w (nin all [obB Φ i]) (fzA Ψ q) xs.length (fzC Ψ q) xs :=
 (Z.f q xs h).Bj fun b _ hb=>⟨trivial,fun hm=>hb.2 (by cases List.mem_singleton.1 hm; exact Ck hi)⟩
omit [Rep α] in
theorem St.nq {β:Type}[Rep β] (Z:St κ ρ Φ Ψ Θ w) (i q:Nat) (ys:List β) (hs:List (Hd k)) (hi:Φ[i]? = some (.box (obB Φ i) (bxT Φ i) (bxC Φ i)):=by kernel_rfl) (hq:Φ[q]? = some (.raw (owG Φ q) (obB Φ q) (owT Φ q) (owC Φ q) ys hs):=by kernel_rfl) (hn:Nat.beq q i=false:=by kernel_rfl):obB Φ q≠obB Φ i:=HB Z.nd (D2 hi) (D2 hq) fun e=>by subst e; exact absurd hn AD
omit [Rep α] in
theorem RG.Aw (i q:Nat) (ys:List α) (gs:List (Hd k)) (Z:St κ ρ Φ Ψ Θ w)
 (H:∀ r2 c2 w',St κ ρ ((Φ.eraseIdx q).set i (.raw (owG (Φ.eraseIdx q) i) r2 (owT (Φ.eraseIdx q) i) c2 ys gs)) Ψ [] w'→RG P n K ops (j+1) (Ag e (Ad ops j).dst (.slice (some ⟨r2,0,none⟩) ys.length c2)) w')
 (hsz:ys.length≤100000000000:=by first | omega | (simp <;> omega))
 (hi:(Φ.eraseIdx q)[i]? = some (.raw (owG (Φ.eraseIdx q) i) (obB (Φ.eraseIdx q) i) (owT (Φ.eraseIdx q) i) (owC (Φ.eraseIdx q) i) ([]:List α) ([]:List (Hd k))):=by kernel_rfl)
 (hq:Φ[q]? = some (.raw (owG Φ q) (obB Φ q) (owT Φ q) (owC Φ q) ys gs):=by kernel_rfl)
 (h:Bk n ops j e=some (.append,[apT (Bk n ops j e),apT (Bk n ops j e)],apY (Bk n ops j e),[.slice (some ⟨obB (Φ.eraseIdx q) i,0,none⟩) 0 (owC (Φ.eraseIdx q) i),.slice (some ⟨obB Φ q,0,none⟩) ys.length (owC Φ q)]):=by kernel_rfl)
 (hT:E2 P (apT (Bk n ops j e)) (owT (Φ.eraseIdx q) i) (k+1)=true:=by kernel_rfl):RG P n K ops j e w:=by
 have Z1:=Z.dr q
 have hb:Own w (obB Φ q) (owT Φ q) (nin (κ.g (owG Φ q)) (bl Φ)) ys.length (owC Φ q) gs∧κ.w.heap.size≤obB Φ q:=Z.ob _ (AV hq)
 have hn:obB Φ q∉bl (Φ.eraseIdx q):=by rw [NX]; exact Jn Z.nd (D2 hq)
 obtain ⟨ho,hs0⟩:=Z1.rw i ([]:List α) ([]:List (Hd k)) hi
 have hr:obB (Φ.eraseIdx q) i∈bl (Φ.eraseIdx q):=Ck hi
 have hrep:RepS w (fun b=>b=obB Φ q) (some ⟨obB Φ q,0,none⟩) ys.length (owC Φ q) gs:=⟨hb.1.len,hb.1.le,hb.1.cap,fun _=>rfl,fun _=>rfl,fun u x hx=>by
  obtain ⟨cs,g1,g2⟩:=hb.1.elem u x hx
  exact ⟨cs,g1,by simpa [blk,off] using g2⟩⟩
 have hl:gs.length=ys.length:=hb.1.len.symm
 obtain ⟨r2,c2,w',hrun,ho',hor,hx,_⟩:=ho.append (P:=P) (T:=apT (Bk n ops j e)) (ty:=apY (Bk n ops j e)) hT hrep (fun b _ hF=>by
  subst hF
  exact ⟨⟨Cx.nw hb.2,hn⟩,fun e=>hn (by rw [e]; exact hr)⟩) (by simpa using hsz)
 refine RG.append h hrun ?_
 have e0:([]:List α).length+ys.length=ys.length:=by simp
 rw [e0]
 refine H r2 c2 w' (Z1.put hi hx ?_ ho'.lt ⟨?_,?_⟩)
 ·exact hor.imp id (fun e=>Nat.le_of_eq e.symm)
 ·rw [e0] at ho'
  exact Om ho'
 ·rcases hor with rfl | rfl
  ·exact hs0
  ·exact Z1.ch.size
end
section
variable {P:Program} {S:Nat→Prop} {n m:Nat} {L:Env→World→Prop} {ops:Array Oper} {l:List Nat} {e:Env}
variable {κ:Cx} {ρ:Option Rg} {Φ:List Ob} {Ψ:List Fz} {Θ:List (Nat × Nat × List Value)} {w:World} {k:Nat}
theorem GE.Sr {α:Type}[Rep α] {kk:Nat}(i d:Nat) (xs:List α) (y:α) (hs:List (Hd k)) (hd:Hd k) (js:List Nat) (Z:St κ ρ Φ Ψ Θ w)
 (H:∀ w',St κ ρ (Φ.set i (.raw (owG Φ i) (obB Φ i) (owT Φ i) (owC Φ i) (xs.set d y) (hs.set d hd))) Ψ [] w'→GA P (rS ρ) n m L ops (kk::l) (Ag e (Ad ops kk).dst undef) w') (hlt:d< xs.length:=by omega)
 (hi:Φ[i]? = some (.raw (owG Φ i) (obB Φ i) (owT Φ i) (owC Φ i) xs hs):=by kernel_rfl) (hv:(stV (storeAt n ops kk e)).cells.toList=hd.cs:=by kernel_rfl) (hsz:Da P (stT (storeAt n ops kk e)) (k+1)=true:=by kernel_rfl)
 (h:storeAt n ops kk e=some (stT (storeAt n ops kk e),⟨obB Φ i,0+d * (k+1),none⟩,stV (storeAt n ops kk e)):=by kernel_rfl)
 (h0:isR ρ=true:=by kernel_rfl) (h1:(roJ ρ).map some=js.map (fun j=>(Φ[j]?).map Ob.b):=by kernel_rfl) (h2:js.all (fun j=>!(Nat.beq j i))=true:=by kernel_rfl):GE P (rS ρ) n m L ops l kk e w:=fun w1 hx=>by
 obtain ⟨w',hr,hz,hc⟩:=(Z.e hx).srC (P:=P) i d xs y hs hd hi hlt hv hsz
 rw [Fc h hr]
 exact ⟨Ht (Z.SJ hi js h0 h1 h2) hc,H w' hz⟩
theorem GA.Kr (q i nn d:Nat) (z:Int) (_:St κ ρ Φ Ψ Θ w) (H:GA P S n m L ops (q::l) (Ag e (Ad ops q).dst (.pointer (some ⟨obB Φ i,0+d * (k+1),none⟩))) w) (hz:z=(d:Int):=by omega) (hn:d< nn:=by omega)
 (hi:QP P n m ops l q e=some (some ⟨obB Φ i,0,none⟩,nn,z,k+1):=by kernel_rfl):GA P S n m L ops l e w:=GA.idx d hi hz hn rfl H
end
end Go.Proofs.YtcginoabkicdiaaGreat
namespace Go.Proofs.YtcginoabkicdiaaGreat
set_option maxRecDepth 100000
set_option maxHeartbeats 4000000
variable {w:World} {F:Nat→Prop} {a1:Option Addr} {n1 c1:Nat}
theorem KO (s:List FX) (d:Dsk) (h1:RepS w F a1 n1 c1 s){bq_d:Nat}{a2:Option Addr}{c2:Nat}{a3:Option Addr}{c3:Nat}{a4:Option Addr}{c4:Nat}(hb_d:Box w bq_d 35 [.slice a2 d.files.length c2,.slice a3 d.list.length c3,.slice a4 d.names.length c4,.int .i64 d.next]) (h2:RepS w F a2 d.files.length c2 d.files) (h3:RepS w F a3 d.list.length c3 d.list) (h4:RepS w F a4 d.names.length c4 d.names)  : Calls Tryz.prog 184 [.slice a1 n1 c1,.func (.func 187) #[] #[.pointer (some ⟨bq_d,0,none⟩)]].toArray w (Af fun rv w'=>rv=.int .i64 (Df d.list 0 s)∧Ext w w'):=by
 refine goT func184 ?_
 obtain ⟨rfl,ax,h1⟩:=h1.tp
 replace h2:=h2.top (s:=w.heap.size)
 replace h3:=h3.top (s:=w.heap.size)
 replace h4:=h4.top (s:=w.heap.size)
 refine .s<|.g<|.r 1<|.d<|.s<|.s<|.g<|.r 3<|.d<|.b 0<|T.loop (X:=Nat) 0 (fun k=>[(0,.slice a1 s.length c1),(1,.func (.func 187) #[] #[.pointer (some ⟨bq_d,0,none⟩)]),(7,vI (s.length:Int)),(8,vI (k:Int))]) (fun k ac=>Chg (ins []) w ac∧(k≤s.length)∧(Df d.list k (s.drop k)=Df d.list 0 s)) (fun k=>s.length - k) AA ⟨AA,AA,AA,AA,trivial⟩ ⟨Chg.refl _ _,AD,AD⟩ ?_
 rintro k aH ac ⟨aa,aB,aC⟩ ae
 have ag:Mv [] [] w ac:=Mv.inl aa all_nil all_nil
 replace ⟨h1,h2,h3,h4,hb_d⟩:=(sp ag aa).g5 h1 h2 h3 h4 hb_d
 have ab:Chg nil w ac:=Chg.O6 (Chg.refl nil w) aa all_nil
 clear ag
 refine .s<|.g<|.bp ((k:Int)< (s.length:Int)) (fun aj=>?_) (fun aj=>.d<|.s<|.cf<|.x 0 rfl<|.s<|.g<|.r 1<|.d<|.rt func184 results184 (vI (-1)) ⟨(congrArg (Value.int .i64) (by exact U6 ‹_› AB)),ab⟩)
 refine .d<|.s<|.ct<|.sk<|.s<|.b 1<|.s<|.g<|.r 2<|.d<|.s<|.g<|.r 3 ?_
 have ak:k< s.length:=AB
 refine .ix k 3 h1 ak ?_
 obtain ⟨ai,af⟩:∃ y,s[k]? = some y:=⟨_,AU AB⟩
 have aD:=Ab af
 obtain ⟨_,⟨rfl,am,ao⟩,aq⟩:=h1.elem k ai af
 refine .lg 0 aq<|.cl (Fk ai.f d am.ta ao.ta hb_d h2.ta h3.ta h4.ta (w:=ac) (F:=all)) ?_
 rintro aI aJ ⟨rfl,ah⟩
 replace ⟨hb_d,ab,aa⟩:=(se [] ah).g3 hb_d ab aa
 clear ah
 cases aG:(!(d.list.contains ai.f.num))
 ·exact .d<|.cf<|.sk<|.ib 1<|.g<|.it ((k:Int)+1)<|.r 1<|.d<|ae (k+1) _ _ ⟨AA,AA,AA,AA,trivial⟩ ⟨aa,AB,(by exact Ys ‹_› ‹_› ‹_›)⟩ AB
 exact .d<|.ct<|.s<|.g<|.r 2<|.d<|.rt func184 results184 (vI (k:Int)) ⟨(congrArg (Value.int .i64) (by exact U5 ‹_› ‹_› ‹_›)),ab⟩
theorem IG (d:Dsk){r n c bq c1 c2 c3:Nat}{a1 a2 a3:Option Addr}{xs0:List FX}(ho:Own w r 148 F n c xs0) (hb:Box w bq 35 [.slice a1 d.files.length c1,.slice a2 d.list.length c2,.slice a3 d.names.length c3,.int .i64 d.next]) (h1:RepS w (nin all [r]) a1 d.files.length c1 d.files) (h2:RepS w (nin all [r]) a2 d.list.length c2 d.list) (h3:RepS w (nin all [r]) a3 d.names.length c3 d.names) (hne:Nb r bq) (hn:n≤1000000):Calls Tryz.prog 186 [.slice (some ⟨r,0,none⟩) n c,.func (.func 187) #[] #[.pointer (some ⟨bq,0,none⟩)]].toArray w (Af fun rv w'=>(∃ m,rv=.slice (some ⟨r,0,none⟩) m c∧Own w' r 148 F m c (xs0.filter (fun f=>d.list.contains f.f.num)))∧Chg (one r) w w'):=by
 refine goT func186 ?_
 replace ho:=ho.ZN; have hnl:=ho.len; have hle:=ho.le
 refine .s<|.g<|.r 1<|.d<|.s<|.g<|.r 2<|.cl (KO xs0 d (ho.rep) hb h1.ta h2.ta h3.ta (w:=w) (F:=all)) ?_
 rintro bN aB ⟨rfl,aq⟩
 replace ⟨ho,h1,h2,h3,hb⟩:=(se [r] aq).g5 ho h1 h2 h3 hb
 have ac:Chg (one r) w aB:=Chg.NR (Chg.refl (one r) w) aq
 clear aq
 refine .r 1<|.d<|.s<|.s<|.g<|.r 1<|.eq (Df d.list 0 xs0) (-1) (fun aP=>.d<|.ct<|.s<|.g<|.r 2<|.d<|.rt func186 results186 (vS r n c) ⟨⟨_,rfl,(Own.XO ho).eqx (W2 ‹_›)⟩,ac⟩) fun aP=>.d<|.cf<|.sk<|.s<|.s<|.g<|.r 1<|RG.int (Df d.list 0 xs0+1) AA (by (have q1:=R6 (by assumption:¬ Df d.list 0 xs0 = -1); have q2:=R7 d.list xs0; omega))<|.r 1<|.d<|.b 0<|T.loop (X:=Int × Int × (List FX)) (Df d.list 0 xs0,Df d.list 0 xs0+1,xs0) (fun (i,j,xs)=>[(0,vS r n c),(1,.func (.func 187) #[] #[.pointer (some ⟨bq,0,none⟩)]),(5,vI i),(6,vI j)]) (fun (i,j,xs) ar=>Chg (ins [r]) aB ar∧Own ar r 148 (nin F [r]) n c xs∧(0≤i)∧(i< j)∧(j≤n)∧(xs.take i.toNat=(xs0.take j.toNat).filter (fun f=>d.list.contains f.f.num))∧(xs.drop j.toNat=xs0.drop j.toNat)) (fun (i,j,xs)=>n - j.toNat) AA ⟨AA,AA,AA,AA,trivial⟩ ⟨Chg.refl _ _,ho,(by exact R6 ‹_›),AB,(by have:=R7 d.list xs0; omega),(by exact S4 ‹_›),AF⟩ ?_
 rintro ⟨i,j,xs⟩ bO ar ⟨ae,aa,bj,bk,bm,bn,bo⟩ aj
 have br:Cov (ins [r]) aB r:=⟨.inl AI⟩
 have aD:Mv [r] [r] aB ar:=Mv.inl ae (all_cons AI all_nil) (all_cons (.inl AI) all_nil)
 replace ⟨h1,h2,h3,hb,ac⟩:=(sp aD ae).g5 h1 h2 h3 hb ac
 clear aD
 have bu:=aa.len
 refine .s<|.s<|.g<|.r 3<|.bp (j< (n:Int)) (fun aQ=>?_) (fun aQ=>?_)
 ·refine .d<|.ct<|.sk<|.s<|.b 1<|.s<|.g<|.r 2 ?_
  have aR:j.toNat< n:=AB
  refine RG.idx (b:=r) (o:=0) (j.toNat) (len:=n) (i:=j) (sz:=3) AA AB aR rfl ?_
  obtain ⟨ab,ax⟩:∃ y,xs[j.toNat]? = some y:=⟨_,AU AB⟩
  obtain ⟨_,⟨rfl,ag,ah⟩,ay⟩:=aa.elem (j.toNat) ab ax
  replace ag:=ag.Bj (fun _ _ h=>h.1)
  replace ah:=ah.Bj (fun _ _ h=>h.1)
  replace ay:Has ar ⟨r,0+(j.toNat) * Rep.sz FX,none⟩ [vI ab.f.num,.slice ab.a1 ab.f.part.ids.length ab.c1,.slice ab.a2 ab.f.part.blocks.length ab.c2]:=by rw [Nat.zero_add]; exact ay
  refine .lg 0 ay<|.np 148 [vI 0,AH,AH] fun aC bP ai aE aS aT=>?_
  have bC:=Az ai aa.lt
  have bD:=Az ai hb.lt
  have bE:=ac.cn ai
  have bF:=ae.cn ai
  replace ⟨aa,h1,h2,h3,hb,ag,ah,ac,ae⟩:=(sn [r] aE ai).g9 aa h1 h2 h3 hb ag ah ac ae
  clear aE aT ai
  refine .sc [vI ab.f.num,.slice ab.a1 ab.f.part.ids.length ab.c1,.slice ab.a2 ab.f.part.blocks.length ab.c2] aS fun bg aF am aU=>?_
  replace ⟨aa,h1,h2,h3,hb,ag,ah,ac,ae⟩:=(so [aC,r] aF).g9 aa h1 h2 h3 hb ag ah ac ae
  clear aF aU
  refine .d<|.s<|.g<|.r 1<|.ln am<|.cl (Fk ab.f d ag.ta ah.ta hb h1.ta h2.ta h3.ta (w:=bg) (F:=all)) ?_
  rintro bQ aI ⟨rfl,aG⟩
  replace ⟨aa,hb,ag,ah,am,ac,ae⟩:=(se [aC,r] aG).g7 aa hb ag ah am ac ae
  clear aG
  cases bG:(!(d.list.contains ab.f.num))
  ·refine .r 1<|.d<|.ct<|.s<|.g<|.r 2<|.ln am ?_
   have aV:i.toNat< n:=AB
   refine RG.idx (b:=r) (o:=0) (i.toNat) (len:=n) (i:=i) (sz:=3) AA AB aV rfl ?_
   obtain ⟨af,ao⟩:∃ y,xs[i.toNat]? = some y:=⟨_,AU AB⟩
   obtain ⟨_,⟨rfl,aJ,aK⟩,az⟩:=aa.elem (i.toNat) af ao
   replace aJ:=aJ.Bj (fun _ _ h=>h.1)
   replace aK:=aK.Bj (fun _ _ h=>h.1)
   replace az:Has aI ⟨r,0+(i.toNat) * Rep.sz FX,none⟩ [vI af.f.num,.slice af.a1 af.f.part.ids.length af.c1,.slice af.a2 af.f.part.blocks.length af.c2]:=by rw [Nat.zero_add]; exact az
   refine RG.G6 (t':=148) (i:=(i.toNat)) (k:=0) (v:=.agg #[vI ab.f.num,.slice ab.a1 ab.f.part.ids.length ab.c1,.slice ab.a2 ab.f.part.blocks.length ab.c2]) (cs:=[vI af.f.num,.slice af.a1 af.f.part.ids.length af.c1,.slice af.a2 af.f.part.blocks.length af.c2]) ab aa ao az AA AA AA ⟨rfl,ag.oi,ah.oi⟩ fun aH ak aA aL=>?_
   replace ⟨hb,ac,ae⟩:=(s1 aA).g3 hb ac ae
   clear aA aL
   refine .d<|.g<|.r 1<|RG.int (i+1) AA AB<|.r 1<|.d<|.ib 1<|.g<|.r 1<|RG.int (j+1) AA AB<|.r 1<|.d ?_
   have aM:Mv [aC,r] [r] aH aH:=Mv.less (all_cons AJ all_nil)
   replace ak:=(sp aM (Chg.refl nil _)).g1 ak
   exact aj (i+1,j+1,(xs.set (i.toNat) ab)) _ _ ⟨AA,AA,AA,AA,trivial⟩ ⟨ae,ak,AB,AB,AB,(by exact U7 ‹_› ‹_› ‹_› AB AB AB ‹_›),(by exact S5 ‹_› AB AB AB)⟩ (by (simp only []; omega))
  refine .r 1<|.d<|.cf<|.sk<|.ib 1<|.g<|.r 1<|RG.int (j+1) AA AB<|.r 1<|.d ?_
  have aN:Mv [aC,r] [r] aI aI:=Mv.less (all_cons AJ all_nil)
  replace aa:=(sp aN (Chg.refl nil _)).g1 aa
  exact aj (i,j+1,xs) _ _ ⟨AA,AA,AA,AA,trivial⟩ ⟨ae,aa,AB,AB,AB,(by exact U8 ‹_› ‹_› ‹_› AB ‹_›),(by exact U9 ‹_› AB)⟩ (by (simp only []; omega))
 refine .d<|.cf<|.x 0 rfl<|.s<|.g<|.r 2 ?_
 refine RG.IE (t:=32) (r:=r) (o:=0) (len:=n) (cap:=c) (lo:=some (vI i)) (hi:=none) (sz:=3) (i.toNat) n AA AA (.inr ⟨_,_,rfl,by omega⟩) (.inl ⟨rfl,rfl⟩) AB AB AB ?_
 obtain ⟨cs_,hB_,hl_⟩:=Own.YL aa; have hz_:Rep.sz FX=3:=rfl; rw [hz_] at hl_
 obtain ⟨vs_,w5,bh,bS,aW,aO⟩:=Uo (P:=Tryz.prog) (T:=32) (ty:=0) (t:=148) (sz:=3) (o:=0+(i.toNat) * 3) (m:=n - i.toNat) (c:=c - i.toNat) AA hB_ AB AB
 rw [Nat.zero_add] at aW
 have hsl_:(Ay cs_ ((i.toNat) * 3) vs_).length=c * Rep.sz FX:=by rw [EJ AB,hz_]; exact hl_
 have bi:=Own.Yn aa aO hB_ aW hsl_ (i:=i.toNat) AB (fun p hp=>Sy (by rw [hz_] at hp; exact hp) AB)
 refine RG.clear (ats:=[32]) (ty:=0) (args:=[.slice (some ⟨r,0+(i.toNat) * 3,none⟩) (n - i.toNat) (c - i.toNat)]) AA bh ?_
 replace ⟨hb,ac⟩:=(s1 aO).g2 hb ac
 clear aO
 exact .d<|.s<|.g<|.r 2<|RG.IE (t:=32) (r:=r) (o:=0) (len:=n) (cap:=c) (lo:=none) (hi:=some (vI i)) (sz:=3) 0 (i.toNat) AA AA (.inl ⟨rfl,rfl⟩) (.inr ⟨_,_,rfl,by omega⟩) AB AB AB<|.r 1<|.d<|.rt func186 results186 (vS r (i.toNat) c) ⟨⟨_,rfl,(Own.XO bi).eqx (W3 ‹_› ‹_› AB AB)⟩,ac⟩
theorem K7 {r n c i:Nat}{xs:List (Hd 1)}{a b:Int}(ho:Own w r 146 F n c xs) (ha:a=(i:Int)) (hb:b=(i:Int)+1) (hi:i< n) (hn:n≤1000000):Calls Tryz.prog 132 [.slice (some ⟨r,0,none⟩) n c,.int .i64 a,.int .i64 b].toArray w (Af fun rv w'=>(rv=.slice (some ⟨r,0,none⟩) (n - 1) c∧Own w' r 146 F (n - 1) c (xs.take i++xs.drop (i+1)))∧Chg (one r) w w'):=by
 subst ha hb
 refine goT func132 ?_
 have hle:=ho.le
 obtain ⟨cs,hB,hl⟩:=ho.YL
 have hz:Rep.sz (Hd 1)=2:=rfl
 rw [hz] at hl
 refine .s<|.g<|.r 1<|.d<|.s<|.g<|.r 5<|RG.Zj (t:=28) (k:=.i64) (k2:=.i64) (k3:=.i64) (a:=some ⟨r,0,none⟩) (len:=n) (cap:=c) (i1:=(i:Int)) (i2:=(i:Int)+1) (i3:=(n:Int)) (sz:=2) i (i+1) n AA AA rfl AB rfl AB AB hle fun v_=>.d<|.s<|.s<|.g<|.r 2<|.eq (i:Int) ((i:Int)+1) (fun h=>absurd (show False by omega) id) fun _=>.d<|.cf<|.sk<|.s<|.g<|.r 3<|.d<|.s<|.gd (one r) 7 fun w1 ag=>.r [0,1]<|GA.IE (i:=2) (t:=28) (r:=r) (o:=0) (len:=n) (cap:=c) (lo:=none) (hi:=some (vI (i:Int))) (sz:=2) 0 i AA AA AA (.inl ⟨rfl,rfl⟩) (.inr ⟨_,_,rfl,rfl⟩) AB AB AB<|.r [3,4]<|GA.Zk (i:=5) (t:=28) (r:=r) (len:=n) (cap:=c) (lo:=some (vI ((i:Int)+1))) (hi:=none) (sz:=2) (i+1) n AA AA AA (.inr ⟨_,_,rfl,by omega⟩) (.inl ⟨rfl,rfl⟩) AB AB fun a2 c2 h2=>.go 6<|GE.append (T:=28) (ty:=28) (args:=[vS r i c,.slice a2 (n - (i+1)) c2]) AA fun w2 ai=>?_
 have aa:Ext w w2:=ag.trans ai
 have m1:(i+1) * 2+(n - (i+1)) * 2=n * 2:=by omega
 have ab:=hB.ext aa
 obtain ⟨w3,hr,aj,ac⟩:=Pm (P:=Tryz.prog) (T:=28) (ty:=28) (t:=146) (sz:=2) (i:=i) (c:=c) (m:=n - (i+1)) (c':=c2) (a2:=a2) (vs:=(cs.drop ((i+1) * 2)).take ((n - (i+1)) * 2)) AA ab
  (fun hp=>⟨_,h2 hp,fun k u hu=>by
   rw [add_lit]
   unfold Box at ab
   simp only [World.cell?,ab]
   rw [List.getElem?_take] at hu
   split at hu
   all_goals first | (cases hu; done) | (rw [List.getElem?_drop] at hu; simpa using hu)⟩) (by rw [List.length_take,List.length_drop]; omega) AB (by rw [List.length_take,List.length_drop]; omega) (fun v hv=>ho.pU (i:=i+1) hB v AB hv)
 refine ⟨_,w3,hr,ac,.d fun w4 ae=>.r 1<|.d<|.s<|.g<|.r 4<|?_⟩
 have ak:=aj.ext ae
 have hlen:i+(n - (i+1))=n - 1:=by omega
 rw [hlen]
 refine RG.IE (t:=28) (r:=r) (o:=0) (len:=n - 1) (cap:=c) (lo:=some (vI ((n - 1:Nat):Int))) (hi:=some (vI (n:Int))) (sz:=2) (n - 1) n AA AA (.inr ⟨_,_,rfl,rfl⟩) (.inr ⟨_,_,rfl,rfl⟩) AB AB AB ?_
 have h1:n - (n - 1)=1:=by omega
 rw [h1]
 have aB:(Ay cs (i * 2) ((cs.drop ((i+1) * 2)).take ((n - (i+1)) * 2))).length=c * 2:=by rw [EJ (by rw [List.length_take,List.length_drop]; omega)]; exact hl
 obtain ⟨vs,w5,am,ao,af,aq⟩:=Pn (P:=Tryz.prog) (T:=28) (ty:=0) (t:=146) (sz:=2) (o:=0+(n - 1) * 2) (c:=c - (n - 1)) AA ak AB
 rw [Nat.zero_add] at af
 have hd:=Nu (sz:=2) hl hi hle rfl ao
 have hx:Chg (one r) w w5:=(((aa.chg (S:=one r)).trans ac).trans ae.chg).trans aq
 refine RG.clear (ats:=[28]) (ty:=0) (args:=[.slice (some ⟨r,0+(n - 1) * 2,none⟩) 1 (c - (n - 1))]) AA am<|.d<|.s<|.g<|.r 2<|.d<|.rt func132 results132 (vS r (n - 1) c) ⟨⟨rfl,Own.UL ho hx hB af (by rw [hz]; exact hd.1) hi (by rw [hz]; exact hd.2)⟩,hx⟩
end Go.Proofs.YtcginoabkicdiaaGreat
namespace Go.Proofs.YtcginoabkicdiaaGreat
set_option maxRecDepth 100000
set_option maxHeartbeats 4000000
variable {w:World} {F:Nat→Prop} {a1 a2 a3 a4:Option Addr} {n1 c1 n2 c2 n3 c3 n4 c4:Nat}
theorem K8 {r c i:Nat}{xs:List Prt}{hs:List (Hd 1)}{a b:Int}(ho:Own w r 146 F xs.length c hs) (ha:a=(i:Int)) (hb:b=(i:Int)+1) (hi:i< xs.length) (hn:xs.length≤1000000):Calls Tryz.prog 132 [.slice (some ⟨r,0,none⟩) xs.length c,.int .i64 a,.int .i64 b].toArray w (Af fun rv w'=>(rv=.slice (some ⟨r,0,none⟩) (xs.take i++xs.drop (i+1)).length c∧Own w' r 146 F (xs.take i++xs.drop (i+1)).length c (hs.take i++hs.drop (i+1)))∧Chg (one r) w w'):=by
 have e:(xs.take i++xs.drop (i+1)).length=xs.length - 1:=by rw [List.length_append,List.length_take,List.length_drop]; omega
 rw [e]
 exact K7 ho ha hb hi hn
theorem Mh (d:Dsk){r c bq c1 c2 c3:Nat}{a1 a2 a3:Option Addr}{xs:List Fil}{hs:List (Hd 2)}{D:Nat→Prop}(ho:Own w r 148 F xs.length c hs) (he:ElS w D xs hs) (hr:¬ D r) (hb:Box w bq 35 [.slice a1 d.files.length c1,.slice a2 d.list.length c2,.slice a3 d.names.length c3,.int .i64 d.next]) (h1:RepS w (nin all [r]) a1 d.files.length c1 d.files) (h2:RepS w (nin all [r]) a2 d.list.length c2 d.list) (h3:RepS w (nin all [r]) a3 d.names.length c3 d.names) (hne:Nb r bq) (hn:xs.length≤1000000):Calls Tryz.prog 186 [.slice (some ⟨r,0,none⟩) xs.length c,.func (.func 187) #[] #[.pointer (some ⟨bq,0,none⟩)]].toArray w (Af fun rv w'=>(∃ hs':List (Hd 2),rv=.slice (some ⟨r,0,none⟩) (xs.filter (fun f=>d.list.contains f.num)).length c∧Own w' r 148 F (xs.filter (fun f=>d.list.contains f.num)).length c hs'∧∀ (w:World) (D:Nat→Prop),ElS w D xs hs→ElS w D (xs.filter (fun f=>d.list.contains f.num)) hs')∧Chg (one r) w w'):=by
 obtain ⟨ys,rfl,rfl,hy⟩:=Yu ho he hr
 refine (IG d hy hb h1 h2 h3 hne hn).mono ?_
 rintro e w' ⟨v,rfl,⟨k,rfl,aa⟩,hx⟩
 have e:k=((ys.map FX.f).filter (fun f=>d.list.contains f.num)).length:=by rw [aa.len,List.filter_map,List.length_map]; rfl
 subst e
 exact ⟨_,rfl,⟨_,rfl,Yv aa,fun _ _ h=>h.flt⟩,hx⟩
theorem Jf (s:Sto) (at_:Int) (h1:RepS w F a1 n1 c1 s.idx.names) (h2:RepS w F a2 n2 c2 s.idx.AX) (h3:RepS w F a3 n3 c3 s.parts) (h4:RepS w F a4 n4 c4 s.mem) (p0:SD s):Calls Tryz.prog 64 [.agg #[.slice a1 n1 c1,.slice a2 n2 c2,.slice a3 n3 c3,.slice a4 n4 c4],.int .i64 at_].toArray w (Af fun rv w'=>(∃ v0,rv=.tuple #[v0,.bool ((Dx s at_).2)]∧VD w.heap.size w' ((Dx s at_).1:Sto) v0)∧Ext w w'):=by
 cases h1.len
 cases h2.len
 cases h3.len
 cases h4.len
 refine goT func64 ?_
 have Z:=((((St.i0 F w).p h1).p h2).p h3).p h4
 have aP:=h3.max
 have Z:=Z.s0 0
 refine .s<|.g<|RG.Np Z fun aG w Z=>RG.Np Z fun aH w Z=>.r 1<|.d<|.s<|.s<|.g<|RG.Ln 1 Z<|RG.C0 (FW s (Z.a 4) (Z.a 3) (Z.a 2) (Z.a 1) p0) Z fun w Z=>?_
 cases aR:(Ae s)
 ·refine .r 1<|.d<|.ct<|.s<|.g<|.r 1<|RG.Ss 0 Z fun w Z=>.r 1<|.d ?_
  have Z:=(((Z.sZ (List Tag) 0 0).sZ Pst 1 0).sZ Prt 1 0).sZ Smp 1 0
  exact T.r2 func64 results64 (.B 0 Z) (.t (.bool false)) ⟨⟨_,(DG rfl (AG (by rw [Nt ‹_›]))),Z.rD 1 [0,1,2,3] (⟨(⟨([]:List (List Tag)),([]:List Pst)⟩:Idx),([]:List Prt),([]:List Smp)⟩:Sto) [(none,0),(none,0),(none,0),(none,0)] (by rw [Nt ‹_›])⟩,Z.xt⟩
 refine .r 1<|.d<|.cf<|.sk<|.s<|.g<|RG.Ln 1 Z<|RG.cl (CI s (Z.a 4) (Z.a 3) (Z.a 2) (Z.a 1) p0.nm p0.nd p0.sz) ?_
 rintro _ w ⟨⟨aq,ar,ax,ay,aI,aJ,ac,az,aA,rfl,aB⟩,aC⟩
 have Z:=Z.vX 0 aB aC
 refine RG.Np Z fun aK w Z=>RG.Ss 0 Z fun w Z=>.d<|.s<|.s<|.g<|.r 2<|RG.Lb 4 Z<|.r 1<|RG.int ((s.parts.length:Int) - 2) AA (by have:=p0.np; omega)<|RG.C0 (CB at_ 0 ((s.parts.length:Int) - 2) (F:=all)) Z fun w Z=>?_
 cases ao:(inR at_ 0 ((s.parts.length:Int) - 2))
 ·refine .r 1<|.d<|.ct<|.s<|.g<|RG.Ln 0 Z<|RG.Ss 3 Z fun w Z=>.r 1<|.d ?_
  have Z:=(Z.eL 1 0 0 [2] (((AY s)).parts) ac).fL 1 1 0 (((AY s)).mem)
  exact T.r2 func64 results64 (.B 1 Z) (.t (.bool false)) ⟨⟨_,(DG rfl (AG (by rw [Po p0 ‹_› ‹_›]))),Z.rD 1 [0,1,3,3] (⟨(⟨(((AY s)).idx).names,(((AY s)).idx).AX⟩:Idx),((AY s)).parts,((AY s)).mem⟩:Sto) [(aq,ar),(ax,ay),(some ⟨aI,0,none⟩,aJ),(some ⟨az,0,none⟩,aA)] (by rw [Po p0 ‹_› ‹_›])⟩,Z.xt⟩
 have aT:=Bt ao
 refine .r 1<|.d<|.cf<|.sk<|.s<|T.GS 20 [aK,aH,aG] Z fun _ w Z=>.r [0]<|GA.Lb 1 0 Z<|.r [2,3]<|GA.Lb (q:=2) 4 4 Z<|.r [5]<|gx (h:=(by have q2:=Bt ‹_›; have q3:(AY s).parts.length=s.parts.length:=rfl; omega)) s.parts (at_.toNat) fun aa aj=>?_
 have aE:=AV aj
 refine GA.Jx (hz:=(by have q2:=Bt ‹_›; omega)) 6 5 at_ aj Z<|Z.el 5 aj fun aW aX aY aZ Z=>GA.Lg 7 0 0 Z<|.r [8]<|GA.Lb (q:=2) 9 4 Z<|.r [10]<|GA.int (i:=11) (at_+1) AA (by have:=p0.np; omega)<|gx (h:=(by have q2:=Bt ‹_›; have q3:(AY s).parts.length=s.parts.length:=rfl; omega)) s.parts ((at_+1).toNat) fun ab ak=>?_
 have aF:=AV ak
 refine GA.Jx (hz:=(by have q2:=Bt ‹_›; omega)) 12 8 (at_+1) ak Z<|Z.el 8 ak fun ba bg bh bi Z=>GA.Lg 13 0 0 Z<|.go 14<|GE.DT (us:=[.bool ((BW aa ab).2)]) 6 0 (fun w Z=>GJ aa ab (Z.a 4) (Z.a 5) (Z.a 1) (Z.a 2) (by exact (p0.part _ ‹_›).sz) (by exact (p0.part _ ‹_›).sz)) Z fun ae af ag ah w Z=>.r [15,16,17]<|GA.Kr (k:=1) (hz:=(by have q2:=Bt ‹_›; omega)) (hn:=(by have q2:=Bt ‹_›; have q3:(AY s).parts.length=s.parts.length:=rfl; omega)) 18 1 ((((AY s)).parts).length) (at_.toNat) at_ Z<|.go 19<|GE.Sr (hlt:=(by have q2:=Bt ‹_›; have q1:=p0.np; have q3:(AY s).parts.length=s.parts.length:=rfl; omega)) 1 (at_.toNat) (((AY s)).parts) ((BW aa ab).1) ac (⟨Shp.cells ((BW aa ab).1) ([(ae,af),(ag,ah)]:List (Option Addr × Nat)),AA⟩:Hd 1) [0,3,4] Z fun w Z=>?_
 have Z:=Z.eS 0 0 [4,2,2] (at_.toNat) (((AY s)).parts) ac (⟨Shp.cells ((BW aa ab).1) ([(ae,af),(ag,ah)]:List (Option Addr × Nat)),AA⟩:Hd 1) ((BW aa ab).1) ([(ae,af),(ag,ah)]:List (Option Addr × Nat))
 refine GA.Do Z fun w Z=>.d<|.s<|.g<|RG.N0 (Hd 1) 0 Z fun bj w Z=>?_
 have Z:=Z.o2r 0 0 Prt 1
 refine .r 1<|RG.Lb 1 Z<|.r 1<|RG.int (at_+1) AA (by have:=p0.np; omega)<|.r 1<|RG.int (at_+2) AA (by have:=p0.np; omega) ?_
 rw [show (((AY s)).parts).length=((((AY s)).parts).set (at_.toNat) ((BW aa ab).1)).length from by simp]
 refine RG.cl (K8 (i:=(at_.toNat+1)) (a:=at_+1) (b:=at_+2) (Z.rw 2 ((((AY s)).parts).set (at_.toNat) ((BW aa ab).1)) (ac.set (at_.toNat) (⟨Shp.cells ((BW aa ab).1) ([(ae,af),(ag,ah)]:List (Option Addr × Nat)),AA⟩:Hd 1)) AA).1 (by have q2:=Bt ‹_›; (try simp only [List.length_set]); omega) (by have q2:=Bt ‹_›; (try simp only [List.length_set]); omega) (by have q2:=Bt ‹_›; have q1:=p0.np; have q3:(AY s).parts.length=s.parts.length:=rfl; (try simp only [List.length_set]); omega) (by have q2:=Bt ‹_›; have q1:=p0.np; have q3:(AY s).parts.length=s.parts.length:=rfl; (try simp only [List.length_set]); omega)) ?_
 rintro _ w ⟨⟨rfl,ho_⟩,hx_⟩
 have Z:=Z.dl 2 0 [1] ((((AY s)).parts).set (at_.toNat) ((BW aa ab).1)) (((((AY s)).parts).set (at_.toNat) ((BW aa ab).1)).take (at_.toNat+1)++((((AY s)).parts).set (at_.toNat) ((BW aa ab).1)).drop ((at_.toNat+1)+1)) (ac.set (at_.toNat) (⟨Shp.cells ((BW aa ab).1) ([(ae,af),(ag,ah)]:List (Option Addr × Nat)),AA⟩:Hd 1)) ((ac.set (at_.toNat) (⟨Shp.cells ((BW aa ab).1) ([(ae,af),(ag,ah)]:List (Option Addr × Nat)),AA⟩:Hd 1)).take (at_.toNat+1)++(ac.set (at_.toNat) (⟨Shp.cells ((BW aa ab).1) ([(ae,af),(ag,ah)]:List (Option Addr × Nat)),AA⟩:Hd 1)).drop ((at_.toNat+1)+1)) (Om ho_) rfl hx_ (fun _ h _=>h.del (at_.toNat+1))
 refine RG.Aw (hsz:=by exact (by have q1:=p0.np; have q3:(AY s).parts.length=s.parts.length:=rfl; (try simp only [List.length_append,List.length_take,List.length_drop,List.length_set]); omega)) 0 2 (((((AY s)).parts).set (at_.toNat) ((BW aa ab).1)).take (at_.toNat+1)++((((AY s)).parts).set (at_.toNat) ((BW aa ab).1)).drop ((at_.toNat+1)+1)) ((ac.set (at_.toNat) (⟨Shp.cells ((BW aa ab).1) ([(ae,af),(ag,ah)]:List (Option Addr × Nat)),AA⟩:Hd 1)).take (at_.toNat+1)++(ac.set (at_.toNat) (⟨Shp.cells ((BW aa ab).1) ([(ae,af),(ag,ah)]:List (Option Addr × Nat)),AA⟩:Hd 1)).drop ((at_.toNat+1)+1)) Z fun aL aM w Z=>.r 1<|RG.Ss 1 Z fun w Z=>.d<|.s<|.g<|RG.Ln 1 Z<|RG.Ss 3 Z fun w Z=>.r 1<|.d ?_
 have Z:=(Z.eL 0 0 0 [0] (((((AY s)).parts).set (at_.toNat) ((BW aa ab).1)).take (at_.toNat+1)++((((AY s)).parts).set (at_.toNat) ((BW aa ab).1)).drop ((at_.toNat+1)+1)) ((ac.set (at_.toNat) (⟨Shp.cells ((BW aa ab).1) ([(ae,af),(ag,ah)]:List (Option Addr × Nat)),AA⟩:Hd 1)).take (at_.toNat+1)++(ac.set (at_.toNat) (⟨Shp.cells ((BW aa ab).1) ([(ae,af),(ag,ah)]:List (Option Addr × Nat)),AA⟩:Hd 1)).drop ((at_.toNat+1)+1))).fL 1 1 0 (((AY s)).mem)
 exact T.r2 func64 results64 (.B 1 Z) (.t (.bool true)) ⟨⟨_,(DG rfl (AG (by exact (congrArg Prod.snd (Pp p0 ‹_› ‹_› ‹_› ‹_›)).symm))),Z.rD 1 [0,1,4,4] (⟨(⟨(((AY s)).idx).names,(((AY s)).idx).AX⟩:Idx),(((((AY s)).parts).set (at_.toNat) ((BW aa ab).1)).take (at_.toNat+1)++((((AY s)).parts).set (at_.toNat) ((BW aa ab).1)).drop ((at_.toNat+1)+1)),((AY s)).mem⟩:Sto) [(aq,ar),(ax,ay),(some ⟨aL,0,none⟩,aM),(some ⟨az,0,none⟩,aA)] (by exact (congrArg Prod.fst (Pp p0 ‹_› ‹_› ‹_› ‹_›)).symm)⟩,Z.xt⟩
theorem K9 (d:Dsk) (h1:RepS w F a1 n1 c1 d.files) (h2:RepS w F a2 n2 c2 d.list) (h3:RepS w F a3 n3 c3 d.names) (p0:DD d):Calls Tryz.prog 133 [.agg #[.slice a1 n1 c1,.slice a2 n2 c2,.slice a3 n3 c3,.int .i64 d.next]].toArray w (Af fun rv w'=>VD w.heap.size w' (D6 d:Dsk) rv∧Ext w w'):=by
 cases h1.len
 cases h2.len
 cases h3.len
 refine goT func133 ?_
 have Z:=(((St.i0 F w).p h1).p h2).p h3
 have am:=h1.max
 have Z:=Z.s0 0
 refine .s<|.g<|RG.Np Z fun ax w Z=>RG.Np Z fun ay w Z=>.d<|.s<|.s<|.g<|RG.Ln 1 Z<|RG.C0 (De d (Z.a 3) (Z.a 2) (Z.a 1) p0) Z fun w Z=>?_
 cases ar:(Ak d)
 ·refine .r 1<|.d<|.ct<|.s<|.g<|.r 1<|RG.Ss 0 Z fun w Z=>.d ?_
  have Z:=((Z.sZ Fil 0 0).sZ Int 1 0).sZ (List Tag) 1 0
  exact T.Rb 0 func133 results133 Z ⟨Z.rD 1 [0,1,2] (⟨([]:List Fil),([]:List Int),([]:List (List Tag)),0⟩:Dsk) [(none,0),(none,0),(none,0)] (by exact Ws ‹_›),Z.xt⟩
 refine .r 1<|.d<|.cf<|.sk<|.s<|.g<|RG.Ln 1 Z<|RG.cl (Cp d (Z.a 3) (Z.a 2) (Z.a 1) (by exact Sz p0) (by exact S0 p0) (by exact S1 p0) (by exact S2 p0) (by exact S3 p0)) ?_
 rintro _ w ⟨⟨az,aA,aa,af,ag,ah,ai,rfl,ac⟩,ae⟩
 have Z:=Z.vX 0 ac ae
 refine RG.Np Z fun aB w Z=>RG.Ss 0 Z fun w Z=>.d<|.s<|.g<|.r 1<|RG.Lb 0 Z<|.r 1 ?_
 obtain ⟨D_,he_,hr_⟩:=Z.els 1 0 [0] d.files aa
 refine RG.cl (Mh d (Z.rw 1 d.files aa AA).1 he_ hr_ (Z.bc 3) (Z.rnb 1 6 d.files d.files aa) (Z.rnb 1 5 d.list d.files aa) (Z.rnb 1 4 d.names d.files aa) (Nb.mk (Z.nq 3 1 d.files aa)) (by have:=p0.nf; have:=List.length_filter_le (fun f:Fil=>d.list.contains f.num) d.files; omega)) ?_
 rintro _ w ⟨⟨ab,rfl,ho_,hE_⟩,hx_⟩
 have Z:=Z.dl 1 0 [0] d.files (d.files.filter (fun f=>d.list.contains f.num)) aa ab (Om ho_) rfl hx_ (fun D_ h _=>hE_ _ D_ h)
 refine .r 1<|RG.Ss 0 Z fun w Z=>.d<|.s<|.g<|RG.N0 (Hd 2) 0 Z fun aC w Z=>?_
 have Z:=Z.o2r 0 0 Fil 2
 refine .r 1<|RG.Lb 1 Z<|RG.Aw (hsz:=by exact (by have:=p0.nf; have:=List.length_filter_le (fun f:Fil=>d.list.contains f.num) d.files; omega)) 0 2 (d.files.filter (fun f=>d.list.contains f.num)) ab Z fun aj ak w Z=>.r 1<|RG.Ss 1 Z fun w Z=>.d<|.s<|.g<|RG.Ln 1 Z<|RG.Ss 2 Z fun w Z=>.d ?_
 have Z:=Z.eL 0 0 0 [1] (d.files.filter (fun f=>d.list.contains f.num)) ab
 exact T.Rb 1 func133 results133 Z ⟨Z.rD 1 [3,3,2] (⟨(d.files.filter (fun f=>d.list.contains f.num)),d.list,d.names,d.next⟩:Dsk) [(some ⟨aj,0,none⟩,ak),(af,ag),(ah,ai)] (by (rw [LW ‹_›]; rfl)),Z.xt⟩
end Go.Proofs.YtcginoabkicdiaaGreat
namespace Go.Proofs.YtcginoabkicdiaaGreat
section
variable {κ:Cx} {ρ:Option Rg} {Φ:List Ob} {Ψ:List Fz} {Θ:List (Nat × Nat × List Value)} {w w' w0:World} {α:Type} [Rep α] [Shp α] [Dp α] [Lf α] {x y:α}
def BD (F:Nat→Prop) (s b t:Nat) (w:World) (y:α):Prop :=
 ∃ l:List (Option Addr × Nat),l.length=Shp.k α∧Box w b t (Shp.cells y l)∧BK w (nin (fo F s) [b]) (Lf.its y l)
theorem St.i3 (F:Nat→Prop){b t:Nat}{cs:List Value}{its:List It}(hb:Box w b t cs) (hi:BK w (nin F [b]) its):St ⟨F,w,[b]⟩ none [.box b t cs] (⟨1,none,.sep its⟩ :: (tg 1 none (frI its)++[])) [] w:=by
 have h1:BK w (nin (Cx.g ⟨F,w,[b]⟩ 1) (bl [Ob.box b t cs])) its:=CU hi fun x _ hx=>⟨.inl hx.1,hx.2⟩
 have Z1:St ⟨F,w,[b]⟩ none [.box b t cs] (tg 1 none (frI its)++[]) [] w:=(St.i2 F hb).add fun f hf=>by
  simp only [tg,List.mem_map] at hf
  obtain ⟨q,hq,rfl⟩:=hf
  exact Fr.fr (Oa h1 q hq) (fun b _ hb=>⟨hb,rfl⟩) (Nat.le_refl _)
 exact Z1.sA 1 h1
theorem St.p3 {β:Type}[Rep β] {xs:List β}{F G:Nat→Prop}{b:Nat}{o:Ob}{a:Option Addr}{c:Nat}(Z:St ⟨F,w,[b]⟩ none [o] Ψ [] w) (h:RepS w (nin G [b]) a xs.length c xs) (e:o.b=b:=by kernel_rfl):St ⟨F,w,[b]⟩ none [o] (⟨2,none,.rep a c xs⟩ :: Ψ) [] w :=
 Z.add (Ψ':=[⟨2,none,.rep a c xs⟩]) fun f hf=>by
  cases List.mem_singleton.1 hf
  exact RepS.Bj h fun k _ hk=>⟨trivial,by show k∉[o.b]; rw [e]; exact hk.2⟩
theorem St.rBD {F:Nat→Prop}{b t:Nat}(Z:St ⟨F,w0,[b]⟩ ρ Φ Ψ Θ w) (i p:Nat) (js:List Nat) (x:α) (q:List (Option Addr × Nat)) (h:x=y) (hi:Φ[i]? = some (.box b t (Shp.cells x q)):=by kernel_rfl) (hp:isS Ψ p 1=true:=by kernel_rfl) (hm:(mvs (seI Ψ p) js).take (Lf.its x q).length=Lf.its x q:=by kernel_rfl)
 (hl:q.length=Shp.k α:=by kernel_rfl):BD F w0.heap.size b t w y:=by
 subst h
 have hb:Box w b t (Shp.cells x q):=Z.ob _ (AV hi)
 exact ⟨q,hl,hb,CU (FJ (FQ (Z.sp p 1 hp) hm)) fun c _ hc=>⟨hc.1,fun hm=>hc.2 (by cases List.mem_singleton.1 hm; exact Ck hi)⟩⟩
omit [Rep α] [Shp α] [Dp α] [Lf α] in
theorem St.ib (Z:St κ ρ Φ Ψ Θ w) (i p g:Nat) (js:List Nat) (l:List It) (hi:Φ[i]? = some (.box (obB Φ i) (bxT Φ i) (bxC Φ i)):=by kernel_rfl) (hp:isS Ψ p g=true:=by kernel_rfl) (hm:(mvs (seI Ψ p) js).take l.length=l:=by kernel_rfl):BK w (nin (nin (κ.g g) (bl Φ)) [obB Φ i]) l :=
 CU (FJ (FQ (Z.sp p g hp) hm)) fun c _ hc=>⟨hc,fun hm=>hc.2 (by cases List.mem_singleton.1 hm; exact Ck hi)⟩
theorem St.bB (Z:St κ ρ Φ Ψ Θ w) (i g:Nat){t:Nat}(h:BD (nin (κ.g g) (bl Φ)) w.heap.size (obB Φ i) t w' y) (hx:Chg (one (obB Φ i)) w w'){Q:Prop}
 (H:Fa (Shp.k α) fun l=>St κ ρ (Φ.set i (.box (obB Φ i) t (Shp.cells y l))) (⟨g,none,.sep (Lf.its y l)⟩ :: (tg g none (Shp.facts y l)++Ψ)) [] w'→Q) (hi:Φ[i]? = some (.box (obB Φ i) (bxT Φ i) (bxC Φ i)):=by kernel_rfl):Q:=by
 obtain ⟨l,hl,hb,hit⟩:=h
 refine Fe _ H hl ?_
 have Z1:St κ ρ (Φ.set i (.box (obB Φ i) t (Shp.cells y l))) Ψ [] w':=Z.rx i hx hb hi
 have hbl:bl (Φ.set i (.box (obB Φ i) t (Shp.cells y l)))=bl Φ:=OP hi rfl
 have hX:∀ b,nin (fo (nin (κ.g g) (bl Φ)) w.heap.size) [obB Φ i] b→nin (κ.g g) (bl (Φ.set i (.box (obB Φ i) t (Shp.cells y l)))) b:=fun b hb=>by
  rw [hbl]
  rcases hb.1 with h | h
  ·exact h
  ·exact ⟨Cx.nw (Nat.le_trans Z.ch.size h),fun hm=>Nat.lt_irrefl _ (Nat.lt_of_lt_of_le (Z.lt b hm) h)⟩
 have h1:=CU hit fun b _ hb=>hX b hb
 have Z2:St κ ρ (Φ.set i (.box (obB Φ i) t (Shp.cells y l))) (tg g none (Shp.facts y l)++Ψ) [] w':=Z1.add fun f hf=>by
  simp only [tg,List.mem_map] at hf
  obtain ⟨q,hq,rfl⟩:=hf
  exact Fr.fr (Lf.facts l h1 q hq) (fun b _ hb=>⟨hb,rfl⟩) (Nat.le_refl _)
 exact Z2.sA g h1
end
theorem pV {s r t c:Nat}{w:World}{hs:List (Hd 2)}{a1 a2:Option Addr}{c1 c2:Nat}{d:Dsk}{rv:Value}(hv:rv=.agg #[.slice (some ⟨r,0,none⟩) d.files.length c,.slice a1 d.list.length c1,.slice a2 d.names.length c2,.int .i64 d.next])
 (h:VX s w [.raw 0 r t c d.files hs] [.e d.files hs,.s a1 c1 d.list,.s a2 c2 d.names]) :
 Own w r t (nin (ge s) [r]) d.files.length c d.files∧s≤r∧RepS w (nin (ge s) [r]) a1 d.list.length c1 d.list∧RepS w (nin (ge s) [r]) a2 d.names.length c2 d.names∧VD s w d rv:=by
 obtain ⟨_,ho,hr⟩:(0=0∧Own w r t (nin (ge s) [r]) d.files.length c hs∧s≤r):=h.ob _ AI
 obtain ⟨D,D',e1,e2,e3,e4⟩:=h.it
 have hnr:¬ D r:=fun hD=>(e3 _ hD).1.2 AI
 have hD:DpS w (fun b=>D b∨b=r) (some ⟨r,0,none⟩) d.files.length c d.files:=ElS.WC e1 ho hnr rfl
 refine ⟨⟨rfl,ho.le,ho.cap,ho.row,fun i x hx=>?_⟩,hr,?_,?_,⟨[(some ⟨r,0,none⟩,c),(a1,c1),(a2,c2)],rfl,hv,⟨fun b=>D b∨b=r,D',hD,e2,fun b hb=>?_,fun b hb=>(e4 b hb).1⟩⟩⟩
 ·obtain ⟨hl,E,h1,h2,h3⟩:=e1
  have hi:i< hs.length:=by rw [hl]; exact (List.getElem?_eq_some_iff.1 hx).1
  obtain ⟨cs,g1,g2⟩:=ho.elem i hs[i] (AU hi)
  have e:cs=hs[i].cs:=g1
  subst e
  exact ⟨_,Rep.frame (Dp.rp (h3 i x _ hx (AU hi))) (fun b _ hb=>⟨⟨(e3 b (h2 i b hb)).1,fun e=>hnr (e▸h2 i b hb)⟩,rfl⟩),g2⟩
 ·exact (J1 (Eu e2 me0)).Bj fun b _ hb=>e4 b hb
 ·exact (J1 (Eu e2 me1)).Bj fun b _ hb=>e4 b hb
 ·rcases hb with hb | rfl
  ·exact ⟨(e3 b hb).1.1,(e3 b hb).2⟩
  ·exact ⟨hr,fun hD'=>(e4 _ hD').2 AI⟩
section
variable {α:Type} [Rep α] [Shp α] [Dp α] [Lf α] {w w':World} {y:α} {v:Value}
theorem VD.low {s s':Nat}(h:VD s w y v) (hs:s'≤s):VD s' w y v:=let ⟨l,a,b,c⟩:=h; ⟨l,a,b,CU c fun x _ hx=>Nat.le_trans hs hx⟩
theorem VD.chg {s b:Nat}(h:VD s w y v) (hx:Chg (one b) w w') (hb:b< s):VD s w' y v:=let ⟨l,a,e,c⟩:=h; ⟨l,a,e,Cj c fun x hl hX=>⟨hX,hx.block x hl (fun e=>by have e':x=b:=e; have:s≤x:=hX; omega)⟩⟩
theorem VD.eqx {s:Nat}{z:α}(h:VD s w y v) (e:y=z):VD s w z v:=e▸h
end
theorem Q6 (s:Nat) (w:World):VD s w (⟨[],[],[],0⟩:Dsk) (.agg #[.slice none 0 0,.slice none 0 0,.slice none 0 0,.int .i64 0]) :=
 ⟨[(none,0),(none,0),(none,0)],rfl,rfl,itN (itN (itN trivial))⟩
end Go.Proofs.YtcginoabkicdiaaGreat
namespace Go.Proofs.YtcginoabkicdiaaGreat
set_option maxRecDepth 100000
set_option maxHeartbeats 4000000
variable {w:World} {F:Nat→Prop} {a1 a2 a3 a4:Option Addr} {n1 c1 n2 c2 n3 c3 n4 c4:Nat}
theorem GM (d:Dsk) (h1:RepS w F a1 n1 c1 d.files) (h2:RepS w F a2 n2 c2 d.list) (h3:RepS w F a3 n3 c3 d.names) (p0:d.files.length≤1000) (p1:∀ f∈d.files,CR f.part) (p2:d.list.length≤1000) (p3:d.names.length≤1000) (p4:∀ n∈d.names,n.length≤1000):Calls Tryz.prog 44 [.agg #[.slice a1 n1 c1,.slice a2 n2 c2,.slice a3 n3 c3,.int .i64 d.next]].toArray w (Af fun rv w'=>((∃ (r0 n0 c0:Nat) (a1:Option Addr) (n1 c1:Nat) (a2:Option Addr) (n2 c2:Nat),rv=.agg #[.slice (some ⟨r0,0,none⟩) n0 c0,.slice a1 n1 c1,.slice a2 n2 c2,.int .i64 (d.next)]∧Own w' r0 148 (nin (ge w.heap.size) [r0]) n0 c0 (d.files)∧w.heap.size≤r0∧RepS w' (nin (ge w.heap.size) [r0]) a1 n1 c1 (d.list)∧RepS w' (nin (ge w.heap.size) [r0]) a2 n2 c2 (d.names))∧VD w.heap.size w' (d:Dsk) rv)∧Ext w w'):=by
 obtain rfl:=h1.len
 obtain rfl:=h2.len
 obtain rfl:=h3.len
 refine (Cp d h1 h2 h3 p0 p1 p2 p3 p4).mono ?_
 rintro e w' ⟨v,rfl,⟨r,c,hs,a1,c1,a2,c2,hv,hV⟩,hx⟩
 obtain ⟨g1,g2,g3,g4,g5⟩:=pV hv hV
 exact ⟨v,rfl,⟨⟨r,_,c,a1,_,c1,a2,_,c2,hv,g1,g2,g3,g4⟩,g5⟩,hx⟩
set_option maxRecDepth 100000 in
theorem KP (d:Dsk) (h1:RepS w F a1 n1 c1 d.files) (h2:RepS w F a2 n2 c2 d.list) (h3:RepS w F a3 n3 c3 d.names) (p0:d.files.length≤1000) (p1:∀ f∈d.files,CR f.part) (p2:d.list.length≤1000) (p3:d.names.length≤1000) (p4:∀ n∈d.names,n.length≤1000):Calls Tryz.prog 44 [.agg #[.slice a1 n1 c1,.slice a2 n2 c2,.slice a3 n3 c3,.int .i64 d.next]].toArray w (Af fun rv w'=>(∃ (r0 n0 c0:Nat) (a1:Option Addr) (n1 c1:Nat) (a2:Option Addr) (n2 c2:Nat),rv=.agg #[.slice (some ⟨r0,0,none⟩) n0 c0,.slice a1 n1 c1,.slice a2 n2 c2,.int .i64 (d.next)]∧Own w' r0 148 (nin (ge w.heap.size) [r0]) n0 c0 (d.files)∧w.heap.size≤r0∧RepS w' (nin (ge w.heap.size) [r0]) a1 n1 c1 (d.list)∧RepS w' (nin (ge w.heap.size) [r0]) a2 n2 c2 (d.names))∧Ext w w'):=by
 refine (GM d h1 h2 h3 p0 p1 p2 p3 p4).mono ?_
 rintro e w' ⟨v,rfl,⟨h,_⟩,hx⟩
 exact ⟨v,rfl,h,hx⟩
theorem IV (d:Dsk) (steps:List Stp) (cut:Int) (h1:RepS w F a1 n1 c1 d.files) (h2:RepS w F a2 n2 c2 d.list) (h3:RepS w F a3 n3 c3 d.names) (h4:RepS w F a4 n4 c4 steps) (p0:DD d) (p1:Ak d=true→StW d steps):Calls Tryz.prog 66 [.agg #[.slice a1 n1 c1,.slice a2 n2 c2,.slice a3 n3 c3,.int .i64 d.next],.slice a4 n4 c4,.int .i64 cut].toArray w (Af fun rv w'=>VD w.heap.size w' (BJ d steps cut:Dsk) rv∧Ext w w'):=by
 refine goT func66 ?_
 obtain ⟨rfl,ek,h1⟩:=h1.tp
 obtain ⟨rfl,en,h2⟩:=h2.tp
 obtain ⟨rfl,eB,h3⟩:=h3.tp
 obtain ⟨rfl,eC,h4⟩:=h4.tp
 refine .s<|.g<|.np 35 [.slice a1 d.files.length c1,.slice a2 d.list.length c2,.slice a3 d.names.length c3,vI d.next] fun ag fe bI bo ab cx=>?_
 replace ⟨h1,h2,h3,h4⟩:=(sn [] bo bI).g4 h1 h2 h3 h4
 have aa:=bo
 clear bo cx bI
 refine .np 35 [AH,AH,AH,vI 0] fun af dA bj bJ ac cy=>?_
 have eD:=Az bj ab.lt
 have eE:=aa.cn bj
 replace ⟨h1,h2,h3,h4,ab,aa⟩:=(sn [ag] bJ bj).g6 h1 h2 h3 h4 ab aa
 clear bJ cy bj
 refine .d<|.s<|.s<|.g<|.ln ab<|.cl (De d h1.ta h2.ta h3.ta (by exact p0) (w:=dA) (F:=all)) ?_
 rintro ff cz ⟨rfl,bK⟩
 replace ⟨h1,h2,h3,h4,ab,ac,aa⟩:=(se [af,ag] bK).g7 h1 h2 h3 h4 ab ac aa
 clear bK
 cases eF:(Ak d)
 ·refine .r 5<|.d<|.ct<|.s<|.g<|.r 1<|.sc [AH,AH,AH,vI 0] ac fun fg bL cA cB=>?_
  replace ⟨h1,h2,h3,h4,ab,aa⟩:=(so [af,ag] bL).g6 h1 h2 h3 h4 ab aa
  clear bL cB
  exact .d<|.rb func66 results66 cA ⟨(Q6 _ _).eqx (by exact Ut (.inl ‹_›)),aa⟩
 refine .r 3<|.bp (cut< 0) (fun cC=>?_) (fun cC=>?_)
 ·refine .r 1<|.d<|.ct<|.s<|.g<|.r 1<|.sc [AH,AH,AH,vI 0] ac fun fi bM cD cE=>?_
  replace ⟨h1,h2,h3,h4,ab,aa⟩:=(so [af,ag] bM).g6 h1 h2 h3 h4 ab aa
  clear bM cE
  exact .d<|.rb func66 results66 cD ⟨(Q6 _ _).eqx (by exact Ut (.inr (.inl ‹_›))),aa⟩
 refine .r 1<|.d<|.cf<|.sk<|.s<|.g<|.ln ab<|.cl (KP d h1.ta h2.ta h3.ta (by exact Sz p0) (by exact S0 p0) (by exact S1 p0) (by exact S2 p0) (by exact S3 p0) (w:=cz) (F:=all)) ?_
 rintro fj bR ⟨⟨aD,cF,cG,cH,fm,cI,cJ,fp,cK,rfl,az,aX,aI,aJ⟩,bN⟩
 have bk:=al2 ac.lt ab.lt
 have bq:Gb w.heap.size cz.heap.size:=aa.size
 have cL:=EX aX ab.lt
 have cM:=EX aX ac.lt
 have cN:Cov nil w aD:=Xr aX aa.size
 replace ⟨h4,ab,ac,aa⟩:=(sz [af,ag] bN aX).g4 h4 ab ac aa
 clear bN aX
 replace az:Own bR aD 148 (nin (ge w.heap.size) [aD,af,ag]) _ _ _:=Own.Li (s0:=w.heap.size) (M:=[af,ag]) az bk bq
 replace az:=az.base (G':=fo F w.heap.size) (fun _ _ h=>.inr h)
 have eH:=az.len
 replace aI:RepS bR (nin (ge w.heap.size) [aD,af,ag]) _ _ _ _:=RepS.Li (s0:=w.heap.size) (M:=[af,ag]) aI bk bq
 replace aI:=aI.base (G':=fo F w.heap.size) (fun _ _ h=>.inr h)
 have eI:=aI.max
 replace aJ:RepS bR (nin (ge w.heap.size) [aD,af,ag]) _ _ _ _:=RepS.Li (s0:=w.heap.size) (M:=[af,ag]) aJ bk bq
 replace aJ:=aJ.base (G':=fo F w.heap.size) (fun _ _ h=>.inr h)
 have eJ:=aJ.max
 clear bk
 have cO:=aI.len
 subst cO
 have cP:=aJ.len
 subst cP
 refine .np 35 [AH,AH,AH,vI 0] fun ao fq aQ bO cQ cR=>?_
 have eK:=Az aQ ab.lt
 have eM:=Az aQ ac.lt
 have cS:=Az aQ az.lt
 have eO:=aa.cn aQ
 replace ⟨h4,ab,ac,az,aI,aJ,aa⟩:=(sn [aD,af,ag] bO aQ).g7 h4 ab ac az aI aJ aa
 clear bO cR aQ
 refine .sc [vS aD cF cG,.slice cH d.list.length cI,.slice cJ d.names.length cK,vI d.next] cQ fun br bP bQ bS=>?_
 replace ⟨h4,ab,ac,az,aI,aJ,aa⟩:=(so [ao,aD,af,ag] bP).g7 h4 ab ac az aI aJ aa
 clear bP bS
 refine .d<|.s<|.s<|.g<|.r 5<|RG.sub (t:=104) (lo:=none) (hi:=some (vI (if (steps.length:Int)< cut then (steps.length:Int) else cut))) h4 0 (((if (steps.length:Int)< cut then (steps.length:Int) else cut)).toNat) AA AA (.inl ⟨rfl,rfl⟩) (.inr ⟨_,_,rfl,by omega⟩) (by split <;> omega) (by split <;> omega) fun cT cU aR=>?_
 have dB:=aR.len; have dC:=aR.max
 refine .r 2<|.d<|.b 0<|T.loop (X:=Nat × (List Fil) × Nat × Nat × Nat × (List Int) × (Option Addr) × Nat × Nat × (List (List Tag)) × (Option Addr) × Nat × Nat × Int) (0,(d.files:List Fil),aD,cF,cG,(d.list:List Int),cH,d.list.length,cI,(d.names:List (List Tag)),cJ,d.names.length,cK,d.next) (fun (k,ae,r_out_0,n_out_0,c_out_0,ah,a_out_1,n_out_1,c_out_1,ai,a_out_2,n_out_2,c_out_2,aj)=>[(6,.pointer (some ⟨af,0,none⟩)),(7,.pointer (some ⟨ao,0,none⟩)),(25,.slice cT (((if (steps.length:Int)< cut then (steps.length:Int) else cut)).toNat - 0) cU),(26,vI (((((if (steps.length:Int)< cut then (steps.length:Int) else cut)).toNat - 0)):Int)),(27,vI (k:Int))]) (fun (k,ae,r_out_0,n_out_0,c_out_0,ah,a_out_1,n_out_1,c_out_1,ai,a_out_2,n_out_2,c_out_2,aj) aH=>Chg (ins [aD,ao]) br aH∧Own aH r_out_0 148 (nin (fo F w.heap.size) [ao,r_out_0,af,ag]) n_out_0 c_out_0 ae∧OrB r_out_0 aD br.heap.size∧RepS aH (nin (fo F w.heap.size) [ao,r_out_0,af,ag]) a_out_1 n_out_1 c_out_1 ah∧RepS aH (nin (fo F w.heap.size) [ao,r_out_0,af,ag]) a_out_2 n_out_2 c_out_2 ai∧Box aH ao 35 [vS r_out_0 n_out_0 c_out_0,.slice a_out_1 n_out_1 c_out_1,.slice a_out_2 n_out_2 c_out_2,vI aj]∧(k≤((steps.take (if (steps.length:Int)< cut then (steps.length:Int) else cut).toNat).drop 0).length)∧(ae.length≤d.files.length+k)∧((List.drop k ((steps.take (if (steps.length:Int)< cut then (steps.length:Int) else cut).toNat).drop 0)).foldl doD (⟨ae,ah,ai,aj⟩:Dsk)=toD d steps cut)) (fun (k,ae,r_out_0,n_out_0,c_out_0,ah,a_out_1,n_out_1,c_out_1,ai,a_out_2,n_out_2,c_out_2,aj)=>((steps.take (if (steps.length:Int)< cut then (steps.length:Int) else cut).toNat).drop 0).length - k) AA ⟨AA,AA,AA,AA,AA,trivial⟩ ⟨Chg.refl _ _,az,O5,aI,aJ,bQ,AB,AB,(by exact Yo ‹_›)⟩ ?_
 rintro ⟨k,ae,r_out_0,n_out_0,c_out_0,ah,a_out_1,n_out_1,c_out_1,ai,a_out_2,n_out_2,c_out_2,aj⟩ eP aH ⟨ax,aq,aE,ak,am,ar,dD,dE,dF⟩ bn
 have dG:=Ib aE cL ab.lt
 have dH:=Ib aE cM ac.lt
 have bT:=Ib aE (Nb.symm cS) bQ.lt
 have dI:=RJ aE cN aa.size
 have bU:Cov (ins [aD,ao]) br aD:=⟨.inl AI⟩
 have dJ:Cov (ins [aD,ao]) br ao:=⟨.inl AJ⟩
 have dK:=RJ aE bU (Nat.le_refl _)
 have bu:Mv [ao,aD,af,ag] [ao,r_out_0,af,ag] br aH:=Mv.inl ax (all_cons AJ (all_cons AI all_nil)) (all_cons (.inl AI) (all_cons (RK aE AJ) (all_cons (.inl AK) (all_cons (.inl AL) all_nil))))
 replace ⟨ab,ac,aR,aa⟩:=(sp bu ax).g4 ab ac aR aa
 clear bu
 have dL:=aq.len; have dM:=aq.max
 refine .s<|.g<|.bp ((k:Int)< (((((if (steps.length:Int)< cut then (steps.length:Int) else cut)).toNat - 0)):Int)) (fun bV=>?_) (fun bV=>?_)
 ·refine .d<|.s<|.ct<|.sk<|.s<|.b 1<|.s<|.g ?_
  have bW:k< (((if (steps.length:Int)< cut then (steps.length:Int) else cut)).toNat - 0):=AB
  refine .ix k 6 aR bW ?_
  obtain ⟨ay,aZ⟩:∃ y,((steps.take (((if (steps.length:Int)< cut then (steps.length:Int) else cut)).toNat)).drop 0)[k]? = some y:=⟨_,AU AB⟩
  have dR:=Ab aZ; have cV:=AV aZ
  obtain ⟨_,⟨cW,eQ,cX,cY,eR,cZ,c7,eT,c8,da,eU,db,rfl,aK,aL,aM,aN⟩,bX⟩:=aR.elem k ay aZ
  have bY:=aK.len
  subst bY
  have bZ:=aL.len
  subst bZ
  have b6:=aM.len
  subst b6
  have b7:=aN.len
  subst b7
  refine .lg 0 bX<|.np 163 [vI 0,vI 0,AH,AH,AH,AH] fun aA eV aB bv b8 b9=>?_
  have dW:=Az aB ab.lt
  have dX:=Az aB ac.lt
  have dY:=Az aB aq.lt
  have dZ:=Az aB ar.lt
  have d0:=aa.cn aB
  have d3:=ax.cn aB
  replace ⟨ab,ac,aq,ar,ak,am,aK,aL,aM,aN,aa,ax⟩:=(sn [ao,r_out_0,af,ag] bv aB).g12 ab ac aq ar ak am aK aL aM aN aa ax
  clear bv b9 aB
  refine .sc [vI ay.kind,vI ay.num,.slice cW ay.part.ids.length cX,.slice cY ay.part.blocks.length cZ,.slice c7 ay.list.length c8,.slice da ay.names.length db] b8 fun bw bz bA cd=>?_
  replace ⟨ab,ac,aq,ar,ak,am,aK,aL,aM,aN,aa,ax⟩:=(so [aA,ao,r_out_0,af,ag] bz).g12 ab ac aq ar ak am aK aL aM aN aa ax
  clear bz cd
  refine .d<|.g<|.ln bA<|.cl (KM (⟨ae,ah,ai,aj⟩:Dsk) ay (Own.toM aq (all_cons AJ (all_cons AK all_nil))) (RepS.toM ak (all_cons AJ (all_cons AK all_nil))) (RepS.toM am (all_cons AJ (all_cons AK all_nil))) ar bT (RepS.toM aK (all_cons AJ (all_cons AK all_nil))) (RepS.toM aL (all_cons AJ (all_cons AK all_nil))) (RepS.toM aM (all_cons AJ (all_cons AK all_nil))) (RepS.toM aN (all_cons AJ (all_cons AK all_nil))) (by have:=p0.nf; have q2:=(p1 ‹_›).len; have q3:=Zz (st:=steps) (c:=cut) ‹_›; show ae.length≤1000; omega) ((p1 ‹_›).sz _ (List.mem_of_mem_take (List.mem_of_mem_drop ‹_›))) ((p1 ‹_›).pt _ (List.mem_of_mem_take (List.mem_of_mem_drop ‹_›))) (w:=bw) (F:=nin (fo F w.heap.size) [aA,ao,r_out_0,af,ag])) ?_
  rintro eW aS ⟨⟨rfl,aC,de,df,dh,eX,dj,dm,eY,dq,ce,aF,bm,d4,aO,aP⟩,ba⟩
  have aV:=al5 bA.lt ar.lt aq.lt ac.lt ab.lt
  have bg:Gb w.heap.size bw.heap.size:=aa.size
  have cg:=Vf bm aE ax.size
  have bC:Mv [aA,ao,r_out_0,af,ag] [aA,ao,aC,af,ag] bw aS:=Mv.inl ba (all_cons AJ (all_cons AK all_nil)) (all_cons (.inl AI) (all_cons (.inl AJ) (all_cons (RK bm AK) (all_cons (.inl AL) (all_cons (.inl AM) all_nil)))))
  replace ⟨ab,ac,ak,am,aa,ax⟩:=(sp bC ba).g6 ab ac ak am aa ax
  clear bC ba
  replace aF:Own aS aC 148 (nin (fo F w.heap.size) [aA,ao,aC,af,ag]) _ _ _:=Own.bxM (M2:=[aA,ao,aC,af,ag]) aF aV (fun _ h=>.inr (Nat.le_trans bg h)) (all_cons (.inr AI) (all_cons (.inl AI) (all_cons (.inl AJ) (all_cons (.inr AL) (all_cons (.inr AM) all_nil)))))
  replace aO:RepS aS (nin (fo F w.heap.size) [aA,ao,aC,af,ag]) _ _ _ _:=RepS.bxM (M2:=[aA,ao,aC,af,ag]) aO aV (fun _ h=>.inr (Nat.le_trans bg h)) (all_cons (.inr AI) (all_cons (.inl AI) (all_cons (.inl AJ) (all_cons (.inr AL) (all_cons (.inr AM) all_nil)))))
  replace aP:RepS aS (nin (fo F w.heap.size) [aA,ao,aC,af,ag]) _ _ _ _:=RepS.bxM (M2:=[aA,ao,aC,af,ag]) aP aV (fun _ h=>.inr (Nat.le_trans bg h)) (all_cons (.inr AI) (all_cons (.inl AI) (all_cons (.inl AJ) (all_cons (.inr AL) (all_cons (.inr AM) all_nil)))))
  have ci:=aO.len
  subst ci
  have cj:=aP.len
  subst cj
  clear aV
  refine .d<|.ib 1<|.g<|.it ((k:Int)+1)<|.r 1<|.d ?_
  have ck:Mv [aA,ao,aC,af,ag] [ao,aC,af,ag] aS aS:=Mv.less (all_cons AJ (all_cons AK (all_cons AL (all_cons AM all_nil))))
  replace ⟨aF,ak,am,aO,aP⟩:=(sp ck (Chg.refl nil _)).g5 aF ak am aO aP
  exact bn (k+1,((doD (⟨ae,ah,ai,aj⟩:Dsk) ay)).files,aC,de,df,((doD (⟨ae,ah,ai,aj⟩:Dsk) ay)).list,dh,(((doD (⟨ae,ah,ai,aj⟩:Dsk) ay)).list).length,dj,((doD (⟨ae,ah,ai,aj⟩:Dsk) ay)).names,dm,(((doD (⟨ae,ah,ai,aj⟩:Dsk) ay)).names).length,dq,((doD (⟨ae,ah,ai,aj⟩:Dsk) ay)).next) _ _ ⟨AA,AA,AA,AA,AA,trivial⟩ ⟨ax,aF,cg,aO,aP,ce,AB,(by exact Nat.le_trans (Us _) (by show ae.length+1≤_; omega)),(by exact Wp ‹_› ‹_›)⟩ (by (simp only []; omega))
 refine .d<|.s<|.cf<|.x 0 rfl<|.s<|.s<|.g<|.ln ar<|.cl (De (⟨ae,ah,ai,aj⟩:Dsk) (aq.rep) ak.ta am.ta (by exact KK ‹_› AB (p1 ‹_›)) (w:=aH) (F:=all)) ?_
 rintro eZ bD ⟨rfl,bE⟩
 replace ⟨ab,ac,aq,ar,ak,am,aa⟩:=(se [ao,r_out_0,af,ag] bE).g7 ab ac aq ar ak am aa
 clear bE
 cases d9:(Ak (⟨ae,ah,ai,aj⟩:Dsk))
 ·refine .r 1<|.d<|.ct<|.s<|.g<|.r 1<|.sc [AH,AH,AH,vI 0] ac fun e7 bF cm co=>?_
  replace ⟨ab,aq,ar,ak,am,aa⟩:=(so [ao,r_out_0,af,ag] bF).g6 ab aq ar ak am aa
  clear bF co
  exact .d<|.rb func66 results66 cm ⟨(Q6 _ _).eqx (by exact Wq ‹_› AB ‹_›),aa⟩
 refine .r 1<|.d<|.cf<|.sk<|.s<|.g<|.ln ar<|.cl (GM (⟨ae,ah,ai,aj⟩:Dsk) (aq.rep) ak.ta am.ta (by exact Sz (KK ‹_› AB (p1 ‹_›))) (by exact S0 (KK ‹_› AB (p1 ‹_›))) (by exact S1 (KK ‹_› AB (p1 ‹_›))) (by exact S2 (KK ‹_› AB (p1 ‹_›))) (by exact S3 (KK ‹_› AB (p1 ‹_›))) (w:=bD) (F:=all)) ?_
 rintro e8 bG ⟨⟨⟨aY,dt,du,dv,fa,dw,dx,fb,dy,rfl,aG,cp,aT,aU⟩,hVD_⟩,bH⟩
 have kb_:af< bD.heap.size:=ac.lt; have kz_:=aa.size
 have aW:=al4 ar.lt aq.lt ac.lt ab.lt
 have bh:Gb w.heap.size bD.heap.size:=aa.size
 replace ⟨ac,aa⟩:=(se [] bH).g2 ac aa
 clear bH cp
 replace aG:Own bG aY 148 (nin (ge w.heap.size) [aY,ao,r_out_0,af,ag]) _ _ _:=Own.Li (s0:=w.heap.size) (M:=[ao,r_out_0,af,ag]) aG aW bh
 replace aG:=aG.base (G':=fo F w.heap.size) (fun _ _ h=>.inr h)
 replace aT:RepS bG (nin (ge w.heap.size) [aY,ao,r_out_0,af,ag]) _ _ _ _:=RepS.Li (s0:=w.heap.size) (M:=[ao,r_out_0,af,ag]) aT aW bh
 replace aT:=aT.base (G':=fo F w.heap.size) (fun _ _ h=>.inr h)
 have eg:=aT.max
 replace aU:RepS bG (nin (ge w.heap.size) [aY,ao,r_out_0,af,ag]) _ _ _ _:=RepS.Li (s0:=w.heap.size) (M:=[ao,r_out_0,af,ag]) aU aW bh
 replace aU:=aU.base (G':=fo F w.heap.size) (fun _ _ h=>.inr h)
 have ej:=aU.max
 clear aW
 have cq:=aT.len
 subst cq
 have cr:=aU.len
 subst cr
 refine .sc [vS aY dt du,.slice dv ((((⟨ae,ah,ai,aj⟩:Dsk)).list).length) dw,.slice dx ((((⟨ae,ah,ai,aj⟩:Dsk)).names).length) dy,vI (((⟨ae,ah,ai,aj⟩:Dsk)).next)] ac fun fd bi cu cw=>?_
 replace hVD_:=(hVD_.chg bi kb_).low kz_
 replace aa:=(s1 bi).g1 aa
 clear bi cw
 refine .d ?_
 exact .rb func66 results66 cu ⟨hVD_.eqx (by exact Wr ‹_› AB ‹_› ‹_› ‹_›),aa⟩
end Go.Proofs.YtcginoabkicdiaaGreat
namespace Go.Proofs.YtcginoabkicdiaaGreat
set_option maxRecDepth 100000
set_option maxHeartbeats 4000000
variable {w:World} {F:Nat→Prop} {a1:Option Addr} {n1 c1:Nat}
theorem ET (w_:Wld){bx:Nat}{ab0:Option Addr}{cb0:Nat}{ab1:Option Addr}{cb1:Nat}{ab2:Option Addr}{cb2:Nat}{ab3:Option Addr}{cb3:Nat}{ab4:Option Addr}{cb4:Nat}{ab5:Option Addr}{cb5:Nat}{ab6:Option Addr}{cb6:Nat}(hib:BK w (nin F [bx]) [.s ab0 cb0 w_.store.idx.names,.s ab1 cb1 w_.store.idx.AX,.s ab2 cb2 w_.store.parts,.s ab3 cb3 w_.store.mem,.s ab4 cb4 w_.disk.files,.s ab5 cb5 w_.disk.list,.s ab6 cb6 w_.disk.names]) (hbx:Box w bx 37 [.slice ab0 w_.store.idx.names.length cb0,.slice ab1 w_.store.idx.AX.length cb1,.slice ab2 w_.store.parts.length cb2,.slice ab3 w_.store.mem.length cb3,.slice ab4 w_.disk.files.length cb4,.slice ab5 w_.disk.list.length cb5,.slice ab6 w_.disk.names.length cb6,.int .i64 w_.disk.next]) (p0:DD w_.disk) (p1:Ak w_.disk=true):Calls Tryz.prog 65 [.pointer (some ⟨bx,0,none⟩)].toArray w (Af fun rv w'=>(rv=.tuple #[]∧BD F w.heap.size bx 37 w' (BY w_:Wld))∧Chg (ins [bx]) w w'):=by
 refine goT func65 ?_
 have Z:=St.i3 F hbx hib
 exact .s<|.g<|.r 4<|RG.Ln 0 Z<|RG.DD 0 1 (K9 w_.disk (Z.a 5) (Z.a 6) (Z.a 7) p0) Z fun aa ab ac ae af ag w Z=>.r 2<|RG.Ss 0 Z fun w Z=>.d<|.g<|.r 4<|RG.Ln 0 Z<|RG.DD 0 1 (K6 (D6 w_.disk) (Z.a 1) (Z.a 2) (Z.a 3) (Wv p0)) Z fun ah ai aj ak am ao aq ar w Z=>.r 2<|RG.Ss 0 Z fun w Z=>.d<|T.G4 func65 results65 ⟨⟨rfl,Z.rBD 0 0 [6,6,6,6,6,6,6] (⟨(⟨(⟨((Eh (D6 w_.disk)).idx).names,((Eh (D6 w_.disk)).idx).AX⟩:Idx),(Eh (D6 w_.disk)).parts,(Eh (D6 w_.disk)).mem⟩:Sto),(⟨(D6 w_.disk).files,(D6 w_.disk).list,(D6 w_.disk).names,(D6 w_.disk).next⟩:Dsk)⟩:Wld) [(ah,ai),(aj,ak),(am,ao),(aq,ar),(aa,ab),(ac,ae),(af,ag)] (Eq.symm (by exact Yq p0 p1))⟩,Z.ch⟩
theorem Ew (w_:Wld) (e:Evt){bx:Nat}{ab0:Option Addr}{cb0:Nat}{ab1:Option Addr}{cb1:Nat}{ab2:Option Addr}{cb2:Nat}{ab3:Option Addr}{cb3:Nat}{ab4:Option Addr}{cb4:Nat}{ab5:Option Addr}{cb5:Nat}{ab6:Option Addr}{cb6:Nat}(hib:BK w (nin F [bx]) [.s ab0 cb0 w_.store.idx.names,.s ab1 cb1 w_.store.idx.AX,.s ab2 cb2 w_.store.parts,.s ab3 cb3 w_.store.mem,.s ab4 cb4 w_.disk.files,.s ab5 cb5 w_.disk.list,.s ab6 cb6 w_.disk.names]) (hbx:Box w bx 37 [.slice ab0 w_.store.idx.names.length cb0,.slice ab1 w_.store.idx.AX.length cb1,.slice ab2 w_.store.parts.length cb2,.slice ab3 w_.store.mem.length cb3,.slice ab4 w_.disk.files.length cb4,.slice ab5 w_.disk.list.length cb5,.slice ab6 w_.disk.names.length cb6,.int .i64 w_.disk.next]){G:Nat→Prop}(h1:RepS w (nin G [bx]) a1 n1 c1 e.name) (p0:WV w_) (p1:e.name.length≤1100000):Calls Tryz.prog 26 [.pointer (some ⟨bx,0,none⟩),.agg #[.int .i64 e.kind,.int .i64 e.at_,.int .i64 e.cut,.slice a1 n1 c1,.int .i64 e.row.t,.int .i64 e.row.v]].toArray w (Af fun rv w'=>(rv=.tuple #[]∧BD F w.heap.size bx 37 w' (doW w_ e:Wld))∧Chg (ins [bx]) w w'):=by
 cases h1.len
 refine goT func26 ?_
 have Z:=(St.i3 F hbx hib).p3 h1
 refine .s<|.g<|RG.Np Z fun ax w Z=>.d<|.s<|.g<|RG.N0 Stp 0 Z fun cD w Z=>.r 1<|.d<|.s<|.g<|.r 3<|RG.Ln 2 Z<|RG.Np Z fun bz w Z=>RG.Ss 0 Z fun w Z=>.d<|.s<|.s<|.g<|.r 1<|RG.Lb 2 Z<|.d<|.b 0<|.s<|.g<|.eq e.kind 1 (fun ay=>?_) (fun ay=>?_)
 ·refine .r 1<|.d<|.ct<|.s<|T.GS 14 [bz,ax,bx] Z fun _ w Z=>.r [0,1,2]<|GA.Ln (q:=2) 3 3 Z<|.r [4]<|GA.Lb (q:=1) 5 2 Z<|.r [6]<|GA.Ln (q:=1) 7 2 Z<|.tw 8 12 ?_ ?_
  ·refine GE.DT (us:=[.bool ((Dq w_.store e.name e.row).2)]) 1 1 (fun w Z=>Gw w_.store e.name e.row (Z.a 2) (Z.a 3) (Z.a 4) (Z.a 5) (Z.a 0) p0.sd p1) Z fun bA bC bD bE bF bG bH bI w Z=>.r [9,10] ?_
   cases cB:(Dq w_.store e.name e.row).2
   ·exact .r [11]<|.go 12<|GE.Np Z fun cE w Z=>.go 13<|GE.Ss 0 [1,3,4] Z fun w Z=>GA.Do Z fun w Z=>.r 1<|.d<|.s<|.g<|.r 1<|.d<|.cf<|.sk<|.ib 0<|.s<|.s<|.g<|.r 8<|.d<|.ct<|T.Mu AA func26 results26 ⟨⟨rfl,Z.rBD 4 0 [10,10,10,10,10,10,10] w_ [(ab0,cb0),(ab1,cb1),(ab2,cb2),(ab3,cb3),(ab4,cb4),(ab5,cb5),(ab6,cb6)] (Eq.symm (by exact Xc p0 (by with_reducible assumption) (by with_reducible assumption)))⟩,Z.ch⟩
   exact .r [11]<|.go 12<|GE.Np Z fun cF w Z=>.go 13<|GE.Ss 0 [1,3,4] Z fun w Z=>GA.Do Z fun w Z=>.r 1<|.d<|.s<|.g<|.r 1<|.d<|.ct<|.g<|.r 1<|RG.Ln 0 Z<|.r 2<|RG.Ss 4 Z fun w Z=>.d<|.ib 0<|.s<|.s<|.g<|.r 8<|.d<|.ct<|T.Mu AA func26 results26 ⟨⟨rfl,Z.rBD 4 0 [10,10,10,6,6,6,6] (⟨(⟨(⟨(Dq w_.store e.name e.row).1.idx.names,((Dq w_.store e.name e.row).1.idx).AX⟩:Idx),(Dq w_.store e.name e.row).1.parts,(Dq w_.store e.name e.row).1.mem⟩:Sto),(⟨w_.disk.files,w_.disk.list,w_.disk.names,w_.disk.next⟩:Dsk)⟩:Wld) [(bA,bC),(bD,bE),(bF,bG),(bH,bI),(ab4,cb4),(ab5,cb5),(ab6,cb6)] (Eq.symm (by exact do_1 p0 (by with_reducible assumption) (by with_reducible assumption)))⟩,Z.ch⟩
  refine GE.Np Z fun cG w Z=>.go 8<|GE.DT (us:=[.bool ((Dq w_.store e.name e.row).2)]) 1 1 (fun w Z=>Gw w_.store e.name e.row (Z.a 2) (Z.a 3) (Z.a 4) (Z.a 5) (Z.a 0) p0.sd p1) Z fun bJ bK bL bM bN bO bP bQ w Z=>.r [9,10] ?_
  cases cC:(Dq w_.store e.name e.row).2
  ·exact .r [11]<|.go 13<|GE.Ss 0 [1,3,4] Z fun w Z=>GA.Do Z fun w Z=>.r 1<|.d<|.s<|.g<|.r 1<|.d<|.cf<|.sk<|.ib 0<|.s<|.s<|.g<|.r 8<|.d<|.ct<|T.Mu AA func26 results26 ⟨⟨rfl,Z.rBD 4 0 [10,10,10,10,10,10,10] w_ [(ab0,cb0),(ab1,cb1),(ab2,cb2),(ab3,cb3),(ab4,cb4),(ab5,cb5),(ab6,cb6)] (Eq.symm (by exact Xc p0 (by with_reducible assumption) (by with_reducible assumption)))⟩,Z.ch⟩
  exact .r [11]<|.go 13<|GE.Ss 0 [1,3,4] Z fun w Z=>GA.Do Z fun w Z=>.r 1<|.d<|.s<|.g<|.r 1<|.d<|.ct<|.g<|.r 1<|RG.Ln 0 Z<|.r 2<|RG.Ss 4 Z fun w Z=>.d<|.ib 0<|.s<|.s<|.g<|.r 8<|.d<|.ct<|T.Mu AA func26 results26 ⟨⟨rfl,Z.rBD 4 0 [10,10,10,6,6,6,6] (⟨(⟨(⟨(Dq w_.store e.name e.row).1.idx.names,((Dq w_.store e.name e.row).1.idx).AX⟩:Idx),(Dq w_.store e.name e.row).1.parts,(Dq w_.store e.name e.row).1.mem⟩:Sto),(⟨w_.disk.files,w_.disk.list,w_.disk.names,w_.disk.next⟩:Dsk)⟩:Wld) [(bJ,bK),(bL,bM),(bN,bO),(bP,bQ),(ab4,cb4),(ab5,cb5),(ab6,cb6)] (Eq.symm (by exact do_1 p0 (by with_reducible assumption) (by with_reducible assumption)))⟩,Z.ch⟩
 refine .r 1<|.d<|.cf<|.s<|.g<|.eq e.kind 2 (fun az=>?_) (fun az=>?_)
 ·refine .r 1<|.d<|.ct<|.s<|T.Gd 8 Z fun w Z=>.r [0,1,2]<|GA.Ln 3 3 Z<|.r [4,5,6]<|GA.Ln 7 3 Z<|GA.Dn Z fun w Z=>RG.CL (JZ w_.disk w_.store (Z.a 6) (Z.a 7) (Z.a 8) (Z.a 2) (Z.a 3) (Z.a 4) (Z.a 5) p0.dd (SG.of p0.sd)) Z fun cH cI w Z=>.r 1<|.d<|.g<|.r 3<|RG.Ln 3 Z<|RG.DT (us:=[.bool ((Cw w_.store).2)]) 2 1 (Jd w_.store (Z.a 3) (Z.a 4) (Z.a 5) (Z.a 6) p0.sd) Z fun bR bS bT bU bV bW bX bY w Z=>.r 3<|RG.Ss 0 Z fun w Z=>.d<|.ib 0<|.s<|.s<|.g<|.r 2<|.eq (((At w_.disk w_.store).length):Int) 0 (fun aA=>.r 5<|.d<|.ct<|T.Mu AA func26 results26 ⟨⟨rfl,Z.rBD 3 0 [10,10,10,10,10,10,10] w_ [(ab0,cb0),(ab1,cb1),(ab2,cb2),(ab3,cb3),(ab4,cb4),(ab5,cb5),(ab6,cb6)] (Eq.symm (by exact Xd p0 (by with_reducible assumption) (.inl (by with_reducible assumption))))⟩,Z.ch⟩) fun aA=>.r 2<|RG.Lb 2 Z<|.bp (e.cut< 0) (fun aB=>.r 1<|.d<|.ct<|T.Mu AA func26 results26 ⟨⟨rfl,Z.rBD 3 0 [10,10,10,10,10,10,10] w_ [(ab0,cb0),(ab1,cb1),(ab2,cb2),(ab3,cb3),(ab4,cb4),(ab5,cb5),(ab6,cb6)] (Eq.symm (by exact Xd p0 (by with_reducible assumption) (.inr (by with_reducible assumption))))⟩,Z.ch⟩) fun aB=>.r 1<|.d<|.cf<|.sk<|.s<|T.Gd 9 Z fun w Z=>.r [0,1,2,3]<|GA.Ln 4 3 Z<|.r [5,6]<|GA.Lb 7 2 Z<|.go 8<|GE.DD 0 1 (fun w Z=>IV w_.disk (At w_.disk w_.store) e.cut (Z.a 12) (Z.a 13) (Z.a 14) (Z.a 5) p0.dd (fun _=>by exact (KI p0.dd p0.sd).1)) Z fun aC aD aE aF aG aH w Z=>GA.Dn Z fun w Z=>.r 2<|RG.Ss 3 Z fun w Z=>.d<|.s<|.g<|.r 1<|RG.Lb 2 Z<|.r 2<|.bp (e.cut< (((At w_.disk w_.store).length):Int)) (fun aI=>?_) (fun aI=>.d<|.cf<|.g<|.r 1<|RG.Ln 0 Z<|.r 2<|RG.Ss 3 Z fun w Z=>.d<|T.G4 func26 results26 ⟨⟨rfl,Z.rBD 3 0 [2,2,2,6,6,6,6] (⟨(⟨(⟨(Cw w_.store).1.idx.names,((Cw w_.store).1.idx).AX⟩:Idx),(Cw w_.store).1.parts,(Cw w_.store).1.mem⟩:Sto),(⟨(BJ w_.disk (At w_.disk w_.store) e.cut).files,(BJ w_.disk (At w_.disk w_.store) e.cut).list,(BJ w_.disk (At w_.disk w_.store) e.cut).names,(BJ w_.disk (At w_.disk w_.store) e.cut).next⟩:Dsk)⟩:Wld) [(bR,bS),(bT,bU),(bV,bW),(bX,bY),(aC,aD),(aE,aF),(aG,aH)] (Eq.symm (by exact Z7 p0 (by with_reducible assumption) (by with_reducible assumption) (by with_reducible assumption) (by with_reducible assumption)))⟩,Z.ch⟩)
  refine .d<|.ct<|.g<|.r 1<|RG.cl (ET (⟨(⟨(⟨w_.store.idx.names,w_.store.idx.AX⟩:Idx),w_.store.parts,w_.store.mem⟩:Sto),(⟨(BJ w_.disk (At w_.disk w_.store) e.cut).files,(BJ w_.disk (At w_.disk w_.store) e.cut).list,(BJ w_.disk (At w_.disk w_.store) e.cut).names,(BJ w_.disk (At w_.disk w_.store) e.cut).next⟩:Dsk)⟩:Wld) (Z.ib 3 0 1 [2,2,2,10,10,10,10] [.s ab0 cb0 w_.store.idx.names,.s ab1 cb1 w_.store.idx.AX,.s ab2 cb2 w_.store.parts,.s ab3 cb3 w_.store.mem,.s aC aD ((BJ w_.disk (At w_.disk w_.store) e.cut).files),.s aE aF ((BJ w_.disk (At w_.disk w_.store) e.cut).list),.s aG aH ((BJ w_.disk (At w_.disk w_.store) e.cut).names)]) (Z.bc 3) (by exact (Ok (e:=e) p0 (by with_reducible assumption) (by with_reducible assumption)).2.1) (by exact (Ok (e:=e) p0 (by with_reducible assumption) (by with_reducible assumption)).2.2)) ?_
  rintro _ w ⟨⟨rfl,aJ⟩,aK⟩
  exact Z.bB 3 1 aJ (SK aK) fun bZ b6 b7 b8 b9 cd ce cg ci cj ck cm co cp Z=>.d<|T.G4 func26 results26 ⟨⟨rfl,Z.rBD 3 0 [6,6,6,6,6,6,6] (⟨(⟨(⟨((((BY (⟨(⟨(⟨w_.store.idx.names,w_.store.idx.AX⟩:Idx),w_.store.parts,w_.store.mem⟩:Sto),(⟨(BJ w_.disk (At w_.disk w_.store) e.cut).files,(BJ w_.disk (At w_.disk w_.store) e.cut).list,(BJ w_.disk (At w_.disk w_.store) e.cut).names,(BJ w_.disk (At w_.disk w_.store) e.cut).next⟩:Dsk)⟩:Wld))).store).idx).names,((((BY (⟨(⟨(⟨w_.store.idx.names,w_.store.idx.AX⟩:Idx),w_.store.parts,w_.store.mem⟩:Sto),(⟨(BJ w_.disk (At w_.disk w_.store) e.cut).files,(BJ w_.disk (At w_.disk w_.store) e.cut).list,(BJ w_.disk (At w_.disk w_.store) e.cut).names,(BJ w_.disk (At w_.disk w_.store) e.cut).next⟩:Dsk)⟩:Wld))).store).idx).AX⟩:Idx),(((BY (⟨(⟨(⟨w_.store.idx.names,w_.store.idx.AX⟩:Idx),w_.store.parts,w_.store.mem⟩:Sto),(⟨(BJ w_.disk (At w_.disk w_.store) e.cut).files,(BJ w_.disk (At w_.disk w_.store) e.cut).list,(BJ w_.disk (At w_.disk w_.store) e.cut).names,(BJ w_.disk (At w_.disk w_.store) e.cut).next⟩:Dsk)⟩:Wld))).store).parts,(((BY (⟨(⟨(⟨w_.store.idx.names,w_.store.idx.AX⟩:Idx),w_.store.parts,w_.store.mem⟩:Sto),(⟨(BJ w_.disk (At w_.disk w_.store) e.cut).files,(BJ w_.disk (At w_.disk w_.store) e.cut).list,(BJ w_.disk (At w_.disk w_.store) e.cut).names,(BJ w_.disk (At w_.disk w_.store) e.cut).next⟩:Dsk)⟩:Wld))).store).mem⟩:Sto),(⟨(((BY (⟨(⟨(⟨w_.store.idx.names,w_.store.idx.AX⟩:Idx),w_.store.parts,w_.store.mem⟩:Sto),(⟨(BJ w_.disk (At w_.disk w_.store) e.cut).files,(BJ w_.disk (At w_.disk w_.store) e.cut).list,(BJ w_.disk (At w_.disk w_.store) e.cut).names,(BJ w_.disk (At w_.disk w_.store) e.cut).next⟩:Dsk)⟩:Wld))).disk).files,(((BY (⟨(⟨(⟨w_.store.idx.names,w_.store.idx.AX⟩:Idx),w_.store.parts,w_.store.mem⟩:Sto),(⟨(BJ w_.disk (At w_.disk w_.store) e.cut).files,(BJ w_.disk (At w_.disk w_.store) e.cut).list,(BJ w_.disk (At w_.disk w_.store) e.cut).names,(BJ w_.disk (At w_.disk w_.store) e.cut).next⟩:Dsk)⟩:Wld))).disk).list,(((BY (⟨(⟨(⟨w_.store.idx.names,w_.store.idx.AX⟩:Idx),w_.store.parts,w_.store.mem⟩:Sto),(⟨(BJ w_.disk (At w_.disk w_.store) e.cut).files,(BJ w_.disk (At w_.disk w_.store) e.cut).list,(BJ w_.disk (At w_.disk w_.store) e.cut).names,(BJ w_.disk (At w_.disk w_.store) e.cut).next⟩:Dsk)⟩:Wld))).disk).names,(((BY (⟨(⟨(⟨w_.store.idx.names,w_.store.idx.AX⟩:Idx),w_.store.parts,w_.store.mem⟩:Sto),(⟨(BJ w_.disk (At w_.disk w_.store) e.cut).files,(BJ w_.disk (At w_.disk w_.store) e.cut).list,(BJ w_.disk (At w_.disk w_.store) e.cut).names,(BJ w_.disk (At w_.disk w_.store) e.cut).next⟩:Dsk)⟩:Wld))).disk).next⟩:Dsk)⟩:Wld) [(bZ,b6),(b7,b8),(b9,cd),(ce,cg),(ci,cj),(ck,cm),(co,cp)] (Eq.symm (by exact Z6 p0 (by with_reducible assumption) (by with_reducible assumption) (by with_reducible assumption) (by with_reducible assumption)))⟩,Z.ch⟩
 refine .r 1<|.d<|.cf<|.s<|.g<|.eq e.kind 3 (fun aL=>?_) (fun aL=>?_)
 ·refine .r 1<|.d<|.ct<|.s<|T.Gd 6 Z fun w Z=>.r [0,1,2]<|GA.Ln 3 3 Z<|.r [4]<|GA.Lb 5 2 Z<|GA.Dn Z fun w Z=>RG.CL (Je w_.disk e.at_ (Z.a 6) (Z.a 7) (Z.a 8) p0.dd) Z fun cJ cK w Z=>.r 1<|.d<|T.GS 11 [ax,bx] Z fun _ w Z=>.r [0,1,2]<|GA.Ln (q:=1) 3 3 Z<|.r [4]<|GA.Lb 5 2 Z<|.go 6<|GE.DT (us:=[.bool ((Dx w_.store e.at_).2)]) 2 1 (fun w Z=>Jf w_.store e.at_ (Z.a 3) (Z.a 4) (Z.a 5) (Z.a 6) p0.sd) Z fun cq cr cu cw cx cy cz cA w Z=>.r [7,8,9]<|.go 10<|GE.Ss 0 [2,3] Z fun w Z=>GA.Do Z fun w Z=>.d<|.ib 0<|.s<|.s<|.g<|.r 2<|.eq (((Au w_.disk e.at_).length):Int) 0 (fun ah=>.r 5<|.d<|.ct<|T.Mu AA func26 results26 ⟨⟨rfl,Z.rBD 3 0 [10,10,10,10,10,10,10] w_ [(ab0,cb0),(ab1,cb1),(ab2,cb2),(ab3,cb3),(ab4,cb4),(ab5,cb5),(ab6,cb6)] (Eq.symm (by exact Xe p0 (by with_reducible assumption) (.inl (by with_reducible assumption))))⟩,Z.ch⟩) fun ah=>.r 2<|RG.Lb 2 Z<|.bp (e.cut< 0) (fun ai=>.r 1<|.d<|.ct<|T.Mu AA func26 results26 ⟨⟨rfl,Z.rBD 3 0 [10,10,10,10,10,10,10] w_ [(ab0,cb0),(ab1,cb1),(ab2,cb2),(ab3,cb3),(ab4,cb4),(ab5,cb5),(ab6,cb6)] (Eq.symm (by exact Xe p0 (by with_reducible assumption) (.inr (by with_reducible assumption))))⟩,Z.ch⟩) fun ai=>.r 1<|.d<|.cf<|.sk<|.s<|T.Gd 9 Z fun w Z=>.r [0,1,2,3]<|GA.Ln 4 3 Z<|.r [5,6]<|GA.Lb 7 2 Z<|.go 8<|GE.DD 0 1 (fun w Z=>IV w_.disk (Au w_.disk e.at_) e.cut (Z.a 12) (Z.a 13) (Z.a 14) (Z.a 5) p0.dd (fun _=>by exact (KJ p0.dd _).1)) Z fun aa ab ac ae af ag w Z=>GA.Dn Z fun w Z=>.r 2<|RG.Ss 3 Z fun w Z=>.d<|.s<|.g<|.r 1<|RG.Lb 2 Z<|.r 2<|.bp (e.cut< (((Au w_.disk e.at_).length):Int)) (fun aj=>?_) (fun aj=>.d<|.cf<|.g<|.r 1<|RG.Ln 0 Z<|.r 2<|RG.Ss 3 Z fun w Z=>.d<|T.G4 func26 results26 ⟨⟨rfl,Z.rBD 3 0 [2,2,2,6,6,6,6] (⟨(⟨(⟨(Dx w_.store e.at_).1.idx.names,((Dx w_.store e.at_).1.idx).AX⟩:Idx),(Dx w_.store e.at_).1.parts,(Dx w_.store e.at_).1.mem⟩:Sto),(⟨(BJ w_.disk (Au w_.disk e.at_) e.cut).files,(BJ w_.disk (Au w_.disk e.at_) e.cut).list,(BJ w_.disk (Au w_.disk e.at_) e.cut).names,(BJ w_.disk (Au w_.disk e.at_) e.cut).next⟩:Dsk)⟩:Wld) [(cq,cr),(cu,cw),(cx,cy),(cz,cA),(aa,ab),(ac,ae),(af,ag)] (Eq.symm (by exact Z9 p0 (by with_reducible assumption) (by with_reducible assumption) (by with_reducible assumption) (by with_reducible assumption)))⟩,Z.ch⟩)
  refine .d<|.ct<|.g<|.r 1<|RG.cl (ET (⟨(⟨(⟨w_.store.idx.names,w_.store.idx.AX⟩:Idx),w_.store.parts,w_.store.mem⟩:Sto),(⟨(BJ w_.disk (Au w_.disk e.at_) e.cut).files,(BJ w_.disk (Au w_.disk e.at_) e.cut).list,(BJ w_.disk (Au w_.disk e.at_) e.cut).names,(BJ w_.disk (Au w_.disk e.at_) e.cut).next⟩:Dsk)⟩:Wld) (Z.ib 3 0 1 [2,2,2,10,10,10,10] [.s ab0 cb0 w_.store.idx.names,.s ab1 cb1 w_.store.idx.AX,.s ab2 cb2 w_.store.parts,.s ab3 cb3 w_.store.mem,.s aa ab ((BJ w_.disk (Au w_.disk e.at_) e.cut).files),.s ac ae ((BJ w_.disk (Au w_.disk e.at_) e.cut).list),.s af ag ((BJ w_.disk (Au w_.disk e.at_) e.cut).names)]) (Z.bc 3) (by exact (Ol (e:=e) p0 (by with_reducible assumption) (by with_reducible assumption)).2.1) (by exact (Ol (e:=e) p0 (by with_reducible assumption) (by with_reducible assumption)).2.2)) ?_
  rintro _ w ⟨⟨rfl,ak⟩,am⟩
  exact Z.bB 3 1 ak (SK am) fun aM aN aO aP aQ aR aS aT aU aV aW aX aY aZ Z=>.d<|T.G4 func26 results26 ⟨⟨rfl,Z.rBD 3 0 [6,6,6,6,6,6,6] (⟨(⟨(⟨((((BY (⟨(⟨(⟨w_.store.idx.names,w_.store.idx.AX⟩:Idx),w_.store.parts,w_.store.mem⟩:Sto),(⟨(BJ w_.disk (Au w_.disk e.at_) e.cut).files,(BJ w_.disk (Au w_.disk e.at_) e.cut).list,(BJ w_.disk (Au w_.disk e.at_) e.cut).names,(BJ w_.disk (Au w_.disk e.at_) e.cut).next⟩:Dsk)⟩:Wld))).store).idx).names,((((BY (⟨(⟨(⟨w_.store.idx.names,w_.store.idx.AX⟩:Idx),w_.store.parts,w_.store.mem⟩:Sto),(⟨(BJ w_.disk (Au w_.disk e.at_) e.cut).files,(BJ w_.disk (Au w_.disk e.at_) e.cut).list,(BJ w_.disk (Au w_.disk e.at_) e.cut).names,(BJ w_.disk (Au w_.disk e.at_) e.cut).next⟩:Dsk)⟩:Wld))).store).idx).AX⟩:Idx),(((BY (⟨(⟨(⟨w_.store.idx.names,w_.store.idx.AX⟩:Idx),w_.store.parts,w_.store.mem⟩:Sto),(⟨(BJ w_.disk (Au w_.disk e.at_) e.cut).files,(BJ w_.disk (Au w_.disk e.at_) e.cut).list,(BJ w_.disk (Au w_.disk e.at_) e.cut).names,(BJ w_.disk (Au w_.disk e.at_) e.cut).next⟩:Dsk)⟩:Wld))).store).parts,(((BY (⟨(⟨(⟨w_.store.idx.names,w_.store.idx.AX⟩:Idx),w_.store.parts,w_.store.mem⟩:Sto),(⟨(BJ w_.disk (Au w_.disk e.at_) e.cut).files,(BJ w_.disk (Au w_.disk e.at_) e.cut).list,(BJ w_.disk (Au w_.disk e.at_) e.cut).names,(BJ w_.disk (Au w_.disk e.at_) e.cut).next⟩:Dsk)⟩:Wld))).store).mem⟩:Sto),(⟨(((BY (⟨(⟨(⟨w_.store.idx.names,w_.store.idx.AX⟩:Idx),w_.store.parts,w_.store.mem⟩:Sto),(⟨(BJ w_.disk (Au w_.disk e.at_) e.cut).files,(BJ w_.disk (Au w_.disk e.at_) e.cut).list,(BJ w_.disk (Au w_.disk e.at_) e.cut).names,(BJ w_.disk (Au w_.disk e.at_) e.cut).next⟩:Dsk)⟩:Wld))).disk).files,(((BY (⟨(⟨(⟨w_.store.idx.names,w_.store.idx.AX⟩:Idx),w_.store.parts,w_.store.mem⟩:Sto),(⟨(BJ w_.disk (Au w_.disk e.at_) e.cut).files,(BJ w_.disk (Au w_.disk e.at_) e.cut).list,(BJ w_.disk (Au w_.disk e.at_) e.cut).names,(BJ w_.disk (Au w_.disk e.at_) e.cut).next⟩:Dsk)⟩:Wld))).disk).list,(((BY (⟨(⟨(⟨w_.store.idx.names,w_.store.idx.AX⟩:Idx),w_.store.parts,w_.store.mem⟩:Sto),(⟨(BJ w_.disk (Au w_.disk e.at_) e.cut).files,(BJ w_.disk (Au w_.disk e.at_) e.cut).list,(BJ w_.disk (Au w_.disk e.at_) e.cut).names,(BJ w_.disk (Au w_.disk e.at_) e.cut).next⟩:Dsk)⟩:Wld))).disk).names,(((BY (⟨(⟨(⟨w_.store.idx.names,w_.store.idx.AX⟩:Idx),w_.store.parts,w_.store.mem⟩:Sto),(⟨(BJ w_.disk (Au w_.disk e.at_) e.cut).files,(BJ w_.disk (Au w_.disk e.at_) e.cut).list,(BJ w_.disk (Au w_.disk e.at_) e.cut).names,(BJ w_.disk (Au w_.disk e.at_) e.cut).next⟩:Dsk)⟩:Wld))).disk).next⟩:Dsk)⟩:Wld) [(aM,aN),(aO,aP),(aQ,aR),(aS,aT),(aU,aV),(aW,aX),(aY,aZ)] (Eq.symm (by exact Z8 p0 (by with_reducible assumption) (by with_reducible assumption) (by with_reducible assumption) (by with_reducible assumption)))⟩,Z.ch⟩
 refine .r 1<|.d<|.cf<|.s<|.g<|.eq e.kind 4 (fun ao=>?_) (fun ao=>.r 1<|.d<|.cf<|.sk<|.ib 0<|.s<|.s<|.g<|.r 8<|.d<|.ct<|T.Mu AA func26 results26 ⟨⟨rfl,Z.rBD 3 1 [6,6,6,6,6,6,6] w_ [(ab0,cb0),(ab1,cb1),(ab2,cb2),(ab3,cb3),(ab4,cb4),(ab5,cb5),(ab6,cb6)] (Eq.symm (by exact TX (by with_reducible assumption) (by with_reducible assumption) (by with_reducible assumption) (by with_reducible assumption)))⟩,Z.ch⟩)
 refine .r 1<|.d<|.ct<|.g<|.r 1<|RG.cl (ET w_ (Z.ib 3 1 1 [6,6,6,6,6,6,6] [.s ab0 cb0 w_.store.idx.names,.s ab1 cb1 w_.store.idx.AX,.s ab2 cb2 w_.store.parts,.s ab3 cb3 w_.store.mem,.s ab4 cb4 w_.disk.files,.s ab5 cb5 w_.disk.list,.s ab6 cb6 w_.disk.names]) (Z.bc 3) (by exact p0.dd) (by exact p0.dk)) ?_
 rintro _ w ⟨⟨rfl,aq⟩,ar⟩
 exact Z.bB 3 1 aq (SK ar) fun ba bg bh bi bj bk bm bn bo bq br bu bv bw Z=>.d<|.ib 0<|.s<|.s<|.g<|.r 8<|.d<|.ct<|T.Mu AA func26 results26 ⟨⟨rfl,Z.rBD 3 0 [6,6,6,6,6,6,6] (⟨(⟨(⟨((((BY w_)).store).idx).names,((((BY w_)).store).idx).AX⟩:Idx),(((BY w_)).store).parts,(((BY w_)).store).mem⟩:Sto),(⟨(((BY w_)).disk).files,(((BY w_)).disk).list,(((BY w_)).disk).names,(((BY w_)).disk).next⟩:Dsk)⟩:Wld) [(ba,bg),(bh,bi),(bj,bk),(bm,bn),(bo,bq),(br,bu),(bv,bw)] (Eq.symm (by exact pT (by with_reducible assumption)))⟩,Z.ch⟩
end Go.Proofs.YtcginoabkicdiaaGreat
namespace Go.Proofs.YtcginoabkicdiaaGreat
set_option maxRecDepth 100000
set_option maxHeartbeats 4000000
variable {w:World} {F:Nat→Prop} {a1 a2 a3 a4 a5 a6 a7:Option Addr} {n1 c1 n2 c2 n3 c3 n4 c4 n5 c5 n6 c6 n7 c7:Nat}
theorem IW (a:List Tag) (h1:RepS w F a1 n1 c1 a) (p0:a.length≤1100000):Calls Tryz.prog 40 [.slice a1 n1 c1].toArray w (Af fun rv w'=>VA w.heap.size w' (a:List Tag) rv∧Ext w w'):=by
 cases h1.len
 refine goT func40 ?_
 have Z:=(St.i0 F w).p h1
 have Z:=Z.s0 0
 refine .s<|.g<|.r 1<|.d<|.s<|.g<|.r 2<|RG.Mk (hb:=AB) 0 (⟨([]:Str),([]:Str)⟩:Tag) a.length (fun _ _=>fn_) Z fun ae w Z=>.r 1<|.d<|.s<|.s<|.g<|.r 1<|.d<|.b 0<|T.Lp ((0:Nat),(List.replicate a.length (⟨([]:Str),([]:Str)⟩:Tag))) (fun (i,xs)=>([(0,.slice a1 a.length c1),(3,vS ae a.length a.length),(4,vI (i:Int))],[(0,.own 0 ae 118 a.length xs)],[],a.length - i,(i≤a.length)∧(xs.length=a.length)∧(xs.take i=a.take i))) [] Z ⟨AB,AD,AD⟩ ?_
 rintro ⟨i,xs⟩ ax w Z ⟨ak,am,ao⟩ ac
 refine .s<|.s<|.g<|.r 3<|.bp ((i:Int)< (a.length:Int)) (fun ag=>?_) (fun ag=>?_)
 ·refine .d<|.ct<|.sk<|.s<|.b 1<|.g<|.r 4<|gx a i fun af ab=>?_
  refine RG.Ix 1 ab Z<|Z.el 1 ab fun Z=>RG.Lg 0 0 Z<|RG.CS (JX af (F:=all)) Z fun  w Z=>gx xs i fun ay aa=>?_
  exact RG.Ko 0 a.length (i:Int) aa Z<|Z.eo 0 aa fun Z=>RG.Se 0 0 0 aa af [] Z fun w Z=>.d<|.ib 1<|.g<|.r 1<|.it ((i:Int)+1)<|.r 1<|.d<|ac (i+1,(xs.set i af)) _ _ AA (Z.to 0 [] 1) ⟨AB,(by (simp; omega)),(by exact FA ‹_› ‹_› ‹_›)⟩ (by (simp only []; omega))
 refine .d<|.cf<|.x 0 rfl<|.s<|.g<|.r 2<|.d ?_
 obtain rfl:a=xs:=Gf ‹_› ‹_› AB
 exact T.Rt func40 results40 ⟨(Z.fL 0 0 0 a).rA 1 [0] a (some ⟨ae,0,none⟩) a.length AF,(Z.fL 0 0 0 a).xt⟩
theorem F0 (a:List Int) (h1:RepS w F a1 n1 c1 a) (p0:a.length≤1100000):Calls Tryz.prog 98 [.slice a1 n1 c1].toArray w (Af fun rv w'=>VA w.heap.size w' (a:List Int) rv∧Ext w w'):=by
 cases h1.len
 refine goT func98 ?_
 have Z:=(St.i0 F w).p h1
 have Z:=Z.s0 0
 refine .s<|.g<|.r 1<|.d<|.s<|.g<|.r 2<|RG.Mk (hb:=AB) 0 (0:Int) a.length (fun _ _=>fn_) Z fun ae w Z=>.r 1<|.d<|.s<|.s<|.g<|.r 1<|.d<|.b 0<|T.Lp ((0:Nat),(List.replicate a.length (0:Int))) (fun (i,xs)=>([(0,.slice a1 a.length c1),(3,vS ae a.length a.length),(4,vI (i:Int))],[(0,.own 0 ae 3 a.length xs)],[],a.length - i,(i≤a.length)∧(xs.length=a.length)∧(xs.take i=a.take i))) [] Z ⟨AB,AD,AD⟩ ?_
 rintro ⟨i,xs⟩ ax w Z ⟨ak,am,ao⟩ ac
 refine .s<|.s<|.g<|.r 3<|.bp ((i:Int)< (a.length:Int)) (fun af=>?_) (fun af=>?_)
 ·refine .d<|.ct<|.sk<|.s<|.b 1<|.g<|.r 4<|gx a i fun ag ab=>?_
  refine RG.Ix 1 ab Z<|Z.el 1 ab fun Z=>RG.Lh 0 0 Z<|gx xs i fun ay aa=>?_
  exact RG.Ko 0 a.length (i:Int) aa Z<|Z.eo 0 aa fun Z=>RG.Se 0 0 0 aa ag [] Z fun w Z=>.d<|.ib 1<|.g<|.r 1<|.it ((i:Int)+1)<|.r 1<|.d<|ac (i+1,(xs.set i ag)) _ _ AA (Z.to 0 [] 1) ⟨AB,(by (simp; omega)),(by exact FA ‹_› ‹_› ‹_›)⟩ (by (simp only []; omega))
 refine .d<|.cf<|.x 0 rfl<|.s<|.g<|.r 2<|.d ?_
 obtain rfl:a=xs:=Gf ‹_› ‹_› AB
 exact T.Rt func98 results98 ⟨(Z.fL 0 0 0 a).rA 1 [0] a (some ⟨ae,0,none⟩) a.length AF,(Z.fL 0 0 0 a).xt⟩
theorem NG (a:List Row) (h1:RepS w F a1 n1 c1 a) (p0:a.length≤1100000):Calls Tryz.prog 224 [.slice a1 n1 c1].toArray w (Af fun rv w'=>VA w.heap.size w' (a:List Row) rv∧Ext w w'):=by
 cases h1.len
 refine goT func224 ?_
 have Z:=(St.i0 F w).p h1
 have Z:=Z.s0 0
 refine .s<|.g<|.r 1<|.d<|.s<|.g<|.r 2<|RG.Mk (hb:=AB) 0 (⟨(0:Int),(0:Int)⟩:Row) a.length (fun _ _=>fn_) Z fun ae w Z=>.r 1<|.d<|.s<|.s<|.g<|.r 1<|.d<|.b 0<|T.Lp ((0:Nat),(List.replicate a.length (⟨(0:Int),(0:Int)⟩:Row))) (fun (i,xs)=>([(0,.slice a1 a.length c1),(3,vS ae a.length a.length),(4,vI (i:Int))],[(0,.own 0 ae 70 a.length xs)],[],a.length - i,(i≤a.length)∧(xs.length=a.length)∧(xs.take i=a.take i))) [] Z ⟨AB,AD,AD⟩ ?_
 rintro ⟨i,xs⟩ ax w Z ⟨ak,am,ao⟩ ac
 refine .s<|.s<|.g<|.r 3<|.bp ((i:Int)< (a.length:Int)) (fun ag=>?_) (fun ag=>?_)
 ·refine .d<|.ct<|.sk<|.s<|.b 1<|.g<|.r 4<|gx a i fun af ab=>?_
  refine RG.Ix 1 ab Z<|Z.el 1 ab fun Z=>RG.Lg 0 0 Z<|RG.CS (Gg af (F:=all)) Z fun  w Z=>gx xs i fun ay aa=>?_
  exact RG.Ko 0 a.length (i:Int) aa Z<|Z.eo 0 aa fun Z=>RG.Se 0 0 0 aa af [] Z fun w Z=>.d<|.ib 1<|.g<|.r 1<|.it ((i:Int)+1)<|.r 1<|.d<|ac (i+1,(xs.set i af)) _ _ AA (Z.to 0 [] 1) ⟨AB,(by (simp; omega)),(by exact FA ‹_› ‹_› ‹_›)⟩ (by (simp only []; omega))
 refine .d<|.cf<|.x 0 rfl<|.s<|.g<|.r 2<|.d ?_
 obtain rfl:a=xs:=Gf ‹_› ‹_› AB
 exact T.Rt func224 results224 ⟨(Z.fL 0 0 0 a).rA 1 [0] a (some ⟨ae,0,none⟩) a.length AF,(Z.fL 0 0 0 a).xt⟩
theorem KQ (a:List Smp) (h1:RepS w F a1 n1 c1 a) (p0:a.length≤1100000):Calls Tryz.prog 96 [.slice a1 n1 c1].toArray w (Af fun rv w'=>VA w.heap.size w' (a:List Smp) rv∧Ext w w'):=by
 cases h1.len
 refine goT func96 ?_
 have Z:=(St.i0 F w).p h1
 have Z:=Z.s0 0
 refine .s<|.g<|.r 1<|.d<|.s<|.g<|.r 2<|RG.Mk (hb:=AB) 0 (⟨(0:Int),(⟨(0:Int),(0:Int)⟩:Row)⟩:Smp) a.length (fun _ _=>fn_) Z fun ae w Z=>.r 1<|.d<|.s<|.s<|.g<|.r 1<|.d<|.b 0<|T.Lp ((0:Nat),(List.replicate a.length (⟨(0:Int),(⟨(0:Int),(0:Int)⟩:Row)⟩:Smp))) (fun (i,xs)=>([(0,.slice a1 a.length c1),(3,vS ae a.length a.length),(4,vI (i:Int))],[(0,.own 0 ae 158 a.length xs)],[],a.length - i,(i≤a.length)∧(xs.length=a.length)∧(xs.take i=a.take i))) [] Z ⟨AB,AD,AD⟩ ?_
 rintro ⟨i,xs⟩ ax w Z ⟨ak,am,ao⟩ ac
 refine .s<|.s<|.g<|.r 3<|.bp ((i:Int)< (a.length:Int)) (fun ag=>?_) (fun ag=>?_)
 ·refine .d<|.ct<|.sk<|.s<|.b 1<|.g<|.r 4<|gx a i fun af ab=>?_
  refine RG.Ix 1 ab Z<|Z.el 1 ab fun Z=>RG.Lg 0 0 Z<|RG.CS (Kx af (F:=all)) Z fun  w Z=>gx xs i fun ay aa=>?_
  exact RG.Ko 0 a.length (i:Int) aa Z<|Z.eo 0 aa fun Z=>RG.Se 0 0 0 aa af [] Z fun w Z=>.d<|.ib 1<|.g<|.r 1<|.it ((i:Int)+1)<|.r 1<|.d<|ac (i+1,(xs.set i af)) _ _ AA (Z.to 0 [] 1) ⟨AB,(by (simp; omega)),(by exact FA ‹_› ‹_› ‹_›)⟩ (by (simp only []; omega))
 refine .d<|.cf<|.x 0 rfl<|.s<|.g<|.r 2<|.d ?_
 obtain rfl:a=xs:=Gf ‹_› ‹_› AB
 exact T.Rt func96 results96 ⟨(Z.fL 0 0 0 a).rA 1 [0] a (some ⟨ae,0,none⟩) a.length AF,(Z.fL 0 0 0 a).xt⟩
theorem Hk (a:List (List Tag)) (h1:RepS w F a1 n1 c1 a) (p0:LL a):Calls Tryz.prog 99 [.slice a1 n1 c1].toArray w (Af fun rv w'=>VA w.heap.size w' (a:List (List Tag)) rv∧Ext w w'):=by
 cases h1.len
 refine goT func99 ?_
 have Z:=(St.i0 F w).p h1
 have aj:=h1.max
 have Z:=Z.s0 0
 refine .s<|.g<|.r 1<|.d<|.s<|.g<|.r 2<|RG.Mr (hb:=(by (have q1:=p0.1; omega))) 0 0 0 ([]:List Tag) a.length (fun _ _=>(fc (RepS.Bv _ _ none 0 AE) fn_)) (fun _ _=>Lf.mk_ (x:=([]:List Tag)) [(none,0)] rfl (itN trivial)) AA Z fun ag w Z=>.r 1<|.d<|.s<|.s<|.g<|.r 1<|.d<|.b 0<|T.Lp ((0:Nat),(List.replicate a.length ([]:List Tag)),(List.replicate a.length (⟨Shp.cells ([]:List Tag) [],AA⟩:Hd 0))) (fun (i,xs,hs)=>([(0,.slice a1 a.length c1),(3,vS ag a.length a.length),(4,vI (i:Int))],[(0,.raw 0 ag 69 a.length xs hs)],[⟨0,none,.sep [.e xs hs]⟩],a.length - i,(i≤a.length)∧(xs.length=a.length)∧(xs.take i=a.take i))) [0] Z ⟨AB,AD,AD⟩ ?_
 rintro ⟨i,xs,hs⟩ ar w Z ⟨ak,am,ao⟩ ac
 refine .s<|.s<|.g<|.r 3<|.bp ((i:Int)< (a.length:Int)) (fun ah=>?_) (fun ah=>?_)
 ·refine .d<|.ct<|.sk<|.s<|.b 1<|.g<|.r 4<|gx a i fun aa ab=>?_
  have ai:=AV ab
  refine RG.Ix 3 ab Z<|Z.el 3 ab fun ax ay Z=>RG.Lh 0 0 Z<|RG.DA 2 0 (IW aa (Z.a 1) (p0.2 _ ‹_›)) Z fun ae af w Z=>RG.Kr (k:=0) 0 a.length i (i:Int) Z<|RG.Sr 0 i xs aa hs (⟨Shp.cells aa ([(ae,af)]:List (Option Addr × Nat)),AA⟩:Hd 0) Z fun w Z=>?_
  have Z:=Z.eS 0 0 [1,1] i xs hs (⟨Shp.cells aa ([(ae,af)]:List (Option Addr × Nat)),AA⟩:Hd 0) aa ([(ae,af)]:List (Option Addr × Nat))
  refine .d<|.ib 1<|.g<|.r 1<|.it ((i:Int)+1)<|.r 1<|.d ?_
  have Z:=Z.sM 0 0 [0] [.e (xs.set i aa) (hs.set i (⟨Shp.cells aa ([(ae,af)]:List (Option Addr × Nat)),AA⟩:Hd 0))]
  exact ac (i+1,(xs.set i aa),(hs.set i (⟨Shp.cells aa ([(ae,af)]:List (Option Addr × Nat)),AA⟩:Hd 0))) _ _ AA (Z.to 0 [0] 7) ⟨AB,(by (simp; omega)),(by exact FA ‹_› ‹_› ‹_›)⟩ (by (simp only []; omega))
 refine .d<|.cf<|.x 0 rfl<|.s<|.g<|.r 2<|.d ?_
 obtain rfl:a=xs:=Gf ‹_› ‹_› AB
 exact T.Rt func99 results99 ⟨(Z.eL 0 0 0 [0] a hs).rA 1 [0] a (some ⟨ag,0,none⟩) a.length AF,(Z.eL 0 0 0 [0] a hs).xt⟩
theorem Mi (a:List (List Row)) (h1:RepS w F a1 n1 c1 a) (p0:LL a):Calls Tryz.prog 202 [.slice a1 n1 c1].toArray w (Af fun rv w'=>VA w.heap.size w' (a:List (List Row)) rv∧Ext w w'):=by
 cases h1.len
 refine goT func202 ?_
 have Z:=(St.i0 F w).p h1
 have aj:=h1.max
 have Z:=Z.s0 0
 refine .s<|.g<|.r 1<|.d<|.s<|.g<|.r 2<|RG.Mr (hb:=(by (have q1:=p0.1; omega))) 0 0 0 ([]:List Row) a.length (fun _ _=>(fc (RepS.Bv _ _ none 0 AE) fn_)) (fun _ _=>Lf.mk_ (x:=([]:List Row)) [(none,0)] rfl (itN trivial)) AA Z fun ag w Z=>.r 1<|.d<|.s<|.s<|.g<|.r 1<|.d<|.b 0<|T.Lp ((0:Nat),(List.replicate a.length ([]:List Row)),(List.replicate a.length (⟨Shp.cells ([]:List Row) [],AA⟩:Hd 0))) (fun (i,xs,hs)=>([(0,.slice a1 a.length c1),(3,vS ag a.length a.length),(4,vI (i:Int))],[(0,.raw 0 ag 159 a.length xs hs)],[⟨0,none,.sep [.e xs hs]⟩],a.length - i,(i≤a.length)∧(xs.length=a.length)∧(xs.take i=a.take i))) [0] Z ⟨AB,AD,AD⟩ ?_
 rintro ⟨i,xs,hs⟩ ar w Z ⟨ak,am,ao⟩ ac
 refine .s<|.s<|.g<|.r 3<|.bp ((i:Int)< (a.length:Int)) (fun ah=>?_) (fun ah=>?_)
 ·refine .d<|.ct<|.sk<|.s<|.b 1<|.g<|.r 4<|gx a i fun aa ab=>?_
  have ai:=AV ab
  refine RG.Ix 3 ab Z<|Z.el 3 ab fun ax ay Z=>RG.Lh 0 0 Z<|RG.DA 2 0 (NG aa (Z.a 1) (p0.2 _ ‹_›)) Z fun ae af w Z=>RG.Kr (k:=0) 0 a.length i (i:Int) Z<|RG.Sr 0 i xs aa hs (⟨Shp.cells aa ([(ae,af)]:List (Option Addr × Nat)),AA⟩:Hd 0) Z fun w Z=>?_
  have Z:=Z.eS 0 0 [1,1] i xs hs (⟨Shp.cells aa ([(ae,af)]:List (Option Addr × Nat)),AA⟩:Hd 0) aa ([(ae,af)]:List (Option Addr × Nat))
  refine .d<|.ib 1<|.g<|.r 1<|.it ((i:Int)+1)<|.r 1<|.d ?_
  have Z:=Z.sM 0 0 [0] [.e (xs.set i aa) (hs.set i (⟨Shp.cells aa ([(ae,af)]:List (Option Addr × Nat)),AA⟩:Hd 0))]
  exact ac (i+1,(xs.set i aa),(hs.set i (⟨Shp.cells aa ([(ae,af)]:List (Option Addr × Nat)),AA⟩:Hd 0))) _ _ AA (Z.to 0 [0] 7) ⟨AB,(by (simp; omega)),(by exact FA ‹_› ‹_› ‹_›)⟩ (by (simp only []; omega))
 refine .d<|.cf<|.x 0 rfl<|.s<|.g<|.r 2<|.d ?_
 obtain rfl:a=xs:=Gf ‹_› ‹_› AB
 exact T.Rt func202 results202 ⟨(Z.eL 0 0 0 [0] a hs).rA 1 [0] a (some ⟨ag,0,none⟩) a.length AF,(Z.eL 0 0 0 [0] a hs).xt⟩
theorem NH (a:Pst) (h1:RepS w F a1 n1 c1 a.ids) (p0:a.ids.length≤1100000):Calls Tryz.prog 201 [.agg #[.string (bs a.tag.key),.string (bs a.tag.val),.slice a1 n1 c1]].toArray w (Af fun rv w'=>VD w.heap.size w' (a:Pst) rv∧Ext w w'):=by
 cases h1.len
 refine goT func201 ?_
 have Z:=(St.i0 F w).p h1
 have Z:=Z.s0 0
 exact .s<|.g<|RG.Np Z fun ae w Z=>RG.Np Z fun af w Z=>.d<|.s<|.g<|RG.Np Z fun ag w Z=>.d<|.s<|.g<|.r 1<|RG.Ln 2 Z<|RG.CS (JX a.tag (F:=all)) Z fun  w Z=>.r 1<|RG.Ss 0 Z fun w Z=>.d<|.s<|.g<|.r 1<|RG.Lb 2 Z<|RG.DA 0 0 (F0 a.ids (Z.a 1) p0) Z fun aa ab w Z=>.r 1<|RG.Ss 0 Z fun w Z=>.d<|.s<|.g<|RG.Ln 0 Z<|RG.Ss 1 Z fun w Z=>.d<|T.Rb 1 func201 results201 Z ⟨Z.rD 0 [0] a [(aa,ab)] rfl,Z.xt⟩
theorem IY (a:Prt) (h1:RepS w F a1 n1 c1 a.ids) (h2:RepS w F a2 n2 c2 a.blocks) (p0:PtL a):Calls Tryz.prog 154 [.agg #[.slice a1 n1 c1,.slice a2 n2 c2]].toArray w (Af fun rv w'=>VD w.heap.size w' (a:Prt) rv∧Ext w w'):=by
 cases h1.len
 cases h2.len
 refine goT func154 ?_
 have Z:=((St.i0 F w).p h1).p h2
 have Z:=Z.s0 0
 exact .s<|.g<|RG.Np Z fun ah w Z=>RG.Np Z fun ai w Z=>.d<|.s<|.g<|RG.Np Z fun aj w Z=>.d<|.s<|.g<|.r 1<|RG.Lb 2 Z<|RG.DA 0 0 (F0 a.ids (Z.a 2) p0.1) Z fun aa ab w Z=>.r 1<|RG.Ss 0 Z fun w Z=>.d<|.s<|.g<|.r 1<|RG.Lb 2 Z<|RG.DA 0 0 (Mi a.blocks (Z.a 3) p0.2) Z fun ac ae w Z=>.r 1<|RG.Ss 0 Z fun w Z=>.d<|.s<|.g<|RG.Ln 0 Z<|RG.Ss 1 Z fun w Z=>.d<|T.Rb 1 func154 results154 Z ⟨Z.rD 0 [0,1] a [(aa,ab),(ac,ae)] rfl,Z.xt⟩
theorem Mj (a:List Pst) (h1:RepS w F a1 n1 c1 a) (p0:PoL a):Calls Tryz.prog 153 [.slice a1 n1 c1].toArray w (Af fun rv w'=>VA w.heap.size w' (a:List Pst) rv∧Ext w w'):=by
 cases h1.len
 refine goT func153 ?_
 have Z:=(St.i0 F w).p h1
 have aj:=h1.max
 have Z:=Z.s0 0
 refine .s<|.g<|.r 1<|.d<|.s<|.g<|.r 2<|RG.Mr (hb:=(by (have q1:=p0.1; omega))) 0 0 2 (⟨(⟨([]:Str),([]:Str)⟩:Tag),([]:List Int)⟩:Pst) a.length (fun _ _=>(fc (RepS.Bv _ _ none 0 AE) fn_)) (fun _ _=>Lf.mk_ (x:=(⟨(⟨([]:Str),([]:Str)⟩:Tag),([]:List Int)⟩:Pst)) [(none,0)] rfl (itN trivial)) AA Z fun ag w Z=>.r 1<|.d<|.s<|.s<|.g<|.r 1<|.d<|.b 0<|T.Lp ((0:Nat),(List.replicate a.length (⟨(⟨([]:Str),([]:Str)⟩:Tag),([]:List Int)⟩:Pst)),(List.replicate a.length (⟨Shp.cells (⟨(⟨([]:Str),([]:Str)⟩:Tag),([]:List Int)⟩:Pst) [],AA⟩:Hd 2))) (fun (i,xs,hs)=>([(0,.slice a1 a.length c1),(3,vS ag a.length a.length),(4,vI (i:Int))],[(0,.raw 0 ag 204 a.length xs hs)],[⟨0,none,.sep [.e xs hs]⟩],a.length - i,(i≤a.length)∧(xs.length=a.length)∧(xs.take i=a.take i))) [0] Z ⟨AB,AD,AD⟩ ?_
 rintro ⟨i,xs,hs⟩ ar w Z ⟨ak,am,ao⟩ ac
 refine .s<|.s<|.g<|.r 3<|.bp ((i:Int)< (a.length:Int)) (fun ah=>?_) (fun ah=>?_)
 ·refine .d<|.ct<|.sk<|.s<|.b 1<|.g<|.r 4<|gx a i fun aa ab=>?_
  have ai:=AV ab
  refine RG.Ix 3 ab Z<|Z.el 3 ab fun ax ay Z=>RG.Lg 0 0 Z<|RG.DD 2 0 (NH aa (Z.a 1) (p0.2 _ ‹_›)) Z fun ae af w Z=>RG.Kr (k:=2) 0 a.length i (i:Int) Z<|RG.Sr 0 i xs aa hs (⟨Shp.cells aa ([(ae,af)]:List (Option Addr × Nat)),AA⟩:Hd 2) Z fun w Z=>?_
  have Z:=Z.eS 0 0 [1,1] i xs hs (⟨Shp.cells aa ([(ae,af)]:List (Option Addr × Nat)),AA⟩:Hd 2) aa ([(ae,af)]:List (Option Addr × Nat))
  refine .d<|.ib 1<|.g<|.r 1<|.it ((i:Int)+1)<|.r 1<|.d ?_
  have Z:=Z.sM 0 0 [0] [.e (xs.set i aa) (hs.set i (⟨Shp.cells aa ([(ae,af)]:List (Option Addr × Nat)),AA⟩:Hd 2))]
  exact ac (i+1,(xs.set i aa),(hs.set i (⟨Shp.cells aa ([(ae,af)]:List (Option Addr × Nat)),AA⟩:Hd 2))) _ _ AA (Z.to 0 [0] 7) ⟨AB,(by (simp; omega)),(by exact FA ‹_› ‹_› ‹_›)⟩ (by (simp only []; omega))
 refine .d<|.cf<|.x 0 rfl<|.s<|.g<|.r 2<|.d ?_
 obtain rfl:a=xs:=Gf ‹_› ‹_› AB
 exact T.Rt func153 results153 ⟨(Z.eL 0 0 0 [0] a hs).rA 1 [0] a (some ⟨ag,0,none⟩) a.length AF,(Z.eL 0 0 0 [0] a hs).xt⟩
theorem Ml (a:List Prt) (h1:RepS w F a1 n1 c1 a) (p0:X4 a):Calls Tryz.prog 95 [.slice a1 n1 c1].toArray w (Af fun rv w'=>VA w.heap.size w' (a:List Prt) rv∧Ext w w'):=by
 cases h1.len
 refine goT func95 ?_
 have Z:=(St.i0 F w).p h1
 have am:=h1.max
 have Z:=Z.s0 0
 refine .s<|.g<|.r 1<|.d<|.s<|.g<|.r 2<|RG.Mr (hb:=(by (have q1:=p0.1; omega))) 0 0 1 (⟨([]:List Int),([]:List (List Row))⟩:Prt) a.length (fun _ _=>(fc (RepS.Bv _ _ none 0 AE) (fc (RepS.Bv _ _ none 0 AE) fn_))) (fun _ _=>Lf.mk_ (x:=(⟨([]:List Int),([]:List (List Row))⟩:Prt)) [(none,0),(none,0)] rfl (itN (itN trivial))) AA Z fun ai w Z=>.r 1<|.d<|.s<|.s<|.g<|.r 1<|.d<|.b 0<|T.Lp ((0:Nat),(List.replicate a.length (⟨([]:List Int),([]:List (List Row))⟩:Prt)),(List.replicate a.length (⟨Shp.cells (⟨([]:List Int),([]:List (List Row))⟩:Prt) [],AA⟩:Hd 1))) (fun (i,xs,hs)=>([(0,.slice a1 a.length c1),(3,vS ai a.length a.length),(4,vI (i:Int))],[(0,.raw 0 ai 146 a.length xs hs)],[⟨0,none,.sep [.e xs hs]⟩],a.length - i,(i≤a.length)∧(xs.length=a.length)∧(xs.take i=a.take i))) [0] Z ⟨AB,AD,AD⟩ ?_
 rintro ⟨i,xs,hs⟩ ay w Z ⟨ao,aq,ar⟩ ac
 refine .s<|.s<|.g<|.r 3<|.bp ((i:Int)< (a.length:Int)) (fun aj=>?_) (fun aj=>?_)
 ·refine .d<|.ct<|.sk<|.s<|.b 1<|.g<|.r 4<|gx a i fun aa ab=>?_
  have ak:=AV ab
  refine RG.Ix 3 ab Z<|Z.el 3 ab fun az aA aB aC Z=>RG.Lg 0 0 Z<|RG.DD 3 0 (IY aa (Z.a 1) (Z.a 2) (p0.2 _ ‹_›)) Z fun ae af ag ah w Z=>RG.Kr (k:=1) 0 a.length i (i:Int) Z<|RG.Sr 0 i xs aa hs (⟨Shp.cells aa ([(ae,af),(ag,ah)]:List (Option Addr × Nat)),AA⟩:Hd 1) Z fun w Z=>?_
  have Z:=Z.eS 0 0 [2,2,2] i xs hs (⟨Shp.cells aa ([(ae,af),(ag,ah)]:List (Option Addr × Nat)),AA⟩:Hd 1) aa ([(ae,af),(ag,ah)]:List (Option Addr × Nat))
  refine .d<|.ib 1<|.g<|.r 1<|.it ((i:Int)+1)<|.r 1<|.d ?_
  have Z:=Z.sM 0 0 [0] [.e (xs.set i aa) (hs.set i (⟨Shp.cells aa ([(ae,af),(ag,ah)]:List (Option Addr × Nat)),AA⟩:Hd 1))]
  exact ac (i+1,(xs.set i aa),(hs.set i (⟨Shp.cells aa ([(ae,af),(ag,ah)]:List (Option Addr × Nat)),AA⟩:Hd 1))) _ _ AA (Z.to 0 [0] 9) ⟨AB,(by (simp; omega)),(by exact FA ‹_› ‹_› ‹_›)⟩ (by (simp only []; omega))
 refine .d<|.cf<|.x 0 rfl<|.s<|.g<|.r 2<|.d ?_
 obtain rfl:a=xs:=Gf ‹_› ‹_› AB
 exact T.Rt func95 results95 ⟨(Z.eL 0 0 0 [0] a hs).rA 1 [0] a (some ⟨ai,0,none⟩) a.length AF,(Z.eL 0 0 0 [0] a hs).xt⟩
theorem Mm (a:Idx) (h1:RepS w F a1 n1 c1 a.names) (h2:RepS w F a2 n2 c2 a.AX) (p0:IxL a):Calls Tryz.prog 94 [.agg #[.slice a1 n1 c1,.slice a2 n2 c2]].toArray w (Af fun rv w'=>VD w.heap.size w' (a:Idx) rv∧Ext w w'):=by
 cases h1.len
 cases h2.len
 refine goT func94 ?_
 have Z:=((St.i0 F w).p h1).p h2
 have Z:=Z.s0 0
 exact .s<|.g<|RG.Np Z fun ah w Z=>RG.Np Z fun ai w Z=>.d<|.s<|.g<|RG.Np Z fun aj w Z=>.d<|.s<|.g<|.r 1<|RG.Lb 2 Z<|RG.DA 0 0 (Hk a.names (Z.a 2) p0.1) Z fun aa ab w Z=>.r 1<|RG.Ss 0 Z fun w Z=>.d<|.s<|.g<|.r 1<|RG.Lb 2 Z<|RG.DA 0 0 (Mj a.AX (Z.a 3) p0.2) Z fun ac ae w Z=>.r 1<|RG.Ss 0 Z fun w Z=>.d<|.s<|.g<|RG.Ln 0 Z<|RG.Ss 1 Z fun w Z=>.d<|T.Rb 1 func94 results94 Z ⟨Z.rD 0 [0,1] a [(aa,ab),(ac,ae)] rfl,Z.xt⟩
theorem Mn (a:Sto) (h1:RepS w F a1 n1 c1 a.idx.names) (h2:RepS w F a2 n2 c2 a.idx.AX) (h3:RepS w F a3 n3 c3 a.parts) (h4:RepS w F a4 n4 c4 a.mem) (p0:StL a):Calls Tryz.prog 38 [.agg #[.slice a1 n1 c1,.slice a2 n2 c2,.slice a3 n3 c3,.slice a4 n4 c4]].toArray w (Af fun rv w'=>VD w.heap.size w' (a:Sto) rv∧Ext w w'):=by
 cases h1.len
 cases h2.len
 cases h3.len
 cases h4.len
 refine goT func38 ?_
 have Z:=((((St.i0 F w).p h1).p h2).p h3).p h4
 have Z:=Z.s0 0
 exact .s<|.g<|RG.Np Z fun aq w Z=>RG.Np Z fun ar w Z=>.d<|.s<|.g<|RG.Np Z fun ax w Z=>.d<|.s<|.g<|.r 1<|RG.Ln 2 Z<|RG.DD 0 0 (Mm a.idx (Z.a 4) (Z.a 3) p0.1) Z fun aa ab ac ae w Z=>.r 1<|RG.Ss 0 Z fun w Z=>.d<|.s<|.g<|.r 1<|RG.Lb 2 Z<|RG.DA 0 0 (Ml a.parts (Z.a 5) p0.2.1) Z fun af ag w Z=>.r 1<|RG.Ss 0 Z fun w Z=>.d<|.s<|.g<|.r 1<|RG.Lb 2 Z<|RG.DA 0 0 (KQ a.mem (Z.a 6) p0.2.2) Z fun ah ai w Z=>.r 1<|RG.Ss 0 Z fun w Z=>.d<|.s<|.g<|RG.Ln 0 Z<|RG.Ss 1 Z fun w Z=>.d<|T.Rb 1 func38 results38 Z ⟨Z.rD 0 [0,1,3,3] a [(aa,ab),(ac,ae),(af,ag),(ah,ai)] rfl,Z.xt⟩
theorem NI (a:Fil) (h1:RepS w F a1 n1 c1 a.part.ids) (h2:RepS w F a2 n2 c2 a.part.blocks) (p0:PtL a.part):Calls Tryz.prog 156 [.agg #[.int .i64 a.num,.slice a1 n1 c1,.slice a2 n2 c2]].toArray w (Af fun rv w'=>VD w.heap.size w' (a:Fil) rv∧Ext w w'):=by
 cases h1.len
 cases h2.len
 refine goT func156 ?_
 have Z:=((St.i0 F w).p h1).p h2
 have Z:=Z.s0 0
 exact .s<|.g<|RG.Np Z fun ah w Z=>RG.Np Z fun ai w Z=>.d<|.s<|.g<|RG.Np Z fun aj w Z=>.d<|.s<|.g<|.r 1<|RG.Lb 2 Z<|.r 1<|RG.Ss 0 Z fun w Z=>.d<|.s<|.g<|.r 1<|RG.Ln 2 Z<|RG.DD 0 0 (IY a.part (Z.a 2) (Z.a 1) p0) Z fun aa ab ac ae w Z=>.r 1<|RG.Ss 0 Z fun w Z=>.d<|.s<|.g<|RG.Ln 0 Z<|RG.Ss 1 Z fun w Z=>.d<|T.Rb 1 func156 results156 Z ⟨Z.rD 0 [1,1] a [(aa,ab),(ac,ae)] rfl,Z.xt⟩
theorem Mo (a:List Fil) (h1:RepS w F a1 n1 c1 a) (p0:X5 a):Calls Tryz.prog 97 [.slice a1 n1 c1].toArray w (Af fun rv w'=>VA w.heap.size w' (a:List Fil) rv∧Ext w w'):=by
 cases h1.len
 refine goT func97 ?_
 have Z:=(St.i0 F w).p h1
 have am:=h1.max
 have Z:=Z.s0 0
 refine .s<|.g<|.r 1<|.d<|.s<|.g<|.r 2<|RG.Mr (hb:=(by (have q1:=p0.1; omega))) 0 0 2 (⟨(0:Int),(⟨([]:List Int),([]:List (List Row))⟩:Prt)⟩:Fil) a.length (fun _ _=>(fc (RepS.Bv _ _ none 0 AE) (fc (RepS.Bv _ _ none 0 AE) fn_))) (fun _ _=>Lf.mk_ (x:=(⟨(0:Int),(⟨([]:List Int),([]:List (List Row))⟩:Prt)⟩:Fil)) [(none,0),(none,0)] rfl (itN (itN trivial))) AA Z fun ai w Z=>.r 1<|.d<|.s<|.s<|.g<|.r 1<|.d<|.b 0<|T.Lp ((0:Nat),(List.replicate a.length (⟨(0:Int),(⟨([]:List Int),([]:List (List Row))⟩:Prt)⟩:Fil)),(List.replicate a.length (⟨Shp.cells (⟨(0:Int),(⟨([]:List Int),([]:List (List Row))⟩:Prt)⟩:Fil) [],AA⟩:Hd 2))) (fun (i,xs,hs)=>([(0,.slice a1 a.length c1),(3,vS ai a.length a.length),(4,vI (i:Int))],[(0,.raw 0 ai 148 a.length xs hs)],[⟨0,none,.sep [.e xs hs]⟩],a.length - i,(i≤a.length)∧(xs.length=a.length)∧(xs.take i=a.take i))) [0] Z ⟨AB,AD,AD⟩ ?_
 rintro ⟨i,xs,hs⟩ ay w Z ⟨ao,aq,ar⟩ ac
 refine .s<|.s<|.g<|.r 3<|.bp ((i:Int)< (a.length:Int)) (fun aj=>?_) (fun aj=>?_)
 ·refine .d<|.ct<|.sk<|.s<|.b 1<|.g<|.r 4<|gx a i fun aa ab=>?_
  have ak:=AV ab
  refine RG.Ix 3 ab Z<|Z.el 3 ab fun az aA aB aC Z=>RG.Lg 0 0 Z<|RG.DD 3 0 (NI aa (Z.a 1) (Z.a 2) (p0.2 _ ‹_›)) Z fun ae af ag ah w Z=>RG.Kr (k:=2) 0 a.length i (i:Int) Z<|RG.Sr 0 i xs aa hs (⟨Shp.cells aa ([(ae,af),(ag,ah)]:List (Option Addr × Nat)),AA⟩:Hd 2) Z fun w Z=>?_
  have Z:=Z.eS 0 0 [2,2,2] i xs hs (⟨Shp.cells aa ([(ae,af),(ag,ah)]:List (Option Addr × Nat)),AA⟩:Hd 2) aa ([(ae,af),(ag,ah)]:List (Option Addr × Nat))
  refine .d<|.ib 1<|.g<|.r 1<|.it ((i:Int)+1)<|.r 1<|.d ?_
  have Z:=Z.sM 0 0 [0] [.e (xs.set i aa) (hs.set i (⟨Shp.cells aa ([(ae,af),(ag,ah)]:List (Option Addr × Nat)),AA⟩:Hd 2))]
  exact ac (i+1,(xs.set i aa),(hs.set i (⟨Shp.cells aa ([(ae,af),(ag,ah)]:List (Option Addr × Nat)),AA⟩:Hd 2))) _ _ AA (Z.to 0 [0] 9) ⟨AB,(by (simp; omega)),(by exact FA ‹_› ‹_› ‹_›)⟩ (by (simp only []; omega))
 refine .d<|.cf<|.x 0 rfl<|.s<|.g<|.r 2<|.d ?_
 obtain rfl:a=xs:=Gf ‹_› ‹_› AB
 exact T.Rt func97 results97 ⟨(Z.eL 0 0 0 [0] a hs).rA 1 [0] a (some ⟨ai,0,none⟩) a.length AF,(Z.eL 0 0 0 [0] a hs).xt⟩
theorem NJ (a:Dsk) (h1:RepS w F a1 n1 c1 a.files) (h2:RepS w F a2 n2 c2 a.list) (h3:RepS w F a3 n3 c3 a.names) (p0:DkL a):Calls Tryz.prog 39 [.agg #[.slice a1 n1 c1,.slice a2 n2 c2,.slice a3 n3 c3,.int .i64 a.next]].toArray w (Af fun rv w'=>VD w.heap.size w' (a:Dsk) rv∧Ext w w'):=by
 cases h1.len
 cases h2.len
 cases h3.len
 refine goT func39 ?_
 have Z:=(((St.i0 F w).p h1).p h2).p h3
 have Z:=Z.s0 0
 exact .s<|.g<|RG.Np Z fun ak w Z=>RG.Np Z fun am w Z=>.d<|.s<|.g<|RG.Np Z fun ao w Z=>.d<|.s<|.g<|.r 1<|RG.Lb 2 Z<|RG.DA 0 0 (Mo a.files (Z.a 3) p0.1) Z fun aa ab w Z=>.r 1<|RG.Ss 0 Z fun w Z=>.d<|.s<|.g<|.r 1<|RG.Lb 2 Z<|RG.DA 0 0 (F0 a.list (Z.a 4) p0.2.1) Z fun ac ae w Z=>.r 1<|RG.Ss 0 Z fun w Z=>.d<|.s<|.g<|.r 1<|RG.Lb 2 Z<|RG.DA 0 0 (Hk a.names (Z.a 5) p0.2.2) Z fun af ag w Z=>.r 1<|RG.Ss 0 Z fun w Z=>.d<|.s<|.g<|.r 1<|RG.Lb 2 Z<|.r 1<|RG.Ss 0 Z fun w Z=>.d<|.s<|.g<|RG.Ln 0 Z<|RG.Ss 1 Z fun w Z=>.d<|T.Rb 1 func39 results39 Z ⟨Z.rD 0 [0,1,2] a [(aa,ab),(ac,ae),(af,ag)] rfl,Z.xt⟩
theorem Mp (a:Wld) (h1:RepS w F a1 n1 c1 a.store.idx.names) (h2:RepS w F a2 n2 c2 a.store.idx.AX) (h3:RepS w F a3 n3 c3 a.store.parts) (h4:RepS w F a4 n4 c4 a.store.mem) (h5:RepS w F a5 n5 c5 a.disk.files) (h6:RepS w F a6 n6 c6 a.disk.list) (h7:RepS w F a7 n7 c7 a.disk.names) (p0:WdL a):Calls Tryz.prog 17 [.agg #[.slice a1 n1 c1,.slice a2 n2 c2,.slice a3 n3 c3,.slice a4 n4 c4,.slice a5 n5 c5,.slice a6 n6 c6,.slice a7 n7 c7,.int .i64 a.disk.next]].toArray w (Af fun rv w'=>VD w.heap.size w' (a:Wld) rv∧Ext w w'):=by
 cases h1.len
 cases h2.len
 cases h3.len
 cases h4.len
 cases h5.len
 cases h6.len
 cases h7.len
 refine goT func17 ?_
 have Z:=(((((((St.i0 F w).p h1).p h2).p h3).p h4).p h5).p h6).p h7
 have Z:=Z.s0 0
 exact .s<|.g<|RG.Np Z fun aE w Z=>RG.Np Z fun aF w Z=>.d<|.s<|.g<|RG.Np Z fun aG w Z=>.d<|.s<|.g<|.r 1<|RG.Ln 2 Z<|RG.DD 0 0 (Mn a.store (Z.a 7) (Z.a 6) (Z.a 5) (Z.a 4) p0.1) Z fun aa ab ac ae af ag ah ai w Z=>.r 1<|RG.Ss 0 Z fun w Z=>.d<|.s<|.g<|.r 1<|RG.Ln 2 Z<|RG.DD 0 0 (NJ a.disk (Z.a 8) (Z.a 7) (Z.a 6) p0.2) Z fun aj ak am ao aq ar w Z=>.r 1<|RG.Ss 0 Z fun w Z=>.d<|.s<|.g<|RG.Ln 0 Z<|RG.Ss 1 Z fun w Z=>.d<|T.Rb 1 func17 results17 Z ⟨Z.rD 0 [2,2,2,6,6,6,6] a [(aa,ab),(ac,ae),(af,ag),(ah,ai),(aj,ak),(am,ao),(aq,ar)] rfl,Z.xt⟩
theorem Mq (a:Evt) (h1:RepS w F a1 n1 c1 a.name) (p0:a.name.length≤1100000):Calls Tryz.prog 18 [.agg #[.int .i64 a.kind,.int .i64 a.at_,.int .i64 a.cut,.slice a1 n1 c1,.int .i64 a.row.t,.int .i64 a.row.v]].toArray w (Af fun rv w'=>VD w.heap.size w' (a:Evt) rv∧Ext w w'):=by
 cases h1.len
 refine goT func18 ?_
 have Z:=(St.i0 F w).p h1
 have Z:=Z.s0 0
 exact .s<|.g<|RG.Np Z fun ae w Z=>RG.Np Z fun af w Z=>.d<|.s<|.g<|RG.Np Z fun ag w Z=>.d<|.s<|.g<|.r 1<|RG.Lb 2 Z<|.r 1<|RG.Ss 0 Z fun w Z=>.d<|.s<|.g<|.r 1<|RG.Lb 2 Z<|.r 1<|RG.Ss 0 Z fun w Z=>.d<|.s<|.g<|.r 1<|RG.Lb 2 Z<|.r 1<|RG.Ss 0 Z fun w Z=>.d<|.s<|.g<|.r 1<|RG.Lb 2 Z<|RG.DA 0 0 (IW a.name (Z.a 1) p0) Z fun aa ab w Z=>.r 1<|RG.Ss 0 Z fun w Z=>.d<|.s<|.g<|.r 1<|RG.Ln 2 Z<|RG.CS (Gg a.row (F:=all)) Z fun  w Z=>.r 1<|RG.Ss 0 Z fun w Z=>.d<|.s<|.g<|RG.Ln 0 Z<|RG.Ss 1 Z fun w Z=>.d<|T.Rb 1 func18 results18 Z ⟨Z.rD 0 [0] a [(aa,ab)] rfl,Z.xt⟩
end Go.Proofs.YtcginoabkicdiaaGreat
namespace Go.Proofs.YtcginoabkicdiaaGreat
set_option maxRecDepth 100000
set_option maxHeartbeats 4000000
variable {w:World} {F:Nat→Prop}
theorem Bx (k:Int){F:Nat→Prop}  (p0:k≤9223372036854775807):Calls Tryz.prog 73 [.int .i64 k].toArray w (Af fun rv w'=>rv=.string (bs (mtx k))∧Ext w w'):=by
 refine goT func73 ?_
 have Z:=St.i0 F w
 refine .s<|.g<|.r 1<|.d<|.s<|.s<|.g<|.r 1<|.bp (k≤0) (fun af=>.d<|.ct<|.s<|.g<|.r 1<|.d<|T.rt func73 results73 (.string (bs [109,48])) ⟨(congrArg (fun s=>Value.string (bs s)) (by (unfold mtx; rw [if_pos ‹_›]))),Z.xt⟩) fun af=>.d<|.cf<|.sk<|.s<|.g<|.r 1<|.d<|.s<|.b 0<|T.Lp (k,[]) (fun (k1,out)=>([(0,vI k1),(3,vT out)],[],[],k1.toNat,(0≤k1)∧(k1≤9223372036854775807)∧(Fv k1.toNat++out=Fv k.toNat))) [] Z ⟨AB,AB,AD⟩ ?_
 rintro ⟨k1,out⟩ ao w Z ⟨aj,ak,am⟩ ac
 refine .s<|.s<|.g<|.r 1<|.bp (k1 > 0) (fun ag=>?_) (fun ag=>.d<|.cf<|.x 0 rfl<|.s<|.g<|.r 1<|RG.cat (t:=9) (s:=[109]) (u:=out) AA (by have q1:=PW p0; have q2:=congrArg List.length (by assumption:Fv k1.toNat++out=Fv k.toNat); rw [List.length_append] at q2; simp only [List.length_cons,List.length_nil]; omega)<|.r 1<|.d<|T.rt func73 results73 (.string (bs ([109]++out))) ⟨(congrArg (fun s=>Value.string (bs s)) (by exact X6 ‹_› ‹_› ‹_›)),Z.xt⟩)
 refine .d<|.ct<|.sk<|.b 1<|.s<|.g<|.r 2<|RG.int (48+(Int.tmod k1 10)) AA (by have q1:=Ql (z:=k1) AB; omega) ?_
 obtain ⟨ab,ah⟩:∃ y:UInt8,(y.toNat:Int)=48+(Int.tmod k1 10):=Rw (by have q1:=Ql (z:=k1) AB; omega)
 exact RG.eqv (v:=.int .u8 (ab.toNat:Int)) (v':=.int .u8 (IntKind.u8.wrap (48+(Int.tmod k1 10)))) AA (Ny ah)<|RG.Nl 0 ([ab]:List UInt8) [] Z fun aq w Z=>RG.b2s (s:=180) (d:=9) (y:=ab) (Z.ow 0 ([ab]:List UInt8) AA).1 AA AA<|.r 1<|RG.cat (t:=9) (s:=[ab]) (u:=out) AA (by have q1:=PW p0; have q2:=congrArg List.length (by assumption:Fv k1.toNat++out=Fv k.toNat); rw [List.length_append] at q2; simp only [List.length_cons,List.length_nil]; omega)<|.r 1<|.d<|.g<|.r 1<|RG.quo (t:=3) (a:=k1) (b:=10) AA AB (by have q1:=Ql (z:=k1) AB; omega)<|.r 1<|.d<|.ib 1<|ac ((Int.tdiv k1 10),([ab]++out)) _ _ AA (Z.to 1 [] 0) ⟨(by have q1:=Ql (z:=k1) AB; omega),(by have q1:=Ql (z:=k1) AB; omega),(by exact V6 ‹_› ‹_› ‹_›)⟩ (by simp only []; have q1:=Ql (z:=k1) AB; omega)
end Go.Proofs.YtcginoabkicdiaaGreat
namespace Go.Proofs.YtcginoabkicdiaaGreat
set_option maxRecDepth 100000
set_option maxHeartbeats 4000000
theorem Ms:MkL Tryz.prog 29 Fw CJ:=by
 intro w D a c xs k hh hk hb
 have hm:=hh.rep.max
 refine goT func29 ?_
 refine .s<|.g<|.r 1<|.d<|.s<|.s<|.g<|.r 1<|.d<|.b 0<|T.mL (MkI.init (M:=Fw) (z:=CJ) (k:=k) hh) ?_
 intro i k1 ys e w hI E
 refine .s<|.s<|.g<|.r 3<|.bp ((i:Int)< (xs.length:Int)) (fun af=>?_) (fun af=>?_)
 ·obtain ⟨x,hx,_,hd⟩:=hI.at AB
  have ⟨b1,b2,b3⟩:=hI.bd Il hd
  have hz:CJ x=2:=rfl
  refine hI.dp.hole hx (fun G=>?_)
  have X:=Chg.refl D w
  refine .d<|.ct<|.sk<|.s<|.b 1<|.s<|.g<|.r 3<|RG.mt G (Bx (F:=all) k1 AB) fun w G X1=>?_
  have X:=X.trans X1
  refine RG.mi G<|.r 1<|RG.ms G 0 (vT (mtx k1)) (⟨(mtx k1),x.val⟩:Tag) fun w G X1=>?_
  have X:=X.trans X1
  refine .d<|.s<|.g<|.r 1<|.it (k1+1)<|.r 1<|.d<|.s<|.g<|.r 3<|RG.mt G (Bx (F:=all) (k1+1) AB) fun w G X1=>?_
  have X:=X.trans X1
  refine RG.mi G<|.r 1<|RG.ms G 1 (vT (mtx (k1+1))) (⟨(mtx k1),(mtx (k1+1))⟩:Tag) fun w G X1=>?_
  have X:=X.trans X1
  refine .d<|.g<|.r 1<|.it ((k1+1)+1)<|.r 1<|.d<|.ib 1<|.g<|.r 1<|.it ((i:Int)+1)<|.r 1<|.d<|?_
  exact E (i+1) ((k1+1)+1) _ _ _ AA (hI.step hd G X ⟨rfl,rfl⟩ (by show 2=2; omega) AB) (Nat.lt_succ_self _)
 ·obtain ⟨q1,q2,q3⟩:=hI.end_ AB
  exact .d<|.cf<|.x 0 rfl<|.s<|.g<|.r 2<|.d<|T.rt func29 results29 (vI k1) ⟨congrArg vI q1,q2,q3⟩
theorem Gi:MkL Tryz.prog 78 JH BQ:=by
 intro w D a c xs k hh hk hb
 have hm:=hh.rep.max
 refine goT func78 ?_
 refine .s<|.g<|.r 1<|.d<|.s<|.s<|.g<|.r 1<|.d<|.b 0<|T.mL (MkI.init (M:=JH) (z:=BQ) (k:=k) hh) ?_
 intro i k1 ys e w hI E
 refine .s<|.s<|.g<|.r 3<|.bp ((i:Int)< (xs.length:Int)) (fun af=>?_) (fun af=>?_)
 ·obtain ⟨x,hx,_,hd⟩:=hI.at AB
  have ⟨b1,b2,b3⟩:=hI.bd Bs hd
  have hz:BQ x=1:=rfl
  refine hI.dp.hole hx (fun G=>?_)
  have X:=Chg.refl D w
  refine .d<|.ct<|.sk<|.s<|.b 1<|.s<|.g<|.r 3<|RG.mi G<|RG.ms G 0 (vI k1) (k1:Int) fun w G X1=>?_
  have X:=X.trans X1
  refine .d<|.g<|.r 1<|.it (k1+1)<|.r 1<|.d<|.ib 1<|.g<|.r 1<|.it ((i:Int)+1)<|.r 1<|.d<|?_
  exact E (i+1) (k1+1) _ _ _ AA (hI.step hd G X rfl (by show 1=1; omega) AB) (Nat.lt_succ_self _)
 ·obtain ⟨q1,q2,q3⟩:=hI.end_ AB
  exact .d<|.cf<|.x 0 rfl<|.s<|.g<|.r 2<|.d<|T.rt func78 results78 (vI k1) ⟨congrArg vI q1,q2,q3⟩
theorem Q7:MkL Tryz.prog 191 Ik Cq:=by
 intro w D a c xs k hh hk hb
 have hm:=hh.rep.max
 refine goT func191 ?_
 refine .s<|.g<|.r 1<|.d<|.s<|.s<|.g<|.r 1<|.d<|.b 0<|T.mL (MkI.init (M:=Ik) (z:=Cq) (k:=k) hh) ?_
 intro i k1 ys e w hI E
 refine .s<|.s<|.g<|.r 3<|.bp ((i:Int)< (xs.length:Int)) (fun af=>?_) (fun af=>?_)
 ·obtain ⟨x,hx,_,hd⟩:=hI.at AB
  have ⟨b1,b2,b3⟩:=hI.bd OY hd
  have hz:Cq x=2:=rfl
  refine hI.dp.hole hx (fun G=>?_)
  have X:=Chg.refl D w
  refine .d<|.ct<|.sk<|.s<|.b 1<|.s<|.g<|.r 3<|RG.mi G<|.r 1<|RG.ms G 0 (vI k1) (⟨k1,x.v⟩:Row) fun w G X1=>?_
  have X:=X.trans X1
  refine .d<|.s<|.g<|.r 1<|.it (k1+1)<|.r 1<|.d<|.s<|.g<|.r 3<|RG.mi G<|.r 1<|RG.ms G 1 (vI (k1+1)) (⟨k1,(k1+1)⟩:Row) fun w G X1=>?_
  have X:=X.trans X1
  refine .d<|.g<|.r 1<|.it ((k1+1)+1)<|.r 1<|.d<|.ib 1<|.g<|.r 1<|.it ((i:Int)+1)<|.r 1<|.d<|?_
  exact E (i+1) ((k1+1)+1) _ _ _ AA (hI.step hd G X ⟨rfl,rfl⟩ (by show 2=2; omega) AB) (Nat.lt_succ_self _)
 ·obtain ⟨q1,q2,q3⟩:=hI.end_ AB
  exact .d<|.cf<|.x 0 rfl<|.s<|.g<|.r 2<|.d<|T.rt func191 results191 (vI k1) ⟨congrArg vI q1,q2,q3⟩
theorem NK:MkL Tryz.prog 76 Gz CW:=by
 intro w D a c xs k hh hk hb
 have hm:=hh.rep.max
 refine goT func76 ?_
 refine .s<|.g<|.r 1<|.d<|.s<|.s<|.g<|.r 1<|.d<|.b 0<|T.mL (MkI.init (M:=Gz) (z:=CW) (k:=k) hh) ?_
 intro i k1 ys e w hI E
 refine .s<|.s<|.g<|.r 3<|.bp ((i:Int)< (xs.length:Int)) (fun af=>?_) (fun af=>?_)
 ·obtain ⟨x,hx,_,hd⟩:=hI.at AB
  have ⟨b1,b2,b3⟩:=hI.bd Du hd
  have hz:CW x=3:=rfl
  refine hI.dp.hole hx (fun G=>?_)
  have X:=Chg.refl D w
  refine .d<|.ct<|.sk<|.s<|.b 1<|.s<|.g<|.r 3<|RG.mi G<|.r 1<|RG.ms G 0 (vI k1) (⟨k1,⟨x.row.t,x.row.v⟩⟩:Smp) fun w G X1=>?_
  have X:=X.trans X1
  refine .d<|.s<|.g<|.r 1<|.it (k1+1)<|.r 1<|.d<|.s<|.g<|.r 3<|RG.mi G<|.r 2<|RG.ms G 1 (vI (k1+1)) (⟨k1,⟨(k1+1),x.row.v⟩⟩:Smp) fun w G X1=>?_
  have X:=X.trans X1
  refine .d<|.s<|.g<|.r 1<|.it ((k1+1)+1)<|.r 1<|.d<|.s<|.g<|.r 3<|RG.mi G<|.r 2<|RG.ms G 2 (vI ((k1+1)+1)) (⟨k1,⟨(k1+1),((k1+1)+1)⟩⟩:Smp) fun w G X1=>?_
  have X:=X.trans X1
  refine .d<|.g<|.r 1<|.it (((k1+1)+1)+1)<|.r 1<|.d<|.ib 1<|.g<|.r 1<|.it ((i:Int)+1)<|.r 1<|.d<|?_
  exact E (i+1) (((k1+1)+1)+1) _ _ _ AA (hI.step hd G X ⟨rfl,rfl,(by show k1+1+1=k1+2; omega)⟩ (by show 3=3; omega) AB) (Nat.lt_succ_self _)
 ·obtain ⟨q1,q2,q3⟩:=hI.end_ AB
  exact .d<|.cf<|.x 0 rfl<|.s<|.g<|.r 2<|.d<|T.rt func76 results76 (vI k1) ⟨congrArg vI q1,q2,q3⟩
theorem Kf:MkL Tryz.prog 79 nmM nmZ:=by
 intro w D a c xs k hh hk hb
 have hm:=hh.rep.max
 refine goT func79 ?_
 refine .s<|.g<|.r 1<|.d<|.s<|.s<|.g<|.r 1<|.d<|.b 0<|T.mL (MkI.init (M:=nmM) (z:=nmZ) (k:=k) hh) ?_
 intro i k1 ys e w hI E
 refine .s<|.s<|.g<|.r 3<|.bp ((i:Int)< (xs.length:Int)) (fun af=>?_) (fun af=>?_)
 ·obtain ⟨x,hx,_,hd⟩:=hI.at AB
  have ⟨b1,b2,b3⟩:=hI.bd Ce hd
  have hz:nmZ x=(lsZ CJ x):=rfl
  refine hI.dp.hole hx (fun a0 c0 G=>?_)
  have X:=Chg.refl D w
  refine .d<|.ct<|.sk<|.s<|.b 1<|.g<|.r 2<|RG.mi G<|RG.ml G 0<|.r 1<|RG.mc G Ms [] [] a0 c0 x k1 (fun vs=>(vs:List Tag)) AB AB (fun w v1 G X1 m1 z1=>?_) (hc:=fun _=>Tr)
  have X:=X.trans X1
  refine .r 1<|.d<|.ib 1<|.g<|.r 1<|.it ((i:Int)+1)<|.r 1<|.d<|?_
  exact E (i+1) (k1+lsZ CJ x) _ _ _ AA (hI.step hd G X m1 (by show (lsZ CJ v1)=(lsZ CJ x); omega) AB) (Nat.lt_succ_self _)
 ·obtain ⟨q1,q2,q3⟩:=hI.end_ AB
  exact .d<|.cf<|.x 0 rfl<|.s<|.g<|.r 2<|.d<|T.rt func79 results79 (vI k1) ⟨congrArg vI q1,q2,q3⟩
theorem Kg:MkL Tryz.prog 141 blM blZ:=by
 intro w D a c xs k hh hk hb
 have hm:=hh.rep.max
 refine goT func141 ?_
 refine .s<|.g<|.r 1<|.d<|.s<|.s<|.g<|.r 1<|.d<|.b 0<|T.mL (MkI.init (M:=blM) (z:=blZ) (k:=k) hh) ?_
 intro i k1 ys e w hI E
 refine .s<|.s<|.g<|.r 3<|.bp ((i:Int)< (xs.length:Int)) (fun af=>?_) (fun af=>?_)
 ·obtain ⟨x,hx,_,hd⟩:=hI.at AB
  have ⟨b1,b2,b3⟩:=hI.bd EM hd
  have hz:blZ x=(lsZ Cq x):=rfl
  refine hI.dp.hole hx (fun a0 c0 G=>?_)
  have X:=Chg.refl D w
  refine .d<|.ct<|.sk<|.s<|.b 1<|.g<|.r 2<|RG.mi G<|RG.ml G 0<|.r 1<|RG.mc G Q7 [] [] a0 c0 x k1 (fun vs=>(vs:List Row)) AB AB (fun w v1 G X1 m1 z1=>?_) (hc:=fun _=>Tr)
  have X:=X.trans X1
  refine .r 1<|.d<|.ib 1<|.g<|.r 1<|.it ((i:Int)+1)<|.r 1<|.d<|?_
  exact E (i+1) (k1+lsZ Cq x) _ _ _ AA (hI.step hd G X m1 (by show (lsZ Cq v1)=(lsZ Cq x); omega) AB) (Nat.lt_succ_self _)
 ·obtain ⟨q1,q2,q3⟩:=hI.end_ AB
  exact .d<|.cf<|.x 0 rfl<|.s<|.g<|.r 2<|.d<|T.rt func141 results141 (vI k1) ⟨congrArg vI q1,q2,q3⟩
theorem QC:MkL Tryz.prog 140 GF CA:=by
 intro w D a c xs k hh hk hb
 have hm:=hh.rep.max
 refine goT func140 ?_
 refine .s<|.g<|.r 1<|.d<|.s<|.s<|.g<|.r 1<|.d<|.b 0<|T.mL (MkI.init (M:=GF) (z:=CA) (k:=k) hh) ?_
 intro i k1 ys e w hI E
 refine .s<|.s<|.g<|.r 3<|.bp ((i:Int)< (xs.length:Int)) (fun af=>?_) (fun af=>?_)
 ·obtain ⟨x,hx,_,hd⟩:=hI.at AB
  have ⟨b1,b2,b3⟩:=hI.bd EL hd
  have hz:CA x=(2+lsZ BQ x.ids):=rfl
  have p0:=Ac Bs x.ids
  refine hI.dp.hole hx (fun a0 c0 G=>?_)
  have X:=Chg.refl D w
  refine .d<|.ct<|.sk<|.s<|.b 1<|.s<|.g<|.r 3<|RG.mt G (Bx (F:=all) k1 AB) fun w G X1=>?_
  have X:=X.trans X1
  refine RG.mi G<|.r 2<|RG.ms G 0 (vT (mtx k1)) (⟨⟨(mtx k1),x.tag.val⟩,x.ids⟩:Pst) fun w G X1=>?_
  have X:=X.trans X1
  refine .d<|.s<|.g<|.r 1<|.it (k1+1)<|.r 1<|.d<|.s<|.g<|.r 3<|RG.mt G (Bx (F:=all) (k1+1) AB) fun w G X1=>?_
  have X:=X.trans X1
  refine RG.mi G<|.r 2<|RG.ms G 1 (vT (mtx (k1+1))) (⟨⟨(mtx k1),(mtx (k1+1))⟩,x.ids⟩:Pst) fun w G X1=>?_
  have X:=X.trans X1
  refine .d<|.s<|.g<|.r 1<|.it ((k1+1)+1)<|.r 1<|.d<|.g<|.r 2<|RG.mi G<|.r 1<|RG.ml G 2<|.r 1<|RG.mc G Gi [] [] a0 c0 x.ids ((k1+1)+1) (fun vs=>(⟨⟨(mtx k1),(mtx (k1+1))⟩,vs⟩:Pst)) AB AB (fun w v1 G X1 m1 z1=>?_) (hc:=fun _=>YB)
  have X:=X.trans X1
  refine .r 1<|.d<|.ib 1<|.g<|.r 1<|.it ((i:Int)+1)<|.r 1<|.d<|?_
  exact E (i+1) (((k1+1)+1)+lsZ BQ x.ids) _ _ _ AA (hI.step hd G X ⟨⟨rfl,rfl⟩,EY m1 AB⟩ (by show (2+lsZ BQ v1)=(2+lsZ BQ x.ids); omega) AB) (Nat.lt_succ_self _)
 ·obtain ⟨q1,q2,q3⟩:=hI.end_ AB
  exact .d<|.cf<|.x 0 rfl<|.s<|.g<|.r 2<|.d<|T.rt func140 results140 (vI k1) ⟨congrArg vI q1,q2,q3⟩
theorem QD:MkL Tryz.prog 75 IF Bm:=by
 intro w D a c xs k hh hk hb
 have hm:=hh.rep.max
 refine goT func75 ?_
 refine .s<|.g<|.r 1<|.d<|.s<|.s<|.g<|.r 1<|.d<|.b 0<|T.mL (MkI.init (M:=IF) (z:=Bm) (k:=k) hh) ?_
 intro i k1 ys e w hI E
 refine .s<|.s<|.g<|.r 3<|.bp ((i:Int)< (xs.length:Int)) (fun af=>?_) (fun af=>?_)
 ·obtain ⟨x,hx,_,hd⟩:=hI.at AB
  have ⟨b1,b2,b3⟩:=hI.bd Dv hd
  have hz:Bm x=(lsZ BQ x.ids+lsZ blZ x.blocks):=rfl
  have p0:=Ac Bs x.ids
  have p1:=Ac EM x.blocks
  refine hI.dp.hole hx (fun a0 c0  a1 c1 G=>?_)
  have X:=Chg.refl D w
  refine .d<|.ct<|.sk<|.s<|.b 1<|.s<|.g<|.r 2<|RG.mi G<|.r 1<|RG.ml G 0<|.r 1<|RG.mc G Gi [] [It.s a1 c1 x.blocks] a0 c0 x.ids k1 (fun vs=>(⟨vs,x.blocks⟩:Prt)) AB AB (fun w v1 G X1 m1 z1=>?_) (hc:=fun _=>V8)
  have X:=X.trans X1
  refine .r 1<|.d<|.g<|.r 2<|RG.mi G<|.r 1<|RG.ml G 1<|.r 1<|RG.mc G Kg [It.s a0 c0 v1] [] a1 c1 x.blocks (k1+lsZ BQ x.ids) (fun vs=>(⟨v1,vs⟩:Prt)) AB AB (fun w v2 G X1 m2 z2=>?_) (hc:=fun _=>V9)
  have X:=X.trans X1
  refine .r 1<|.d<|.ib 1<|.g<|.r 1<|.it ((i:Int)+1)<|.r 1<|.d<|?_
  exact E (i+1) ((k1+lsZ BQ x.ids)+lsZ blZ x.blocks) _ _ _ AA (hI.step hd G X ⟨m1,EY m2 (by show k1+lsZ BQ x.ids=k1+lsZ BQ v1; omega)⟩ (by show (lsZ BQ v1+lsZ blZ v2)=(lsZ BQ x.ids+lsZ blZ x.blocks); omega) AB) (Nat.lt_succ_self _)
 ·obtain ⟨q1,q2,q3⟩:=hI.end_ AB
  exact .d<|.cf<|.x 0 rfl<|.s<|.g<|.r 2<|.d<|T.rt func75 results75 (vI k1) ⟨congrArg vI q1,q2,q3⟩
theorem QE:MkL Tryz.prog 77 G0 Bq:=by
 intro w D a c xs k hh hk hb
 have hm:=hh.rep.max
 refine goT func77 ?_
 refine .s<|.g<|.r 1<|.d<|.s<|.s<|.g<|.r 1<|.d<|.b 0<|T.mL (MkI.init (M:=G0) (z:=Bq) (k:=k) hh) ?_
 intro i k1 ys e w hI E
 refine .s<|.s<|.g<|.r 3<|.bp ((i:Int)< (xs.length:Int)) (fun af=>?_) (fun af=>?_)
 ·obtain ⟨x,hx,_,hd⟩:=hI.at AB
  have ⟨b1,b2,b3⟩:=hI.bd Dw hd
  have hz:Bq x=(1+(lsZ BQ x.part.ids+lsZ blZ x.part.blocks)):=rfl
  have p0:=Ac Bs x.part.ids
  have p1:=Ac EM x.part.blocks
  refine hI.dp.hole hx (fun a0 c0  a1 c1 G=>?_)
  have X:=Chg.refl D w
  refine .d<|.ct<|.sk<|.s<|.b 1<|.s<|.g<|.r 3<|RG.mi G<|.r 1<|RG.ms G 0 (vI k1) (⟨k1,⟨x.part.ids,x.part.blocks⟩⟩:Fil) fun w G X1=>?_
  have X:=X.trans X1
  refine .d<|.s<|.g<|.r 1<|.it (k1+1)<|.r 1<|.d<|.s<|.g<|.r 2<|RG.mi G<|.r 2<|RG.ml G 1<|.r 1<|RG.mc G Gi [] [It.s a1 c1 x.part.blocks] a0 c0 x.part.ids (k1+1) (fun vs=>(⟨k1,⟨vs,x.part.blocks⟩⟩:Fil)) AB AB (fun w v1 G X1 m1 z1=>?_) (hc:=fun _=>WA)
  have X:=X.trans X1
  refine .r 1<|.d<|.g<|.r 2<|RG.mi G<|.r 2<|RG.ml G 2<|.r 1<|RG.mc G Kg [It.s a0 c0 v1] [] a1 c1 x.part.blocks ((k1+1)+lsZ BQ x.part.ids) (fun vs=>(⟨k1,⟨v1,vs⟩⟩:Fil)) AB AB (fun w v2 G X1 m2 z2=>?_) (hc:=fun _=>WB)
  have X:=X.trans X1
  refine .r 1<|.d<|.ib 1<|.g<|.r 1<|.it ((i:Int)+1)<|.r 1<|.d<|?_
  exact E (i+1) (((k1+1)+lsZ BQ x.part.ids)+lsZ blZ x.part.blocks) _ _ _ AA (hI.step hd G X ⟨rfl,m1,EY m2 (by show k1+1+lsZ BQ x.part.ids=k1+1+lsZ BQ v1; omega)⟩ (by show (1+(lsZ BQ v1+lsZ blZ v2))=(1+(lsZ BQ x.part.ids+lsZ blZ x.part.blocks)); omega) AB) (Nat.lt_succ_self _)
 ·obtain ⟨q1,q2,q3⟩:=hI.end_ AB
  exact .d<|.cf<|.x 0 rfl<|.s<|.g<|.r 2<|.d<|T.rt func77 results77 (vI k1) ⟨congrArg vI q1,q2,q3⟩
theorem QF:MkV Tryz.prog 74 X7 DS:=by
 intro w D x l k hl hh hk hb
 obtain ⟨a0,c0,a1,c1,rfl⟩:=l2_ l hl
 have hz:DS x=(lsZ nmZ x.names+lsZ CA x.AX):=rfl
 have p0:=Ac Ce x.names
 have p1:=Ac EL x.AX
 refine goT func74 ?_
 refine .s<|.g<|RG.np 27 (Shp.cells x [(a0,c0),(a1,c1)]) fun b w e1 hx hB _=>?_
 have V:=MV.init hh hx e1 hB
 refine .r 1<|.d<|.s<|.g<|.r 1<|RG.lb V.bx<|.r 1<|RG.vLs V Kf [] [It.s a1 c1 x.AX] a0 c0 x.names k (fun vs=>(⟨vs,x.AX⟩:Idx)) AB AB (fun w v1 V u1 m1 z1=>?_)
 refine .r 1<|.d<|.s<|.g<|.r 1<|RG.lb V.bx<|.r 1<|RG.vLs V QC [It.s a0 c0 v1] [] a1 c1 x.AX (k+lsZ nmZ x.names) (fun vs=>(⟨v1,vs⟩:Idx)) AB AB (fun w v2 V u2 m2 z2=>?_)
 exact .r 1<|.d<|.s<|.g<|.r 2<|.d<|T.rt func74 results74 (vI ((k+lsZ nmZ x.names)+lsZ CA x.AX)) ⟨congrArg vI AB,V.xt.1,(⟨v1,v2⟩:Idx),V.xt.2,(by show [sv _ 0 v1,sv _ 1 v2]=[sv _ 0 x.names,sv _ 1 x.AX]; rw [JJ u1,JJ u2]),⟨m1,EY m2 (by show k+lsZ nmZ x.names=k+lsZ nmZ v1; omega)⟩,(by show (lsZ nmZ v1+lsZ CA v2)=(lsZ nmZ x.names+lsZ CA x.AX); omega)⟩
theorem QG:MkV Tryz.prog 30 X8 Dt:=by
 intro w D x l k hl hh hk hb
 obtain ⟨a0,c0,a1,c1,a2,c2,a3,c3,rfl⟩:=l4_ l hl
 have hz:Dt x=(DS x.idx+lsZ Bm x.parts+lsZ CW x.mem):=rfl
 have p0:=FP x.idx
 have p1:=Ac Dv x.parts
 have p2:=Ac Du x.mem
 refine goT func30 ?_
 refine .s<|.g<|RG.np 31 (Shp.cells x [(a0,c0),(a1,c1),(a2,c2),(a3,c3)]) fun b w e1 hx hB _=>?_
 have V:=MV.init hh hx e1 hB
 refine .r 1<|.d<|.s<|.g<|.r 1<|RG.ln V.bx<|.r 1<|RG.vV V QF [] [It.s a2 c2 x.parts,It.s a3 c3 x.mem] x.idx [(a0,c0),(a1,c1)] k (fun vs=>(⟨vs,x.parts,x.mem⟩:Sto)) rfl AB AB (fun w v1 V u1 m1 z1=>?_)
 refine .r 1<|.d<|.s<|.g<|.r 1<|RG.lb V.bx<|.r 1<|RG.vLs V QD [It.s a0 c0 v1.names,It.s a1 c1 v1.AX] [It.s a3 c3 x.mem] a2 c2 x.parts (k+DS x.idx) (fun vs=>(⟨v1,vs,x.mem⟩:Sto)) AB AB (fun w v2 V u2 m2 z2=>?_)
 refine .r 1<|.d<|.s<|.g<|.r 1<|RG.lb V.bx<|.r 1<|RG.vLs V NK [It.s a0 c0 v1.names,It.s a1 c1 v1.AX,It.s a2 c2 v2] [] a3 c3 x.mem ((k+DS x.idx)+lsZ Bm x.parts) (fun vs=>(⟨v1,v2,vs⟩:Sto)) AB AB (fun w v3 V u3 m3 z3=>?_)
 exact .r 1<|.d<|.s<|.g<|.r 2<|.d<|T.rt func30 results30 (vI (((k+DS x.idx)+lsZ Bm x.parts)+lsZ CW x.mem)) ⟨congrArg vI AB,V.xt.1,(⟨v1,v2,v3⟩:Sto),V.xt.2,(by show Shp.cells v1 [(a0,c0),(a1,c1)]++[sv _ 2 v2,sv _ 3 v3]=Shp.cells x.idx [(a0,c0),(a1,c1)]++[sv _ 2 x.parts,sv _ 3 x.mem]; rw [u1,JJ u2,JJ u3]),⟨m1,EY m2 (by show k+DS x.idx=k+DS v1; omega),EY m3 (by show k+DS x.idx+lsZ Bm x.parts=k+DS v1+lsZ Bm v2; omega)⟩,(by show (DS v1+lsZ Bm v2+lsZ CW v3)=(DS x.idx+lsZ Bm x.parts+lsZ CW x.mem); omega)⟩
theorem Q8:MkV Tryz.prog 31 X9 Et:=by
 intro w D x l k hl hh hk hb
 obtain ⟨a0,c0,a1,c1,a2,c2,rfl⟩:=l3_ l hl
 have hz:Et x=(lsZ Bq x.files+lsZ BQ x.list+lsZ nmZ x.names):=rfl
 have p0:=Ac Dw x.files
 have p1:=Ac Bs x.list
 have p2:=Ac Ce x.names
 refine goT func31 ?_
 refine .s<|.g<|RG.np 35 (Shp.cells x [(a0,c0),(a1,c1),(a2,c2)]) fun b w e1 hx hB _=>?_
 have V:=MV.init hh hx e1 hB
 refine .r 1<|.d<|.s<|.g<|.r 1<|RG.lb V.bx<|.r 1<|RG.vLs V QE [] [It.s a1 c1 x.list,It.s a2 c2 x.names] a0 c0 x.files k (fun vs=>(⟨vs,x.list,x.names,x.next⟩:Dsk)) AB AB (fun w v1 V u1 m1 z1=>?_)
 refine .r 1<|.d<|.s<|.g<|.r 1<|RG.lb V.bx<|.r 1<|RG.vLs V Gi [It.s a0 c0 v1] [It.s a2 c2 x.names] a1 c1 x.list (k+lsZ Bq x.files) (fun vs=>(⟨v1,vs,x.names,x.next⟩:Dsk)) AB AB (fun w v2 V u2 m2 z2=>?_)
 refine .r 1<|.d<|.s<|.g<|.r 1<|RG.lb V.bx<|.r 1<|RG.vLs V Kf [It.s a0 c0 v1,It.s a1 c1 v2] [] a2 c2 x.names ((k+lsZ Bq x.files)+lsZ BQ x.list) (fun vs=>(⟨v1,v2,vs,x.next⟩:Dsk)) AB AB (fun w v3 V u3 m3 z3=>?_)
 exact .r 1<|.d<|.s<|.g<|.r 2<|.d<|T.rt func31 results31 (vI (((k+lsZ Bq x.files)+lsZ BQ x.list)+lsZ nmZ x.names)) ⟨congrArg vI AB,V.xt.1,(⟨v1,v2,v3,x.next⟩:Dsk),V.xt.2,(by show [sv _ 0 v1,sv _ 1 v2,sv _ 2 v3,Value.int .i64 x.next]=[sv _ 0 x.files,sv _ 1 x.list,sv _ 2 x.names,Value.int .i64 x.next]; rw [JJ u1,JJ u2,JJ u3]),⟨m1,EY m2 (by show k+lsZ Bq x.files=k+lsZ Bq v1; omega),EY m3 (by show k+lsZ Bq x.files+lsZ BQ x.list=k+lsZ Bq v1+lsZ BQ v2; omega)⟩,(by show (lsZ Bq v1+lsZ BQ v2+lsZ nmZ v3)=(lsZ Bq x.files+lsZ BQ x.list+lsZ nmZ x.names); omega)⟩
theorem Kh:MkV Tryz.prog 12 YA D8:=by
 intro w D x l k hl hh hk hb
 obtain ⟨a0,c0,a1,c1,a2,c2,a3,c3,a4,c4,a5,c5,a6,c6,rfl⟩:=l7_ l hl
 have hz:D8 x=(Dt x.store+Et x.disk):=rfl
 have p0:=HS x.store
 have p1:=HT x.disk
 refine goT func12 ?_
 refine .s<|.g<|RG.np 37 (Shp.cells x [(a0,c0),(a1,c1),(a2,c2),(a3,c3),(a4,c4),(a5,c5),(a6,c6)]) fun b w e1 hx hB _=>?_
 have V:=MV.init hh hx e1 hB
 refine .r 1<|.d<|.s<|.g<|.r 1<|RG.ln V.bx<|.r 1<|RG.vV V QG [] [It.s a4 c4 x.disk.files,It.s a5 c5 x.disk.list,It.s a6 c6 x.disk.names] x.store [(a0,c0),(a1,c1),(a2,c2),(a3,c3)] k (fun vs=>(⟨vs,x.disk⟩:Wld)) rfl AB AB (fun w v1 V u1 m1 z1=>?_)
 refine .r 1<|.d<|.s<|.g<|.r 1<|RG.ln V.bx<|.r 1<|RG.vV V Q8 [It.s a0 c0 v1.idx.names,It.s a1 c1 v1.idx.AX,It.s a2 c2 v1.parts,It.s a3 c3 v1.mem] [] x.disk [(a4,c4),(a5,c5),(a6,c6)] (k+Dt x.store) (fun vs=>(⟨v1,vs⟩:Wld)) rfl AB AB (fun w v2 V u2 m2 z2=>?_)
 exact .r 1<|.d<|.s<|.g<|.r 2<|.d<|T.rt func12 results12 (vI ((k+Dt x.store)+Et x.disk)) ⟨congrArg vI AB,V.xt.1,(⟨v1,v2⟩:Wld),V.xt.2,(by show Shp.cells v1 [(a0,c0),(a1,c1),(a2,c2),(a3,c3)]++Shp.cells v2 [(a4,c4),(a5,c5),(a6,c6)]=Shp.cells x.store [(a0,c0),(a1,c1),(a2,c2),(a3,c3)]++Shp.cells x.disk [(a4,c4),(a5,c5),(a6,c6)]; rw [u1,u2]),⟨m1,(by have e:k+Dt x.store=k+Dt v1:=AB; exact e▸m2)⟩,(by show (Dt v1+Et v2)=(Dt x.store+Et x.disk); omega)⟩
theorem QH:MkV Tryz.prog 21 evQ evZ:=by
 intro w D x l k hl hh hk hb
 obtain ⟨a0,c0,rfl⟩:=l1_ l hl
 have hz:evZ x=(lsZ CJ x.name):=rfl
 refine goT func21 ?_
 refine .s<|.g<|RG.np 72 (Shp.cells x [(a0,c0)]) fun b w e1 hx hB _=>?_
 have V:=MV.init hh hx e1 hB
 refine .r 1<|.d<|.s<|.g<|.r 1<|RG.lb V.bx<|.r 1<|RG.vLs V Ms [] [] a0 c0 x.name k (fun vs=>(⟨x.kind,x.at_,x.cut,vs,x.row⟩:Evt)) AB AB (fun w v1 V u1 m1 z1=>?_)
 exact .r 1<|.d<|.s<|.g<|.r 2<|.d<|T.rt func21 results21 (vI (k+lsZ CJ x.name)) ⟨congrArg vI AB,V.xt.1,(⟨x.kind,x.at_,x.cut,v1,x.row⟩:Evt),V.xt.2,(by show [Value.int .i64 x.kind,.int .i64 x.at_,.int .i64 x.cut,sv _ 0 v1,.int .i64 x.row.t,.int .i64 x.row.v]=[Value.int .i64 x.kind,.int .i64 x.at_,.int .i64 x.cut,sv _ 0 x.name,.int .i64 x.row.t,.int .i64 x.row.v]; rw [JJ u1]),trivial,(by show (lsZ CJ v1)=(lsZ CJ x.name); omega)⟩
end Go.Proofs.YtcginoabkicdiaaGreat
namespace Go.Proofs.YtcginoabkicdiaaGreat
set_option maxRecDepth 100000
set_option maxHeartbeats 4000000
variable {w:World} {F:Nat→Prop} {a1:Option Addr} {n1 c1:Nat}
theorem LA (a:List Tag) (k:Int) (h1:RepS w F a1 n1 c1 a) (p0:lsM Fw CJ a k) (p1:1≤k) (p2:k+lsZ CJ a≤4611686018427387904):Calls Tryz.prog 144 [.slice a1 n1 c1,.int .i64 k].toArray w (Af fun rv w'=>rv=.int .i64 ((k+lsZ CJ a))∧Ext w w'):=by
 cases h1.len
 refine goT func144 ?_
 have Z:=(St.i0 F w).p h1
 have ak:=h1.max
 refine .s<|.g<|.r 1<|.d<|.s<|.s<|.g<|.r 1<|.d<|.b 0<|T.Lp (k,(0:Nat)) (fun (k1,i)=>([(0,.slice a1 a.length c1),(1,vI k1),(5,vI (i:Int))],[],[],a.length - i,(i≤a.length)∧(1≤k1)∧(lsM Fw CJ (a.drop i) k1)∧(k1+lsZ CJ (a.drop i)=k+lsZ CJ a))) [] Z ⟨AB,(by exact p1),(by exact p0),AD⟩ ?_
 rintro ⟨k1,i⟩ aE w Z ⟨am,ao,aq,ar⟩ ah
 refine .s<|.s<|.g<|.r 3<|.bp ((i:Int)< (a.length:Int)) (fun ai=>?_) (fun ai=>.d<|.cf<|.x 0 rfl<|.s<|.g<|.r 2<|.d<|T.rt func144 results144 (vI k1) ⟨(congrArg (Value.int .i64) (by (rw [JG (by omega:a.length≤i)] at *; omega))),Z.xt⟩)
 refine .d<|.ct<|.sk<|.s<|.b 1<|.s<|.s<|T.Gd 7 Z fun w Z=>.r [0,1]<|gx a i fun ag af=>?_
 have aB:=Ab af
 refine GA.Ix 2 0 af Z<|.r [3]<|Z.el 0 af fun Z=>GA.Lh 4 0 0 Z<|.r [5]<|GA.C0 6 Z (fun w Z=>Bx k1 (by have q1:=BC (by assumption:lsM Fw CJ (a.drop i) k1) (by assumption:a.drop i=_::_); have q2:=BZ (z:=CJ) (by assumption:a.drop i=_::_); have q3:=Ac Il (a.drop (i+1)); simp only [CJ] at q2; omega) (F:=all))<|GA.Dn Z fun w Z=>RG.eqv (v:=.bool (!(ag.key==mtx k1))) AA (O3 ag.key (mtx k1)) ?_
 cases aC:(ag.key==mtx k1)
 ·exact .d<|.ct<|.s<|.g<|.r 1<|.d<|T.rt func144 results144 (vI (-1)) ⟨(congrArg (Value.int .i64) (by (exfalso; have q1:=BC (by assumption:lsM Fw CJ (a.drop i) k1) (by assumption:a.drop i=_::_); simp_all [Fw]; done))),Z.xt⟩
 refine .d<|.cf<|.sk<|.s<|.g<|.r 1<|RG.int (k1+1) AA (by have q1:=BC (by assumption:lsM Fw CJ (a.drop i) k1) (by assumption:a.drop i=_::_); have q2:=BZ (z:=CJ) (by assumption:a.drop i=_::_); have q3:=Ac Il (a.drop (i+1)); simp only [CJ] at q2; omega)<|.r 1<|.d<|.s<|.s<|T.Gd 7 Z fun w Z=>.r [0,1]<|GA.Ix 2 1 af Z<|.r [3]<|GA.Lh 4 0 1 Z<|.r [5]<|GA.C0 6 Z (fun w Z=>Bx (k1+1) (by have q1:=BC (by assumption:lsM Fw CJ (a.drop i) k1) (by assumption:a.drop i=_::_); have q2:=BZ (z:=CJ) (by assumption:a.drop i=_::_); have q3:=Ac Il (a.drop (i+1)); simp only [CJ] at q2; omega) (F:=all))<|GA.Dn Z fun w Z=>RG.eqv (v:=.bool (!(ag.val==mtx (k1+1)))) AA (O3 ag.val (mtx (k1+1))) ?_
 cases aD:(ag.val==mtx (k1+1))
 ·exact .d<|.ct<|.s<|.g<|.r 1<|.d<|T.rt func144 results144 (vI (-1)) ⟨(congrArg (Value.int .i64) (by (exfalso; have q1:=BC (by assumption:lsM Fw CJ (a.drop i) k1) (by assumption:a.drop i=_::_); simp_all [Fw]; done))),Z.xt⟩
 exact .d<|.cf<|.sk<|.g<|.r 1<|RG.int (k1+1+1) AA (by have q1:=BC (by assumption:lsM Fw CJ (a.drop i) k1) (by assumption:a.drop i=_::_); have q2:=BZ (z:=CJ) (by assumption:a.drop i=_::_); have q3:=Ac Il (a.drop (i+1)); simp only [CJ] at q2; omega)<|.r 1<|.d<|.ib 1<|.g<|.r 1<|RG.int ((i:Int)+1) AA (by have q1:=BC (by assumption:lsM Fw CJ (a.drop i) k1) (by assumption:a.drop i=_::_); have q2:=BZ (z:=CJ) (by assumption:a.drop i=_::_); simp only [CJ] at q2; omega)<|.r 1<|.d<|ah (k1+1+1,i+1) _ _ AA (Z.to 0 [] 1) ⟨AB,(by have q1:=BC (by assumption:lsM Fw CJ (a.drop i) k1) (by assumption:a.drop i=_::_); have q2:=BZ (z:=CJ) (by assumption:a.drop i=_::_); simp only [CJ] at q2; omega),(by have q1:=BC (by assumption:lsM Fw CJ (a.drop i) k1) (by assumption:a.drop i=_::_); exact EY q1.2 (by (simp only [CJ]; omega))),(by have q1:=BC (by assumption:lsM Fw CJ (a.drop i) k1) (by assumption:a.drop i=_::_); have q2:=BZ (z:=CJ) (by assumption:a.drop i=_::_); simp only [CJ] at q2; omega)⟩ (by (simp only []; omega))
theorem Dk (a:List Int) (k:Int) (h1:RepS w F a1 n1 c1 a) (p0:lsM JH BQ a k) (p1:1≤k) (p2:k+lsZ BQ a≤4611686018427387904):Calls Tryz.prog 84 [.slice a1 n1 c1,.int .i64 k].toArray w (Af fun rv w'=>rv=.int .i64 ((k+lsZ BQ a))∧Ext w w'):=by
 cases h1.len
 refine goT func84 ?_
 have Z:=(St.i0 F w).p h1
 have am:=h1.max
 refine .s<|.g<|.r 1<|.d<|.s<|.s<|.g<|.r 1<|.d<|.b 0<|T.Lp (k,(0:Nat)) (fun (k1,i)=>([(0,.slice a1 a.length c1),(1,vI k1),(5,vI (i:Int))],[],[],a.length - i,(i≤a.length)∧(1≤k1)∧(lsM JH BQ (a.drop i) k1)∧(k1+lsZ BQ (a.drop i)=k+lsZ BQ a))) [] Z ⟨AB,(by exact p1),(by exact p0),AD⟩ ?_
 rintro ⟨k1,i⟩ az w Z ⟨ao,aq,ar,ax⟩ ag
 refine .s<|.s<|.g<|.r 3<|.bp ((i:Int)< (a.length:Int)) (fun ah=>?_) (fun ah=>.d<|.cf<|.x 0 rfl<|.s<|.g<|.r 2<|.d<|T.rt func84 results84 (vI k1) ⟨(congrArg (Value.int .i64) (by (rw [JG (by omega:a.length≤i)] at *; omega))),Z.xt⟩)
 refine .d<|.ct<|.sk<|.s<|.b 1<|.s<|.s<|.g<|.r 2<|gx a i fun ak ae=>?_
 have ay:=Ab ae
 exact RG.Ix 0 ae Z<|Z.el 0 ae fun Z=>RG.Lh 0 0 Z<|.r 1<|.ne ak k1 (fun ai=>.d<|.ct<|.s<|.g<|.r 1<|.d<|T.rt func84 results84 (vI (-1)) ⟨(congrArg (Value.int .i64) (by (exfalso; have q1:=BC (by assumption:lsM JH BQ (a.drop i) k1) (by assumption:a.drop i=_::_); simp only [JH] at q1; omega))),Z.xt⟩) fun ai=>.d<|.cf<|.sk<|.g<|.r 1<|RG.int (k1+1) AA (by have q1:=BC (by assumption:lsM JH BQ (a.drop i) k1) (by assumption:a.drop i=_::_); have q2:=BZ (z:=BQ) (by assumption:a.drop i=_::_); have q3:=Ac Bs (a.drop (i+1)); simp only [BQ] at q2; omega)<|.r 1<|.d<|.ib 1<|.g<|.r 1<|RG.int ((i:Int)+1) AA (by have q1:=BC (by assumption:lsM JH BQ (a.drop i) k1) (by assumption:a.drop i=_::_); have q2:=BZ (z:=BQ) (by assumption:a.drop i=_::_); simp only [BQ] at q2; omega)<|.r 1<|.d<|ag (k1+1,i+1) _ _ AA (Z.to 0 [] 1) ⟨AB,(by have q1:=BC (by assumption:lsM JH BQ (a.drop i) k1) (by assumption:a.drop i=_::_); have q2:=BZ (z:=BQ) (by assumption:a.drop i=_::_); simp only [BQ] at q2; omega),(by have q1:=BC (by assumption:lsM JH BQ (a.drop i) k1) (by assumption:a.drop i=_::_); exact EY q1.2 AF),(by have q1:=BC (by assumption:lsM JH BQ (a.drop i) k1) (by assumption:a.drop i=_::_); have q2:=BZ (z:=BQ) (by assumption:a.drop i=_::_); simp only [BQ] at q2; omega)⟩ (by (simp only []; omega))
theorem LB (a:List Row) (k:Int) (h1:RepS w F a1 n1 c1 a) (p0:lsM Ik Cq a k) (p1:1≤k) (p2:k+lsZ Cq a≤4611686018427387904):Calls Tryz.prog 192 [.slice a1 n1 c1,.int .i64 k].toArray w (Af fun rv w'=>rv=.int .i64 ((k+lsZ Cq a))∧Ext w w'):=by
 cases h1.len
 refine goT func192 ?_
 have Z:=(St.i0 F w).p h1
 have ao:=h1.max
 refine .s<|.g<|.r 1<|.d<|.s<|.s<|.g<|.r 1<|.d<|.b 0<|T.Lp (k,(0:Nat)) (fun (k1,i)=>([(0,.slice a1 a.length c1),(1,vI k1),(5,vI (i:Int))],[],[],a.length - i,(i≤a.length)∧(1≤k1)∧(lsM Ik Cq (a.drop i) k1)∧(k1+lsZ Cq (a.drop i)=k+lsZ Cq a))) [] Z ⟨AB,(by exact p1),(by exact p0),AD⟩ ?_
 rintro ⟨k1,i⟩ aE w Z ⟨aq,ar,ax,ay⟩ ag
 refine .s<|.s<|.g<|.r 3<|.bp ((i:Int)< (a.length:Int)) (fun ah=>?_) (fun ah=>.d<|.cf<|.x 0 rfl<|.s<|.g<|.r 2<|.d<|T.rt func192 results192 (vI k1) ⟨(congrArg (Value.int .i64) (by (rw [JG (by omega:a.length≤i)] at *; omega))),Z.xt⟩)
 refine .d<|.ct<|.sk<|.s<|.b 1<|.s<|.s<|.g<|.r 2<|gx a i fun ai af=>?_
 have aD:=Ab af
 exact RG.Ix 0 af Z<|.r 1<|Z.el 0 af fun Z=>RG.Lh 0 0 Z<|.r 1<|.ne ai.t k1 (fun aj=>.d<|.ct<|.s<|.g<|.r 1<|.d<|T.rt func192 results192 (vI (-1)) ⟨(congrArg (Value.int .i64) (by (exfalso; have q1:=BC (by assumption:lsM Ik Cq (a.drop i) k1) (by assumption:a.drop i=_::_); simp only [Ik] at q1; omega))),Z.xt⟩) fun aj=>.d<|.cf<|.sk<|.s<|.g<|.r 1<|RG.int (k1+1) AA (by have q1:=BC (by assumption:lsM Ik Cq (a.drop i) k1) (by assumption:a.drop i=_::_); have q2:=BZ (z:=Cq) (by assumption:a.drop i=_::_); have q3:=Ac OY (a.drop (i+1)); simp only [Cq] at q2; omega)<|.r 1<|.d<|.s<|.s<|.g<|.r 2<|RG.Ix 1 af Z<|.r 1<|RG.Lh 0 1 Z<|.r 1<|.ne ai.v (k1+1) (fun ak=>.d<|.ct<|.s<|.g<|.r 1<|.d<|T.rt func192 results192 (vI (-1)) ⟨(congrArg (Value.int .i64) (by (exfalso; have q1:=BC (by assumption:lsM Ik Cq (a.drop i) k1) (by assumption:a.drop i=_::_); simp only [Ik] at q1; omega))),Z.xt⟩) fun ak=>.d<|.cf<|.sk<|.g<|.r 1<|RG.int (k1+1+1) AA (by have q1:=BC (by assumption:lsM Ik Cq (a.drop i) k1) (by assumption:a.drop i=_::_); have q2:=BZ (z:=Cq) (by assumption:a.drop i=_::_); have q3:=Ac OY (a.drop (i+1)); simp only [Cq] at q2; omega)<|.r 1<|.d<|.ib 1<|.g<|.r 1<|RG.int ((i:Int)+1) AA (by have q1:=BC (by assumption:lsM Ik Cq (a.drop i) k1) (by assumption:a.drop i=_::_); have q2:=BZ (z:=Cq) (by assumption:a.drop i=_::_); simp only [Cq] at q2; omega)<|.r 1<|.d<|ag (k1+1+1,i+1) _ _ AA (Z.to 0 [] 1) ⟨AB,(by have q1:=BC (by assumption:lsM Ik Cq (a.drop i) k1) (by assumption:a.drop i=_::_); have q2:=BZ (z:=Cq) (by assumption:a.drop i=_::_); simp only [Cq] at q2; omega),(by have q1:=BC (by assumption:lsM Ik Cq (a.drop i) k1) (by assumption:a.drop i=_::_); exact EY q1.2 (by (simp only [Cq]; omega))),(by have q1:=BC (by assumption:lsM Ik Cq (a.drop i) k1) (by assumption:a.drop i=_::_); have q2:=BZ (z:=Cq) (by assumption:a.drop i=_::_); simp only [Cq] at q2; omega)⟩ (by (simp only []; omega))
theorem Iw (a:List Smp) (k:Int) (h1:RepS w F a1 n1 c1 a) (p0:lsM Gz CW a k) (p1:1≤k) (p2:k+lsZ CW a≤4611686018427387904):Calls Tryz.prog 82 [.slice a1 n1 c1,.int .i64 k].toArray w (Af fun rv w'=>rv=.int .i64 ((k+lsZ CW a))∧Ext w w'):=by
 cases h1.len
 refine goT func82 ?_
 have Z:=(St.i0 F w).p h1
 have az:=h1.max
 refine .s<|.g<|.r 1<|.d<|.s<|.s<|.g<|.r 1<|.d<|.b 0<|T.Lp (k,(0:Nat)) (fun (k1,i)=>([(0,.slice a1 a.length c1),(1,vI k1),(5,vI (i:Int))],[],[],a.length - i,(i≤a.length)∧(1≤k1)∧(lsM Gz CW (a.drop i) k1)∧(k1+lsZ CW (a.drop i)=k+lsZ CW a))) [] Z ⟨AB,(by exact p1),(by exact p0),AD⟩ ?_
 rintro ⟨k1,i⟩ aF w Z ⟨aA,aB,aC,aD⟩ ag
 refine .s<|.s<|.g<|.r 3<|.bp ((i:Int)< (a.length:Int)) (fun ai=>?_) (fun ai=>.d<|.cf<|.x 0 rfl<|.s<|.g<|.r 2<|.d<|T.rt func82 results82 (vI k1) ⟨(congrArg (Value.int .i64) (by (rw [JG (by omega:a.length≤i)] at *; omega))),Z.xt⟩)
 refine .d<|.ct<|.sk<|.s<|.b 1<|.s<|.s<|.g<|.r 2<|gx a i fun ah af=>?_
 have aE:=Ab af
 exact RG.Ix 0 af Z<|.r 1<|Z.el 0 af fun Z=>RG.Lh 0 0 Z<|.r 1<|.ne ah.id k1 (fun aj=>.d<|.ct<|.s<|.g<|.r 1<|.d<|T.rt func82 results82 (vI (-1)) ⟨(congrArg (Value.int .i64) (by (exfalso; have q1:=BC (by assumption:lsM Gz CW (a.drop i) k1) (by assumption:a.drop i=_::_); simp only [Gz] at q1; omega))),Z.xt⟩) fun aj=>.d<|.cf<|.sk<|.s<|.g<|.r 1<|RG.int (k1+1) AA (by have q1:=BC (by assumption:lsM Gz CW (a.drop i) k1) (by assumption:a.drop i=_::_); have q2:=BZ (z:=CW) (by assumption:a.drop i=_::_); have q3:=Ac Du (a.drop (i+1)); simp only [CW] at q2; omega)<|.r 1<|.d<|.s<|.s<|.g<|.r 2<|RG.Ix 1 af Z<|.r 2<|RG.Lh 0 1 Z<|.r 1<|.ne ah.row.t (k1+1) (fun ak=>.d<|.ct<|.s<|.g<|.r 1<|.d<|T.rt func82 results82 (vI (-1)) ⟨(congrArg (Value.int .i64) (by (exfalso; have q1:=BC (by assumption:lsM Gz CW (a.drop i) k1) (by assumption:a.drop i=_::_); simp only [Gz] at q1; omega))),Z.xt⟩) fun ak=>.d<|.cf<|.sk<|.s<|.g<|.r 1<|RG.int (k1+1+1) AA (by have q1:=BC (by assumption:lsM Gz CW (a.drop i) k1) (by assumption:a.drop i=_::_); have q2:=BZ (z:=CW) (by assumption:a.drop i=_::_); have q3:=Ac Du (a.drop (i+1)); simp only [CW] at q2; omega)<|.r 1<|.d<|.s<|.s<|.g<|.r 2<|RG.Ix 1 af Z<|.r 2<|RG.Lh 0 2 Z<|.r 1<|.ne ah.row.v (k1+1+1) (fun am=>.d<|.ct<|.s<|.g<|.r 1<|.d<|T.rt func82 results82 (vI (-1)) ⟨(congrArg (Value.int .i64) (by (exfalso; have q1:=BC (by assumption:lsM Gz CW (a.drop i) k1) (by assumption:a.drop i=_::_); simp only [Gz] at q1; omega))),Z.xt⟩) fun am=>.d<|.cf<|.sk<|.g<|.r 1<|RG.int (k1+1+1+1) AA (by have q1:=BC (by assumption:lsM Gz CW (a.drop i) k1) (by assumption:a.drop i=_::_); have q2:=BZ (z:=CW) (by assumption:a.drop i=_::_); have q3:=Ac Du (a.drop (i+1)); simp only [CW] at q2; omega)<|.r 1<|.d<|.ib 1<|.g<|.r 1<|RG.int ((i:Int)+1) AA (by have q1:=BC (by assumption:lsM Gz CW (a.drop i) k1) (by assumption:a.drop i=_::_); have q2:=BZ (z:=CW) (by assumption:a.drop i=_::_); simp only [CW] at q2; omega)<|.r 1<|.d<|ag (k1+1+1+1,i+1) _ _ AA (Z.to 0 [] 1) ⟨AB,(by have q1:=BC (by assumption:lsM Gz CW (a.drop i) k1) (by assumption:a.drop i=_::_); have q2:=BZ (z:=CW) (by assumption:a.drop i=_::_); simp only [CW] at q2; omega),(by have q1:=BC (by assumption:lsM Gz CW (a.drop i) k1) (by assumption:a.drop i=_::_); exact EY q1.2 (by (simp only [CW]; omega))),(by have q1:=BC (by assumption:lsM Gz CW (a.drop i) k1) (by assumption:a.drop i=_::_); have q2:=BZ (z:=CW) (by assumption:a.drop i=_::_); simp only [CW] at q2; omega)⟩ (by (simp only []; omega))
theorem GO (a:List (List Tag)) (k:Int) (h1:RepS w F a1 n1 c1 a) (p0:lsM nmM nmZ a k) (p1:1≤k) (p2:k+lsZ nmZ a≤4611686018427387904):Calls Tryz.prog 85 [.slice a1 n1 c1,.int .i64 k].toArray w (Af fun rv w'=>rv=.int .i64 ((k+lsZ nmZ a))∧Ext w w'):=by
 cases h1.len
 refine goT func85 ?_
 have Z:=(St.i0 F w).p h1
 have ao:=h1.max
 refine .s<|.g<|.r 1<|.d<|.s<|.s<|.g<|.r 1<|.d<|.b 0<|T.Lp (k,(0:Nat)) (fun (k1,i)=>([(0,.slice a1 a.length c1),(1,vI k1),(5,vI (i:Int))],[],[],a.length - i,(i≤a.length)∧(1≤k1)∧(lsM nmM nmZ (a.drop i) k1)∧(k1+lsZ nmZ (a.drop i)=k+lsZ nmZ a))) [] Z ⟨AB,(by exact p1),(by exact p0),AD⟩ ?_
 rintro ⟨k1,i⟩ aA w Z ⟨aq,ar,ax,ay⟩ ah
 refine .s<|.s<|.g<|.r 3<|.bp ((i:Int)< (a.length:Int)) (fun aj=>?_) (fun aj=>.d<|.cf<|.x 0 rfl<|.s<|.g<|.r 2<|.d<|T.rt func85 results85 (vI k1) ⟨(congrArg (Value.int .i64) (by (rw [JG (by omega:a.length≤i)] at *; omega))),Z.xt⟩)
 refine .d<|.ct<|.sk<|.s<|.b 1<|.s<|.g<|.r 2<|gx a i fun ai af=>?_
 have az:=Ab af
 exact RG.Ix 0 af Z<|Z.el 0 af fun aE aF Z=>RG.Lh 0 0 Z<|.r 1<|RG.C0 (LA ai k1 (Z.a 1) (by have q1:=BC (by assumption:lsM nmM nmZ (a.drop i) k1) (by assumption:a.drop i=_::_); have q5:=dz Ce (by assumption:a.drop i=_::_); simp only [nmZ] at q5; exact q1.1) AB (by have q1:=BC (by assumption:lsM nmM nmZ (a.drop i) k1) (by assumption:a.drop i=_::_); have q2:=BZ (z:=nmZ) (by assumption:a.drop i=_::_); have q3:=Ac Ce (a.drop (i+1)); have q5:=dz Ce (by assumption:a.drop i=_::_); simp only [nmZ] at q5; simp only [nmZ] at q2; omega)) Z fun w Z=>.r 1<|.d<|.s<|.g<|.r 1<|.bp ((k1+lsZ CJ ai)< 0) (fun ak=>.d<|.ct<|.s<|.g<|.r 1<|.d<|T.rt func85 results85 (vI (-1)) ⟨(congrArg (Value.int .i64) (by (exfalso; have q5:=dz Ce (by assumption:a.drop i=_::_); simp only [nmZ] at q5; omega))),Z.xt⟩) fun ak=>.d<|.cf<|.sk<|.ib 1<|.g<|.r 1<|RG.int ((i:Int)+1) AA (by have q1:=BC (by assumption:lsM nmM nmZ (a.drop i) k1) (by assumption:a.drop i=_::_); have q2:=BZ (z:=nmZ) (by assumption:a.drop i=_::_); have q5:=dz Ce (by assumption:a.drop i=_::_); simp only [nmZ] at q5; simp only [nmZ] at q2; omega)<|.r 1<|.d<|ah ((k1+lsZ CJ ai),i+1) _ _ AA (Z.to 0 [] 2) ⟨AB,(by have q1:=BC (by assumption:lsM nmM nmZ (a.drop i) k1) (by assumption:a.drop i=_::_); have q2:=BZ (z:=nmZ) (by assumption:a.drop i=_::_); have q5:=dz Ce (by assumption:a.drop i=_::_); simp only [nmZ] at q5; simp only [nmZ] at q2; omega),(by have q1:=BC (by assumption:lsM nmM nmZ (a.drop i) k1) (by assumption:a.drop i=_::_); have q5:=dz Ce (by assumption:a.drop i=_::_); simp only [nmZ] at q5; exact EY q1.2 AF),(by have q1:=BC (by assumption:lsM nmM nmZ (a.drop i) k1) (by assumption:a.drop i=_::_); have q2:=BZ (z:=nmZ) (by assumption:a.drop i=_::_); have q5:=dz Ce (by assumption:a.drop i=_::_); simp only [nmZ] at q5; simp only [nmZ] at q2; omega)⟩ (by (simp only []; omega))
theorem GP (a:List (List Row)) (k:Int) (h1:RepS w F a1 n1 c1 a) (p0:lsM blM blZ a k) (p1:1≤k) (p2:k+lsZ blZ a≤4611686018427387904):Calls Tryz.prog 143 [.slice a1 n1 c1,.int .i64 k].toArray w (Af fun rv w'=>rv=.int .i64 ((k+lsZ blZ a))∧Ext w w'):=by
 cases h1.len
 refine goT func143 ?_
 have Z:=(St.i0 F w).p h1
 have ao:=h1.max
 refine .s<|.g<|.r 1<|.d<|.s<|.s<|.g<|.r 1<|.d<|.b 0<|T.Lp (k,(0:Nat)) (fun (k1,i)=>([(0,.slice a1 a.length c1),(1,vI k1),(5,vI (i:Int))],[],[],a.length - i,(i≤a.length)∧(1≤k1)∧(lsM blM blZ (a.drop i) k1)∧(k1+lsZ blZ (a.drop i)=k+lsZ blZ a))) [] Z ⟨AB,(by exact p1),(by exact p0),AD⟩ ?_
 rintro ⟨k1,i⟩ aA w Z ⟨aq,ar,ax,ay⟩ ah
 refine .s<|.s<|.g<|.r 3<|.bp ((i:Int)< (a.length:Int)) (fun aj=>?_) (fun aj=>.d<|.cf<|.x 0 rfl<|.s<|.g<|.r 2<|.d<|T.rt func143 results143 (vI k1) ⟨(congrArg (Value.int .i64) (by (rw [JG (by omega:a.length≤i)] at *; omega))),Z.xt⟩)
 refine .d<|.ct<|.sk<|.s<|.b 1<|.s<|.g<|.r 2<|gx a i fun ai af=>?_
 have az:=Ab af
 exact RG.Ix 0 af Z<|Z.el 0 af fun aE aF Z=>RG.Lh 0 0 Z<|.r 1<|RG.C0 (LB ai k1 (Z.a 1) (by have q1:=BC (by assumption:lsM blM blZ (a.drop i) k1) (by assumption:a.drop i=_::_); have q5:=dz EM (by assumption:a.drop i=_::_); simp only [blZ] at q5; exact q1.1) AB (by have q1:=BC (by assumption:lsM blM blZ (a.drop i) k1) (by assumption:a.drop i=_::_); have q2:=BZ (z:=blZ) (by assumption:a.drop i=_::_); have q3:=Ac EM (a.drop (i+1)); have q5:=dz EM (by assumption:a.drop i=_::_); simp only [blZ] at q5; simp only [blZ] at q2; omega)) Z fun w Z=>.r 1<|.d<|.s<|.g<|.r 1<|.bp ((k1+lsZ Cq ai)< 0) (fun ak=>.d<|.ct<|.s<|.g<|.r 1<|.d<|T.rt func143 results143 (vI (-1)) ⟨(congrArg (Value.int .i64) (by (exfalso; have q5:=dz EM (by assumption:a.drop i=_::_); simp only [blZ] at q5; omega))),Z.xt⟩) fun ak=>.d<|.cf<|.sk<|.ib 1<|.g<|.r 1<|RG.int ((i:Int)+1) AA (by have q1:=BC (by assumption:lsM blM blZ (a.drop i) k1) (by assumption:a.drop i=_::_); have q2:=BZ (z:=blZ) (by assumption:a.drop i=_::_); have q5:=dz EM (by assumption:a.drop i=_::_); simp only [blZ] at q5; simp only [blZ] at q2; omega)<|.r 1<|.d<|ah ((k1+lsZ Cq ai),i+1) _ _ AA (Z.to 0 [] 2) ⟨AB,(by have q1:=BC (by assumption:lsM blM blZ (a.drop i) k1) (by assumption:a.drop i=_::_); have q2:=BZ (z:=blZ) (by assumption:a.drop i=_::_); have q5:=dz EM (by assumption:a.drop i=_::_); simp only [blZ] at q5; simp only [blZ] at q2; omega),(by have q1:=BC (by assumption:lsM blM blZ (a.drop i) k1) (by assumption:a.drop i=_::_); have q5:=dz EM (by assumption:a.drop i=_::_); simp only [blZ] at q5; exact EY q1.2 AF),(by have q1:=BC (by assumption:lsM blM blZ (a.drop i) k1) (by assumption:a.drop i=_::_); have q2:=BZ (z:=blZ) (by assumption:a.drop i=_::_); have q5:=dz EM (by assumption:a.drop i=_::_); simp only [blZ] at q5; simp only [blZ] at q2; omega)⟩ (by (simp only []; omega))
theorem KR (a:List Prt) (k:Int) (h1:RepS w F a1 n1 c1 a) (p0:lsM IF Bm a k) (p1:1≤k) (p2:k+lsZ Bm a≤4611686018427387904):Calls Tryz.prog 81 [.slice a1 n1 c1,.int .i64 k].toArray w (Af fun rv w'=>rv=.int .i64 ((k+lsZ Bm a))∧Ext w w'):=by
 cases h1.len
 refine goT func81 ?_
 have Z:=(St.i0 F w).p h1
 have ar:=h1.max
 refine .s<|.g<|.r 1<|.d<|.s<|.s<|.g<|.r 1<|.d<|.b 0<|T.Lp (k,(0:Nat)) (fun (k1,i)=>([(0,.slice a1 a.length c1),(1,vI k1),(5,vI (i:Int))],[],[],a.length - i,(i≤a.length)∧(1≤k1)∧(lsM IF Bm (a.drop i) k1)∧(k1+lsZ Bm (a.drop i)=k+lsZ Bm a))) [] Z ⟨AB,(by exact p1),(by exact p0),AD⟩ ?_
 rintro ⟨k1,i⟩ aC w Z ⟨ax,ay,az,aA⟩ aj
 refine .s<|.s<|.g<|.r 3<|.bp ((i:Int)< (a.length:Int)) (fun ak=>?_) (fun ak=>.d<|.cf<|.x 0 rfl<|.s<|.g<|.r 2<|.d<|T.rt func81 results81 (vI k1) ⟨(congrArg (Value.int .i64) (by (rw [JG (by omega:a.length≤i)] at *; omega))),Z.xt⟩)
 refine .d<|.ct<|.sk<|.s<|.b 1<|.s<|.g<|.r 2<|gx a i fun ah ai=>?_
 have aB:=Ab ai
 exact RG.Ix 0 ai Z<|.r 1<|Z.el 0 ai fun aD aE aF aG Z=>RG.Lh 0 0 Z<|.r 1<|RG.C0 (Dk ah.ids k1 (Z.a 1) (by have q1:=BC (by assumption:lsM IF Bm (a.drop i) k1) (by assumption:a.drop i=_::_); exact q1.1.1) (by have q1:=BC (by assumption:lsM IF Bm (a.drop i) k1) (by assumption:a.drop i=_::_); have q2:=BZ (z:=Bm) (by assumption:a.drop i=_::_); simp only [Bm] at q2; omega) (by have q1:=BC (by assumption:lsM IF Bm (a.drop i) k1) (by assumption:a.drop i=_::_); have q2:=BZ (z:=Bm) (by assumption:a.drop i=_::_); have q3:=Ac Dv (a.drop (i+1)); have ab:=dz (z:=fun p=>lsZ blZ p.blocks) (fun p=>Ac EM p.blocks) (by assumption:a.drop i=_::_); simp only [Bm] at q2; omega)) Z fun w Z=>.r 1<|.d<|.s<|.s<|.g<|.r 1<|.bp ((k1+lsZ BQ ah.ids)< 0) (fun am=>.d<|.ct<|.s<|.g<|.r 1<|.d<|T.rt func81 results81 (vI (-1)) ⟨(congrArg (Value.int .i64) (by (exfalso; have aa:=dz (z:=fun p=>lsZ BQ p.ids) (fun p=>Ac Bs p.ids) (by assumption:a.drop i=_::_); omega))),Z.xt⟩) fun am=>.d<|.cf<|.sk<|.s<|.g<|.r 2<|RG.Ix 3 ai Z<|.r 1<|RG.Lh 0 1 Z<|.r 1<|RG.C0 (GP ah.blocks (k1+lsZ BQ ah.ids) (Z.a 2) (by have q1:=BC (by assumption:lsM IF Bm (a.drop i) k1) (by assumption:a.drop i=_::_); exact q1.1.2) (by have q1:=BC (by assumption:lsM IF Bm (a.drop i) k1) (by assumption:a.drop i=_::_); have q2:=BZ (z:=Bm) (by assumption:a.drop i=_::_); have aa:=dz (z:=fun p=>lsZ BQ p.ids) (fun p=>Ac Bs p.ids) (by assumption:a.drop i=_::_); simp only [Bm] at q2; omega) (by have q1:=BC (by assumption:lsM IF Bm (a.drop i) k1) (by assumption:a.drop i=_::_); have q2:=BZ (z:=Bm) (by assumption:a.drop i=_::_); have q3:=Ac Dv (a.drop (i+1)); simp only [Bm] at q2; omega)) Z fun w Z=>.r 1<|.d<|.s<|.g<|.r 1<|.bp (((k1+lsZ BQ ah.ids)+lsZ blZ ah.blocks)< 0) (fun ao=>.d<|.ct<|.s<|.g<|.r 1<|.d<|T.rt func81 results81 (vI (-1)) ⟨(congrArg (Value.int .i64) (by (exfalso; have ab:=dz (z:=fun p=>lsZ blZ p.blocks) (fun p=>Ac EM p.blocks) (by assumption:a.drop i=_::_); omega))),Z.xt⟩) fun ao=>.d<|.cf<|.sk<|.ib 1<|.g<|.r 1<|RG.int ((i:Int)+1) AA (by have q1:=BC (by assumption:lsM IF Bm (a.drop i) k1) (by assumption:a.drop i=_::_); have q2:=BZ (z:=Bm) (by assumption:a.drop i=_::_); simp only [Bm] at q2; omega)<|.r 1<|.d<|aj (((k1+lsZ BQ ah.ids)+lsZ blZ ah.blocks),i+1) _ _ AA (Z.to 0 [] 3) ⟨AB,(by have q1:=BC (by assumption:lsM IF Bm (a.drop i) k1) (by assumption:a.drop i=_::_); have q2:=BZ (z:=Bm) (by assumption:a.drop i=_::_); have aa:=dz (z:=fun p=>lsZ BQ p.ids) (fun p=>Ac Bs p.ids) (by assumption:a.drop i=_::_); have ab:=dz (z:=fun p=>lsZ blZ p.blocks) (fun p=>Ac EM p.blocks) (by assumption:a.drop i=_::_); simp only [Bm] at q2; omega),(by have q1:=BC (by assumption:lsM IF Bm (a.drop i) k1) (by assumption:a.drop i=_::_); exact EY q1.2 (by (simp only [Bm]; omega))),(by have q1:=BC (by assumption:lsM IF Bm (a.drop i) k1) (by assumption:a.drop i=_::_); have q2:=BZ (z:=Bm) (by assumption:a.drop i=_::_); simp only [Bm] at q2; omega)⟩ (by (simp only []; omega))
theorem KS (a:List Pst) (k:Int) (h1:RepS w F a1 n1 c1 a) (p0:lsM GF CA a k) (p1:1≤k) (p2:k+lsZ CA a≤4611686018427387904):Calls Tryz.prog 142 [.slice a1 n1 c1,.int .i64 k].toArray w (Af fun rv w'=>rv=.int .i64 ((k+lsZ CA a))∧Ext w w'):=by
 cases h1.len
 refine goT func142 ?_
 have Z:=(St.i0 F w).p h1
 have ao:=h1.max
 refine .s<|.g<|.r 1<|.d<|.s<|.s<|.g<|.r 1<|.d<|.b 0<|T.Lp (k,(0:Nat)) (fun (k1,i)=>([(0,.slice a1 a.length c1),(1,vI k1),(5,vI (i:Int))],[],[],a.length - i,(i≤a.length)∧(1≤k1)∧(lsM GF CA (a.drop i) k1)∧(k1+lsZ CA (a.drop i)=k+lsZ CA a))) [] Z ⟨AB,(by exact p1),(by exact p0),AD⟩ ?_
 rintro ⟨k1,i⟩ aC w Z ⟨aq,ar,ax,ay⟩ ai
 refine .s<|.s<|.g<|.r 3<|.bp ((i:Int)< (a.length:Int)) (fun aj=>?_) (fun aj=>.d<|.cf<|.x 0 rfl<|.s<|.g<|.r 2<|.d<|T.rt func142 results142 (vI k1) ⟨(congrArg (Value.int .i64) (by (rw [JG (by omega:a.length≤i)] at *; omega))),Z.xt⟩)
 refine .d<|.ct<|.sk<|.s<|.b 1<|.s<|.s<|T.Gd 8 Z fun w Z=>.r [0,1]<|gx a i fun ah ag=>?_
 have az:=Ab ag
 refine GA.Ix 2 0 ag Z<|.r [3,4]<|Z.el 0 ag fun aD aE Z=>GA.Lh 5 0 0 Z<|.r [6]<|GA.C0 7 Z (fun w Z=>Bx k1 (by have q1:=BC (by assumption:lsM GF CA (a.drop i) k1) (by assumption:a.drop i=_::_); have q2:=BZ (z:=CA) (by assumption:a.drop i=_::_); have q3:=Ac EL (a.drop (i+1)); have aa:=dz (z:=fun p=>lsZ BQ p.ids) (fun p=>Ac Bs p.ids) (by assumption:a.drop i=_::_); simp only [CA] at q2; omega) (F:=all))<|GA.Dn Z fun w Z=>RG.eqv (v:=.bool (!(ah.tag.key==mtx k1))) AA (O3 ah.tag.key (mtx k1)) ?_
 cases aA:(ah.tag.key==mtx k1)
 ·exact .d<|.ct<|.s<|.g<|.r 1<|.d<|T.rt func142 results142 (vI (-1)) ⟨(congrArg (Value.int .i64) (by (exfalso; have q1:=BC (by assumption:lsM GF CA (a.drop i) k1) (by assumption:a.drop i=_::_); simp_all [GF,Fw]; done))),Z.xt⟩
 refine .d<|.cf<|.sk<|.s<|.g<|.r 1<|RG.int (k1+1) AA (by have q1:=BC (by assumption:lsM GF CA (a.drop i) k1) (by assumption:a.drop i=_::_); have q2:=BZ (z:=CA) (by assumption:a.drop i=_::_); have q3:=Ac EL (a.drop (i+1)); have aa:=dz (z:=fun p=>lsZ BQ p.ids) (fun p=>Ac Bs p.ids) (by assumption:a.drop i=_::_); simp only [CA] at q2; omega)<|.r 1<|.d<|.s<|.s<|T.Gd 8 Z fun w Z=>.r [0,1]<|GA.Ix 2 2 ag Z<|.r [3,4]<|GA.Lh 5 0 1 Z<|.r [6]<|GA.C0 7 Z (fun w Z=>Bx (k1+1) (by have q1:=BC (by assumption:lsM GF CA (a.drop i) k1) (by assumption:a.drop i=_::_); have q2:=BZ (z:=CA) (by assumption:a.drop i=_::_); have q3:=Ac EL (a.drop (i+1)); have aa:=dz (z:=fun p=>lsZ BQ p.ids) (fun p=>Ac Bs p.ids) (by assumption:a.drop i=_::_); simp only [CA] at q2; omega) (F:=all))<|GA.Dn Z fun w Z=>RG.eqv (v:=.bool (!(ah.tag.val==mtx (k1+1)))) AA (O3 ah.tag.val (mtx (k1+1))) ?_
 cases aB:(ah.tag.val==mtx (k1+1))
 ·exact .d<|.ct<|.s<|.g<|.r 1<|.d<|T.rt func142 results142 (vI (-1)) ⟨(congrArg (Value.int .i64) (by (exfalso; have q1:=BC (by assumption:lsM GF CA (a.drop i) k1) (by assumption:a.drop i=_::_); simp_all [GF,Fw]; done))),Z.xt⟩
 exact .d<|.cf<|.sk<|.s<|.g<|.r 1<|RG.int (k1+1+1) AA (by have q1:=BC (by assumption:lsM GF CA (a.drop i) k1) (by assumption:a.drop i=_::_); have q2:=BZ (z:=CA) (by assumption:a.drop i=_::_); have q3:=Ac EL (a.drop (i+1)); have aa:=dz (z:=fun p=>lsZ BQ p.ids) (fun p=>Ac Bs p.ids) (by assumption:a.drop i=_::_); simp only [CA] at q2; omega)<|.r 1<|.d<|.s<|.g<|.r 2<|RG.Ix 2 ag Z<|.r 1<|RG.Lh 0 2 Z<|.r 1<|RG.C0 (Dk ah.ids (k1+1+1) (Z.a 1) (by have q1:=BC (by assumption:lsM GF CA (a.drop i) k1) (by assumption:a.drop i=_::_); exact EY q1.1.2 AB) (by have q1:=BC (by assumption:lsM GF CA (a.drop i) k1) (by assumption:a.drop i=_::_); have q2:=BZ (z:=CA) (by assumption:a.drop i=_::_); simp only [CA] at q2; omega) (by have q1:=BC (by assumption:lsM GF CA (a.drop i) k1) (by assumption:a.drop i=_::_); have q2:=BZ (z:=CA) (by assumption:a.drop i=_::_); have q3:=Ac EL (a.drop (i+1)); simp only [CA] at q2; omega)) Z fun w Z=>.r 1<|.d<|.s<|.g<|.r 1<|.bp (((k1+1+1)+lsZ BQ ah.ids)< 0) (fun ak=>.d<|.ct<|.s<|.g<|.r 1<|.d<|T.rt func142 results142 (vI (-1)) ⟨(congrArg (Value.int .i64) (by (exfalso; have aa:=dz (z:=fun p=>lsZ BQ p.ids) (fun p=>Ac Bs p.ids) (by assumption:a.drop i=_::_); omega))),Z.xt⟩) fun ak=>.d<|.cf<|.sk<|.ib 1<|.g<|.r 1<|RG.int ((i:Int)+1) AA (by have q1:=BC (by assumption:lsM GF CA (a.drop i) k1) (by assumption:a.drop i=_::_); have q2:=BZ (z:=CA) (by assumption:a.drop i=_::_); simp only [CA] at q2; omega)<|.r 1<|.d<|ai (((k1+1+1)+lsZ BQ ah.ids),i+1) _ _ AA (Z.to 0 [] 2) ⟨AB,(by have q1:=BC (by assumption:lsM GF CA (a.drop i) k1) (by assumption:a.drop i=_::_); have q2:=BZ (z:=CA) (by assumption:a.drop i=_::_); have aa:=dz (z:=fun p=>lsZ BQ p.ids) (fun p=>Ac Bs p.ids) (by assumption:a.drop i=_::_); simp only [CA] at q2; omega),(by have q1:=BC (by assumption:lsM GF CA (a.drop i) k1) (by assumption:a.drop i=_::_); exact EY q1.2 (by (simp only [CA]; omega))),(by have q1:=BC (by assumption:lsM GF CA (a.drop i) k1) (by assumption:a.drop i=_::_); have q2:=BZ (z:=CA) (by assumption:a.drop i=_::_); simp only [CA] at q2; omega)⟩ (by (simp only []; omega))
theorem KT (a:List Fil) (k:Int) (h1:RepS w F a1 n1 c1 a) (p0:lsM G0 Bq a k) (p1:1≤k) (p2:k+lsZ Bq a≤4611686018427387904):Calls Tryz.prog 83 [.slice a1 n1 c1,.int .i64 k].toArray w (Af fun rv w'=>rv=.int .i64 ((k+lsZ Bq a))∧Ext w w'):=by
 cases h1.len
 refine goT func83 ?_
 have Z:=(St.i0 F w).p h1
 have ax:=h1.max
 refine .s<|.g<|.r 1<|.d<|.s<|.s<|.g<|.r 1<|.d<|.b 0<|T.Lp (k,(0:Nat)) (fun (k1,i)=>([(0,.slice a1 a.length c1),(1,vI k1),(5,vI (i:Int))],[],[],a.length - i,(i≤a.length)∧(1≤k1)∧(lsM G0 Bq (a.drop i) k1)∧(k1+lsZ Bq (a.drop i)=k+lsZ Bq a))) [] Z ⟨AB,(by exact p1),(by exact p0),AD⟩ ?_
 rintro ⟨k1,i⟩ aD w Z ⟨ay,az,aA,aB⟩ aj
 refine .s<|.s<|.g<|.r 3<|.bp ((i:Int)< (a.length:Int)) (fun ak=>?_) (fun ak=>.d<|.cf<|.x 0 rfl<|.s<|.g<|.r 2<|.d<|T.rt func83 results83 (vI k1) ⟨(congrArg (Value.int .i64) (by (rw [JG (by omega:a.length≤i)] at *; omega))),Z.xt⟩)
 refine .d<|.ct<|.sk<|.s<|.b 1<|.s<|.s<|.g<|.r 2<|gx a i fun ai ah=>?_
 have aC:=Ab ah
 exact RG.Ix 0 ah Z<|.r 1<|Z.el 0 ah fun aE aF aG aH Z=>RG.Lh 0 0 Z<|.r 1<|.ne ai.num k1 (fun am=>.d<|.ct<|.s<|.g<|.r 1<|.d<|T.rt func83 results83 (vI (-1)) ⟨(congrArg (Value.int .i64) (by (exfalso; have q1:=BC (by assumption:lsM G0 Bq (a.drop i) k1) (by assumption:a.drop i=_::_); simp_all [G0,Fw]; done))),Z.xt⟩) fun am=>.d<|.cf<|.sk<|.s<|.g<|.r 1<|RG.int (k1+1) AA (by have q1:=BC (by assumption:lsM G0 Bq (a.drop i) k1) (by assumption:a.drop i=_::_); have q2:=BZ (z:=Bq) (by assumption:a.drop i=_::_); have q3:=Ac Dw (a.drop (i+1)); have aa:=dz (z:=fun p=>lsZ BQ p.part.ids) (fun p=>Ac Bs p.part.ids) (by assumption:a.drop i=_::_); have ab:=dz (z:=fun p=>lsZ blZ p.part.blocks) (fun p=>Ac EM p.part.blocks) (by assumption:a.drop i=_::_); simp only [Bq,Bm] at q2; omega)<|.r 1<|.d<|.s<|.g<|.r 2<|RG.Ix 3 ah Z<|.r 2<|RG.Lh 0 1 Z<|.r 1<|RG.C0 (Dk ai.part.ids (k1+1) (Z.a 1) (by have q1:=BC (by assumption:lsM G0 Bq (a.drop i) k1) (by assumption:a.drop i=_::_); exact q1.1.2.1) (by have q1:=BC (by assumption:lsM G0 Bq (a.drop i) k1) (by assumption:a.drop i=_::_); have q2:=BZ (z:=Bq) (by assumption:a.drop i=_::_); simp only [Bq,Bm] at q2; omega) (by have q1:=BC (by assumption:lsM G0 Bq (a.drop i) k1) (by assumption:a.drop i=_::_); have q2:=BZ (z:=Bq) (by assumption:a.drop i=_::_); have q3:=Ac Dw (a.drop (i+1)); have ab:=dz (z:=fun p=>lsZ blZ p.part.blocks) (fun p=>Ac EM p.part.blocks) (by assumption:a.drop i=_::_); simp only [Bq,Bm] at q2; omega)) Z fun w Z=>.r 1<|.d<|.s<|.s<|.g<|.r 1<|.bp (((k1+1)+lsZ BQ ai.part.ids)< 0) (fun ao=>.d<|.ct<|.s<|.g<|.r 1<|.d<|T.rt func83 results83 (vI (-1)) ⟨(congrArg (Value.int .i64) (by (exfalso; have aa:=dz (z:=fun p=>lsZ BQ p.part.ids) (fun p=>Ac Bs p.part.ids) (by assumption:a.drop i=_::_); omega))),Z.xt⟩) fun ao=>.d<|.cf<|.sk<|.s<|.g<|.r 2<|RG.Ix 3 ah Z<|.r 2<|RG.Lh 0 2 Z<|.r 1<|RG.C0 (GP ai.part.blocks ((k1+1)+lsZ BQ ai.part.ids) (Z.a 2) (by have q1:=BC (by assumption:lsM G0 Bq (a.drop i) k1) (by assumption:a.drop i=_::_); exact q1.1.2.2) (by have q1:=BC (by assumption:lsM G0 Bq (a.drop i) k1) (by assumption:a.drop i=_::_); have q2:=BZ (z:=Bq) (by assumption:a.drop i=_::_); have aa:=dz (z:=fun p=>lsZ BQ p.part.ids) (fun p=>Ac Bs p.part.ids) (by assumption:a.drop i=_::_); simp only [Bq,Bm] at q2; omega) (by have q1:=BC (by assumption:lsM G0 Bq (a.drop i) k1) (by assumption:a.drop i=_::_); have q2:=BZ (z:=Bq) (by assumption:a.drop i=_::_); have q3:=Ac Dw (a.drop (i+1)); simp only [Bq,Bm] at q2; omega)) Z fun w Z=>.r 1<|.d<|.s<|.g<|.r 1<|.bp ((((k1+1)+lsZ BQ ai.part.ids)+lsZ blZ ai.part.blocks)< 0) (fun aq=>.d<|.ct<|.s<|.g<|.r 1<|.d<|T.rt func83 results83 (vI (-1)) ⟨(congrArg (Value.int .i64) (by (exfalso; have ab:=dz (z:=fun p=>lsZ blZ p.part.blocks) (fun p=>Ac EM p.part.blocks) (by assumption:a.drop i=_::_); omega))),Z.xt⟩) fun aq=>.d<|.cf<|.sk<|.ib 1<|.g<|.r 1<|RG.int ((i:Int)+1) AA (by have q1:=BC (by assumption:lsM G0 Bq (a.drop i) k1) (by assumption:a.drop i=_::_); have q2:=BZ (z:=Bq) (by assumption:a.drop i=_::_); simp only [Bq,Bm] at q2; omega)<|.r 1<|.d<|aj ((((k1+1)+lsZ BQ ai.part.ids)+lsZ blZ ai.part.blocks),i+1) _ _ AA (Z.to 0 [] 3) ⟨AB,(by have q1:=BC (by assumption:lsM G0 Bq (a.drop i) k1) (by assumption:a.drop i=_::_); have q2:=BZ (z:=Bq) (by assumption:a.drop i=_::_); have aa:=dz (z:=fun p=>lsZ BQ p.part.ids) (fun p=>Ac Bs p.part.ids) (by assumption:a.drop i=_::_); have ab:=dz (z:=fun p=>lsZ blZ p.part.blocks) (fun p=>Ac EM p.part.blocks) (by assumption:a.drop i=_::_); simp only [Bq,Bm] at q2; omega),(by have q1:=BC (by assumption:lsM G0 Bq (a.drop i) k1) (by assumption:a.drop i=_::_); exact EY q1.2 (by (simp only [Bq,Bm]; omega))),(by have q1:=BC (by assumption:lsM G0 Bq (a.drop i) k1) (by assumption:a.drop i=_::_); have q2:=BZ (z:=Bq) (by assumption:a.drop i=_::_); simp only [Bq,Bm] at q2; omega)⟩ (by (simp only []; omega))
end Go.Proofs.YtcginoabkicdiaaGreat
namespace Go.Proofs.YtcginoabkicdiaaGreat
set_option maxRecDepth 100000
set_option maxHeartbeats 4000000
variable {w:World} {F:Nat→Prop} {a1 a2 a3 a4 a5 a6 a7:Option Addr} {n1 c1 n2 c2 n3 c3 n4 c4 n5 c5 n6 c6 n7 c7:Nat}
theorem KU (a:Idx) (k:Int) (h1:RepS w F a1 n1 c1 a.names) (h2:RepS w F a2 n2 c2 a.AX) (p0:X7 a k) (p1:1≤k) (p2:k+DS a≤4611686018427387904):Calls Tryz.prog 80 [.agg #[.slice a1 n1 c1,.slice a2 n2 c2],.int .i64 k].toArray w (Af fun rv w'=>rv=.int .i64 ((k+DS a))∧Ext w w'):=by
 cases h1.len
 cases h2.len
 refine goT func80 ?_
 have Z:=((St.i0 F w).p h1).p h2
 exact .s<|.g<|RG.Np Z fun ag w Z=>.r 1<|.d<|.s<|.g<|.r 1<|RG.Lb 0 Z<|.r 1<|RG.C0 (GO a.names k (Z.a 1) p0.1 (by have q0:=p2; unfold DS at q0; have:=Ac Ce a.names; have:=Ac EL a.AX; omega) (by have q0:=p2; unfold DS at q0; have:=Ac Ce a.names; have:=Ac EL a.AX; omega)) Z fun w Z=>.r 1<|.d<|.s<|.s<|.g<|.r 1<|.bp ((k+lsZ nmZ a.names)< 0) (fun ab=>.d<|.ct<|.s<|.g<|.r 1<|.d<|T.rt func80 results80 (vI (-1)) ⟨(congrArg (Value.int .i64) (by (exfalso; have q0:=p2; unfold DS at q0; have:=Ac Ce a.names; have:=Ac EL a.AX; omega))),Z.xt⟩) fun ab=>.d<|.cf<|.sk<|.s<|.g<|.r 1<|RG.Lb 0 Z<|.r 1<|RG.C0 (KS a.AX (k+lsZ nmZ a.names) (Z.a 0) p0.2 (by have q0:=p2; unfold DS at q0; have:=Ac Ce a.names; have:=Ac EL a.AX; omega) (by have q0:=p2; unfold DS at q0; have:=Ac Ce a.names; have:=Ac EL a.AX; omega)) Z fun w Z=>.r 1<|.d<|.s<|.s<|.g<|.r 1<|.bp (((k+lsZ nmZ a.names)+lsZ CA a.AX)< 0) (fun ac=>.d<|.ct<|.s<|.g<|.r 1<|.d<|T.rt func80 results80 (vI (-1)) ⟨(congrArg (Value.int .i64) (by (exfalso; have q0:=p2; unfold DS at q0; have:=Ac Ce a.names; have:=Ac EL a.AX; omega))),Z.xt⟩) fun ac=>.d<|.cf<|.sk<|.s<|.g<|.r 2<|.d<|T.rt func80 results80 (vI ((k+lsZ nmZ a.names)+lsZ CA a.AX)) ⟨(congrArg (Value.int .i64) (by (unfold DS; omega))),Z.xt⟩
theorem KV (a:Sto) (k:Int) (h1:RepS w F a1 n1 c1 a.idx.names) (h2:RepS w F a2 n2 c2 a.idx.AX) (h3:RepS w F a3 n3 c3 a.parts) (h4:RepS w F a4 n4 c4 a.mem) (p0:X8 a k) (p1:1≤k) (p2:k+Dt a≤4611686018427387904):Calls Tryz.prog 32 [.agg #[.slice a1 n1 c1,.slice a2 n2 c2,.slice a3 n3 c3,.slice a4 n4 c4],.int .i64 k].toArray w (Af fun rv w'=>rv=.int .i64 ((k+Dt a))∧Ext w w'):=by
 cases h1.len
 cases h2.len
 cases h3.len
 cases h4.len
 refine goT func32 ?_
 have Z:=((((St.i0 F w).p h1).p h2).p h3).p h4
 exact .s<|.g<|RG.Np Z fun aj w Z=>.r 1<|.d<|.s<|.g<|.r 1<|RG.Ln 0 Z<|.r 1<|RG.C0 (KU a.idx k (Z.a 3) (Z.a 2) p0.1 (by have q0:=p2; unfold Dt at q0; have:=FP a.idx; have:=Ac Dv a.parts; have:=Ac Du a.mem; omega) (by have q0:=p2; unfold Dt at q0; have:=FP a.idx; have:=Ac Dv a.parts; have:=Ac Du a.mem; omega)) Z fun w Z=>.r 1<|.d<|.s<|.s<|.g<|.r 1<|.bp ((k+DS a.idx)< 0) (fun ab=>.d<|.ct<|.s<|.g<|.r 1<|.d<|T.rt func32 results32 (vI (-1)) ⟨(congrArg (Value.int .i64) (by (exfalso; have q0:=p2; unfold Dt at q0; have:=FP a.idx; have:=Ac Dv a.parts; have:=Ac Du a.mem; omega))),Z.xt⟩) fun ab=>.d<|.cf<|.sk<|.s<|.g<|.r 1<|RG.Lb 0 Z<|.r 1<|RG.C0 (KR a.parts (k+DS a.idx) (Z.a 1) p0.2.1 (by have q0:=p2; unfold Dt at q0; have:=FP a.idx; have:=Ac Dv a.parts; have:=Ac Du a.mem; omega) (by have q0:=p2; unfold Dt at q0; have:=FP a.idx; have:=Ac Dv a.parts; have:=Ac Du a.mem; omega)) Z fun w Z=>.r 1<|.d<|.s<|.s<|.g<|.r 1<|.bp (((k+DS a.idx)+lsZ Bm a.parts)< 0) (fun ac=>.d<|.ct<|.s<|.g<|.r 1<|.d<|T.rt func32 results32 (vI (-1)) ⟨(congrArg (Value.int .i64) (by (exfalso; have q0:=p2; unfold Dt at q0; have:=FP a.idx; have:=Ac Dv a.parts; have:=Ac Du a.mem; omega))),Z.xt⟩) fun ac=>.d<|.cf<|.sk<|.s<|.g<|.r 1<|RG.Lb 0 Z<|.r 1<|RG.C0 (Iw a.mem ((k+DS a.idx)+lsZ Bm a.parts) (Z.a 0) p0.2.2 (by have q0:=p2; unfold Dt at q0; have:=FP a.idx; have:=Ac Dv a.parts; have:=Ac Du a.mem; omega) (by have q0:=p2; unfold Dt at q0; have:=FP a.idx; have:=Ac Dv a.parts; have:=Ac Du a.mem; omega)) Z fun w Z=>.r 1<|.d<|.s<|.s<|.g<|.r 1<|.bp ((((k+DS a.idx)+lsZ Bm a.parts)+lsZ CW a.mem)< 0) (fun ae=>.d<|.ct<|.s<|.g<|.r 1<|.d<|T.rt func32 results32 (vI (-1)) ⟨(congrArg (Value.int .i64) (by (exfalso; have q0:=p2; unfold Dt at q0; have:=FP a.idx; have:=Ac Dv a.parts; have:=Ac Du a.mem; omega))),Z.xt⟩) fun ae=>.d<|.cf<|.sk<|.s<|.g<|.r 2<|.d<|T.rt func32 results32 (vI (((k+DS a.idx)+lsZ Bm a.parts)+lsZ CW a.mem)) ⟨(congrArg (Value.int .i64) (by (unfold Dt; omega))),Z.xt⟩
theorem LC (a:Dsk) (k:Int) (h1:RepS w F a1 n1 c1 a.files) (h2:RepS w F a2 n2 c2 a.list) (h3:RepS w F a3 n3 c3 a.names) (p0:X9 a k) (p1:1≤k) (p2:k+Et a≤4611686018427387904):Calls Tryz.prog 33 [.agg #[.slice a1 n1 c1,.slice a2 n2 c2,.slice a3 n3 c3,.int .i64 a.next],.int .i64 k].toArray w (Af fun rv w'=>rv=.int .i64 ((k+Et a))∧Ext w w'):=by
 cases h1.len
 cases h2.len
 cases h3.len
 refine goT func33 ?_
 have Z:=(((St.i0 F w).p h1).p h2).p h3
 exact .s<|.g<|RG.Np Z fun ai w Z=>.r 1<|.d<|.s<|.g<|.r 1<|RG.Lb 0 Z<|.r 1<|RG.C0 (KT a.files k (Z.a 2) p0.1 (by have q0:=p2; unfold Et at q0; have:=Ac Dw a.files; have:=Ac Bs a.list; have:=Ac Ce a.names; omega) (by have q0:=p2; unfold Et at q0; have:=Ac Dw a.files; have:=Ac Bs a.list; have:=Ac Ce a.names; omega)) Z fun w Z=>.r 1<|.d<|.s<|.s<|.g<|.r 1<|.bp ((k+lsZ Bq a.files)< 0) (fun ab=>.d<|.ct<|.s<|.g<|.r 1<|.d<|T.rt func33 results33 (vI (-1)) ⟨(congrArg (Value.int .i64) (by (exfalso; have q0:=p2; unfold Et at q0; have:=Ac Dw a.files; have:=Ac Bs a.list; have:=Ac Ce a.names; omega))),Z.xt⟩) fun ab=>.d<|.cf<|.sk<|.s<|.g<|.r 1<|RG.Lb 0 Z<|.r 1<|RG.C0 (Dk a.list (k+lsZ Bq a.files) (Z.a 1) p0.2.1 (by have q0:=p2; unfold Et at q0; have:=Ac Dw a.files; have:=Ac Bs a.list; have:=Ac Ce a.names; omega) (by have q0:=p2; unfold Et at q0; have:=Ac Dw a.files; have:=Ac Bs a.list; have:=Ac Ce a.names; omega)) Z fun w Z=>.r 1<|.d<|.s<|.s<|.g<|.r 1<|.bp (((k+lsZ Bq a.files)+lsZ BQ a.list)< 0) (fun ac=>.d<|.ct<|.s<|.g<|.r 1<|.d<|T.rt func33 results33 (vI (-1)) ⟨(congrArg (Value.int .i64) (by (exfalso; have q0:=p2; unfold Et at q0; have:=Ac Dw a.files; have:=Ac Bs a.list; have:=Ac Ce a.names; omega))),Z.xt⟩) fun ac=>.d<|.cf<|.sk<|.s<|.g<|.r 1<|RG.Lb 0 Z<|.r 1<|RG.C0 (GO a.names ((k+lsZ Bq a.files)+lsZ BQ a.list) (Z.a 0) p0.2.2 (by have q0:=p2; unfold Et at q0; have:=Ac Dw a.files; have:=Ac Bs a.list; have:=Ac Ce a.names; omega) (by have q0:=p2; unfold Et at q0; have:=Ac Dw a.files; have:=Ac Bs a.list; have:=Ac Ce a.names; omega)) Z fun w Z=>.r 1<|.d<|.s<|.s<|.g<|.r 1<|.bp ((((k+lsZ Bq a.files)+lsZ BQ a.list)+lsZ nmZ a.names)< 0) (fun ae=>.d<|.ct<|.s<|.g<|.r 1<|.d<|T.rt func33 results33 (vI (-1)) ⟨(congrArg (Value.int .i64) (by (exfalso; have q0:=p2; unfold Et at q0; have:=Ac Dw a.files; have:=Ac Bs a.list; have:=Ac Ce a.names; omega))),Z.xt⟩) fun ae=>.d<|.cf<|.sk<|.s<|.g<|.r 2<|.d<|T.rt func33 results33 (vI (((k+lsZ Bq a.files)+lsZ BQ a.list)+lsZ nmZ a.names)) ⟨(congrArg (Value.int .i64) (by (unfold Et; omega))),Z.xt⟩
theorem KW (a:Wld) (k:Int) (h1:RepS w F a1 n1 c1 a.store.idx.names) (h2:RepS w F a2 n2 c2 a.store.idx.AX) (h3:RepS w F a3 n3 c3 a.store.parts) (h4:RepS w F a4 n4 c4 a.store.mem) (h5:RepS w F a5 n5 c5 a.disk.files) (h6:RepS w F a6 n6 c6 a.disk.list) (h7:RepS w F a7 n7 c7 a.disk.names) (p0:YA a k) (p1:1≤k) (p2:k+D8 a≤4611686018427387904):Calls Tryz.prog 13 [.agg #[.slice a1 n1 c1,.slice a2 n2 c2,.slice a3 n3 c3,.slice a4 n4 c4,.slice a5 n5 c5,.slice a6 n6 c6,.slice a7 n7 c7,.int .i64 a.disk.next],.int .i64 k].toArray w (Af fun rv w'=>rv=.int .i64 ((k+D8 a))∧Ext w w'):=by
 cases h1.len
 cases h2.len
 cases h3.len
 cases h4.len
 cases h5.len
 cases h6.len
 cases h7.len
 refine goT func13 ?_
 have Z:=(((((((St.i0 F w).p h1).p h2).p h3).p h4).p h5).p h6).p h7
 exact .s<|.g<|RG.Np Z fun am w Z=>.r 1<|.d<|.s<|.g<|.r 1<|RG.Ln 0 Z<|.r 1<|RG.C0 (KV a.store k (Z.a 6) (Z.a 5) (Z.a 4) (Z.a 3) p0.1 (by have q0:=p2; unfold D8 at q0; have:=HS a.store; have:=HT a.disk; omega) (by have q0:=p2; unfold D8 at q0; have:=HS a.store; have:=HT a.disk; omega)) Z fun w Z=>.r 1<|.d<|.s<|.s<|.g<|.r 1<|.bp ((k+Dt a.store)< 0) (fun ab=>.d<|.ct<|.s<|.g<|.r 1<|.d<|T.rt func13 results13 (vI (-1)) ⟨(congrArg (Value.int .i64) (by (exfalso; have q0:=p2; unfold D8 at q0; have:=HS a.store; have:=HT a.disk; omega))),Z.xt⟩) fun ab=>.d<|.cf<|.sk<|.s<|.g<|.r 1<|RG.Ln 0 Z<|.r 1<|RG.C0 (LC a.disk (k+Dt a.store) (Z.a 2) (Z.a 1) (Z.a 0) p0.2 (by have q0:=p2; unfold D8 at q0; have:=HS a.store; have:=HT a.disk; omega) (by have q0:=p2; unfold D8 at q0; have:=HS a.store; have:=HT a.disk; omega)) Z fun w Z=>.r 1<|.d<|.s<|.s<|.g<|.r 1<|.bp (((k+Dt a.store)+Et a.disk)< 0) (fun ac=>.d<|.ct<|.s<|.g<|.r 1<|.d<|T.rt func13 results13 (vI (-1)) ⟨(congrArg (Value.int .i64) (by (exfalso; have q0:=p2; unfold D8 at q0; have:=HS a.store; have:=HT a.disk; omega))),Z.xt⟩) fun ac=>.d<|.cf<|.sk<|.s<|.g<|.r 2<|.d<|T.rt func13 results13 (vI ((k+Dt a.store)+Et a.disk)) ⟨(congrArg (Value.int .i64) (by (unfold D8; omega))),Z.xt⟩
end Go.Proofs.YtcginoabkicdiaaGreat
namespace Go.Proofs.YtcginoabkicdiaaGreat
def doX (w:Wld) (e:Evt):Wld:=if ftW w.disk w.store then doW w e else W1
theorem R8 {w:Wld}{e:Evt}(h:ftW w.disk w.store=true):doX w e=doW w e:=by unfold doX; rw [if_pos h]
theorem Xf {w:Wld}{e:Evt}(h:ftW w.disk w.store=false):doX w e=W1:=by unfold doX; rw [if_neg (by simp [h])]
theorem wvX {w:Wld}(h:ftW w.disk w.store=true):WV w:=by
 obtain ⟨h1,h2⟩:=pR h
 have q:=Ci h1
 have v:=Cc.1 q.dk
 have d:=P4 q.dk
 have s:=He (s:=w.store) (by rw [h2,q.sk]; rfl)
 have hd:DskI w.disk:=⟨(Cn q.dk).1,v.nf,d.file,v.nl,v.at_,fun n hn=>by have:=v.lt n hn; have:=v.next; omega,v.next⟩
 have hs:StoI w.store:=⟨s.idx,s.nm,s.np,s.part,(HY.1 q.sk).2.1,fun m hm=>by
  have:=(StoK.of s q.sk).id m hm
  exact ⟨this.1,this.2,(StoK.of s q.sk).row m hm⟩⟩
 exact ⟨⟨⟨hs,hd⟩,s.nd,d.g.nd⟩,v,q.sk,q.p,q.m⟩
theorem VC {α:Type}{z:α→Int}{B:Int}(hB:0≤B):∀ {l:List α},(∀ x∈l,z x≤B)→lsZ z l≤l.length * B
 | [],_=>by show (0:Int)≤_; simp
 | x :: l, h => by
   have h1:=VC hB (l:=l) (fun y hy=>h y (.tail _ hy))
   have h2:=h x AI
   show z x+lsZ z l≤_
   rw [List.length_cons]
   have:((l.length+1:Nat):Int) * B=l.length * B+B:=by push_cast; rw [Int.add_mul]; omega
   omega
theorem Hl {α:Type}{z:α→Int}{B m:Nat}{l:List α}(h:∀ x∈l,z x≤B) (hm:l.length≤m):lsZ z l≤(m * B:Nat):=by
 have h1:=VC (B:=B) AB h
 have h2:l.length * B≤m * B:=Nat.mul_le_mul_right _ hm
 have h3:((l.length:Int) * (B:Int))=((l.length * B:Nat):Int):=by push_cast; rfl
 omega
theorem Ki {α:Type}{z:α→Int}{f:α→Nat}(h:∀ x,z x≤3+3 * (f x:Int)):∀ l:List α,lsZ z l≤3 * (mL f l:Nat)
 | []=>by show (0:Int)≤_; omega
 | x :: l => by
   have h1:=Ki h l
   have h2:=h x
   show z x+lsZ z l≤_
   have h3:mL f (x::l)=1+f x+mL f l:=by unfold mL Fu; simp only [List.length_cons,List.map_cons,List.sum_cons]; omega
   rw [h3]
   omega
theorem R9 {α:Type}{z:α→Int}(h:∀ x,z x≤3):∀ l:List α,lsZ z l≤3 * (l.length:Nat)
 | []=>by show (0:Int)≤_; omega
 | x :: l => by
   have h1:=R9 h l
   have h2:=h x
   show z x+lsZ z l≤_
   rw [List.length_cons]
   omega
theorem VF (n:List Tag):nmZ n≤3 * (mNm n:Nat):=Ki (fun x=>by unfold CJ; omega) n
theorem On (l:List Int):lsZ BQ l≤3 * (mIs l:Nat):=R9 (fun x=>by unfold BQ; omega) l
theorem lI (l:List Row):blZ l≤3 * (mRw l:Nat):=R9 (fun x=>by unfold Cq; omega) l
theorem VG (p:Prt):Bm p≤3 * (mPt p:Nat):=by
 have h1:=On p.ids
 have h2:lsZ blZ p.blocks≤3 * (PU p.blocks:Nat):=Ki (fun x=>by have:=lI x; omega) _
 unfold Bm mPt
 omega
theorem VH (w:Wld):D8 w≤3 * (mWd w:Nat):=by
 have h1:lsZ nmZ w.store.idx.names≤3 * (mNs w.store.idx.names:Nat):=Ki (fun x=>by have:=VF x; omega) _
 have h2:lsZ CA w.store.idx.AX≤3 * (PT w.store.idx.AX:Nat):=Ki (fun x=>by have:=On x.ids; unfold CA mPo; omega) _
 have h3:lsZ Bm w.store.parts≤3 * (M5 w.store.parts:Nat):=Ki (fun x=>by have:=VG x; omega) _
 have h4:lsZ CW w.store.mem≤3 * (mSm w.store.mem:Nat):=R9 (fun x=>by unfold CW; omega) _
 have h5:lsZ Bq w.disk.files≤3 * (Kv w.disk.files:Nat):=Ki (fun x=>by have:=VG x.part; unfold Bq mFl; omega) _
 have h6:=On w.disk.list
 have h7:lsZ nmZ w.disk.names≤3 * (mNs w.disk.names:Nat):=Ki (fun x=>by have:=VF x; omega) _
 unfold D8 Dt Et DS mWd mSt mDk mIx
 omega
theorem lJ {n:List Tag}(h:NmD n):nmZ n≤(5 * 2:Nat):=Hl (fun _ _=>by unfold CJ; omega) h.1
theorem Xg {ns:List (List Tag)}(h:NsD ns){m:Nat}(hl:ns.length≤m):lsZ nmZ ns≤(m * (5 * 2):Nat):=Hl (fun x hx=>lJ (h x hx)) hl
theorem VI {p:Prt}(h:PrtI p):Bm p≤(1000000:Nat):=by
 have h1:lsZ BQ p.ids≤(6 * 1:Nat):=Hl (fun _ _=>by unfold BQ; omega) (by rw [h.len]; exact h.le)
 have h2:lsZ blZ p.blocks≤(6 * (1000 * 2):Nat):=Hl (fun b hb=>Hl (fun _ _=>by unfold Cq; omega) ((h.sz.2.2) b hb)) h.le
 unfold Bm
 omega
theorem Yw {w:Wld}(h:WV w):D8 w≤1000000000000:=by
 have s:=h.sd
 have d:=h.dd
 have h1:=Xg s.nd (m:=6) s.nm.len
 have h2:lsZ CA w.store.idx.AX≤(44 * 8:Nat):=by
  have e:=s.ix.AX
  rw [e]
  refine Hl (fun p hp=>?_) (Nf _)
  have q:=(Hx hp).1
  have q1:=I7 w.store.idx.names p.tag
  have q2:=s.nm.len
  have q3:lsZ BQ p.ids≤(6 * 1:Nat):=Hl (fun _ _=>by unfold BQ; omega) (by rw [q]; omega)
  unfold CA
  omega
 have h3:lsZ Bm w.store.parts≤(6 * 1000000:Nat):=Hl (fun p hp=>VI (s.part p hp)) s.np
 have h4:lsZ CW w.store.mem≤(21 * 3:Nat):=Hl (fun _ _=>by unfold CW; omega) s.nm2
 have h5:lsZ Bq w.disk.files≤(20 * 1000001:Nat):=Hl (fun f hf=>by have:=VI (d.file f hf); unfold Bq; omega) d.nf
 have h6:lsZ BQ w.disk.list≤(7 * 1:Nat):=Hl (fun _ _=>by unfold BQ; omega) d.nl
 have h7:=Xg d.g.nd (m:=6) h.wd.wi.dsk.nm.len
 unfold D8 Dt Et DS
 omega
theorem Yx:D8 W1=0:=rfl
theorem Yy (w:Wld) (e:Evt):D8 (doX w e)≤1000000000000:=by
 unfold doX
 split
 ·rename_i h
  exact Yw ((wvX h).doA e)
 ·rw [Yx]; omega
end Go.Proofs.YtcginoabkicdiaaGreat
namespace Go.Proofs.YtcginoabkicdiaaGreat
set_option maxRecDepth 100000
set_option maxHeartbeats 4000000
variable {w:World} {F:Nat→Prop} {a1 a2 a3 a4 a5 a6 a7 a8:Option Addr} {n1 c1 n2 c2 n3 c3 n4 c4 n5 c5 n6 c6 n7 c7 n8 c8:Nat}
theorem NL (w_:Wld) (e:Evt) (h1:RepS w F a1 n1 c1 w_.store.idx.names) (h2:RepS w F a2 n2 c2 w_.store.idx.AX) (h3:RepS w F a3 n3 c3 w_.store.parts) (h4:RepS w F a4 n4 c4 w_.store.mem) (h5:RepS w F a5 n5 c5 w_.disk.files) (h6:RepS w F a6 n6 c6 w_.disk.list) (h7:RepS w F a7 n7 c7 w_.disk.names) (h8:RepS w F a8 n8 c8 e.name) (p0:WI w_):Calls Tryz.prog 23 [.agg #[.slice a1 n1 c1,.slice a2 n2 c2,.slice a3 n3 c3,.slice a4 n4 c4,.slice a5 n5 c5,.slice a6 n6 c6,.slice a7 n7 c7,.int .i64 w_.disk.next],.agg #[.int .i64 e.kind,.int .i64 e.at_,.int .i64 e.cut,.slice a8 n8 c8,.int .i64 e.row.t,.int .i64 e.row.v]].toArray w (Af fun rv w'=>VS (fo F w.heap.size) w' (doW w_ e:Wld) rv∧Ext w w'):=by
 cases h1.len
 cases h2.len
 cases h3.len
 cases h4.len
 cases h5.len
 cases h6.len
 cases h7.len
 cases h8.len
 refine goT func23 ?_
 have Z:=((((((((St.i0 F w).p h1).p h2).p h3).p h4).p h5).p h6).p h7).p h8
 have af:=h1.max
 have ah:=h3.max
 have ai:=h4.max
 have ak:=h6.max
 have am:=h7.max
 refine .s<|.g<|RG.Np Z fun aI w Z=>RG.Np Z fun aJ w Z=>RG.Np Z fun aK w Z=>.d<|.s<|.s<|.g<|.r 1<|RG.Lb 1 Z<|.d<|.b 0<|.s<|.g<|.eq e.kind 1 (fun aa=>?_) (fun aa=>.r 1<|.d<|.cf<|.s<|.g<|.eq e.kind 2 (fun ab=>.r 1<|.d<|.ct<|.s<|.g<|.r 1<|RG.Ln 2 Z<|RG.CT (us:=[.bool ((BE w_.store).2)]) (Kp w_.store (Z.mg 1 7) (Z.mg 1 6) (Z.mg 1 5) (Z.mg 1 4) (by have:=p0.sto.nm2; omega) p0.sto.Jq) Z fun aL aM aN aO aP aQ aR aS w Z=>.r 3<|RG.Np Z fun aT w Z=>RG.Ss 0 Z fun w Z=>.r 1<|.d<|.s<|T.Gd 9 Z fun w Z=>GA.Ln 0 3 Z<|.r [1]<|GA.Ln 2 3 Z<|.r [3]<|GA.Ln 4 3 Z<|.r [6]<|GA.Lb 7 2 Z<|GA.Ln 8 0 Z<|.go 5<|GE.CL (fun w Z=>Ks w_.disk w_.store (Z.a 7) (Z.a 6) (Z.a 5) (Z.a 11) (Z.a 10) (Z.a 9) (Z.a 8) (by have:=p0.sto.nm2; omega) p0.sto.Jq (by have:=p0.dsk.nl; omega) (by have:=p0.sto.nm.len; omega) (fun n hn=>(p0.sto.nm.sz n hn).1)) Z fun aU aV w Z=>GA.Dn Z fun w Z=>RG.CS (Gq w_ (BF w_.disk w_.store) e.cut (⟨(⟨(BE w_.store).1.idx.names,((BE w_.store).1.idx).AX⟩:Idx),(BE w_.store).1.parts,(BE w_.store).1.mem⟩:Sto) (Z.mg 1 12) (Z.mg 1 11) (Z.mg 1 10) (Z.mg 1 9) (Z.mg 1 8) (Z.mg 1 7) (Z.mg 1 6) (Z.mg 1 0) (Z.mg 1 1) (Z.mg 1 2) (Z.mg 1 3) (Z.mg 1 4) p0 (by exact StI.flush p0) (by exact p0.sto.flush)) Z fun aW aX aY aZ ba bg bh bi bj bk bm bn bo bq w Z=>RG.Ss 1 Z fun w Z=>.d<|T.Rb 1 func23 results23 Z ⟨Z.rS (g:=1) (⟨(⟨(⟨(((Bo w_ (BF w_.disk w_.store) e.cut (⟨(⟨(BE w_.store).1.idx.names,((BE w_.store).1.idx).AX⟩:Idx),(BE w_.store).1.parts,(BE w_.store).1.mem⟩:Sto)).store).idx).names,(((Bo w_ (BF w_.disk w_.store) e.cut (⟨(⟨(BE w_.store).1.idx.names,((BE w_.store).1.idx).AX⟩:Idx),(BE w_.store).1.parts,(BE w_.store).1.mem⟩:Sto)).store).idx).AX⟩:Idx),((Bo w_ (BF w_.disk w_.store) e.cut (⟨(⟨(BE w_.store).1.idx.names,((BE w_.store).1.idx).AX⟩:Idx),(BE w_.store).1.parts,(BE w_.store).1.mem⟩:Sto)).store).parts,((Bo w_ (BF w_.disk w_.store) e.cut (⟨(⟨(BE w_.store).1.idx.names,((BE w_.store).1.idx).AX⟩:Idx),(BE w_.store).1.parts,(BE w_.store).1.mem⟩:Sto)).store).mem⟩:Sto),(⟨((Bo w_ (BF w_.disk w_.store) e.cut (⟨(⟨(BE w_.store).1.idx.names,((BE w_.store).1.idx).AX⟩:Idx),(BE w_.store).1.parts,(BE w_.store).1.mem⟩:Sto)).disk).files,((Bo w_ (BF w_.disk w_.store) e.cut (⟨(⟨(BE w_.store).1.idx.names,((BE w_.store).1.idx).AX⟩:Idx),(BE w_.store).1.parts,(BE w_.store).1.mem⟩:Sto)).disk).list,((Bo w_ (BF w_.disk w_.store) e.cut (⟨(⟨(BE w_.store).1.idx.names,((BE w_.store).1.idx).AX⟩:Idx),(BE w_.store).1.parts,(BE w_.store).1.mem⟩:Sto)).disk).names,((Bo w_ (BF w_.disk w_.store) e.cut (⟨(⟨(BE w_.store).1.idx.names,((BE w_.store).1.idx).AX⟩:Idx),(BE w_.store).1.parts,(BE w_.store).1.mem⟩:Sto)).disk).next⟩:Dsk)⟩:Wld) [0,1,2,3,4,5,6] (by (rw [PH ‹_›])),Z.xt⟩) fun ab=>.r 1<|.d<|.cf<|.s<|.g<|.eq e.kind 3 (fun ac=>.r 1<|.d<|.ct<|.s<|.g<|.r 1<|RG.Ln 2 Z<|.r 1<|RG.Lb 1 Z<|RG.CT (us:=[.bool ((BI w_.store e.at_).2)]) (Kq w_.store e.at_ (Z.mg 1 7) (Z.mg 1 6) (Z.mg 1 5) (Z.mg 1 4) (by have:=p0.sto.np; omega) (fun p hp=>(p0.sto.part p hp).sz)) Z fun br bu bv bw bz bA bC bD w Z=>.r 3<|RG.Np Z fun bE w Z=>RG.Ss 0 Z fun w Z=>.r 1<|.d<|.s<|T.Gd 9 Z fun w Z=>GA.Ln 0 3 Z<|.r [1]<|GA.Ln 2 3 Z<|.r [3]<|GA.Lb 4 2 Z<|.r [6]<|GA.Lb 7 2 Z<|GA.Ln 8 0 Z<|.go 5<|GE.CL (fun w Z=>Kt w_.disk e.at_ (Z.a 7) (Z.a 6) (Z.a 5) (by have:=p0.dsk.nm.len; omega) (fun n hn=>(p0.dsk.nm.sz n hn).1) (by have:=p0.dsk.nl; omega) p0.dsk.at (fun f hf=>(p0.dsk.file f hf).sz)) Z fun bF bG w Z=>GA.Dn Z fun w Z=>RG.CS (Gq w_ (BG w_.disk e.at_) e.cut (⟨(⟨(BI w_.store e.at_).1.idx.names,((BI w_.store e.at_).1.idx).AX⟩:Idx),(BI w_.store e.at_).1.parts,(BI w_.store e.at_).1.mem⟩:Sto) (Z.mg 1 12) (Z.mg 1 11) (Z.mg 1 10) (Z.mg 1 9) (Z.mg 1 8) (Z.mg 1 7) (Z.mg 1 6) (Z.mg 1 0) (Z.mg 1 1) (Z.mg 1 2) (Z.mg 1 3) (Z.mg 1 4) p0 (by exact StI.merge p0.dsk _) (by exact p0.sto.merge _)) Z fun bH bI bJ bK bL bM bN bO bP bQ bR bS bT bU w Z=>RG.Ss 1 Z fun w Z=>.d<|T.Rb 1 func23 results23 Z ⟨Z.rS (g:=1) (⟨(⟨(⟨(((Bo w_ (BG w_.disk e.at_) e.cut (⟨(⟨(BI w_.store e.at_).1.idx.names,((BI w_.store e.at_).1.idx).AX⟩:Idx),(BI w_.store e.at_).1.parts,(BI w_.store e.at_).1.mem⟩:Sto)).store).idx).names,(((Bo w_ (BG w_.disk e.at_) e.cut (⟨(⟨(BI w_.store e.at_).1.idx.names,((BI w_.store e.at_).1.idx).AX⟩:Idx),(BI w_.store e.at_).1.parts,(BI w_.store e.at_).1.mem⟩:Sto)).store).idx).AX⟩:Idx),((Bo w_ (BG w_.disk e.at_) e.cut (⟨(⟨(BI w_.store e.at_).1.idx.names,((BI w_.store e.at_).1.idx).AX⟩:Idx),(BI w_.store e.at_).1.parts,(BI w_.store e.at_).1.mem⟩:Sto)).store).parts,((Bo w_ (BG w_.disk e.at_) e.cut (⟨(⟨(BI w_.store e.at_).1.idx.names,((BI w_.store e.at_).1.idx).AX⟩:Idx),(BI w_.store e.at_).1.parts,(BI w_.store e.at_).1.mem⟩:Sto)).store).mem⟩:Sto),(⟨((Bo w_ (BG w_.disk e.at_) e.cut (⟨(⟨(BI w_.store e.at_).1.idx.names,((BI w_.store e.at_).1.idx).AX⟩:Idx),(BI w_.store e.at_).1.parts,(BI w_.store e.at_).1.mem⟩:Sto)).disk).files,((Bo w_ (BG w_.disk e.at_) e.cut (⟨(⟨(BI w_.store e.at_).1.idx.names,((BI w_.store e.at_).1.idx).AX⟩:Idx),(BI w_.store e.at_).1.parts,(BI w_.store e.at_).1.mem⟩:Sto)).disk).list,((Bo w_ (BG w_.disk e.at_) e.cut (⟨(⟨(BI w_.store e.at_).1.idx.names,((BI w_.store e.at_).1.idx).AX⟩:Idx),(BI w_.store e.at_).1.parts,(BI w_.store e.at_).1.mem⟩:Sto)).disk).names,((Bo w_ (BG w_.disk e.at_) e.cut (⟨(⟨(BI w_.store e.at_).1.idx.names,((BI w_.store e.at_).1.idx).AX⟩:Idx),(BI w_.store e.at_).1.parts,(BI w_.store e.at_).1.mem⟩:Sto)).disk).next⟩:Dsk)⟩:Wld) [0,1,2,3,4,5,6] (by (rw [PI ‹_›])),Z.xt⟩) fun ac=>.r 1<|.d<|.cf<|.s<|.g<|.eq e.kind 4 (fun ae=>.r 1<|.d<|.ct<|.s<|.g<|RG.Ln 2 Z<|RG.CS (HN w_ (Z.a 7) (Z.a 6) (Z.a 5) (Z.a 4) (Z.a 3) (Z.a 2) (Z.a 1) p0.dsk) Z fun bV bW aq ar ax ay az aA aB aC aD aE aF aG w Z=>RG.Ss 0 Z fun w Z=>.d<|T.Rb 0 func23 results23 Z ⟨Z.rS (g:=1) (⟨(⟨(⟨(BY w_).store.idx.names,((BY w_).store.idx).AX⟩:Idx),(BY w_).store.parts,(BY w_).store.mem⟩:Sto),(⟨(BY w_).disk.files,(BY w_).disk.list,(BY w_).disk.names,(BY w_).disk.next⟩:Dsk)⟩:Wld) [0,1,2,3,4,5,6] (by (rw [TW ‹_›])),Z.xt⟩) fun ae=>.r 1<|.d<|.cf<|.sk<|.ib 0<|.s<|.g<|RG.Ln 2 Z<|RG.Ss 0 Z fun w Z=>.d<|T.Rb 0 func23 results23 Z ⟨Z.rS (g:=1) w_ [7,6,5,4,3,2,1] (by (rw [TX ‹_› ‹_› ‹_› ‹_›])),Z.xt⟩)
 refine .r 1<|.d<|.ct<|.s<|.g<|.r 1<|RG.Lb 1 Z<|RG.C0 (Fo e.name (Z.a 0)) Z fun w Z=>?_
 cases aH:(As e.name)
 ·exact .d<|.cf<|.sk<|.ib 0<|.s<|.g<|RG.Ln 2 Z<|RG.Ss 0 Z fun w Z=>.d<|T.Rb 0 func23 results23 Z ⟨Z.rS (g:=1) w_ [7,6,5,4,3,2,1] (by (rw [OX ‹_› ‹_›])),Z.xt⟩
 exact .d<|.ct<|.s<|.g<|.r 1<|RG.Ln 2 Z<|.r 1<|RG.Lb 1 Z<|.r 1<|RG.Ln 1 Z<|RG.CT (us:=[.bool ((Ch w_.store e.name e.row).2)]) (M3 w_.store e.name e.row (Z.mg 1 7) (Z.mg 1 6) (Z.mg 1 5) (Z.mg 1 4) (Z.mg 1 0) p0.sto.sz (FE ‹_›).2) Z fun bX bY bZ b7 b8 b9 cd ce w Z=>.r 3<|RG.Np Z fun cg w Z=>RG.Ss 0 Z fun w Z=>.r 1<|.d<|.g<|RG.Ln 0 Z<|.r 1<|RG.Ss 3 Z fun w Z=>.d<|.ib 0<|.s<|.g<|RG.Ln 3 Z<|RG.Ss 1 Z fun w Z=>.d<|T.Rb 1 func23 results23 Z ⟨Z.rS (g:=1) (⟨(⟨(⟨(Ch w_.store e.name e.row).1.idx.names,((Ch w_.store e.name e.row).1.idx).AX⟩:Idx),(Ch w_.store e.name e.row).1.parts,(Ch w_.store e.name e.row).1.mem⟩:Sto),(⟨w_.disk.files,w_.disk.list,w_.disk.names,w_.disk.next⟩:Dsk)⟩:Wld) [0,1,2,3,7,6,5] (by (rw [Rc ‹_› ‹_›])),Z.xt⟩
end Go.Proofs.YtcginoabkicdiaaGreat
namespace Go.Proofs.YtcginoabkicdiaaGreat
set_option maxRecDepth 100000
set_option maxHeartbeats 4000000
theorem rfx {α:Type}[Rep α] {w w':World}{F:Nat→Prop}{x:α}{cs:List Value}(h:Rep.rep w F x cs) (hx:Ext w w'):Rep.rep w' F x cs:=Rep.frame h fun _ hb hF=>⟨hF,hx.block hb⟩
theorem rwk {α:Type}[Rep α] {w:World}{F F':Nat→Prop}{x:α}{cs:List Value}(h:Rep.rep w F x cs) (hf:∀ b,F b→F' b):Rep.rep w F' x cs:=Rep.frame h fun b _ hF=>⟨hf b hF,rfl⟩
theorem Own.re {α:Type}[Rep α] {w:World}{r t n c s:Nat}{M:List Nat}{xs:List α}(h:Own w r t (nin (ge s) M) n c xs) (hr:s≤r):RepS w (ge s) (some ⟨r,0,none⟩) n c xs:=h.QQ (fun _ _ hb=>hb.1) hr
theorem RepS.mi {α:Type}[Rep α] {w:World}{a:Option Addr}{n c s:Nat}{M:List Nat}{xs:List α}(h:RepS w (nin (ge s) M) a n c xs):RepS w (ge s) a n c xs:=h.Bj fun _ _ hb=>hb.1
section
variable {x:Wld} {e:Evt} {w:World} {F:Nat→Prop} {cs cs':List Value}
theorem VJ (h:Rep.rep w F x cs) (p:WI x):Calls Tryz.prog 24 [.agg cs.toArray].toArray w (Af fun rv w'=>VS (ge w.heap.size) w' (Ex x) rv∧Ext w w'):=by
 obtain ⟨a0,n0,c0,a1,n1,c1,a2,n2,c2,a3,n3,c3,a4,n4,c4,a5,n5,c5,a6,n6,c6,rfl,r0,r1,r2,r3,r4,r5,r6⟩:=h
 refine (Lz x r0 r1 r2 r3 r4 r5 r6 p).mono ?_
 rintro q w' ⟨v,rfl,⟨b0,m0,d0,b1,m1,d1,b2,m2,d2,b3,m3,d3,b4,m4,d4,b5,m5,d5,b6,m6,d6,e1,s0,s1,s2,s3,t3,s4,t4,_,s5,t5,_,_,s6,t6,_⟩,hx⟩
 exact ⟨v,rfl,⟨_,e1,_,_,_,_,_,_,_,_,_,_,_,_,_,_,_,_,_,_,_,_,_,rfl,s0.mi,s1.mi,s2.mi,s3.re t3,s4.re t4,s5.re t5,s6.re t6⟩,hx⟩
theorem pW (h:Rep.rep w F x cs) (h':Rep.rep w F e cs') (p:WI x):Calls Tryz.prog 23 [.agg cs.toArray,.agg cs'.toArray].toArray w (Af fun rv w'=>VS (fo F w.heap.size) w' (doW x e) rv∧Ext w w'):=by
 obtain ⟨a0,n0,c0,a1,n1,c1,a2,n2,c2,a3,n3,c3,a4,n4,c4,a5,n5,c5,a6,n6,c6,rfl,r0,r1,r2,r3,r4,r5,r6⟩:=h
 obtain ⟨b0,m0,d0,rfl,s0⟩:=h'
 exact NL x e r0 r1 r2 r3 r4 r5 r6 s0 p
theorem pX (h:Rep.rep w F x cs) (p0:∀ n∈x.disk.names,n.length≤1100000) (p1:x.store.idx.AX.length≤1100000):Calls Tryz.prog 37 [.agg cs.toArray].toArray w (Af fun rv w'=>rv=.bool (ftW x.disk x.store)∧Ext w w'):=by
 obtain ⟨a0,n0,c0,a1,n1,c1,a2,n2,c2,a3,n3,c3,a4,n4,c4,a5,n5,c5,a6,n6,c6,rfl,r0,r1,r2,r3,r4,r5,r6⟩:=h
 exact K4 x r0 r1 r2 r3 r4 r5 r6 p0 p1
end
def zeW:List Value:=[.slice none 0 0,.slice none 0 0,.slice none 0 0,.slice none 0 0,.slice none 0 0,.slice none 0 0,.slice none 0 0,.int .i64 0]
theorem W4 (w:World) (F:Nat→Prop):Rep.rep w F W1 zeW :=
 ⟨_,_,_,_,_,_,_,_,_,_,_,_,_,_,_,_,_,_,_,_,_,rfl,RepS.Bv w F none 0 AE,RepS.Bv w F none 0 AE,RepS.Bv w F none 0 AE,RepS.Bv w F none 0 AE,RepS.Bv w F none 0 AE,RepS.Bv w F none 0 AE,RepS.Bv w F none 0 AE⟩
variable {w:World} {F:Nat→Prop}
theorem Xh {x:Wld}{cs:List Value}(h:Rep.rep w F x cs):∃ v0 v1 v2 v3 v4 v5 v6 v7,cs=[v0,v1,v2,v3,v4,v5,v6,v7]:=by
 obtain ⟨a0,n0,c0,a1,n1,c1,a2,n2,c2,a3,n3,c3,a4,n4,c4,a5,n5,c5,a6,n6,c6,e,_⟩:=h
 exact ⟨_,_,_,_,_,_,_,_,e⟩
theorem VK {x:Wld}{e:Evt}{cs cs':List Value}(h:Rep.rep w F x cs) (h':Rep.rep w F e cs') (p0:∀ n∈x.disk.names,n.length≤1100000) (p1:x.store.idx.AX.length≤1100000):Calls Tryz.prog 16 [.agg cs.toArray,.agg cs'.toArray].toArray w (Af fun rv w'=>VS (fo F w.heap.size) w' (doX x e) rv∧Ext w w'):=by
 obtain ⟨a0,n0,c0,a1,n1,c1,a2,n2,c2,a3,n3,c3,a4,n4,c4,a5,n5,c5,a6,n6,c6,hcs,_⟩:=id h
 obtain ⟨b0,m0,d0,hcs',_⟩:=id h'
 subst hcs; subst hcs'
 refine goT func16 ?_
 refine .s<|.g<|RG.np 37 [.slice a0 n0 c0,.slice a1 n1 c1,.slice a2 n2 c2,.slice a3 n3 c3,.slice a4 n4 c4,.slice a5 n5 c5,.slice a6 n6 c6,.int .i64 x.disk.next] (fun q1 w1 e1 x1 B1 _=>RG.np 72 [.int .i64 e.kind,.int .i64 e.at_,.int .i64 e.cut,.slice b0 m0 d0,.int .i64 e.row.t,.int .i64 e.row.v] (fun q2 w2 e2 x2 B2 _=>RG.np 37 zeW (fun q3 w3 e3 x3 B3 _=>.d ?_)))
 have y3:Ext w w3:=(x1.trans x2).trans x3
 have h3:=rfx h y3
 have g3:=rfx h' y3
 have C1:=(B1.ext x2).ext x3
 have C2:=B2.ext x3
 refine .s<|.s<|.g<|RG.ln C1<|RG.cl (pX h3 p0 p1) (fun v w4 ⟨hv,x4⟩=>?_)
 subst hv
 have hq:w.heap.size≤q3:=by have:=x1.size; have:=x2.size; omega
 cases hb:ftW x.disk x.store
 ·refine .r 1<|.d<|.ct<|.s<|.g<|.r 1<|RG.sc zeW (B3.ext x4) (fun w5 x5 B5 _=>.d<|T.rb func16 results16 B5 ⟨⟨zeW,rfl,?_⟩,?_⟩)
  ·rw [Xf hb]; exact W4 _ _
  ·exact (y3.trans x4).step x5 fun b hb=>by cases hb; exact hq
 have V:=wvX hb
 have cp:=V.copy
 refine .r 1<|.d<|.cf<|.sk<|.s<|T.gd nil 5 (fun w5 x5=>?_)
 have y5:Ext w3 w5:=x4.trans x5
 refine GA.ln 0 (C1.ext y5) (fun h=>h)<|GA.ln 2 (C2.ext y5) (fun h=>h)<|.go 1<|GE.cl (Q:=fun w0 v w'=>VS (ge w0.heap.size) w' (Ex x) v∧Ext w0 w') (fun w6 x6=>VJ (rfx h3 (y5.trans x6)) V.wd.wi) (fun w6 x6 v w7 ⟨⟨l1,hv,r1⟩,x7⟩=>⟨x7.chg,?_⟩)
 subst hv
 rw [cp] at r1
 have y7:Ext w3 w7:=(y5.trans x6).trans x7
 have hs:∀ {a b:World},Ext a b→a.heap.size≤b.heap.size:=fun h=>h.size
 have r1':Rep.rep w7 (fo F w.heap.size) x l1:=rwk r1 fun b hb=>.inr (by have:=hs y3; have:=hs (y5.trans x6); have:w6.heap.size≤b:=hb; omega)
 obtain ⟨v0,v1,v2,v3,v4,v5,v6,v7,rfl⟩:=Xh r1
 refine .go 3<|GE.cl (Q:=fun w0 v w'=>VS (fo (fo F w.heap.size) w0.heap.size) w' (doW x e) v∧Ext w0 w') (fun w8 x8=>pW (rfx r1' x8) (rwk (rfx g3 (y7.trans x8)) fun b hb=>.inl hb) V.wd.wi) (fun w8 x8 v w9 ⟨⟨l2,hv,r2⟩,x9⟩=>⟨x9.chg,?_⟩)
 subst hv
 have V2:=V.doA e
 have cp2:=V2.copy
 have y9:Ext w3 w9:=(y7.trans x8).trans x9
 obtain ⟨u0,u1,u2,u3,u4,u5,u6,u7,rfl⟩:=Xh r2
 refine .go 4<|GE.cl (Q:=fun w0 v w'=>VS (ge w0.heap.size) w' (Ex (doW x e)) v∧Ext w0 w') (fun w10 x10=>VJ (rfx r2 x10) V2.wd.wi) (fun w10 x10 v w11 ⟨⟨l3,hv,r3⟩,x11⟩=>⟨x11.chg,?_⟩)
 subst hv
 rw [cp2] at r3
 obtain ⟨ta0,tn0,tc0,ta1,tn1,tc1,ta2,tn2,tc2,ta3,tn3,tc3,ta4,tn4,tc4,ta5,tn5,tc5,ta6,tn6,tc6,rfl⟩:=Ts r3
 refine GA.d (fun w12 x12=>?_)
 have y12:Ext w3 w12:=((y9.trans x10).trans x11).trans x12
 refine RG.sc [.slice ta0 tn0 tc0,.slice ta1 tn1 tc1,.slice ta2 tn2 tc2,.slice ta3 tn3 tc3,.slice ta4 tn4 tc4,.slice ta5 tn5 tc5,.slice ta6 tn6 tc6,.int .i64 (doW x e).disk.next] (B3.ext y12) (fun w13 x13 B13 _=>.d<|T.rb func16 results16 B13 ⟨⟨_,rfl,?_⟩,?_⟩)
 ·rw [R8 hb]
  refine Rep.frame (rfx r3 x12) fun b hb hF=>⟨.inr ?_,x13.block b hb fun hq3=>?_⟩
  ·have:w10.heap.size≤b:=hF
   have:=hs (y3.trans (y9.trans x10))
   omega
  ·have:w10.heap.size≤b:=hF
   have e0:b=q3:=hq3
   have:=hs (y9.trans x10)
   have:=B3.lt
   omega
 ·exact (y3.trans y12).step x13 fun b hb=>by cases hb; exact hq
end Go.Proofs.YtcginoabkicdiaaGreat
namespace Go.Proofs.YtcginoabkicdiaaGreat
set_option maxRecDepth 100000
set_option maxHeartbeats 4000000
variable {w:World} {F:Nat→Prop} {a1 a2 a3 a4 a5 a6 a7 a8:Option Addr} {n1 c1 n2 c2 n3 c3 n4 c4 n5 c5 n6 c6 n7 c7 n8 c8:Nat}
theorem LD (w_:Wld) (e:Evt) (h1:RepS w F a1 n1 c1 w_.store.idx.names) (h2:RepS w F a2 n2 c2 w_.store.idx.AX) (h3:RepS w F a3 n3 c3 w_.store.parts) (h4:RepS w F a4 n4 c4 w_.store.mem) (h5:RepS w F a5 n5 c5 w_.disk.files) (h6:RepS w F a6 n6 c6 w_.disk.list) (h7:RepS w F a7 n7 c7 w_.disk.names) (h8:RepS w F a8 n8 c8 e.name) (p0:w_.disk.names.length≤1100000) (p1:Ct w_.disk.names≤1100000) (p2:e.name.length≤1100000):Calls Tryz.prog 19 [.agg #[.slice a1 n1 c1,.slice a2 n2 c2,.slice a3 n3 c3,.slice a4 n4 c4,.slice a5 n5 c5,.slice a6 n6 c6,.slice a7 n7 c7,.int .i64 w_.disk.next],.agg #[.int .i64 e.kind,.int .i64 e.at_,.int .i64 e.cut,.slice a8 n8 c8,.int .i64 e.row.t,.int .i64 e.row.v]].toArray w (Af fun rv w'=>VD w.heap.size w' (doX w_ e:Wld) rv∧Ext w w'):=by
 cases h1.len
 cases h2.len
 cases h3.len
 cases h4.len
 cases h5.len
 cases h6.len
 cases h7.len
 cases h8.len
 refine goT func19 ?_
 have Z:=((((((((St.i0 F w).p h1).p h2).p h3).p h4).p h5).p h6).p h7).p h8
 have Z:=Z.s0 0
 refine .s<|.g<|RG.Np Z fun cE w Z=>RG.Np Z fun cF w Z=>RG.Np Z fun cG w Z=>.d<|.s<|.s<|.g<|RG.Ln 2 Z<|RG.C0 (K2 w_ (Z.a 8) (Z.a 7) (Z.a 6) (Z.a 5) (Z.a 4) (Z.a 3) (Z.a 2) p0 p1) Z fun w Z=>?_
 cases cD:(ftW w_.disk w_.store)
 ·refine .r 1<|.d<|.ct<|.s<|.g<|.r 1<|RG.Ss 0 Z fun w Z=>.d ?_
  have Z:=((((((Z.sZ (List Tag) 0 0).sZ Pst 1 0).sZ Prt 1 0).sZ Smp 1 0).sZ Fil 1 0).sZ Int 1 0).sZ (List Tag) 1 0
  exact T.Rb 0 func19 results19 Z ⟨Z.rD 1 [0,1,2,3,4,5,6] (⟨(⟨(⟨([]:List (List Tag)),([]:List Pst)⟩:Idx),([]:List Prt),([]:List Smp)⟩:Sto),(⟨([]:List Fil),([]:List Int),([]:List (List Tag)),0⟩:Dsk)⟩:Wld) [(none,0),(none,0),(none,0),(none,0),(none,0),(none,0),(none,0)] (by exact (Xf ‹_›).symm),Z.xt⟩
 refine .r 1<|.d<|.cf<|.sk<|.s<|T.Gd 8 Z fun w Z=>.r [0]<|GA.Ln 1 2 Z<|.r [3]<|GA.Ln 4 2 Z<|.tw 2 7 ?_ ?_
 ·refine GE.Cg (fun w Z=>CI w_.store (Z.a 8) (Z.a 7) (Z.a 6) (Z.a 5) (wvX (w:=w_) ‹_›).wd.wi.sto.nm (wvX (w:=w_) ‹_›).sd.nd (wvX (w:=w_) ‹_›).sd.sz) Z ?_
  rintro w _ w Z ⟨⟨aq,ar,ax,ay,az,aA,ac,aB,aC,rfl,aD⟩,ae⟩
  refine ⟨Ext.chg ae,?_⟩
  have Z:=Z.vX 0 aD ae
  refine .tw 5 7 ?_ ?_
  ·refine GE.Cg (fun w Z=>Cp w_.disk (Z.a 7) (Z.a 6) (Z.a 5) (by exact Sz (wvX (w:=w_) ‹_›).dd) (by exact S0 (wvX (w:=w_) ‹_›).dd) (by exact S1 (wvX (w:=w_) ‹_›).dd) (by exact S2 (wvX (w:=w_) ‹_›).dd) (by exact S3 (wvX (w:=w_) ‹_›).dd)) Z ?_
   rintro w _ w Z ⟨⟨bz,bA,aE,bC,bD,bE,bF,rfl,aF⟩,af⟩
   refine ⟨Ext.chg af,?_⟩
   have Z:=Z.vX 0 aF af
   refine .r [6]<|.go 7<|GE.Np Z fun cH w Z=>GA.Dn Z fun w Z=>RG.Ss 0 Z fun w Z=>.d<|.s<|.g<|RG.Ln 5 Z ?_
   have Z:=((Z.eL 2 0 0 [5] (((AY w_.store)).parts) ac).fL 2 1 0 (((AY w_.store)).mem)).eL 1 1 0 [2] w_.disk.files aE
   refine RG.cl (Ew (⟨(⟨(⟨(((AY w_.store)).idx).names,(((AY w_.store)).idx).AX⟩:Idx),((AY w_.store)).parts,((AY w_.store)).mem⟩:Sto),(⟨w_.disk.files,w_.disk.list,w_.disk.names,w_.disk.next⟩:Dsk)⟩:Wld) e (Z.ib 0 1 0 [4,4,2,3,4,6,6] [.s aq ar ((((AY w_.store)).idx).names),.s ax ay ((((AY w_.store)).idx).AX),.s (some ⟨az,0,none⟩) aA (((AY w_.store)).parts),.s (some ⟨aB,0,none⟩) aC (((AY w_.store)).mem),.s (some ⟨bz,0,none⟩) bA w_.disk.files,.s bC bD w_.disk.list,.s bE bF w_.disk.names]) (Z.bc 0) (Z.rd 0 13) (by have q1:=(wvX (w:=w_) ‹_›).sd.copy; (rw [q1]; exact (wvX (w:=w_) ‹_›))) p2) ?_
   rintro _ w ⟨⟨rfl,aH⟩,aI⟩
   exact Z.bB 0 0 aH (SK aI) fun bG bH bI bJ bK bL bM bN bO bP bQ bR bS bT Z=>.d<|.s<|.g<|RG.Ln 0 Z<|RG.Ss 1 Z fun w Z=>.d<|T.Rb 1 func19 results19 Z ⟨Z.rD 0 [6,6,6,6,6,6,6] (⟨(⟨(⟨((((doW (⟨(⟨(⟨(((AY w_.store)).idx).names,(((AY w_.store)).idx).AX⟩:Idx),((AY w_.store)).parts,((AY w_.store)).mem⟩:Sto),(⟨w_.disk.files,w_.disk.list,w_.disk.names,w_.disk.next⟩:Dsk)⟩:Wld) e)).store).idx).names,((((doW (⟨(⟨(⟨(((AY w_.store)).idx).names,(((AY w_.store)).idx).AX⟩:Idx),((AY w_.store)).parts,((AY w_.store)).mem⟩:Sto),(⟨w_.disk.files,w_.disk.list,w_.disk.names,w_.disk.next⟩:Dsk)⟩:Wld) e)).store).idx).AX⟩:Idx),(((doW (⟨(⟨(⟨(((AY w_.store)).idx).names,(((AY w_.store)).idx).AX⟩:Idx),((AY w_.store)).parts,((AY w_.store)).mem⟩:Sto),(⟨w_.disk.files,w_.disk.list,w_.disk.names,w_.disk.next⟩:Dsk)⟩:Wld) e)).store).parts,(((doW (⟨(⟨(⟨(((AY w_.store)).idx).names,(((AY w_.store)).idx).AX⟩:Idx),((AY w_.store)).parts,((AY w_.store)).mem⟩:Sto),(⟨w_.disk.files,w_.disk.list,w_.disk.names,w_.disk.next⟩:Dsk)⟩:Wld) e)).store).mem⟩:Sto),(⟨(((doW (⟨(⟨(⟨(((AY w_.store)).idx).names,(((AY w_.store)).idx).AX⟩:Idx),((AY w_.store)).parts,((AY w_.store)).mem⟩:Sto),(⟨w_.disk.files,w_.disk.list,w_.disk.names,w_.disk.next⟩:Dsk)⟩:Wld) e)).disk).files,(((doW (⟨(⟨(⟨(((AY w_.store)).idx).names,(((AY w_.store)).idx).AX⟩:Idx),((AY w_.store)).parts,((AY w_.store)).mem⟩:Sto),(⟨w_.disk.files,w_.disk.list,w_.disk.names,w_.disk.next⟩:Dsk)⟩:Wld) e)).disk).list,(((doW (⟨(⟨(⟨(((AY w_.store)).idx).names,(((AY w_.store)).idx).AX⟩:Idx),((AY w_.store)).parts,((AY w_.store)).mem⟩:Sto),(⟨w_.disk.files,w_.disk.list,w_.disk.names,w_.disk.next⟩:Dsk)⟩:Wld) e)).disk).names,(((doW (⟨(⟨(⟨(((AY w_.store)).idx).names,(((AY w_.store)).idx).AX⟩:Idx),((AY w_.store)).parts,((AY w_.store)).mem⟩:Sto),(⟨w_.disk.files,w_.disk.list,w_.disk.names,w_.disk.next⟩:Dsk)⟩:Wld) e)).disk).next⟩:Dsk)⟩:Wld) [(bG,bH),(bI,bJ),(bK,bL),(bM,bN),(bO,bP),(bQ,bR),(bS,bT)] (by (rw [R8 ‹_›]; rw [(wvX (w:=w_) ‹_›).sd.copy])),Z.xt⟩
  refine GE.Np Z fun cI w Z=>.go 5<|GE.Cg (fun w Z=>Cp w_.disk (Z.a 7) (Z.a 6) (Z.a 5) (by exact Sz (wvX (w:=w_) ‹_›).dd) (by exact S0 (wvX (w:=w_) ‹_›).dd) (by exact S1 (wvX (w:=w_) ‹_›).dd) (by exact S2 (wvX (w:=w_) ‹_›).dd) (by exact S3 (wvX (w:=w_) ‹_›).dd)) Z ?_
  rintro w _ w Z ⟨⟨bU,bV,aJ,bW,bX,bY,bZ,rfl,aK⟩,ag⟩
  refine ⟨Ext.chg ag,?_⟩
  have Z:=Z.vX 0 aK ag
  refine .r [6]<|GA.Dn Z fun w Z=>RG.Ss 1 Z fun w Z=>.d<|.s<|.g<|RG.Ln 5 Z ?_
  have Z:=((Z.eL 2 0 0 [5] (((AY w_.store)).parts) ac).fL 2 1 0 (((AY w_.store)).mem)).eL 0 1 0 [2] w_.disk.files aJ
  refine RG.cl (Ew (⟨(⟨(⟨(((AY w_.store)).idx).names,(((AY w_.store)).idx).AX⟩:Idx),((AY w_.store)).parts,((AY w_.store)).mem⟩:Sto),(⟨w_.disk.files,w_.disk.list,w_.disk.names,w_.disk.next⟩:Dsk)⟩:Wld) e (Z.ib 0 1 0 [4,4,2,3,4,6,6] [.s aq ar ((((AY w_.store)).idx).names),.s ax ay ((((AY w_.store)).idx).AX),.s (some ⟨az,0,none⟩) aA (((AY w_.store)).parts),.s (some ⟨aB,0,none⟩) aC (((AY w_.store)).mem),.s (some ⟨bU,0,none⟩) bV w_.disk.files,.s bW bX w_.disk.list,.s bY bZ w_.disk.names]) (Z.bc 0) (Z.rd 0 13) (by have q1:=(wvX (w:=w_) ‹_›).sd.copy; (rw [q1]; exact (wvX (w:=w_) ‹_›))) p2) ?_
  rintro _ w ⟨⟨rfl,aL⟩,aM⟩
  exact Z.bB 0 0 aL (SK aM) fun b6 b7 b8 b9 cd ce cg ci cj ck cm co cp cq Z=>.d<|.s<|.g<|RG.Ln 0 Z<|RG.Ss 1 Z fun w Z=>.d<|T.Rb 1 func19 results19 Z ⟨Z.rD 0 [6,6,6,6,6,6,6] (⟨(⟨(⟨((((doW (⟨(⟨(⟨(((AY w_.store)).idx).names,(((AY w_.store)).idx).AX⟩:Idx),((AY w_.store)).parts,((AY w_.store)).mem⟩:Sto),(⟨w_.disk.files,w_.disk.list,w_.disk.names,w_.disk.next⟩:Dsk)⟩:Wld) e)).store).idx).names,((((doW (⟨(⟨(⟨(((AY w_.store)).idx).names,(((AY w_.store)).idx).AX⟩:Idx),((AY w_.store)).parts,((AY w_.store)).mem⟩:Sto),(⟨w_.disk.files,w_.disk.list,w_.disk.names,w_.disk.next⟩:Dsk)⟩:Wld) e)).store).idx).AX⟩:Idx),(((doW (⟨(⟨(⟨(((AY w_.store)).idx).names,(((AY w_.store)).idx).AX⟩:Idx),((AY w_.store)).parts,((AY w_.store)).mem⟩:Sto),(⟨w_.disk.files,w_.disk.list,w_.disk.names,w_.disk.next⟩:Dsk)⟩:Wld) e)).store).parts,(((doW (⟨(⟨(⟨(((AY w_.store)).idx).names,(((AY w_.store)).idx).AX⟩:Idx),((AY w_.store)).parts,((AY w_.store)).mem⟩:Sto),(⟨w_.disk.files,w_.disk.list,w_.disk.names,w_.disk.next⟩:Dsk)⟩:Wld) e)).store).mem⟩:Sto),(⟨(((doW (⟨(⟨(⟨(((AY w_.store)).idx).names,(((AY w_.store)).idx).AX⟩:Idx),((AY w_.store)).parts,((AY w_.store)).mem⟩:Sto),(⟨w_.disk.files,w_.disk.list,w_.disk.names,w_.disk.next⟩:Dsk)⟩:Wld) e)).disk).files,(((doW (⟨(⟨(⟨(((AY w_.store)).idx).names,(((AY w_.store)).idx).AX⟩:Idx),((AY w_.store)).parts,((AY w_.store)).mem⟩:Sto),(⟨w_.disk.files,w_.disk.list,w_.disk.names,w_.disk.next⟩:Dsk)⟩:Wld) e)).disk).list,(((doW (⟨(⟨(⟨(((AY w_.store)).idx).names,(((AY w_.store)).idx).AX⟩:Idx),((AY w_.store)).parts,((AY w_.store)).mem⟩:Sto),(⟨w_.disk.files,w_.disk.list,w_.disk.names,w_.disk.next⟩:Dsk)⟩:Wld) e)).disk).names,(((doW (⟨(⟨(⟨(((AY w_.store)).idx).names,(((AY w_.store)).idx).AX⟩:Idx),((AY w_.store)).parts,((AY w_.store)).mem⟩:Sto),(⟨w_.disk.files,w_.disk.list,w_.disk.names,w_.disk.next⟩:Dsk)⟩:Wld) e)).disk).next⟩:Dsk)⟩:Wld) [(b6,b7),(b8,b9),(cd,ce),(cg,ci),(cj,ck),(cm,co),(cp,cq)] (by (rw [R8 ‹_›]; rw [(wvX (w:=w_) ‹_›).sd.copy])),Z.xt⟩
 refine GE.Np Z fun cJ w Z=>.go 2<|GE.Cg (fun w Z=>CI w_.store (Z.a 8) (Z.a 7) (Z.a 6) (Z.a 5) (wvX (w:=w_) ‹_›).wd.wi.sto.nm (wvX (w:=w_) ‹_›).sd.nd (wvX (w:=w_) ‹_›).sd.sz) Z ?_
 rintro w _ w Z ⟨⟨cr,aN,aO,aP,aQ,aR,ah,aS,aT,rfl,ai⟩,aa⟩
 refine ⟨Ext.chg aa,?_⟩
 have Z:=Z.vX 0 ai aa
 refine .go 5<|GE.Cg (fun w Z=>Cp w_.disk (Z.a 7) (Z.a 6) (Z.a 5) (by exact Sz (wvX (w:=w_) ‹_›).dd) (by exact S0 (wvX (w:=w_) ‹_›).dd) (by exact S1 (wvX (w:=w_) ‹_›).dd) (by exact S2 (wvX (w:=w_) ‹_›).dd) (by exact S3 (wvX (w:=w_) ‹_›).dd)) Z ?_
 rintro w _ w Z ⟨⟨aU,aV,aj,aW,aX,aY,aZ,rfl,ak⟩,ab⟩
 refine ⟨Ext.chg ab,?_⟩
 have Z:=Z.vX 0 ak ab
 refine .r [6]<|GA.Dn Z fun w Z=>RG.Ss 3 Z fun w Z=>.d<|.s<|.g<|RG.Ln 5 Z ?_
 have Z:=((Z.eL 1 0 0 [5] (((AY w_.store)).parts) ah).fL 1 1 0 (((AY w_.store)).mem)).eL 0 1 0 [2] w_.disk.files aj
 refine RG.cl (Ew (⟨(⟨(⟨(((AY w_.store)).idx).names,(((AY w_.store)).idx).AX⟩:Idx),((AY w_.store)).parts,((AY w_.store)).mem⟩:Sto),(⟨w_.disk.files,w_.disk.list,w_.disk.names,w_.disk.next⟩:Dsk)⟩:Wld) e (Z.ib 0 1 0 [4,4,2,3,4,6,6] [.s cr aN ((((AY w_.store)).idx).names),.s aO aP ((((AY w_.store)).idx).AX),.s (some ⟨aQ,0,none⟩) aR (((AY w_.store)).parts),.s (some ⟨aS,0,none⟩) aT (((AY w_.store)).mem),.s (some ⟨aU,0,none⟩) aV w_.disk.files,.s aW aX w_.disk.list,.s aY aZ w_.disk.names]) (Z.bc 0) (Z.rd 0 13) (by have q1:=(wvX (w:=w_) ‹_›).sd.copy; (rw [q1]; exact (wvX (w:=w_) ‹_›))) p2) ?_
 rintro _ w ⟨⟨rfl,am⟩,ao⟩
 exact Z.bB 0 0 am (SK ao) fun ba bg bh bi bj bk bm bn bo bq br bu bv bw Z=>.d<|.s<|.g<|RG.Ln 0 Z<|RG.Ss 1 Z fun w Z=>.d<|T.Rb 1 func19 results19 Z ⟨Z.rD 0 [6,6,6,6,6,6,6] (⟨(⟨(⟨((((doW (⟨(⟨(⟨(((AY w_.store)).idx).names,(((AY w_.store)).idx).AX⟩:Idx),((AY w_.store)).parts,((AY w_.store)).mem⟩:Sto),(⟨w_.disk.files,w_.disk.list,w_.disk.names,w_.disk.next⟩:Dsk)⟩:Wld) e)).store).idx).names,((((doW (⟨(⟨(⟨(((AY w_.store)).idx).names,(((AY w_.store)).idx).AX⟩:Idx),((AY w_.store)).parts,((AY w_.store)).mem⟩:Sto),(⟨w_.disk.files,w_.disk.list,w_.disk.names,w_.disk.next⟩:Dsk)⟩:Wld) e)).store).idx).AX⟩:Idx),(((doW (⟨(⟨(⟨(((AY w_.store)).idx).names,(((AY w_.store)).idx).AX⟩:Idx),((AY w_.store)).parts,((AY w_.store)).mem⟩:Sto),(⟨w_.disk.files,w_.disk.list,w_.disk.names,w_.disk.next⟩:Dsk)⟩:Wld) e)).store).parts,(((doW (⟨(⟨(⟨(((AY w_.store)).idx).names,(((AY w_.store)).idx).AX⟩:Idx),((AY w_.store)).parts,((AY w_.store)).mem⟩:Sto),(⟨w_.disk.files,w_.disk.list,w_.disk.names,w_.disk.next⟩:Dsk)⟩:Wld) e)).store).mem⟩:Sto),(⟨(((doW (⟨(⟨(⟨(((AY w_.store)).idx).names,(((AY w_.store)).idx).AX⟩:Idx),((AY w_.store)).parts,((AY w_.store)).mem⟩:Sto),(⟨w_.disk.files,w_.disk.list,w_.disk.names,w_.disk.next⟩:Dsk)⟩:Wld) e)).disk).files,(((doW (⟨(⟨(⟨(((AY w_.store)).idx).names,(((AY w_.store)).idx).AX⟩:Idx),((AY w_.store)).parts,((AY w_.store)).mem⟩:Sto),(⟨w_.disk.files,w_.disk.list,w_.disk.names,w_.disk.next⟩:Dsk)⟩:Wld) e)).disk).list,(((doW (⟨(⟨(⟨(((AY w_.store)).idx).names,(((AY w_.store)).idx).AX⟩:Idx),((AY w_.store)).parts,((AY w_.store)).mem⟩:Sto),(⟨w_.disk.files,w_.disk.list,w_.disk.names,w_.disk.next⟩:Dsk)⟩:Wld) e)).disk).names,(((doW (⟨(⟨(⟨(((AY w_.store)).idx).names,(((AY w_.store)).idx).AX⟩:Idx),((AY w_.store)).parts,((AY w_.store)).mem⟩:Sto),(⟨w_.disk.files,w_.disk.list,w_.disk.names,w_.disk.next⟩:Dsk)⟩:Wld) e)).disk).next⟩:Dsk)⟩:Wld) [(ba,bg),(bh,bi),(bj,bk),(bm,bn),(bo,bq),(br,bu),(bv,bw)] (by (rw [R8 ‹_›]; rw [(wvX (w:=w_) ‹_›).sd.copy])),Z.xt⟩
end Go.Proofs.YtcginoabkicdiaaGreat
