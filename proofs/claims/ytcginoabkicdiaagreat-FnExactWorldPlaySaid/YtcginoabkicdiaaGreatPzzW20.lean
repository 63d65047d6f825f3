/- proofs; no conditions -/
import Derived.Test.YtcginoabkicdiaaGreatPzzKw
import Derived.Test.YtcginoabkicdiaaGreatPzzSl
open Go.Proofs.Tryz
set_option linter.unusedVariables false
set_option linter.unusedSimpArgs false
namespace Go.Proofs.YtcginoabkicdiaaGreat
open Go.Sort
structure SX where
 p:Pst
 a:Option Addr
 n:Nat
 c:Nat
def DH (x:SX):List Value:=[.string (bs x.p.tag.key),.string (bs x.p.tag.val),.slice x.a x.n x.c]
instance:Inhabited SX:=⟨⟨⟨⟨[],[]⟩,[]⟩,none,0,0⟩⟩
theorem R3 {α β:Type}:∀ {xs:List α}{R:Nat→α→β→Prop},(∀ i x,xs[i]? = some x→∃ y,R i x y)→∃ ys:List β,ys.length=xs.length∧∀ i x y,xs[i]? = some x→ys[i]? = some y→R i x y:=by
 intro xs
 induction xs with
 | nil=>intro R _; exact ⟨[],rfl,fun i x y hx=>by simp at hx⟩
 | cons x xs ih =>
   intro R h
   obtain ⟨y,hy⟩:=h 0 x rfl
   obtain ⟨ys,h1,h2⟩:=ih (R:=fun i=>R (i+1)) (fun i x hi=>h (i+1) x (by simpa using hi))
   refine ⟨y::ys,by simp [h1],fun i u v hu hv=>?_⟩
   cases i with
   | zero=>simp at hu hv; subst hu hv; exact hy
   | succ i=>exact h2 i u v (by simpa using hu) (by simpa using hv)
variable {w:World} {F:Nat→Prop}
theorem XF {r t n c:Nat}{xs:List Pst}(h:Own w r t F n c xs) :
 ∃ ys:List SX,ys.map SX.p=xs∧∀ (i:Nat) y,ys[i]? = some y→Rep.rep w (fun b=>F b∧b≠r) y.p (DH y)∧Has w ⟨r,i * 3,none⟩ (DH y):=by
 obtain ⟨ys,h1,h2⟩:=R3 (xs:=xs) (R:=fun i x (y:SX)=>y.p=x∧Rep.rep w (fun b=>F b∧b≠r) y.p (DH y)∧Has w ⟨r,i * 3,none⟩ (DH y)) (fun i x hx=>by
  obtain ⟨cs,hr,hh⟩:=h.elem i x hx
  have hr':=hr
  obtain ⟨a,m,d,rfl,h3⟩:=hr'
  exact ⟨⟨x,a,m,d⟩,rfl,hr,hh⟩)
 refine ⟨ys,?_,fun i y hy=>?_⟩
 ·apply List.ext_getElem?
  intro i
  rw [List.getElem?_map]
  cases hx:xs[i]? with
  | none =>
    have:=List.getElem?_eq_none_iff.1 hx
    rw [List.getElem?_eq_none AB]; rfl
  | some x =>
    have hl:=(List.getElem?_eq_some_iff.1 hx).1
    have hy:ys[i]? = some (ys[i]' AB):=AU _
    rw [hy,Option.map_some,(h2 i x _ hx hy).1]
 ·have hl:=(List.getElem?_eq_some_iff.1 hy).1
  have hx:xs[i]? = some (xs[i]' AB):=AU _
  exact (h2 i _ y hx hy).2
theorem Vu {r t n c:Nat}{xs:List Pst}(h:Own w r t F n c xs){ys:List SX}(hy:∀ (i:Nat) y,ys[i]? = some y→Rep.rep w (fun b=>F b∧b≠r) y.p (DH y)∧Has w ⟨r,i * 3,none⟩ (DH y)) :
 HoldsK DH 3 w r 0 ys.toArray:=by
 intro j hj
 rw [size_flatK] at hj
 rw [get_flatK _ _ _ _ hj]
 have hj2:j / 3< ys.length:=by simp at hj; omega
 have h1:ys[j / 3]? = some (ys[j / 3]'hj2):=AU _
 have h2:=(hy _ _ h1).2 (j % 3) ((DH (ys[j / 3]'hj2))[j % 3]'(by show j % 3< 3; omega)) (AU _)
 rw [add_lit,show j / 3 * 3+j % 3=0+j by omega] at h2
 refine ⟨?_,?_⟩
 ·rw [h2]
  have e:(ys.toArray[j / 3]!)=ys[j / 3]'hj2:=by simp [hj2]
  rw [e,getElem!_pos (DH (ys[j / 3]'hj2)) (j % 3) (by show j % 3< 3; omega)]
  rfl
 ·obtain ⟨cur,hc,_⟩:=h.row
  simp [World.frozen?,hc]
theorem ltX (x y:SX):ltOf (fun x y:SX=>LW x.p y.p) x y=Dj x.p.tag y.p.tag:=by
 unfold ltOf
 rw [Bool.eq_iff_iff,decide_eq_true_iff]
 exact IK _ _
theorem Xw:SWO (ltOf fun x y:SX=>LW x.p y.p) where
 irrefl x:=by rw [ltX]; exact I8 _
 trans x y z h1 h2:=by rw [ltX] at *; exact EV h1 h2
 ntrans x y z h1 h2:=by
  rw [ltX] at *
  cases h3:Dj x.p.tag z.p.tag with
  | false=>rfl
  | true =>
    cases h4:Dj y.p.tag x.p.tag with
    | true=>have:=EV h4 h3; rw [h2] at this; cases this
    | false=>have e:=I9 h1 h4; rw [e,h2] at h3; cases h3
theorem Xx (blk off size:Nat) (w:World):CmpLays Tryz.prog 165 #[] DH 3 (fun x y:SX=>LW x.p y.p) blk off size w:=fun m os dk _ x y =>
 (XE x.p.tag y.p.tag (.slice x.a x.n x.c) (.slice y.a y.n y.c) _).mono fun e w' ⟨r,h1,h2,q,os',h3⟩=>⟨by rw [h1,h2]; rfl,q,os',h3⟩
theorem HZ {r n c:Nat}{xs0:List Pst}(ho:Own w r 204 F n c xs0) (hn:n≤1100000){ys:List SX}(hp:ys.map SX.p=xs0)
 (hy:∀ (i:Nat) y,ys[i]? = some y→Rep.rep w (fun b=>F b∧b≠r) y.p (DH y)∧Has w ⟨r,i * 3,none⟩ (DH y)) :
 Calls Tryz.prog 164 [.slice (some ⟨r,0,none⟩) n c,.func (.func 165) #[] #[]].toArray w (Ag fun rv w'=>rv=.tuple #[]∧∃ σ:List SX,σ.Perm ys∧(σ.map SX.p).Pairwise Le∧Own w' r 204 F n c (σ.map SX.p)∧(∀ (i:Nat) y,σ[i]? = some y→Has w' ⟨r,i * 3,none⟩ (DH y))∧Chg (one r) w w'):=by
 have hlen:n=ys.toArray.size:=by rw [ho.len,← hp]; simp
 have hH:=Vu ho hy
 have hcall:=AnyQ.slices_SortFunc Xv 3 Tryz.isAgg204 Tryz.sizeOf204 DH (fun _=>rfl) (fun x v hv=>by simp [DH] at hv; rcases hv with rfl | rfl | rfl <;> rfl) (fun x y=>LW x.p y.p) Xw 165 #[] r 0 c ys.toArray w
  (enters_of func165 AA rfl) (Xx r 0 _ w) hH ho.lt AB
 rw [← hlen] at hcall
 refine hcall.mono ?_
 rintro e w' ⟨rfl,d',m,os,hperm,hsort,rfl⟩
 obtain ⟨hsz,_,hpe⟩:=hperm
 have hl:d'.size=n:=by rw [hsz,hlen]
 have hpl:d'.toList.Perm ys:=by
  have e1:d'.extract 0 n=d':=by rw [← hl]; simp
  have e2:ys.toArray.extract 0 n=ys.toArray:=by rw [hlen]; simp
  rw [e1,e2] at hpe
  simpa using hpe
 have hK:HoldsK DH 3 (sortWorldK DH 3 w r 0 m d' os) r 0 d':=by
  unfold sortWorldK
  refine holdsK_grow DH 3 _ os r 0 d' ?_ (holdsK_putRowK DH 3 _ r 0 ys.toArray d' (holdsK_ahead DH 3 w m r 0 _ hH) hsz)
  show r< ((Sort.ahead w m).heap.modify r _).size
  rw [Array.size_modify]
  exact ho.lt
 have hblk:∀ k,k< w.heap.size→k≠r→(sortWorldK DH 3 w r 0 m d' os).heap[k]? = w.heap[k]? := fun k hk hr=>by
  show ((w.heap.modify r _)++os)[k]? = _
  rw [Array.getElem?_append_left (by rw [Array.size_modify]; exact hk),Array.getElem?_modify,if_neg (fun e=>hr e.symm)]
 have hx:Chg (one r) w (sortWorldK DH 3 w r 0 m d' os):=⟨rfl,rfl,rfl,by
  show _≤((w.heap.modify r _)++os).size
  rw [Array.size_append,Array.size_modify]; omega,fun k hk hn=>hblk k hk hn⟩
 have hHas:∀ (i:Nat) y,d'.toList[i]? = some y→Has (sortWorldK DH 3 w r 0 m d' os) ⟨r,i * 3,none⟩ (DH y):=fun i y hy2 k u hu=>by
  have hi2:i< d'.size:=by simpa using (List.getElem?_eq_some_iff.1 hy2).1
  have hk:k< 3:=(List.getElem?_eq_some_iff.1 hu).1
  have h1:=(hK.cell hi2 hk).1
  have e1:d'[i]! = y:=by
   rw [getElem!_pos d' i hi2]
   have:=(List.getElem?_eq_some_iff.1 hy2).2
   simpa using this
  have e2:(DH y)[k]! = u:=by
   rw [getElem!_pos (DH y) k hk]
   exact (List.getElem?_eq_some_iff.1 hu).2
  rw [e1,e2] at h1
  rw [add_lit,← h1]
  show World.cell? _ ⟨r,i * 3+k,none⟩=World.cell? _ ⟨r,0+i * 3+k,none⟩
  rw [Nat.zero_add]
 refine ⟨_,rfl,rfl,d'.toList,hpl,?_,⟨by simp [hl],ho.le,ho.cap,?_,fun i x hi=>?_⟩,hHas,hx⟩
 ·rw [List.pairwise_map,List.pairwise_iff_getElem]
  intro i j hi hj hij
  have h1:=hsort i j (Nat.zero_le _) hij (by rw [← hl]; simpa using hj)
  rw [ltX] at h1
  simp only [Array.length_toList] at hi hj
  rw [getElem!_pos d' j hj,getElem!_pos d' i hi] at h1
  unfold Le
  rw [IK]
  simp only [Array.getElem_toList]
  rw [h1]
  simp
 ·obtain ⟨cur,hc1,hc2⟩:=ho.row
  refine ⟨putCells id 0 (flatK DH 3 d') cur,?_,by simp [putCells,hc2]⟩
  show ((w.heap.modify r _)++os)[r]? = _
  rw [Array.getElem?_append_left (by rw [Array.size_modify]; exact ho.lt),Array.getElem?_modify,if_pos rfl,hc1]
  rfl
 ·rw [List.getElem?_map] at hi
  cases hy2:d'.toList[i]? with
  | none=>rw [hy2] at hi; cases hi
  | some y =>
    rw [hy2] at hi
    simp only [Option.map_some,Option.some.injEq] at hi
    subst hi
    have hi2:i< d'.size:=by simpa using (List.getElem?_eq_some_iff.1 hy2).1
    obtain ⟨j,hj⟩:=List.getElem?_of_mem (hpl.mem_iff.1 (AV hy2))
    exact ⟨DH y,Rep.frame (hy j y hj).1 (fun b hb hF=>⟨hF,hblk b hb hF.2⟩),hHas i y hy2⟩
theorem JB {r n c:Nat}{xs0:List Pst}(ho:Own w r 204 F n c xs0) (hn:n≤1100000) :
 Calls Tryz.prog 164 [.slice (some ⟨r,0,none⟩) n c,.func (.func 165) #[] #[]].toArray w (Ag fun rv w'=>rv=.tuple #[]∧∃ zs,zs.Perm xs0∧zs.Pairwise Le∧Own w' r 204 F n c zs∧Chg (one r) w w'):=by
 obtain ⟨ys,hp,hy⟩:=XF ho
 refine (HZ ho hn hp hy).mono ?_
 rintro e w' ⟨v,rfl,h1,σ,h2,h3,h4,_,h5⟩
 exact ⟨v,rfl,h1,σ.map SX.p,hp▸h2.map SX.p,h3,h4,h5⟩
end Go.Proofs.YtcginoabkicdiaaGreat
namespace Go.Proofs.YtcginoabkicdiaaGreat
structure RepP (xs:List Pst) (L:Tag→List Int):Prop where
 nd:(xs.map Pst.tag).Nodup
 el:∀ x∈xs,x.ids=L x.tag∧x.ids≠[]
 all:∀ t,L t≠[]→∃ x∈xs,x.tag=t
theorem RepP.add {xs:List Pst}{L:Tag→List Int}(h:RepP xs L) (k:Int) (t:Tag):RepP (Eo k xs t) (fun u=>L u++(if u=t then [k] else [])):=by
 rcases I7 t xs 0 with ⟨h1,h2⟩ | ⟨h1,h2,x,h3,h4⟩
 ·have hn:Be t 0 xs< 0:=by omega
  have hL:L t=[]:=by
   by_cases he:L t=[]
   ·exact he
   ·obtain ⟨x,hx,hxt⟩:=h.all t he
    exact absurd hxt (h2 x hx)
  rw [IH hn]
  refine ⟨?_,fun x hx=>?_,fun u hu=>?_⟩
  ·rw [List.map_append]
   refine List.nodup_append.2 ⟨h.nd,by simp,fun a ha b hb=>?_⟩
   simp at hb
   subst hb
   obtain ⟨x,hx,rfl⟩:=List.mem_map.1 ha
   exact h2 x hx
  ·rcases List.mem_append.1 hx with hx | hx
   ·have:=h.el x hx
    have hne:=h2 x hx
    rw [if_neg hne,List.append_nil]
    exact this
   ·simp at hx
    subst hx
    simp [hL]
  ·by_cases hut:u=t
   ·exact ⟨⟨t,[k]⟩,by simp,hut.symm⟩
   ·rw [if_neg hut,List.append_nil] at hu
    obtain ⟨x,hx,hxu⟩:=h.all u hu
    exact ⟨x,by simp [hx],hxu⟩
 ·have hn:¬ Be t 0 xs< 0:=by omega
  rw [Nat.sub_zero] at h3
  rw [II hn h3]
  generalize (Be t 0 xs).toNat=i at h3
  obtain ⟨hil,hie⟩:=List.getElem?_eq_some_iff.1 h3
  have hmap:(xs.set i ⟨x.tag,x.ids++[k]⟩).map Pst.tag=xs.map Pst.tag:=by
   rw [List.map_set]
   have h5:(xs.map Pst.tag)[i]'(by simpa using hil)=x.tag:=by simp [hie]
   have h6:=List.set_getElem_self (show i< (xs.map Pst.tag).length by simpa using hil)
   rw [h5] at h6
   exact h6
  refine ⟨by rw [hmap]; exact h.nd,fun y hy=>?_,fun u hu=>?_⟩
  ·obtain ⟨j,hj,hjy⟩:=List.mem_iff_getElem.1 hy
   rw [List.getElem_set] at hjy
   have hj2:j< xs.length:=by simpa using hj
   split at hjy
   ·subst hjy
    have:=h.el x (AV h3)
    simp only
    rw [if_pos h4,this.1]
    exact ⟨rfl,by simp⟩
   ·rename_i hij
    have hym:y∈xs:=hjy▸List.getElem_mem hj2
    have hne:¬ y.tag=t:=fun e=>hij (by
     have h5:(xs.map Pst.tag)[i]'(by simpa using hil)=(xs.map Pst.tag)[j]'(by simpa using hj2):=by simp [hie,hjy,h4,e]
     exact (List.getElem_inj (h₀:=by simpa using hil) (h₁:=by simpa using hj2) h.nd).1 h5)
    rw [if_neg hne,List.append_nil]
    exact h.el y hym
  ·have key:∃ y∈xs,y.tag=u:=by
    by_cases hut:u=t
    ·exact ⟨x,AV h3,h4.trans hut.symm⟩
    ·rw [if_neg hut,List.append_nil] at hu
     exact h.all u hu
   obtain ⟨y,hy,hyu⟩:=key
   have hm:u∈(xs.set i ⟨x.tag,x.ids++[k]⟩).map Pst.tag:=by rw [hmap]; exact List.mem_map.2 ⟨y,hy,hyu⟩
   obtain ⟨z,hz,hzu⟩:=List.mem_map.1 hm
   exact ⟨z,hz,hzu⟩
theorem RepP.congr {xs:List Pst}{L L':Tag→List Int}(h:RepP xs L) (e:∀ t,L t=L' t):RepP xs L':=by
 have:L=L':=funext e
 rw [← this]; exact h
theorem RepP.name (k:Int):∀ (n:List Tag) (xs:List Pst) (L:Tag→List Int),n.Nodup→RepP xs L→RepP (n.foldl (Eo k) xs) (fun u=>L u++(if has n u then [k] else [])):=by
 intro n
 induction n with
 | nil=>intro xs L _ h; exact h.congr (fun t=>by simp [has])
 | cons t ts ih =>
   intro xs L hn h
   rw [List.nodup_cons] at hn
   refine (ih _ _ hn.2 (h.add k t)).congr (fun u=>?_)
   rw [List.append_assoc]
   congr 1
   by_cases hu:u=t
   ·subst hu
    have:has ts u=false:=by
     unfold has
     rw [List.any_eq_false]
     intro y hy e
     exact hn.1 (by rw [← eq_of_beq e]; exact hy)
    rw [this]
    simp [has]
   ·have:(t==u)=false:=by rw [beq_eq_false_iff_ne]; exact fun e=>hu e.symm
    simp only [if_neg hu,List.nil_append,has,List.any_cons,this,Bool.false_or]
    rfl
theorem RepP.bld:∀ (ns:List (List Tag)) (i:Nat) (xs:List Pst) (L:Tag→List Int),(∀ n∈ns,n.Nodup)→RepP xs L→RepP (GR i xs ns) (fun u=>L u++Ft u i ns):=by
 intro ns
 induction ns with
 | nil=>intro i xs L _ h; exact h.congr (fun t=>by simp [Ft])
 | cons n ns ih =>
   intro i xs L hn h
   refine (ih (i+1) _ _ (fun m hm=>hn m (by simp [hm])) (RepP.name _ n xs L (hn n AD) h)).congr (fun u=>?_)
   rw [List.append_assoc,Ft]
theorem RepP.Xy {names:List (List Tag)}(h:NmI names):RepP (GR 0 [] names) (ids names) :=
 (RepP.bld names 0 [] (fun _=>[]) (fun n hn=>(ID (h.ok n hn)).1) ⟨by simp,by simp,by simp⟩).congr (fun u=>by unfold ids; simp)
theorem Vv {names:List (List Tag)}{t:Tag}(h:ids names t≠[]):∃ n∈names,t∈n:=by
 unfold ids at h
 have:∀ (ns:List (List Tag)) (i:Nat),Ft t i ns≠[]→∃ n∈ns,t∈n:=by
  intro ns
  induction ns with
  | nil=>intro i h; simp [Ft] at h
  | cons n ns ih =>
    intro i h
    rw [Ft] at h
    by_cases hb:has n t=true
    ·refine ⟨n,by simp,?_⟩
     unfold has at hb
     rw [List.any_eq_true] at hb
     obtain ⟨y,hy,e⟩:=hb
     rw [← eq_of_beq e]; exact hy
    ·rw [if_neg hb,List.nil_append] at h
     obtain ⟨m,hm,ht⟩:=ih (i+1) h
     exact ⟨m,by simp [hm],ht⟩
 exact this names 0 h
theorem R4 (k:Int) (xs:List Pst) (t:Tag):(Eo k xs t).length≤xs.length+1:=by
 rcases I7 t xs 0 with ⟨g1,_⟩ | ⟨g1,g2,y,g3,g4⟩
 ·rw [IH AB]; simp
 ·rw [Nat.sub_zero] at g3
  rw [II AB g3]; simp
theorem R5 (k:Int):∀ (n:List Tag) (xs:List Pst),(n.foldl (Eo k) xs).length≤xs.length+n.length:=by
 intro n
 induction n with
 | nil=>intro xs; simp
 | cons t n ih =>
   intro xs
   have h1:=ih (Eo k xs t)
   have h2:=R4 k xs t
   simp only [List.foldl_cons,List.length_cons]
   omega
theorem T9:∀ (names:List (List Tag)) (i:Nat) (xs:List Pst),(∀ n∈names,n.length≤5)→(GR i xs names).length≤xs.length+5 * names.length:=by
 intro names
 induction names with
 | nil=>intro i xs _; simp [GR]
 | cons n names ih =>
   intro i xs h
   have h1:=ih (i+1) (n.foldl (Eo ((i:Int)+1)) xs) (fun m hm=>h m (by simp [hm]))
   have h2:=R5 ((i:Int)+1) n xs
   have h3:=h n AD
   show (GR (i+1) (n.foldl (Eo ((i:Int)+1)) xs) names).length≤_
   simp only [List.length_cons]
   omega
theorem PI {names:List (List Tag)}(h:NmI names) (h2:NsD names):(GR 0 [] names).length≤1000:=by
 have h1:=T9 names 0 [] (fun n hn=>(h2 n hn).1)
 have h3:=h.len
 simp only [List.length_nil] at h1
 omega
theorem PJ {α:Type}{R:α→α→Prop}(hirr:∀ a,¬ R a a) (htr:∀ a b c,R a b→R b c→R a c):∀ (xs ys:List α),xs.Pairwise R→ys.Pairwise R→(∀ a,a∈xs↔a∈ys)→xs=ys:=by
 intro xs
 induction xs with
 | nil =>
   intro ys _ _ h
   cases ys with
   | nil=>rfl
   | cons y ys=>exact absurd ((h y).2 AD) AD
 | cons x xs ih =>
   intro ys hx hy h
   cases ys with
   | nil=>exact absurd ((h x).1 AD) AD
   | cons y ys =>
     rw [List.pairwise_cons] at hx hy
     have hxy:x=y:=by
      have h1:=(h x).1 AD
      have h2:=(h y).2 AD
      rcases List.mem_cons.1 h1 with h1 | h1
      ·exact h1
      ·rcases List.mem_cons.1 h2 with h2 | h2
       ·exact h2.symm
       ·exact absurd (htr _ _ _ (hy.1 x h1) (hx.1 y h2)) (hirr y)
     subst hxy
     congr 1
     refine ih ys hx.2 hy.2 (fun a=>⟨fun ha=>?_,fun ha=>?_⟩)
     ·rcases List.mem_cons.1 ((h a).1 (by simp [ha])) with rfl | h1
      ·exact absurd (hx.1 _ ha) (hirr _)
      ·exact h1
     ·rcases List.mem_cons.1 ((h a).2 (by simp [ha])) with rfl | h1
      ·exact absurd (hy.1 _ ha) (hirr _)
      ·exact h1
theorem N7 {names:List (List Tag)}(h:NmI names) (_h2:NsD names){xs zs:List Pst}(hp:zs.Perm xs) (hs:zs.Pairwise Le) (he:xs=GR 0 [] names):(⟨names,zs⟩:Idx)=idxOf names:=by
 have hr:=RepP.Xy h
 rw [← he] at hr
 unfold idxOf
 congr 1
 have hnd:(zs.map Pst.tag).Nodup:=(hp.map Pst.tag).nodup_iff.2 hr.nd
 have hz:zs.Pairwise (fun a b=>Dj a.tag b.tag=true):=by
  rw [List.pairwise_iff_getElem] at hs ⊢
  intro i j hi hj hij
  have h1:=hs i j hi hj hij
  unfold Le at h1
  rw [IK] at h1
  cases h3:Dj zs[i].tag zs[j].tag with
  | true=>rfl
  | false =>
    have e:=I9 h3 (by simpa using h1)
    have h5:(zs.map Pst.tag)[i]'(by simpa using hi)=(zs.map Pst.tag)[j]'(by simpa using hj):=by simpa using e
    have:=(List.getElem_inj (h₀:=by simpa using hi) (h₁:=by simpa using hj) hnd).1 h5
    omega
 refine PJ (R:=fun (a b:Pst)=>Dj a.tag b.tag=true) (fun a ha=>by rw [I8] at ha; cases ha) (fun a b c=>EV) zs (DG names) hz (M6 names) (fun p=>⟨fun hpz=>?_,fun hpp=>?_⟩)
 ·have g:=hr.el p (hp.mem_iff.1 hpz)
  obtain ⟨n,hn,ht⟩:=Vv (by rw [← g.1]; exact g.2:ids names p.tag≠[])
  have:=Rh (names:=names) ((ID (h.ok n hn)).2 _ ht) (by rw [← g.1]; exact List.length_pos_iff.2 g.2)
  rw [← g.1] at this
  exact this
 ·obtain ⟨g1,g2,_⟩:=L8 hpp
  obtain ⟨x,hx,hxt⟩:=hr.all p.tag (by rw [← g1]; exact List.length_pos_iff.1 g2)
  have g:=hr.el x hx
  have:x=p:=(RO x p).2 ⟨hxt,by rw [g.1,hxt,g1]⟩
  exact this▸hp.mem_iff.2 hx
end Go.Proofs.YtcginoabkicdiaaGreat
namespace Go.Proofs.YtcginoabkicdiaaGreat
set_option maxRecDepth 100000
set_option maxHeartbeats 4000000
variable {w:World} {F:Nat→Prop} {a1:Option Addr} {n1 c1:Nat}
theorem GL (names:List (List Tag)) (h1:RepS w F a1 n1 c1 names) (p0:names.length≤7) (p1:∀ n∈names,n.length≤5) (p2:(GR 0 [] names).length≤1000):Calls Tryz.prog 102 [.slice a1 n1 c1].toArray w (Ag fun rv w'=>(∃ (y:Idx),VS (ge w.heap.size) w' (y:Idx) rv∧(y.names=names∧(NmI names→NsD names→y=idxOf names)))∧Ext w w'):=by
 refine goT func102 ?_
 obtain ⟨rfl,dQ,h1⟩:=h1.tp
 refine .s<|.g<|.np 27 [AH,AH] fun ae cT bF bG aG cU=>?_
 have cV:=Cy bF (Nat.le_refl _)
 replace h1:=(sn [] bG bF).g1 h1
 have aq:=bG
 refine .d<|.s<|.g<|.r 1<|.cl (BH names h1.ta AB (fun n hn=>by have:=p1 n hn; omega) (w:=cT) (F:=all)) ?_
 rintro en ag ⟨⟨bE,bX,bY,rfl,aH,bw⟩,b9⟩
 have cd:=al1 aG.lt
 have cW:Gb w.heap.size cT.heap.size:=aq.size
 have dR:=Cj bw aG.lt
 have cX:=H6 bw aq.size
 replace ⟨h1,aG,aq⟩:=(sz [ae] b9 bw).g3 h1 aG aq
 replace aH:=Own.take (s0:=w.heap.size) (M:=[ae]) aH cd cW
 have dS:=aH.len
 have az:=aH.sl cX
 replace h1:=(sd ag [bE,ae] bE).g1 h1
 have co:w.heap.size≤ag.heap.size:=aq.size
 replace az:RepS ag (nin (GN w.heap.size ag.heap.size ae) [ae]) _ _ _ _:=az.Ww.Bd (fun b _ h=>⟨h,by simp; exact h.2.2⟩)
 have h1c:=h1.Uz; have hEc:=aq; have hb2c:=aG
 refine .ns 0 204 [] fun aM dL bH bI cY cZ=>?_
 have c7:Cov nil ag aM:=H7 bH (Nat.le_refl _)
 replace az:=(sn [ae] bI bH).g1 az
 have ar:=bI
 have ax:Own (α:=Pst) dL aM 204 (nin (ge w.heap.size) [aM,ae]) 0 0 []:=Own.By cY
 refine .r 1<|.np 27 [AH,AH] fun af eB bz ce c8 da=>?_
 have db:=Ay bz ax.lt
 have de:=ar.cn bz
 replace ⟨az,ax,ar⟩:=(sn [aM,ae] ce bz).g3 az ax ar
 refine .sc [vS bE bX bY,vS aM 0 0] c8 fun eC cg df dh=>?_
 replace ⟨az,ax,ar⟩:=(so [af,aM,ae] cg).g3 az ax ar
 refine .d<|.s<|.s<|.g<|.r 3<|.d<|.b 0 ?_
 have hix:=IX.Wx (tX:=27) (tP:=204) (tI:=3) (s0:=w.heap.size) (s1:=ag.heap.size) co (GN.lt (b2:=ae)) az.w1 df ax db (Cov.ge de) (Cov.ge c7)
 have hE:=ar
 refine T.loop (X:=Nat × Nat × Nat × List RP × List Pst × List Nat) (aM,0,0,[],[],[]) (fun (r,c,k,ys,xs,rs)=>[(2,.pointer (some ⟨ae,0,none⟩)),(3,.pointer (some ⟨af,0,none⟩)),(13,.slice a1 names.length c1),(14,vI (names.length:Int)),(15,vI (k:Int))]) (fun (r,c,k,ys,xs,rs) w_=>Ext ag w_∧IX 27 204 3 w.heap.size ag.heap.size (GN w.heap.size ag.heap.size ae) w_ af r c (some ⟨bE,0,none⟩) bX bY names ys xs rs∧k≤names.length∧xs.length≤5 * k∧(∀ x∈xs,x.ids.length≤5 * k)∧GR k xs (names.drop k)=GR 0 [] names) (fun (r,c,k,ys,xs,rs)=>names.length - k) AA ⟨AA,AA,AA,AA,AA,trivial⟩ ⟨hE,hix,by omega,by simp,by simp,rfl⟩ ?_
 rintro ⟨r,c,k,ys,xs,rs⟩ e1_ eD ⟨hE,hix,hk,hxl,hil,hbl⟩ bZ
 have hnm:=h1c.ext hE
 refine .s<|.g<|.bp ((k:Int)< (names.length:Int)) (fun dj=>?_) (fun dj=>?_)
 ·refine .d<|.s<|.ct<|.sk<|.s<|.b 1<|.s<|.g<|.r 1 ?_
  have dm:k< names.length:=AB
  refine .ix k 1 hnm dm ?_
  obtain ⟨am,aI⟩:∃ y,names[k]? = some y:=⟨_,AU AB⟩
  obtain ⟨_,⟨dM,eE,dN,rfl,cp⟩,dq⟩:=hnm.elem k am aI
  have dt:=cp.len
  subst dt
  have dV:=cp.max
  refine .lh 0 dq<|.r 2<|.d<|.s<|.g<|.r 3<|.d<|.b 2 ?_
  have hEA:=hE; have eF:=p1 am (AV aI)
  refine T.loop (X:=Nat × Nat × Nat × List RP × List Pst × List Nat) (r,c,0,ys,xs,rs) (fun (rq,cq,j,ac,ab,ai)=>[(2,.pointer (some ⟨ae,0,none⟩)),(3,.pointer (some ⟨af,0,none⟩)),(4,vI (k:Int)),(13,.slice a1 names.length c1),(14,vI (names.length:Int)),(15,vI (k:Int)),(20,.slice dM am.length dN),(21,vI (am.length:Int)),(22,vI (j:Int))]) (fun (rq,cq,j,ac,ab,ai) w_=>Ext ag w_∧IX 27 204 3 w.heap.size ag.heap.size (GN w.heap.size ag.heap.size ae) w_ af rq cq (some ⟨bE,0,none⟩) bX bY names ac ab ai∧j≤am.length∧ab.length≤5 * k+j∧(∀ x∈ab,x.ids.length≤5 * k+j)∧(am.drop j).foldl (Eo ((k:Int)+1)) ab=am.foldl (Eo ((k:Int)+1)) xs) (fun (rq,cq,j,ac,ab,ai)=>am.length - j) AA ⟨AA,AA,AA,AA,AA,AA,AA,AA,AA,trivial⟩ ⟨hE,hix,by omega,by omega,fun x hx=>by have:=hil x hx; omega,rfl⟩ ?_
  rintro ⟨rq,cq,j,ac,ab,ai⟩ e2_ eG ⟨hE,hix,hj,ci,ao,hfl⟩ bA
  have du:=cp.via hEA hE
  refine .s<|.g<|.bp ((j:Int)< (am.length:Int)) (fun dv=>?_) (fun dv=>.d<|.s<|.cf<|.x 2 rfl<|.ib 1<|.g<|.it ((k:Int)+1)<|.r 1<|.d<|bZ (rq,cq,k+1,ac,ab,ai) _ _ ⟨AA,AA,AA,AA,AA,trivial⟩ ⟨hE,hix,by omega,by omega,fun x hx=>by have:=ao x hx; omega,P4 hbl (AZ aI) (En hfl AB)⟩ (by (simp only []; omega)))
  refine .d<|.s<|.ct<|.sk<|.s<|.b 3<|.s<|.g ?_
  have dw:j< am.length:=AB
  refine .ix j 2 du dw ?_
  obtain ⟨aa,aJ⟩:∃ y,am[j]? = some y:=⟨_,AU AB⟩
  obtain ⟨_,rfl,dx⟩:=du.elem j aa aJ
  refine .lg 0 dx<|.np 118 [.string (bs []),.string (bs [])] fun dy eH bJ bK dA cr=>?_
  have cu:∀ q_∈af::rq::ai,Nb dy q_:=fun q_ hq_=>Ay bJ (hix.lt q_ hq_)
  have bL:ag.heap.size≤dy:=Nat.le_trans hE.size (Nat.le_of_eq (Eq.symm bJ))
  replace hix:=hix.ext bK
  replace hE:=hE.trans bK
  refine .sc [vT aa.key,vT aa.val] dA fun dB aN aA cw=>?_
  replace hix:=hix.one aN cu bL
  replace hE:=Chg.Dh hE aN ⟨.inr bL⟩
  refine .d<|.s<|.g<|.r 1<|.lb hix.box<|.r 1<|.cl (FC ab aa (hix.rep.Bd (F':=all) (fun _ _ _=>trivial)) aA (w:=dB) (F:=all)) ?_
  rintro dX bM ⟨rfl,aB⟩
  replace aA:=aA.ext aB
  replace hix:=hix.ext aB
  replace hE:=hE.trans aB
  refine .r 1<|.d<|.s<|.s<|.g<|.r 1<|.bp (Be aa 0 ab< 0) (fun cx=>?_) (fun cx=>?_)
  ·refine .d<|.ct<|.s<|.g<|.r 1<|.lb hix.box<|.r 2<|.d<|.g<|.r 1<|.lb hix.box<|.ln aA<|.r 1<|.ns 1 204 [vT aa.key,vT aa.val,AH] fun ay dY aO aP bN cy=>?_
   have bO:∀ q_∈af::rq::ai,Nb ay q_:=fun q_ hq_=>Ay aO (hix.lt q_ hq_)
   have cz:ag.heap.size≤ay:=Nat.le_trans hE.size (Nat.le_of_eq (Eq.symm aO))
   replace hix:=hix.ext aP
   replace hE:=hE.trans aP
   have cj:=hix.lx; have dC:=hix.lr; have hvl_:=bN.lt; have hge_r:=hix.new rq AJ; have cA:=hix.new af AI; have hEs:=hE.size
   refine RG.Ei (T:=25) (ty:=25) (y:=(⟨aa.key,aa.val,none,0,0⟩:RP)) hix.own bN AA AA rfl ⟨trivial,bO rq AJ⟩ AB fun ah ck dZ cB b6 aQ=>?_
   replace hE:=Chg.Dh hE aQ ⟨.inr hge_r⟩
   refine .r 1<|.ss 1 (vS ah (ac.length+1) ck) (hix.box.chg aQ (Nb.one hix.ne)) fun bP aR cC cD=>?_
   replace hix:=hix.push (t:=⟨aa.key,aa.val⟩) (vb:=ay) hEs aQ cB b6 bO cz hvl_ aR cC
   replace hE:=Chg.Dh hE aR ⟨.inr cA⟩
   refine .d ?_
   obtain ⟨xi,hxi⟩:∃ q,(ab++[(⟨⟨aa.key,aa.val⟩,[]⟩:Pst)])[ac.length]? = some q:=⟨_,AU (by (simp; omega))⟩
   obtain ⟨yi,hyi⟩:∃ q,(ac++[(⟨aa.key,aa.val,none,0,0⟩:RP)])[ac.length]? = some q:=⟨_,AU (by (simp; done))⟩
   obtain ⟨ri,hri⟩:∃ q,(ai++[ay])[ac.length]? = some q:=⟨_,AU (by (simp; omega))⟩
   have hiy:ac.length< (ac++[(⟨aa.key,aa.val,none,0,0⟩:RP)]).length:=(List.getElem?_eq_some_iff.1 hyi).1
   have hl3_:af< bP.heap.size:=hix.lt _ AI; have hlr_:ah< bP.heap.size:=hix.lt _ AJ; have hn3_:=hix.ne3 hri; have hnr_:=hix.ner hri
   refine .gd (mtb [ri] bP.heap.size) 13 fun dD aS=>?_
   replace hix:=hix.ext aS
   replace hE:=hE.trans aS
   refine .r [0]<|.lb 1 hix.box (C5 (all_cons hn3_ all_nil) hl3_)<|.r [2,3]<|.lb 4 hix.box (C5 (all_cons hn3_ all_nil) hl3_)<|.r [5] ?_
   have cE:ac.length< (ac++[(⟨aa.key,aa.val,none,0,0⟩:RP)]).length:=AB
   refine GA.idx (i:=6) (b:=ah) (o:=0) ac.length (len:=(ac++[(⟨aa.key,aa.val,none,0,0⟩:RP)]).length) (z:=(ac.length:Int)) (sz:=3) AA AB cE rfl<|.r [7] ?_
   obtain ⟨_,rfl,aT⟩:=hix.own.elem ac.length yi hyi
   replace aT:Has dD ⟨ah,0+ac.length * Rep.sz RP,none⟩ [vT yi.key,vT yi.val,.slice yi.a yi.n yi.c]:=by rw [Nat.zero_add]; exact aT
   refine .lh 8 2 aT (C5 (all_cons hnr_ all_nil) hlr_)<|.r [9]<|GA.int (i:=10) ((k:Int)+1) AA AB<|.go 11<|.ns 1 3 [vI ((k:Int)+1)] fun d0 aU=>?_
   replace hix:=hix.ext aU
   replace hE:=hE.trans aU
   intro bQ d3 aV aW aX cF
   have cG:∀ q_∈af::ah::(ai++[ay]),Nb bQ q_:=fun q_ hq_=>Ay aV (hix.lt q_ hq_)
   replace hix:=hix.ext aW
   replace hE:=hE.trans aW
   refine .go 12<|GE.append (T:=33) (ty:=33) (args:=[.slice yi.a yi.n yi.c,vS bQ 1 1]) AA fun d4 aC=>?_
   replace aX:=aX.ext aC
   replace hix:=hix.ext aC
   replace hE:=hE.trans aC
   have hyn:=(hix.el ac.length xi yi ri hxi hyi hri).2.2.n; have hyl:xi.ids.length≤5000000:=by have hm:=AV hxi; (rcases List.mem_append.1 hm with hm | hm; (have:=ao _ hm; omega); (simp at hm; subst hm; simp))
   have bR:=hE.size; have hge_ri:=hix.new ri (IX.mi hri)
   obtain ⟨aK,bC,d5,bS,aY,b7,aj⟩:=Jt.app (P:=Tryz.prog) (T:=33) (ty:=33) (hix.el ac.length xi yi ri hxi hyi hri).2.2 AA aX (cG ri (IX.mi hri)) AB
   refine ⟨_,_,bS,Chg.toS aj (.inl AI),?_⟩
   replace hE:=Chg.Dh hE aj ⟨.inr hge_ri⟩
   refine .d fun dE aD=>?_
   replace aj:=Chg.trans aj (Ext.chg aD)
   replace aY:=aY.ext aD
   replace hE:=hE.trans aD
   have cH:ac.length< (ac++[(⟨aa.key,aa.val,none,0,0⟩:RP)]).length:=AB
   refine RG.idx (b:=ah) (o:=0) ac.length (len:=(ac++[(⟨aa.key,aa.val,none,0,0⟩:RP)]).length) (i:=(ac.length:Int)) (sz:=3) AA AB cH rfl<|.r 1 ?_
   have bT:=N1 HH hix.own aj (Nb.one (hix.ner hri))
   obtain ⟨_,rfl,aZ⟩:=bT.elem ac.length yi hyi
   replace aZ:Has dE ⟨ah,0+ac.length * Rep.sz RP,none⟩ [vT yi.key,vT yi.val,.slice yi.a yi.n yi.c]:=by rw [Nat.zero_add]; exact aZ
   refine RG.Gc (t':=33) (i:=ac.length) (k:=2) (v:=vS aK (yi.n+1) bC) (cs:=[vT yi.key,vT yi.val,.slice yi.a yi.n yi.c]) (⟨yi.key,yi.val,some ⟨aK,0,none⟩,yi.n+1,bC⟩:RP) bT hyi aZ AA AA AA rfl fun d6 cI ba cJ=>?_
   have hge_r2:=hix.new ah AJ
   replace hix:=hix.upd (i:=ac.length) (z:=(k:Int)+1) bR hxi hyi hri aj aY b7 ba (y':=(⟨yi.key,yi.val,some ⟨aK,0,none⟩,yi.n+1,bC⟩:RP)) rfl cI
   replace hE:=Chg.Dh hE ba ⟨.inr hge_r2⟩
   refine .d<|.ib 3<|.g<|.it ((j:Int)+1)<|.r 1<|.d ?_
   have hxN:((ab++[(⟨⟨aa.key,aa.val⟩,[]⟩:Pst)]).set ac.length ⟨xi.tag,xi.ids++[(k:Int)+1]⟩)=Eo ((k:Int)+1) ab aa:=(Rp hxi (by rw [← cj])).trans (IH ‹_›).symm
   have hbd:=IJ ((k:Int)+1) ab aa (5 * k+j) ci ao; rw [← hxN] at hbd
   have hfs:=D5 hfl (AZ aJ); rw [← hxN] at hfs
   exact bA (ah,ck,j+1,((ac++[(⟨aa.key,aa.val,none,0,0⟩:RP)]).set ac.length (⟨yi.key,yi.val,some ⟨aK,0,none⟩,yi.n+1,bC⟩:RP)),((ab++[(⟨⟨aa.key,aa.val⟩,[]⟩:Pst)]).set ac.length ⟨xi.tag,xi.ids++[(k:Int)+1]⟩),((ai++[ay]).set ac.length aK)) _ _ ⟨AA,AA,AA,AA,AA,AA,AA,AA,AA,trivial⟩ ⟨hE,hix,by omega,by have:=hbd.1; omega,fun x hx=>by have:=hbd.2 x hx; omega,hfs⟩ (by (simp only []; omega))
  refine .d<|.cf<|.sk ?_
  have cj:=hix.lx; have dC:=hix.lr; have hib:=P3 (t:=aa) (xs:=ab) ‹_›
  obtain ⟨xi,hxi⟩:∃ q,ab[(Be aa 0 ab).toNat]? = some q:=⟨_,AU AB⟩
  obtain ⟨yi,hyi⟩:∃ q,ac[(Be aa 0 ab).toNat]? = some q:=⟨_,AU AB⟩
  obtain ⟨ri,hri⟩:∃ q,ai[(Be aa 0 ab).toNat]? = some q:=⟨_,AU AB⟩
  have hiy:(Be aa 0 ab).toNat< ac.length:=(List.getElem?_eq_some_iff.1 hyi).1
  have hl3_:af< bM.heap.size:=hix.lt _ AI; have hlr_:rq< bM.heap.size:=hix.lt _ AJ; have hn3_:=hix.ne3 hri; have hnr_:=hix.ner hri
  refine .gd (mtb [ri] bM.heap.size) 13 fun dF bg=>?_
  replace hix:=hix.ext bg
  replace hE:=hE.trans bg
  refine .r [0]<|.lb 1 hix.box (C5 (all_cons hn3_ all_nil) hl3_)<|.r [2,3]<|.lb 4 hix.box (C5 (all_cons hn3_ all_nil) hl3_)<|.r [5] ?_
  have cK:(Be aa 0 ab).toNat< ac.length:=AB
  refine GA.idx (i:=6) (b:=rq) (o:=0) ((Be aa 0 ab).toNat) (len:=ac.length) (z:=Be aa 0 ab) (sz:=3) AA AB cK rfl<|.r [7] ?_
  obtain ⟨_,rfl,bh⟩:=hix.own.elem ((Be aa 0 ab).toNat) yi hyi
  replace bh:Has dF ⟨rq,0+((Be aa 0 ab).toNat) * Rep.sz RP,none⟩ [vT yi.key,vT yi.val,.slice yi.a yi.n yi.c]:=by rw [Nat.zero_add]; exact bh
  refine .lh 8 2 bh (C5 (all_cons hnr_ all_nil) hlr_)<|.r [9]<|GA.int (i:=10) ((k:Int)+1) AA AB<|.go 11<|.ns 1 3 [vI ((k:Int)+1)] fun d7 bi=>?_
  replace hix:=hix.ext bi
  replace hE:=hE.trans bi
  intro bU d8 bj bk bm cL
  have cM:∀ q_∈af::rq::ai,Nb bU q_:=fun q_ hq_=>Ay bj (hix.lt q_ hq_)
  replace hix:=hix.ext bk
  replace hE:=hE.trans bk
  refine .go 12<|GE.append (T:=33) (ty:=33) (args:=[.slice yi.a yi.n yi.c,vS bU 1 1]) AA fun d9 aE=>?_
  replace bm:=bm.ext aE
  replace hix:=hix.ext aE
  replace hE:=hE.trans aE
  have hyn:=(hix.el (Be aa 0 ab).toNat xi yi ri hxi hyi hri).2.2.n; have hyl:xi.ids.length≤5000000:=by have hm:=AV hxi; (have:=ao _ hm; omega)
  have bR:=hE.size; have hge_ri:=hix.new ri (IX.mi hri)
  obtain ⟨aL,bD,ec,bV,bn,b8,ak⟩:=Jt.app (P:=Tryz.prog) (T:=33) (ty:=33) (hix.el (Be aa 0 ab).toNat xi yi ri hxi hyi hri).2.2 AA bm (cM ri (IX.mi hri)) AB
  refine ⟨_,_,bV,Chg.toS ak (.inl AI),?_⟩
  replace hE:=Chg.Dh hE ak ⟨.inr hge_ri⟩
  refine .d fun dG aF=>?_
  replace ak:=Chg.trans ak (Ext.chg aF)
  replace bn:=bn.ext aF
  replace hE:=hE.trans aF
  have cN:(Be aa 0 ab).toNat< ac.length:=AB
  refine RG.idx (b:=rq) (o:=0) ((Be aa 0 ab).toNat) (len:=ac.length) (i:=Be aa 0 ab) (sz:=3) AA AB cN rfl<|.r 1 ?_
  have bW:=N1 HH hix.own ak (Nb.one (hix.ner hri))
  obtain ⟨_,rfl,bo⟩:=bW.elem ((Be aa 0 ab).toNat) yi hyi
  replace bo:Has dG ⟨rq,0+((Be aa 0 ab).toNat) * Rep.sz RP,none⟩ [vT yi.key,vT yi.val,.slice yi.a yi.n yi.c]:=by rw [Nat.zero_add]; exact bo
  refine RG.Gc (t':=33) (i:=((Be aa 0 ab).toNat)) (k:=2) (v:=vS aL (yi.n+1) bD) (cs:=[vT yi.key,vT yi.val,.slice yi.a yi.n yi.c]) (⟨yi.key,yi.val,some ⟨aL,0,none⟩,yi.n+1,bD⟩:RP) bW hyi bo AA AA AA rfl fun ee cO bq cP=>?_
  have hge_r2:=hix.new rq AJ
  replace hix:=hix.upd (i:=(Be aa 0 ab).toNat) (z:=(k:Int)+1) bR hxi hyi hri ak bn b8 bq (y':=(⟨yi.key,yi.val,some ⟨aL,0,none⟩,yi.n+1,bD⟩:RP)) rfl cO
  replace hE:=Chg.Dh hE bq ⟨.inr hge_r2⟩
  refine .d<|.ib 3<|.g<|.it ((j:Int)+1)<|.r 1<|.d ?_
  have hxN:(ab.set ((Be aa 0 ab).toNat) ⟨xi.tag,xi.ids++[(k:Int)+1]⟩)=Eo ((k:Int)+1) ab aa:=(II ‹_› hxi).symm
  have hbd:=IJ ((k:Int)+1) ab aa (5 * k+j) ci ao; rw [← hxN] at hbd
  have hfs:=D5 hfl (AZ aJ); rw [← hxN] at hfs
  exact bA (rq,cq,j+1,(ac.set ((Be aa 0 ab).toNat) (⟨yi.key,yi.val,some ⟨aL,0,none⟩,yi.n+1,bD⟩:RP)),(ab.set ((Be aa 0 ab).toNat) ⟨xi.tag,xi.ids++[(k:Int)+1]⟩),(ai.set ((Be aa 0 ab).toNat) aL)) _ _ ⟨AA,AA,AA,AA,AA,AA,AA,AA,AA,trivial⟩ ⟨hE,hix,by omega,by have:=hbd.1; omega,fun x hx=>by have:=hbd.2 x hx; omega,hfs⟩ (by (simp only []; omega))
 refine .d<|.s<|.cf<|.x 0 rfl<|.s<|.g<|.r 1 ?_
 have hEw:=hEc.trans hE; have hb2n:=hb2c.ext hE; have hb2l:=hb2c.lt; have hoP:=hix.U0 hb2l; have hNn:=hix.Ro; have hb3n:=hix.box; have hn3r:=hix.ne
 have eg:Nb af ae:=Cj (hix.new _ AI) hb2l; have ej:Nb r ae:=Cj (hix.new _ AJ) hb2l
 have hgr:Gb w.heap.size r:=Nat.le_trans co (hix.new _ AJ)
 have hbe:=Rq hbl AB
 refine .lb hb3n<|.cl (JB hoP (Nat.le_trans (by rw [hix.lx,hbe]; exact p2) (by decide:1000≤1100000))) ?_
 rintro ek dH ⟨rfl,cQ,hperm_,hsort_,br,bu⟩
 replace ⟨hNn,hb3n,hb2n⟩:=(so [af,r,ae] bu).g3 hNn hb3n hb2n
 replace hEw:Chg nil w dH:=Chg.Dh hEw bu ⟨.inr hgr⟩
 refine .d<|.s<|.g<|.ln hb3n<|.sc [vS bE bX bY,vS r ys.length c] hb2n fun cm bv cR cS=>?_
 replace ⟨hNn,br,hb3n⟩:=(so [af,r,ae] bv).g3 hNn br hb3n
 replace hEw:Chg nil w cm:=Chg.Dh hEw bv ⟨.inr cV⟩
 refine .d ?_
 have dI:=br.sl hgr
 replace hNn:=(sd cm [af,r,ae] r).g1 hNn
 exact .rb func102 results102 cR ⟨⟨((⟨names,cQ⟩:Idx):Idx),⟨_,rfl,⟨_,_,_,_,_,_,rfl,hNn.w1,dI.w1⟩⟩,(by exact ⟨rfl,fun a b=>N7 a b hperm_ hsort_ hbe⟩)⟩,hEw⟩
theorem Kp (names:List (List Tag)) (h1:RepS w F a1 n1 c1 names) (p0:NmI names) (p1:NsD names):Calls Tryz.prog 102 [.slice a1 n1 c1].toArray w (Ag fun rv w'=>VS (ge w.heap.size) w' (idxOf names:Idx) rv∧Ext w w'):=by
 refine (GL names h1 (by have:=p0.len; omega) (fun n hn=>(p1 n hn).1) (PI p0 p1)).mono ?_
 rintro e w' ⟨v,rfl,⟨y,hv,hy⟩,hx⟩
 exact ⟨v,rfl,by rw [← hy.2 p0 p1]; exact hv,hx⟩
end Go.Proofs.YtcginoabkicdiaaGreat
namespace Go.Proofs.YtcginoabkicdiaaGreat
theorem Vw {t:Tag}(h:CI t=true):∃ x y,t=⟨[x],[y]⟩:=by
 obtain ⟨k,v⟩:=t
 simp only [CI,AW] at h
 have h1:k.length=1:=DO h.1
 have h2:v.length=1:=DO h.2
 match k,v,h1,h2 with
 | [x],[y],_,_=>exact ⟨x,y,rfl⟩
theorem Qn:∀ (n m:List Tag) (i:Nat),(∀ t∈n,CI t=true)→(∀ t∈m,CI t=true)→Gh i n=Gh i m→n=m:=by
 intro n
 induction n with
 | nil =>
   intro m i _ hm h
   cases m with
   | nil=>rfl
   | cons t ts =>
     obtain ⟨x,y,rfl⟩:=Vw (hm t AD)
     simp [Gh,L2] at h
 | cons t ts ih =>
   intro m i hn hm h
   obtain ⟨x,y,rfl⟩:=Vw (hn t AD)
   cases m with
   | nil=>simp [Gh,L2] at h
   | cons u us =>
     obtain ⟨x',y',rfl⟩:=Vw (hm u AD)
     simp only [Gh,L2,List.append_assoc] at h
     have h2:=List.append_cancel_left h
     simp only [List.cons_append,List.nil_append,List.cons.injEq,true_and] at h2
     obtain ⟨rfl,rfl,h3⟩:=h2
     rw [ih us (i+1) (fun t ht=>hn t (by simp [ht])) (fun t ht=>hm t (by simp [ht])) h3]
theorem Jd {n:List Tag}(h:At n=true):∀ t∈n,CI t=true:=by
 simp only [At,AW] at h
 exact F3 n none h.1
theorem N8 {n m:List Tag}(hn:At n=true) (hm:At m=true) (h:text n=text m):n=m:=Qn n m 0 (Jd hn) (Jd hm) h
theorem Vx {names:List (List Tag)}{n:List Tag}(h:∀ m∈names,At m=true) (hn:At n=true):∀ i,nmF (text n) i names=DP n i names+1:=by
 induction names with
 | nil=>intro i; rfl
 | cons x xs ih =>
   intro i
   unfold nmF DP
   by_cases hx:x=n
   ·rw [if_pos (by simp [hx]),if_pos (by simp [hx])]
   ·have h1:¬ (text x==text n)=true:=fun e=>hx (N8 (h x AD) hn (eq_of_beq e))
    have h2:¬ (x==n)=true:=fun e=>hx (eq_of_beq e)
    rw [if_neg h1,if_neg h2]
    exact ih (fun m hm=>h m (by simp [hm])) (i+1)
theorem G2 {x:Idx}{n:List Tag}(h:NmI x.names) (hn:At n=true):GP x n=DP n 0 x.names+1:=Vx h.ok hn 0
def CD (x:Idx) (n:List Tag):Idx × Int × Bool:=if At n=true then BX x n else (⟨[],[]⟩,0,false)
theorem NC {x:Idx}{n:List Tag}(h:At n=false):CD x n=(⟨[],[]⟩,0,false):=by unfold CD; rw [if_neg (by simp [h])]
theorem HJ {x:Idx}{n:List Tag}(h:At n=true):CD x n=BX x n:=by unfold CD; rw [if_pos h]
theorem Kq {x:Idx}{n:List Tag}(hx:IxI x) (h:At n=true) (h1:DP n 0 x.names+1 > 0):CD x n=(idxOf x.names,DP n 0 x.names+1,true):=by
 rw [HJ h,Gn (by rw [G2 hx.nm h]; exact h1),G2 hx.nm h,← hx.eq]
theorem JC {x:Idx}{n:List Tag}(hx:IxI x) (h:At n=true) (h1:¬ DP n 0 x.names+1 > 0) (h2:(x.names.length:Int)=6):CD x n=(idxOf x.names,0,false):=by
 rw [HJ h,FA (by rw [G2 hx.nm h]; exact h1) (.inr AB),← hx.eq]
theorem Fa {x:Idx}{n:List Tag}(hx:IxI x) (h:At n=true) (h1:¬ DP n 0 x.names+1 > 0) (h2:(x.names.length:Int)≠6):CD x n=(idxOf (x.names++[n]),(x.names.length:Int)+1,true):=by
 rw [HJ h,Gp (by rw [G2 hx.nm h]; exact h1) h (by have:=hx.nm.len; omega)]
theorem NmI.XG {x:Idx}{n:List Tag}(hx:IxI x) (h:At n=true) (h1:¬ DP n 0 x.names+1 > 0) (h2:(x.names.length:Int)≠6):NmI (x.names++[n]):=by
 refine NmI.add (ps:=x.AY) hx.nm h ?_ (by have:=hx.nm.len; omega)
 have:=G2 (x:=⟨x.names,x.AY⟩) hx.nm h
 rw [this]; exact h1
theorem NsD.add {names:List (List Tag)}{n:List Tag}(h:NsD names) (hn:NmD n):NsD (names++[n]):=fun m hm=>by
 rcases List.mem_append.1 hm with hm | hm
 ·exact h m hm
 ·simp at hm; rw [hm]; exact hn
theorem MH:∀ (is:List Int) (bs:List (List Row)) (o:Option Int),Bm o is bs=true→(∀ q,o=some q→∀ i∈is,q< i)∧∀ m,LP m is=(match is.getLast? with | some l=>if l > m then l else m | none=>m)∨is=[]:=by
 intro is
 induction is with
 | nil=>intro bs o _; exact ⟨fun _ _ i hi=>(by cases hi),fun m=>.inr rfl⟩
 | cons x xs ih =>
   intro bs o h
   cases bs with
   | nil=>simp [Bm] at h
   | cons b bs =>
     simp only [Bm,AW] at h
     obtain ⟨⟨⟨⟨_,h2⟩,_⟩,_⟩,h5⟩:=h
     obtain ⟨g1,g2⟩:=ih bs (some x) h5
     refine ⟨fun q hq i hi=>?_,fun m=>.inl ?_⟩
     ·subst hq
      have hqx:q< x:=by simpa using h2
      rcases List.mem_cons.1 hi with rfl | hi
      ·exact hqx
      ·have:=g1 x rfl i hi; omega
     ·unfold LP
      rcases g2 (if x > m then x else m) with g | g
      ·rw [g]
       cases hl:xs.getLast? with
       | none =>
         have:xs=[]:=List.getLast?_eq_none_iff.1 hl
         subst this
         simp
       | some l =>
         have hlm:=g1 x rfl l (List.mem_of_getLast? hl)
         have e:(x::xs).getLast? = some l:=by rw [List.getLast?_cons,hl]; rfl
         rw [e]
         simp only
         repeat' split
         all_goals omega
      ·subst g
       simp [LP]
theorem Ks {p:Prt}{n:Int}(h:Am p=true) (h0:(p.ids.length:Int)≠0):Bj p n = !decide (maxOf p.ids > n):=by
 unfold Bj
 rw [h,Bool.true_and]
 unfold Am at h
 simp only [AW,decide_eq_true_eq] at h
 match hi:p.ids,h.2 with
 | [],_=>rw [hi] at h0; simp at h0
 | x :: xs, hg =>
   cases hb:p.blocks with
   | nil=>rw [hb] at hg; simp [Bm] at hg
   | cons b bs =>
     rw [hb] at hg
     simp only [Bm,AW] at hg
     obtain ⟨g1,g2⟩:=MH xs bs (some x) hg.2
     show (match (x::xs).getLast? with | some i=>decide (i≤n) | none=>false) = !decide (LP x xs > n)
     rcases g2 x with g | g
     ·rw [g]
      cases hl:xs.getLast? with
      | none =>
        have:xs=[]:=List.getLast?_eq_none_iff.1 hl
        subst this
        simp only [List.getLast?_singleton]
        rw [Bool.eq_iff_iff]; simp
      | some l =>
        have hlm:=g1 x rfl l (List.mem_of_getLast? hl)
        have e:(x::xs).getLast? = some l:=by rw [List.getLast?_cons,hl]; rfl
        rw [e]
        simp only
        simp only [show l > x from hlm,if_true]
        rw [Bool.eq_iff_iff]; simp
     ·subst g
      simp only [List.getLast?_singleton,LP]
      rw [Bool.eq_iff_iff]; simp
theorem R6 {p:Prt}{n:Int}(h:Am p=false):Bj p n=false:=by unfold Bj; rw [h]; rfl
theorem R7 {p:Prt}{n:Int}(h:(p.ids.length:Int)=0):Bj p n=false:=by
 have:p.ids=[]:=List.eq_nil_of_length_eq_zero AB
 unfold Bj; rw [this]; simp
theorem R8 {p:Prt}{n:Int}(h:Am p=true) (h0:(p.ids.length:Int)≠0) (h1:maxOf p.ids > n):Bj p n=false:=by rw [Ks h h0]; simp [h1]
theorem R9 {p:Prt}{n:Int}(h:Am p=true) (h0:(p.ids.length:Int)≠0) (h1:¬ maxOf p.ids > n):Bj p n=true:=by rw [Ks h h0]; simp [h1]
theorem Eu {p:Prt}{n:Int}(h:Bj p n=true):Am p=true:=by
 unfold Bj at h
 simp only [AW] at h
 exact h.1
structure StoK (s:Sto):Prop where
 sd:SD s
 part:∀ p∈s.parts,PrtI p∧Am p=true
 row:∀ m∈s.mem,BU m.row=true
 id:∀ m∈s.mem,1≤m.id∧m.id≤s.idx.names.length
 nm2:s.mem.length≤20
theorem StoK.of {s:Sto}(h:SD s) (hk:Ae s=true):StoK s:=by
 unfold Ae at hk
 simp only [AW,decide_eq_true_eq,List.all_eq_true] at hk
 obtain ⟨⟨⟨⟨_,h2⟩,h3⟩,h4⟩,_⟩:=hk
 refine ⟨h,fun p hp=>⟨h.part p hp,Eu (h3 p hp)⟩,fun m hm=>?_,fun m hm=>?_,h2⟩
 ·have:=h4 m hm
  unfold Ed at this
  simp only [AW] at this
  exact this.2
 ·have:=h4 m hm
  unfold Ed at this
  simp only [AW] at this
  exact Bu this.1
theorem StoK.IN {s:Sto}(h:StoK s):StoI s:=⟨h.sd.idx,h.sd.nm,h.sd.np,h.sd.part,h.nm2,fun m hm=>⟨(h.id m hm).1,(h.id m hm).2,h.row m hm⟩⟩
theorem StoK.pt {s:Sto}(h:SD s) (h3:s.parts.all (fun p=>Bj p s.idx.names.length)=true):∀ p∈s.parts,PrtI p∧Am p=true:=fun p hp=>⟨h.part p hp,Eu (List.all_eq_true.1 h3 p hp)⟩
theorem StoK.rw {s:Sto}(h4:s.mem.all (Ed s.idx.names.length)=true):∀ m∈s.mem,BU m.row=true:=fun m hm=>by
 have:=List.all_eq_true.1 h4 m hm
 unfold Ed at this
 simp only [AW] at this
 exact this.2
def Ha (s:Sto) (id:Int):List Row:=if Ae s=true∧inR id 1 s.idx.names.length=true then rowsOf s id else []
theorem Qo {s:Sto}{id:Int}(h:Ae s=true) (h2:inR id 1 s.idx.names.length=true):Ha s id=rowsOf s id:=by unfold Ha; rw [if_pos ⟨h,h2⟩]
section
variable {s:Sto} {n:List Tag} {r:Row}
theorem Vy (_h:SD s) (hn:At n=true) (h1:(CD s.idx n).2.2=false):Ca s n r=(s,false):=by rw [HJ hn] at h1; exact O2 h1
theorem Vz (_h:SD s) (_hn:At n=true) (h1:BU r=false):Ca s n r=(s,false):=O3 h1
theorem V0 (_h:SD s) (_hn:At n=true) (h1:(s.mem.length:Int)=20):Ca s n r=(s,false):=O4 AB
theorem U5 (h:Ae s=true):s.mem.length≤20:=by
 unfold Ae at h
 simp only [AW,decide_eq_true_eq] at h
 exact h.1.1.1.2
theorem V1 (_h:SD s) (hk:Ae s=true) (hn:At n=true) (h1:(CD s.idx n).2.2=true) (h2:BU r=true) (h3:(s.mem.length:Int)≠20)
 (h4:((rowsOf (⟨⟨(CD s.idx n).1.names,(CD s.idx n).1.AY⟩,(Ad s).parts,(Ad s).mem++[⟨(CD s.idx n).2.1,r⟩]⟩:Sto) (CD s.idx n).2.1).length:Int) > 24):Ca s n r=(s,false):=by
 rw [HJ hn] at h1 h4
 have:=U5 hk
 exact Ho h1 h2 AB h4
theorem V2 (_h:SD s) (hk:Ae s=true) (hn:At n=true) (h1:(CD s.idx n).2.2=true) (h2:BU r=true) (h3:(s.mem.length:Int)≠20)
 (h4:¬ ((rowsOf (⟨⟨(CD s.idx n).1.names,(CD s.idx n).1.AY⟩,(Ad s).parts,(Ad s).mem++[⟨(CD s.idx n).2.1,r⟩]⟩:Sto) (CD s.idx n).2.1).length:Int) > 24):Ca s n r=(⟨(CD s.idx n).1,s.parts,s.mem++[⟨(CD s.idx n).2.1,r⟩]⟩,true):=by
 rw [HJ hn] at h1 h4 ⊢
 have:=U5 hk
 exact Hp h1 h2 AB h4
theorem SA (h:SD s) (hk:Ae s=true) (hn:At n=true) (h1:(CD s.idx n).2.2=false):Db s n r=(Ad s,false):=by rw [Gw hk hn,h.copy]; exact Vy h hn h1
theorem SB (h:SD s) (hk:Ae s=true) (hn:At n=true) (h1:BU r=false):Db s n r=(Ad s,false):=by rw [Gw hk hn,h.copy]; exact Vz h hn h1
theorem SC (h:SD s) (hk:Ae s=true) (hn:At n=true) (h1:(s.mem.length:Int)=20):Db s n r=(Ad s,false):=by rw [Gw hk hn,h.copy]; exact V0 h hn h1
theorem SE (h:SD s) (hk:Ae s=true) (hn:At n=true) (h1:(CD s.idx n).2.2=true) (h2:BU r=true) (h3:(s.mem.length:Int)≠20)
 (h4:((rowsOf (⟨⟨(CD s.idx n).1.names,(CD s.idx n).1.AY⟩,(Ad s).parts,(Ad s).mem++[⟨(CD s.idx n).2.1,r⟩]⟩:Sto) (CD s.idx n).2.1).length:Int) > 24):Db s n r=(Ad s,false):=by
 rw [Gw hk hn,h.copy]; exact V1 h hk hn h1 h2 h3 h4
theorem SF (h:SD s) (hk:Ae s=true) (hn:At n=true) (h1:(CD s.idx n).2.2=true) (h2:BU r=true) (h3:(s.mem.length:Int)≠20)
 (h4:¬ ((rowsOf (⟨⟨(CD s.idx n).1.names,(CD s.idx n).1.AY⟩,(Ad s).parts,(Ad s).mem++[⟨(CD s.idx n).2.1,r⟩]⟩:Sto) (CD s.idx n).2.1).length:Int) > 24):Db s n r=(⟨(CD s.idx n).1,(Ad s).parts,(Ad s).mem++[⟨(CD s.idx n).2.1,r⟩]⟩,true):=by
 have:=V2 h hk hn h1 h2 h3 h4
 rw [Gw hk hn,h.copy]
 exact this
theorem UA {i:Int}(h:StoK s) (hr:BU r=true):∀ m∈(Ad s).mem++[⟨i,r⟩],BU m.row=true:=fun m hm=>by
 rcases List.mem_append.1 hm with hm | hm
 ·exact h.row m hm
 ·simp at hm; subst hm; exact hr
end
end Go.Proofs.YtcginoabkicdiaaGreat
namespace Go.Proofs.YtcginoabkicdiaaGreat
def nmB (names:List (List Tag)):Bool:=decide (names.length≤6)&&names.all At&&decide ((names.map text).Nodup)
theorem EB {names:List (List Tag)}:nmB names=true↔NmI names:=by
 unfold nmB
 simp only [AW,decide_eq_true_eq,List.all_eq_true]
 exact ⟨fun h=>⟨h.1.1,h.1.2,h.2⟩,fun h=>⟨⟨h.len,h.ok⟩,h.nodup⟩⟩
theorem SH {names:List (List Tag)}(h:¬ NmI names):nmB names=false:=by
 cases hb:nmB names with
 | false=>rfl
 | true=>exact absurd (EB.1 hb) h
structure NmG (names:List (List Tag)):Prop where
 len:names.length≤7
 nd:NsD names
 bl:(GR 0 [] names).length≤1000
theorem NmG.of {names:List (List Tag)}(h:NmI names) (h2:NsD names):NmG names:=⟨by have:=h.len; omega,h2,PI h h2⟩
theorem NmG.sz {names:List (List Tag)}(h:NmG names):∀ n∈names,Gi n:=fun n hn=>(h.nd n hn).sz
theorem NmG.l5 {names:List (List Tag)}(h:NmG names):∀ n∈names,n.length≤5:=fun n hn=>(h.nd n hn).1
theorem SI {names:List (List Tag)}(h:∀ (i j:Nat) (x y:List Tag),i< j→names[i]? = some x→names[j]? = some y→text x≠text y):(names.map text).Nodup:=by
 unfold List.Nodup
 rw [List.pairwise_iff_getElem]
 intro i j hi hj hij
 rw [List.getElem_map,List.getElem_map]
 exact h i j _ _ hij (AU _) (AU _)
def SJ (names:List (List Tag)) (k:Nat):Prop:=∀ j n,j< k→names[j]? = some n→At n=true∧DP n 0 names=j
theorem V3 (names:List (List Tag)):SJ names 0:=fun j _ h=>absurd h AB
theorem Qp {names:List (List Tag)}{k:Nat}{n:List Tag}(h:SJ names k) (hn:names[k]? = some n) (h1:At n=true) (h2:DP n 0 names+1=(k:Int)+1):SJ names (k+1):=fun j m hj hm=>by
 by_cases e:j=k
 ·subst e
  rw [hn] at hm
  cases hm
  exact ⟨h1,by omega⟩
 ·exact h j m AB hm
theorem P9 {names:List (List Tag)}{k:Nat}{n:List Tag}(hn:names[k]? = some n) (h:At n=false∨DP n 0 names+1≠(k:Int)+1):false=nmB names:=(SH (fun hI=>Tt hI hn h)).symm
theorem SK {names:List (List Tag)}{k:Nat}(h:SJ names k) (hk:names.length≤k):decide ((names.length:Int)≤6)=nmB names:=by
 unfold nmB
 have h1:names.all At=true:=List.all_eq_true.2 (fun n hn=>by
  obtain ⟨j,hj⟩:=List.mem_iff_getElem?.1 hn
  exact (h j n (by have:=(List.getElem?_eq_some_iff.1 hj).1; omega) hj).1)
 have h2:(names.map text).Nodup:=SI (fun i j x y hij hx hy e=>by
  have hj:=(List.getElem?_eq_some_iff.1 hy).1
  have a:=h i x AB hx
  have b:=h j y AB hy
  have:=N8 a.1 b.1 e
  subst this
  omega)
 rw [h1,decide_eq_true h2,Bool.and_true,Bool.and_true,decide_eq_decide]
 omega
def apart (names:List (List Tag)) (n:List Tag) (k:Nat):Prop:=∀ i m,i< k→names[i]? = some m→text n≠text m
theorem UB {names:List (List Tag)}(h:(names.length:Int) > 6):false=nmB names:=(SH (fun hI=>by have:=hI.len; omega)).symm
structure IxG (x:Idx):Prop where
 g:NmG x.names
 eq:NmI x.names→x=idxOf x.names
theorem IxG.ix {x:Idx}(h:IxG x) (h2:NmI x.names):IxI x:=⟨h.eq h2,h2⟩
structure SG (s:Sto):Prop where
 ix:IxG s.idx
 np:s.parts.length≤7
 part:∀ p∈s.parts,PrtI p
 nm2:s.mem.length≤21
 mem:∀ m∈s.mem,0≤m.id∧m.id≤7∧Nw m.row
theorem SG.pt {s:Sto}(h:SG s) (h3:s.parts.all (fun p=>Bj p s.idx.names.length)=true):∀ p∈s.parts,PrtI p∧Am p=true:=fun p hp=>⟨h.part p hp,Eu (List.all_eq_true.1 h3 p hp)⟩
theorem SG.of {s:Sto}(h:SD s):SG s:=⟨⟨NmG.of h.nm h.nd,fun _=>h.idx⟩,by have:=h.np; omega,h.part,h.nm2,h.mem⟩
theorem SG.sd {s:Sto}(h:SG s) (h2:nmB s.idx.names=true) (h3:s.parts.length≤6):SD s:=⟨h.ix.eq (EB.1 h2),EB.1 h2,h.ix.g.nd,h3,h.part,h.nm2,h.mem⟩
end Go.Proofs.YtcginoabkicdiaaGreat
