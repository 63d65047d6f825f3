/- proofs; no conditions -/
import Derived.Test.YtfninflnngpchaaGreatDoorLxzKw
import Derived.Test.YtfninflnngpchaaGreatDoorLxzSl
open Go.Proofs.Tryz
set_option linter.unusedVariables false
set_option linter.unusedSimpArgs false
namespace Go.Proofs.YtfninflnngpchaaGreatDoor
open Go.Sort
structure SX where
 p:Pst
 a:Option Addr
 n:Nat
 c:Nat
def FU (x:SX):List Value:=[.string (bs x.p.tag.key),.string (bs x.p.tag.val),.slice x.a x.n x.c]
instance:Inhabited SX:=⟨⟨⟨⟨[],[]⟩,[]⟩,none,0,0⟩⟩
theorem Xr {α β:Type}:∀ {xs:List α}{R:Nat→α→β→Prop},(∀ i x,xs[i]? = some x→∃ y,R i x y)→∃ ys:List β,ys.length=xs.length∧∀ i x y,xs[i]? = some x→ys[i]? = some y→R i x y:=by
 intro xs
 induction xs with
 | nil=>intro R _; exact ⟨[],rfl,fun i x y hx=>by simp at hx⟩
 | cons x xs ih =>
   intro R h
   obtain ⟨y,hy⟩:=h 0 x rfl
   obtain ⟨ys,h1,h2⟩:=ih (R:=fun i=>R (i+1)) (fun i x hi=>h (i+1) x (by simpa using hi))
   refine ⟨y::ys,by simp [h1],fun i u v hu hv=>?_⟩
   cases i with
   | zero=>simp at hu hv; subst hu hv; exact hy
   | succ i=>exact h2 i u v (by simpa using hu) (by simpa using hv)
variable {w:World} {F:Nat→Prop}
theorem Zu {r t n c:Nat}{xs:List Pst}(h:Own w r t F n c xs) :
 ∃ ys:List SX,ys.map SX.p=xs∧∀ (i:Nat) y,ys[i]? = some y→Rep.rep w (fun b=>F b∧b≠r) y.p (FU y)∧Has w ⟨r,i * 3,none⟩ (FU y):=by
 obtain ⟨ys,h1,h2⟩:=Xr (xs:=xs) (R:=fun i x (y:SX)=>y.p=x∧Rep.rep w (fun b=>F b∧b≠r) y.p (FU y)∧Has w ⟨r,i * 3,none⟩ (FU y)) (fun i x hx=>by
  obtain ⟨cs,hr,hh⟩:=h.elem i x hx
  have hr':=hr
  obtain ⟨a,m,d,rfl,h3⟩:=hr'
  exact ⟨⟨x,a,m,d⟩,rfl,hr,hh⟩)
 refine ⟨ys,?_,fun i y hy=>?_⟩
 ·apply List.ext_getElem?
  intro i
  rw [List.getElem?_map]
  cases hx:xs[i]? with
  | none =>
    have:=List.getElem?_eq_none_iff.1 hx
    rw [List.getElem?_eq_none AB]; rfl
  | some x =>
    have hl:=(List.getElem?_eq_some_iff.1 hx).1
    have hy:ys[i]? = some (ys[i]' AB):=AU _
    rw [hy,Option.map_some,(h2 i x _ hx hy).1]
 ·have hl:=(List.getElem?_eq_some_iff.1 hy).1
  have hx:xs[i]? = some (xs[i]' AB):=AU _
  exact (h2 i _ y hx hy).2
theorem Xs {r t n c:Nat}{xs:List Pst}(h:Own w r t F n c xs){ys:List SX}(hy:∀ (i:Nat) y,ys[i]? = some y→Rep.rep w (fun b=>F b∧b≠r) y.p (FU y)∧Has w ⟨r,i * 3,none⟩ (FU y)) :
 HoldsK FU 3 w r 0 ys.toArray:=by
 intro j hj
 rw [size_flatK] at hj
 rw [get_flatK _ _ _ _ hj]
 have hj2:j / 3< ys.length:=by simp at hj; omega
 have h1:ys[j / 3]? = some (ys[j / 3]'hj2):=AU _
 have h2:=(hy _ _ h1).2 (j % 3) ((FU (ys[j / 3]'hj2))[j % 3]'(by show j % 3< 3; omega)) (AU _)
 rw [add_lit,show j / 3 * 3+j % 3=0+j by omega] at h2
 refine ⟨?_,?_⟩
 ·rw [h2]
  have e:(ys.toArray[j / 3]!)=ys[j / 3]'hj2:=by simp [hj2]
  rw [e,getElem!_pos (FU (ys[j / 3]'hj2)) (j % 3) (by show j % 3< 3; omega)]
  rfl
 ·obtain ⟨cur,hc,_⟩:=h.row
  simp [World.frozen?,hc]
theorem ltX (x y:SX):ltOf (fun x y:SX=>Mi x.p y.p) x y=D6 x.p.tag y.p.tag:=by
 unfold ltOf
 rw [Bool.eq_iff_iff,decide_eq_true_iff]
 exact JC _ _
theorem Zv:SWO (ltOf fun x y:SX=>Mi x.p y.p) where
 irrefl x:=by rw [ltX]; exact J0 _
 trans x y z h1 h2:=by rw [ltX] at *; exact Ey h1 h2
 ntrans x y z h1 h2:=by
  rw [ltX] at *
  cases h3:D6 x.p.tag z.p.tag with
  | false=>rfl
  | true =>
    cases h4:D6 y.p.tag x.p.tag with
    | true=>have:=Ey h4 h3; rw [h2] at this; cases this
    | false=>have e:=J1 h1 h4; rw [e,h2] at h3; cases h3
theorem Zw (blk off size:Nat) (w:World):CmpLays Tryz.prog 109 #[] FU 3 (fun x y:SX=>Mi x.p y.p) blk off size w:=fun m os dk _ x y =>
 (ZF x.p.tag y.p.tag (.slice x.a x.n x.c) (.slice y.a y.n y.c) _).mono fun e w' ⟨r,h1,h2,q,os',h3⟩=>⟨by rw [h1,h2]; rfl,q,os',h3⟩
theorem J2 {r n c:Nat}{xs0:List Pst}(ho:Own w r 148 F n c xs0) (hn:n≤1100000) :
 Calls Tryz.prog 108 [.slice (some ⟨r,0,none⟩) n c,.func (.func 109) #[] #[]].toArray w (Am fun rv w'=>rv=.tuple #[]∧∃ zs,zs.Perm xs0∧zs.Pairwise Le∧Own w' r 148 F n c zs∧Chg (one r) w w'):=by
 obtain ⟨ys,hp,hy⟩:=Zu ho
 have hlen:n=ys.toArray.size:=by rw [ho.len,← hp]; simp
 have hH:=Xs ho hy
 have hcall:=AnyQ.slices_SortFunc Zt 3 Tryz.isAgg148 Tryz.sizeOf148 FU (fun _=>rfl) (fun x v hv=>by simp [FU] at hv; rcases hv with rfl | rfl | rfl <;> rfl) (fun x y=>Mi x.p y.p) Zv 109 #[] r 0 c ys.toArray w
  (enters_of func109 AA rfl) (Zw r 0 _ w) hH ho.lt AB
 rw [← hlen] at hcall
 refine hcall.mono ?_
 rintro e w' ⟨rfl,d',m,os,hperm,hsort,rfl⟩
 obtain ⟨hsz,_,hpe⟩:=hperm
 have hl:d'.size=n:=by rw [hsz,hlen]
 have hpl:d'.toList.Perm ys:=by
  have e1:d'.extract 0 n=d':=by rw [← hl]; simp
  have e2:ys.toArray.extract 0 n=ys.toArray:=by rw [hlen]; simp
  rw [e1,e2] at hpe
  simpa using hpe
 have hK:HoldsK FU 3 (sortWorldK FU 3 w r 0 m d' os) r 0 d':=by
  unfold sortWorldK
  refine holdsK_grow FU 3 _ os r 0 d' ?_ (holdsK_putRowK FU 3 _ r 0 ys.toArray d' (holdsK_ahead FU 3 w m r 0 _ hH) hsz)
  show r< ((Sort.ahead w m).heap.modify r _).size
  rw [Array.size_modify]
  exact ho.lt
 have hblk:∀ k,k< w.heap.size→k≠r→(sortWorldK FU 3 w r 0 m d' os).heap[k]? = w.heap[k]? := fun k hk hr=>by
  show ((w.heap.modify r _)++os)[k]? = _
  rw [Array.getElem?_append_left (by rw [Array.size_modify]; exact hk),Array.getElem?_modify,if_neg (fun e=>hr e.symm)]
 have hx:Chg (one r) w (sortWorldK FU 3 w r 0 m d' os):=⟨rfl,rfl,rfl,by
  show _≤((w.heap.modify r _)++os).size
  rw [Array.size_append,Array.size_modify]; omega,fun k hk hn=>hblk k hk hn⟩
 refine ⟨_,rfl,rfl,d'.toList.map SX.p,?_,?_,⟨by simp [hl],ho.le,ho.cap,?_,fun i x hi=>?_⟩,hx⟩
 ·rw [← hp]; exact hpl.map SX.p
 ·rw [List.pairwise_map,List.pairwise_iff_getElem]
  intro i j hi hj hij
  have h1:=hsort i j (Nat.zero_le _) hij (by rw [← hl]; simpa using hj)
  rw [ltX] at h1
  simp only [Array.length_toList] at hi hj
  rw [getElem!_pos d' j hj,getElem!_pos d' i hi] at h1
  unfold Le
  rw [JC]
  simp only [Array.getElem_toList]
  rw [h1]
  simp
 ·obtain ⟨cur,hc1,hc2⟩:=ho.row
  refine ⟨putCells id 0 (flatK FU 3 d') cur,?_,by simp [putCells,hc2]⟩
  show ((w.heap.modify r _)++os)[r]? = _
  rw [Array.getElem?_append_left (by rw [Array.size_modify]; exact ho.lt),Array.getElem?_modify,if_pos rfl,hc1]
  rfl
 ·rw [List.getElem?_map] at hi
  cases hy2:d'.toList[i]? with
  | none=>rw [hy2] at hi; cases hi
  | some y =>
    rw [hy2] at hi
    simp only [Option.map_some,Option.some.injEq] at hi
    subst hi
    have hi2:i< d'.size:=by simpa using (List.getElem?_eq_some_iff.1 hy2).1
    obtain ⟨j,hj⟩:=List.getElem?_of_mem (hpl.mem_iff.1 (AV hy2))
    refine ⟨FU y,Rep.frame (hy j y hj).1 (fun b hb hF=>⟨hF,hblk b hb hF.2⟩),fun k u hu=>?_⟩
    have hk:k< 3:=(List.getElem?_eq_some_iff.1 hu).1
    have h1:=(hK.cell hi2 hk).1
    have e1:d'[i]! = y:=by
     rw [getElem!_pos d' i hi2]
     have:=(List.getElem?_eq_some_iff.1 hy2).2
     simpa using this
    have e2:(FU y)[k]! = u:=by
     rw [getElem!_pos (FU y) k hk]
     exact (List.getElem?_eq_some_iff.1 hu).2
    rw [e1,e2] at h1
    rw [add_lit,← h1]
    show World.cell? _ ⟨r,i * 3+k,none⟩=World.cell? _ ⟨r,0+i * 3+k,none⟩
    rw [Nat.zero_add]
end Go.Proofs.YtfninflnngpchaaGreatDoor
namespace Go.Proofs.YtfninflnngpchaaGreatDoor
structure RepP (xs:List Pst) (L:Tag→List Int):Prop where
 nd:(xs.map Pst.tag).Nodup
 el:∀ x∈xs,x.ids=L x.tag∧x.ids≠[]
 all:∀ t,L t≠[]→∃ x∈xs,x.tag=t
theorem RepP.add {xs:List Pst}{L:Tag→List Int}(h:RepP xs L) (k:Int) (t:Tag):RepP (GK k xs t) (fun u=>L u++(if u=t then [k] else [])):=by
 rcases Jz t xs 0 with ⟨h1,h2⟩ | ⟨h1,h2,x,h3,h4⟩
 ·have hn:CX t 0 xs< 0:=by omega
  have hL:L t=[]:=by
   by_cases he:L t=[]
   ·exact he
   ·obtain ⟨x,hx,hxt⟩:=h.all t he
    exact absurd hxt (h2 x hx)
  rw [Lr hn]
  refine ⟨?_,fun x hx=>?_,fun u hu=>?_⟩
  ·rw [List.map_append]
   refine List.nodup_append.2 ⟨h.nd,by simp,fun a ha b hb=>?_⟩
   simp at hb
   subst hb
   obtain ⟨x,hx,rfl⟩:=List.mem_map.1 ha
   exact h2 x hx
  ·rcases List.mem_append.1 hx with hx | hx
   ·have:=h.el x hx
    have hne:=h2 x hx
    rw [if_neg hne,List.append_nil]
    exact this
   ·simp at hx
    subst hx
    simp [hL]
  ·by_cases hut:u=t
   ·exact ⟨⟨t,[k]⟩,by simp,hut.symm⟩
   ·rw [if_neg hut,List.append_nil] at hu
    obtain ⟨x,hx,hxu⟩:=h.all u hu
    exact ⟨x,by simp [hx],hxu⟩
 ·have hn:¬ CX t 0 xs< 0:=by omega
  rw [Nat.sub_zero] at h3
  rw [Ls hn h3]
  generalize (CX t 0 xs).toNat=i at h3
  obtain ⟨hil,hie⟩:=List.getElem?_eq_some_iff.1 h3
  have hmap:(xs.set i ⟨x.tag,x.ids++[k]⟩).map Pst.tag=xs.map Pst.tag:=by
   rw [List.map_set]
   have h5:(xs.map Pst.tag)[i]'(by simpa using hil)=x.tag:=by simp [hie]
   have h6:=List.set_getElem_self (show i< (xs.map Pst.tag).length by simpa using hil)
   rw [h5] at h6
   exact h6
  refine ⟨by rw [hmap]; exact h.nd,fun y hy=>?_,fun u hu=>?_⟩
  ·obtain ⟨j,hj,hjy⟩:=List.mem_iff_getElem.1 hy
   rw [List.getElem_set] at hjy
   have hj2:j< xs.length:=by simpa using hj
   split at hjy
   ·subst hjy
    have:=h.el x (AV h3)
    simp only
    rw [if_pos h4,this.1]
    exact ⟨rfl,by simp⟩
   ·rename_i hij
    have hym:y∈xs:=hjy▸List.getElem_mem hj2
    have hne:¬ y.tag=t:=fun e=>hij (by
     have h5:(xs.map Pst.tag)[i]'(by simpa using hil)=(xs.map Pst.tag)[j]'(by simpa using hj2):=by simp [hie,hjy,h4,e]
     exact (List.getElem_inj (h₀:=by simpa using hil) (h₁:=by simpa using hj2) h.nd).1 h5)
    rw [if_neg hne,List.append_nil]
    exact h.el y hym
  ·have key:∃ y∈xs,y.tag=u:=by
    by_cases hut:u=t
    ·exact ⟨x,AV h3,h4.trans hut.symm⟩
    ·rw [if_neg hut,List.append_nil] at hu
     exact h.all u hu
   obtain ⟨y,hy,hyu⟩:=key
   have hm:u∈(xs.set i ⟨x.tag,x.ids++[k]⟩).map Pst.tag:=by rw [hmap]; exact List.mem_map.2 ⟨y,hy,hyu⟩
   obtain ⟨z,hz,hzu⟩:=List.mem_map.1 hm
   exact ⟨z,hz,hzu⟩
theorem RepP.congr {xs:List Pst}{L L':Tag→List Int}(h:RepP xs L) (e:∀ t,L t=L' t):RepP xs L':=by
 have:L=L':=funext e
 rw [← this]; exact h
theorem RepP.name (k:Int):∀ (n:List Tag) (xs:List Pst) (L:Tag→List Int),n.Nodup→RepP xs L→RepP (n.foldl (GK k) xs) (fun u=>L u++(if has n u then [k] else [])):=by
 intro n
 induction n with
 | nil=>intro xs L _ h; exact h.congr (fun t=>by simp [has])
 | cons t ts ih =>
   intro xs L hn h
   rw [List.nodup_cons] at hn
   refine (ih _ _ hn.2 (h.add k t)).congr (fun u=>?_)
   rw [List.append_assoc]
   congr 1
   by_cases hu:u=t
   ·subst hu
    have:has ts u=false:=by
     unfold has
     rw [List.any_eq_false]
     intro y hy e
     exact hn.1 (by rw [← eq_of_beq e]; exact hy)
    rw [this]
    simp [has]
   ·have:(t==u)=false:=by rw [beq_eq_false_iff_ne]; exact fun e=>hu e.symm
    simp only [if_neg hu,List.nil_append,has,List.any_cons,this,Bool.false_or]
    rfl
theorem RepP.bld:∀ (ns:List (List Tag)) (i:Nat) (xs:List Pst) (L:Tag→List Int),(∀ n∈ns,n.Nodup)→RepP xs L→RepP (H6 i xs ns) (fun u=>L u++H4 u i ns):=by
 intro ns
 induction ns with
 | nil=>intro i xs L _ h; exact h.congr (fun t=>by simp [H4])
 | cons n ns ih =>
   intro i xs L hn h
   refine (ih (i+1) _ _ (fun m hm=>hn m (by simp [hm])) (RepP.name _ n xs L (hn n AD) h)).congr (fun u=>?_)
   rw [List.append_assoc,H4]
theorem RepP.Zx {names:List (List Tag)}(h:NmI names):RepP (H6 0 [] names) (ids names) :=
 (RepP.bld names 0 [] (fun _=>[]) (fun n hn=>(I6 (h.ok n hn)).1) ⟨by simp,by simp,by simp⟩).congr (fun u=>by unfold ids; simp)
theorem Xt {names:List (List Tag)}{t:Tag}(h:ids names t≠[]):∃ n∈names,t∈n:=by
 unfold ids at h
 have:∀ (ns:List (List Tag)) (i:Nat),H4 t i ns≠[]→∃ n∈ns,t∈n:=by
  intro ns
  induction ns with
  | nil=>intro i h; simp [H4] at h
  | cons n ns ih =>
    intro i h
    rw [H4] at h
    by_cases hb:has n t=true
    ·refine ⟨n,by simp,?_⟩
     unfold has at hb
     rw [List.any_eq_true] at hb
     obtain ⟨y,hy,e⟩:=hb
     rw [← eq_of_beq e]; exact hy
    ·rw [if_neg hb,List.nil_append] at h
     obtain ⟨m,hm,ht⟩:=ih (i+1) h
     exact ⟨m,by simp [hm],ht⟩
 exact this names 0 h
theorem ND {α:Type}[DecidableEq α]:∀ (l U:List α),l.Nodup→(∀ x∈l,x∈U)→l.length≤U.length:=by
 intro l
 induction l with
 | nil=>intro U _ _; simp
 | cons a l ih =>
   intro U hn hU
   rw [List.nodup_cons] at hn
   have ha:=hU a AD
   have:=ih (U.erase a) hn.2 (fun x hx=>(List.mem_erase_of_ne (fun e:x=a=>hn.1 (by rw [← e]; exact hx))).2 (hU x (by simp [hx])))
   rw [List.length_erase_of_mem ha] at this
   have:=List.length_pos_of_mem ha
   simp only [List.length_cons]; omega
theorem Tj (k:Int) (xs:List Pst) (t:Tag):(GK k xs t).length≤xs.length+1:=by
 rcases Jz t xs 0 with ⟨g1,_⟩ | ⟨g1,g2,y,g3,g4⟩
 ·rw [Lr AB]; simp
 ·rw [Nat.sub_zero] at g3
  rw [Ls AB g3]; simp
theorem Tk (k:Int):∀ (n:List Tag) (xs:List Pst),(n.foldl (GK k) xs).length≤xs.length+n.length:=by
 intro n
 induction n with
 | nil=>intro xs; simp
 | cons t n ih =>
   intro xs
   have h1:=ih (GK k xs t)
   have h2:=Tj k xs t
   simp only [List.foldl_cons,List.length_cons]
   omega
theorem V7:∀ (names:List (List Tag)) (i:Nat) (xs:List Pst),(∀ n∈names,n.length≤5)→(H6 i xs names).length≤xs.length+5 * names.length:=by
 intro names
 induction names with
 | nil=>intro i xs _; simp [H6]
 | cons n names ih =>
   intro i xs h
   have h1:=ih (i+1) (n.foldl (GK ((i:Int)+1)) xs) (fun m hm=>h m (by simp [hm]))
   have h2:=Tk ((i:Int)+1) n xs
   have h3:=h n AD
   show (H6 (i+1) (n.foldl (GK ((i:Int)+1)) xs) names).length≤_
   simp only [List.length_cons]
   omega
theorem Tl {names:List (List Tag)}(h:NmI names) (h2:NsD names):(H6 0 [] names).length≤1000:=by
 have h1:=V7 names 0 [] (fun n hn=>(h2 n hn).1)
 have h3:=h.len
 simp only [List.length_nil] at h1
 omega
theorem QN {α:Type}{R:α→α→Prop}(hirr:∀ a,¬ R a a) (htr:∀ a b c,R a b→R b c→R a c):∀ (xs ys:List α),xs.Pairwise R→ys.Pairwise R→(∀ a,a∈xs↔a∈ys)→xs=ys:=by
 intro xs
 induction xs with
 | nil =>
   intro ys _ _ h
   cases ys with
   | nil=>rfl
   | cons y ys=>exact absurd ((h y).2 AD) AD
 | cons x xs ih =>
   intro ys hx hy h
   cases ys with
   | nil=>exact absurd ((h x).1 AD) AD
   | cons y ys =>
     rw [List.pairwise_cons] at hx hy
     have hxy:x=y:=by
      have h1:=(h x).1 AD
      have h2:=(h y).2 AD
      rcases List.mem_cons.1 h1 with h1 | h1
      ·exact h1
      ·rcases List.mem_cons.1 h2 with h2 | h2
       ·exact h2.symm
       ·exact absurd (htr _ _ _ (hy.1 x h1) (hx.1 y h2)) (hirr y)
     subst hxy
     congr 1
     refine ih ys hx.2 hy.2 (fun a=>⟨fun ha=>?_,fun ha=>?_⟩)
     ·rcases List.mem_cons.1 ((h a).1 (by simp [ha])) with rfl | h1
      ·exact absurd (hx.1 _ ha) (hirr _)
      ·exact h1
     ·rcases List.mem_cons.1 ((h a).2 (by simp [ha])) with rfl | h1
      ·exact absurd (hy.1 _ ha) (hirr _)
      ·exact h1
theorem Tm {names:List (List Tag)}(h:NmI names) (_h2:NsD names){xs zs:List Pst}(hp:zs.Perm xs) (hs:zs.Pairwise Le) (he:xs=H6 0 [] names):(⟨names,zs⟩:Idx)=idxOf names:=by
 have hr:=RepP.Zx h
 rw [← he] at hr
 unfold idxOf
 congr 1
 have hnd:(zs.map Pst.tag).Nodup:=(hp.map Pst.tag).nodup_iff.2 hr.nd
 have hz:zs.Pairwise (fun a b=>D6 a.tag b.tag=true):=by
  rw [List.pairwise_iff_getElem] at hs ⊢
  intro i j hi hj hij
  have h1:=hs i j hi hj hij
  unfold Le at h1
  rw [JC] at h1
  cases h3:D6 zs[i].tag zs[j].tag with
  | true=>rfl
  | false =>
    have e:=J1 h3 (by simpa using h1)
    have h5:(zs.map Pst.tag)[i]'(by simpa using hi)=(zs.map Pst.tag)[j]'(by simpa using hj):=by simpa using e
    have:=(List.getElem_inj (h₀:=by simpa using hi) (h₁:=by simpa using hj) hnd).1 h5
    omega
 refine QN (R:=fun (a b:Pst)=>D6 a.tag b.tag=true) (fun a ha=>by rw [J0] at ha; cases ha) (fun a b c=>Ey) zs (Dq names) hz (N9 names) (fun p=>⟨fun hpz=>?_,fun hpp=>?_⟩)
 ·have g:=hr.el p (hp.mem_iff.1 hpz)
  obtain ⟨n,hn,ht⟩:=Xt (by rw [← g.1]; exact g.2:ids names p.tag≠[])
  have:=TZ (names:=names) ((I6 (h.ok n hn)).2 _ ht) (by rw [← g.1]; exact List.length_pos_iff.2 g.2)
  rw [← g.1] at this
  exact this
 ·obtain ⟨g1,g2,_⟩:=SF hpp
  obtain ⟨x,hx,hxt⟩:=hr.all p.tag (by rw [← g1]; exact List.length_pos_iff.1 g2)
  have g:=hr.el x hx
  have:x=p:=(TH x p).2 ⟨hxt,by rw [g.1,hxt,g1]⟩
  exact this▸hp.mem_iff.2 hx
end Go.Proofs.YtfninflnngpchaaGreatDoor
namespace Go.Proofs.YtfninflnngpchaaGreatDoor
set_option maxRecDepth 100000
set_option maxHeartbeats 4000000
variable {w:World} {F:Nat→Prop} {a1:Option Addr} {n1 c1:Nat}
theorem Gz (names:List (List Tag)) (h1:RepS w F a1 n1 c1 names) (p0:names.length≤7) (p1:∀ n∈names,n.length≤5) (p2:(H6 0 [] names).length≤1000):Calls Tryz.prog 62 [.slice a1 n1 c1].toArray w (Am fun rv w'=>(∃ (y:Idx),VS (ge w.heap.size) w' (y:Idx) rv∧(y.names=names∧(NmI names→NsD names→y=idxOf names)))∧Ext w w'):=by
 refine goT func62 ?_
 obtain ⟨rfl,dM,h1⟩:=h1.tp
 refine .s<|.g<|.np 27 [AH,AH] fun ae cQ bD bE aG cR=>?_
 have cS:=Bq bD (Nat.le_refl _)
 replace h1:=(sn [] bE bD).g1 h1
 have aq:=bE
 refine .d<|.s<|.g<|.r 1<|.cl (Ae names h1.ta AB (fun n hn=>by have:=p1 n hn; omega) (w:=cQ) (F:=all)) ?_
 rintro ee ag ⟨⟨bC,bV,bW,rfl,aH,bv⟩,b6⟩
 have b7:=al1 aG.lt
 have cT:Gb w.heap.size cQ.heap.size:=aq.size
 have dN:=C6 bv aG.lt
 have cU:=KS bv aq.size
 replace ⟨h1,aG,aq⟩:=(sz [ae] b6 bv).g3 h1 aG aq
 replace aH:=Own.take (s0:=w.heap.size) (M:=[ae]) aH b7 cT
 have dO:=aH.len
 have az:=aH.sl cU
 replace h1:=(sd ag [bC,ae] bC).g1 h1
 have cj:w.heap.size≤ag.heap.size:=aq.size
 replace az:RepS ag (nin (GN w.heap.size ag.heap.size ae) [ae]) _ _ _ _:=az.Zp.CQ (fun b _ h=>⟨h,by simp; exact h.2.2⟩)
 have h1c:=h1.ZC; have hEc:=aq; have hb2c:=aG
 refine .ns 0 148 [] fun aM dH bF bG cV cW=>?_
 have cX:Cov nil ag aM:=Ny bF (Nat.le_refl _)
 replace az:=(sn [ae] bG bF).g1 az
 have ar:=bG
 have ax:Own (α:=Pst) dH aM 148 (nin (ge w.heap.size) [aM,ae]) 0 0 []:=Own.Ba cV
 refine .r 1<|.np 27 [AH,AH] fun af eg bw b8 cY cZ=>?_
 have c7:=Ab bw ax.lt
 have c8:=ar.cn bw
 replace ⟨az,ax,ar⟩:=(sn [aM,ae] b8 bw).g3 az ax ar
 refine .sc [vS bC bV bW,vS aM 0 0] cY fun eh b9 da db=>?_
 replace ⟨az,ax,ar⟩:=(so [af,aM,ae] b9).g3 az ax ar
 refine .d<|.s<|.s<|.g<|.r 3<|.d<|.b 0 ?_
 have hix:=IX.Zq (tX:=27) (tP:=148) (tI:=3) (s0:=w.heap.size) (s1:=ag.heap.size) cj (GN.lt (b2:=ae)) az.w1 da ax c7 (Cov.ge c8) (Cov.ge cX)
 have hE:=ar
 refine T.loop (X:=Nat × Nat × Nat × List RP × List Pst × List Nat) (aM,0,0,[],[],[]) (fun (r,c,k,ys,xs,rs)=>[(2,.pointer (some ⟨ae,0,none⟩)),(3,.pointer (some ⟨af,0,none⟩)),(13,.slice a1 names.length c1),(14,vI (names.length:Int)),(15,vI (k:Int))]) (fun (r,c,k,ys,xs,rs) w_=>Ext ag w_∧IX 27 148 3 w.heap.size ag.heap.size (GN w.heap.size ag.heap.size ae) w_ af r c (some ⟨bC,0,none⟩) bV bW names ys xs rs∧k≤names.length∧xs.length≤5 * k∧(∀ x∈xs,x.ids.length≤5 * k)∧H6 k xs (names.drop k)=H6 0 [] names) (fun (r,c,k,ys,xs,rs)=>names.length - k) AA ⟨AA,AA,AA,AA,AA,trivial⟩ ⟨hE,hix,by omega,by simp,by simp,rfl⟩ ?_
 rintro ⟨r,c,k,ys,xs,rs⟩ e1_ ej ⟨hE,hix,hk,hxl,hil,hbl⟩ bX
 have hnm:=h1c.ext hE
 refine .s<|.g<|.bp ((k:Int)< (names.length:Int)) (fun de=>?_) (fun de=>?_)
 ·refine .d<|.s<|.ct<|.sk<|.s<|.b 1<|.s<|.g<|.r 1 ?_
  have df:k< names.length:=AB
  refine .ix k 1 hnm df ?_
  obtain ⟨am,aI⟩:∃ y,names[k]? = some y:=⟨_,AU AB⟩
  obtain ⟨_,⟨dI,ek,dJ,rfl,ck⟩,dh⟩:=hnm.elem k am aI
  have dj:=ck.len
  subst dj
  have dR:=ck.max
  refine .lh 0 dh<|.r 2<|.d<|.s<|.g<|.r 3<|.d<|.b 2 ?_
  have hEA:=hE; have en:=p1 am (AV aI)
  refine T.loop (X:=Nat × Nat × Nat × List RP × List Pst × List Nat) (r,c,0,ys,xs,rs) (fun (rq,cq,j,ac,ab,ai)=>[(2,.pointer (some ⟨ae,0,none⟩)),(3,.pointer (some ⟨af,0,none⟩)),(4,vI (k:Int)),(13,.slice a1 names.length c1),(14,vI (names.length:Int)),(15,vI (k:Int)),(20,.slice dI am.length dJ),(21,vI (am.length:Int)),(22,vI (j:Int))]) (fun (rq,cq,j,ac,ab,ai) w_=>Ext ag w_∧IX 27 148 3 w.heap.size ag.heap.size (GN w.heap.size ag.heap.size ae) w_ af rq cq (some ⟨bC,0,none⟩) bV bW names ac ab ai∧j≤am.length∧ab.length≤5 * k+j∧(∀ x∈ab,x.ids.length≤5 * k+j)∧(am.drop j).foldl (GK ((k:Int)+1)) ab=am.foldl (GK ((k:Int)+1)) xs) (fun (rq,cq,j,ac,ab,ai)=>am.length - j) AA ⟨AA,AA,AA,AA,AA,AA,AA,AA,AA,trivial⟩ ⟨hE,hix,by omega,by omega,fun x hx=>by have:=hil x hx; omega,rfl⟩ ?_
  rintro ⟨rq,cq,j,ac,ab,ai⟩ e2_ eB ⟨hE,hix,hj,cd,ao,hfl⟩ bz
  have dm:=ck.via hEA hE
  refine .s<|.g<|.bp ((j:Int)< (am.length:Int)) (fun dq=>?_) (fun dq=>.d<|.s<|.cf<|.x 2 rfl<|.ib 1<|.g<|.it ((k:Int)+1)<|.r 1<|.d<|bX (rq,cq,k+1,ac,ab,ai) _ _ ⟨AA,AA,AA,AA,AA,trivial⟩ ⟨hE,hix,by omega,by omega,fun x hx=>by have:=ao x hx; omega,V4 hbl (drop_at aI) (Fp hfl AB)⟩ (by (simp only []; omega)))
  refine .d<|.s<|.ct<|.sk<|.s<|.b 3<|.s<|.g ?_
  have dt:j< am.length:=AB
  refine .ix j 2 dm dt ?_
  obtain ⟨aa,aJ⟩:∃ y,am[j]? = some y:=⟨_,AU AB⟩
  obtain ⟨_,rfl,du⟩:=dm.elem j aa aJ
  refine .lg 0 du<|.np 83 [.string (bs []),.string (bs [])] fun dv eC bH bI dw cm=>?_
  have co:∀ q_∈af::rq::ai,Nb dv q_:=fun q_ hq_=>Ab bH (hix.lt q_ hq_)
  have bJ:ag.heap.size≤dv:=Nat.le_trans hE.size (Nat.le_of_eq (Eq.symm bH))
  replace hix:=hix.ext bI
  replace hE:=hE.trans bI
  refine .sc [vT aa.key,vT aa.val] dw fun dx aN aA cp=>?_
  replace hix:=hix.one aN co bJ
  replace hE:=Chg.HF hE aN ⟨.inr bJ⟩
  refine .d<|.s<|.g<|.r 1<|.lb hix.box<|.r 1<|.cl (JA ab aa (hix.rep.CQ (F':=all) (fun _ _ _=>trivial)) aA (w:=dx) (F:=all)) ?_
  rintro dT bK ⟨rfl,aB⟩
  replace aA:=aA.ext aB
  replace hix:=hix.ext aB
  replace hE:=hE.trans aB
  refine .r 1<|.d<|.s<|.s<|.g<|.r 1<|.bp (CX aa 0 ab< 0) (fun cr=>?_) (fun cr=>?_)
  ·refine .d<|.ct<|.s<|.g<|.r 1<|.lb hix.box<|.r 2<|.d<|.g<|.r 1<|.lb hix.box<|.ln aA<|.r 1<|.ns 1 148 [vT aa.key,vT aa.val,AH] fun ay dU aO aP bL cu=>?_
   have bM:∀ q_∈af::rq::ai,Nb ay q_:=fun q_ hq_=>Ab aO (hix.lt q_ hq_)
   have cw:ag.heap.size≤ay:=Nat.le_trans hE.size (Nat.le_of_eq (Eq.symm aO))
   replace hix:=hix.ext aP
   replace hE:=hE.trans aP
   have ce:=hix.lx; have dy:=hix.lr; have hvl_:=bL.lt; have hge_r:=hix.new rq AJ; have cx:=hix.new af AI; have hEs:=hE.size
   refine RG.DJ (T:=25) (ty:=25) (y:=(⟨aa.key,aa.val,none,0,0⟩:RP)) hix.own bL AA AA rfl ⟨trivial,bM rq AJ⟩ AB fun ah cg dV cy bY aQ=>?_
   replace hE:=Chg.HF hE aQ ⟨.inr hge_r⟩
   refine .r 1<|.ss 1 (vS ah (ac.length+1) cg) (hix.box.chg aQ (Nb.one hix.ne)) fun bN aR cz cA=>?_
   replace hix:=hix.push (t:=⟨aa.key,aa.val⟩) (vb:=ay) hEs aQ cy bY bM cw hvl_ aR cz
   replace hE:=Chg.HF hE aR ⟨.inr cx⟩
   refine .d ?_
   obtain ⟨xi,hxi⟩:∃ q,(ab++[(⟨⟨aa.key,aa.val⟩,[]⟩:Pst)])[ac.length]? = some q:=⟨_,AU (by (simp; omega))⟩
   obtain ⟨yi,hyi⟩:∃ q,(ac++[(⟨aa.key,aa.val,none,0,0⟩:RP)])[ac.length]? = some q:=⟨_,AU (by (simp; done))⟩
   obtain ⟨ri,hri⟩:∃ q,(ai++[ay])[ac.length]? = some q:=⟨_,AU (by (simp; omega))⟩
   have hiy:ac.length< (ac++[(⟨aa.key,aa.val,none,0,0⟩:RP)]).length:=(List.getElem?_eq_some_iff.1 hyi).1
   have hl3_:af< bN.heap.size:=hix.lt _ AI; have hlr_:ah< bN.heap.size:=hix.lt _ AJ; have hn3_:=hix.ne3 hri; have hnr_:=hix.ner hri
   refine .gd (mtb [ri] bN.heap.size) 13 fun dz aS=>?_
   replace hix:=hix.ext aS
   replace hE:=hE.trans aS
   refine .r [0]<|.lb 1 hix.box (C7 (all_cons hn3_ all_nil) hl3_)<|.r [2,3]<|.lb 4 hix.box (C7 (all_cons hn3_ all_nil) hl3_)<|.r [5] ?_
   have cB:ac.length< (ac++[(⟨aa.key,aa.val,none,0,0⟩:RP)]).length:=AB
   refine GA.idx (i:=6) (b:=ah) (o:=0) ac.length (len:=(ac++[(⟨aa.key,aa.val,none,0,0⟩:RP)]).length) (z:=(ac.length:Int)) (sz:=3) AA AB cB rfl<|.r [7] ?_
   obtain ⟨_,rfl,aT⟩:=hix.own.elem ac.length yi hyi
   replace aT:Has dz ⟨ah,0+ac.length * Rep.sz RP,none⟩ [vT yi.key,vT yi.val,.slice yi.a yi.n yi.c]:=by rw [Nat.zero_add]; exact aT
   refine .lh 8 2 aT (C7 (all_cons hnr_ all_nil) hlr_)<|.r [9]<|GA.int (i:=10) ((k:Int)+1) AA AB<|.go 11<|.ns 1 3 [vI ((k:Int)+1)] fun dW aU=>?_
   replace hix:=hix.ext aU
   replace hE:=hE.trans aU
   intro bO dX aV aW aX cC
   have cD:∀ q_∈af::ah::(ai++[ay]),Nb bO q_:=fun q_ hq_=>Ab aV (hix.lt q_ hq_)
   replace hix:=hix.ext aW
   replace hE:=hE.trans aW
   refine .go 12<|GE.append (T:=33) (ty:=33) (args:=[.slice yi.a yi.n yi.c,vS bO 1 1]) AA fun dY aC=>?_
   replace aX:=aX.ext aC
   replace hix:=hix.ext aC
   replace hE:=hE.trans aC
   have hyn:=(hix.el ac.length xi yi ri hxi hyi hri).2.2.n; have hyl:xi.ids.length≤5000000:=by have hm:=AV hxi; (rcases List.mem_append.1 hm with hm | hm; (have:=ao _ hm; omega); (simp at hm; subst hm; simp))
   have bP:=hE.size; have hge_ri:=hix.new ri (IX.mi hri)
   obtain ⟨aK,bA,dZ,bQ,aY,bZ,aj⟩:=Mj.app (P:=Tryz.prog) (T:=33) (ty:=33) (hix.el ac.length xi yi ri hxi hyi hri).2.2 AA aX (cD ri (IX.mi hri)) AB
   refine ⟨_,_,bQ,Chg.toS aj (.inl AI),?_⟩
   replace hE:=Chg.HF hE aj ⟨.inr hge_ri⟩
   refine .d fun dA aD=>?_
   replace aj:=Chg.trans aj (Ext.chg aD)
   replace aY:=aY.ext aD
   replace hE:=hE.trans aD
   have cE:ac.length< (ac++[(⟨aa.key,aa.val,none,0,0⟩:RP)]).length:=AB
   refine RG.idx (b:=ah) (o:=0) ac.length (len:=(ac++[(⟨aa.key,aa.val,none,0,0⟩:RP)]).length) (i:=(ac.length:Int)) (sz:=3) AA AB cE rfl<|.r 1 ?_
   have bR:=Tg LD hix.own aj (Nb.one (hix.ner hri))
   obtain ⟨_,rfl,aZ⟩:=bR.elem ac.length yi hyi
   replace aZ:Has dA ⟨ah,0+ac.length * Rep.sz RP,none⟩ [vT yi.key,vT yi.val,.slice yi.a yi.n yi.c]:=by rw [Nat.zero_add]; exact aZ
   refine RG.IS (t':=33) (i:=ac.length) (k:=2) (v:=vS aK (yi.n+1) bA) (cs:=[vT yi.key,vT yi.val,.slice yi.a yi.n yi.c]) (⟨yi.key,yi.val,some ⟨aK,0,none⟩,yi.n+1,bA⟩:RP) bR hyi aZ AA AA AA rfl fun d0 cF ba cG=>?_
   have hge_r2:=hix.new ah AJ
   replace hix:=hix.upd (i:=ac.length) (z:=(k:Int)+1) bP hxi hyi hri aj aY bZ ba (y':=(⟨yi.key,yi.val,some ⟨aK,0,none⟩,yi.n+1,bA⟩:RP)) rfl cF
   replace hE:=Chg.HF hE ba ⟨.inr hge_r2⟩
   refine .d<|.ib 3<|.g<|.it ((j:Int)+1)<|.r 1<|.d ?_
   have hxN:((ab++[(⟨⟨aa.key,aa.val⟩,[]⟩:Pst)]).set ac.length ⟨xi.tag,xi.ids++[(k:Int)+1]⟩)=GK ((k:Int)+1) ab aa:=(Xo hxi (by rw [← ce])).trans (Lr ‹_›).symm
   have hbd:=O5 ((k:Int)+1) ab aa (5 * k+j) cd ao; rw [← hxN] at hbd
   have hfs:=FT hfl (drop_at aJ); rw [← hxN] at hfs
   exact bz (ah,cg,j+1,((ac++[(⟨aa.key,aa.val,none,0,0⟩:RP)]).set ac.length (⟨yi.key,yi.val,some ⟨aK,0,none⟩,yi.n+1,bA⟩:RP)),((ab++[(⟨⟨aa.key,aa.val⟩,[]⟩:Pst)]).set ac.length ⟨xi.tag,xi.ids++[(k:Int)+1]⟩),((ai++[ay]).set ac.length aK)) _ _ ⟨AA,AA,AA,AA,AA,AA,AA,AA,AA,trivial⟩ ⟨hE,hix,by omega,by have:=hbd.1; omega,fun x hx=>by have:=hbd.2 x hx; omega,hfs⟩ (by (simp only []; omega))
  refine .d<|.cf<|.sk ?_
  have ce:=hix.lx; have dy:=hix.lr; have hib:=V3 (t:=aa) (xs:=ab) ‹_›
  obtain ⟨xi,hxi⟩:∃ q,ab[(CX aa 0 ab).toNat]? = some q:=⟨_,AU AB⟩
  obtain ⟨yi,hyi⟩:∃ q,ac[(CX aa 0 ab).toNat]? = some q:=⟨_,AU AB⟩
  obtain ⟨ri,hri⟩:∃ q,ai[(CX aa 0 ab).toNat]? = some q:=⟨_,AU AB⟩
  have hiy:(CX aa 0 ab).toNat< ac.length:=(List.getElem?_eq_some_iff.1 hyi).1
  have hl3_:af< bK.heap.size:=hix.lt _ AI; have hlr_:rq< bK.heap.size:=hix.lt _ AJ; have hn3_:=hix.ne3 hri; have hnr_:=hix.ner hri
  refine .gd (mtb [ri] bK.heap.size) 13 fun dB bd=>?_
  replace hix:=hix.ext bd
  replace hE:=hE.trans bd
  refine .r [0]<|.lb 1 hix.box (C7 (all_cons hn3_ all_nil) hl3_)<|.r [2,3]<|.lb 4 hix.box (C7 (all_cons hn3_ all_nil) hl3_)<|.r [5] ?_
  have cH:(CX aa 0 ab).toNat< ac.length:=AB
  refine GA.idx (i:=6) (b:=rq) (o:=0) ((CX aa 0 ab).toNat) (len:=ac.length) (z:=CX aa 0 ab) (sz:=3) AA AB cH rfl<|.r [7] ?_
  obtain ⟨_,rfl,bg⟩:=hix.own.elem ((CX aa 0 ab).toNat) yi hyi
  replace bg:Has dB ⟨rq,0+((CX aa 0 ab).toNat) * Rep.sz RP,none⟩ [vT yi.key,vT yi.val,.slice yi.a yi.n yi.c]:=by rw [Nat.zero_add]; exact bg
  refine .lh 8 2 bg (C7 (all_cons hnr_ all_nil) hlr_)<|.r [9]<|GA.int (i:=10) ((k:Int)+1) AA AB<|.go 11<|.ns 1 3 [vI ((k:Int)+1)] fun d3 bh=>?_
  replace hix:=hix.ext bh
  replace hE:=hE.trans bh
  intro bS d4 bi bj bk cI
  have cJ:∀ q_∈af::rq::ai,Nb bS q_:=fun q_ hq_=>Ab bi (hix.lt q_ hq_)
  replace hix:=hix.ext bj
  replace hE:=hE.trans bj
  refine .go 12<|GE.append (T:=33) (ty:=33) (args:=[.slice yi.a yi.n yi.c,vS bS 1 1]) AA fun d5 aE=>?_
  replace bk:=bk.ext aE
  replace hix:=hix.ext aE
  replace hE:=hE.trans aE
  have hyn:=(hix.el (CX aa 0 ab).toNat xi yi ri hxi hyi hri).2.2.n; have hyl:xi.ids.length≤5000000:=by have hm:=AV hxi; (have:=ao _ hm; omega)
  have bP:=hE.size; have hge_ri:=hix.new ri (IX.mi hri)
  obtain ⟨aL,bB,d6,bT,bm,b0,ak⟩:=Mj.app (P:=Tryz.prog) (T:=33) (ty:=33) (hix.el (CX aa 0 ab).toNat xi yi ri hxi hyi hri).2.2 AA bk (cJ ri (IX.mi hri)) AB
  refine ⟨_,_,bT,Chg.toS ak (.inl AI),?_⟩
  replace hE:=Chg.HF hE ak ⟨.inr hge_ri⟩
  refine .d fun dC aF=>?_
  replace ak:=Chg.trans ak (Ext.chg aF)
  replace bm:=bm.ext aF
  replace hE:=hE.trans aF
  have cK:(CX aa 0 ab).toNat< ac.length:=AB
  refine RG.idx (b:=rq) (o:=0) ((CX aa 0 ab).toNat) (len:=ac.length) (i:=CX aa 0 ab) (sz:=3) AA AB cK rfl<|.r 1 ?_
  have bU:=Tg LD hix.own ak (Nb.one (hix.ner hri))
  obtain ⟨_,rfl,bn⟩:=bU.elem ((CX aa 0 ab).toNat) yi hyi
  replace bn:Has dC ⟨rq,0+((CX aa 0 ab).toNat) * Rep.sz RP,none⟩ [vT yi.key,vT yi.val,.slice yi.a yi.n yi.c]:=by rw [Nat.zero_add]; exact bn
  refine RG.IS (t':=33) (i:=((CX aa 0 ab).toNat)) (k:=2) (v:=vS aL (yi.n+1) bB) (cs:=[vT yi.key,vT yi.val,.slice yi.a yi.n yi.c]) (⟨yi.key,yi.val,some ⟨aL,0,none⟩,yi.n+1,bB⟩:RP) bU hyi bn AA AA AA rfl fun d7 cL bo cM=>?_
  have hge_r2:=hix.new rq AJ
  replace hix:=hix.upd (i:=(CX aa 0 ab).toNat) (z:=(k:Int)+1) bP hxi hyi hri ak bm b0 bo (y':=(⟨yi.key,yi.val,some ⟨aL,0,none⟩,yi.n+1,bB⟩:RP)) rfl cL
  replace hE:=Chg.HF hE bo ⟨.inr hge_r2⟩
  refine .d<|.ib 3<|.g<|.it ((j:Int)+1)<|.r 1<|.d ?_
  have hxN:(ab.set ((CX aa 0 ab).toNat) ⟨xi.tag,xi.ids++[(k:Int)+1]⟩)=GK ((k:Int)+1) ab aa:=(Ls ‹_› hxi).symm
  have hbd:=O5 ((k:Int)+1) ab aa (5 * k+j) cd ao; rw [← hxN] at hbd
  have hfs:=FT hfl (drop_at aJ); rw [← hxN] at hfs
  exact bz (rq,cq,j+1,(ac.set ((CX aa 0 ab).toNat) (⟨yi.key,yi.val,some ⟨aL,0,none⟩,yi.n+1,bB⟩:RP)),(ab.set ((CX aa 0 ab).toNat) ⟨xi.tag,xi.ids++[(k:Int)+1]⟩),(ai.set ((CX aa 0 ab).toNat) aL)) _ _ ⟨AA,AA,AA,AA,AA,AA,AA,AA,AA,trivial⟩ ⟨hE,hix,by omega,by have:=hbd.1; omega,fun x hx=>by have:=hbd.2 x hx; omega,hfs⟩ (by (simp only []; omega))
 refine .d<|.s<|.cf<|.x 0 rfl<|.s<|.g<|.r 1 ?_
 have hEw:=hEc.trans hE; have hb2n:=hb2c.ext hE; have hb2l:=hb2c.lt; have hoP:=hix.ZD hb2l; have hNn:=hix.Xn; have hb3n:=hix.box; have hn3r:=hix.ne
 have d8:Nb af ae:=C6 (hix.new _ AI) hb2l; have d9:Nb r ae:=C6 (hix.new _ AJ) hb2l
 have hgr:Gb w.heap.size r:=Nat.le_trans cj (hix.new _ AJ)
 have hbe:=Xp hbl AB
 refine .lb hb3n<|.cl (J2 hoP (Nat.le_trans (by rw [hix.lx,hbe]; exact p2) (by decide:1000≤1100000))) ?_
 rintro ec dD ⟨rfl,cN,hperm_,hsort_,bq,br⟩
 replace ⟨hNn,hb3n,hb2n⟩:=(so [af,r,ae] br).g3 hNn hb3n hb2n
 replace hEw:Chg nil w dD:=Chg.HF hEw br ⟨.inr hgr⟩
 refine .d<|.s<|.g<|.ln hb3n<|.sc [vS bC bV bW,vS r ys.length c] hb2n fun ci bu cO cP=>?_
 replace ⟨hNn,bq,hb3n⟩:=(so [af,r,ae] bu).g3 hNn bq hb3n
 replace hEw:Chg nil w ci:=Chg.HF hEw bu ⟨.inr cS⟩
 refine .d ?_
 have dE:=bq.sl hgr
 replace hNn:=(sd ci [af,r,ae] r).g1 hNn
 exact .rb func62 results62 cO ⟨⟨((⟨names,cN⟩:Idx):Idx),⟨_,rfl,⟨_,_,_,_,_,_,rfl,hNn.w1,dE.w1⟩⟩,(by exact ⟨rfl,fun a b=>Tm a b hperm_ hsort_ hbe⟩)⟩,hEw⟩
theorem CB (names:List (List Tag)) (h1:RepS w F a1 n1 c1 names) (p0:NmI names) (p1:NsD names):Calls Tryz.prog 62 [.slice a1 n1 c1].toArray w (Am fun rv w'=>VS (ge w.heap.size) w' (idxOf names:Idx) rv∧Ext w w'):=by
 refine (Gz names h1 (by have:=p0.len; omega) (fun n hn=>(p1 n hn).1) (Tl p0 p1)).mono ?_
 rintro e w' ⟨v,rfl,⟨y,hv,hy⟩,hx⟩
 exact ⟨v,rfl,by rw [← hy.2 p0 p1]; exact hv,hx⟩
end Go.Proofs.YtfninflnngpchaaGreatDoor
namespace Go.Proofs.YtfninflnngpchaaGreatDoor
theorem Tn {t:Tag}(h:Bj t=true):∃ x y,t=⟨[x],[y]⟩:=by
 obtain ⟨k,v⟩:=t
 simp only [Bj,AW] at h
 have h1:k.length=1:=Ew h.1
 have h2:v.length=1:=Ew h.2
 match k,v,h1,h2 with
 | [x],[y],_,_=>exact ⟨x,y,rfl⟩
theorem SN:∀ (n m:List Tag) (i:Nat),(∀ t∈n,Bj t=true)→(∀ t∈m,Bj t=true)→D5 i n=D5 i m→n=m:=by
 intro n
 induction n with
 | nil =>
   intro m i _ hm h
   cases m with
   | nil=>rfl
   | cons t ts =>
     obtain ⟨x,y,rfl⟩:=Tn (hm t AD)
     simp [D5,Gw] at h
 | cons t ts ih =>
   intro m i hn hm h
   obtain ⟨x,y,rfl⟩:=Tn (hn t AD)
   cases m with
   | nil=>simp [D5,Gw] at h
   | cons u us =>
     obtain ⟨x',y',rfl⟩:=Tn (hm u AD)
     simp only [D5,Gw,List.append_assoc] at h
     have h2:=List.append_cancel_left h
     simp only [List.cons_append,List.nil_append,List.cons.injEq,true_and] at h2
     obtain ⟨rfl,rfl,h3⟩:=h2
     rw [ih us (i+1) (fun t ht=>hn t (by simp [ht])) (fun t ht=>hm t (by simp [ht])) h3]
theorem Fq {n:List Tag}(h:Ao n=true):∀ t∈n,Bj t=true:=by
 simp only [Ao,AW] at h
 exact Gl n none h.1
theorem O7 {n m:List Tag}(hn:Ao n=true) (hm:Ao m=true) (h:text n=text m):n=m:=SN n m 0 (Fq hn) (Fq hm) h
theorem Xu {names:List (List Tag)}{n:List Tag}(h:∀ m∈names,Ao m=true) (hn:Ao n=true):∀ i,nmF (text n) i names=Df n i names+1:=by
 induction names with
 | nil=>intro i; rfl
 | cons x xs ih =>
   intro i
   unfold nmF Df
   by_cases hx:x=n
   ·rw [if_pos (by simp [hx]),if_pos (by simp [hx])]
   ·have h1:¬ (text x==text n)=true:=fun e=>hx (O7 (h x AD) hn (eq_of_beq e))
    have h2:¬ (x==n)=true:=fun e=>hx (eq_of_beq e)
    rw [if_neg h1,if_neg h2]
    exact ih (fun m hm=>h m (by simp [hm])) (i+1)
theorem HS {x:Idx}{n:List Tag}(h:NmI x.names) (hn:Ao n=true):G5 x n=Df n 0 x.names+1:=Xu h.ok hn 0
def CR (x:Idx) (n:List Tag):Idx × Int × Bool:=if Ao n=true then BV x n else (⟨[],[]⟩,0,false)
theorem OB {x:Idx}{n:List Tag}(h:Ao n=false):CR x n=(⟨[],[]⟩,0,false):=by unfold CR; rw [if_neg (by simp [h])]
theorem Hx {x:Idx}{n:List Tag}(h:Ao n=true):CR x n=BV x n:=by unfold CR; rw [if_pos h]
theorem Ly {x:Idx}{n:List Tag}(hx:IxI x) (h:Ao n=true) (h1:Df n 0 x.names+1 > 0):CR x n=(idxOf x.names,Df n 0 x.names+1,true):=by
 rw [Hx h,HL (by rw [HS hx.nm h]; exact h1),HS hx.nm h,← hx.eq]
theorem J3 {x:Idx}{n:List Tag}(hx:IxI x) (h:Ao n=true) (h1:¬ Df n 0 x.names+1 > 0) (h2:(x.names.length:Int)=6):CR x n=(idxOf x.names,0,false):=by
 rw [Hx h,Fl (by rw [HS hx.nm h]; exact h1) (.inr AB),← hx.eq]
theorem GL {x:Idx}{n:List Tag}(hx:IxI x) (h:Ao n=true) (h1:¬ Df n 0 x.names+1 > 0) (h2:(x.names.length:Int)≠6):CR x n=(idxOf (x.names++[n]),(x.names.length:Int)+1,true):=by
 rw [Hx h,HM (by rw [HS hx.nm h]; exact h1) h (by have:=hx.nm.len; omega)]
theorem NmI.ZG {x:Idx}{n:List Tag}(hx:IxI x) (h:Ao n=true) (h1:¬ Df n 0 x.names+1 > 0) (h2:(x.names.length:Int)≠6):NmI (x.names++[n]):=by
 refine NmI.add (ps:=x.AY) hx.nm h ?_ (by have:=hx.nm.len; omega)
 have:=HS (x:=⟨x.names,x.AY⟩) hx.nm h
 rw [this]; exact h1
theorem NsD.add {names:List (List Tag)}{n:List Tag}(h:NsD names) (hn:NmD n):NsD (names++[n]):=fun m hm=>by
 rcases List.mem_append.1 hm with hm | hm
 ·exact h m hm
 ·simp at hm; rw [hm]; exact hn
theorem NE:∀ (is:List Int) (bs:List (List Row)) (o:Option Int),Br o is bs=true→(∀ q,o=some q→∀ i∈is,q< i)∧∀ m,Mb m is=(match is.getLast? with | some l=>if l > m then l else m | none=>m)∨is=[]:=by
 intro is
 induction is with
 | nil=>intro bs o _; exact ⟨fun _ _ i hi=>(by cases hi),fun m=>.inr rfl⟩
 | cons x xs ih =>
   intro bs o h
   cases bs with
   | nil=>simp [Br] at h
   | cons b bs =>
     simp only [Br,AW] at h
     obtain ⟨⟨⟨⟨_,h2⟩,_⟩,_⟩,h5⟩:=h
     obtain ⟨g1,g2⟩:=ih bs (some x) h5
     refine ⟨fun q hq i hi=>?_,fun m=>.inl ?_⟩
     ·subst hq
      have hqx:q< x:=by simpa using h2
      rcases List.mem_cons.1 hi with rfl | hi
      ·exact hqx
      ·have:=g1 x rfl i hi; omega
     ·unfold Mb
      rcases g2 (if x > m then x else m) with g | g
      ·rw [g]
       cases hl:xs.getLast? with
       | none =>
         have:xs=[]:=List.getLast?_eq_none_iff.1 hl
         subst this
         simp
       | some l =>
         have hlm:=g1 x rfl l (List.mem_of_getLast? hl)
         have e:(x::xs).getLast? = some l:=by rw [List.getLast?_cons,hl]; rfl
         rw [e]
         simp only
         repeat' split
         all_goals omega
      ·subst g
       simp [Mb]
theorem Lz {p:Prt}{n:Int}(h:Av p=true) (h0:(p.ids.length:Int)≠0):Bn p n = !decide (maxOf p.ids > n):=by
 unfold Bn
 rw [h,Bool.true_and]
 unfold Av at h
 simp only [AW,decide_eq_true_eq] at h
 match hi:p.ids,h.2 with
 | [],_=>rw [hi] at h0; simp at h0
 | x :: xs, hg =>
   cases hb:p.blocks with
   | nil=>rw [hb] at hg; simp [Br] at hg
   | cons b bs =>
     rw [hb] at hg
     simp only [Br,AW] at hg
     obtain ⟨g1,g2⟩:=NE xs bs (some x) hg.2
     show (match (x::xs).getLast? with | some i=>decide (i≤n) | none=>false) = !decide (Mb x xs > n)
     rcases g2 x with g | g
     ·rw [g]
      cases hl:xs.getLast? with
      | none =>
        have:xs=[]:=List.getLast?_eq_none_iff.1 hl
        subst this
        simp only [List.getLast?_singleton]
        rw [Bool.eq_iff_iff]; simp
      | some l =>
        have hlm:=g1 x rfl l (List.mem_of_getLast? hl)
        have e:(x::xs).getLast? = some l:=by rw [List.getLast?_cons,hl]; rfl
        rw [e]
        simp only
        simp only [show l > x from hlm,if_true]
        rw [Bool.eq_iff_iff]; simp
     ·subst g
      simp only [List.getLast?_singleton,Mb]
      rw [Bool.eq_iff_iff]; simp
theorem To {p:Prt}{n:Int}(h:Av p=false):Bn p n=false:=by unfold Bn; rw [h]; rfl
theorem Tp {p:Prt}{n:Int}(h:(p.ids.length:Int)=0):Bn p n=false:=by
 have:p.ids=[]:=List.eq_nil_of_length_eq_zero AB
 unfold Bn; rw [this]; simp
theorem Tq {p:Prt}{n:Int}(h:Av p=true) (h0:(p.ids.length:Int)≠0) (h1:maxOf p.ids > n):Bn p n=false:=by rw [Lz h h0]; simp [h1]
theorem Tr {p:Prt}{n:Int}(h:Av p=true) (h0:(p.ids.length:Int)≠0) (h1:¬ maxOf p.ids > n):Bn p n=true:=by rw [Lz h h0]; simp [h1]
theorem FK {p:Prt}{n:Int}(h:Bn p n=true):Av p=true:=by
 unfold Bn at h
 simp only [AW] at h
 exact h.1
structure StoK (s:Sto):Prop where
 sd:SD s
 part:∀ p∈s.parts,PrtI p∧Av p=true
 row:∀ m∈s.mem,BZ m.row=true
 id:∀ m∈s.mem,1≤m.id∧m.id≤s.idx.names.length
 nm2:s.mem.length≤20
theorem StoK.of {s:Sto}(h:SD s) (hk:Aa s=true):StoK s:=by
 unfold Aa at hk
 simp only [AW,decide_eq_true_eq,List.all_eq_true] at hk
 obtain ⟨⟨⟨⟨_,h2⟩,h3⟩,h4⟩,_⟩:=hk
 refine ⟨h,fun p hp=>⟨h.part p hp,FK (h3 p hp)⟩,fun m hm=>?_,fun m hm=>?_,h2⟩
 ·have:=h4 m hm
  unfold E8 at this
  simp only [AW] at this
  exact this.2
 ·have:=h4 m hm
  unfold E8 at this
  simp only [AW] at this
  exact BW this.1
theorem StoK.J4 {s:Sto}(h:StoK s):StoI s:=⟨h.sd.idx,h.sd.nm,h.sd.np,h.sd.part,h.nm2,fun m hm=>⟨(h.id m hm).1,(h.id m hm).2,h.row m hm⟩⟩
theorem StoK.pt {s:Sto}(h:SD s) (h3:s.parts.all (fun p=>Bn p s.idx.names.length)=true):∀ p∈s.parts,PrtI p∧Av p=true:=fun p hp=>⟨h.part p hp,FK (List.all_eq_true.1 h3 p hp)⟩
theorem StoK.rw {s:Sto}(h4:s.mem.all (E8 s.idx.names.length)=true):∀ m∈s.mem,BZ m.row=true:=fun m hm=>by
 have:=List.all_eq_true.1 h4 m hm
 unfold E8 at this
 simp only [AW] at this
 exact this.2
def IH (s:Sto) (id:Int):List Row:=if Aa s=true∧inR id 1 s.idx.names.length=true then rowsOf s id else []
theorem SO {s:Sto}{id:Int}(h:Aa s=true) (h2:inR id 1 s.idx.names.length=true):IH s id=rowsOf s id:=by unfold IH; rw [if_pos ⟨h,h2⟩]
section
variable {s:Sto} {n:List Tag} {r:Row}
theorem Xv (_h:SD s) (hn:Ao n=true) (h1:(CR s.idx n).2.2=false):CI s n r=(s,false):=by rw [Hx hn] at h1; exact LY h1
theorem Xw (_h:SD s) (_hn:Ao n=true) (h1:BZ r=false):CI s n r=(s,false):=LZ h1
theorem Xx (_h:SD s) (_hn:Ao n=true) (h1:(s.mem.length:Int)=20):CI s n r=(s,false):=QA AB
theorem XJ (h:Aa s=true):s.mem.length≤20:=by
 unfold Aa at h
 simp only [AW,decide_eq_true_eq] at h
 exact h.1.1.1.2
theorem Xy (_h:SD s) (hk:Aa s=true) (hn:Ao n=true) (h1:(CR s.idx n).2.2=true) (h2:BZ r=true) (h3:(s.mem.length:Int)≠20)
 (h4:((rowsOf (⟨⟨(CR s.idx n).1.names,(CR s.idx n).1.AY⟩,(Ah s).parts,(Ah s).mem++[⟨(CR s.idx n).2.1,r⟩]⟩:Sto) (CR s.idx n).2.1).length:Int) > 24):CI s n r=(s,false):=by
 rw [Hx hn] at h1 h4
 have:=XJ hk
 exact Gj h1 h2 AB h4
theorem Xz (_h:SD s) (hk:Aa s=true) (hn:Ao n=true) (h1:(CR s.idx n).2.2=true) (h2:BZ r=true) (h3:(s.mem.length:Int)≠20)
 (h4:¬ ((rowsOf (⟨⟨(CR s.idx n).1.names,(CR s.idx n).1.AY⟩,(Ah s).parts,(Ah s).mem++[⟨(CR s.idx n).2.1,r⟩]⟩:Sto) (CR s.idx n).2.1).length:Int) > 24):CI s n r=(⟨(CR s.idx n).1,s.parts,s.mem++[⟨(CR s.idx n).2.1,r⟩]⟩,true):=by
 rw [Hx hn] at h1 h4 ⊢
 have:=XJ hk
 exact Gk h1 h2 AB h4
theorem Ts (h:SD s) (hk:Aa s=true) (hn:Ao n=true) (h1:(CR s.idx n).2.2=false):BX s n r=(Ah s,false):=by rw [HP hk hn,h.copy]; exact Xv h hn h1
theorem Tt (h:SD s) (hk:Aa s=true) (hn:Ao n=true) (h1:BZ r=false):BX s n r=(Ah s,false):=by rw [HP hk hn,h.copy]; exact Xw h hn h1
theorem Tu (h:SD s) (hk:Aa s=true) (hn:Ao n=true) (h1:(s.mem.length:Int)=20):BX s n r=(Ah s,false):=by rw [HP hk hn,h.copy]; exact Xx h hn h1
theorem Tv (h:SD s) (hk:Aa s=true) (hn:Ao n=true) (h1:(CR s.idx n).2.2=true) (h2:BZ r=true) (h3:(s.mem.length:Int)≠20)
 (h4:((rowsOf (⟨⟨(CR s.idx n).1.names,(CR s.idx n).1.AY⟩,(Ah s).parts,(Ah s).mem++[⟨(CR s.idx n).2.1,r⟩]⟩:Sto) (CR s.idx n).2.1).length:Int) > 24):BX s n r=(Ah s,false):=by
 rw [HP hk hn,h.copy]; exact Xy h hk hn h1 h2 h3 h4
theorem Tw (h:SD s) (hk:Aa s=true) (hn:Ao n=true) (h1:(CR s.idx n).2.2=true) (h2:BZ r=true) (h3:(s.mem.length:Int)≠20)
 (h4:¬ ((rowsOf (⟨⟨(CR s.idx n).1.names,(CR s.idx n).1.AY⟩,(Ah s).parts,(Ah s).mem++[⟨(CR s.idx n).2.1,r⟩]⟩:Sto) (CR s.idx n).2.1).length:Int) > 24):BX s n r=(⟨(CR s.idx n).1,(Ah s).parts,(Ah s).mem++[⟨(CR s.idx n).2.1,r⟩]⟩,true):=by
 have:=Xz h hk hn h1 h2 h3 h4
 rw [HP hk hn,h.copy]
 exact this
theorem V8 {i:Int}(h:StoK s) (hr:BZ r=true):∀ m∈(Ah s).mem++[⟨i,r⟩],BZ m.row=true:=fun m hm=>by
 rcases List.mem_append.1 hm with hm | hm
 ·exact h.row m hm
 ·simp at hm; subst hm; exact hr
end
end Go.Proofs.YtfninflnngpchaaGreatDoor
namespace Go.Proofs.YtfninflnngpchaaGreatDoor
def nmB (names:List (List Tag)):Bool:=decide (names.length≤6)&&names.all Ao&&decide ((names.map text).Nodup)
theorem EN {names:List (List Tag)}:nmB names=true↔NmI names:=by
 unfold nmB
 simp only [AW,decide_eq_true_eq,List.all_eq_true]
 exact ⟨fun h=>⟨h.1.1,h.1.2,h.2⟩,fun h=>⟨⟨h.len,h.ok⟩,h.nodup⟩⟩
theorem Tx {names:List (List Tag)}(h:¬ NmI names):nmB names=false:=by
 cases hb:nmB names with
 | false=>rfl
 | true=>exact absurd (EN.1 hb) h
structure NmG (names:List (List Tag)):Prop where
 len:names.length≤7
 nd:NsD names
 bl:(H6 0 [] names).length≤1000
theorem NmG.of {names:List (List Tag)}(h:NmI names) (h2:NsD names):NmG names:=⟨by have:=h.len; omega,h2,Tl h h2⟩
theorem NmG.sz {names:List (List Tag)}(h:NmG names):∀ n∈names,Fw n:=fun n hn=>(h.nd n hn).sz
theorem NmG.l5 {names:List (List Tag)}(h:NmG names):∀ n∈names,n.length≤5:=fun n hn=>(h.nd n hn).1
theorem Ty {names:List (List Tag)}(h:∀ (i j:Nat) (x y:List Tag),i< j→names[i]? = some x→names[j]? = some y→text x≠text y):(names.map text).Nodup:=by
 unfold List.Nodup
 rw [List.pairwise_iff_getElem]
 intro i j hi hj hij
 rw [List.getElem_map,List.getElem_map]
 exact h i j _ _ hij (AU _) (AU _)
def Tz (names:List (List Tag)) (k:Nat):Prop:=∀ j n,j< k→names[j]? = some n→Ao n=true∧Df n 0 names=j
theorem X0 (names:List (List Tag)):Tz names 0:=fun j _ h=>absurd h AB
theorem SP {names:List (List Tag)}{k:Nat}{n:List Tag}(h:Tz names k) (hn:names[k]? = some n) (h1:Ao n=true) (h2:Df n 0 names+1=(k:Int)+1):Tz names (k+1):=fun j m hj hm=>by
 by_cases e:j=k
 ·subst e
  rw [hn] at hm
  cases hm
  exact ⟨h1,by omega⟩
 ·exact h j m AB hm
theorem RD {names:List (List Tag)}{k:Nat}{n:List Tag}(hn:names[k]? = some n) (h:Ao n=false∨Df n 0 names+1≠(k:Int)+1):false=nmB names:=(Tx (fun hI=>Vy hI hn h)).symm
theorem T0 {names:List (List Tag)}{k:Nat}(h:Tz names k) (hk:names.length≤k):decide ((names.length:Int)≤6)=nmB names:=by
 unfold nmB
 have h1:names.all Ao=true:=List.all_eq_true.2 (fun n hn=>by
  obtain ⟨j,hj⟩:=List.mem_iff_getElem?.1 hn
  exact (h j n (by have:=(List.getElem?_eq_some_iff.1 hj).1; omega) hj).1)
 have h2:(names.map text).Nodup:=Ty (fun i j x y hij hx hy e=>by
  have hj:=(List.getElem?_eq_some_iff.1 hy).1
  have a:=h i x AB hx
  have b:=h j y AB hy
  have:=O7 a.1 b.1 e
  subst this
  omega)
 rw [h1,decide_eq_true h2,Bool.and_true,Bool.and_true,decide_eq_decide]
 omega
def apart (names:List (List Tag)) (n:List Tag) (k:Nat):Prop:=∀ i m,i< k→names[i]? = some m→text n≠text m
theorem V9 {names:List (List Tag)}(h:(names.length:Int) > 6):false=nmB names:=(Tx (fun hI=>by have:=hI.len; omega)).symm
structure IxG (x:Idx):Prop where
 g:NmG x.names
 eq:NmI x.names→x=idxOf x.names
theorem IxG.ix {x:Idx}(h:IxG x) (h2:NmI x.names):IxI x:=⟨h.eq h2,h2⟩
structure SG (s:Sto):Prop where
 ix:IxG s.idx
 np:s.parts.length≤7
 part:∀ p∈s.parts,PrtI p
 nm2:s.mem.length≤21
 mem:∀ m∈s.mem,0≤m.id∧m.id≤7∧Oy m.row
theorem SG.pt {s:Sto}(h:SG s) (h3:s.parts.all (fun p=>Bn p s.idx.names.length)=true):∀ p∈s.parts,PrtI p∧Av p=true:=fun p hp=>⟨h.part p hp,FK (List.all_eq_true.1 h3 p hp)⟩
theorem SG.of {s:Sto}(h:SD s):SG s:=⟨⟨NmG.of h.nm h.nd,fun _=>h.idx⟩,by have:=h.np; omega,h.part,h.nm2,h.mem⟩
theorem SG.sd {s:Sto}(h:SG s) (h2:nmB s.idx.names=true) (h3:s.parts.length≤6):SD s:=⟨h.ix.eq (EN.1 h2),EN.1 h2,h.ix.g.nd,h3,h.part,h.nm2,h.mem⟩
end Go.Proofs.YtfninflnngpchaaGreatDoor
namespace Go.Proofs.YtfninflnngpchaaGreatDoor
set_option maxRecDepth 100000
set_option maxHeartbeats 4000000
variable {w:World} {F:Nat→Prop} {a1 a2 a3 a4:Option Addr} {n1 c1 n2 c2 n3 c3 n4 c4:Nat}
theorem Ks (names:List (List Tag)) (h1:RepS w F a1 n1 c1 names) (p0:NmG names):Calls Tryz.prog 145 [.slice a1 n1 c1].toArray w (Am fun rv w'=>rv=.bool (nmB names)∧Ext w w'):=by
 cases h1.len
 refine goT func145 ?_
 have Z:=(St.i0 F w).p h1
 have ah:=h1.max
 refine .s<|.g<|.r 1<|.d<|.s<|.s<|.g<|.r 3<|.d<|.b 0<|T.Lp (0:Nat) (fun k=>([(0,.slice a1 names.length c1),(5,.slice a1 names.length c1),(6,vI (names.length:Int)),(7,vI (k:Int))],[],[],names.length - k,(k≤names.length)∧(Tz names k))) [] Z ⟨AD,(by exact X0 _)⟩ ?_
 rintro k ao w Z ⟨ai,aj⟩ ab
 refine .s<|.g<|.bp ((k:Int)< (names.length:Int)) (fun ae=>?_) (fun ae=>.d<|.s<|.cf<|.x 0 rfl<|.s<|.g<|.r 4<|.d<|T.rt func145 results145 (.bool (decide ((names.length:Int)≤6))) ⟨(AG (by exact T0 ‹_› AB)),Z.xt⟩)
 refine .d<|.s<|.ct<|.sk<|.s<|.b 1<|.s<|.g<|.r 1<|gx names k fun ac aa=>?_
 refine RG.Ix 0 aa Z<|Z.el 0 aa fun aq ar Z=>RG.Lh 0 0 Z<|.r 2<|.d<|.s<|.g<|.r 1<|RG.C0 (De ac (Z.a 1)) Z fun w Z=>?_
 cases am:(Ao ac)
 ·exact .r 9<|.d<|.ct<|.s<|.g<|.r 1<|.d<|T.rt func145 results145 (.bool false) ⟨(AG (by exact RD ‹_› (.inl ‹_›))),Z.xt⟩
 exact .r 4<|RG.C0 (Gy names ac (Z.a 2) (Z.a 1)) Z fun w Z=>.r 1<|.it ((k:Int)+1)<|.ne (Df ac 0 names+1) ((k:Int)+1) (fun af=>.r 1<|.d<|.ct<|.s<|.g<|.r 1<|.d<|T.rt func145 results145 (.bool false) ⟨(AG (by exact RD ‹_› (.inr ‹_›))),Z.xt⟩) fun af=>.r 1<|.d<|.cf<|.sk<|.ib 1<|.g<|.it ((k:Int)+1)<|.r 1<|.d<|ab (k+1) _ _ AA (Z.to 0 [] 2) ⟨AB,(by exact SP ‹_› ‹_› ‹_› ‹_›)⟩ (by (simp only []; omega))
theorem G0 (ix:Idx) (h1:RepS w F a1 n1 c1 ix.names) (h2:RepS w F a2 n2 c2 ix.AY) (p0:IxG ix):Calls Tryz.prog 85 [.agg #[.slice a1 n1 c1,.slice a2 n2 c2]].toArray w (Am fun rv w'=>rv=.bool (nmB ix.names)∧Ext w w'):=by
 cases h1.len
 cases h2.len
 refine goT func85 ?_
 have Z:=((St.i0 F w).p h1).p h2
 refine .s<|.g<|RG.Np Z fun ae w Z=>.r 1<|.d<|.s<|T.Gd 10 Z fun w Z=>.r [0]<|GA.Lb 1 0 Z<|GA.C0 2 Z (fun w Z=>Ks ix.names (Z.a 1) p0.g) ?_
 cases ac:(nmB ix.names)
 ·exact .r [3]<|GA.Sk Z fun w Z=>.r 3<|.d<|T.rt func85 results85 (.bool false) ⟨(AG AF),Z.xt⟩
 exact .r [3,4]<|GA.Lb 5 0 Z<|.r [6]<|GA.Lb 7 0 Z<|.go 8<|GE.CS (fun w Z=>CB ix.names (Z.a 1) (EN.1 ‹_›) p0.g.nd) Z fun af ag ah ai w Z=>.r [9]<|GA.Dn Z fun w Z=>RG.C0 (JB ix.AY ((idxOf ix.names).AY) (Z.a 2) (Z.a 1)) Z fun w Z=>.r 2<|.d<|T.rt func85 results85 (.bool (ix.AY==((idxOf ix.names).AY))) ⟨(AG (by (have p9:=p0.ix (EN.1 ‹_›); rw [p9.AY]; simp [idxOf]; done))),Z.xt⟩
theorem E4 (s:Sto) (h1:RepS w F a1 n1 c1 s.idx.names) (h2:RepS w F a2 n2 c2 s.idx.AY) (h3:RepS w F a3 n3 c3 s.parts) (h4:RepS w F a4 n4 c4 s.mem) (p0:SG s):Calls Tryz.prog 39 [.agg #[.slice a1 n1 c1,.slice a2 n2 c2,.slice a3 n3 c3,.slice a4 n4 c4]].toArray w (Am fun rv w'=>rv=.bool (nmB s.idx.names&&Aa s)∧Ext w w'):=by
 cases h1.len
 cases h2.len
 cases h3.len
 cases h4.len
 refine goT func39 ?_
 have Z:=((((St.i0 F w).p h1).p h2).p h3).p h4
 have aC:=h1.max
 have aE:=h3.max
 have aF:=h4.max
 refine .s<|.g<|RG.Np Z fun aj w Z=>.r 1<|.d<|.s<|.s<|.g<|.r 1<|RG.Ln 0 Z<|RG.C0 (G0 s.idx (Z.a 3) (Z.a 2) p0.ix) Z fun w Z=>?_
 cases aG:(nmB s.idx.names)
 ·exact .r 13<|.d<|.ct<|.s<|.g<|.r 1<|.d<|T.rt func39 results39 (.bool false) ⟨(AG AF),Z.xt⟩
 refine .r 3<|RG.Lb 0 Z<|.r 1<|.bp ((s.parts.length:Int) > 6) (fun ak=>.r 7<|.d<|.ct<|.s<|.g<|.r 1<|.d<|T.rt func39 results39 (.bool false) ⟨(AG (by (rw [Bool.true_and]; symm; exact M7 AB))),Z.xt⟩) fun ak=>.r 3<|RG.Lb 0 Z<|.r 1<|.bp ((s.mem.length:Int) > 20) (fun am=>.r 1<|.d<|.ct<|.s<|.g<|.r 1<|.d<|T.rt func39 results39 (.bool false) ⟨(AG (by (rw [Bool.true_and]; symm; exact M7 AB))),Z.xt⟩) fun am=>.r 1<|.d<|.cf<|.sk<|.s<|.g<|.r 2<|RG.Lb 0 Z<|.r 2<|.d<|.s<|.s<|.g<|.r 1<|RG.Lb 0 Z<|.r 2<|.d<|.b 0<|T.Lp (0:Nat) (fun k=>([(1,vP aj),(3,vI (s.idx.names.length:Int)),(30,.slice a3 s.parts.length c3),(31,vI (s.parts.length:Int)),(32,vI (k:Int))],[],[],s.parts.length - k,(k≤s.parts.length)∧((s.parts.drop k).all (fun p=>Bn p s.idx.names.length)=s.parts.all (fun p=>Bn p s.idx.names.length))∧(nmB s.idx.names=true))) [] Z ⟨AD,AF,‹_›⟩ ?_
 rintro k ba w Z ⟨aH,aI,aJ⟩ ac
 refine .s<|.g<|.bp ((k:Int)< (s.parts.length:Int)) (fun ao=>?_) (fun ao=>?_)
 ·refine .d<|.s<|.ct<|.sk<|.s<|.b 1<|.s<|.g<|gx s.parts k fun ae aa=>?_
  have aK:=drop_at aa
  refine RG.Ix 1 aa Z<|Z.el 1 aa fun bd bg bh bi Z=>RG.Lg 0 0 Z<|RG.Np Z fun bj w Z=>RG.Ss 0 Z fun w Z=>.d<|.s<|.g<|RG.Ln 0 Z<|RG.C0 (DB ae (Z.a 1) (Z.a 2)) Z fun w Z=>?_
  cases aL:(Av ae)
  ·exact .r 14<|.d<|.ct<|.s<|.g<|.r 1<|.d<|T.rt func39 results39 (.bool false) ⟨(AG (by (rw [Bool.true_and]; symm; exact Jt (I7 ‹_› ‹_› (by exact To ‹_›))))),Z.xt⟩
  exact .r 3<|RG.Lb 0 Z<|.r 1<|.eq (ae.ids.length:Int) 0 (fun aq=>.r 8<|.d<|.ct<|.s<|.g<|.r 1<|.d<|T.rt func39 results39 (.bool false) ⟨(AG (by (rw [Bool.true_and]; symm; exact Jt (I7 ‹_› ‹_› (by exact Tp ‹_›))))),Z.xt⟩) fun aq=>.r 3<|RG.Lb 0 Z<|RG.C0 (HJ ae.ids (Z.a 1) AB) Z fun w Z=>.r 1<|.bp (maxOf ae.ids > (s.idx.names.length:Int)) (fun ar=>.r 1<|.d<|.ct<|.s<|.g<|.r 1<|.d<|T.rt func39 results39 (.bool false) ⟨(AG (by (rw [Bool.true_and]; symm; exact Jt (I7 ‹_› ‹_› (by exact Tq ‹_› ‹_› ‹_›))))),Z.xt⟩) fun ar=>.r 1<|.d<|.cf<|.sk<|.ib 1<|.g<|RG.int ((k:Int)+1) AA (by have:=p0.ix.g.len; omega)<|.r 1<|.d<|ac (k+1) _ _ AA (Z.to 1 [] 3) ⟨AB,(by exact Hu ‹_› ‹_› (Tr ‹_› ‹_› ‹_›)),‹_›⟩ (by (simp only []; omega))
 refine .d<|.s<|.cf<|.x 0 rfl<|.s<|.s<|.g<|.r 1<|RG.Lb 0 Z<|.r 2<|.d<|.b 2<|T.Lp (0:Nat) (fun k=>([(1,vP aj),(3,vI (s.idx.names.length:Int)),(54,.slice a4 s.mem.length c4),(55,vI (s.mem.length:Int)),(56,vI (k:Int))],[],[],s.mem.length - k,(k≤s.mem.length)∧(s.parts.all (fun p=>Bn p s.idx.names.length)=true)∧((s.mem.drop k).all (E8 s.idx.names.length)=s.mem.all (E8 s.idx.names.length))∧(nmB s.idx.names=true))) [] Z ⟨AD,(by exact Js ‹_› AB),AD,‹_›⟩ ?_
 rintro k bk w Z ⟨aM,aN,aO,aP⟩ af
 refine .s<|.g<|.bp ((k:Int)< (s.mem.length:Int)) (fun ax=>?_) (fun ax=>?_)
 ·refine .d<|.s<|.ct<|.sk<|.s<|.b 3<|.s<|.g<|gx s.mem k fun ah ab=>?_
  have aQ:=drop_at ab
  refine RG.Ix 0 ab Z<|Z.el 0 ab fun Z=>RG.Lg 0 0 Z<|RG.Np Z fun bm w Z=>RG.Ss 0 Z fun w Z=>.d<|.s<|.g<|.r 1<|RG.Lb 0 Z<|.r 1<|RG.C0 (Bk ah.id 1 (s.idx.names.length:Int) (F:=all)) Z fun w Z=>?_
  cases ai:(inR ah.id 1 (s.idx.names.length:Int))
  ·exact .r 7<|.d<|.ct<|.s<|.g<|.r 1<|.d<|T.rt func39 results39 (.bool false) ⟨(AG (by (rw [Bool.true_and]; symm; exact M8 (I7 ‹_› ‹_› (by simp [E8, *]))))),Z.xt⟩
  refine .r 3<|RG.Ln 0 Z<|RG.C0 (Gc ah.row (F:=all)) Z fun w Z=>?_
  cases aT:(BZ ah.row)
  ·exact .r 2<|.d<|.ct<|.s<|.g<|.r 1<|.d<|T.rt func39 results39 (.bool false) ⟨(AG (by (rw [Bool.true_and]; symm; exact M8 (I7 ‹_› ‹_› (by simp [E8, *]))))),Z.xt⟩
  exact .r 2<|.d<|.cf<|.sk<|.ib 3<|.g<|RG.int ((k:Int)+1) AA (by have:=p0.ix.g.len; omega)<|.r 1<|.d<|af (k+1) _ _ AA (Z.to 1 [] 1) ⟨AB,‹_›,(by exact Hu ‹_› ‹_› (by simp only [E8, *]; rfl)),‹_›⟩ (by (simp only []; omega))
 refine .d<|.s<|.cf<|.x 2 rfl<|.s<|.s<|.g<|.r 1<|.d<|.b 4<|T.Lp (1:Nat) (fun k=>([(1,vP aj),(3,vI (s.idx.names.length:Int)),(8,vI (k:Int))],[],[],s.idx.names.length+1 - k,(1≤k)∧(k≤s.idx.names.length+1)∧(s.parts.all (fun p=>Bn p s.idx.names.length)=true)∧(s.mem.all (E8 s.idx.names.length)=true)∧(((List.range s.idx.names.length).drop (k - 1)).all (E9 s)=(List.range s.idx.names.length).all (E9 s))∧(nmB s.idx.names=true))) [] Z ⟨AB,AB,‹_›,(by exact Js ‹_› AB),AF,‹_›⟩ ?_
 rintro k bn w Z ⟨aU,aV,aW,aX,aY,aZ⟩ ag
 exact .s<|.s<|.g<|.r 2<|.bp ((k:Int)≤(s.idx.names.length:Int)) (fun ay=>.d<|.ct<|.sk<|.s<|.b 5<|.s<|.g<|RG.Ln 0 Z<|.r 1<|RG.CL (DK s (k:Int) (Z.a 3) (Z.a 2) (Z.a 1) (Z.a 0) (SG.pt p0 ‹_›) (StoK.rw ‹_›) (by have:=p0.np; omega) (by have:=p0.nm2; omega)) Z fun bo bq w Z=>.r 1<|.bp ((((rowsOf s (k:Int)).length):Int) > 24) (fun az=>.d<|.ct<|.s<|.g<|.r 1<|.d<|T.rt func39 results39 (.bool false) ⟨(AG (by (rw [Bool.true_and]; symm; exact SH (Y8 ‹_› AB AB AB)))),Z.xt⟩) fun az=>.d<|.cf<|.sk<|.ib 5<|.g<|.r 1<|RG.int ((k:Int)+1) AA (by have:=p0.ix.g.len; omega)<|.r 1<|.d<|ag (k+1) _ _ AA (Z.to 0 [] 1) ⟨AB,AB,‹_›,‹_›,(by exact Vm ‹_› AB AB AB),‹_›⟩ (by (simp only []; omega))) fun ay=>.d<|.cf<|.x 4 rfl<|.s<|.g<|.r 1<|.d<|T.rt func39 results39 (.bool true) ⟨(AG (by rw [Bool.true_and]; symm; exact SI AB AB ‹_› ‹_› (Xl ‹_› AB))),Z.xt⟩
end Go.Proofs.YtfninflnngpchaaGreatDoor
namespace Go.Proofs.YtfninflnngpchaaGreatDoor
set_option maxRecDepth 100000
set_option maxHeartbeats 4000000
variable {w:World} {F:Nat→Prop} {a1 a2 a3 a4:Option Addr} {n1 c1 n2 c2 n3 c3 n4 c4:Nat}
theorem HT (ix:Idx) (h1:RepS w F a1 n1 c1 ix.names) (h2:RepS w F a2 n2 c2 ix.AY) (p0:IxI ix) (p1:NsD ix.names):Calls Tryz.prog 85 [.agg #[.slice a1 n1 c1,.slice a2 n2 c2]].toArray w (Am fun rv w'=>rv=.bool (true)∧Ext w w'):=by
 refine (G0 ix h1 h2 ⟨NmG.of p0.nm p1,fun _=>p0.eq⟩).mono ?_
 rintro e w' ⟨v,rfl,hv,hx⟩
 exact ⟨v,rfl,by rw [hv,EN.2 p0.nm],hx⟩
theorem EO (s:Sto) (h1:RepS w F a1 n1 c1 s.idx.names) (h2:RepS w F a2 n2 c2 s.idx.AY) (h3:RepS w F a3 n3 c3 s.parts) (h4:RepS w F a4 n4 c4 s.mem) (p0:SD s):Calls Tryz.prog 39 [.agg #[.slice a1 n1 c1,.slice a2 n2 c2,.slice a3 n3 c3,.slice a4 n4 c4]].toArray w (Am fun rv w'=>rv=.bool (Aa s)∧Ext w w'):=by
 refine (E4 s h1 h2 h3 h4 (SG.of p0)).mono ?_
 rintro e w' ⟨v,rfl,hv,hx⟩
 exact ⟨v,rfl,by rw [hv,EN.2 p0.nm,Bool.true_and],hx⟩
end Go.Proofs.YtfninflnngpchaaGreatDoor
namespace Go.Proofs.YtfninflnngpchaaGreatDoor
set_option maxRecDepth 100000
set_option maxHeartbeats 4000000
variable {w:World} {F:Nat→Prop} {a1 a2 a3 a4 a5:Option Addr} {n1 c1 n2 c2 n3 c3 n4 c4 n5 c5:Nat}
theorem Kt (ix:Idx) (n:List Tag) (h1:RepS w F a1 n1 c1 ix.names) (h2:RepS w F a2 n2 c2 ix.AY) (h3:RepS w F a3 n3 c3 n) (p0:IxI ix) (p1:NsD ix.names) (p2:NmD n):Calls Tryz.prog 118 [.agg #[.slice a1 n1 c1,.slice a2 n2 c2],.slice a3 n3 c3].toArray w (Am fun rv w'=>(∃ v0,rv=.tuple #[v0,.int .i64 ((CR ix n).2.1),.bool ((CR ix n).2.2)]∧VS (fo F w.heap.size) w' ((CR ix n).1:Idx) v0)∧Ext w w'):=by
 cases h1.len
 cases h2.len
 cases h3.len
 refine goT func118 ?_
 have Z:=(((St.i0 F w).p h1).p h2).p h3
 have ae:=h1.max
 refine .s<|.g<|RG.Np Z fun ac w Z=>RG.Np Z fun ai w Z=>.r 2<|.d<|.s<|.s<|.g<|RG.Ln 1 Z<|RG.C0 (HT ix (Z.a 2) (Z.a 1) p0 p1) Z fun w Z=>.r 3<|RG.C0 (De n (Z.a 0)) Z fun w Z=>?_
 cases ah:(Ao n)
 ·refine .r 2<|.d<|.ct<|.s<|.g<|.r 1<|RG.Ss 0 Z fun w Z=>.r 2<|.d ?_
  have Z:=(Z.nl (List Tag)).nl Pst
  exact T.r3 func118 results118 (.B 0 Z) (.t (vI 0)) (.t (.bool false)) ⟨⟨_,(Kk rfl (congrArg (Value.int .i64) (by rw [OB ‹_›])) (AG (by rw [OB ‹_›]))),Z.rS (g:=1) (⟨([]:List (List Tag)),([]:List Pst)⟩:Idx) [1,0] (by rw [OB ‹_›])⟩,Z.xt⟩
 refine .r 2<|.d<|.cf<|.sk<|.s<|.s<|.g<|.r 1<|RG.Lb 1 Z<|.r 1<|RG.C0 (Gy ix.names n (Z.a 2) (Z.a 0)) Z fun w Z=>.r 1<|.d<|.s<|.g<|.r 1<|.bp ((Df n 0 ix.names+1) > 0) (fun aa=>.d<|.ct<|.s<|.g<|.r 1<|RG.Lb 1 Z<|RG.CS (CB ix.names (Z.a 2) (by exact p0.nm) (by exact p1)) Z fun aj ak am ao w Z=>.r 1<|RG.Ss 0 Z fun w Z=>.r 2<|.d<|T.r3 func118 results118 (.B 0 Z) (.t (vI (Df n 0 ix.names+1))) (.t (.bool true)) ⟨⟨_,(Kk rfl (congrArg (Value.int .i64) (by (rw [Ly p0 ‹_› ‹_›]; done))) (AG (by (rw [Ly p0 ‹_› ‹_›]; done)))),Z.rS (g:=1) (idxOf ix.names) [0,1] (by (rw [Ly p0 ‹_› ‹_›]; done))⟩,Z.xt⟩) fun aa=>.d<|.cf<|.sk<|.s<|.s<|.g<|.r 1<|RG.Lb 1 Z<|.r 1<|.eq (ix.names.length:Int) 6 (fun ab=>.d<|.ct<|.s<|.g<|.r 1<|RG.Lb 1 Z<|RG.CS (CB ix.names (Z.a 2) (by exact p0.nm) (by exact p1)) Z fun aq ar ax ay w Z=>RG.Ss 0 Z fun w Z=>.r 2<|.d<|T.r3 func118 results118 (.B 0 Z) (.t (vI 0)) (.t (.bool false)) ⟨⟨_,(Kk rfl (congrArg (Value.int .i64) (by (rw [J3 p0 ‹_› ‹_› ‹_›]; done))) (AG (by (rw [J3 p0 ‹_› ‹_› ‹_›]; done)))),Z.rS (g:=1) (idxOf ix.names) [0,1] (by (rw [J3 p0 ‹_› ‹_› ‹_›]; done))⟩,Z.xt⟩) fun ab=>.d<|.cf<|.sk<|.s<|T.GS 12 [ac] Z fun _ w Z=>.r [0]<|GA.Lb 1 1 Z<|.r [3,7]<|GA.Lb 8 1 Z<|.r [9]<|GA.int (i:=10) ((ix.names.length:Int)+1) AA (by have:=p0.nm.len; omega)<|.tw 2 4 ?_ ?_
 ·exact GE.CO 1 (fun w Z=>Ae ix.names (Z.a 2) (by have:=p0.nm.len; omega) (fun n hn=>by have:=(p0.nm.sz n hn).1; omega)) Z fun az aA w Z=>.go 4<|GE.Nb 1 Z fun aB w Z=>.go 5<|GE.Ap (hs:=by exact (by have:=p0.nm.len; omega)) 0 0 ix.names n [0] [2] Z fun aC aD w Z=>.go 6<|GE.CS (fun w Z=>CB (ix.names++[n]) (Z.oa 0) (by exact NmI.ZG p0 ‹_› ‹_› ‹_›) (by exact p1.add p2)) Z fun aE aF aG aH w Z=>.go 11<|GE.Ss 1 [2] Z fun w Z=>GA.Do Z fun w Z=>.r 2<|.d<|T.r3 func118 results118 (.B 1 Z) (.t (vI ((ix.names.length:Int)+1))) (.t (.bool true)) ⟨⟨_,(Kk rfl (congrArg (Value.int .i64) (by (rw [GL p0 ‹_› ‹_› ‹_›]; done))) (AG (by (rw [GL p0 ‹_› ‹_› ‹_›]; done)))),Z.rS (g:=1) (idxOf (ix.names++[n])) [0,1] (by (rw [GL p0 ‹_› ‹_› ‹_›]; done))⟩,Z.xt⟩
 exact GE.Nb 1 Z fun aI w Z=>.go 2<|GE.CO 1 (fun w Z=>Ae ix.names (Z.a 2) (by have:=p0.nm.len; omega) (fun n hn=>by have:=(p0.nm.sz n hn).1; omega)) Z fun aJ aK w Z=>.go 5<|GE.Ap (hs:=by exact (by have:=p0.nm.len; omega)) 0 1 ix.names n [0] [2] Z fun aL aM w Z=>.go 6<|GE.CS (fun w Z=>CB (ix.names++[n]) (Z.oa 0) (by exact NmI.ZG p0 ‹_› ‹_› ‹_›) (by exact p1.add p2)) Z fun aN aO aP aQ w Z=>.go 11<|GE.Ss 1 [2] Z fun w Z=>GA.Do Z fun w Z=>.r 2<|.d<|T.r3 func118 results118 (.B 1 Z) (.t (vI ((ix.names.length:Int)+1))) (.t (.bool true)) ⟨⟨_,(Kk rfl (congrArg (Value.int .i64) (by (rw [GL p0 ‹_› ‹_› ‹_›]; done))) (AG (by (rw [GL p0 ‹_› ‹_› ‹_›]; done)))),Z.rS (g:=1) (idxOf (ix.names++[n])) [0,1] (by (rw [GL p0 ‹_› ‹_› ‹_›]; done))⟩,Z.xt⟩
theorem Fs (s:Sto) (h1:RepS w F a1 n1 c1 s.idx.names) (h2:RepS w F a2 n2 c2 s.idx.AY) (h3:RepS w F a3 n3 c3 s.parts) (h4:RepS w F a4 n4 c4 s.mem) (p0:NmI s.idx.names) (p1:NsD s.idx.names) (p2:My s):Calls Tryz.prog 29 [.agg #[.slice a1 n1 c1,.slice a2 n2 c2,.slice a3 n3 c3,.slice a4 n4 c4]].toArray w (Am fun rv w'=>(∃ (a0:Option Addr) (n0 c0:Nat) (a1:Option Addr) (n1 c1:Nat) (a2:Option Addr) (n2 c2:Nat) (r3 n3 c3:Nat),rv=.agg #[.slice a0 n0 c0,.slice a1 n1 c1,.slice a2 n2 c2,.slice (some ⟨r3,0,none⟩) n3 c3]∧RepS w' (nin (ge w.heap.size) [r3]) a0 n0 c0 ((((Ah s)).idx).names)∧RepS w' (nin (ge w.heap.size) [r3]) a1 n1 c1 ((((Ah s)).idx).AY)∧RepS w' (nin (ge w.heap.size) [r3]) a2 n2 c2 (((Ah s)).parts)∧Own w' r3 106 (nin (ge w.heap.size) [r3]) n3 c3 (((Ah s)).mem)∧w.heap.size≤r3)∧Ext w w'):=by
 cases h1.len
 cases h2.len
 cases h3.len
 cases h4.len
 refine goT func29 ?_
 have Z:=((((St.i0 F w).p h1).p h2).p h3).p h4
 have aH:=h3.max
 have aI:=h4.max
 refine .s<|.g<|RG.Np Z fun af w Z=>RG.Np Z fun ag w Z=>.d<|.s<|T.GS 10 [ag,af] Z fun _ w Z=>.r [0,1]<|GA.Lb (q:=1) 2 1 Z<|.r [4]<|GA.Lb (q:=1) 5 1 Z<|.r [8]<|GA.Lb (q:=1) 9 1 Z<|.tw 3 7 ?_ ?_
 ·refine GE.CS (fun w Z=>CB s.idx.names (Z.a 3) p0 p1) Z fun aa ab ac ae w Z=>.tw 6 7 ?_ ?_
  ·refine GE.CO 0 (fun w Z=>CK s.parts (Z.a 3) (by have:=p2.2.1; omega) p2.2.2.1) Z fun ah ai w Z=>.go 7<|GE.N0 Smp 0 Z fun aJ w Z=>GA.Do Z fun w Z=>RG.An (hs:=by (simp only [List.nil_append,List.length_nil,List.length_append,List.length_cons] <;> exact (by have:=p2.2.2.2; omega))) (hf:=.inr Ev) 0 2 ([]:List Smp) s.mem Z fun aj ak w Z=>.r 1<|RG.Ss 2 Z fun w Z=>.d ?_
   have Z:=Z.sl 1
   exact T.Rb 1 func29 results29 Z ⟨⟨aa,((idxOf s.idx.names).names.length),ab,ac,((idxOf s.idx.names).AY.length),ae,(some ⟨ah,0,none⟩),s.parts.length,ai,aj,(([]++s.mem).length),ak,AA,Z.qr [0] 1 ((idxOf s.idx.names).names) AF,Z.qr [0] 2 ((idxOf s.idx.names).AY) AF,Z.qr [0] 0 s.parts AF,Z.qo [0] 0 ([]++s.mem) AF,Z.qb 0⟩,Z.xt⟩
  refine GE.N0 Smp 0 Z fun aK w Z=>.go 6<|GE.CO 0 (fun w Z=>CK s.parts (Z.a 3) (by have:=p2.2.1; omega) p2.2.2.1) Z fun am ao w Z=>GA.Do Z fun w Z=>RG.An (hs:=by (simp only [List.nil_append,List.length_nil,List.length_append,List.length_cons] <;> exact (by have:=p2.2.2.2; omega))) (hf:=.inr Ev) 1 2 ([]:List Smp) s.mem Z fun aq ar w Z=>.r 1<|RG.Ss 2 Z fun w Z=>.d ?_
  have Z:=Z.sl 0
  exact T.Rb 1 func29 results29 Z ⟨⟨aa,((idxOf s.idx.names).names.length),ab,ac,((idxOf s.idx.names).AY.length),ae,(some ⟨am,0,none⟩),s.parts.length,ao,aq,(([]++s.mem).length),ar,AA,Z.qr [0] 1 ((idxOf s.idx.names).names) AF,Z.qr [0] 2 ((idxOf s.idx.names).AY) AF,Z.qr [0] 0 s.parts AF,Z.qo [0] 0 ([]++s.mem) AF,Z.qb 0⟩,Z.xt⟩
 refine GE.N0 Smp 0 Z fun aL w Z=>.go 3<|GE.CS (fun w Z=>CB s.idx.names (Z.a 3) p0 p1) Z fun ax ay az aA w Z=>.go 6<|GE.CO 0 (fun w Z=>CK s.parts (Z.a 3) (by have:=p2.2.1; omega) p2.2.2.1) Z fun aB aC w Z=>GA.Do Z fun w Z=>RG.An (hs:=by (simp only [List.nil_append,List.length_nil,List.length_append,List.length_cons] <;> exact (by have:=p2.2.2.2; omega))) (hf:=.inr Ev) 1 2 ([]:List Smp) s.mem Z fun aD aE w Z=>.r 1<|RG.Ss 2 Z fun w Z=>.d ?_
 have Z:=Z.sl 0
 exact T.Rb 1 func29 results29 Z ⟨⟨ax,((idxOf s.idx.names).names.length),ay,az,((idxOf s.idx.names).AY.length),aA,(some ⟨aB,0,none⟩),s.parts.length,aC,aD,(([]++s.mem).length),aE,AA,Z.qr [0] 1 ((idxOf s.idx.names).names) AF,Z.qr [0] 2 ((idxOf s.idx.names).AY) AF,Z.qr [0] 0 s.parts AF,Z.qo [0] 0 ([]++s.mem) AF,Z.qb 0⟩,Z.xt⟩
theorem G1 (s:Sto) (n:List Tag) (r:Row) (h1:RepS w F a1 n1 c1 s.idx.names) (h2:RepS w F a2 n2 c2 s.idx.AY) (h3:RepS w F a3 n3 c3 s.parts) (h4:RepS w F a4 n4 c4 s.mem) (h5:RepS w F a5 n5 c5 n) (p0:SD s) (p1:NmD n):Calls Tryz.prog 68 [.agg #[.slice a1 n1 c1,.slice a2 n2 c2,.slice a3 n3 c3,.slice a4 n4 c4],.slice a5 n5 c5,.agg #[.int .i64 r.t,.int .i64 r.v]].toArray w (Am fun rv w'=>(∃ v0,rv=.tuple #[v0,.bool ((BX s n r).2)]∧VS (fo F w.heap.size) w' ((BX s n r).1:Sto) v0)∧Ext w w'):=by
 cases h1.len
 cases h2.len
 cases h3.len
 cases h4.len
 cases h5.len
 refine goT func68 ?_
 have Z:=(((((St.i0 F w).p h1).p h2).p h3).p h4).p h5
 have aR:=h4.max
 refine .s<|.g<|RG.Np Z fun aX w Z=>RG.Np Z fun aY w Z=>RG.Np Z fun aZ w Z=>.r 1<|.d<|.s<|.s<|.g<|RG.Ln 2 Z<|RG.C0 (EO s (Z.a 4) (Z.a 3) (Z.a 2) (Z.a 1) p0) Z fun w Z=>?_
 cases aT:(Aa s)
 ·refine .r 6<|.d<|.ct<|.s<|.g<|.r 1<|RG.Ss 0 Z fun w Z=>.r 1<|.d ?_
  have Z:=(((Z.nl (List Tag)).nl Pst).nl Prt).nl Smp
  exact T.r2 func68 results68 (.B 0 Z) (.t (.bool false)) ⟨⟨_,(Be rfl (AG (by exact (congrArg Prod.snd (LC (.inl ‹_›))).symm))),Z.rS (g:=1) (⟨(⟨([]:List (List Tag)),([]:List Pst)⟩:Idx),([]:List Prt),([]:List Smp)⟩:Sto) [3,2,1,0] (by exact (congrArg Prod.fst (LC (.inl ‹_›))).symm)⟩,Z.xt⟩
 refine .r 3<|RG.C0 (De n (Z.a 0)) Z fun w Z=>?_
 cases aU:(Ao n)
 ·refine .r 2<|.d<|.ct<|.s<|.g<|.r 1<|RG.Ss 0 Z fun w Z=>.r 1<|.d ?_
  have Z:=(((Z.nl (List Tag)).nl Pst).nl Prt).nl Smp
  exact T.r2 func68 results68 (.B 0 Z) (.t (.bool false)) ⟨⟨_,(Be rfl (AG (by exact (congrArg Prod.snd (LC (.inr ‹_›))).symm))),Z.rS (g:=1) (⟨(⟨([]:List (List Tag)),([]:List Pst)⟩:Idx),([]:List Prt),([]:List Smp)⟩:Sto) [3,2,1,0] (by exact (congrArg Prod.fst (LC (.inr ‹_›))).symm)⟩,Z.xt⟩
 refine .r 2<|.d<|.cf<|.sk<|.s<|.g<|RG.Ln 2 Z<|RG.cl (Fs s (Z.a 4) (Z.a 3) (Z.a 2) (Z.a 1) p0.nm p0.nd p0.sz) ?_
 rintro _ w ⟨⟨ay,ba,az,aA,bd,aB,aC,bg,aD,aE,bh,aF,rfl,ac,ae,af,aa,ag⟩,ah⟩
 cases ac.len
 cases ae.len
 cases af.len
 cases aa.len
 have Z:=Z.so ah [.own 0 aE 106 aF (((Ah s)).mem)] [.rep ay az ((((Ah s)).idx).names),.rep aA aB ((((Ah s)).idx).AY),.rep aC aD (((Ah s)).parts)] nd1 (oN aa ag o0) (fc ac (fc ae (fc af fn_)))
 refine RG.Np Z fun bi w Z=>RG.Ss 0 Z fun w Z=>.d<|.s<|.g<|.r 1<|RG.Ln 4 Z<|.r 1<|RG.CT (us:=[vI ((CR s.idx n).2.1),.bool ((CR s.idx n).2.2)]) (Kt s.idx n (Z.mg 1 7) (Z.mg 1 6) (Z.mg 1 3) p0.ix p0.nd p1) Z fun bj bk bm bn w Z=>.r 3 ?_
 cases aV:(CR s.idx n).2.2
 ·refine .r 1<|RG.Np Z fun bo w Z=>RG.Ss 0 Z fun w Z=>.r 2<|.d<|.s<|.s<|.g<|.r 13<|.d<|.ct<|.s<|.g<|RG.Ln 1 Z<|RG.Ss 3 Z fun w Z=>.r 1<|.d ?_
  have Z:=Z.sl 2
  exact T.r2 func68 results68 (.B 2 Z) (.t (.bool false)) ⟨⟨_,(Be rfl (AG (by exact (congrArg Prod.snd (Ts p0 ‹_› ‹_› ‹_›)).symm))),Z.rS (g:=1) (⟨(⟨(((Ah s)).idx).names,(((Ah s)).idx).AY⟩:Idx),((Ah s)).parts,((Ah s)).mem⟩:Sto) [3,4,5,0] (by exact (congrArg Prod.fst (Ts p0 ‹_› ‹_› ‹_›)).symm)⟩,Z.xt⟩
 refine .r 1<|RG.Np Z fun bq w Z=>RG.Ss 0 Z fun w Z=>.r 2<|.d<|.s<|.s<|.g<|.r 3<|RG.Ln 4 Z<|RG.C0 (Gc r (F:=all)) Z fun w Z=>?_
 cases aW:(BZ r)
 ·refine .r 8<|.d<|.ct<|.s<|.g<|RG.Ln 1 Z<|RG.Ss 3 Z fun w Z=>.r 1<|.d ?_
  have Z:=Z.sl 2
  exact T.r2 func68 results68 (.B 2 Z) (.t (.bool false)) ⟨⟨_,(Be rfl (AG (by exact (congrArg Prod.snd (Tt p0 ‹_› ‹_› ‹_›)).symm))),Z.rS (g:=1) (⟨(⟨(((Ah s)).idx).names,(((Ah s)).idx).AY⟩:Idx),((Ah s)).parts,((Ah s)).mem⟩:Sto) [3,4,5,0] (by exact (congrArg Prod.fst (Tt p0 ‹_› ‹_› ‹_›)).symm)⟩,Z.xt⟩
 refine .r 4<|RG.Lb 5 Z<|.r 1<|.eq (s.mem.length:Int) 20 (fun ai=>?_) (fun ai=>?_)
 ·refine .r 1<|.d<|.ct<|.s<|.g<|RG.Ln 1 Z<|RG.Ss 3 Z fun w Z=>.r 1<|.d ?_
  have Z:=Z.sl 2
  exact T.r2 func68 results68 (.B 2 Z) (.t (.bool false)) ⟨⟨_,(Be rfl (AG (by exact (congrArg Prod.snd (Tu p0 ‹_› ‹_› ‹_›)).symm))),Z.rS (g:=1) (⟨(⟨(((Ah s)).idx).names,(((Ah s)).idx).AY⟩:Idx),((Ah s)).parts,((Ah s)).mem⟩:Sto) [3,4,5,0] (by exact (congrArg Prod.fst (Tu p0 ‹_› ‹_› ‹_›)).symm)⟩,Z.xt⟩
 refine .r 1<|.d<|.cf<|.sk<|.s<|.g<|RG.Ln 0 Z<|.r 1<|RG.Ss 1 Z fun w Z=>.d<|.s<|.g<|.r 1<|RG.Lb 1 Z<|.r 1<|RG.Ln 4 Z<|.r 1<|RG.Nb 1 Z fun br w Z=>RG.Ap (hs:=by exact (by have q1:=p0.nm2; have q2:(Ah s).mem.length=s.mem.length:=rfl; omega)) 2 0 (((Ah s)).mem) (⟨(CR s.idx n).2.1,(⟨r.t,r.v⟩:Row)⟩:Smp) [] Z fun bv bw w Z=>.r 1<|RG.Ss 1 Z fun w Z=>.d<|.s<|.s<|.g<|RG.Ln 1 Z<|.r 1<|RG.CL (DK (⟨(⟨(CR s.idx n).1.names,((CR s.idx n).1).AY⟩:Idx),((Ah s)).parts,(((Ah s)).mem++[(⟨(CR s.idx n).2.1,(⟨r.t,r.v⟩:Row)⟩:Smp)])⟩:Sto) ((CR s.idx n).2.1) (Z.a 0) (Z.a 1) (Z.a 4) (Z.oa 2) (by exact (StoK.of p0 ‹_›).part) (V8 (StoK.of p0 ‹_›) ‹_›) (by have q1:=p0.np; exact Nat.le_trans q1 AB) (by have q1:=p0.nm2; simp only [Ah,List.length_append,List.length_cons,List.length_nil]; omega)) Z fun bz bA w Z=>.r 1<|.bp ((((rowsOf (⟨(⟨(CR s.idx n).1.names,((CR s.idx n).1).AY⟩:Idx),((Ah s)).parts,(((Ah s)).mem++[(⟨(CR s.idx n).2.1,(⟨r.t,r.v⟩:Row)⟩:Smp)])⟩:Sto) ((CR s.idx n).2.1)).length):Int) > 24) (fun aj=>?_) (fun aj=>?_)
 ·refine .d<|.ct<|.s<|.g<|RG.Ln 5 Z<|RG.cl (Fs s (Z.a 10) (Z.a 9) (Z.a 8) (Z.a 7) p0.nm p0.nd p0.sz) ?_
  rintro _ w ⟨⟨aG,bB,aH,aI,bC,aJ,aK,bD,aL,aM,bE,aN,rfl,ak,am,ao,ab,aq⟩,ar⟩
  cases ak.len
  cases am.len
  cases ao.len
  cases ab.len
  have Z:=Z.so ar [.own 0 aM 106 aN (((Ah s)).mem)] [.rep aG aH ((((Ah s)).idx).names),.rep aI aJ ((((Ah s)).idx).AY),.rep aK aL (((Ah s)).parts)] nd1 (oN ab aq o0) (fc ak (fc am (fc ao fn_)))
  refine RG.Ss 4 Z fun w Z=>.r 1<|.d ?_
  have Z:=Z.sl 0
  exact T.r2 func68 results68 (.B 3 Z) (.t (.bool false)) ⟨⟨_,(Be rfl (AG (by exact (congrArg Prod.snd (Tv p0 ‹_› ‹_› ‹_› ‹_› ‹_› ‹_›)).symm))),Z.rS (g:=1) (⟨(⟨(((Ah s)).idx).names,(((Ah s)).idx).AY⟩:Idx),((Ah s)).parts,((Ah s)).mem⟩:Sto) [1,2,3,0] (by exact (congrArg Prod.fst (Tv p0 ‹_› ‹_› ‹_› ‹_› ‹_› ‹_›)).symm)⟩,Z.xt⟩
 refine .d<|.cf<|.sk<|.s<|.g<|RG.Ln 1 Z<|RG.Ss 3 Z fun w Z=>.r 1<|.d ?_
 have Z:=Z.sl 2
 exact T.r2 func68 results68 (.B 2 Z) (.t (.bool true)) ⟨⟨_,(Be rfl (AG (by exact (congrArg Prod.snd (Tw p0 ‹_› ‹_› ‹_› ‹_› ‹_› ‹_›)).symm))),Z.rS (g:=1) (⟨(⟨(CR s.idx n).1.names,((CR s.idx n).1).AY⟩:Idx),((Ah s)).parts,(((Ah s)).mem++[(⟨(CR s.idx n).2.1,(⟨r.t,r.v⟩:Row)⟩:Smp)])⟩:Sto) [2,3,6,0] (by exact (congrArg Prod.fst (Tw p0 ‹_› ‹_› ‹_› ‹_› ‹_› ‹_›)).symm)⟩,Z.xt⟩
end Go.Proofs.YtfninflnngpchaaGreatDoor
namespace Go.Proofs.YtfninflnngpchaaGreatDoor
def look (t:Int) (b:List Row):Option Row:=b.find? (fun r=>r.t==t)
theorem T1 (t:Int):look t []=none:=rfl
theorem Bc (t:Int) (r:Row) (b:List Row):look t (r::b)=if r.t=t then some r else look t b:=by
 unfold look
 rw [List.find?_cons]
 by_cases h:r.t=t
 ·simp [h]
 ·have:(r.t==t)=false:=beq_eq_false_iff_ne.2 h
  rw [this,if_neg h]
theorem O8 (t:Int) (r:Row):∀ (b:List Row),look t (DU r b)=if r.t=t then some r else look t b:=by
 intro b
 induction b with
 | nil=>unfold DU; rw [Bc]
 | cons x xs ih =>
   unfold DU
   by_cases h1:r.t< x.t
   ·rw [if_pos h1,Bc]
   ·rw [if_neg h1]
    by_cases h2:r.t=x.t
    ·rw [if_pos h2,Bc,Bc]
     by_cases h:r.t=t
     ·rw [if_pos h,if_pos h]
     ·rw [if_neg h,if_neg h,if_neg AB]
    ·rw [if_neg h2,Bc,ih,Bc]
     by_cases h:r.t=t
     ·rw [if_pos h,if_neg AB,if_pos h]
     ·rw [if_neg h,if_neg h]
theorem Blk.tl {r:Row}{b:List Row}(h:Blk (r::b)):Blk b∧BZ r=true∧∀ q∈b,r.t< q.t:=by
 obtain ⟨h1,_,h3⟩:=Bb.1 h
 exact ⟨Ou h3,h1,Mz b r h3⟩
theorem J5 {t:Int}:∀ {b:List Row},(∀ q∈b,t≠q.t)→look t b=none:=by
 intro b
 induction b with
 | nil=>intro _; rfl
 | cons x xs ih =>
   intro h
   rw [Bc,if_neg (fun e=>h x AD e.symm)]
   exact ih (fun q hq=>h q (by simp [hq]))
theorem J6 {t:Int}{q:Row}:∀ {b:List Row},look t b=some q→q.t=t∧q∈b:=by
 intro b h
 have h1:=List.find?_some h
 exact ⟨by simpa using h1,List.mem_of_find?_eq_some h⟩
theorem Cj (t:Int):∀ {b:List Row}(o:List Row),Blk o→Blk b→look t (Bf o b)=(look t b).or (look t o):=by
 intro b
 induction b with
 | nil=>intro o _ _; rfl
 | cons x xs ih =>
   intro o ho hb
   obtain ⟨h1,h2,h3⟩:=hb.tl
   have e:Bf o (x::xs)=Bf (Eb o x) xs:=rfl
   rw [e,ih _ (ho.put h2) h1,GH ho,O8,Bc]
   by_cases h:x.t=t
   ·rw [if_pos h,if_pos h,J5 (fun q hq=>by have:=h3 q hq; omega)]
    rfl
   ·rw [if_neg h,if_neg h]
theorem L0:∀ {a b:List Row},Blk a→Blk b→(∀ t,look t a=look t b)→a=b:=by
 intro a
 induction a with
 | nil =>
   intro b _ _ h
   cases b with
   | nil=>rfl
   | cons y ys =>
     have:=h y.t
     rw [Bc,if_pos rfl] at this
     cases this
 | cons x xs ih =>
   intro b ha hb h
   cases b with
   | nil =>
     have:=h x.t
     rw [Bc,if_pos rfl] at this
     cases this
   | cons y ys =>
     obtain ⟨a1,_,a3⟩:=ha.tl
     obtain ⟨b1,_,b3⟩:=hb.tl
     have hx:=h x.t
     have hy:=h y.t
     rw [Bc,if_pos rfl,Bc] at hx
     rw [Bc,Bc,if_pos rfl] at hy
     by_cases e:x.t=y.t
     ·rw [if_pos e.symm] at hx
      cases hx
      congr 1
      refine ih a1 b1 (fun t=>?_)
      have ht:=h t
      rw [Bc,Bc] at ht
      by_cases e2:x.t=t
      ·rw [J5 (fun q hq=>by have:=a3 q hq; omega),J5 (fun q hq=>by have:=b3 q hq; omega)]
      ·rw [if_neg e2,if_neg e2] at ht
       exact ht
     ·rw [if_neg (fun e2=>e e2.symm)] at hx
      rw [if_neg e] at hy
      have h1:=b3 x (J6 hx.symm).2
      have h2:=a3 y (J6 hy).2
      omega
theorem OC:∀ {b a:List Row},Blk a→Blk b→(∀ t,(look t a).isSome=true→(look t b).isSome=true)→a.length≤b.length:=by
 intro b
 induction b with
 | nil =>
   intro a _ _ h
   cases a with
   | nil=>exact Nat.le_refl _
   | cons x xs =>
     have:=h x.t (by rw [Bc,if_pos rfl]; rfl)
     cases this
 | cons y ys ih =>
   intro a ha hb h
   obtain ⟨b1,_,b3⟩:=hb.tl
   cases a with
   | nil=>simp
   | cons x xs =>
     obtain ⟨a1,_,a3⟩:=ha.tl
     have hx:=h x.t (by rw [Bc,if_pos rfl]; rfl)
     rw [Bc] at hx
     by_cases e:y.t=x.t
     ·simp only [List.length_cons]
      refine Nat.succ_le_succ (ih a1 b1 (fun t ht=>?_))
      obtain ⟨q,hq⟩:=Option.isSome_iff_exists.1 ht
      have hq2:=J6 hq
      have h4:=a3 q hq2.2
      have h5:=h t (by rw [Bc,if_neg AB]; exact ht)
      rw [Bc,if_neg AB] at h5
      exact h5
     ·rw [if_neg e] at hx
      obtain ⟨q,hq⟩:=Option.isSome_iff_exists.1 hx
      have hq2:=J6 hq
      have h4:=b3 q hq2.2
      refine Nat.le_succ_of_le (ih ha b1 (fun t ht=>?_))
      obtain ⟨u,hu⟩:=Option.isSome_iff_exists.1 ht
      have hu2:=J6 hu
      have h6:x.t≤u.t:=by
       rcases List.mem_cons.1 hu2.2 with e2 | hm
       ·rw [e2]; exact Int.le_refl _
       ·have:=a3 u hm; omega
      have h5:=h t ht
      rw [Bc,if_neg AB] at h5
      exact h5
theorem OD {a b c:List Row}(ha:Blk a) (hb:Blk b) (hc:Blk c):Bf (Bf a b) c=Bf a (Bf b c) :=
 L0 ((ha.merge hb).merge hc) (ha.merge (hb.merge hc)) (fun t=>by
  rw [Cj t _ (ha.merge hb) hc,Cj t _ ha hb,Cj t _ ha (hb.merge hc),Cj t _ hb hc,Option.or_assoc])
theorem L1 (a:List Row):Bf a []=a:=rfl
theorem L2 {a:List Row}(h:Blk a):Bf [] a=a:=L0 (Blk.nil.merge h) h (fun t=>by rw [Cj t _ Blk.nil h,T1]; simp)
theorem T3 (id:Int):∀ (bs:List (List Row)) (i:Nat),Bd id (BM i bs).1 (BM i bs).2=if (i:Int)+1≤id then bs.getD (id - i - 1).toNat [] else []:=by
 intro bs
 induction bs with
 | nil=>intro i; simp [BM,Bd]
 | cons b bs ih =>
   intro i
   have h1:=ih (i+1)
   unfold BM
   by_cases hb:b.length > 0
   ·rw [if_pos hb]
    unfold Bd
    by_cases he:(i:Int)+1=id
    ·rw [if_pos (by simpa using he),if_pos AB,show (id - i - 1).toNat=0 by omega]
     rfl
    ·rw [if_neg (by simpa using he),h1]
     by_cases h2:(i:Int)+1≤id
     ·rw [if_pos AB,if_pos h2,show (id - i - 1).toNat=(id - (i+1:Nat) - 1).toNat+1 by omega]
      rfl
     ·rw [if_neg AB,if_neg h2]
   ·rw [if_neg hb,h1]
    have:b=[]:=List.length_eq_zero_iff.1 AB
    subst this
    by_cases h2:(i:Int)+1≤id
    ·rw [if_pos h2]
     by_cases he:(i:Int)+1=id
     ·rw [if_neg AB,show (id - i - 1).toNat=0 by omega]
      rfl
     ·rw [if_pos AB,show (id - i - 1).toNat=(id - (i+1:Nat) - 1).toNat+1 by omega]
      rfl
    ·rw [if_neg AB,if_neg h2]
theorem O9 (bs:List (List Row)){id:Int}(h:1≤id):partOf (EF bs) id=bs.getD (id - 1).toNat []:=by
 unfold partOf EF
 have:=T3 id bs 0
 rw [if_pos AB] at this
 rw [this,show (id - (0:Nat) - 1)=id - 1 by omega]
theorem DX:∀ (bs:List (List Row)) (i:Nat) (b:List Row),BM i (bs++[b])=if b.length > 0 then ((BM i bs).1++[(i:Int)+bs.length+1],(BM i bs).2++[b]) else BM i bs:=by
 intro bs
 induction bs with
 | nil=>intro i b; simp [BM]
 | cons x xs ih =>
   intro i b
   rw [List.cons_append]
   have h1:=ih (i+1) b
   unfold BM
   rw [h1]
   by_cases hb:b.length > 0
   ·rw [if_pos hb,if_pos hb]
    simp only [List.length_cons]
    split <;> simp <;> omega
   ·rw [if_neg hb,if_neg hb]
def Ed (mem:List Smp):Sto:=⟨⟨[],[]⟩,[],mem⟩
def Dd (mem:List Smp) (n:Nat):List (List Row):=(List.range n).map (fun (i:Nat)=>rowsOf (Ed mem) ((i:Int)+1))
theorem HU (mem:List Smp) (n:Nat):(Dd mem n).length=n:=by simp [Dd]
theorem SQ (mem:List Smp) (n:Nat):Dd mem (n+1)=Dd mem n++[rowsOf (Ed mem) ((n:Int)+1)]:=by simp [Dd,List.range_succ]
theorem SR (mem:List Smp) (m:Smp) (h:1≤m.id∧m.id≤6):Dd (mem++[m]) 6=G6 (Dd mem 6) m:=by
 have key:∀ id:Int,rowsOf (Ed (mem++[m])) id=Cb id (rowsOf (Ed mem) id) m:=fun id=>by
  unfold rowsOf Ed
  simp only [List.foldl_append,List.foldl_cons,List.foldl_nil]
 refine List.ext_getElem? (fun i=>?_)
 unfold G6
 rw [List.getElem?_set]
 by_cases hi:i< 6
 ·have e:∀ mem:List Smp,(Dd mem 6)[i]? = some (rowsOf (Ed mem) ((i:Int)+1)):=fun mem=>by unfold Dd; rw [List.getElem?_map,List.getElem?_range hi]; rfl
  rw [e,key]
  by_cases h2:(m.id - 1).toNat=i
  ·rw [if_pos h2,if_pos (by rw [HU]; omega),List.getD_eq_getElem?_getD,h2,e]
   unfold Cb
   rw [if_pos (by simp; omega)]
   rfl
  ·rw [if_neg h2,e]
   unfold Cb
   rw [if_neg (by simp; omega)]
 ·rw [List.getElem?_eq_none (by rw [HU]; omega),if_neg AB,List.getElem?_eq_none (by rw [HU]; omega)]
theorem WA {mem:List Smp}(h:∀ m∈mem,1≤m.id∧m.id≤6):mem.foldl G6 [[],[],[],[],[],[]]=Dd mem 6:=by
 have key:∀ (ms pre:List Smp),(∀ m∈ms,1≤m.id∧m.id≤6)→ms.foldl G6 (Dd pre 6)=Dd (pre++ms) 6:=by
  intro ms
  induction ms with
  | nil=>intro pre _; simp
  | cons m ms ih =>
    intro pre h
    rw [List.foldl_cons,← SR pre m (h m AD),ih (pre++[m]) (fun q hq=>h q (by simp [hq]))]
    simp
 have:=key mem [] h
 rw [List.nil_append] at this
 rw [← this]
 rfl
theorem Ib {mem:List Smp}(h:∀ m∈mem,1≤m.id∧m.id≤6):Ai mem=EF (Dd mem 6):=by unfold Ai; rw [WA h]
theorem QO {mem:List Smp}(h:∀ m∈mem,1≤m.id∧m.id≤6){id:Int}(h1:1≤id) (h2:id≤6):partOf (Ai mem) id=rowsOf (Ed mem) id:=by
 rw [Ib h,O9 _ h1,List.getD_eq_getElem?_getD]
 unfold Dd
 rw [List.getElem?_map,List.getElem?_range AB]
 simp only [Option.map_some,Option.getD_some]
 rw [show (((id - 1).toNat:Nat):Int)+1=id by omega]
def JD (t id:Int) (mem:List Smp) (x:Option Row):Option Row:=mem.foldl (fun acc m=>if m.id=id∧m.row.t=t then some m.row else acc) x
theorem T4 (t id:Int):∀ (mem:List Smp) (x:Option Row),JD t id mem x=(JD t id mem none).or x:=by
 intro mem
 induction mem with
 | nil=>intro x; rfl
 | cons m ms ih =>
   intro x
   unfold JD at ih ⊢
   rw [List.foldl_cons,List.foldl_cons]
   by_cases h:m.id=id∧m.row.t=t
   ·rw [if_pos h,if_pos h,ih (some m.row)]
    cases List.foldl (fun acc m=>if m.id=id∧m.row.t=t then some m.row else acc) none ms <;> rfl
   ·rw [if_neg h,if_neg h,ih x]
theorem EP (t id:Int):∀ (mem:List Smp) (o:List Row),(∀ m∈mem,BZ m.row=true)→Blk o→look t (mem.foldl (Cb id) o)=JD t id mem (look t o)∧Blk (mem.foldl (Cb id) o):=by
 intro mem
 induction mem with
 | nil=>intro o _ ho; exact ⟨rfl,ho⟩
 | cons m ms ih =>
   intro o h ho
   have h1:Blk (Cb id o m):=by
    unfold Cb
    split
    ·exact ho.put (h m AD)
    ·exact ho
   obtain ⟨h2,h3⟩:=ih (Cb id o m) (fun q hq=>h q (by simp [hq])) h1
   refine ⟨?_,h3⟩
   rw [List.foldl_cons,h2]
   unfold JD
   rw [List.foldl_cons]
   congr 1
   by_cases hid:m.id=id
   ·rw [Jv hid ho,O8]
    by_cases ht:m.row.t=t
    ·rw [if_pos ht,if_pos ⟨hid,ht⟩]
    ·rw [if_neg ht,if_neg (fun e=>ht e.2)]
   ·rw [GJ hid,if_neg (fun e=>hid e.1)]
theorem mem_merge {id:Int}{mem:List Smp}{o:List Row}(h:∀ m∈mem,BZ m.row=true) (ho:Blk o):mem.foldl (Cb id) o=Bf o (rowsOf (Ed mem) id):=by
 have a:=fun t=>(EP t id mem o h ho).1
 have b:=fun t=>(EP t id mem [] h Blk.nil).1
 have bb:Blk (rowsOf (Ed mem) id):=(EP 0 id mem [] h Blk.nil).2
 refine L0 (EP 0 id mem o h ho).2 (ho.merge bb) (fun t=>?_)
 rw [a,Cj t _ ho bb]
 have e:look t (rowsOf (Ed mem) id)=JD t id mem none:=b t
 rw [e,← T4]
def Cz (s:Sto):Sto:=⟨s.idx,s.parts++[Ai s.mem],[]⟩
theorem GM {id:Int}:∀ {ps:List Prt}{o:List Row},(∀ p∈ps,PrtI p)→Blk o→Blk (ps.foldl (Bv id) o):=by
 intro ps
 induction ps with
 | nil=>intro o _ ho; exact ho
 | cons p ps ih=>intro o hp ho; exact ih (fun q hq=>hp q (by simp [hq])) (ho.merge ((hp p AD).of id))
theorem Ic {s:Sto}(h:StoK s){id:Int}(h1:1≤id) (h2:id≤6):rowsOf (Cz s) id=rowsOf s id:=by
 unfold rowsOf Cz
 simp only [List.foldl_append,List.foldl_cons,List.foldl_nil]
 have hb:Blk (s.parts.foldl (Bv id) []):=GM h.sd.part Blk.nil
 rw [mem_merge h.row hb]
 unfold Bv
 rw [QO h.J4.Jk h1 h2]
theorem RE {s:Sto}(h:StoK s) (id t:Int):((look t (s.parts.foldl (Bv id) [])).isSome=true∨(look t (rowsOf (Ed s.mem) id)).isSome=true)→(look t (rowsOf s id)).isSome=true:=by
 intro h1
 have hb:Blk (s.parts.foldl (Bv id) []):=GM h.sd.part Blk.nil
 have bb:Blk (rowsOf (Ed s.mem) id):=(EP 0 id s.mem [] h.row Blk.nil).2
 have e:rowsOf s id=Bf (s.parts.foldl (Bv id) []) (rowsOf (Ed s.mem) id):=mem_merge h.row hb
 rw [e,Cj t _ hb bb]
 rcases h1 with h1 | h1
 ·cases look t (rowsOf (Ed s.mem) id) with
  | none=>exact h1
  | some q=>rfl
 ·obtain ⟨q,hq⟩:=Option.isSome_iff_exists.1 h1
  rw [hq]; rfl
theorem WB {s:Sto}(h:StoK s){id:Int}(h24:(rowsOf s id).length≤24):(rowsOf (Ed s.mem) id).length≤24:=by
 have hb:Blk (s.parts.foldl (Bv id) []):=GM h.sd.part Blk.nil
 have bb:Blk (rowsOf (Ed s.mem) id):=(EP 0 id s.mem [] h.row Blk.nil).2
 have e:rowsOf s id=Bf (s.parts.foldl (Bv id) []) (rowsOf (Ed s.mem) id):=mem_merge h.row hb
 refine Nat.le_trans (OC bb (b:=rowsOf s id) ?_ (fun t ht=>RE h id t (.inr ht))) h24
 rw [e]
 exact hb.merge bb
theorem T5:∀ (bs:List (List Row)) (i:Nat) (o:Option Int),(∀ b∈bs,Blk b∧b.length≤24)→i+bs.length≤6→(∀ q,o=some q→q≤i)→Br o (BM i bs).1 (BM i bs).2=true:=by
 intro bs
 induction bs with
 | nil=>intro i o _ _ _; rfl
 | cons b bs ih =>
   intro i o h hl ho
   simp only [List.length_cons] at hl
   unfold BM
   by_cases hb:b.length > 0
   ·rw [if_pos hb]
    unfold Br
    have h1:=ih (i+1) (some ((i:Int)+1)) (fun x hx=>h x (by simp [hx])) AB (fun q hq=>by cases hq; omega)
    obtain ⟨h2,h3⟩:=h b AD
    have h4:Bi b=true:=by
     unfold Bi
     have h2':Ce none b=true:=h2
     rw [h2',Bool.true_and,decide_eq_true_eq]; exact h3
    rw [h1,h4,decide_eq_true hb]
    have h5:inR ((i:Int)+1) 1 6=true:=by unfold inR; simp; omega
    rw [h5]
    cases o with
    | none=>rfl
    | some q =>
      have:=ho q rfl
      simp
      omega
   ·rw [if_neg hb]
    exact ih (i+1) o (fun x hx=>h x (by simp [hx])) AB (fun q hq=>by have:=ho q hq; omega)
theorem PA {bs:List (List Row)}(h:∀ b∈bs,Blk b∧b.length≤24) (hl:bs.length≤6):Av (EF bs)=true:=by
 unfold Av
 have h1:=(M3 bs 0).1
 have h2:=T5 bs 0 none h AB AD
 have h3:Br none (EF bs).ids (EF bs).blocks=true:=h2
 have h4:(EF bs).ids.length=(EF bs).blocks.length:=h1
 rw [h3,decide_eq_true h4]
 rfl
theorem SS:∀ (bs:List (List Row)) (i:Nat) (x:Int),x∈(BM i bs).1→∃ k:Nat,x=(i:Int)+k+1∧∃ b,bs[k]? = some b∧0< b.length:=by
 intro bs
 induction bs with
 | nil=>intro i x h; simp [BM] at h
 | cons b bs ih =>
   intro i x h
   unfold BM at h
   by_cases hb:b.length > 0
   ·rw [if_pos hb] at h
    rcases List.mem_cons.1 h with rfl | h
    ·exact ⟨0,by simp,b,rfl,hb⟩
    ·obtain ⟨k,h1,c,h2,h3⟩:=ih (i+1) x h
     exact ⟨k+1,by rw [h1]; push_cast; omega,c,by simpa using h2,h3⟩
   ·rw [if_neg hb] at h
    obtain ⟨k,h1,c,h2,h3⟩:=ih (i+1) x h
    exact ⟨k+1,by rw [h1]; push_cast; omega,c,by simpa using h2,h3⟩
theorem QP:∀ (bs:List (List Row)) (i:Nat),(∃ b∈bs,0< b.length)→(BM i bs).1≠[]:=by
 intro bs
 induction bs with
 | nil=>rintro i ⟨b,hb,_⟩; cases hb
 | cons c bs ih =>
   rintro i ⟨b,hb,hl⟩
   unfold BM
   by_cases hc:c.length > 0
   ·rw [if_pos hc]; simp
   ·rw [if_neg hc]
    rcases List.mem_cons.1 hb with rfl | hb
    ·exact absurd hl hc
    ·exact ih (i+1) ⟨b,hb,hl⟩
theorem PB {bs:List (List Row)}{n:Nat}(h:∀ b∈bs,Blk b∧b.length≤24) (hl:bs.length≤6) (h1:∃ b∈bs,0< b.length) (h2:∀ k b,bs[k]? = some b→0< b.length→k< n):Bn (EF bs) n=true:=by
 unfold Bn
 rw [PA h hl,Bool.true_and]
 cases hx:(EF bs).ids.getLast? with
 | none=>exact absurd (List.getLast?_eq_none_iff.1 hx) (QP bs 0 h1)
 | some x =>
   obtain ⟨k,e,b,hb,hb2⟩:=SS bs 0 x (List.mem_of_getLast? hx)
   have:=h2 k b hb hb2
   simp
   omega
theorem T6 {mem:List Smp}(h:∀ m∈mem,1≤m.id∧m.id≤6∧BZ m.row=true) (hm:mem≠[]):∃ b∈Dd mem 6,0< b.length:=by
 obtain ⟨m,hl⟩:∃ m,m∈mem:=List.exists_mem_of_ne_nil mem hm
 have hid:=h m hl
 have hr:∀ m∈mem,BZ m.row=true:=fun m hm=>(h m hm).2.2
 refine ⟨rowsOf (Ed mem) m.id,?_,?_⟩
 ·unfold Dd
  refine List.mem_map.2 ⟨(m.id - 1).toNat,by simp; omega,?_⟩
  rw [show (((m.id - 1).toNat:Nat):Int)+1=m.id by omega]
 ·have h1:(look m.row.t (rowsOf (Ed mem) m.id)).isSome=true:=by
   have e:look m.row.t (rowsOf (Ed mem) m.id)=JD m.row.t m.id mem none:=(EP m.row.t m.id mem [] hr Blk.nil).1
   rw [e]
   have key:∀ (ms:List Smp) (x:Option Row),x.isSome=true∨m∈ms→(JD m.row.t m.id ms x).isSome=true:=by
    intro ms
    induction ms with
    | nil=>intro x hx; rcases hx with hx | hx; exact hx; cases hx
    | cons c cs ih =>
      intro x hx
      unfold JD at ih ⊢
      rw [List.foldl_cons]
      by_cases hc:c.id=m.id∧c.row.t=m.row.t
      ·rw [if_pos hc]; exact ih _ (.inl rfl)
      ·rw [if_neg hc]
       rcases hx with hx | hx
       ·exact ih _ (.inl hx)
       ·rcases List.mem_cons.1 hx with rfl | hx
        ·exact absurd ⟨rfl,rfl⟩ hc
        ·exact ih _ (.inr hx)
   exact key mem none (.inr hl)
  obtain ⟨q,hq⟩:=Option.isSome_iff_exists.1 h1
  exact List.length_pos_of_mem (J6 hq).2
theorem RF {s:Sto}(h:StoK s){id:Int}(hi:(s.idx.names.length:Int)< id):rowsOf (Ed s.mem) id=[]:=by
 have key:∀ (mem:List Smp) (o:List Row),(∀ m∈mem,m.id≠id)→mem.foldl (Cb id) o=o:=by
  intro mem
  induction mem with
  | nil=>intro o _; rfl
  | cons m ms ih =>
    intro o h
    rw [List.foldl_cons,GJ (h m AD)]
    exact ih o (fun x hx=>h x (by simp [hx]))
 exact key s.mem [] (fun m hm=>by have:=(h.id m hm).2; omega)
theorem JE {s:Sto}(h:SD s) (hk:Aa s=true) (h1:s.mem≠[]) (h2:s.parts.length< 6):Aa (Cz s)=true:=by
 have hK:=StoK.of h hk
 have hk2:=hk
 unfold Aa at hk2 ⊢
 simp only [AW,decide_eq_true_eq,List.all_eq_true,List.mem_range,E9] at hk2 ⊢
 obtain ⟨⟨⟨⟨a1,a2⟩,a3⟩,a4⟩,a5⟩:=hk2
 have hn:=h.nm.len
 have h24:∀ i< s.idx.names.length,(rowsOf (Ed s.mem) ((i:Int)+1)).length≤24:=fun i hi=>WB hK (a5 i hi)
 have hpos:∀ k b,(Dd s.mem 6)[k]? = some b→0< b.length→k< s.idx.names.length:=fun k b hb hl=>by
  unfold Dd at hb
  rw [List.getElem?_map] at hb
  by_cases hk6:k< 6
  ·rw [List.getElem?_range hk6] at hb
   simp only [Option.map_some,Option.some.injEq] at hb
   subst hb
   by_cases hlt:k< s.idx.names.length
   ·exact hlt
   ·rw [RF hK (id:=(k:Int)+1) AB] at hl
    cases hl
  ·rw [List.getElem?_eq_none (by simp; omega)] at hb
   cases hb
 refine ⟨⟨⟨⟨by simp [Cz]; omega,by simp [Cz]⟩,fun p hp=>?_⟩,by simp [Cz]⟩,fun i hi=>?_⟩
 ·rcases List.mem_append.1 hp with hp | hp
  ·exact a3 p hp
  ·simp only [List.mem_cons,List.not_mem_nil,or_false] at hp
   subst hp
   rw [Ib hK.J4.Jk]
   refine PB (fun b hb=>?_) (by rw [HU]; omega) (T6 (fun m hm=>⟨(hK.J4.Jk m hm).1,(hK.J4.Jk m hm).2,hK.row m hm⟩) h1) hpos
   unfold Dd at hb
   obtain ⟨i,hi,rfl⟩:=List.mem_map.1 hb
   refine ⟨(EP 0 _ s.mem [] hK.row Blk.nil).2,?_⟩
   by_cases hlt:i< s.idx.names.length
   ·exact h24 i hlt
   ·rw [RF hK (id:=(i:Int)+1) AB]
    simp
 ·have hi2:i< s.idx.names.length:=hi
  rw [Ic hK AB AB]
  exact a5 i hi2
def Bm (s:Sto):Sto × Bool:=if Aa s then BI (Ah s) else (⟨⟨[],[]⟩,[],[]⟩,false)
theorem J7 {s:Sto}(h:Aa s=false):Bm s=(⟨⟨[],[]⟩,[],[]⟩,false):=by unfold Bm; rw [if_neg (by simp [h])]
theorem Ie {s:Sto}(h:Aa s=true):Bm s=BI (Ah s):=by unfold Bm; rw [if_pos h]
theorem OE {s:Sto}(h:Aa s=true):s.parts.length≤6:=by
 unfold Aa at h
 simp only [AW,decide_eq_true_eq] at h
 exact h.1.1.1.1
theorem HV {s:Sto}(_h:SD s) (hk:Aa s=true) (h1:(s.mem.length:Int)=0∨(s.parts.length:Int)=6):Bm s=(Ah s,false):=by
 rw [Ie hk]
 unfold BI
 have e1:(Ah s).mem.length=s.mem.length:=rfl
 have e2:(Ah s).parts.length=s.parts.length:=rfl
 rw [if_pos AB]
theorem JF {s:Sto}(_h:SD s) (hk:Aa s=true) (h1:(s.mem.length:Int)≠0) (h2:(s.parts.length:Int)≠6):Bm s=(⟨(Ah s).idx,(Ah s).parts++[Ai s.mem],[]⟩,true):=by
 rw [Ie hk]
 unfold BI
 have e1:(Ah s).mem.length=s.mem.length:=rfl
 have e2:(Ah s).parts.length=s.parts.length:=rfl
 have:=OE hk
 rw [if_neg AB]
 rfl
theorem RH {mem:List Smp}{k:Nat}(hk:1≤k):Dd mem (k+1 - 1)=Dd mem (k - 1)++[rowsOf (Ed mem) (k:Int)]:=by
 rw [show k+1 - 1=(k - 1)+1 by omega,SQ,show ((k - 1:Nat):Int)+1=(k:Int) by omega]
theorem WC {mem:List Smp}{k:Nat}{a:List Int}(h:a=(BM 0 (Dd mem (k - 1))).1) (hk:1≤k) (hl:((rowsOf (Ed mem) (k:Int)).length:Int) > 0):a++[(k:Int)]=(BM 0 (Dd mem (k+1 - 1))).1:=by
 rw [RH hk,DX,if_pos AB,h,HU,show ((0:Nat):Int)+((k - 1:Nat):Int)+1=(k:Int) by omega]
theorem WE {mem:List Smp}{k:Nat}{a:List Int}(h:a=(BM 0 (Dd mem (k - 1))).1) (hk:1≤k) (hl:¬ ((rowsOf (Ed mem) (k:Int)).length:Int) > 0):a=(BM 0 (Dd mem (k+1 - 1))).1:=by
 rw [RH hk,DX,if_neg AB,h]
theorem WG {mem:List Smp}{k:Nat}{a:List (List Row)}(h:a=(BM 0 (Dd mem (k - 1))).2) (hk:1≤k) (hl:((rowsOf (Ed mem) (k:Int)).length:Int) > 0):a++[rowsOf (Ed mem) (k:Int)]=(BM 0 (Dd mem (k+1 - 1))).2:=by
 rw [RH hk,DX,if_pos AB,h]
theorem WH {mem:List Smp}{k:Nat}{a:List (List Row)}(h:a=(BM 0 (Dd mem (k - 1))).2) (hk:1≤k) (hl:¬ ((rowsOf (Ed mem) (k:Int)).length:Int) > 0):a=(BM 0 (Dd mem (k+1 - 1))).2:=by
 rw [RH hk,DX,if_neg AB,h]
theorem ZH {mem:List Smp}{k:Nat}{a:List Int}{b:List (List Row)}(hm:∀ m∈mem,1≤m.id∧m.id≤6) (hk:k=7) (ha:a=(BM 0 (Dd mem (k - 1))).1) (hb:b=(BM 0 (Dd mem (k - 1))).2):(⟨a,b⟩:Prt)=Ai mem:=by
 subst hk ha hb
 rw [Ib hm]
 rfl
end Go.Proofs.YtfninflnngpchaaGreatDoor
