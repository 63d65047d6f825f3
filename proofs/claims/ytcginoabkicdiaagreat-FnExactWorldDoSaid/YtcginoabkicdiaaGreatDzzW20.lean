/- proofs; no conditions -/
import Derived.Test.YtcginoabkicdiaaGreatDzzKw
import Derived.Test.YtcginoabkicdiaaGreatDzzSl
open Go.Proofs.Tryz
set_option linter.unusedVariables false
set_option linter.unusedSimpArgs false
namespace Go.Proofs.YtcginoabkicdiaaGreat
open Go.Sort
structure SX where
 p:Pst
 a:Option Addr
 n:Nat
 c:Nat
def DV (x:SX):List Value:=[.string (bs x.p.tag.key),.string (bs x.p.tag.val),.slice x.a x.n x.c]
instance:Inhabited SX:=⟨⟨⟨⟨[],[]⟩,[]⟩,none,0,0⟩⟩
theorem Tw {α β:Type}:∀ {xs:List α}{R:Nat→α→β→Prop},(∀ i x,xs[i]? = some x→∃ y,R i x y)→∃ ys:List β,ys.length=xs.length∧∀ i x y,xs[i]? = some x→ys[i]? = some y→R i x y:=by
 intro xs
 induction xs with
 | nil=>intro R _; exact ⟨[],rfl,fun i x y hx=>by simp at hx⟩
 | cons x xs ih =>
   intro R h
   obtain ⟨y,hy⟩:=h 0 x rfl
   obtain ⟨ys,h1,h2⟩:=ih (R:=fun i=>R (i+1)) (fun i x hi=>h (i+1) x (by simpa using hi))
   refine ⟨y::ys,by simp [h1],fun i u v hu hv=>?_⟩
   cases i with
   | zero=>simp at hu hv; subst hu hv; exact hy
   | succ i=>exact h2 i u v (by simpa using hu) (by simpa using hv)
variable {w:World} {F:Nat→Prop}
theorem Zd {r t n c:Nat}{xs:List Pst}(h:Own w r t F n c xs) :
 ∃ ys:List SX,ys.map SX.p=xs∧∀ (i:Nat) y,ys[i]? = some y→Rep.rep w (fun b=>F b∧b≠r) y.p (DV y)∧Has w ⟨r,i * 3,none⟩ (DV y):=by
 obtain ⟨ys,h1,h2⟩:=Tw (xs:=xs) (R:=fun i x (y:SX)=>y.p=x∧Rep.rep w (fun b=>F b∧b≠r) y.p (DV y)∧Has w ⟨r,i * 3,none⟩ (DV y)) (fun i x hx=>by
  obtain ⟨cs,hr,hh⟩:=h.elem i x hx
  have hr':=hr
  obtain ⟨a,m,d,rfl,h3⟩:=hr'
  exact ⟨⟨x,a,m,d⟩,rfl,hr,hh⟩)
 refine ⟨ys,?_,fun i y hy=>?_⟩
 ·apply List.ext_getElem?
  intro i
  rw [List.getElem?_map]
  cases hx:xs[i]? with
  | none =>
    have:=List.getElem?_eq_none_iff.1 hx
    rw [List.getElem?_eq_none AB]; rfl
  | some x =>
    have hl:=(List.getElem?_eq_some_iff.1 hx).1
    have hy:ys[i]? = some (ys[i]' AB):=AU _
    rw [hy,Option.map_some,(h2 i x _ hx hy).1]
 ·have hl:=(List.getElem?_eq_some_iff.1 hy).1
  have hx:xs[i]? = some (xs[i]' AB):=AU _
  exact (h2 i _ y hx hy).2
theorem YC {r t n c:Nat}{xs:List Pst}(h:Own w r t F n c xs){ys:List SX}(hy:∀ (i:Nat) y,ys[i]? = some y→Rep.rep w (fun b=>F b∧b≠r) y.p (DV y)∧Has w ⟨r,i * 3,none⟩ (DV y)) :
 HoldsK DV 3 w r 0 ys.toArray:=by
 intro j hj
 rw [size_flatK] at hj
 rw [get_flatK _ _ _ _ hj]
 have hj2:j / 3< ys.length:=by simp at hj; omega
 have h1:ys[j / 3]? = some (ys[j / 3]'hj2):=AU _
 have h2:=(hy _ _ h1).2 (j % 3) ((DV (ys[j / 3]'hj2))[j % 3]'(by show j % 3< 3; omega)) (AU _)
 rw [add_lit,show j / 3 * 3+j % 3=0+j by omega] at h2
 refine ⟨?_,?_⟩
 ·rw [h2]
  have e:(ys.toArray[j / 3]!)=ys[j / 3]'hj2:=by simp [hj2]
  rw [e,getElem!_pos (DV (ys[j / 3]'hj2)) (j % 3) (by show j % 3< 3; omega)]
  rfl
 ·obtain ⟨cur,hc,_⟩:=h.row
  simp [World.frozen?,hc]
theorem ltX (x y:SX):ltOf (fun x y:SX=>Qi x.p y.p) x y=CM x.p.tag y.p.tag:=by
 unfold ltOf
 rw [Bool.eq_iff_iff,decide_eq_true_iff]
 exact LR _ _
theorem pL:SWO (ltOf fun x y:SX=>Qi x.p y.p) where
 irrefl x:=by rw [ltX]; exact H7 _
 trans x y z h1 h2:=by rw [ltX] at *; exact D4 h1 h2
 ntrans x y z h1 h2:=by
  rw [ltX] at *
  cases h3:CM x.p.tag z.p.tag with
  | false=>rfl
  | true =>
    cases h4:CM y.p.tag x.p.tag with
    | true=>have:=D4 h4 h3; rw [h2] at this; cases this
    | false=>have e:=Jy h1 h4; rw [e,h2] at h3; cases h3
theorem pM (blk off size:Nat) (w:World):CmpLays Tryz.prog 165 #[] DV 3 (fun x y:SX=>Qi x.p y.p) blk off size w:=fun m os dk _ x y =>
 (Zc x.p.tag y.p.tag (.slice x.a x.n x.c) (.slice y.a y.n y.c) _).mono fun e w' ⟨r,h1,h2,q,os',h3⟩=>⟨by rw [h1,h2]; rfl,q,os',h3⟩
theorem IN {r n c:Nat}{xs0:List Pst}(ho:Own w r 204 F n c xs0) (hn:n≤1100000){ys:List SX}(hp:ys.map SX.p=xs0)
 (hy:∀ (i:Nat) y,ys[i]? = some y→Rep.rep w (fun b=>F b∧b≠r) y.p (DV y)∧Has w ⟨r,i * 3,none⟩ (DV y)) :
 Calls Tryz.prog 164 [.slice (some ⟨r,0,none⟩) n c,.func (.func 165) #[] #[]].toArray w (Af fun rv w'=>rv=.tuple #[]∧∃ σ:List SX,σ.Perm ys∧(σ.map SX.p).Pairwise Le∧Own w' r 204 F n c (σ.map SX.p)∧(∀ (i:Nat) y,σ[i]? = some y→Has w' ⟨r,i * 3,none⟩ (DV y))∧Chg (one r) w w'):=by
 have hlen:n=ys.toArray.size:=by rw [ho.len,← hp]; simp
 have hH:=YC ho hy
 have hcall:=AnyQ.slices_SortFunc pK 3 Tryz.isAgg204 Tryz.sizeOf204 DV (fun _=>rfl) (fun x v hv=>by simp [DV] at hv; rcases hv with rfl | rfl | rfl <;> rfl) (fun x y=>Qi x.p y.p) pL 165 #[] r 0 c ys.toArray w
  (enters_of func165 AA rfl) (pM r 0 _ w) hH ho.lt AB
 rw [← hlen] at hcall
 refine hcall.mono ?_
 rintro e w' ⟨rfl,d',m,os,hperm,hsort,rfl⟩
 obtain ⟨hsz,_,hpe⟩:=hperm
 have hl:d'.size=n:=by rw [hsz,hlen]
 have hpl:d'.toList.Perm ys:=by
  have e1:d'.extract 0 n=d':=by rw [← hl]; simp
  have e2:ys.toArray.extract 0 n=ys.toArray:=by rw [hlen]; simp
  rw [e1,e2] at hpe
  simpa using hpe
 have hK:HoldsK DV 3 (sortWorldK DV 3 w r 0 m d' os) r 0 d':=by
  unfold sortWorldK
  refine holdsK_grow DV 3 _ os r 0 d' ?_ (holdsK_putRowK DV 3 _ r 0 ys.toArray d' (holdsK_ahead DV 3 w m r 0 _ hH) hsz)
  show r< ((Sort.ahead w m).heap.modify r _).size
  rw [Array.size_modify]
  exact ho.lt
 have hblk:∀ k,k< w.heap.size→k≠r→(sortWorldK DV 3 w r 0 m d' os).heap[k]? = w.heap[k]? := fun k hk hr=>by
  show ((w.heap.modify r _)++os)[k]? = _
  rw [Array.getElem?_append_left (by rw [Array.size_modify]; exact hk),Array.getElem?_modify,if_neg (fun e=>hr e.symm)]
 have hx:Chg (one r) w (sortWorldK DV 3 w r 0 m d' os):=⟨rfl,rfl,rfl,by
  show _≤((w.heap.modify r _)++os).size
  rw [Array.size_append,Array.size_modify]; omega,fun k hk hn=>hblk k hk hn⟩
 have hHas:∀ (i:Nat) y,d'.toList[i]? = some y→Has (sortWorldK DV 3 w r 0 m d' os) ⟨r,i * 3,none⟩ (DV y):=fun i y hy2 k u hu=>by
  have hi2:i< d'.size:=by simpa using (List.getElem?_eq_some_iff.1 hy2).1
  have hk:k< 3:=(List.getElem?_eq_some_iff.1 hu).1
  have h1:=(hK.cell hi2 hk).1
  have e1:d'[i]! = y:=by
   rw [getElem!_pos d' i hi2]
   have:=(List.getElem?_eq_some_iff.1 hy2).2
   simpa using this
  have e2:(DV y)[k]! = u:=by
   rw [getElem!_pos (DV y) k hk]
   exact (List.getElem?_eq_some_iff.1 hu).2
  rw [e1,e2] at h1
  rw [add_lit,← h1]
  show World.cell? _ ⟨r,i * 3+k,none⟩=World.cell? _ ⟨r,0+i * 3+k,none⟩
  rw [Nat.zero_add]
 refine ⟨_,rfl,rfl,d'.toList,hpl,?_,⟨by simp [hl],ho.le,ho.cap,?_,fun i x hi=>?_⟩,hHas,hx⟩
 ·rw [List.pairwise_map,List.pairwise_iff_getElem]
  intro i j hi hj hij
  have h1:=hsort i j (Nat.zero_le _) hij (by rw [← hl]; simpa using hj)
  rw [ltX] at h1
  simp only [Array.length_toList] at hi hj
  rw [getElem!_pos d' j hj,getElem!_pos d' i hi] at h1
  unfold Le
  rw [LR]
  simp only [Array.getElem_toList]
  rw [h1]
  simp
 ·obtain ⟨cur,hc1,hc2⟩:=ho.row
  refine ⟨putCells id 0 (flatK DV 3 d') cur,?_,by simp [putCells,hc2]⟩
  show ((w.heap.modify r _)++os)[r]? = _
  rw [Array.getElem?_append_left (by rw [Array.size_modify]; exact ho.lt),Array.getElem?_modify,if_pos rfl,hc1]
  rfl
 ·rw [List.getElem?_map] at hi
  cases hy2:d'.toList[i]? with
  | none=>rw [hy2] at hi; cases hi
  | some y =>
    rw [hy2] at hi
    simp only [Option.map_some,Option.some.injEq] at hi
    subst hi
    have hi2:i< d'.size:=by simpa using (List.getElem?_eq_some_iff.1 hy2).1
    obtain ⟨j,hj⟩:=List.getElem?_of_mem (hpl.mem_iff.1 (AV hy2))
    exact ⟨DV y,Rep.frame (hy j y hj).1 (fun b hb hF=>⟨hF,hblk b hb hF.2⟩),hHas i y hy2⟩
theorem J3 {r n c:Nat}{xs0:List Pst}(ho:Own w r 204 F n c xs0) (hn:n≤1100000) :
 Calls Tryz.prog 164 [.slice (some ⟨r,0,none⟩) n c,.func (.func 165) #[] #[]].toArray w (Af fun rv w'=>rv=.tuple #[]∧∃ zs,zs.Perm xs0∧zs.Pairwise Le∧Own w' r 204 F n c zs∧Chg (one r) w w'):=by
 obtain ⟨ys,hp,hy⟩:=Zd ho
 refine (IN ho hn hp hy).mono ?_
 rintro e w' ⟨v,rfl,h1,σ,h2,h3,h4,_,h5⟩
 exact ⟨v,rfl,h1,σ.map SX.p,hp▸h2.map SX.p,h3,h4,h5⟩
end Go.Proofs.YtcginoabkicdiaaGreat
namespace Go.Proofs.YtcginoabkicdiaaGreat
structure RepP (xs:List Pst) (L:Tag→List Int):Prop where
 nd:(xs.map Pst.tag).Nodup
 el:∀ x∈xs,x.ids=L x.tag∧x.ids≠[]
 all:∀ t,L t≠[]→∃ x∈xs,x.tag=t
theorem RepP.add {xs:List Pst}{L:Tag→List Int}(h:RepP xs L) (k:Int) (t:Tag):RepP (E9 k xs t) (fun u=>L u++(if u=t then [k] else [])):=by
 rcases Jw t xs 0 with ⟨h1,h2⟩ | ⟨h1,h2,x,h3,h4⟩
 ·have hn:Bi t 0 xs< 0:=by omega
  have hL:L t=[]:=by
   by_cases he:L t=[]
   ·exact he
   ·obtain ⟨x,hx,hxt⟩:=h.all t he
    exact absurd hxt (h2 x hx)
  rw [JD hn]
  refine ⟨?_,fun x hx=>?_,fun u hu=>?_⟩
  ·rw [List.map_append]
   refine List.nodup_append.2 ⟨h.nd,by simp,fun a ha b hb=>?_⟩
   simp at hb
   subst hb
   obtain ⟨x,hx,rfl⟩:=List.mem_map.1 ha
   exact h2 x hx
  ·rcases List.mem_append.1 hx with hx | hx
   ·have:=h.el x hx
    have hne:=h2 x hx
    rw [if_neg hne,List.append_nil]
    exact this
   ·simp at hx
    subst hx
    simp [hL]
  ·by_cases hut:u=t
   ·exact ⟨⟨t,[k]⟩,by simp,hut.symm⟩
   ·rw [if_neg hut,List.append_nil] at hu
    obtain ⟨x,hx,hxu⟩:=h.all u hu
    exact ⟨x,by simp [hx],hxu⟩
 ·have hn:¬ Bi t 0 xs< 0:=by omega
  rw [Nat.sub_zero] at h3
  rw [JE hn h3]
  generalize (Bi t 0 xs).toNat=i at h3
  obtain ⟨hil,hie⟩:=List.getElem?_eq_some_iff.1 h3
  have hmap:(xs.set i ⟨x.tag,x.ids++[k]⟩).map Pst.tag=xs.map Pst.tag:=by
   rw [List.map_set]
   have h5:(xs.map Pst.tag)[i]'(by simpa using hil)=x.tag:=by simp [hie]
   have h6:=List.set_getElem_self (show i< (xs.map Pst.tag).length by simpa using hil)
   rw [h5] at h6
   exact h6
  refine ⟨by rw [hmap]; exact h.nd,fun y hy=>?_,fun u hu=>?_⟩
  ·obtain ⟨j,hj,hjy⟩:=List.mem_iff_getElem.1 hy
   rw [List.getElem_set] at hjy
   have hj2:j< xs.length:=by simpa using hj
   split at hjy
   ·subst hjy
    have:=h.el x (AV h3)
    simp only
    rw [if_pos h4,this.1]
    exact ⟨rfl,by simp⟩
   ·rename_i hij
    have hym:y∈xs:=hjy▸List.getElem_mem hj2
    have hne:¬ y.tag=t:=fun e=>hij (by
     have h5:(xs.map Pst.tag)[i]'(by simpa using hil)=(xs.map Pst.tag)[j]'(by simpa using hj2):=by simp [hie,hjy,h4,e]
     exact (List.getElem_inj (h₀:=by simpa using hil) (h₁:=by simpa using hj2) h.nd).1 h5)
    rw [if_neg hne,List.append_nil]
    exact h.el y hym
  ·have key:∃ y∈xs,y.tag=u:=by
    by_cases hut:u=t
    ·exact ⟨x,AV h3,h4.trans hut.symm⟩
    ·rw [if_neg hut,List.append_nil] at hu
     exact h.all u hu
   obtain ⟨y,hy,hyu⟩:=key
   have hm:u∈(xs.set i ⟨x.tag,x.ids++[k]⟩).map Pst.tag:=by rw [hmap]; exact List.mem_map.2 ⟨y,hy,hyu⟩
   obtain ⟨z,hz,hzu⟩:=List.mem_map.1 hm
   exact ⟨z,hz,hzu⟩
theorem RepP.congr {xs:List Pst}{L L':Tag→List Int}(h:RepP xs L) (e:∀ t,L t=L' t):RepP xs L':=by
 have:L=L':=funext e
 rw [← this]; exact h
theorem RepP.name (k:Int):∀ (n:List Tag) (xs:List Pst) (L:Tag→List Int),n.Nodup→RepP xs L→RepP (n.foldl (E9 k) xs) (fun u=>L u++(if has n u then [k] else [])):=by
 intro n
 induction n with
 | nil=>intro xs L _ h; exact h.congr (fun t=>by simp [has])
 | cons t ts ih =>
   intro xs L hn h
   rw [List.nodup_cons] at hn
   refine (ih _ _ hn.2 (h.add k t)).congr (fun u=>?_)
   rw [List.append_assoc]
   congr 1
   by_cases hu:u=t
   ·subst hu
    have:has ts u=false:=by
     unfold has
     rw [List.any_eq_false]
     intro y hy e
     exact hn.1 (by rw [← eq_of_beq e]; exact hy)
    rw [this]
    simp [has]
   ·have:(t==u)=false:=by rw [beq_eq_false_iff_ne]; exact fun e=>hu e.symm
    simp only [if_neg hu,List.nil_append,has,List.any_cons,this,Bool.false_or]
    rfl
theorem RepP.bld:∀ (ns:List (List Tag)) (i:Nat) (xs:List Pst) (L:Tag→List Int),(∀ n∈ns,n.Nodup)→RepP xs L→RepP (HR i xs ns) (fun u=>L u++FZ u i ns):=by
 intro ns
 induction ns with
 | nil=>intro i xs L _ h; exact h.congr (fun t=>by simp [FZ])
 | cons n ns ih =>
   intro i xs L hn h
   refine (ih (i+1) _ _ (fun m hm=>hn m (by simp [hm])) (RepP.name _ n xs L (hn n AD) h)).congr (fun u=>?_)
   rw [List.append_assoc,FZ]
theorem RepP.pN {names:List (List Tag)}(h:NmI names):RepP (HR 0 [] names) (ids names) :=
 (RepP.bld names 0 [] (fun _=>[]) (fun n hn=>(E7 (h.ok n hn)).1) ⟨by simp,by simp,by simp⟩).congr (fun u=>by unfold ids; simp)
theorem Tx {names:List (List Tag)}{t:Tag}(h:ids names t≠[]):∃ n∈names,t∈n:=by
 unfold ids at h
 have:∀ (ns:List (List Tag)) (i:Nat),FZ t i ns≠[]→∃ n∈ns,t∈n:=by
  intro ns
  induction ns with
  | nil=>intro i h; simp [FZ] at h
  | cons n ns ih =>
    intro i h
    rw [FZ] at h
    by_cases hb:has n t=true
    ·refine ⟨n,by simp,?_⟩
     unfold has at hb
     rw [List.any_eq_true] at hb
     obtain ⟨y,hy,e⟩:=hb
     rw [← eq_of_beq e]; exact hy
    ·rw [if_neg hb,List.nil_append] at h
     obtain ⟨m,hm,ht⟩:=ih (i+1) h
     exact ⟨m,by simp [hm],ht⟩
 exact this names 0 h
theorem Ty (k:Int) (xs:List Pst) (t:Tag):(E9 k xs t).length≤xs.length+1:=by
 rcases Jw t xs 0 with ⟨g1,_⟩ | ⟨g1,g2,y,g3,g4⟩
 ·rw [JD AB]; simp
 ·rw [Nat.sub_zero] at g3
  rw [JE AB g3]; simp
theorem Tz (k:Int):∀ (n:List Tag) (xs:List Pst),(n.foldl (E9 k) xs).length≤xs.length+n.length:=by
 intro n
 induction n with
 | nil=>intro xs; simp
 | cons t n ih =>
   intro xs
   have h1:=ih (E9 k xs t)
   have h2:=Ty k xs t
   simp only [List.foldl_cons,List.length_cons]
   omega
theorem WH:∀ (names:List (List Tag)) (i:Nat) (xs:List Pst),(∀ n∈names,n.length≤5)→(HR i xs names).length≤xs.length+5 * names.length:=by
 intro names
 induction names with
 | nil=>intro i xs _; simp [HR]
 | cons n names ih =>
   intro i xs h
   have h1:=ih (i+1) (n.foldl (E9 ((i:Int)+1)) xs) (fun m hm=>h m (by simp [hm]))
   have h2:=Tz ((i:Int)+1) n xs
   have h3:=h n AD
   show (HR (i+1) (n.foldl (E9 ((i:Int)+1)) xs) names).length≤_
   simp only [List.length_cons]
   omega
theorem T0 {names:List (List Tag)}(h:NmI names) (h2:NsD names):(HR 0 [] names).length≤1000:=by
 have h1:=WH names 0 [] (fun n hn=>(h2 n hn).1)
 have h3:=h.len
 simp only [List.length_nil] at h1
 omega
theorem L9 {α:Type}{R:α→α→Prop}(hirr:∀ a,¬ R a a) (htr:∀ a b c,R a b→R b c→R a c):∀ (xs ys:List α),xs.Pairwise R→ys.Pairwise R→(∀ a,a∈xs↔a∈ys)→xs=ys:=by
 intro xs
 induction xs with
 | nil =>
   intro ys _ _ h
   cases ys with
   | nil=>rfl
   | cons y ys=>exact absurd ((h y).2 AD) AD
 | cons x xs ih =>
   intro ys hx hy h
   cases ys with
   | nil=>exact absurd ((h x).1 AD) AD
   | cons y ys =>
     rw [List.pairwise_cons] at hx hy
     have hxy:x=y:=by
      have h1:=(h x).1 AD
      have h2:=(h y).2 AD
      rcases List.mem_cons.1 h1 with h1 | h1
      ·exact h1
      ·rcases List.mem_cons.1 h2 with h2 | h2
       ·exact h2.symm
       ·exact absurd (htr _ _ _ (hy.1 x h1) (hx.1 y h2)) (hirr y)
     subst hxy
     congr 1
     refine ih ys hx.2 hy.2 (fun a=>⟨fun ha=>?_,fun ha=>?_⟩)
     ·rcases List.mem_cons.1 ((h a).1 (by simp [ha])) with rfl | h1
      ·exact absurd (hx.1 _ ha) (hirr _)
      ·exact h1
     ·rcases List.mem_cons.1 ((h a).2 (by simp [ha])) with rfl | h1
      ·exact absurd (hy.1 _ ha) (hirr _)
      ·exact h1
theorem PY {names:List (List Tag)}(h:NmI names) (_h2:NsD names){xs zs:List Pst}(hp:zs.Perm xs) (hs:zs.Pairwise Le) (he:xs=HR 0 [] names):(⟨names,zs⟩:Idx)=idxOf names:=by
 have hr:=RepP.pN h
 rw [← he] at hr
 unfold idxOf
 congr 1
 have hnd:(zs.map Pst.tag).Nodup:=(hp.map Pst.tag).nodup_iff.2 hr.nd
 have hz:zs.Pairwise (fun a b=>CM a.tag b.tag=true):=by
  rw [List.pairwise_iff_getElem] at hs ⊢
  intro i j hi hj hij
  have h1:=hs i j hi hj hij
  unfold Le at h1
  rw [LR] at h1
  cases h3:CM zs[i].tag zs[j].tag with
  | true=>rfl
  | false =>
    have e:=Jy h3 (by simpa using h1)
    have h5:(zs.map Pst.tag)[i]'(by simpa using hi)=(zs.map Pst.tag)[j]'(by simpa using hj):=by simpa using e
    have:=(List.getElem_inj (h₀:=by simpa using hi) (h₁:=by simpa using hj) hnd).1 h5
    omega
 refine L9 (R:=fun (a b:Pst)=>CM a.tag b.tag=true) (fun a ha=>by rw [H7] at ha; cases ha) (fun a b c=>D4) zs (Be names) hz (Gc names) (fun p=>⟨fun hpz=>?_,fun hpp=>?_⟩)
 ·have g:=hr.el p (hp.mem_iff.1 hpz)
  obtain ⟨n,hn,ht⟩:=Tx (by rw [← g.1]; exact g.2:ids names p.tag≠[])
  have:=PL (names:=names) ((E7 (h.ok n hn)).2 _ ht) (by rw [← g.1]; exact List.length_pos_iff.2 g.2)
  rw [← g.1] at this
  exact this
 ·obtain ⟨g1,g2,_⟩:=Hx hpp
  obtain ⟨x,hx,hxt⟩:=hr.all p.tag (by rw [← g1]; exact List.length_pos_iff.1 g2)
  have g:=hr.el x hx
  have:x=p:=(TM x p).2 ⟨hxt,by rw [g.1,hxt,g1]⟩
  exact this▸hp.mem_iff.2 hx
end Go.Proofs.YtcginoabkicdiaaGreat
namespace Go.Proofs.YtcginoabkicdiaaGreat
theorem YD {t:Tag}(h:CX t=true):∃ x y,t=⟨[x],[y]⟩:=by
 obtain ⟨k,v⟩:=t
 simp only [CX,AW] at h
 have h1:k.length=1:=Dc h.1
 have h2:v.length=1:=Dc h.2
 match k,v,h1,h2 with
 | [x],[y],_,_=>exact ⟨x,y,rfl⟩
theorem SZ:∀ (n m:List Tag) (i:Nat),(∀ t∈n,CX t=true)→(∀ t∈m,CX t=true)→G9 i n=G9 i m→n=m:=by
 intro n
 induction n with
 | nil =>
   intro m i _ hm h
   cases m with
   | nil=>rfl
   | cons t ts =>
     obtain ⟨x,y,rfl⟩:=YD (hm t AD)
     simp [G9,NW] at h
 | cons t ts ih =>
   intro m i hn hm h
   obtain ⟨x,y,rfl⟩:=YD (hn t AD)
   cases m with
   | nil=>simp [G9,NW] at h
   | cons u us =>
     obtain ⟨x',y',rfl⟩:=YD (hm u AD)
     simp only [G9,NW,List.append_assoc] at h
     have h2:=List.append_cancel_left h
     simp only [List.cons_append,List.nil_append,List.cons.injEq,true_and] at h2
     obtain ⟨rfl,rfl,h3⟩:=h2
     rw [ih us (i+1) (fun t ht=>hn t (by simp [ht])) (fun t ht=>hm t (by simp [ht])) h3]
theorem Kc {n:List Tag}(h:As n=true):∀ t∈n,CX t=true:=by
 simp only [As,AW] at h
 exact GZ n none h.1
theorem MA {n m:List Tag}(hn:As n=true) (hm:As m=true) (h:text n=text m):n=m:=SZ n m 0 (Kc hn) (Kc hm) h
theorem YE {names:List (List Tag)}{n:List Tag}(h:∀ m∈names,As m=true) (hn:As n=true):∀ i,nmF (text n) i names=Dd n i names+1:=by
 induction names with
 | nil=>intro i; rfl
 | cons x xs ih =>
   intro i
   unfold nmF Dd
   by_cases hx:x=n
   ·rw [if_pos (by simp [hx]),if_pos (by simp [hx])]
   ·have h1:¬ (text x==text n)=true:=fun e=>hx (MA (h x AD) hn (eq_of_beq e))
    have h2:¬ (x==n)=true:=fun e=>hx (eq_of_beq e)
    rw [if_neg h1,if_neg h2]
    exact ih (fun m hm=>h m (by simp [hm])) (i+1)
theorem HV {x:Idx}{n:List Tag}(h:NmI x.names) (hn:As n=true):Gx x n=Dd n 0 x.names+1:=YE h.ok hn 0
def CF (x:Idx) (n:List Tag):Idx × Int × Bool:=if As n=true then Ba x n else (⟨[],[]⟩,0,false)
theorem Od {x:Idx}{n:List Tag}(h:As n=false):CF x n=(⟨[],[]⟩,0,false):=by unfold CF; rw [if_neg (by simp [h])]
theorem IA {x:Idx}{n:List Tag}(h:As n=true):CF x n=Ba x n:=by unfold CF; rw [if_pos h]
theorem MB {x:Idx}{n:List Tag}(hx:IxI x) (h:As n=true) (h1:Dd n 0 x.names+1 > 0):CF x n=(idxOf x.names,Dd n 0 x.names+1,true):=by
 rw [IA h,HF (by rw [HV hx.nm h]; exact h1),HV hx.nm h,← hx.eq]
theorem J4 {x:Idx}{n:List Tag}(hx:IxI x) (h:As n=true) (h1:¬ Dd n 0 x.names+1 > 0) (h2:(x.names.length:Int)=6):CF x n=(idxOf x.names,0,false):=by
 rw [IA h,Ff (by rw [HV hx.nm h]; exact h1) (.inr AB),← hx.eq]
theorem GH {x:Idx}{n:List Tag}(hx:IxI x) (h:As n=true) (h1:¬ Dd n 0 x.names+1 > 0) (h2:(x.names.length:Int)≠6):CF x n=(idxOf (x.names++[n]),(x.names.length:Int)+1,true):=by
 rw [IA h,HG (by rw [HV hx.nm h]; exact h1) h (by have:=hx.nm.len; omega)]
theorem NmI.Ze {x:Idx}{n:List Tag}(hx:IxI x) (h:As n=true) (h1:¬ Dd n 0 x.names+1 > 0) (h2:(x.names.length:Int)≠6):NmI (x.names++[n]):=by
 refine NmI.add (ps:=x.AX) hx.nm h ?_ (by have:=hx.nm.len; omega)
 have:=HV (x:=⟨x.names,x.AX⟩) hx.nm h
 rw [this]; exact h1
theorem NsD.add {names:List (List Tag)}{n:List Tag}(h:NsD names) (hn:NmD n):NsD (names++[n]):=fun m hm=>by
 rcases List.mem_append.1 hm with hm | hm
 ·exact h m hm
 ·simp at hm; rw [hm]; exact hn
theorem Nr:∀ (is:List Int) (bs:List (List Row)) (o:Option Int),BU o is bs=true→(∀ q,o=some q→∀ i∈is,q< i)∧∀ m,Mz m is=(match is.getLast? with | some l=>if l > m then l else m | none=>m)∨is=[]:=by
 intro is
 induction is with
 | nil=>intro bs o _; exact ⟨fun _ _ i hi=>(by cases hi),fun m=>.inr rfl⟩
 | cons x xs ih =>
   intro bs o h
   cases bs with
   | nil=>simp [BU] at h
   | cons b bs =>
     simp only [BU,AW] at h
     obtain ⟨⟨⟨⟨_,h2⟩,_⟩,_⟩,h5⟩:=h
     obtain ⟨g1,g2⟩:=ih bs (some x) h5
     refine ⟨fun q hq i hi=>?_,fun m=>.inl ?_⟩
     ·subst hq
      have hqx:q< x:=by simpa using h2
      rcases List.mem_cons.1 hi with rfl | hi
      ·exact hqx
      ·have:=g1 x rfl i hi; omega
     ·unfold Mz
      rcases g2 (if x > m then x else m) with g | g
      ·rw [g]
       cases hl:xs.getLast? with
       | none =>
         have:xs=[]:=List.getLast?_eq_none_iff.1 hl
         subst this
         simp
       | some l =>
         have hlm:=g1 x rfl l (List.mem_of_getLast? hl)
         have e:(x::xs).getLast? = some l:=by rw [List.getLast?_cons,hl]; rfl
         rw [e]
         simp only
         repeat' split
         all_goals omega
      ·subst g
       simp [Mz]
theorem MC {p:Prt}{n:Int}(h:Ai p=true) (h0:(p.ids.length:Int)≠0):BT p n = !decide (maxOf p.ids > n):=by
 unfold BT
 rw [h,Bool.true_and]
 unfold Ai at h
 simp only [AW,decide_eq_true_eq] at h
 match hi:p.ids,h.2 with
 | [],_=>rw [hi] at h0; simp at h0
 | x :: xs, hg =>
   cases hb:p.blocks with
   | nil=>rw [hb] at hg; simp [BU] at hg
   | cons b bs =>
     rw [hb] at hg
     simp only [BU,AW] at hg
     obtain ⟨g1,g2⟩:=Nr xs bs (some x) hg.2
     show (match (x::xs).getLast? with | some i=>decide (i≤n) | none=>false) = !decide (Mz x xs > n)
     rcases g2 x with g | g
     ·rw [g]
      cases hl:xs.getLast? with
      | none =>
        have:xs=[]:=List.getLast?_eq_none_iff.1 hl
        subst this
        simp only [List.getLast?_singleton]
        rw [Bool.eq_iff_iff]; simp
      | some l =>
        have hlm:=g1 x rfl l (List.mem_of_getLast? hl)
        have e:(x::xs).getLast? = some l:=by rw [List.getLast?_cons,hl]; rfl
        rw [e]
        simp only
        simp only [show l > x from hlm,if_true]
        rw [Bool.eq_iff_iff]; simp
     ·subst g
      simp only [List.getLast?_singleton,Mz]
      rw [Bool.eq_iff_iff]; simp
theorem T1 {p:Prt}{n:Int}(h:Ai p=false):BT p n=false:=by unfold BT; rw [h]; rfl
theorem T3 {p:Prt}{n:Int}(h:(p.ids.length:Int)=0):BT p n=false:=by
 have:p.ids=[]:=List.eq_nil_of_length_eq_zero AB
 unfold BT; rw [this]; simp
theorem T4 {p:Prt}{n:Int}(h:Ai p=true) (h0:(p.ids.length:Int)≠0) (h1:maxOf p.ids > n):BT p n=false:=by rw [MC h h0]; simp [h1]
theorem T5 {p:Prt}{n:Int}(h:Ai p=true) (h0:(p.ids.length:Int)≠0) (h1:¬ maxOf p.ids > n):BT p n=true:=by rw [MC h h0]; simp [h1]
theorem Ef {p:Prt}{n:Int}(h:BT p n=true):Ai p=true:=by
 unfold BT at h
 simp only [AW] at h
 exact h.1
structure StoK (s:Sto):Prop where
 sd:SD s
 part:∀ p∈s.parts,PrtI p∧Ai p=true
 row:∀ m∈s.mem,BS m.row=true
 id:∀ m∈s.mem,1≤m.id∧m.id≤s.idx.names.length
 nm2:s.mem.length≤20
theorem StoK.of {s:Sto}(h:SD s) (hk:Ae s=true):StoK s:=by
 unfold Ae at hk
 simp only [AW,decide_eq_true_eq,List.all_eq_true] at hk
 obtain ⟨⟨⟨⟨_,h2⟩,h3⟩,h4⟩,_⟩:=hk
 refine ⟨h,fun p hp=>⟨h.part p hp,Ef (h3 p hp)⟩,fun m hm=>?_,fun m hm=>?_,h2⟩
 ·have:=h4 m hm
  unfold DM at this
  simp only [AW] at this
  exact this.2
 ·have:=h4 m hm
  unfold DM at this
  simp only [AW] at this
  exact Bt this.1
theorem StoK.J2 {s:Sto}(h:StoK s):StoI s:=⟨h.sd.idx,h.sd.nm,h.sd.np,h.sd.part,h.nm2,fun m hm=>⟨(h.id m hm).1,(h.id m hm).2,h.row m hm⟩⟩
theorem StoK.pt {s:Sto}(h:SD s) (h3:s.parts.all (fun p=>BT p s.idx.names.length)=true):∀ p∈s.parts,PrtI p∧Ai p=true:=fun p hp=>⟨h.part p hp,Ef (List.all_eq_true.1 h3 p hp)⟩
theorem StoK.rw {s:Sto}(h4:s.mem.all (DM s.idx.names.length)=true):∀ m∈s.mem,BS m.row=true:=fun m hm=>by
 have:=List.all_eq_true.1 h4 m hm
 unfold DM at this
 simp only [AW] at this
 exact this.2
section
variable {s:Sto} {n:List Tag} {r:Row}
theorem YF (_h:SD s) (hn:As n=true) (h1:(CF s.idx n).2.2=false):Ch s n r=(s,false):=by rw [IA hn] at h1; exact QW h1
theorem YG (_h:SD s) (_hn:As n=true) (h1:BS r=false):Ch s n r=(s,false):=QX h1
theorem YH (_h:SD s) (_hn:As n=true) (h1:(s.mem.length:Int)=20):Ch s n r=(s,false):=QY AB
theorem XR (h:Ae s=true):s.mem.length≤20:=by
 unfold Ae at h
 simp only [AW,decide_eq_true_eq] at h
 exact h.1.1.1.2
theorem YI (_h:SD s) (hk:Ae s=true) (hn:As n=true) (h1:(CF s.idx n).2.2=true) (h2:BS r=true) (h3:(s.mem.length:Int)≠20)
 (h4:((rowsOf (⟨⟨(CF s.idx n).1.names,(CF s.idx n).1.AX⟩,(AY s).parts,(AY s).mem++[⟨(CF s.idx n).2.1,r⟩]⟩:Sto) (CF s.idx n).2.1).length:Int) > 24):Ch s n r=(s,false):=by
 rw [IA hn] at h1 h4
 have:=XR hk
 exact Ih h1 h2 AB h4
theorem YJ (_h:SD s) (hk:Ae s=true) (hn:As n=true) (h1:(CF s.idx n).2.2=true) (h2:BS r=true) (h3:(s.mem.length:Int)≠20)
 (h4:¬ ((rowsOf (⟨⟨(CF s.idx n).1.names,(CF s.idx n).1.AX⟩,(AY s).parts,(AY s).mem++[⟨(CF s.idx n).2.1,r⟩]⟩:Sto) (CF s.idx n).2.1).length:Int) > 24):Ch s n r=(⟨(CF s.idx n).1,s.parts,s.mem++[⟨(CF s.idx n).2.1,r⟩]⟩,true):=by
 rw [IA hn] at h1 h4 ⊢
 have:=XR hk
 exact Ii h1 h2 AB h4
theorem T6 (h:SD s) (hk:Ae s=true) (hn:As n=true) (h1:(CF s.idx n).2.2=false):Dq s n r=(AY s,false):=by rw [HO hk hn,h.copy]; exact YF h hn h1
theorem T7 (h:SD s) (hk:Ae s=true) (hn:As n=true) (h1:BS r=false):Dq s n r=(AY s,false):=by rw [HO hk hn,h.copy]; exact YG h hn h1
theorem T8 (h:SD s) (hk:Ae s=true) (hn:As n=true) (h1:(s.mem.length:Int)=20):Dq s n r=(AY s,false):=by rw [HO hk hn,h.copy]; exact YH h hn h1
theorem T9 (h:SD s) (hk:Ae s=true) (hn:As n=true) (h1:(CF s.idx n).2.2=true) (h2:BS r=true) (h3:(s.mem.length:Int)≠20)
 (h4:((rowsOf (⟨⟨(CF s.idx n).1.names,(CF s.idx n).1.AX⟩,(AY s).parts,(AY s).mem++[⟨(CF s.idx n).2.1,r⟩]⟩:Sto) (CF s.idx n).2.1).length:Int) > 24):Dq s n r=(AY s,false):=by
 rw [HO hk hn,h.copy]; exact YI h hk hn h1 h2 h3 h4
theorem UA (h:SD s) (hk:Ae s=true) (hn:As n=true) (h1:(CF s.idx n).2.2=true) (h2:BS r=true) (h3:(s.mem.length:Int)≠20)
 (h4:¬ ((rowsOf (⟨⟨(CF s.idx n).1.names,(CF s.idx n).1.AX⟩,(AY s).parts,(AY s).mem++[⟨(CF s.idx n).2.1,r⟩]⟩:Sto) (CF s.idx n).2.1).length:Int) > 24):Dq s n r=(⟨(CF s.idx n).1,(AY s).parts,(AY s).mem++[⟨(CF s.idx n).2.1,r⟩]⟩,true):=by
 have:=YJ h hk hn h1 h2 h3 h4
 rw [HO hk hn,h.copy]
 exact this
theorem WJ {i:Int}(h:StoK s) (hr:BS r=true):∀ m∈(AY s).mem++[⟨i,r⟩],BS m.row=true:=fun m hm=>by
 rcases List.mem_append.1 hm with hm | hm
 ·exact h.row m hm
 ·simp at hm; subst hm; exact hr
end
end Go.Proofs.YtcginoabkicdiaaGreat
namespace Go.Proofs.YtcginoabkicdiaaGreat
def nmB (names:List (List Tag)):Bool:=decide (names.length≤6)&&names.all As&&decide ((names.map text).Nodup)
theorem Cu {names:List (List Tag)}:nmB names=true↔NmI names:=by
 unfold nmB
 simp only [AW,decide_eq_true_eq,List.all_eq_true]
 exact ⟨fun h=>⟨h.1.1,h.1.2,h.2⟩,fun h=>⟨⟨h.len,h.ok⟩,h.nodup⟩⟩
theorem Oe {names:List (List Tag)}(h:¬ NmI names):nmB names=false:=by
 cases hb:nmB names with
 | false=>rfl
 | true=>exact absurd (Cu.1 hb) h
structure NmG (names:List (List Tag)):Prop where
 len:names.length≤7
 nd:NsD names
 bl:(HR 0 [] names).length≤1000
theorem NmG.of {names:List (List Tag)}(h:NmI names) (h2:NsD names):NmG names:=⟨by have:=h.len; omega,h2,T0 h h2⟩
theorem NmG.sz {names:List (List Tag)}(h:NmG names):∀ n∈names,HA n:=fun n hn=>(h.nd n hn).sz
theorem PZ {names:List (List Tag)}(h:∀ (i j:Nat) (x y:List Tag),i< j→names[i]? = some x→names[j]? = some y→text x≠text y):(names.map text).Nodup:=by
 unfold List.Nodup
 rw [List.pairwise_iff_getElem]
 intro i j hi hj hij
 rw [List.getElem_map,List.getElem_map]
 exact h i j _ _ hij (AU _) (AU _)
def UB (names:List (List Tag)) (k:Nat):Prop:=∀ j n,j< k→names[j]? = some n→As n=true∧Dd n 0 names=j
theorem YK (names:List (List Tag)):UB names 0:=fun j _ h=>absurd h AB
theorem Sa {names:List (List Tag)}{k:Nat}{n:List Tag}(h:UB names k) (hn:names[k]? = some n) (h1:As n=true) (h2:Dd n 0 names+1=(k:Int)+1):UB names (k+1):=fun j m hj hm=>by
 by_cases e:j=k
 ·subst e
  rw [hn] at hm
  cases hm
  exact ⟨h1,by omega⟩
 ·exact h j m AB hm
theorem Rk {names:List (List Tag)}{k:Nat}{n:List Tag}(hn:names[k]? = some n) (h:As n=false∨Dd n 0 names+1≠(k:Int)+1):false=nmB names:=(Oe (fun hI=>Vy hI hn h)).symm
theorem UC {names:List (List Tag)}{k:Nat}(h:UB names k) (hk:names.length≤k):decide ((names.length:Int)≤6)=nmB names:=by
 unfold nmB
 have h1:names.all As=true:=List.all_eq_true.2 (fun n hn=>by
  obtain ⟨j,hj⟩:=List.mem_iff_getElem?.1 hn
  exact (h j n (by have:=(List.getElem?_eq_some_iff.1 hj).1; omega) hj).1)
 have h2:(names.map text).Nodup:=PZ (fun i j x y hij hx hy e=>by
  have hj:=(List.getElem?_eq_some_iff.1 hy).1
  have a:=h i x AB hx
  have b:=h j y AB hy
  have:=MA a.1 b.1 e
  subst this
  omega)
 rw [h1,decide_eq_true h2,Bool.and_true,Bool.and_true,decide_eq_decide]
 omega
def okS (names:List (List Tag)) (k:Nat):Prop:=∀ j n,j< k→names[j]? = some n→As n=true∧∀ i m,i< j→names[i]? = some m→text n≠text m
theorem Zf (names:List (List Tag)):okS names 0:=fun j _ h=>absurd h AB
def apart (names:List (List Tag)) (n:List Tag) (k:Nat):Prop:=∀ i m,i< k→names[i]? = some m→text n≠text m
theorem WK (names:List (List Tag)) (n:List Tag):apart names n 0:=fun j _ h=>absurd h AB
theorem Qo {names:List (List Tag)}{n m:List Tag}{k:Nat}(h:apart names n k) (hm:names[k]? = some m) (h2:(text n==text m)=false):apart names n (k+1):=fun i x hi hx=>by
 by_cases e:i=k
 ·subst e
  rw [hm] at hx
  cases hx
  exact beq_eq_false_iff_ne.1 h2
 ·exact h i x AB hx
theorem UD {names:List (List Tag)}{n:List Tag}{k j:Nat}(h:okS names k) (hn:names[k]? = some n) (h1:As n=true) (h2:apart names n j) (hj:k≤j):okS names (k+1):=fun i m hi hm=>by
 by_cases e:i=k
 ·subst e
  rw [hn] at hm
  cases hm
  exact ⟨h1,fun a b ha hb=>h2 a b AB hb⟩
 ·exact h i m AB hm
theorem WL {names:List (List Tag)}{k:Nat}(h:okS names k) (hk:names.length≤k) (hl:¬ (names.length:Int) > 6):NmI names :=
 ⟨by omega,fun n hn=>by
  obtain ⟨j,hj⟩:=List.mem_iff_getElem?.1 hn
  exact (h j n (by have:=(List.getElem?_eq_some_iff.1 hj).1; omega) hj).1,PZ (fun i j x y hij hx hy e=>(h j y (by have:=(List.getElem?_eq_some_iff.1 hy).1; omega) hy).2 i x hij hx e.symm)⟩
theorem Rl {names:List (List Tag)}(h:(names.length:Int) > 6):false=nmB names:=(Oe (fun hI=>by have:=hI.len; omega)).symm
theorem WM {names:List (List Tag)}{k:Nat}{n:List Tag}(hn:names[k]? = some n) (h:As n=false):false=nmB names:=(Oe (fun hI=>by rw [hI.ok n (AV hn)] at h; cases h)).symm
theorem WN {names:List (List Tag)}{k j:Nat}{n m:List Tag}(hn:names[k]? = some n) (hm:names[j]? = some m) (hj:j< k) (h:(text n==text m)=true):false=nmB names:=(Oe (fun hI=>Tb hI.nodup hn hm hj (eq_of_beq h))).symm
structure IxG (x:Idx):Prop where
 g:NmG x.names
 eq:NmI x.names→x=idxOf x.names
theorem IxG.ix {x:Idx}(h:IxG x) (h2:NmI x.names):IxI x:=⟨h.eq h2,h2⟩
structure SG (s:Sto):Prop where
 ix:IxG s.idx
 np:s.parts.length≤7
 part:∀ p∈s.parts,PrtI p
 nm2:s.mem.length≤21
 mem:∀ m∈s.mem,0≤m.id∧m.id≤7∧PJ m.row
theorem SG.pt {s:Sto}(h:SG s) (h3:s.parts.all (fun p=>BT p s.idx.names.length)=true):∀ p∈s.parts,PrtI p∧Ai p=true:=fun p hp=>⟨h.part p hp,Ef (List.all_eq_true.1 h3 p hp)⟩
theorem SG.of {s:Sto}(h:SD s):SG s:=⟨⟨NmG.of h.nm h.nd,fun _=>h.idx⟩,by have:=h.np; omega,h.part,h.nm2,h.mem⟩
theorem SG.sd {s:Sto}(h:SG s) (h2:nmB s.idx.names=true) (h3:s.parts.length≤6):SD s:=⟨h.ix.eq (Cu.1 h2),Cu.1 h2,h.ix.g.nd,h3,h.part,h.nm2,h.mem⟩
end Go.Proofs.YtcginoabkicdiaaGreat
