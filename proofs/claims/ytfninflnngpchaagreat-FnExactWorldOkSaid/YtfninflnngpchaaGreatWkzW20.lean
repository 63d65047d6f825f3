/- proofs; no conditions -/
import Derived.Test.YtfninflnngpchaaGreatWkzKw
import Derived.Test.YtfninflnngpchaaGreatWkzSl
open Go.Proofs.Tryz
set_option linter.unusedVariables false
set_option linter.unusedSimpArgs false
namespace Go.Proofs.YtfninflnngpchaaGreat
open Go.Sort
structure SX where
 p:Pst
 a:Option Addr
 n:Nat
 c:Nat
def DB (x:SX):List Value:=[.string (bs x.p.tag.key),.string (bs x.p.tag.val),.slice x.a x.n x.c]
instance:Inhabited SX:=⟨⟨⟨⟨[],[]⟩,[]⟩,none,0,0⟩⟩
theorem P9 {α β:Type}:∀ {xs:List α}{R:Nat→α→β→Prop},(∀ i x,xs[i]? = some x→∃ y,R i x y)→∃ ys:List β,ys.length=xs.length∧∀ i x y,xs[i]? = some x→ys[i]? = some y→R i x y:=by
 intro xs
 induction xs with
 | nil=>intro R _; exact ⟨[],rfl,fun i x y hx=>by simp at hx⟩
 | cons x xs ih =>
   intro R h
   obtain ⟨y,hy⟩:=h 0 x rfl
   obtain ⟨ys,h1,h2⟩:=ih (R:=fun i=>R (i+1)) (fun i x hi=>h (i+1) x (by simpa using hi))
   refine ⟨y::ys,by simp [h1],fun i u v hu hv=>?_⟩
   cases i with
   | zero=>simp at hu hv; subst hu hv; exact hy
   | succ i=>exact h2 i u v (by simpa using hu) (by simpa using hv)
variable {w:World} {F:Nat→Prop}
theorem RR {r t n c:Nat}{xs:List Pst}(h:Own w r t F n c xs) :
 ∃ ys:List SX,ys.map SX.p=xs∧∀ (i:Nat) y,ys[i]? = some y→Rep.rep w (fun b=>F b∧b≠r) y.p (DB y)∧Has w ⟨r,i * 3,none⟩ (DB y):=by
 obtain ⟨ys,h1,h2⟩:=P9 (xs:=xs) (R:=fun i x (y:SX)=>y.p=x∧Rep.rep w (fun b=>F b∧b≠r) y.p (DB y)∧Has w ⟨r,i * 3,none⟩ (DB y)) (fun i x hx=>by
  obtain ⟨cs,hr,hh⟩:=h.elem i x hx
  have hr':=hr
  obtain ⟨a,m,d,rfl,h3⟩:=hr'
  exact ⟨⟨x,a,m,d⟩,rfl,hr,hh⟩)
 refine ⟨ys,?_,fun i y hy=>?_⟩
 ·apply List.ext_getElem?
  intro i
  rw [List.getElem?_map]
  cases hx:xs[i]? with
  | none =>
    have:=List.getElem?_eq_none_iff.1 hx
    rw [List.getElem?_eq_none AB]; rfl
  | some x =>
    have hl:=(List.getElem?_eq_some_iff.1 hx).1
    have hy:ys[i]? = some (ys[i]' AB):=AU _
    rw [hy,Option.map_some,(h2 i x _ hx hy).1]
 ·have hl:=(List.getElem?_eq_some_iff.1 hy).1
  have hx:xs[i]? = some (xs[i]' AB):=AU _
  exact (h2 i _ y hx hy).2
theorem QA {r t n c:Nat}{xs:List Pst}(h:Own w r t F n c xs){ys:List SX}(hy:∀ (i:Nat) y,ys[i]? = some y→Rep.rep w (fun b=>F b∧b≠r) y.p (DB y)∧Has w ⟨r,i * 3,none⟩ (DB y)) :
 HoldsK DB 3 w r 0 ys.toArray:=by
 intro j hj
 rw [size_flatK] at hj
 rw [get_flatK _ _ _ _ hj]
 have hj2:j / 3< ys.length:=by simp at hj; omega
 have h1:ys[j / 3]? = some (ys[j / 3]'hj2):=AU _
 have h2:=(hy _ _ h1).2 (j % 3) ((DB (ys[j / 3]'hj2))[j % 3]'(by show j % 3< 3; omega)) (AU _)
 rw [add_lit,show j / 3 * 3+j % 3=0+j by omega] at h2
 refine ⟨?_,?_⟩
 ·rw [h2]
  have e:(ys.toArray[j / 3]!)=ys[j / 3]'hj2:=by simp [hj2]
  rw [e,getElem!_pos (DB (ys[j / 3]'hj2)) (j % 3) (by show j % 3< 3; omega)]
  rfl
 ·obtain ⟨cur,hc,_⟩:=h.row
  simp [World.frozen?,hc]
theorem ltX (x y:SX):ltOf (fun x y:SX=>IV x.p y.p) x y=BO x.p.tag y.p.tag:=by
 unfold ltOf
 rw [Bool.eq_iff_iff,decide_eq_true_iff]
 exact Fh _ _
theorem RS:SWO (ltOf fun x y:SX=>IV x.p y.p) where
 irrefl x:=by rw [ltX]; exact Dp _
 trans x y z h1 h2:=by rw [ltX] at *; exact Bw h1 h2
 ntrans x y z h1 h2:=by
  rw [ltX] at *
  cases h3:BO x.p.tag z.p.tag with
  | false=>rfl
  | true =>
    cases h4:BO y.p.tag x.p.tag with
    | true=>have:=Bw h4 h3; rw [h2] at this; cases this
    | false=>have e:=GM h1 h4; rw [e,h2] at h3; cases h3
theorem RT (blk off size:Nat) (w:World):CmpLays Tryz.prog 179 #[] DB 3 (fun x y:SX=>IV x.p y.p) blk off size w:=fun m os dk _ x y =>
 (Qx x.p.tag y.p.tag (.slice x.a x.n x.c) (.slice y.a y.n y.c) _).mono fun e w' ⟨r,h1,h2,q,os',h3⟩=>⟨by rw [h1,h2]; rfl,q,os',h3⟩
theorem Dq {r n c:Nat}{xs0:List Pst}(ho:Own w r 214 F n c xs0) (hn:n≤1100000) :
 Calls Tryz.prog 178 [.slice (some ⟨r,0,none⟩) n c,.func (.func 179) #[] #[]].toArray w (Ad fun rv w'=>rv=.tuple #[]∧∃ zs,zs.Perm xs0∧zs.Pairwise Le∧Own w' r 214 F n c zs∧Chg (one r) w w'):=by
 obtain ⟨ys,hp,hy⟩:=RR ho
 have hlen:n=ys.toArray.size:=by rw [ho.len,← hp]; simp
 have hH:=QA ho hy
 have hcall:=AnyQ.slices_SortFunc RQ 3 Tryz.isAgg214 Tryz.sizeOf214 DB (fun _=>rfl) (fun x v hv=>by simp [DB] at hv; rcases hv with rfl | rfl | rfl <;> rfl) (fun x y=>IV x.p y.p) RS 179 #[] r 0 c ys.toArray w
  (enters_of func179 AA rfl) (RT r 0 _ w) hH ho.lt AB
 rw [← hlen] at hcall
 refine hcall.mono ?_
 rintro e w' ⟨rfl,d',m,os,hperm,hsort,rfl⟩
 obtain ⟨hsz,_,hpe⟩:=hperm
 have hl:d'.size=n:=by rw [hsz,hlen]
 have hpl:d'.toList.Perm ys:=by
  have e1:d'.extract 0 n=d':=by rw [← hl]; simp
  have e2:ys.toArray.extract 0 n=ys.toArray:=by rw [hlen]; simp
  rw [e1,e2] at hpe
  simpa using hpe
 have hK:HoldsK DB 3 (sortWorldK DB 3 w r 0 m d' os) r 0 d':=by
  unfold sortWorldK
  refine holdsK_grow DB 3 _ os r 0 d' ?_ (holdsK_putRowK DB 3 _ r 0 ys.toArray d' (holdsK_ahead DB 3 w m r 0 _ hH) hsz)
  show r< ((Sort.ahead w m).heap.modify r _).size
  rw [Array.size_modify]
  exact ho.lt
 have hblk:∀ k,k< w.heap.size→k≠r→(sortWorldK DB 3 w r 0 m d' os).heap[k]? = w.heap[k]? := fun k hk hr=>by
  show ((w.heap.modify r _)++os)[k]? = _
  rw [Array.getElem?_append_left (by rw [Array.size_modify]; exact hk),Array.getElem?_modify,if_neg (fun e=>hr e.symm)]
 have hx:Chg (one r) w (sortWorldK DB 3 w r 0 m d' os):=⟨rfl,rfl,rfl,by
  show _≤((w.heap.modify r _)++os).size
  rw [Array.size_append,Array.size_modify]; omega,fun k hk hn=>hblk k hk hn⟩
 refine ⟨_,rfl,rfl,d'.toList.map SX.p,?_,?_,⟨by simp [hl],ho.le,ho.cap,?_,fun i x hi=>?_⟩,hx⟩
 ·rw [← hp]; exact hpl.map SX.p
 ·rw [List.pairwise_map,List.pairwise_iff_getElem]
  intro i j hi hj hij
  have h1:=hsort i j (Nat.zero_le _) hij (by rw [← hl]; simpa using hj)
  rw [ltX] at h1
  simp only [Array.length_toList] at hi hj
  rw [getElem!_pos d' j hj,getElem!_pos d' i hi] at h1
  unfold Le
  rw [Fh]
  simp only [Array.getElem_toList]
  rw [h1]
  simp
 ·obtain ⟨cur,hc1,hc2⟩:=ho.row
  refine ⟨putCells id 0 (flatK DB 3 d') cur,?_,by simp [putCells,hc2]⟩
  show ((w.heap.modify r _)++os)[r]? = _
  rw [Array.getElem?_append_left (by rw [Array.size_modify]; exact ho.lt),Array.getElem?_modify,if_pos rfl,hc1]
  rfl
 ·rw [List.getElem?_map] at hi
  cases hy2:d'.toList[i]? with
  | none=>rw [hy2] at hi; cases hi
  | some y =>
    rw [hy2] at hi
    simp only [Option.map_some,Option.some.injEq] at hi
    subst hi
    have hi2:i< d'.size:=by simpa using (List.getElem?_eq_some_iff.1 hy2).1
    obtain ⟨j,hj⟩:=List.getElem?_of_mem (hpl.mem_iff.1 (AV hy2))
    refine ⟨DB y,Rep.frame (hy j y hj).1 (fun b hb hF=>⟨hF,hblk b hb hF.2⟩),fun k u hu=>?_⟩
    have hk:k< 3:=(List.getElem?_eq_some_iff.1 hu).1
    have h1:=(hK.cell hi2 hk).1
    have e1:d'[i]! = y:=by
     rw [getElem!_pos d' i hi2]
     have:=(List.getElem?_eq_some_iff.1 hy2).2
     simpa using this
    have e2:(DB y)[k]! = u:=by
     rw [getElem!_pos (DB y) k hk]
     exact (List.getElem?_eq_some_iff.1 hu).2
    rw [e1,e2] at h1
    rw [add_lit,← h1]
    show World.cell? _ ⟨r,i * 3+k,none⟩=World.cell? _ ⟨r,0+i * 3+k,none⟩
    rw [Nat.zero_add]
end Go.Proofs.YtfninflnngpchaaGreat
namespace Go.Proofs.YtfninflnngpchaaGreat
structure RepP (xs:List Pst) (L:Tag→List Int):Prop where
 nd:(xs.map Pst.tag).Nodup
 el:∀ x∈xs,x.ids=L x.tag∧x.ids≠[]
 all:∀ t,L t≠[]→∃ x∈xs,x.tag=t
theorem RepP.add {xs:List Pst}{L:Tag→List Int}(h:RepP xs L) (k:Int) (t:Tag):RepP (C3 k xs t) (fun u=>L u++(if u=t then [k] else [])):=by
 rcases GL t xs 0 with ⟨h1,h2⟩ | ⟨h1,h2,x,h3,h4⟩
 ·have hn:Av t 0 xs< 0:=by omega
  have hL:L t=[]:=by
   by_cases he:L t=[]
   ·exact he
   ·obtain ⟨x,hx,hxt⟩:=h.all t he
    exact absurd hxt (h2 x hx)
  rw [Fe hn]
  refine ⟨?_,fun x hx=>?_,fun u hu=>?_⟩
  ·rw [List.map_append]
   refine List.nodup_append.2 ⟨h.nd,by simp,fun a ha b hb=>?_⟩
   simp at hb
   subst hb
   obtain ⟨x,hx,rfl⟩:=List.mem_map.1 ha
   exact h2 x hx
  ·rcases List.mem_append.1 hx with hx | hx
   ·have:=h.el x hx
    have hne:=h2 x hx
    rw [if_neg hne,List.append_nil]
    exact this
   ·simp at hx
    subst hx
    simp [hL]
  ·by_cases hut:u=t
   ·exact ⟨⟨t,[k]⟩,by simp,hut.symm⟩
   ·rw [if_neg hut,List.append_nil] at hu
    obtain ⟨x,hx,hxu⟩:=h.all u hu
    exact ⟨x,by simp [hx],hxu⟩
 ·have hn:¬ Av t 0 xs< 0:=by omega
  rw [Nat.sub_zero] at h3
  rw [Ff hn h3]
  generalize (Av t 0 xs).toNat=i at h3
  obtain ⟨hil,hie⟩:=List.getElem?_eq_some_iff.1 h3
  have hmap:(xs.set i ⟨x.tag,x.ids++[k]⟩).map Pst.tag=xs.map Pst.tag:=by
   rw [List.map_set]
   have h5:(xs.map Pst.tag)[i]'(by simpa using hil)=x.tag:=by simp [hie]
   have h6:=List.set_getElem_self (show i< (xs.map Pst.tag).length by simpa using hil)
   rw [h5] at h6
   exact h6
  refine ⟨by rw [hmap]; exact h.nd,fun y hy=>?_,fun u hu=>?_⟩
  ·obtain ⟨j,hj,hjy⟩:=List.mem_iff_getElem.1 hy
   rw [List.getElem_set] at hjy
   have hj2:j< xs.length:=by simpa using hj
   split at hjy
   ·subst hjy
    have:=h.el x (AV h3)
    simp only
    rw [if_pos h4,this.1]
    exact ⟨rfl,by simp⟩
   ·rename_i hij
    have hym:y∈xs:=hjy▸List.getElem_mem hj2
    have hne:¬ y.tag=t:=fun e=>hij (by
     have h5:(xs.map Pst.tag)[i]'(by simpa using hil)=(xs.map Pst.tag)[j]'(by simpa using hj2):=by simp [hie,hjy,h4,e]
     exact (List.getElem_inj (h₀:=by simpa using hil) (h₁:=by simpa using hj2) h.nd).1 h5)
    rw [if_neg hne,List.append_nil]
    exact h.el y hym
  ·have key:∃ y∈xs,y.tag=u:=by
    by_cases hut:u=t
    ·exact ⟨x,AV h3,h4.trans hut.symm⟩
    ·rw [if_neg hut,List.append_nil] at hu
     exact h.all u hu
   obtain ⟨y,hy,hyu⟩:=key
   have hm:u∈(xs.set i ⟨x.tag,x.ids++[k]⟩).map Pst.tag:=by rw [hmap]; exact List.mem_map.2 ⟨y,hy,hyu⟩
   obtain ⟨z,hz,hzu⟩:=List.mem_map.1 hm
   exact ⟨z,hz,hzu⟩
theorem RepP.congr {xs:List Pst}{L L':Tag→List Int}(h:RepP xs L) (e:∀ t,L t=L' t):RepP xs L':=by
 have:L=L':=funext e
 rw [← this]; exact h
theorem RepP.name (k:Int):∀ (n:List Tag) (xs:List Pst) (L:Tag→List Int),n.Nodup→RepP xs L→RepP (n.foldl (C3 k) xs) (fun u=>L u++(if has n u then [k] else [])):=by
 intro n
 induction n with
 | nil=>intro xs L _ h; exact h.congr (fun t=>by simp [has])
 | cons t ts ih =>
   intro xs L hn h
   rw [List.nodup_cons] at hn
   refine (ih _ _ hn.2 (h.add k t)).congr (fun u=>?_)
   rw [List.append_assoc]
   congr 1
   by_cases hu:u=t
   ·subst hu
    have:has ts u=false:=by
     unfold has
     rw [List.any_eq_false]
     intro y hy e
     exact hn.1 (by rw [← eq_of_beq e]; exact hy)
    rw [this]
    simp [has]
   ·have:(t==u)=false:=by rw [beq_eq_false_iff_ne]; exact fun e=>hu e.symm
    simp only [if_neg hu,List.nil_append,has,List.any_cons,this,Bool.false_or]
    rfl
theorem RepP.bld:∀ (ns:List (List Tag)) (i:Nat) (xs:List Pst) (L:Tag→List Int),(∀ n∈ns,n.Nodup)→RepP xs L→RepP (EX i xs ns) (fun u=>L u++DK u i ns):=by
 intro ns
 induction ns with
 | nil=>intro i xs L _ h; exact h.congr (fun t=>by simp [DK])
 | cons n ns ih =>
   intro i xs L hn h
   refine (ih (i+1) _ _ (fun m hm=>hn m (by simp [hm])) (RepP.name _ n xs L (hn n AD) h)).congr (fun u=>?_)
   rw [List.append_assoc,DK]
theorem RepP.RU {names:List (List Tag)}(h:NmI names):RepP (EX 0 [] names) (ids names) :=
 (RepP.bld names 0 [] (fun _=>[]) (fun n hn=>(C2 (h.ok n hn)).1) ⟨by simp,by simp,by simp⟩).congr (fun u=>by unfold ids; simp)
theorem Nd {names:List (List Tag)}{t:Tag}(h:ids names t≠[]):∃ n∈names,t∈n:=by
 unfold ids at h
 have:∀ (ns:List (List Tag)) (i:Nat),DK t i ns≠[]→∃ n∈ns,t∈n:=by
  intro ns
  induction ns with
  | nil=>intro i h; simp [DK] at h
  | cons n ns ih =>
    intro i h
    rw [DK] at h
    by_cases hb:has n t=true
    ·refine ⟨n,by simp,?_⟩
     unfold has at hb
     rw [List.any_eq_true] at hb
     obtain ⟨y,hy,e⟩:=hb
     rw [← eq_of_beq e]; exact hy
    ·rw [if_neg hb,List.nil_append] at h
     obtain ⟨m,hm,ht⟩:=ih (i+1) h
     exact ⟨m,by simp [hm],ht⟩
 exact this names 0 h
theorem Nf (k:Int) (xs:List Pst) (t:Tag):(C3 k xs t).length≤xs.length+1:=by
 rcases GL t xs 0 with ⟨g1,_⟩ | ⟨g1,g2,y,g3,g4⟩
 ·rw [Fe AB]; simp
 ·rw [Nat.sub_zero] at g3
  rw [Ff AB g3]; simp
theorem Ng (k:Int):∀ (n:List Tag) (xs:List Pst),(n.foldl (C3 k) xs).length≤xs.length+n.length:=by
 intro n
 induction n with
 | nil=>intro xs; simp
 | cons t n ih =>
   intro xs
   have h1:=ih (C3 k xs t)
   have h2:=Nf k xs t
   simp only [List.foldl_cons,List.length_cons]
   omega
theorem O6:∀ (names:List (List Tag)) (i:Nat) (xs:List Pst),(∀ n∈names,n.length≤5)→(EX i xs names).length≤xs.length+5 * names.length:=by
 intro names
 induction names with
 | nil=>intro i xs _; simp [EX]
 | cons n names ih =>
   intro i xs h
   have h1:=ih (i+1) (n.foldl (C3 ((i:Int)+1)) xs) (fun m hm=>h m (by simp [hm]))
   have h2:=Ng ((i:Int)+1) n xs
   have h3:=h n AD
   show (EX (i+1) (n.foldl (C3 ((i:Int)+1)) xs) names).length≤_
   simp only [List.length_cons]
   omega
theorem Nh {names:List (List Tag)}(h:NmI names) (h2:NsD names):(EX 0 [] names).length≤1000:=by
 have h1:=O6 names 0 [] (fun n hn=>(h2 n hn).1)
 have h3:=h.len
 simp only [List.length_nil] at h1
 omega
theorem Hl {α:Type}{R:α→α→Prop}(hirr:∀ a,¬ R a a) (htr:∀ a b c,R a b→R b c→R a c):∀ (xs ys:List α),xs.Pairwise R→ys.Pairwise R→(∀ a,a∈xs↔a∈ys)→xs=ys:=by
 intro xs
 induction xs with
 | nil =>
   intro ys _ _ h
   cases ys with
   | nil=>rfl
   | cons y ys=>exact absurd ((h y).2 AD) AD
 | cons x xs ih =>
   intro ys hx hy h
   cases ys with
   | nil=>exact absurd ((h x).1 AD) AD
   | cons y ys =>
     rw [List.pairwise_cons] at hx hy
     have hxy:x=y:=by
      have h1:=(h x).1 AD
      have h2:=(h y).2 AD
      rcases List.mem_cons.1 h1 with h1 | h1
      ·exact h1
      ·rcases List.mem_cons.1 h2 with h2 | h2
       ·exact h2.symm
       ·exact absurd (htr _ _ _ (hy.1 x h1) (hx.1 y h2)) (hirr y)
     subst hxy
     congr 1
     refine ih ys hx.2 hy.2 (fun a=>⟨fun ha=>?_,fun ha=>?_⟩)
     ·rcases List.mem_cons.1 ((h a).1 (by simp [ha])) with rfl | h1
      ·exact absurd (hx.1 _ ha) (hirr _)
      ·exact h1
     ·rcases List.mem_cons.1 ((h a).2 (by simp [ha])) with rfl | h1
      ·exact absurd (hy.1 _ ha) (hirr _)
      ·exact h1
theorem KG {names:List (List Tag)}(h:NmI names) (_h2:NsD names){xs zs:List Pst}(hp:zs.Perm xs) (hs:zs.Pairwise Le) (he:xs=EX 0 [] names):(⟨names,zs⟩:Idx)=idxOf names:=by
 have hr:=RepP.RU h
 rw [← he] at hr
 unfold idxOf
 congr 1
 have hnd:(zs.map Pst.tag).Nodup:=(hp.map Pst.tag).nodup_iff.2 hr.nd
 have hz:zs.Pairwise (fun a b=>BO a.tag b.tag=true):=by
  rw [List.pairwise_iff_getElem] at hs ⊢
  intro i j hi hj hij
  have h1:=hs i j hi hj hij
  unfold Le at h1
  rw [Fh] at h1
  cases h3:BO zs[i].tag zs[j].tag with
  | true=>rfl
  | false =>
    have e:=GM h3 (by simpa using h1)
    have h5:(zs.map Pst.tag)[i]'(by simpa using hi)=(zs.map Pst.tag)[j]'(by simpa using hj):=by simpa using e
    have:=(List.getElem_inj (h₀:=by simpa using hi) (h₁:=by simpa using hj) hnd).1 h5
    omega
 refine Hl (R:=fun (a b:Pst)=>BO a.tag b.tag=true) (fun a ha=>by rw [Dp] at ha; cases ha) (fun a b c=>Bw) zs (Ay names) hz (D6 names) (fun p=>⟨fun hpz=>?_,fun hpp=>?_⟩)
 ·have g:=hr.el p (hp.mem_iff.1 hpz)
  obtain ⟨n,hn,ht⟩:=Nd (by rw [← g.1]; exact g.2:ids names p.tag≠[])
  have:=J9 (names:=names) ((C2 (h.ok n hn)).2 _ ht) (by rw [← g.1]; exact List.length_pos_iff.2 g.2)
  rw [← g.1] at this
  exact this
 ·obtain ⟨g1,g2,_⟩:=F9 hpp
  obtain ⟨x,hx,hxt⟩:=hr.all p.tag (by rw [← g1]; exact List.length_pos_iff.1 g2)
  have g:=hr.el x hx
  have:x=p:=(NB x p).2 ⟨hxt,by rw [g.1,hxt,g1]⟩
  exact this▸hp.mem_iff.2 hx
end Go.Proofs.YtfninflnngpchaaGreat
namespace Go.Proofs.YtfninflnngpchaaGreat
set_option maxRecDepth 100000
set_option maxHeartbeats 4000000
variable {w:World} {F:Nat→Prop} {a1:Option Addr} {n1 c1:Nat}
theorem Gx (names:List (List Tag)) (h1:RepS w F a1 n1 c1 names) (p0:names.length≤7) (p1:∀ n∈names,n.length≤5) (p2:(EX 0 [] names).length≤1000):Calls Tryz.prog 116 [.slice a1 n1 c1].toArray w (Ad fun rv w'=>(∃ (y:Idx),VS (ge w.heap.size) w' (y:Idx) rv∧(y.names=names∧(NmI names→NsD names→y=idxOf names)))∧Ext w w'):=by
 refine goT func116 ?_
 obtain ⟨rfl,dM,h1⟩:=h1.tp
 refine .s<|.g<|.np 41 [AH,AH] fun ae cQ bD bE aG cR=>?_
 have cS:=FB bD (Nat.le_refl _)
 replace h1:=(sn [] bE bD).g1 h1
 have aq:=bE
 refine .d<|.s<|.g<|.r 1<|.cl (DP names h1.ta AB (fun n hn=>by have:=p1 n hn; omega) (w:=cQ) (F:=all)) ?_
 rintro ee ag ⟨⟨bC,bV,bW,rfl,aH,bv⟩,b6⟩
 have b7:=al1 aG.lt
 have cT:Gb w.heap.size cQ.heap.size:=aq.size
 have dN:=Iw bv aG.lt
 have cU:=PU bv aq.size
 replace ⟨h1,aG,aq⟩:=(sz [ae] b6 bv).g3 h1 aG aq
 replace aH:=Own.take (s0:=w.heap.size) (M:=[ae]) aH b7 cT
 have dO:=aH.len; have dP:=aH.max
 have az:=aH.sl cU
 replace h1:=(sd ag [bC,ae] bC).g1 h1
 have cj:w.heap.size≤ag.heap.size:=aq.size
 replace az:RepS ag (nin (GN w.heap.size ag.heap.size ae) [ae]) _ _ _ _:=az.Qv.CN (fun b _ h=>⟨h,by simp; exact h.2.2⟩)
 have h1c:=h1.Pg; have hEc:=aq; have hb2c:=aG
 refine .ns 0 214 [] fun aM dH bF bG cV cW=>?_
 have cX:Cov nil ag aM:=HB bF (Nat.le_refl _)
 replace az:=(sn [ae] bG bF).g1 az
 have ar:=bG
 have ax:Own (α:=Pst) dH aM 214 (nin (ge w.heap.size) [aM,ae]) 0 0 []:=Own.DI cV
 refine .r 1<|.np 41 [AH,AH] fun af eg bw b8 cY cZ=>?_
 have c7:=A8 bw ax.lt
 have c8:=ar.cn bw
 replace ⟨az,ax,ar⟩:=(sn [aM,ae] b8 bw).g3 az ax ar
 refine .sc [vS bC bV bW,vS aM 0 0] cY fun eh b9 da db=>?_
 replace ⟨az,ax,ar⟩:=(so [af,aM,ae] b9).g3 az ax ar
 refine .d<|.s<|.s<|.g<|.r 3<|.d<|.b 0 ?_
 have hix:=IX.Qw (tX:=41) (tP:=214) (tI:=3) (s0:=w.heap.size) (s1:=ag.heap.size) cj (GN.lt (b2:=ae)) az.w1 da ax c7 (Cov.ge c8) (Cov.ge cX)
 have hE:=ar
 refine T.loop (X:=Nat × Nat × Nat × List RP × List Pst × List Nat) (aM,0,0,[],[],[]) (fun (r,c,k,ys,xs,rs)=>[(2,.pointer (some ⟨ae,0,none⟩)),(3,.pointer (some ⟨af,0,none⟩)),(13,.slice a1 names.length c1),(14,vI (names.length:Int)),(15,vI (k:Int))]) (fun (r,c,k,ys,xs,rs) w_=>Ext ag w_∧IX 41 214 3 w.heap.size ag.heap.size (GN w.heap.size ag.heap.size ae) w_ af r c (some ⟨bC,0,none⟩) bV bW names ys xs rs∧k≤names.length∧xs.length≤5 * k∧(∀ x∈xs,x.ids.length≤5 * k)∧EX k xs (names.drop k)=EX 0 [] names) (fun (r,c,k,ys,xs,rs)=>names.length - k) AA ⟨AA,AA,AA,AA,AA,trivial⟩ ⟨hE,hix,by omega,by simp,by simp,rfl⟩ ?_
 rintro ⟨r,c,k,ys,xs,rs⟩ e1_ ej ⟨hE,hix,hk,hxl,hil,hbl⟩ bX
 have hnm:=h1c.ext hE
 refine .s<|.g<|.bp ((k:Int)< (names.length:Int)) (fun de=>?_) (fun de=>?_)
 ·refine .d<|.s<|.ct<|.sk<|.s<|.b 1<|.s<|.g<|.r 1 ?_
  have df:k< names.length:=AB
  refine .ix k 1 hnm df ?_
  obtain ⟨am,aI⟩:∃ y,names[k]? = some y:=⟨_,AU AB⟩
  have dQ:=drop_at aI; have dF:=AV aI
  obtain ⟨_,⟨dI,ek,dJ,rfl,ck⟩,dh⟩:=hnm.elem k am aI
  have dj:=ck.len
  subst dj
  have dR:=ck.max
  refine .lh 0 dh<|.r 2<|.d<|.s<|.g<|.r 3<|.d<|.b 2 ?_
  have hEA:=hE; have en:=p1 am (AV aI); have hnl:=p0
  refine T.loop (X:=Nat × Nat × Nat × List RP × List Pst × List Nat) (r,c,0,ys,xs,rs) (fun (rq,cq,j,ac,ab,ai)=>[(2,.pointer (some ⟨ae,0,none⟩)),(3,.pointer (some ⟨af,0,none⟩)),(4,vI (k:Int)),(13,.slice a1 names.length c1),(14,vI (names.length:Int)),(15,vI (k:Int)),(20,.slice dI am.length dJ),(21,vI (am.length:Int)),(22,vI (j:Int))]) (fun (rq,cq,j,ac,ab,ai) w_=>Ext ag w_∧IX 41 214 3 w.heap.size ag.heap.size (GN w.heap.size ag.heap.size ae) w_ af rq cq (some ⟨bC,0,none⟩) bV bW names ac ab ai∧j≤am.length∧ab.length≤5 * k+j∧(∀ x∈ab,x.ids.length≤5 * k+j)∧(am.drop j).foldl (C3 ((k:Int)+1)) ab=am.foldl (C3 ((k:Int)+1)) xs) (fun (rq,cq,j,ac,ab,ai)=>am.length - j) AA ⟨AA,AA,AA,AA,AA,AA,AA,AA,AA,trivial⟩ ⟨hE,hix,by omega,by omega,fun x hx=>by have:=hil x hx; omega,rfl⟩ ?_
  rintro ⟨rq,cq,j,ac,ab,ai⟩ e2_ eB ⟨hE,hix,hj,cd,ao,hfl⟩ bz
  have dm:=ck.via hEA hE
  refine .s<|.g<|.bp ((j:Int)< (am.length:Int)) (fun dq=>?_) (fun dq=>.d<|.s<|.cf<|.x 2 rfl<|.ib 1<|.g<|.it ((k:Int)+1)<|.r 1<|.d<|bX (rq,cq,k+1,ac,ab,ai) _ _ ⟨AA,AA,AA,AA,AA,trivial⟩ ⟨hE,hix,by omega,by omega,fun x hx=>by have:=ao x hx; omega,Lx hbl (drop_at aI) (FY hfl AB)⟩ (by first | omega | (simp only []; omega)))
  refine .d<|.s<|.ct<|.sk<|.s<|.b 3<|.s<|.g ?_
  have dt:j< am.length:=AB
  refine .ix j 2 dm dt ?_
  obtain ⟨aa,aJ⟩:∃ y,am[j]? = some y:=⟨_,AU AB⟩
  have dS:=drop_at aJ; have dG:=AV aJ
  obtain ⟨_,rfl,du⟩:=dm.elem j aa aJ
  refine .lg 0 du<|.np 128 [.string (bs []),.string (bs [])] fun dv eC bH bI dw cm=>?_
  have co:∀ q_∈af::rq::ai,Nb dv q_:=fun q_ hq_=>A8 bH (hix.lt q_ hq_)
  have bJ:ag.heap.size≤dv:=Nat.le_trans hE.size (Nat.le_of_eq (Eq.symm bH))
  replace hix:=hix.ext bI
  replace hE:=hE.trans bI
  refine .sc [vT aa.key,vT aa.val] dw fun dx aN aA cp=>?_
  replace hix:=hix.one aN co bJ
  replace hE:=Chg.CG hE aN ⟨.inr bJ⟩
  refine .d<|.s<|.g<|.r 1<|.lb hix.box<|.r 1<|.cl (DQ ab aa (hix.rep.CN (F':=all) (fun _ _ _=>trivial)) aA (w:=dx) (F:=all)) ?_
  rintro dT bK ⟨rfl,aB⟩
  replace aA:=aA.ext aB
  replace hix:=hix.ext aB
  replace hE:=hE.trans aB
  refine .r 1<|.d<|.s<|.s<|.g<|.r 1<|.bp (Av aa 0 ab< 0) (fun cr=>?_) (fun cr=>?_)
  ·refine .d<|.ct<|.s<|.g<|.r 1<|.lb hix.box<|.r 2<|.d<|.g<|.r 1<|.lb hix.box<|.ln aA<|.r 1<|.ns 1 214 [vT aa.key,vT aa.val,AH] fun ay dU aO aP bL cu=>?_
   have bM:∀ q_∈af::rq::ai,Nb ay q_:=fun q_ hq_=>A8 aO (hix.lt q_ hq_)
   have cw:ag.heap.size≤ay:=Nat.le_trans hE.size (Nat.le_of_eq (Eq.symm aO))
   replace hix:=hix.ext aP
   replace hE:=hE.trans aP
   have ce:=hix.lx; have dy:=hix.lr; have hvl_:=bL.lt; have hge_r:=hix.new rq AJ; have cx:=hix.new af AI; have hEs:=hE.size
   refine RG.Eh (T:=39) (ty:=39) (y:=(⟨aa.key,aa.val,none,0,0⟩:RP)) hix.own bL AA AA rfl ⟨trivial,bM rq AJ⟩ AB fun ah cg dV cy bY aQ=>?_
   replace hE:=Chg.CG hE aQ ⟨.inr hge_r⟩
   refine .r 1<|.ss 1 (vS ah (ac.length+1) cg) (hix.box.chg aQ (Nb.one hix.ne)) fun bN aR cz cA=>?_
   replace hix:=hix.push (t:=⟨aa.key,aa.val⟩) (vb:=ay) hEs aQ cy bY bM cw hvl_ aR cz
   replace hE:=Chg.CG hE aR ⟨.inr cx⟩
   refine .d ?_
   obtain ⟨xi,hxi⟩:∃ q,(ab++[(⟨⟨aa.key,aa.val⟩,[]⟩:Pst)])[ac.length]? = some q:=⟨_,AU (by first | (simp; done) | (simp; omega))⟩
   obtain ⟨yi,hyi⟩:∃ q,(ac++[(⟨aa.key,aa.val,none,0,0⟩:RP)])[ac.length]? = some q:=⟨_,AU (by first | (simp; done) | (simp; omega))⟩
   obtain ⟨ri,hri⟩:∃ q,(ai++[ay])[ac.length]? = some q:=⟨_,AU (by first | (simp; done) | (simp; omega))⟩
   have hiy:ac.length< (ac++[(⟨aa.key,aa.val,none,0,0⟩:RP)]).length:=(List.getElem?_eq_some_iff.1 hyi).1
   have hl3_:af< bN.heap.size:=hix.lt _ AI; have hlr_:ah< bN.heap.size:=hix.lt _ AJ; have hn3_:=hix.ne3 hri; have hnr_:=hix.ner hri
   refine .gd (mtb [ri] bN.heap.size) 13 fun dz aS=>?_
   replace hix:=hix.ext aS
   replace hE:=hE.trans aS
   refine .r [0]<|.lb 1 hix.box (ED (all_cons hn3_ all_nil) hl3_)<|.r [2,3]<|.lb 4 hix.box (ED (all_cons hn3_ all_nil) hl3_)<|.r [5] ?_
   have cB:ac.length< (ac++[(⟨aa.key,aa.val,none,0,0⟩:RP)]).length:=AB
   refine GA.idx (i:=6) (b:=ah) (o:=0) ac.length (len:=(ac++[(⟨aa.key,aa.val,none,0,0⟩:RP)]).length) (z:=(ac.length:Int)) (sz:=3) AA AB cB rfl<|.r [7] ?_
   obtain ⟨_,rfl,aT⟩:=hix.own.elem ac.length yi hyi
   replace aT:Has dz ⟨ah,0+ac.length * Rep.sz RP,none⟩ [vT yi.key,vT yi.val,.slice yi.a yi.n yi.c]:=by rw [Nat.zero_add]; exact aT
   refine .lh 8 2 aT (ED (all_cons hnr_ all_nil) hlr_)<|.r [9]<|GA.int (i:=10) ((k:Int)+1) AA AB<|.go 11<|.ns 1 3 [vI ((k:Int)+1)] fun dW aU=>?_
   replace hix:=hix.ext aU
   replace hE:=hE.trans aU
   intro bO dX aV aW aX cC
   have cD:∀ q_∈af::ah::(ai++[ay]),Nb bO q_:=fun q_ hq_=>A8 aV (hix.lt q_ hq_)
   have dK:ag.heap.size≤bO:=Nat.le_trans hE.size (Nat.le_of_eq (Eq.symm aV))
   replace hix:=hix.ext aW
   replace hE:=hE.trans aW
   refine .go 12<|GE.append (T:=31) (ty:=31) (args:=[.slice yi.a yi.n yi.c,vS bO 1 1]) AA fun dY aC=>?_
   replace aX:=aX.ext aC
   replace hix:=hix.ext aC
   replace hE:=hE.trans aC
   have hyn:=(hix.el ac.length xi yi ri hxi hyi hri).2.2.n; have hyl:xi.ids.length≤5000000:=by have hm:=AV hxi; first | (have:=ao _ hm; omega) | (rcases List.mem_append.1 hm with hm | hm; (have:=ao _ hm; omega); (simp at hm; subst hm; simp))
   have bP:=hE.size; have hge_ri:=hix.new ri (IX.mi hri)
   obtain ⟨aK,bA,dZ,bQ,aY,bZ,aj⟩:=Gw.app (P:=Tryz.prog) (T:=31) (ty:=31) (hix.el ac.length xi yi ri hxi hyi hri).2.2 AA aX (cD ri (IX.mi hri)) AB
   refine ⟨_,_,bQ,Chg.toS aj (.inl AI),?_⟩
   replace hE:=Chg.CG hE aj ⟨.inr hge_ri⟩
   refine .d fun dA aD=>?_
   replace aj:=Chg.trans aj (Ext.chg aD)
   replace aY:=aY.ext aD
   replace hE:=hE.trans aD
   have cE:ac.length< (ac++[(⟨aa.key,aa.val,none,0,0⟩:RP)]).length:=AB
   refine RG.idx (b:=ah) (o:=0) ac.length (len:=(ac++[(⟨aa.key,aa.val,none,0,0⟩:RP)]).length) (i:=(ac.length:Int)) (sz:=3) AA AB cE rfl<|.r 1 ?_
   have bR:=K0 En hix.own aj (Nb.one (hix.ner hri))
   obtain ⟨_,rfl,aZ⟩:=bR.elem ac.length yi hyi
   replace aZ:Has dA ⟨ah,0+ac.length * Rep.sz RP,none⟩ [vT yi.key,vT yi.val,.slice yi.a yi.n yi.c]:=by rw [Nat.zero_add]; exact aZ
   refine RG.FA (t':=31) (i:=ac.length) (k:=2) (v:=vS aK (yi.n+1) bA) (cs:=[vT yi.key,vT yi.val,.slice yi.a yi.n yi.c]) (⟨yi.key,yi.val,some ⟨aK,0,none⟩,yi.n+1,bA⟩:RP) bR hyi aZ AA AA AA rfl fun d0 cF ba cG=>?_
   have hge_r2:=hix.new ah AJ
   replace hix:=hix.upd (i:=ac.length) (z:=(k:Int)+1) bP hxi hyi hri aj aY bZ ba (y':=(⟨yi.key,yi.val,some ⟨aK,0,none⟩,yi.n+1,bA⟩:RP)) rfl cF
   replace hE:=Chg.CG hE ba ⟨.inr hge_r2⟩
   refine .d<|.ib 3<|.g<|.it ((j:Int)+1)<|.r 1<|.d ?_
   have hxN:((ab++[(⟨⟨aa.key,aa.val⟩,[]⟩:Pst)]).set ac.length ⟨xi.tag,xi.ids++[(k:Int)+1]⟩)=C3 ((k:Int)+1) ab aa:=(NY hxi (by rw [← ce])).trans (Fe ‹_›).symm
   have hbd:=Fg ((k:Int)+1) ab aa (5 * k+j) cd ao; rw [← hxN] at hbd
   have hfs:=Cp hfl (drop_at aJ); rw [← hxN] at hfs
   exact bz (ah,cg,j+1,((ac++[(⟨aa.key,aa.val,none,0,0⟩:RP)]).set ac.length (⟨yi.key,yi.val,some ⟨aK,0,none⟩,yi.n+1,bA⟩:RP)),((ab++[(⟨⟨aa.key,aa.val⟩,[]⟩:Pst)]).set ac.length ⟨xi.tag,xi.ids++[(k:Int)+1]⟩),((ai++[ay]).set ac.length aK)) _ _ ⟨AA,AA,AA,AA,AA,AA,AA,AA,AA,trivial⟩ ⟨hE,hix,by omega,by have:=hbd.1; omega,fun x hx=>by have:=hbd.2 x hx; omega,hfs⟩ (by first | omega | (simp only []; omega))
  refine .d<|.cf<|.sk ?_
  have ce:=hix.lx; have dy:=hix.lr; have hib:=Lw (t:=aa) (xs:=ab) ‹_›
  obtain ⟨xi,hxi⟩:∃ q,ab[(Av aa 0 ab).toNat]? = some q:=⟨_,AU AB⟩
  obtain ⟨yi,hyi⟩:∃ q,ac[(Av aa 0 ab).toNat]? = some q:=⟨_,AU AB⟩
  obtain ⟨ri,hri⟩:∃ q,ai[(Av aa 0 ab).toNat]? = some q:=⟨_,AU AB⟩
  have hiy:(Av aa 0 ab).toNat< ac.length:=(List.getElem?_eq_some_iff.1 hyi).1
  have hl3_:af< bK.heap.size:=hix.lt _ AI; have hlr_:rq< bK.heap.size:=hix.lt _ AJ; have hn3_:=hix.ne3 hri; have hnr_:=hix.ner hri
  refine .gd (mtb [ri] bK.heap.size) 13 fun dB bd=>?_
  replace hix:=hix.ext bd
  replace hE:=hE.trans bd
  refine .r [0]<|.lb 1 hix.box (ED (all_cons hn3_ all_nil) hl3_)<|.r [2,3]<|.lb 4 hix.box (ED (all_cons hn3_ all_nil) hl3_)<|.r [5] ?_
  have cH:(Av aa 0 ab).toNat< ac.length:=AB
  refine GA.idx (i:=6) (b:=rq) (o:=0) ((Av aa 0 ab).toNat) (len:=ac.length) (z:=Av aa 0 ab) (sz:=3) AA AB cH rfl<|.r [7] ?_
  obtain ⟨_,rfl,bg⟩:=hix.own.elem ((Av aa 0 ab).toNat) yi hyi
  replace bg:Has dB ⟨rq,0+((Av aa 0 ab).toNat) * Rep.sz RP,none⟩ [vT yi.key,vT yi.val,.slice yi.a yi.n yi.c]:=by rw [Nat.zero_add]; exact bg
  refine .lh 8 2 bg (ED (all_cons hnr_ all_nil) hlr_)<|.r [9]<|GA.int (i:=10) ((k:Int)+1) AA AB<|.go 11<|.ns 1 3 [vI ((k:Int)+1)] fun d3 bh=>?_
  replace hix:=hix.ext bh
  replace hE:=hE.trans bh
  intro bS d4 bi bj bk cI
  have cJ:∀ q_∈af::rq::ai,Nb bS q_:=fun q_ hq_=>A8 bi (hix.lt q_ hq_)
  have dL:ag.heap.size≤bS:=Nat.le_trans hE.size (Nat.le_of_eq (Eq.symm bi))
  replace hix:=hix.ext bj
  replace hE:=hE.trans bj
  refine .go 12<|GE.append (T:=31) (ty:=31) (args:=[.slice yi.a yi.n yi.c,vS bS 1 1]) AA fun d5 aE=>?_
  replace bk:=bk.ext aE
  replace hix:=hix.ext aE
  replace hE:=hE.trans aE
  have hyn:=(hix.el (Av aa 0 ab).toNat xi yi ri hxi hyi hri).2.2.n; have hyl:xi.ids.length≤5000000:=by have hm:=AV hxi; first | (have:=ao _ hm; omega) | (rcases List.mem_append.1 hm with hm | hm; (have:=ao _ hm; omega); (simp at hm; subst hm; simp))
  have bP:=hE.size; have hge_ri:=hix.new ri (IX.mi hri)
  obtain ⟨aL,bB,d6,bT,bm,b0,ak⟩:=Gw.app (P:=Tryz.prog) (T:=31) (ty:=31) (hix.el (Av aa 0 ab).toNat xi yi ri hxi hyi hri).2.2 AA bk (cJ ri (IX.mi hri)) AB
  refine ⟨_,_,bT,Chg.toS ak (.inl AI),?_⟩
  replace hE:=Chg.CG hE ak ⟨.inr hge_ri⟩
  refine .d fun dC aF=>?_
  replace ak:=Chg.trans ak (Ext.chg aF)
  replace bm:=bm.ext aF
  replace hE:=hE.trans aF
  have cK:(Av aa 0 ab).toNat< ac.length:=AB
  refine RG.idx (b:=rq) (o:=0) ((Av aa 0 ab).toNat) (len:=ac.length) (i:=Av aa 0 ab) (sz:=3) AA AB cK rfl<|.r 1 ?_
  have bU:=K0 En hix.own ak (Nb.one (hix.ner hri))
  obtain ⟨_,rfl,bn⟩:=bU.elem ((Av aa 0 ab).toNat) yi hyi
  replace bn:Has dC ⟨rq,0+((Av aa 0 ab).toNat) * Rep.sz RP,none⟩ [vT yi.key,vT yi.val,.slice yi.a yi.n yi.c]:=by rw [Nat.zero_add]; exact bn
  refine RG.FA (t':=31) (i:=((Av aa 0 ab).toNat)) (k:=2) (v:=vS aL (yi.n+1) bB) (cs:=[vT yi.key,vT yi.val,.slice yi.a yi.n yi.c]) (⟨yi.key,yi.val,some ⟨aL,0,none⟩,yi.n+1,bB⟩:RP) bU hyi bn AA AA AA rfl fun d7 cL bo cM=>?_
  have hge_r2:=hix.new rq AJ
  replace hix:=hix.upd (i:=(Av aa 0 ab).toNat) (z:=(k:Int)+1) bP hxi hyi hri ak bm b0 bo (y':=(⟨yi.key,yi.val,some ⟨aL,0,none⟩,yi.n+1,bB⟩:RP)) rfl cL
  replace hE:=Chg.CG hE bo ⟨.inr hge_r2⟩
  refine .d<|.ib 3<|.g<|.it ((j:Int)+1)<|.r 1<|.d ?_
  have hxN:(ab.set ((Av aa 0 ab).toNat) ⟨xi.tag,xi.ids++[(k:Int)+1]⟩)=C3 ((k:Int)+1) ab aa:=(Ff ‹_› hxi).symm
  have hbd:=Fg ((k:Int)+1) ab aa (5 * k+j) cd ao; rw [← hxN] at hbd
  have hfs:=Cp hfl (drop_at aJ); rw [← hxN] at hfs
  exact bz (rq,cq,j+1,(ac.set ((Av aa 0 ab).toNat) (⟨yi.key,yi.val,some ⟨aL,0,none⟩,yi.n+1,bB⟩:RP)),(ab.set ((Av aa 0 ab).toNat) ⟨xi.tag,xi.ids++[(k:Int)+1]⟩),(ai.set ((Av aa 0 ab).toNat) aL)) _ _ ⟨AA,AA,AA,AA,AA,AA,AA,AA,AA,trivial⟩ ⟨hE,hix,by omega,by have:=hbd.1; omega,fun x hx=>by have:=hbd.2 x hx; omega,hfs⟩ (by first | omega | (simp only []; omega))
 refine .d<|.s<|.cf<|.x 0 rfl<|.s<|.g<|.r 1 ?_
 have hEw:=hEc.trans hE; have hb2n:=hb2c.ext hE; have hb2l:=hb2c.lt; have hoP:=hix.Ph hb2l; have hNn:=hix.NX; have hb3n:=hix.box; have hn3r:=hix.ne
 have d8:Nb af ae:=Iw (hix.new _ AI) hb2l; have d9:Nb r ae:=Iw (hix.new _ AJ) hb2l
 have eD:Gb w.heap.size af:=Nat.le_trans cj (hix.new _ AI); have hgr:Gb w.heap.size r:=Nat.le_trans cj (hix.new _ AJ)
 have hbe:=NZ hbl AB
 refine .lb hb3n<|.cl (Dq hoP (Nat.le_trans (by rw [hix.lx,hbe]; exact p2) (by decide:1000≤1100000))) ?_
 rintro ec dD ⟨rfl,cN,hperm_,hsort_,bq,br⟩
 replace ⟨hNn,hb3n,hb2n⟩:=(so [af,r,ae] br).g3 hNn hb3n hb2n
 replace hEw:Chg nil w dD:=Chg.CG hEw br ⟨.inr hgr⟩
 refine .d<|.s<|.g<|.ln hb3n<|.sc [vS bC bV bW,vS r ys.length c] hb2n fun ci bu cO cP=>?_
 replace ⟨hNn,bq,hb3n⟩:=(so [af,r,ae] bu).g3 hNn bq hb3n
 replace hEw:Chg nil w ci:=Chg.CG hEw bu ⟨.inr cS⟩
 refine .d ?_
 have dE:=bq.sl hgr
 replace hNn:=(sd ci [af,r,ae] r).g1 hNn
 exact .rb func116 results116 cO ⟨⟨((⟨names,cN⟩:Idx):Idx),⟨_,rfl,⟨_,_,_,_,_,_,rfl,hNn.w1,dE.w1⟩⟩,(by exact ⟨rfl,fun a b=>KG a b hperm_ hsort_ hbe⟩)⟩,hEw⟩
theorem Hm (names:List (List Tag)) (h1:RepS w F a1 n1 c1 names) (p0:NmI names) (p1:NsD names):Calls Tryz.prog 116 [.slice a1 n1 c1].toArray w (Ad fun rv w'=>VS (ge w.heap.size) w' (idxOf names:Idx) rv∧Ext w w'):=by
 refine (Gx names h1 (by have:=p0.len; omega) (fun n hn=>(p1 n hn).1) (Nh p0 p1)).mono ?_
 rintro e w' ⟨v,rfl,⟨y,hv,hy⟩,hx⟩
 exact ⟨v,rfl,by rw [← hy.2 p0 p1]; exact hv,hx⟩
end Go.Proofs.YtfninflnngpchaaGreat
namespace Go.Proofs.YtfninflnngpchaaGreat
theorem QB {t:Tag}(h:Ba t=true):∃ x y,t=⟨[x],[y]⟩:=by
 obtain ⟨k,v⟩:=t
 simp only [Ba,AW] at h
 have h1:k.length=1:=Co h.1
 have h2:v.length=1:=Co h.2
 match k,v,h1,h2 with
 | [x],[y],_,_=>exact ⟨x,y,rfl⟩
theorem MO:∀ (n m:List Tag) (i:Nat),(∀ t∈n,Ba t=true)→(∀ t∈m,Ba t=true)→EQ i n=EQ i m→n=m:=by
 intro n
 induction n with
 | nil =>
   intro m i _ hm h
   cases m with
   | nil=>rfl
   | cons t ts =>
     obtain ⟨x,y,rfl⟩:=QB (hm t AD)
     simp [EQ,I2] at h
 | cons t ts ih =>
   intro m i hn hm h
   obtain ⟨x,y,rfl⟩:=QB (hn t AD)
   cases m with
   | nil=>simp [EQ,I2] at h
   | cons u us =>
     obtain ⟨x',y',rfl⟩:=QB (hm u AD)
     simp only [EQ,I2,List.append_assoc] at h
     have h2:=List.append_cancel_left h
     simp only [List.cons_append,List.nil_append,List.cons.injEq,true_and] at h2
     obtain ⟨rfl,rfl,h3⟩:=h2
     rw [ih us (i+1) (fun t ht=>hn t (by simp [ht])) (fun t ht=>hm t (by simp [ht])) h3]
theorem Gp {n:List Tag}(h:Aj n=true):∀ t∈n,Ba t=true:=by
 simp only [Aj,AW] at h
 exact D5 n none h.1
theorem KH {n m:List Tag}(hn:Aj n=true) (hm:Aj m=true) (h:text n=text m):n=m:=MO n m 0 (Gp hn) (Gp hm) h
theorem NsD.add {names:List (List Tag)}{n:List Tag}(h:NsD names) (hn:NmD n):NsD (names++[n]):=fun m hm=>by
 rcases List.mem_append.1 hm with hm | hm
 ·exact h m hm
 ·simp at hm; rw [hm]; exact hn
theorem MP:∀ (is:List Int) (bs:List (List Row)) (o:Option Int),Ai o is bs=true→(∀ q,o=some q→∀ i∈is,q< i)∧∀ m,IP m is=(match is.getLast? with | some l=>if l > m then l else m | none=>m)∨is=[]:=by
 intro is
 induction is with
 | nil=>intro bs o _; exact ⟨fun _ _ i hi=>(by cases hi),fun m=>.inr rfl⟩
 | cons x xs ih =>
   intro bs o h
   cases bs with
   | nil=>simp [Ai] at h
   | cons b bs =>
     simp only [Ai,AW] at h
     obtain ⟨⟨⟨⟨_,h2⟩,_⟩,_⟩,h5⟩:=h
     obtain ⟨g1,g2⟩:=ih bs (some x) h5
     refine ⟨fun q hq i hi=>?_,fun m=>.inl ?_⟩
     ·subst hq
      have hqx:q< x:=by simpa using h2
      rcases List.mem_cons.1 hi with rfl | hi
      ·exact hqx
      ·have:=g1 x rfl i hi; omega
     ·unfold IP
      rcases g2 (if x > m then x else m) with g | g
      ·rw [g]
       cases hl:xs.getLast? with
       | none =>
         have:xs=[]:=List.getLast?_eq_none_iff.1 hl
         subst this
         simp
       | some l =>
         have hlm:=g1 x rfl l (List.mem_of_getLast? hl)
         have e:(x::xs).getLast? = some l:=by rw [List.getLast?_cons,hl]; rfl
         rw [e]
         simp only
         repeat' split
         all_goals omega
      ·subst g
       simp [IP]
theorem Hn {p:Prt}{n:Int}(h:Ac p=true) (h0:(p.ids.length:Int)≠0):Ax p n = !decide (maxOf p.ids > n):=by
 unfold Ax
 rw [h,Bool.true_and]
 unfold Ac at h
 simp only [AW,decide_eq_true_eq] at h
 match hi:p.ids,h.2 with
 | [],_=>rw [hi] at h0; simp at h0
 | x :: xs, hg =>
   cases hb:p.blocks with
   | nil=>rw [hb] at hg; simp [Ai] at hg
   | cons b bs =>
     rw [hb] at hg
     simp only [Ai,AW] at hg
     obtain ⟨g1,g2⟩:=MP xs bs (some x) hg.2
     show (match (x::xs).getLast? with | some i=>decide (i≤n) | none=>false) = !decide (IP x xs > n)
     rcases g2 x with g | g
     ·rw [g]
      cases hl:xs.getLast? with
      | none =>
        have:xs=[]:=List.getLast?_eq_none_iff.1 hl
        subst this
        simp only [List.getLast?_singleton]
        rw [Bool.eq_iff_iff]; simp
      | some l =>
        have hlm:=g1 x rfl l (List.mem_of_getLast? hl)
        have e:(x::xs).getLast? = some l:=by rw [List.getLast?_cons,hl]; rfl
        rw [e]
        simp only
        simp only [show l > x from hlm,if_true]
        rw [Bool.eq_iff_iff]; simp
     ·subst g
      simp only [List.getLast?_singleton,IP]
      rw [Bool.eq_iff_iff]; simp
theorem CT {p:Prt}{n:Int}(h:Ac p=false):Ax p n=false:=by unfold Ax; rw [h]; rfl
theorem CU {p:Prt}{n:Int}(h:(p.ids.length:Int)=0):Ax p n=false:=by
 have:p.ids=[]:=List.eq_nil_of_length_eq_zero AB
 unfold Ax; rw [this]; simp
theorem CV {p:Prt}{n:Int}(h:Ac p=true) (h0:(p.ids.length:Int)≠0) (h1:maxOf p.ids > n):Ax p n=false:=by rw [Hn h h0]; simp [h1]
theorem Ni {p:Prt}{n:Int}(h:Ac p=true) (h0:(p.ids.length:Int)≠0) (h1:¬ maxOf p.ids > n):Ax p n=true:=by rw [Hn h h0]; simp [h1]
theorem JC {p:Prt}{n:Int}(h:Ax p n=true):Ac p=true:=by
 unfold Ax at h
 simp only [AW] at h
 exact h.1
structure StoK (s:Sto):Prop where
 sd:SD s
 part:∀ p∈s.parts,PrtI p∧Ac p=true
 row:∀ m∈s.mem,BF m.row=true
 id:∀ m∈s.mem,1≤m.id∧m.id≤s.idx.names.length
 nm2:s.mem.length≤20
theorem StoK.of {s:Sto}(h:SD s) (hk:AZ s=true):StoK s:=by
 unfold AZ at hk
 simp only [AW,decide_eq_true_eq,List.all_eq_true] at hk
 obtain ⟨⟨⟨⟨_,h2⟩,h3⟩,h4⟩,_⟩:=hk
 refine ⟨h,fun p hp=>⟨h.part p hp,JC (h3 p hp)⟩,fun m hm=>?_,fun m hm=>?_,h2⟩
 ·have:=h4 m hm
  unfold BR at this
  simp only [AW] at this
  exact this.2
 ·have:=h4 m hm
  unfold BR at this
  simp only [AW] at this
  exact Bh this.1
theorem StoK.RV {s:Sto}(h:StoK s):StoI s:=⟨h.sd.idx,h.sd.nm,h.sd.np,h.sd.part,h.nm2,fun m hm=>⟨(h.id m hm).1,(h.id m hm).2,h.row m hm⟩⟩
theorem StoK.rw {s:Sto}(h4:s.mem.all (BR s.idx.names.length)=true):∀ m∈s.mem,BF m.row=true:=fun m hm=>by
 have:=List.all_eq_true.1 h4 m hm
 unfold BR at this
 simp only [AW] at this
 exact this.2
def KI (s:Sto) (id:Int):List Row:=if AZ s=true∧inR id 1 s.idx.names.length=true then rowsOf s id else []
theorem MQ {s:Sto}{id:Int}(h:AZ s=true) (h2:inR id 1 s.idx.names.length=true):KI s id=rowsOf s id:=by unfold KI; rw [if_pos ⟨h,h2⟩]
end Go.Proofs.YtfninflnngpchaaGreat
namespace Go.Proofs.YtfninflnngpchaaGreat
def nmB (names:List (List Tag)):Bool:=decide (names.length≤6)&&names.all Aj&&decide ((names.map text).Nodup)
theorem CC {names:List (List Tag)}:nmB names=true↔NmI names:=by
 unfold nmB
 simp only [AW,decide_eq_true_eq,List.all_eq_true]
 exact ⟨fun h=>⟨h.1.1,h.1.2,h.2⟩,fun h=>⟨⟨h.len,h.ok⟩,h.nodup⟩⟩
theorem Ji {names:List (List Tag)}(h:¬ NmI names):nmB names=false:=by
 cases hb:nmB names with
 | false=>rfl
 | true=>exact absurd (CC.1 hb) h
structure NmG (names:List (List Tag)):Prop where
 len:names.length≤7
 nd:NsD names
 bl:(EX 0 [] names).length≤1000
theorem NmG.of {names:List (List Tag)}(h:NmI names) (h2:NsD names):NmG names:=⟨by have:=h.len; omega,h2,Nh h h2⟩
theorem NmG.sz {names:List (List Tag)}(h:NmG names):∀ n∈names,NA n:=fun n hn=>(h.nd n hn).sz
theorem KJ {names:List (List Tag)}(h:∀ (i j:Nat) (x y:List Tag),i< j→names[i]? = some x→names[j]? = some y→text x≠text y):(names.map text).Nodup:=by
 unfold List.Nodup
 rw [List.pairwise_iff_getElem]
 intro i j hi hj hij
 rw [List.getElem_map,List.getElem_map]
 exact h i j _ _ hij (AU _) (AU _)
def Nj (names:List (List Tag)) (k:Nat):Prop:=∀ j n,j< k→names[j]? = some n→Aj n=true∧DL n 0 names=j
theorem QC (names:List (List Tag)):Nj names 0:=fun j _ h=>absurd h AB
theorem MR {names:List (List Tag)}{k:Nat}{n:List Tag}(h:Nj names k) (hn:names[k]? = some n) (h1:Aj n=true) (h2:DL n 0 names+1=(k:Int)+1):Nj names (k+1):=fun j m hj hm=>by
 by_cases e:j=k
 ·subst e
  rw [hn] at hm
  cases hm
  exact ⟨h1,by omega⟩
 ·exact h j m AB hm
theorem HH {names:List (List Tag)}{k:Nat}{n:List Tag}(hn:names[k]? = some n) (h:Aj n=false∨DL n 0 names+1≠(k:Int)+1):false=nmB names:=(Ji (fun hI=>O1 hI hn h)).symm
theorem Nk {names:List (List Tag)}{k:Nat}(h:Nj names k) (hk:names.length≤k):decide ((names.length:Int)≤6)=nmB names:=by
 unfold nmB
 have h1:names.all Aj=true:=List.all_eq_true.2 (fun n hn=>by
  obtain ⟨j,hj⟩:=List.mem_iff_getElem?.1 hn
  exact (h j n (by have:=(List.getElem?_eq_some_iff.1 hj).1; omega) hj).1)
 have h2:(names.map text).Nodup:=KJ (fun i j x y hij hx hy e=>by
  have hj:=(List.getElem?_eq_some_iff.1 hy).1
  have a:=h i x AB hx
  have b:=h j y AB hy
  have:=KH a.1 b.1 e
  subst this
  omega)
 rw [h1,decide_eq_true h2,Bool.and_true,Bool.and_true,decide_eq_decide]
 omega
def okS (names:List (List Tag)) (k:Nat):Prop:=∀ j n,j< k→names[j]? = some n→Aj n=true∧∀ i m,i< j→names[i]? = some m→text n≠text m
theorem Qy (names:List (List Tag)):okS names 0:=fun j _ h=>absurd h AB
def apart (names:List (List Tag)) (n:List Tag) (k:Nat):Prop:=∀ i m,i< k→names[i]? = some m→text n≠text m
theorem O7 (names:List (List Tag)) (n:List Tag):apart names n 0:=fun j _ h=>absurd h AB
theorem K2 {names:List (List Tag)}{n m:List Tag}{k:Nat}(h:apart names n k) (hm:names[k]? = some m) (h2:(text n==text m)=false):apart names n (k+1):=fun i x hi hx=>by
 by_cases e:i=k
 ·subst e
  rw [hm] at hx
  cases hx
  exact beq_eq_false_iff_ne.1 h2
 ·exact h i x AB hx
theorem Nn {names:List (List Tag)}{n:List Tag}{k j:Nat}(h:okS names k) (hn:names[k]? = some n) (h1:Aj n=true) (h2:apart names n j) (hj:k≤j):okS names (k+1):=fun i m hi hm=>by
 by_cases e:i=k
 ·subst e
  rw [hn] at hm
  cases hm
  exact ⟨h1,fun a b ha hb=>h2 a b AB hb⟩
 ·exact h i m AB hm
theorem O8 {names:List (List Tag)}{k:Nat}(h:okS names k) (hk:names.length≤k) (hl:¬ (names.length:Int) > 6):NmI names :=
 ⟨by omega,fun n hn=>by
  obtain ⟨j,hj⟩:=List.mem_iff_getElem?.1 hn
  exact (h j n (by have:=(List.getElem?_eq_some_iff.1 hj).1; omega) hj).1,KJ (fun i j x y hij hx hy e=>(h j y (by have:=(List.getElem?_eq_some_iff.1 hy).1; omega) hy).2 i x hij hx e.symm)⟩
theorem D8 {names:List (List Tag)}(h:(names.length:Int) > 6):false=nmB names:=(Ji (fun hI=>by have:=hI.len; omega)).symm
theorem Ep {names:List (List Tag)}{k:Nat}{n:List Tag}(hn:names[k]? = some n) (h:Aj n=false):false=nmB names:=(Ji (fun hI=>by rw [hI.ok n (AV hn)] at h; cases h)).symm
theorem Er {names:List (List Tag)}{k j:Nat}{n m:List Tag}(hn:names[k]? = some n) (hm:names[j]? = some m) (hj:j< k) (h:(text n==text m)=true):false=nmB names:=(Ji (fun hI=>NS hI.nodup hn hm hj (eq_of_beq h))).symm
structure IxG (x:Idx):Prop where
 g:NmG x.names
 eq:NmI x.names→x=idxOf x.names
theorem IxG.ix {x:Idx}(h:IxG x) (h2:NmI x.names):IxI x:=⟨h.eq h2,h2⟩
structure SG (s:Sto):Prop where
 ix:IxG s.idx
 np:s.parts.length≤7
 part:∀ p∈s.parts,PrtI p
 nm2:s.mem.length≤21
 mem:∀ m∈s.mem,0≤m.id∧m.id≤7∧Lo m.row
theorem SG.of {s:Sto}(h:SD s):SG s:=⟨⟨NmG.of h.nm h.nd,fun _=>h.idx⟩,by have:=h.np; omega,h.part,h.nm2,h.mem⟩
theorem SG.sd {s:Sto}(h:SG s) (h2:nmB s.idx.names=true) (h3:s.parts.length≤6):SD s:=⟨h.ix.eq (CC.1 h2),CC.1 h2,h.ix.g.nd,h3,h.part,h.nm2,h.mem⟩
end Go.Proofs.YtfninflnngpchaaGreat
namespace Go.Proofs.YtfninflnngpchaaGreat
def look (t:Int) (b:List Row):Option Row:=b.find? (fun r=>r.t==t)
theorem Ar (t:Int) (r:Row) (b:List Row):look t (r::b)=if r.t=t then some r else look t b:=by
 unfold look
 rw [List.find?_cons]
 by_cases h:r.t=t
 ·simp [h]
 ·have:(r.t==t)=false:=beq_eq_false_iff_ne.2 h
  rw [this,if_neg h]
theorem KK (t:Int) (r:Row):∀ (b:List Row),look t (Bv r b)=if r.t=t then some r else look t b:=by
 intro b
 induction b with
 | nil=>unfold Bv; rw [Ar]
 | cons x xs ih =>
   unfold Bv
   by_cases h1:r.t< x.t
   ·rw [if_pos h1,Ar]
   ·rw [if_neg h1]
    by_cases h2:r.t=x.t
    ·rw [if_pos h2,Ar,Ar]
     by_cases h:r.t=t
     ·rw [if_pos h,if_pos h]
     ·rw [if_neg h,if_neg h,if_neg AB]
    ·rw [if_neg h2,Ar,ih,Ar]
     by_cases h:r.t=t
     ·rw [if_pos h,if_neg AB,if_pos h]
     ·rw [if_neg h,if_neg h]
theorem Blk.tl {r:Row}{b:List Row}(h:Blk (r::b)):Blk b∧BF r=true∧∀ q∈b,r.t< q.t:=by
 obtain ⟨h1,_,h3⟩:=Ao.1 h
 exact ⟨J5 h3,h1,I4 b r h3⟩
theorem GO {t:Int}:∀ {b:List Row},(∀ q∈b,t≠q.t)→look t b=none:=by
 intro b
 induction b with
 | nil=>intro _; rfl
 | cons x xs ih =>
   intro h
   rw [Ar,if_neg (fun e=>h x AD e.symm)]
   exact ih (fun q hq=>h q (by simp [hq]))
theorem Ho {t:Int}{q:Row}:∀ {b:List Row},look t b=some q→q.t=t∧q∈b:=by
 intro b h
 have h1:=List.find?_some h
 exact ⟨by simpa using h1,List.mem_of_find?_eq_some h⟩
theorem Bl (t:Int):∀ {b:List Row}(o:List Row),Blk o→Blk b→look t (BH o b)=(look t b).or (look t o):=by
 intro b
 induction b with
 | nil=>intro o _ _; rfl
 | cons x xs ih =>
   intro o ho hb
   obtain ⟨h1,h2,h3⟩:=hb.tl
   have e:BH o (x::xs)=BH (DJ o x) xs:=rfl
   rw [e,ih _ (ho.put h2) h1,EV ho,KK,Ar]
   by_cases h:x.t=t
   ·rw [if_pos h,if_pos h,GO (fun q hq=>by have:=h3 q hq; omega)]
    rfl
   ·rw [if_neg h,if_neg h]
theorem KL:∀ {a b:List Row},Blk a→Blk b→(∀ t,look t a=look t b)→a=b:=by
 intro a
 induction a with
 | nil =>
   intro b _ _ h
   cases b with
   | nil=>rfl
   | cons y ys =>
     have:=h y.t
     rw [Ar,if_pos rfl] at this
     cases this
 | cons x xs ih =>
   intro b ha hb h
   cases b with
   | nil =>
     have:=h x.t
     rw [Ar,if_pos rfl] at this
     cases this
   | cons y ys =>
     obtain ⟨a1,_,a3⟩:=ha.tl
     obtain ⟨b1,_,b3⟩:=hb.tl
     have hx:=h x.t
     have hy:=h y.t
     rw [Ar,if_pos rfl,Ar] at hx
     rw [Ar,Ar,if_pos rfl] at hy
     by_cases e:x.t=y.t
     ·rw [if_pos e.symm] at hx
      cases hx
      congr 1
      refine ih a1 b1 (fun t=>?_)
      have ht:=h t
      rw [Ar,Ar] at ht
      by_cases e2:x.t=t
      ·rw [GO (fun q hq=>by have:=a3 q hq; omega),GO (fun q hq=>by have:=b3 q hq; omega)]
      ·rw [if_neg e2,if_neg e2] at ht
       exact ht
     ·rw [if_neg (fun e2=>e e2.symm)] at hx
      rw [if_neg e] at hy
      have h1:=b3 x (Ho hx.symm).2
      have h2:=a3 y (Ho hy).2
      omega
theorem Ly:∀ {b a:List Row},Blk a→Blk b→(∀ t,(look t a).isSome=true→(look t b).isSome=true)→a.length≤b.length:=by
 intro b
 induction b with
 | nil =>
   intro a _ _ h
   cases a with
   | nil=>exact Nat.le_refl _
   | cons x xs =>
     have:=h x.t (by rw [Ar,if_pos rfl]; rfl)
     cases this
 | cons y ys ih =>
   intro a ha hb h
   obtain ⟨b1,_,b3⟩:=hb.tl
   cases a with
   | nil=>simp
   | cons x xs =>
     obtain ⟨a1,_,a3⟩:=ha.tl
     have hx:=h x.t (by rw [Ar,if_pos rfl]; rfl)
     rw [Ar] at hx
     by_cases e:y.t=x.t
     ·simp only [List.length_cons]
      refine Nat.succ_le_succ (ih a1 b1 (fun t ht=>?_))
      obtain ⟨q,hq⟩:=Option.isSome_iff_exists.1 ht
      have hq2:=Ho hq
      have h4:=a3 q hq2.2
      have h5:=h t (by rw [Ar,if_neg AB]; exact ht)
      rw [Ar,if_neg AB] at h5
      exact h5
     ·rw [if_neg e] at hx
      obtain ⟨q,hq⟩:=Option.isSome_iff_exists.1 hx
      have hq2:=Ho hq
      have h4:=b3 q hq2.2
      refine Nat.le_succ_of_le (ih ha b1 (fun t ht=>?_))
      obtain ⟨u,hu⟩:=Option.isSome_iff_exists.1 ht
      have hu2:=Ho hu
      have h6:x.t≤u.t:=by
       rcases List.mem_cons.1 hu2.2 with e2 | hm
       ·rw [e2]; exact Int.le_refl _
       ·have:=a3 u hm; omega
      have h5:=h t ht
      rw [Ar,if_neg AB] at h5
      exact h5
theorem Jj {a b c:List Row}(ha:Blk a) (hb:Blk b) (hc:Blk c):BH (BH a b) c=BH a (BH b c) :=
 KL ((ha.merge hb).merge hc) (ha.merge (hb.merge hc)) (fun t=>by
  rw [Bl t _ (ha.merge hb) hc,Bl t _ ha hb,Bl t _ ha (hb.merge hc),Bl t _ hb hc,Option.or_assoc])
theorem Nq (id:Int):∀ (bs:List (List Row)) (i:Nat),Az id (Bu i bs).1 (Bu i bs).2=if (i:Int)+1≤id then bs.getD (id - i - 1).toNat [] else []:=by
 intro bs
 induction bs with
 | nil=>intro i; simp [Bu,Az]
 | cons b bs ih =>
   intro i
   have h1:=ih (i+1)
   unfold Bu
   by_cases hb:b.length > 0
   ·rw [if_pos hb]
    unfold Az
    by_cases he:(i:Int)+1=id
    ·rw [if_pos (by simpa using he),if_pos AB,show (id - i - 1).toNat=0 by omega]
     rfl
    ·rw [if_neg (by simpa using he),h1]
     by_cases h2:(i:Int)+1≤id
     ·rw [if_pos AB,if_pos h2,show (id - i - 1).toNat=(id - (i+1:Nat) - 1).toNat+1 by omega]
      rfl
     ·rw [if_neg AB,if_neg h2]
   ·rw [if_neg hb,h1]
    have:b=[]:=List.length_eq_zero_iff.1 AB
    subst this
    by_cases h2:(i:Int)+1≤id
    ·rw [if_pos h2]
     by_cases he:(i:Int)+1=id
     ·rw [if_neg AB,show (id - i - 1).toNat=0 by omega]
      rfl
     ·rw [if_pos AB,show (id - i - 1).toNat=(id - (i+1:Nat) - 1).toNat+1 by omega]
      rfl
    ·rw [if_neg AB,if_neg h2]
theorem Nr (bs:List (List Row)){id:Int}(h:1≤id):partOf (DO bs) id=bs.getD (id - 1).toNat []:=by
 unfold partOf DO
 have:=Nq id bs 0
 rw [if_pos AB] at this
 rw [this,show (id - (0:Nat) - 1)=id - 1 by omega]
def K3 (mem:List Smp):Sto:=⟨⟨[],[]⟩,[],mem⟩
def JD (t id:Int) (mem:List Smp) (x:Option Row):Option Row:=mem.foldl (fun acc m=>if m.id=id∧m.row.t=t then some m.row else acc) x
theorem Ns (t id:Int):∀ (mem:List Smp) (x:Option Row),JD t id mem x=(JD t id mem none).or x:=by
 intro mem
 induction mem with
 | nil=>intro x; rfl
 | cons m ms ih =>
   intro x
   unfold JD at ih ⊢
   rw [List.foldl_cons,List.foldl_cons]
   by_cases h:m.id=id∧m.row.t=t
   ·rw [if_pos h,if_pos h,ih (some m.row)]
    cases List.foldl (fun acc m=>if m.id=id∧m.row.t=t then some m.row else acc) none ms <;> rfl
   ·rw [if_neg h,if_neg h,ih x]
theorem Ds (t id:Int):∀ (mem:List Smp) (o:List Row),(∀ m∈mem,BF m.row=true)→Blk o→look t (mem.foldl (Bp id) o)=JD t id mem (look t o)∧Blk (mem.foldl (Bp id) o):=by
 intro mem
 induction mem with
 | nil=>intro o _ ho; exact ⟨rfl,ho⟩
 | cons m ms ih =>
   intro o h ho
   have h1:Blk (Bp id o m):=by
    unfold Bp
    split
    ·exact ho.put (h m AD)
    ·exact ho
   obtain ⟨h2,h3⟩:=ih (Bp id o m) (fun q hq=>h q (by simp [hq])) h1
   refine ⟨?_,h3⟩
   rw [List.foldl_cons,h2]
   unfold JD
   rw [List.foldl_cons]
   congr 1
   by_cases hid:m.id=id
   ·rw [GH hid ho,KK]
    by_cases ht:m.row.t=t
    ·rw [if_pos ht,if_pos ⟨hid,ht⟩]
    ·rw [if_neg ht,if_neg (fun e=>ht e.2)]
   ·rw [Hf hid,if_neg (fun e=>hid e.1)]
theorem mem_merge {id:Int}{mem:List Smp}{o:List Row}(h:∀ m∈mem,BF m.row=true) (ho:Blk o):mem.foldl (Bp id) o=BH o (rowsOf (K3 mem) id):=by
 have a:=fun t=>(Ds t id mem o h ho).1
 have b:=fun t=>(Ds t id mem [] h Blk.nil).1
 have bb:Blk (rowsOf (K3 mem) id):=(Ds 0 id mem [] h Blk.nil).2
 refine KL (Ds 0 id mem o h ho).2 (ho.merge bb) (fun t=>?_)
 rw [a,Bl t _ ho bb]
 have e:look t (rowsOf (K3 mem) id)=JD t id mem none:=b t
 rw [e,← Ns]
theorem GP {id:Int}:∀ {ps:List Prt}{o:List Row},(∀ p∈ps,PrtI p)→Blk o→Blk (ps.foldl (Bf id) o):=by
 intro ps
 induction ps with
 | nil=>intro o _ ho; exact ho
 | cons p ps ih=>intro o hp ho; exact ih (fun q hq=>hp q (by simp [hq])) (ho.merge ((hp p AD).of id))
theorem O9 {s:Sto}(h:StoK s) (id t:Int):((look t (s.parts.foldl (Bf id) [])).isSome=true∨(look t (rowsOf (K3 s.mem) id)).isSome=true)→(look t (rowsOf s id)).isSome=true:=by
 intro h1
 have hb:Blk (s.parts.foldl (Bf id) []):=GP h.sd.part Blk.nil
 have bb:Blk (rowsOf (K3 s.mem) id):=(Ds 0 id s.mem [] h.row Blk.nil).2
 have e:rowsOf s id=BH (s.parts.foldl (Bf id) []) (rowsOf (K3 s.mem) id):=mem_merge h.row hb
 rw [e,Bl t _ hb bb]
 rcases h1 with h1 | h1
 ·cases look t (rowsOf (K3 s.mem) id) with
  | none=>exact h1
  | some q=>rfl
 ·obtain ⟨q,hq⟩:=Option.isSome_iff_exists.1 h1
  rw [hq]; rfl
theorem Nt:∀ (bs:List (List Row)) (i:Nat) (o:Option Int),(∀ b∈bs,Blk b∧b.length≤24)→i+bs.length≤6→(∀ q,o=some q→q≤i)→Ai o (Bu i bs).1 (Bu i bs).2=true:=by
 intro bs
 induction bs with
 | nil=>intro i o _ _ _; rfl
 | cons b bs ih =>
   intro i o h hl ho
   simp only [List.length_cons] at hl
   unfold Bu
   by_cases hb:b.length > 0
   ·rw [if_pos hb]
    unfold Ai
    have h1:=ih (i+1) (some ((i:Int)+1)) (fun x hx=>h x (by simp [hx])) AB (fun q hq=>by cases hq; omega)
    obtain ⟨h2,h3⟩:=h b AD
    have h4:Af b=true:=by
     unfold Af
     have h2':A9 none b=true:=h2
     rw [h2',Bool.true_and,decide_eq_true_eq]; exact h3
    rw [h1,h4,decide_eq_true hb]
    have h5:inR ((i:Int)+1) 1 6=true:=by unfold inR; simp; omega
    rw [h5]
    cases o with
    | none=>rfl
    | some q =>
      have:=ho q rfl
      simp
      omega
   ·rw [if_neg hb]
    exact ih (i+1) o (fun x hx=>h x (by simp [hx])) AB (fun q hq=>by have:=ho q hq; omega)
theorem Nu {bs:List (List Row)}(h:∀ b∈bs,Blk b∧b.length≤24) (hl:bs.length≤6):Ac (DO bs)=true:=by
 unfold Ac
 have h1:=(I6 bs 0).1
 have h2:=Nt bs 0 none h AB AD
 have h3:Ai none (DO bs).ids (DO bs).blocks=true:=h2
 have h4:(DO bs).ids.length=(DO bs).blocks.length:=h1
 rw [h3,decide_eq_true h4]
 rfl
theorem MS:∀ (bs:List (List Row)) (i:Nat) (x:Int),x∈(Bu i bs).1→∃ k:Nat,x=(i:Int)+k+1∧∃ b,bs[k]? = some b∧0< b.length:=by
 intro bs
 induction bs with
 | nil=>intro i x h; simp [Bu] at h
 | cons b bs ih =>
   intro i x h
   unfold Bu at h
   by_cases hb:b.length > 0
   ·rw [if_pos hb] at h
    rcases List.mem_cons.1 h with rfl | h
    ·exact ⟨0,by simp,b,rfl,hb⟩
    ·obtain ⟨k,h1,c,h2,h3⟩:=ih (i+1) x h
     exact ⟨k+1,by rw [h1]; push_cast; omega,c,by simpa using h2,h3⟩
   ·rw [if_neg hb] at h
    obtain ⟨k,h1,c,h2,h3⟩:=ih (i+1) x h
    exact ⟨k+1,by rw [h1]; push_cast; omega,c,by simpa using h2,h3⟩
theorem K4:∀ (bs:List (List Row)) (i:Nat),(∃ b∈bs,0< b.length)→(Bu i bs).1≠[]:=by
 intro bs
 induction bs with
 | nil=>rintro i ⟨b,hb,_⟩; cases hb
 | cons c bs ih =>
   rintro i ⟨b,hb,hl⟩
   unfold Bu
   by_cases hc:c.length > 0
   ·rw [if_pos hc]; simp
   ·rw [if_neg hc]
    rcases List.mem_cons.1 hb with rfl | hb
    ·exact absurd hl hc
    ·exact ih (i+1) ⟨b,hb,hl⟩
theorem Nv {bs:List (List Row)}{n:Nat}(h:∀ b∈bs,Blk b∧b.length≤24) (hl:bs.length≤6) (h1:∃ b∈bs,0< b.length) (h2:∀ k b,bs[k]? = some b→0< b.length→k< n):Ax (DO bs) n=true:=by
 unfold Ax
 rw [Nu h hl,Bool.true_and]
 cases hx:(DO bs).ids.getLast? with
 | none=>exact absurd (List.getLast?_eq_none_iff.1 hx) (K4 bs 0 h1)
 | some x =>
   obtain ⟨k,e,b,hb,hb2⟩:=MS bs 0 x (List.mem_of_getLast? hx)
   have:=h2 k b hb hb2
   simp
   omega
theorem QD {s:Sto}(h:AZ s=true):s.parts.length≤6:=by
 unfold AZ at h
 simp only [AW,decide_eq_true_eq] at h
 exact h.1.1.1.1
end Go.Proofs.YtfninflnngpchaaGreat
namespace Go.Proofs.YtfninflnngpchaaGreat
theorem MU {id:Int}:∀ (ps:List Prt) (o:List Row),(∀ p∈ps,PrtI p)→Blk o→Blk (ps.foldl (Bf id) o):=by
 intro ps
 induction ps with
 | nil=>intro o _ h; exact h
 | cons p ps ih=>intro o h ho; exact ih _ (fun q hq=>h q (by simp [hq])) (ho.merge ((h p AD).of id))
theorem MV {id:Int}:∀ (mem:List Smp) (o:List Row),(∀ m∈mem,BF m.row=true)→Blk o→Blk (mem.foldl (Bp id) o):=by
 intro mem
 induction mem with
 | nil=>intro o _ h; exact h
 | cons m ms ih =>
   intro o h ho
   refine ih _ (fun q hq=>h q (by simp [hq])) ?_
   unfold Bp
   split
   ·exact ho.put (h m AD)
   ·exact ho
theorem StoI.blk {s:Sto}(h:StoI s) (id:Int):Blk (rowsOf s id):=MV _ _ (fun m hm=>(h.mem m hm).2.2) (MU _ _ h.part Blk.nil)
end Go.Proofs.YtfninflnngpchaaGreat
namespace Go.Proofs.YtfninflnngpchaaGreat
section
variable {b:List Row} {r:Row}
theorem bok (h:Af b=true):b.length≤24:=by
 unfold Af at h
 simp only [AW,decide_eq_true_eq] at h
 exact h.2
theorem Blk.bok (h:Blk b) (h2:b.length≤24):Af b=true:=by
 unfold Af
 simp only [AW,decide_eq_true_eq]
 exact ⟨h,h2⟩
end
end Go.Proofs.YtfninflnngpchaaGreat
