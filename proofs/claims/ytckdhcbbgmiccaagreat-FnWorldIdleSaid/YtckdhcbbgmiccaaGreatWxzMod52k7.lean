/- Drawn disks: what it is to be well; plain laws. -/
import Derived.Test.YtckdhcbbgmiccaaGreatWxzMod51k7
import Derived.Test.YtckdhcbbgmiccaaGreatWxzW65k8
open Go.Proofs.Tryz
set_option linter.unusedVariables false
set_option linter.unusedSimpArgs false
namespace Go.Proofs.YtckdhcbbgmiccaaGreat
theorem Vj (d:Dsk) (n:Int):fresh d n 0:=by unfold fresh; simp
theorem P3 {d:Dsk}{n m:Int}{k:Nat}(h:fresh d n k) (hm:d.list[k]? = some m) (h2:m≠n):fresh d n (k+1):=by
 unfold fresh at h ⊢
 rw [List.take_add_one,hm]
 simp only [Option.toList_some,List.mem_append,List.mem_cons,List.not_mem_nil,or_false,not_or]
 exact ⟨h,fun e=>h2 e.symm⟩
theorem XG {d:Dsk}{k j:Nat}{n m:Int}(hn:d.list[k]? = some n) (hm:d.list[j]? = some m) (hj:j< k) (e:m=n):Dw d=false:=by
 subst e
 exact Tm hn (List.mem_iff_getElem?.2 ⟨j,by rw [List.getElem?_take,if_pos hj]; exact hm⟩)
end Go.Proofs.YtckdhcbbgmiccaaGreat
namespace Go.Proofs.YtckdhcbbgmiccaaGreat
set_option maxRecDepth 100000
set_option maxHeartbeats 4000000
variable {w:World} {F:Nat→Prop} {a1 a2 a3:Option Addr} {n1 c1 n2 c2 n3 c3:Nat}
theorem MW (d:Dsk) (h1:RepS w F a1 n1 c1 d.files) (h2:RepS w F a2 n2 c2 d.list) (h3:RepS w F a3 n3 c3 d.names) (p0:DD d):Calls Tryz.prog 111 [.agg #[.slice a1 n1 c1,.slice a2 n2 c2,.slice a3 n3 c3,.int .i64 d.next]].toArray w (Aj fun rv w'=>rv=.bool (Az d)∧Ext w w'):=by
 cases h1.len
 cases h2.len
 cases h3.len
 refine goT func111 ?_
 have Z:=(((St.i0 F w).p h1).p h2).p h3
 have aL:=h1.max
 have aM:=h2.max
 have aN:=h3.max
 refine .s<|.g<|RG.Np Z fun am w Z=>.r 1<|.d<|.s<|.s<|.g<|.r 1<|RG.Lb 0 Z<|RG.C0 (CR d.next 1 999 (F:=all)) Z fun w Z=>?_
 cases ak:(inR d.next 1 999)
 ·exact .r 19<|.d<|.ct<|.s<|.g<|.r 1<|.d<|T.rt func111 results111 (.bool false) ⟨(AG (by symm; exact P4 (.inl ‹_›))),Z.xt⟩
 have aP:=CD ak
 refine .r 3<|RG.Lb 0 Z<|.r 1<|.bp ((d.files.length:Int) > 20) (fun ao=>.r 13<|.d<|.ct<|.s<|.g<|.r 1<|.d<|T.rt func111 results111 (.bool false) ⟨(AG (by symm; exact P4 (.inr (.inl ‹_›)))),Z.xt⟩) fun ao=>.r 3<|RG.Lb 0 Z<|.r 1<|.bp ((d.list.length:Int) > 6) (fun aq=>.r 7<|.d<|.ct<|.s<|.g<|.r 1<|.d<|T.rt func111 results111 (.bool false) ⟨(AG (by symm; exact P4 (.inr (.inr (.inl ‹_›))))),Z.xt⟩) fun aq=>.r 3<|RG.Lb 0 Z<|.r 1<|.bp ((d.names.length:Int) > 6) (fun ar=>.r 1<|.d<|.ct<|.s<|.g<|.r 1<|.d<|T.rt func111 results111 (.bool false) ⟨(AG (by symm; exact P4 (.inr (.inr (.inr ‹_›))))),Z.xt⟩) fun ar=>.r 1<|.d<|.cf<|.sk<|.s<|.s<|.g<|.r 1<|.d<|.b 0<|T.Lp (0:Nat) (fun k=>([(1,vP am),(3,vI (k:Int))],[],[],d.files.length - k,(k≤d.files.length)∧(DN d.next (KE d.files k) (d.files.drop k)=DN d.next none d.files))) [] Z ⟨AD,AF⟩ ?_
 rintro k bj w Z ⟨aQ,aR⟩ ab
 refine .s<|.s<|.g<|.r 2<|RG.Lb 0 Z<|.r 1<|.bp ((k:Int)< (d.files.length:Int)) (fun ax=>?_) (fun ax=>?_)
 ·refine .d<|.ct<|.sk<|.s<|.b 1<|.s<|T.Gd 35 Z fun w Z=>.r [0]<|GA.Lb 1 0 Z<|.r [2]<|gxd d.files k fun ae E aS=>GA.Ix 3 2 E Z<|.r [4]<|Z.el 2 E fun bk bm bn bo Z=>GA.Lh 5 0 0 Z<|.r [6]<|GA.Lb 7 0 Z<|GA.int (i:=8) (d.next - 1) AA (by have q1:=p0.next; omega)<|GA.C0 9 Z (fun w Z=>CR ae.num 1 (d.next - 1) (F:=all)) ?_
  cases al:(inR ae.num 1 (d.next - 1))
  ·exact .r [10,11,12,13,14,15,16,17,18,19,20,21,22,23,24,25,26,27,28,29,30,31,32,33,34]<|GA.Dn Z fun w Z=>.r 6<|.d<|.ct<|.s<|.g<|.r 1<|.d<|T.rt func111 results111 (.bool false) ⟨(AG (by symm; exact O0 (Hm ‹_› ‹_› (.inl ‹_›)))),Z.xt⟩
  refine .r [10,11,12]<|GA.Ec (i:=13) ((k:Int) > 0) AA (fun az=>?_) (fun az=>?_)
  ·refine .r [14,15]<|GA.Lb 16 0 Z<|.r [17]<|GA.int (i:=18) ((k:Int) - 1) AA (by have q1:=p0.next; omega)<|gx d.files (k - 1) fun aJ af=>GA.Jx 19 5 ((k:Int) - 1) af Z<|.r [20]<|Z.el 5 af fun bq br bt bu Z=>GA.Lh 21 0 0 Z<|.r [22]<|GA.Lb 23 0 Z<|.r [24]<|GA.Ix 25 8 E Z<|.r [26]<|GA.Lh 27 3 0 Z<|GA.Ec (i:=28) (aJ.num≥ae.num) AA (fun aA=>.r [29,30,31,32,33,34]<|GA.Dn Z fun w Z=>.r 6<|.d<|.ct<|.s<|.g<|.r 1<|.d<|T.rt func111 results111 (.bool false) ⟨(AG (by symm; exact O0 (Hm ‹_› ‹_› (.inr (.inl ⟨by omega,_,by assumption,by assumption⟩))))),Z.xt⟩) fun aA=>.r [29,30,31,32]<|GA.Lb 33 0 Z<|.r [34]<|GA.Dn Z fun w Z=>RG.Ix 8 E Z<|.r 1<|RG.Lg 3 1 Z<|RG.C0 (GG ae.part (Z.a 4) (Z.a 5)) Z fun w Z=>?_
   cases aW:(Ar ae.part)
   ·exact .r 2<|.d<|.ct<|.s<|.g<|.r 1<|.d<|T.rt func111 results111 (.bool false) ⟨(AG (by symm; exact O0 (Hm ‹_› ‹_› (.inr (.inr ‹_›))))),Z.xt⟩
   exact .r 2<|.d<|.cf<|.sk<|.ib 1<|.g<|.r 1<|RG.int ((k:Int)+1) AA (by have q1:=p0.next; omega)<|.r 1<|.d<|ab (k+1) _ _ AA (Z.to 0 [] 6) ⟨AB,(by exact JV ‹_› ‹_› ‹_› ‹_› (.inr ⟨_,by assumption,by assumption⟩) ‹_›)⟩ (by (simp only []; omega))
  refine .r [14,15,16,17,18,19,20,21,22,23,24,25,26,27,28,29,30,31,32]<|GA.Lb 33 0 Z<|.r [34]<|GA.Dn Z fun w Z=>RG.Ix 5 E Z<|.r 1<|RG.Lg 0 1 Z<|RG.C0 (GG ae.part (Z.a 1) (Z.a 2)) Z fun w Z=>?_
  cases aX:(Ar ae.part)
  ·exact .r 2<|.d<|.ct<|.s<|.g<|.r 1<|.d<|T.rt func111 results111 (.bool false) ⟨(AG (by symm; exact O0 (Hm ‹_› ‹_› (.inr (.inr ‹_›))))),Z.xt⟩
  exact .r 2<|.d<|.cf<|.sk<|.ib 1<|.g<|.r 1<|RG.int ((k:Int)+1) AA (by have q1:=p0.next; omega)<|.r 1<|.d<|ab (k+1) _ _ AA (Z.to 0 [] 3) ⟨AB,(by exact JV ‹_› ‹_› ‹_› ‹_› (.inl AB) ‹_›)⟩ (by (simp only []; omega))
 refine .d<|.cf<|.x 0 rfl<|.s<|.s<|.g<|.r 1<|.d<|.b 2<|T.Lp (0:Nat) (fun k=>([(1,vP am),(4,vI (k:Int))],[],[],d.list.length - k,(k≤d.list.length)∧(DN d.next none d.files=true)∧(Rv d k))) [] Z ⟨AD,(by exact Qy ‹_› AB),(by exact Tj _)⟩ ?_
 rintro k bv w Z ⟨aY,aZ,ba⟩ ah
 refine .s<|.s<|.g<|.r 2<|RG.Lb 0 Z<|.r 1<|.bp ((k:Int)< (d.list.length:Int)) (fun aB=>?_) (fun aB=>.d<|.cf<|.x 2 rfl<|.s<|.g<|RG.Ln 0 Z<|RG.CS (HV d (Z.mg 1 2) (Z.mg 1 1) (Z.mg 1 0) (by have:=p0.g.len; omega) p0.g.sz (by have:=p0.nl; omega) (DZ (JW ‹_› AB))) Z fun bw bz bA bB bC bD bE bF w Z=>RG.C0 (HA (⟨(⟨(Aq d).idx.names,((Aq d).idx).AY⟩:Idx),(Aq d).parts,(Aq d).mem⟩:Sto) (Z.a 0) (Z.a 1) (Z.a 2) (Z.a 3) p0.sg) Z fun w Z=>.r 1<|.d<|T.rt func111 results111 (.bool (nmB (⟨(⟨(Aq d).idx.names,((Aq d).idx).AY⟩:Idx),(Aq d).parts,(Aq d).mem⟩:Sto).idx.names&&Ad (⟨(⟨(Aq d).idx.names,((Aq d).idx).AY⟩:Idx),(Aq d).parts,(Aq d).mem⟩:Sto))) ⟨(AG (by (rw [YK ‹_› AB AB ‹_› (JW ‹_› AB)]; rfl))),Z.xt⟩)
 refine .d<|.ct<|.sk<|.s<|.b 3<|.s<|.s<|T.Gd 6 Z fun w Z=>GA.Ln 0 0 Z<|.r [1]<|GA.Lb 2 0 Z<|.r [3]<|gx d.list k fun aj ac=>GA.Ix 4 1 ac Z<|Z.el 1 ac fun Z=>GA.Lh 5 0 0 Z<|GA.Dn Z fun w Z=>RG.C0 (Dc d aj (Z.a 3) (Z.a 2) (Z.a 1)) Z fun w Z=>.bp (Av d aj< 0) (fun aC=>.d<|.ct<|.s<|.g<|.r 1<|.d<|T.rt func111 results111 (.bool false) ⟨(AG (by symm; exact Vk (Tl ‹_› ‹_›))),Z.xt⟩) fun aC=>.d<|.cf<|.sk<|.s<|.g<|.r 1<|.d<|.b 4<|T.Lp (0:Nat) (fun k1=>([(1,vP am),(4,vI (k:Int)),(5,vI (k1:Int))],[],[],k - k1,(k1≤k)∧(fresh d aj k1))) [] Z ⟨AB,(by exact Vj _ _)⟩ ?_
 rintro k1 bG w Z ⟨bg,bh⟩ ai
 refine .s<|.s<|.g<|.r 2<|.bp ((k1:Int)< (k:Int)) (fun aD=>?_) (fun aD=>.d<|.cf<|.x 4 rfl<|.ib 3<|.g<|.r 1<|RG.int ((k:Int)+1) AA (by have q1:=p0.next; omega)<|.r 1<|.d<|ah (k+1) _ _ AA (Z.to 0 [] 1) ⟨AB,‹_›,(by exact Mz ‹_› ‹_› ‹_› (by assumption:fresh d _ k1) AB)⟩ (by (simp only []; omega)))
 exact .d<|.ct<|.sk<|.s<|.b 5<|.s<|T.Gd 10 Z fun w Z=>.r [0]<|GA.Lb 1 0 Z<|.r [2]<|gx d.list k1 fun aK ag=>GA.Ix 3 2 ag Z<|Z.el 2 ag fun Z=>GA.Lh 4 0 0 Z<|.r [5]<|GA.Lb 6 0 Z<|.r [7]<|GA.Ix 8 3 ac Z<|GA.Lh 9 1 0 Z<|GA.Dn Z fun w Z=>.eq aK aj (fun aE=>.d<|.ct<|.s<|.g<|.r 1<|.d<|T.rt func111 results111 (.bool false) ⟨(AG (by symm; exact Vk (XG (k:=k) (j:=k1) ‹_› ‹_› AB ‹_›))),Z.xt⟩) fun aE=>.d<|.cf<|.sk<|.ib 5<|.g<|.r 1<|RG.int ((k1:Int)+1) AA (by have q1:=p0.next; omega)<|.r 1<|.d<|ai (k1+1) _ _ AA (Z.to 0 [] 1) ⟨AB,(by exact P3 ‹_› ‹_› ‹_›)⟩ (by (simp only []; omega))
end Go.Proofs.YtckdhcbbgmiccaaGreat
namespace Go.Proofs.YtckdhcbbgmiccaaGreat
theorem Tp {ns:List (List Tag)}{n:List Tag}(h:NmI ns) (h2:NsD ns) (hn:NmX n):NmG (ns++[n]):=by
 have hl:=h.len
 refine ⟨by rw [List.length_append]; simp; omega,fun m hm=>?_,?_⟩
 ·rcases List.mem_append.1 hm with hm | hm
  ·exact h2 m hm
  ·simp at hm
   subst hm
   exact hn.1
 ·have hb:GK 0 [] (ns++[n])=n.foldl (Fh ((ns.length:Int)+1)) (GK 0 [] ns):=by
   have key:∀ (ns:List (List Tag)) (i:Nat) (xs:List Pst),GK i xs (ns++[n])=n.foldl (Fh (((i+ns.length:Nat):Int)+1)) (GK i xs ns):=by
    intro ns
    induction ns with
    | nil=>intro i xs; rfl
    | cons m ms ih =>
      intro i xs
      show GK (i+1) (m.foldl (Fh ((i:Int)+1)) xs) (ms++[n])=_
      rw [ih]
      show _=n.foldl _ (GK (i+1) (m.foldl (Fh ((i:Int)+1)) xs) ms)
      rw [List.length_cons,show i+1+ms.length=i+(ms.length+1) by omega]
   have:=key ns 0 []
   simpa using this
  rw [hb]
  have hr:=RepP.W2 h
  have hm:∀ x∈GK 0 [] ns,x.tag∈Lu:=fun x hx=>by
   have g:=hr.el x hx
   obtain ⟨m,hm,ht⟩:=Pp (by rw [← g.1]; exact g.2:ids ns x.tag≠[])
   have ho:=h.ok m hm
   simp only [As,AW] at ho
   exact J4 (Em m none ho.1 _ ht) ((h2 m hm).2 _ ht)
  have key:∀ (n:List Tag) (xs:List Pst) (L:Tag→List Int) (i:Int),RepP xs L→(∃ L',RepP (n.foldl (Fh i) xs) L')∧∀ x∈n.foldl (Fh i) xs,(∃ y∈xs,y.tag=x.tag)∨x.tag∈n:=by
   intro n
   induction n with
   | nil=>intro xs L i hx; exact ⟨⟨L,hx⟩,fun x hx=>.inl ⟨x,hx,rfl⟩⟩
   | cons t ts ih =>
     intro xs L i hx
     have h1:∀ x∈Fh i xs t,(∃ y∈xs,y.tag=x.tag)∨x.tag=t:=fun x hx=>by
      rcases J1 t xs 0 with ⟨g1,_⟩ | ⟨g1,g2,y,g3,g4⟩
      ·rw [Lq AB] at hx
       rcases List.mem_append.1 hx with hx | hx
       ·exact .inl ⟨x,hx,rfl⟩
       ·simp at hx
        subst hx
        exact .inr rfl
      ·rw [Nat.sub_zero] at g3
       rw [Lr AB g3] at hx
       rcases List.mem_or_eq_of_mem_set hx with hx | rfl
       ·exact .inl ⟨x,hx,rfl⟩
       ·exact .inr g4
     obtain ⟨a,b⟩:=ih (Fh i xs t) _ i (hx.add i t)
     refine ⟨a,fun x hx=>?_⟩
     rcases b x hx with ⟨y,hy,e⟩ | hm
     ·rcases h1 y hy with ⟨z,hz,e2⟩ | e2
      ·exact .inl ⟨z,hz,e2.trans e⟩
      ·exact .inr (by rw [← e,e2]; simp)
     ·exact .inr (by simp [hm])
  obtain ⟨⟨L',hL⟩,hmem⟩:=key n _ _ ((ns.length:Int)+1) hr
  have:=IC _ (Lu++n.filter (fun t=>!Be t)) hL.nd (fun t ht=>by
   obtain ⟨x,hx,rfl⟩:=List.mem_map.1 ht
   rcases hmem x hx with ⟨y,hy,e⟩ | hx2
   ·exact List.mem_append.2 (.inl (e▸hm y hy))
   ·cases hk:Be x.tag with
    | true=>exact List.mem_append.2 (.inl (J4 hk (hn.1.2 _ hx2)))
    | false=>exact List.mem_append.2 (.inr (List.mem_filter.2 ⟨hx2,by rw [hk]; rfl⟩)))
  rw [List.length_map,List.length_append] at this
  have e9:Lu.length=9:=rfl
  have hb2:=hn.2
  unfold Sc at hb2
  omega
def WG (w:Wld):Prop:=SD w.store∧DD w.disk
theorem WD.wg {w:Wld}(h:WD w):WG w:=⟨h.sd,h.dd⟩
theorem WD.wg1 {w:Wld}(h:WD w) (n:Int):WG ⟨w.store,⟨w.disk.files,w.disk.list++[n],w.disk.names,w.disk.next⟩⟩:=⟨h.sd,h.dd.g,by have:=h.wi.dsk.nl; simp; omega,h.dd.nf,h.dd.file,h.dd.next⟩
theorem WD.wg2 {w:Wld}(h:WD w){y:Int}{r:Row}(hy:0≤y∧y≤7) (hr:FH r):WG ⟨⟨w.store.idx,w.store.parts,w.store.mem++[⟨y,r⟩]⟩,w.disk⟩:=⟨h.X3 hy hr,h.dd⟩
theorem WD.wg3 {w:Wld}(h:WD w){k j:Nat}:WG ⟨w.store,⟨(w.disk.files.take k).drop j,w.disk.list,w.disk.names,w.disk.next⟩⟩:=⟨h.sd,h.dd.g,h.dd.nl,by have:=h.dd.nf; rw [List.length_drop,List.length_take]; omega,fun f hf=>h.dd.file f (List.mem_of_mem_take (List.mem_of_mem_drop hf)),h.dd.next⟩
theorem WD.wg4 {w:Wld}(h:WD w){n:List Tag}(hn:NmX n):WG ⟨w.store,⟨w.disk.files,w.disk.list,w.disk.names++[n],w.disk.next⟩⟩:=⟨h.sd,Tp h.wi.dsk.nm h.dn hn,h.dd.nl,h.dd.nf,h.dd.file,h.dd.next⟩
end Go.Proofs.YtckdhcbbgmiccaaGreat
namespace Go.Proofs.YtckdhcbbgmiccaaGreat
theorem Vm {n:Int}(h:0≤n∧n≤255):∃ y:UInt8,(y.toNat:Int)=n:=by
 refine ⟨UInt8.ofNat n.toNat,?_⟩
 rw [UInt8.toNat_ofNat']
 omega
theorem Rx {n:Int}{y:UInt8}(h:(y.toNat:Int)=n):Value.int .u8 (IntKind.u8.wrap n)=Value.int .u8 (y.toNat:Int):=by
 have:=UInt8.toNat_lt y
 rw [← h,IntWalk.u8_in _ AB]
def Fk (n:Int):Int:=if n< 0 then -2 * n - 1 else 2 * n
theorem Tq {n m:Int}(h:-m≤n∧n≤m) (hm:0≤m):0≤Fk n∧Fk n≤2 * m:=by unfold Fk; split <;> omega
theorem Qz {n:Int}(h:-10000≤n∧n≤10000):0≤Fk n∧Fk n≤1000000:=by have:=Tq h AB; omega
theorem YL {r:Row}(h:BX r=true):-1000≤r.t∧r.t≤1000:=by have:=K5 h; omega
theorem YM {r:Row}(h:BX r=true):-1000≤r.v∧r.v≤1000:=by have:=Qb h; omega
theorem WT {a b:Bool}(h:(a&&b)=true):b=true:=by cases a <;> simp_all
theorem O1 {z:Int}(h:0≤z):0≤Int.tdiv z 128∧Int.tdiv z 128 * 128≤z∧0≤Int.tmod z 128∧Int.tmod z 128< 128:=by
 obtain ⟨k,rfl⟩:∃ k:Nat,z=k:=⟨z.toNat,by omega⟩
 have e:Int.tdiv (k:Int) 128=((k / 128:Nat):Int):=rfl
 have e2:Int.tmod (k:Int) 128=((k % 128:Nat):Int):=rfl
 rw [e,e2]
 omega
end Go.Proofs.YtckdhcbbgmiccaaGreat
namespace Go.Proofs.YtckdhcbbgmiccaaGreat
set_option maxRecDepth 100000
set_option maxHeartbeats 4000000
variable {w:World} {F:Nat→Prop}
theorem JY (n:Int){F:Nat→Prop}  (p0:-1000000≤n∧n≤1000000):Calls Tryz.prog 185 [.int .i64 n].toArray w (Aj fun rv w'=>rv=.int .i64 (Fk n)∧Ext w w'):=by
 refine goT func185 ?_
 have Z:=St.i0 F w
 exact .s<|.g<|.r 1<|.d<|.s<|.s<|.g<|.r 1<|.bp (n< 0) (fun E=>.d<|.ct<|.s<|.g<|.r 1<|.it ((-2) * n)<|.it (((-2) * n) - 1)<|.r 1<|.d<|T.rt func185 results185 (vI (((-2) * n) - 1)) ⟨(congrArg (Value.int .i64) (by unfold Fk; (rw [if_pos ‹_›]; done))),Z.xt⟩) fun E=>.d<|.cf<|.sk<|.s<|.g<|.r 1<|.it (2 * n)<|.r 1<|.d<|T.rt func185 results185 (vI (2 * n)) ⟨(congrArg (Value.int .i64) (by unfold Fk; (rw [if_neg ‹_›]; done))),Z.xt⟩
end Go.Proofs.YtckdhcbbgmiccaaGreat
namespace Go.Proofs.YtckdhcbbgmiccaaGreat
def EU (z:Nat):Str:=if h:z< 128 then [UInt8.ofNat z] else UInt8.ofNat (z % 128+128)::EU (z / 128)
termination_by z
decreasing_by omega
theorem KF {z:Nat}(h:z< 128):EU z=[UInt8.ofNat z]:=by rw [EU,dif_pos h]
theorem Ir {z:Nat}(h:¬ z< 128):EU z=UInt8.ofNat (z % 128+128)::EU (z / 128):=by rw [EU,dif_neg h]
theorem O2 (z:Nat):0< (EU z).length:=by rw [EU]; split <;> simp
theorem KG {z:Nat}(h:z< 128):(EU z).length=1:=by rw [KF h]; rfl
theorem M0 {z:Nat}(h:z< 16384):(EU z).length≤2:=by
 by_cases h1:z< 128
 ·rw [KG h1]; omega
 ·rw [Ir h1,List.length_cons,KG AB]; omega
theorem O3 {z:Nat}(h:z< 2097152):(EU z).length≤3:=by
 by_cases h1:z< 128
 ·rw [KG h1]; omega
 ·rw [Ir h1,List.length_cons]
  have:=M0 (z:=z / 128) AB
  omega
theorem ofNat_inj {a b:Nat}(ha:a< 256) (hb:b< 256) (h:UInt8.ofNat a=UInt8.ofNat b):a=b:=by
 have:=congrArg UInt8.toNat h
 rw [UInt8.toNat_ofNat',UInt8.toNat_ofNat'] at this
 omega
theorem Tt:∀ (z y:Nat) (r s:Str),EU z++r=EU y++s→z=y∧r=s:=by
 intro z
 induction z using Nat.strongRecOn with
 | ind z ih =>
   intro y r s h
   by_cases h1:z< 128
   ·by_cases h2:y< 128
    ·rw [KF h1,KF h2] at h
     simp only [List.cons_append,List.nil_append,List.cons.injEq] at h
     exact ⟨ofNat_inj AB AB h.1,h.2⟩
    ·rw [KF h1,Ir h2] at h
     simp only [List.cons_append,List.nil_append,List.cons.injEq] at h
     have:=ofNat_inj AB AB h.1
     omega
   ·by_cases h2:y< 128
    ·rw [Ir h1,KF h2] at h
     simp only [List.cons_append,List.nil_append,List.cons.injEq] at h
     have:=ofNat_inj AB AB h.1
     omega
    ·rw [Ir h1,Ir h2] at h
     simp only [List.cons_append,List.cons.injEq] at h
     have e:=ofNat_inj AB AB h.1
     obtain ⟨e2,e3⟩:=ih (z / 128) AB (y / 128) r s h.2
     exact ⟨by omega,e3⟩
theorem Vn {out:Str}{z y:Int}{Y:Str}(h:out++EU z.toNat=Y) (hz:z≥128) (hy:y=Int.tmod z 128+128):(out++[UInt8.ofNat y.toNat])++EU (Int.tdiv z 128).toNat=Y:=by
 obtain ⟨k,rfl⟩:∃ k:Nat,z=k:=⟨z.toNat,by omega⟩
 have e:Int.tdiv (k:Int) 128=((k / 128:Nat):Int):=rfl
 have e2:Int.tmod (k:Int) 128=((k % 128:Nat):Int):=rfl
 rw [e2] at hy
 have hk:¬ k< 128:=by omega
 have e3:((k:Int)).toNat=k:=by omega
 have e4:(((k / 128:Nat):Int)).toNat=k / 128:=Int.toNat_natCast _
 have e5:(((k % 128:Nat):Int)+128).toNat=k % 128+128:=by omega
 rw [e,← h,hy,e3,e4,e5,Ir hk,List.append_assoc]
 rfl
theorem XI {out:Str}{z:Int}{Y:Str}(h:out++EU z.toNat=Y) (hz:¬ z≥128):out++[UInt8.ofNat z.toNat]=Y:=by
 rw [← h,KF AB]
theorem O4 {out:Str}{z y:Int}(h:out++EU z.toNat=EU y.toNat) (hy:0≤y∧y≤1000000):out.length≤3:=by
 have:=congrArg List.length h
 rw [List.length_append] at this
 have:=O3 (z:=y.toNat) AB
 omega
theorem Tu {a b:Int}(h:(Fk a).toNat=(Fk b).toNat):a=b:=by
 unfold Fk at h
 split at h <;> split at h <;> omega
def zp (i:Nat) (step d:Int):Nat:=(Fk (if i< 2 then d else d - step)).toNat
def Bz:Nat→Int→Int→List Int→Str
 | _,_,_,[]=>[]
 | i,last,step,x::xs=>EU (zp i step (x - last))++Bz (i+1) x (x - last) xs
theorem M3:∀ (xs ys:List Int) (i:Nat) (last step:Int),Bz i last step xs=Bz i last step ys→xs=ys:=by
 intro xs
 induction xs with
 | nil =>
   intro ys i last step h
   cases ys with
   | nil=>rfl
   | cons y ys =>
     have:=congrArg List.length h
     simp only [Bz,List.length_nil,List.length_append] at this
     have:=O2 (zp i step (y - last))
     omega
 | cons x xs ih =>
   intro ys i last step h
   cases ys with
   | nil =>
     have:=congrArg List.length h
     simp only [Bz,List.length_nil,List.length_append] at this
     have:=O2 (zp i step (x - last))
     omega
   | cons y ys =>
     simp only [Bz] at h
     obtain ⟨e1,e2⟩:=Tt _ _ _ _ h
     have e3:x=y:=by
      have:=Tu e1
      split at this <;> omega
     subst e3
     rw [ih ys _ _ _ e2]
theorem XJ {i:Nat}{step d:Int}(h:-3000≤step∧step≤3000) (hd:-3000≤d∧d≤3000):(EU (zp i step d)).length≤2:=by
 refine M0 ?_
 unfold zp Fk
 split <;> split <;> omega
theorem KH:∀ (l:List Int) (i:Nat) (last step:Int),(∀ x∈l,-1000≤x∧x≤1000)→(-1000≤last∧last≤1000)→(-2000≤step∧step≤2000)→(Bz i last step l).length≤2 * l.length:=by
 intro l
 induction l with
 | nil=>intro i last step _ _ _; simp [Bz]
 | cons x xs ih =>
   intro i last step h h1 h2
   simp only [Bz,List.length_append,List.length_cons]
   have hx:=h x AD
   have a:=XJ (i:=i) (step:=step) (d:=x - last) AB AB
   have b:=ih (i+1) x (x - last) (fun y hy=>h y (by simp [hy])) hx AB
   omega
theorem O5 {out Y:Str}{l:List Int}{i:Nat}{last step x y z:Int}(h:out++Bz i last step (l.drop i)=Y) (hd:l.drop i=x::l.drop (i+1)) (hy:y=Fk z) (hz:(i< 2∧z=x - last)∨(¬ i< 2∧z=x - last - step)):(out++EU y.toNat)++Bz (i+1) x (x - last) (l.drop (i+1))=Y:=by
 rw [hd] at h
 rw [← h,hy]
 simp only [Bz]
 have e:(Fk z).toNat=zp i step (x - last):=by
  unfold zp
  rcases hz with ⟨h1,h2⟩ | ⟨h1,h2⟩
  ·rw [if_pos h1,h2]
  ·rw [if_neg h1,h2]
 rw [e,List.append_assoc]
theorem Vo {out Y:Str}{l:List Int}{i:Nat}{last step:Int}(h:out++Bz i last step (l.drop i)=Y) (hi:l.length≤i):out=Y:=by
 rw [Ac hi] at h
 simpa [Bz] using h
theorem Ry {out:Str}{l:List Int}{i:Nat}{last step:Int}(h:out++Bz i last step (l.drop i)=Bz 0 0 0 l) (hl:∀ x∈l,-1000≤x∧x≤1000):out.length≤2 * l.length:=by
 have:=congrArg List.length h
 rw [List.length_append] at this
 have:=KH l 0 0 0 hl AB AB
 omega
theorem O6 {out:Str}{l:List Int}{i:Nat}{last step z:Int}(h:out++Bz i last step (l.drop i)=Bz 0 0 0 l) (hl:∀ x∈l,-1000≤x∧x≤1000) (hn:l.length≤1000) (h1:-10000≤z) (h2:z≤10000):out.length+(EU (Fk z).toNat).length≤9000000000000000000:=by
 have:=Ry h hl
 have:=Tq (n:=z) (m:=10000) ⟨h1,h2⟩ AB
 have:=O3 (z:=(Fk z).toNat) AB
 omega
theorem Vp {n:Int}{y:UInt8}(h:(y.toNat:Int)=n):y=UInt8.ofNat n.toNat:=by
 rw [← h,show ((y.toNat:Int)).toNat=y.toNat from Int.toNat_natCast _,UInt8.ofNat_toNat]
def WW (b:List Row):Str:=[UInt8.ofNat (Bz 0 0 0 (b.map Row.t)).length]++Bz 0 0 0 (b.map Row.t)++Bz 0 0 0 (b.map Row.v)
def Ee (b:List Row):Str:=if BA b=true then WW b else []
theorem Tv {b:List Row}(h:BA b=false):[]=Ee b:=by unfold Ee; rw [if_neg (by simp [h])]
theorem Tw {b:List Row}(h:BA b=true):∀ x∈b.map Row.t,-1000≤x∧x≤1000:=fun x hx=>by
 obtain ⟨r,hr,rfl⟩:=List.mem_map.1 hx
 exact YL ((Ia h).rows r hr)
theorem Tx {b:List Row}(h:BA b=true):∀ x∈b.map Row.v,-1000≤x∧x≤1000:=fun x hx=>by
 obtain ⟨r,hr,rfl⟩:=List.mem_map.1 hx
 exact YM ((Ia h).rows r hr)
theorem KI {b:List Row}(h:BA b=true):(Bz 0 0 0 (b.map Row.t)).length≤48:=by
 have:=KH (b.map Row.t) 0 0 0 (Tw h) AB AB
 rw [List.length_map] at this
 have:=bok h
 omega
theorem Rz {b:List Row}(h:BA b=true):(Bz 0 0 0 (b.map Row.v)).length≤48:=by
 have:=KH (b.map Row.v) 0 0 0 (Tx h) AB AB
 rw [List.length_map] at this
 have:=bok h
 omega
theorem P6 {b:List Row}{ts:List Int}{i:Nat}(h:ts++(b.drop i).map Row.t=b.map Row.t) (hi:b.length≤i) (hb:BA b=true):(Bz 0 0 0 ts).length≤48:=by
 rw [HT h hi]; exact KI hb
theorem XK {b:List Row}{ts:List Int}{i:Nat}(h:ts++(b.drop i).map Row.v=b.map Row.v) (hi:b.length≤i) (hb:BA b=true):(Bz 0 0 0 ts).length≤48:=by
 rw [HT h hi]; exact Rz hb
theorem XL {b:List Row}{ts vs:List Int}{i:Nat}(h:ts++(b.drop i).map Row.t=b.map Row.t) (h2:vs++(b.drop i).map Row.v=b.map Row.v) (hi:b.length≤i) (hb:BA b=true):UInt8.ofNat (Bz 0 0 0 ts).length::(Bz 0 0 0 ts++Bz 0 0 0 vs)=Ee b:=by
 rw [HT h hi,HT h2 hi]
 unfold Ee; rw [if_pos hb]; rfl
theorem Ty:∀ (a b:List Row),a.map Row.t=b.map Row.t→a.map Row.v=b.map Row.v→a=b:=by
 intro a
 induction a with
 | nil=>intro b h _; cases b with | nil=>rfl | cons y ys=>simp at h
 | cons x xs ih =>
   intro b h1 h2
   cases b with
   | nil=>simp at h1
   | cons y ys =>
     simp only [List.map_cons,List.cons.injEq] at h1 h2
     obtain ⟨h3,h4⟩:=h1
     obtain ⟨h5,h6⟩:=h2
     rw [ih ys h4 h6]
     cases x
     cases y
     simp only [Row.mk.injEq] at *
     simp_all
theorem R0 {a b:List Row}(ha:BA a=true) (hb:BA b=true) (h:Ee a=Ee b):a=b:=by
 unfold Ee at h
 rw [if_pos ha,if_pos hb] at h
 unfold WW at h
 simp only [List.cons_append,List.nil_append,List.cons.injEq] at h
 have e:=ofNat_inj (by have:=KI ha; omega) (by have:=KI hb; omega) h.1
 obtain ⟨e1,e2⟩:=List.append_inj h.2 e
 exact Ty a b (M3 _ _ _ _ _ e1) (M3 _ _ _ _ _ e2)
theorem Vq {d:Dsk}{s:Sto}(h:(s.parts.length:Int)≠d.list.length):false=Br d s:=P7 (fun e=>h (by rw [e,List.length_map]))
theorem XM {d:Dsk}{s:Sto}{k:Nat}{a b:List Tag}(ha:d.names[k]? = some a) (hb:s.idx.names[k]? = some b) (h:(text a==text b)=false):false=Br d s:=P8 (fun e=>(beq_eq_false_iff_ne.1 h) (by
 have hk:=(List.getElem?_eq_some_iff.1 ha).1
 have h2:d.names[k]? = (s.idx.names.take d.names.length)[k]? := congrArg (fun l=>l[k]?) e
 rw [List.getElem?_take,if_pos hk,ha,hb] at h2
 cases h2
 rfl))
def T1 (d:Dsk) (s:Sto) (k:Nat):Prop:=∀ j a b,j< k→d.names[j]? = some a→s.idx.names[j]? = some b→text a=text b
theorem XN (d:Dsk) (s:Sto):T1 d s 0:=fun j _ _ h=>absurd h AB
theorem XO {d:Dsk}{s:Sto}{k:Nat}{a b:List Tag}(h:T1 d s k) (ha:d.names[k]? = some a) (hb:s.idx.names[k]? = some b) (e:(text a==text b)=true):T1 d s (k+1):=fun j x y hj hx hy=>by
 by_cases e1:j=k
 ·subst e1
  rw [ha] at hx
  rw [hb] at hy
  cases hx
  cases hy
  exact eq_of_beq e
 ·exact h j x y AB hx hy
theorem XP {d:Dsk}{s:Sto}{k:Nat}(h:T1 d s k) (hk:d.names.length≤k) (hd:NmI d.names) (hs:NmI s.idx.names) (hl:d.names.length≤s.idx.names.length):d.names=s.idx.names.take d.names.length:=by
 apply List.ext_getElem?
 intro j
 by_cases hj:j< d.names.length
 ·rw [List.getElem?_take,if_pos hj]
  have ha:=AU hj
  have hb:=AU (l:=s.idx.names) (i:=j) AB
  rw [ha,hb,Lv (hd.ok _ (List.getElem_mem _)) (hs.ok _ (List.getElem_mem _)) (h j _ _ AB ha hb)]
 ·rw [List.getElem?_eq_none AB,List.getElem?_eq_none (by rw [List.length_take]; omega)]
def T3 (d:Dsk) (s:Sto) (k:Nat):Prop:=∀ j n q,j< k→d.list[j]? = some n→s.parts[j]? = some q→Ay d n=q
theorem XQ (d:Dsk) (s:Sto):T3 d s 0:=fun j _ _ h=>absurd h AB
theorem XR {d:Dsk}{s:Sto}{k:Nat}(h:T3 d s k) (hk:d.list.length≤k) (hl:(s.parts.length:Int)=d.list.length):s.parts=d.list.map (Ay d):=by
 apply List.ext_getElem?
 intro j
 by_cases hj:j< d.list.length
 ·have ha:=AU hj
  have hb:=AU (l:=s.parts) (i:=j) AB
  rw [List.getElem?_map,ha,hb,← h j _ _ AB ha hb]
  rfl
 ·rw [List.getElem?_eq_none AB,List.getElem?_eq_none (by rw [List.length_map]; omega)]
def T4 (d:Dsk) (s:Sto) (k:Nat) (k1:Int):Prop:=∀ n q,d.list[k]? = some n→s.parts[k]? = some q→∀ id:Int,1≤id→id< k1→partOf (Ay d n) id=partOf q id
theorem XS (d:Dsk) (s:Sto) (k:Nat):T4 d s k 1:=fun _ _ _ _ id h1 h2=>absurd h1 AB
theorem M4 {d:Dsk}(h:Az d=true) (n:Int):Ar (Ay d n)=true:=by
 unfold Ay
 rw [List.getD_eq_getElem?_getD]
 cases hx:d.files[(Av d n).toNat]? with
 | none=>rfl
 | some f=>exact (L8 _ _ _ (Ck h).2.2.1 f (AV hx)).2.2
theorem XT {d:Dsk}{s:Sto}{k:Nat}{k1:Int}{n:Int}{q:Prt}{f:Fil}(h:T4 d s k k1) (hk:Az d=true) (hs:Ad s=true) (hss:SD s) (hn:d.list[k]? = some n) (hq:s.parts[k]? = some q) (hf:d.files[(Av d n).toNat]? = some f) (e:(Ee (partOf f.part k1)==Ee (partOf q k1))=true):T4 d s k (k1+1):=fun m r hm hr id h1 h2=>by
 rw [hn] at hm
 rw [hq] at hr
 cases hm
 cases hr
 by_cases e1:id=k1
 ·subst e1
  have e2:=EE hf
  have a:BA (partOf f.part id)=true:=Ep (by rw [← e2]; exact M4 hk n) id
  have b:BA (partOf q id)=true:=Ep ((StoK.of hss hs).part q (AV hq)).2 id
  rw [e2]
  exact R0 a b (eq_of_beq e)
 ·exact h n q hn hq id h1 AB
theorem XU {d:Dsk}{s:Sto}{k:Nat}{k1 n:Int}{q:Prt}{f:Fil}(hn:d.list[k]? = some n) (hq:s.parts[k]? = some q) (hf:d.files[(Av d n).toNat]? = some f) (e:(Ee (partOf f.part k1)==Ee (partOf q k1))=false):false=Br d s:=P7 (fun e2=>(beq_eq_false_iff_ne.1 e) (by
 have h2:s.parts[k]? = (d.list.map (Ay d))[k]? := congrArg (fun l=>l[k]?) e2
 rw [List.getElem?_map,hn,hq] at h2
 have h3:=Option.some.inj h2
 rw [h3,EE hf]))
theorem O7 {p:Prt}(h:Ar p=true){id:Int}(hid:¬ (1≤id∧id≤6)):partOf p id=[]:=by
 unfold Ar at h
 simp only [AW,decide_eq_true_eq] at h
 have key:∀ (is:List Int) (bs:List (List Row)) (o:Option Int),BZ o is bs=true→Bb id is bs=[]:=by
  intro is
  induction is with
  | nil=>intro bs o _; unfold Bb; rfl
  | cons i is ih =>
    intro bs o hg
    cases bs with
    | nil=>unfold Bb; rfl
    | cons b bs =>
      simp only [BZ,AW] at hg
      have h5:=CD hg.1.1.1.1
      unfold Bb
      rw [if_neg (by simp; omega)]
      exact ih bs _ hg.2
 exact key _ _ _ h.2
theorem R1 {p q:Prt}(hp:Ar p=true) (hq:Ar q=true) (h:∀ id:Int,1≤id→id≤6→partOf p id=partOf q id):p=q:=L7 hp hq (fun id=>by
 by_cases hid:1≤id∧id≤6
 ·exact h id hid.1 hid.2
 ·rw [O7 hp hid,O7 hq hid])
theorem XV {d:Dsk}{s:Sto}{k:Nat}{k1:Int}(h:T3 d s k) (hi:T4 d s k k1) (h7:¬ k1≤6) (hk:Az d=true) (hs:Ad s=true) (hss:SD s):T3 d s (k+1):=fun j n q hj hn hq=>by
 by_cases e1:j=k
 ·subst e1
  exact R1 (M4 hk n) ((StoK.of hss hs).part q (AV hq)).2 (fun id h1 h2=>hi n q hn hq id h1 AB)
 ·exact h j n q AB hn hq
end Go.Proofs.YtckdhcbbgmiccaaGreat
namespace Go.Proofs.YtckdhcbbgmiccaaGreat
set_option maxRecDepth 100000
set_option maxHeartbeats 4000000
variable {w:World} {F:Nat→Prop} {a1 a2 a3 a4 a5 a6 a7:Option Addr} {n1 c1 n2 c2 n3 c3 n4 c4 n5 c5 n6 c6 n7 c7:Nat}
theorem Fm (n:Int){F:Nat→Prop}  (p0:0≤n∧n≤255):Calls Tryz.prog 154 [.int .i64 n].toArray w (Aj fun rv w'=>rv=.string (bs ([UInt8.ofNat n.toNat]))∧Ext w w'):=by
 refine goT func154 ?_
 have Z:=St.i0 F w
 refine .s<|.g<|.r 1<|.d<|.s<|.g<|.r 1 ?_
 obtain ⟨E,aa⟩:∃ y:UInt8,(y.toNat:Int)=n:=Vm AB
 exact RG.eqv (v:=.int .u8 (E.toNat:Int)) (v':=.int .u8 (IntKind.u8.wrap n)) AA (Rx aa)<|RG.Nl 0 ([E]:List UInt8) [] Z fun ab w Z=>RG.b2s (s:=22) (d:=9) (y:=E) (Z.ow 0 ([E]:List UInt8) AA).1 AA AA<|.r 1<|.d<|T.rt func154 results154 (.string (bs [E])) ⟨(congrArg (fun s=>Value.string (bs s)) (by rw [List.cons.injEq]; exact ⟨Vp ‹_›,rfl⟩)),Z.xt⟩
theorem Ib (z:Int){F:Nat→Prop}  (p0:0≤z∧z≤1000000):Calls Tryz.prog 184 [.int .i64 z].toArray w (Aj fun rv w'=>rv=.string (bs (EU z.toNat))∧Ext w w'):=by
 refine goT func184 ?_
 have Z:=St.i0 F w
 refine .s<|.g<|.r 1<|.d<|.s<|.g<|.r 1<|.d<|.s<|.b 0<|T.Lp (z,[]) (fun (E,out)=>([(0,vI E),(3,vT out)],[],[],E.toNat,(0≤E∧E≤1000000)∧(out++EU E.toNat=EU z.toNat))) [] Z ⟨AB,AF⟩ ?_
 rintro ⟨E,out⟩ ag w Z ⟨ae,af⟩ aa
 exact .s<|.s<|.g<|.r 1<|.bp (E≥128) (fun ac=>.d<|.ct<|.sk<|.b 1<|.s<|.g<|.r 3<|RG.int (Int.tmod E 128+128) AA (by (have q1:=O1 (z:=E) AB; omega))<|RG.C0 (Fm (Int.tmod E 128+128) (by (have q1:=O1 (z:=E) AB; omega)) (F:=all)) Z fun w Z=>RG.cat (t:=9) (s:=out) (u:=[UInt8.ofNat (Int.tmod E 128+128).toNat]) AA (by have q1:=O4 ‹_› p0; simp only [List.length_cons,List.length_nil]; omega)<|.r 1<|.d<|.g<|.r 1<|RG.quo (t:=3) (a:=E) (b:=128) AA AB (by (have q1:=O1 (z:=E) AB; omega))<|.r 1<|.d<|.ib 1<|aa ((Int.tdiv E 128),(out++[UInt8.ofNat (Int.tmod E 128+128).toNat])) _ _ AA (Z.to 0 [] 0) ⟨(by have q1:=O1 (z:=E) AB; omega),(by exact Vn ‹_› AB rfl)⟩ (by simp only []; have q1:=O1 (z:=E) AB; omega)) fun ac=>.d<|.cf<|.x 0 rfl<|.s<|.g<|.r 2<|RG.C0 (Fm E AB (F:=all)) Z fun w Z=>RG.cat (t:=9) (s:=out) (u:=[UInt8.ofNat E.toNat]) AA (by have q1:=O4 ‹_› p0; simp only [List.length_cons,List.length_nil]; omega)<|.r 1<|.d<|T.rt func184 results184 (.string (bs (out++[UInt8.ofNat E.toNat]))) ⟨(congrArg (fun s=>Value.string (bs s)) (by exact XI ‹_› AB)),Z.xt⟩
theorem Hn (list:List Int) (h1:RepS w F a1 n1 c1 list) (p0:list.length≤1000) (p1:∀ x∈list,-1000≤x∧x≤1000):Calls Tryz.prog 153 [.slice a1 n1 c1].toArray w (Aj fun rv w'=>rv=.string (bs (Bz 0 0 0 list))∧Ext w w'):=by
 cases h1.len
 refine goT func153 ?_
 have Z:=(St.i0 F w).p h1
 refine .s<|.g<|.r 1<|.d<|.s<|.g<|.r 1<|.d<|.s<|.g<|.r 1<|.d<|.s<|.g<|.r 1<|.d<|.s<|.s<|.g<|.r 1<|.d<|.b 0<|T.Lp ([],(0:Int),(0:Int),(0:Nat)) (fun (out,last,step,i)=>([(0,.slice a1 list.length c1),(3,vT out),(4,vI last),(5,vI step),(6,vI (i:Int))],[],[],list.length - i,(i≤list.length)∧(-1000≤last∧last≤1000)∧(-2000≤step∧step≤2000)∧(out++Bz i last step (list.drop i)=Bz 0 0 0 list))) [] Z ⟨AB,AB,AB,AF⟩ ?_
 rintro ⟨out,last,step,i⟩ ao w Z ⟨ai,aj,ak,al⟩ ab
 refine .s<|.s<|.g<|.r 3<|.bp ((i:Int)< (list.length:Int)) (fun ae=>?_) (fun ae=>.d<|.cf<|.x 0 rfl<|.s<|.g<|.r 2<|.d<|T.rt func153 results153 (vT out) ⟨(congrArg (fun s=>Value.string (bs s)) (by exact Vo ‹_› AB)),Z.xt⟩)
 exact .d<|.ct<|.sk<|.s<|.b 1<|.s<|.g<|.r 2<|gxb list i fun E aa am ag=>RG.Ix 0 aa Z<|Z.el 0 aa fun Z=>RG.Lh 0 0 Z<|.r 1<|RG.int (E - last) AA (by (have q1:=p1 _ ‹_›; omega))<|.r 1<|.d<|.s<|.s<|.g<|.r 1<|.bp ((i:Int)< 2) (fun af=>.d<|.ct<|.g<|.r 2<|RG.C0 (JY (E - last) (by have q1:=p1 _ ‹_›; omega) (F:=all)) Z fun w Z=>RG.C0 (Ib (Fk (E - last)) (by have q1:=p1 _ ‹_›; exact Qz AB) (F:=all)) Z fun w Z=>RG.cat (t:=9) (s:=out) (u:=EU (Fk (E - last)).toNat) AA (by have q2:=p1 _ ‹_›; exact O6 ‹_› p1 p0 AB AB)<|.r 1<|.d<|.s<|.g<|.r 2<|.d<|.g<|.r 2<|RG.Ix 1 aa Z<|RG.Lh 0 0 Z<|.r 1<|.d<|.ib 1<|.g<|.r 1<|RG.int ((i:Int)+1) AA AB<|.r 1<|.d<|ab ((out++(EU (Fk (E - last)).toNat)),E,E - last,i+1) _ _ AA (Z.to 0 [] 1) ⟨AB,(by exact p1 _ ‹_›),(by have q1:=p1 _ ‹_›; omega),(by exact O5 ‹_› ‹_› rfl (by exact .inl ⟨by omega,rfl⟩))⟩ (by (simp only []; omega))) fun af=>.d<|.cf<|.g<|.r 3<|RG.int ((E - last) - step) AA (by (have q1:=p1 _ ‹_›; omega))<|RG.C0 (JY ((E - last) - step) (by have q1:=p1 _ ‹_›; omega) (F:=all)) Z fun w Z=>RG.C0 (Ib (Fk ((E - last) - step)) (by have q1:=p1 _ ‹_›; exact Qz AB) (F:=all)) Z fun w Z=>RG.cat (t:=9) (s:=out) (u:=EU (Fk ((E - last) - step)).toNat) AA (by have q2:=p1 _ ‹_›; exact O6 ‹_› p1 p0 AB AB)<|.r 1<|.d<|.s<|.g<|.r 2<|.d<|.g<|.r 2<|RG.Ix 1 aa Z<|RG.Lh 0 0 Z<|.r 1<|.d<|.ib 1<|.g<|.r 1<|RG.int ((i:Int)+1) AA AB<|.r 1<|.d<|ab ((out++(EU (Fk ((E - last) - step)).toNat)),E,E - last,i+1) _ _ AA (Z.to 0 [] 1) ⟨AB,(by exact p1 _ ‹_›),(by have q1:=p1 _ ‹_›; omega),(by exact O5 ‹_› ‹_› rfl (by exact .inr ⟨by omega,rfl⟩))⟩ (by (simp only []; omega))
theorem F5 (b:List Row) (h1:RepS w F a1 n1 c1 b) (p0:b.length≤1000):Calls Tryz.prog 115 [.slice a1 n1 c1].toArray w (Aj fun rv w'=>rv=.string (bs (Ee b))∧Ext w w'):=by
 cases h1.len
 refine goT func115 ?_
 have Z:=(St.i0 F w).p h1
 refine .s<|.g<|.r 1<|.d<|.s<|.s<|.g<|.r 1<|RG.C0 (Fa b (Z.a 0)) Z fun w Z=>?_
 cases am:(BA b)
 ·exact .r 1<|.d<|.ct<|.s<|.g<|.r 1<|.d<|T.rt func115 results115 (.string (bs [])) ⟨(congrArg (fun s=>Value.string (bs s)) (by exact Tv ‹_›)),Z.xt⟩
 refine .r 1<|.d<|.cf<|.sk<|.s<|.g<|RG.N0 Int 0 Z fun af w Z=>.r 1<|.d<|.s<|.g<|RG.N0 Int 0 Z fun ag w Z=>.r 1<|.d<|.s<|.s<|.g<|.r 1<|.d<|.b 0<|T.Lp (([]:List Int),af,(0:Nat),([]:List Int),ag,(0:Nat),(0:Nat)) (fun (ts,r_ts,c_ts,vs,r_vs,c_vs,i)=>([(0,.slice a1 b.length c1),(3,vS r_ts ts.length c_ts),(4,vS r_vs vs.length c_vs),(5,vI (i:Int))],[(0,.own 0 r_vs 3 c_vs vs),(1,.own 0 r_ts 3 c_ts ts)],[],b.length - i,(i≤b.length)∧(ts.length=i)∧(vs.length=i)∧(ts++(b.drop i).map Row.t=b.map Row.t)∧(vs++(b.drop i).map Row.v=b.map Row.v))) [] Z ⟨AB,AF,AF,AF,AF⟩ ?_
 rintro ⟨ts,r_ts,c_ts,vs,r_vs,c_vs,i⟩ aC w Z ⟨ao,aq,ar,ax,ay⟩ aa
 refine .s<|.s<|.g<|.r 3<|.bp ((i:Int)< (b.length:Int)) (fun ac=>?_) (fun ac=>.d<|.cf<|.x 0 rfl<|.s<|.g<|.r 1<|RG.C0 (Hn ts (Z.oa 1) AB (by exact HT (by assumption:_++(b.drop _).map Row.t=_) AB▸Tw ‹_›)) Z fun w Z=>.r 1<|.d<|.s<|.g<|.r 1<|RG.eqv (v:=vI ((Bz 0 0 0 ts).length:Int)) AA (IQ (Bz 0 0 0 ts))<|RG.C0 (Fm ((Bz 0 0 0 ts).length:Int) (by have q1:=P6 ‹_› AB (by assumption:BA b=true); omega) (F:=all)) Z fun w Z=>.r 1<|RG.cat (t:=9) (s:=[UInt8.ofNat ((Bz 0 0 0 ts).length:Int).toNat]) (u:=Bz 0 0 0 ts) AA (by have q1:=P6 ‹_› AB (by assumption:BA b=true); (simp only [List.length_append,List.length_cons,List.length_nil]; omega))<|.r 1<|RG.C0 (Hn vs (Z.oa 0) AB (by exact HT (by assumption:_++(b.drop _).map Row.v=_) AB▸Tx ‹_›)) Z fun w Z=>RG.cat (t:=9) (s:=([UInt8.ofNat ((Bz 0 0 0 ts).length:Int).toNat]++(Bz 0 0 0 ts))) (u:=Bz 0 0 0 vs) AA (by have q1:=P6 ‹_› AB (by assumption:BA b=true); have q2:=XK ‹_› AB (by assumption:BA b=true); (simp only [List.length_append,List.length_cons,List.length_nil]; omega))<|.r 1<|.d<|T.rt func115 results115 (.string (bs (([UInt8.ofNat ((Bz 0 0 0 ts).length:Int).toNat]++(Bz 0 0 0 ts))++(Bz 0 0 0 vs)))) ⟨(congrArg (fun s=>Value.string (bs s)) (by exact XL ‹_› ‹_› AB ‹_›)),Z.xt⟩)
 exact .d<|.ct<|.sk<|.s<|.b 1<|.s<|.g<|.r 3<|gxd b i fun ab E aB=>RG.Ix 0 E Z<|.r 1<|Z.el 0 E fun Z=>RG.Lh 0 0 Z<|RG.Nb 1 Z fun aD w Z=>RG.Ap 1 0 ts ab.t [] Z fun ah ai w Z=>.r 1<|.d<|.g<|.r 3<|RG.Ix 1 E Z<|.r 1<|RG.Lh 0 1 Z<|RG.Nb 1 Z fun aE w Z=>RG.Ap 0 0 vs ab.v [] Z fun aj ak w Z=>.r 1<|.d<|.ib 1<|.g<|.r 1<|.it ((i:Int)+1)<|.r 1<|.d<|aa ((ts++[ab.t]),ah,ai,(vs++[ab.v]),aj,ak,i+1) _ _ AA (Z.to 0 [] 1) ⟨AB,(by (simp; omega)),(by (simp; omega)),(by exact mapStep ‹_› ‹_› rfl),(by exact mapStep ‹_› ‹_› rfl)⟩ (by (simp only []; omega))
theorem Kv (d:Dsk) (s:Sto) (h1:RepS w F a1 n1 c1 d.files) (h2:RepS w F a2 n2 c2 d.list) (h3:RepS w F a3 n3 c3 d.names) (h4:RepS w F a4 n4 c4 s.idx.names) (h5:RepS w F a5 n5 c5 s.idx.AY) (h6:RepS w F a6 n6 c6 s.parts) (h7:RepS w F a7 n7 c7 s.mem) (p0:DD d) (p1:SD s):Calls Tryz.prog 55 [.agg #[.slice a1 n1 c1,.slice a2 n2 c2,.slice a3 n3 c3,.int .i64 d.next],.agg #[.slice a4 n4 c4,.slice a5 n5 c5,.slice a6 n6 c6,.slice a7 n7 c7]].toArray w (Aj fun rv w'=>rv=.bool (Br d s)∧Ext w w'):=by
 cases h1.len
 cases h2.len
 cases h3.len
 cases h4.len
 cases h5.len
 cases h6.len
 cases h7.len
 refine goT func55 ?_
 have Z:=(((((((St.i0 F w).p h1).p h2).p h3).p h4).p h5).p h6).p h7
 have aL:=h3.max
 have aM:=h4.max
 have aO:=h6.max
 refine .s<|.g<|RG.Np Z fun aq w Z=>RG.Np Z fun ar w Z=>.r 1<|.d<|.s<|.s<|.g<|RG.Ln 1 Z<|RG.C0 (MW d (Z.a 6) (Z.a 5) (Z.a 4) p0) Z fun w Z=>?_
 cases aQ:(Az d)
 ·exact .r 25<|.d<|.ct<|.s<|.g<|.r 1<|.d<|T.rt func55 results55 (.bool false) ⟨(AG (by exact Tz ‹_›)),Z.xt⟩
 refine .r 2<|RG.Ln 0 Z<|RG.C0 (HA s (Z.a 3) (Z.a 2) (Z.a 1) (Z.a 0) (SG.of p1)) Z fun w Z=>?_
 cases aR:(nmB s.idx.names&&Ad s)
 ·exact .r 21<|.d<|.ct<|.s<|.g<|.r 1<|.d<|T.rt func55 results55 (.bool false) ⟨(AG (by exact T0 ‹_›)),Z.xt⟩
 refine .r 4<|RG.Lb 0 Z<|.r 2<|RG.Lb 1 Z<|.r 1<|.ne (s.parts.length:Int) (d.list.length:Int) (fun ay=>.r 11<|.d<|.ct<|.s<|.g<|.r 1<|.d<|T.rt func55 results55 (.bool false) ⟨(AG (by exact Vq ‹_›)),Z.xt⟩) fun ay=>.r 4<|RG.Lb 0 Z<|.r 2<|RG.Lb 1 Z<|.r 1<|.bp ((s.idx.names.length:Int)< (d.names.length:Int)) (fun az=>.r 1<|.d<|.ct<|.s<|.g<|.r 1<|.d<|T.rt func55 results55 (.bool false) ⟨(AG (by exact Q0 ‹_›)),Z.xt⟩) fun az=>.r 1<|.d<|.cf<|.sk<|.s<|.s<|.g<|.r 1<|.d<|.b 0<|T.Lp (0:Nat) (fun k=>([(2,vP aq),(3,vP ar),(5,vI (k:Int))],[],[],d.names.length - k,(k≤d.names.length)∧(T1 d s k))) [] Z ⟨AB,(by exact XN _ _)⟩ ?_
 rintro k bk w Z ⟨aS,aT⟩ ag
 refine .s<|.s<|.g<|.r 2<|RG.Lb 1 Z<|.r 1<|.bp ((k:Int)< (d.names.length:Int)) (fun aA=>?_) (fun aA=>?_)
 ·refine .d<|.ct<|.sk<|.s<|.b 1<|.s<|T.Gd 12 Z fun w Z=>.r [0]<|GA.Lb 1 1 Z<|.r [2]<|gxm (h:=AB) d.names k fun am aa aD=>GA.Ix 3 4 aa Z<|Z.el 4 aa fun bm bn Z=>GA.Lh 4 0 0 Z<|GA.C0 5 Z (fun w Z=>DG am (Z.a 1) (by (have q1:=(p0.g.sz _ ‹_›).1; omega)) (fun t ht=>by (have q1:=(p0.g.sz _ ‹_›).2 t ht; omega)))<|.r [6,7]<|GA.Lb 8 0 Z<|.r [9]<|gxm (h:=AB) s.idx.names k fun ao ab aE=>GA.Ix 10 5 ab Z<|Z.el 5 ab fun bo bq Z=>GA.Lh 11 0 0 Z<|GA.Dn Z fun w Z=>RG.C0 (DG ao (Z.a 1) (by (have q1:=(p1.nm.sz _ ‹_›).1; omega)) (fun t ht=>by (have q1:=(p1.nm.sz _ ‹_›).2 t ht; omega))) Z fun w Z=>RG.eqv (v:=.bool (!(text am==text ao))) AA (Uo (text am) (text ao)) ?_
  cases aW:(text am==text ao)
  ·exact .d<|.ct<|.s<|.g<|.r 1<|.d<|T.rt func55 results55 (.bool false) ⟨(AG (by exact XM ‹_› ‹_› ‹_›)),Z.xt⟩
  exact .d<|.cf<|.sk<|.ib 1<|.g<|.r 1<|.it ((k:Int)+1)<|.r 1<|.d<|ag (k+1) _ _ AA (Z.to 0 [] 4) ⟨AB,(by exact XO ‹_› ‹_› ‹_› ‹_›)⟩ (by (simp only []; omega))
 refine .d<|.cf<|.x 0 rfl<|.s<|.s<|.g<|.r 1<|.d<|.b 2<|T.Lp (0:Nat) (fun k=>([(2,vP aq),(3,vP ar),(6,vI (k:Int))],[],[],d.list.length - k,(k≤d.list.length)∧(T3 d s k))) [] Z ⟨AB,(by exact XQ _ _)⟩ ?_
 rintro k br w Z ⟨aX,aY⟩ ai
 refine .s<|.s<|.g<|.r 2<|RG.Lb 1 Z<|.r 1<|.bp ((k:Int)< (d.list.length:Int)) (fun aB=>?_) (fun aB=>.d<|.cf<|.x 2 rfl<|.s<|.g<|.r 1<|.d<|T.rt func55 results55 (.bool true) ⟨(AG (by exact L9 ‹_› ‹_› (XR ‹_› AB AB) (XP ‹_› AB (Er ‹_›).1 p1.nm AB))),Z.xt⟩)
 refine .d<|.ct<|.sk<|.s<|.b 3<|.s<|T.Gd 13 Z fun w Z=>.r [0]<|GA.Lb 1 1 Z<|GA.Ln 2 1 Z<|.r [3]<|GA.Lb 4 1 Z<|.r [5]<|gxm (h:=AB) d.list k fun ax ac aF=>GA.Ix 6 5 ac Z<|Z.el 5 ac fun Z=>GA.Lh 7 0 0 Z<|GA.C0 8 Z (fun w Z=>Dc d ax (Z.a 7) (Z.a 6) (Z.a 5))<|gxm (h:=(by exact (F4 (DZ (Ck ‹_›).2.2.2 _ ‹_›)).1)) d.files ((Av d ax).toNat) fun aj ae aG=>GA.Jx (hz:=(by exact (F4 (DZ (Ck ‹_›).2.2.2 _ ‹_›)).2)) 9 7 (Av d ax) ae Z<|.r [10]<|Z.el 7 ae fun bt bu bv bw Z=>GA.Lg 11 0 1 Z<|.go 12<|GE.Np Z fun aI w Z=>GA.Dn Z fun w Z=>RG.Ss 0 Z fun w Z=>.d<|.s<|.g<|.r 1<|.d<|.b 4<|T.Lp (1:Nat) (fun E=>([(2,vP aq),(3,vP ar),(6,vI (k:Int)),(7,vP aI),(8,vI (E:Int))],[],[],7 - E,(1≤E)∧(E≤7)∧(T4 d s k E))) [] Z ⟨AB,AB,(by exact XS _ _ _)⟩ ?_
 rintro E bz w Z ⟨bd,bg,bh⟩ ak
 refine .s<|.s<|.g<|.r 1<|.bp ((E:Int)≤6) (fun aC=>?_) (fun aC=>.d<|.cf<|.x 4 rfl<|.ib 3<|.g<|.r 1<|.it ((k:Int)+1)<|.r 1<|.d<|ai (k+1) _ _ AA (Z.to 1 [] 4) ⟨AB,(by exact XV ‹_› ‹_› AB ‹_› (WT ‹_›) p1)⟩ (by (simp only []; omega)))
 refine .d<|.ct<|.sk<|.s<|.b 5<|.s<|T.Gd 10 Z fun w Z=>GA.Ln 0 0 Z<|.r [1,4]<|GA.Lb 5 1 Z<|.r [6]<|gxm (h:=AB) s.parts k fun al af aH=>GA.Ix 7 5 af Z<|Z.el 5 af fun bA bB bC bD Z=>GA.Lg 8 0 0 Z<|.r [9]<|.go 2<|GE.CL (fun w Z=>EI aj.part (E:Int) (Z.mg 1 4) (Z.mg 1 5) (by (have q1:=(p0.file _ ‹_›).sz.1; omega))) Z fun bE bF w Z=>GA.C0 3 Z (fun w Z=>F5 (partOf aj.part (E:Int)) (Z.a 0) (by exact Cv (p0.file _ ‹_›).sz _))<|GA.Dn Z fun w Z=>RG.CL (EI al (E:Int) (Z.mg 1 2) (Z.mg 1 3) (by (have q1:=(p1.part _ ‹_›).sz.1; omega))) Z fun bG bH w Z=>RG.C0 (F5 (partOf al (E:Int)) (Z.a 0) (by exact Cv (p1.part _ ‹_›).sz _)) Z fun w Z=>RG.eqv (v:=.bool (!(Ee (partOf aj.part (E:Int))==Ee (partOf al (E:Int))))) AA (Uo (Ee (partOf aj.part (E:Int))) (Ee (partOf al (E:Int)))) ?_
 cases bj:(Ee (partOf aj.part (E:Int))==Ee (partOf al (E:Int)))
 ·exact .d<|.ct<|.s<|.g<|.r 1<|.d<|T.rt func55 results55 (.bool false) ⟨(AG (by exact XU ‹_› ‹_› ‹_› ‹_›)),Z.xt⟩
 exact .d<|.cf<|.sk<|.ib 5<|.g<|.r 1<|.it ((E:Int)+1)<|.r 1<|.d<|ak (E+1) _ _ AA (Z.to 0 [] 5) ⟨AB,AB,(by exact XT ‹_› ‹_› (WT ‹_›) p1 ‹_› ‹_› ‹_› ‹_›)⟩ (by (simp only []; omega))
end Go.Proofs.YtckdhcbbgmiccaaGreat
namespace Go.Proofs.YtckdhcbbgmiccaaGreat
def TF (w:Wld):Prop:=∀ f∈w.disk.files,f.num∈w.disk.list
theorem Bo {w:Wld}(h:WG w) (tf:TF w) (hf:Br w.disk w.store=true):WV w:=by
 have q:=C8 hf
 have v:=Cu.1 q.dk
 have hd:DskI w.disk:=⟨(Er q.dk).1,v.nf,h.2.file,v.nl,v.at_,fun n hn=>by have:=v.lt n hn; have:=v.next; omega,v.next⟩
 have hs:StoI w.store:=⟨h.1.idx,h.1.nm,h.1.np,h.1.part,(DY.1 q.sk).2.1,fun m hm=>by
  have:=(StoK.of h.1 q.sk).id m hm
  exact ⟨this.1,this.2,(StoK.of h.1 q.sk).row m hm⟩⟩
 exact ⟨⟨⟨hs,hd⟩,h.1.nd,h.2.g.nd⟩,v,q.sk,q.p,q.m,tf⟩
theorem WV.wg {w:Wld}(h:WV w):WG w:=h.wd.wg
theorem tf1 {w:Wld}(h:WV w) (n:Int):TF ⟨w.store,⟨w.disk.files,w.disk.list++[n],w.disk.names,w.disk.next⟩⟩:=fun f hf=>List.mem_append.2 (.inl (h.tf f hf))
theorem tf2 {w:Wld}(h:WV w){s:Sto}:TF ⟨s,w.disk⟩:=h.tf
theorem tf3 {w:Wld}(h:WV w){k j:Nat}:TF ⟨w.store,⟨(w.disk.files.take k).drop j,w.disk.list,w.disk.names,w.disk.next⟩⟩:=fun f hf=>h.tf f (List.mem_of_mem_take (List.mem_of_mem_drop hf))
theorem tf4 {w:Wld}(h:WV w){ns:List (List Tag)}:TF ⟨w.store,⟨w.disk.files,w.disk.list,ns,w.disk.next⟩⟩:=h.tf
theorem WV.copyV {w:Wld}(h:WV w):WV (AX w):=by rw [h.copy]; exact h
def doP (w:Wld) (e:Evt):Wld:=if Br w.disk w.store then doW w e else V5
theorem Fo {w:Wld}{e:Evt}(h:Br w.disk w.store=true):doP w e=doW w e:=by unfold doP; rw [if_pos h]
theorem Wf {w:Wld}{e:Evt}(h:Br w.disk w.store=false):doP w e=V5:=by unfold doP; rw [if_neg (by simp [h])]
end Go.Proofs.YtckdhcbbgmiccaaGreat
namespace Go.Proofs.YtckdhcbbgmiccaaGreat
set_option maxRecDepth 100000
set_option maxHeartbeats 4000000
variable {w:World} {F:Nat→Prop} {a1 a2 a3 a4 a5 a6 a7 a8:Option Addr} {n1 c1 n2 c2 n3 c3 n4 c4 n5 c5 n6 c6 n7 c7 n8 c8:Nat}
theorem Kz  {F:Nat→Prop}{b:Nat}{ad:Option Addr}{cd p:Nat}{D:List UInt8}(hr:Box w b 121 [.slice ad D.length cd,.int .i64 (p:Int)]) (hD:RepS w (nin all [b]) ad D.length cd D) (hp:p+3000≤1000000000)  : Calls Tryz.prog 33 [.pointer (some ⟨b,0,none⟩)].toArray w (Aj fun rv w'=>(∃ (y:Wld),(∃ v0 v1,rv=.tuple #[v0,v1]∧True∧(∃ (a0:Option Addr) (n0 c0:Nat) (a1:Option Addr) (n1 c1:Nat) (a2:Option Addr) (n2 c2:Nat) (r3 n3 c3:Nat) (r4 n4 c4:Nat) (r5 n5 c5:Nat) (r6 n6 c6:Nat),v1=.agg #[.slice a0 n0 c0,.slice a1 n1 c1,.slice a2 n2 c2,.slice (some ⟨r3,0,none⟩) n3 c3,.slice (some ⟨r4,0,none⟩) n4 c4,.slice (some ⟨r5,0,none⟩) n5 c5,.slice (some ⟨r6,0,none⟩) n6 c6,.int .i64 (y.disk.next)]∧RepS w' (nin (ge w.heap.size) [r3,r4,r5,r6]) a0 n0 c0 (y.store.idx.names)∧RepS w' (nin (ge w.heap.size) [r3,r4,r5,r6]) a1 n1 c1 (y.store.idx.AY)∧RepS w' (nin (ge w.heap.size) [r3,r4,r5,r6]) a2 n2 c2 (y.store.parts)∧Own w' r3 107 (nin (ge w.heap.size) [r3,r4,r5,r6]) n3 c3 (y.store.mem)∧w.heap.size≤r3∧Own w' r4 110 (nin (ge w.heap.size) [r3,r4,r5,r6]) n4 c4 (y.disk.files)∧w.heap.size≤r4∧Nb r4 r3∧Own w' r5 3 (nin (ge w.heap.size) [r3,r4,r5,r6]) n5 c5 (y.disk.list)∧w.heap.size≤r5∧Nb r5 r3∧Nb r5 r4∧Own w' r6 42 (nin (ge w.heap.size) [r3,r4,r5,r6]) n6 c6 (y.disk.names)∧w.heap.size≤r6∧Nb r6 r3∧Nb r6 r4∧Nb r6 r5))∧(WV y))∧∃ p':Nat,p'≤p+3000∧Box w' b 121 [.slice ad D.length cd,.int .i64 (p':Int)]∧Chg (one b) w w'):=by
 refine goT func33 ?_
 refine .s<|.g<|.r 1<|.np 38 [AH,AH,AH,AH,AH,AH,AH,vI 0] fun ac c7 bX b0 aa dX=>?_
 have gn:=Ab bX hr.lt
 have gp:Cov (one b) w ac:=Et bX (Nat.le_refl _)
 replace ⟨hD,hr⟩:=(sn [b] b0 bX).g2 hD hr
 have E:Chg (one b) w c7:=Chg.GP (Chg.refl (one b) w) b0
 refine .d<|.s<|.g<|.cl (E8 (w:=c7) (F:=all)) ?_
 rintro gY gZ ⟨⟨_,rfl,⟨dY,g0,dZ,d0,hC,d3,d4,hE,d5,d6,hH,d7,d8,hN,d9,ec,hO,ee,eg,hQ,eh,rfl,bo,bq,br,bt,bu,bv,bw⟩⟩,ck⟩
 have bz:=al2 aa.lt hr.lt
 have bB:Gb w.heap.size c7.heap.size:=E.size
 replace ⟨hD,hr,aa,E⟩:=(se [ac,b] ck).g4 hD hr aa E
 have bo:=bo.fr bz bB
 have gq:=bo.max
 have bq:=bq.fr bz bB
 have gr:=bq.max
 have br:=br.fr bz bB
 have gs:=br.max
 have bt:=bt.fr bz bB
 have gt:=bt.max
 have bu:=bu.fr bz bB
 have gu:=bu.max
 have bv:=bv.fr bz bB
 have gv:=bv.max
 have bw:=bw.fr bz bB
 have gw:=bw.max
 have ej:=bo.len
 subst ej
 have ek:=bq.len
 subst ek
 have en:=br.len
 subst en
 have eA:=bt.len
 subst eA
 have eB:=bu.len
 subst eB
 have eC:=bv.len
 subst eC
 have eD:=bw.len
 subst eD
 refine .np 38 [AH,AH,AH,AH,AH,AH,AH,vI 0] fun ab hV bN cm eE eF=>?_
 have gy:=Ab bN hr.lt
 have gz:=Ab bN aa.lt
 have gA:=E.cn bN
 replace ⟨hD,hr,aa,bo,bq,br,bt,bu,bv,bw,E⟩:=(sn [ac,b] cm bN).g11 hD hr aa bo bq br bt bu bv bw E
 refine .sc [.slice dY ((((((⟨⟨⟨[],[]⟩,[],[]⟩,⟨[],[],[],1⟩⟩:Wld)).store).idx).names).length) dZ,.slice d0 ((((((⟨⟨⟨[],[]⟩,[],[]⟩,⟨[],[],[],1⟩⟩:Wld)).store).idx).AY).length) d3,.slice d4 (((((⟨⟨⟨[],[]⟩,[],[]⟩,⟨[],[],[],1⟩⟩:Wld)).store).parts).length) d5,.slice d6 (((((⟨⟨⟨[],[]⟩,[],[]⟩,⟨[],[],[],1⟩⟩:Wld)).store).mem).length) d7,.slice d8 (((((⟨⟨⟨[],[]⟩,[],[]⟩,⟨[],[],[],1⟩⟩:Wld)).disk).files).length) d9,.slice ec (((((⟨⟨⟨[],[]⟩,[],[]⟩,⟨[],[],[],1⟩⟩:Wld)).disk).list).length) ee,.slice eg (((((⟨⟨⟨[],[]⟩,[],[]⟩,⟨[],[],[],1⟩⟩:Wld)).disk).names).length) eh,vI ((((⟨⟨⟨[],[]⟩,[],[]⟩,⟨[],[],[],1⟩⟩:Wld)).disk).next)] eE fun hW co bC eG=>?_
 replace ⟨hD,hr,aa,bo,bq,br,bt,bu,bv,bw,E⟩:=(so [ab,ac,b] co).g11 hD hr aa bo bq br bt bu bv bw E
 refine .d<|.s<|.g<|.ns 0 46 [] fun bD eH bH cp eI eJ=>?_
 have eK:=Ab bH hr.lt
 have eL:=Ab bH aa.lt
 have eM:=Ab bH bC.lt
 have eN:=E.cn bH
 replace ⟨hD,hr,aa,bo,bq,br,bt,bu,bv,bw,bC,E⟩:=(sn [ab,ac,b] cp bH).g12 hD hr aa bo bq br bt bu bv bw bC E
 have bO:Own (α:=Evt) eH bD 46 (nin (ge w.heap.size) [bD,ab,ac,b]) 0 0 []:=Own.BO eI
 refine .r 1<|.d<|.s<|.s<|.g<|.r 1<|.cl (At 46 hr (hD.BY AL) AB (w:=eH) (F:=all)) ?_
 rintro gC bI ⟨⟨eO,rfl,eS⟩,eP,eT,b6,b7⟩
 replace ⟨hD,aa,bo,bq,br,bt,bu,bv,bw,bC,bO,E⟩:=(so [bD,ab,ac,b] b7).g12 hD aa bo bq br bt bu bv bw bC bO E
 refine .r 1<|.d<|.b 0<|T.loop (X:=(List Evt) × Nat × Nat × Nat × Int × Nat × (List (List Tag)) × (Option Addr) × Nat × Nat × (List Pst) × (Option Addr) × Nat × Nat × (List Prt) × (Option Addr) × Nat × Nat × (List Smp) × (Option Addr) × Nat × Nat × (List Fil) × (Option Addr) × Nat × Nat × (List Int) × (Option Addr) × Nat × Nat × (List (List Tag)) × (Option Addr) × Nat × Nat × Int) (([]:List Evt),bD,0,0,eO,eP,(((((⟨⟨⟨[],[]⟩,[],[]⟩,⟨[],[],[],1⟩⟩:Wld)).store).idx).names:List (List Tag)),dY,(((((⟨⟨⟨[],[]⟩,[],[]⟩,⟨[],[],[],1⟩⟩:Wld)).store).idx).names).length,dZ,(((((⟨⟨⟨[],[]⟩,[],[]⟩,⟨[],[],[],1⟩⟩:Wld)).store).idx).AY:List Pst),d0,(((((⟨⟨⟨[],[]⟩,[],[]⟩,⟨[],[],[],1⟩⟩:Wld)).store).idx).AY).length,d3,((((⟨⟨⟨[],[]⟩,[],[]⟩,⟨[],[],[],1⟩⟩:Wld)).store).parts:List Prt),d4,((((⟨⟨⟨[],[]⟩,[],[]⟩,⟨[],[],[],1⟩⟩:Wld)).store).parts).length,d5,((((⟨⟨⟨[],[]⟩,[],[]⟩,⟨[],[],[],1⟩⟩:Wld)).store).mem:List Smp),d6,((((⟨⟨⟨[],[]⟩,[],[]⟩,⟨[],[],[],1⟩⟩:Wld)).store).mem).length,d7,((((⟨⟨⟨[],[]⟩,[],[]⟩,⟨[],[],[],1⟩⟩:Wld)).disk).files:List Fil),d8,((((⟨⟨⟨[],[]⟩,[],[]⟩,⟨[],[],[],1⟩⟩:Wld)).disk).files).length,d9,((((⟨⟨⟨[],[]⟩,[],[]⟩,⟨[],[],[],1⟩⟩:Wld)).disk).list:List Int),ec,((((⟨⟨⟨[],[]⟩,[],[]⟩,⟨[],[],[],1⟩⟩:Wld)).disk).list).length,ee,((((⟨⟨⟨[],[]⟩,[],[]⟩,⟨[],[],[],1⟩⟩:Wld)).disk).names:List (List Tag)),eg,((((⟨⟨⟨[],[]⟩,[],[]⟩,⟨[],[],[],1⟩⟩:Wld)).disk).names).length,eh,(((⟨⟨⟨[],[]⟩,[],[]⟩,⟨[],[],[],1⟩⟩:Wld)).disk).next) (fun (events,r_events,n_events,c_events,n,p_,af,a_w_0,n_w_0,c_w_0,ag,a_w_1,n_w_1,c_w_1,ah,a_w_2,n_w_2,c_w_2,ai,a_w_3,n_w_3,c_w_3,aj,a_w_4,n_w_4,c_w_4,ak,a_w_5,n_w_5,c_w_5,al,a_w_6,n_w_6,c_w_6,am)=>[(0,.pointer (some ⟨b,0,none⟩)),(3,.pointer (some ⟨ac,0,none⟩)),(4,.pointer (some ⟨ab,0,none⟩)),(5,vS r_events n_events c_events),(6,vI n)]) (fun (events,r_events,n_events,c_events,n,p_,af,a_w_0,n_w_0,c_w_0,ag,a_w_1,n_w_1,c_w_1,ah,a_w_2,n_w_2,c_w_2,ai,a_w_3,n_w_3,c_w_3,aj,a_w_4,n_w_4,c_w_4,ak,a_w_5,n_w_5,c_w_5,al,a_w_6,n_w_6,c_w_6,am) aG=>Chg (ins [bD,b,ab]) bI aG∧Own aG r_events 46 (nin (ge w.heap.size) [r_events,ab,ac,b]) n_events c_events events∧OrB r_events bD bI.heap.size∧RepS aG (nin (ge w.heap.size) [r_events,ab,ac,b]) a_w_0 n_w_0 c_w_0 af∧RepS aG (nin (ge w.heap.size) [r_events,ab,ac,b]) a_w_1 n_w_1 c_w_1 ag∧RepS aG (nin (ge w.heap.size) [r_events,ab,ac,b]) a_w_2 n_w_2 c_w_2 ah∧RepS aG (nin (ge w.heap.size) [r_events,ab,ac,b]) a_w_3 n_w_3 c_w_3 ai∧RepS aG (nin (ge w.heap.size) [r_events,ab,ac,b]) a_w_4 n_w_4 c_w_4 aj∧RepS aG (nin (ge w.heap.size) [r_events,ab,ac,b]) a_w_5 n_w_5 c_w_5 ak∧RepS aG (nin (ge w.heap.size) [r_events,ab,ac,b]) a_w_6 n_w_6 c_w_6 al∧Box aG b 121 [.slice ad D.length cd,vI (p_:Int)]∧Box aG ab 38 [.slice a_w_0 n_w_0 c_w_0,.slice a_w_1 n_w_1 c_w_1,.slice a_w_2 n_w_2 c_w_2,.slice a_w_3 n_w_3 c_w_3,.slice a_w_4 n_w_4 c_w_4,.slice a_w_5 n_w_5 c_w_5,.slice a_w_6 n_w_6 c_w_6,vI am]∧(n≤46)∧((events.length:Int)+n≤46∨n< 0)∧((p_:Int)+61 * n≤p+2900∨n< 0)∧(p_≤p+2900)∧(WV ⟨⟨⟨af,ag⟩,ah,ai⟩,⟨aj,ak,al,am⟩⟩)) (fun (events,r_events,n_events,c_events,n,p_,af,a_w_0,n_w_0,c_w_0,ag,a_w_1,n_w_1,c_w_1,ah,a_w_2,n_w_2,c_w_2,ai,a_w_3,n_w_3,c_w_3,aj,a_w_4,n_w_4,c_w_4,ak,a_w_5,n_w_5,c_w_5,al,a_w_6,n_w_6,c_w_6,am)=>n.toNat) AA ⟨AA,AA,AA,AA,AA,trivial⟩ ⟨Chg.refl _ _,bO,Dr,bo,bq,br,bt,bu,bv,bw,b6,bC,AB,(by (simp; omega)),AB,AB,(by exact WV.new)⟩ ?_
 rintro ⟨events,r_events,n_events,c_events,n,p_,af,a_w_0,n_w_0,c_w_0,ag,a_w_1,n_w_1,c_w_1,ah,a_w_2,n_w_2,c_w_2,ai,a_w_3,n_w_3,c_w_3,aj,a_w_4,n_w_4,c_w_4,ak,a_w_5,n_w_5,c_w_5,al,a_w_6,n_w_6,c_w_6,am⟩ gD aG ⟨aC,aE,aT,aq,ar,ax,ay,az,aA,aB,aP,ao,eU,eV,eW,eX,eY⟩ bY
 have eZ:=Ca aT eK b6.lt
 have e7:=Ca aT eL aa.lt
 have c8:=Ca aT eM bC.lt
 have e8:=Cm aT eN E.size
 have da:Cov (ins [bD,b,ab]) bI bD:=⟨.inl AI⟩
 have fa:Cov (ins [bD,b,ab]) bI b:=⟨.inl AJ⟩
 have fb:Cov (ins [bD,b,ab]) bI ab:=⟨.inl AK⟩
 have fd:=Cm aT da (Nat.le_refl _)
 have b8:Mv [bD,ab,ac,b] [r_events,ab,ac,b] bI aG:=Mv.inl aC (all_cons AI (all_cons AL (all_cons AJ all_nil))) (all_cons (FL aT AI) (all_cons (.inl AJ) (all_cons (.inl AK) (all_cons (.inl AL) all_nil))))
 replace ⟨hD,aa,E⟩:=(sp b8 aC).g3 hD aa E
 have fe:=aE.len; have ff:=aE.max
 have fB:=aA.len; have fC:=aA.max
 refine .s<|.s<|.g<|.r 1<|.bp (n > 0) (fun db=>?_) (fun db=>?_)
 ·refine .d<|.ct<|.sk<|.s<|.b 1<|.s<|.g<|.r 1<|.ln ao<|.cl (FA (⟨(⟨(⟨af,ag⟩:Idx),ah,ai⟩:Sto),(⟨aj,ak,al,am⟩:Dsk)⟩:Wld) aP (hD.BY AL) AB (aq.BY AL) (ar.BY AL) (ax.BY AL) (ay.BY AL) (az.BY AL) (aA.BY AL) (aB.BY AL) (by have q1:WV ⟨⟨⟨af,ag⟩,ah,ai⟩,⟨aj,ak,al,am⟩⟩:=‹_›; have q2:=q1.wd.wi.dsk.nl; dsimp only at q2 ⊢; omega) (w:=aG) (F:=all)) ?_
  rintro gE gF ⟨⟨ae,⟨_,rfl,⟨cq,gG,cr,rfl,aJ⟩⟩,fF⟩,eQ,fG,aD,bP⟩
  have b9:=al4 aE.lt ao.lt aa.lt aP.lt
  have de:Gb w.heap.size aG.heap.size:=E.size
  replace ⟨hD,aa,ao,aE,aq,ar,ax,ay,az,aA,aB,E⟩:=(so [r_events,ab,ac,b] bP).g12 hD aa ao aE aq ar ax ay az aA aB E
  replace aC:=(so [r_events,ab,ac,b] bP).g1 aC
  have aJ:=aJ.fr b9 de
  have fH:=aJ.max
  have df:=aJ.len
  subst df
  refine .np 46 [vI 0,vI 0,vI 0,AH,vI 0,vI 0] fun aF gH aK bQ dh dj=>?_
  have fI:=Ab aK aD.lt
  have fJ:=Ab aK aa.lt
  have fK:=Ab aK ao.lt
  have fL:=Ab aK aE.lt
  have fM:=E.cn aK
  have fN:=aC.cn aK
  replace ⟨hD,aD,aa,ao,aE,aq,ar,ax,ay,az,aA,aB⟩:=(sn [r_events,ab,ac,b] bQ aK).g12 hD aD aa ao aE aq ar ax ay az aA aB
  replace ⟨aJ,E,aC⟩:=(sn [r_events,ab,ac,b] bQ aK).g3 aJ E aC
  refine .sc [vI ae.kind,vI ae.at_,vI ae.cut,.slice cq ae.name.length cr,vI ae.row.t,vI ae.row.v] dh fun gI bR aQ dm=>?_
  replace ⟨hD,aD,aa,ao,aE,aq,ar,ax,ay,az,aA,aB⟩:=(so [aF,r_events,ab,ac,b] bR).g12 hD aD aa ao aE aq ar ax ay az aA aB
  replace ⟨aJ,E,aC⟩:=(so [aF,r_events,ab,ac,b] bR).g3 aJ E aC
  refine .d<|.s<|.g<|.r 1<|.ln aQ<|.ns 1 46 [vI ae.kind,vI ae.at_,vI ae.cut,.slice cq ae.name.length cr,vI ae.row.t,vI ae.row.v] fun cu gJ aU bS dp dq=>?_
  have dt:=Ab aU aD.lt
  have du:=Ab aU aa.lt
  have dv:=Ab aU ao.lt
  have ce:=Ab aU aE.lt
  have dw:=Ab aU aQ.lt
  have dx:=BU aU E.size
  replace ⟨hD,aD,aa,ao,aE,aq,ar,ax,ay,az,aA,aB⟩:=(se [aF,r_events,ab,ac,b] bS).g12 hD aD aa ao aE aq ar ax ay az aA aB
  replace ⟨aJ,aQ,E,aC⟩:=(se [aF,r_events,ab,ac,b] bS).g4 aJ aQ E aC
  have bZ:nin (ge w.heap.size) [aF,r_events,ab,ac,b] cu∧cu≠r_events:=DJ dx (all_cons dw (all_cons ce (all_cons dv (all_cons du (all_cons dt all_nil))))) ce
  refine RG.CM (T:=23) (ty:=23) (y:=ae) aE dp AA AA ⟨_,_,_,rfl,aJ.oi⟩ bZ AB fun aI eR cw aH bd bT=>?_
  have fO:=BQ bd c8 ao.lt
  have dy:=HM bd aT aC.size
  replace ⟨hD,aD,aa,ao,aq,ar,ax,ay,az,aA,aB,aJ⟩:=(sa [aF,r_events,ab,ac,b] bT bd).g12 hD aD aa ao aq ar ax ay az aA aB aJ
  replace ⟨aQ,E,aC⟩:=(sa [aF,r_events,ab,ac,b] bT bd).g3 aQ E aC
  replace aH:=aH.rn r_events
  have fP:=aH.len
  refine .r 1<|.d<|.g<|.ln ao<|.ln aQ<|.cl (FP (⟨(⟨(⟨af,ag⟩:Idx),ah,ai⟩:Sto),(⟨aj,ak,al,am⟩:Dsk)⟩:Wld) ae aq ar ax ay az aA aB aJ (by assumption:WV _).wd.wi (NmD.sz (by assumption:EvD _).1) (w:=cw) (F:=nin (ge w.heap.size) [aF,aI,ab,ac,b])) ?_
  rintro gK gL ⟨⟨_,rfl,⟨cx,gM,cy,cz,gN,cA,cB,gO,cC,cD,gP,cE,cF,gQ,cG,cH,gR,cI,cJ,gS,cK,rfl,bg,bh,bi,bj,bk,bm,bn⟩⟩,bU⟩
  have aR:=al5 aQ.lt aH.lt ao.lt aa.lt aD.lt
  have aV:Gb w.heap.size cw.heap.size:=E.size
  replace ⟨hD,aD,aa,ao,aH,aq,ar,ax,ay,az,aA,aB⟩:=(se [aF,aI,ab,ac,b] bU).g12 hD aD aa ao aH aq ar ax ay az aA aB
  replace ⟨E,aC⟩:=(se [aF,aI,ab,ac,b] bU).g2 E aC
  replace bg:=RepS.EN (M:=[aF,aI,ab,ac,b]) bg aR (fun _ h=>Nat.le_trans aV h)
  have fR:=bg.max
  replace bh:=RepS.EN (M:=[aF,aI,ab,ac,b]) bh aR (fun _ h=>Nat.le_trans aV h)
  have fS:=bh.max
  replace bi:=RepS.EN (M:=[aF,aI,ab,ac,b]) bi aR (fun _ h=>Nat.le_trans aV h)
  have fT:=bi.max
  replace bj:=RepS.EN (M:=[aF,aI,ab,ac,b]) bj aR (fun _ h=>Nat.le_trans aV h)
  have fU:=bj.max
  replace bk:=RepS.EN (M:=[aF,aI,ab,ac,b]) bk aR (fun _ h=>Nat.le_trans aV h)
  have fV:=bk.max
  replace bm:=RepS.EN (M:=[aF,aI,ab,ac,b]) bm aR (fun _ h=>Nat.le_trans aV h)
  have fW:=bm.max
  replace bn:=RepS.EN (M:=[aF,aI,ab,ac,b]) bn aR (fun _ h=>Nat.le_trans aV h)
  have fX:=bn.max
  have dz:=bg.len
  subst dz
  have dA:=bh.len
  subst dA
  have dB:=bi.len
  subst dB
  have dC:=bj.len
  subst dC
  have dD:=bk.len
  subst dD
  have dE:=bm.len
  subst dE
  have dF:=bn.len
  subst dF
  refine .sc [.slice cx (((((doW (⟨(⟨(⟨af,ag⟩:Idx),ah,ai⟩:Sto),(⟨aj,ak,al,am⟩:Dsk)⟩:Wld) ae).store).idx).names).length) cy,.slice cz (((((doW (⟨(⟨(⟨af,ag⟩:Idx),ah,ai⟩:Sto),(⟨aj,ak,al,am⟩:Dsk)⟩:Wld) ae).store).idx).AY).length) cA,.slice cB ((((doW (⟨(⟨(⟨af,ag⟩:Idx),ah,ai⟩:Sto),(⟨aj,ak,al,am⟩:Dsk)⟩:Wld) ae).store).parts).length) cC,.slice cD ((((doW (⟨(⟨(⟨af,ag⟩:Idx),ah,ai⟩:Sto),(⟨aj,ak,al,am⟩:Dsk)⟩:Wld) ae).store).mem).length) cE,.slice cF ((((doW (⟨(⟨(⟨af,ag⟩:Idx),ah,ai⟩:Sto),(⟨aj,ak,al,am⟩:Dsk)⟩:Wld) ae).disk).files).length) cG,.slice cH ((((doW (⟨(⟨(⟨af,ag⟩:Idx),ah,ai⟩:Sto),(⟨aj,ak,al,am⟩:Dsk)⟩:Wld) ae).disk).list).length) cI,.slice cJ ((((doW (⟨(⟨(⟨af,ag⟩:Idx),ah,ai⟩:Sto),(⟨aj,ak,al,am⟩:Dsk)⟩:Wld) ae).disk).names).length) cK,vI (((doW (⟨(⟨(⟨af,ag⟩:Idx),ah,ai⟩:Sto),(⟨aj,ak,al,am⟩:Dsk)⟩:Wld) ae).disk).next)] ao fun cL bV dG dH=>?_
  replace ⟨hD,aD,aa,aH,aq,ar,ax,ay,az,aA,aB,bg⟩:=(so [aF,aI,ab,ac,b] bV).g12 hD aD aa aH aq ar ax ay az aA aB bg
  replace ⟨bh,bi,bj,bk,bm,bn,E,aC⟩:=(so [aF,aI,ab,ac,b] bV).g8 bh bi bj bk bm bn E aC
  refine .d<|.ib 1<|.g<|.r 1<|.it (n - 1)<|.r 1<|.d ?_
  have cg:Mv [aF,aI,ab,ac,b] [aI,ab,ac,b] cL cL:=Mv.less (all_cons AJ (all_cons AK (all_cons AL (all_cons AM all_nil))))
  replace ⟨hD,aH,aq,ar,ax,ay,az,aA,aB,bg,bh,bi⟩:=(sp cg (Chg.refl nil _)).g12 hD aH aq ar ax ay az aA aB bg bh bi
  replace ⟨bj,bk,bm,bn⟩:=(sp cg (Chg.refl nil _)).g4 bj bk bm bn
  exact bY ((events++[ae]),aI,n_events+1,eR,n - 1,eQ,(((doW (⟨(⟨(⟨af,ag⟩:Idx),ah,ai⟩:Sto),(⟨aj,ak,al,am⟩:Dsk)⟩:Wld) ae).store).idx).names,cx,((((doW (⟨(⟨(⟨af,ag⟩:Idx),ah,ai⟩:Sto),(⟨aj,ak,al,am⟩:Dsk)⟩:Wld) ae).store).idx).names).length,cy,(((doW (⟨(⟨(⟨af,ag⟩:Idx),ah,ai⟩:Sto),(⟨aj,ak,al,am⟩:Dsk)⟩:Wld) ae).store).idx).AY,cz,((((doW (⟨(⟨(⟨af,ag⟩:Idx),ah,ai⟩:Sto),(⟨aj,ak,al,am⟩:Dsk)⟩:Wld) ae).store).idx).AY).length,cA,((doW (⟨(⟨(⟨af,ag⟩:Idx),ah,ai⟩:Sto),(⟨aj,ak,al,am⟩:Dsk)⟩:Wld) ae).store).parts,cB,(((doW (⟨(⟨(⟨af,ag⟩:Idx),ah,ai⟩:Sto),(⟨aj,ak,al,am⟩:Dsk)⟩:Wld) ae).store).parts).length,cC,((doW (⟨(⟨(⟨af,ag⟩:Idx),ah,ai⟩:Sto),(⟨aj,ak,al,am⟩:Dsk)⟩:Wld) ae).store).mem,cD,(((doW (⟨(⟨(⟨af,ag⟩:Idx),ah,ai⟩:Sto),(⟨aj,ak,al,am⟩:Dsk)⟩:Wld) ae).store).mem).length,cE,((doW (⟨(⟨(⟨af,ag⟩:Idx),ah,ai⟩:Sto),(⟨aj,ak,al,am⟩:Dsk)⟩:Wld) ae).disk).files,cF,(((doW (⟨(⟨(⟨af,ag⟩:Idx),ah,ai⟩:Sto),(⟨aj,ak,al,am⟩:Dsk)⟩:Wld) ae).disk).files).length,cG,((doW (⟨(⟨(⟨af,ag⟩:Idx),ah,ai⟩:Sto),(⟨aj,ak,al,am⟩:Dsk)⟩:Wld) ae).disk).list,cH,(((doW (⟨(⟨(⟨af,ag⟩:Idx),ah,ai⟩:Sto),(⟨aj,ak,al,am⟩:Dsk)⟩:Wld) ae).disk).list).length,cI,((doW (⟨(⟨(⟨af,ag⟩:Idx),ah,ai⟩:Sto),(⟨aj,ak,al,am⟩:Dsk)⟩:Wld) ae).disk).names,cJ,(((doW (⟨(⟨(⟨af,ag⟩:Idx),ah,ai⟩:Sto),(⟨aj,ak,al,am⟩:Dsk)⟩:Wld) ae).disk).names).length,cK,((doW (⟨(⟨(⟨af,ag⟩:Idx),ah,ai⟩:Sto),(⟨aj,ak,al,am⟩:Dsk)⟩:Wld) ae).disk).next) _ _ ⟨AA,AA,AA,AA,AA,trivial⟩ ⟨aC,aH,dy,bg,bh,bi,bj,bk,bm,bn,aD,dG,AB,AB,AB,AB,(by exact WV.do ‹_› (by assumption:EvD _).1)⟩ (by (simp only []; omega))
 refine .d<|.cf<|.x 0 rfl<|.s<|.g<|.r 1<|.ln ao<|.cl (DV (⟨(⟨(⟨af,ag⟩:Idx),ah,ai⟩:Sto),(⟨aj,ak,al,am⟩:Dsk)⟩:Wld) aq.ta ar.ta ax.ta ay.ta az.ta aA.ta aB.ta (by assumption:WV _).wd.wi (w:=aG) (F:=all)) ?_
 rintro gT bA ⟨⟨cM,gU,cN,cO,gV,cP,cQ,gW,cR,aL,cS,cT,aM,cU,cV,aN,cW,cX,aO,cY,cZ,rfl,bE,bF,bG,aW,bJ,aX,bK,dI,aY,bL,dJ,dK,aZ,bM,dL,dM,dN⟩,bW⟩
 have aS:=al4 aE.lt ao.lt aa.lt aP.lt
 have ba:Gb w.heap.size aG.heap.size:=E.size
 have fY:=Bj bJ aa.lt
 have dO:=Dg bJ E.size
 have fZ:=Bj bK aa.lt
 have dP:=Dg bK E.size
 have f0:=Bj bL aa.lt
 have dQ:=Dg bL E.size
 have f5:=Bj bM aa.lt
 have dR:=Dg bM E.size
 have ci:Mv [r_events,ab,ac,b] [aL,aM,aN,aO,r_events,ab,ac,b] aG bA:=Mv.cons (Mv.cons (Mv.cons (Mv.cons (Mv.ext bW) bM) bL) bK) bJ
 replace ⟨hD,aP,aa,E⟩:=(sp ci bW).g4 hD aP aa E
 replace bE:RepS bA (nin (ge w.heap.size) [aL,aM,aN,aO,r_events,ab,ac,b]) _ _ _ _:=RepS.Bn (s0:=w.heap.size) (M:=[r_events,ab,ac,b]) bE aS ba
 have f6:=bE.max
 replace bF:RepS bA (nin (ge w.heap.size) [aL,aM,aN,aO,r_events,ab,ac,b]) _ _ _ _:=RepS.Bn (s0:=w.heap.size) (M:=[r_events,ab,ac,b]) bF aS ba
 have f7:=bF.max
 replace bG:RepS bA (nin (ge w.heap.size) [aL,aM,aN,aO,r_events,ab,ac,b]) _ _ _ _:=RepS.Bn (s0:=w.heap.size) (M:=[r_events,ab,ac,b]) bG aS ba
 have f8:=bG.max
 replace aW:Own bA aL 107 (nin (ge w.heap.size) [aL,aM,aN,aO,r_events,ab,ac,b]) _ _ _:=Own.Bn (s0:=w.heap.size) (M:=[r_events,ab,ac,b]) aW aS ba
 replace aX:Own bA aM 110 (nin (ge w.heap.size) [aL,aM,aN,aO,r_events,ab,ac,b]) _ _ _:=Own.Bn (s0:=w.heap.size) (M:=[r_events,ab,ac,b]) aX aS ba
 replace aY:Own bA aN 3 (nin (ge w.heap.size) [aL,aM,aN,aO,r_events,ab,ac,b]) _ _ _:=Own.Bn (s0:=w.heap.size) (M:=[r_events,ab,ac,b]) aY aS ba
 replace aZ:Own bA aO 42 (nin (ge w.heap.size) [aL,aM,aN,aO,r_events,ab,ac,b]) _ _ _:=Own.Bn (s0:=w.heap.size) (M:=[r_events,ab,ac,b]) aZ aS ba
 have dS:=bE.len
 subst dS
 have dT:=bF.len
 subst dT
 have dU:=bG.len
 subst dU
 refine .r 1<|.sc [.slice cM ((((((AX (⟨(⟨(⟨af,ag⟩:Idx),ah,ai⟩:Sto),(⟨aj,ak,al,am⟩:Dsk)⟩:Wld))).store).idx).names).length) cN,.slice cO ((((((AX (⟨(⟨(⟨af,ag⟩:Idx),ah,ai⟩:Sto),(⟨aj,ak,al,am⟩:Dsk)⟩:Wld))).store).idx).AY).length) cP,.slice cQ (((((AX (⟨(⟨(⟨af,ag⟩:Idx),ah,ai⟩:Sto),(⟨aj,ak,al,am⟩:Dsk)⟩:Wld))).store).parts).length) cR,vS aL cS cT,vS aM cU cV,vS aN cW cX,vS aO cY cZ,vI ((((AX (⟨(⟨(⟨af,ag⟩:Idx),ah,ai⟩:Sto),(⟨aj,ak,al,am⟩:Dsk)⟩:Wld))).disk).next)] aa fun gX cj dV dW=>?_
 replace ⟨hD,aP,bE,bF,bG,aW,aX,aY,aZ,E⟩:=(so [aL,aM,aN,aO,r_events,ab,ac,b] cj).g10 hD aP bE bF bG aW aX aY aZ E
 exact .d<|.r2 func33 results33 (.t (vS r_events n_events c_events)) (.bx dV) ⟨⟨((⟨(⟨(⟨((((AX (⟨(⟨(⟨af,ag⟩:Idx),ah,ai⟩:Sto),(⟨aj,ak,al,am⟩:Dsk)⟩:Wld))).store).idx).names,((((AX (⟨(⟨(⟨af,ag⟩:Idx),ah,ai⟩:Sto),(⟨aj,ak,al,am⟩:Dsk)⟩:Wld))).store).idx).AY⟩:Idx),(((AX (⟨(⟨(⟨af,ag⟩:Idx),ah,ai⟩:Sto),(⟨aj,ak,al,am⟩:Dsk)⟩:Wld))).store).parts,(((AX (⟨(⟨(⟨af,ag⟩:Idx),ah,ai⟩:Sto),(⟨aj,ak,al,am⟩:Dsk)⟩:Wld))).store).mem⟩:Sto),(⟨(((AX (⟨(⟨(⟨af,ag⟩:Idx),ah,ai⟩:Sto),(⟨aj,ak,al,am⟩:Dsk)⟩:Wld))).disk).files,(((AX (⟨(⟨(⟨af,ag⟩:Idx),ah,ai⟩:Sto),(⟨aj,ak,al,am⟩:Dsk)⟩:Wld))).disk).list,(((AX (⟨(⟨(⟨af,ag⟩:Idx),ah,ai⟩:Sto),(⟨aj,ak,al,am⟩:Dsk)⟩:Wld))).disk).names,(((AX (⟨(⟨(⟨af,ag⟩:Idx),ah,ai⟩:Sto),(⟨aj,ak,al,am⟩:Dsk)⟩:Wld))).disk).next⟩:Dsk)⟩:Wld):Wld),⟨_,_,(Bv rfl rfl),trivial,⟨cM,(((((AX (⟨(⟨(⟨af,ag⟩:Idx),ah,ai⟩:Sto),(⟨aj,ak,al,am⟩:Dsk)⟩:Wld))).store).idx).names).length,cN,cO,(((((AX (⟨(⟨(⟨af,ag⟩:Idx),ah,ai⟩:Sto),(⟨aj,ak,al,am⟩:Dsk)⟩:Wld))).store).idx).AY).length,cP,cQ,((((AX (⟨(⟨(⟨af,ag⟩:Idx),ah,ai⟩:Sto),(⟨aj,ak,al,am⟩:Dsk)⟩:Wld))).store).parts).length,cR,aL,cS,cT,aM,cU,cV,aN,cW,cX,aO,cY,cZ,rfl,((RepS.Ai bE (all_cons AI (all_cons AJ (all_cons AK (all_cons AL all_nil))))).eqx AF),((RepS.Ai bF (all_cons AI (all_cons AJ (all_cons AK (all_cons AL all_nil))))).eqx AF),((RepS.Ai bG (all_cons AI (all_cons AJ (all_cons AK (all_cons AL all_nil))))).eqx AF),((Own.Ai aW (all_cons AI (all_cons AJ (all_cons AK (all_cons AL all_nil))))).eqx AF),dO,((Own.Ai aX (all_cons AI (all_cons AJ (all_cons AK (all_cons AL all_nil))))).eqx AF),dP,dI,((Own.Ai aY (all_cons AI (all_cons AJ (all_cons AK (all_cons AL all_nil))))).eqx AF),dQ,dJ,dK,((Own.Ai aZ (all_cons AI (all_cons AJ (all_cons AK (all_cons AL all_nil))))).eqx AF),dR,dL,dM,dN⟩⟩,(by exact WV.copyV ‹_›)⟩,p_,by omega,aP,E⟩
theorem KP  {F:Nat→Prop}{b:Nat}{ad:Option Addr}{cd p:Nat}{D:List UInt8}(hr:Box w b 121 [.slice ad D.length cd,.int .i64 (p:Int)]) (hD:RepS w (nin all [b]) ad D.length cd D) (hp:p+3100≤1000000000)  : Calls Tryz.prog 53 [.pointer (some ⟨b,0,none⟩)].toArray w (Aj fun rv w'=>(∃ (y:Wld),(∃ (a0:Option Addr) (n0 c0:Nat) (a1:Option Addr) (n1 c1:Nat) (a2:Option Addr) (n2 c2:Nat) (r3 n3 c3:Nat) (a4:Option Addr) (n4 c4:Nat) (a5:Option Addr) (n5 c5:Nat) (a6:Option Addr) (n6 c6:Nat),rv=.agg #[.slice a0 n0 c0,.slice a1 n1 c1,.slice a2 n2 c2,.slice (some ⟨r3,0,none⟩) n3 c3,.slice a4 n4 c4,.slice a5 n5 c5,.slice a6 n6 c6,.int .i64 (y.disk.next)]∧RepS w' (nin (ge w.heap.size) [r3]) a0 n0 c0 (y.store.idx.names)∧RepS w' (nin (ge w.heap.size) [r3]) a1 n1 c1 (y.store.idx.AY)∧RepS w' (nin (ge w.heap.size) [r3]) a2 n2 c2 (y.store.parts)∧Own w' r3 107 (nin (ge w.heap.size) [r3]) n3 c3 (y.store.mem)∧w.heap.size≤r3∧RepS w' (nin (ge w.heap.size) [r3]) a4 n4 c4 (y.disk.files)∧RepS w' (nin (ge w.heap.size) [r3]) a5 n5 c5 (y.disk.list)∧RepS w' (nin (ge w.heap.size) [r3]) a6 n6 c6 (y.disk.names))∧(WG y∧TF y))∧∃ p':Nat,p'≤p+3100∧Box w' b 121 [.slice ad D.length cd,.int .i64 (p':Int)]∧Chg (one b) w w'):=by
 refine goT func53 ?_
 refine .s<|.g<|.np 38 [AH,AH,AH,AH,AH,AH,AH,vI 0] fun ax dv b8 cm aj fe=>?_
 have gC:=Ab b8 hr.lt
 have gD:Cov (one b) w ax:=Et b8 (Nat.le_refl _)
 replace ⟨hD,hr⟩:=(sn [b] cm b8).g2 hD hr
 have ab:Chg (one b) w dv:=Chg.GP (Chg.refl (one b) w) cm
 refine .d<|.s<|.g<|.r 1<|.cl (Kz hr (hD.BY AJ) AB (w:=dv) (F:=all)) ?_
 rintro iC bI ⟨⟨aq,⟨iD,iE,rfl,-,⟨aV,iF,aW,aX,iG,aY,aZ,iH,ba,am,aR,bi,ar,aO,bj,ao,aS,bk,al,aT,bm,rfl,af,ag,ah,E,bo,ai,bJ,ff,ae,bq,dw,fg,aa,br,dx,fi,dy⟩⟩,gE⟩,iI,gF,bt,co⟩
 have bd:=al2 aj.lt hr.lt
 have bn:Gb w.heap.size dv.heap.size:=ab.size
 have gG:=Bj bo hr.lt
 have fj:=Bj bo aj.lt
 have bu:=Dg bo ab.size
 have gH:Cov (one b) w am:=Gl bo ab.size
 have gI:=Bj bJ hr.lt
 have gJ:=Bj bJ aj.lt
 have bv:=Dg bJ ab.size
 have fm:=Bj bq hr.lt
 have fp:=Bj bq aj.lt
 have bw:=Dg bq ab.size
 have gK:Cov (one b) w ao:=Gl bq ab.size
 have fq:=Bj br hr.lt
 have fu:=Bj br aj.lt
 have bz:=Dg br ab.size
 have gL:Cov (one b) w al:=Gl br ab.size
 have dz:Mv [ax,b] [am,ar,ao,al,ax,b] dv bI:=Mv.cons (Mv.cons (Mv.cons (Mv.cons (Mv.on co AJ) br) bq) bJ) bo
 replace ⟨hD,aj,ab⟩:=(sp dz co).g3 hD aj ab
 replace af:RepS bI (nin (ge w.heap.size) [am,ar,ao,al,ax,b]) _ _ _ _:=RepS.Bn (s0:=w.heap.size) (M:=[ax,b]) af bd bn
 have gM:=af.max
 replace ag:RepS bI (nin (ge w.heap.size) [am,ar,ao,al,ax,b]) _ _ _ _:=RepS.Bn (s0:=w.heap.size) (M:=[ax,b]) ag bd bn
 have gN:=ag.max
 replace ah:RepS bI (nin (ge w.heap.size) [am,ar,ao,al,ax,b]) _ _ _ _:=RepS.Bn (s0:=w.heap.size) (M:=[ax,b]) ah bd bn
 have gO:=ah.max
 replace E:Own bI am 107 (nin (ge w.heap.size) [am,ar,ao,al,ax,b]) _ _ _:=Own.Bn (s0:=w.heap.size) (M:=[ax,b]) E bd bn
 have gP:=E.max
 have gQ:=E.len
 replace ai:Own bI ar 110 (nin (ge w.heap.size) [am,ar,ao,al,ax,b]) _ _ _:=Own.Bn (s0:=w.heap.size) (M:=[ax,b]) ai bd bn
 have gR:=ai.max
 have gS:=ai.len
 replace ae:Own bI ao 3 (nin (ge w.heap.size) [am,ar,ao,al,ax,b]) _ _ _:=Own.Bn (s0:=w.heap.size) (M:=[ax,b]) ae bd bn
 have gT:=ae.max
 have gU:=ae.len
 replace aa:Own bI al 42 (nin (ge w.heap.size) [am,ar,ao,al,ax,b]) _ _ _:=Own.Bn (s0:=w.heap.size) (M:=[ax,b]) aa bd bn
 have fL:=aa.max
 have fM:=aa.len
 have dH:=af.len
 subst dH
 have dI:=ag.len
 subst dI
 have dJ:=ah.len
 subst dJ
 refine .r 3<|.np 38 [AH,AH,AH,AH,AH,AH,AH,vI 0] fun ak gV aK cp dK dL=>?_
 have bP:=Ab aK bt.lt
 have fN:=Ab aK aj.lt
 have bB:=Ab aK E.lt
 have bQ:=Ab aK ai.lt
 have bC:=Ab aK ae.lt
 have bD:=Ab aK aa.lt
 have fO:=ab.cn aK
 replace ⟨hD,bt,aj,af,ag,ah,E,ai,ae,aa,ab⟩:=(sn [am,ar,ao,al,ax,b] cp aK).g11 hD bt aj af ag ah E ai ae aa ab
 refine .r 1<|.sc [.slice aV aq.store.idx.names.length aW,.slice aX aq.store.idx.AY.length aY,.slice aZ aq.store.parts.length ba,vS am aR bi,vS ar aO bj,vS ao aS bk,vS al aT bm,vI aq.disk.next] dK fun fv cq ac dM=>?_
 replace ⟨hD,bt,aj,af,ag,ah,E,ai,ae,aa,ab⟩:=(so [ak,am,ar,ao,al,ax,b] cq).g11 hD bt aj af ag ah E ai ae aa ab
 refine .d<|.s<|.s<|.g<|.r 1<|.cl (At 40 bt (hD.BY AO) AB (w:=fv) (F:=all)) ?_
 rintro gW aJ ⟨⟨b9,rfl,fP⟩,cr,fQ,ay,cu⟩
 replace ⟨hD,aj,af,ag,ah,E,ai,ae,aa,ac,ab⟩:=(so [ak,am,ar,ao,al,ax,b] cu).g11 hD aj af ag ah E ai ae aa ac ab
 refine .d<|.b 0<|.s<|.g<|.eq b9 0 (fun dN=>?_) (fun dN=>?_)
 ·refine .r 1<|.d<|.ct ?_
  replace hD:=hD.Bd
  replace af:=af.Bd
  replace ag:=ag.Bd
  replace ah:=ah.Bd
  have dO:Cov (mtb [am,ar,ao,al,b] aJ.heap.size) aJ b:=⟨.inl (.inl AM)⟩
  have dP:Gb (ak+1) aJ.heap.size:=ac.lt
  refine .gd (mtb [am,ar,ao,al,b] aJ.heap.size) 7 fun gX cw=>?_
  replace ⟨hD,ay,aj,af,ag,ah,E,ai,ae,aa,ac,ab⟩:=(se [ak,am,ar,ao,al,ax,b] cw).g12 hD ay aj af ag ah E ai ae aa ac ab
  refine .r [0,1]<|.lb 2 ac (CP (all_cons bB (all_cons bQ (all_cons bC (all_cons bD (all_cons bP all_nil))))) dP)<|.r [3]<|.go 4<|.cl (fun dA bE=>At 6 (ay.ext bE) ((hD.BY AO).ext bE) AB (w:=dA) (F:=all)) ?_
  intro dA bE
  replace ⟨hD,ay,aj,af,ag,ah,E,ai,ae,aa,ac,ab⟩:=(se [ak,am,ar,ao,al,ax,b] bE).g12 hD ay aj af ag ah E ai ae aa ac ab
  rintro gY gZ ⟨⟨ce,rfl,fR⟩,fw,fS,aA,bR⟩
  have hkeep_:=bR
  replace ⟨hD,aj,af,ag,ah,E,ai,ae,aa,ac,ab⟩:=(so [ak,am,ar,ao,al,ax,b] bR).g11 hD aj af ag ah E ai ae aa ac ab
  refine ⟨Chg.toS hkeep_ (Cov.toS dO),?_⟩
  refine GA.int (i:=5) (1+ce) AA AB<|.go 6<|.ns 1 3 [vI (1+ce)] fun g0 cx=>?_
  replace ⟨hD,aA,aj,af,ag,ah,E,ai,ae,aa,ac,ab⟩:=(se [ak,am,ar,ao,al,ax,b] cx).g12 hD aA aj af ag ah E ai ae aa ac ab
  intro dB hC aL cy bS dQ
  have dR:=Ab aL aA.lt
  have dS:=Ab aL aj.lt
  have dT:=Ab aL E.lt
  have dU:=Ab aL ai.lt
  have cz:=Ab aL ae.lt
  have dV:=Ab aL aa.lt
  have dW:=Ab aL ac.lt
  have dX:=BU aL ab.size
  replace ⟨hD,aA,aj,af,ag,ah,E,ai,ae,aa,ac,ab⟩:=(se [ak,am,ar,ao,al,ax,b] cy).g12 hD aA aj af ag ah E ai ae aa ac ab
  refine .d fun hE bT=>?_
  replace ⟨hD,aA,aj,af,ag,ah,E,ai,ae,aa,ac,bS⟩:=(se [ak,am,ar,ao,al,ax,b] bT).g12 hD aA aj af ag ah E ai ae aa ac bS
  replace ab:=(se [ak,am,ar,ao,al,ax,b] bT).g1 ab
  replace hD:=hD.Ax
  replace af:=af.Ax
  replace ag:=ag.Ax
  replace ah:=ah.Ax
  have ci:nin (ge w.heap.size) [ak,am,ar,ao,al,ax,b] dB∧dB≠ao:=DJ dX (all_cons dW (all_cons dT (all_cons dU (all_cons cz (all_cons dV (all_cons dS (all_cons dR all_nil))))))) cz
  refine RG.CM (T:=34) (ty:=34) (y:=1+ce) ae bS AA AA rfl ci (by have q1:WV _:=‹_›; have q2:=q1.wd.wi.dsk.nl; omega) fun bg cA hQ aH aF cB=>?_
  have fT:=BQ aF fm aA.lt
  have fU:=BQ aF fp aj.lt
  have fV:=BQ aF dw E.lt
  have fW:=BQ aF fg ai.lt
  have fX:=BQ aF (Nb.symm dy) aa.lt
  have fY:=BQ aF (Nb.symm bC) ac.lt
  have dY:=D8 aF bw ab.size
  replace ⟨hD,aA,aj,af,ag,ah,E,ai,aa,ac,ab⟩:=(sa [ak,am,ar,ao,al,ax,b] cB aF).g11 hD aA aj af ag ah E ai aa ac ab
  replace aH:=aH.rn ao
  refine .r 2<|.ss 5 (vS bg (aS+1) cA) ac fun hV cC dZ d0=>?_
  replace ⟨hD,aA,aj,af,ag,ah,E,ai,aH,aa,ab⟩:=(so [ak,am,ar,bg,al,ax,b] cC).g11 hD aA aj af ag ah E ai aH aa ab
  refine .d<|.ib 0<|.s<|.g<|.ln dZ<|.sc [.slice aV aq.store.idx.names.length aW,.slice aX aq.store.idx.AY.length aY,.slice aZ aq.store.parts.length ba,vS am aR bi,vS ar aO bj,vS bg (aS+1) cA,vS al aT bm,vI aq.disk.next] aj fun cD cE d3 d4=>?_
  replace ⟨hD,aA,af,ag,ah,E,ai,aH,aa,ab⟩:=(so [ak,am,ar,bg,al,ax,b] cE).g10 hD aA af ag ah E ai aH aa ab
  refine .d ?_
  have bK:=ai.sl bv
  replace ⟨hD,af,ag,ah,E,aH,aa⟩:=(sd cD [ak,am,ar,bg,al,ax,b] ar).g7 hD af ag ah E aH aa
  have cF:=aH.sl dY
  replace ⟨hD,af,ag,ah,E,bK,aa⟩:=(sd cD [ak,am,bg,al,ax,b] bg).g7 hD af ag ah E bK aa
  have fA:=aa.sl bz
  replace ⟨hD,af,ag,ah,E,bK,cF⟩:=(sd cD [ak,am,al,ax,b] al).g7 hD af ag ah E bK cF
  exact .rb func53 results53 d3 ⟨⟨((⟨(⟨(⟨aq.store.idx.names,aq.store.idx.AY⟩:Idx),aq.store.parts,aq.store.mem⟩:Sto),(⟨aq.disk.files,(aq.disk.list++[1+ce]),aq.disk.names,aq.disk.next⟩:Dsk)⟩:Wld):Wld),⟨aV,aq.store.idx.names.length,aW,aX,aq.store.idx.AY.length,aY,aZ,aq.store.parts.length,ba,am,aR,bi,(some ⟨ar,0,none⟩),aO,bj,(some ⟨bg,0,none⟩),(aS+1),cA,(some ⟨al,0,none⟩),aT,bm,rfl,((RepS.Ai af (all_cons AJ all_nil)).eqx AF),((RepS.Ai ag (all_cons AJ all_nil)).eqx AF),((RepS.Ai ah (all_cons AJ all_nil)).eqx AF),((Own.Ai E (all_cons AJ all_nil)).eqx AF),bu,((RepS.Ai bK (all_cons AJ all_nil)).eqx AF),((RepS.Ai cF (all_cons AJ all_nil)).eqx AF),((RepS.Ai fA (all_cons AJ all_nil)).eqx AF)⟩,(by have q1:WV _:=‹_›; exact ⟨q1.wd.wg1 _,tf1 q1 _⟩)⟩,fw,by omega,aA,ab⟩
 refine .r 1<|.d<|.cf<|.s<|.g<|.eq b9 1 (fun d5=>?_) (fun d5=>?_)
 ·refine .r 1<|.d<|.ct ?_
  replace hD:=hD.Bd
  replace af:=af.Bd
  replace ag:=ag.Bd
  replace ah:=ah.Bd
  have cG:Cov (mtb [am,ar,ao,al,b] aJ.heap.size) aJ b:=⟨.inl (.inl AM)⟩
  have d6:Gb (ak+1) aJ.heap.size:=ac.lt
  refine .gd (mtb [am,ar,ao,al,b] aJ.heap.size) 10 fun hW cH=>?_
  replace ⟨hD,ay,aj,af,ag,ah,E,ai,ae,aa,ac,ab⟩:=(se [ak,am,ar,ao,al,ax,b] cH).g12 hD ay aj af ag ah E ai ae aa ac ab
  refine .r [0,1]<|.lb 2 ac (CP (all_cons bB (all_cons bQ (all_cons bC (all_cons bD (all_cons bP all_nil))))) d6)<|.r [3,6]<|.go 4<|.cl (fun dC bF=>At 7 (ay.ext bF) ((hD.BY AO).ext bF) AB (w:=dC) (F:=all)) ?_
  intro dC bF
  replace ⟨hD,ay,aj,af,ag,ah,E,ai,ae,aa,ac,ab⟩:=(se [ak,am,ar,ao,al,ax,b] bF).g12 hD ay aj af ag ah E ai ae aa ac ab
  rintro ia ic ⟨⟨cg,rfl,f5⟩,ie,f6,d7,bU⟩
  have hkeep_:=bU
  replace ⟨hD,aj,af,ag,ah,E,ai,ae,aa,ac,ab⟩:=(so [ak,am,ar,ao,al,ax,b] bU).g11 hD aj af ag ah E ai ae aa ac ab
  refine ⟨Chg.toS hkeep_ (Cov.toS cG),?_⟩
  refine GA.int (i:=5) (1+cg) AA AB<|.go 7<|.cl (fun dD bG=>Ex (d7.ext bG) ((hD.BY AO).ext bG) AB (w:=dD) (F:=all)) ?_
  intro dD bG
  replace ⟨hD,aj,af,ag,ah,E,ai,ae,aa,ac,ab⟩:=(se [ak,am,ar,ao,al,ax,b] bG).g11 hD aj af ag ah E ai ae aa ac ab
  rintro ig ii ⟨⟨bA,⟨_,rfl,rfl⟩,f7⟩,fB,f8,aD,bV⟩
  have hkeep_:=bV
  replace ⟨hD,aj,af,ag,ah,E,ai,ae,aa,ac,ab⟩:=(so [ak,am,ar,ao,al,ax,b] bV).g11 hD aj af ag ah E ai ae aa ac ab
  refine ⟨Chg.toS hkeep_ (Cov.toS cG),?_⟩
  refine .r [8]<|.go 9<|.ns 1 107 [vI (1+cg),vI bA.t,vI bA.v] fun ij cI=>?_
  replace ⟨hD,aD,aj,af,ag,ah,E,ai,ae,aa,ac,ab⟩:=(se [ak,am,ar,ao,al,ax,b] cI).g12 hD aD aj af ag ah E ai ae aa ac ab
  intro dE ik aM cJ bW d8
  have d9:=Ab aM aD.lt
  have ec:=Ab aM aj.lt
  have cK:=Ab aM E.lt
  have ee:=Ab aM ai.lt
  have eg:=Ab aM ae.lt
  have eh:=Ab aM aa.lt
  have ej:=Ab aM ac.lt
  have ek:=BU aM ab.size
  replace ⟨hD,aD,aj,af,ag,ah,E,ai,ae,aa,ac,ab⟩:=(se [ak,am,ar,ao,al,ax,b] cJ).g12 hD aD aj af ag ah E ai ae aa ac ab
  refine .d fun il bX=>?_
  replace ⟨hD,aD,aj,af,ag,ah,E,ai,ae,aa,ac,bW⟩:=(se [ak,am,ar,ao,al,ax,b] bX).g12 hD aD aj af ag ah E ai ae aa ac bW
  replace ab:=(se [ak,am,ar,ao,al,ax,b] bX).g1 ab
  replace hD:=hD.Ax
  replace af:=af.Ax
  replace ag:=ag.Ax
  replace ah:=ah.Ax
  have cj:nin (ge w.heap.size) [ak,am,ar,ao,al,ax,b] dE∧dE≠am:=DJ ek (all_cons ej (all_cons cK (all_cons ee (all_cons eg (all_cons eh (all_cons ec (all_cons d9 all_nil))))))) cK
  refine RG.CM (T:=30) (ty:=30) (y:=(⟨1+cg,(⟨bA.t,bA.v⟩:Row)⟩:Smp)) E bW AA AA rfl cj (by have q1:WV _:=‹_›; have q4:=q1.wd.wi.sto.nm2; omega) fun bh cL im aB aI cM=>?_
  have f9:=BQ aI fj aj.lt
  have gb:=BQ aI (Nb.symm ff) ai.lt
  have gf:=BQ aI (Nb.symm dw) ae.lt
  have gh:=BQ aI (Nb.symm dx) aa.lt
  have gi:=BQ aI (Nb.symm bB) ac.lt
  have en:=D8 aI bu ab.size
  replace ⟨hD,aD,aj,af,ag,ah,ai,ae,aa,ac,ab⟩:=(sa [ak,am,ar,ao,al,ax,b] cM aI).g11 hD aD aj af ag ah ai ae aa ac ab
  replace aB:=aB.rn am
  refine .r 2<|.ss 3 (vS bh (aR+1) cL) ac fun io cN eA eB=>?_
  replace ⟨hD,aD,aj,af,ag,ah,aB,ai,ae,aa,ab⟩:=(so [ak,bh,ar,ao,al,ax,b] cN).g11 hD aD aj af ag ah aB ai ae aa ab
  refine .d<|.ib 0<|.s<|.g<|.ln eA<|.sc [.slice aV aq.store.idx.names.length aW,.slice aX aq.store.idx.AY.length aY,.slice aZ aq.store.parts.length ba,vS bh (aR+1) cL,vS ar aO bj,vS ao aS bk,vS al aT bm,vI aq.disk.next] aj fun cO cP eC eD=>?_
  replace ⟨hD,aD,af,ag,ah,aB,ai,ae,aa,ab⟩:=(so [ak,bh,ar,ao,al,ax,b] cP).g10 hD aD af ag ah aB ai ae aa ab
  refine .d ?_
  have bL:=ai.sl bv
  replace ⟨hD,af,ag,ah,aB,ae,aa⟩:=(sd cO [ak,bh,ar,ao,al,ax,b] ar).g7 hD af ag ah aB ae aa
  have cQ:=ae.sl bw
  replace ⟨hD,af,ag,ah,aB,bL,aa⟩:=(sd cO [ak,bh,ao,al,ax,b] ao).g7 hD af ag ah aB bL aa
  have fC:=aa.sl bz
  replace ⟨hD,af,ag,ah,aB,bL,cQ⟩:=(sd cO [ak,bh,al,ax,b] al).g7 hD af ag ah aB bL cQ
  exact .rb func53 results53 eC ⟨⟨((⟨(⟨(⟨aq.store.idx.names,aq.store.idx.AY⟩:Idx),aq.store.parts,(aq.store.mem++[(⟨1+cg,(⟨bA.t,bA.v⟩:Row)⟩:Smp)])⟩:Sto),(⟨aq.disk.files,aq.disk.list,aq.disk.names,aq.disk.next⟩:Dsk)⟩:Wld):Wld),⟨aV,aq.store.idx.names.length,aW,aX,aq.store.idx.AY.length,aY,aZ,aq.store.parts.length,ba,bh,(aR+1),cL,(some ⟨ar,0,none⟩),aO,bj,(some ⟨ao,0,none⟩),aS,bk,(some ⟨al,0,none⟩),aT,bm,rfl,((RepS.Ai af (all_cons AJ all_nil)).eqx AF),((RepS.Ai ag (all_cons AJ all_nil)).eqx AF),((RepS.Ai ah (all_cons AJ all_nil)).eqx AF),((Own.Ai aB (all_cons AJ all_nil)).eqx AF),en,((RepS.Ai bL (all_cons AJ all_nil)).eqx AF),((RepS.Ai cQ (all_cons AJ all_nil)).eqx AF),((RepS.Ai fC (all_cons AJ all_nil)).eqx AF)⟩,(by have q1:WV _:=‹_›; exact ⟨q1.wd.wg2 AB ‹_›,tf2 q1⟩)⟩,fB,by omega,aD,ab⟩
 refine .r 1<|.d<|.cf<|.s<|.g<|.eq b9 2 (fun eE=>?_) (fun eE=>?_)
 ·refine .r 1<|.d<|.ct<|.s<|.g<|.r 2<|.lb ac<|.r 1<|.bp ((aO:Int) > 0) (fun eF=>?_) (fun eF=>?_)
  ·refine .d<|.ct<|.g<|.r 2<|.lb ac ?_
   have fD:=ai.sl bv
   replace ⟨hD,af,ag,ah,E,ae,aa⟩:=(sd aJ [ak,am,ar,ao,al,ax,b] ar).g7 hD af ag ah E ae aa
   refine RG.sub (t:=33) (lo:=some (vI 1)) (hi:=none) fD 1 aO AA AA (.inr ⟨_,_,rfl,by omega⟩) (.inl ⟨rfl,rfl⟩) AB AB fun cR cS aP=>?_
   refine .r 2<|.ss 4 (.slice cR (aO - 1) cS) ac fun ip cT eG eH=>?_
   replace ⟨hD,ay,aj,af,ag,ah,E,ae,aa,aP,ab⟩:=(so [ak,am,ao,al,ax,b] cT).g11 hD ay aj af ag ah E ae aa aP ab
   refine .d<|.ib 0<|.s<|.g<|.ln eG<|.sc [.slice aV aq.store.idx.names.length aW,.slice aX aq.store.idx.AY.length aY,.slice aZ aq.store.parts.length ba,vS am aR bi,.slice cR (aO - 1) cS,vS ao aS bk,vS al aT bm,vI aq.disk.next] aj fun dF cU eI eJ=>?_
   replace ⟨hD,ay,af,ag,ah,E,ae,aa,aP,ab⟩:=(so [ak,am,ao,al,ax,b] cU).g10 hD ay af ag ah E ae aa aP ab
   refine .d ?_
   have cV:=ae.sl bw
   replace ⟨hD,af,ag,ah,E,aa,aP⟩:=(sd dF [ak,am,ao,al,ax,b] ao).g7 hD af ag ah E aa aP
   have fE:=aa.sl bz
   replace ⟨hD,af,ag,ah,E,cV,aP⟩:=(sd dF [ak,am,al,ax,b] al).g7 hD af ag ah E cV aP
   exact .rb func53 results53 eI ⟨⟨((⟨(⟨(⟨aq.store.idx.names,aq.store.idx.AY⟩:Idx),aq.store.parts,aq.store.mem⟩:Sto),(⟨((aq.disk.files.take aO).drop 1),aq.disk.list,aq.disk.names,aq.disk.next⟩:Dsk)⟩:Wld):Wld),⟨aV,aq.store.idx.names.length,aW,aX,aq.store.idx.AY.length,aY,aZ,aq.store.parts.length,ba,am,aR,bi,cR,(aO - 1),cS,(some ⟨ao,0,none⟩),aS,bk,(some ⟨al,0,none⟩),aT,bm,rfl,((RepS.Ai af (all_cons AJ all_nil)).eqx AF),((RepS.Ai ag (all_cons AJ all_nil)).eqx AF),((RepS.Ai ah (all_cons AJ all_nil)).eqx AF),((Own.Ai E (all_cons AJ all_nil)).eqx AF),bu,((RepS.Ai aP (all_cons AJ all_nil)).eqx AF),((RepS.Ai cV (all_cons AJ all_nil)).eqx AF),((RepS.Ai fE (all_cons AJ all_nil)).eqx AF)⟩,(by have q1:WV _:=‹_›; exact ⟨q1.wd.wg3,tf3 q1⟩)⟩,cr,by omega,ay,ab⟩
  refine .d<|.cf<|.sk<|.ib 0<|.s<|.g<|.ln ac<|.sc [.slice aV aq.store.idx.names.length aW,.slice aX aq.store.idx.AY.length aY,.slice aZ aq.store.parts.length ba,vS am aR bi,vS ar aO bj,vS ao aS bk,vS al aT bm,vI aq.disk.next] aj fun cW cX eK eL=>?_
  replace ⟨hD,ay,af,ag,ah,E,ai,ae,aa,ac,ab⟩:=(so [ak,am,ar,ao,al,ax,b] cX).g11 hD ay af ag ah E ai ae aa ac ab
  refine .d ?_
  have bM:=ai.sl bv
  replace ⟨hD,af,ag,ah,E,ae,aa⟩:=(sd cW [ak,am,ar,ao,al,ax,b] ar).g7 hD af ag ah E ae aa
  have cY:=ae.sl bw
  replace ⟨hD,af,ag,ah,E,bM,aa⟩:=(sd cW [ak,am,ao,al,ax,b] ao).g7 hD af ag ah E bM aa
  have fF:=aa.sl bz
  replace ⟨hD,af,ag,ah,E,bM,cY⟩:=(sd cW [ak,am,al,ax,b] al).g7 hD af ag ah E bM cY
  exact .rb func53 results53 eK ⟨⟨(aq:Wld),⟨aV,aq.store.idx.names.length,aW,aX,aq.store.idx.AY.length,aY,aZ,aq.store.parts.length,ba,am,aR,bi,(some ⟨ar,0,none⟩),aO,bj,(some ⟨ao,0,none⟩),aS,bk,(some ⟨al,0,none⟩),aT,bm,rfl,((RepS.Ai af (all_cons AJ all_nil)).eqx AF),((RepS.Ai ag (all_cons AJ all_nil)).eqx AF),((RepS.Ai ah (all_cons AJ all_nil)).eqx AF),((Own.Ai E (all_cons AJ all_nil)).eqx AF),bu,((RepS.Ai bM (all_cons AJ all_nil)).eqx AF),((RepS.Ai cY (all_cons AJ all_nil)).eqx AF),((RepS.Ai fF (all_cons AJ all_nil)).eqx AF)⟩,(by have q1:WV _:=‹_›; exact ⟨q1.wg,q1.tf⟩)⟩,cr,by omega,ay,ab⟩
 refine .r 1<|.d<|.cf<|.s<|.g<|.eq b9 3 (fun eM=>?_) (fun eM=>?_)
 ·refine .r 1<|.d<|.ct ?_
  replace hD:=hD.Bd
  replace af:=af.Bd
  replace ag:=ag.Bd
  replace ah:=ah.Bd
  have eN:Cov (mtb [am,ar,ao,al,b] aJ.heap.size) aJ b:=⟨.inl (.inl AM)⟩
  have eO:Gb (ak+1) aJ.heap.size:=ac.lt
  refine .gd (mtb [am,ar,ao,al,b] aJ.heap.size) 6 fun iq cZ=>?_
  replace ⟨hD,ay,aj,af,ag,ah,E,ai,ae,aa,ac,ab⟩:=(se [ak,am,ar,ao,al,ax,b] cZ).g12 hD ay aj af ag ah E ai ae aa ac ab
  refine .r [0,1]<|.lb 2 ac (CP (all_cons bB (all_cons bQ (all_cons bC (all_cons bD (all_cons bP all_nil))))) eO)<|.r [3]<|.go 4<|.cl (fun c7 bH=>Ha (ay.ext bH) ((hD.BY AO).ext bH) AB (w:=c7) (F:=all)) ?_
  intro c7 bH
  replace ⟨hD,ay,aj,af,ag,ah,E,ai,ae,aa,ac,ab⟩:=(se [ak,am,ar,ao,al,ax,b] bH).g12 hD ay aj af ag ah E ai ae aa ac ab
  rintro ir iu ⟨⟨c8,⟨fG,fH,rfl,aQ⟩,gn⟩,fI,gp,aC,bY⟩
  have da:=al7 ac.lt E.lt ai.lt ae.lt aa.lt aj.lt ay.lt
  have eP:Gb w.heap.size c7.heap.size:=ab.size
  have hkeep_:=bY
  replace ⟨hD,aj,af,ag,ah,E,ai,ae,aa,ac,ab⟩:=(so [ak,am,ar,ao,al,ax,b] bY).g11 hD aj af ag ah E ai ae aa ac ab
  refine ⟨Chg.toS hkeep_ (Cov.toS eN),?_⟩
  have aQ:=aQ.fr da eP
  refine .go 5<|.ns 1 42 [.slice fG c8.length fH] fun iw bZ=>?_
  replace ⟨hD,aC,aj,af,ag,ah,E,ai,ae,aa,ac,aQ⟩:=(se [ak,am,ar,ao,al,ax,b] bZ).g12 hD aC aj af ag ah E ai ae aa ac aQ
  replace ab:=(se [ak,am,ar,ao,al,ax,b] bZ).g1 ab
  intro dG iy aN b0 b6 eQ
  have eR:=Ab aN aC.lt
  have eS:=Ab aN aj.lt
  have eT:=Ab aN E.lt
  have eU:=Ab aN ai.lt
  have eV:=Ab aN ae.lt
  have db:=Ab aN aa.lt
  have eW:=Ab aN ac.lt
  have eX:=BU aN ab.size
  replace ⟨hD,aC,aj,af,ag,ah,E,ai,ae,aa,ac,aQ⟩:=(se [ak,am,ar,ao,al,ax,b] b0).g12 hD aC aj af ag ah E ai ae aa ac aQ
  replace ab:=(se [ak,am,ar,ao,al,ax,b] b0).g1 ab
  refine .d fun iz b7=>?_
  replace ⟨hD,aC,aj,af,ag,ah,E,ai,ae,aa,ac,aQ⟩:=(se [ak,am,ar,ao,al,ax,b] b7).g12 hD aC aj af ag ah E ai ae aa ac aQ
  replace ⟨b6,ab⟩:=(se [ak,am,ar,ao,al,ax,b] b7).g2 b6 ab
  replace hD:=hD.Ax
  replace af:=af.Ax
  replace ag:=ag.Ax
  replace ah:=ah.Ax
  have ck:nin (ge w.heap.size) [ak,am,ar,ao,al,ax,b] dG∧dG≠al:=DJ eX (all_cons eW (all_cons eT (all_cons eU (all_cons eV (all_cons db (all_cons eS (all_cons eR all_nil))))))) db
  refine RG.CM (T:=25) (ty:=25) (y:=c8) aa b6 AA AA ⟨_,_,_,rfl,aQ.oi⟩ ck (by have q1:WV _:=‹_›; have q3:=q1.wd.wi.dsk.nm.len; omega) fun aU de iA aE aG df=>?_
  have gr:=BQ aG fq aC.lt
  have gs:=BQ aG fu aj.lt
  have gt:=BQ aG dx E.lt
  have gu:=BQ aG fi ai.lt
  have gv:=BQ aG dy ae.lt
  have gw:=BQ aG (Nb.symm bD) ac.lt
  have eY:=D8 aG bz ab.size
  replace ⟨hD,aC,aj,af,ag,ah,E,ai,ae,ac,ab⟩:=(sa [ak,am,ar,ao,al,ax,b] df aG).g11 hD aC aj af ag ah E ai ae ac ab
  replace aE:=aE.rn al
  refine .r 2<|.ss 6 (vS aU (aT+1) de) ac fun iB dh eZ e7=>?_
  replace ⟨hD,aC,aj,af,ag,ah,E,ai,ae,aE,ab⟩:=(so [ak,am,ar,ao,aU,ax,b] dh).g11 hD aC aj af ag ah E ai ae aE ab
  refine .d<|.ib 0<|.s<|.g<|.ln eZ<|.sc [.slice aV aq.store.idx.names.length aW,.slice aX aq.store.idx.AY.length aY,.slice aZ aq.store.parts.length ba,vS am aR bi,vS ar aO bj,vS ao aS bk,vS aU (aT+1) de,vI aq.disk.next] aj fun dj dm e8 fa=>?_
  replace ⟨hD,aC,af,ag,ah,E,ai,ae,aE,ab⟩:=(so [ak,am,ar,ao,aU,ax,b] dm).g10 hD aC af ag ah E ai ae aE ab
  refine .d ?_
  have bN:=ai.sl bv
  replace ⟨hD,af,ag,ah,E,ae,aE⟩:=(sd dj [ak,am,ar,ao,aU,ax,b] ar).g7 hD af ag ah E ae aE
  have dp:=ae.sl bw
  replace ⟨hD,af,ag,ah,E,bN,aE⟩:=(sd dj [ak,am,ao,aU,ax,b] ao).g7 hD af ag ah E bN aE
  have fJ:=aE.sl eY
  replace ⟨hD,af,ag,ah,E,bN,dp⟩:=(sd dj [ak,am,aU,ax,b] aU).g7 hD af ag ah E bN dp
  exact .rb func53 results53 e8 ⟨⟨((⟨(⟨(⟨aq.store.idx.names,aq.store.idx.AY⟩:Idx),aq.store.parts,aq.store.mem⟩:Sto),(⟨aq.disk.files,aq.disk.list,(aq.disk.names++[c8]),aq.disk.next⟩:Dsk)⟩:Wld):Wld),⟨aV,aq.store.idx.names.length,aW,aX,aq.store.idx.AY.length,aY,aZ,aq.store.parts.length,ba,am,aR,bi,(some ⟨ar,0,none⟩),aO,bj,(some ⟨ao,0,none⟩),aS,bk,(some ⟨aU,0,none⟩),(aT+1),de,rfl,((RepS.Ai af (all_cons AJ all_nil)).eqx AF),((RepS.Ai ag (all_cons AJ all_nil)).eqx AF),((RepS.Ai ah (all_cons AJ all_nil)).eqx AF),((Own.Ai E (all_cons AJ all_nil)).eqx AF),bu,((RepS.Ai bN (all_cons AJ all_nil)).eqx AF),((RepS.Ai dp (all_cons AJ all_nil)).eqx AF),((RepS.Ai fJ (all_cons AJ all_nil)).eqx AF)⟩,(by have q1:WV _:=‹_›; exact ⟨q1.wd.wg4 ‹_›,tf4 q1⟩)⟩,fI,by omega,aC,ab⟩
 refine .r 1<|.d<|.cf<|.sk<|.ib 0<|.s<|.g<|.ln ac<|.sc [.slice aV aq.store.idx.names.length aW,.slice aX aq.store.idx.AY.length aY,.slice aZ aq.store.parts.length ba,vS am aR bi,vS ar aO bj,vS ao aS bk,vS al aT bm,vI aq.disk.next] aj fun dq dt fb fd=>?_
 replace ⟨hD,ay,af,ag,ah,E,ai,ae,aa,ab⟩:=(so [ak,am,ar,ao,al,ax,b] dt).g10 hD ay af ag ah E ai ae aa ab
 refine .d ?_
 have bO:=ai.sl bv
 replace ⟨hD,af,ag,ah,E,ae,aa⟩:=(sd dq [ak,am,ar,ao,al,ax,b] ar).g7 hD af ag ah E ae aa
 have du:=ae.sl bw
 replace ⟨hD,af,ag,ah,E,bO,aa⟩:=(sd dq [ak,am,ao,al,ax,b] ao).g7 hD af ag ah E bO aa
 have fK:=aa.sl bz
 replace ⟨hD,af,ag,ah,E,bO,du⟩:=(sd dq [ak,am,al,ax,b] al).g7 hD af ag ah E bO du
 exact .rb func53 results53 fb ⟨⟨(aq:Wld),⟨aV,aq.store.idx.names.length,aW,aX,aq.store.idx.AY.length,aY,aZ,aq.store.parts.length,ba,am,aR,bi,(some ⟨ar,0,none⟩),aO,bj,(some ⟨ao,0,none⟩),aS,bk,(some ⟨al,0,none⟩),aT,bm,rfl,((RepS.Ai af (all_cons AJ all_nil)).eqx AF),((RepS.Ai ag (all_cons AJ all_nil)).eqx AF),((RepS.Ai ah (all_cons AJ all_nil)).eqx AF),((Own.Ai E (all_cons AJ all_nil)).eqx AF),bu,((RepS.Ai bO (all_cons AJ all_nil)).eqx AF),((RepS.Ai du (all_cons AJ all_nil)).eqx AF),((RepS.Ai fK (all_cons AJ all_nil)).eqx AF)⟩,(by have q1:WV _:=‹_›; exact ⟨q1.wg,q1.tf⟩)⟩,cr,by omega,ay,ab⟩
theorem D7 (code:List UInt8) (h1:RepS w F a1 n1 c1 code)  : Calls Tryz.prog 19 [.slice a1 n1 c1].toArray w (Aj fun rv w'=>(∃ (y:Wld) (e:Evt),(∃ v0 v1,rv=.tuple #[v0,v1]∧VS (fo F w.heap.size) w' (y:Wld) v0∧VS (fo F w.heap.size) w' (e:Evt) v1)∧(WG y∧TF y∧EvD e))∧Ext w w'):=by
 refine goT func19 ?_
 obtain ⟨rfl,fj,h1⟩:=h1.tp
 refine .s<|.g<|.np 38 [AH,AH,AH,AH,AH,AH,AH,vI 0] fun am gi ck cm al d7=>?_
 have fm:Cov nil w am:=Et ck (Nat.le_refl _)
 replace h1:=(sn [] cm ck).g1 h1
 have ab:=cm
 refine .np 46 [vI 0,vI 0,vI 0,AH,vI 0,vI 0] fun ax d8 ce cM ae d9=>?_
 have fp:=Ab ce al.lt
 have fq:=ab.cn ce
 replace ⟨h1,al,ab⟩:=(sn [am] cM ce).g3 h1 al ab
 refine .d<|.s<|.g<|.r 1<|.cl (IZ code h1 (w:=d8) (F:=nin (fo F w.heap.size) [ax,am])) ?_
 rintro gj cU ⟨⟨gk,ay,gl,gm,rfl,cg,co,az⟩,cN⟩
 have cO:=al2 ae.lt al.lt
 have ec:Gb w.heap.size d8.heap.size:=ab.size
 have fu:=Bj cg al.lt
 have fv:=Bj cg ae.lt
 have fw:Cov nil w ay:=Gl cg ab.size
 replace ⟨al,ae,ab⟩:=(se [] cN).g3 al ae ab
 replace az:=RepS.SY (b:=ay) (M:=[ax,am]) az cO ec
 refine .r 1<|.d<|.s<|.g<|.r 1<|.cl (KP co (az.BY AI) AB (w:=cU) (F:=all)) ?_
 rintro gn bz ⟨⟨aA,⟨aV,gp,aW,aX,gq,aY,aZ,gr,ba,aq,bd,bg,bh,gs,bi,bj,gt,bk,bm,gu,bn,rfl,af,ag,ah,ac,aS,ai,aj,ak⟩,fA⟩,gv,fB,aM,cp⟩
 have aL:=al3 co.lt ae.lt al.lt
 have aN:Gb w.heap.size cU.heap.size:=ab.size
 have fC:=Bj aS al.lt
 have fD:=Bj aS ae.lt
 have ee:=Bj aS co.lt
 have ci:=Dg aS ab.size
 have cP:Mv [ay,ax,am] [aq,ay,ax,am] cU bz:=Mv.cons (Mv.on cp AI) aS
 replace ⟨al,ae,az,ab⟩:=(sp cP cp).g4 al ae az ab
 replace af:RepS bz (nin (ge w.heap.size) [aq,ay,ax,am]) _ _ _ _:=RepS.Bn (s0:=w.heap.size) (M:=[ay,ax,am]) af aL aN
 replace af:=af.base (G':=fo F w.heap.size) (fun _ _ h=>.inr h)
 have fE:=af.max
 replace ag:RepS bz (nin (ge w.heap.size) [aq,ay,ax,am]) _ _ _ _:=RepS.Bn (s0:=w.heap.size) (M:=[ay,ax,am]) ag aL aN
 replace ag:=ag.base (G':=fo F w.heap.size) (fun _ _ h=>.inr h)
 have fF:=ag.max
 replace ah:RepS bz (nin (ge w.heap.size) [aq,ay,ax,am]) _ _ _ _:=RepS.Bn (s0:=w.heap.size) (M:=[ay,ax,am]) ah aL aN
 replace ah:=ah.base (G':=fo F w.heap.size) (fun _ _ h=>.inr h)
 have fG:=ah.max
 replace ac:Own bz aq 107 (nin (ge w.heap.size) [aq,ay,ax,am]) _ _ _:=Own.Bn (s0:=w.heap.size) (M:=[ay,ax,am]) ac aL aN
 replace ac:=ac.base (G':=fo F w.heap.size) (fun _ _ h=>.inr h)
 replace ai:RepS bz (nin (ge w.heap.size) [aq,ay,ax,am]) _ _ _ _:=RepS.Bn (s0:=w.heap.size) (M:=[ay,ax,am]) ai aL aN
 replace ai:=ai.base (G':=fo F w.heap.size) (fun _ _ h=>.inr h)
 have eI:=ai.max
 replace aj:RepS bz (nin (ge w.heap.size) [aq,ay,ax,am]) _ _ _ _:=RepS.Bn (s0:=w.heap.size) (M:=[ay,ax,am]) aj aL aN
 replace aj:=aj.base (G':=fo F w.heap.size) (fun _ _ h=>.inr h)
 have eJ:=aj.max
 replace ak:RepS bz (nin (ge w.heap.size) [aq,ay,ax,am]) _ _ _ _:=RepS.Bn (s0:=w.heap.size) (M:=[ay,ax,am]) ak aL aN
 replace ak:=ak.base (G':=fo F w.heap.size) (fun _ _ h=>.inr h)
 have eK:=ak.max
 have cV:=af.len
 subst cV
 have cW:=ag.len
 subst cW
 have cX:=ah.len
 subst cX
 have cY:=ai.len
 subst cY
 have cZ:=aj.len
 subst cZ
 have c7:=ak.len
 subst c7
 refine .np 38 [AH,AH,AH,AH,AH,AH,AH,vI 0] fun ao fH aH cq c8 da=>?_
 have bo:=Ab aH al.lt
 have eL:=Ab aH ae.lt
 have eM:=Ab aH aM.lt
 have bq:=Ab aH ac.lt
 have eN:=ab.cn aH
 replace ⟨al,ae,az,aM,af,ag,ah,ac,ai,aj,ak,ab⟩:=(sn [aq,ay,ax,am] cq aH).g12 al ae az aM af ag ah ac ai aj ak ab
 refine .sc [.slice aV aA.store.idx.names.length aW,.slice aX aA.store.idx.AY.length aY,.slice aZ aA.store.parts.length ba,vS aq bd bg,.slice bh aA.disk.files.length bi,.slice bj aA.disk.list.length bk,.slice bm aA.disk.names.length bn,vI aA.disk.next] c8 fun cQ cr aa db=>?_
 replace ⟨al,ae,az,aM,af,ag,ah,ac,ai,aj,ak,ab⟩:=(so [ao,aq,ay,ax,am] cr).g12 al ae az aM af ag ah ac ai aj ak ab
 refine .d<|.s<|.g<|.r 1<|.ln aa<|.cl (FA aA aM (az.BY AK) AB (af.BY AK) (ag.BY AK) (ah.BY AK) (ac.BY AK ee) (ai.BY AK) (aj.BY AK) (ak.BY AK) (by have q1:WG _∧TF _:=‹_›; have q2:=q1.1.2.nl; omega) (w:=cQ) (F:=all)) ?_
 rintro fI fJ ⟨⟨aB,⟨_,rfl,⟨bA,fK,bB,rfl,E⟩⟩,eO⟩,fL,eP,aK,cu⟩
 have cw:=al5 aa.lt ac.lt aM.lt ae.lt al.lt
 have de:Gb w.heap.size cQ.heap.size:=ab.size
 replace ⟨al,ae,az,af,ag,ah,ac,ai,aj,ak,aa,ab⟩:=(so [ao,aq,ay,ax,am] cu).g12 al ae az af ag ah ac ai aj ak aa ab
 have E:=E.fr cw de
 replace E:=E.base (G':=fo F w.heap.size) (fun _ _ h=>.inr h)
 have eQ:=E.max
 have df:=E.len
 subst df
 refine .np 46 [vI 0,vI 0,vI 0,AH,vI 0,vI 0] fun ar fM aF bI dh dj=>?_
 have br:=Ab aF al.lt
 have eR:=Ab aF ae.lt
 have eS:=Ab aF aK.lt
 have bt:=Ab aF ac.lt
 have eT:=Ab aF aa.lt
 have eU:=ab.cn aF
 replace ⟨al,ae,az,aK,af,ag,ah,ac,ai,aj,ak,aa⟩:=(sn [ao,aq,ay,ax,am] bI aF).g12 al ae az aK af ag ah ac ai aj ak aa
 replace ⟨E,ab⟩:=(sn [ao,aq,ay,ax,am] bI aF).g2 E ab
 refine .sc [vI aB.kind,vI aB.at_,vI aB.cut,.slice bA aB.name.length bB,vI aB.row.t,vI aB.row.v] dh fun eg bJ aC dm=>?_
 replace ⟨al,ae,az,aK,af,ag,ah,ac,ai,aj,ak,aa⟩:=(so [ar,ao,aq,ay,ax,am] bJ).g12 al ae az aK af ag ah ac ai aj ak aa
 replace ⟨E,ab⟩:=(so [ar,ao,aq,ay,ax,am] bJ).g2 E ab
 refine .d<|.s<|.s<|.g<|.r 1<|.cl (At 20 aK (az.BY AL) AB (w:=eg) (F:=all)) ?_
 rintro fN bC ⟨⟨cx,rfl,eV⟩,fO,eW,aG,bK⟩
 replace ⟨al,ae,az,af,ag,ah,ac,ai,aj,ak,aa,E⟩:=(so [ar,ao,aq,ay,ax,am] bK).g12 al ae az af ag ah ac ai aj ak aa E
 replace ⟨aC,ab⟩:=(so [ar,ao,aq,ay,ax,am] bK).g2 aC ab
 refine .d<|.b 0<|.s<|.g<|.eq cx 0 (fun dp=>?_) (fun dp=>?_)
 ·refine .r 1<|.d<|.ct<|.g<|.ns 3 3 [vI 0,vI 5,vI (-1)] fun aD cS aI bL dq dt=>?_
  have eX:=Ab aI aG.lt
  have eY:=Ab aI ac.lt
  have du:=Ab aI aa.lt
  have dv:=Ab aI aC.lt
  replace ⟨al,ae,az,aG,af,ag,ah,ac,ai,aj,ak,aa⟩:=(sn [ar,ao,aq,ay,ax,am] bL aI).g12 al ae az aG af ag ah ac ai aj ak aa
  replace ⟨E,aC,ab⟩:=(sn [ar,ao,aq,ay,ax,am] bL aI).g3 E aC ab
  have bM:Own (α:=Int) cS aD 3 (nin (fo F w.heap.size) [aD,ar,ao,aq,ay,ax,am]) 3 3 [0,5,(-1)]:=Own.lit dq rfl AE ⟨rfl,rfl,rfl,rfl⟩
  refine .r 1<|.cl (At 3 aG (az.BY AM) AB (w:=cS) (F:=all)) ?_
  rintro fP eh ⟨⟨aT,rfl,eZ⟩,fQ,e7,e8,bN⟩
  replace ⟨al,ae,az,af,ag,ah,ac,ai,aj,ak,aa,E⟩:=(so [aD,ar,ao,aq,ay,ax,am] bN).g12 al ae az af ag ah ac ai aj ak aa E
  replace ⟨aC,bM,ab⟩:=(so [aD,ar,ao,aq,ay,ax,am] bN).g3 aC bM ab
  have dw:aT.toNat< 3:=AB
  refine RG.idx (b:=aD) (o:=0) (aT.toNat) (len:=3) (i:=aT) (sz:=1) AA AB dw rfl ?_
  obtain ⟨bD,bO⟩:∃ y,([0,5,(-1)]:List Int)[aT.toNat]? = some y:=⟨_,AU AB⟩
  have cy:=AV bO
  simp only [List.mem_cons,List.not_mem_nil,or_false] at cy
  obtain ⟨_,rfl,bP⟩:=bM.elem (aT.toNat) bD bO
  replace bP:Has eh ⟨aD,0+(aT.toNat) * Rep.sz Int,none⟩ [vI bD]:=by rw [Nat.zero_add]; exact bP
  refine .lh 0 bP<|.r 1<|.ss 0 (vI bD) aC fun bE bQ bu dx=>?_
  replace ⟨al,ae,az,af,ag,ah,ac,ai,aj,ak,aa,E⟩:=(so [aD,ar,ao,aq,ay,ax,am] bQ).g12 al ae az af ag ah ac ai aj ak aa E
  replace ab:=(so [aD,ar,ao,aq,ay,ax,am] bQ).g1 ab
  refine .d<|.ib 0<|.s ?_
  replace az:=az.Bd
  replace af:=af.Bd
  replace ag:=ag.Bd
  replace ah:=ah.Bd
  replace ai:=ai.Bd
  replace aj:=aj.Bd
  replace ak:=ak.Bd
  replace E:=E.Bd
  have dy:Cov (mtb [aq,aD,am] bE.heap.size) bE am:=⟨.inl (.inl AK)⟩
  have dz:Gb (ao+1) bE.heap.size:=aa.lt
  have dA:Gb (ar+1) bE.heap.size:=bu.lt
  refine .gd (mtb [aq,aD,am] bE.heap.size) 3 fun fR bR=>?_
  replace ⟨al,ae,az,af,ag,ah,ac,ai,aj,ak,aa,E⟩:=(se [aD,ar,ao,aq,ay,ax,am] bR).g12 al ae az af ag ah ac ai aj ak aa E
  replace ⟨bu,ab⟩:=(se [aD,ar,ao,aq,ay,ax,am] bR).g2 bu ab
  refine .ln 0 aa (CP (all_cons bq (all_cons (Nb.symm du) (all_cons bo all_nil))) dz)<|.ln 1 bu (CP (all_cons bt (all_cons (Nb.symm dv) (all_cons br all_nil))) dA)<|.go 2<|GE.D4 (t':=38) (o:=0) (v:=.agg #[.slice aV aA.store.idx.names.length aW,.slice aX aA.store.idx.AY.length aY,.slice aZ aA.store.parts.length ba,vS aq bd bg,.slice bh aA.disk.files.length bi,.slice bj aA.disk.list.length bk,.slice bm aA.disk.names.length bn,vI aA.disk.next]) [.slice aV aA.store.idx.names.length aW,.slice aX aA.store.idx.AY.length aY,.slice aZ aA.store.parts.length ba,vS aq bd bg,.slice bh aA.disk.files.length bi,.slice bj aA.disk.list.length bk,.slice bm aA.disk.names.length bn,vI aA.disk.next] al AA AA AA fun fS bS=>?_
  replace ⟨al,ae,az,af,ag,ah,ac,ai,aj,ak,aa,E⟩:=(se [aD,ar,ao,aq,ay,ax,am] bS).g12 al ae az af ag ah ac ai aj ak aa E
  replace ab:=(se [aD,ar,ao,aq,ay,ax,am] bS).g1 ab
  intro fT bT aO dB
  have hkeep_:=Chg.toS bT (Cov.toS dy)
  replace ⟨ae,az,af,ag,ah,ac,ai,aj,ak,aa,E,ab⟩:=(so [aD,ar,ao,aq,ay,ax,am] bT).g12 ae az af ag ah ac ai aj ak aa E ab
  refine ⟨hkeep_,?_⟩
  refine .d fun fU bU=>?_
  replace ⟨aO,ae,az,af,ag,ah,ac,ai,aj,ak,aa,E⟩:=(se [aD,ar,ao,aq,ay,ax,am] bU).g12 aO ae az af ag ah ac ai aj ak aa E
  replace ab:=(se [aD,ar,ao,aq,ay,ax,am] bU).g1 ab
  replace az:=az.Ax
  replace af:=af.Ax
  replace ag:=ag.Ax
  replace ah:=ah.Ax
  replace ai:=ai.Ax
  replace aj:=aj.Ax
  replace ak:=ak.Ax
  replace E:=E.Ax
  refine .sc [vI bD,vI aB.at_,vI aB.cut,.slice bA aB.name.length bB,vI aB.row.t,vI aB.row.v] ae fun ej cz dC dD=>?_
  replace ⟨aO,az,af,ag,ah,ac,ai,aj,ak,aa,E,ab⟩:=(so [aD,ar,ao,aq,ay,ax,am] cz).g12 aO az af ag ah ac ai aj ak aa E ab
  refine .d ?_
  have ek:=ac.sl (.inr ci)
  replace ⟨az,af,ag,ah,ai,aj,ak,E⟩:=(sd ej [aD,ar,ao,aq,ay,ax,am] aq).g8 az af ag ah ai aj ak E
  exact .r2 func19 results19 (.bx aO) (.bx dC) ⟨⟨(aA:Wld),((⟨bD,aB.at_,aB.cut,aB.name,(⟨aB.row.t,aB.row.v⟩:Row)⟩:Evt):Evt),⟨_,_,(Bv rfl rfl),⟨_,rfl,⟨_,_,_,_,_,_,_,_,_,_,_,_,_,_,_,_,_,_,_,_,_,rfl,af.w1,ag.w1,ah.w1,ek.w1,ai.w1,aj.w1,ak.w1⟩⟩,⟨_,rfl,⟨_,_,_,rfl,E.w1⟩⟩⟩,(by have q1:WG _∧TF _:=‹_›; have q2:EvD _:=‹_›; exact ⟨q1.1,q1.2,q2⟩)⟩,ab⟩
 refine .r 1<|.d<|.cf<|.s<|.g<|.eq cx 1 (fun dE=>?_) (fun dE=>?_)
 ·refine .r 1<|.d<|.ct<|.g<|.ns 2 3 [vI (-1),vI 7] fun aE cT aJ bV dF dG=>?_
  have fb:=Ab aJ aG.lt
  have fd:=Ab aJ ac.lt
  have dH:=Ab aJ aa.lt
  have dI:=Ab aJ aC.lt
  replace ⟨al,ae,az,aG,af,ag,ah,ac,ai,aj,ak,aa⟩:=(sn [ar,ao,aq,ay,ax,am] bV aJ).g12 al ae az aG af ag ah ac ai aj ak aa
  replace ⟨E,aC,ab⟩:=(sn [ar,ao,aq,ay,ax,am] bV aJ).g3 E aC ab
  have bW:Own (α:=Int) cT aE 3 (nin (fo F w.heap.size) [aE,ar,ao,aq,ay,ax,am]) 2 2 [(-1),7]:=Own.lit dF rfl AE ⟨rfl,rfl,rfl⟩
  refine .r 1<|.cl (At 2 aG (az.BY AM) AB (w:=cT) (F:=all)) ?_
  rintro fV en ⟨⟨aU,rfl,fe⟩,fW,ff,fg,bX⟩
  replace ⟨al,ae,af,ag,ah,ac,ai,aj,ak,aa,E,aC⟩:=(so [aE,ar,ao,aq,ay,ax,am] bX).g12 al ae af ag ah ac ai aj ak aa E aC
  replace ⟨bW,ab⟩:=(so [aE,ar,ao,aq,ay,ax,am] bX).g2 bW ab
  have dJ:aU.toNat< 2:=AB
  refine RG.idx (b:=aE) (o:=0) (aU.toNat) (len:=2) (i:=aU) (sz:=1) AA AB dJ rfl ?_
  obtain ⟨bF,bY⟩:∃ y,([(-1),7]:List Int)[aU.toNat]? = some y:=⟨_,AU AB⟩
  have cA:=AV bY
  simp only [List.mem_cons,List.not_mem_nil,or_false] at cA
  obtain ⟨_,rfl,bZ⟩:=bW.elem (aU.toNat) bF bY
  replace bZ:Has en ⟨aE,0+(aU.toNat) * Rep.sz Int,none⟩ [vI bF]:=by rw [Nat.zero_add]; exact bZ
  refine .lh 0 bZ<|.r 1<|.ss 1 (vI bF) aC fun bG cB bv dK=>?_
  replace ⟨al,ae,af,ag,ah,ac,ai,aj,ak,aa,E,ab⟩:=(so [aE,ar,ao,aq,ay,ax,am] cB).g12 al ae af ag ah ac ai aj ak aa E ab
  refine .d<|.ib 0<|.s ?_
  replace af:=af.Bd
  replace ag:=ag.Bd
  replace ah:=ah.Bd
  replace ai:=ai.Bd
  replace aj:=aj.Bd
  replace ak:=ak.Bd
  replace E:=E.Bd
  have dL:Cov (mtb [aq,aE,am] bG.heap.size) bG am:=⟨.inl (.inl AK)⟩
  have dM:Gb (ao+1) bG.heap.size:=aa.lt
  have dN:Gb (ar+1) bG.heap.size:=bv.lt
  refine .gd (mtb [aq,aE,am] bG.heap.size) 3 fun fX b0=>?_
  replace ⟨al,ae,af,ag,ah,ac,ai,aj,ak,aa,E,bv⟩:=(se [aE,ar,ao,aq,ay,ax,am] b0).g12 al ae af ag ah ac ai aj ak aa E bv
  replace ab:=(se [aE,ar,ao,aq,ay,ax,am] b0).g1 ab
  refine .ln 0 aa (CP (all_cons bq (all_cons (Nb.symm dH) (all_cons bo all_nil))) dM)<|.ln 1 bv (CP (all_cons bt (all_cons (Nb.symm dI) (all_cons br all_nil))) dN)<|.go 2<|GE.D4 (t':=38) (o:=0) (v:=.agg #[.slice aV aA.store.idx.names.length aW,.slice aX aA.store.idx.AY.length aY,.slice aZ aA.store.parts.length ba,vS aq bd bg,.slice bh aA.disk.files.length bi,.slice bj aA.disk.list.length bk,.slice bm aA.disk.names.length bn,vI aA.disk.next]) [.slice aV aA.store.idx.names.length aW,.slice aX aA.store.idx.AY.length aY,.slice aZ aA.store.parts.length ba,vS aq bd bg,.slice bh aA.disk.files.length bi,.slice bj aA.disk.list.length bk,.slice bm aA.disk.names.length bn,vI aA.disk.next] al AA AA AA fun fY cC=>?_
  replace ⟨al,ae,af,ag,ah,ac,ai,aj,ak,aa,E,ab⟩:=(se [aE,ar,ao,aq,ay,ax,am] cC).g12 al ae af ag ah ac ai aj ak aa E ab
  intro fZ b6 aP dO
  have hkeep_:=Chg.toS b6 (Cov.toS dL)
  replace ⟨ae,af,ag,ah,ac,ai,aj,ak,aa,E,ab⟩:=(so [aE,ar,ao,aq,ay,ax,am] b6).g11 ae af ag ah ac ai aj ak aa E ab
  refine ⟨hkeep_,?_⟩
  refine .d fun f0 cD=>?_
  replace ⟨aP,ae,af,ag,ah,ac,ai,aj,ak,aa,E,ab⟩:=(se [aE,ar,ao,aq,ay,ax,am] cD).g12 aP ae af ag ah ac ai aj ak aa E ab
  replace af:=af.Ax
  replace ag:=ag.Ax
  replace ah:=ah.Ax
  replace ai:=ai.Ax
  replace aj:=aj.Ax
  replace ak:=ak.Ax
  replace E:=E.Ax
  refine .sc [vI aB.kind,vI bF,vI aB.cut,.slice bA aB.name.length bB,vI aB.row.t,vI aB.row.v] ae fun eA cE dP dQ=>?_
  replace ⟨aP,af,ag,ah,ac,ai,aj,ak,aa,E,ab⟩:=(so [aE,ar,ao,aq,ay,ax,am] cE).g11 aP af ag ah ac ai aj ak aa E ab
  refine .d ?_
  have eB:=ac.sl (.inr ci)
  replace ⟨af,ag,ah,ai,aj,ak,E⟩:=(sd eA [aE,ar,ao,aq,ay,ax,am] aq).g7 af ag ah ai aj ak E
  exact .r2 func19 results19 (.bx aP) (.bx dP) ⟨⟨(aA:Wld),((⟨aB.kind,bF,aB.cut,aB.name,(⟨aB.row.t,aB.row.v⟩:Row)⟩:Evt):Evt),⟨_,_,(Bv rfl rfl),⟨_,rfl,⟨_,_,_,_,_,_,_,_,_,_,_,_,_,_,_,_,_,_,_,_,_,rfl,af.w1,ag.w1,ah.w1,eB.w1,ai.w1,aj.w1,ak.w1⟩⟩,⟨_,rfl,⟨_,_,_,rfl,E.w1⟩⟩⟩,(by have q1:WG _∧TF _:=‹_›; have q2:EvD _:=‹_›; exact ⟨q1.1,q1.2,q2⟩)⟩,ab⟩
 refine .r 1<|.d<|.cf<|.s<|.g<|.eq cx 2 (fun dR=>?_) (fun dR=>?_)
 ·refine .r 1<|.d<|.ct<|.g<|.r 1<|.ss 2 (vI (-1)) aC fun bH cF bw dS=>?_
  replace ⟨al,ae,af,ag,ah,ac,ai,aj,ak,aa,E,ab⟩:=(so [ar,ao,aq,ay,ax,am] cF).g12 al ae af ag ah ac ai aj ak aa E ab
  refine .d<|.ib 0<|.s ?_
  replace af:=af.Bd
  replace ag:=ag.Bd
  replace ah:=ah.Bd
  replace ai:=ai.Bd
  replace aj:=aj.Bd
  replace ak:=ak.Bd
  replace E:=E.Bd
  have dT:Cov (mtb [aq,am] bH.heap.size) bH am:=⟨.inl (.inl AJ)⟩
  have dU:Gb (ao+1) bH.heap.size:=aa.lt
  have dV:Gb (ar+1) bH.heap.size:=bw.lt
  refine .gd (mtb [aq,am] bH.heap.size) 3 fun f5 b7=>?_
  replace ⟨al,ae,af,ag,ah,ac,ai,aj,ak,aa,E,bw⟩:=(se [ar,ao,aq,ay,ax,am] b7).g12 al ae af ag ah ac ai aj ak aa E bw
  replace ab:=(se [ar,ao,aq,ay,ax,am] b7).g1 ab
  refine .ln 0 aa (CP (all_cons bq (all_cons bo all_nil)) dU)<|.ln 1 bw (CP (all_cons bt (all_cons br all_nil)) dV)<|.go 2<|GE.D4 (t':=38) (o:=0) (v:=.agg #[.slice aV aA.store.idx.names.length aW,.slice aX aA.store.idx.AY.length aY,.slice aZ aA.store.parts.length ba,vS aq bd bg,.slice bh aA.disk.files.length bi,.slice bj aA.disk.list.length bk,.slice bm aA.disk.names.length bn,vI aA.disk.next]) [.slice aV aA.store.idx.names.length aW,.slice aX aA.store.idx.AY.length aY,.slice aZ aA.store.parts.length ba,vS aq bd bg,.slice bh aA.disk.files.length bi,.slice bj aA.disk.list.length bk,.slice bm aA.disk.names.length bn,vI aA.disk.next] al AA AA AA fun f6 cG=>?_
  replace ⟨al,ae,af,ag,ah,ac,ai,aj,ak,aa,E,ab⟩:=(se [ar,ao,aq,ay,ax,am] cG).g12 al ae af ag ah ac ai aj ak aa E ab
  intro f7 b8 aQ dW
  have hkeep_:=Chg.toS b8 (Cov.toS dT)
  replace ⟨ae,af,ag,ah,ac,ai,aj,ak,aa,E,ab⟩:=(so [ar,ao,aq,ay,ax,am] b8).g11 ae af ag ah ac ai aj ak aa E ab
  refine ⟨hkeep_,?_⟩
  refine .d fun f8 cH=>?_
  replace ⟨aQ,ae,af,ag,ah,ac,ai,aj,ak,aa,E,ab⟩:=(se [ar,ao,aq,ay,ax,am] cH).g12 aQ ae af ag ah ac ai aj ak aa E ab
  replace af:=af.Ax
  replace ag:=ag.Ax
  replace ah:=ah.Ax
  replace ai:=ai.Ax
  replace aj:=aj.Ax
  replace ak:=ak.Ax
  replace E:=E.Ax
  refine .sc [vI aB.kind,vI aB.at_,vI (-1),.slice bA aB.name.length bB,vI aB.row.t,vI aB.row.v] ae fun eC cI dX dY=>?_
  replace ⟨aQ,af,ag,ah,ac,ai,aj,ak,aa,E,ab⟩:=(so [ar,ao,aq,ay,ax,am] cI).g11 aQ af ag ah ac ai aj ak aa E ab
  refine .d ?_
  have eD:=ac.sl (.inr ci)
  replace ⟨af,ag,ah,ai,aj,ak,E⟩:=(sd eC [ar,ao,aq,ay,ax,am] aq).g7 af ag ah ai aj ak E
  exact .r2 func19 results19 (.bx aQ) (.bx dX) ⟨⟨(aA:Wld),((⟨aB.kind,aB.at_,(-1),aB.name,(⟨aB.row.t,aB.row.v⟩:Row)⟩:Evt):Evt),⟨_,_,(Bv rfl rfl),⟨_,rfl,⟨_,_,_,_,_,_,_,_,_,_,_,_,_,_,_,_,_,_,_,_,_,rfl,af.w1,ag.w1,ah.w1,eD.w1,ai.w1,aj.w1,ak.w1⟩⟩,⟨_,rfl,⟨_,_,_,rfl,E.w1⟩⟩⟩,(by have q1:WG _∧TF _:=‹_›; have q2:EvD _:=‹_›; exact ⟨q1.1,q1.2,q2⟩)⟩,ab⟩
 refine .r 1<|.d<|.cf<|.sk<|.ib 0<|.s ?_
 replace af:=af.Bd
 replace ag:=ag.Bd
 replace ah:=ah.Bd
 replace ai:=ai.Bd
 replace aj:=aj.Bd
 replace ak:=ak.Bd
 replace E:=E.Bd
 have dZ:Cov (mtb [aq,am] bC.heap.size) bC am:=⟨.inl (.inl AJ)⟩
 have d0:Gb (ao+1) bC.heap.size:=aa.lt
 have d3:Gb (ar+1) bC.heap.size:=aC.lt
 refine .gd (mtb [aq,am] bC.heap.size) 3 fun f9 b9=>?_
 replace ⟨al,ae,af,ag,ah,ac,ai,aj,ak,aa,E,aC⟩:=(se [ar,ao,aq,ay,ax,am] b9).g12 al ae af ag ah ac ai aj ak aa E aC
 replace ab:=(se [ar,ao,aq,ay,ax,am] b9).g1 ab
 refine .ln 0 aa (CP (all_cons bq (all_cons bo all_nil)) d0)<|.ln 1 aC (CP (all_cons bt (all_cons br all_nil)) d3)<|.go 2<|GE.D4 (t':=38) (o:=0) (v:=.agg #[.slice aV aA.store.idx.names.length aW,.slice aX aA.store.idx.AY.length aY,.slice aZ aA.store.parts.length ba,vS aq bd bg,.slice bh aA.disk.files.length bi,.slice bj aA.disk.list.length bk,.slice bm aA.disk.names.length bn,vI aA.disk.next]) [.slice aV aA.store.idx.names.length aW,.slice aX aA.store.idx.AY.length aY,.slice aZ aA.store.parts.length ba,vS aq bd bg,.slice bh aA.disk.files.length bi,.slice bj aA.disk.list.length bk,.slice bm aA.disk.names.length bn,vI aA.disk.next] al AA AA AA fun gb cJ=>?_
 replace ⟨ae,af,ag,ah,ac,ai,aj,ak,E,ab⟩:=(se [ar,ao,aq,ay,ax,am] cJ).g10 ae af ag ah ac ai aj ak E ab
 intro gf cd aR d4
 have hkeep_:=Chg.toS cd (Cov.toS dZ)
 replace ⟨ae,af,ag,ah,ac,ai,aj,ak,E,ab⟩:=(so [ar,ao,aq,ay,ax,am] cd).g10 ae af ag ah ac ai aj ak E ab
 refine ⟨hkeep_,?_⟩
 refine .d fun gh cK=>?_
 replace ⟨aR,ae,af,ag,ah,ac,ai,aj,ak,E,ab⟩:=(se [ar,ao,aq,ay,ax,am] cK).g11 aR ae af ag ah ac ai aj ak E ab
 replace af:=af.Ax
 replace ag:=ag.Ax
 replace ah:=ah.Ax
 replace ai:=ai.Ax
 replace aj:=aj.Ax
 replace ak:=ak.Ax
 replace E:=E.Ax
 refine .sc [vI aB.kind,vI aB.at_,vI aB.cut,.slice bA aB.name.length bB,vI aB.row.t,vI aB.row.v] ae fun eE cL d5 d6=>?_
 replace ⟨aR,af,ag,ah,ac,ai,aj,ak,E,ab⟩:=(so [ar,ao,aq,ay,ax,am] cL).g10 aR af ag ah ac ai aj ak E ab
 refine .d ?_
 have eF:=ac.sl (.inr ci)
 replace ⟨af,ag,ah,ai,aj,ak,E⟩:=(sd eE [ar,ao,aq,ay,ax,am] aq).g7 af ag ah ai aj ak E
 exact .r2 func19 results19 (.bx aR) (.bx d5) ⟨⟨(aA:Wld),(aB:Evt),⟨_,_,(Bv rfl rfl),⟨_,rfl,⟨_,_,_,_,_,_,_,_,_,_,_,_,_,_,_,_,_,_,_,_,_,rfl,af.w1,ag.w1,ah.w1,eF.w1,ai.w1,aj.w1,ak.w1⟩⟩,⟨_,rfl,⟨_,_,_,rfl,E.w1⟩⟩⟩,(by have q1:WG _∧TF _:=‹_›; have q2:EvD _:=‹_›; exact ⟨q1.1,q1.2,q2⟩)⟩,ab⟩
theorem FD (w_:Wld) (e:Evt) (h1:RepS w F a1 n1 c1 w_.store.idx.names) (h2:RepS w F a2 n2 c2 w_.store.idx.AY) (h3:RepS w F a3 n3 c3 w_.store.parts) (h4:RepS w F a4 n4 c4 w_.store.mem) (h5:RepS w F a5 n5 c5 w_.disk.files) (h6:RepS w F a6 n6 c6 w_.disk.list) (h7:RepS w F a7 n7 c7 w_.disk.names) (h8:RepS w F a8 n8 c8 e.name) (p0:WG w_) (p1:TF w_) (p2:NmD e.name):Calls Tryz.prog 14 [.agg #[.slice a1 n1 c1,.slice a2 n2 c2,.slice a3 n3 c3,.slice a4 n4 c4,.slice a5 n5 c5,.slice a6 n6 c6,.slice a7 n7 c7,.int .i64 w_.disk.next],.agg #[.int .i64 e.kind,.int .i64 e.at_,.int .i64 e.cut,.slice a8 n8 c8,.int .i64 e.row.t,.int .i64 e.row.v]].toArray w (Aj fun rv w'=>VS (fo F w.heap.size) w' (doP w_ e:Wld) rv∧Ext w w'):=by
 cases h1.len
 cases h2.len
 cases h3.len
 cases h4.len
 cases h5.len
 cases h6.len
 cases h7.len
 cases h8.len
 refine goT func14 ?_
 have Z:=((((((((St.i0 F w).p h1).p h2).p h3).p h4).p h5).p h6).p h7).p h8
 refine .s<|.g<|RG.Np Z fun dS w Z=>RG.Np Z fun dT w Z=>RG.Np Z fun dU w Z=>.d<|.s<|.s<|.g<|RG.Ln 2 Z<|RG.C0 (EY w_ (Z.a 7) (Z.a 6) (Z.a 5) (Z.a 4) (Z.a 3) (Z.a 2) (Z.a 1) (SG.of p0.1) p0.2) Z fun w Z=>?_
 cases dq:(Br w_.disk w_.store)
 ·refine .r 1<|.d<|.ct<|.s<|.g<|.r 1<|RG.Ss 0 Z fun w Z=>.d ?_
  have Z:=((((((Z.nl (List Tag)).nl Pst).nl Prt).nl Smp).nl Fil).nl Int).nl (List Tag)
  exact T.Rb 0 func14 results14 Z ⟨Z.rS (g:=1) (⟨(⟨(⟨([]:List (List Tag)),([]:List Pst)⟩:Idx),([]:List Prt),([]:List Smp)⟩:Sto),(⟨([]:List Fil),([]:List Int),([]:List (List Tag)),0⟩:Dsk)⟩:Wld) [6,5,4,3,2,1,0] (by exact (Wf ‹_›).symm),Z.xt⟩
 refine .r 1<|.d<|.cf<|.sk<|.s<|T.Gd 8 Z fun w Z=>.r [0]<|GA.Ln 1 2 Z<|.r [3]<|GA.Ln 4 2 Z<|.tw 2 7 ?_ ?_
 ·refine GE.Cg (fun w Z=>CA w_.store (Z.a 7) (Z.a 6) (Z.a 5) (Z.a 4) p0.1.nm p0.1.nd p0.1.sz) Z ?_
  rintro w _ w Z ⟨⟨cx,dV,cy,cz,dW,cA,cB,dX,cC,cD,dY,cE,rfl,aW,aX,ah,aY,ai,aZ,ba⟩,aj⟩
  refine ⟨Ext.chg aj,?_⟩
  cases aW.len
  cases aX.len
  cases ah.len
  cases ai.len
  have Z:=Z.so aj [.own 0 cB 66 cC (((AZ w_.store)).parts),.own 0 cD 107 cE (((AZ w_.store)).mem)] [.rep cx cy ((((AZ w_.store)).idx).names),.rep cz cA ((((AZ w_.store)).idx).AY)] (nd2 ba) (oN ah aY (oN ai aZ o0)) (fc aW (fc aX fn_))
  refine .tw 5 7 ?_ ?_
  ·refine GE.Cg (fun w Z=>Bt w_.disk (Z.a 5) (Z.a 4) (Z.a 3) (by exact Nr p0.2) (by exact Ns p0.2) (by exact Nt p0.2) (by exact Nu p0.2) (by exact Nv p0.2)) Z ?_
   rintro w _ w Z ⟨⟨cF,dZ,cG,cH,d0,cI,cJ,d3,cK,rfl,ak,bd,bg,bh⟩,al⟩
   refine ⟨Ext.chg al,?_⟩
   cases ak.len
   cases bg.len
   cases bh.len
   have Z:=Z.so al [.own 0 cF 110 cG w_.disk.files] [.rep cH cI w_.disk.list,.rep cJ cK w_.disk.names] nd1 (oN ak bd o0) (fc bg (fc bh fn_))
   refine .r [6]<|.go 7<|GE.Np Z fun d4 w Z=>GA.Dn Z fun w Z=>RG.Ss 0 Z fun w Z=>.d<|.s<|.g<|RG.Ln 5 Z ?_
   have Z:=((Z.sl 2).sl 2).sl 1
   refine RG.cl (Cb (⟨(⟨(⟨(((AZ w_.store)).idx).names,(((AZ w_.store)).idx).AY⟩:Idx),((AZ w_.store)).parts,((AZ w_.store)).mem⟩:Sto),(⟨w_.disk.files,w_.disk.list,w_.disk.names,w_.disk.next⟩:Dsk)⟩:Wld) e (Z.rm 1 0 5) (Z.rm 1 0 6) (Z.rm 1 0 2) (Z.rm 1 0 1) (Z.rm 1 0 0) (Z.rm 1 0 3) (Z.rm 1 0 4) (Z.bc 0) (Z.rm 1 0 7) (by have q1:=p0.1.copy; (rw [q1]; exact (Bo p0 p1 ‹_›))) p2) ?_
   rintro _ w ⟨⟨rfl,cL,d5,cM,cN,d6,cO,cP,d7,cQ,cR,d8,cS,cT,d9,cU,cV,ec,cW,cX,ee,cY,bj,bk,bm,bn,bo,bq,br,bt⟩,bu⟩
   cases bk.len
   cases bm.len
   cases bn.len
   cases bo.len
   cases bq.len
   cases br.len
   cases bt.len
   have Z:=(Z.rx 0 (RK bu) bj).aw Z AA [.rep cL cM (((((doW (⟨(⟨(⟨(((AZ w_.store)).idx).names,(((AZ w_.store)).idx).AY⟩:Idx),((AZ w_.store)).parts,((AZ w_.store)).mem⟩:Sto),(⟨w_.disk.files,w_.disk.list,w_.disk.names,w_.disk.next⟩:Dsk)⟩:Wld) e)).store).idx).names),.rep cN cO (((((doW (⟨(⟨(⟨(((AZ w_.store)).idx).names,(((AZ w_.store)).idx).AY⟩:Idx),((AZ w_.store)).parts,((AZ w_.store)).mem⟩:Sto),(⟨w_.disk.files,w_.disk.list,w_.disk.names,w_.disk.next⟩:Dsk)⟩:Wld) e)).store).idx).AY),.rep cP cQ ((((doW (⟨(⟨(⟨(((AZ w_.store)).idx).names,(((AZ w_.store)).idx).AY⟩:Idx),((AZ w_.store)).parts,((AZ w_.store)).mem⟩:Sto),(⟨w_.disk.files,w_.disk.list,w_.disk.names,w_.disk.next⟩:Dsk)⟩:Wld) e)).store).parts),.rep cR cS ((((doW (⟨(⟨(⟨(((AZ w_.store)).idx).names,(((AZ w_.store)).idx).AY⟩:Idx),((AZ w_.store)).parts,((AZ w_.store)).mem⟩:Sto),(⟨w_.disk.files,w_.disk.list,w_.disk.names,w_.disk.next⟩:Dsk)⟩:Wld) e)).store).mem),.rep cT cU ((((doW (⟨(⟨(⟨(((AZ w_.store)).idx).names,(((AZ w_.store)).idx).AY⟩:Idx),((AZ w_.store)).parts,((AZ w_.store)).mem⟩:Sto),(⟨w_.disk.files,w_.disk.list,w_.disk.names,w_.disk.next⟩:Dsk)⟩:Wld) e)).disk).files),.rep cV cW ((((doW (⟨(⟨(⟨(((AZ w_.store)).idx).names,(((AZ w_.store)).idx).AY⟩:Idx),((AZ w_.store)).parts,((AZ w_.store)).mem⟩:Sto),(⟨w_.disk.files,w_.disk.list,w_.disk.names,w_.disk.next⟩:Dsk)⟩:Wld) e)).disk).list),.rep cX cY ((((doW (⟨(⟨(⟨(((AZ w_.store)).idx).names,(((AZ w_.store)).idx).AY⟩:Idx),((AZ w_.store)).parts,((AZ w_.store)).mem⟩:Sto),(⟨w_.disk.files,w_.disk.list,w_.disk.names,w_.disk.next⟩:Dsk)⟩:Wld) e)).disk).names)] (fc bk.w1 (fc bm.w1 (fc bn.w1 (fc bo.w1 (fc bq.w1 (fc br.w1 (fc bt.w1 fn_)))))))
   exact .d<|.s<|.g<|RG.Ln 0 Z<|RG.Ss 1 Z fun w Z=>.d<|T.Rb 1 func14 results14 Z ⟨Z.rS (g:=1) (⟨(⟨(⟨((((doW (⟨(⟨(⟨(((AZ w_.store)).idx).names,(((AZ w_.store)).idx).AY⟩:Idx),((AZ w_.store)).parts,((AZ w_.store)).mem⟩:Sto),(⟨w_.disk.files,w_.disk.list,w_.disk.names,w_.disk.next⟩:Dsk)⟩:Wld) e)).store).idx).names,((((doW (⟨(⟨(⟨(((AZ w_.store)).idx).names,(((AZ w_.store)).idx).AY⟩:Idx),((AZ w_.store)).parts,((AZ w_.store)).mem⟩:Sto),(⟨w_.disk.files,w_.disk.list,w_.disk.names,w_.disk.next⟩:Dsk)⟩:Wld) e)).store).idx).AY⟩:Idx),(((doW (⟨(⟨(⟨(((AZ w_.store)).idx).names,(((AZ w_.store)).idx).AY⟩:Idx),((AZ w_.store)).parts,((AZ w_.store)).mem⟩:Sto),(⟨w_.disk.files,w_.disk.list,w_.disk.names,w_.disk.next⟩:Dsk)⟩:Wld) e)).store).parts,(((doW (⟨(⟨(⟨(((AZ w_.store)).idx).names,(((AZ w_.store)).idx).AY⟩:Idx),((AZ w_.store)).parts,((AZ w_.store)).mem⟩:Sto),(⟨w_.disk.files,w_.disk.list,w_.disk.names,w_.disk.next⟩:Dsk)⟩:Wld) e)).store).mem⟩:Sto),(⟨(((doW (⟨(⟨(⟨(((AZ w_.store)).idx).names,(((AZ w_.store)).idx).AY⟩:Idx),((AZ w_.store)).parts,((AZ w_.store)).mem⟩:Sto),(⟨w_.disk.files,w_.disk.list,w_.disk.names,w_.disk.next⟩:Dsk)⟩:Wld) e)).disk).files,(((doW (⟨(⟨(⟨(((AZ w_.store)).idx).names,(((AZ w_.store)).idx).AY⟩:Idx),((AZ w_.store)).parts,((AZ w_.store)).mem⟩:Sto),(⟨w_.disk.files,w_.disk.list,w_.disk.names,w_.disk.next⟩:Dsk)⟩:Wld) e)).disk).list,(((doW (⟨(⟨(⟨(((AZ w_.store)).idx).names,(((AZ w_.store)).idx).AY⟩:Idx),((AZ w_.store)).parts,((AZ w_.store)).mem⟩:Sto),(⟨w_.disk.files,w_.disk.list,w_.disk.names,w_.disk.next⟩:Dsk)⟩:Wld) e)).disk).names,(((doW (⟨(⟨(⟨(((AZ w_.store)).idx).names,(((AZ w_.store)).idx).AY⟩:Idx),((AZ w_.store)).parts,((AZ w_.store)).mem⟩:Sto),(⟨w_.disk.files,w_.disk.list,w_.disk.names,w_.disk.next⟩:Dsk)⟩:Wld) e)).disk).next⟩:Dsk)⟩:Wld) [0,1,2,3,4,5,6] (by (rw [Fo ‹_›,p0.1.copy])),Z.xt⟩
  refine GE.Np Z fun eg w Z=>.go 5<|GE.Cg (fun w Z=>Bt w_.disk (Z.a 5) (Z.a 4) (Z.a 3) (by exact Nr p0.2) (by exact Ns p0.2) (by exact Nt p0.2) (by exact Nu p0.2) (by exact Nv p0.2)) Z ?_
  rintro w _ w Z ⟨⟨cZ,dt,bv,bw,du,bz,bA,dv,bB,rfl,E,aN,am,ao⟩,aa⟩
  refine ⟨Ext.chg aa,?_⟩
  cases E.len
  cases am.len
  cases ao.len
  have Z:=Z.so aa [.own 0 cZ 110 bv w_.disk.files] [.rep bw bz w_.disk.list,.rep bA bB w_.disk.names] nd1 (oN E aN o0) (fc am (fc ao fn_))
  refine .r [6]<|GA.Dn Z fun w Z=>RG.Ss 1 Z fun w Z=>.d<|.s<|.g<|RG.Ln 5 Z ?_
  have Z:=((Z.sl 2).sl 2).sl 0
  refine RG.cl (Cb (⟨(⟨(⟨(((AZ w_.store)).idx).names,(((AZ w_.store)).idx).AY⟩:Idx),((AZ w_.store)).parts,((AZ w_.store)).mem⟩:Sto),(⟨w_.disk.files,w_.disk.list,w_.disk.names,w_.disk.next⟩:Dsk)⟩:Wld) e (Z.rm 1 0 5) (Z.rm 1 0 6) (Z.rm 1 0 2) (Z.rm 1 0 1) (Z.rm 1 0 0) (Z.rm 1 0 3) (Z.rm 1 0 4) (Z.bc 0) (Z.rm 1 0 7) (by have q1:=p0.1.copy; (rw [q1]; exact (Bo p0 p1 ‹_›))) p2) ?_
  rintro _ w ⟨⟨rfl,bC,dw,bD,bE,dx,bF,bG,dy,bH,bI,dz,bJ,bK,dA,bL,bM,dB,bN,bO,dC,bP,aO,aq,ar,ax,ay,az,aA,aB⟩,aP⟩
  cases aq.len
  cases ar.len
  cases ax.len
  cases ay.len
  cases az.len
  cases aA.len
  cases aB.len
  have Z:=(Z.rx 0 (RK aP) aO).aw Z AA [.rep bC bD (((((doW (⟨(⟨(⟨(((AZ w_.store)).idx).names,(((AZ w_.store)).idx).AY⟩:Idx),((AZ w_.store)).parts,((AZ w_.store)).mem⟩:Sto),(⟨w_.disk.files,w_.disk.list,w_.disk.names,w_.disk.next⟩:Dsk)⟩:Wld) e)).store).idx).names),.rep bE bF (((((doW (⟨(⟨(⟨(((AZ w_.store)).idx).names,(((AZ w_.store)).idx).AY⟩:Idx),((AZ w_.store)).parts,((AZ w_.store)).mem⟩:Sto),(⟨w_.disk.files,w_.disk.list,w_.disk.names,w_.disk.next⟩:Dsk)⟩:Wld) e)).store).idx).AY),.rep bG bH ((((doW (⟨(⟨(⟨(((AZ w_.store)).idx).names,(((AZ w_.store)).idx).AY⟩:Idx),((AZ w_.store)).parts,((AZ w_.store)).mem⟩:Sto),(⟨w_.disk.files,w_.disk.list,w_.disk.names,w_.disk.next⟩:Dsk)⟩:Wld) e)).store).parts),.rep bI bJ ((((doW (⟨(⟨(⟨(((AZ w_.store)).idx).names,(((AZ w_.store)).idx).AY⟩:Idx),((AZ w_.store)).parts,((AZ w_.store)).mem⟩:Sto),(⟨w_.disk.files,w_.disk.list,w_.disk.names,w_.disk.next⟩:Dsk)⟩:Wld) e)).store).mem),.rep bK bL ((((doW (⟨(⟨(⟨(((AZ w_.store)).idx).names,(((AZ w_.store)).idx).AY⟩:Idx),((AZ w_.store)).parts,((AZ w_.store)).mem⟩:Sto),(⟨w_.disk.files,w_.disk.list,w_.disk.names,w_.disk.next⟩:Dsk)⟩:Wld) e)).disk).files),.rep bM bN ((((doW (⟨(⟨(⟨(((AZ w_.store)).idx).names,(((AZ w_.store)).idx).AY⟩:Idx),((AZ w_.store)).parts,((AZ w_.store)).mem⟩:Sto),(⟨w_.disk.files,w_.disk.list,w_.disk.names,w_.disk.next⟩:Dsk)⟩:Wld) e)).disk).list),.rep bO bP ((((doW (⟨(⟨(⟨(((AZ w_.store)).idx).names,(((AZ w_.store)).idx).AY⟩:Idx),((AZ w_.store)).parts,((AZ w_.store)).mem⟩:Sto),(⟨w_.disk.files,w_.disk.list,w_.disk.names,w_.disk.next⟩:Dsk)⟩:Wld) e)).disk).names)] (fc aq.w1 (fc ar.w1 (fc ax.w1 (fc ay.w1 (fc az.w1 (fc aA.w1 (fc aB.w1 fn_)))))))
  exact .d<|.s<|.g<|RG.Ln 0 Z<|RG.Ss 1 Z fun w Z=>.d<|T.Rb 1 func14 results14 Z ⟨Z.rS (g:=1) (⟨(⟨(⟨((((doW (⟨(⟨(⟨(((AZ w_.store)).idx).names,(((AZ w_.store)).idx).AY⟩:Idx),((AZ w_.store)).parts,((AZ w_.store)).mem⟩:Sto),(⟨w_.disk.files,w_.disk.list,w_.disk.names,w_.disk.next⟩:Dsk)⟩:Wld) e)).store).idx).names,((((doW (⟨(⟨(⟨(((AZ w_.store)).idx).names,(((AZ w_.store)).idx).AY⟩:Idx),((AZ w_.store)).parts,((AZ w_.store)).mem⟩:Sto),(⟨w_.disk.files,w_.disk.list,w_.disk.names,w_.disk.next⟩:Dsk)⟩:Wld) e)).store).idx).AY⟩:Idx),(((doW (⟨(⟨(⟨(((AZ w_.store)).idx).names,(((AZ w_.store)).idx).AY⟩:Idx),((AZ w_.store)).parts,((AZ w_.store)).mem⟩:Sto),(⟨w_.disk.files,w_.disk.list,w_.disk.names,w_.disk.next⟩:Dsk)⟩:Wld) e)).store).parts,(((doW (⟨(⟨(⟨(((AZ w_.store)).idx).names,(((AZ w_.store)).idx).AY⟩:Idx),((AZ w_.store)).parts,((AZ w_.store)).mem⟩:Sto),(⟨w_.disk.files,w_.disk.list,w_.disk.names,w_.disk.next⟩:Dsk)⟩:Wld) e)).store).mem⟩:Sto),(⟨(((doW (⟨(⟨(⟨(((AZ w_.store)).idx).names,(((AZ w_.store)).idx).AY⟩:Idx),((AZ w_.store)).parts,((AZ w_.store)).mem⟩:Sto),(⟨w_.disk.files,w_.disk.list,w_.disk.names,w_.disk.next⟩:Dsk)⟩:Wld) e)).disk).files,(((doW (⟨(⟨(⟨(((AZ w_.store)).idx).names,(((AZ w_.store)).idx).AY⟩:Idx),((AZ w_.store)).parts,((AZ w_.store)).mem⟩:Sto),(⟨w_.disk.files,w_.disk.list,w_.disk.names,w_.disk.next⟩:Dsk)⟩:Wld) e)).disk).list,(((doW (⟨(⟨(⟨(((AZ w_.store)).idx).names,(((AZ w_.store)).idx).AY⟩:Idx),((AZ w_.store)).parts,((AZ w_.store)).mem⟩:Sto),(⟨w_.disk.files,w_.disk.list,w_.disk.names,w_.disk.next⟩:Dsk)⟩:Wld) e)).disk).names,(((doW (⟨(⟨(⟨(((AZ w_.store)).idx).names,(((AZ w_.store)).idx).AY⟩:Idx),((AZ w_.store)).parts,((AZ w_.store)).mem⟩:Sto),(⟨w_.disk.files,w_.disk.list,w_.disk.names,w_.disk.next⟩:Dsk)⟩:Wld) e)).disk).next⟩:Dsk)⟩:Wld) [0,1,2,3,4,5,6] (by (rw [Fo ‹_›,p0.1.copy])),Z.xt⟩
 refine GE.Np Z fun dD w Z=>.go 2<|GE.Cg (fun w Z=>CA w_.store (Z.a 7) (Z.a 6) (Z.a 5) (Z.a 4) p0.1.nm p0.1.nd p0.1.sz) Z ?_
 rintro w _ w Z ⟨⟨bQ,dE,bR,bS,dF,bT,bU,dG,bV,bW,dH,bX,rfl,aC,aD,ab,aQ,ac,aR,aS⟩,ae⟩
 refine ⟨Ext.chg ae,?_⟩
 cases aC.len
 cases aD.len
 cases ab.len
 cases ac.len
 have Z:=Z.so ae [.own 0 bU 66 bV (((AZ w_.store)).parts),.own 0 bW 107 bX (((AZ w_.store)).mem)] [.rep bQ bR ((((AZ w_.store)).idx).names),.rep bS bT ((((AZ w_.store)).idx).AY)] (nd2 aS) (oN ab aQ (oN ac aR o0)) (fc aC (fc aD fn_))
 refine .go 5<|GE.Cg (fun w Z=>Bt w_.disk (Z.a 5) (Z.a 4) (Z.a 3) (by exact Nr p0.2) (by exact Ns p0.2) (by exact Nt p0.2) (by exact Nu p0.2) (by exact Nv p0.2)) Z ?_
 rintro w _ w Z ⟨⟨bY,dI,bZ,b0,dJ,b6,b7,dK,b8,rfl,af,aT,aE,aF⟩,ag⟩
 refine ⟨Ext.chg ag,?_⟩
 cases af.len
 cases aE.len
 cases aF.len
 have Z:=Z.so ag [.own 0 bY 110 bZ w_.disk.files] [.rep b0 b6 w_.disk.list,.rep b7 b8 w_.disk.names] nd1 (oN af aT o0) (fc aE (fc aF fn_))
 refine .r [6]<|GA.Dn Z fun w Z=>RG.Ss 3 Z fun w Z=>.d<|.s<|.g<|RG.Ln 5 Z ?_
 have Z:=((Z.sl 1).sl 1).sl 0
 refine RG.cl (Cb (⟨(⟨(⟨(((AZ w_.store)).idx).names,(((AZ w_.store)).idx).AY⟩:Idx),((AZ w_.store)).parts,((AZ w_.store)).mem⟩:Sto),(⟨w_.disk.files,w_.disk.list,w_.disk.names,w_.disk.next⟩:Dsk)⟩:Wld) e (Z.rm 1 0 5) (Z.rm 1 0 6) (Z.rm 1 0 2) (Z.rm 1 0 1) (Z.rm 1 0 0) (Z.rm 1 0 3) (Z.rm 1 0 4) (Z.bc 0) (Z.rm 1 0 7) (by have q1:=p0.1.copy; (rw [q1]; exact (Bo p0 p1 ‹_›))) p2) ?_
 rintro _ w ⟨⟨rfl,b9,dL,cd,ce,dM,cg,ci,dN,cj,ck,dO,cm,co,dP,cp,cq,dQ,cr,cu,dR,cw,aU,aG,aH,aI,aJ,aK,aL,aM⟩,aV⟩
 cases aG.len
 cases aH.len
 cases aI.len
 cases aJ.len
 cases aK.len
 cases aL.len
 cases aM.len
 have Z:=(Z.rx 0 (RK aV) aU).aw Z AA [.rep b9 cd (((((doW (⟨(⟨(⟨(((AZ w_.store)).idx).names,(((AZ w_.store)).idx).AY⟩:Idx),((AZ w_.store)).parts,((AZ w_.store)).mem⟩:Sto),(⟨w_.disk.files,w_.disk.list,w_.disk.names,w_.disk.next⟩:Dsk)⟩:Wld) e)).store).idx).names),.rep ce cg (((((doW (⟨(⟨(⟨(((AZ w_.store)).idx).names,(((AZ w_.store)).idx).AY⟩:Idx),((AZ w_.store)).parts,((AZ w_.store)).mem⟩:Sto),(⟨w_.disk.files,w_.disk.list,w_.disk.names,w_.disk.next⟩:Dsk)⟩:Wld) e)).store).idx).AY),.rep ci cj ((((doW (⟨(⟨(⟨(((AZ w_.store)).idx).names,(((AZ w_.store)).idx).AY⟩:Idx),((AZ w_.store)).parts,((AZ w_.store)).mem⟩:Sto),(⟨w_.disk.files,w_.disk.list,w_.disk.names,w_.disk.next⟩:Dsk)⟩:Wld) e)).store).parts),.rep ck cm ((((doW (⟨(⟨(⟨(((AZ w_.store)).idx).names,(((AZ w_.store)).idx).AY⟩:Idx),((AZ w_.store)).parts,((AZ w_.store)).mem⟩:Sto),(⟨w_.disk.files,w_.disk.list,w_.disk.names,w_.disk.next⟩:Dsk)⟩:Wld) e)).store).mem),.rep co cp ((((doW (⟨(⟨(⟨(((AZ w_.store)).idx).names,(((AZ w_.store)).idx).AY⟩:Idx),((AZ w_.store)).parts,((AZ w_.store)).mem⟩:Sto),(⟨w_.disk.files,w_.disk.list,w_.disk.names,w_.disk.next⟩:Dsk)⟩:Wld) e)).disk).files),.rep cq cr ((((doW (⟨(⟨(⟨(((AZ w_.store)).idx).names,(((AZ w_.store)).idx).AY⟩:Idx),((AZ w_.store)).parts,((AZ w_.store)).mem⟩:Sto),(⟨w_.disk.files,w_.disk.list,w_.disk.names,w_.disk.next⟩:Dsk)⟩:Wld) e)).disk).list),.rep cu cw ((((doW (⟨(⟨(⟨(((AZ w_.store)).idx).names,(((AZ w_.store)).idx).AY⟩:Idx),((AZ w_.store)).parts,((AZ w_.store)).mem⟩:Sto),(⟨w_.disk.files,w_.disk.list,w_.disk.names,w_.disk.next⟩:Dsk)⟩:Wld) e)).disk).names)] (fc aG.w1 (fc aH.w1 (fc aI.w1 (fc aJ.w1 (fc aK.w1 (fc aL.w1 (fc aM.w1 fn_)))))))
 exact .d<|.s<|.g<|RG.Ln 0 Z<|RG.Ss 1 Z fun w Z=>.d<|T.Rb 1 func14 results14 Z ⟨Z.rS (g:=1) (⟨(⟨(⟨((((doW (⟨(⟨(⟨(((AZ w_.store)).idx).names,(((AZ w_.store)).idx).AY⟩:Idx),((AZ w_.store)).parts,((AZ w_.store)).mem⟩:Sto),(⟨w_.disk.files,w_.disk.list,w_.disk.names,w_.disk.next⟩:Dsk)⟩:Wld) e)).store).idx).names,((((doW (⟨(⟨(⟨(((AZ w_.store)).idx).names,(((AZ w_.store)).idx).AY⟩:Idx),((AZ w_.store)).parts,((AZ w_.store)).mem⟩:Sto),(⟨w_.disk.files,w_.disk.list,w_.disk.names,w_.disk.next⟩:Dsk)⟩:Wld) e)).store).idx).AY⟩:Idx),(((doW (⟨(⟨(⟨(((AZ w_.store)).idx).names,(((AZ w_.store)).idx).AY⟩:Idx),((AZ w_.store)).parts,((AZ w_.store)).mem⟩:Sto),(⟨w_.disk.files,w_.disk.list,w_.disk.names,w_.disk.next⟩:Dsk)⟩:Wld) e)).store).parts,(((doW (⟨(⟨(⟨(((AZ w_.store)).idx).names,(((AZ w_.store)).idx).AY⟩:Idx),((AZ w_.store)).parts,((AZ w_.store)).mem⟩:Sto),(⟨w_.disk.files,w_.disk.list,w_.disk.names,w_.disk.next⟩:Dsk)⟩:Wld) e)).store).mem⟩:Sto),(⟨(((doW (⟨(⟨(⟨(((AZ w_.store)).idx).names,(((AZ w_.store)).idx).AY⟩:Idx),((AZ w_.store)).parts,((AZ w_.store)).mem⟩:Sto),(⟨w_.disk.files,w_.disk.list,w_.disk.names,w_.disk.next⟩:Dsk)⟩:Wld) e)).disk).files,(((doW (⟨(⟨(⟨(((AZ w_.store)).idx).names,(((AZ w_.store)).idx).AY⟩:Idx),((AZ w_.store)).parts,((AZ w_.store)).mem⟩:Sto),(⟨w_.disk.files,w_.disk.list,w_.disk.names,w_.disk.next⟩:Dsk)⟩:Wld) e)).disk).list,(((doW (⟨(⟨(⟨(((AZ w_.store)).idx).names,(((AZ w_.store)).idx).AY⟩:Idx),((AZ w_.store)).parts,((AZ w_.store)).mem⟩:Sto),(⟨w_.disk.files,w_.disk.list,w_.disk.names,w_.disk.next⟩:Dsk)⟩:Wld) e)).disk).names,(((doW (⟨(⟨(⟨(((AZ w_.store)).idx).names,(((AZ w_.store)).idx).AY⟩:Idx),((AZ w_.store)).parts,((AZ w_.store)).mem⟩:Sto),(⟨w_.disk.files,w_.disk.list,w_.disk.names,w_.disk.next⟩:Dsk)⟩:Wld) e)).disk).next⟩:Dsk)⟩:Wld) [0,1,2,3,4,5,6] (by (rw [Fo ‹_›,p0.1.copy])),Z.xt⟩
theorem EZ (w_:Wld) (h1:RepS w F a1 n1 c1 w_.store.idx.names) (h2:RepS w F a2 n2 c2 w_.store.idx.AY) (h3:RepS w F a3 n3 c3 w_.store.parts) (h4:RepS w F a4 n4 c4 w_.store.mem) (h5:RepS w F a5 n5 c5 w_.disk.files) (h6:RepS w F a6 n6 c6 w_.disk.list) (h7:RepS w F a7 n7 c7 w_.disk.names) (p0:WG w_):Calls Tryz.prog 21 [.agg #[.slice a1 n1 c1,.slice a2 n2 c2,.slice a3 n3 c3,.slice a4 n4 c4,.slice a5 n5 c5,.slice a6 n6 c6,.slice a7 n7 c7,.int .i64 w_.disk.next]].toArray w (Aj fun rv w'=>rv=.bool (Br w_.disk w_.store)∧Ext w w'):=by
 cases h1.len
 cases h2.len
 cases h3.len
 cases h4.len
 cases h5.len
 cases h6.len
 cases h7.len
 refine goT func21 ?_
 have Z:=(((((((St.i0 F w).p h1).p h2).p h3).p h4).p h5).p h6).p h7
 exact .s<|.g<|RG.Np Z fun ah w Z=>.r 1<|.d<|.s<|.g<|.r 1<|RG.Ln 0 Z<|.r 1<|RG.Ln 0 Z<|RG.C0 (Kv w_.disk w_.store (Z.a 2) (Z.a 1) (Z.a 0) (Z.a 6) (Z.a 5) (Z.a 4) (Z.a 3) p0.2 p0.1) Z fun w Z=>.r 1<|.d<|T.rt func21 results21 (.bool (Br w_.disk w_.store)) ⟨(AG AF),Z.xt⟩
theorem DE (w_:Wld) (e:Evt) (h1:RepS w F a1 n1 c1 w_.store.idx.names) (h2:RepS w F a2 n2 c2 w_.store.idx.AY) (h3:RepS w F a3 n3 c3 w_.store.parts) (h4:RepS w F a4 n4 c4 w_.store.mem) (h5:RepS w F a5 n5 c5 w_.disk.files) (h6:RepS w F a6 n6 c6 w_.disk.list) (h7:RepS w F a7 n7 c7 w_.disk.names) (h8:RepS w F a8 n8 c8 e.name) (p0:WG w_) (p1:TF w_) (p2:NmD e.name):Calls Tryz.prog 20 [.agg #[.slice a1 n1 c1,.slice a2 n2 c2,.slice a3 n3 c3,.slice a4 n4 c4,.slice a5 n5 c5,.slice a6 n6 c6,.slice a7 n7 c7,.int .i64 w_.disk.next],.agg #[.int .i64 e.kind,.int .i64 e.at_,.int .i64 e.cut,.slice a8 n8 c8,.int .i64 e.row.t,.int .i64 e.row.v]].toArray w (Aj fun rv w'=>VS (fo F w.heap.size) w' (doP w_ e:Wld) rv∧Ext w w'):=by
 cases h1.len
 cases h2.len
 cases h3.len
 cases h4.len
 cases h5.len
 cases h6.len
 cases h7.len
 cases h8.len
 refine goT func20 ?_
 have Z:=((((((((St.i0 F w).p h1).p h2).p h3).p h4).p h5).p h6).p h7).p h8
 refine .s<|.g<|RG.Np Z fun bP w Z=>RG.Np Z fun bQ w Z=>RG.Np Z fun bR w Z=>.d<|.s<|.s<|.g<|RG.Ln 2 Z<|RG.C0 (EZ w_ (Z.a 7) (Z.a 6) (Z.a 5) (Z.a 4) (Z.a 3) (Z.a 2) (Z.a 1) p0) Z fun w Z=>?_
 cases bL:(Br w_.disk w_.store)
 ·refine .r 1<|.d<|.ct<|.s<|.g<|.r 1<|RG.Ss 0 Z fun w Z=>.d ?_
  have Z:=((((((Z.nl (List Tag)).nl Pst).nl Prt).nl Smp).nl Fil).nl Int).nl (List Tag)
  exact T.Rb 0 func20 results20 Z ⟨Z.rS (g:=1) (⟨(⟨(⟨([]:List (List Tag)),([]:List Pst)⟩:Idx),([]:List Prt),([]:List Smp)⟩:Sto),(⟨([]:List Fil),([]:List Int),([]:List (List Tag)),0⟩:Dsk)⟩:Wld) [6,5,4,3,2,1,0] (by exact (Wf ‹_›).symm),Z.xt⟩
 refine .r 1<|.d<|.cf<|.sk<|.s<|T.Gd 3 Z fun w Z=>GA.Ln 0 2 Z<|GA.Ln 2 1 Z<|.go 1<|GE.Cg (fun w Z=>DV w_ (Z.a 7) (Z.a 6) (Z.a 5) (Z.a 4) (Z.a 3) (Z.a 2) (Z.a 1) (by have q1:=(Bo p0 p1 ‹_›); exact q1.wd.wi)) Z ?_
 rintro w _ w Z ⟨⟨aZ,bS,ba,bd,bT,bg,bh,bU,bi,bj,bV,bk,bm,bW,bn,bo,bX,bq,br,bY,bt,rfl,aC,aD,aE,af,aF,ag,aG,aH,ah,aI,aJ,aK,ai,aL,aM,aN,aO⟩,aj⟩
 refine ⟨Ext.chg aj,?_⟩
 cases aC.len
 cases aD.len
 cases aE.len
 cases af.len
 cases ag.len
 cases ah.len
 cases ai.len
 have Z:=Z.so aj [.own 0 bj 107 bk ((((AX w_)).store).mem),.own 0 bm 110 bn ((((AX w_)).disk).files),.own 0 bo 3 bq ((((AX w_)).disk).list),.own 0 br 42 bt ((((AX w_)).disk).names)] [.rep aZ ba (((((AX w_)).store).idx).names),.rep bd bg (((((AX w_)).store).idx).AY),.rep bh bi ((((AX w_)).store).parts)] (nd4 aH aJ aK aM aN aO) (oN af aF (oN ag aG (oN ah aI (oN ai aL o0)))) (fc aC (fc aD (fc aE fn_)))
 refine GA.Dn Z fun w Z=>?_
 have Z:=(((Z.sl 0).sl 0).sl 0).sl 0
 refine RG.CS (FP (⟨(⟨(⟨((((AX w_)).store).idx).names,((((AX w_)).store).idx).AY⟩:Idx),(((AX w_)).store).parts,(((AX w_)).store).mem⟩:Sto),(⟨(((AX w_)).disk).files,(((AX w_)).disk).list,(((AX w_)).disk).names,(((AX w_)).disk).next⟩:Dsk)⟩:Wld) e (Z.mg 1 4) (Z.mg 1 5) (Z.mg 1 6) (Z.mg 1 3) (Z.mg 1 2) (Z.mg 1 1) (Z.mg 1 0) (Z.mg 1 7) (by have q1:=(Bo p0 p1 ‹_›); rw [q1.copy]; exact q1.wd.wi) (NmD.sz p2)) Z fun bZ b0 b6 b7 b8 b9 cd ce cg ci cj ck cm co w Z=>RG.cl (DV (⟨(⟨(⟨(((doW (⟨(⟨(⟨((((AX w_)).store).idx).names,((((AX w_)).store).idx).AY⟩:Idx),(((AX w_)).store).parts,(((AX w_)).store).mem⟩:Sto),(⟨(((AX w_)).disk).files,(((AX w_)).disk).list,(((AX w_)).disk).names,(((AX w_)).disk).next⟩:Dsk)⟩:Wld) e).store).idx).names,(((doW (⟨(⟨(⟨((((AX w_)).store).idx).names,((((AX w_)).store).idx).AY⟩:Idx),(((AX w_)).store).parts,(((AX w_)).store).mem⟩:Sto),(⟨(((AX w_)).disk).files,(((AX w_)).disk).list,(((AX w_)).disk).names,(((AX w_)).disk).next⟩:Dsk)⟩:Wld) e).store).idx).AY⟩:Idx),((doW (⟨(⟨(⟨((((AX w_)).store).idx).names,((((AX w_)).store).idx).AY⟩:Idx),(((AX w_)).store).parts,(((AX w_)).store).mem⟩:Sto),(⟨(((AX w_)).disk).files,(((AX w_)).disk).list,(((AX w_)).disk).names,(((AX w_)).disk).next⟩:Dsk)⟩:Wld) e).store).parts,((doW (⟨(⟨(⟨((((AX w_)).store).idx).names,((((AX w_)).store).idx).AY⟩:Idx),(((AX w_)).store).parts,(((AX w_)).store).mem⟩:Sto),(⟨(((AX w_)).disk).files,(((AX w_)).disk).list,(((AX w_)).disk).names,(((AX w_)).disk).next⟩:Dsk)⟩:Wld) e).store).mem⟩:Sto),(⟨((doW (⟨(⟨(⟨((((AX w_)).store).idx).names,((((AX w_)).store).idx).AY⟩:Idx),(((AX w_)).store).parts,(((AX w_)).store).mem⟩:Sto),(⟨(((AX w_)).disk).files,(((AX w_)).disk).list,(((AX w_)).disk).names,(((AX w_)).disk).next⟩:Dsk)⟩:Wld) e).disk).files,((doW (⟨(⟨(⟨((((AX w_)).store).idx).names,((((AX w_)).store).idx).AY⟩:Idx),(((AX w_)).store).parts,(((AX w_)).store).mem⟩:Sto),(⟨(((AX w_)).disk).files,(((AX w_)).disk).list,(((AX w_)).disk).names,(((AX w_)).disk).next⟩:Dsk)⟩:Wld) e).disk).list,((doW (⟨(⟨(⟨((((AX w_)).store).idx).names,((((AX w_)).store).idx).AY⟩:Idx),(((AX w_)).store).parts,(((AX w_)).store).mem⟩:Sto),(⟨(((AX w_)).disk).files,(((AX w_)).disk).list,(((AX w_)).disk).names,(((AX w_)).disk).next⟩:Dsk)⟩:Wld) e).disk).names,((doW (⟨(⟨(⟨((((AX w_)).store).idx).names,((((AX w_)).store).idx).AY⟩:Idx),(((AX w_)).store).parts,(((AX w_)).store).mem⟩:Sto),(⟨(((AX w_)).disk).files,(((AX w_)).disk).list,(((AX w_)).disk).names,(((AX w_)).disk).next⟩:Dsk)⟩:Wld) e).disk).next⟩:Dsk)⟩:Wld) (Z.a 0) (Z.a 1) (Z.a 2) (Z.a 3) (Z.a 4) (Z.a 5) (Z.a 6) (by have q1:=(Bo p0 p1 ‹_›); (rw [q1.copy]; exact (q1.do p2).wd.wi))) ?_
 rintro _ w ⟨⟨bu,cp,bv,bw,cq,bz,bA,cr,bB,bC,cu,aP,aQ,bM,aR,aS,bN,aT,aU,bO,aV,rfl,aW,aX,aY,E,ak,aa,al,am,ab,ao,aq,ar,ac,ax,ay,az,aA⟩,aB⟩
 cases aW.len
 cases aX.len
 cases aY.len
 cases E.len
 cases aa.len
 cases ab.len
 cases ac.len
 have Z:=Z.so aB [.own 0 bC 107 aP ((((AX (⟨(⟨(⟨(((doW (⟨(⟨(⟨((((AX w_)).store).idx).names,((((AX w_)).store).idx).AY⟩:Idx),(((AX w_)).store).parts,(((AX w_)).store).mem⟩:Sto),(⟨(((AX w_)).disk).files,(((AX w_)).disk).list,(((AX w_)).disk).names,(((AX w_)).disk).next⟩:Dsk)⟩:Wld) e).store).idx).names,(((doW (⟨(⟨(⟨((((AX w_)).store).idx).names,((((AX w_)).store).idx).AY⟩:Idx),(((AX w_)).store).parts,(((AX w_)).store).mem⟩:Sto),(⟨(((AX w_)).disk).files,(((AX w_)).disk).list,(((AX w_)).disk).names,(((AX w_)).disk).next⟩:Dsk)⟩:Wld) e).store).idx).AY⟩:Idx),((doW (⟨(⟨(⟨((((AX w_)).store).idx).names,((((AX w_)).store).idx).AY⟩:Idx),(((AX w_)).store).parts,(((AX w_)).store).mem⟩:Sto),(⟨(((AX w_)).disk).files,(((AX w_)).disk).list,(((AX w_)).disk).names,(((AX w_)).disk).next⟩:Dsk)⟩:Wld) e).store).parts,((doW (⟨(⟨(⟨((((AX w_)).store).idx).names,((((AX w_)).store).idx).AY⟩:Idx),(((AX w_)).store).parts,(((AX w_)).store).mem⟩:Sto),(⟨(((AX w_)).disk).files,(((AX w_)).disk).list,(((AX w_)).disk).names,(((AX w_)).disk).next⟩:Dsk)⟩:Wld) e).store).mem⟩:Sto),(⟨((doW (⟨(⟨(⟨((((AX w_)).store).idx).names,((((AX w_)).store).idx).AY⟩:Idx),(((AX w_)).store).parts,(((AX w_)).store).mem⟩:Sto),(⟨(((AX w_)).disk).files,(((AX w_)).disk).list,(((AX w_)).disk).names,(((AX w_)).disk).next⟩:Dsk)⟩:Wld) e).disk).files,((doW (⟨(⟨(⟨((((AX w_)).store).idx).names,((((AX w_)).store).idx).AY⟩:Idx),(((AX w_)).store).parts,(((AX w_)).store).mem⟩:Sto),(⟨(((AX w_)).disk).files,(((AX w_)).disk).list,(((AX w_)).disk).names,(((AX w_)).disk).next⟩:Dsk)⟩:Wld) e).disk).list,((doW (⟨(⟨(⟨((((AX w_)).store).idx).names,((((AX w_)).store).idx).AY⟩:Idx),(((AX w_)).store).parts,(((AX w_)).store).mem⟩:Sto),(⟨(((AX w_)).disk).files,(((AX w_)).disk).list,(((AX w_)).disk).names,(((AX w_)).disk).next⟩:Dsk)⟩:Wld) e).disk).names,((doW (⟨(⟨(⟨((((AX w_)).store).idx).names,((((AX w_)).store).idx).AY⟩:Idx),(((AX w_)).store).parts,(((AX w_)).store).mem⟩:Sto),(⟨(((AX w_)).disk).files,(((AX w_)).disk).list,(((AX w_)).disk).names,(((AX w_)).disk).next⟩:Dsk)⟩:Wld) e).disk).next⟩:Dsk)⟩:Wld))).store).mem),.own 0 aQ 110 aR ((((AX (⟨(⟨(⟨(((doW (⟨(⟨(⟨((((AX w_)).store).idx).names,((((AX w_)).store).idx).AY⟩:Idx),(((AX w_)).store).parts,(((AX w_)).store).mem⟩:Sto),(⟨(((AX w_)).disk).files,(((AX w_)).disk).list,(((AX w_)).disk).names,(((AX w_)).disk).next⟩:Dsk)⟩:Wld) e).store).idx).names,(((doW (⟨(⟨(⟨((((AX w_)).store).idx).names,((((AX w_)).store).idx).AY⟩:Idx),(((AX w_)).store).parts,(((AX w_)).store).mem⟩:Sto),(⟨(((AX w_)).disk).files,(((AX w_)).disk).list,(((AX w_)).disk).names,(((AX w_)).disk).next⟩:Dsk)⟩:Wld) e).store).idx).AY⟩:Idx),((doW (⟨(⟨(⟨((((AX w_)).store).idx).names,((((AX w_)).store).idx).AY⟩:Idx),(((AX w_)).store).parts,(((AX w_)).store).mem⟩:Sto),(⟨(((AX w_)).disk).files,(((AX w_)).disk).list,(((AX w_)).disk).names,(((AX w_)).disk).next⟩:Dsk)⟩:Wld) e).store).parts,((doW (⟨(⟨(⟨((((AX w_)).store).idx).names,((((AX w_)).store).idx).AY⟩:Idx),(((AX w_)).store).parts,(((AX w_)).store).mem⟩:Sto),(⟨(((AX w_)).disk).files,(((AX w_)).disk).list,(((AX w_)).disk).names,(((AX w_)).disk).next⟩:Dsk)⟩:Wld) e).store).mem⟩:Sto),(⟨((doW (⟨(⟨(⟨((((AX w_)).store).idx).names,((((AX w_)).store).idx).AY⟩:Idx),(((AX w_)).store).parts,(((AX w_)).store).mem⟩:Sto),(⟨(((AX w_)).disk).files,(((AX w_)).disk).list,(((AX w_)).disk).names,(((AX w_)).disk).next⟩:Dsk)⟩:Wld) e).disk).files,((doW (⟨(⟨(⟨((((AX w_)).store).idx).names,((((AX w_)).store).idx).AY⟩:Idx),(((AX w_)).store).parts,(((AX w_)).store).mem⟩:Sto),(⟨(((AX w_)).disk).files,(((AX w_)).disk).list,(((AX w_)).disk).names,(((AX w_)).disk).next⟩:Dsk)⟩:Wld) e).disk).list,((doW (⟨(⟨(⟨((((AX w_)).store).idx).names,((((AX w_)).store).idx).AY⟩:Idx),(((AX w_)).store).parts,(((AX w_)).store).mem⟩:Sto),(⟨(((AX w_)).disk).files,(((AX w_)).disk).list,(((AX w_)).disk).names,(((AX w_)).disk).next⟩:Dsk)⟩:Wld) e).disk).names,((doW (⟨(⟨(⟨((((AX w_)).store).idx).names,((((AX w_)).store).idx).AY⟩:Idx),(((AX w_)).store).parts,(((AX w_)).store).mem⟩:Sto),(⟨(((AX w_)).disk).files,(((AX w_)).disk).list,(((AX w_)).disk).names,(((AX w_)).disk).next⟩:Dsk)⟩:Wld) e).disk).next⟩:Dsk)⟩:Wld))).disk).files),.own 0 aS 3 aT ((((AX (⟨(⟨(⟨(((doW (⟨(⟨(⟨((((AX w_)).store).idx).names,((((AX w_)).store).idx).AY⟩:Idx),(((AX w_)).store).parts,(((AX w_)).store).mem⟩:Sto),(⟨(((AX w_)).disk).files,(((AX w_)).disk).list,(((AX w_)).disk).names,(((AX w_)).disk).next⟩:Dsk)⟩:Wld) e).store).idx).names,(((doW (⟨(⟨(⟨((((AX w_)).store).idx).names,((((AX w_)).store).idx).AY⟩:Idx),(((AX w_)).store).parts,(((AX w_)).store).mem⟩:Sto),(⟨(((AX w_)).disk).files,(((AX w_)).disk).list,(((AX w_)).disk).names,(((AX w_)).disk).next⟩:Dsk)⟩:Wld) e).store).idx).AY⟩:Idx),((doW (⟨(⟨(⟨((((AX w_)).store).idx).names,((((AX w_)).store).idx).AY⟩:Idx),(((AX w_)).store).parts,(((AX w_)).store).mem⟩:Sto),(⟨(((AX w_)).disk).files,(((AX w_)).disk).list,(((AX w_)).disk).names,(((AX w_)).disk).next⟩:Dsk)⟩:Wld) e).store).parts,((doW (⟨(⟨(⟨((((AX w_)).store).idx).names,((((AX w_)).store).idx).AY⟩:Idx),(((AX w_)).store).parts,(((AX w_)).store).mem⟩:Sto),(⟨(((AX w_)).disk).files,(((AX w_)).disk).list,(((AX w_)).disk).names,(((AX w_)).disk).next⟩:Dsk)⟩:Wld) e).store).mem⟩:Sto),(⟨((doW (⟨(⟨(⟨((((AX w_)).store).idx).names,((((AX w_)).store).idx).AY⟩:Idx),(((AX w_)).store).parts,(((AX w_)).store).mem⟩:Sto),(⟨(((AX w_)).disk).files,(((AX w_)).disk).list,(((AX w_)).disk).names,(((AX w_)).disk).next⟩:Dsk)⟩:Wld) e).disk).files,((doW (⟨(⟨(⟨((((AX w_)).store).idx).names,((((AX w_)).store).idx).AY⟩:Idx),(((AX w_)).store).parts,(((AX w_)).store).mem⟩:Sto),(⟨(((AX w_)).disk).files,(((AX w_)).disk).list,(((AX w_)).disk).names,(((AX w_)).disk).next⟩:Dsk)⟩:Wld) e).disk).list,((doW (⟨(⟨(⟨((((AX w_)).store).idx).names,((((AX w_)).store).idx).AY⟩:Idx),(((AX w_)).store).parts,(((AX w_)).store).mem⟩:Sto),(⟨(((AX w_)).disk).files,(((AX w_)).disk).list,(((AX w_)).disk).names,(((AX w_)).disk).next⟩:Dsk)⟩:Wld) e).disk).names,((doW (⟨(⟨(⟨((((AX w_)).store).idx).names,((((AX w_)).store).idx).AY⟩:Idx),(((AX w_)).store).parts,(((AX w_)).store).mem⟩:Sto),(⟨(((AX w_)).disk).files,(((AX w_)).disk).list,(((AX w_)).disk).names,(((AX w_)).disk).next⟩:Dsk)⟩:Wld) e).disk).next⟩:Dsk)⟩:Wld))).disk).list),.own 0 aU 42 aV ((((AX (⟨(⟨(⟨(((doW (⟨(⟨(⟨((((AX w_)).store).idx).names,((((AX w_)).store).idx).AY⟩:Idx),(((AX w_)).store).parts,(((AX w_)).store).mem⟩:Sto),(⟨(((AX w_)).disk).files,(((AX w_)).disk).list,(((AX w_)).disk).names,(((AX w_)).disk).next⟩:Dsk)⟩:Wld) e).store).idx).names,(((doW (⟨(⟨(⟨((((AX w_)).store).idx).names,((((AX w_)).store).idx).AY⟩:Idx),(((AX w_)).store).parts,(((AX w_)).store).mem⟩:Sto),(⟨(((AX w_)).disk).files,(((AX w_)).disk).list,(((AX w_)).disk).names,(((AX w_)).disk).next⟩:Dsk)⟩:Wld) e).store).idx).AY⟩:Idx),((doW (⟨(⟨(⟨((((AX w_)).store).idx).names,((((AX w_)).store).idx).AY⟩:Idx),(((AX w_)).store).parts,(((AX w_)).store).mem⟩:Sto),(⟨(((AX w_)).disk).files,(((AX w_)).disk).list,(((AX w_)).disk).names,(((AX w_)).disk).next⟩:Dsk)⟩:Wld) e).store).parts,((doW (⟨(⟨(⟨((((AX w_)).store).idx).names,((((AX w_)).store).idx).AY⟩:Idx),(((AX w_)).store).parts,(((AX w_)).store).mem⟩:Sto),(⟨(((AX w_)).disk).files,(((AX w_)).disk).list,(((AX w_)).disk).names,(((AX w_)).disk).next⟩:Dsk)⟩:Wld) e).store).mem⟩:Sto),(⟨((doW (⟨(⟨(⟨((((AX w_)).store).idx).names,((((AX w_)).store).idx).AY⟩:Idx),(((AX w_)).store).parts,(((AX w_)).store).mem⟩:Sto),(⟨(((AX w_)).disk).files,(((AX w_)).disk).list,(((AX w_)).disk).names,(((AX w_)).disk).next⟩:Dsk)⟩:Wld) e).disk).files,((doW (⟨(⟨(⟨((((AX w_)).store).idx).names,((((AX w_)).store).idx).AY⟩:Idx),(((AX w_)).store).parts,(((AX w_)).store).mem⟩:Sto),(⟨(((AX w_)).disk).files,(((AX w_)).disk).list,(((AX w_)).disk).names,(((AX w_)).disk).next⟩:Dsk)⟩:Wld) e).disk).list,((doW (⟨(⟨(⟨((((AX w_)).store).idx).names,((((AX w_)).store).idx).AY⟩:Idx),(((AX w_)).store).parts,(((AX w_)).store).mem⟩:Sto),(⟨(((AX w_)).disk).files,(((AX w_)).disk).list,(((AX w_)).disk).names,(((AX w_)).disk).next⟩:Dsk)⟩:Wld) e).disk).names,((doW (⟨(⟨(⟨((((AX w_)).store).idx).names,((((AX w_)).store).idx).AY⟩:Idx),(((AX w_)).store).parts,(((AX w_)).store).mem⟩:Sto),(⟨(((AX w_)).disk).files,(((AX w_)).disk).list,(((AX w_)).disk).names,(((AX w_)).disk).next⟩:Dsk)⟩:Wld) e).disk).next⟩:Dsk)⟩:Wld))).disk).names)] [.rep bu bv (((((AX (⟨(⟨(⟨(((doW (⟨(⟨(⟨((((AX w_)).store).idx).names,((((AX w_)).store).idx).AY⟩:Idx),(((AX w_)).store).parts,(((AX w_)).store).mem⟩:Sto),(⟨(((AX w_)).disk).files,(((AX w_)).disk).list,(((AX w_)).disk).names,(((AX w_)).disk).next⟩:Dsk)⟩:Wld) e).store).idx).names,(((doW (⟨(⟨(⟨((((AX w_)).store).idx).names,((((AX w_)).store).idx).AY⟩:Idx),(((AX w_)).store).parts,(((AX w_)).store).mem⟩:Sto),(⟨(((AX w_)).disk).files,(((AX w_)).disk).list,(((AX w_)).disk).names,(((AX w_)).disk).next⟩:Dsk)⟩:Wld) e).store).idx).AY⟩:Idx),((doW (⟨(⟨(⟨((((AX w_)).store).idx).names,((((AX w_)).store).idx).AY⟩:Idx),(((AX w_)).store).parts,(((AX w_)).store).mem⟩:Sto),(⟨(((AX w_)).disk).files,(((AX w_)).disk).list,(((AX w_)).disk).names,(((AX w_)).disk).next⟩:Dsk)⟩:Wld) e).store).parts,((doW (⟨(⟨(⟨((((AX w_)).store).idx).names,((((AX w_)).store).idx).AY⟩:Idx),(((AX w_)).store).parts,(((AX w_)).store).mem⟩:Sto),(⟨(((AX w_)).disk).files,(((AX w_)).disk).list,(((AX w_)).disk).names,(((AX w_)).disk).next⟩:Dsk)⟩:Wld) e).store).mem⟩:Sto),(⟨((doW (⟨(⟨(⟨((((AX w_)).store).idx).names,((((AX w_)).store).idx).AY⟩:Idx),(((AX w_)).store).parts,(((AX w_)).store).mem⟩:Sto),(⟨(((AX w_)).disk).files,(((AX w_)).disk).list,(((AX w_)).disk).names,(((AX w_)).disk).next⟩:Dsk)⟩:Wld) e).disk).files,((doW (⟨(⟨(⟨((((AX w_)).store).idx).names,((((AX w_)).store).idx).AY⟩:Idx),(((AX w_)).store).parts,(((AX w_)).store).mem⟩:Sto),(⟨(((AX w_)).disk).files,(((AX w_)).disk).list,(((AX w_)).disk).names,(((AX w_)).disk).next⟩:Dsk)⟩:Wld) e).disk).list,((doW (⟨(⟨(⟨((((AX w_)).store).idx).names,((((AX w_)).store).idx).AY⟩:Idx),(((AX w_)).store).parts,(((AX w_)).store).mem⟩:Sto),(⟨(((AX w_)).disk).files,(((AX w_)).disk).list,(((AX w_)).disk).names,(((AX w_)).disk).next⟩:Dsk)⟩:Wld) e).disk).names,((doW (⟨(⟨(⟨((((AX w_)).store).idx).names,((((AX w_)).store).idx).AY⟩:Idx),(((AX w_)).store).parts,(((AX w_)).store).mem⟩:Sto),(⟨(((AX w_)).disk).files,(((AX w_)).disk).list,(((AX w_)).disk).names,(((AX w_)).disk).next⟩:Dsk)⟩:Wld) e).disk).next⟩:Dsk)⟩:Wld))).store).idx).names),.rep bw bz (((((AX (⟨(⟨(⟨(((doW (⟨(⟨(⟨((((AX w_)).store).idx).names,((((AX w_)).store).idx).AY⟩:Idx),(((AX w_)).store).parts,(((AX w_)).store).mem⟩:Sto),(⟨(((AX w_)).disk).files,(((AX w_)).disk).list,(((AX w_)).disk).names,(((AX w_)).disk).next⟩:Dsk)⟩:Wld) e).store).idx).names,(((doW (⟨(⟨(⟨((((AX w_)).store).idx).names,((((AX w_)).store).idx).AY⟩:Idx),(((AX w_)).store).parts,(((AX w_)).store).mem⟩:Sto),(⟨(((AX w_)).disk).files,(((AX w_)).disk).list,(((AX w_)).disk).names,(((AX w_)).disk).next⟩:Dsk)⟩:Wld) e).store).idx).AY⟩:Idx),((doW (⟨(⟨(⟨((((AX w_)).store).idx).names,((((AX w_)).store).idx).AY⟩:Idx),(((AX w_)).store).parts,(((AX w_)).store).mem⟩:Sto),(⟨(((AX w_)).disk).files,(((AX w_)).disk).list,(((AX w_)).disk).names,(((AX w_)).disk).next⟩:Dsk)⟩:Wld) e).store).parts,((doW (⟨(⟨(⟨((((AX w_)).store).idx).names,((((AX w_)).store).idx).AY⟩:Idx),(((AX w_)).store).parts,(((AX w_)).store).mem⟩:Sto),(⟨(((AX w_)).disk).files,(((AX w_)).disk).list,(((AX w_)).disk).names,(((AX w_)).disk).next⟩:Dsk)⟩:Wld) e).store).mem⟩:Sto),(⟨((doW (⟨(⟨(⟨((((AX w_)).store).idx).names,((((AX w_)).store).idx).AY⟩:Idx),(((AX w_)).store).parts,(((AX w_)).store).mem⟩:Sto),(⟨(((AX w_)).disk).files,(((AX w_)).disk).list,(((AX w_)).disk).names,(((AX w_)).disk).next⟩:Dsk)⟩:Wld) e).disk).files,((doW (⟨(⟨(⟨((((AX w_)).store).idx).names,((((AX w_)).store).idx).AY⟩:Idx),(((AX w_)).store).parts,(((AX w_)).store).mem⟩:Sto),(⟨(((AX w_)).disk).files,(((AX w_)).disk).list,(((AX w_)).disk).names,(((AX w_)).disk).next⟩:Dsk)⟩:Wld) e).disk).list,((doW (⟨(⟨(⟨((((AX w_)).store).idx).names,((((AX w_)).store).idx).AY⟩:Idx),(((AX w_)).store).parts,(((AX w_)).store).mem⟩:Sto),(⟨(((AX w_)).disk).files,(((AX w_)).disk).list,(((AX w_)).disk).names,(((AX w_)).disk).next⟩:Dsk)⟩:Wld) e).disk).names,((doW (⟨(⟨(⟨((((AX w_)).store).idx).names,((((AX w_)).store).idx).AY⟩:Idx),(((AX w_)).store).parts,(((AX w_)).store).mem⟩:Sto),(⟨(((AX w_)).disk).files,(((AX w_)).disk).list,(((AX w_)).disk).names,(((AX w_)).disk).next⟩:Dsk)⟩:Wld) e).disk).next⟩:Dsk)⟩:Wld))).store).idx).AY),.rep bA bB ((((AX (⟨(⟨(⟨(((doW (⟨(⟨(⟨((((AX w_)).store).idx).names,((((AX w_)).store).idx).AY⟩:Idx),(((AX w_)).store).parts,(((AX w_)).store).mem⟩:Sto),(⟨(((AX w_)).disk).files,(((AX w_)).disk).list,(((AX w_)).disk).names,(((AX w_)).disk).next⟩:Dsk)⟩:Wld) e).store).idx).names,(((doW (⟨(⟨(⟨((((AX w_)).store).idx).names,((((AX w_)).store).idx).AY⟩:Idx),(((AX w_)).store).parts,(((AX w_)).store).mem⟩:Sto),(⟨(((AX w_)).disk).files,(((AX w_)).disk).list,(((AX w_)).disk).names,(((AX w_)).disk).next⟩:Dsk)⟩:Wld) e).store).idx).AY⟩:Idx),((doW (⟨(⟨(⟨((((AX w_)).store).idx).names,((((AX w_)).store).idx).AY⟩:Idx),(((AX w_)).store).parts,(((AX w_)).store).mem⟩:Sto),(⟨(((AX w_)).disk).files,(((AX w_)).disk).list,(((AX w_)).disk).names,(((AX w_)).disk).next⟩:Dsk)⟩:Wld) e).store).parts,((doW (⟨(⟨(⟨((((AX w_)).store).idx).names,((((AX w_)).store).idx).AY⟩:Idx),(((AX w_)).store).parts,(((AX w_)).store).mem⟩:Sto),(⟨(((AX w_)).disk).files,(((AX w_)).disk).list,(((AX w_)).disk).names,(((AX w_)).disk).next⟩:Dsk)⟩:Wld) e).store).mem⟩:Sto),(⟨((doW (⟨(⟨(⟨((((AX w_)).store).idx).names,((((AX w_)).store).idx).AY⟩:Idx),(((AX w_)).store).parts,(((AX w_)).store).mem⟩:Sto),(⟨(((AX w_)).disk).files,(((AX w_)).disk).list,(((AX w_)).disk).names,(((AX w_)).disk).next⟩:Dsk)⟩:Wld) e).disk).files,((doW (⟨(⟨(⟨((((AX w_)).store).idx).names,((((AX w_)).store).idx).AY⟩:Idx),(((AX w_)).store).parts,(((AX w_)).store).mem⟩:Sto),(⟨(((AX w_)).disk).files,(((AX w_)).disk).list,(((AX w_)).disk).names,(((AX w_)).disk).next⟩:Dsk)⟩:Wld) e).disk).list,((doW (⟨(⟨(⟨((((AX w_)).store).idx).names,((((AX w_)).store).idx).AY⟩:Idx),(((AX w_)).store).parts,(((AX w_)).store).mem⟩:Sto),(⟨(((AX w_)).disk).files,(((AX w_)).disk).list,(((AX w_)).disk).names,(((AX w_)).disk).next⟩:Dsk)⟩:Wld) e).disk).names,((doW (⟨(⟨(⟨((((AX w_)).store).idx).names,((((AX w_)).store).idx).AY⟩:Idx),(((AX w_)).store).parts,(((AX w_)).store).mem⟩:Sto),(⟨(((AX w_)).disk).files,(((AX w_)).disk).list,(((AX w_)).disk).names,(((AX w_)).disk).next⟩:Dsk)⟩:Wld) e).disk).next⟩:Dsk)⟩:Wld))).store).parts)] (nd4 am aq ar ay az aA) (oN E ak (oN aa al (oN ab ao (oN ac ax o0)))) (fc aW (fc aX (fc aY fn_)))
 refine RG.Ss 4 Z fun w Z=>.d ?_
 have Z:=(((Z.sl 0).sl 0).sl 0).sl 0
 exact T.Rb 0 func20 results20 Z ⟨Z.rS (g:=1) (⟨(⟨(⟨((((AX (⟨(⟨(⟨(((doW (⟨(⟨(⟨((((AX w_)).store).idx).names,((((AX w_)).store).idx).AY⟩:Idx),(((AX w_)).store).parts,(((AX w_)).store).mem⟩:Sto),(⟨(((AX w_)).disk).files,(((AX w_)).disk).list,(((AX w_)).disk).names,(((AX w_)).disk).next⟩:Dsk)⟩:Wld) e).store).idx).names,(((doW (⟨(⟨(⟨((((AX w_)).store).idx).names,((((AX w_)).store).idx).AY⟩:Idx),(((AX w_)).store).parts,(((AX w_)).store).mem⟩:Sto),(⟨(((AX w_)).disk).files,(((AX w_)).disk).list,(((AX w_)).disk).names,(((AX w_)).disk).next⟩:Dsk)⟩:Wld) e).store).idx).AY⟩:Idx),((doW (⟨(⟨(⟨((((AX w_)).store).idx).names,((((AX w_)).store).idx).AY⟩:Idx),(((AX w_)).store).parts,(((AX w_)).store).mem⟩:Sto),(⟨(((AX w_)).disk).files,(((AX w_)).disk).list,(((AX w_)).disk).names,(((AX w_)).disk).next⟩:Dsk)⟩:Wld) e).store).parts,((doW (⟨(⟨(⟨((((AX w_)).store).idx).names,((((AX w_)).store).idx).AY⟩:Idx),(((AX w_)).store).parts,(((AX w_)).store).mem⟩:Sto),(⟨(((AX w_)).disk).files,(((AX w_)).disk).list,(((AX w_)).disk).names,(((AX w_)).disk).next⟩:Dsk)⟩:Wld) e).store).mem⟩:Sto),(⟨((doW (⟨(⟨(⟨((((AX w_)).store).idx).names,((((AX w_)).store).idx).AY⟩:Idx),(((AX w_)).store).parts,(((AX w_)).store).mem⟩:Sto),(⟨(((AX w_)).disk).files,(((AX w_)).disk).list,(((AX w_)).disk).names,(((AX w_)).disk).next⟩:Dsk)⟩:Wld) e).disk).files,((doW (⟨(⟨(⟨((((AX w_)).store).idx).names,((((AX w_)).store).idx).AY⟩:Idx),(((AX w_)).store).parts,(((AX w_)).store).mem⟩:Sto),(⟨(((AX w_)).disk).files,(((AX w_)).disk).list,(((AX w_)).disk).names,(((AX w_)).disk).next⟩:Dsk)⟩:Wld) e).disk).list,((doW (⟨(⟨(⟨((((AX w_)).store).idx).names,((((AX w_)).store).idx).AY⟩:Idx),(((AX w_)).store).parts,(((AX w_)).store).mem⟩:Sto),(⟨(((AX w_)).disk).files,(((AX w_)).disk).list,(((AX w_)).disk).names,(((AX w_)).disk).next⟩:Dsk)⟩:Wld) e).disk).names,((doW (⟨(⟨(⟨((((AX w_)).store).idx).names,((((AX w_)).store).idx).AY⟩:Idx),(((AX w_)).store).parts,(((AX w_)).store).mem⟩:Sto),(⟨(((AX w_)).disk).files,(((AX w_)).disk).list,(((AX w_)).disk).names,(((AX w_)).disk).next⟩:Dsk)⟩:Wld) e).disk).next⟩:Dsk)⟩:Wld))).store).idx).names,((((AX (⟨(⟨(⟨(((doW (⟨(⟨(⟨((((AX w_)).store).idx).names,((((AX w_)).store).idx).AY⟩:Idx),(((AX w_)).store).parts,(((AX w_)).store).mem⟩:Sto),(⟨(((AX w_)).disk).files,(((AX w_)).disk).list,(((AX w_)).disk).names,(((AX w_)).disk).next⟩:Dsk)⟩:Wld) e).store).idx).names,(((doW (⟨(⟨(⟨((((AX w_)).store).idx).names,((((AX w_)).store).idx).AY⟩:Idx),(((AX w_)).store).parts,(((AX w_)).store).mem⟩:Sto),(⟨(((AX w_)).disk).files,(((AX w_)).disk).list,(((AX w_)).disk).names,(((AX w_)).disk).next⟩:Dsk)⟩:Wld) e).store).idx).AY⟩:Idx),((doW (⟨(⟨(⟨((((AX w_)).store).idx).names,((((AX w_)).store).idx).AY⟩:Idx),(((AX w_)).store).parts,(((AX w_)).store).mem⟩:Sto),(⟨(((AX w_)).disk).files,(((AX w_)).disk).list,(((AX w_)).disk).names,(((AX w_)).disk).next⟩:Dsk)⟩:Wld) e).store).parts,((doW (⟨(⟨(⟨((((AX w_)).store).idx).names,((((AX w_)).store).idx).AY⟩:Idx),(((AX w_)).store).parts,(((AX w_)).store).mem⟩:Sto),(⟨(((AX w_)).disk).files,(((AX w_)).disk).list,(((AX w_)).disk).names,(((AX w_)).disk).next⟩:Dsk)⟩:Wld) e).store).mem⟩:Sto),(⟨((doW (⟨(⟨(⟨((((AX w_)).store).idx).names,((((AX w_)).store).idx).AY⟩:Idx),(((AX w_)).store).parts,(((AX w_)).store).mem⟩:Sto),(⟨(((AX w_)).disk).files,(((AX w_)).disk).list,(((AX w_)).disk).names,(((AX w_)).disk).next⟩:Dsk)⟩:Wld) e).disk).files,((doW (⟨(⟨(⟨((((AX w_)).store).idx).names,((((AX w_)).store).idx).AY⟩:Idx),(((AX w_)).store).parts,(((AX w_)).store).mem⟩:Sto),(⟨(((AX w_)).disk).files,(((AX w_)).disk).list,(((AX w_)).disk).names,(((AX w_)).disk).next⟩:Dsk)⟩:Wld) e).disk).list,((doW (⟨(⟨(⟨((((AX w_)).store).idx).names,((((AX w_)).store).idx).AY⟩:Idx),(((AX w_)).store).parts,(((AX w_)).store).mem⟩:Sto),(⟨(((AX w_)).disk).files,(((AX w_)).disk).list,(((AX w_)).disk).names,(((AX w_)).disk).next⟩:Dsk)⟩:Wld) e).disk).names,((doW (⟨(⟨(⟨((((AX w_)).store).idx).names,((((AX w_)).store).idx).AY⟩:Idx),(((AX w_)).store).parts,(((AX w_)).store).mem⟩:Sto),(⟨(((AX w_)).disk).files,(((AX w_)).disk).list,(((AX w_)).disk).names,(((AX w_)).disk).next⟩:Dsk)⟩:Wld) e).disk).next⟩:Dsk)⟩:Wld))).store).idx).AY⟩:Idx),(((AX (⟨(⟨(⟨(((doW (⟨(⟨(⟨((((AX w_)).store).idx).names,((((AX w_)).store).idx).AY⟩:Idx),(((AX w_)).store).parts,(((AX w_)).store).mem⟩:Sto),(⟨(((AX w_)).disk).files,(((AX w_)).disk).list,(((AX w_)).disk).names,(((AX w_)).disk).next⟩:Dsk)⟩:Wld) e).store).idx).names,(((doW (⟨(⟨(⟨((((AX w_)).store).idx).names,((((AX w_)).store).idx).AY⟩:Idx),(((AX w_)).store).parts,(((AX w_)).store).mem⟩:Sto),(⟨(((AX w_)).disk).files,(((AX w_)).disk).list,(((AX w_)).disk).names,(((AX w_)).disk).next⟩:Dsk)⟩:Wld) e).store).idx).AY⟩:Idx),((doW (⟨(⟨(⟨((((AX w_)).store).idx).names,((((AX w_)).store).idx).AY⟩:Idx),(((AX w_)).store).parts,(((AX w_)).store).mem⟩:Sto),(⟨(((AX w_)).disk).files,(((AX w_)).disk).list,(((AX w_)).disk).names,(((AX w_)).disk).next⟩:Dsk)⟩:Wld) e).store).parts,((doW (⟨(⟨(⟨((((AX w_)).store).idx).names,((((AX w_)).store).idx).AY⟩:Idx),(((AX w_)).store).parts,(((AX w_)).store).mem⟩:Sto),(⟨(((AX w_)).disk).files,(((AX w_)).disk).list,(((AX w_)).disk).names,(((AX w_)).disk).next⟩:Dsk)⟩:Wld) e).store).mem⟩:Sto),(⟨((doW (⟨(⟨(⟨((((AX w_)).store).idx).names,((((AX w_)).store).idx).AY⟩:Idx),(((AX w_)).store).parts,(((AX w_)).store).mem⟩:Sto),(⟨(((AX w_)).disk).files,(((AX w_)).disk).list,(((AX w_)).disk).names,(((AX w_)).disk).next⟩:Dsk)⟩:Wld) e).disk).files,((doW (⟨(⟨(⟨((((AX w_)).store).idx).names,((((AX w_)).store).idx).AY⟩:Idx),(((AX w_)).store).parts,(((AX w_)).store).mem⟩:Sto),(⟨(((AX w_)).disk).files,(((AX w_)).disk).list,(((AX w_)).disk).names,(((AX w_)).disk).next⟩:Dsk)⟩:Wld) e).disk).list,((doW (⟨(⟨(⟨((((AX w_)).store).idx).names,((((AX w_)).store).idx).AY⟩:Idx),(((AX w_)).store).parts,(((AX w_)).store).mem⟩:Sto),(⟨(((AX w_)).disk).files,(((AX w_)).disk).list,(((AX w_)).disk).names,(((AX w_)).disk).next⟩:Dsk)⟩:Wld) e).disk).names,((doW (⟨(⟨(⟨((((AX w_)).store).idx).names,((((AX w_)).store).idx).AY⟩:Idx),(((AX w_)).store).parts,(((AX w_)).store).mem⟩:Sto),(⟨(((AX w_)).disk).files,(((AX w_)).disk).list,(((AX w_)).disk).names,(((AX w_)).disk).next⟩:Dsk)⟩:Wld) e).disk).next⟩:Dsk)⟩:Wld))).store).parts,(((AX (⟨(⟨(⟨(((doW (⟨(⟨(⟨((((AX w_)).store).idx).names,((((AX w_)).store).idx).AY⟩:Idx),(((AX w_)).store).parts,(((AX w_)).store).mem⟩:Sto),(⟨(((AX w_)).disk).files,(((AX w_)).disk).list,(((AX w_)).disk).names,(((AX w_)).disk).next⟩:Dsk)⟩:Wld) e).store).idx).names,(((doW (⟨(⟨(⟨((((AX w_)).store).idx).names,((((AX w_)).store).idx).AY⟩:Idx),(((AX w_)).store).parts,(((AX w_)).store).mem⟩:Sto),(⟨(((AX w_)).disk).files,(((AX w_)).disk).list,(((AX w_)).disk).names,(((AX w_)).disk).next⟩:Dsk)⟩:Wld) e).store).idx).AY⟩:Idx),((doW (⟨(⟨(⟨((((AX w_)).store).idx).names,((((AX w_)).store).idx).AY⟩:Idx),(((AX w_)).store).parts,(((AX w_)).store).mem⟩:Sto),(⟨(((AX w_)).disk).files,(((AX w_)).disk).list,(((AX w_)).disk).names,(((AX w_)).disk).next⟩:Dsk)⟩:Wld) e).store).parts,((doW (⟨(⟨(⟨((((AX w_)).store).idx).names,((((AX w_)).store).idx).AY⟩:Idx),(((AX w_)).store).parts,(((AX w_)).store).mem⟩:Sto),(⟨(((AX w_)).disk).files,(((AX w_)).disk).list,(((AX w_)).disk).names,(((AX w_)).disk).next⟩:Dsk)⟩:Wld) e).store).mem⟩:Sto),(⟨((doW (⟨(⟨(⟨((((AX w_)).store).idx).names,((((AX w_)).store).idx).AY⟩:Idx),(((AX w_)).store).parts,(((AX w_)).store).mem⟩:Sto),(⟨(((AX w_)).disk).files,(((AX w_)).disk).list,(((AX w_)).disk).names,(((AX w_)).disk).next⟩:Dsk)⟩:Wld) e).disk).files,((doW (⟨(⟨(⟨((((AX w_)).store).idx).names,((((AX w_)).store).idx).AY⟩:Idx),(((AX w_)).store).parts,(((AX w_)).store).mem⟩:Sto),(⟨(((AX w_)).disk).files,(((AX w_)).disk).list,(((AX w_)).disk).names,(((AX w_)).disk).next⟩:Dsk)⟩:Wld) e).disk).list,((doW (⟨(⟨(⟨((((AX w_)).store).idx).names,((((AX w_)).store).idx).AY⟩:Idx),(((AX w_)).store).parts,(((AX w_)).store).mem⟩:Sto),(⟨(((AX w_)).disk).files,(((AX w_)).disk).list,(((AX w_)).disk).names,(((AX w_)).disk).next⟩:Dsk)⟩:Wld) e).disk).names,((doW (⟨(⟨(⟨((((AX w_)).store).idx).names,((((AX w_)).store).idx).AY⟩:Idx),(((AX w_)).store).parts,(((AX w_)).store).mem⟩:Sto),(⟨(((AX w_)).disk).files,(((AX w_)).disk).list,(((AX w_)).disk).names,(((AX w_)).disk).next⟩:Dsk)⟩:Wld) e).disk).next⟩:Dsk)⟩:Wld))).store).mem⟩:Sto),(⟨(((AX (⟨(⟨(⟨(((doW (⟨(⟨(⟨((((AX w_)).store).idx).names,((((AX w_)).store).idx).AY⟩:Idx),(((AX w_)).store).parts,(((AX w_)).store).mem⟩:Sto),(⟨(((AX w_)).disk).files,(((AX w_)).disk).list,(((AX w_)).disk).names,(((AX w_)).disk).next⟩:Dsk)⟩:Wld) e).store).idx).names,(((doW (⟨(⟨(⟨((((AX w_)).store).idx).names,((((AX w_)).store).idx).AY⟩:Idx),(((AX w_)).store).parts,(((AX w_)).store).mem⟩:Sto),(⟨(((AX w_)).disk).files,(((AX w_)).disk).list,(((AX w_)).disk).names,(((AX w_)).disk).next⟩:Dsk)⟩:Wld) e).store).idx).AY⟩:Idx),((doW (⟨(⟨(⟨((((AX w_)).store).idx).names,((((AX w_)).store).idx).AY⟩:Idx),(((AX w_)).store).parts,(((AX w_)).store).mem⟩:Sto),(⟨(((AX w_)).disk).files,(((AX w_)).disk).list,(((AX w_)).disk).names,(((AX w_)).disk).next⟩:Dsk)⟩:Wld) e).store).parts,((doW (⟨(⟨(⟨((((AX w_)).store).idx).names,((((AX w_)).store).idx).AY⟩:Idx),(((AX w_)).store).parts,(((AX w_)).store).mem⟩:Sto),(⟨(((AX w_)).disk).files,(((AX w_)).disk).list,(((AX w_)).disk).names,(((AX w_)).disk).next⟩:Dsk)⟩:Wld) e).store).mem⟩:Sto),(⟨((doW (⟨(⟨(⟨((((AX w_)).store).idx).names,((((AX w_)).store).idx).AY⟩:Idx),(((AX w_)).store).parts,(((AX w_)).store).mem⟩:Sto),(⟨(((AX w_)).disk).files,(((AX w_)).disk).list,(((AX w_)).disk).names,(((AX w_)).disk).next⟩:Dsk)⟩:Wld) e).disk).files,((doW (⟨(⟨(⟨((((AX w_)).store).idx).names,((((AX w_)).store).idx).AY⟩:Idx),(((AX w_)).store).parts,(((AX w_)).store).mem⟩:Sto),(⟨(((AX w_)).disk).files,(((AX w_)).disk).list,(((AX w_)).disk).names,(((AX w_)).disk).next⟩:Dsk)⟩:Wld) e).disk).list,((doW (⟨(⟨(⟨((((AX w_)).store).idx).names,((((AX w_)).store).idx).AY⟩:Idx),(((AX w_)).store).parts,(((AX w_)).store).mem⟩:Sto),(⟨(((AX w_)).disk).files,(((AX w_)).disk).list,(((AX w_)).disk).names,(((AX w_)).disk).next⟩:Dsk)⟩:Wld) e).disk).names,((doW (⟨(⟨(⟨((((AX w_)).store).idx).names,((((AX w_)).store).idx).AY⟩:Idx),(((AX w_)).store).parts,(((AX w_)).store).mem⟩:Sto),(⟨(((AX w_)).disk).files,(((AX w_)).disk).list,(((AX w_)).disk).names,(((AX w_)).disk).next⟩:Dsk)⟩:Wld) e).disk).next⟩:Dsk)⟩:Wld))).disk).files,(((AX (⟨(⟨(⟨(((doW (⟨(⟨(⟨((((AX w_)).store).idx).names,((((AX w_)).store).idx).AY⟩:Idx),(((AX w_)).store).parts,(((AX w_)).store).mem⟩:Sto),(⟨(((AX w_)).disk).files,(((AX w_)).disk).list,(((AX w_)).disk).names,(((AX w_)).disk).next⟩:Dsk)⟩:Wld) e).store).idx).names,(((doW (⟨(⟨(⟨((((AX w_)).store).idx).names,((((AX w_)).store).idx).AY⟩:Idx),(((AX w_)).store).parts,(((AX w_)).store).mem⟩:Sto),(⟨(((AX w_)).disk).files,(((AX w_)).disk).list,(((AX w_)).disk).names,(((AX w_)).disk).next⟩:Dsk)⟩:Wld) e).store).idx).AY⟩:Idx),((doW (⟨(⟨(⟨((((AX w_)).store).idx).names,((((AX w_)).store).idx).AY⟩:Idx),(((AX w_)).store).parts,(((AX w_)).store).mem⟩:Sto),(⟨(((AX w_)).disk).files,(((AX w_)).disk).list,(((AX w_)).disk).names,(((AX w_)).disk).next⟩:Dsk)⟩:Wld) e).store).parts,((doW (⟨(⟨(⟨((((AX w_)).store).idx).names,((((AX w_)).store).idx).AY⟩:Idx),(((AX w_)).store).parts,(((AX w_)).store).mem⟩:Sto),(⟨(((AX w_)).disk).files,(((AX w_)).disk).list,(((AX w_)).disk).names,(((AX w_)).disk).next⟩:Dsk)⟩:Wld) e).store).mem⟩:Sto),(⟨((doW (⟨(⟨(⟨((((AX w_)).store).idx).names,((((AX w_)).store).idx).AY⟩:Idx),(((AX w_)).store).parts,(((AX w_)).store).mem⟩:Sto),(⟨(((AX w_)).disk).files,(((AX w_)).disk).list,(((AX w_)).disk).names,(((AX w_)).disk).next⟩:Dsk)⟩:Wld) e).disk).files,((doW (⟨(⟨(⟨((((AX w_)).store).idx).names,((((AX w_)).store).idx).AY⟩:Idx),(((AX w_)).store).parts,(((AX w_)).store).mem⟩:Sto),(⟨(((AX w_)).disk).files,(((AX w_)).disk).list,(((AX w_)).disk).names,(((AX w_)).disk).next⟩:Dsk)⟩:Wld) e).disk).list,((doW (⟨(⟨(⟨((((AX w_)).store).idx).names,((((AX w_)).store).idx).AY⟩:Idx),(((AX w_)).store).parts,(((AX w_)).store).mem⟩:Sto),(⟨(((AX w_)).disk).files,(((AX w_)).disk).list,(((AX w_)).disk).names,(((AX w_)).disk).next⟩:Dsk)⟩:Wld) e).disk).names,((doW (⟨(⟨(⟨((((AX w_)).store).idx).names,((((AX w_)).store).idx).AY⟩:Idx),(((AX w_)).store).parts,(((AX w_)).store).mem⟩:Sto),(⟨(((AX w_)).disk).files,(((AX w_)).disk).list,(((AX w_)).disk).names,(((AX w_)).disk).next⟩:Dsk)⟩:Wld) e).disk).next⟩:Dsk)⟩:Wld))).disk).list,(((AX (⟨(⟨(⟨(((doW (⟨(⟨(⟨((((AX w_)).store).idx).names,((((AX w_)).store).idx).AY⟩:Idx),(((AX w_)).store).parts,(((AX w_)).store).mem⟩:Sto),(⟨(((AX w_)).disk).files,(((AX w_)).disk).list,(((AX w_)).disk).names,(((AX w_)).disk).next⟩:Dsk)⟩:Wld) e).store).idx).names,(((doW (⟨(⟨(⟨((((AX w_)).store).idx).names,((((AX w_)).store).idx).AY⟩:Idx),(((AX w_)).store).parts,(((AX w_)).store).mem⟩:Sto),(⟨(((AX w_)).disk).files,(((AX w_)).disk).list,(((AX w_)).disk).names,(((AX w_)).disk).next⟩:Dsk)⟩:Wld) e).store).idx).AY⟩:Idx),((doW (⟨(⟨(⟨((((AX w_)).store).idx).names,((((AX w_)).store).idx).AY⟩:Idx),(((AX w_)).store).parts,(((AX w_)).store).mem⟩:Sto),(⟨(((AX w_)).disk).files,(((AX w_)).disk).list,(((AX w_)).disk).names,(((AX w_)).disk).next⟩:Dsk)⟩:Wld) e).store).parts,((doW (⟨(⟨(⟨((((AX w_)).store).idx).names,((((AX w_)).store).idx).AY⟩:Idx),(((AX w_)).store).parts,(((AX w_)).store).mem⟩:Sto),(⟨(((AX w_)).disk).files,(((AX w_)).disk).list,(((AX w_)).disk).names,(((AX w_)).disk).next⟩:Dsk)⟩:Wld) e).store).mem⟩:Sto),(⟨((doW (⟨(⟨(⟨((((AX w_)).store).idx).names,((((AX w_)).store).idx).AY⟩:Idx),(((AX w_)).store).parts,(((AX w_)).store).mem⟩:Sto),(⟨(((AX w_)).disk).files,(((AX w_)).disk).list,(((AX w_)).disk).names,(((AX w_)).disk).next⟩:Dsk)⟩:Wld) e).disk).files,((doW (⟨(⟨(⟨((((AX w_)).store).idx).names,((((AX w_)).store).idx).AY⟩:Idx),(((AX w_)).store).parts,(((AX w_)).store).mem⟩:Sto),(⟨(((AX w_)).disk).files,(((AX w_)).disk).list,(((AX w_)).disk).names,(((AX w_)).disk).next⟩:Dsk)⟩:Wld) e).disk).list,((doW (⟨(⟨(⟨((((AX w_)).store).idx).names,((((AX w_)).store).idx).AY⟩:Idx),(((AX w_)).store).parts,(((AX w_)).store).mem⟩:Sto),(⟨(((AX w_)).disk).files,(((AX w_)).disk).list,(((AX w_)).disk).names,(((AX w_)).disk).next⟩:Dsk)⟩:Wld) e).disk).names,((doW (⟨(⟨(⟨((((AX w_)).store).idx).names,((((AX w_)).store).idx).AY⟩:Idx),(((AX w_)).store).parts,(((AX w_)).store).mem⟩:Sto),(⟨(((AX w_)).disk).files,(((AX w_)).disk).list,(((AX w_)).disk).names,(((AX w_)).disk).next⟩:Dsk)⟩:Wld) e).disk).next⟩:Dsk)⟩:Wld))).disk).names,(((AX (⟨(⟨(⟨(((doW (⟨(⟨(⟨((((AX w_)).store).idx).names,((((AX w_)).store).idx).AY⟩:Idx),(((AX w_)).store).parts,(((AX w_)).store).mem⟩:Sto),(⟨(((AX w_)).disk).files,(((AX w_)).disk).list,(((AX w_)).disk).names,(((AX w_)).disk).next⟩:Dsk)⟩:Wld) e).store).idx).names,(((doW (⟨(⟨(⟨((((AX w_)).store).idx).names,((((AX w_)).store).idx).AY⟩:Idx),(((AX w_)).store).parts,(((AX w_)).store).mem⟩:Sto),(⟨(((AX w_)).disk).files,(((AX w_)).disk).list,(((AX w_)).disk).names,(((AX w_)).disk).next⟩:Dsk)⟩:Wld) e).store).idx).AY⟩:Idx),((doW (⟨(⟨(⟨((((AX w_)).store).idx).names,((((AX w_)).store).idx).AY⟩:Idx),(((AX w_)).store).parts,(((AX w_)).store).mem⟩:Sto),(⟨(((AX w_)).disk).files,(((AX w_)).disk).list,(((AX w_)).disk).names,(((AX w_)).disk).next⟩:Dsk)⟩:Wld) e).store).parts,((doW (⟨(⟨(⟨((((AX w_)).store).idx).names,((((AX w_)).store).idx).AY⟩:Idx),(((AX w_)).store).parts,(((AX w_)).store).mem⟩:Sto),(⟨(((AX w_)).disk).files,(((AX w_)).disk).list,(((AX w_)).disk).names,(((AX w_)).disk).next⟩:Dsk)⟩:Wld) e).store).mem⟩:Sto),(⟨((doW (⟨(⟨(⟨((((AX w_)).store).idx).names,((((AX w_)).store).idx).AY⟩:Idx),(((AX w_)).store).parts,(((AX w_)).store).mem⟩:Sto),(⟨(((AX w_)).disk).files,(((AX w_)).disk).list,(((AX w_)).disk).names,(((AX w_)).disk).next⟩:Dsk)⟩:Wld) e).disk).files,((doW (⟨(⟨(⟨((((AX w_)).store).idx).names,((((AX w_)).store).idx).AY⟩:Idx),(((AX w_)).store).parts,(((AX w_)).store).mem⟩:Sto),(⟨(((AX w_)).disk).files,(((AX w_)).disk).list,(((AX w_)).disk).names,(((AX w_)).disk).next⟩:Dsk)⟩:Wld) e).disk).list,((doW (⟨(⟨(⟨((((AX w_)).store).idx).names,((((AX w_)).store).idx).AY⟩:Idx),(((AX w_)).store).parts,(((AX w_)).store).mem⟩:Sto),(⟨(((AX w_)).disk).files,(((AX w_)).disk).list,(((AX w_)).disk).names,(((AX w_)).disk).next⟩:Dsk)⟩:Wld) e).disk).names,((doW (⟨(⟨(⟨((((AX w_)).store).idx).names,((((AX w_)).store).idx).AY⟩:Idx),(((AX w_)).store).parts,(((AX w_)).store).mem⟩:Sto),(⟨(((AX w_)).disk).files,(((AX w_)).disk).list,(((AX w_)).disk).names,(((AX w_)).disk).next⟩:Dsk)⟩:Wld) e).disk).next⟩:Dsk)⟩:Wld))).disk).next⟩:Dsk)⟩:Wld) [4,5,6,3,2,1,0] (by (rw [Fo ‹_›,(Bo p0 p1 ‹_›).copy,((Bo p0 p1 ‹_›).do p2).copy])),Z.xt⟩
end Go.Proofs.YtckdhcbbgmiccaaGreat
