/- Short forms of the rules: what the kernel evaluates is asked last and closed by itself, and the facts of one step are moved at once. No conditions. -/
import Derived.Test.YtckdhcbbgmiccaaGreatWxzSwk8
import Derived.Test.YtckdhcbbgmiccaaGreatWxzW11
open Go.Proofs.Tryz
set_option linter.unusedVariables false
set_option linter.unusedSimpArgs false
namespace Go.Proofs.YtckdhcbbgmiccaaGreat
theorem al7 {a0 a1 a2 a3 a4 a5 a6 s:Nat}(h0:a0< s) (h1:a1< s) (h2:a2< s) (h3:a3< s) (h4:a4< s) (h5:a5< s) (h6:a6< s):∀ b∈[a0,a1,a2,a3,a4,a5,a6],b< s:=all_cons h0 (all_cons h1 (all_cons h2 (all_cons h3 (all_cons h4 (all_cons h5 (all_cons h6 (all_nil)))))))
end Go.Proofs.YtckdhcbbgmiccaaGreat
namespace Go.Proofs.YtckdhcbbgmiccaaGreat
section
variable {P:Program} {S:Nat→Prop} {n m:Nat} {K L:Env→World→Prop} {ops:Array Oper} {j:Nat} {l:List Nat} {e:Env}
variable {κ:Cx} {ρ:Option Rg} {Φ Φ':List Ob} {Ψ Ψ':List Fz} {Θ Θ':List (Nat × Nat × List Value)} {w w':World} {α:Type} [Rep α] {xs ys:List α} {x y:α} {o o':Ob} {g i r:Nat}
theorem nd4 {a b c d:Ob}(h:Nb b.b a.b) (h1:Nb c.b a.b) (h2:Nb c.b b.b) (h3:Nb d.b a.b) (h4:Nb d.b b.b) (h5:Nb d.b c.b):(bl [a,b,c,d]).Nodup:=by
 have:=h.ne; have:=h1.ne; have:=h2.ne; have:=h3.ne; have:=h4.ne; have:=h5.ne; simp [bl]; omega
end
end Go.Proofs.YtckdhcbbgmiccaaGreat
namespace Go.Proofs.YtckdhcbbgmiccaaGreat
set_option maxRecDepth 100000
set_option maxHeartbeats 4000000
variable {w:World} {F:Nat→Prop} {a1 a2:Option Addr} {n1 c1 n2 c2:Nat}
theorem LU (a:List Int) (b:List Int) (h1:RepS w F a1 n1 c1 a) (h2:RepS w F a2 n2 c2 b)  : Calls Tryz.prog 182 [.slice a1 n1 c1,.slice a2 n2 c2].toArray w (Aj fun rv w'=>rv=.bool ((a==b))∧Ext w w'):=by
 cases h1.len
 cases h2.len
 refine goT func182 ?_
 have Z:=((St.i0 F w).p h1).p h2
 have ak:=h1.max
 refine .s<|.g<|.r 1<|.d<|.s<|.s<|.g<|.r 4<|.ne (a.length:Int) (b.length:Int) (fun ac=>.d<|.ct<|.s<|.g<|.r 1<|.d<|T.rt func182 results182 (.bool false) ⟨(AG (by grind [Ac])),Z.xt⟩) fun ac=>.d<|.cf<|.sk<|.s<|.s<|.g<|.r 1<|.d<|.b 0<|T.Lp (0:Nat) (fun i=>([(0,.slice a1 a.length c1),(1,.slice a2 b.length c2),(5,vI (i:Int))],[],[],a.length - i,(i≤a.length)∧(a.drop i=b.drop i↔a=b))) [] Z ⟨AD,AD⟩ ?_
 rintro i ax w Z ⟨am,ao⟩ ab
 refine .s<|.s<|.g<|.r 3<|.bp ((i:Int)< (a.length:Int)) (fun ae=>?_) (fun ae=>.d<|.cf<|.x 0 rfl<|.s<|.g<|.r 1<|.d<|T.rt func182 results182 (.bool true) ⟨(AG (by grind [Ac])),Z.xt⟩)
 exact .d<|.ct<|.sk<|.s<|.b 1<|.s<|T.Gd 8 Z fun w Z=>.r [0,1]<|gxd a i fun ai E aq=>GA.Ix 2 1 E Z<|Z.el 1 E fun Z=>GA.Lh 3 0 0 Z<|.r [4,5]<|gxd b i fun aj aa ar=>GA.Ix 6 1 aa Z<|Z.el 1 aa fun Z=>GA.Lh 7 0 0 Z<|GA.Dn Z fun w Z=>.ne ai aj (fun af=>.d<|.ct<|.s<|.g<|.r 1<|.d<|T.rt func182 results182 (.bool false) ⟨(AG (by grind [Ac])),Z.xt⟩) fun af=>.d<|.cf<|.sk<|.ib 1<|.g<|.r 1<|.it ((i:Int)+1)<|.r 1<|.d<|ab (i+1) _ _ AA (Z.to 0 [] 2) ⟨AB,(by grind)⟩ (by (simp only []; omega))
end Go.Proofs.YtckdhcbbgmiccaaGreat
namespace Go.Proofs.YtckdhcbbgmiccaaGreat
set_option maxRecDepth 100000
set_option maxHeartbeats 4000000
variable {w:World} {F:Nat→Prop} {a1 a2:Option Addr} {n1 c1 n2 c2:Nat}
theorem Fa (b:List Row) (h1:RepS w F a1 n1 c1 b)  : Calls Tryz.prog 152 [.slice a1 n1 c1].toArray w (Aj fun rv w'=>rv=.bool (BA b)∧Ext w w'):=by
 cases h1.len
 refine goT func152 ?_
 have Z:=(St.i0 F w).p h1
 have ak:=h1.max
 refine .s<|.g<|.r 1<|.d<|.s<|.s<|.g<|.r 1<|.d<|.b 0<|T.Lp (0:Nat) (fun i=>([(0,.slice a1 b.length c1),(3,vI (i:Int))],[],[],b.length - i,(i≤b.length)∧(CJ (prev b i) (b.drop i)=CJ none b))) [] Z ⟨(by simp [prev]),(by simp [prev])⟩ ?_
 rintro i ax w Z ⟨al,am⟩ E
 refine .s<|.s<|.g<|.r 3<|.bp ((i:Int)< (b.length:Int)) (fun ae=>?_) (fun ae=>.d<|.cf<|.x 0 rfl<|.s<|.g<|.r 4<|.d<|T.rt func152 results152 (.bool (decide ((b.length:Int)≤24))) ⟨(AG (by grind [CJ,BA,prev,Ac])),Z.xt⟩)
 refine .d<|.ct<|.sk<|.s<|.b 1<|.s<|T.Gd 21 Z fun w Z=>.r [0,1]<|gxb b i fun ac aa ao ah=>GA.Ix 2 0 aa Z<|Z.el 0 aa fun Z=>GA.Lg 3 0 0 Z<|GA.C0 4 Z (fun w Z=>Gp ac (F:=all)) ?_
 cases aq:(BX ac)
 ·exact .r [5,6]<|GA.Sk Z fun w Z=>.r 3<|.d<|.ct<|.s<|.g<|.r 1<|.d<|T.rt func152 results152 (.bool false) ⟨(AG (by grind [CJ,BA,prev,Ac])),Z.xt⟩
 refine .r [5,6,7]<|GA.Ec (i:=8) ((i:Int) > 0) AA (fun af=>?_) (fun af=>.r [9]<|GA.Sk Z fun w Z=>.r 3<|.d<|.cf<|.sk<|.ib 1<|.g<|.r 1<|.it ((i:Int)+1)<|.r 1<|.d<|E (i+1) _ _ AA (Z.to 0 [] 1) ⟨AB,(by grind [CJ,prev])⟩ (by (simp only []; omega)))
 exact .r [9,10,11]<|GA.int (i:=12) ((i:Int) - 1) AA AB<|gx b (i - 1) fun aj ab=>GA.Jx 13 1 ((i:Int) - 1) ab Z<|.r [14]<|Z.el 1 ab fun Z=>GA.Lh 15 0 0 Z<|.r [16,17]<|GA.Ix 18 2 aa Z<|.r [19]<|GA.Lh 20 1 0 Z<|GA.Dn Z fun w Z=>.bp (aj.t≥ac.t) (fun ag=>.r 2<|.d<|.ct<|.s<|.g<|.r 1<|.d<|T.rt func152 results152 (.bool false) ⟨(AG (by grind [CJ,BA,prev,Ac])),Z.xt⟩) fun ag=>.r 2<|.d<|.cf<|.sk<|.ib 1<|.g<|.r 1<|.it ((i:Int)+1)<|.r 1<|.d<|E (i+1) _ _ AA (Z.to 0 [] 2) ⟨AB,(by grind [CJ,prev])⟩ (by (simp only []; omega))
theorem GG (p:Prt) (h1:RepS w F a1 n1 c1 p.ids) (h2:RepS w F a2 n2 c2 p.blocks)  : Calls Tryz.prog 149 [.agg #[.slice a1 n1 c1,.slice a2 n2 c2]].toArray w (Aj fun rv w'=>rv=.bool (Ar p)∧Ext w w'):=by
 cases h1.len
 cases h2.len
 refine goT func149 ?_
 have Z:=((St.i0 F w).p h1).p h2
 have aC:=h1.max
 refine .s<|.g<|RG.Np Z fun aA w Z=>.r 1<|.d<|.s<|.s<|.g<|.r 1<|RG.Lb 0 Z<|.r 2<|RG.Lb 0 Z<|.r 1<|.ne (p.ids.length:Int) (p.blocks.length:Int) (fun aj=>.d<|.ct<|.s<|.g<|.r 1<|.d<|T.rt func149 results149 (.bool false) ⟨(AG (by grind [BZ,Ar,prev,Ac])),Z.xt⟩) fun aj=>.d<|.cf<|.sk<|.s<|.s<|.g<|.r 1<|.d<|.b 0<|T.Lp (0:Nat) (fun i=>([(1,vP aA),(3,vI (i:Int))],[],[],p.ids.length - i,(i≤p.ids.length)∧(BZ (prev p.ids i) (p.ids.drop i) (p.blocks.drop i)=BZ none p.ids p.blocks))) [] Z ⟨(by simp [prev]),(by simp [prev])⟩ ?_
 rintro i aO w Z ⟨aE,aF⟩ E
 refine .s<|.s<|.g<|.r 2<|RG.Lb 0 Z<|.r 1<|.bp ((i:Int)< (p.ids.length:Int)) (fun ak=>?_) (fun ak=>.d<|.cf<|.x 0 rfl<|.s<|.g<|.r 1<|.d<|T.rt func149 results149 (.bool true) ⟨(AG (by grind [BZ,Ar,prev,Ac])),Z.xt⟩)
 refine .d<|.ct<|.sk<|.s<|.b 1<|.s<|T.Gd 38 Z fun w Z=>.r [0]<|GA.Lb 1 0 Z<|.r [2]<|gxb p.ids i fun ag aa aG ar=>GA.Ix 3 1 aa Z<|Z.el 1 aa fun Z=>GA.Lh 4 0 0 Z<|GA.C0 5 Z (fun w Z=>CR ag 1 6 (F:=all)) ?_
 cases af:(inR ag 1 6)
 ·exact .r [6,7,8,9,10,11,12,13,14,15,16,17,18,19,20,21,22,23,24,25,26,27,28,29,30,31,32,33,34,35,36,37]<|GA.Dn Z fun w Z=>.r 5<|.d<|.ct<|.s<|.g<|.r 1<|.d<|T.rt func149 results149 (.bool false) ⟨(AG (by (have hdd:=List.drop_eq_getElem_cons (l:=p.blocks) (i:=i) AB; grind [BZ,Ar,prev,Ac]))),Z.xt⟩
 refine .r [6,7,8]<|GA.Ec (i:=9) ((i:Int) > 0) AA (fun al=>?_) (fun al=>?_)
 ·refine .r [10,11]<|GA.Lb 12 0 Z<|.r [13]<|GA.int (i:=14) ((i:Int) - 1) AA AB<|gx p.ids (i - 1) fun aB ae=>GA.Jx 15 2 ((i:Int) - 1) ae Z<|Z.el 2 ae fun Z=>GA.Lh 16 0 0 Z<|.r [17]<|GA.Lb 18 0 Z<|.r [19]<|GA.Ix 20 3 aa Z<|GA.Lh 21 1 0 Z<|GA.Ec (i:=22) (aB≥ag) AA (fun am=>.r [23,24,25,26,27,28,29,30,31,32,33,34,35,36,37]<|GA.Dn Z fun w Z=>.r 5<|.d<|.ct<|.s<|.g<|.r 1<|.d<|T.rt func149 results149 (.bool false) ⟨(AG (by (have hdd:=List.drop_eq_getElem_cons (l:=p.blocks) (i:=i) AB; grind [BZ,Ar,prev,Ac]))),Z.xt⟩) fun am=>.r [23,24,25,26]<|GA.Lb 27 0 Z<|.r [28]<|gxd p.blocks i fun ah ab aK=>GA.Ix 29 2 ab Z<|Z.el 2 ab fun aP aQ Z=>GA.Lh 30 0 0 Z<|.r [31]<|GA.eqI (i:=32) (a:=(ah.length:Int)) (b:=0) AA (fun ao=>.r [33,34,35,36,37]<|GA.Dn Z fun w Z=>.r 5<|.d<|.ct<|.s<|.g<|.r 1<|.d<|T.rt func149 results149 (.bool false) ⟨(AG (by grind [BZ,Ar,prev,Ac])),Z.xt⟩) fun ao=>.r [33,34,35]<|GA.Lb 36 0 Z<|.r [37]<|GA.Dn Z fun w Z=>RG.Ix 4 ab Z<|RG.Lh 0 0 Z<|RG.C0 (Fa ah (Z.a 1)) Z fun w Z=>?_
  cases aL:(BA ah)
  ·exact .r 2<|.d<|.ct<|.s<|.g<|.r 1<|.d<|T.rt func149 results149 (.bool false) ⟨(AG (by grind [BZ,Ar,prev,Ac])),Z.xt⟩
  exact .r 2<|.d<|.cf<|.sk<|.ib 1<|.g<|.r 1<|.it ((i:Int)+1)<|.r 1<|.d<|E (i+1) _ _ AA (Z.to 0 [] 4) ⟨AB,(by grind [BZ,prev])⟩ (by (simp only []; omega))
 refine .r [10,11,12,13,14,15,16,17,18,19,20,21,22,23,24,25,26]<|GA.Lb 27 0 Z<|.r [28]<|gxd p.blocks i fun ai ac aM=>GA.Ix 29 1 ac Z<|Z.el 1 ac fun aR aS Z=>GA.Lh 30 0 0 Z<|.r [31]<|GA.eqI (i:=32) (a:=(ai.length:Int)) (b:=0) AA (fun aq=>.r [33,34,35,36,37]<|GA.Dn Z fun w Z=>.r 5<|.d<|.ct<|.s<|.g<|.r 1<|.d<|T.rt func149 results149 (.bool false) ⟨(AG (by grind [BZ,Ar,prev,Ac])),Z.xt⟩) fun aq=>.r [33,34,35]<|GA.Lb 36 0 Z<|.r [37]<|GA.Dn Z fun w Z=>RG.Ix 3 ac Z<|RG.Lh 0 0 Z<|RG.C0 (Fa ai (Z.a 1)) Z fun w Z=>?_
 cases aN:(BA ai)
 ·exact .r 2<|.d<|.ct<|.s<|.g<|.r 1<|.d<|T.rt func149 results149 (.bool false) ⟨(AG (by grind [BZ,Ar,prev,Ac])),Z.xt⟩
 exact .r 2<|.d<|.cf<|.sk<|.ib 1<|.g<|.r 1<|.it ((i:Int)+1)<|.r 1<|.d<|E (i+1) _ _ AA (Z.to 0 [] 3) ⟨AB,(by grind [BZ,prev])⟩ (by (simp only []; omega))
theorem LV (p:Prt) (names:Int) (h1:RepS w F a1 n1 c1 p.ids) (h2:RepS w F a2 n2 c2 p.blocks)  : Calls Tryz.prog 151 [.agg #[.slice a1 n1 c1,.slice a2 n2 c2],.int .i64 names].toArray w (Aj fun rv w'=>rv=.bool (Ba p names)∧Ext w w'):=by
 cases h1.len
 cases h2.len
 refine goT func151 ?_
 have Z:=((St.i0 F w).p h1).p h2
 have ae:=h1.max
 refine .s<|.g<|RG.Np Z fun ai w Z=>.r 1<|.d<|.s<|.g<|RG.Ln 0 Z<|RG.C0 (GG p (Z.a 1) (Z.a 0)) Z fun w Z=>?_
 cases ag:(Ar p)
 ·exact .r 19<|.d<|T.rt func151 results151 (.bool false) ⟨(AG (by grind [Ba])),Z.xt⟩
 refine .r 2<|RG.Lb 0 Z<|.r 1<|.bp ((p.ids.length:Int) > 0) (fun aa=>?_) (fun aa=>.r 14<|.d<|T.rt func151 results151 (.bool false) ⟨(AG (by grind [Ba])),Z.xt⟩)
 exact .r 3<|RG.Lb 0 Z<|.r 1<|RG.Lb 0 Z<|.r 1<|.it ((p.ids.length:Int) - 1)<|gx p.ids (p.ids.length - 1) fun ac E=>RG.Jx 1 ((p.ids.length:Int) - 1) E Z<|Z.el 1 E fun Z=>RG.Lh 0 0 Z<|.r 4<|.d<|T.rt func151 results151 (.bool (decide (ac≤names))) ⟨(AG (by grind [Ba])),Z.xt⟩
theorem LW (a:Tag) (b:Tag){F:Nat→Prop}   : Calls Tryz.prog 183 [.agg #[.string (bs a.key),.string (bs a.val)],.agg #[.string (bs b.key),.string (bs b.val)]].toArray w (Aj fun rv w'=>rv=.bool (DM a b)∧Ext w w'):=by
 refine goT func183 ?_
 have Z:=St.i0 F w
 refine .s<|.g<|RG.Np Z fun ab w Z=>RG.Np Z fun ac w Z=>.r 1<|.d<|.s<|.g<|.r 1<|RG.Lb 1 Z<|.r 1<|RG.Lb 0 Z<|RG.eqv (v:=.bool ((Bq a.key b.key))) AA (Wn a.key b.key) ?_
 cases E:(Bq a.key b.key)
 ·refine .r 2<|RG.Lb 1 Z<|.r 1<|RG.Lb 0 Z<|RG.eqv (v:=.bool ((a.key==b.key))) AA (Un a.key b.key) ?_
  cases aa:(a.key==b.key)
  ·exact .r 9<|.d<|T.rt func183 results183 (.bool false) ⟨(AG (by grind [DM])),Z.xt⟩
  exact .r 2<|RG.Lb 1 Z<|.r 1<|RG.Lb 0 Z<|RG.eqv (v:=.bool ((Bq a.val b.val))) AA (Wn a.val b.val)<|.r 3<|.d<|T.rt func183 results183 (.bool (Bq a.val b.val)) ⟨(AG (by grind [DM])),Z.xt⟩
 exact .r 15<|.d<|T.rt func183 results183 (.bool true) ⟨(AG (by grind [DM])),Z.xt⟩
end Go.Proofs.YtckdhcbbgmiccaaGreat
namespace Go.Proofs.YtckdhcbbgmiccaaGreat
theorem WD.X3 {w:Wld}(h:WD w){y:Int}{r:Row}(hy:0≤y∧y≤7) (hr:FH r):SD ⟨⟨w.store.idx.names,w.store.idx.AY⟩,w.store.parts,w.store.mem++[⟨y,r⟩]⟩:=by
 have h1:=h.sd
 refine ⟨h1.idx,h1.nm,h1.nd,h1.np,h1.part,by have:=h.wi.sto.nm2; simp; omega,fun m hm=>?_⟩
 rcases List.mem_append.1 hm with hm | hm
 ·exact h1.mem m hm
 ·simp at hm; subst hm; exact ⟨hy.1,hy.2,hr⟩
end Go.Proofs.YtckdhcbbgmiccaaGreat
namespace Go.Proofs.YtckdhcbbgmiccaaGreat
def Ll (names:List (List Tag)):Nat:=(names.map List.length).sum
def OX (ps:List Pst):Nat:=(ps.map (fun p=>p.ids.length)).sum
theorem Sr (t:Tag):∀ (ns:List (List Tag)) (i:Nat),(Fp t i ns).length=(ns.map (fun n=>if has n t then 1 else 0)).sum:=by
 intro ns
 induction ns with
 | nil=>intro i; rfl
 | cons n ns ih =>
   intro i
   rw [Fp,List.length_append,ih,List.map_cons,List.sum_cons]
   split <;> simp_all
theorem OY (names:List (List Tag)):OX (Cr names)=(FI.map (fun t=>(ids names t).length)).sum:=by
 rw [Fe]
 generalize FI=U
 induction U with
 | nil=>rfl
 | cons t ts ih =>
   rw [List.flatMap_cons]
   unfold OX at ih ⊢
   rw [List.map_append,List.sum_append,ih,List.map_cons,List.sum_cons]
   congr 1
   unfold E2
   split
   ·simp
   ·simp; omega
theorem Lm {α:Type}(U:List α) (f:α→Nat) (h:∀ a∈U,f a=0):(U.map f).sum=0:=by
 induction U with
 | nil=>rfl
 | cons a U ih=>rw [List.map_cons,List.sum_cons,h a AD,ih (fun b hb=>h b (by simp [hb]))]
theorem Qj {α:Type}(U:List α) (f g:α→Nat):(U.map (fun a=>f a+g a)).sum=(U.map f).sum+(U.map g).sum:=by
 induction U with
 | nil=>rfl
 | cons a U ih=>simp only [List.map_cons,List.sum_cons,ih]; omega
theorem Uy {U:List Tag}(hU:U.Nodup){t:Tag}(ht:t∈U):(U.map (fun u=>if t==u then 1 else 0)).sum=1:=by
 induction U with
 | nil=>cases ht
 | cons a U ih =>
   rw [List.map_cons,List.sum_cons]
   obtain ⟨h1,h2⟩:=List.nodup_cons.1 hU
   rcases List.mem_cons.1 ht with rfl | ht
   ·rw [Lm U _ (fun b hb=>by
     have:¬ (t==b)=true:=fun e=>h1 (by rw [eq_of_beq e]; exact hb)
     simp only [this]; rfl)]
    simp
   ·have:¬ (t==a)=true:=fun e=>h1 (by rw [← eq_of_beq e]; exact ht)
    rw [ih h2 ht,if_neg this]
theorem Uz {U:List Tag}(hU:U.Nodup):∀ (n:List Tag),n.Nodup→(∀ t∈n,t∈U)→(U.map (fun u=>if has n u then 1 else 0)).sum=n.length:=by
 intro n
 induction n with
 | nil=>intro _ _; exact Lm U _ (fun a _=>by simp [has])
 | cons t ts ih =>
   intro hn hm
   obtain ⟨h1,h2⟩:=List.nodup_cons.1 hn
   have e:(U.map (fun u=>if has (t::ts) u then 1 else 0))=U.map (fun u=>(if t==u then 1 else 0)+(if has ts u then 1 else 0)):=by
    apply List.map_congr_left
    intro u _
    by_cases hu:(t==u)=true
    ·have h3:has ts u=false:=by
      rw [← eq_of_beq hu]
      unfold has
      rw [List.any_eq_false]
      intro x hx hxt
      exact h1 (by rw [← eq_of_beq hxt]; exact hx)
     simp [has,hu]
     unfold has at h3
     rw [List.any_eq_false] at h3
     exact fun hm=>h3 u hm AD
    ·simp [has,hu]
   rw [e,Qj,Uy hU (hm t AD),ih h2 (fun x hx=>hm x (by simp [hx])),List.length_cons]
   omega
theorem OZ:FI.Nodup:=JH.imp (fun {a b} h e=>by
 subst e
 unfold DM at h
 simp [H7] at h)
theorem Su {names:List (List Tag)}(h:∀ n∈names,As n=true):OX (Cr names)=Ll names:=by
 rw [OY]
 unfold ids
 have e:(FI.map (fun t=>(Fp t 0 names).length))=FI.map (fun t=>(names.map (fun n=>if has n t then 1 else 0)).sum):=by
  apply List.map_congr_left
  intro t _
  exact Sr t names 0
 rw [e]
 clear e
 induction names with
 | nil=>exact Lm _ _ (fun _ _=>rfl)
 | cons n ns ih =>
   have e:(FI.map (fun t=>((n::ns).map (fun n=>if has n t then 1 else 0)).sum))=FI.map (fun t=>(if has n t then 1 else 0)+(ns.map (fun n=>if has n t then 1 else 0)).sum):=by
    apply List.map_congr_left
    intro t _
    rfl
   have g:=Gx (h n AD)
   rw [e,Qj,Uz OZ n g.1 g.2,ih (fun m hm=>h m (by simp [hm]))]
   rfl
end Go.Proofs.YtckdhcbbgmiccaaGreat
namespace Go.Proofs.YtckdhcbbgmiccaaGreat
theorem Sv {names:List (List Tag)}(h:(names.map text).Nodup){i k:Nat}{x y:List Tag}(hx:names[i]? = some x) (hy:names[k]? = some y) (hk:k< i):¬ (text x=text y):=by
 intro e
 have h1:(names.map text)[i]? = some (text x):=by rw [List.getElem?_map,hx]; rfl
 have h2:(names.map text)[k]? = some (text y):=by rw [List.getElem?_map,hy]; rfl
 obtain ⟨g1,g2⟩:=List.getElem?_eq_some_iff.1 h1
 obtain ⟨g3,g4⟩:=List.getElem?_eq_some_iff.1 h2
 exact (List.pairwise_iff_getElem.1 h) k i g3 g1 hk (by rw [g2,g4,e])
theorem K8 (names:List (List Tag)) (t:Tag):(ids names t).length≤names.length:=by
 unfold ids
 have:∀ (ns:List (List Tag)) (i:Nat),(Fp t i ns).length≤ns.length:=by
  intro ns
  induction ns with
  | nil=>intro i; simp [Fp]
  | cons n ns ih =>
    intro i
    have:=ih (i+1)
    rw [Fp,List.length_append,List.length_cons]
    split <;> simp <;> omega
 exact this names 0
theorem Nd {α:Type}{f:α→Nat}{l:List α}{i:Nat}{x:α}(h:l[i]? = some x):((l.take (i+1)).map f).sum=((l.take i).map f).sum+f x:=by
 obtain ⟨h1,h2⟩:=List.getElem?_eq_some_iff.1 h
 rw [List.take_add_one,h]
 simp
theorem Ph {names:List (List Tag)}{i:Nat}{x y:Pst}(hx:(Cr names)[i]? = some x) (hy:(Cr names)[i - 1]? = some y) (hi:0< i):DM y.tag x.tag=true:=by
 have h:=JI names
 rw [List.pairwise_iff_getElem] at h
 obtain ⟨g1,g2⟩:=List.getElem?_eq_some_iff.1 hx
 obtain ⟨g3,g4⟩:=List.getElem?_eq_some_iff.1 hy
 have:=h (i - 1) i g3 g1 AB
 rw [g2,g4] at this
 exact this
theorem Mm (names:List (List Tag)):(Cr names).length≤44:=by
 rw [Fe]
 have h:∀ U:List Tag,(U.flatMap (E2 names)).length≤U.length:=by
  intro U
  induction U with
  | nil=>simp
  | cons t ts ih =>
    rw [List.flatMap_cons,List.length_append,List.length_cons]
    have:(E2 names t).length≤1:=by unfold E2; split <;> simp
    omega
 have h2:FI.length=44:=by decide +kernel
 have:=h FI
 omega
theorem Wx {x:Idx}(h:IxI x):OX x.AY=Ll x.names:=by rw [h.AY]; exact Su h.nm.ok
end Go.Proofs.YtckdhcbbgmiccaaGreat
