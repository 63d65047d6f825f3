/- walks; pruned haves; hints pruned; squeezed -/
import Derived.Test.YtcginoabkicdiaaGreatPzzD93
import Derived.Test.YtcginoabkicdiaaGreatPzzW20
open Go.Proofs.Tryz
set_option linter.unusedVariables false
set_option linter.unusedSimpArgs false
namespace Go.Proofs.YtcginoabkicdiaaGreat
set_option maxRecDepth 100000
set_option maxHeartbeats 4000000
variable {w:World} {F:Nat→Prop} {a1 a2 a3 a4:Option Addr} {n1 c1 n2 c2 n3 c3 n4 c4:Nat}
theorem Ju (names:List (List Tag)) (h1:RepS w F a1 n1 c1 names) (p0:NmG names):Calls Tryz.prog 210 [.slice a1 n1 c1].toArray w (Ag fun rv w'=>rv=.bool (nmB names)∧Ext w w'):=by
 cases h1.len
 refine goT func210 ?_
 have Z:=(St.i0 F w).p h1
 have ah:=h1.max
 refine .s<|.g<|.r 1<|.d<|.s<|.s<|.g<|.r 3<|.d<|.b 0<|T.Lp (0:Nat) (fun k=>([(0,.slice a1 names.length c1),(5,.slice a1 names.length c1),(6,vI (names.length:Int)),(7,vI (k:Int))],[],[],names.length - k,(k≤names.length)∧(SJ names k))) [] Z ⟨AD,(by exact V3 _)⟩ ?_
 rintro k ao w Z ⟨ai,aj⟩ ab
 refine .s<|.g<|.bp ((k:Int)< (names.length:Int)) (fun ae=>?_) (fun ae=>.d<|.s<|.cf<|.x 0 rfl<|.s<|.g<|.r 4<|.d<|T.rt func210 results210 (.bool (decide ((names.length:Int)≤6))) ⟨(AG (by exact SK ‹_› AB)),Z.xt⟩)
 refine .d<|.s<|.ct<|.sk<|.s<|.b 1<|.s<|.g<|.r 1<|gx names k fun ac aa=>?_
 refine RG.Ix 0 aa Z<|Z.el 0 aa fun aq ar Z=>RG.Lh 0 0 Z<|.r 2<|.d<|.s<|.g<|.r 1<|RG.C0 (FG ac (Z.a 1)) Z fun w Z=>?_
 cases am:(At ac)
 ·exact .r 9<|.d<|.ct<|.s<|.g<|.r 1<|.d<|T.rt func210 results210 (.bool false) ⟨(AG (by exact P9 ‹_› (.inl ‹_›))),Z.xt⟩
 exact .r 4<|RG.C0 (GK names ac (Z.a 2) (Z.a 1)) Z fun w Z=>.r 1<|.it ((k:Int)+1)<|.ne (DP ac 0 names+1) ((k:Int)+1) (fun af=>.r 1<|.d<|.ct<|.s<|.g<|.r 1<|.d<|T.rt func210 results210 (.bool false) ⟨(AG (by exact P9 ‹_› (.inr ‹_›))),Z.xt⟩) fun af=>.r 1<|.d<|.cf<|.sk<|.ib 1<|.g<|.it ((k:Int)+1)<|.r 1<|.d<|ab (k+1) _ _ AA (Z.to 0 [] 2) ⟨AB,(by exact Qp ‹_› ‹_› ‹_› ‹_›)⟩ (by (simp only []; omega))
theorem GM (ix:Idx) (h1:RepS w F a1 n1 c1 ix.names) (h2:RepS w F a2 n2 c2 ix.AY) (p0:IxG ix):Calls Tryz.prog 175 [.agg #[.slice a1 n1 c1,.slice a2 n2 c2]].toArray w (Ag fun rv w'=>rv=.bool (nmB ix.names)∧Ext w w'):=by
 cases h1.len
 cases h2.len
 refine goT func175 ?_
 have Z:=((St.i0 F w).p h1).p h2
 refine .s<|.g<|RG.Np Z fun ae w Z=>.r 1<|.d<|.s<|T.Gd 10 Z fun w Z=>.r [0]<|GA.Lb 1 0 Z<|GA.C0 2 Z (fun w Z=>Ju ix.names (Z.a 1) p0.g) ?_
 cases ac:(nmB ix.names)
 ·exact .r [3]<|GA.Sk Z fun w Z=>.r 3<|.d<|T.rt func175 results175 (.bool false) ⟨(AG AF),Z.xt⟩
 exact .r [3,4]<|GA.Lb 5 0 Z<|.r [6]<|GA.Lb 7 0 Z<|.go 8<|GE.CS (fun w Z=>Kp ix.names (Z.a 1) (EB.1 ‹_›) p0.g.nd) Z fun af ag ah ai w Z=>.r [9]<|GA.Dn Z fun w Z=>RG.C0 (IG ix.AY ((idxOf ix.names).AY) (Z.a 2) (Z.a 1)) Z fun w Z=>.r 2<|.d<|T.rt func175 results175 (.bool (ix.AY==((idxOf ix.names).AY))) ⟨(AG (by (have p9:=p0.ix (EB.1 ‹_›); rw [p9.AY]; simp [idxOf]; done))),Z.xt⟩
theorem Eb (s:Sto) (h1:RepS w F a1 n1 c1 s.idx.names) (h2:RepS w F a2 n2 c2 s.idx.AY) (h3:RepS w F a3 n3 c3 s.parts) (h4:RepS w F a4 n4 c4 s.mem) (p0:SG s):Calls Tryz.prog 121 [.agg #[.slice a1 n1 c1,.slice a2 n2 c2,.slice a3 n3 c3,.slice a4 n4 c4]].toArray w (Ag fun rv w'=>rv=.bool (nmB s.idx.names&&Ae s)∧Ext w w'):=by
 cases h1.len
 cases h2.len
 cases h3.len
 cases h4.len
 refine goT func121 ?_
 have Z:=((((St.i0 F w).p h1).p h2).p h3).p h4
 have aC:=h1.max
 have aE:=h3.max
 have aF:=h4.max
 refine .s<|.g<|RG.Np Z fun aj w Z=>.r 1<|.d<|.s<|.s<|.g<|.r 1<|RG.Ln 0 Z<|RG.C0 (GM s.idx (Z.a 3) (Z.a 2) p0.ix) Z fun w Z=>?_
 cases aG:(nmB s.idx.names)
 ·exact .r 13<|.d<|.ct<|.s<|.g<|.r 1<|.d<|T.rt func121 results121 (.bool false) ⟨(AG AF),Z.xt⟩
 refine .r 3<|RG.Lb 0 Z<|.r 1<|.bp ((s.parts.length:Int) > 6) (fun ak=>.r 7<|.d<|.ct<|.s<|.g<|.r 1<|.d<|T.rt func121 results121 (.bool false) ⟨(AG (by (rw [Bool.true_and]; symm; exact MB AB))),Z.xt⟩) fun ak=>.r 3<|RG.Lb 0 Z<|.r 1<|.bp ((s.mem.length:Int) > 20) (fun am=>.r 1<|.d<|.ct<|.s<|.g<|.r 1<|.d<|T.rt func121 results121 (.bool false) ⟨(AG (by (rw [Bool.true_and]; symm; exact MB AB))),Z.xt⟩) fun am=>.r 1<|.d<|.cf<|.sk<|.s<|.g<|.r 2<|RG.Lb 0 Z<|.r 2<|.d<|.s<|.s<|.g<|.r 1<|RG.Lb 0 Z<|.r 2<|.d<|.b 0<|T.Lp (0:Nat) (fun k=>([(1,vP aj),(3,vI (s.idx.names.length:Int)),(30,.slice a3 s.parts.length c3),(31,vI (s.parts.length:Int)),(32,vI (k:Int))],[],[],s.parts.length - k,(k≤s.parts.length)∧((s.parts.drop k).all (fun p=>Bj p s.idx.names.length)=s.parts.all (fun p=>Bj p s.idx.names.length))∧(nmB s.idx.names=true))) [] Z ⟨AD,AF,‹_›⟩ ?_
 rintro k ba w Z ⟨aH,aI,aJ⟩ ac
 refine .s<|.g<|.bp ((k:Int)< (s.parts.length:Int)) (fun ao=>?_) (fun ao=>?_)
 ·refine .d<|.s<|.ct<|.sk<|.s<|.b 1<|.s<|.g<|gx s.parts k fun ae aa=>?_
  have aK:=AZ aa
  refine RG.Ix 1 aa Z<|Z.el 1 aa fun bg bh bi bj Z=>RG.Lg 0 0 Z<|RG.Np Z fun bk w Z=>RG.Ss 0 Z fun w Z=>.d<|.s<|.g<|RG.Ln 0 Z<|RG.C0 (Cu ae (Z.a 1) (Z.a 2)) Z fun w Z=>?_
  cases aL:(Am ae)
  ·exact .r 14<|.d<|.ct<|.s<|.g<|.r 1<|.d<|T.rt func121 results121 (.bool false) ⟨(AG (by (rw [Bool.true_and]; symm; exact I3 (MA ‹_› ‹_› (by exact R6 ‹_›))))),Z.xt⟩
  exact .r 3<|RG.Lb 0 Z<|.r 1<|.eq (ae.ids.length:Int) 0 (fun aq=>.r 8<|.d<|.ct<|.s<|.g<|.r 1<|.d<|T.rt func121 results121 (.bool false) ⟨(AG (by (rw [Bool.true_and]; symm; exact I3 (MA ‹_› ‹_› (by exact R7 ‹_›))))),Z.xt⟩) fun aq=>.r 3<|RG.Lb 0 Z<|RG.C0 (Gm ae.ids (Z.a 1) AB) Z fun w Z=>.r 1<|.bp (maxOf ae.ids > (s.idx.names.length:Int)) (fun ar=>.r 1<|.d<|.ct<|.s<|.g<|.r 1<|.d<|T.rt func121 results121 (.bool false) ⟨(AG (by (rw [Bool.true_and]; symm; exact I3 (MA ‹_› ‹_› (by exact R8 ‹_› ‹_› ‹_›))))),Z.xt⟩) fun ar=>.r 1<|.d<|.cf<|.sk<|.ib 1<|.g<|RG.int ((k:Int)+1) AA (by have:=p0.ix.g.len; omega)<|.r 1<|.d<|ac (k+1) _ _ AA (Z.to 1 [] 3) ⟨AB,(by exact M7 ‹_› ‹_› (R9 ‹_› ‹_› ‹_›)),‹_›⟩ (by (simp only []; omega))
 refine .d<|.s<|.cf<|.x 0 rfl<|.s<|.s<|.g<|.r 1<|RG.Lb 0 Z<|.r 2<|.d<|.b 2<|T.Lp (0:Nat) (fun k=>([(1,vP aj),(3,vI (s.idx.names.length:Int)),(54,.slice a4 s.mem.length c4),(55,vI (s.mem.length:Int)),(56,vI (k:Int))],[],[],s.mem.length - k,(k≤s.mem.length)∧(s.parts.all (fun p=>Bj p s.idx.names.length)=true)∧((s.mem.drop k).all (Ed s.idx.names.length)=s.mem.all (Ed s.idx.names.length))∧(nmB s.idx.names=true))) [] Z ⟨AD,(by exact PA ‹_› AB),AD,‹_›⟩ ?_
 rintro k bm w Z ⟨aM,aN,aO,aP⟩ af
 refine .s<|.g<|.bp ((k:Int)< (s.mem.length:Int)) (fun ax=>?_) (fun ax=>?_)
 ·refine .d<|.s<|.ct<|.sk<|.s<|.b 3<|.s<|.g<|gx s.mem k fun ah ab=>?_
  have aQ:=AZ ab
  refine RG.Ix 0 ab Z<|Z.el 0 ab fun Z=>RG.Lg 0 0 Z<|RG.Np Z fun bn w Z=>RG.Ss 0 Z fun w Z=>.d<|.s<|.g<|.r 1<|RG.Lb 0 Z<|.r 1<|RG.C0 (Bz ah.id 1 (s.idx.names.length:Int) (F:=all)) Z fun w Z=>?_
  cases ai:(inR ah.id 1 (s.idx.names.length:Int))
  ·exact .r 7<|.d<|.ct<|.s<|.g<|.r 1<|.d<|T.rt func121 results121 (.bool false) ⟨(AG (by (rw [Bool.true_and]; symm; exact MC (MA ‹_› ‹_› (by simp [Ed, *]))))),Z.xt⟩
  refine .r 3<|RG.Ln 0 Z<|RG.C0 (Fv ah.row (F:=all)) Z fun w Z=>?_
  cases aT:(BU ah.row)
  ·exact .r 2<|.d<|.ct<|.s<|.g<|.r 1<|.d<|T.rt func121 results121 (.bool false) ⟨(AG (by (rw [Bool.true_and]; symm; exact MC (MA ‹_› ‹_› (by simp [Ed, *]))))),Z.xt⟩
  exact .r 2<|.d<|.cf<|.sk<|.ib 3<|.g<|RG.int ((k:Int)+1) AA (by have:=p0.ix.g.len; omega)<|.r 1<|.d<|af (k+1) _ _ AA (Z.to 1 [] 1) ⟨AB,‹_›,(by exact M7 ‹_› ‹_› (by simp only [Ed, *]; rfl)),‹_›⟩ (by (simp only []; omega))
 refine .d<|.s<|.cf<|.x 2 rfl<|.s<|.s<|.g<|.r 1<|.d<|.b 4<|T.Lp (1:Nat) (fun k=>([(1,vP aj),(3,vI (s.idx.names.length:Int)),(8,vI (k:Int))],[],[],s.idx.names.length+1 - k,(1≤k)∧(k≤s.idx.names.length+1)∧(s.parts.all (fun p=>Bj p s.idx.names.length)=true)∧(s.mem.all (Ed s.idx.names.length)=true)∧(((List.range s.idx.names.length).drop (k - 1)).all (Ee s)=(List.range s.idx.names.length).all (Ee s))∧(nmB s.idx.names=true))) [] Z ⟨AB,AB,‹_›,(by exact PA ‹_› AB),AF,‹_›⟩ ?_
 rintro k bo w Z ⟨aU,aV,aW,aX,aY,aZ⟩ ag
 exact .s<|.s<|.g<|.r 2<|.bp ((k:Int)≤(s.idx.names.length:Int)) (fun ay=>.d<|.ct<|.sk<|.s<|.b 5<|.s<|.g<|RG.Ln 0 Z<|.r 1<|RG.CL (IS s (k:Int) (Z.a 3) (Z.a 2) (Z.a 1) (Z.a 0) (SG.pt p0 ‹_›) (StoK.rw ‹_›) (by have:=p0.np; omega) (by have:=p0.nm2; omega)) Z fun bq br w Z=>.r 1<|.bp ((((rowsOf s (k:Int)).length):Int) > 24) (fun az=>.d<|.ct<|.s<|.g<|.r 1<|.d<|T.rt func121 results121 (.bool false) ⟨(AG (by (rw [Bool.true_and]; symm; exact Qh (Ws ‹_› AB AB AB)))),Z.xt⟩) fun az=>.d<|.cf<|.sk<|.ib 5<|.g<|.r 1<|RG.int ((k:Int)+1) AA (by have:=p0.ix.g.len; omega)<|.r 1<|.d<|ag (k+1) _ _ AA (Z.to 0 [] 1) ⟨AB,AB,‹_›,‹_›,(by exact Tg ‹_› AB AB AB),‹_›⟩ (by (simp only []; omega))) fun ay=>.d<|.cf<|.x 4 rfl<|.s<|.g<|.r 1<|.d<|T.rt func121 results121 (.bool true) ⟨(AG (by rw [Bool.true_and]; symm; exact Qi AB AB ‹_› ‹_› (Vf ‹_› AB))),Z.xt⟩
end Go.Proofs.YtcginoabkicdiaaGreat
namespace Go.Proofs.YtcginoabkicdiaaGreat
set_option maxRecDepth 100000
set_option maxHeartbeats 4000000
variable {w:World} {F:Nat→Prop} {a1 a2 a3 a4:Option Addr} {n1 c1 n2 c2 n3 c3 n4 c4:Nat}
theorem Kt (ix:Idx) (h1:RepS w F a1 n1 c1 ix.names) (h2:RepS w F a2 n2 c2 ix.AY) (p0:IxI ix) (p1:NsD ix.names):Calls Tryz.prog 175 [.agg #[.slice a1 n1 c1,.slice a2 n2 c2]].toArray w (Ag fun rv w'=>rv=.bool (true)∧Ext w w'):=by
 refine (GM ix h1 h2 ⟨NmG.of p0.nm p1,fun _=>p0.eq⟩).mono ?_
 rintro e w' ⟨v,rfl,hv,hx⟩
 exact ⟨v,rfl,by rw [hv,EB.2 p0.nm],hx⟩
theorem E5 (s:Sto) (h1:RepS w F a1 n1 c1 s.idx.names) (h2:RepS w F a2 n2 c2 s.idx.AY) (h3:RepS w F a3 n3 c3 s.parts) (h4:RepS w F a4 n4 c4 s.mem) (p0:SD s):Calls Tryz.prog 121 [.agg #[.slice a1 n1 c1,.slice a2 n2 c2,.slice a3 n3 c3,.slice a4 n4 c4]].toArray w (Ag fun rv w'=>rv=.bool (Ae s)∧Ext w w'):=by
 refine (Eb s h1 h2 h3 h4 (SG.of p0)).mono ?_
 rintro e w' ⟨v,rfl,hv,hx⟩
 exact ⟨v,rfl,by rw [hv,EB.2 p0.nm,Bool.true_and],hx⟩
end Go.Proofs.YtcginoabkicdiaaGreat
namespace Go.Proofs.YtcginoabkicdiaaGreat
def look (t:Int) (b:List Row):Option Row:=b.find? (fun r=>r.t==t)
theorem SL (t:Int):look t []=none:=rfl
theorem BZ (t:Int) (r:Row) (b:List Row):look t (r::b)=if r.t=t then some r else look t b:=by
 unfold look
 rw [List.find?_cons]
 by_cases h:r.t=t
 ·simp [h]
 ·have:(r.t==t)=false:=beq_eq_false_iff_ne.2 h
  rw [this,if_neg h]
theorem N9 (t:Int) (r:Row):∀ (b:List Row),look t (Cr r b)=if r.t=t then some r else look t b:=by
 intro b
 induction b with
 | nil=>unfold Cr; rw [BZ]
 | cons x xs ih =>
   unfold Cr
   by_cases h1:r.t< x.t
   ·rw [if_pos h1,BZ]
   ·rw [if_neg h1]
    by_cases h2:r.t=x.t
    ·rw [if_pos h2,BZ,BZ]
     by_cases h:r.t=t
     ·rw [if_pos h,if_pos h]
     ·rw [if_neg h,if_neg h,if_neg AB]
    ·rw [if_neg h2,BZ,ih,BZ]
     by_cases h:r.t=t
     ·rw [if_pos h,if_neg AB,if_pos h]
     ·rw [if_neg h,if_neg h]
theorem Blk.tl {r:Row}{b:List Row}(h:Blk (r::b)):Blk b∧BU r=true∧∀ q∈b,r.t< q.t:=by
 obtain ⟨h1,_,h3⟩:=BY.1 h
 exact ⟨Nr h3,h1,L4 b r h3⟩
theorem JD {t:Int}:∀ {b:List Row},(∀ q∈b,t≠q.t)→look t b=none:=by
 intro b
 induction b with
 | nil=>intro _; rfl
 | cons x xs ih =>
   intro h
   rw [BZ,if_neg (fun e=>h x AD e.symm)]
   exact ih (fun q hq=>h q (by simp [hq]))
theorem JE {t:Int}{q:Row}:∀ {b:List Row},look t b=some q→q.t=t∧q∈b:=by
 intro b h
 have h1:=List.find?_some h
 exact ⟨by simpa using h1,List.mem_of_find?_eq_some h⟩
theorem CX (t:Int):∀ {b:List Row}(o:List Row),Blk o→Blk b→look t (Bb o b)=(look t b).or (look t o):=by
 intro b
 induction b with
 | nil=>intro o _ _; rfl
 | cons x xs ih =>
   intro o ho hb
   obtain ⟨h1,h2,h3⟩:=hb.tl
   have e:Bb o (x::xs)=Bb (EG o x) xs:=rfl
   rw [e,ih _ (ho.put h2) h1,FU ho,N9,BZ]
   by_cases h:x.t=t
   ·rw [if_pos h,if_pos h,JD (fun q hq=>by have:=h3 q hq; omega)]
    rfl
   ·rw [if_neg h,if_neg h]
theorem Ku:∀ {a b:List Row},Blk a→Blk b→(∀ t,look t a=look t b)→a=b:=by
 intro a
 induction a with
 | nil =>
   intro b _ _ h
   cases b with
   | nil=>rfl
   | cons y ys =>
     have:=h y.t
     rw [BZ,if_pos rfl] at this
     cases this
 | cons x xs ih =>
   intro b ha hb h
   cases b with
   | nil =>
     have:=h x.t
     rw [BZ,if_pos rfl] at this
     cases this
   | cons y ys =>
     obtain ⟨a1,_,a3⟩:=ha.tl
     obtain ⟨b1,_,b3⟩:=hb.tl
     have hx:=h x.t
     have hy:=h y.t
     rw [BZ,if_pos rfl,BZ] at hx
     rw [BZ,BZ,if_pos rfl] at hy
     by_cases e:x.t=y.t
     ·rw [if_pos e.symm] at hx
      cases hx
      congr 1
      refine ih a1 b1 (fun t=>?_)
      have ht:=h t
      rw [BZ,BZ] at ht
      by_cases e2:x.t=t
      ·rw [JD (fun q hq=>by have:=a3 q hq; omega),JD (fun q hq=>by have:=b3 q hq; omega)]
      ·rw [if_neg e2,if_neg e2] at ht
       exact ht
     ·rw [if_neg (fun e2=>e e2.symm)] at hx
      rw [if_neg e] at hy
      have h1:=b3 x (JE hx.symm).2
      have h2:=a3 y (JE hy).2
      omega
theorem ND:∀ {b a:List Row},Blk a→Blk b→(∀ t,(look t a).isSome=true→(look t b).isSome=true)→a.length≤b.length:=by
 intro b
 induction b with
 | nil =>
   intro a _ _ h
   cases a with
   | nil=>exact Nat.le_refl _
   | cons x xs =>
     have:=h x.t (by rw [BZ,if_pos rfl]; rfl)
     cases this
 | cons y ys ih =>
   intro a ha hb h
   obtain ⟨b1,_,b3⟩:=hb.tl
   cases a with
   | nil=>simp
   | cons x xs =>
     obtain ⟨a1,_,a3⟩:=ha.tl
     have hx:=h x.t (by rw [BZ,if_pos rfl]; rfl)
     rw [BZ] at hx
     by_cases e:y.t=x.t
     ·simp only [List.length_cons]
      refine Nat.succ_le_succ (ih a1 b1 (fun t ht=>?_))
      obtain ⟨q,hq⟩:=Option.isSome_iff_exists.1 ht
      have hq2:=JE hq
      have h4:=a3 q hq2.2
      have h5:=h t (by rw [BZ,if_neg AB]; exact ht)
      rw [BZ,if_neg AB] at h5
      exact h5
     ·rw [if_neg e] at hx
      obtain ⟨q,hq⟩:=Option.isSome_iff_exists.1 hx
      have hq2:=JE hq
      have h4:=b3 q hq2.2
      refine Nat.le_succ_of_le (ih ha b1 (fun t ht=>?_))
      obtain ⟨u,hu⟩:=Option.isSome_iff_exists.1 ht
      have hu2:=JE hu
      have h6:x.t≤u.t:=by
       rcases List.mem_cons.1 hu2.2 with e2 | hm
       ·rw [e2]; exact Int.le_refl _
       ·have:=a3 u hm; omega
      have h5:=h t ht
      rw [BZ,if_neg AB] at h5
      exact h5
theorem NE {a b c:List Row}(ha:Blk a) (hb:Blk b) (hc:Blk c):Bb (Bb a b) c=Bb a (Bb b c) :=
 Ku ((ha.merge hb).merge hc) (ha.merge (hb.merge hc)) (fun t=>by
  rw [CX t _ (ha.merge hb) hc,CX t _ ha hb,CX t _ ha (hb.merge hc),CX t _ hb hc,Option.or_assoc])
theorem Kv (a:List Row):Bb a []=a:=rfl
theorem Kw {a:List Row}(h:Blk a):Bb [] a=a:=Ku (Blk.nil.merge h) h (fun t=>by rw [CX t _ Blk.nil h,SL]; simp)
theorem SM (id:Int):∀ (bs:List (List Row)) (i:Nat),Ba id (BM i bs).1 (BM i bs).2=if (i:Int)+1≤id then bs.getD (id - i - 1).toNat [] else []:=by
 intro bs
 induction bs with
 | nil=>intro i; simp [BM,Ba]
 | cons b bs ih =>
   intro i
   have h1:=ih (i+1)
   unfold BM
   by_cases hb:b.length > 0
   ·rw [if_pos hb]
    unfold Ba
    by_cases he:(i:Int)+1=id
    ·rw [if_pos (by simpa using he),if_pos AB,show (id - i - 1).toNat=0 by omega]
     rfl
    ·rw [if_neg (by simpa using he),h1]
     by_cases h2:(i:Int)+1≤id
     ·rw [if_pos AB,if_pos h2,show (id - i - 1).toNat=(id - (i+1:Nat) - 1).toNat+1 by omega]
      rfl
     ·rw [if_neg AB,if_neg h2]
   ·rw [if_neg hb,h1]
    have:b=[]:=List.length_eq_zero_iff.1 AB
    subst this
    by_cases h2:(i:Int)+1≤id
    ·rw [if_pos h2]
     by_cases he:(i:Int)+1=id
     ·rw [if_neg AB,show (id - i - 1).toNat=0 by omega]
      rfl
     ·rw [if_pos AB,show (id - i - 1).toNat=(id - (i+1:Nat) - 1).toNat+1 by omega]
      rfl
    ·rw [if_neg AB,if_neg h2]
theorem OA (bs:List (List Row)){id:Int}(h:1≤id):partOf (Dy bs) id=bs.getD (id - 1).toNat []:=by
 unfold partOf Dy
 have:=SM id bs 0
 rw [if_pos AB] at this
 rw [this,show (id - (0:Nat) - 1)=id - 1 by omega]
theorem DC:∀ (bs:List (List Row)) (i:Nat) (b:List Row),BM i (bs++[b])=if b.length > 0 then ((BM i bs).1++[(i:Int)+bs.length+1],(BM i bs).2++[b]) else BM i bs:=by
 intro bs
 induction bs with
 | nil=>intro i b; simp [BM]
 | cons x xs ih =>
   intro i b
   rw [List.cons_append]
   have h1:=ih (i+1) b
   unfold BM
   rw [h1]
   by_cases hb:b.length > 0
   ·rw [if_pos hb,if_pos hb]
    simp only [List.length_cons]
    split <;> simp <;> omega
   ·rw [if_neg hb,if_neg hb]
def EI (mem:List Smp):Sto:=⟨⟨[],[]⟩,[],mem⟩
def DK (mem:List Smp) (n:Nat):List (List Row):=(List.range n).map (fun (i:Nat)=>rowsOf (EI mem) ((i:Int)+1))
theorem G3 (mem:List Smp) (n:Nat):(DK mem n).length=n:=by simp [DK]
theorem Qq (mem:List Smp) (n:Nat):DK mem (n+1)=DK mem n++[rowsOf (EI mem) ((n:Int)+1)]:=by simp [DK,List.range_succ]
theorem Qr (mem:List Smp) (m:Smp) (h:1≤m.id∧m.id≤6):DK (mem++[m]) 6=GQ (DK mem 6) m:=by
 have key:∀ id:Int,rowsOf (EI (mem++[m])) id=CJ id (rowsOf (EI mem) id) m:=fun id=>by
  unfold rowsOf EI
  simp only [List.foldl_append,List.foldl_cons,List.foldl_nil]
 refine List.ext_getElem? (fun i=>?_)
 unfold GQ
 rw [List.getElem?_set]
 by_cases hi:i< 6
 ·have e:∀ mem:List Smp,(DK mem 6)[i]? = some (rowsOf (EI mem) ((i:Int)+1)):=fun mem=>by unfold DK; rw [List.getElem?_map,List.getElem?_range hi]; rfl
  rw [e,key]
  by_cases h2:(m.id - 1).toNat=i
  ·rw [if_pos h2,if_pos (by rw [G3]; omega),List.getD_eq_getElem?_getD,h2,e]
   unfold CJ
   rw [if_pos (by simp; omega)]
   rfl
  ·rw [if_neg h2,e]
   unfold CJ
   rw [if_neg (by simp; omega)]
 ·rw [List.getElem?_eq_none (by rw [G3]; omega),if_neg AB,List.getElem?_eq_none (by rw [G3]; omega)]
theorem UC {mem:List Smp}(h:∀ m∈mem,1≤m.id∧m.id≤6):mem.foldl GQ [[],[],[],[],[],[]]=DK mem 6:=by
 have key:∀ (ms pre:List Smp),(∀ m∈ms,1≤m.id∧m.id≤6)→ms.foldl GQ (DK pre 6)=DK (pre++ms) 6:=by
  intro ms
  induction ms with
  | nil=>intro pre _; simp
  | cons m ms ih =>
    intro pre h
    rw [List.foldl_cons,← Qr pre m (h m AD),ih (pre++[m]) (fun q hq=>h q (by simp [hq]))]
    simp
 have:=key mem [] h
 rw [List.nil_append] at this
 rw [← this]
 rfl
theorem Hu {mem:List Smp}(h:∀ m∈mem,1≤m.id∧m.id≤6):Ah mem=Dy (DK mem 6):=by unfold Ah; rw [UC h]
theorem PK {mem:List Smp}(h:∀ m∈mem,1≤m.id∧m.id≤6){id:Int}(h1:1≤id) (h2:id≤6):partOf (Ah mem) id=rowsOf (EI mem) id:=by
 rw [Hu h,OA _ h1,List.getD_eq_getElem?_getD]
 unfold DK
 rw [List.getElem?_map,List.getElem?_range AB]
 simp only [Option.map_some,Option.getD_some]
 rw [show (((id - 1).toNat:Nat):Int)+1=id by omega]
def IT (t id:Int) (mem:List Smp) (x:Option Row):Option Row:=mem.foldl (fun acc m=>if m.id=id∧m.row.t=t then some m.row else acc) x
theorem SN (t id:Int):∀ (mem:List Smp) (x:Option Row),IT t id mem x=(IT t id mem none).or x:=by
 intro mem
 induction mem with
 | nil=>intro x; rfl
 | cons m ms ih =>
   intro x
   unfold IT at ih ⊢
   rw [List.foldl_cons,List.foldl_cons]
   by_cases h:m.id=id∧m.row.t=t
   ·rw [if_pos h,if_pos h,ih (some m.row)]
    cases List.foldl (fun acc m=>if m.id=id∧m.row.t=t then some m.row else acc) none ms <;> rfl
   ·rw [if_neg h,if_neg h,ih x]
theorem EC (t id:Int):∀ (mem:List Smp) (o:List Row),(∀ m∈mem,BU m.row=true)→Blk o→look t (mem.foldl (CJ id) o)=IT t id mem (look t o)∧Blk (mem.foldl (CJ id) o):=by
 intro mem
 induction mem with
 | nil=>intro o _ ho; exact ⟨rfl,ho⟩
 | cons m ms ih =>
   intro o h ho
   have h1:Blk (CJ id o m):=by
    unfold CJ
    split
    ·exact ho.put (h m AD)
    ·exact ho
   obtain ⟨h2,h3⟩:=ih (CJ id o m) (fun q hq=>h q (by simp [hq])) h1
   refine ⟨?_,h3⟩
   rw [List.foldl_cons,h2]
   unfold IT
   rw [List.foldl_cons]
   congr 1
   by_cases hid:m.id=id
   ·rw [ME hid ho,N9]
    by_cases ht:m.row.t=t
    ·rw [if_pos ht,if_pos ⟨hid,ht⟩]
    ·rw [if_neg ht,if_neg (fun e=>ht e.2)]
   ·rw [Gy hid,if_neg (fun e=>hid e.1)]
theorem mem_merge {id:Int}{mem:List Smp}{o:List Row}(h:∀ m∈mem,BU m.row=true) (ho:Blk o):mem.foldl (CJ id) o=Bb o (rowsOf (EI mem) id):=by
 have a:=fun t=>(EC t id mem o h ho).1
 have b:=fun t=>(EC t id mem [] h Blk.nil).1
 have bb:Blk (rowsOf (EI mem) id):=(EC 0 id mem [] h Blk.nil).2
 refine Ku (EC 0 id mem o h ho).2 (ho.merge bb) (fun t=>?_)
 rw [a,CX t _ ho bb]
 have e:look t (rowsOf (EI mem) id)=IT t id mem none:=b t
 rw [e,← SN]
def DL (s:Sto):Sto:=⟨s.idx,s.parts++[Ah s.mem],[]⟩
theorem Fb {id:Int}:∀ {ps:List Prt}{o:List Row},(∀ p∈ps,PrtI p)→Blk o→Blk (ps.foldl (Bx id) o):=by
 intro ps
 induction ps with
 | nil=>intro o _ ho; exact ho
 | cons p ps ih=>intro o hp ho; exact ih (fun q hq=>hp q (by simp [hq])) (ho.merge ((hp p AD).of id))
theorem PL {s:Sto}(h:StoK s){id:Int}(h1:1≤id) (h2:id≤6):rowsOf (DL s) id=rowsOf s id:=by
 unfold rowsOf DL
 simp only [List.foldl_append,List.foldl_cons,List.foldl_nil]
 have hb:Blk (s.parts.foldl (Bx id) []):=Fb h.sd.part Blk.nil
 rw [mem_merge h.row hb]
 unfold Bx
 rw [PK h.IN.Iz h1 h2]
theorem QA {s:Sto}(h:StoK s) (id t:Int):((look t (s.parts.foldl (Bx id) [])).isSome=true∨(look t (rowsOf (EI s.mem) id)).isSome=true)→(look t (rowsOf s id)).isSome=true:=by
 intro h1
 have hb:Blk (s.parts.foldl (Bx id) []):=Fb h.sd.part Blk.nil
 have bb:Blk (rowsOf (EI s.mem) id):=(EC 0 id s.mem [] h.row Blk.nil).2
 have e:rowsOf s id=Bb (s.parts.foldl (Bx id) []) (rowsOf (EI s.mem) id):=mem_merge h.row hb
 rw [e,CX t _ hb bb]
 rcases h1 with h1 | h1
 ·cases look t (rowsOf (EI s.mem) id) with
  | none=>exact h1
  | some q=>rfl
 ·obtain ⟨q,hq⟩:=Option.isSome_iff_exists.1 h1
  rw [hq]; rfl
theorem UD {s:Sto}(h:StoK s){id:Int}(h24:(rowsOf s id).length≤24):(rowsOf (EI s.mem) id).length≤24:=by
 have hb:Blk (s.parts.foldl (Bx id) []):=Fb h.sd.part Blk.nil
 have bb:Blk (rowsOf (EI s.mem) id):=(EC 0 id s.mem [] h.row Blk.nil).2
 have e:rowsOf s id=Bb (s.parts.foldl (Bx id) []) (rowsOf (EI s.mem) id):=mem_merge h.row hb
 refine Nat.le_trans (ND bb (b:=rowsOf s id) ?_ (fun t ht=>QA h id t (.inr ht))) h24
 rw [e]
 exact hb.merge bb
theorem SO:∀ (bs:List (List Row)) (i:Nat) (o:Option Int),(∀ b∈bs,Blk b∧b.length≤24)→i+bs.length≤6→(∀ q,o=some q→q≤i)→Bm o (BM i bs).1 (BM i bs).2=true:=by
 intro bs
 induction bs with
 | nil=>intro i o _ _ _; rfl
 | cons b bs ih =>
   intro i o h hl ho
   simp only [List.length_cons] at hl
   unfold BM
   by_cases hb:b.length > 0
   ·rw [if_pos hb]
    unfold Bm
    have h1:=ih (i+1) (some ((i:Int)+1)) (fun x hx=>h x (by simp [hx])) AB (fun q hq=>by cases hq; omega)
    obtain ⟨h2,h3⟩:=h b AD
    have h4:Bf b=true:=by
     unfold Bf
     have h2':CP none b=true:=h2
     rw [h2',Bool.true_and,decide_eq_true_eq]; exact h3
    rw [h1,h4,decide_eq_true hb]
    have h5:inR ((i:Int)+1) 1 6=true:=by unfold inR; simp; omega
    rw [h5]
    cases o with
    | none=>rfl
    | some q =>
      have:=ho q rfl
      simp
      omega
   ·rw [if_neg hb]
    exact ih (i+1) o (fun x hx=>h x (by simp [hx])) AB (fun q hq=>by have:=ho q hq; omega)
theorem OB {bs:List (List Row)}(h:∀ b∈bs,Blk b∧b.length≤24) (hl:bs.length≤6):Am (Dy bs)=true:=by
 unfold Am
 have h1:=(L6 bs 0).1
 have h2:=SO bs 0 none h AB AD
 have h3:Bm none (Dy bs).ids (Dy bs).blocks=true:=h2
 have h4:(Dy bs).ids.length=(Dy bs).blocks.length:=h1
 rw [h3,decide_eq_true h4]
 rfl
theorem Qs:∀ (bs:List (List Row)) (i:Nat) (x:Int),x∈(BM i bs).1→∃ k:Nat,x=(i:Int)+k+1∧∃ b,bs[k]? = some b∧0< b.length:=by
 intro bs
 induction bs with
 | nil=>intro i x h; simp [BM] at h
 | cons b bs ih =>
   intro i x h
   unfold BM at h
   by_cases hb:b.length > 0
   ·rw [if_pos hb] at h
    rcases List.mem_cons.1 h with rfl | h
    ·exact ⟨0,by simp,b,rfl,hb⟩
    ·obtain ⟨k,h1,c,h2,h3⟩:=ih (i+1) x h
     exact ⟨k+1,by rw [h1]; push_cast; omega,c,by simpa using h2,h3⟩
   ·rw [if_neg hb] at h
    obtain ⟨k,h1,c,h2,h3⟩:=ih (i+1) x h
    exact ⟨k+1,by rw [h1]; push_cast; omega,c,by simpa using h2,h3⟩
theorem PM:∀ (bs:List (List Row)) (i:Nat),(∃ b∈bs,0< b.length)→(BM i bs).1≠[]:=by
 intro bs
 induction bs with
 | nil=>rintro i ⟨b,hb,_⟩; cases hb
 | cons c bs ih =>
   rintro i ⟨b,hb,hl⟩
   unfold BM
   by_cases hc:c.length > 0
   ·rw [if_pos hc]; simp
   ·rw [if_neg hc]
    rcases List.mem_cons.1 hb with rfl | hb
    ·exact absurd hl hc
    ·exact ih (i+1) ⟨b,hb,hl⟩
theorem OC {bs:List (List Row)}{n:Nat}(h:∀ b∈bs,Blk b∧b.length≤24) (hl:bs.length≤6) (h1:∃ b∈bs,0< b.length) (h2:∀ k b,bs[k]? = some b→0< b.length→k< n):Bj (Dy bs) n=true:=by
 unfold Bj
 rw [OB h hl,Bool.true_and]
 cases hx:(Dy bs).ids.getLast? with
 | none=>exact absurd (List.getLast?_eq_none_iff.1 hx) (PM bs 0 h1)
 | some x =>
   obtain ⟨k,e,b,hb,hb2⟩:=Qs bs 0 x (List.mem_of_getLast? hx)
   have:=h2 k b hb hb2
   simp
   omega
theorem SQ {mem:List Smp}(h:∀ m∈mem,1≤m.id∧m.id≤6∧BU m.row=true) (hm:mem≠[]):∃ b∈DK mem 6,0< b.length:=by
 obtain ⟨m,hl⟩:∃ m,m∈mem:=List.exists_mem_of_ne_nil mem hm
 have hid:=h m hl
 have hr:∀ m∈mem,BU m.row=true:=fun m hm=>(h m hm).2.2
 refine ⟨rowsOf (EI mem) m.id,?_,?_⟩
 ·unfold DK
  refine List.mem_map.2 ⟨(m.id - 1).toNat,by simp; omega,?_⟩
  rw [show (((m.id - 1).toNat:Nat):Int)+1=m.id by omega]
 ·have h1:(look m.row.t (rowsOf (EI mem) m.id)).isSome=true:=by
   have e:look m.row.t (rowsOf (EI mem) m.id)=IT m.row.t m.id mem none:=(EC m.row.t m.id mem [] hr Blk.nil).1
   rw [e]
   have key:∀ (ms:List Smp) (x:Option Row),x.isSome=true∨m∈ms→(IT m.row.t m.id ms x).isSome=true:=by
    intro ms
    induction ms with
    | nil=>intro x hx; rcases hx with hx | hx; exact hx; cases hx
    | cons c cs ih =>
      intro x hx
      unfold IT at ih ⊢
      rw [List.foldl_cons]
      by_cases hc:c.id=m.id∧c.row.t=m.row.t
      ·rw [if_pos hc]; exact ih _ (.inl rfl)
      ·rw [if_neg hc]
       rcases hx with hx | hx
       ·exact ih _ (.inl hx)
       ·rcases List.mem_cons.1 hx with rfl | hx
        ·exact absurd ⟨rfl,rfl⟩ hc
        ·exact ih _ (.inr hx)
   exact key mem none (.inr hl)
  obtain ⟨q,hq⟩:=Option.isSome_iff_exists.1 h1
  exact List.length_pos_of_mem (JE hq).2
theorem QB {s:Sto}(h:StoK s){id:Int}(hi:(s.idx.names.length:Int)< id):rowsOf (EI s.mem) id=[]:=by
 have key:∀ (mem:List Smp) (o:List Row),(∀ m∈mem,m.id≠id)→mem.foldl (CJ id) o=o:=by
  intro mem
  induction mem with
  | nil=>intro o _; rfl
  | cons m ms ih =>
    intro o h
    rw [List.foldl_cons,Gy (h m AD)]
    exact ih o (fun x hx=>h x (by simp [hx]))
 exact key s.mem [] (fun m hm=>by have:=(h.id m hm).2; omega)
theorem Kx {s:Sto}(h:SD s) (hk:Ae s=true) (h1:s.mem≠[]) (h2:s.parts.length< 6):Ae (DL s)=true:=by
 have hK:=StoK.of h hk
 have hk2:=hk
 unfold Ae at hk2 ⊢
 simp only [AW,decide_eq_true_eq,List.all_eq_true,List.mem_range,Ee] at hk2 ⊢
 obtain ⟨⟨⟨⟨a1,a2⟩,a3⟩,a4⟩,a5⟩:=hk2
 have hn:=h.nm.len
 have h24:∀ i< s.idx.names.length,(rowsOf (EI s.mem) ((i:Int)+1)).length≤24:=fun i hi=>UD hK (a5 i hi)
 have hpos:∀ k b,(DK s.mem 6)[k]? = some b→0< b.length→k< s.idx.names.length:=fun k b hb hl=>by
  unfold DK at hb
  rw [List.getElem?_map] at hb
  by_cases hk6:k< 6
  ·rw [List.getElem?_range hk6] at hb
   simp only [Option.map_some,Option.some.injEq] at hb
   subst hb
   by_cases hlt:k< s.idx.names.length
   ·exact hlt
   ·rw [QB hK (id:=(k:Int)+1) AB] at hl
    cases hl
  ·rw [List.getElem?_eq_none (by simp; omega)] at hb
   cases hb
 refine ⟨⟨⟨⟨by simp [DL]; omega,by simp [DL]⟩,fun p hp=>?_⟩,by simp [DL]⟩,fun i hi=>?_⟩
 ·rcases List.mem_append.1 hp with hp | hp
  ·exact a3 p hp
  ·simp only [List.mem_cons,List.not_mem_nil,or_false] at hp
   subst hp
   rw [Hu hK.IN.Iz]
   refine OC (fun b hb=>?_) (by rw [G3]; omega) (SQ (fun m hm=>⟨(hK.IN.Iz m hm).1,(hK.IN.Iz m hm).2,hK.row m hm⟩) h1) hpos
   unfold DK at hb
   obtain ⟨i,hi,rfl⟩:=List.mem_map.1 hb
   refine ⟨(EC 0 _ s.mem [] hK.row Blk.nil).2,?_⟩
   by_cases hlt:i< s.idx.names.length
   ·exact h24 i hlt
   ·rw [QB hK (id:=(i:Int)+1) AB]
    simp
 ·have hi2:i< s.idx.names.length:=hi
  rw [PL hK AB AB]
  exact a5 i hi2
def Cl (s:Sto):Sto × Bool:=if Ae s then BC (Ad s) else (⟨⟨[],[]⟩,[],[]⟩,false)
theorem JF {s:Sto}(h:Ae s=false):Cl s=(⟨⟨[],[]⟩,[],[]⟩,false):=by unfold Cl; rw [if_neg (by simp [h])]
theorem Hv {s:Sto}(h:Ae s=true):Cl s=BC (Ad s):=by unfold Cl; rw [if_pos h]
theorem NF {s:Sto}(h:Ae s=true):s.parts.length≤6:=by
 unfold Ae at h
 simp only [AW,decide_eq_true_eq] at h
 exact h.1.1.1.1
theorem G4 {s:Sto}(_h:SD s) (hk:Ae s=true) (h1:(s.mem.length:Int)=0∨(s.parts.length:Int)=6):Cl s=(Ad s,false):=by
 rw [Hv hk]
 unfold BC
 have e1:(Ad s).mem.length=s.mem.length:=rfl
 have e2:(Ad s).parts.length=s.parts.length:=rfl
 rw [if_pos AB]
theorem IU {s:Sto}(_h:SD s) (hk:Ae s=true) (h1:(s.mem.length:Int)≠0) (h2:(s.parts.length:Int)≠6):Cl s=(⟨(Ad s).idx,(Ad s).parts++[Ah s.mem],[]⟩,true):=by
 rw [Hv hk]
 unfold BC
 have e1:(Ad s).mem.length=s.mem.length:=rfl
 have e2:(Ad s).parts.length=s.parts.length:=rfl
 have:=NF hk
 rw [if_neg AB]
 rfl
theorem QC {mem:List Smp}{k:Nat}(hk:1≤k):DK mem (k+1 - 1)=DK mem (k - 1)++[rowsOf (EI mem) (k:Int)]:=by
 rw [show k+1 - 1=(k - 1)+1 by omega,Qq,show ((k - 1:Nat):Int)+1=(k:Int) by omega]
theorem UE {mem:List Smp}{k:Nat}{a:List Int}(h:a=(BM 0 (DK mem (k - 1))).1) (hk:1≤k) (hl:((rowsOf (EI mem) (k:Int)).length:Int) > 0):a++[(k:Int)]=(BM 0 (DK mem (k+1 - 1))).1:=by
 rw [QC hk,DC,if_pos AB,h,G3,show ((0:Nat):Int)+((k - 1:Nat):Int)+1=(k:Int) by omega]
theorem UF {mem:List Smp}{k:Nat}{a:List Int}(h:a=(BM 0 (DK mem (k - 1))).1) (hk:1≤k) (hl:¬ ((rowsOf (EI mem) (k:Int)).length:Int) > 0):a=(BM 0 (DK mem (k+1 - 1))).1:=by
 rw [QC hk,DC,if_neg AB,h]
theorem UG {mem:List Smp}{k:Nat}{a:List (List Row)}(h:a=(BM 0 (DK mem (k - 1))).2) (hk:1≤k) (hl:((rowsOf (EI mem) (k:Int)).length:Int) > 0):a++[rowsOf (EI mem) (k:Int)]=(BM 0 (DK mem (k+1 - 1))).2:=by
 rw [QC hk,DC,if_pos AB,h]
theorem UH {mem:List Smp}{k:Nat}{a:List (List Row)}(h:a=(BM 0 (DK mem (k - 1))).2) (hk:1≤k) (hl:¬ ((rowsOf (EI mem) (k:Int)).length:Int) > 0):a=(BM 0 (DK mem (k+1 - 1))).2:=by
 rw [QC hk,DC,if_neg AB,h]
theorem XH {mem:List Smp}{k:Nat}{a:List Int}{b:List (List Row)}(hm:∀ m∈mem,1≤m.id∧m.id≤6) (hk:k=7) (ha:a=(BM 0 (DK mem (k - 1))).1) (hb:b=(BM 0 (DK mem (k - 1))).2):(⟨a,b⟩:Prt)=Ah mem:=by
 subst hk ha hb
 rw [Hu hm]
 rfl
end Go.Proofs.YtcginoabkicdiaaGreat
namespace Go.Proofs.YtcginoabkicdiaaGreat
theorem UI {s:Sto}{n:List Tag}{r:Row}(h:(Db s n r).2=true):Ae s=true∧At n=true∧Db s n r=Ca (Ad s) n r:=by
 unfold Db at h ⊢
 by_cases hk:Ae s=true∧At n=true
 ·rw [if_pos hk]
  exact ⟨hk.1,hk.2,rfl⟩
 ·rw [if_neg hk] at h
  cases h
theorem UJ {s:Sto}{n:List Tag}{r:Row}(h:(Ca s n r).2=true):(BX s.idx n).2.2=true∧BU r=true∧s.mem.length< 20∧(rowsOf (Iv s n r) (BX s.idx n).2.1).length≤24∧Ca s n r=(Iv s n r,true):=by
 unfold Ca at h ⊢
 split at h
 ·cases h
 ·rename_i h1
  split at h
  ·cases h
  ·rename_i h2
   simp only [Bool.or_eq_true,not_or,Bool.not_eq_true',Bool.not_eq_false,decide_eq_true_eq] at h1
   obtain ⟨⟨a1,a2⟩,a3⟩:=h1
   rw [if_neg (by first | (simp [a1,a2,a3]; done) | (simp [a1,a2,a3]; omega)),if_neg h2]
   exact ⟨a1,a2,by omega,by omega,rfl⟩
theorem OD {id:Int}:∀ (mem:List Smp) (o:List Row),(∀ m∈mem,m.id≠id)→mem.foldl (CJ id) o=o:=by
 intro mem
 induction mem with
 | nil=>intro o _; rfl
 | cons m ms ih =>
   intro o h
   rw [List.foldl_cons,Gy (h m AD)]
   exact ih o (fun x hx=>h x (by simp [hx]))
theorem OE (x:Idx) (ps:List Prt) (mem:List Smp) (m:Smp) (id:Int):rowsOf ⟨x,ps,mem++[m]⟩ id=CJ id (rowsOf ⟨x,ps,mem⟩ id) m:=by
 unfold rowsOf
 simp only [List.foldl_append,List.foldl_cons,List.foldl_nil]
theorem PN (x x':Idx) (ps:List Prt) (mem:List Smp) (id:Int):rowsOf ⟨x,ps,mem⟩ id=rowsOf ⟨x',ps,mem⟩ id:=rfl
theorem Qt {id:Int}:∀ (ps:List Prt) (o:List Row),(∀ p∈ps,PrtI p)→Blk o→Blk (ps.foldl (Bx id) o):=by
 intro ps
 induction ps with
 | nil=>intro o _ h; exact h
 | cons p ps ih=>intro o h ho; exact ih _ (fun q hq=>h q (by simp [hq])) (ho.merge ((h p AD).of id))
theorem Qu {id:Int}:∀ (mem:List Smp) (o:List Row),(∀ m∈mem,BU m.row=true)→Blk o→Blk (mem.foldl (CJ id) o):=by
 intro mem
 induction mem with
 | nil=>intro o _ h; exact h
 | cons m ms ih =>
   intro o h ho
   refine ih _ (fun q hq=>h q (by simp [hq])) ?_
   unfold CJ
   split
   ·exact ho.put (h m AD)
   ·exact ho
theorem StoI.blk {s:Sto}(h:StoI s) (id:Int):Blk (rowsOf s id):=Qu _ _ (fun m hm=>(h.mem m hm).2.2) (Qt _ _ h.part Blk.nil)
theorem SR {id:Int}:∀ (is:List Int) (bs:List (List Row)),(∀ i∈is,i≠id)→Ba id is bs=[]:=by
 intro is
 induction is with
 | nil=>intro bs _; unfold Ba; rfl
 | cons i is ih =>
   intro bs h
   cases bs with
   | nil=>unfold Ba; rfl
   | cons b bs =>
     unfold Ba
     rw [if_neg (by have:=h i AD; simpa using this)]
     exact ih bs (fun j hj=>h j (by simp [hj]))
theorem Qv {p:Prt}{n:Int}(h:Bj p n=true):∀ i∈p.ids,i≤n:=by
 unfold Bj at h
 simp only [AW] at h
 obtain ⟨h1,h2⟩:=h
 unfold Am at h1
 simp only [AW,decide_eq_true_eq] at h1
 have key:∀ (is:List Int) (bs:List (List Row)) (o:Option Int),Bm o is bs=true→∀ l,is.getLast? = some l→∀ i∈is,i≤l:=by
  intro is
  induction is with
  | nil=>intro bs o _ l hl; simp at hl
  | cons x xs ih =>
    intro bs o hg l hl i hi
    cases bs with
    | nil=>simp [Bm] at hg
    | cons b bs =>
      simp only [Bm,AW] at hg
      obtain ⟨g1,_⟩:=MH xs bs (some x) hg.2
      cases hx:xs.getLast? with
      | none =>
        have:xs=[]:=List.getLast?_eq_none_iff.1 hx
        subst this
        simp at hl hi
        omega
      | some l' =>
        have e:(x::xs).getLast? = some l':=by rw [List.getLast?_cons,hx]; rfl
        rw [e] at hl
        cases hl
        rcases List.mem_cons.1 hi with rfl | hi
        ·have:=g1 i rfl l (List.mem_of_getLast? hx); omega
        ·exact ih bs (some x) hg.2 l hx i hi
 intro i hi
 cases hl:p.ids.getLast? with
 | none=>rw [hl] at h2; cases h2
 | some l =>
   rw [hl] at h2
   have:=key p.ids p.blocks none h1.2 l hl i hi
   have h3:l≤n:=by simpa using h2
   omega
theorem OF {id:Int}{n:Int}:∀ (ps:List Prt) (o:List Row),(∀ p∈ps,Bj p n=true)→n< id→ps.foldl (Bx id) o=o:=by
 intro ps
 induction ps with
 | nil=>intro o _ _; rfl
 | cons p ps ih =>
   intro o h hid
   rw [List.foldl_cons]
   have:Bx id o p=o:=by
    unfold Bx partOf
    rw [SR p.ids p.blocks (fun i hi=>by have:=Qv (h p AD) i hi; omega)]
    rfl
   rw [this]
   exact ih o (fun q hq=>h q (by simp [hq])) hid
theorem OG {p:Prt}{n m:Int}(h:Bj p n=true) (hm:n≤m):Bj p m=true:=by
 have hok:=Eu h
 unfold Bj at h ⊢
 rw [hok,Bool.true_and] at h ⊢
 cases hl:p.ids.getLast? with
 | none=>rw [hl] at h; cases h
 | some l =>
   rw [hl] at h
   simp only [decide_eq_true_eq] at h ⊢
   omega
theorem Je {s:Sto}:Ae s=true↔s.parts.length≤6∧s.mem.length≤20∧(∀ p∈s.parts,Bj p s.idx.names.length=true)∧(∀ m∈s.mem,Ed s.idx.names.length m=true)∧∀ i,i< s.idx.names.length→(rowsOf s ((i:Int)+1)).length≤24:=by
 unfold Ae
 simp only [AW,decide_eq_true_eq,List.all_eq_true,List.mem_range,Ee]
 constructor
 ·rintro ⟨⟨⟨⟨h1,h2⟩,h3⟩,h4⟩,h5⟩; exact ⟨h1,h2,h3,h4,h5⟩
 ·rintro ⟨h1,h2,h3,h4,h5⟩; exact ⟨⟨⟨⟨h1,h2⟩,h3⟩,h4⟩,h5⟩
theorem OH {n:Nat}{m:Smp}(h1:1≤m.id) (h2:m.id≤n) (h3:BU m.row=true):Ed n m=true:=by
 unfold Ed inR
 simp [h1,h2,h3]
theorem UK {s:Sto}{n:List Tag}{r:Row}(h:SD s) (hk:Ae s=true) (h1:(BX s.idx n).2.2=true) (h2:BU r=true) (h3:s.mem.length< 20) (h4:(rowsOf (Iv s n r) (BX s.idx n).2.1).length≤24):Ae (Iv s n r)=true:=by
 have hK:=StoK.of h hk
 obtain ⟨a1,a2,a3,a4,a5⟩:=Je.1 hk
 obtain ⟨g1,g2,g3,g4⟩:=RZ h.idx h.nm n
 have g5:=g4 h1
 refine Je.2 ⟨a1,by simp only [Iv,List.length_append,List.length_cons,List.length_nil]; omega,fun p hp=>OG (a3 p hp) (by show (s.idx.names.length:Int)≤((BX s.idx n).1.names.length:Int); omega),fun m hm=>?_,fun i hi=>?_⟩
 ·rcases List.mem_append.1 hm with hm | hm
  ·have:=hK.id m hm
   exact OH this.1 (by show m.id≤((BX s.idx n).1.names.length:Int); omega) (hK.row m hm)
  ·simp at hm
   subst hm
   exact OH g5.1 g5.2 h2
 ·by_cases he:(BX s.idx n).2.1=(i:Int)+1
  ·rw [← he]; exact h4
  ·have e:rowsOf (Iv s n r) ((i:Int)+1)=rowsOf s ((i:Int)+1):=by
    unfold Iv
    rw [OE,Gy (by simpa using he)]
    exact PN _ s.idx s.parts s.mem _
   rw [e]
   by_cases hil:i< s.idx.names.length
   ·exact a5 i hil
   ·have:rowsOf s ((i:Int)+1)=[]:=by
     unfold rowsOf
     rw [OF (n:=s.idx.names.length) s.parts [] a3 AB,OD s.mem [] (fun m hm=>by have:=(hK.id m hm).2; omega)]
    rw [this]; simp
end Go.Proofs.YtcginoabkicdiaaGreat
