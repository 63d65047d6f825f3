/- Merged to one part all is told as it was: plain laws. -/
import Derived.Test.YtggnnidleedpaaaGreatWpzMod22k5
import Derived.Test.YtggnnidleedpaaaGreatWpzMod73k8
open Go.Proofs.Tryz
set_option linter.unusedVariables false
set_option linter.unusedSimpArgs false
namespace Go.Proofs.YtggnnidleedpaaaGreat
theorem MI.same {s y z:Sto}{i:Nat}(hy:MI s y i) (hz:MI s z i) (hi:6≤i){p q:Prt}(hp:y.parts[0]? = some p) (hq:z.parts[0]? = some q) (hf:(p==q)=false):False:=by
 have l1:=hy.one hi
 have l2:=hz.one hi
 have e1:y.parts=[p]:=by
  match hh:y.parts,l1 with
  | [x],_=>rw [hh] at hp; simp at hp; rw [hp]
 have e2:z.parts=[q]:=by
  match hh:z.parts,l2 with
  | [x],_=>rw [hh] at hq; simp at hq; rw [hq]
 have kp:=(StoK.of hy.sd hy.ok).part p (by rw [e1]; simp)
 have kq:=(StoK.of hz.sd hz.ok).part q (by rw [e2]; simp)
 have key:p=q:=Nn kp.2 kq.2 (fun id=>by
  by_cases hid:1≤id∧id≤6
  ·have h1:=hy.rows id hid.1 hid.2
   have h2:=hz.rows id hid.1 hid.2
   rw [e1] at h1
   rw [e2] at h2
   simp only [List.foldl_cons,List.foldl_nil] at h1 h2
   unfold Bs at h1 h2
   rw [Kk (kp.1.of id)] at h1
   rw [Kk (kq.1.of id)] at h2
   rw [h1,h2]
  ·have g:∀ p:Prt,Aw p=true→partOf p id=[]:=fun p hp=>by
    unfold Aw at hp
    simp only [AW,decide_eq_true_eq] at hp
    have key:∀ (is:List Int) (bs:List (List Row)) (o:Option Int),Bq o is bs=true→Bc id is bs=[]:=by
     intro is
     induction is with
     | nil=>intro bs o _; unfold Bc; rfl
     | cons i is ih =>
       intro bs o hg
       cases bs with
       | nil=>unfold Bc; rfl
       | cons b bs =>
         simp only [Bq,AW] at hg
         have h5:=By hg.1.1.1.1
         unfold Bc
         rw [if_neg (by simp; omega)]
         exact ih bs _ hg.2
    exact key _ _ _ hp.2
   rw [g p kp.2,g q kq.2])
 rw [key] at hf
 simp at hf
end Go.Proofs.YtggnnidleedpaaaGreat
namespace Go.Proofs.YtggnnidleedpaaaGreat
section
variable {w:Wld}
theorem Vj (h:WV w):w.disk.names.length≤w.store.idx.names.length:=by
 have:=congrArg List.length h.m
 rw [List.length_take] at this
 omega
theorem Sj (h:WV w){e:Evt}(he:NmD e.name):∃ l,(doW w e).disk.names=w.disk.names++l:=by
 have same:∃ l,w.disk.names=w.disk.names++l:=⟨[],by simp⟩
 have pre:∃ l,w.store.idx.names=w.disk.names++l:=⟨w.store.idx.names.drop w.disk.names.length,by
  have:=List.take_append_drop w.disk.names.length w.store.idx.names
  rw [← h.m] at this
  exact this.symm⟩
 by_cases k1:e.kind=1
 ·cases hn:At e.name with
  | false=>rw [Iu k1 hn]; exact same
  | true=>rw [KX k1 hn]; exact same
 ·by_cases k2:e.kind=2
  ·rw [HO k2]
   by_cases hs:((Au w.disk w.store).length:Int)=0∨e.cut< 0
   ·rw [DW hs]; exact same
   ·have q:=h.fl (fun e0=>hs (.inl (by rw [e0]; rfl)))
    have ht:∃ l,(toD w.disk (Au w.disk w.store) e.cut).names=w.disk.names++l:=by
     have o:=(q.to e.cut).2
     split at o
     ·have:(toD w.disk (Au w.disk w.store) e.cut).names=w.disk.names:=congrArg (fun s=>s.idx.names) o
      rw [this]; exact same
     ·have:(toD w.disk (Au w.disk w.store) e.cut).names=w.store.idx.names:=congrArg (fun s=>s.idx.names) o
      rw [this]; exact pre
    by_cases hc:e.cut< (Au w.disk w.store).length
    ·rw [Dz (fun e0=>hs (.inl e0)) (fun e0=>hs (.inr e0)) hc]
     exact ht
    ·rw [D1 (fun e0=>hs (.inl e0)) (fun e0=>hs (.inr e0)) hc]
     exact ht
  ·by_cases k3:e.kind=3
   ·rw [HP k3]
    by_cases hs:((Ao w.disk e.at_).length:Int)=0∨e.cut< 0
    ·rw [DW hs]; exact same
    ·obtain ⟨x,y,q,i0,e3,_⟩:=h.mg (i:=e.at_) (fun e0=>hs (.inl (by rw [e0]; rfl)))
     have ht:∃ l,(toD w.disk (Ao w.disk e.at_) e.cut).names=w.disk.names++l:=by
      rw [e3]
      have o:=(q.to e.cut).2
      have:(toD w.disk (Ao w.disk e.at_.toNat) e.cut).names=w.disk.names:=by
       split at o
       ·exact congrArg (fun s=>s.idx.names) o
       ·exact congrArg (fun s=>s.idx.names) o
      rw [this]; exact same
     by_cases hc:e.cut< (Ao w.disk e.at_).length
     ·rw [Dz (fun e0=>hs (.inl e0)) (fun e0=>hs (.inr e0)) hc]
      exact ht
     ·rw [D1 (fun e0=>hs (.inl e0)) (fun e0=>hs (.inr e0)) hc]
      exact ht
   ·by_cases k4:e.kind=4
    ·rw [LW k4]; exact same
    ·rw [M9 k1 k2 k3 k4]; exact same
theorem Nz:∀ (es:List Evt) (w:Wld),WV w→EsD es→∃ l,(es.foldl doW w).disk.names=w.disk.names++l:=by
 intro es
 induction es with
 | nil=>intro w _ _; exact ⟨[],by simp⟩
 | cons e es ih =>
   intro w h he
   obtain ⟨l1,h1⟩:=Sj h (he e AD).1
   obtain ⟨l2,h2⟩:=ih _ (h.do (he e AD).1) (fun x hx=>he x (by simp [hx]))
   exact ⟨l1++l2,by rw [List.foldl_cons,h2,h1,List.append_assoc]⟩
end
theorem Vk {es:List Evt}{k:Nat}(h:EsD es) (h2:(AZ es).2=true):∃ l,(AZ es).1.disk.names=(AZ ((es.take k).drop 0)).1.disk.names++l:=by
 obtain ⟨_,e1,hl⟩:=pv h h2
 have e2:(AZ ((es.take k).drop 0)).1=Fk (es.take k):=by
  rw [Gt (by rw [List.length_drop,List.length_take]; omega)]
  rfl
 rw [e1,e2]
 have e3:Fk es=(es.drop k).foldl doW (Fk (es.take k)):=by
  unfold Fk
  rw [← List.foldl_append,List.take_append_drop]
 rw [e3]
 exact Nz _ _ (WV.Wa (fun e he=>h e (List.mem_of_mem_take he))) (fun e he=>h e (List.mem_of_mem_drop he))
theorem Ww {es:List Evt}{k i:Nat}(h:EsD es) (h2:(AZ es).2=true) (hi:i< (AZ ((es.take k).drop 0)).1.disk.names.length):i< (AZ es).1.disk.names.length:=by
 obtain ⟨l,e⟩:=Vk (k:=k) h h2
 rw [e,List.length_append]
 omega
end Go.Proofs.YtggnnidleedpaaaGreat
namespace Go.Proofs.YtggnnidleedpaaaGreat
section
variable {w:Wld}
theorem UJ (t:Int) (b:List Row):atB t b=(look t b).isSome:=by
 induction b with
 | nil=>rfl
 | cons r rs ih =>
   rw [BV]
   unfold atB
   rw [ih]
   by_cases h:r.t=t
   ·rw [if_pos h,h]; simp
   ·rw [if_neg h,beq_eq_false_iff_ne.2 h]; rfl
theorem UK {b:List Row}{r:Row}(h:r∈b):(look r.t b).isSome=true:=by
 unfold look
 rw [List.find?_isSome]
 exact ⟨r,h,by simp⟩
theorem UL (h:WV w):((doW w ⟨4,0,0,[],⟨0,0⟩⟩).store==CC w.disk)=true:=by rw [N3 h,IS h.dk]; exact beq_self_eq_true _
theorem Vq (h:WV w){id:Int}{i:Nat}{r:Row}(hr:(Cw (doW w ⟨4,0,0,[],⟨0,0⟩⟩).store id)[i]? = some r):atB r.t (Cw w.store id)=true:=by
 have hm:=AV hr
 rw [N3 h] at hm
 obtain ⟨l,hl⟩:=Sq h
 unfold Cw at hm
 split at hm
 ·rename_i hc
  have hi:=By hc.2
  rw [F1] at hi
  have e:rowsOf (Al w.disk) id=w.store.parts.foldl (Bs id) []:=by rw [← h.open]; rfl
  rw [e] at hm
  rw [NU h.k hi.1 (by rw [hl,List.length_append]; omega),UJ]
  exact MZ (StoK.of h.sd h.k) id r.t (.inl (UK hm))
 ·cases hm
theorem Su (h:WV w):(doW (doW w ⟨4,0,0,[],⟨0,0⟩⟩) ⟨4,0,0,[],⟨0,0⟩⟩ == doW w ⟨4,0,0,[],⟨0,0⟩⟩)=true:=by
 have hx:WV (doW w ⟨4,0,0,[],⟨0,0⟩⟩):=h.do NmD.nil
 rw [K0 hx rfl]
 have e:=K0 (e:=⟨4,0,0,[],⟨0,0⟩⟩) h rfl
 rw [e]
 obtain ⟨_,eo⟩:=h.v.tidy
 show ((⟨Al (BE w.disk),BE (BE w.disk)⟩:Wld)==_)=true
 have et:BE (BE w.disk)=BE w.disk:=by
  unfold BE
  simp only [List.filter_filter,Bool.and_self]
 rw [eo,et]
 exact beq_self_eq_true _
end
end Go.Proofs.YtggnnidleedpaaaGreat
namespace Go.Proofs.YtggnnidleedpaaaGreat
set_option maxRecDepth 100000
set_option maxHeartbeats 4000000
variable {w:World} {F:Nat→Prop} {a1:Option Addr} {n1 c1:Nat}
theorem Hm (code:List UInt8) (h1:RepS w F a1 n1 c1 code)  : Calls Tryz.prog 8 [.slice a1 n1 c1].toArray w (Am fun rv w'=>rv=.bool (true)∧Ext w w'):=by
 cases h1.len
 refine goT func8 ?_
 have Z:=(St.i0 F w).p h1
 have aV:=h1.max
 refine .s<|.g<|.r 1<|.d<|.s<|.s<|.g<|.r 2<|.bp ((code.length:Int) > 1048576) (fun aq=>.d<|.ct<|.s<|.g<|.r 1<|.d<|T.rt func8 results8 (.bool true) ⟨(AG AF),Z.xt⟩) fun aq=>.d<|.cf<|.sk<|.s<|.g<|.r 1<|RG.cl (Bi code (Z.mg 1 0)) ?_
 rintro bR w ⟨⟨E,aD,aW⟩,ar⟩
 refine RG.vL Z aD ar ?_
 intro bS bT Z
 have aX:=Z.mf 0 E
 refine .r 1<|.d<|.s<|.g<|.r 1<|RG.CT (us:=[.bool ((AZ E).2)]) (Bv E (Z.mg 1 0) (by have q1:EsD E:=‹_›; first | exact q1 | exact q1.take _)) Z fun bU bV bW bX bY bZ b0 b6 b7 b8 b9 cd ce cg w Z=>?_
 have aY:=Z.mf 0 ((AZ E).1.store.idx.names)
 have aZ:=Z.mf 1 (((AZ E).1.store.idx).AY)
 have ba:=Z.mf 2 ((AZ E).1.store.parts)
 have bd:=Z.mf 3 ((AZ E).1.store.mem)
 have bg:=Z.mf 4 ((AZ E).1.disk.files)
 have bh:=Z.mf 5 ((AZ E).1.disk.list)
 have bi:=Z.mf 6 ((AZ E).1.disk.names)
 refine .r 2 ?_
 cases af:(AZ E).2
 ·refine .r 1<|RG.Np Z fun ci w Z=>RG.Ss 0 Z fun w Z=>.r 1<|.d<|.s<|.g<|.r 1<|RG.CT (us:=[.bool ((AZ E).2)]) (BL E (Z.mg 1 7) (by have q1:EsD E:=‹_›; first | exact q1 | exact q1.take _)) Z fun cj ck cm co cp cq cr cu cw cx cy cz cA cB w Z=>?_
  rw [af]
  refine .r 3<|RG.Np Z fun cC w Z=>RG.Ss 0 Z fun w Z=>.r 1<|.d<|.s<|.s<|.g<|.r 2<|RG.eqv (v:=.bool false) (v':=.bool (false != false)) AA AD<|.r 1<|RG.Ln 1 Z<|RG.Ln 0 Z<|RG.C0 (As ((AZ E).1) ((AZ E).1) (Z.a 7) (Z.a 8) (Z.a 9) (Z.a 10) (Z.a 11) (Z.a 12) (Z.a 13) (Z.a 0) (Z.a 1) (Z.a 2) (Z.a 3) (Z.a 4) (Z.a 5) (Z.a 6)) Z fun w Z=>?_
  rw [show ((((AZ E).1)==((AZ E).1)))=true from beq_self_eq_true _]
  refine .r 6<|.d<|.ct<|.s<|.g<|.r 2<|RG.eqv (v:=.bool true) (v':=.bool (false==false)) AA AD<|.r 1<|RG.Ln 1 Z<|RG.Ln 0 Z<|RG.C0 (As ((AZ E).1) ((AZ E).1) (Z.a 7) (Z.a 8) (Z.a 9) (Z.a 10) (Z.a 11) (Z.a 12) (Z.a 13) (Z.a 0) (Z.a 1) (Z.a 2) (Z.a 3) (Z.a 4) (Z.a 5) (Z.a 6)) Z fun w Z=>?_
  rw [show ((((AZ E).1)==((AZ E).1)))=true from beq_self_eq_true _]
  exact .r 2<|.d<|T.rt func8 results8 (.bool true) ⟨(AG AF),Z.xt⟩
 refine .r 1<|RG.Np Z fun au w Z=>RG.Ss 0 Z fun w Z=>.r 1<|.d<|.s<|.g<|.r 1<|RG.CT (us:=[.bool ((AZ E).2)]) (BL E (Z.mg 1 7) (by have q1:EsD E:=‹_›; first | exact q1 | exact q1.take _)) Z fun cD cE cF cG cH cI cJ cK cL cM cN cO cP cQ w Z=>?_
 rw [af]
 refine .r 3<|RG.Np Z fun cR w Z=>RG.Ss 0 Z fun w Z=>.r 1<|.d<|.s<|.s<|.g<|.r 2<|RG.eqv (v:=.bool false) (v':=.bool (true != true)) AA AD<|.r 1<|RG.Ln 1 Z<|RG.Ln 0 Z<|RG.C0 (As ((AZ E).1) ((AZ E).1) (Z.a 7) (Z.a 8) (Z.a 9) (Z.a 10) (Z.a 11) (Z.a 12) (Z.a 13) (Z.a 0) (Z.a 1) (Z.a 2) (Z.a 3) (Z.a 4) (Z.a 5) (Z.a 6)) Z fun w Z=>?_
 rw [show ((((AZ E).1)==((AZ E).1)))=true from beq_self_eq_true _]
 refine .r 6<|.d<|.cf<|.sk<|.s<|.g<|RG.Ln 1 Z<|.r 1<|RG.CS (BI ((AZ E).1) (⟨4,0,0,([]:List Tag),(⟨0,0⟩:Row)⟩:Evt) (Z.mg 1 7) (Z.mg 1 8) (Z.mg 1 9) (Z.mg 1 10) (Z.mg 1 11) (Z.mg 1 12) (Z.mg 1 13) (Z.ng 1) (by have q1:EsD E:=‹_›; first | exact (pv q1 ‹_›).1 | exact WV.do (pv q1 ‹_›).1 NmD.nil | exact WV.do (WV.do (pv q1 ‹_›).1 NmD.nil) NmD.nil | assumption) (by have q1:EsD E:=‹_›; first | exact NmD.nil | exact (q1 _ ‹_›).1)) Z fun cS cT cU cV cW cX cY cZ c7 c8 c9 da db de w Z=>?_
 have bj:=Z.mf 0 ((((doW ((AZ E).1) (⟨4,0,0,([]:List Tag),(⟨0,0⟩:Row)⟩:Evt)).store).idx).names)
 have bk:=Z.mf 1 ((((doW ((AZ E).1) (⟨4,0,0,([]:List Tag),(⟨0,0⟩:Row)⟩:Evt)).store).idx).AY)
 have bm:=Z.mf 2 (((doW ((AZ E).1) (⟨4,0,0,([]:List Tag),(⟨0,0⟩:Row)⟩:Evt)).store).parts)
 have bn:=Z.mf 3 (((doW ((AZ E).1) (⟨4,0,0,([]:List Tag),(⟨0,0⟩:Row)⟩:Evt)).store).mem)
 have bo:=Z.mf 4 (((doW ((AZ E).1) (⟨4,0,0,([]:List Tag),(⟨0,0⟩:Row)⟩:Evt)).disk).files)
 have bq:=Z.mf 5 (((doW ((AZ E).1) (⟨4,0,0,([]:List Tag),(⟨0,0⟩:Row)⟩:Evt)).disk).list)
 have br:=Z.mf 6 (((doW ((AZ E).1) (⟨4,0,0,([]:List Tag),(⟨0,0⟩:Row)⟩:Evt)).disk).names)
 refine RG.Np Z fun ax w Z=>RG.Ss 0 Z fun w Z=>.d<|.s<|.s<|T.Gd 5 Z fun w Z=>.r [0]<|GA.Ln 1 0 Z<|.r [2]<|GA.Ln 3 2 Z<|.go 4<|GE.CS (fun w Z=>GI ((AZ E).1.disk) (Z.mg 1 18) (Z.mg 1 19) (Z.mg 1 20) (by have q1:EsD E:=‹_›; exact WV.dd (pv q1 ‹_›).1)) Z fun df dh bt bu bv bw bz bA w Z=>?_
 have aE:=Z.mf 0 (((CC ((AZ E).1.disk)).idx).names)
 have aF:=Z.mf 1 (((CC ((AZ E).1.disk)).idx).AY)
 have aG:=Z.mf 2 ((CC ((AZ E).1.disk)).parts)
 have aH:=Z.mf 3 ((CC ((AZ E).1.disk)).mem)
 refine GA.Dn Z fun w Z=>RG.C0 (E0 ((doW ((AZ E).1) (⟨4,0,0,([]:List Tag),(⟨0,0⟩:Row)⟩:Evt)).store) (CC ((AZ E).1.disk)) (Z.a 4) (Z.a 5) (Z.a 6) (Z.a 7) (Z.a 0) (Z.a 1) (Z.a 2) (Z.a 3)) Z fun w Z=>?_
 have ai:(((doW ((AZ E).1) (⟨4,0,0,([]:List Tag),(⟨0,0⟩:Row)⟩:Evt)).store)==(CC ((AZ E).1.disk)))=true:=(by have q1:EsD E:=‹_›; exact UL (pv q1 ‹_›).1)
 rw [ai]
 refine .r 4<|RG.Lb 0 Z<|.r 1<|.ne (((((doW ((AZ E).1) (⟨4,0,0,([]:List Tag),(⟨0,0⟩:Row)⟩:Evt)).store).mem).length):Int) 0 (fun aj=>.r 1<|.d<|.ct<|.s<|.g<|.r 1<|.d<|T.rt func8 results8 (.bool false) ⟨(AG (by exfalso; have q1:EsD E:=‹_›; have q2:=Sr (pv q1 ‹_›).1; first | omega | (simp_all; done))),Z.xt⟩) fun aj=>.r 1<|.d<|.cf<|.sk<|.s<|.s<|.g<|.r 1<|.d<|.b 0<|T.Lp (1:Nat) (fun k=>([(4,vP au),(8,vP ax),(9,vI (k:Int))],[],[],(doW (AZ E).1 (⟨4,0,0,[],⟨0,0⟩⟩:Evt)).store.idx.names.length+1 - k,(1≤k∧k≤(doW (AZ E).1 (⟨4,0,0,[],⟨0,0⟩⟩:Evt)).store.idx.names.length+1)∧True)) [] Z ⟨AB,trivial⟩ ?_
 rintro k bB w Z ⟨aJ,_⟩ ac
 refine .s<|.s<|.g<|.r 4<|RG.Lb 0 Z<|.r 1<|.bp ((k:Int)≤((((((doW ((AZ E).1) (⟨4,0,0,([]:List Tag),(⟨0,0⟩:Row)⟩:Evt)).store).idx).names).length):Int)) (fun ak=>?_) (fun ak=>?_)
 ·refine .d<|.ct<|.sk<|.s<|.b 1<|.s<|.g<|.r 1<|RG.Ln 0 Z<|.r 1<|RG.CL (Fe ((doW ((AZ E).1) (⟨4,0,0,([]:List Tag),(⟨0,0⟩:Row)⟩:Evt)).store) (k:Int) (Z.a 4) (Z.a 5) (Z.a 6) (Z.a 7) (by have q1:EsD E:=‹_›; first | exact (WV.sd (pv q1 ‹_›).1) | exact (WV.sd (WV.do (pv q1 ‹_›).1 NmD.nil)) | exact (WV.sd (WV.do (WV.do (pv q1 ‹_›).1 NmD.nil) NmD.nil)))) Z fun ay az w Z=>?_
  have aK:=Z.mf 0 (Cw ((doW ((AZ E).1) (⟨4,0,0,([]:List Tag),(⟨0,0⟩:Row)⟩:Evt)).store) (k:Int))
  refine .r 1<|.d<|.s<|.g<|.r 1<|RG.Ln 2 Z<|.r 1<|RG.CL (Fe ((AZ E).1.store) (k:Int) (Z.a 19) (Z.a 20) (Z.a 21) (Z.a 22) (by have q1:EsD E:=‹_›; first | exact (WV.sd (pv q1 ‹_›).1) | exact (WV.sd (WV.do (pv q1 ‹_›).1 NmD.nil)) | exact (WV.sd (WV.do (WV.do (pv q1 ‹_›).1 NmD.nil) NmD.nil)))) Z fun aA aB w Z=>?_
  have aL:=Z.mf 0 (Cw ((AZ E).1.store) (k:Int))
  refine .r 1<|.d<|.s<|.g<|.r 1<|.d<|.b 2<|T.Lp (0:Nat) (fun k1=>([(4,vP au),(8,vP ax),(9,vI (k:Int)),(10,.slice ay ((Cw ((doW ((AZ E).1) (⟨4,0,0,([]:List Tag),(⟨0,0⟩:Row)⟩:Evt)).store) (k:Int)).length) az),(11,.slice aA ((Cw ((AZ E).1.store) (k:Int)).length) aB),(12,vI (k1:Int))],[],[],(Cw (doW (AZ E).1 (⟨4,0,0,[],⟨0,0⟩⟩:Evt)).store (k:Int)).length - k1,(k1≤(Cw (doW (AZ E).1 (⟨4,0,0,[],⟨0,0⟩⟩:Evt)).store (k:Int)).length)∧True)) [] Z ⟨AB,trivial⟩ ?_
  rintro k1 bC w Z ⟨aM,_⟩ ae
  refine .s<|.s<|.g<|.r 3<|.bp ((k1:Int)< (((Cw ((doW ((AZ E).1) (⟨4,0,0,([]:List Tag),(⟨0,0⟩:Row)⟩:Evt)).store) (k:Int)).length):Int)) (fun al=>?_) (fun al=>.d<|.cf<|.x 2 rfl<|.ib 1<|.g<|.r 1<|RG.int ((k:Int)+1) AA (by first | omega | (have q1:EsD E:=‹_›; have q2:=F0 (WV.do (e:=⟨4,0,0,[],⟨0,0⟩⟩) (pv q1 ‹_›).1 NmD.nil); omega))<|.r 1<|.d<|ac (k+1) _ _ AA (Z.to 0 [] 2) ⟨AB,trivial⟩ (by first | omega | (simp only []; omega)))
  refine .d<|.ct<|.sk<|.s<|.b 3<|.s<|.g<|.r 3<|gx (h:=(by first | omega | (have q1:EsD E:=‹_›; have q2:=Vj (pv q1 ‹_›).1; omega) | (have q1:EsD E:=‹_›; exact Ww q1 ‹_› ‹_›))) (Cw ((doW ((AZ E).1) (⟨4,0,0,([]:List Tag),(⟨0,0⟩:Row)⟩:Evt)).store) (k:Int)) k1 fun ah ab=>?_
  have aN:=Bf ab; have aC:=AV ab
  refine RG.Ix 1 ab Z<|.r 1<|Z.el 1 ab fun Z=>RG.Lh 0 0 Z<|RG.C0 (M5 (Cw ((AZ E).1.store) (k:Int)) ah.t (Z.a 1)) Z fun w Z=>?_
  have am:(atB ah.t (Cw ((AZ E).1.store) (k:Int)))=true:=(by have q1:EsD E:=‹_›; exact Vq (pv q1 ‹_›).1 ‹_›)
  rw [am]
  exact .r 5<|.d<|.s<|.g<|.r 2<|.d<|.cf<|.sk<|.ib 3<|.g<|.r 1<|RG.int ((k1:Int)+1) AA (by first | omega | (have q1:EsD E:=‹_›; have q2:=F0 (WV.do (e:=⟨4,0,0,[],⟨0,0⟩⟩) (pv q1 ‹_›).1 NmD.nil); omega))<|.r 1<|.d<|ae (k1+1) _ _ AA (Z.to 0 [] 1) ⟨AB,trivial⟩ (by first | omega | (simp only []; omega))
 refine .d<|.cf<|.x 0 rfl<|.s<|T.Gd 4 Z fun w Z=>GA.Ln 0 0 Z<|.r [1]<|GA.Ln 3 0 Z<|.go 2<|GE.CS (fun w Z=>BI (doW ((AZ E).1) (⟨4,0,0,([]:List Tag),(⟨0,0⟩:Row)⟩:Evt)) (⟨4,0,0,([]:List Tag),(⟨0,0⟩:Row)⟩:Evt) (Z.mg 1 4) (Z.mg 1 5) (Z.mg 1 6) (Z.mg 1 7) (Z.mg 1 8) (Z.mg 1 9) (Z.mg 1 10) (Z.ng 1) (by have q1:EsD E:=‹_›; first | exact (pv q1 ‹_›).1 | exact WV.do (pv q1 ‹_›).1 NmD.nil | exact WV.do (WV.do (pv q1 ‹_›).1 NmD.nil) NmD.nil | assumption) (by have q1:EsD E:=‹_›; first | exact NmD.nil | exact (q1 _ ‹_›).1)) Z fun bD bE bF bG bH bI bJ bK bL bM bN bO bP bQ w Z=>?_
 have aO:=Z.mf 0 ((((doW (doW ((AZ E).1) (⟨4,0,0,([]:List Tag),(⟨0,0⟩:Row)⟩:Evt)) (⟨4,0,0,([]:List Tag),(⟨0,0⟩:Row)⟩:Evt)).store).idx).names)
 have aP:=Z.mf 1 ((((doW (doW ((AZ E).1) (⟨4,0,0,([]:List Tag),(⟨0,0⟩:Row)⟩:Evt)) (⟨4,0,0,([]:List Tag),(⟨0,0⟩:Row)⟩:Evt)).store).idx).AY)
 have aQ:=Z.mf 2 (((doW (doW ((AZ E).1) (⟨4,0,0,([]:List Tag),(⟨0,0⟩:Row)⟩:Evt)) (⟨4,0,0,([]:List Tag),(⟨0,0⟩:Row)⟩:Evt)).store).parts)
 have aR:=Z.mf 3 (((doW (doW ((AZ E).1) (⟨4,0,0,([]:List Tag),(⟨0,0⟩:Row)⟩:Evt)) (⟨4,0,0,([]:List Tag),(⟨0,0⟩:Row)⟩:Evt)).store).mem)
 have aS:=Z.mf 4 (((doW (doW ((AZ E).1) (⟨4,0,0,([]:List Tag),(⟨0,0⟩:Row)⟩:Evt)) (⟨4,0,0,([]:List Tag),(⟨0,0⟩:Row)⟩:Evt)).disk).files)
 have aT:=Z.mf 5 (((doW (doW ((AZ E).1) (⟨4,0,0,([]:List Tag),(⟨0,0⟩:Row)⟩:Evt)) (⟨4,0,0,([]:List Tag),(⟨0,0⟩:Row)⟩:Evt)).disk).list)
 have aU:=Z.mf 6 (((doW (doW ((AZ E).1) (⟨4,0,0,([]:List Tag),(⟨0,0⟩:Row)⟩:Evt)) (⟨4,0,0,([]:List Tag),(⟨0,0⟩:Row)⟩:Evt)).disk).names)
 refine GA.Dn Z fun w Z=>RG.C0 (As (doW (doW ((AZ E).1) (⟨4,0,0,([]:List Tag),(⟨0,0⟩:Row)⟩:Evt)) (⟨4,0,0,([]:List Tag),(⟨0,0⟩:Row)⟩:Evt)) (doW ((AZ E).1) (⟨4,0,0,([]:List Tag),(⟨0,0⟩:Row)⟩:Evt)) (Z.a 0) (Z.a 1) (Z.a 2) (Z.a 3) (Z.a 4) (Z.a 5) (Z.a 6) (Z.a 11) (Z.a 12) (Z.a 13) (Z.a 14) (Z.a 15) (Z.a 16) (Z.a 17)) Z fun w Z=>?_
 have ao:((doW (doW ((AZ E).1) (⟨4,0,0,([]:List Tag),(⟨0,0⟩:Row)⟩:Evt)) (⟨4,0,0,([]:List Tag),(⟨0,0⟩:Row)⟩:Evt))==(doW ((AZ E).1) (⟨4,0,0,([]:List Tag),(⟨0,0⟩:Row)⟩:Evt)))=true:=(by have q1:EsD E:=‹_›; exact Su (pv q1 ‹_›).1)
 rw [ao]
 exact .r 1<|.d<|T.rt func8 results8 (.bool true) ⟨(AG AF),Z.xt⟩
end Go.Proofs.YtggnnidleedpaaaGreat
