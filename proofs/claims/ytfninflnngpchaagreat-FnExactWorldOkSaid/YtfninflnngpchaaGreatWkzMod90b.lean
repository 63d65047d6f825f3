/- Worlds of any shape: an index, a part: plain laws. -/
import Derived.Test.YtfninflnngpchaaGreatWkzMod30
import Derived.Test.YtfninflnngpchaaGreatWkzMod90
set_option linter.unusedVariables false
set_option linter.unusedSimpArgs false
namespace Go.Proofs.YtfninflnngpchaaGreat
def ixB (x:Idx):Bool:=nmB x.names&&(x.Ae==Ay x.names)
theorem Bi {x:Idx}(h:nmB x.names=false):false=ixB x:=by unfold ixB; rw [h]; rfl
theorem Pm {x:Idx}(h:nmB x.names=true):(x.Ae==Ay x.names)=ixB x:=by unfold ixB; rw [h]; rfl
def okP (x:Idx) (k:Nat):Prop:=∀ j p,j< k→x.Ae[j]? = some p→p.ids=ids x.names p.tag∧0< p.ids.length∧(0< j→∃ q,x.Ae[j - 1]? = some q∧BO q.tag p.tag=true)
theorem Q9 (x:Idx):okP x 0:=fun j _ h=>absurd h AB
theorem Pn {x:Idx}{k:Nat}{p:Pst}(h:okP x k) (hp:x.Ae[k]? = some p) (h1:(p.ids==ids x.names p.tag)=true) (h2:¬ (p.ids.length:Int)=0) (h3:k=0∨∃ q,x.Ae[k - 1]? = some q∧BO q.tag p.tag=true):okP x (k+1):=fun j q hj hq=>by
 by_cases e:j=k
 ·subst e
  rw [hp] at hq
  cases hq
  exact ⟨eq_of_beq h1,by omega,fun h0=>h3.resolve_left AB⟩
 ·exact h j q AB hq
theorem EI {x:Idx}{k:Nat}{p:Pst}(hp:x.Ae[k]? = some p) (h:(p.ids.length:Int)=0∨(p.ids==ids x.names p.tag)=false∨(0< k∧∃ q,x.Ae[k - 1]? = some q∧BO q.tag p.tag=false)):false=ixB x:=by
 cases hb:ixB x with
 | false=>rfl
 | true =>
   unfold ixB at hb
   rw [AW] at hb
   have he:x.Ae=Ay x.names:=eq_of_beq hb.2
   rw [he] at hp h
   obtain ⟨g1,g2,_⟩:=F9 (AV hp)
   rcases h with h | h | ⟨h,q,hq,hlt⟩
   ·omega
   ·rw [beq_eq_false_iff_ne] at h; exact absurd g1 h
   ·rw [Kx hp hq h] at hlt; cases hlt
theorem PK:∀ (xs ys:List Pst),xs.Nodup→(∀ x∈xs,x∈ys)→Ct xs≤Ct ys:=by
 intro xs
 induction xs with
 | nil=>intro ys _ _; simp [Ct]
 | cons x xs ih =>
   intro ys hn hs
   rw [List.nodup_cons] at hn
   have hx:=hs x AD
   have h1:=ih (ys.erase x) hn.2 (fun z hz=>(List.mem_erase_of_ne (fun e:z=x=>hn.1 (by rw [← e]; exact hz))).2 (hs z (by simp [hz])))
   have h2:Ct ys=x.ids.length+Ct (ys.erase x):=by
    have:=(List.perm_cons_erase hx).map (fun p:Pst=>p.ids.length)
    unfold Ct
    rw [this.sum_nat]
    simp
   have h3:Ct (x::xs)=x.ids.length+Ct xs:=by simp [Ct]
   omega
theorem QV {x:Idx}{k:Nat}(h:okP x k) (hk:x.Ae.length≤k):x.Ae.Pairwise (fun a b=>BO a.tag b.tag=true):=by
 rw [List.pairwise_iff_getElem]
 intro i j hi hj hij
 have key:∀ d,i+1+d< x.Ae.length→∀ p,x.Ae[i+1+d]? = some p→BO x.Ae[i].tag p.tag=true:=by
  intro d
  induction d with
  | zero =>
    intro hd p hp
    obtain ⟨q,hq,hlt⟩:=(h (i+1+0) p AB hp).2.2 AB
    rw [show i+1+0 - 1=i by omega,AU hi] at hq
    cases hq
    exact hlt
  | succ d ih =>
    intro hd p hp
    obtain ⟨q,hq,hlt⟩:=(h (i+1+(d+1)) p AB hp).2.2 AB
    rw [show i+1+(d+1) - 1=i+1+d by omega] at hq
    exact Bw (ih AB q hq) hlt
 have:=key (j - i - 1) AB x.Ae[j] (by rw [show i+1+(j - i - 1)=j by omega]; exact AU hj)
 exact this
theorem RA {x:Idx}{k:Nat}{n:Int}(h:okP x k) (hk:x.Ae.length≤k) (hN:NmI x.names) (hn:n=(By x.names:Int) - (((x.Ae.take k).map (fun p=>p.ids.length)).sum:Nat)):(n==0)=ixB x:=by
 rw [List.take_of_length_le hk] at hn
 have hn:n=(By x.names:Int) - Ct x.Ae:=hn
 rw [← Pm (CC.2 hN)]
 have hS:=NR hN.ok
 have hpw:=QV h hk
 have hnd:x.Ae.Nodup:=hpw.imp (fun {a b} h e=>by subst e; rw [Dp] at h; cases h)
 have hsub:∀ p∈x.Ae,p∈Ay x.names:=fun p hp=>by
  obtain ⟨j,hj⟩:=List.mem_iff_getElem?.1 hp
  obtain ⟨g1,g2,_⟩:=h j p (by have:=(List.getElem?_eq_some_iff.1 hj).1; omega) hj
  obtain ⟨n,hn1,ht⟩:=Nd (names:=x.names) (t:=p.tag) (by rw [← g1]; exact List.length_pos_iff.1 g2)
  have:=J9 (names:=x.names) ((C2 (hN.ok n hn1)).2 _ ht) (by rw [← g1]; exact g2)
  rw [← g1] at this
  exact this
 by_cases he:x.Ae=Ay x.names
 ·rw [beq_iff_eq.2 he]
  have:n=0:=by rw [hn,he,hS]; omega
  rw [this]; rfl
 ·rw [beq_eq_false_iff_ne.2 he,beq_eq_false_iff_ne]
  intro h0
  refine he (Hl (R:=fun (a b:Pst)=>BO a.tag b.tag=true) (fun a ha=>by rw [Dp] at ha; cases ha) (fun a b c=>Bw) _ _ hpw (D6 _) (fun p=>⟨hsub p,fun hp=>?_⟩))
  refine Classical.byContradiction fun hno=>?_
  have h1:=PK (p::x.Ae) (Ay x.names) (List.nodup_cons.2 ⟨hno,hnd⟩) (fun q hq=>(List.mem_cons.1 hq).elim (fun e=>e▸hp) (hsub q))
  have h2:=(F9 hp).2.1
  have h3:Ct (p::x.Ae)=p.ids.length+Ct x.Ae:=by simp [Ct]
  omega
theorem L1 {names:List (List Tag)}(h:NmI names):NsD names:=fun n hn=>by
 have:=BY (h.ok n hn)
 exact ⟨by omega,fun t ht=>this.2.2 t ht⟩
theorem Gq {x:Idx}(h:ixB x=true):x=idxOf x.names∧NmI x.names:=by
 unfold ixB at h
 rw [AW] at h
 refine ⟨?_,CC.1 h.1⟩
 have:x.Ae=Ay x.names:=eq_of_beq h.2
 cases x
 simp only at this
 subst this
 rfl
theorem OM:∀ (is:List Int) (bs:List (List Row)) (o:Option Int) (q:Int),(∀ z,o=some z→q≤z)→(o=none→q=0)→0≤q→q≤6→Ai o is bs=true→is.length≤6 - q∧∀ b∈bs.take is.length,Af b=true:=by
 intro is
 induction is with
 | nil=>intro bs o q _ _ _ h6 _; simp; omega
 | cons i is ih =>
   intro bs o q h1 h2 h3 h6 hg
   cases bs with
   | nil=>cases hg
   | cons b bs =>
     simp only [Ai,AW] at hg
     obtain ⟨⟨⟨⟨g1,g2⟩,g3⟩,g4⟩,g5⟩:=hg
     have r1:=Bh g1
     have hq:q< i:=by
      cases o with
      | none=>have:=h2 rfl; omega
      | some z=>have:=h1 z rfl; simp at g2; omega
     obtain ⟨e1,e2⟩:=ih bs (some i) i (fun z hz=>by cases hz; omega) (fun hz=>by cases hz) AB AB g5
     refine ⟨by simp only [List.length_cons]; omega,fun x hx=>?_⟩
     simp only [List.length_cons,List.take_succ_cons,List.mem_cons] at hx
     rcases hx with rfl | hx
     ·exact g4
     ·exact e2 x hx
theorem PrtI.okB {p:Prt}(h:Ac p=true):PrtI p:=by
 unfold Ac at h
 simp only [AW,decide_eq_true_eq] at h
 obtain ⟨h1,h2⟩:=OM p.ids p.blocks none 0 (fun z hz=>by cases hz) (fun _=>rfl) AB AB h.2
 refine ⟨h.1,by omega,fun b hb=>?_⟩
 rw [h.1,List.take_of_length_le (Nat.le_refl _)] at h2
 exact Fi (h2 b hb)
theorem ptW {s:Sto}{n:Int}(h3:s.parts.all (fun p=>Ax p n)=true):∀ p∈s.parts,PrtI p∧Ac p=true:=fun p hp=>by
 have:=JC (List.all_eq_true.1 h3 p hp)
 exact ⟨PrtI.okB this,this⟩
end Go.Proofs.YtfninflnngpchaaGreat
namespace Go.Proofs.YtfninflnngpchaaGreat
theorem Bz {n:List Tag}(h:Aj n=true):n.length≤1000000∧∀ t∈n,t.key.length≤1000000∧t.val.length≤1000000:=by
 have:=BY h
 exact ⟨by omega,fun t ht=>by have:=this.2.2 t ht; omega⟩
theorem ON (names:List (List Tag)):ixB (idxOf names)=nmB names:=by
 unfold ixB idxOf
 simp
theorem RB {d:Dsk}(h1:inR d.next 1 999=true) (h2:¬ (d.files.length:Int) > 20) (h3:¬ (d.list.length:Int) > 6) (h5:Bs d.next none d.files=true) (h6:B8 d=true):(ixB (BG d).idx&&AZ (BG d))=Ak d:=by
 rw [Q2 h1 h2 h3 h5 h6]
 show (ixB (idxOf d.names)&&_)=_
 rw [ON]
theorem Rc {d:Dsk}{y:Sto}(hy:DC d y) (h1:inR d.next 1 999=true) (h2:¬ (d.files.length:Int) > 20) (h3:¬ (d.list.length:Int) > 6) (h5:Bs d.next none d.files=true) (h6:B8 d=true):(ixB y.idx&&AZ y)=Ak d:=by
 rw [← RB h1 h2 h3 h5 h6]
 cases hb:nmB d.names with
 | false =>
   have e1:ixB y.idx=false:=by unfold ixB; rw [hy.1,hb]; rfl
   have e2:ixB (BG d).idx=false:=by show ixB (idxOf d.names)=false; rw [ON,hb]
   rw [e1,e2]
   rfl
 | true =>
   have hN:=CC.1 hb
   rw [hy.2.2.2 hN (L1 hN)]
theorem OO {nx:Int}{fs:List Fil}(h:Bs nx none fs=true):∀ f∈fs,PrtI f.part:=fun f hf=>PrtI.okB (KP _ _ _ h f hf).2.2
theorem JJ {d:Dsk}(h:Ak d=true):DD d:=by
 have hN:=(CK h).1
 have hf:=BT h
 have hs:=h
 unfold Ak at hs
 simp only [AW,decide_eq_true_eq] at hs
 obtain ⟨⟨⟨⟨⟨g1,g2⟩,g3⟩,g4⟩,_⟩,_⟩:=hs
 have:=Bh g1
 exact ⟨NmG.of hN (L1 hN),by omega,by omega,OO g4,by omega⟩
theorem DG {s:Sto}(h:(ixB s.idx&&AZ s)=true):SD s:=by
 rw [AW] at h
 obtain ⟨h1,h2⟩:=Gq h.1
 have hk:=h.2
 unfold AZ at hk
 simp only [AW,decide_eq_true_eq] at hk
 obtain ⟨⟨⟨⟨g1,g2⟩,g3⟩,g4⟩,_⟩:=hk
 refine ⟨h1,h2,L1 h2,g1,fun p hp=>(ptW g3 p hp).1,by omega,fun m hm=>?_⟩
 have hm2:=List.all_eq_true.1 g4 m hm
 unfold BR at hm2
 rw [AW] at hm2
 have q1:=Bh hm2.1
 have q2:=h2.len
 exact ⟨by omega,by omega,J8 hm2.2⟩
theorem Ge {s:Sto}(h:(ixB s.idx&&AZ s)=true):(nmB s.idx.names&&AZ s)=true:=by
 rw [AW] at h
 rw [CC.2 (Gq h.1).2,h.2]
 rfl
def ftW (d:Dsk) (s:Sto):Bool:=ixB s.idx&&Cb d s
theorem Hu {d:Dsk}{s:Sto}(h:Ak d=false):false=ftW d s:=by unfold ftW; rw [← QH (s:=s) h,Bool.and_false]
theorem Hv {d:Dsk}{s:Sto}(h:(ixB s.idx&&AZ s)=false):false=ftW d s:=by
 unfold ftW Cb
 cases h1:ixB s.idx with
 | false=>rfl
 | true=>rw [h1,Bool.true_and] at h; rw [h]; simp
theorem Bj {d:Dsk}{s:Sto}(h:(ixB s.idx&&AZ s)=true){b:Bool}(hb:b=Cb d s):b=ftW d s:=by
 rw [AW] at h
 unfold ftW
 rw [h.1,hb,Bool.true_and]
def IW (names:List (List Tag)) (k:Nat):Nat:=((names.take k).map List.length).sum
theorem QW {names:List (List Tag)}{k:Nat}{x:List Tag}(h:names[k]? = some x):IW names (k+1)=IW names k+x.length:=HG h
theorem Jm (names:List (List Tag)) (k:Nat):IW names k≤By names:=by
 unfold IW By
 conv=>rhs; rw [← List.take_append_drop k names]
 rw [List.map_append,List.sum_append]
 omega
theorem OP {names:List (List Tag)}(n:List Tag) (h:n∈names):n.length≤By names:=Ga (f:=List.length) h
theorem QX {w:Wld}(h:mWd w≤1048576):By w.disk.names≤1100000:=by
 have:=PJ (ns:=w.disk.names)
 unfold mWd mDk at h
 omega
theorem Hw {w:Wld}(h:¬ szI (mWd w) 1048576< 0):mWd w≤1048576:=by
 have:=Aq h
 omega
theorem tb {P}{f}{a}{w}{b:Bool}(h:b=true) (q:Calls P f a w (Ad fun rv w'=>rv=.bool b∧Ext w w')):Calls P f a w (Ad fun rv w'=>rv=.bool true∧Ext w w'):=by
 subst h
 exact q
end Go.Proofs.YtfninflnngpchaaGreat
