/- Names and filters: what the program reads and what the specification reads, for all texts. No program in sight. -/
import Derived.Test.YtfninflnngpchaaGreatDoorLxzMod80
import Derived.Test.YtfninflnngpchaaGreatDoorLxzMod71
set_option linter.unusedVariables false
set_option linter.unusedSimpArgs false
namespace Go.Proofs.YtfninflnngpchaaGreatDoor
theorem VA {c:UInt8}:∀ {l r:Str},c∉l→F1 c (l++c::r)=l::F1 c r:=by
 intro l
 induction l with
 | nil=>intro r _; simp [F1]
 | cons x xs ih =>
   intro r h
   have hx:x≠c:=fun e=>h (by simp [e])
   rw [List.cons_append]
   conv=>lhs; unfold F1
   rw [if_neg hx,ih (fun hm=>h (by simp [hm]))]
theorem CC (s:Str) (c:UInt8):0< (AZ s c).length:=by
 obtain ⟨y,ys,h⟩:=LL c s
 rw [OK,h]
 simp
theorem GV (s:Str) (k:Nat):(Bh (AZ s 32) k).length≤s.length:=by
 unfold Bh
 cases h:(AZ s 32)[k]? with
 | none=>simp
 | some t=>exact (BK s 32).1 t (AV h)
theorem VB (c:UInt8):∀ s:List UInt8,Lib.join (F1 c s) [c]=s:=by
 intro s
 induction s with
 | nil=>exact Lib.join_one _ _
 | cons x xs ih =>
   obtain ⟨y,ys,h⟩:=LL c xs
   rw [h,Lib.join_cons] at ih
   unfold F1
   by_cases hx:x=c
   ·rw [if_pos hx,h,Lib.join_cons]
    simp only [Lib.joinTail,List.map_cons,List.flatten_cons] at ih ⊢
    rw [← ih,hx]
    simp
   ·rw [if_neg hx,h]
    simp only []
    rw [Lib.join_cons,← ih]
    simp
theorem VC {c:UInt8}:∀ {p:List UInt8},c∉p→F1 c p=[p]:=by
 intro p
 induction p with
 | nil=>intro _; rfl
 | cons x xs ih =>
   intro h
   unfold F1
   rw [if_neg (fun e=>h (by simp [e])),ih (fun hm=>h (by simp [hm]))]
theorem VD (c:UInt8):∀ ps:List (List UInt8),ps≠[]→(∀ p∈ps,c∉p)→F1 c (Lib.join ps [c])=ps:=by
 intro ps
 induction ps with
 | nil=>intro h; exact absurd rfl h
 | cons p ps ih =>
   intro _ h
   cases ps with
   | nil=>rw [Lib.join_one,VC (h p AD)]
   | cons q r =>
     have e:Lib.join (p::q::r) [c]=p++c::Lib.join (q::r) [c]:=by
      rw [Lib.join_cons,Lib.join_cons]
      simp [Lib.joinTail]
     rw [e,VA (h p AD),ih AD (fun x hx=>h x (by simp [hx]))]
theorem Nc {c:UInt8}{f:List Txt}(h0:f≠[]) (h:∀ t∈f,c∉t.s):AZ (Lib.join (f.map Txt.s) [c]) c=f:=by
 rw [OK,VD c _ (by simpa using h0) (fun p hp=>by
  obtain ⟨t,ht,rfl⟩:=List.mem_map.1 hp
  exact h t ht),List.map_map]
 exact List.map_id _
theorem Sw (s:List UInt8) (c:UInt8):Lib.join ((AZ s c).map Txt.s) [c]=s:=by
 rw [OK,List.map_map]
 have e:(F1 c s).map (Txt.s ∘ Txt.mk)=F1 c s:=List.map_id _
 rw [e,VB]
theorem Rq {t:Tag}(h:Bj t=true):∃ k v:UInt8,t=⟨[k],[v]⟩∧k≠44∧k≠61∧k≠33∧v≠44:=by
 obtain ⟨k,v,rfl⟩:=Tn h
 simp only [Bj,LU,AW] at h
 have h1:=BW h.1
 have h2:=BW h.2
 refine ⟨k,v,rfl,?_,?_,?_,?_⟩ <;> rintro rfl <;> simp at h1 h2
theorem Hd {c:Cnd}(h:Bj c.tag=true):Ij (cwT c).s=c∧Co (cwT c).s=(c,true)∧(44:UInt8)∉(cwT c).s∧3≤(cwT c).s.length:=by
 obtain ⟨t,no⟩:=c
 obtain ⟨k,v,rfl,h1,h2,h3,h4⟩:=Rq h
 cases no with
 | false =>
   refine ⟨?_,?_,?_,?_⟩
   ·simp [Ij,cwT,Ml,Cu,Ux,Db,KH,Lib.indexByte,h2,h3]
   ·simp [Co,cwT,EL,G7,h]
   ·simp [cwT,Ne.symm h1,Ne.symm h4]
   ·simp [cwT]
 | true =>
   refine ⟨?_,?_,?_,?_⟩
   ·simp [Ij,cwT,Ml,Cu,Ux,Db,KH,Lib.indexByte,h2]
   ·simp [Co,cwT,EL,G7,h]
   ·simp [cwT,Ne.symm h1,Ne.symm h4]
   ·simp [cwT]
theorem VE:∀ (f:List Cnd) (out:List Cnd),(∀ c∈f,Bj c.tag=true)→out.length+f.length≤3→DW out (f.map cwT)=(out++f,true):=by
 intro f
 induction f with
 | nil=>intro out _ _; simp [DW]
 | cons c f ih =>
   intro out h hl
   have h1:=(Hd (h c AD)).2.1
   simp only [List.length_cons] at hl
   rw [List.map_cons,DW,h1,if_neg (by simp; omega),ih _ (fun x hx=>h x (by simp [hx])) (by simp; omega)]
   simp
theorem Nd {f:List Cnd}(h:Bt f=true):(∀ c∈f,Bj c.tag=true)∧f.length≤3:=by
 simpa [Bt] using h
theorem OQ {f:List Cnd}{s:Str}(hf:Bt f=true) (h0:f≠[]) (hs:s=Lib.join ((f.map cwT).map Txt.s) [44]):CW s=(f,true)∧Ax s=(f,true):=by
 obtain ⟨h1,h2⟩:=Nd hf
 have hc:AZ s 44=f.map cwT:=by
  rw [hs,Nc (by simpa using h0) (fun t ht=>by
   obtain ⟨c,hc,rfl⟩:=List.mem_map.1 ht
   exact (Hd (h1 c hc)).2.2.1)]
 have ho:EC s=f:=by
  unfold EC
  rw [hc,List.map_map]
  exact (List.map_congr_left (fun c hc=>(Hd (h1 c hc)).1)).trans (List.map_id _)
 have hl:∀ t∈AZ s 44,3≤t.s.length:=fun t ht=>by
  rw [hc] at ht
  obtain ⟨c,hc,rfl⟩:=List.mem_map.1 ht
  exact (Hd (h1 c hc)).2.2.2
 have e1:s≠[42]:=fun e=>by
  have:=hl ⟨[42]⟩ (by rw [e]; decide)
  simp at this
 have e2:s≠[]:=fun e=>by
  have:=hl ⟨[]⟩ (by rw [e]; decide)
  simp at this
 refine ⟨?_,?_⟩
 ·unfold CW
  have e3:H7 (EC s)=s:=by
   rw [ho]
   unfold H7
   rw [if_pos hf,if_neg (by simpa using h0),hs]
  rw [if_neg e1,if_neg (by simp [e2,e3]),ho]
 ·unfold Ax
  rw [if_neg e1,hc,VE f [] h1 (by simpa using h2)]
  rfl
theorem Qg {t:Txt}(h:(Co t.s).2=true):cwT (Co t.s).1=t∧Bj (Co t.s).1.tag=true:=by
 unfold Co at h ⊢
 split at h
 ·rename_i hc
  rw [if_pos hc]
  obtain ⟨k,v,h1,_⟩:=Rq h
  refine ⟨?_,h⟩
  obtain ⟨s⟩:=t
  simp only [Tag.mk.injEq] at h1
  unfold cwT
  simp only [h1]
  have hr:EL s=[k,61,v]:=by
   match hx:EL s,hc.1 with
   | [a, b, c], _ =>
     rw [hx] at h1 hc
     simp at h1 hc
     simp [h1,hc]
  unfold EL at hr
  cases hn:G7 s with
  | false=>rw [hn] at hr; simp only [Bool.false_eq_true,if_false] at hr; simp [hr]
  | true =>
    rw [hn] at hr
    simp only [if_true] at hr
    simp only [G7,AW,decide_eq_true_eq] at hn
    match s,hn.1 with
    | [a, b, c, d], _ =>
      simp at hr hn
      simp [hr,hn]
 ·cases h
theorem Qh:∀ (ts:List Txt) (out:List Cnd),(DW out ts).2=true→∃ f,DW out ts=(out++f,true)∧f.map cwT=ts∧(∀ c∈f,Bj c.tag=true)∧(f=[]∨out.length+f.length≤3):=by
 intro ts
 induction ts with
 | nil=>intro out _; exact ⟨[],by simp [DW],rfl,by simp,.inl rfl⟩
 | cons t ts ih =>
   intro out h
   rw [DW] at h ⊢
   split at h
   ·cases h
   ·rename_i hc
    rw [if_neg hc]
    simp only [not_or,Bool.not_eq_false,Nat.not_le] at hc
    obtain ⟨f,h1,h2,h3,h4⟩:=ih _ h
    have h5:=Qg hc.1
    refine ⟨(Co t.s).1::f,by rw [h1]; simp,by rw [List.map_cons,h5.1,h2],fun c hm=>?_,.inr ?_⟩
    ·rcases List.mem_cons.1 hm with rfl | hm
     ·exact h5.2
     ·exact h3 c hm
    ·rcases h4 with rfl | h4
     ·simp; omega
     ·simp at h4 ⊢; omega
theorem Pp:∀ (ts:List Txt) (out:List Cnd),(DW out ts).2=false→DW out ts=([],false):=by
 intro ts
 induction ts with
 | nil=>intro out h; simp [DW] at h
 | cons t ts ih =>
   intro out h
   rw [DW] at h ⊢
   split
   ·rfl
   ·rename_i hc
    rw [if_neg hc] at h
    exact ih _ h
theorem KJ {s:Str}(h0:s≠[42]) (h:(Ax s).2=true):∃ f,Ax s=(f,true)∧Bt f=true∧f≠[]∧s=Lib.join ((f.map cwT).map Txt.s) [44]:=by
 unfold Ax at h ⊢
 rw [if_neg h0] at h ⊢
 obtain ⟨f,h1,h2,h3,h4⟩:=Qh _ _ h
 have hp:=CC s 44
 have hne:f≠[]:=fun e=>by subst e; rw [← h2] at hp; simp at hp
 refine ⟨f,by simpa using h1,?_,hne,by rw [h2,Sw]⟩
 simp only [Bt,AW,List.all_eq_true,decide_eq_true_eq]
 exact ⟨h3,by rcases h4 with h4 | h4; exact absurd h4 hne; simpa using h4⟩
theorem Qi {s:Str}(h0:s≠[42]) (h:(CW s).2=true):∃ f,CW s=(f,true)∧Bt f=true∧f≠[]∧s=Lib.join ((f.map cwT).map Txt.s) [44]:=by
 unfold CW at h ⊢
 rw [if_neg h0] at h ⊢
 split at h
 ·cases h
 ·rename_i hc
  rw [if_neg hc]
  simp only [not_or,Decidable.not_not] at hc
  have hp:=CC s 44
  have hne:EC s≠[]:=fun e=>by
   have:(EC s).length=0:=by rw [e]; rfl
   unfold EC at this
   simp at this
   rw [this] at hp
   simp at hp
  cases hf:Bt (EC s) with
  | false=>have:=hc.2; rw [Rj hf] at this; exact absurd this.symm hc.1
  | true =>
    refine ⟨_,rfl,hf,hne,?_⟩
    have:=hc.2
    unfold H7 at this
    rw [if_pos hf,if_neg (by simpa using hne)] at this
    exact this.symm
theorem Sx (s:Str):CW s=Ax s:=by
 by_cases h0:s=[42]
 ·rw [h0]; rfl
 ·cases h1:(Ax s).2 with
  | true =>
    obtain ⟨f,_,h2,h3,h4⟩:=KJ h0 h1
    obtain ⟨h5,h6⟩:=OQ h2 h3 h4
    rw [h5,h6]
  | false =>
    cases h2:(CW s).2 with
    | true =>
      obtain ⟨f,_,h3,h4,h5⟩:=Qi h0 h2
      have:=(OQ h3 h4 h5).2
      rw [this] at h1
      cases h1
    | false =>
      have e1:Ax s=([],false):=by
       unfold Ax at h1 ⊢
       rw [if_neg h0] at h1 ⊢
       exact Pp _ _ h1
      rw [e1]
      unfold CW at h2 ⊢
      rw [if_neg h0] at h2 ⊢
      split
      ·rfl
      ·rename_i hc; rw [if_neg hc] at h2; cases h2
theorem VF {n:List Tag}(h:Ao n=true):(∀ t∈n,Bj t=true)∧1≤n.length∧n.length≤3:=by
 refine ⟨Fq h,?_⟩
 simp only [Ao,AW] at h
 have:=BW h.2
 omega
theorem Nf:∀ (n out:List Tag),CD out (n.map (fun t=>(⟨t,false⟩:Cnd)))=some (out++n):=by
 intro n
 induction n with
 | nil=>intro out; simp [CD]
 | cons t n ih=>intro out; rw [List.map_cons,CD,if_neg AD,ih]; simp
theorem Qj:∀ (f:List Cnd) (out n:List Tag),CD out f=some n→∃ m,n=out++m∧f=m.map (fun t=>(⟨t,false⟩:Cnd)):=by
 intro f
 induction f with
 | nil=>intro out n h; simp [CD] at h; exact ⟨[],by simp [h],rfl⟩
 | cons c f ih =>
   intro out n h
   rw [CD] at h
   split at h
   ·cases h
   ·rename_i hc
    obtain ⟨m,h1,h2⟩:=ih _ _ h
    refine ⟨c.tag::m,by rw [h1]; simp,?_⟩
    rw [h2,List.map_cons]
    obtain ⟨t,no⟩:=c
    simp only [Bool.not_eq_true] at hc
    simp only [hc]
theorem Ng (n:List Tag):Lib.join ((((n.map (fun t=>(⟨t,false⟩:Cnd)))).map cwT).map Txt.s) [44]=text n:=by
 have e:(n.map (fun t=>(⟨t,false⟩:Cnd))).map cwT=n.map tx1:=by
  rw [List.map_map]
  exact List.map_congr_left (fun t _=>by simp [cwT,tx1,Gw])
 rw [e,NH]
theorem Rr {n:List Tag}{s:Str}(h:Ao n=true) (hs:s=text n):BQ s=(n,true)∧Cy s=n∧EU s=true:=by
 obtain ⟨h1,h2,h3⟩:=VF h
 have hf:Bt (n.map (fun t=>(⟨t,false⟩:Cnd)))=true:=by
  simp only [Bt,AW,List.all_eq_true,decide_eq_true_eq,List.length_map]
  exact ⟨fun c hc=>by
   obtain ⟨t,ht,rfl⟩:=List.mem_map.1 hc
   exact h1 t ht,h3⟩
 have hne:(n.map (fun t=>(⟨t,false⟩:Cnd)))≠[]:=fun e=>by
  have:=congrArg List.length e
  simp at this
  subst this
  simp at h2
 have hj:s=Lib.join ((((n.map (fun t=>(⟨t,false⟩:Cnd)))).map cwT).map Txt.s) [44]:=by rw [Ng,hs]
 obtain ⟨_,h5⟩:=OQ hf hne hj
 have hc:AZ s 44=n.map (fun t=>cwT ⟨t,false⟩):=by
  rw [hj,Nc (by simpa using hne) (fun t ht=>by
   obtain ⟨c,hc,rfl⟩:=List.mem_map.1 ht
   exact (Hd ((Nd hf).1 c hc)).2.2.1),List.map_map]
  rfl
 have ho:E5 s=n:=by
  unfold E5
  rw [hc,List.map_map]
  refine (List.map_congr_left (fun t ht=>?_)).trans (List.map_id _)
  obtain ⟨k,v,rfl,_,h7,_,_⟩:=Rq (h1 t ht)
  simp [KI,cwT,Ml,Cu,Lib.indexByte,h7]
 have hs0:s≠[]:=fun e=>by
  rw [e] at hc
  have h9:=congrArg List.length hc
  cases n with
  | nil=>simp at h2
  | cons t n =>
    have h10:(⟨[]⟩:Txt)=cwT ⟨t,false⟩:=by
     have:=congrArg (fun l=>l.head?) hc
     simpa [AZ,Gm] using this
    have:=congrArg (fun x=>x.s.length) h10
    simp [cwT] at this
 refine ⟨?_,?_,?_⟩
 ·unfold BQ
  rw [if_neg (by simp only [not_or,Decidable.not_not]; exact ⟨hs0,by rw [ho]; unfold D9; rw [if_pos h,hs]⟩),ho]
 ·unfold Cy
  rw [h5,Nf]
  simp [h]
 ·unfold EU
  rw [h5,Nf]
  simp [h]
theorem Sy (s:Str):BQ s=(Cy s,EU s):=by
 cases h1:EU s with
 | true =>
   have h2:=h1
   unfold EU at h2
   split at h2
   ·rename_i out ho
    simp only [AW] at h2
    obtain ⟨m,h3,h4⟩:=Qj _ _ _ ho
    simp only [List.nil_append] at h3
    subst h3
    have h0:s≠[42]:=fun e=>by
     have:(Ax s).1=[]:=by rw [e]; rfl
     rw [this] at h4
     have:=congrArg List.length h4
     simp at this
     have h10:=List.length_eq_zero_iff.1 this.symm
     subst h10
     exact absurd h2.2 AE
    obtain ⟨f,h5,_,_,h6⟩:=KJ h0 h2.1
    have h7:f=out.map (fun t=>(⟨t,false⟩:Cnd)):=by rw [← h4,h5]
    rw [h7,Ng] at h6
    obtain ⟨h8,h9,_⟩:=Rr h2.2 h6
    rw [h8,h9]
   ·cases h2
 | false =>
   have e1:Cy s=[]:=by
    unfold EU at h1
    unfold Cy
    split at h1
    ·rename_i out ho
     rw [ho]
     simp only []
     rw [if_neg (by simpa using h1)]
    ·rename_i ho
     rw [ho]
   rw [e1]
   unfold BQ
   split
   ·rfl
   ·rename_i hc
    simp only [not_or,Decidable.not_not] at hc
    have h3:=hc.2
    unfold D9 at h3
    split at h3
    ·rename_i hn
     have:=(Rr hn h3.symm).2.2
     rw [this] at h1
     cases h1
    ·exact absurd h3.symm hc.1
theorem OR (s:Str) (_:s.length≤999):BQ s=(Cy s,EU s):=Sy s
theorem Rs (s:Str) (_:s.length≤999):CW s=Ax s:=Sx s
theorem Yi {n:List Tag}(h:Ao n=true):NmD n:=by
 obtain ⟨h1,_,h3⟩:=VF h
 refine ⟨by omega,fun t ht=>?_⟩
 obtain ⟨k,v,rfl,_⟩:=Rq (h1 t ht)
 exact ⟨by simp,by simp⟩
theorem Qk (s:Str) (_:s.length≤999):NmD (Cy s):=by
 unfold Cy
 split
 ·split
  ·rename_i h
   exact Yi h.2
  ·exact NmD.nil
 ·exact NmD.nil
theorem Sz (s:Str):Bt (Ax s).1=true:=by
 by_cases h0:s=[42]
 ·rw [h0]; rfl
 ·cases h1:(Ax s).2 with
  | true =>
    obtain ⟨f,h2,h3,_⟩:=KJ h0 h1
    rw [h2]
    exact h3
  | false =>
    have e1:Ax s=([],false):=by
     unfold Ax at h1 ⊢
     rw [if_neg h0] at h1 ⊢
     exact Pp _ _ h1
    rw [e1]
    rfl
theorem Ru {t:Str}(h:t.length≤999):Yd t:=fun l hl=>by
 have:=(BK t 10).1 l (List.mem_of_mem_take hl)
 exact Nat.le_trans this h
end Go.Proofs.YtfninflnngpchaaGreatDoor
namespace Go.Proofs.YtfninflnngpchaaGreatDoor
def Nh (ls:List Str):Str:=ls.flatMap (fun l=>l++[10])
def LnO (l:Str):Prop:=(10:UInt8)∉l∧LnD l
def LsO (t:Str):Prop:=∃ ls:List Str,t=Nh ls∧∀ l∈ls,LnO l
theorem VG (a b:List Str):Nh (a++b)=Nh a++Nh b:=by simp [Nh]
theorem LsO.nil:LsO []:=⟨[],rfl,by simp⟩
theorem LsO.app {t u:Str}(h:LsO t) (h2:LsO u):LsO (t++u):=by
 obtain ⟨a,rfl,ha⟩:=h
 obtain ⟨b,rfl,hb⟩:=h2
 refine ⟨a++b,(VG a b).symm,fun l hl=>?_⟩
 rcases List.mem_append.1 hl with hl | hl
 ·exact ha l hl
 ·exact hb l hl
theorem LsO.one {l:Str}(h:LnO l):LsO (l++[10]):=⟨[l],by simp [Nh],by simpa using h⟩
theorem LsO.snoc {t l:Str}(h:LsO t) (h2:LnO l):LsO ((t++l)++[10]):=by
 rw [List.append_assoc]
 exact h.app (LsO.one h2)
theorem VH {w:Wld}(h:WV w){ws:List Txt}(hl:(Bh ws 1).length≤999):WV (Fb w ws).1:=by
 have h1:WV (doW w (evA ws)):=h.do (e:=evA ws) (Qk _ hl)
 have h2:WV (doW w (evF ws)):=h.do (e:=evF ws) NmD.nil
 have h3:WV (doW w (evM ws)):=h.do (e:=evM ws) NmD.nil
 have h4:WV (doW w ⟨4,0,0,[],⟨0,0⟩⟩):=h.do (e:=⟨4,0,0,[],⟨0,0⟩⟩) NmD.nil
 unfold Fb
 split
 ·split
  ·exact h1
  ·exact h
 ·split
  ·exact h2
  ·split
   ·exact h3
   ·split
    ·exact h4
    ·split
     ·split
      ·exact h
      ·exact h
     ·split
      ·exact h
      ·exact h
theorem Wz {t:Str}(h:(t.length:Int) > 600):Fc t=U6:=by unfold Fc; rw [if_pos AB]
def Z7:Str:=[97,115,107,32,42,32,48,32,57,57]
def Yj:Str:=[112,97,114,116,115]
def Yk:Str:=[102,108,117,115,104]
def Yl:Str:=[109,101,114,103,101,32,48]
theorem LnO.ask:LnO Z7:=⟨by decide,by unfold LnD; decide⟩
theorem LnO.parts:LnO Yj:=⟨by decide,by unfold LnD; decide⟩
theorem LnO.flush:LnO Yk:=⟨by decide,by unfold LnD; decide⟩
theorem LnO.merge:LnO Yl:=⟨by decide,by unfold LnD; decide⟩
end Go.Proofs.YtfninflnngpchaaGreatDoor
namespace Go.Proofs.YtfninflnngpchaaGreatDoor
theorem u8_in {z:Int}(h:0≤z∧z≤255):Value.int .u8 (IntKind.u8.wrap z)=.int .u8 z:=by rw [IntKind.wrap_u8]; congr 1; omega
theorem OS {s:Str}{b:UInt8}(h:(s.length:Int) > 1) (hb:s[0]? = some b) (h2:(b.toNat:Int)=45):BG s=G9 (-1) ((s.take s.length).drop 1):=by
 rw [List.take_length]
 exact YV h hb h2
theorem MQ {s:Str}{i:Nat}{b:UInt8}{n:Int}{Y:Option Nat}(h:Lib.decFrom n.toNat (s.drop i)=Y) (hd:s.drop i=b::s.drop (i+1)) (h1:¬ (b.toNat:Int)< 48) (h2:¬ (b.toNat:Int) > 57) (h0:0≤n):Lib.decFrom (10 * n+((b.toNat:Int) - 48)).toNat (s.drop (i+1))=Y:=by
 rw [show (10 * n+((b.toNat:Int) - 48)).toNat=10 * n.toNat+(b.toNat - 48) by omega]
 exact Wp h hd h1 h2
theorem KK {g:Int}{s:Str}{n:Int}(h0:0≤n) (h:inR s.length 1 2=true) (h2:Lib.decFrom 0 s=some n.toNat):G9 g s=g * n:=by
 rw [PZ h h2,Int.toNat_of_nonneg h0]
section
variable {w:Wld} {l:Str} {t:Txt} {ws:List Txt}
theorem wk0 (hx:ws[0]? = some t):Bh ws 0=t.s:=MH hx
theorem bt {a b:Str}(h:(a==b)=true):a=b:=eq_of_beq h
theorem bf {a b:Str}(h:(a==b)=false):¬ a=b:=beq_eq_false_iff_ne.1 h
abbrev Fe:Str:=[97,100,100]
abbrev C2:Str:=[102,108,117,115,104]
abbrev C3:Str:=[109,101,114,103,101]
abbrev He:Str:=[102,97,108,108]
abbrev Pq:Str:=[97,115,107]
abbrev OT:Str:=[112,97,114,116,115]
theorem lnA (hx:(AZ l 32)[0]? = some t) (h:(t.s==Fe)=true) (hb:EU (Bh (AZ l 32) 1)=true):Au w l=(doW w ⟨1,0,0,Cy (Bh (AZ l 32) 1),⟨Aw (AZ l 32) 2,Aw (AZ l 32) 3⟩⟩,[]):=by
 unfold Au Fb
 rw [wk0 hx,if_pos (bt h),if_pos hb]
 rfl
theorem Ym (hx:(AZ l 32)[0]? = some t) (h:(t.s==Fe)=true) (hb:EU (Bh (AZ l 32) 1)=false):Au w l=(w,IJ):=by
 unfold Au Fb
 rw [wk0 hx,if_pos (bt h),if_neg (by simp [hb])]
theorem Yn (hx:(AZ l 32)[0]? = some t) (h0:(t.s==Fe)=false) (h:(t.s==C2)=true) (hl:((AZ l 32).length:Int)=1):Au w l=(doW w ⟨2,0,9,[],⟨0,0⟩⟩,[]):=by
 unfold Au Fb evF
 rw [wk0 hx,if_neg (bf h0),if_pos (bt h),if_pos AB]
theorem Yo (hx:(AZ l 32)[0]? = some t) (h0:(t.s==Fe)=false) (h:(t.s==C2)=true) (hl:¬ ((AZ l 32).length:Int)=1):Au w l=(doW w ⟨2,0,Aw (AZ l 32) 1,[],⟨0,0⟩⟩,[]):=by
 unfold Au Fb evF
 rw [wk0 hx,if_neg (bf h0),if_pos (bt h),if_neg AB]
theorem lnF (hx:(AZ l 32)[0]? = some t) (h0:(t.s==Fe)=false) (h:(t.s==C2)=true):Au w l=(doW w ⟨2,0,if (1:Int)≥(AZ l 32).length then 9 else Aw (AZ l 32) (1:Int).toNat,[],⟨0,0⟩⟩,[]):=by
 have h2:=(List.getElem?_eq_some_iff.1 hx).1
 by_cases hl:((AZ l 32).length:Int)=1
 ·rw [Yn hx h0 h hl,if_pos AB]
 ·rw [Yo hx h0 h hl,if_neg AB]
  rfl
theorem Yp (hx:(AZ l 32)[0]? = some t) (h0:(t.s==Fe)=false) (h1:(t.s==C2)=false) (h:(t.s==C3)=true) (hl:((AZ l 32).length:Int)< 3):Au w l=(doW w ⟨3,Aw (AZ l 32) 1,9,[],⟨0,0⟩⟩,[]):=by
 unfold Au Fb evM
 rw [wk0 hx,if_neg (bf h0),if_neg (bf h1),if_pos (bt h),if_pos AB]
theorem Yq (hx:(AZ l 32)[0]? = some t) (h0:(t.s==Fe)=false) (h1:(t.s==C2)=false) (h:(t.s==C3)=true) (hl:¬ ((AZ l 32).length:Int)< 3):Au w l=(doW w ⟨3,Aw (AZ l 32) 1,Aw (AZ l 32) 2,[],⟨0,0⟩⟩,[]):=by
 unfold Au Fb evM
 rw [wk0 hx,if_neg (bf h0),if_neg (bf h1),if_pos (bt h),if_neg AB]
theorem lnM (hx:(AZ l 32)[0]? = some t) (h0:(t.s==Fe)=false) (h1:(t.s==C2)=false) (h:(t.s==C3)=true):Au w l=(doW w ⟨3,Aw (AZ l 32) 1,if (2:Int)≥(AZ l 32).length then 9 else Aw (AZ l 32) (2:Int).toNat,[],⟨0,0⟩⟩,[]):=by
 by_cases hl:((AZ l 32).length:Int)< 3
 ·rw [Yp hx h0 h1 h hl,if_pos AB]
 ·rw [Yq hx h0 h1 h hl,if_neg AB]
  rfl
theorem lnX (hx:(AZ l 32)[0]? = some t) (h0:(t.s==Fe)=false) (h1:(t.s==C2)=false) (h2:(t.s==C3)=false) (h:(t.s==He)=true):Au w l=(doW w ⟨4,0,0,[],⟨0,0⟩⟩,[]):=by
 unfold Au Fb
 rw [wk0 hx,if_neg (bf h0),if_neg (bf h1),if_neg (bf h2),if_pos (bt h)]
theorem Zf (hx:(AZ l 32)[0]? = some t) (h0:(t.s==Fe)=false) (h1:(t.s==C2)=false) (h2:(t.s==C3)=false) (h:(t.s==He)=true):Au w l=(BA w,[]):=by
 rw [lnX hx h0 h1 h2 h,M4 rfl]
theorem lnK (hx:(AZ l 32)[0]? = some t) (h0:(t.s==Fe)=false) (h1:(t.s==C2)=false) (h2:(t.s==C3)=false) (h3:(t.s==He)=false) (h:(t.s==Pq)=true) (hb:(Ax (Bh (AZ l 32) 1)).2=true) :
 Au w l=(w,Cl (By w.store (Ax (Bh (AZ l 32) 1)).1 (Aw (AZ l 32) 2) (Aw (AZ l 32) 3))):=by
 unfold Au Fb
 rw [wk0 hx,if_neg (bf h0),if_neg (bf h1),if_neg (bf h2),if_neg (bf h3),if_pos (bt h),if_pos hb]
theorem Yr (hx:(AZ l 32)[0]? = some t) (h0:(t.s==Fe)=false) (h1:(t.s==C2)=false) (h2:(t.s==C3)=false) (h3:(t.s==He)=false) (h:(t.s==Pq)=true) (hb:(Ax (Bh (AZ l 32) 1)).2=false):Au w l=(w,IJ):=by
 unfold Au Fb
 rw [wk0 hx,if_neg (bf h0),if_neg (bf h1),if_neg (bf h2),if_neg (bf h3),if_pos (bt h),if_neg (by simp [hb])]
theorem lnP (hx:(AZ l 32)[0]? = some t) (h0:(t.s==Fe)=false) (h1:(t.s==C2)=false) (h2:(t.s==C3)=false) (h3:(t.s==He)=false) (h4:(t.s==Pq)=false) (h:(t.s==OT)=true):Au w l=(w,OO w):=by
 unfold Au Fb
 rw [wk0 hx,if_neg (bf h0),if_neg (bf h1),if_neg (bf h2),if_neg (bf h3),if_neg (bf h4),if_pos (bt h)]
theorem lnN (hx:(AZ l 32)[0]? = some t) (h0:(t.s==Fe)=false) (h1:(t.s==C2)=false) (h2:(t.s==C3)=false) (h3:(t.s==He)=false) (h4:(t.s==Pq)=false) (h5:(t.s==OT)=false):Au w l=(w,IJ):=by
 unfold Au Fb
 rw [wk0 hx,if_neg (bf h0),if_neg (bf h1),if_neg (bf h2),if_neg (bf h3),if_neg (bf h4),if_neg (bf h5)]
theorem VI (h:WV w) (hl:LnD l) (lo hi:Int):By w.store (Ax (Bh (AZ l 32) 1)).1 lo hi=FW (fits (Ax (Bh (AZ l 32) 1)).1) w.store lo hi:=OF h.k (Sz _)
theorem VJ (h:WV w) (hl:LnD l) (lo hi:Int):(∀ x∈FW (fits (Ax (Bh (AZ l 32) 1)).1) w.store lo hi,HitD x)∧(FW (fits (Ax (Bh (AZ l 32) 1)).1) w.store lo hi).length≤6:=by
 rw [← VI h hl]
 exact E2 h.sd h.k _ _ _
theorem E3 {k:Nat}(hx:(ws++[⟨[]⟩,⟨[]⟩,⟨[]⟩])[k]? = some t):Bh ws k=t.s:=by
 by_cases hk:k< ws.length
 ·rw [List.getElem?_append_left hk] at hx
  exact MH hx
 ·rw [List.getElem?_append_right AB] at hx
  have hm:=AV hx
  simp only [List.mem_cons,List.not_mem_nil,or_false,or_self] at hm
  rw [PX AB,hm]
theorem JV {k:Nat}(hx:(ws++[⟨[]⟩,⟨[]⟩,⟨[]⟩])[k]? = some t):BG t.s=Aw ws k:=by rw [So,E3 hx]
theorem Ql (hx:(ws++[⟨[]⟩,⟨[]⟩,⟨[]⟩])[0]? = some t) (hl:0< ws.length):ws[0]? = some t:=by rwa [List.getElem?_append_left hl] at hx
theorem VK {k:Nat}(hx:(ws++[⟨[]⟩,⟨[]⟩,⟨[]⟩])[k]? = some t):t∈ws∨t=⟨[]⟩:=by
 have hm:=AV hx
 rcases List.mem_append.1 hm with hm | hm
 ·exact .inl hm
 ·simp only [List.mem_cons,List.not_mem_nil,or_false,or_self] at hm
  exact .inr hm
theorem Ff {k:Nat}{n:Nat}(hx:(ws++[⟨[]⟩,⟨[]⟩,⟨[]⟩])[k]? = some t) (hn:∀ t∈ws,t.s.length≤n):t.s.length≤n:=by
 rcases VK hx with h | h
 ·exact hn t h
 ·subst h; simp
theorem Pr (h:WV w):(Au w l).2.length≤5500:=by
 have key:∀ f lo hi,(Cl (By w.store f lo hi)).length≤5500:=fun f lo hi=>by
  obtain ⟨a,b⟩:=E2 h.sd h.k f lo hi
  have:=Na a
  omega
 have hw:IJ.length≤5500:=by decide
 have hp:(OO w).length≤5500:=by
  have h1:=BP w.store.parts.length
  have h2:=BP w.store.mem.length
  have h3:=BP w.disk.files.length
  unfold OO
  simp only [List.length_append,List.length_cons,List.length_nil]
  omega
 unfold Au Fb
 split
 ·split
  ·simp
  ·exact hw
 ·split
  ·simp
  ·split
   ·simp
   ·split
    ·simp
    ·split
     ·split
      ·exact key _ _ _
      ·exact hw
     ·split
      ·exact hp
      ·exact hw
theorem OU (h:WV w) (hl:LnD l):WV (Au w l).1:=VH h (Nat.le_trans (GV _ _) hl)
theorem H2 (h:WV w):w.store.parts.length≤6∧w.store.mem.length≤20∧w.disk.files.length≤20:=⟨(LN h).1,(LN h).2.1,h.v.nf⟩
def Il (n:Int):Txt:=⟨Bs n⟩
theorem W1 {ns:List Int}{k:Nat}{n:Int}{out:List Txt}{Y:List Txt}(h:out++(ns.drop k).map Il=Y) (hd:ns.drop k=n::ns.drop (k+1)):(out++[⟨Bs n⟩])++(ns.drop (k+1)).map Il=Y:=by
 rw [hd] at h
 rw [← h]
 simp [Il]
theorem Qm {a b c:Int}:Lib.join ((([a,b,c]:List Int).map Il).map Txt.s) [32]=Bs a++[32]++Bs b++[32]++Bs c:=by
 simp [Lib.join,List.intercalate,Il]
end
theorem MR {w:Wld}(h:WV w):By w.store [] 0 99=FW (fits []) w.store 0 99:=OF h.k MA
theorem Rv {w:Wld}(h:WV w):(∀ x∈FW (fits []) w.store 0 99,HitD x)∧(FW (fits []) w.store 0 99).length≤6:=by
 rw [← MR h]
 exact E2 h.sd h.k _ _ _
theorem Fg {w:Wld}(h:WV w):(∀ l,(Au w l).2.length≤5500)∧(Cl (By w.store [] 0 99)).length≤5500∧(Cl (FW (fits []) w.store 0 99)).length≤5500:=by
 have key:(Cl (By w.store [] 0 99)).length≤5500:=by
  obtain ⟨a,b⟩:=E2 h.sd h.k [] 0 99
  have:=Na a
  omega
 exact ⟨fun l=>Pr h,key,by rw [← MR h]; exact key⟩
theorem Qn (s:Str):(AZ s ([10].headD 0)).length≤s.length+1∧(((AZ s ([10].headD 0)).take (((AZ s ([10].headD 0)).length:Int) - 1).toNat).drop 0).length≤s.length+1:=by
 have h:=(BK s ([10].headD 0)).2
 refine ⟨h,?_⟩
 rw [List.length_drop,List.length_take]
 omega
theorem MS {w:Wld}{out l:Str}{k:Nat}(h:WV w) (ho:out.length≤5500 * k):(out++(Au w l).2).length≤5500 * (k+1):=by
 have:=Pr (l:=l) h
 rw [List.length_append]
 omega
theorem Rw (s:Str):(AZ s 10).length≤s.length+1∧(((AZ s 10).take (((AZ s 10).length:Int) - 1).toNat).drop 0).length≤s.length+1:=by
 have h:=(BK s 10).2
 refine ⟨h,?_⟩
 rw [List.length_drop,List.length_take]
 omega
theorem Qo {ts:List Txt}{k:Nat}{w:Wld}{out:Str}{t:Txt}{Y:Wld × Str}(h:(ts.drop k).foldl lnS (w,out)=Y) (hd:ts.drop k=t::ts.drop (k+1)):(ts.drop (k+1)).foldl lnS ((Au w t.s).1,out++(Au w t.s).2)=Y:=by
 rw [hd] at h
 exact h
theorem XV {ts:List Txt}{k:Nat}{p:Wld × Str}{Y:Wld × Str}(h:(ts.drop k).foldl lnS p=Y) (hk:ts.length≤k):p=Y:=by
 rw [Ac hk] at h
 exact h
theorem GW {s:Str}{k:Nat}{t:Txt}(hk:k+1< (AZ s 10).length) (hx:(AZ s 10)[k]? = some t):(D1 s)[k]? = some t:=by
 unfold D1
 rw [List.getElem?_take,if_pos AB]
 exact hx
theorem EB (s:Str):(D1 s).length=(AZ s 10).length - 1:=by
 unfold D1
 rw [List.length_take]
 omega
theorem Ps (s:Str):((AZ s 10).take (((AZ s 10).length:Int) - 1).toNat).drop 0=D1 s:=by
 unfold D1
 rw [List.drop_zero,show (((AZ s 10).length:Int) - 1).toNat=(AZ s 10).length - 1 by omega]
theorem KL {s:Str}{t:Txt}(h:t∈((AZ s 10).take (((AZ s 10).length:Int) - 1).toNat).drop 0):t∈D1 s:=by rw [← Ps]; exact h
theorem W2 {s:Str}{t:Txt}(h:t∈D1 s):t.s.length≤s.length:=(BK s 10).1 t (List.mem_of_mem_take h)
theorem Kf {s:Str}(h:(s.length:Int) > 600):Fc s=U6:=Wz h
theorem MU {s:Str}{p:Wld × Str}(h:¬ (s.length:Int) > 600) (hp:p=(D1 s).foldl lnS (Ee,[])):Fc s=p.2++Zc++Cl (By p.1.store [] 0 99):=by
 unfold Fc
 rw [if_neg AB,← hp]
 rfl
end Go.Proofs.YtfninflnngpchaaGreatDoor
