/- Blocks looked up by times; flushing and merging change nothing that is told: plain laws. -/
import Derived.Test.YtcginoabkicdiaaGreatDzzD93
import Derived.Test.YtcginoabkicdiaaGreatDzzW20
set_option linter.unusedVariables false
set_option linter.unusedSimpArgs false
namespace Go.Proofs.YtcginoabkicdiaaGreat
def look (t:Int) (b:List Row):Option Row:=b.find? (fun r=>r.t==t)
theorem Bc (t:Int) (r:Row) (b:List Row):look t (r::b)=if r.t=t then some r else look t b:=by
 unfold look
 rw [List.find?_cons]
 by_cases h:r.t=t
 ·simp [h]
 ·have:(r.t==t)=false:=beq_eq_false_iff_ne.2 h
  rw [this,if_neg h]
theorem Pa (t:Int) (r:Row):∀ (b:List Row),look t (C4 r b)=if r.t=t then some r else look t b:=by
 intro b
 induction b with
 | nil=>unfold C4; rw [Bc]
 | cons x xs ih =>
   unfold C4
   by_cases h1:r.t< x.t
   ·rw [if_pos h1,Bc]
   ·rw [if_neg h1]
    by_cases h2:r.t=x.t
    ·rw [if_pos h2,Bc,Bc]
     by_cases h:r.t=t
     ·rw [if_pos h,if_pos h]
     ·rw [if_neg h,if_neg h,if_neg AB]
    ·rw [if_neg h2,Bc,ih,Bc]
     by_cases h:r.t=t
     ·rw [if_pos h,if_neg AB,if_pos h]
     ·rw [if_neg h,if_neg h]
theorem Blk.tl {r:Row}{b:List Row}(h:Blk (r::b)):Blk b∧BS r=true∧∀ q∈b,r.t< q.t:=by
 obtain ⟨h1,_,h3⟩:=Bb.1 h
 exact ⟨PE h3,h1,NZ b r h3⟩
theorem J5 {t:Int}:∀ {b:List Row},(∀ q∈b,t≠q.t)→look t b=none:=by
 intro b
 induction b with
 | nil=>intro _; rfl
 | cons x xs ih =>
   intro h
   rw [Bc,if_neg (fun e=>h x AD e.symm)]
   exact ih (fun q hq=>h q (by simp [hq]))
theorem J6 {t:Int}{q:Row}:∀ {b:List Row},look t b=some q→q.t=t∧q∈b:=by
 intro b h
 have h1:=List.find?_some h
 exact ⟨by simpa using h1,List.mem_of_find?_eq_some h⟩
theorem Cv (t:Int):∀ {b:List Row}(o:List Row),Blk o→Blk b→look t (Bg o b)=(look t b).or (look t o):=by
 intro b
 induction b with
 | nil=>intro o _ _; rfl
 | cons x xs ih =>
   intro o ho hb
   obtain ⟨h1,h2,h3⟩:=hb.tl
   have e:Bg o (x::xs)=Bg (EU o x) xs:=rfl
   rw [e,ih _ (ho.put h2) h1,F9 ho,Pa,Bc]
   by_cases h:x.t=t
   ·rw [if_pos h,if_pos h,J5 (fun q hq=>by have:=h3 q hq; omega)]
    rfl
   ·rw [if_neg h,if_neg h]
theorem Pb:∀ {a b:List Row},Blk a→Blk b→(∀ t,look t a=look t b)→a=b:=by
 intro a
 induction a with
 | nil =>
   intro b _ _ h
   cases b with
   | nil=>rfl
   | cons y ys =>
     have:=h y.t
     rw [Bc,if_pos rfl] at this
     cases this
 | cons x xs ih =>
   intro b ha hb h
   cases b with
   | nil =>
     have:=h x.t
     rw [Bc,if_pos rfl] at this
     cases this
   | cons y ys =>
     obtain ⟨a1,_,a3⟩:=ha.tl
     obtain ⟨b1,_,b3⟩:=hb.tl
     have hx:=h x.t
     have hy:=h y.t
     rw [Bc,if_pos rfl,Bc] at hx
     rw [Bc,Bc,if_pos rfl] at hy
     by_cases e:x.t=y.t
     ·rw [if_pos e.symm] at hx
      cases hx
      congr 1
      refine ih a1 b1 (fun t=>?_)
      have ht:=h t
      rw [Bc,Bc] at ht
      by_cases e2:x.t=t
      ·rw [J5 (fun q hq=>by have:=a3 q hq; omega),J5 (fun q hq=>by have:=b3 q hq; omega)]
      ·rw [if_neg e2,if_neg e2] at ht
       exact ht
     ·rw [if_neg (fun e2=>e e2.symm)] at hx
      rw [if_neg e] at hy
      have h1:=b3 x (J6 hx.symm).2
      have h2:=a3 y (J6 hy).2
      omega
theorem Of:∀ {b a:List Row},Blk a→Blk b→(∀ t,(look t a).isSome=true→(look t b).isSome=true)→a.length≤b.length:=by
 intro b
 induction b with
 | nil =>
   intro a _ _ h
   cases a with
   | nil=>exact Nat.le_refl _
   | cons x xs =>
     have:=h x.t (by rw [Bc,if_pos rfl]; rfl)
     cases this
 | cons y ys ih =>
   intro a ha hb h
   obtain ⟨b1,_,b3⟩:=hb.tl
   cases a with
   | nil=>simp
   | cons x xs =>
     obtain ⟨a1,_,a3⟩:=ha.tl
     have hx:=h x.t (by rw [Bc,if_pos rfl]; rfl)
     rw [Bc] at hx
     by_cases e:y.t=x.t
     ·simp only [List.length_cons]
      refine Nat.succ_le_succ (ih a1 b1 (fun t ht=>?_))
      obtain ⟨q,hq⟩:=Option.isSome_iff_exists.1 ht
      have hq2:=J6 hq
      have h4:=a3 q hq2.2
      have h5:=h t (by rw [Bc,if_neg AB]; exact ht)
      rw [Bc,if_neg AB] at h5
      exact h5
     ·rw [if_neg e] at hx
      obtain ⟨q,hq⟩:=Option.isSome_iff_exists.1 hx
      have hq2:=J6 hq
      have h4:=b3 q hq2.2
      refine Nat.le_succ_of_le (ih ha b1 (fun t ht=>?_))
      obtain ⟨u,hu⟩:=Option.isSome_iff_exists.1 ht
      have hu2:=J6 hu
      have h6:x.t≤u.t:=by
       rcases List.mem_cons.1 hu2.2 with e2 | hm
       ·rw [e2]; exact Int.le_refl _
       ·have:=a3 u hm; omega
      have h5:=h t ht
      rw [Bc,if_neg AB] at h5
      exact h5
theorem Og {a b c:List Row}(ha:Blk a) (hb:Blk b) (hc:Blk c):Bg (Bg a b) c=Bg a (Bg b c) :=
 Pb ((ha.merge hb).merge hc) (ha.merge (hb.merge hc)) (fun t=>by
  rw [Cv t _ (ha.merge hb) hc,Cv t _ ha hb,Cv t _ ha (hb.merge hc),Cv t _ hb hc,Option.or_assoc])
theorem MD (a:List Row):Bg a []=a:=rfl
theorem UE (id:Int):∀ (bs:List (List Row)) (i:Nat),Bd id (BN i bs).1 (BN i bs).2=if (i:Int)+1≤id then bs.getD (id - i - 1).toNat [] else []:=by
 intro bs
 induction bs with
 | nil=>intro i; simp [BN,Bd]
 | cons b bs ih =>
   intro i
   have h1:=ih (i+1)
   unfold BN
   by_cases hb:b.length > 0
   ·rw [if_pos hb]
    unfold Bd
    by_cases he:(i:Int)+1=id
    ·rw [if_pos (by simpa using he),if_pos AB,show (id - i - 1).toNat=0 by omega]
     rfl
    ·rw [if_neg (by simpa using he),h1]
     by_cases h2:(i:Int)+1≤id
     ·rw [if_pos AB,if_pos h2,show (id - i - 1).toNat=(id - (i+1:Nat) - 1).toNat+1 by omega]
      rfl
     ·rw [if_neg AB,if_neg h2]
   ·rw [if_neg hb,h1]
    have:b=[]:=List.length_eq_zero_iff.1 AB
    subst this
    by_cases h2:(i:Int)+1≤id
    ·rw [if_pos h2]
     by_cases he:(i:Int)+1=id
     ·rw [if_neg AB,show (id - i - 1).toNat=0 by omega]
      rfl
     ·rw [if_pos AB,show (id - i - 1).toNat=(id - (i+1:Nat) - 1).toNat+1 by omega]
      rfl
    ·rw [if_neg AB,if_neg h2]
theorem Pc (bs:List (List Row)){id:Int}(h:1≤id):partOf (EC bs) id=bs.getD (id - 1).toNat []:=by
 unfold partOf EC
 have:=UE id bs 0
 rw [if_pos AB] at this
 rw [this,show (id - (0:Nat) - 1)=id - 1 by omega]
theorem DN:∀ (bs:List (List Row)) (i:Nat) (b:List Row),BN i (bs++[b])=if b.length > 0 then ((BN i bs).1++[(i:Int)+bs.length+1],(BN i bs).2++[b]) else BN i bs:=by
 intro bs
 induction bs with
 | nil=>intro i b; simp [BN]
 | cons x xs ih =>
   intro i b
   rw [List.cons_append]
   have h1:=ih (i+1) b
   unfold BN
   rw [h1]
   by_cases hb:b.length > 0
   ·rw [if_pos hb,if_pos hb]
    simp only [List.length_cons]
    split <;> simp <;> omega
   ·rw [if_neg hb,if_neg hb]
def EW (mem:List Smp):Sto:=⟨⟨[],[]⟩,[],mem⟩
def DX (mem:List Smp) (n:Nat):List (List Row):=(List.range n).map (fun (i:Nat)=>rowsOf (EW mem) ((i:Int)+1))
theorem HW (mem:List Smp) (n:Nat):(DX mem n).length=n:=by simp [DX]
theorem Sc (mem:List Smp) (n:Nat):DX mem (n+1)=DX mem n++[rowsOf (EW mem) ((n:Int)+1)]:=by simp [DX,List.range_succ]
theorem Sd (mem:List Smp) (m:Smp) (h:1≤m.id∧m.id≤6):DX (mem++[m]) 6=Gy (DX mem 6) m:=by
 have key:∀ id:Int,rowsOf (EW (mem++[m])) id=CZ id (rowsOf (EW mem) id) m:=fun id=>by
  unfold rowsOf EW
  simp only [List.foldl_append,List.foldl_cons,List.foldl_nil]
 refine List.ext_getElem? (fun i=>?_)
 unfold Gy
 rw [List.getElem?_set]
 by_cases hi:i< 6
 ·have e:∀ mem:List Smp,(DX mem 6)[i]? = some (rowsOf (EW mem) ((i:Int)+1)):=fun mem=>by unfold DX; rw [List.getElem?_map,List.getElem?_range hi]; rfl
  rw [e,key]
  by_cases h2:(m.id - 1).toNat=i
  ·rw [if_pos h2,if_pos (by rw [HW]; omega),List.getD_eq_getElem?_getD,h2,e]
   unfold CZ
   rw [if_pos (by simp; omega)]
   rfl
  ·rw [if_neg h2,e]
   unfold CZ
   rw [if_neg (by simp; omega)]
 ·rw [List.getElem?_eq_none (by rw [HW]; omega),if_neg AB,List.getElem?_eq_none (by rw [HW]; omega)]
theorem WO {mem:List Smp}(h:∀ m∈mem,1≤m.id∧m.id≤6):mem.foldl Gy [[],[],[],[],[],[]]=DX mem 6:=by
 have key:∀ (ms pre:List Smp),(∀ m∈ms,1≤m.id∧m.id≤6)→ms.foldl Gy (DX pre 6)=DX (pre++ms) 6:=by
  intro ms
  induction ms with
  | nil=>intro pre _; simp
  | cons m ms ih =>
    intro pre h
    rw [List.foldl_cons,← Sd pre m (h m AD),ih (pre++[m]) (fun q hq=>h q (by simp [hq]))]
    simp
 have:=key mem [] h
 rw [List.nil_append] at this
 rw [← this]
 rfl
theorem Ip {mem:List Smp}(h:∀ m∈mem,1≤m.id∧m.id≤6):Ah mem=EC (DX mem 6):=by unfold Ah; rw [WO h]
theorem Qp {mem:List Smp}(h:∀ m∈mem,1≤m.id∧m.id≤6){id:Int}(h1:1≤id) (h2:id≤6):partOf (Ah mem) id=rowsOf (EW mem) id:=by
 rw [Ip h,Pc _ h1,List.getD_eq_getElem?_getD]
 unfold DX
 rw [List.getElem?_map,List.getElem?_range AB]
 simp only [Option.map_some,Option.getD_some]
 rw [show (((id - 1).toNat:Nat):Int)+1=id by omega]
def JL (t id:Int) (mem:List Smp) (x:Option Row):Option Row:=mem.foldl (fun acc m=>if m.id=id∧m.row.t=t then some m.row else acc) x
theorem UF (t id:Int):∀ (mem:List Smp) (x:Option Row),JL t id mem x=(JL t id mem none).or x:=by
 intro mem
 induction mem with
 | nil=>intro x; rfl
 | cons m ms ih =>
   intro x
   unfold JL at ih ⊢
   rw [List.foldl_cons,List.foldl_cons]
   by_cases h:m.id=id∧m.row.t=t
   ·rw [if_pos h,if_pos h,ih (some m.row)]
    cases List.foldl (fun acc m=>if m.id=id∧m.row.t=t then some m.row else acc) none ms <;> rfl
   ·rw [if_neg h,if_neg h,ih x]
theorem EP (t id:Int):∀ (mem:List Smp) (o:List Row),(∀ m∈mem,BS m.row=true)→Blk o→look t (mem.foldl (CZ id) o)=JL t id mem (look t o)∧Blk (mem.foldl (CZ id) o):=by
 intro mem
 induction mem with
 | nil=>intro o _ ho; exact ⟨rfl,ho⟩
 | cons m ms ih =>
   intro o h ho
   have h1:Blk (CZ id o m):=by
    unfold CZ
    split
    ·exact ho.put (h m AD)
    ·exact ho
   obtain ⟨h2,h3⟩:=ih (CZ id o m) (fun q hq=>h q (by simp [hq])) h1
   refine ⟨?_,h3⟩
   rw [List.foldl_cons,h2]
   unfold JL
   rw [List.foldl_cons]
   congr 1
   by_cases hid:m.id=id
   ·rw [Nj hid ho,Pa]
    by_cases ht:m.row.t=t
    ·rw [if_pos ht,if_pos ⟨hid,ht⟩]
    ·rw [if_neg ht,if_neg (fun e=>ht e.2)]
   ·rw [HQ hid,if_neg (fun e=>hid e.1)]
theorem mem_merge {id:Int}{mem:List Smp}{o:List Row}(h:∀ m∈mem,BS m.row=true) (ho:Blk o):mem.foldl (CZ id) o=Bg o (rowsOf (EW mem) id):=by
 have a:=fun t=>(EP t id mem o h ho).1
 have b:=fun t=>(EP t id mem [] h Blk.nil).1
 have bb:Blk (rowsOf (EW mem) id):=(EP 0 id mem [] h Blk.nil).2
 refine Pb (EP 0 id mem o h ho).2 (ho.merge bb) (fun t=>?_)
 rw [a,Cv t _ ho bb]
 have e:look t (rowsOf (EW mem) id)=JL t id mem none:=b t
 rw [e,← UF]
def DY (s:Sto):Sto:=⟨s.idx,s.parts++[Ah s.mem],[]⟩
theorem GI {id:Int}:∀ {ps:List Prt}{o:List Row},(∀ p∈ps,PrtI p)→Blk o→Blk (ps.foldl (CP id) o):=by
 intro ps
 induction ps with
 | nil=>intro o _ ho; exact ho
 | cons p ps ih=>intro o hp ho; exact ih (fun q hq=>hp q (by simp [hq])) (ho.merge ((hp p AD).of id))
theorem Qq {s:Sto}(h:StoK s){id:Int}(h1:1≤id) (h2:id≤6):rowsOf (DY s) id=rowsOf s id:=by
 unfold rowsOf DY
 simp only [List.foldl_append,List.foldl_cons,List.foldl_nil]
 have hb:Blk (s.parts.foldl (CP id) []):=GI h.sd.part Blk.nil
 rw [mem_merge h.row hb]
 unfold CP
 rw [Qp h.J2.Jq h1 h2]
theorem Rm {s:Sto}(h:StoK s) (id t:Int):((look t (s.parts.foldl (CP id) [])).isSome=true∨(look t (rowsOf (EW s.mem) id)).isSome=true)→(look t (rowsOf s id)).isSome=true:=by
 intro h1
 have hb:Blk (s.parts.foldl (CP id) []):=GI h.sd.part Blk.nil
 have bb:Blk (rowsOf (EW s.mem) id):=(EP 0 id s.mem [] h.row Blk.nil).2
 have e:rowsOf s id=Bg (s.parts.foldl (CP id) []) (rowsOf (EW s.mem) id):=mem_merge h.row hb
 rw [e,Cv t _ hb bb]
 rcases h1 with h1 | h1
 ·cases look t (rowsOf (EW s.mem) id) with
  | none=>exact h1
  | some q=>rfl
 ·obtain ⟨q,hq⟩:=Option.isSome_iff_exists.1 h1
  rw [hq]; rfl
theorem WQ {s:Sto}(h:StoK s){id:Int}(h24:(rowsOf s id).length≤24):(rowsOf (EW s.mem) id).length≤24:=by
 have hb:Blk (s.parts.foldl (CP id) []):=GI h.sd.part Blk.nil
 have bb:Blk (rowsOf (EW s.mem) id):=(EP 0 id s.mem [] h.row Blk.nil).2
 have e:rowsOf s id=Bg (s.parts.foldl (CP id) []) (rowsOf (EW s.mem) id):=mem_merge h.row hb
 refine Nat.le_trans (Of bb (b:=rowsOf s id) ?_ (fun t ht=>Rm h id t (.inr ht))) h24
 rw [e]
 exact hb.merge bb
theorem UG:∀ (bs:List (List Row)) (i:Nat) (o:Option Int),(∀ b∈bs,Blk b∧b.length≤24)→i+bs.length≤6→(∀ q,o=some q→q≤i)→BU o (BN i bs).1 (BN i bs).2=true:=by
 intro bs
 induction bs with
 | nil=>intro i o _ _ _; rfl
 | cons b bs ih =>
   intro i o h hl ho
   simp only [List.length_cons] at hl
   unfold BN
   by_cases hb:b.length > 0
   ·rw [if_pos hb]
    unfold BU
    have h1:=ih (i+1) (some ((i:Int)+1)) (fun x hx=>h x (by simp [hx])) AB (fun q hq=>by cases hq; omega)
    obtain ⟨h2,h3⟩:=h b AD
    have h4:Ax b=true:=by
     unfold Ax
     have h2':By none b=true:=h2
     rw [h2',Bool.true_and,decide_eq_true_eq]; exact h3
    rw [h1,h4,decide_eq_true hb]
    have h5:inR ((i:Int)+1) 1 6=true:=by unfold inR; simp; omega
    rw [h5]
    cases o with
    | none=>rfl
    | some q =>
      have:=ho q rfl
      simp
      omega
   ·rw [if_neg hb]
    exact ih (i+1) o (fun x hx=>h x (by simp [hx])) AB (fun q hq=>by have:=ho q hq; omega)
theorem Pd {bs:List (List Row)}(h:∀ b∈bs,Blk b∧b.length≤24) (hl:bs.length≤6):Ai (EC bs)=true:=by
 unfold Ai
 have h1:=(Nc bs 0).1
 have h2:=UG bs 0 none h AB AD
 have h3:BU none (EC bs).ids (EC bs).blocks=true:=h2
 have h4:(EC bs).ids.length=(EC bs).blocks.length:=h1
 rw [h3,decide_eq_true h4]
 rfl
theorem Sf:∀ (bs:List (List Row)) (i:Nat) (x:Int),x∈(BN i bs).1→∃ k:Nat,x=(i:Int)+k+1∧∃ b,bs[k]? = some b∧0< b.length:=by
 intro bs
 induction bs with
 | nil=>intro i x h; simp [BN] at h
 | cons b bs ih =>
   intro i x h
   unfold BN at h
   by_cases hb:b.length > 0
   ·rw [if_pos hb] at h
    rcases List.mem_cons.1 h with rfl | h
    ·exact ⟨0,by simp,b,rfl,hb⟩
    ·obtain ⟨k,h1,c,h2,h3⟩:=ih (i+1) x h
     exact ⟨k+1,by rw [h1]; push_cast; omega,c,by simpa using h2,h3⟩
   ·rw [if_neg hb] at h
    obtain ⟨k,h1,c,h2,h3⟩:=ih (i+1) x h
    exact ⟨k+1,by rw [h1]; push_cast; omega,c,by simpa using h2,h3⟩
theorem Qr:∀ (bs:List (List Row)) (i:Nat),(∃ b∈bs,0< b.length)→(BN i bs).1≠[]:=by
 intro bs
 induction bs with
 | nil=>rintro i ⟨b,hb,_⟩; cases hb
 | cons c bs ih =>
   rintro i ⟨b,hb,hl⟩
   unfold BN
   by_cases hc:c.length > 0
   ·rw [if_pos hc]; simp
   ·rw [if_neg hc]
    rcases List.mem_cons.1 hb with rfl | hb
    ·exact absurd hl hc
    ·exact ih (i+1) ⟨b,hb,hl⟩
theorem Pe {bs:List (List Row)}{n:Nat}(h:∀ b∈bs,Blk b∧b.length≤24) (hl:bs.length≤6) (h1:∃ b∈bs,0< b.length) (h2:∀ k b,bs[k]? = some b→0< b.length→k< n):BT (EC bs) n=true:=by
 unfold BT
 rw [Pd h hl,Bool.true_and]
 cases hx:(EC bs).ids.getLast? with
 | none=>exact absurd (List.getLast?_eq_none_iff.1 hx) (Qr bs 0 h1)
 | some x =>
   obtain ⟨k,e,b,hb,hb2⟩:=Sf bs 0 x (List.mem_of_getLast? hx)
   have:=h2 k b hb hb2
   simp
   omega
theorem UH {mem:List Smp}(h:∀ m∈mem,1≤m.id∧m.id≤6∧BS m.row=true) (hm:mem≠[]):∃ b∈DX mem 6,0< b.length:=by
 obtain ⟨m,hl⟩:∃ m,m∈mem:=List.exists_mem_of_ne_nil mem hm
 have hid:=h m hl
 have hr:∀ m∈mem,BS m.row=true:=fun m hm=>(h m hm).2.2
 refine ⟨rowsOf (EW mem) m.id,?_,?_⟩
 ·unfold DX
  refine List.mem_map.2 ⟨(m.id - 1).toNat,by simp; omega,?_⟩
  rw [show (((m.id - 1).toNat:Nat):Int)+1=m.id by omega]
 ·have h1:(look m.row.t (rowsOf (EW mem) m.id)).isSome=true:=by
   have e:look m.row.t (rowsOf (EW mem) m.id)=JL m.row.t m.id mem none:=(EP m.row.t m.id mem [] hr Blk.nil).1
   rw [e]
   have key:∀ (ms:List Smp) (x:Option Row),x.isSome=true∨m∈ms→(JL m.row.t m.id ms x).isSome=true:=by
    intro ms
    induction ms with
    | nil=>intro x hx; rcases hx with hx | hx; exact hx; cases hx
    | cons c cs ih =>
      intro x hx
      unfold JL at ih ⊢
      rw [List.foldl_cons]
      by_cases hc:c.id=m.id∧c.row.t=m.row.t
      ·rw [if_pos hc]; exact ih _ (.inl rfl)
      ·rw [if_neg hc]
       rcases hx with hx | hx
       ·exact ih _ (.inl hx)
       ·rcases List.mem_cons.1 hx with rfl | hx
        ·exact absurd ⟨rfl,rfl⟩ hc
        ·exact ih _ (.inr hx)
   exact key mem none (.inr hl)
  obtain ⟨q,hq⟩:=Option.isSome_iff_exists.1 h1
  exact List.length_pos_of_mem (J6 hq).2
theorem Rn {s:Sto}(h:StoK s){id:Int}(hi:(s.idx.names.length:Int)< id):rowsOf (EW s.mem) id=[]:=by
 have key:∀ (mem:List Smp) (o:List Row),(∀ m∈mem,m.id≠id)→mem.foldl (CZ id) o=o:=by
  intro mem
  induction mem with
  | nil=>intro o _; rfl
  | cons m ms ih =>
    intro o h
    rw [List.foldl_cons,HQ (h m AD)]
    exact ih o (fun x hx=>h x (by simp [hx]))
 exact key s.mem [] (fun m hm=>by have:=(h.id m hm).2; omega)
theorem ME {s:Sto}(h:SD s) (hk:Ae s=true) (h1:s.mem≠[]) (h2:s.parts.length< 6):Ae (DY s)=true:=by
 have hK:=StoK.of h hk
 have hk2:=hk
 unfold Ae at hk2 ⊢
 simp only [AW,decide_eq_true_eq,List.all_eq_true,List.mem_range,Ep] at hk2 ⊢
 obtain ⟨⟨⟨⟨a1,a2⟩,a3⟩,a4⟩,a5⟩:=hk2
 have hn:=h.nm.len
 have h24:∀ i< s.idx.names.length,(rowsOf (EW s.mem) ((i:Int)+1)).length≤24:=fun i hi=>WQ hK (a5 i hi)
 have hpos:∀ k b,(DX s.mem 6)[k]? = some b→0< b.length→k< s.idx.names.length:=fun k b hb hl=>by
  unfold DX at hb
  rw [List.getElem?_map] at hb
  by_cases hk6:k< 6
  ·rw [List.getElem?_range hk6] at hb
   simp only [Option.map_some,Option.some.injEq] at hb
   subst hb
   by_cases hlt:k< s.idx.names.length
   ·exact hlt
   ·rw [Rn hK (id:=(k:Int)+1) AB] at hl
    cases hl
  ·rw [List.getElem?_eq_none (by simp; omega)] at hb
   cases hb
 refine ⟨⟨⟨⟨by simp [DY]; omega,by simp [DY]⟩,fun p hp=>?_⟩,by simp [DY]⟩,fun i hi=>?_⟩
 ·rcases List.mem_append.1 hp with hp | hp
  ·exact a3 p hp
  ·simp only [List.mem_cons,List.not_mem_nil,or_false] at hp
   subst hp
   rw [Ip hK.J2.Jq]
   refine Pe (fun b hb=>?_) (by rw [HW]; omega) (UH (fun m hm=>⟨(hK.J2.Jq m hm).1,(hK.J2.Jq m hm).2,hK.row m hm⟩) h1) hpos
   unfold DX at hb
   obtain ⟨i,hi,rfl⟩:=List.mem_map.1 hb
   refine ⟨(EP 0 _ s.mem [] hK.row Blk.nil).2,?_⟩
   by_cases hlt:i< s.idx.names.length
   ·exact h24 i hlt
   ·rw [Rn hK (id:=(i:Int)+1) AB]
    simp
 ·have hi2:i< s.idx.names.length:=hi
  rw [Qq hK AB AB]
  exact a5 i hi2
def Cw (s:Sto):Sto × Bool:=if Ae s then BE (AY s) else (⟨⟨[],[]⟩,[],[]⟩,false)
theorem J7 {s:Sto}(h:Ae s=false):Cw s=(⟨⟨[],[]⟩,[],[]⟩,false):=by unfold Cw; rw [if_neg (by simp [h])]
theorem Iq {s:Sto}(h:Ae s=true):Cw s=BE (AY s):=by unfold Cw; rw [if_pos h]
theorem Oh {s:Sto}(h:Ae s=true):s.parts.length≤6:=by
 unfold Ae at h
 simp only [AW,decide_eq_true_eq] at h
 exact h.1.1.1.1
theorem HX {s:Sto}(_h:SD s) (hk:Ae s=true) (h1:(s.mem.length:Int)=0∨(s.parts.length:Int)=6):Cw s=(AY s,false):=by
 rw [Iq hk]
 unfold BE
 have e1:(AY s).mem.length=s.mem.length:=rfl
 have e2:(AY s).parts.length=s.parts.length:=rfl
 rw [if_pos AB]
theorem JM {s:Sto}(_h:SD s) (hk:Ae s=true) (h1:(s.mem.length:Int)≠0) (h2:(s.parts.length:Int)≠6):Cw s=(⟨(AY s).idx,(AY s).parts++[Ah s.mem],[]⟩,true):=by
 rw [Iq hk]
 unfold BE
 have e1:(AY s).mem.length=s.mem.length:=rfl
 have e2:(AY s).parts.length=s.parts.length:=rfl
 have:=Oh hk
 rw [if_neg AB]
 rfl
theorem Ro {mem:List Smp}{k:Nat}(hk:1≤k):DX mem (k+1 - 1)=DX mem (k - 1)++[rowsOf (EW mem) (k:Int)]:=by
 rw [show k+1 - 1=(k - 1)+1 by omega,Sc,show ((k - 1:Nat):Int)+1=(k:Int) by omega]
theorem WR {mem:List Smp}{k:Nat}{a:List Int}(h:a=(BN 0 (DX mem (k - 1))).1) (hk:1≤k) (hl:((rowsOf (EW mem) (k:Int)).length:Int) > 0):a++[(k:Int)]=(BN 0 (DX mem (k+1 - 1))).1:=by
 rw [Ro hk,DN,if_pos AB,h,HW,show ((0:Nat):Int)+((k - 1:Nat):Int)+1=(k:Int) by omega]
theorem WS {mem:List Smp}{k:Nat}{a:List Int}(h:a=(BN 0 (DX mem (k - 1))).1) (hk:1≤k) (hl:¬ ((rowsOf (EW mem) (k:Int)).length:Int) > 0):a=(BN 0 (DX mem (k+1 - 1))).1:=by
 rw [Ro hk,DN,if_neg AB,h]
theorem WT {mem:List Smp}{k:Nat}{a:List (List Row)}(h:a=(BN 0 (DX mem (k - 1))).2) (hk:1≤k) (hl:((rowsOf (EW mem) (k:Int)).length:Int) > 0):a++[rowsOf (EW mem) (k:Int)]=(BN 0 (DX mem (k+1 - 1))).2:=by
 rw [Ro hk,DN,if_pos AB,h]
theorem WU {mem:List Smp}{k:Nat}{a:List (List Row)}(h:a=(BN 0 (DX mem (k - 1))).2) (hk:1≤k) (hl:¬ ((rowsOf (EW mem) (k:Int)).length:Int) > 0):a=(BN 0 (DX mem (k+1 - 1))).2:=by
 rw [Ro hk,DN,if_neg AB,h]
theorem Zg {mem:List Smp}{k:Nat}{a:List Int}{b:List (List Row)}(hm:∀ m∈mem,1≤m.id∧m.id≤6) (hk:k=7) (ha:a=(BN 0 (DX mem (k - 1))).1) (hb:b=(BN 0 (DX mem (k - 1))).2):(⟨a,b⟩:Prt)=Ah mem:=by
 subst hk ha hb
 rw [Ip hm]
 rfl
end Go.Proofs.YtcginoabkicdiaaGreat
namespace Go.Proofs.YtcginoabkicdiaaGreat
theorem WW {s:Sto}{n:List Tag}{r:Row}(h:(Dq s n r).2=true):Ae s=true∧As n=true∧Dq s n r=Ch (AY s) n r:=by
 unfold Dq at h ⊢
 by_cases hk:Ae s=true∧As n=true
 ·rw [if_pos hk]
  exact ⟨hk.1,hk.2,rfl⟩
 ·rw [if_neg hk] at h
  cases h
theorem WX {s:Sto}{n:List Tag}{r:Row}(h:(Ch s n r).2=true):(Ba s.idx n).2.2=true∧BS r=true∧s.mem.length< 20∧(rowsOf (Jp s n r) (Ba s.idx n).2.1).length≤24∧Ch s n r=(Jp s n r,true):=by
 unfold Ch at h ⊢
 split at h
 ·cases h
 ·rename_i h1
  split at h
  ·cases h
  ·rename_i h2
   simp only [Bool.or_eq_true,not_or,Bool.not_eq_true',Bool.not_eq_false,decide_eq_true_eq] at h1
   obtain ⟨⟨a1,a2⟩,a3⟩:=h1
   rw [if_neg (by first | (simp [a1,a2,a3]; done) | (simp [a1,a2,a3]; omega)),if_neg h2]
   exact ⟨a1,a2,by omega,by omega,rfl⟩
theorem Pf {id:Int}:∀ (mem:List Smp) (o:List Row),(∀ m∈mem,m.id≠id)→mem.foldl (CZ id) o=o:=by
 intro mem
 induction mem with
 | nil=>intro o _; rfl
 | cons m ms ih =>
   intro o h
   rw [List.foldl_cons,HQ (h m AD)]
   exact ih o (fun x hx=>h x (by simp [hx]))
theorem Pg (x:Idx) (ps:List Prt) (mem:List Smp) (m:Smp) (id:Int):rowsOf ⟨x,ps,mem++[m]⟩ id=CZ id (rowsOf ⟨x,ps,mem⟩ id) m:=by
 unfold rowsOf
 simp only [List.foldl_append,List.foldl_cons,List.foldl_nil]
theorem Qs (x x':Idx) (ps:List Prt) (mem:List Smp) (id:Int):rowsOf ⟨x,ps,mem⟩ id=rowsOf ⟨x',ps,mem⟩ id:=rfl
theorem Sh {id:Int}:∀ (ps:List Prt) (o:List Row),(∀ p∈ps,PrtI p)→Blk o→Blk (ps.foldl (CP id) o):=by
 intro ps
 induction ps with
 | nil=>intro o _ h; exact h
 | cons p ps ih=>intro o h ho; exact ih _ (fun q hq=>h q (by simp [hq])) (ho.merge ((h p AD).of id))
theorem Si {id:Int}:∀ (mem:List Smp) (o:List Row),(∀ m∈mem,BS m.row=true)→Blk o→Blk (mem.foldl (CZ id) o):=by
 intro mem
 induction mem with
 | nil=>intro o _ h; exact h
 | cons m ms ih =>
   intro o h ho
   refine ih _ (fun q hq=>h q (by simp [hq])) ?_
   unfold CZ
   split
   ·exact ho.put (h m AD)
   ·exact ho
theorem StoI.blk {s:Sto}(h:StoI s) (id:Int):Blk (rowsOf s id):=Si _ _ (fun m hm=>(h.mem m hm).2.2) (Sh _ _ h.part Blk.nil)
theorem UI {id:Int}:∀ (is:List Int) (bs:List (List Row)),(∀ i∈is,i≠id)→Bd id is bs=[]:=by
 intro is
 induction is with
 | nil=>intro bs _; unfold Bd; rfl
 | cons i is ih =>
   intro bs h
   cases bs with
   | nil=>unfold Bd; rfl
   | cons b bs =>
     unfold Bd
     rw [if_neg (by have:=h i AD; simpa using this)]
     exact ih bs (fun j hj=>h j (by simp [hj]))
theorem Sj {p:Prt}{n:Int}(h:BT p n=true):∀ i∈p.ids,i≤n:=by
 unfold BT at h
 simp only [AW] at h
 obtain ⟨h1,h2⟩:=h
 unfold Ai at h1
 simp only [AW,decide_eq_true_eq] at h1
 have key:∀ (is:List Int) (bs:List (List Row)) (o:Option Int),BU o is bs=true→∀ l,is.getLast? = some l→∀ i∈is,i≤l:=by
  intro is
  induction is with
  | nil=>intro bs o _ l hl; simp at hl
  | cons x xs ih =>
    intro bs o hg l hl i hi
    cases bs with
    | nil=>simp [BU] at hg
    | cons b bs =>
      simp only [BU,AW] at hg
      obtain ⟨g1,_⟩:=Nr xs bs (some x) hg.2
      cases hx:xs.getLast? with
      | none =>
        have:xs=[]:=List.getLast?_eq_none_iff.1 hx
        subst this
        simp at hl hi
        omega
      | some l' =>
        have e:(x::xs).getLast? = some l':=by rw [List.getLast?_cons,hx]; rfl
        rw [e] at hl
        cases hl
        rcases List.mem_cons.1 hi with rfl | hi
        ·have:=g1 i rfl l (List.mem_of_getLast? hx); omega
        ·exact ih bs (some x) hg.2 l hx i hi
 intro i hi
 cases hl:p.ids.getLast? with
 | none=>rw [hl] at h2; cases h2
 | some l =>
   rw [hl] at h2
   have:=key p.ids p.blocks none h1.2 l hl i hi
   have h3:l≤n:=by simpa using h2
   omega
theorem Ph {id:Int}{n:Int}:∀ (ps:List Prt) (o:List Row),(∀ p∈ps,BT p n=true)→n< id→ps.foldl (CP id) o=o:=by
 intro ps
 induction ps with
 | nil=>intro o _ _; rfl
 | cons p ps ih =>
   intro o h hid
   rw [List.foldl_cons]
   have:CP id o p=o:=by
    unfold CP partOf
    rw [UI p.ids p.blocks (fun i hi=>by have:=Sj (h p AD) i hi; omega)]
    rfl
   rw [this]
   exact ih o (fun q hq=>h q (by simp [hq])) hid
theorem Pj {p:Prt}{n m:Int}(h:BT p n=true) (hm:n≤m):BT p m=true:=by
 have hok:=Ef h
 unfold BT at h ⊢
 rw [hok,Bool.true_and] at h ⊢
 cases hl:p.ids.getLast? with
 | none=>rw [hl] at h; cases h
 | some l =>
   rw [hl] at h
   simp only [decide_eq_true_eq] at h ⊢
   omega
theorem HY {s:Sto}:Ae s=true↔s.parts.length≤6∧s.mem.length≤20∧(∀ p∈s.parts,BT p s.idx.names.length=true)∧(∀ m∈s.mem,DM s.idx.names.length m=true)∧∀ i,i< s.idx.names.length→(rowsOf s ((i:Int)+1)).length≤24:=by
 unfold Ae
 simp only [AW,decide_eq_true_eq,List.all_eq_true,List.mem_range,Ep]
 constructor
 ·rintro ⟨⟨⟨⟨h1,h2⟩,h3⟩,h4⟩,h5⟩; exact ⟨h1,h2,h3,h4,h5⟩
 ·rintro ⟨h1,h2,h3,h4,h5⟩; exact ⟨⟨⟨⟨h1,h2⟩,h3⟩,h4⟩,h5⟩
theorem Pk {n:Nat}{m:Smp}(h1:1≤m.id) (h2:m.id≤n) (h3:BS m.row=true):DM n m=true:=by
 unfold DM inR
 simp [h1,h2,h3]
theorem WY {s:Sto}{n:List Tag}{r:Row}(h:SD s) (hk:Ae s=true) (h1:(Ba s.idx n).2.2=true) (h2:BS r=true) (h3:s.mem.length< 20) (h4:(rowsOf (Jp s n r) (Ba s.idx n).2.1).length≤24):Ae (Jp s n r)=true:=by
 have hK:=StoK.of h hk
 obtain ⟨a1,a2,a3,a4,a5⟩:=HY.1 hk
 obtain ⟨g1,g2,g3,g4⟩:=TV h.idx h.nm n
 have g5:=g4 h1
 refine HY.2 ⟨a1,by simp only [Jp,List.length_append,List.length_cons,List.length_nil]; omega,fun p hp=>Pj (a3 p hp) (by show (s.idx.names.length:Int)≤((Ba s.idx n).1.names.length:Int); omega),fun m hm=>?_,fun i hi=>?_⟩
 ·rcases List.mem_append.1 hm with hm | hm
  ·have:=hK.id m hm
   exact Pk this.1 (by show m.id≤((Ba s.idx n).1.names.length:Int); omega) (hK.row m hm)
  ·simp at hm
   subst hm
   exact Pk g5.1 g5.2 h2
 ·by_cases he:(Ba s.idx n).2.1=(i:Int)+1
  ·rw [← he]; exact h4
  ·have e:rowsOf (Jp s n r) ((i:Int)+1)=rowsOf s ((i:Int)+1):=by
    unfold Jp
    rw [Pg,HQ (by simpa using he)]
    exact Qs _ s.idx s.parts s.mem _
   rw [e]
   by_cases hil:i< s.idx.names.length
   ·exact a5 i hil
   ·have:rowsOf s ((i:Int)+1)=[]:=by
     unfold rowsOf
     rw [Ph (n:=s.idx.names.length) s.parts [] a3 AB,Pf s.mem [] (fun m hm=>by have:=(hK.id m hm).2; omega)]
    rw [this]; simp
end Go.Proofs.YtcginoabkicdiaaGreat
namespace Go.Proofs.YtcginoabkicdiaaGreat
section
variable {b:List Row} {r:Row}
theorem bok (h:Ax b=true):b.length≤24:=by
 unfold Ax at h
 simp only [AW,decide_eq_true_eq] at h
 exact h.2
theorem Blk.bok (h:Blk b) (h2:b.length≤24):Ax b=true:=by
 unfold Ax
 simp only [AW,decide_eq_true_eq]
 exact ⟨h,h2⟩
end
end Go.Proofs.YtcginoabkicdiaaGreat
