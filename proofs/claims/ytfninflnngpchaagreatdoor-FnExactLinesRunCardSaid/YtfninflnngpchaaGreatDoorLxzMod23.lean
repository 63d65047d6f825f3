/- Of two rows of one time the last one is told: the plain law. -/
import Derived.Test.YtfninflnngpchaaGreatDoorLxzW20
set_option linter.unusedVariables false
set_option linter.unusedSimpArgs false
namespace Go.Proofs.YtfninflnngpchaaGreatDoor
theorem WK {s:Sto}{n:List Tag}{r:Row}(h:(BX s n r).2=true):Aa s=true∧Ao n=true∧BX s n r=CI (Ah s) n r:=by
 unfold BX at h ⊢
 by_cases hk:Aa s=true∧Ao n=true
 ·rw [if_pos hk]
  exact ⟨hk.1,hk.2,rfl⟩
 ·rw [if_neg hk] at h
  cases h
theorem RN {s:Sto}{n:List Tag}{r:Row}(h:(CI s n r).2=true):(BV s.idx n).2.2=true∧BZ r=true∧s.mem.length< 20∧(rowsOf (GG s n r) (BV s.idx n).2.1).length≤24∧CI s n r=(GG s n r,true):=by
 unfold CI at h ⊢
 split at h
 ·cases h
 ·rename_i h1
  split at h
  ·cases h
  ·rename_i h2
   simp only [Bool.or_eq_true,not_or,Bool.not_eq_true',Bool.not_eq_false,decide_eq_true_eq] at h1
   obtain ⟨⟨a1,a2⟩,a3⟩:=h1
   rw [if_neg (by first | (simp [a1,a2,a3]; done) | (simp [a1,a2,a3]; omega)),if_neg h2]
   exact ⟨a1,a2,by omega,by omega,rfl⟩
theorem KZ {id:Int}:∀ (mem:List Smp) (o:List Row),(∀ m∈mem,m.id≠id)→mem.foldl (Cb id) o=o:=by
 intro mem
 induction mem with
 | nil=>intro o _; rfl
 | cons m ms ih =>
   intro o h
   rw [List.foldl_cons,GJ (h m AD)]
   exact ih o (fun x hx=>h x (by simp [hx]))
theorem Ka (x:Idx) (ps:List Prt) (mem:List Smp) (m:Smp) (id:Int):rowsOf ⟨x,ps,mem++[m]⟩ id=Cb id (rowsOf ⟨x,ps,mem⟩ id) m:=by
 unfold rowsOf
 simp only [List.foldl_append,List.foldl_cons,List.foldl_nil]
theorem QU (x x':Idx) (ps:List Prt) (mem:List Smp) (id:Int):rowsOf ⟨x,ps,mem⟩ id=rowsOf ⟨x',ps,mem⟩ id:=rfl
theorem SY {id:Int}:∀ (ps:List Prt) (o:List Row),(∀ p∈ps,PrtI p)→Blk o→Blk (ps.foldl (Bv id) o):=by
 intro ps
 induction ps with
 | nil=>intro o _ h; exact h
 | cons p ps ih=>intro o h ho; exact ih _ (fun q hq=>h q (by simp [hq])) (ho.merge ((h p AD).of id))
theorem SZ {id:Int}:∀ (mem:List Smp) (o:List Row),(∀ m∈mem,BZ m.row=true)→Blk o→Blk (mem.foldl (Cb id) o):=by
 intro mem
 induction mem with
 | nil=>intro o _ h; exact h
 | cons m ms ih =>
   intro o h ho
   refine ih _ (fun q hq=>h q (by simp [hq])) ?_
   unfold Cb
   split
   ·exact ho.put (h m AD)
   ·exact ho
theorem StoI.blk {s:Sto}(h:StoI s) (id:Int):Blk (rowsOf s id):=SZ _ _ (fun m hm=>(h.mem m hm).2.2) (SY _ _ h.part Blk.nil)
theorem PE {id:Int}:∀ (is:List Int) (bs:List (List Row)),(∀ i∈is,i≠id)→Bd id is bs=[]:=by
 intro is
 induction is with
 | nil=>intro bs _; unfold Bd; rfl
 | cons i is ih =>
   intro bs h
   cases bs with
   | nil=>unfold Bd; rfl
   | cons b bs =>
     unfold Bd
     rw [if_neg (by have:=h i AD; simpa using this)]
     exact ih bs (fun j hj=>h j (by simp [hj]))
theorem Sa {p:Prt}{n:Int}(h:Bn p n=true):∀ i∈p.ids,i≤n:=by
 unfold Bn at h
 simp only [AW] at h
 obtain ⟨h1,h2⟩:=h
 unfold Av at h1
 simp only [AW,decide_eq_true_eq] at h1
 have key:∀ (is:List Int) (bs:List (List Row)) (o:Option Int),Br o is bs=true→∀ l,is.getLast? = some l→∀ i∈is,i≤l:=by
  intro is
  induction is with
  | nil=>intro bs o _ l hl; simp at hl
  | cons x xs ih =>
    intro bs o hg l hl i hi
    cases bs with
    | nil=>simp [Br] at hg
    | cons b bs =>
      simp only [Br,AW] at hg
      obtain ⟨g1,_⟩:=NE xs bs (some x) hg.2
      cases hx:xs.getLast? with
      | none =>
        have:xs=[]:=List.getLast?_eq_none_iff.1 hx
        subst this
        simp at hl hi
        omega
      | some l' =>
        have e:(x::xs).getLast? = some l':=by rw [List.getLast?_cons,hx]; rfl
        rw [e] at hl
        cases hl
        rcases List.mem_cons.1 hi with rfl | hi
        ·have:=g1 i rfl l (List.mem_of_getLast? hx); omega
        ·exact ih bs (some x) hg.2 l hx i hi
 intro i hi
 cases hl:p.ids.getLast? with
 | none=>rw [hl] at h2; cases h2
 | some l =>
   rw [hl] at h2
   have:=key p.ids p.blocks none h1.2 l hl i hi
   have h3:l≤n:=by simpa using h2
   omega
theorem Kb {id:Int}{n:Int}:∀ (ps:List Prt) (o:List Row),(∀ p∈ps,Bn p n=true)→n< id→ps.foldl (Bv id) o=o:=by
 intro ps
 induction ps with
 | nil=>intro o _ _; rfl
 | cons p ps ih =>
   intro o h hid
   rw [List.foldl_cons]
   have:Bv id o p=o:=by
    unfold Bv partOf
    rw [PE p.ids p.blocks (fun i hi=>by have:=Sa (h p AD) i hi; omega)]
    rfl
   rw [this]
   exact ih o (fun q hq=>h q (by simp [hq])) hid
theorem PF {p:Prt}{n m:Int}(h:Bn p n=true) (hm:n≤m):Bn p m=true:=by
 have hok:=FK h
 unfold Bn at h ⊢
 rw [hok,Bool.true_and] at h ⊢
 cases hl:p.ids.getLast? with
 | none=>rw [hl] at h; cases h
 | some l =>
   rw [hl] at h
   simp only [decide_eq_true_eq] at h ⊢
   omega
theorem DY {s:Sto}:Aa s=true↔s.parts.length≤6∧s.mem.length≤20∧(∀ p∈s.parts,Bn p s.idx.names.length=true)∧(∀ m∈s.mem,E8 s.idx.names.length m=true)∧∀ i,i< s.idx.names.length→(rowsOf s ((i:Int)+1)).length≤24:=by
 unfold Aa
 simp only [AW,decide_eq_true_eq,List.all_eq_true,List.mem_range,E9]
 constructor
 ·rintro ⟨⟨⟨⟨h1,h2⟩,h3⟩,h4⟩,h5⟩; exact ⟨h1,h2,h3,h4,h5⟩
 ·rintro ⟨h1,h2,h3,h4,h5⟩; exact ⟨⟨⟨⟨h1,h2⟩,h3⟩,h4⟩,h5⟩
theorem PG {n:Nat}{m:Smp}(h1:1≤m.id) (h2:m.id≤n) (h3:BZ m.row=true):E8 n m=true:=by
 unfold E8 inR
 simp [h1,h2,h3]
theorem WL {s:Sto}{n:List Tag}{r:Row}(h:SD s) (hk:Aa s=true) (h1:(BV s.idx n).2.2=true) (h2:BZ r=true) (h3:s.mem.length< 20) (h4:(rowsOf (GG s n r) (BV s.idx n).2.1).length≤24):Aa (GG s n r)=true:=by
 have hK:=StoK.of h hk
 obtain ⟨a1,a2,a3,a4,a5⟩:=DY.1 hk
 obtain ⟨g1,g2,g3,g4⟩:=QD h.idx h.nm n
 have g5:=g4 h1
 refine DY.2 ⟨a1,by simp only [GG,List.length_append,List.length_cons,List.length_nil]; omega,fun p hp=>PF (a3 p hp) (by show (s.idx.names.length:Int)≤((BV s.idx n).1.names.length:Int); omega),fun m hm=>?_,fun i hi=>?_⟩
 ·rcases List.mem_append.1 hm with hm | hm
  ·have:=hK.id m hm
   exact PG this.1 (by show m.id≤((BV s.idx n).1.names.length:Int); omega) (hK.row m hm)
  ·simp at hm
   subst hm
   exact PG g5.1 g5.2 h2
 ·by_cases he:(BV s.idx n).2.1=(i:Int)+1
  ·rw [← he]; exact h4
  ·have e:rowsOf (GG s n r) ((i:Int)+1)=rowsOf s ((i:Int)+1):=by
    unfold GG
    rw [Ka,GJ (by simpa using he)]
    exact QU _ s.idx s.parts s.mem _
   rw [e]
   by_cases hil:i< s.idx.names.length
   ·exact a5 i hil
   ·have:rowsOf s ((i:Int)+1)=[]:=by
     unfold rowsOf
     rw [Kb (n:=s.idx.names.length) s.parts [] a3 AB,KZ s.mem [] (fun m hm=>by have:=(hK.id m hm).2; omega)]
    rw [this]; simp
end Go.Proofs.YtfninflnngpchaaGreatDoor
namespace Go.Proofs.YtfninflnngpchaaGreatDoor
theorem PH {s:Sto}(h:SD s) (hk:Aa s=true){i:Int}(hi:(s.idx.names.length:Int)< i):rowsOf s i=[]:=by
 obtain ⟨_,_,a3,_,_⟩:=DY.1 hk
 unfold rowsOf
 rw [Kb (n:=s.idx.names.length) s.parts [] a3 hi,KZ s.mem [] (fun m hm=>by have:=((StoK.of h hk).id m hm).2; omega)]
theorem X4 {s:Sto}(h:SD s) (hk:Aa s=true){i:Int}(h1:1≤i):(rowsOf s i).length≤24:=by
 by_cases hi:i≤(s.idx.names.length:Int)
 ·have:=(DY.1 hk).2.2.2.2 (i.toNat - 1) AB
  rwa [show ((i.toNat - 1:Nat):Int)+1=i by omega] at this
 ·rw [PH h hk AB]; simp
theorem L7 {s:Sto}{n:List Tag}{r:Row}(h:SD s) (hk:Aa s=true) (j:Int):rowsOf (GG s n r) j=if j=(BV s.idx n).2.1 then DU r (rowsOf s j) else rowsOf s j:=by
 have hb:Blk (rowsOf s j):=(StoK.of h hk).J4.blk _
 unfold GG
 rw [Ka]
 by_cases hj:j=(BV s.idx n).2.1
 ·rw [if_pos hj]
  exact Jv (m:=⟨_,r⟩) hj.symm hb
 ·rw [if_neg hj]
  exact GJ (m:=⟨_,r⟩) (fun e=>hj e.symm)
end Go.Proofs.YtfninflnngpchaaGreatDoor
