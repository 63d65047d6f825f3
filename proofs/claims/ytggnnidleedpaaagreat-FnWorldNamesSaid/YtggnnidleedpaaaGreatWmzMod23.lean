/- Of two rows of one time the last one is told: the plain law. -/
import Derived.Test.YtggnnidleedpaaaGreatWmzMod20
set_option linter.unusedVariables false
set_option linter.unusedSimpArgs false
namespace Go.Proofs.YtggnnidleedpaaaGreat
theorem Ra {s:Sto}{n:List Tag}{r:Row}(h:(Bd s n r).2=true):Al s=true∧BC n=true∧Bd s n r=CI (Am s) n r:=by
 unfold Bd at h ⊢
 by_cases hk:Al s=true∧BC n=true
 ·rw [if_pos hk]
  exact ⟨hk.1,hk.2,rfl⟩
 ·rw [if_neg hk] at h
  cases h
theorem Rb {s:Sto}{n:List Tag}{r:Row}(h:(CI s n r).2=true):(Bu s.idx n).2.2=true∧Bi r=true∧s.mem.length< 20∧(rowsOf (Hd s n r) (Bu s.idx n).2.1).length≤24∧CI s n r=(Hd s n r,true):=by
 unfold CI at h ⊢
 split at h
 ·cases h
 ·rename_i h1
  split at h
  ·cases h
  ·rename_i h2
   simp only [Bool.or_eq_true,not_or,Bool.not_eq_true',Bool.not_eq_false,decide_eq_true_eq] at h1
   obtain ⟨⟨a1,a2⟩,a3⟩:=h1
   rw [if_neg (by first | (simp [a1,a2,a3]; done) | (simp [a1,a2,a3]; omega)),if_neg h2]
   exact ⟨a1,a2,by omega,by omega,rfl⟩
theorem L3 {id:Int}:∀ (mem:List Smp) (o:List Row),(∀ m∈mem,m.id≠id)→mem.foldl (CV id) o=o:=by
 intro mem
 induction mem with
 | nil=>intro o _; rfl
 | cons m ms ih =>
   intro o h
   rw [List.foldl_cons,Fy (h m AD)]
   exact ih o (fun x hx=>h x (by simp [hx]))
theorem L4 (x:Idx) (ps:List Prt) (mem:List Smp) (m:Smp) (id:Int):rowsOf ⟨x,ps,mem++[m]⟩ id=CV id (rowsOf ⟨x,ps,mem⟩ id) m:=by
 unfold rowsOf
 simp only [List.foldl_append,List.foldl_cons,List.foldl_nil]
theorem M8 (x x':Idx) (ps:List Prt) (mem:List Smp) (id:Int):rowsOf ⟨x,ps,mem⟩ id=rowsOf ⟨x',ps,mem⟩ id:=rfl
theorem Oe {id:Int}:∀ (ps:List Prt) (o:List Row),(∀ p∈ps,PrtI p)→Blk o→Blk (ps.foldl (CK id) o):=by
 intro ps
 induction ps with
 | nil=>intro o _ h; exact h
 | cons p ps ih=>intro o h ho; exact ih _ (fun q hq=>h q (by simp [hq])) (ho.merge ((h p AD).of id))
theorem Og {id:Int}:∀ (mem:List Smp) (o:List Row),(∀ m∈mem,Bi m.row=true)→Blk o→Blk (mem.foldl (CV id) o):=by
 intro mem
 induction mem with
 | nil=>intro o _ h; exact h
 | cons m ms ih =>
   intro o h ho
   refine ih _ (fun q hq=>h q (by simp [hq])) ?_
   unfold CV
   split
   ·exact ho.put (h m AD)
   ·exact ho
theorem StoI.blk {s:Sto}(h:StoI s) (id:Int):Blk (rowsOf s id):=Og _ _ (fun m hm=>(h.mem m hm).2.2) (Oe _ _ h.part Blk.nil)
theorem P3 {id:Int}:∀ (is:List Int) (bs:List (List Row)),(∀ i∈is,i≠id)→Bm id is bs=[]:=by
 intro is
 induction is with
 | nil=>intro bs _; unfold Bm; rfl
 | cons i is ih =>
   intro bs h
   cases bs with
   | nil=>unfold Bm; rfl
   | cons b bs =>
     unfold Bm
     rw [if_neg (by have:=h i AD; simpa using this)]
     exact ih bs (fun j hj=>h j (by simp [hj]))
theorem Oh {p:Prt}{n:Int}(h:Bw p n=true):∀ i∈p.ids,i≤n:=by
 unfold Bw at h
 simp only [AW] at h
 obtain ⟨h1,h2⟩:=h
 unfold Az at h1
 simp only [AW,decide_eq_true_eq] at h1
 have key:∀ (is:List Int) (bs:List (List Row)) (o:Option Int),CA o is bs=true→∀ l,is.getLast? = some l→∀ i∈is,i≤l:=by
  intro is
  induction is with
  | nil=>intro bs o _ l hl; simp at hl
  | cons x xs ih =>
    intro bs o hg l hl i hi
    cases bs with
    | nil=>simp [CA] at hg
    | cons b bs =>
      simp only [CA,AW] at hg
      obtain ⟨g1,_⟩:=KV xs bs (some x) hg.2
      cases hx:xs.getLast? with
      | none =>
        have:xs=[]:=List.getLast?_eq_none_iff.1 hx
        subst this
        simp at hl hi
        omega
      | some l' =>
        have e:(x::xs).getLast? = some l':=by rw [List.getLast?_cons,hx]; rfl
        rw [e] at hl
        cases hl
        rcases List.mem_cons.1 hi with rfl | hi
        ·have:=g1 i rfl l (List.mem_of_getLast? hx); omega
        ·exact ih bs (some x) hg.2 l hx i hi
 intro i hi
 cases hl:p.ids.getLast? with
 | none=>rw [hl] at h2; cases h2
 | some l =>
   rw [hl] at h2
   have:=key p.ids p.blocks none h1.2 l hl i hi
   have h3:l≤n:=by simpa using h2
   omega
theorem L5 {id:Int}{n:Int}:∀ (ps:List Prt) (o:List Row),(∀ p∈ps,Bw p n=true)→n< id→ps.foldl (CK id) o=o:=by
 intro ps
 induction ps with
 | nil=>intro o _ _; rfl
 | cons p ps ih =>
   intro o h hid
   rw [List.foldl_cons]
   have:CK id o p=o:=by
    unfold CK partOf
    rw [P3 p.ids p.blocks (fun i hi=>by have:=Oh (h p AD) i hi; omega)]
    rfl
   rw [this]
   exact ih o (fun q hq=>h q (by simp [hq])) hid
theorem L6 {p:Prt}{n m:Int}(h:Bw p n=true) (hm:n≤m):Bw p m=true:=by
 have hok:=Dz h
 unfold Bw at h ⊢
 rw [hok,Bool.true_and] at h ⊢
 cases hl:p.ids.getLast? with
 | none=>rw [hl] at h; cases h
 | some l =>
   rw [hl] at h
   simp only [decide_eq_true_eq] at h ⊢
   omega
theorem EB {s:Sto}:Al s=true↔s.parts.length≤6∧s.mem.length≤20∧(∀ p∈s.parts,Bw p s.idx.names.length=true)∧(∀ m∈s.mem,EI s.idx.names.length m=true)∧∀ i,i< s.idx.names.length→(rowsOf s ((i:Int)+1)).length≤24:=by
 unfold Al
 simp only [AW,decide_eq_true_eq,List.all_eq_true,List.mem_range,EJ]
 constructor
 ·rintro ⟨⟨⟨⟨h1,h2⟩,h3⟩,h4⟩,h5⟩; exact ⟨h1,h2,h3,h4,h5⟩
 ·rintro ⟨h1,h2,h3,h4,h5⟩; exact ⟨⟨⟨⟨h1,h2⟩,h3⟩,h4⟩,h5⟩
theorem L7 {n:Nat}{m:Smp}(h1:1≤m.id) (h2:m.id≤n) (h3:Bi m.row=true):EI n m=true:=by
 unfold EI inR
 simp [h1,h2,h3]
theorem Rc {s:Sto}{n:List Tag}{r:Row}(h:SD s) (hk:Al s=true) (h1:(Bu s.idx n).2.2=true) (h2:Bi r=true) (h3:s.mem.length< 20) (h4:(rowsOf (Hd s n r) (Bu s.idx n).2.1).length≤24):Al (Hd s n r)=true:=by
 have hK:=StoK.of h hk
 obtain ⟨a1,a2,a3,a4,a5⟩:=EB.1 hk
 obtain ⟨g1,g2,g3,g4⟩:=PG h.idx h.nm n
 have g5:=g4 h1
 refine EB.2 ⟨a1,by simp only [Hd,List.length_append,List.length_cons,List.length_nil]; omega,fun p hp=>L6 (a3 p hp) (by show (s.idx.names.length:Int)≤((Bu s.idx n).1.names.length:Int); omega),fun m hm=>?_,fun i hi=>?_⟩
 ·rcases List.mem_append.1 hm with hm | hm
  ·have:=hK.id m hm
   exact L7 this.1 (by show m.id≤((Bu s.idx n).1.names.length:Int); omega) (hK.row m hm)
  ·simp at hm
   subst hm
   exact L7 g5.1 g5.2 h2
 ·by_cases he:(Bu s.idx n).2.1=(i:Int)+1
  ·rw [← he]; exact h4
  ·have e:rowsOf (Hd s n r) ((i:Int)+1)=rowsOf s ((i:Int)+1):=by
    unfold Hd
    rw [L4,Fy (by simpa using he)]
    exact M8 _ s.idx s.parts s.mem _
   rw [e]
   by_cases hil:i< s.idx.names.length
   ·exact a5 i hil
   ·have:rowsOf s ((i:Int)+1)=[]:=by
     unfold rowsOf
     rw [L5 (n:=s.idx.names.length) s.parts [] a3 AB,L3 s.mem [] (fun m hm=>by have:=(hK.id m hm).2; omega)]
    rw [this]; simp
end Go.Proofs.YtggnnidleedpaaaGreat
