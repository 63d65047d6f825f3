/- Of two rows of one time the last one is told: the plain law. -/
import Derived.Test.YtckdhcbbgmiccaaGreatWyzMod20
set_option linter.unusedVariables false
set_option linter.unusedSimpArgs false
namespace Go.Proofs.YtckdhcbbgmiccaaGreat
theorem Tf {s:Sto}{n:List Tag}{r:Row}(h:(BQ s n r).2=true):Ac s=true∧Aq n=true∧BQ s n r=By (AZ s) n r:=by
 unfold BQ at h ⊢
 by_cases hk:Ac s=true∧Aq n=true
 ·rw [if_pos hk]
  exact ⟨hk.1,hk.2,rfl⟩
 ·rw [if_neg hk] at h
  cases h
theorem KA {s:Sto}{n:List Tag}{r:Row}(h:(By s n r).2=true):(BO s.idx n).2.2=true∧BS r=true∧s.mem.length< 20∧(rowsOf (E4 s n r) (BO s.idx n).2.1).length≤24∧By s n r=(E4 s n r,true):=by
 unfold By at h ⊢
 split at h
 ·cases h
 ·rename_i h1
  split at h
  ·cases h
  ·rename_i h2
   simp only [Bool.or_eq_true,not_or,Bool.not_eq_true',Bool.not_eq_false,decide_eq_true_eq] at h1
   obtain ⟨⟨a1,a2⟩,a3⟩:=h1
   rw [if_neg (by first | (simp [a1,a2,a3]; done) | (simp [a1,a2,a3]; omega)),if_neg h2]
   exact ⟨a1,a2,by omega,by omega,rfl⟩
theorem JW {id:Int}:∀ (mem:List Smp) (o:List Row),(∀ m∈mem,m.id≠id)→mem.foldl (CM id) o=o:=by
 intro mem
 induction mem with
 | nil=>intro o _; rfl
 | cons m ms ih =>
   intro o h
   rw [List.foldl_cons,Fe (h m AD)]
   exact ih o (fun x hx=>h x (by simp [hx]))
theorem JX (x:Idx) (ps:List Prt) (mem:List Smp) (m:Smp) (id:Int):rowsOf ⟨x,ps,mem++[m]⟩ id=CM id (rowsOf ⟨x,ps,mem⟩ id) m:=by
 unfold rowsOf
 simp only [List.foldl_append,List.foldl_cons,List.foldl_nil]
theorem Og (x x':Idx) (ps:List Prt) (mem:List Smp) (id:Int):rowsOf ⟨x,ps,mem⟩ id=rowsOf ⟨x',ps,mem⟩ id:=rfl
theorem QJ {id:Int}:∀ (ps:List Prt) (o:List Row),(∀ p∈ps,PrtI p)→Blk o→Blk (ps.foldl (Bo id) o):=by
 intro ps
 induction ps with
 | nil=>intro o _ h; exact h
 | cons p ps ih=>intro o h ho; exact ih _ (fun q hq=>h q (by simp [hq])) (ho.merge ((h p AD).of id))
theorem QK {id:Int}:∀ (mem:List Smp) (o:List Row),(∀ m∈mem,BS m.row=true)→Blk o→Blk (mem.foldl (CM id) o):=by
 intro mem
 induction mem with
 | nil=>intro o _ h; exact h
 | cons m ms ih =>
   intro o h ho
   refine ih _ (fun q hq=>h q (by simp [hq])) ?_
   unfold CM
   split
   ·exact ho.put (h m AD)
   ·exact ho
theorem StoI.blk {s:Sto}(h:StoI s) (id:Int):Blk (rowsOf s id):=QK _ _ (fun m hm=>(h.mem m hm).2.2) (QJ _ _ h.part Blk.nil)
theorem NW {id:Int}:∀ (is:List Int) (bs:List (List Row)),(∀ i∈is,i≠id)→BY id is bs=[]:=by
 intro is
 induction is with
 | nil=>intro bs _; unfold BY; rfl
 | cons i is ih =>
   intro bs h
   cases bs with
   | nil=>unfold BY; rfl
   | cons b bs =>
     unfold BY
     rw [if_neg (by have:=h i AD; simpa using this)]
     exact ih bs (fun j hj=>h j (by simp [hj]))
theorem QL {p:Prt}{n:Int}(h:Bh p n=true):∀ i∈p.ids,i≤n:=by
 unfold Bh at h
 simp only [AW] at h
 obtain ⟨h1,h2⟩:=h
 unfold At at h1
 simp only [AW,decide_eq_true_eq] at h1
 have key:∀ (is:List Int) (bs:List (List Row)) (o:Option Int),Bl o is bs=true→∀ l,is.getLast? = some l→∀ i∈is,i≤l:=by
  intro is
  induction is with
  | nil=>intro bs o _ l hl; simp at hl
  | cons x xs ih =>
    intro bs o hg l hl i hi
    cases bs with
    | nil=>simp [Bl] at hg
    | cons b bs =>
      simp only [Bl,AW] at hg
      obtain ⟨g1,_⟩:=Lm xs bs (some x) hg.2
      cases hx:xs.getLast? with
      | none =>
        have:xs=[]:=List.getLast?_eq_none_iff.1 hx
        subst this
        simp at hl hi
        omega
      | some l' =>
        have e:(x::xs).getLast? = some l':=by rw [List.getLast?_cons,hx]; rfl
        rw [e] at hl
        cases hl
        rcases List.mem_cons.1 hi with rfl | hi
        ·have:=g1 i rfl l (List.mem_of_getLast? hx); omega
        ·exact ih bs (some x) hg.2 l hx i hi
 intro i hi
 cases hl:p.ids.getLast? with
 | none=>rw [hl] at h2; cases h2
 | some l =>
   rw [hl] at h2
   have:=key p.ids p.blocks none h1.2 l hl i hi
   have h3:l≤n:=by simpa using h2
   omega
theorem JY {id:Int}{n:Int}:∀ (ps:List Prt) (o:List Row),(∀ p∈ps,Bh p n=true)→n< id→ps.foldl (Bo id) o=o:=by
 intro ps
 induction ps with
 | nil=>intro o _ _; rfl
 | cons p ps ih =>
   intro o h hid
   rw [List.foldl_cons]
   have:Bo id o p=o:=by
    unfold Bo partOf
    rw [NW p.ids p.blocks (fun i hi=>by have:=QL (h p AD) i hi; omega)]
    rfl
   rw [this]
   exact ih o (fun q hq=>h q (by simp [hq])) hid
theorem NX {p:Prt}{n m:Int}(h:Bh p n=true) (hm:n≤m):Bh p m=true:=by
 have hok:=En h
 unfold Bh at h ⊢
 rw [hok,Bool.true_and] at h ⊢
 cases hl:p.ids.getLast? with
 | none=>rw [hl] at h; cases h
 | some l =>
   rw [hl] at h
   simp only [decide_eq_true_eq] at h ⊢
   omega
theorem Dr {s:Sto}:Ac s=true↔s.parts.length≤6∧s.mem.length≤20∧(∀ p∈s.parts,Bh p s.idx.names.length=true)∧(∀ m∈s.mem,Ec s.idx.names.length m=true)∧∀ i,i< s.idx.names.length→(rowsOf s ((i:Int)+1)).length≤24:=by
 unfold Ac
 simp only [AW,decide_eq_true_eq,List.all_eq_true,List.mem_range,Ed]
 constructor
 ·rintro ⟨⟨⟨⟨h1,h2⟩,h3⟩,h4⟩,h5⟩; exact ⟨h1,h2,h3,h4,h5⟩
 ·rintro ⟨h1,h2,h3,h4,h5⟩; exact ⟨⟨⟨⟨h1,h2⟩,h3⟩,h4⟩,h5⟩
theorem NY {n:Nat}{m:Smp}(h1:1≤m.id) (h2:m.id≤n) (h3:BS m.row=true):Ec n m=true:=by
 unfold Ec inR
 simp [h1,h2,h3]
theorem Tg {s:Sto}{n:List Tag}{r:Row}(h:SD s) (hk:Ac s=true) (h1:(BO s.idx n).2.2=true) (h2:BS r=true) (h3:s.mem.length< 20) (h4:(rowsOf (E4 s n r) (BO s.idx n).2.1).length≤24):Ac (E4 s n r)=true:=by
 have hK:=StoK.of h hk
 obtain ⟨a1,a2,a3,a4,a5⟩:=Dr.1 hk
 obtain ⟨g1,g2,g3,g4⟩:=MS h.idx h.nm n
 have g5:=g4 h1
 refine Dr.2 ⟨a1,by simp only [E4,List.length_append,List.length_cons,List.length_nil]; omega,fun p hp=>NX (a3 p hp) (by show (s.idx.names.length:Int)≤((BO s.idx n).1.names.length:Int); omega),fun m hm=>?_,fun i hi=>?_⟩
 ·rcases List.mem_append.1 hm with hm | hm
  ·have:=hK.id m hm
   exact NY this.1 (by show m.id≤((BO s.idx n).1.names.length:Int); omega) (hK.row m hm)
  ·simp at hm
   subst hm
   exact NY g5.1 g5.2 h2
 ·by_cases he:(BO s.idx n).2.1=(i:Int)+1
  ·rw [← he]; exact h4
  ·have e:rowsOf (E4 s n r) ((i:Int)+1)=rowsOf s ((i:Int)+1):=by
    unfold E4
    rw [JX,Fe (by simpa using he)]
    exact Og _ s.idx s.parts s.mem _
   rw [e]
   by_cases hil:i< s.idx.names.length
   ·exact a5 i hil
   ·have:rowsOf s ((i:Int)+1)=[]:=by
     unfold rowsOf
     rw [JY (n:=s.idx.names.length) s.parts [] a3 AB,JW s.mem [] (fun m hm=>by have:=(hK.id m hm).2; omega)]
    rw [this]; simp
theorem U6 (r:Row):∀ (b:List Row),atB r.t (Cu r b)=true∧atV r.t (Cu r b)=r.v:=by
 intro b
 induction b with
 | nil=>simp [Cu,atB,atV]
 | cons x xs ih =>
   unfold Cu
   by_cases h1:r.t< x.t
   ·rw [if_pos h1]; simp [atB,atV]
   ·rw [if_neg h1]
    by_cases h2:r.t=x.t
    ·rw [if_pos h2]; simp [atB,atV]
    ·rw [if_neg h2]
     have:(x.t==r.t)=false:=by rw [beq_eq_false_iff_ne]; exact fun e=>h2 e.symm
     unfold atB atV
     rw [this]
     exact ih
end Go.Proofs.YtckdhcbbgmiccaaGreat
namespace Go.Proofs.YtckdhcbbgmiccaaGreat
theorem NZ {s:Sto}(h:SD s) (hk:Ac s=true){i:Int}(hi:(s.idx.names.length:Int)< i):rowsOf s i=[]:=by
 obtain ⟨_,_,a3,_,_⟩:=Dr.1 hk
 unfold rowsOf
 rw [JY (n:=s.idx.names.length) s.parts [] a3 hi,JW s.mem [] (fun m hm=>by have:=((StoK.of h hk).id m hm).2; omega)]
theorem QM {s:Sto}(h:SD s) (hk:Ac s=true){i:Int}(h1:1≤i):Ci s i=rowsOf s i:=by
 by_cases hi:i≤(s.idx.names.length:Int)
 ·exact I8 hk (by unfold inR; simp [h1,hi])
 ·rw [Km (.inr (by unfold inR; simp [hi])),NZ h hk AB]
theorem Hh {s:Sto}{n:List Tag}{r:Row}(h:SD s) (hk:Ac s=true) (j:Int):rowsOf (E4 s n r) j=if j=(BO s.idx n).2.1 then Cu r (rowsOf s j) else rowsOf s j:=by
 have hb:Blk (rowsOf s j):=(StoK.of h hk).Jn.blk _
 unfold E4
 rw [JX]
 by_cases hj:j=(BO s.idx n).2.1
 ·rw [if_pos hj]
  exact Iz (m:=⟨_,r⟩) hj.symm hb
 ·rw [if_neg hj]
  exact Fe (m:=⟨_,r⟩) (fun e=>hj e.symm)
end Go.Proofs.YtckdhcbbgmiccaaGreat
