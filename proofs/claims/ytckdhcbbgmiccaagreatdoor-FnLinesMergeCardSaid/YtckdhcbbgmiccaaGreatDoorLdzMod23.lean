/- Of two rows of one time the last one is told: the plain law. -/
import Derived.Test.YtckdhcbbgmiccaaGreatDoorLdzMod20
set_option linter.unusedVariables false
set_option linter.unusedSimpArgs false
namespace Go.Proofs.YtckdhcbbgmiccaaGreatDoor
theorem Wy {s:Sto}{n:List Tag}{r:Row}(h:(Bb s n r).2=true):Ab s=true∧Ar n=true∧Bb s n r=CQ (Ai s) n r:=by
 unfold Bb at h ⊢
 by_cases hk:Ab s=true∧Ar n=true
 ·rw [if_pos hk]
  exact ⟨hk.1,hk.2,rfl⟩
 ·rw [if_neg hk] at h
  cases h
theorem Oj {s:Sto}{n:List Tag}{r:Row}(h:(CQ s n r).2=true):(BY s.idx n).2.2=true∧Be r=true∧s.mem.length< 20∧(rowsOf (GL s n r) (BY s.idx n).2.1).length≤24∧CQ s n r=(GL s n r,true):=by
 unfold CQ at h ⊢
 split at h
 ·cases h
 ·rename_i h1
  split at h
  ·cases h
  ·rename_i h2
   simp only [Bool.or_eq_true,not_or,Bool.not_eq_true',Bool.not_eq_false,decide_eq_true_eq] at h1
   obtain ⟨⟨a1,a2⟩,a3⟩:=h1
   rw [if_neg (by first | (simp [a1,a2,a3]; done) | (simp [a1,a2,a3]; omega)),if_neg h2]
   exact ⟨a1,a2,by omega,by omega,rfl⟩
theorem Kw {id:Int}:∀ (mem:List Smp) (o:List Row),(∀ m∈mem,m.id≠id)→mem.foldl (Cl id) o=o:=by
 intro mem
 induction mem with
 | nil=>intro o _; rfl
 | cons m ms ih =>
   intro o h
   rw [List.foldl_cons,Gg (h m AD)]
   exact ih o (fun x hx=>h x (by simp [hx]))
theorem Kx (x:Idx) (ps:List Prt) (mem:List Smp) (m:Smp) (id:Int):rowsOf ⟨x,ps,mem++[m]⟩ id=Cl id (rowsOf ⟨x,ps,mem⟩ id) m:=by
 unfold rowsOf
 simp only [List.foldl_append,List.foldl_cons,List.foldl_nil]
theorem Q1 (x x':Idx) (ps:List Prt) (mem:List Smp) (id:Int):rowsOf ⟨x,ps,mem⟩ id=rowsOf ⟨x',ps,mem⟩ id:=rfl
theorem TF {id:Int}:∀ (ps:List Prt) (o:List Row),(∀ p∈ps,PrtI p)→Blk o→Blk (ps.foldl (CG id) o):=by
 intro ps
 induction ps with
 | nil=>intro o _ h; exact h
 | cons p ps ih=>intro o h ho; exact ih _ (fun q hq=>h q (by simp [hq])) (ho.merge ((h p AD).of id))
theorem TG {id:Int}:∀ (mem:List Smp) (o:List Row),(∀ m∈mem,Be m.row=true)→Blk o→Blk (mem.foldl (Cl id) o):=by
 intro mem
 induction mem with
 | nil=>intro o _ h; exact h
 | cons m ms ih =>
   intro o h ho
   refine ih _ (fun q hq=>h q (by simp [hq])) ?_
   unfold Cl
   split
   ·exact ho.put (h m AD)
   ·exact ho
theorem StoI.blk {s:Sto}(h:StoI s) (id:Int):Blk (rowsOf s id):=TG _ _ (fun m hm=>(h.mem m hm).2.2) (TF _ _ h.part Blk.nil)
theorem Pm {id:Int}:∀ (is:List Int) (bs:List (List Row)),(∀ i∈is,i≠id)→Bj id is bs=[]:=by
 intro is
 induction is with
 | nil=>intro bs _; unfold Bj; rfl
 | cons i is ih =>
   intro bs h
   cases bs with
   | nil=>unfold Bj; rfl
   | cons b bs =>
     unfold Bj
     rw [if_neg (by have:=h i AD; simpa using this)]
     exact ih bs (fun j hj=>h j (by simp [hj]))
theorem TH {p:Prt}{n:Int}(h:Bv p n=true):∀ i∈p.ids,i≤n:=by
 unfold Bv at h
 simp only [AW] at h
 obtain ⟨h1,h2⟩:=h
 unfold Ay at h1
 simp only [AW,decide_eq_true_eq] at h1
 have key:∀ (is:List Int) (bs:List (List Row)) (o:Option Int),CB o is bs=true→∀ l,is.getLast? = some l→∀ i∈is,i≤l:=by
  intro is
  induction is with
  | nil=>intro bs o _ l hl; simp at hl
  | cons x xs ih =>
    intro bs o hg l hl i hi
    cases bs with
    | nil=>simp [CB] at hg
    | cons b bs =>
      simp only [CB,AW] at hg
      obtain ⟨g1,_⟩:=Nj xs bs (some x) hg.2
      cases hx:xs.getLast? with
      | none =>
        have:xs=[]:=List.getLast?_eq_none_iff.1 hx
        subst this
        simp at hl hi
        omega
      | some l' =>
        have e:(x::xs).getLast? = some l':=by rw [List.getLast?_cons,hx]; rfl
        rw [e] at hl
        cases hl
        rcases List.mem_cons.1 hi with rfl | hi
        ·have:=g1 i rfl l (List.mem_of_getLast? hx); omega
        ·exact ih bs (some x) hg.2 l hx i hi
 intro i hi
 cases hl:p.ids.getLast? with
 | none=>rw [hl] at h2; cases h2
 | some l =>
   rw [hl] at h2
   have:=key p.ids p.blocks none h1.2 l hl i hi
   have h3:l≤n:=by simpa using h2
   omega
theorem Ky {id:Int}{n:Int}:∀ (ps:List Prt) (o:List Row),(∀ p∈ps,Bv p n=true)→n< id→ps.foldl (CG id) o=o:=by
 intro ps
 induction ps with
 | nil=>intro o _ _; rfl
 | cons p ps ih =>
   intro o h hid
   rw [List.foldl_cons]
   have:CG id o p=o:=by
    unfold CG partOf
    rw [Pm p.ids p.blocks (fun i hi=>by have:=TH (h p AD) i hi; omega)]
    rfl
   rw [this]
   exact ih o (fun q hq=>h q (by simp [hq])) hid
theorem Pn {p:Prt}{n m:Int}(h:Bv p n=true) (hm:n≤m):Bv p m=true:=by
 have hok:=FR h
 unfold Bv at h ⊢
 rw [hok,Bool.true_and] at h ⊢
 cases hl:p.ids.getLast? with
 | none=>rw [hl] at h; cases h
 | some l =>
   rw [hl] at h
   simp only [decide_eq_true_eq] at h ⊢
   omega
theorem Dh {s:Sto}:Ab s=true↔s.parts.length≤6∧s.mem.length≤20∧(∀ p∈s.parts,Bv p s.idx.names.length=true)∧(∀ m∈s.mem,FE s.idx.names.length m=true)∧∀ i,i< s.idx.names.length→(rowsOf s ((i:Int)+1)).length≤24:=by
 unfold Ab
 simp only [AW,decide_eq_true_eq,List.all_eq_true,List.mem_range,FF]
 constructor
 ·rintro ⟨⟨⟨⟨h1,h2⟩,h3⟩,h4⟩,h5⟩; exact ⟨h1,h2,h3,h4,h5⟩
 ·rintro ⟨h1,h2,h3,h4,h5⟩; exact ⟨⟨⟨⟨h1,h2⟩,h3⟩,h4⟩,h5⟩
theorem Po {n:Nat}{m:Smp}(h1:1≤m.id) (h2:m.id≤n) (h3:Be m.row=true):FE n m=true:=by
 unfold FE inR
 simp [h1,h2,h3]
theorem Wz {s:Sto}{n:List Tag}{r:Row}(h:SD s) (hk:Ab s=true) (h1:(BY s.idx n).2.2=true) (h2:Be r=true) (h3:s.mem.length< 20) (h4:(rowsOf (GL s n r) (BY s.idx n).2.1).length≤24):Ab (GL s n r)=true:=by
 have hK:=StoK.of h hk
 obtain ⟨a1,a2,a3,a4,a5⟩:=Dh.1 hk
 obtain ⟨g1,g2,g3,g4⟩:=Qj h.idx h.nm n
 have g5:=g4 h1
 refine Dh.2 ⟨a1,by simp only [GL,List.length_append,List.length_cons,List.length_nil]; omega,fun p hp=>Pn (a3 p hp) (by show (s.idx.names.length:Int)≤((BY s.idx n).1.names.length:Int); omega),fun m hm=>?_,fun i hi=>?_⟩
 ·rcases List.mem_append.1 hm with hm | hm
  ·have:=hK.id m hm
   exact Po this.1 (by show m.id≤((BY s.idx n).1.names.length:Int); omega) (hK.row m hm)
  ·simp at hm
   subst hm
   exact Po g5.1 g5.2 h2
 ·by_cases he:(BY s.idx n).2.1=(i:Int)+1
  ·rw [← he]; exact h4
  ·have e:rowsOf (GL s n r) ((i:Int)+1)=rowsOf s ((i:Int)+1):=by
    unfold GL
    rw [Kx,Gg (by simpa using he)]
    exact Q1 _ s.idx s.parts s.mem _
   rw [e]
   by_cases hil:i< s.idx.names.length
   ·exact a5 i hil
   ·have:rowsOf s ((i:Int)+1)=[]:=by
     unfold rowsOf
     rw [Ky (n:=s.idx.names.length) s.parts [] a3 AB,Kw s.mem [] (fun m hm=>by have:=(hK.id m hm).2; omega)]
    rw [this]; simp
end Go.Proofs.YtckdhcbbgmiccaaGreatDoor
namespace Go.Proofs.YtckdhcbbgmiccaaGreatDoor
theorem Pp {s:Sto}(h:SD s) (hk:Ab s=true){i:Int}(hi:(s.idx.names.length:Int)< i):rowsOf s i=[]:=by
 obtain ⟨_,_,a3,_,_⟩:=Dh.1 hk
 unfold rowsOf
 rw [Ky (n:=s.idx.names.length) s.parts [] a3 hi,Kw s.mem [] (fun m hm=>by have:=((StoK.of h hk).id m hm).2; omega)]
theorem Yf {s:Sto}(h:SD s) (hk:Ab s=true){i:Int}(h1:1≤i):(rowsOf s i).length≤24:=by
 by_cases hi:i≤(s.idx.names.length:Int)
 ·have:=(Dh.1 hk).2.2.2.2 (i.toNat - 1) AB
  rwa [show ((i.toNat - 1:Nat):Int)+1=i by omega] at this
 ·rw [Pp h hk AB]; simp
theorem MX {s:Sto}{n:List Tag}{r:Row}(h:SD s) (hk:Ab s=true) (j:Int):rowsOf (GL s n r) j=if j=(BY s.idx n).2.1 then De r (rowsOf s j) else rowsOf s j:=by
 have hb:Blk (rowsOf s j):=(StoK.of h hk).KS.blk _
 unfold GL
 rw [Kx]
 by_cases hj:j=(BY s.idx n).2.1
 ·rw [if_pos hj]
  exact KJ (m:=⟨_,r⟩) hj.symm hb
 ·rw [if_neg hj]
  exact Gg (m:=⟨_,r⟩) (fun e=>hj e.symm)
end Go.Proofs.YtckdhcbbgmiccaaGreatDoor
