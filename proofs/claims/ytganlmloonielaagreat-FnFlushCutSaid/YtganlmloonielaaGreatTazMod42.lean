/- Blocks and parts merged, as the program does it: plain laws. -/
import Derived.Test.YtganlmloonielaaGreatTazMod30
import Derived.Test.YtganlmloonielaaGreatTazMod23
set_option linter.unusedVariables false
set_option linter.unusedSimpArgs false
namespace Go.Proofs.YtganlmloonielaaGreat
theorem HH {b:List Row} (h:BE b=true):Blk b:=by
 unfold BE at h
 simp only [AR] at h
 exact h.1
def CP (a b:List Row):List Row × Bool:=if BE a=true∧BE b=true∧¬ ((Bk a b).length:Int) > 24 then (Bk a b,true) else ([],false)
def okM (a b:Prt) (n:Nat):Bool:=(List.range n).all (fun i=>(CP (BQ a ((i:Int)+1)) (BQ b ((i:Int)+1))).2)
def Bu (a b:Prt):Prt × Bool:=if Au a=true∧Au b=true∧okM a b 6=true then (BT a b,true) else (⟨[],[]⟩,false)
def C0 (s:Sto) (at_:Int):Sto × Bool:=if Ak s then Av (BO s) at_ else (⟨⟨[],[]⟩,[],[]⟩,false)
theorem Pp {s:Sto} {i:Int} (h:Ak s=false):C0 s i=(⟨⟨[],[]⟩,[],[]⟩,false):=by unfold C0; rw [if_neg (by simp [h])]
theorem KY {s:Sto} {i:Int} (h:Ak s=true):C0 s i=Av (BO s) i:=by unfold C0; rw [if_pos h]
end Go.Proofs.YtganlmloonielaaGreat
namespace Go.Proofs.YtganlmloonielaaGreat
section
variable {P:Program} {n:Nat} {K:Env→World→Prop} {ops:Array Oper} {j:Nat} {e:Env} {w:World}
theorem RG.clear {ats:List TypeId} {ty:TypeId} {args:List Value} {v:Value} {w':World} (h:JF n ops j e=some (.clear,ats,ty,args))
 (hr:(Builtin.clear_ ats.toArray ty args.toArray).run P w=.ok v w') (H:RG P n K ops (j+1) (BL e (An ops j).dst v) w'):RG P n K ops j e w:=by
 obtain ⟨hg,h⟩:=CW h
 refine RG.val (v:=v) hg ?_ H
 split at h
 ·rename_i c hop
  split at h
  ·rename_i b hcal
   simp only [Option.some.injEq,Prod.mk.injEq] at h
   obtain ⟨rfl,rfl,rfl,rfl⟩:=h
   have ha:(c.args.toList.map (ev e)).toArray=c.args.map (ev e):=by apply Array.toList_inj.1; simp
   rw [ha,Array.toArray_toList] at hr
   simp only [execOp,hop,resolve,hcal]
   exact AW hr
  ·cases h
 ·cases h
end
theorem TK {w:World} {F:Nat→Prop} {x:Prt} {cs:List Value} (h:Rep.rep w F x cs):∀ v∈cs,EH v=true:=Rep.flat h
theorem Own.EH {w:World} {r:Nat} {t:TypeId} {F:Nat→Prop} {n c i:Nat} {xs:List Prt} {cs:List Value} (h:Own w r t F n c xs) (hB:Box w r t cs):∀ v,i+(n - i)≤n→v∈(cs.drop (i * 2)).take ((n - i) * 2)→Go.Proofs.YtganlmloonielaaGreat.EH v=true:=by
 intro v hin hv
 obtain ⟨k,hk⟩:=List.mem_iff_getElem?.1 hv
 rw [List.getElem?_take] at hk
 split at hk
 ·rename_i hlt
  rw [List.getElem?_drop] at hk
  have hn:=h.len
  have hj:i+k / 2< xs.length:=by omega
  obtain ⟨c1,g1,g2⟩:=h.elem (i+k / 2) xs[i+k / 2] (AP hj)
  have hl:c1.length=2:=Rep.len g1
  have hk2:k % 2< c1.length:=by omega
  have h3:=g2 (k % 2) c1[k % 2] (AP hk2)
  have hz:Rep.sz Prt=2:=rfl
  unfold Box at hB
  rw [add_lit,hz] at h3
  simp only [World.cell?,hB] at h3
  have e:(i+k / 2) * 2+k % 2=i * 2+k:=by omega
  rw [e] at h3
  have h4:cs[i * 2+k]? = some c1[k % 2]:=by simpa using h3
  rw [hk] at h4
  cases h4
  exact TK g1 _ (List.getElem_mem hk2)
 ·cases hk
theorem Pr:∀ (is:List Int) (bs:List (List Row)) (o:Option Int),Bl o is bs=true→is.length=bs.length→∀ b∈bs,BE b=true:=by
 intro is
 induction is with
 | nil =>
   intro bs o _ hl b hb
   cases bs with
   | nil=>cases hb
   | cons c cs=>simp at hl
 | cons i is ih =>
   intro bs o h hl b hb
   cases bs with
   | nil=>cases hb
   | cons c cs =>
     unfold Bl at h
     simp only [AR] at h
     rcases List.mem_cons.1 hb with rfl | hb
     ·exact h.1.2
     ·exact ih cs (some i) h.2 (by simpa using hl) b hb
theorem EN {p:Prt} (h:Au p=true) (id:Int):BE (partOf p id)=true:=by
 rcases Ie id p.ids p.blocks with h1 | h1
 ·unfold partOf; rw [h1]; rfl
 ·unfold Au at h
  simp only [AR,decide_eq_true_eq] at h
  exact Pr p.ids p.blocks none h.2 h.1 _ h1
theorem N1 {id t:Int}:∀ (ps:List Prt) (o:List Row),(∀ p∈ps,PrtI p)→Blk o→((look t o).isSome=true∨∃ p∈ps,(look t (partOf p id)).isSome=true)→(look t (ps.foldl (CZ id) o)).isSome=true:=by
 intro ps
 induction ps with
 | nil =>
   rintro o _ _ (h | ⟨p,hp,_⟩)
   ·exact h
   ·cases hp
 | cons p ps ih =>
   intro o hI ho h
   have hp:Blk (partOf p id):=(hI p (by simp)).of id
   refine ih _ (fun q hq=>hI q (by simp [hq])) (ho.merge hp) ?_
   have e:look t (CZ id o p)=(look t (partOf p id)).or (look t o):=Cz t o ho hp
   rcases h with h | ⟨q,hq,h⟩
   ·refine .inl ?_
    rw [e]
    cases look t (partOf p id) with
    | none=>exact h
    | some x=>rfl
   ·rcases List.mem_cons.1 hq with rfl | hq
    ·refine .inl ?_
     rw [e]
     obtain ⟨x,hx⟩:=Option.isSome_iff_exists.1 h
     rw [hx]; rfl
    ·exact .inr ⟨q,hq,h⟩
theorem Ju {p:Prt} {n:Int} (h:Br p n=true):∀ i∈p.ids,i≤n:=by
 unfold Br at h
 simp only [AR] at h
 obtain ⟨h1,h2⟩:=h
 unfold Au at h1
 simp only [AR,decide_eq_true_eq] at h1
 have key:∀ (is:List Int) (bs:List (List Row)) (o:Option Int),Bl o is bs=true→(∀ q,o=some q→∀ i∈is,q< i)∧∀ l,is.getLast? = some l→∀ i∈is,i≤l:=by
  intro is
  induction is with
  | nil=>intro bs o _; exact ⟨fun _ _ i hi=>(by cases hi),fun l hl=>(by simp at hl)⟩
  | cons x xs ih =>
    intro bs o hg
    cases bs with
    | nil=>simp [Bl] at hg
    | cons b bs =>
      simp only [Bl,AR] at hg
      obtain ⟨k1,k2⟩:=ih bs (some x) hg.2
      have hx:∀ q,o=some q→q< x:=fun q hq=>by
       have:=hg.1.1.1.2
       rw [hq] at this
       simpa using this
      refine ⟨fun q hq i hi=>?_,fun l hl i hi=>?_⟩
      ·rcases List.mem_cons.1 hi with rfl | hi
       ·exact hx q hq
       ·have:=k1 x rfl i hi; have:=hx q hq; omega
      ·cases hc:xs.getLast? with
       | none =>
         have:xs=[]:=List.getLast?_eq_none_iff.1 hc
         subst this
         simp at hl hi
         omega
       | some l2 =>
         have e:(x::xs).getLast? = some l2:=by rw [List.getLast?_cons,hc]; rfl
         rw [e] at hl
         cases hl
         rcases List.mem_cons.1 hi with rfl | hi
         ·have:=k1 i rfl l (List.mem_of_getLast? hc); omega
         ·exact k2 l hc i hi
 intro i hi
 cases hl:p.ids.getLast? with
 | none=>rw [hl] at h2; cases h2
 | some l =>
   rw [hl] at h2
   have:=(key p.ids p.blocks none h1.2).2 l hl i hi
   have h3:l≤n:=by simpa using h2
   omega
theorem I1 {p:Prt} {id:Int} (h:∀ i∈p.ids,i< id):partOf p id=[]:=by
 have key:∀ (is:List Int) (bs:List (List Row)),(∀ i∈is,i< id)→Bp id is bs=[]:=by
  intro is
  induction is with
  | nil=>intro bs _; unfold Bp; rfl
  | cons i is ih =>
    intro bs h
    cases bs with
    | nil=>unfold Bp; rfl
    | cons b bs =>
      unfold Bp
      rw [if_neg (by have:=h i (by simp); simp; omega)]
      exact ih bs (fun j hj=>h j (by simp [hj]))
 exact key _ _ h
theorem KZ {s:Sto} (h:SD s) (hk:Ak s=true) {x y:Prt} (hx:x∈s.parts) (hy:y∈s.parts):Bu x y=(BT x y,true):=by
 have hK:=StoK.of h hk
 have ox:=(hK.part x hx).2
 have oy:=(hK.part y hy).2
 unfold Bu
 rw [if_pos]
 refine ⟨ox,oy,?_⟩
 unfold okM
 rw [List.all_eq_true]
 intro i hi
 rw [List.mem_range] at hi
 have e1:BQ x ((i:Int)+1)=partOf x ((i:Int)+1):=by unfold BQ; rw [if_pos ox]
 have e2:BQ y ((i:Int)+1)=partOf y ((i:Int)+1):=by unfold BQ; rw [if_pos oy]
 rw [e1,e2]
 have b1:=EN ox ((i:Int)+1)
 have b2:=EN oy ((i:Int)+1)
 have hl:(Bk (partOf x ((i:Int)+1)) (partOf y ((i:Int)+1))).length≤24:=by
  unfold Ak at hk
  simp only [AR,decide_eq_true_eq,List.all_eq_true,List.mem_range,EZ] at hk
  by_cases hin:i< s.idx.names.length
  ·have bb:=(HH b1).merge (HH b2)
   have hP:Blk (s.parts.foldl (CZ ((i:Int)+1)) []):=Fm h.part Blk.nil
   refine Nat.le_trans (L3 bb (b:=rowsOf s ((i:Int)+1)) ?_ (fun t ht=>?_)) (hk.2 i hin)
   ·exact (D3 0 _ s.mem _ hK.row hP).2
   ·refine Oo hK _ t (.inl (N1 s.parts [] h.part Blk.nil (.inr ?_)))
    rw [Cz t _ (HH b1) (HH b2)] at ht
    cases hc:look t (partOf y ((i:Int)+1)) with
    | some q=>exact ⟨y,hy,by rw [hc]; rfl⟩
    | none=>rw [hc] at ht; exact ⟨x,hx,ht⟩
  ·have g:=fun p hp=>I1 (p:=p) (id:=(i:Int)+1) (fun j hj=>by have:=Ju (hk.1.1.2 p hp) j hj; omega)
   rw [g x hx,g y hy]
   decide
 unfold CP
 rw [if_pos ⟨b1,b2,by omega⟩]
theorem RT {s:Sto} {i:Int} (_h:SD s) (hk:Ak s=true) (h1:inR i 0 ((s.parts.length:Int) - 2)=false):C0 s i=(BO s,false):=by
 rw [KY hk]; exact J9 h1
end Go.Proofs.YtganlmloonielaaGreat
namespace Go.Proofs.YtganlmloonielaaGreat
theorem LM {s:Sto} (h:SD s) (hk:Ak s=true) {id:Int} {p:List Tag→Bool} (hid:id∈BW p 0 s.idx.names) (lo hi:Int):F1 (HF s id) lo hi=Ku (rowsOf s id) lo hi:=by
 have:=Cj hid
 rw [RI hk this.1 this.2,Iz h hk this.1 this.2]
def DC (s:Sto) (f:List Cnd) (lo hi:Int) (i k:Nat):Prop:=((BW (CD f) 0 s.idx.names).drop i).flatMap (Ep s lo hi)=(DQ s f lo hi).drop k
theorem DC.start {s:Sto} {f:List Cnd} {lo hi:Int} (h:SD s) (hk:Ak s=true):DC s f lo hi 0 0:=by
 unfold DC
 rw [RM h hk]
 rfl
theorem DC.skip {s:Sto} {f:List Cnd} {lo hi:Int} {i k:Nat} {id:Int} (h:DC s f lo hi i k) (hs:SD s) (hk:Ak s=true) (hd:(BW (CD f) 0 s.idx.names).drop i=id::(BW (CD f) 0 s.idx.names).drop (i+1)) (hl:((F1 (HF s id) lo hi).length:Int)=0):DC s f lo hi (i+1) k:=by
 have hm:id∈BW (CD f) 0 s.idx.names:=List.mem_of_mem_drop (by rw [hd]; simp)
 rw [LM hs hk hm] at hl
 unfold DC at h ⊢
 rw [hd,List.flatMap_cons] at h
 have e:Ep s lo hi id=[]:=by unfold Ep; rw [if_neg AB]
 rw [e,List.nil_append] at h
 exact h
theorem DC.fin {s:Sto} {f:List Cnd} {lo hi:Int} {i k:Nat} (h:DC s f lo hi i k) (hi2:(BW (CD f) 0 s.idx.names).length≤i):(DQ s f lo hi).length≤k:=by
 unfold DC at h
 rw [AY hi2] at h
 have:=congrArg List.length h
 simp only [List.flatMap_nil,List.length_nil,List.length_drop] at this
 omega
end Go.Proofs.YtganlmloonielaaGreat
namespace Go.Proofs.YtganlmloonielaaGreat
theorem Ka {s x:Sto} {f:List Cnd} (hi:x.idx=s.idx) (hk:Ak s=Ak x) (hr:Ak s=true→∀ id:Int,1≤id→id≤s.idx.names.length→rowsOf x id=rowsOf s id) (lo hi2:Int):DQ x f lo hi2=DQ s f lo hi2:=by
 unfold DQ
 rw [← hk]
 cases hs:Ak s&&D4 f with
 | false=>rfl
 | true =>
   simp only [AR] at hs
   rw [if_pos rfl,if_pos rfl]
   unfold Pg
   rw [hi]
   have key:∀ (l:List Int),(∀ i∈l,1≤i∧i≤s.idx.names.length)→l.flatMap (Ep x lo hi2)=l.flatMap (Ep s lo hi2):=by
    intro l
    induction l with
    | nil=>intro _; rfl
    | cons i is ih =>
      intro h
      rw [List.flatMap_cons,List.flatMap_cons,ih (fun j hj=>h j (by simp [hj]))]
      have h1:=h i (by simp)
      unfold Ep
      rw [hr hs.1 i h1.1 h1.2,hi]
   exact key _ (fun i hi=>Cj hi)
end Go.Proofs.YtganlmloonielaaGreat
namespace Go.Proofs.YtganlmloonielaaGreat
theorem LN (a b:Prt) {id:Int} (h1:1≤id) (h2:id≤6):partOf (BT a b) id=Bk (partOf a id) (partOf b id):=by
 unfold BT
 rw [Mx _ h1,List.getD_eq_getElem?_getD]
 unfold Be
 rw [List.getElem?_map,List.getElem?_range AB]
 simp only [Option.map_some,Option.getD_some]
 rw [show (((id - 1).toNat:Nat):Int)+1=id by omega]
def D6 (s:Sto) (k:Nat):Sto:=⟨s.idx,HO s.parts k,s.mem⟩
theorem IC {s:Sto} {i:Int} (h:SD s) (h1:(C0 s i).2=true):Ak s=true∧0≤i∧i+2≤s.parts.length∧(C0 s i).1=D6 s i.toNat:=by
 cases hk:Ak s with
 | false=>rw [Pp hk] at h1; cases h1
 | true =>
   cases hr:inR i 0 ((s.parts.length:Int) - 2) with
   | false=>rw [RT h hk hr] at h1; cases h1
   | true =>
     have h2:=CN hr
     refine ⟨rfl,h2.1,by omega,?_⟩
     rw [KY hk,h.copy]
     unfold Av
     rw [if_pos hr]
     rfl
theorem Eu {s:Sto} {k:Nat} (hk:k+2≤s.parts.length):∃ x y,s.parts[k]? = some x∧s.parts[k+1]? = some y∧(D6 s k).parts=s.parts.take k++[BT x y]++s.parts.drop (k+2):=by
 refine ⟨_,_,AP AB,AP AB,?_⟩
 exact Gq (AP AB) (AP AB)
theorem FL {s:Sto} (h:StoK s) {k:Nat} (hk:k+2≤s.parts.length) {id:Int} (h1:1≤id) (h2:id≤6):(D6 s k).parts.foldl (CZ id) []=s.parts.foldl (CZ id) []∧rowsOf (D6 s k) id=rowsOf s id:=by
 obtain ⟨x,y,hx,hy,e⟩:=Eu hk
 have key:(D6 s k).parts.foldl (CZ id) []=s.parts.foldl (CZ id) []:=by
  have hs:s.parts=s.parts.take k++[x,y]++s.parts.drop (k+2):=by
   have e1:=List.take_append_drop k s.parts
   rw [AX hx,AX hy] at e1
   rw [List.append_assoc]
   exact e1.symm
  rw [e]
  conv=>rhs; rw [hs]
  simp only [List.foldl_append,List.foldl_cons,List.foldl_nil]
  congr 1
  have px:=h.sd.part x (AQ hx)
  have py:=h.sd.part y (AQ hy)
  have ho:Blk ((s.parts.take k).foldl (CZ id) []):=Fm (fun p hp=>h.sd.part p (List.mem_of_mem_take hp)) Blk.nil
  unfold CZ
  rw [LN x y h1 h2]
  exact (L4 ho (px.of id) (py.of id)).symm
 refine ⟨key,?_⟩
 unfold rowsOf
 rw [key]
 rfl
theorem N3 {p:Prt} {n:Int} (h:Br p n=true):∃ id:Int,1≤id∧id≤6∧id≤n∧0< (partOf p id).length:=by
 have hle:=Ju h
 unfold Br at h
 simp only [AR] at h
 obtain ⟨h1,h2⟩:=h
 unfold Au at h1
 simp only [AR,decide_eq_true_eq] at h1
 obtain ⟨h3,h4⟩:=h1
 unfold partOf
 cases hi:p.ids with
 | nil=>rw [hi] at h2; simp at h2
 | cons i is =>
   cases hb:p.blocks with
   | nil=>rw [hi,hb] at h3; simp at h3
   | cons b bs =>
     rw [hi,hb] at h4
     unfold Bl at h4
     simp only [AR,decide_eq_true_eq] at h4
     have h5:=CN h4.1.1.1.1
     refine ⟨i,h5.1,h5.2,hle i (by rw [hi]; simp),?_⟩
     unfold Bp
     rw [if_pos (by simp)]
     exact h4.1.1.2
theorem M8 {s:Sto} (h:SD s) (hk:Ak s=true) {x y:Prt} (hx:x∈s.parts) (hy:y∈s.parts) {id:Int} (h1:1≤id) (h2:id≤6):Blk (Bk (partOf x id) (partOf y id))∧(Bk (partOf x id) (partOf y id)).length≤24:=by
 have e:=KZ h hk hx hy
 unfold Bu at e
 split at e
 ·rename_i hc
  obtain ⟨ox,oy,hm⟩:=hc
  unfold okM at hm
  rw [List.all_eq_true] at hm
  have:=hm (id - 1).toNat (by rw [List.mem_range]; omega)
  rw [show (((id - 1).toNat:Nat):Int)+1=id by omega] at this
  have e1:BQ x id=partOf x id:=by unfold BQ; rw [if_pos ox]
  have e2:BQ y id=partOf y id:=by unfold BQ; rw [if_pos oy]
  rw [e1,e2] at this
  refine ⟨(HH (EN ox id)).merge (HH (EN oy id)),?_⟩
  unfold CP at this
  split at this
  ·rename_i hc; have:=hc.2.2; omega
  ·cases this
 ·exact absurd (congrArg Prod.snd e) (by simp)
theorem Gy {s:Sto} (h:SD s) (hk:Ak s=true) {k:Nat} (hl:k+2≤s.parts.length):Ak (D6 s k)=true:=by
 have hK:=StoK.of h hk
 obtain ⟨x,y,hx,hy,e⟩:=Eu hl
 have mx:=AQ hx
 have my:=AQ hy
 have hn:=h.nm.len
 have hk2:=hk
 unfold Ak at hk2 ⊢
 simp only [AR,decide_eq_true_eq,List.all_eq_true,List.mem_range,EZ] at hk2 ⊢
 obtain ⟨⟨⟨⟨a1,a2⟩,a3⟩,a4⟩,a5⟩:=hk2
 refine ⟨⟨⟨⟨?_,a2⟩,fun p hp=>?_⟩,a4⟩,fun i hi=>?_⟩
 ·rw [e]
  simp only [List.length_append,List.length_take,List.length_drop,List.length_cons,List.length_nil]
  omega
 ·rw [e] at hp
  simp only [List.mem_append,List.mem_cons,List.not_mem_nil,or_false] at hp
  rcases hp with (hp | rfl) | hp
  ·exact a3 p (List.mem_of_mem_take hp)
  ·show Br (DI (Be x y 6)) s.idx.names.length=true
   have hblk:∀ (i:Nat) b,(Be x y 6)[i]? = some b→i< 6∧b=Bk (partOf x ((i:Int)+1)) (partOf y ((i:Int)+1)):=fun i b hb=>by
    unfold Be at hb
    rw [List.getElem?_map] at hb
    by_cases hi:i< 6
    ·rw [List.getElem?_range hi] at hb
     simp only [Option.map_some,Option.some.injEq] at hb
     exact ⟨hi,hb.symm⟩
    ·rw [List.getElem?_eq_none (by simp; omega)] at hb
     cases hb
   refine Mz (fun b hb=>?_) (by rw [Dn]; omega) ?_ (fun i b hb hp=>?_)
   ·obtain ⟨i,hi⟩:=List.mem_iff_getElem?.1 hb
    obtain ⟨h6,rfl⟩:=hblk i b hi
    exact M8 h hk mx my AB AB
   ·obtain ⟨id,g1,g2,_,g4⟩:=N3 (a3 x mx)
    refine ⟨Bk (partOf x id) (partOf y id),?_,?_⟩
    ·unfold Be
     refine List.mem_map.2 ⟨(id - 1).toNat,by simp; omega,?_⟩
     rw [show (((id - 1).toNat:Nat):Int)+1=id by omega]
    ·have bx:=(h.part x mx).of id
     have by':=(h.part y my).of id
     have:=L3 bx (bx.merge by') (fun t ht=>by
      rw [Cz t _ bx by']
      cases look t (partOf y id) with
      | none=>exact ht
      | some q=>rfl)
     omega
   ·obtain ⟨h6,rfl⟩:=hblk i b hb
    by_cases hin:i< s.idx.names.length
    ·exact hin
    ·rw [I1 (p:=x) (fun j hj=>by have:=Ju (a3 x mx) j hj; omega),I1 (p:=y) (fun j hj=>by have:=Ju (a3 y my) j hj; omega)] at hp
     exact absurd hp (by decide)
  ·exact a3 p (List.mem_of_mem_drop hp)
 ·rw [(FL hK hl AB (by have:i< s.idx.names.length:=hi; omega)).2]
  exact a5 i hi
theorem Ps {s:Sto} (h:SD s) {k:Nat} (hl:k+2≤s.parts.length):SD (D6 s k):=by
 obtain ⟨x,y,hx,hy,e⟩:=Eu hl
 refine ⟨h.idx,h.nm,h.nd,?_,fun p hp=>?_,h.nm2,h.mem⟩
 ·have:=h.np
  rw [e]
  simp only [List.length_append,List.length_take,List.length_drop,List.length_cons,List.length_nil]
  omega
 ·rw [e] at hp
  simp only [List.mem_append,List.mem_cons,List.not_mem_nil,or_false] at hp
  rcases hp with (hp | rfl) | hp
  ·exact h.part p (List.mem_of_mem_take hp)
  ·exact (h.part x (AQ hx)).merge (h.part y (AQ hy))
  ·exact h.part p (List.mem_of_mem_drop hp)
section
variable {s:Sto} {i:Int}
theorem RV (h:SD s) (h1:(C0 s i).2=true):SD (C0 s i).1:=by
 obtain ⟨_,h2,h3,e⟩:=IC h h1
 rw [e]
 exact Ps h AB
theorem N4 (h:SD s) (h1:(C0 s i).2=true):DQ (C0 s i).1 [] 0 99=DQ s [] 0 99∧Ak (C0 s i).1=true:=by
 obtain ⟨hk,h2,h3,e⟩:=IC h h1
 have h5:=Gy h hk (k:=i.toNat) AB
 rw [e]
 exact ⟨Ka (x:=D6 s i.toNat) (s:=s) rfl (hk.trans h5.symm) (fun _ id a b=>(FL (StoK.of h hk) AB a (by have:=h.nm.len; omega)).2) _ _,h5⟩
theorem Pt (h:SD s) (h1:(C0 s i).2=true):(C0 s i).1.parts.length+1=s.parts.length∧0≤i∧i+2≤s.parts.length∧i+1≤(C0 s i).1.parts.length:=by
 obtain ⟨hk,h2,h3,e⟩:=IC h h1
 obtain ⟨x,y,hx,hy,e2⟩:=Eu (s:=s) (k:=i.toNat) AB
 rw [e,e2]
 simp only [List.length_append,List.length_take,List.length_drop,List.length_cons,List.length_nil]
 omega
end
end Go.Proofs.YtganlmloonielaaGreat
namespace Go.Proofs.YtganlmloonielaaGreat
theorem RW (v:Int):∀ (l:List Int) (i:Nat),l.contains v=decide (Dr v i l≥0):=by
 intro l
 induction l with
 | nil=>intro i; simp [Dr]
 | cons x xs ih =>
   intro i
   have:=ih (i+1)
   have e:Dr v i (x::xs)=if x==v then (i:Int) else Dr v (i+1) xs:=rfl
   rw [e,List.contains_cons,this]
   by_cases h:x=v
   ·subst h; simp
   ·have h1:(x==v)=false:=beq_eq_false_iff_ne.2 h
    have h2:(v==x)=false:=beq_eq_false_iff_ne.2 (fun e=>h e.symm)
    rw [h1,h2]
    simp
def DG (nx:Int):Option Int→List Fil→Bool
 | _,[]=>true
 | o,f::fs=>inR f.num 1 (nx - 1)&&(match o with | some q=>decide (q< f.num) | none=>true)&&Au f.part&&DG nx (some f.num) fs
def DZ (d:Dsk):Bool:=d.list.all (fun n=>decide (0≤Ao d n))&&decide d.list.Nodup
def Af (d:Dsk):Bool:=inR d.next 1 999&&decide (d.files.length≤20)&&decide (d.list.length≤6)&&DG d.next none d.files&&DZ d&&(nmB d.names&&Ak (Ai d))
structure DD (d:Dsk):Prop where
 g:NmG d.names
 nl:d.list.length≤7
 nf:d.files.length≤20
 file:∀ f∈d.files,PrtI f.part
 next:0≤d.next∧d.next≤999
theorem DD.part {d:Dsk} (h:DD d) (n:Int):PrtI (BD d n):=by
 unfold BD
 rw [List.getD_eq_getElem?_getD]
 cases hx:d.files[(Ao d n).toNat]? with
 | none=>exact PrtI.nil
 | some f=>exact h.file f (AQ hx)
theorem DD.sg {d:Dsk} (h:DD d):SG (Ai d):=by
 refine ⟨⟨h.g,fun _=>rfl⟩,by simp [Ai]; exact h.nl,fun p hp=>?_,by simp [Ai],by simp [Ai]⟩
 simp only [Ai,List.mem_map] at hp
 obtain ⟨n,_,rfl⟩:=hp
 exact h.part n
def I3 (fs:List Fil) (k:Nat):Option Int:=prev (fs.map Fil.num) k
theorem ID {nx:Int} {fs:List Fil} {k:Nat} {f:Fil} {b:Bool} (h:DG nx (I3 fs k) (fs.drop k)=b) (hd:fs.drop k=f::fs.drop (k+1)) (hf:fs[k]? = some f) (h1:inR f.num 1 (nx - 1)=true) (h2:k=0∨∃ q,fs[k - 1]? = some q∧¬ q.num≥f.num) (h3:Au f.part=true):DG nx (I3 fs (k+1)) (fs.drop (k+1))=b:=by
 rw [hd] at h
 unfold DG at h
 have e:I3 fs (k+1)=some f.num:=by unfold I3; rw [PI,List.getElem?_map,hf]; rfl
 have e2:(match I3 fs k with | some q=>decide (q< f.num) | none=>true)=true:=by
  rcases h2 with rfl | ⟨q,hq,hlt⟩
  ·rfl
  ·by_cases hk:k=0
   ·subst hk; rfl
   ·have:I3 fs k=some q.num:=by unfold I3; rw [MV _ _ AB,List.getElem?_map,hq]; rfl
    rw [this]
    simp
    omega
 rw [h1,h3,e2] at h
 rw [e]
 simpa using h
theorem Gf {nx:Int} {fs:List Fil} {k:Nat} {f:Fil} {b:Bool} (h:DG nx (I3 fs k) (fs.drop k)=b) (hd:fs.drop k=f::fs.drop (k+1)) (h1:inR f.num 1 (nx - 1)=false∨(0< k∧∃ q,fs[k - 1]? = some q∧q.num≥f.num)∨Au f.part=false):b=false:=by
 rw [hd] at h
 unfold DG at h
 rw [← h]
 rcases h1 with h1 | ⟨hk,q,hq,hge⟩ | h1
 ·rw [h1]; simp
 ·have:I3 fs k=some q.num:=by unfold I3; rw [MV _ _ AB,List.getElem?_map,hq]; rfl
  have e2:decide (q.num< f.num)=false:=decide_eq_false AB
  rw [this]
  simp only [e2]
  simp
 ·rw [h1]; simp
theorem O0 {nx:Int} {fs:List Fil} {k:Nat} {b:Bool} (h:DG nx (I3 fs k) (fs.drop k)=b) (hk:fs.length≤k):b=true:=by
 rw [AY hk] at h
 exact h.symm
def Pu (d:Dsk) (k:Nat):Prop:=∀ j n,j< k→d.list[j]? = some n→0≤Ao d n∧n∉d.list.take j
theorem RX (d:Dsk):Pu d 0:=fun j _ h=>absurd h AB
def fresh (d:Dsk) (n:Int) (k:Nat):Prop:=n∉d.list.take k
theorem TL (d:Dsk) (n:Int):fresh d n 0:=by unfold fresh; simp
theorem N5 {d:Dsk} {n m:Int} {k:Nat} (h:fresh d n k) (hm:d.list[k]? = some m) (h2:m≠n):fresh d n (k+1):=by
 unfold fresh at h ⊢
 rw [List.take_add_one,hm]
 simp only [Option.toList_some,List.mem_append,List.mem_cons,List.not_mem_nil,or_false,not_or]
 exact ⟨h,fun e=>h2 e.symm⟩
theorem RY {d:Dsk} {n:Int} {k:Nat} (h:((d.list.take k).drop 0).contains n=false):fresh d n k:=by
 unfold fresh
 rw [List.drop_zero] at h
 intro hm
 rw [List.contains_iff_mem.2 hm] at h
 cases h
theorem LO {d:Dsk} {k j:Nat} {n:Int} (h:Pu d k) (hn:d.list[k]? = some n) (h1:¬ Ao d n< 0) (h2:fresh d n j) (hj:k≤j):Pu d (k+1):=fun i m hi hm=>by
 by_cases e:i=k
 ·subst e
  rw [hn] at hm
  cases hm
  refine ⟨by omega,fun hmem=>h2 ?_⟩
  obtain ⟨a,ha⟩:=List.mem_iff_getElem?.1 hmem
  rw [List.getElem?_take] at ha
  split at ha
  ·exact List.mem_iff_getElem?.2 ⟨a,by rw [List.getElem?_take,if_pos AB]; exact ha⟩
  ·cases ha
 ·exact h i m AB hm
theorem IE {d:Dsk} {k:Nat} (h:Pu d k) (hk:d.list.length≤k):DZ d=true:=by
 unfold DZ
 rw [AR,List.all_eq_true,decide_eq_true_eq]
 refine ⟨fun n hn=>?_,?_⟩
 ·obtain ⟨j,hj⟩:=List.mem_iff_getElem?.1 hn
  have:=(h j n (by have:=(List.getElem?_eq_some_iff.1 hj).1; omega) hj).1
  simpa using this
 ·unfold List.Nodup
  rw [List.pairwise_iff_getElem]
  intro i j hi hj hij e
  refine (h j d.list[j] AB (AP hj)).2 ?_
  rw [← e]
  exact List.mem_iff_getElem?.2 ⟨i,by rw [List.getElem?_take,if_pos hij]; exact AP hi⟩
theorem RZ {d:Dsk} {k:Nat} {n:Int} (hn:d.list[k]? = some n) (h:Ao d n< 0):DZ d=false:=by
 cases hb:DZ d with
 | false=>rfl
 | true =>
   unfold DZ at hb
   rw [AR,List.all_eq_true] at hb
   have:=hb.1 n (AQ hn)
   simp at this
   omega
theorem Ra {d:Dsk} {k:Nat} {n:Int} (hn:d.list[k]? = some n) (h:n∈d.list.take k):DZ d=false:=by
 cases hb:DZ d with
 | false=>rfl
 | true =>
   unfold DZ at hb
   rw [AR,decide_eq_true_eq] at hb
   obtain ⟨i,hi⟩:=List.mem_iff_getElem?.1 h
   rw [List.getElem?_take] at hi
   split at hi
   ·rename_i hik
    have hd:=hb.2
    unfold List.Nodup at hd
    rw [List.pairwise_iff_getElem] at hd
    obtain ⟨a1,a2⟩:=List.getElem?_eq_some_iff.1 hi
    obtain ⟨b1,b2⟩:=List.getElem?_eq_some_iff.1 hn
    exact absurd (a2.trans b2.symm) (hd i k a1 b1 hik)
   ·cases hi
theorem Cr {d:Dsk} (h:DZ d=true):∀ n∈d.list,0≤Ao d n:=fun n hn=>by
 unfold DZ at h
 rw [AR,List.all_eq_true] at h
 have:=h.1 n hn
 simpa using this
theorem Ue {d:Dsk} {k j:Nat} {n m:Int} (hn:d.list[k]? = some n) (hm:d.list[j]? = some m) (hj:j< k) (e:m=n):DZ d=false:=by
 subst e
 exact Ra hn (List.mem_iff_getElem?.2 ⟨j,by rw [List.getElem?_take,if_pos hj]; exact hm⟩)
theorem Uf {d:Dsk} {k:Nat} {n:Int} (hn:d.list[k]? = some n) (h:((d.list.take k).drop 0).contains n=true):DZ d=false:=by
 rw [List.drop_zero] at h
 exact Ra hn (List.contains_iff_mem.1 h)
section
variable {d:Dsk}
theorem N6 (h:inR d.next 1 999=false∨(d.files.length:Int) > 20∨(d.list.length:Int) > 6∨(d.names.length:Int) > 6):Af d=false:=by
 unfold Af
 rcases h with h | h | h | h
 ·rw [h]; simp
 ·rw [decide_eq_false (p:=d.files.length≤20) AB]; simp
 ·rw [decide_eq_false (p:=d.list.length≤6) AB]; simp
 ·rw [← On h]; simp
theorem M9 (h:DG d.next none d.files=false):Af d=false:=by unfold Af; rw [h]; simp
theorem TM (h:DZ d=false):Af d=false:=by unfold Af; rw [h]; simp
theorem Vl (h1:inR d.next 1 999=true) (h2:¬ (d.files.length:Int) > 20) (h3:¬ (d.list.length:Int) > 6) (h5:DG d.next none d.files=true) (h6:DZ d=true):Af d=(nmB d.names&&Ak (Ai d)):=by
 unfold Af
 rw [h1,h5,h6,decide_eq_true AB,decide_eq_true AB]
 simp
theorem WK {y:Sto} (h1:inR d.next 1 999=true) (h2:¬ (d.files.length:Int) > 20) (h3:¬ (d.list.length:Int) > 6) (h5:DG d.next none d.files=true) (h6:DZ d=true) (hd:NsD d.names) (hy:y.idx.names=d.names∧(NmI d.names→NsD d.names→y=Ai d)):(nmB y.idx.names&&Ak y)=Af d:=by
 rw [Vl h1 h2 h3 h5 h6,hy.1]
 cases hb:nmB d.names with
 | false=>rfl
 | true=>rw [hy.2 (D2.1 hb) hd]
theorem EO (h:Af d=true):NmI d.names∧Ak (Ai d)=true∧DZ d=true:=by
 unfold Af at h
 simp only [AR] at h
 exact ⟨D2.1 h.2.1,h.2.2,h.1.2⟩
theorem DD.sd (h:DD d) (hk:Af d=true):SD (Ai d):=by
 obtain ⟨h1,h2,_⟩:=EO hk
 have h3:=L5 h2
 exact h.sg.sd (D2.2 h1) h3
def Aq (d:Dsk):Sto:=if Af d then Ai d else ⟨⟨[],[]⟩,[],[]⟩
theorem D7 (h:Af d=true):Aq d=Ai d:=by unfold Aq; rw [if_pos h]
end
theorem Pv {d:Dsk} {l:List Int} {i:Nat} {n:Int} {k Y:List Prt} {f:Fil} (h:k++(l.drop i).map (BD d)=Y) (hd:l.drop i=n::l.drop (i+1)) (hf:d.files[(Ao d n).toNat]? = some f):(k++[f.part])++(l.drop (i+1)).map (BD d)=Y:=by
 rw [hd,List.map_cons] at h
 rw [← h]
 have:BD d n=f.part:=by unfold BD; rw [List.getD_eq_getElem?_getD,hf]; rfl
 rw [this]
 simp
theorem Rb {d:Dsk} {l:List Int} {i:Nat} {k Y:List Prt} (h:k++(l.drop i).map (BD d)=Y) (hi:l.length≤i):k=Y:=by
 rw [AY hi] at h
 simpa using h
theorem FM {d:Dsk} {n:Int} (h:0≤Ao d n):(Ao d n).toNat< d.files.length∧Ao d n=((Ao d n).toNat:Int):=by
 have:=(Jn n d.files 0).1
 unfold Ao at h ⊢
 omega
def D8 (d:Dsk) (y:Sto):Prop:=y.idx.names=d.names∧y.parts=(Ai d).parts∧y.mem=[]∧(NmI d.names→NsD d.names→y=Ai d)
theorem D8.mk {d:Dsk} {a:List (List Tag)} {b:List Pst} {c:List Prt} {e:List Smp} (h1:a=d.names) (h2:c=d.list.map (BD d)) (h3:e=[]) (h4:NmI d.names→NsD d.names→(⟨a,b⟩:Idx)=idxOf d.names):D8 d ⟨⟨a,b⟩,c,e⟩:=by
 subst h2 h3
 refine ⟨h1,rfl,rfl,fun x y=>?_⟩
 unfold Ai
 rw [h4 x y]
theorem D8.sg {d:Dsk} {y:Sto} (q:D8 d y) (h:DD d):SG y:=by
 obtain ⟨q1,q2,q3,q4⟩:=q
 refine ⟨⟨by rw [q1]; exact h.g,fun hn=>?_⟩,by rw [q2]; exact h.sg.np,fun p hp=>h.sg.part p (by rw [← q2]; exact hp),by rw [q3]; simp,by rw [q3]; simp⟩
 rw [q1] at hn ⊢
 have:=q4 hn h.g.nd
 rw [this]
 rfl
theorem D8.eq {d:Dsk} {y:Sto} (q:D8 d y) (h:DD d) (hk:Af d=true):y=Aq d:=by rw [D7 hk]; exact q.2.2.2 (EO hk).1 h.g.nd
theorem D8.dk {d:Dsk} {y:Sto} (hy:D8 d y) (h:DD d) (h1:inR d.next 1 999=true) (h2:¬ (d.files.length:Int) > 20) (h3:¬ (d.list.length:Int) > 6) (h5:DG d.next none d.files=true) (h6:DZ d=true):(nmB y.idx.names&&Ak y)=Af d:=WK h1 h2 h3 h5 h6 h.g.nd ⟨hy.1,hy.2.2.2⟩
end Go.Proofs.YtganlmloonielaaGreat
namespace Go.Proofs.YtganlmloonielaaGreat
set_option maxRecDepth 100000
set_option maxHeartbeats 4000000
theorem HW (f:Fil) (num:Int) {w:World} {F:Nat→Prop} {a1:Option Addr} {n1 c1:Nat} (h1:RepS w F a1 n1 c1 f.part.ids) {a2:Option Addr} {n2 c2:Nat} (h2:RepS w F a2 n2 c2 f.part.blocks) {bq_num:Nat} (hb_num:Box w bq_num 3 [.int .i64 num])  : Calls Tryz.prog 120 [.agg #[.int .i64 f.num,.slice a1 n1 c1,.slice a2 n2 c2],.pointer (some ⟨bq_num,0,none⟩)].toArray w (As fun rv w'=>rv=.bool ((f.num==num))∧Ext w w'):=by
 refine goT Tryz.func120 ?_
 obtain ⟨rfl,aa,h1⟩:=h1.tp
 obtain ⟨rfl,ab,h2⟩:=h2.tp
 refine .s<|.g<|.np 66 [vI f.num,.slice a1 f.part.ids.length c1,.slice a2 f.part.blocks.length c2] fun ac ae E C J O=>?_
 replace hb_num:=(se [] C).g1 hb_num
 have W:=C
 exact .r 1<|.d<|.s<|.g<|.r 1<|.lb J<|.lb hb_num<|.r 2<|.d<|.rt Tryz.func120 Tryz.results120 (.bool (f.num==num)) ⟨(congrArg Value.bool (by rfl)),W⟩
theorem IF (s:List Fil) (num:Int) {w:World} {F:Nat→Prop} {a1:Option Addr} {n1 c1:Nat} (h1:RepS w F a1 n1 c1 s) {bq_num:Nat} (hb_num:Box w bq_num 3 [.int .i64 num])  : Calls Tryz.prog 119 [.slice a1 n1 c1,.func (.func 120) #[] #[.pointer (some ⟨bq_num,0,none⟩)]].toArray w (As fun rv w'=>rv=.int .i64 (DH num 0 s)∧Ext w w'):=by
 refine goT Tryz.func119 ?_
 obtain ⟨rfl,am,h1⟩:=h1.tp
 refine .s<|.g<|.r 1<|.d<|.s<|.s<|.g<|.r 3<|.d<|.b 0<|T.loop (X:=Nat) 0 (fun k=>[(0,.slice a1 s.length c1),(1,.func (.func 120) #[] #[.pointer (some ⟨bq_num,0,none⟩)]),(7,vI (s.length:Int)),(8,vI (k:Int))]) (fun k J=>Chg (ins []) w J∧(k≤s.length)∧(DH num k (s.drop k)=DH num 0 s)) (fun k=>s.length - k) AA ⟨AA,AA,AA,AA,trivial⟩ ⟨Chg.refl _ _,(by simp),(by simp)⟩ ?_
 rintro k ax J ⟨C,ao,aq⟩ O
 have aa:Mv [] [] w J:=Mv.inl C all_nil all_nil
 replace ⟨h1,hb_num⟩:=(sp aa C).g2 h1 hb_num
 have E:Chg nil w J:=Chg.CY (Chg.refl nil w) C all_nil
 refine .s<|.g<|.bp ((k:Int)< (s.length:Int)) (fun ag=>?_) (fun ag=>.d<|.s<|.cf<|.x 0 rfl<|.s<|.g<|.r 1<|.d<|.rt Tryz.func119 Tryz.results119 (vI (-1)) ⟨(congrArg (Value.int .i64) (by grind [DH,AY])),E⟩)
 refine .d<|.s<|.ct<|.sk<|.s<|.b 1<|.s<|.g<|.r 2<|.d<|.s<|.g<|.r 3 ?_
 have ah:k< s.length:=AB
 refine .ix k 3 h1 ah ?_
 obtain ⟨ac,W⟩:∃ y,s[k]? = some y:=⟨_,AP AB⟩
 have ar:=AX W; have al:=AQ W
 obtain ⟨_,⟨ay,az,aA,aB,aC,aD,rfl,ae,af⟩,ai⟩:=h1.elem k ac W
 have aj:=ae.len
 subst aj
 have au:=ae.max
 have ak:=af.len
 subst ak
 have av:=af.max
 refine .lg 0 ai<|.cl (HW ac num ae.ta af.ta hb_num (w:=J) (F:=all)) ?_
 rintro aE aF ⟨rfl,ab⟩
 replace ⟨hb_num,E,C⟩:=(se [] ab).g3 hb_num E C
 cases aw:(ac.num==num)
 ·exact .d<|.cf<|.sk<|.ib 1<|.g<|.it ((k:Int)+1)<|.r 1<|.d<|O (k+1) _ _ ⟨AA,AA,AA,AA,trivial⟩ ⟨C,AB,(by grind [DH])⟩ AB
 exact .d<|.ct<|.s<|.g<|.r 2<|.d<|.rt Tryz.func119 Tryz.results119 (vI (k:Int)) ⟨(congrArg (Value.int .i64) (by grind [DH,AY])),E⟩
theorem Cs (d:Dsk) (num:Int) {w:World} {F:Nat→Prop} {a1:Option Addr} {n1 c1:Nat} (h1:RepS w F a1 n1 c1 d.files) {a2:Option Addr} {n2 c2:Nat} (h2:RepS w F a2 n2 c2 d.list) {a3:Option Addr} {n3 c3:Nat} (h3:RepS w F a3 n3 c3 d.names)  : Calls Tryz.prog 71 [.agg #[.slice a1 n1 c1,.slice a2 n2 c2,.slice a3 n3 c3,.int .i64 d.next],.int .i64 num].toArray w (As fun rv w'=>rv=.int .i64 (Ao d num)∧Ext w w'):=by
 refine goT Tryz.func71 ?_
 obtain ⟨rfl,ai,h1⟩:=h1.tp
 obtain ⟨rfl,aj,h2⟩:=h2.tp
 obtain ⟨rfl,ak,h3⟩:=h3.tp
 refine .s<|.g<|.np 27 [.slice a1 d.files.length c1,.slice a2 d.list.length c2,.slice a3 d.names.length c3,vI d.next] fun ag al O E J ac=>?_
 replace h1:=(sn [] E O).g1 h1
 have C:=E
 refine .np 3 [vI num] fun am ah W aa ae af=>?_
 replace ⟨h1,J,C⟩:=(sn [ag] aa W).g3 h1 J C
 refine .r 1<|.d<|.s<|.g<|.r 1<|.lb J<|.r 1<|.cl (IF d.files num h1.ta ae (w:=ah) (F:=all)) ?_
 rintro ao aq ⟨rfl,ab⟩
 replace C:=(se [] ab).g1 C
 exact .r 1<|.d<|.rt Tryz.func71 Tryz.results71 (vI (DH num 0 d.files)) ⟨(congrArg (Value.int .i64) (by rfl)),C⟩
theorem Cd (s:List Int) (v:Int) {w:World} {F:Nat→Prop} {a1:Option Addr} {n1 c1:Nat} (h1:RepS w F a1 n1 c1 s)  : Calls Tryz.prog 72 [.slice a1 n1 c1,.int .i64 v].toArray w (As fun rv w'=>rv=.bool (s.contains v)∧Ext w w'):=by
 refine goT Tryz.func72 ?_
 obtain ⟨rfl,J,h1⟩:=h1.tp
 refine .s<|.g<|.r 1<|.d<|.s<|.g<|.r 2<|.cl (Dx s v h1.ta (w:=w) (F:=all)) ?_
 rintro O W ⟨rfl,C⟩
 have E:=C
 exact .r 2<|.d<|.rt Tryz.func72 Tryz.results72 (.bool (decide (Dr v 0 s≥0))) ⟨(congrArg Value.bool (by exact (RW v s 0).symm)),E⟩
theorem CF (d:Dsk) {w:World} {F:Nat→Prop} {a1:Option Addr} {n1 c1:Nat} (h1:RepS w F a1 n1 c1 d.files) {a2:Option Addr} {n2 c2:Nat} (h2:RepS w F a2 n2 c2 d.list) {a3:Option Addr} {n3 c3:Nat} (h3:RepS w F a3 n3 c3 d.names) (p0:DD d):Calls Tryz.prog 26 [.agg #[.slice a1 n1 c1,.slice a2 n2 c2,.slice a3 n3 c3,.int .i64 d.next]].toArray w (As fun rv w'=>rv=.bool (Af d)∧Ext w w'):=by
 refine goT Tryz.func26 ?_
 obtain ⟨rfl,cD,h1⟩:=h1.tp
 obtain ⟨rfl,cE,h2⟩:=h2.tp
 obtain ⟨rfl,cF,h3⟩:=h3.tp
 refine .s<|.g<|.np 27 [.slice a1 d.files.length c1,.slice a2 d.list.length c2,.slice a3 d.names.length c3,vI d.next] fun W cj aM aw C bH=>?_
 replace ⟨h1,h2,h3⟩:=(sn [] aw aM).g3 h1 h2 h3
 have E:=aw
 refine .r 1<|.d<|.s<|.s<|.g<|.r 1<|.lb C<|.cl (CO d.next 1 999 (w:=cj) (F:=all)) ?_
 rintro dJ bI ⟨rfl,aN⟩
 replace ⟨h1,h2,h3,C,E⟩:=(se [W] aN).g5 h1 h2 h3 C E
 cases aO:(inR d.next 1 999)
 ·have cG:=Ex aO
  exact .r 19<|.d<|.ct<|.s<|.g<|.r 1<|.d<|.rt Tryz.func26 Tryz.results26 (.bool false) ⟨(congrArg Value.bool (by symm; exact N6 (.inl ‹_›))),E⟩
 have cH:=CN aO
 refine .r 3<|.lb C<|.r 1<|.bp ((d.files.length:Int) > 20) (fun bJ=>.r 13<|.d<|.ct<|.s<|.g<|.r 1<|.d<|.rt Tryz.func26 Tryz.results26 (.bool false) ⟨(congrArg Value.bool (by symm; exact N6 (.inr (.inl ‹_›)))),E⟩) fun bJ=>.r 3<|.lb C<|.r 1<|.bp ((d.list.length:Int) > 6) (fun bK=>.r 7<|.d<|.ct<|.s<|.g<|.r 1<|.d<|.rt Tryz.func26 Tryz.results26 (.bool false) ⟨(congrArg Value.bool (by symm; exact N6 (.inr (.inr (.inl ‹_›))))),E⟩) fun bK=>.r 3<|.lb C<|.r 1<|.bp ((d.names.length:Int) > 6) (fun bL=>.r 1<|.d<|.ct<|.s<|.g<|.r 1<|.d<|.rt Tryz.func26 Tryz.results26 (.bool false) ⟨(congrArg Value.bool (by symm; exact N6 (.inr (.inr (.inr ‹_›))))),E⟩) fun bL=>.r 1<|.d<|.cf<|.sk<|.s<|.s<|.g<|.r 1<|.d<|.b 0<|T.loop (X:=Nat) 0 (fun k=>[(1,.pointer (some ⟨W,0,none⟩)),(3,vI (k:Int))]) (fun k ax=>Chg (ins []) bI ax∧(k≤d.files.length)∧(DG d.next (I3 d.files k) (d.files.drop k)=DG d.next none d.files)) (fun k=>d.files.length - k) AA ⟨AA,AA,trivial⟩ ⟨Chg.refl _ _,(by simp),(by rfl)⟩ ?_
 rintro k dK ax ⟨O,cI,cJ⟩ ai
 have aP:Mv [W] [W] bI ax:=Mv.inl O all_nil (all_cons (.inl AD) all_nil)
 replace ⟨h1,h2,h3,C,E⟩:=(sp aP O).g5 h1 h2 h3 C E
 refine .s<|.s<|.g<|.r 2<|.lb C<|.r 1<|.bp ((k:Int)< (d.files.length:Int)) (fun bM=>?_) (fun bM=>?_)
 ·refine .d<|.ct<|.sk<|.s<|.b 1<|.s<|.gd nil 35 fun dL aQ=>?_
  replace ⟨h1,h2,h3,C,E,O⟩:=(se [W] aQ).g6 h1 h2 h3 C E O
  refine .r [0]<|.lb 1 C id<|.r [2] ?_
  have bN:k< d.files.length:=AB
  refine .ix 3 k 3 h1 bN<|.r [4] ?_
  obtain ⟨ae,aj⟩:∃ y,d.files[k]? = some y:=⟨_,AP AB⟩
  have cK:=AX aj; have cg:=AQ aj
  obtain ⟨_,⟨dM,dN,dO,dP,dQ,dR,rfl,bO,bP⟩,aR⟩:=h1.elem k ae aj
  have bQ:=bO.len
  subst bQ
  have cL:=bO.max
  have bR:=bP.len
  subst bR
  have cM:=bP.max
  refine .lh 5 0 aR id<|.r [6]<|.lb 7 C id<|GA.int (i:=8) (d.next - 1) AA (by have q1:=p0.next; omega)<|GA.Bz (i:=9) AA (fun ck cN=>CO ae.num 1 (d.next - 1) (w:=ck) (F:=all)) ?_
  cases aS:(inR ae.num 1 (d.next - 1))
  ·have cO:=Ex aS
   refine .r [10,11,12,13,14,15,16,17,18,19,20,21,22,23,24,25,26,27,28,29,30,31,32,33,34]<|.d fun dS aT=>?_
   replace ⟨h1,h2,h3,C,E,O⟩:=(se [W] aT).g6 h1 h2 h3 C E O
   exact .r 6<|.d<|.ct<|.s<|.g<|.r 1<|.d<|.rt Tryz.func26 Tryz.results26 (.bool false) ⟨(congrArg Value.bool (by symm; exact M9 (Gf ‹_› ‹_› (.inl ‹_›)))),E⟩
  have cP:=CN aS
  refine .r [10,11,12]<|GA.EE (i:=13) ((k:Int) > 0) AA (fun bT=>?_) (fun bT=>?_)
  ·refine .r [14,15]<|.lb 16 C id<|.r [17]<|GA.int (i:=18) ((k:Int) - 1) AA (by have q1:=p0.next; omega) ?_
   have aU:k - 1< d.files.length:=AB
   refine GA.idx (i:=19) (k - 1) (len:=d.files.length) (z:=(k:Int) - 1) (sz:=3) AA AB aU (h1.addr (Nat.zero_lt_of_lt aU))<|.r [20] ?_
   obtain ⟨bU,ay⟩:∃ y,d.files[k - 1]? = some y:=⟨_,AP AB⟩
   have cQ:=AX ay; have ci:=AQ ay
   obtain ⟨_,⟨dT,dU,dV,dW,dX,dY,rfl,bV,bW⟩,bX⟩:=h1.elem (k - 1) bU ay
   have bY:=bV.len
   subst bY
   have cR:=bV.max
   have bZ:=bW.len
   subst bZ
   have cS:=bW.max
   refine .lh 21 0 bX id<|.r [22]<|.lb 23 C id<|.r [24] ?_
   have b0:k< d.files.length:=AB
   refine .ix 25 k 3 h1 b0<|.r [26]<|.lh 27 0 aR id<|GA.EE (i:=28) (bU.num≥ae.num) AA (fun b6=>?_) (fun b6=>?_)
   ·refine .r [29,30,31,32,33,34]<|.d fun dZ aV=>?_
    replace ⟨h1,h2,h3,C,E,O⟩:=(se [W] aV).g6 h1 h2 h3 C E O
    exact .r 6<|.d<|.ct<|.s<|.g<|.r 1<|.d<|.rt Tryz.func26 Tryz.results26 (.bool false) ⟨(congrArg Value.bool (by symm; exact M9 (Gf ‹_› ‹_› (.inr (.inl ⟨by omega,_,by assumption,by assumption⟩))))),E⟩
   refine .r [29,30,31,32]<|.lb 33 C id<|.r [34]<|.d fun cm aW=>?_
   replace ⟨h1,h2,h3,C,E,O⟩:=(se [W] aW).g6 h1 h2 h3 C E O
   have bg:k< d.files.length:=AB
   refine .ix k 3 h1 bg<|.r 1 ?_
   obtain ⟨_,⟨cT,cU,cV,cW,cX,cY,rfl,aX,aY⟩,bh⟩:=h1.elem k ae aj
   have bi:=aX.len
   subst bi
   have bj:=aY.len
   subst bj
   refine .lg 1 bh<|.cl (FW ae.part aX.ta aY.ta (w:=cm) (F:=all)) ?_
   rintro cZ c7 ⟨rfl,az⟩
   replace ⟨h1,h2,h3,C,E,O⟩:=(se [W] az).g6 h1 h2 h3 C E O
   cases co:(Au ae.part)
   ·exact .r 2<|.d<|.ct<|.s<|.g<|.r 1<|.d<|.rt Tryz.func26 Tryz.results26 (.bool false) ⟨(congrArg Value.bool (by symm; exact M9 (Gf ‹_› ‹_› (.inr (.inr ‹_›))))),E⟩
   exact .r 2<|.d<|.cf<|.sk<|.ib 1<|.g<|.r 1<|RG.int ((k:Int)+1) AA (by have q1:=p0.next; omega)<|.r 1<|.d<|ai (k+1) _ _ ⟨AA,AA,trivial⟩ ⟨O,AB,(by exact ID ‹_› ‹_› ‹_› ‹_› (.inr ⟨_,by assumption,by assumption⟩) ‹_›)⟩ AB
  refine .r [14,15,16,17,18,19,20,21,22,23,24,25,26,27,28,29,30,31,32]<|.lb 33 C id<|.r [34]<|.d fun b7 aA=>?_
  replace ⟨h1,h2,h3,C,E,O⟩:=(se [W] aA).g6 h1 h2 h3 C E O
  have bk:k< d.files.length:=AB
  refine .ix k 3 h1 bk<|.r 1 ?_
  obtain ⟨_,⟨c8,c9,da,db,de,df,rfl,aZ,ba⟩,bm⟩:=h1.elem k ae aj
  have bn:=aZ.len
  subst bn
  have bo:=ba.len
  subst bo
  refine .lg 1 bm<|.cl (FW ae.part aZ.ta ba.ta (w:=b7) (F:=all)) ?_
  rintro dg dh ⟨rfl,aB⟩
  replace ⟨h1,h2,h3,C,E,O⟩:=(se [W] aB).g6 h1 h2 h3 C E O
  cases cp:(Au ae.part)
  ·exact .r 2<|.d<|.ct<|.s<|.g<|.r 1<|.d<|.rt Tryz.func26 Tryz.results26 (.bool false) ⟨(congrArg Value.bool (by symm; exact M9 (Gf ‹_› ‹_› (.inr (.inr ‹_›))))),E⟩
  exact .r 2<|.d<|.cf<|.sk<|.ib 1<|.g<|.r 1<|RG.int ((k:Int)+1) AA (by have q1:=p0.next; omega)<|.r 1<|.d<|ai (k+1) _ _ ⟨AA,AA,trivial⟩ ⟨O,AB,(by exact ID ‹_› ‹_› ‹_› ‹_› (.inl AB) ‹_›)⟩ AB
 refine .d<|.cf<|.x 0 rfl<|.s<|.s<|.g<|.r 1<|.d<|.b 2<|T.loop (X:=Nat) 0 (fun k=>[(1,.pointer (some ⟨W,0,none⟩)),(4,vI (k:Int))]) (fun k ak=>Chg (ins []) ax ak∧(k≤d.list.length)∧(DG d.next none d.files=true)∧(Pu d k)) (fun k=>d.list.length - k) AA ⟨AA,AA,trivial⟩ ⟨Chg.refl _ _,(by simp),(by exact O0 ‹_› AB),(by exact RX _)⟩ ?_
 rintro k dj ak ⟨J,cq,cr,cu⟩ au
 have aC:Mv [W] [W] ax ak:=Mv.inl J all_nil (all_cons (.inl AD) all_nil)
 replace ⟨h1,h2,h3,C,E⟩:=(sp aC J).g5 h1 h2 h3 C E
 refine .s<|.s<|.g<|.r 2<|.lb C<|.r 1<|.bp ((k:Int)< (d.list.length:Int)) (fun bq=>?_) (fun bq=>?_)
 ·refine .d<|.ct<|.sk<|.s<|.b 3<|.s<|.s<|.gd nil 6 fun dm aD=>?_
  replace ⟨h1,h2,h3,C,E,J⟩:=(se [W] aD).g6 h1 h2 h3 C E J
  refine .ln 0 C id<|.r [1]<|.lb 2 C id<|.r [3] ?_
  have br:k< d.list.length:=AB
  refine .ix 4 k 1 h2 br ?_
  obtain ⟨af,ag⟩:∃ y,d.list[k]? = some y:=⟨_,AP AB⟩
  have cv:=AX ag; have b8:=AQ ag
  obtain ⟨_,rfl,bt⟩:=h2.elem k af ag
  refine .lh 5 0 bt id<|.d fun b9 aE=>?_
  replace ⟨h1,h2,h3,C,E,J⟩:=(se [W] aE).g6 h1 h2 h3 C E J
  refine .cl (DO d af h1.ta h2.ta h3.ta (w:=b9) (F:=all)) ?_
  rintro dp bc ⟨rfl,aF⟩
  replace ⟨h1,h2,h3,C,E,J⟩:=(se [W] aF).g6 h1 h2 h3 C E J
  refine .bp (Ao d af< 0) (fun bu=>.d<|.ct<|.s<|.g<|.r 1<|.d<|.rt Tryz.func26 Tryz.results26 (.bool false) ⟨(congrArg Value.bool (by symm; exact TM (RZ ‹_› ‹_›))),E⟩) fun bu=>.d<|.cf<|.sk<|.s<|.g<|.r 1<|.d<|.b 4<|T.loop (X:=Nat) 0 (fun k1=>[(1,.pointer (some ⟨W,0,none⟩)),(4,vI (k:Int)),(5,vI (k1:Int))]) (fun k1 aG=>Chg (ins []) bc aG∧(k1≤k)∧(fresh d af k1)) (fun k1=>k - k1) AA ⟨AA,AA,AA,trivial⟩ ⟨Chg.refl _ _,AB,(by exact TL _ _)⟩ ?_
  rintro k1 dq aG ⟨aa,cw,cx⟩ av
  have aH:Mv [W] [W] bc aG:=Mv.inl aa all_nil (all_cons (.inl AD) all_nil)
  replace ⟨h1,h2,h3,C,E,J⟩:=(sp aH aa).g6 h1 h2 h3 C E J
  refine .s<|.s<|.g<|.r 2<|.bp ((k1:Int)< (k:Int)) (fun bv=>?_) (fun bv=>.d<|.cf<|.x 4 rfl<|.ib 3<|.g<|.r 1<|RG.int ((k:Int)+1) AA (by have q1:=p0.next; omega)<|.r 1<|.d<|au (k+1) _ _ ⟨AA,AA,trivial⟩ ⟨J,AB,‹_›,(by exact LO ‹_› ‹_› ‹_› (by assumption:fresh d _ k1) AB)⟩ AB)
  refine .d<|.ct<|.sk<|.s<|.b 5<|.s<|.gd nil 10 fun dr aI=>?_
  replace ⟨h1,h2,h3,C,E,J,aa⟩:=(se [W] aI).g7 h1 h2 h3 C E J aa
  refine .r [0]<|.lb 1 C id<|.r [2] ?_
  have bw:k1< d.list.length:=AB
  refine .ix 3 k1 1 h2 bw ?_
  obtain ⟨bd,ar⟩:∃ y,d.list[k1]? = some y:=⟨_,AP AB⟩
  have cy:=AX ar; have cd:=AQ ar
  obtain ⟨_,rfl,bz⟩:=h2.elem k1 bd ar
  refine .lh 4 0 bz id<|.r [5]<|.lb 6 C id<|.r [7] ?_
  have bA:k< d.list.length:=AB
  refine .ix 8 k 1 h2 bA ?_
  obtain ⟨_,rfl,bB⟩:=h2.elem k af ag
  refine .lh 9 0 bB id<|.d fun dt aJ=>?_
  replace ⟨h1,h2,h3,C,E,J,aa⟩:=(se [W] aJ).g7 h1 h2 h3 C E J aa
  exact .eq bd af (fun bC=>.d<|.ct<|.s<|.g<|.r 1<|.d<|.rt Tryz.func26 Tryz.results26 (.bool false) ⟨(congrArg Value.bool (by symm; exact TM (Ue (k:=k) (j:=k1) ‹_› ‹_› AB ‹_›))),E⟩) fun bC=>.d<|.cf<|.sk<|.ib 5<|.g<|.r 1<|RG.int ((k1:Int)+1) AA (by have q1:=p0.next; omega)<|.r 1<|.d<|av (k1+1) _ _ ⟨AA,AA,AA,trivial⟩ ⟨aa,AB,(by exact N5 ‹_› ‹_› ‹_›)⟩ AB
 refine .d<|.cf<|.x 2 rfl<|.s<|.g<|.ln C<|.cl (E2 d h1 h2 h3 (by have:=p0.g.len; omega) p0.g.sz (by have:=p0.nl; omega) (Cr (IE ‹_› AB)) (w:=ak) (F:=nin (fo F w.heap.size) [W])) ?_
 rintro du ce ⟨⟨_,rfl,⟨dv,dw,dx,dy,dz,dA,dB,dC,dD,dE,dF,dG,rfl,al,am,ao,aq⟩⟩,aK⟩
 have ac:=al1 C.lt
 have ah:Gb w.heap.size ak.heap.size:=E.size
 replace E:=(se [] aK).g1 E
 replace al:=RepS.Aa (M:=[W]) al ac ah
 have cz:=al.max
 replace am:=RepS.Aa (M:=[W]) am ac ah
 have cA:=am.max
 replace ao:=RepS.Aa (M:=[W]) ao ac ah
 have cB:=ao.max
 replace aq:=RepS.Aa (M:=[W]) aq ac ah
 have cC:=aq.max
 have bD:=al.len
 subst bD
 have bE:=am.len
 subst bE
 have bF:=ao.len
 subst bF
 have bG:=aq.len
 subst bG
 refine .cl (GG (⟨(⟨((Ai d).idx).names,((Ai d).idx).AV⟩:Idx),(Ai d).parts,(Ai d).mem⟩:Sto) al.ta am.ta ao.ta aq.ta p0.sg (w:=ce) (F:=all)) ?_
 rintro dH dI ⟨rfl,aL⟩
 replace E:=(se [] aL).g1 E
 exact .r 1<|.d<|.rt Tryz.func26 Tryz.results26 (.bool (nmB (⟨(⟨((Ai d).idx).names,((Ai d).idx).AV⟩:Idx),(Ai d).parts,(Ai d).mem⟩:Sto).idx.names&&Ak (⟨(⟨((Ai d).idx).names,((Ai d).idx).AV⟩:Idx),(Ai d).parts,(Ai d).mem⟩:Sto))) ⟨(congrArg Value.bool (by (rw [Vl ‹_› AB AB ‹_› (IE ‹_› AB)]; rfl))),E⟩
theorem EP (d:Dsk) {w:World} {F:Nat→Prop} {a1:Option Addr} {n1 c1:Nat} (h1:RepS w F a1 n1 c1 d.files) {a2:Option Addr} {n2 c2:Nat} (h2:RepS w F a2 n2 c2 d.list) {a3:Option Addr} {n3 c3:Nat} (h3:RepS w F a3 n3 c3 d.names) (p0:DD d) (p1:∀ n∈d.list,0≤Ao d n):Calls Tryz.prog 73 [.agg #[.slice a1 n1 c1,.slice a2 n2 c2,.slice a3 n3 c3,.int .i64 d.next]].toArray w (As fun rv w'=>(∃ (y:Sto),VS (ge w.heap.size) w' (y:Sto) rv∧(D8 d y))∧Ext w w'):=by
 refine goT Tryz.func73 ?_
 obtain ⟨rfl,dF,h1⟩:=h1.tp
 obtain ⟨rfl,dG,h2⟩:=h2.tp
 obtain ⟨rfl,dH,h3⟩:=h3.tp
 refine .s<|.g<|.np 27 [.slice a1 d.files.length c1,.slice a2 d.list.length c2,.slice a3 d.names.length c3,vI d.next] fun af d9 bB aU aa cm=>?_
 replace ⟨h1,h2,h3⟩:=(sn [] aU bB).g3 h1 h2 h3
 have C:=aU
 refine .np 34 [.slice none 0 0,.slice none 0 0,.slice none 0 0,.slice none 0 0] fun ag co aV bC O cp=>?_
 have dI:=C.cn aV
 replace ⟨h1,h2,h3,aa,C⟩:=(sn [af] bC aV).g5 h1 h2 h3 aa C
 refine .d<|.s<|.g<|.r 1<|.lb aa<|.cl (GD d.names h3.ta p0.g.len p0.g.l5 p0.g.bl (w:=co) (F:=all)) ?_
 rintro ec ed ⟨⟨aC,⟨_,rfl,⟨cq,ee,cr,cu,ef,cv,rfl,av,aw⟩⟩,dJ⟩,bD⟩
 have aW:=al2 O.lt aa.lt
 have bE:Gb w.heap.size co.heap.size:=C.size
 replace ⟨h1,h2,h3,aa,O,C⟩:=(se [ag,af] bD).g6 h1 h2 h3 aa O C
 have av:=av.fr aW bE
 have dK:=av.max
 have aw:=aw.fr aW bE
 have dL:=aw.max
 have cw:=av.len
 subst cw
 have cx:=aw.len
 subst cx
 refine .ns 0 42 [] fun aq cX aD bF cy cz=>?_
 have cA:=AS aD aa.lt
 have cB:=AS aD O.lt
 have cC:=Ad aD C.size
 have cD:=C.cn aD
 replace ⟨h1,h2,h3,aa,O,av,aw,C⟩:=(sn [ag,af] bF aD).g8 h1 h2 h3 aa O av aw C
 have ar:Own (α:=Prt) cX aq 42 (nin (ge w.heap.size) [aq,ag,af]) 0 0 []:=Own.Ag cy
 refine .ns 0 107 [] fun ay cY az bG cE cF=>?_
 have cG:=AS az aa.lt
 have cH:=AS az O.lt
 have cI:=AS az ar.lt
 have cJ:=Ad az C.size
 have dM:=C.cn az
 replace ⟨h1,h2,h3,aa,O,av,aw,ar,C⟩:=(sn [aq,ag,af] bG az).g9 h1 h2 h3 aa O av aw ar C
 have aE:Own (α:=Smp) cY ay 107 (nin (ge w.heap.size) [ay,aq,ag,af]) 0 0 []:=Own.Ag cE
 refine .r 1<|.np 34 [.slice none 0 0,.slice none 0 0,.slice none 0 0,.slice none 0 0] fun ah eg aA bH cK cL=>?_
 have dN:=AS aA aa.lt
 have dO:=AS aA O.lt
 have cM:=AS aA ar.lt
 have cN:=AS aA aE.lt
 have dP:=C.cn aA
 replace ⟨h1,h2,h3,aa,O,av,aw,ar,aE,C⟩:=(sn [ay,aq,ag,af] bH aA).g10 h1 h2 h3 aa O av aw ar aE C
 refine .sc [.slice cq aC.names.length cr,.slice cu aC.AV.length cv,vS aq 0 0,vS ay 0 0] cK fun aR bI aX cO=>?_
 replace ⟨h1,h2,h3,aa,O,av,aw,ar,aE,C⟩:=(so [ah,ay,aq,ag,af] bI).g10 h1 h2 h3 aa O av aw ar aE C
 refine .d<|.s<|.s<|.g<|.r 1<|.lb aa<|.r 2<|.d<|.b 0<|T.loop (X:=Nat × (List (List Tag)) × (Option Addr) × Nat × Nat × (List Pst) × (Option Addr) × Nat × Nat × (List Prt) × Nat × Nat × Nat × (List Smp) × Nat × Nat × Nat) (0,(aC.names:List (List Tag)),cq,aC.names.length,cr,(aC.AV:List Pst),cu,aC.AV.length,cv,([]:List Prt),aq,0,0,([]:List Smp),ay,0,0) (fun (k,aI,a_s_0,n_s_0,c_s_0,aK,a_s_1,n_s_1,c_s_1,aJ,r_s_2,n_s_2,c_s_2,aL,r_s_3,n_s_3,c_s_3)=>[(1,.pointer (some ⟨af,0,none⟩)),(2,.pointer (some ⟨ag,0,none⟩)),(3,.pointer (some ⟨ah,0,none⟩)),(13,.slice a2 d.list.length c2),(14,vI (d.list.length:Int)),(15,vI (k:Int))]) (fun (k,aI,a_s_0,n_s_0,c_s_0,aK,a_s_1,n_s_1,c_s_1,aJ,r_s_2,n_s_2,c_s_2,aL,r_s_3,n_s_3,c_s_3) ai=>Chg (ins [aq,ay,ah]) aR ai∧Own ai r_s_2 42 (nin (ge w.heap.size) [ah,r_s_3,r_s_2,ag,af]) n_s_2 c_s_2 aJ∧OrB r_s_2 aq aR.heap.size∧Own ai r_s_3 107 (nin (ge w.heap.size) [ah,r_s_3,r_s_2,ag,af]) n_s_3 c_s_3 aL∧OrB r_s_3 ay aR.heap.size∧Nb r_s_3 r_s_2∧RepS ai (nin (ge w.heap.size) [ah,r_s_3,r_s_2,ag,af]) a_s_0 n_s_0 c_s_0 aI∧RepS ai (nin (ge w.heap.size) [ah,r_s_3,r_s_2,ag,af]) a_s_1 n_s_1 c_s_1 aK∧Box ai ah 34 [.slice a_s_0 n_s_0 c_s_0,.slice a_s_1 n_s_1 c_s_1,vS r_s_2 n_s_2 c_s_2,vS r_s_3 n_s_3 c_s_3]∧(k≤d.list.length)∧(aJ.length≤k)∧(aJ++(d.list.drop k).map (BD d)=d.list.map (BD d))∧(aL=[])∧(aI=d.names)∧((NmI d.names→NsD d.names→(⟨aI,aK⟩:Idx)=idxOf d.names))) (fun (k,aI,a_s_0,n_s_0,c_s_0,aK,a_s_1,n_s_1,c_s_1,aJ,r_s_2,n_s_2,c_s_2,aL,r_s_3,n_s_3,c_s_3)=>d.list.length - k) AA ⟨AA,AA,AA,AA,AA,AA,trivial⟩ ⟨Chg.refl _ _,ar,BJ,aE,BJ,cI,av,aw,aX,(by simp),(by simp),(by rfl),(by rfl),(by have q1:aC.names=d.names∧(NmI d.names→NsD d.names→aC=idxOf d.names):=‹_›; exact q1.1),(by have q1:aC.names=d.names∧(NmI d.names→NsD d.names→aC=idxOf d.names):=‹_›; exact q1.2)⟩ ?_
 rintro ⟨k,aI,a_s_0,n_s_0,c_s_0,aK,a_s_1,n_s_1,c_s_1,aJ,r_s_2,n_s_2,c_s_2,aL,r_s_3,n_s_3,c_s_3⟩ dQ ai ⟨ac,ae,aj,W,ax,bM,E,J,ab,c7,c8,c9,da,db,de⟩ aS
 have aY:=Aw aj cA aa.lt
 have df:=Aw aj cB O.lt
 have aZ:=Aw aj (Nb.symm cM) aX.lt
 have bN:=Bv aj cC C.size
 have dg:=Ar aj cD C.size
 have ba:=Aw ax cG aa.lt
 have dh:=Aw ax cH O.lt
 have bO:=Aw ax (Nb.symm cN) aX.lt
 have bP:=Bv ax cJ C.size
 have bQ:Cov (ins [aq,ay,ah]) aR aq:=⟨.inl AD⟩
 have dj:Cov (ins [aq,ay,ah]) aR ah:=⟨.inl AF⟩
 have dm:=Ar aj bQ (Nat.le_refl _)
 have bc:Mv [ah,ay,aq,ag,af] [ah,r_s_3,r_s_2,ag,af] aR ai:=Mv.inl ac (all_cons AF (all_cons AE (all_cons AD all_nil))) (all_cons (.inl AD) (all_cons (BV ax AE) (all_cons (BV aj AF) (all_cons (.inl AG) (all_cons (.inl AH) all_nil)))))
 replace ⟨h1,h2,h3,aa,O,C⟩:=(sp bc ac).g6 h1 h2 h3 aa O C
 have dp:=ae.len; have dq:=ae.max
 have dr:=W.len; have dt:=W.max
 have du:=E.len; have dv:=E.max
 have dw:=J.len; have dx:=J.max
 refine .s<|.g<|.bp ((k:Int)< (d.list.length:Int)) (fun bR=>?_) (fun bR=>?_)
 ·refine .d<|.s<|.ct<|.sk<|.s<|.b 1<|.s<|.g ?_
  have bd:k< d.list.length:=AB
  refine RG.idx k (len:=d.list.length) (i:=(k:Int)) (sz:=1) AA AB bd (h2.addr (Nat.zero_lt_of_lt bd)) ?_
  obtain ⟨aB,aM⟩:∃ y,d.list[k]? = some y:=⟨_,AP AB⟩
  have dy:=AX aM; have cP:=AQ aM
  obtain ⟨_,rfl,bS⟩:=h2.elem k aB aM
  refine .lh 0 bS<|.r 1<|.d ?_
  replace h1:=h1.Ah
  replace h2:=h2.Ah
  replace h3:=h3.Ah
  replace E:=E.Ah
  replace J:=J.Ah
  have bg:Gb (af+1) ai.heap.size:=aa.lt
  have bT:Gb (ah+1) ai.heap.size:=ab.lt
  refine .gd (mtb [r_s_2,r_s_3] ai.heap.size) 12 fun dR bh=>?_
  replace ⟨h1,h2,h3,aa,O,ae,W,ab,E,J,C,ac⟩:=(se [ah,r_s_3,r_s_2,ag,af] bh).g12 h1 h2 h3 aa O ae W ab E J C ac
  refine .r [0]<|.lb 1 ab (Ax (all_cons (Nb.symm aZ) (all_cons (Nb.symm bO) all_nil)) bT)<|.r [2]<|.lb 3 aa (Ax (all_cons (Nb.symm aY) (all_cons (Nb.symm ba) all_nil)) bg)<|.ln 4 aa (Ax (all_cons (Nb.symm aY) (all_cons (Nb.symm ba) all_nil)) bg)<|.r [5]<|GA.Bz (i:=6) AA (fun cQ aN=>Cs d aB (h1.JQ aN (all_cons AF (all_cons AE all_nil))) (h2.JQ aN (all_cons AF (all_cons AE all_nil))) (h3.JQ aN (all_cons AF (all_cons AE all_nil))) (w:=cQ) (F:=all)) ?_
  have bi:(Ao d aB).toNat< d.files.length:=(by exact (FM (p1 _ ‹_›)).1)
  refine GA.idx (i:=7) ((Ao d aB).toNat) (len:=d.files.length) (z:=Ao d aB) (sz:=3) AA (by exact (FM (p1 _ ‹_›)).2) bi (h1.addr (Nat.zero_lt_of_lt bi))<|.r [8] ?_
  obtain ⟨aF,aG⟩:∃ y,d.files[(Ao d aB).toNat]? = some y:=⟨_,AP AB⟩
  have dz:=AX aG; have cR:=AQ aG
  obtain ⟨_,⟨dS,dT,dU,dV,dW,dX,rfl,bj,bk⟩,bU⟩:=h1.elem ((Ao d aB).toNat) aF aG
  have bV:=bj.len
  subst bV
  have dA:=bj.max
  have bW:=bk.len
  subst bW
  have dB:=bk.max
  refine .lg 9 1 bU (h1.nS (Dt aG) (all_cons AF (all_cons AE all_nil)))<|.go 10<|.cl (fun bm aH=>DP aF.part (bj.ta.ext aH) (bk.ta.ext aH) (p0.file _ ‹_›).sz (w:=bm) (F:=all)) ?_
  intro bm aH
  replace ⟨aa,O,ae,W,ab,E,J,C,ac⟩:=(se [ah,r_s_3,r_s_2,ag,af] aH).g9 aa O ae W ab E J C ac
  rintro dY dZ ⟨⟨_,rfl,⟨cS,d0,cT,cU,d3,cV,rfl,ak,al⟩⟩,aO⟩
  have aP:=al5 ab.lt W.lt ae.lt O.lt aa.lt
  have bn:Gb w.heap.size bm.heap.size:=C.size
  have hkeep_:=aO
  replace ⟨aa,O,ae,W,ab,E,J,C,ac⟩:=(se [ah,r_s_3,r_s_2,ag,af] aO).g9 aa O ae W ab E J C ac
  refine ⟨Ext.chg hkeep_,?_⟩
  have ak:=ak.fr aP bn
  have al:=al.fr aP bn
  have bX:=ak.len
  subst bX
  have bY:=al.len
  subst bY
  refine .go 11<|.ns 1 42 [.slice cS aF.part.ids.length cT,.slice cU aF.part.blocks.length cV] fun d4 bo=>?_
  replace ⟨aa,O,ae,W,ab,E,J,ak,al,C,ac⟩:=(se [ah,r_s_3,r_s_2,ag,af] bo).g11 aa O ae W ab E J ak al C ac
  intro bJ d5 am bq aQ bZ
  have b0:=AS am aa.lt
  have b6:=AS am O.lt
  have br:=AS am ae.lt
  have b7:=AS am W.lt
  have b8:=AS am ab.lt
  have b9:=Ad am C.size
  replace ⟨O,ae,W,ab,E,J,ak,al,C,ac⟩:=(se [ah,r_s_3,r_s_2,ag,af] bq).g10 O ae W ab E J ak al C ac
  refine .d fun d6 bt=>?_
  replace ⟨O,ae,W,ab,E,J,ak,al,aQ,C,ac⟩:=(se [ah,r_s_3,r_s_2,ag,af] bt).g11 O ae W ab E J ak al aQ C ac
  replace E:=E.AU
  replace J:=J.AU
  have aT:nin (ge w.heap.size) [ah,r_s_3,r_s_2,ag,af] bJ∧bJ≠r_s_2:=BG b9 (all_cons b8 (all_cons b7 (all_cons br (all_cons b6 (all_cons b0 all_nil))))) br
  refine RG.Ap (T:=31) (ty:=31) (y:=aF.part) ae aQ AA AA ⟨_,_,_,_,_,_,rfl,ak.oi,al.oi⟩ aT (by have:=p0.nl; omega) fun bu bK d7 ao au bv=>?_
  have cd:=Ae au (Nb.symm bM) W.lt
  have dC:=Ae au aZ ab.lt
  have ce:=Bo au aj ac.size
  replace ⟨O,W,ab,E,J,C,ac⟩:=(sa [ah,r_s_3,r_s_2,ag,af] bv au).g7 O W ab E J C ac
  replace ao:=ao.rn r_s_2
  have dD:=ao.len; have dE:=ao.max
  refine .r 1<|.ss 2 (vS bu (n_s_2+1) bK) ab fun d8 bw cg ci=>?_
  replace ⟨O,ao,W,E,J,C,ac⟩:=(so [ah,r_s_3,bu,ag,af] bw).g7 O ao W E J C ac
  exact .d<|.ib 1<|.g<|RG.int ((k:Int)+1) AA AB<|.r 1<|.d<|aS (k+1,aI,a_s_0,n_s_0,c_s_0,aK,a_s_1,n_s_1,c_s_1,(aJ++[aF.part]),bu,n_s_2+1,bK,aL,r_s_3,n_s_3,c_s_3) _ _ ⟨AA,AA,AA,AA,AA,AA,trivial⟩ ⟨ac,ao,ce,W,ax,(Nb.symm cd),E,J,cg,AB,(by simp; omega),(by exact Pv ‹_› ‹_› ‹_›),‹_›,‹_›,‹_›⟩ (by (simp only []; omega))
 refine .d<|.s<|.cf<|.x 0 rfl<|.s<|.g<|.ln ab<|.sc [.slice a_s_0 n_s_0 c_s_0,.slice a_s_1 n_s_1 c_s_1,vS r_s_2 n_s_2 c_s_2,vS r_s_3 n_s_3 c_s_3] O fun bL bz cj ck=>?_
 replace ⟨ae,W,E,J,C⟩:=(so [ah,r_s_3,r_s_2,ag,af] bz).g5 ae W E J C
 refine .d ?_
 have bA:=ae.sl bN
 replace ⟨W,E,J⟩:=(sd bL [ah,r_s_3,r_s_2,ag,af] r_s_2).g3 W E J
 have cW:=W.sl bP
 replace ⟨bA,E,J⟩:=(sd bL [ah,r_s_3,ag,af] r_s_3).g3 bA E J
 exact .rb Tryz.func73 Tryz.results73 cj ⟨⟨((⟨(⟨aI,aK⟩:Idx),aJ,aL⟩:Sto):Sto),⟨_,rfl,⟨_,_,_,_,_,_,_,_,_,_,_,_,rfl,E.w1,J.w1,bA.w1,cW.w1⟩⟩,(by exact D8.mk ‹_› (Rb ‹_› AB) ‹_› ‹_›)⟩,C⟩
theorem Bs (d:Dsk) {w:World} {F:Nat→Prop} {a1:Option Addr} {n1 c1:Nat} (h1:RepS w F a1 n1 c1 d.files) {a2:Option Addr} {n2 c2:Nat} (h2:RepS w F a2 n2 c2 d.list) {a3:Option Addr} {n3 c3:Nat} (h3:RepS w F a3 n3 c3 d.names) (p0:DD d):Calls Tryz.prog 27 [.agg #[.slice a1 n1 c1,.slice a2 n2 c2,.slice a3 n3 c3,.int .i64 d.next]].toArray w (As fun rv w'=>rv=.bool (Af d)∧Ext w w'):=by
 refine goT Tryz.func27 ?_
 obtain ⟨rfl,cp,h1⟩:=h1.tp
 obtain ⟨rfl,cq,h2⟩:=h2.tp
 obtain ⟨rfl,cr,h3⟩:=h3.tp
 refine .s<|.g<|.np 27 [.slice a1 d.files.length c1,.slice a2 d.list.length c2,.slice a3 d.names.length c3,vI d.next] fun W bR aL aw E bq=>?_
 replace ⟨h1,h2,h3⟩:=(sn [] aw aL).g3 h1 h2 h3
 have C:=aw
 refine .r 1<|.d<|.s<|.s<|.g<|.r 1<|.lb E<|.cl (CM d.next 1 999 (w:=bR) (F:=all)) ?_
 rintro dh br ⟨rfl,aM⟩
 replace ⟨h1,h2,h3,E,C⟩:=(se [W] aM).g5 h1 h2 h3 E C
 cases aN:(inR d.next 1 999)
 ·have cu:=Ex aN
  exact .r 13<|.d<|.ct<|.s<|.g<|.r 1<|.d<|.rt Tryz.func27 Tryz.results27 (.bool false) ⟨(congrArg Value.bool (by symm; exact N6 (.inl ‹_›))),C⟩
 have cv:=CN aN
 refine .r 3<|.lb E<|.r 1<|.bp ((d.files.length:Int) > 20) (fun bt=>.r 7<|.d<|.ct<|.s<|.g<|.r 1<|.d<|.rt Tryz.func27 Tryz.results27 (.bool false) ⟨(congrArg Value.bool (by symm; exact N6 (.inr (.inl ‹_›)))),C⟩) fun bt=>.r 3<|.lb E<|.r 1<|.bp ((d.list.length:Int) > 6) (fun bu=>.r 1<|.d<|.ct<|.s<|.g<|.r 1<|.d<|.rt Tryz.func27 Tryz.results27 (.bool false) ⟨(congrArg Value.bool (by symm; exact N6 (.inr (.inr (.inl ‹_›))))),C⟩) fun bu=>.r 1<|.d<|.cf<|.sk<|.s<|.s<|.g<|.r 1<|.lb E<|.r 2<|.d<|.b 0<|T.loop (X:=Nat) 0 (fun k=>[(1,.pointer (some ⟨W,0,none⟩)),(24,.slice a1 d.files.length c1),(25,vI (d.files.length:Int)),(26,vI (k:Int))]) (fun k ax=>Chg (ins []) br ax∧(k≤d.files.length)∧(DG d.next (I3 d.files k) (d.files.drop k)=DG d.next none d.files)) (fun k=>d.files.length - k) AA ⟨AA,AA,AA,AA,trivial⟩ ⟨Chg.refl _ _,(by simp),(by rfl)⟩ ?_
 rintro k dj ax ⟨J,cw,cx⟩ aj
 have aO:Mv [W] [W] br ax:=Mv.inl J all_nil (all_cons (.inl AD) all_nil)
 replace ⟨h1,h2,h3,E,C⟩:=(sp aO J).g5 h1 h2 h3 E C
 refine .s<|.g<|.bp ((k:Int)< (d.files.length:Int)) (fun bv=>?_) (fun bv=>?_)
 ·refine .d<|.s<|.ct<|.sk<|.s<|.b 1<|.s<|.g<|.r 1 ?_
  have bw:k< d.files.length:=AB
  refine .ix k 3 h1 bw ?_
  obtain ⟨ae,ay⟩:∃ y,d.files[k]? = some y:=⟨_,AP AB⟩
  have cy:=AX ay; have bO:=AQ ay
  obtain ⟨_,⟨bS,dm,bT,bU,dp,bV,rfl,aa,ab⟩,bz⟩:=h1.elem k ae ay
  have bA:=aa.len
  subst bA
  have cz:=aa.max
  have bB:=ab.len
  subst bB
  have cA:=ab.max
  refine .lg 0 bz<|.np 66 [vI 0,.slice none 0 0,.slice none 0 0] fun ah dq ak aP bC bD=>?_
  have cB:=AS ak E.lt
  have cC:=C.cn ak
  have cD:=J.cn ak
  replace ⟨h1,h2,h3,E,aa,ab,C,J⟩:=(sn [W] aP ak).g8 h1 h2 h3 E aa ab C J
  refine .r 1<|.sc [vI ae.num,.slice bS ae.part.ids.length bT,.slice bU ae.part.blocks.length bV] bC fun dr aQ O bE=>?_
  replace ⟨h1,h2,h3,E,aa,ab,C,J⟩:=(so [ah,W] aQ).g8 h1 h2 h3 E aa ab C J
  refine .d<|.s<|.gd nil 20 fun dt aR=>?_
  replace ⟨h1,h2,h3,E,aa,ab,O,C,J⟩:=(se [ah,W] aR).g9 h1 h2 h3 E aa ab O C J
  refine .r [0]<|.lb 1 O id<|.r [2]<|.lb 3 E id<|GA.int (i:=4) (d.next - 1) AA (by have q1:=p0.next; omega)<|GA.Bz (i:=5) AA (fun bW cE=>CM ae.num 1 (d.next - 1) (w:=bW) (F:=all)) ?_
  cases aS:(inR ae.num 1 (d.next - 1))
  ·have cF:=Ex aS
   refine .r [6,7]<|GA.skip AA fun du aT=>?_
   replace ⟨h1,h2,h3,E,aa,ab,O,C,J⟩:=(se [ah,W] aT).g9 h1 h2 h3 E aa ab O C J
   exact .r 9<|.d<|.ct<|.s<|.g<|.r 1<|.d<|.rt Tryz.func27 Tryz.results27 (.bool false) ⟨(congrArg Value.bool (by symm; exact M9 (Gf ‹_› ‹_› (.inl ‹_›)))),C⟩
  have cG:=CN aS
  refine .r [6,7,8]<|GA.EE (i:=9) ((k:Int) > 0) AA (fun bF=>?_) (fun bF=>?_)
  ·refine .r [10,11]<|.lb 12 E id<|.r [13]<|GA.int (i:=14) ((k:Int) - 1) AA (by have q1:=p0.next; omega) ?_
   have aU:k - 1< d.files.length:=AB
   refine GA.idx (i:=15) (k - 1) (len:=d.files.length) (z:=(k:Int) - 1) (sz:=3) AA AB aU (h1.addr (Nat.zero_lt_of_lt aU))<|.r [16] ?_
   obtain ⟨bG,az⟩:∃ y,d.files[k - 1]? = some y:=⟨_,AP AB⟩
   have cH:=AX az; have bQ:=AQ az
   obtain ⟨_,⟨dv,dw,dx,cI,cJ,cK,rfl,bH,aV⟩,bI⟩:=h1.elem (k - 1) bG az
   have aY:=bH.len
   subst aY
   have bX:=bH.max
   have aZ:=aV.len
   subst aZ
   have bY:=aV.max
   refine .lh 17 0 bI id<|.r [18]<|.lb 19 O id<|.d fun bJ aA=>?_
   replace ⟨h1,h2,h3,E,aa,ab,O,C,J⟩:=(se [ah,W] aA).g9 h1 h2 h3 E aa ab O C J
   refine .bp (bG.num≥ae.num) (fun ba=>.r 8<|.d<|.ct<|.s<|.g<|.r 1<|.d<|.rt Tryz.func27 Tryz.results27 (.bool false) ⟨(congrArg Value.bool (by symm; exact M9 (Gf ‹_› ‹_› (.inr (.inl ⟨by omega,_,by assumption,by assumption⟩))))),C⟩) fun ba=>.r 4<|.ln O<|.cl (C7 ae.part aa.ta ab.ta (w:=bJ) (F:=all)) ?_
   rintro cL aW ⟨rfl,aB⟩
   replace ⟨h1,h2,h3,E,aa,ab,O,C,J⟩:=(se [ah,W] aB).g9 h1 h2 h3 E aa ab O C J
   cases bZ:(Au ae.part)
   ·exact .r 2<|.d<|.ct<|.s<|.g<|.r 1<|.d<|.rt Tryz.func27 Tryz.results27 (.bool false) ⟨(congrArg Value.bool (by symm; exact M9 (Gf ‹_› ‹_› (.inr (.inr ‹_›))))),C⟩
   refine .r 2<|.d<|.cf<|.sk<|.ib 1<|.g<|RG.int ((k:Int)+1) AA (by have q1:=p0.next; omega)<|.r 1<|.d ?_
   have bc:Mv [ah,W] [W] aW aW:=Mv.less (all_cons AE all_nil)
   replace ⟨h1,h2,h3,aa,ab⟩:=(sp bc (Chg.refl nil _)).g5 h1 h2 h3 aa ab
   exact aj (k+1) _ _ ⟨AA,AA,AA,AA,trivial⟩ ⟨J,AB,(by exact ID ‹_› ‹_› ‹_› ‹_› (.inr ⟨_,by assumption,by assumption⟩) ‹_›)⟩ AB
  refine .r [10]<|GA.skip AA fun bK aC=>?_
  replace ⟨h1,h2,h3,E,aa,ab,O,C,J⟩:=(se [ah,W] aC).g9 h1 h2 h3 E aa ab O C J
  refine .r 5<|.ln O<|.cl (C7 ae.part aa.ta ab.ta (w:=bK) (F:=all)) ?_
  rintro cM aX ⟨rfl,aD⟩
  replace ⟨h1,h2,h3,E,C,J⟩:=(se [ah,W] aD).g6 h1 h2 h3 E C J
  cases b0:(Au ae.part)
  ·exact .r 2<|.d<|.ct<|.s<|.g<|.r 1<|.d<|.rt Tryz.func27 Tryz.results27 (.bool false) ⟨(congrArg Value.bool (by symm; exact M9 (Gf ‹_› ‹_› (.inr (.inr ‹_›))))),C⟩
  refine .r 2<|.d<|.cf<|.sk<|.ib 1<|.g<|RG.int ((k:Int)+1) AA (by have q1:=p0.next; omega)<|.r 1<|.d ?_
  have bd:Mv [ah,W] [W] aX aX:=Mv.less (all_cons AE all_nil)
  replace ⟨h1,h2,h3⟩:=(sp bd (Chg.refl nil _)).g3 h1 h2 h3
  exact aj (k+1) _ _ ⟨AA,AA,AA,AA,trivial⟩ ⟨J,AB,(by exact ID ‹_› ‹_› ‹_› ‹_› (.inl AB) ‹_›)⟩ AB
 refine .d<|.s<|.cf<|.x 0 rfl<|.s<|.s<|.g<|.r 1<|.lb E<|.r 2<|.d<|.b 2<|T.loop (X:=Nat) 0 (fun k=>[(1,.pointer (some ⟨W,0,none⟩)),(62,.slice a2 d.list.length c2),(63,vI (d.list.length:Int)),(64,vI (k:Int))]) (fun k ag=>Chg (ins []) ax ag∧(k≤d.list.length)∧(DG d.next none d.files=true)∧(Pu d k)) (fun k=>d.list.length - k) AA ⟨AA,AA,AA,AA,trivial⟩ ⟨Chg.refl _ _,(by simp),(by exact O0 ‹_› AB),(by exact RX _)⟩ ?_
 rintro k cN ag ⟨ac,b6,b7,b8⟩ av
 have aE:Mv [W] [W] ax ag:=Mv.inl ac all_nil (all_cons (.inl AD) all_nil)
 replace ⟨h1,h2,h3,E,C⟩:=(sp aE ac).g5 h1 h2 h3 E C
 refine .s<|.g<|.bp ((k:Int)< (d.list.length:Int)) (fun bg=>?_) (fun bg=>?_)
 ·refine .d<|.s<|.ct<|.sk<|.s<|.b 3<|.s<|.g<|.r 1 ?_
  have bh:k< d.list.length:=AB
  refine .ix k 1 h2 bh ?_
  obtain ⟨al,au⟩:∃ y,d.list[k]? = some y:=⟨_,AP AB⟩
  have b9:=AX au; have bL:=AQ au
  obtain ⟨_,rfl,bi⟩:=h2.elem k al au
  refine .lh 0 bi<|.r 2<|.d<|.s<|.g<|.ln E<|.r 1<|.cl (Cs d al h1.ta h2.ta h3.ta (w:=ag) (F:=all)) ?_
  rintro cO bM ⟨rfl,aF⟩
  replace ⟨h1,h2,h3,E,C,ac⟩:=(se [W] aF).g6 h1 h2 h3 E C ac
  refine .bp (Ao d al< 0) (fun bj=>.r 8<|.d<|.ct<|.s<|.g<|.r 1<|.d<|.rt Tryz.func27 Tryz.results27 (.bool false) ⟨(congrArg Value.bool (by symm; exact TM (RZ ‹_› ‹_›))),C⟩) fun bj=>.r 2<|.lb E<|.r 1<|RG.sub (t:=24) (lo:=none) (hi:=some (vI (k:Int))) h2 0 k AA AA (.inl ⟨rfl,rfl⟩) (.inr ⟨_,_,rfl,by omega⟩) AB AB fun cP cQ aG=>?_
  have cd:=aG.len; have ce:=aG.max
  refine .r 1<|.cl (Cd ((d.list.take k).drop 0) al aG.ta (w:=bM) (F:=all)) ?_
  rintro cR cS ⟨rfl,aH⟩
  replace ⟨h1,h2,h3,E,C,ac⟩:=(se [W] aH).g6 h1 h2 h3 E C ac
  cases cg:((d.list.take k).drop 0).contains al
  ·exact .r 1<|.d<|.cf<|.sk<|.ib 3<|.g<|RG.int ((k:Int)+1) AA (by have q1:=p0.next; omega)<|.r 1<|.d<|av (k+1) _ _ ⟨AA,AA,AA,AA,trivial⟩ ⟨ac,AB,‹_›,(by exact LO ‹_› ‹_› ‹_› (RY ‹_›) (Nat.le_refl _))⟩ AB
  exact .r 1<|.d<|.ct<|.s<|.g<|.r 1<|.d<|.rt Tryz.func27 Tryz.results27 (.bool false) ⟨(congrArg Value.bool (by symm; exact TM (Uf ‹_› ‹_›))),C⟩
 refine .d<|.s<|.cf<|.x 2 rfl<|.s<|.g<|.ln E<|.cl (EP d h1.ta h2.ta h3.ta p0 (Cr (IE ‹_› AB)) (w:=ag) (F:=all)) ?_
 rintro cT bN ⟨⟨aI,⟨_,rfl,⟨cU,cV,cW,cX,cY,cZ,c7,c8,c9,da,db,de,rfl,am,ao,aq,ar⟩⟩,ci⟩,aJ⟩
 have af:=al1 E.lt
 have ai:Gb w.heap.size ag.heap.size:=C.size
 replace C:=(se [] aJ).g1 C
 have am:=am.fr af ai
 have cj:=am.max
 have ao:=ao.fr af ai
 have ck:=ao.max
 have aq:=aq.fr af ai
 have cm:=aq.max
 have ar:=ar.fr af ai
 have co:=ar.max
 have bk:=am.len
 subst bk
 have bm:=ao.len
 subst bm
 have bn:=aq.len
 subst bn
 have bo:=ar.len
 subst bo
 refine .cl (Ee aI am.ta ao.ta aq.ta ar.ta (D8.sg (by assumption:D8 d _) p0) (w:=bN) (F:=all)) ?_
 rintro df dg ⟨rfl,aK⟩
 replace C:=(se [] aK).g1 C
 exact .r 1<|.d<|.rt Tryz.func27 Tryz.results27 (.bool (nmB aI.idx.names&&Ak aI)) ⟨(congrArg Value.bool (by exact D8.dk (by assumption:D8 d _) p0 ‹_› AB AB ‹_› (IE ‹_› AB))),C⟩
end Go.Proofs.YtganlmloonielaaGreat
namespace Go.Proofs.YtganlmloonielaaGreat
structure MI (s y:Sto) (i:Nat):Prop where
 sd:SD y
 ok:Ak y=true
 idx:y.idx=s.idx
 mem:y.mem=s.mem
 lo:1≤y.parts.length
 hi:y.parts.length≤1∨y.parts.length+i≤6
 rows:∀ id:Int,1≤id→id≤6→y.parts.foldl (CZ id) []=s.parts.foldl (CZ id) []
theorem MI.step {s y:Sto} {i:Nat} {a:Int} (h:MI s y i) (h1:(C0 y a).2=true):MI s (C0 y a).1 (i+1):=by
 obtain ⟨hk,h2,h3,e⟩:=IC h.sd h1
 have hl:=Pt h.sd h1
 refine ⟨RV h.sd h1,(N4 h.sd h1).2,by rw [e]; exact h.idx,by rw [e]; exact h.mem,by omega,?_,fun id a1 a2=>?_⟩
 ·have:=h.hi; omega
 ·rw [e,(FL (StoK.of h.sd hk) AB a1 a2).1]
  exact h.rows id a1 a2
theorem MI.start {s:Sto} {a:Int} (h:SD s) (h1:(C0 s a).2=true):MI s s 0∧MI s (C0 s a).1 0:=by
 obtain ⟨hk,h2,h3,e⟩:=IC h h1
 have h0:MI s s 0:=⟨h,hk,rfl,rfl,by omega,.inr (by have:=h.np; omega),fun _ _ _=>rfl⟩
 have h4:=h0.step h1
 exact ⟨h0,h4.sd,h4.ok,h4.idx,h4.mem,h4.lo,by have:=h4.hi; omega,h4.rows⟩
theorem MI.one {s y:Sto} {i:Nat} (h:MI s y i) (hi:6≤i):y.parts.length=1:=by have:=h.lo; have:=h.hi; omega
theorem Rc:∀ (is:List Int) (bs:List (List Row)) (o:Option Int),Bl o is bs=true→is.length=bs.length→∀ is' bs',Bl o is' bs'=true→is'.length=bs'.length→(∀ id:Int,Bp id is bs=Bp id is' bs')→is=is'∧bs=bs':=by
 have low:∀ (is:List Int) (bs:List (List Row)) (o:Option Int),Bl o is bs=true→∀ q,o=some q→∀ i∈is,q< i:=by
  intro is
  induction is with
  | nil=>intro bs o _ q _ i hi; cases hi
  | cons x xs ih =>
    intro bs o hg q hq i hi
    cases bs with
    | nil=>simp [Bl] at hg
    | cons b bs =>
      simp only [Bl,AR] at hg
      have hx:q< x:=by have:=hg.1.1.1.2; rw [hq] at this; simpa using this
      rcases List.mem_cons.1 hi with rfl | hi
      ·exact hx
      ·have:=ih bs (some x) hg.2 x rfl i hi; omega
 have none_of:∀ (is:List Int) (bs:List (List Row)) (id:Int),(∀ i∈is,i≠id)→Bp id is bs=[]:=by
  intro is
  induction is with
  | nil=>intro bs id _; unfold Bp; rfl
  | cons i is ih =>
    intro bs id h
    cases bs with
    | nil=>unfold Bp; rfl
    | cons b bs =>
      unfold Bp
      rw [if_neg (by have:=h i (by simp); simpa using this)]
      exact ih bs id (fun j hj=>h j (by simp [hj]))
 have mem_of:∀ (is:List Int) (bs:List (List Row)) (id:Int),Bp id is bs≠[]→id∈is:=by
  intro is bs id h
  rcases Classical.em (id∈is) with h1 | h1
  ·exact h1
  ·exact absurd (none_of is bs id (fun i hi e=>h1 (e▸hi))) h
 intro is
 induction is with
 | nil =>
   intro bs o hg hl is' bs' hg' hl' h
   cases bs with
   | cons _ _=>simp at hl
   | nil =>
     cases is' with
     | nil =>
       cases bs' with
       | nil=>exact ⟨rfl,rfl⟩
       | cons _ _=>simp at hl'
     | cons i is' =>
       cases bs' with
       | nil=>simp at hl'
       | cons b bs' =>
         simp only [Bl,AR,decide_eq_true_eq] at hg'
         have:=h i
         unfold Bp at this
         rw [if_pos (by simp)] at this
         rw [← this] at hg'
         exact absurd hg'.1.1.2 (by simp)
 | cons i is ih =>
   intro bs o hg hl is' bs' hg' hl' h
   cases bs with
   | nil=>simp at hl
   | cons b bs =>
     have hg0:=hg
     simp only [Bl,AR,decide_eq_true_eq] at hg
     cases is' with
     | nil =>
       cases bs' with
       | cons _ _=>simp at hl'
       | nil =>
         have:=h i
         unfold Bp at this
         rw [if_pos (by simp)] at this
         rw [this] at hg
         exact absurd hg.1.1.2 (by simp)
     | cons i' is' =>
       cases bs' with
       | nil=>simp at hl'
       | cons b' bs' =>
         have hg0':=hg'
         simp only [Bl,AR,decide_eq_true_eq] at hg'
         have a1:Bp i (i'::is') (b'::bs')=b:=by rw [← h i]; unfold Bp; rw [if_pos (by simp)]
         have a2:Bp i' (i::is) (b::bs)=b':=by rw [h i']; unfold Bp; rw [if_pos (by simp)]
         have m1:=mem_of _ _ i (by rw [a1]; exact List.ne_nil_of_length_pos hg.1.1.2)
         have m2:=mem_of _ _ i' (by rw [a2]; exact List.ne_nil_of_length_pos hg'.1.1.2)
         have hii:i=i':=by
          rcases List.mem_cons.1 m1 with e | e
          ·exact e
          ·rcases List.mem_cons.1 m2 with e2 | e2
           ·exact e2.symm
           ·have:=low is' bs' (some i') hg'.2 i' rfl i e
            have:=low is bs (some i) hg.2 i rfl i' e2
            omega
         subst hii
         have hbb:b=b':=by
          rw [← a1]
          unfold Bp
          rw [if_pos (by simp)]
         subst hbb
         have:=ih bs (some i) hg.2 (by simpa using hl) is' bs' hg'.2 (by simpa using hl') (fun id=>by
          by_cases e:i=id
          ·subst e
           rw [none_of is bs i (fun j hj e=>by have:=low is bs (some i) hg.2 i rfl j hj; omega),none_of is' bs' i (fun j hj e=>by have:=low is' bs' (some i) hg'.2 i rfl j hj; omega)]
          ·have:=h id
           unfold Bp at this
           rw [if_neg (by simpa using e),if_neg (by simpa using e)] at this
           exact this)
         rw [this.1,this.2]
         exact ⟨rfl,rfl⟩
theorem NA {p q:Prt} (hp:Au p=true) (hq:Au q=true) (h:∀ id:Int,partOf p id=partOf q id):p=q:=by
 unfold Au at hp hq
 simp only [AR,decide_eq_true_eq] at hp hq
 obtain ⟨e1,e2⟩:=Rc p.ids p.blocks none hp.2 hp.1 q.ids q.blocks hq.2 hq.1 h
 cases p
 cases q
 simp only [Prt.mk.injEq]
 exact ⟨e1,e2⟩
end Go.Proofs.YtganlmloonielaaGreat
namespace Go.Proofs.YtganlmloonielaaGreat
theorem Rd {ns:List (List Tag)} {n:List Tag} (h:NmI ns) (h2:NsD ns) (hn:NmX n):NmG (ns++[n]):=by
 have hl:=h.len
 refine ⟨by rw [List.length_append]; simp; omega,fun m hm=>?_,?_⟩
 ·rcases List.mem_append.1 hm with hm | hm
  ·exact h2 m hm
  ·simp at hm
   subst hm
   exact hn.1
 ·have hb:FZ 0 [] (ns++[n])=n.foldl (E8 ((ns.length:Int)+1)) (FZ 0 [] ns):=by
   have key:∀ (ns:List (List Tag)) (i:Nat) (xs:List Pst),FZ i xs (ns++[n])=n.foldl (E8 (((i+ns.length:Nat):Int)+1)) (FZ i xs ns):=by
    intro ns
    induction ns with
    | nil=>intro i xs; rfl
    | cons m ms ih =>
      intro i xs
      show FZ (i+1) (m.foldl (E8 ((i:Int)+1)) xs) (ms++[n])=_
      rw [ih]
      show _=n.foldl _ (FZ (i+1) (m.foldl (E8 ((i:Int)+1)) xs) ms)
      rw [List.length_cons,show i+1+ms.length=i+(ms.length+1) by omega]
   have:=key ns 0 []
   simpa using this
  rw [hb]
  have hr:=RepP.UY h
  have hm:∀ x∈FZ 0 [] ns,x.tag∈KN:=fun x hx=>by
   have g:=hr.el x hx
   obtain ⟨m,hm,ht⟩:=Nt (by rw [← g.1]; exact g.2:ids ns x.tag≠[])
   have ho:=h.ok m hm
   simp only [BS,AR] at ho
   exact Iv (EL m none ho.1 _ ht) ((h2 m hm).2 _ ht)
  have key:∀ (n:List Tag) (xs:List Pst) (L:Tag→List Int) (i:Int),RepP xs L→(∃ L',RepP (n.foldl (E8 i) xs) L')∧∀ x∈n.foldl (E8 i) xs,(∃ y∈xs,y.tag=x.tag)∨x.tag∈n:=by
   intro n
   induction n with
   | nil=>intro xs L i hx; exact ⟨⟨L,hx⟩,fun x hx=>.inl ⟨x,hx,rfl⟩⟩
   | cons t ts ih =>
     intro xs L i hx
     have h1:∀ x∈E8 i xs t,(∃ y∈xs,y.tag=x.tag)∨x.tag=t:=fun x hx=>by
      rcases Is t xs 0 with ⟨g1,_⟩ | ⟨g1,g2,y,g3,g4⟩
      ·rw [KK AB] at hx
       rcases List.mem_append.1 hx with hx | hx
       ·exact .inl ⟨x,hx,rfl⟩
       ·simp at hx
        subst hx
        exact .inr rfl
      ·rw [Nat.sub_zero] at g3
       rw [KL AB g3] at hx
       rcases List.mem_or_eq_of_mem_set hx with hx | rfl
       ·exact .inl ⟨x,hx,rfl⟩
       ·exact .inr g4
     obtain ⟨a,b⟩:=ih (E8 i xs t) _ i (hx.add i t)
     refine ⟨a,fun x hx=>?_⟩
     rcases b x hx with ⟨y,hy,e⟩ | hm
     ·rcases h1 y hy with ⟨z,hz,e2⟩ | e2
      ·exact .inl ⟨z,hz,e2.trans e⟩
      ·exact .inr (by rw [← e,e2]; simp)
     ·exact .inr (by simp [hm])
  obtain ⟨⟨L',hL⟩,hmem⟩:=key n _ _ ((ns.length:Int)+1) hr
  have:=Gx _ (KN++n.filter (fun t=>!Bg t)) hL.nd (fun t ht=>by
   obtain ⟨x,hx,rfl⟩:=List.mem_map.1 ht
   rcases hmem x hx with ⟨y,hy,e⟩ | hx2
   ·exact List.mem_append.2 (.inl (e▸hm y hy))
   ·cases hk:Bg x.tag with
    | true=>exact List.mem_append.2 (.inl (Iv hk (hn.1.2 _ hx2)))
    | false=>exact List.mem_append.2 (.inr (List.mem_filter.2 ⟨hx2,by rw [hk]; rfl⟩)))
  rw [List.length_map,List.length_append] at this
  have e9:KN.length=9:=rfl
  have hb2:=hn.2
  unfold Qd at hb2
  omega
theorem WD.dd {w:Wld} (h:WD w):DD w.disk:=⟨NmG.of h.wi.dsk.nm h.dn,by have:=h.wi.dsk.nl; omega,h.wi.dsk.nf,h.wi.dsk.file,by have:=h.wi.dsk.next; omega⟩
def WG (w:Wld):Prop:=SD w.store∧DD w.disk
theorem WD.wg {w:Wld} (h:WD w):WG w:=⟨h.sd,h.dd⟩
theorem WD.wg1 {w:Wld} (h:WD w) (n:Int):WG ⟨w.store,⟨w.disk.files,w.disk.list++[n],w.disk.names,w.disk.next⟩⟩:=⟨h.sd,h.dd.g,by have:=h.wi.dsk.nl; simp; omega,h.dd.nf,h.dd.file,h.dd.next⟩
theorem WD.wg2 {w:Wld} (h:WD w) {y:Int} {r:Row} (hy:0≤y∧y≤7) (hr:E4 r):WG ⟨⟨w.store.idx,w.store.parts,w.store.mem++[⟨y,r⟩]⟩,w.disk⟩:=⟨h.VW hy hr,h.dd⟩
theorem WD.wg3 {w:Wld} (h:WD w) {k j:Nat}:WG ⟨w.store,⟨(w.disk.files.take k).drop j,w.disk.list,w.disk.names,w.disk.next⟩⟩:=⟨h.sd,h.dd.g,h.dd.nl,by have:=h.dd.nf; rw [List.length_drop,List.length_take]; omega,fun f hf=>h.dd.file f (List.mem_of_mem_take (List.mem_of_mem_drop hf)),h.dd.next⟩
theorem WD.wg4 {w:Wld} (h:WD w) {n:List Tag} (hn:NmX n):WG ⟨w.store,⟨w.disk.files,w.disk.list,w.disk.names++[n],w.disk.next⟩⟩:=⟨h.sd,Rd h.wi.dsk.nm h.dn hn,h.dd.nl,h.dd.nf,h.dd.file,h.dd.next⟩
end Go.Proofs.YtganlmloonielaaGreat
namespace Go.Proofs.YtganlmloonielaaGreat
set_option maxRecDepth 100000
set_option maxHeartbeats 4000000
theorem CL  {w:World} {F:Nat→Prop} {b:Nat} {ad:Option Addr} {cd p:Nat} {D:List UInt8} (hr:Box w b 122 [.slice ad D.length cd,.int .i64 (p:Int)]) (hD:RepS w (nin all [b]) ad D.length cd D) (hp:p+3100≤1000000000)  : Calls Tryz.prog 49 [.pointer (some ⟨b,0,none⟩)].toArray w (As fun rv w'=>(∃ (y:Wld),(∃ (a0:Option Addr) (n0 c0:Nat) (a1:Option Addr) (n1 c1:Nat) (a2:Option Addr) (n2 c2:Nat) (r3 n3 c3:Nat) (a4:Option Addr) (n4 c4:Nat) (a5:Option Addr) (n5 c5:Nat) (a6:Option Addr) (n6 c6:Nat),rv=.agg #[.slice a0 n0 c0,.slice a1 n1 c1,.slice a2 n2 c2,.slice (some ⟨r3,0,none⟩) n3 c3,.slice a4 n4 c4,.slice a5 n5 c5,.slice a6 n6 c6,.int .i64 (y.disk.next)]∧RepS w' (nin (ge w.heap.size) [r3]) a0 n0 c0 (y.store.idx.names)∧RepS w' (nin (ge w.heap.size) [r3]) a1 n1 c1 (y.store.idx.AV)∧RepS w' (nin (ge w.heap.size) [r3]) a2 n2 c2 (y.store.parts)∧Own w' r3 107 (nin (ge w.heap.size) [r3]) n3 c3 (y.store.mem)∧w.heap.size≤r3∧RepS w' (nin (ge w.heap.size) [r3]) a4 n4 c4 (y.disk.files)∧RepS w' (nin (ge w.heap.size) [r3]) a5 n5 c5 (y.disk.list)∧RepS w' (nin (ge w.heap.size) [r3]) a6 n6 c6 (y.disk.names))∧(WG y))∧∃ p':Nat,p'≤p+3100∧Box w' b 122 [.slice ad D.length cd,.int .i64 (p':Int)]∧Chg (one b) w w'):=by
 refine goT Tryz.func49 ?_
 have f7:=hD.max
 refine .s<|.g<|.np 70 [.slice none 0 0,.slice none 0 0,.slice none 0 0,.slice none 0 0,.slice none 0 0,.slice none 0 0,.slice none 0 0,vI 0] fun am db bV b7 af eO=>?_
 have f8:=AS bV hr.lt
 have f9:Cov (one b) w am:=Bc bV (Nat.le_refl _)
 replace ⟨hD,hr⟩:=(sn [b] b7 bV).g2 hD hr
 have J:Chg (one b) w db:=Chg.Cc (Chg.refl (one b) w) b7
 refine .d<|.s<|.g<|.r 1<|.cl (KF hr (hD.BB AE) AB (w:=db) (F:=all)) ?_
 rintro hJ bA ⟨⟨ak,⟨hN,hO,rfl,-,⟨aO,hQ,aP,aQ,hV,aR,aS,hW,aT,ai,aK,aX,al,aH,aY,aj,aL,aZ,ah,aM,ba,rfl,aa,ab,ac,C,bd,ae,bB,eP,W,bg,de,eQ,E,bh,df,eR,dg⟩⟩,ga⟩,ia,gb,bi,b8⟩
 have aU:=al2 af.lt hr.lt
 have bc:Gb w.heap.size db.heap.size:=J.size
 have gf:=Ab bd hr.lt
 have eS:=Ab bd af.lt
 have bj:=Bd bd J.size
 have gh:Cov (one b) w ai:=BR bd J.size
 have gi:=Ab bB hr.lt
 have gj:=Ab bB af.lt
 have bk:=Bd bB J.size
 have eT:=Ab bg hr.lt
 have eU:=Ab bg af.lt
 have bm:=Bd bg J.size
 have gk:Cov (one b) w aj:=BR bg J.size
 have eV:=Ab bh hr.lt
 have eW:=Ab bh af.lt
 have bn:=Bd bh J.size
 have gl:Cov (one b) w ah:=BR bh J.size
 have dh:Mv [am,b] [ai,al,aj,ah,am,b] db bA:=Mv.cons (Mv.cons (Mv.cons (Mv.cons (Mv.on b8 AE) bh) bg) bB) bd
 replace ⟨hD,af,J⟩:=(sp dh b8).g3 hD af J
 replace aa:RepS bA (nin (ge w.heap.size) [ai,al,aj,ah,am,b]) _ _ _ _:=RepS.BC (s0:=w.heap.size) (M:=[am,b]) aa aU bc
 have gm:=aa.max
 replace ab:RepS bA (nin (ge w.heap.size) [ai,al,aj,ah,am,b]) _ _ _ _:=RepS.BC (s0:=w.heap.size) (M:=[am,b]) ab aU bc
 have gn:=ab.max
 replace ac:RepS bA (nin (ge w.heap.size) [ai,al,aj,ah,am,b]) _ _ _ _:=RepS.BC (s0:=w.heap.size) (M:=[am,b]) ac aU bc
 have gp:=ac.max
 replace C:Own bA ai 107 (nin (ge w.heap.size) [ai,al,aj,ah,am,b]) _ _ _:=Own.BC (s0:=w.heap.size) (M:=[am,b]) C aU bc
 have gq:=C.max
 have gr:=C.len
 replace ae:Own bA al 66 (nin (ge w.heap.size) [ai,al,aj,ah,am,b]) _ _ _:=Own.BC (s0:=w.heap.size) (M:=[am,b]) ae aU bc
 have gs:=ae.max
 have gt:=ae.len
 replace W:Own bA aj 3 (nin (ge w.heap.size) [ai,al,aj,ah,am,b]) _ _ _:=Own.BC (s0:=w.heap.size) (M:=[am,b]) W aU bc
 have gu:=W.max
 have gv:=W.len
 replace E:Own bA ah 77 (nin (ge w.heap.size) [ai,al,aj,ah,am,b]) _ _ _:=Own.BC (s0:=w.heap.size) (M:=[am,b]) E aU bc
 have fi:=E.max
 have fj:=E.len
 have dv:=aa.len
 subst dv
 have dw:=ab.len
 subst dw
 have dx:=ac.len
 subst dx
 refine .r 3<|.np 70 [.slice none 0 0,.slice none 0 0,.slice none 0 0,.slice none 0 0,.slice none 0 0,.slice none 0 0,.slice none 0 0,vI 0] fun ag gw aD b9 dy dz=>?_
 have bH:=AS aD bi.lt
 have fk:=AS aD af.lt
 have bq:=AS aD C.lt
 have bI:=AS aD ae.lt
 have br:=AS aD W.lt
 have bt:=AS aD E.lt
 have fm:=J.cn aD
 replace ⟨hD,bi,af,aa,ab,ac,C,ae,W,E,J⟩:=(sn [ai,al,aj,ah,am,b] b9 aD).g11 hD bi af aa ab ac C ae W E J
 refine .r 1<|.sc [.slice aO ak.store.idx.names.length aP,.slice aQ ak.store.idx.AV.length aR,.slice aS ak.store.parts.length aT,vS ai aK aX,vS al aH aY,vS aj aL aZ,vS ah aM ba,vI ak.disk.next] dy fun eX ce O dA=>?_
 replace ⟨hD,bi,af,aa,ab,ac,C,ae,W,E,J⟩:=(so [ag,ai,al,aj,ah,am,b] ce).g11 hD bi af aa ab ac C ae W E J
 refine .d<|.s<|.s<|.g<|.r 1<|.cl (AZ 40 bi (hD.BB AJ) AB (w:=eX) (F:=all)) ?_
 rintro gx aC ⟨⟨bW,rfl,fp⟩,cg,fq,ao,ci⟩
 replace ⟨hD,af,aa,ab,ac,C,ae,W,E,O,J⟩:=(so [ag,ai,al,aj,ah,am,b] ci).g11 hD af aa ab ac C ae W E O J
 refine .d<|.b 0<|.s<|.g<|.eq bW 0 (fun dB=>?_) (fun dB=>?_)
 ·refine .r 1<|.d<|.ct ?_
  replace hD:=hD.Ah
  replace aa:=aa.Ah
  replace ab:=ab.Ah
  replace ac:=ac.Ah
  have dC:Cov (mtb [ai,al,aj,ah,b] aC.heap.size) aC b:=⟨.inl (.inl AH)⟩
  have dD:Gb (ag+1) aC.heap.size:=O.lt
  refine .gd (mtb [ai,al,aj,ah,b] aC.heap.size) 7 fun gy cj=>?_
  replace ⟨hD,ao,af,aa,ab,ac,C,ae,W,E,O,J⟩:=(se [ag,ai,al,aj,ah,am,b] cj).g12 hD ao af aa ab ac C ae W E O J
  refine .r [0,1]<|.lb 2 O (Ax (all_cons bq (all_cons bI (all_cons br (all_cons bt (all_cons bH all_nil))))) dD)<|.r [3]<|.go 4<|.cl (fun dj bu=>AZ 6 (ao.ext bu) ((hD.BB AJ).ext bu) AB (w:=dj) (F:=all)) ?_
  intro dj bu
  replace ⟨hD,ao,af,aa,ab,ac,C,ae,W,E,O,J⟩:=(se [ag,ai,al,aj,ah,am,b] bu).g12 hD ao af aa ab ac C ae W E O J
  rintro gz gA ⟨⟨bX,rfl,ft⟩,eY,fu,aq,bJ⟩
  have hkeep_:=bJ
  replace ⟨hD,af,aa,ab,ac,C,ae,W,E,O,J⟩:=(so [ag,ai,al,aj,ah,am,b] bJ).g11 hD af aa ab ac C ae W E O J
  refine ⟨Chg.toS hkeep_ (Cov.toS dC),?_⟩
  refine GA.int (i:=5) (1+bX) AA AB<|.go 6<|.ns 1 3 [vI (1+bX)] fun gC ck=>?_
  replace ⟨hD,aq,af,aa,ab,ac,C,ae,W,E,O,J⟩:=(se [ag,ai,al,aj,ah,am,b] ck).g12 hD aq af aa ab ac C ae W E O J
  intro dm gD aE cm bK dE
  have dF:=AS aE aq.lt
  have dG:=AS aE af.lt
  have dH:=AS aE C.lt
  have dI:=AS aE ae.lt
  have co:=AS aE W.lt
  have dJ:=AS aE E.lt
  have dK:=AS aE O.lt
  have dL:=Ad aE J.size
  replace ⟨hD,aq,af,aa,ab,ac,C,ae,W,E,O,J⟩:=(se [ag,ai,al,aj,ah,am,b] cm).g12 hD aq af aa ab ac C ae W E O J
  refine .d fun gE bL=>?_
  replace ⟨hD,aq,af,aa,ab,ac,C,ae,W,E,O,bK⟩:=(se [ag,ai,al,aj,ah,am,b] bL).g12 hD aq af aa ab ac C ae W E O bK
  replace J:=(se [ag,ai,al,aj,ah,am,b] bL).g1 J
  replace hD:=hD.AU
  replace aa:=aa.AU
  replace ab:=ab.AU
  replace ac:=ac.AU
  have bZ:nin (ge w.heap.size) [ag,ai,al,aj,ah,am,b] dm∧dm≠aj:=BG dL (all_cons dK (all_cons dH (all_cons dI (all_cons co (all_cons dJ (all_cons dG (all_cons dF all_nil))))))) co
  refine RG.Ap (T:=24) (ty:=24) (y:=1+bX) W bK AA AA rfl bZ (by have q1:WD _:=‹_›; have q2:=q1.wi.dsk.nl; have q3:=q1.wi.dsk.nm.len; have q4:=q1.wi.sto.nm2; omega) fun aV cp gI aA ax cq=>?_
  have fv:=Ae ax eT aq.lt
  have fw:=Ae ax eU af.lt
  have fz:=Ae ax de C.lt
  have fA:=Ae ax eQ ae.lt
  have fB:=Ae ax (Nb.symm dg) E.lt
  have fC:=Ae ax (Nb.symm br) O.lt
  have dM:=Bt ax bm J.size
  replace ⟨hD,aq,af,aa,ab,ac,C,ae,E,O,J⟩:=(sa [ag,ai,al,aj,ah,am,b] cq ax).g11 hD aq af aa ab ac C ae E O J
  replace aA:=aA.rn aj
  have fD:=aA.len; have fE:=aA.max
  refine .r 2<|.ss 5 (vS aV (aL+1) cp) O fun gJ cr dN dO=>?_
  replace ⟨hD,aq,af,aa,ab,ac,C,ae,aA,E,J⟩:=(so [ag,ai,al,aV,ah,am,b] cr).g11 hD aq af aa ab ac C ae aA E J
  refine .d<|.ib 0<|.s<|.g<|.ln dN<|.sc [.slice aO ak.store.idx.names.length aP,.slice aQ ak.store.idx.AV.length aR,.slice aS ak.store.parts.length aT,vS ai aK aX,vS al aH aY,vS aV (aL+1) cp,vS ah aM ba,vI ak.disk.next] af fun cu cv dP dQ=>?_
  replace ⟨hD,aq,aa,ab,ac,C,ae,aA,E,J⟩:=(so [ag,ai,al,aV,ah,am,b] cv).g10 hD aq aa ab ac C ae aA E J
  refine .d ?_
  have bC:=ae.sl bk
  replace ⟨hD,aa,ab,ac,C,aA,E⟩:=(sd cu [ag,ai,al,aV,ah,am,b] al).g7 hD aa ab ac C aA E
  have cw:=aA.sl dM
  replace ⟨hD,aa,ab,ac,C,bC,E⟩:=(sd cu [ag,ai,aV,ah,am,b] aV).g7 hD aa ab ac C bC E
  have eZ:=E.sl bn
  replace ⟨hD,aa,ab,ac,C,bC,cw⟩:=(sd cu [ag,ai,ah,am,b] ah).g7 hD aa ab ac C bC cw
  exact .rb Tryz.func49 Tryz.results49 dP ⟨⟨((⟨(⟨(⟨ak.store.idx.names,ak.store.idx.AV⟩:Idx),ak.store.parts,ak.store.mem⟩:Sto),(⟨ak.disk.files,(ak.disk.list++[1+bX]),ak.disk.names,ak.disk.next⟩:Dsk)⟩:Wld):Wld),⟨aO,ak.store.idx.names.length,aP,aQ,ak.store.idx.AV.length,aR,aS,ak.store.parts.length,aT,ai,aK,aX,(some ⟨al,0,none⟩),aH,aY,(some ⟨aV,0,none⟩),(aL+1),cp,(some ⟨ah,0,none⟩),aM,ba,rfl,((RepS.BI aa (all_cons AE all_nil)).eqx (by rfl)),((RepS.BI ab (all_cons AE all_nil)).eqx (by rfl)),((RepS.BI ac (all_cons AE all_nil)).eqx (by rfl)),((Own.BI C (all_cons AE all_nil)).eqx (by rfl)),bj,((RepS.BI bC (all_cons AE all_nil)).eqx (by rfl)),((RepS.BI cw (all_cons AE all_nil)).eqx (by rfl)),((RepS.BI eZ (all_cons AE all_nil)).eqx (by rfl))⟩,(by have q1:WD _:=‹_›; exact q1.wg1 _)⟩,eY,by omega,aq,J⟩
 refine .r 1<|.d<|.cf<|.s<|.g<|.eq bW 1 (fun dR=>?_) (fun dR=>?_)
 ·refine .r 1<|.d<|.ct ?_
  replace hD:=hD.Ah
  replace aa:=aa.Ah
  replace ab:=ab.Ah
  replace ac:=ac.Ah
  have cx:Cov (mtb [ai,al,aj,ah,b] aC.heap.size) aC b:=⟨.inl (.inl AH)⟩
  have dS:Gb (ag+1) aC.heap.size:=O.lt
  refine .gd (mtb [ai,al,aj,ah,b] aC.heap.size) 10 fun gK cy=>?_
  replace ⟨hD,ao,af,aa,ab,ac,C,ae,W,E,O,J⟩:=(se [ag,ai,al,aj,ah,am,b] cy).g12 hD ao af aa ab ac C ae W E O J
  refine .r [0,1]<|.lb 2 O (Ax (all_cons bq (all_cons bI (all_cons br (all_cons bt (all_cons bH all_nil))))) dS)<|.r [3,6]<|.go 4<|.cl (fun dp bv=>AZ 7 (ao.ext bv) ((hD.BB AJ).ext bv) AB (w:=dp) (F:=all)) ?_
  intro dp bv
  replace ⟨hD,ao,af,aa,ab,ac,C,ae,W,E,O,J⟩:=(se [ag,ai,al,aj,ah,am,b] bv).g12 hD ao af aa ab ac C ae W E O J
  rintro gL gM ⟨⟨bY,rfl,fF⟩,gN,fG,dT,bM⟩
  have hkeep_:=bM
  replace ⟨hD,af,aa,ab,ac,C,ae,W,E,O,J⟩:=(so [ag,ai,al,aj,ah,am,b] bM).g11 hD af aa ab ac C ae W E O J
  refine ⟨Chg.toS hkeep_ (Cov.toS cx),?_⟩
  refine GA.int (i:=5) (1+bY) AA AB<|.go 7<|.cl (fun dq bw=>EU (dT.ext bw) ((hD.BB AJ).ext bw) AB (w:=dq) (F:=all)) ?_
  intro dq bw
  replace ⟨hD,af,aa,ab,ac,C,ae,W,E,O,J⟩:=(se [ag,ai,al,aj,ah,am,b] bw).g11 hD af aa ab ac C ae W E O J
  rintro gO gP ⟨⟨bo,⟨_,rfl,rfl⟩,fH⟩,e7,fI,av,bN⟩
  have hkeep_:=bN
  replace ⟨hD,af,aa,ab,ac,C,ae,W,E,O,J⟩:=(so [ag,ai,al,aj,ah,am,b] bN).g11 hD af aa ab ac C ae W E O J
  refine ⟨Chg.toS hkeep_ (Cov.toS cx),?_⟩
  refine .r [8]<|.go 9<|.ns 1 107 [vI (1+bY),vI bo.t,vI bo.v] fun gQ cz=>?_
  replace ⟨hD,av,af,aa,ab,ac,C,ae,W,E,O,J⟩:=(se [ag,ai,al,aj,ah,am,b] cz).g12 hD av af aa ab ac C ae W E O J
  intro dr gR aF cA bO dU
  have dV:=AS aF av.lt
  have dW:=AS aF af.lt
  have cB:=AS aF C.lt
  have dX:=AS aF ae.lt
  have dY:=AS aF W.lt
  have dZ:=AS aF E.lt
  have d0:=AS aF O.lt
  have d3:=Ad aF J.size
  replace ⟨hD,av,af,aa,ab,ac,C,ae,W,E,O,J⟩:=(se [ag,ai,al,aj,ah,am,b] cA).g12 hD av af aa ab ac C ae W E O J
  refine .d fun gS bP=>?_
  replace ⟨hD,av,af,aa,ab,ac,C,ae,W,E,O,bO⟩:=(se [ag,ai,al,aj,ah,am,b] bP).g12 hD av af aa ab ac C ae W E O bO
  replace J:=(se [ag,ai,al,aj,ah,am,b] bP).g1 J
  replace hD:=hD.AU
  replace aa:=aa.AU
  replace ab:=ab.AU
  replace ac:=ac.AU
  have b0:nin (ge w.heap.size) [ag,ai,al,aj,ah,am,b] dr∧dr≠ai:=BG d3 (all_cons d0 (all_cons cB (all_cons dX (all_cons dY (all_cons dZ (all_cons dW (all_cons dV all_nil))))))) cB
  refine RG.Ap (T:=32) (ty:=32) (y:=(⟨1+bY,(⟨bo.t,bo.v⟩:Row)⟩:Smp)) C bO AA AA rfl b0 (by have q1:WD _:=‹_›; have q2:=q1.wi.dsk.nl; have q3:=q1.wi.dsk.nm.len; have q4:=q1.wi.sto.nm2; omega) fun aW cC gT ar aB cD=>?_
  have fJ:=Ae aB eS af.lt
  have fK:=Ae aB (Nb.symm eP) ae.lt
  have fL:=Ae aB (Nb.symm de) W.lt
  have fM:=Ae aB (Nb.symm df) E.lt
  have fN:=Ae aB (Nb.symm bq) O.lt
  have d4:=Bt aB bj J.size
  replace ⟨hD,av,af,aa,ab,ac,ae,W,E,O,J⟩:=(sa [ag,ai,al,aj,ah,am,b] cD aB).g11 hD av af aa ab ac ae W E O J
  replace ar:=ar.rn ai
  have fO:=ar.len; have fP:=ar.max
  refine .r 2<|.ss 3 (vS aW (aK+1) cC) O fun gU cE d5 d6=>?_
  replace ⟨hD,av,af,aa,ab,ac,ar,ae,W,E,J⟩:=(so [ag,aW,al,aj,ah,am,b] cE).g11 hD av af aa ab ac ar ae W E J
  refine .d<|.ib 0<|.s<|.g<|.ln d5<|.sc [.slice aO ak.store.idx.names.length aP,.slice aQ ak.store.idx.AV.length aR,.slice aS ak.store.parts.length aT,vS aW (aK+1) cC,vS al aH aY,vS aj aL aZ,vS ah aM ba,vI ak.disk.next] af fun cF cG d7 d8=>?_
  replace ⟨hD,av,aa,ab,ac,ar,ae,W,E,J⟩:=(so [ag,aW,al,aj,ah,am,b] cG).g10 hD av aa ab ac ar ae W E J
  refine .d ?_
  have bD:=ae.sl bk
  replace ⟨hD,aa,ab,ac,ar,W,E⟩:=(sd cF [ag,aW,al,aj,ah,am,b] al).g7 hD aa ab ac ar W E
  have cH:=W.sl bm
  replace ⟨hD,aa,ab,ac,ar,bD,E⟩:=(sd cF [ag,aW,aj,ah,am,b] aj).g7 hD aa ab ac ar bD E
  have e8:=E.sl bn
  replace ⟨hD,aa,ab,ac,ar,bD,cH⟩:=(sd cF [ag,aW,ah,am,b] ah).g7 hD aa ab ac ar bD cH
  exact .rb Tryz.func49 Tryz.results49 d7 ⟨⟨((⟨(⟨(⟨ak.store.idx.names,ak.store.idx.AV⟩:Idx),ak.store.parts,(ak.store.mem++[(⟨1+bY,(⟨bo.t,bo.v⟩:Row)⟩:Smp)])⟩:Sto),(⟨ak.disk.files,ak.disk.list,ak.disk.names,ak.disk.next⟩:Dsk)⟩:Wld):Wld),⟨aO,ak.store.idx.names.length,aP,aQ,ak.store.idx.AV.length,aR,aS,ak.store.parts.length,aT,aW,(aK+1),cC,(some ⟨al,0,none⟩),aH,aY,(some ⟨aj,0,none⟩),aL,aZ,(some ⟨ah,0,none⟩),aM,ba,rfl,((RepS.BI aa (all_cons AE all_nil)).eqx (by rfl)),((RepS.BI ab (all_cons AE all_nil)).eqx (by rfl)),((RepS.BI ac (all_cons AE all_nil)).eqx (by rfl)),((Own.BI ar (all_cons AE all_nil)).eqx (by rfl)),d4,((RepS.BI bD (all_cons AE all_nil)).eqx (by rfl)),((RepS.BI cH (all_cons AE all_nil)).eqx (by rfl)),((RepS.BI e8 (all_cons AE all_nil)).eqx (by rfl))⟩,(by have q1:WD _:=‹_›; exact q1.wg2 AB ‹_›)⟩,e7,by omega,av,J⟩
 refine .r 1<|.d<|.cf<|.s<|.g<|.eq bW 2 (fun d9=>?_) (fun d9=>?_)
 ·refine .r 1<|.d<|.ct<|.s<|.g<|.r 2<|.lb O<|.r 1<|.bp ((aH:Int) > 0) (fun ec=>?_) (fun ec=>?_)
  ·refine .d<|.ct<|.g<|.r 2<|.lb O ?_
   have fa:=ae.sl bk
   replace ⟨hD,aa,ab,ac,C,W,E⟩:=(sd aC [ag,ai,al,aj,ah,am,b] al).g7 hD aa ab ac C W E
   refine RG.sub (t:=23) (lo:=some (vI 1)) (hi:=none) fa 1 aH AA AA (.inr ⟨_,_,rfl,by omega⟩) (.inl ⟨rfl,rfl⟩) AB AB fun cI cJ aI=>?_
   have fQ:=aI.len; have fR:=aI.max
   refine .r 2<|.ss 4 (.slice cI (aH - 1) cJ) O fun gV cK ed ee=>?_
   replace ⟨hD,ao,af,aa,ab,ac,C,W,E,aI,J⟩:=(so [ag,ai,aj,ah,am,b] cK).g11 hD ao af aa ab ac C W E aI J
   refine .d<|.ib 0<|.s<|.g<|.ln ed<|.sc [.slice aO ak.store.idx.names.length aP,.slice aQ ak.store.idx.AV.length aR,.slice aS ak.store.parts.length aT,vS ai aK aX,.slice cI (aH - 1) cJ,vS aj aL aZ,vS ah aM ba,vI ak.disk.next] af fun dt cL ef eg=>?_
   replace ⟨hD,ao,aa,ab,ac,C,W,E,aI,J⟩:=(so [ag,ai,aj,ah,am,b] cL).g10 hD ao aa ab ac C W E aI J
   refine .d ?_
   have cM:=W.sl bm
   replace ⟨hD,aa,ab,ac,C,E,aI⟩:=(sd dt [ag,ai,aj,ah,am,b] aj).g7 hD aa ab ac C E aI
   have fb:=E.sl bn
   replace ⟨hD,aa,ab,ac,C,cM,aI⟩:=(sd dt [ag,ai,ah,am,b] ah).g7 hD aa ab ac C cM aI
   exact .rb Tryz.func49 Tryz.results49 ef ⟨⟨((⟨(⟨(⟨ak.store.idx.names,ak.store.idx.AV⟩:Idx),ak.store.parts,ak.store.mem⟩:Sto),(⟨((ak.disk.files.take aH).drop 1),ak.disk.list,ak.disk.names,ak.disk.next⟩:Dsk)⟩:Wld):Wld),⟨aO,ak.store.idx.names.length,aP,aQ,ak.store.idx.AV.length,aR,aS,ak.store.parts.length,aT,ai,aK,aX,cI,(aH - 1),cJ,(some ⟨aj,0,none⟩),aL,aZ,(some ⟨ah,0,none⟩),aM,ba,rfl,((RepS.BI aa (all_cons AE all_nil)).eqx (by rfl)),((RepS.BI ab (all_cons AE all_nil)).eqx (by rfl)),((RepS.BI ac (all_cons AE all_nil)).eqx (by rfl)),((Own.BI C (all_cons AE all_nil)).eqx (by rfl)),bj,((RepS.BI aI (all_cons AE all_nil)).eqx (by rfl)),((RepS.BI cM (all_cons AE all_nil)).eqx (by rfl)),((RepS.BI fb (all_cons AE all_nil)).eqx (by rfl))⟩,(by have q1:WD _:=‹_›; exact q1.wg3)⟩,cg,by omega,ao,J⟩
  refine .d<|.cf<|.sk<|.ib 0<|.s<|.g<|.ln O<|.sc [.slice aO ak.store.idx.names.length aP,.slice aQ ak.store.idx.AV.length aR,.slice aS ak.store.parts.length aT,vS ai aK aX,vS al aH aY,vS aj aL aZ,vS ah aM ba,vI ak.disk.next] af fun cN cO eh ej=>?_
  replace ⟨hD,ao,aa,ab,ac,C,ae,W,E,O,J⟩:=(so [ag,ai,al,aj,ah,am,b] cO).g11 hD ao aa ab ac C ae W E O J
  refine .d ?_
  have bE:=ae.sl bk
  replace ⟨hD,aa,ab,ac,C,W,E⟩:=(sd cN [ag,ai,al,aj,ah,am,b] al).g7 hD aa ab ac C W E
  have cP:=W.sl bm
  replace ⟨hD,aa,ab,ac,C,bE,E⟩:=(sd cN [ag,ai,aj,ah,am,b] aj).g7 hD aa ab ac C bE E
  have fc:=E.sl bn
  replace ⟨hD,aa,ab,ac,C,bE,cP⟩:=(sd cN [ag,ai,ah,am,b] ah).g7 hD aa ab ac C bE cP
  exact .rb Tryz.func49 Tryz.results49 eh ⟨⟨(ak:Wld),⟨aO,ak.store.idx.names.length,aP,aQ,ak.store.idx.AV.length,aR,aS,ak.store.parts.length,aT,ai,aK,aX,(some ⟨al,0,none⟩),aH,aY,(some ⟨aj,0,none⟩),aL,aZ,(some ⟨ah,0,none⟩),aM,ba,rfl,((RepS.BI aa (all_cons AE all_nil)).eqx (by rfl)),((RepS.BI ab (all_cons AE all_nil)).eqx (by rfl)),((RepS.BI ac (all_cons AE all_nil)).eqx (by rfl)),((Own.BI C (all_cons AE all_nil)).eqx (by rfl)),bj,((RepS.BI bE (all_cons AE all_nil)).eqx (by rfl)),((RepS.BI cP (all_cons AE all_nil)).eqx (by rfl)),((RepS.BI fc (all_cons AE all_nil)).eqx (by rfl))⟩,(by have q1:WD _:=‹_›; exact q1.wg)⟩,cg,by omega,ao,J⟩
 refine .r 1<|.d<|.cf<|.s<|.g<|.eq bW 3 (fun ek=>?_) (fun ek=>?_)
 ·refine .r 1<|.d<|.ct ?_
  replace hD:=hD.Ah
  replace aa:=aa.Ah
  replace ab:=ab.Ah
  replace ac:=ac.Ah
  have en:Cov (mtb [ai,al,aj,ah,b] aC.heap.size) aC b:=⟨.inl (.inl AH)⟩
  have et:Gb (ag+1) aC.heap.size:=O.lt
  refine .gd (mtb [ai,al,aj,ah,b] aC.heap.size) 6 fun gW cQ=>?_
  replace ⟨hD,ao,af,aa,ab,ac,C,ae,W,E,O,J⟩:=(se [ag,ai,al,aj,ah,am,b] cQ).g12 hD ao af aa ab ac C ae W E O J
  refine .r [0,1]<|.lb 2 O (Ax (all_cons bq (all_cons bI (all_cons br (all_cons bt (all_cons bH all_nil))))) et)<|.r [3]<|.go 4<|.cl (fun cR bz=>GY (ao.ext bz) ((hD.BB AJ).ext bz) AB (w:=cR) (F:=all)) ?_
  intro cR bz
  replace ⟨hD,ao,af,aa,ab,ac,C,ae,W,E,O,J⟩:=(se [ag,ai,al,aj,ah,am,b] bz).g12 hD ao af aa ab ac C ae W E O J
  rintro gX gY ⟨⟨cS,⟨fd,fe,rfl,aJ⟩,fS⟩,ff,fT,au,bQ⟩
  have cT:=al7 O.lt C.lt ae.lt W.lt E.lt af.lt ao.lt
  have ey:Gb w.heap.size cR.heap.size:=J.size
  have hkeep_:=bQ
  replace ⟨hD,af,aa,ab,ac,C,ae,W,E,O,J⟩:=(so [ag,ai,al,aj,ah,am,b] bQ).g11 hD af aa ab ac C ae W E O J
  refine ⟨Chg.toS hkeep_ (Cov.toS en),?_⟩
  have aJ:=aJ.fr cT ey
  have fU:=aJ.max
  refine .go 5<|.ns 1 77 [.slice fd cS.length fe] fun gZ bR=>?_
  replace ⟨hD,au,af,aa,ab,ac,C,ae,W,E,O,aJ⟩:=(se [ag,ai,al,aj,ah,am,b] bR).g12 hD au af aa ab ac C ae W E O aJ
  replace J:=(se [ag,ai,al,aj,ah,am,b] bR).g1 J
  intro du g0 aG bS bT ez
  have eA:=AS aG au.lt
  have eB:=AS aG af.lt
  have eC:=AS aG C.lt
  have eD:=AS aG ae.lt
  have eE:=AS aG W.lt
  have cU:=AS aG E.lt
  have eF:=AS aG O.lt
  have eG:=Ad aG J.size
  replace ⟨hD,au,af,aa,ab,ac,C,ae,W,E,O,aJ⟩:=(se [ag,ai,al,aj,ah,am,b] bS).g12 hD au af aa ab ac C ae W E O aJ
  replace J:=(se [ag,ai,al,aj,ah,am,b] bS).g1 J
  refine .d fun hC bU=>?_
  replace ⟨hD,au,af,aa,ab,ac,C,ae,W,E,O,aJ⟩:=(se [ag,ai,al,aj,ah,am,b] bU).g12 hD au af aa ab ac C ae W E O aJ
  replace ⟨bT,J⟩:=(se [ag,ai,al,aj,ah,am,b] bU).g2 bT J
  replace hD:=hD.AU
  replace aa:=aa.AU
  replace ab:=ab.AU
  replace ac:=ac.AU
  have b6:nin (ge w.heap.size) [ag,ai,al,aj,ah,am,b] du∧du≠ah:=BG eG (all_cons eF (all_cons eC (all_cons eD (all_cons eE (all_cons cU (all_cons eB (all_cons eA all_nil))))))) cU
  refine RG.Ap (T:=25) (ty:=25) (y:=cS) E bT AA AA ⟨_,_,_,rfl,aJ.oi⟩ b6 (by have q1:WD _:=‹_›; have q2:=q1.wi.dsk.nl; have q3:=q1.wi.dsk.nm.len; have q4:=q1.wi.sto.nm2; omega) fun aN cV hE aw ay cW=>?_
  have fV:=Ae ay eV au.lt
  have fW:=Ae ay eW af.lt
  have fX:=Ae ay df C.lt
  have fY:=Ae ay eR ae.lt
  have fZ:=Ae ay dg W.lt
  have f0:=Ae ay (Nb.symm bt) O.lt
  have eH:=Bt ay bn J.size
  replace ⟨hD,au,af,aa,ab,ac,C,ae,W,O,J⟩:=(sa [ag,ai,al,aj,ah,am,b] cW ay).g11 hD au af aa ab ac C ae W O J
  replace aw:=aw.rn ah
  have f5:=aw.len; have f6:=aw.max
  refine .r 2<|.ss 6 (vS aN (aM+1) cV) O fun hH cX eI eJ=>?_
  replace ⟨hD,au,af,aa,ab,ac,C,ae,W,aw,J⟩:=(so [ag,ai,al,aj,aN,am,b] cX).g11 hD au af aa ab ac C ae W aw J
  refine .d<|.ib 0<|.s<|.g<|.ln eI<|.sc [.slice aO ak.store.idx.names.length aP,.slice aQ ak.store.idx.AV.length aR,.slice aS ak.store.parts.length aT,vS ai aK aX,vS al aH aY,vS aj aL aZ,vS aN (aM+1) cV,vI ak.disk.next] af fun cY cZ eK eL=>?_
  replace ⟨hD,au,aa,ab,ac,C,ae,W,aw,J⟩:=(so [ag,ai,al,aj,aN,am,b] cZ).g10 hD au aa ab ac C ae W aw J
  refine .d ?_
  have bF:=ae.sl bk
  replace ⟨hD,aa,ab,ac,C,W,aw⟩:=(sd cY [ag,ai,al,aj,aN,am,b] al).g7 hD aa ab ac C W aw
  have c7:=W.sl bm
  replace ⟨hD,aa,ab,ac,C,bF,aw⟩:=(sd cY [ag,ai,aj,aN,am,b] aj).g7 hD aa ab ac C bF aw
  have fg:=aw.sl eH
  replace ⟨hD,aa,ab,ac,C,bF,c7⟩:=(sd cY [ag,ai,aN,am,b] aN).g7 hD aa ab ac C bF c7
  exact .rb Tryz.func49 Tryz.results49 eK ⟨⟨((⟨(⟨(⟨ak.store.idx.names,ak.store.idx.AV⟩:Idx),ak.store.parts,ak.store.mem⟩:Sto),(⟨ak.disk.files,ak.disk.list,(ak.disk.names++[cS]),ak.disk.next⟩:Dsk)⟩:Wld):Wld),⟨aO,ak.store.idx.names.length,aP,aQ,ak.store.idx.AV.length,aR,aS,ak.store.parts.length,aT,ai,aK,aX,(some ⟨al,0,none⟩),aH,aY,(some ⟨aj,0,none⟩),aL,aZ,(some ⟨aN,0,none⟩),(aM+1),cV,rfl,((RepS.BI aa (all_cons AE all_nil)).eqx (by rfl)),((RepS.BI ab (all_cons AE all_nil)).eqx (by rfl)),((RepS.BI ac (all_cons AE all_nil)).eqx (by rfl)),((Own.BI C (all_cons AE all_nil)).eqx (by rfl)),bj,((RepS.BI bF (all_cons AE all_nil)).eqx (by rfl)),((RepS.BI c7 (all_cons AE all_nil)).eqx (by rfl)),((RepS.BI fg (all_cons AE all_nil)).eqx (by rfl))⟩,(by have q1:WD _:=‹_›; exact q1.wg4 ‹_›)⟩,ff,by omega,au,J⟩
 refine .r 1<|.d<|.cf<|.sk<|.ib 0<|.s<|.g<|.ln O<|.sc [.slice aO ak.store.idx.names.length aP,.slice aQ ak.store.idx.AV.length aR,.slice aS ak.store.parts.length aT,vS ai aK aX,vS al aH aY,vS aj aL aZ,vS ah aM ba,vI ak.disk.next] af fun c8 c9 eM eN=>?_
 replace ⟨hD,ao,aa,ab,ac,C,ae,W,E,J⟩:=(so [ag,ai,al,aj,ah,am,b] c9).g10 hD ao aa ab ac C ae W E J
 refine .d ?_
 have bG:=ae.sl bk
 replace ⟨hD,aa,ab,ac,C,W,E⟩:=(sd c8 [ag,ai,al,aj,ah,am,b] al).g7 hD aa ab ac C W E
 have da:=W.sl bm
 replace ⟨hD,aa,ab,ac,C,bG,E⟩:=(sd c8 [ag,ai,aj,ah,am,b] aj).g7 hD aa ab ac C bG E
 have fh:=E.sl bn
 replace ⟨hD,aa,ab,ac,C,bG,da⟩:=(sd c8 [ag,ai,ah,am,b] ah).g7 hD aa ab ac C bG da
 exact .rb Tryz.func49 Tryz.results49 eM ⟨⟨(ak:Wld),⟨aO,ak.store.idx.names.length,aP,aQ,ak.store.idx.AV.length,aR,aS,ak.store.parts.length,aT,ai,aK,aX,(some ⟨al,0,none⟩),aH,aY,(some ⟨aj,0,none⟩),aL,aZ,(some ⟨ah,0,none⟩),aM,ba,rfl,((RepS.BI aa (all_cons AE all_nil)).eqx (by rfl)),((RepS.BI ab (all_cons AE all_nil)).eqx (by rfl)),((RepS.BI ac (all_cons AE all_nil)).eqx (by rfl)),((Own.BI C (all_cons AE all_nil)).eqx (by rfl)),bj,((RepS.BI bG (all_cons AE all_nil)).eqx (by rfl)),((RepS.BI da (all_cons AE all_nil)).eqx (by rfl)),((RepS.BI fh (all_cons AE all_nil)).eqx (by rfl))⟩,(by have q1:WD _:=‹_›; exact q1.wg)⟩,cg,by omega,ao,J⟩
end Go.Proofs.YtganlmloonielaaGreat
namespace Go.Proofs.YtganlmloonielaaGreat
theorem RG.b2s {P:Program} {n:Nat} {K:Env→World→Prop} {ops:Array Oper} {j:Nat} {e:Env} {w:World} {s d:TypeId} {r c:Nat} {y:UInt8} {t:TypeId} {F:Nat→Prop}
 (ho:Own w r t F 1 c [y]) (h:Qg n ops j e=some (s,d,.slice (some ⟨r,0,none⟩) 1 c)) (ht:Sf P s d=true)
 (H:RG P n K ops (j+1) (BL e (An ops j).dst (.string (bs [y]))) w):RG P n K ops j e w:=by
 obtain ⟨cs,h1,h2⟩:=ho.elem 0 y rfl
 cases h1
 have h3:Has w ⟨r,0,none⟩ [.int .u8 (y.toNat:Int)]:=by simpa using h2
 have h4:=Ij (P:=P) (w:=w) h (KD h3 ht)
 exact RG.val h4.1 h4.2 H
theorem TO {n:Int} (h:0≤n∧n≤255):∃ y:UInt8,(y.toNat:Int)=n:=by
 refine ⟨UInt8.ofNat n.toNat,?_⟩
 rw [UInt8.toNat_ofNat']
 omega
theorem Pw {n:Int} {y:UInt8} (h:(y.toNat:Int)=n):Value.int .u8 (IntKind.u8.wrap n)=Value.int .u8 (y.toNat:Int):=by
 have:=UInt8.toNat_lt y
 rw [← h,IntWalk.u8_in _ AB]
def FA (n:Int):Int:=if n< 0 then -2 * n - 1 else 2 * n
theorem Re {n m:Int} (h:-m≤n∧n≤m) (hm:0≤m):0≤FA n∧FA n≤2 * m:=by unfold FA; split <;> omega
theorem O2 {n:Int} (h:-10000≤n∧n≤10000):0≤FA n∧FA n≤1000000:=by have:=Re h AB; omega
theorem Vm {r:Row} (h:Bw r=true):-1000≤r.t∧r.t≤1000:=by have:=Jo h; omega
theorem Vn {r:Row} (h:Bw r=true):-1000≤r.v∧r.v≤1000:=by have:=OZ h; omega
theorem Ty {a b:Bool} (h:(a&&b)=true):b=true:=by cases a <;> simp_all
theorem NB {z:Int} (h:0≤z):0≤Int.tdiv z 128∧Int.tdiv z 128 * 128≤z∧0≤Int.tmod z 128∧Int.tmod z 128< 128:=by
 obtain ⟨k,rfl⟩:∃ k:Nat,z=k:=⟨z.toNat,by omega⟩
 have e:Int.tdiv (k:Int) 128=((k / 128:Nat):Int):=rfl
 have e2:Int.tmod (k:Int) 128=((k % 128:Nat):Int):=rfl
 rw [e,e2]
 omega
theorem Kb:∀ (fs:List Fil) (nx:Int) (o:Option Int),DG nx o fs=true→∀ f∈fs,1≤f.num∧f.num≤nx - 1∧Au f.part=true:=by
 intro fs
 induction fs with
 | nil=>intro nx o _ f hf; cases hf
 | cons x xs ih =>
   intro nx o h f hf
   unfold DG at h
   simp only [AR] at h
   rcases List.mem_cons.1 hf with rfl | hf
   ·have:=CN h.1.1.1
    exact ⟨this.1,this.2,h.1.2⟩
   ·exact ih nx _ h.2 f hf
theorem CU {d:Dsk} (h:Af d=true):(1≤d.next∧d.next≤999)∧d.list.length≤6∧DG d.next none d.files=true∧DZ d=true:=by
 unfold Af at h
 simp only [AR,decide_eq_true_eq] at h
 exact ⟨CN h.1.1.1.1.1,h.1.1.1.2,h.1.1.2,h.1.2⟩
theorem Rf:(FZ 0 [] []).length≤12:=by decide
theorem Rg:DD ⟨[],[],[],0⟩:=⟨⟨by simp,NsD.nil,Rf⟩,by simp,by simp,by simp,by simp⟩
end Go.Proofs.YtganlmloonielaaGreat
namespace Go.Proofs.YtganlmloonielaaGreat
set_option maxRecDepth 100000
set_option maxHeartbeats 4000000
theorem IG (n:Int) {w:World} {F:Nat→Prop}  (p0:-1000000≤n∧n≤1000000):Calls Tryz.prog 173 [.int .i64 n].toArray w (As fun rv w'=>rv=.int .i64 (FA n)∧Ext w w'):=by
 exact goT Tryz.func173<|.s<|.g<|.r 1<|.d<|.s<|.s<|.g<|.r 1<|.bp (n< 0) (fun C=>.d<|.ct<|.s<|.g<|.r 1<|.it ((-2) * n)<|.it (((-2) * n) - 1)<|.r 1<|.d<|.rt Tryz.func173 Tryz.results173 (vI (((-2) * n) - 1)) ⟨(congrArg (Value.int .i64) (by unfold FA; (rw [if_pos ‹_›]; done))),(Chg.refl _ _)⟩) fun C=>.d<|.cf<|.sk<|.s<|.g<|.r 1<|.it (2 * n)<|.r 1<|.d<|.rt Tryz.func173 Tryz.results173 (vI (2 * n)) ⟨(congrArg (Value.int .i64) (by unfold FA; (rw [if_neg ‹_›]; done))),(Chg.refl _ _)⟩
end Go.Proofs.YtganlmloonielaaGreat
namespace Go.Proofs.YtganlmloonielaaGreat
def D9 (z:Nat):Str:=if h:z< 128 then [UInt8.ofNat z] else UInt8.ofNat (z % 128+128)::D9 (z / 128)
termination_by z
decreasing_by omega
theorem I4 {z:Nat} (h:z< 128):D9 z=[UInt8.ofNat z]:=by rw [D9,dif_pos h]
theorem HX {z:Nat} (h:¬ z< 128):D9 z=UInt8.ofNat (z % 128+128)::D9 (z / 128):=by rw [D9,dif_neg h]
theorem ND (z:Nat):0< (D9 z).length:=by rw [D9]; split <;> simp
theorem I5 {z:Nat} (h:z< 128):(D9 z).length=1:=by rw [I4 h]; rfl
theorem LP {z:Nat} (h:z< 16384):(D9 z).length≤2:=by
 by_cases h1:z< 128
 ·rw [I5 h1]; omega
 ·rw [HX h1,List.length_cons,I5 AB]; omega
theorem NE {z:Nat} (h:z< 2097152):(D9 z).length≤3:=by
 by_cases h1:z< 128
 ·rw [I5 h1]; omega
 ·rw [HX h1,List.length_cons]
  have:=LP (z:=z / 128) AB
  omega
theorem ofNat_inj {a b:Nat} (ha:a< 256) (hb:b< 256) (h:UInt8.ofNat a=UInt8.ofNat b):a=b:=by
 have:=congrArg UInt8.toNat h
 rw [UInt8.toNat_ofNat',UInt8.toNat_ofNat'] at this
 omega
theorem Rh:∀ (z y:Nat) (r s:Str),D9 z++r=D9 y++s→z=y∧r=s:=by
 intro z
 induction z using Nat.strongRecOn with
 | ind z ih =>
   intro y r s h
   by_cases h1:z< 128
   ·by_cases h2:y< 128
    ·rw [I4 h1,I4 h2] at h
     simp only [List.cons_append,List.nil_append,List.cons.injEq] at h
     exact ⟨ofNat_inj AB AB h.1,h.2⟩
    ·rw [I4 h1,HX h2] at h
     simp only [List.cons_append,List.nil_append,List.cons.injEq] at h
     have:=ofNat_inj AB AB h.1
     omega
   ·by_cases h2:y< 128
    ·rw [HX h1,I4 h2] at h
     simp only [List.cons_append,List.nil_append,List.cons.injEq] at h
     have:=ofNat_inj AB AB h.1
     omega
    ·rw [HX h1,HX h2] at h
     simp only [List.cons_append,List.cons.injEq] at h
     have e:=ofNat_inj AB AB h.1
     obtain ⟨e2,e3⟩:=ih (z / 128) AB (y / 128) r s h.2
     exact ⟨by omega,e3⟩
theorem TP {out:Str} {z y:Int} {Y:Str} (h:out++D9 z.toNat=Y) (hz:z≥128) (hy:y=Int.tmod z 128+128):(out++[UInt8.ofNat y.toNat])++D9 (Int.tdiv z 128).toNat=Y:=by
 obtain ⟨k,rfl⟩:∃ k:Nat,z=k:=⟨z.toNat,by omega⟩
 have e:Int.tdiv (k:Int) 128=((k / 128:Nat):Int):=rfl
 have e2:Int.tmod (k:Int) 128=((k % 128:Nat):Int):=rfl
 rw [e2] at hy
 have hk:¬ k< 128:=by omega
 have e3:((k:Int)).toNat=k:=by omega
 have e4:(((k / 128:Nat):Int)).toNat=k / 128:=Int.toNat_natCast _
 have e5:(((k % 128:Nat):Int)+128).toNat=k % 128+128:=by omega
 rw [e,← h,hy,e3,e4,e5,HX hk,List.append_assoc]
 rfl
theorem Ug {out:Str} {z:Int} {Y:Str} (h:out++D9 z.toNat=Y) (hz:¬ z≥128):out++[UInt8.ofNat z.toNat]=Y:=by
 rw [← h,I4 AB]
theorem NF {out:Str} {z y:Int} (h:out++D9 z.toNat=D9 y.toNat) (hy:0≤y∧y≤1000000):out.length≤3:=by
 have:=congrArg List.length h
 rw [List.length_append] at this
 have:=NE (z:=y.toNat) AB
 omega
theorem Ri {a b:Int} (h:(FA a).toNat=(FA b).toNat):a=b:=by
 unfold FA at h
 split at h <;> split at h <;> omega
def zp (i:Nat) (step d:Int):Nat:=(FA (if i< 2 then d else d - step)).toNat
def CA:Nat→Int→Int→List Int→Str
 | _,_,_,[]=>[]
 | i,last,step,x::xs=>D9 (zp i step (x - last))++CA (i+1) x (x - last) xs
theorem LQ:∀ (xs ys:List Int) (i:Nat) (last step:Int),CA i last step xs=CA i last step ys→xs=ys:=by
 intro xs
 induction xs with
 | nil =>
   intro ys i last step h
   cases ys with
   | nil=>rfl
   | cons y ys =>
     have:=congrArg List.length h
     simp only [CA,List.length_nil,List.length_append] at this
     have:=ND (zp i step (y - last))
     omega
 | cons x xs ih =>
   intro ys i last step h
   cases ys with
   | nil =>
     have:=congrArg List.length h
     simp only [CA,List.length_nil,List.length_append] at this
     have:=ND (zp i step (x - last))
     omega
   | cons y ys =>
     simp only [CA] at h
     obtain ⟨e1,e2⟩:=Rh _ _ _ _ h
     have e3:x=y:=by
      have:=Ri e1
      split at this <;> omega
     subst e3
     rw [ih ys _ _ _ e2]
theorem Uh {i:Nat} {step d:Int} (h:-3000≤step∧step≤3000) (hd:-3000≤d∧d≤3000):(D9 (zp i step d)).length≤2:=by
 refine LP ?_
 unfold zp FA
 split <;> split <;> omega
theorem I6:∀ (l:List Int) (i:Nat) (last step:Int),(∀ x∈l,-1000≤x∧x≤1000)→(-1000≤last∧last≤1000)→(-2000≤step∧step≤2000)→(CA i last step l).length≤2 * l.length:=by
 intro l
 induction l with
 | nil=>intro i last step _ _ _; simp [CA]
 | cons x xs ih =>
   intro i last step h h1 h2
   simp only [CA,List.length_append,List.length_cons]
   have hx:=h x (by simp)
   have a:=Uh (i:=i) (step:=step) (d:=x - last) AB AB
   have b:=ih (i+1) x (x - last) (fun y hy=>h y (by simp [hy])) hx AB
   omega
theorem NG {out Y:Str} {l:List Int} {i:Nat} {last step x y z:Int} (h:out++CA i last step (l.drop i)=Y) (hd:l.drop i=x::l.drop (i+1)) (hy:y=FA z) (hz:(i< 2∧z=x - last)∨(¬ i< 2∧z=x - last - step)):(out++D9 y.toNat)++CA (i+1) x (x - last) (l.drop (i+1))=Y:=by
 rw [hd] at h
 rw [← h,hy]
 simp only [CA]
 have e:(FA z).toNat=zp i step (x - last):=by
  unfold zp
  rcases hz with ⟨h1,h2⟩ | ⟨h1,h2⟩
  ·rw [if_pos h1,h2]
  ·rw [if_neg h1,h2]
 rw [e,List.append_assoc]
theorem TQ {out Y:Str} {l:List Int} {i:Nat} {last step:Int} (h:out++CA i last step (l.drop i)=Y) (hi:l.length≤i):out=Y:=by
 rw [AY hi] at h
 simpa [CA] using h
theorem Px {out:Str} {l:List Int} {i:Nat} {last step:Int} (h:out++CA i last step (l.drop i)=CA 0 0 0 l) (hl:∀ x∈l,-1000≤x∧x≤1000):out.length≤2 * l.length:=by
 have:=congrArg List.length h
 rw [List.length_append] at this
 have:=I6 l 0 0 0 hl AB AB
 omega
theorem NH {out:Str} {l:List Int} {i:Nat} {last step z:Int} (h:out++CA i last step (l.drop i)=CA 0 0 0 l) (hl:∀ x∈l,-1000≤x∧x≤1000) (hn:l.length≤1000) (h1:-10000≤z) (h2:z≤10000):out.length+(D9 (FA z).toNat).length≤9000000000000000000:=by
 have:=Px h hl
 have:=Re (n:=z) (m:=10000) ⟨h1,h2⟩ AB
 have:=NE (z:=(FA z).toNat) AB
 omega
theorem TR {n:Int} {y:UInt8} (h:(y.toNat:Int)=n):y=UInt8.ofNat n.toNat:=by
 rw [← h,show ((y.toNat:Int)).toNat=y.toNat from Int.toNat_natCast _,UInt8.ofNat_toNat]
def Tz (b:List Row):Str:=[UInt8.ofNat (CA 0 0 0 (b.map Row.t)).length]++CA 0 0 0 (b.map Row.t)++CA 0 0 0 (b.map Row.v)
def EF (b:List Row):Str:=if BE b=true then Tz b else []
theorem Rj {b:List Row} (h:BE b=false):[]=EF b:=by unfold EF; rw [if_neg (by simp [h])]
theorem Rk {b:List Row} (h:BE b=true):∀ x∈b.map Row.t,-1000≤x∧x≤1000:=fun x hx=>by
 obtain ⟨r,hr,rfl⟩:=List.mem_map.1 hx
 exact Vm ((HH h).rows r hr)
theorem Rl {b:List Row} (h:BE b=true):∀ x∈b.map Row.v,-1000≤x∧x≤1000:=fun x hx=>by
 obtain ⟨r,hr,rfl⟩:=List.mem_map.1 hx
 exact Vn ((HH h).rows r hr)
theorem I7 {b:List Row} (h:BE b=true):(CA 0 0 0 (b.map Row.t)).length≤48:=by
 have:=I6 (b.map Row.t) 0 0 0 (Rk h) AB AB
 rw [List.length_map] at this
 have:=bok h
 omega
theorem Py {b:List Row} (h:BE b=true):(CA 0 0 0 (b.map Row.v)).length≤48:=by
 have:=I6 (b.map Row.v) 0 0 0 (Rl h) AB AB
 rw [List.length_map] at this
 have:=bok h
 omega
theorem N8 {b:List Row} {ts:List Int} {i:Nat} (h:ts++(b.drop i).map Row.t=b.map Row.t) (hi:b.length≤i) (hb:BE b=true):(CA 0 0 0 ts).length≤48:=by
 rw [GW h hi]; exact I7 hb
theorem N9 {b:List Row} {ts:List Int} {i:Nat} (h:ts++(b.drop i).map Row.v=b.map Row.v) (hi:b.length≤i) (hb:BE b=true):(CA 0 0 0 ts).length≤48:=by
 rw [GW h hi]; exact Py hb
theorem Ui {b:List Row} {ts vs:List Int} {i:Nat} (h:ts++(b.drop i).map Row.t=b.map Row.t) (h2:vs++(b.drop i).map Row.v=b.map Row.v) (hi:b.length≤i) (hb:BE b=true):UInt8.ofNat (CA 0 0 0 ts).length::(CA 0 0 0 ts++CA 0 0 0 vs)=EF b:=by
 rw [GW h hi,GW h2 hi]
 unfold EF; rw [if_pos hb]; rfl
theorem Rm:∀ (a b:List Row),a.map Row.t=b.map Row.t→a.map Row.v=b.map Row.v→a=b:=by
 intro a
 induction a with
 | nil=>intro b h _; cases b with | nil=>rfl | cons y ys=>simp at h
 | cons x xs ih =>
   intro b h1 h2
   cases b with
   | nil=>simp at h1
   | cons y ys =>
     simp only [List.map_cons,List.cons.injEq] at h1 h2
     obtain ⟨h3,h4⟩:=h1
     obtain ⟨h5,h6⟩:=h2
     rw [ih ys h4 h6]
     cases x
     cases y
     simp only [Row.mk.injEq] at *
     simp_all
theorem Pz {a b:List Row} (ha:BE a=true) (hb:BE b=true) (h:EF a=EF b):a=b:=by
 unfold EF at h
 rw [if_pos ha,if_pos hb] at h
 unfold Tz at h
 simp only [List.cons_append,List.nil_append,List.cons.injEq] at h
 have e:=ofNat_inj (by have:=I7 ha; omega) (by have:=I7 hb; omega) h.1
 obtain ⟨e1,e2⟩:=List.append_inj h.2 e
 exact Rm a b (LQ _ _ _ _ _ e1) (LQ _ _ _ _ _ e2)
def CQ (d:Dsk) (s:Sto):Bool:=Af d&&(nmB s.idx.names&&Ak s)&&decide (s.parts=d.list.map (BD d))&&decide (d.names=s.idx.names.take d.names.length)
theorem Rn {d:Dsk} {s:Sto} (h:Af d=false):false=CQ d s:=by unfold CQ; rw [h]; rfl
theorem Ro {d:Dsk} {s:Sto} (h:(nmB s.idx.names&&Ak s)=false):false=CQ d s:=by unfold CQ; rw [h,Bool.and_false]; rfl
theorem OA {d:Dsk} {s:Sto} (h:s.parts≠d.list.map (BD d)):false=CQ d s:=by unfold CQ; rw [decide_eq_false h,Bool.and_false]; rfl
theorem TS {d:Dsk} {s:Sto} (h:(s.parts.length:Int)≠d.list.length):false=CQ d s:=OA (fun e=>h (by rw [e,List.length_map]))
theorem OB {d:Dsk} {s:Sto} (h:d.names≠s.idx.names.take d.names.length):false=CQ d s:=by unfold CQ; rw [decide_eq_false h,Bool.and_false]
theorem O3 {d:Dsk} {s:Sto} (h:(s.idx.names.length:Int)< d.names.length):false=CQ d s:=OB (fun e=>by
 have:=congrArg List.length e
 rw [List.length_take] at this
 omega)
theorem Uj {d:Dsk} {s:Sto} {k:Nat} {a b:List Tag} (ha:d.names[k]? = some a) (hb:s.idx.names[k]? = some b) (h:(text a==text b)=false):false=CQ d s:=OB (fun e=>(beq_eq_false_iff_ne.1 h) (by
 have hk:=(List.getElem?_eq_some_iff.1 ha).1
 have h2:d.names[k]? = (s.idx.names.take d.names.length)[k]? := congrArg (fun l=>l[k]?) e
 rw [List.getElem?_take,if_pos hk,ha,hb] at h2
 cases h2
 rfl))
theorem Kc {d:Dsk} {s:Sto} (h1:Af d=true) (h2:(nmB s.idx.names&&Ak s)=true) (h3:s.parts=d.list.map (BD d)) (h4:d.names=s.idx.names.take d.names.length):true=CQ d s:=by unfold CQ; rw [h1,h2,decide_eq_true h3,decide_eq_true h4]; rfl
structure Fits (d:Dsk) (s:Sto):Prop where
 dk:Af d=true
 nm:nmB s.idx.names=true
 sk:Ak s=true
 p:s.parts=d.list.map (BD d)
 m:d.names=s.idx.names.take d.names.length
theorem C1 {d:Dsk} {s:Sto} (h:CQ d s=true):Fits d s:=by
 unfold CQ at h
 simp only [AR,decide_eq_true_eq] at h
 exact ⟨h.1.1.1,h.1.1.2.1,h.1.1.2.2,h.1.2,h.2⟩
def Rp (d:Dsk) (s:Sto) (k:Nat):Prop:=∀ j a b,j< k→d.names[j]? = some a→s.idx.names[j]? = some b→text a=text b
theorem Uk (d:Dsk) (s:Sto):Rp d s 0:=fun j _ _ h=>absurd h AB
theorem Ul {d:Dsk} {s:Sto} {k:Nat} {a b:List Tag} (h:Rp d s k) (ha:d.names[k]? = some a) (hb:s.idx.names[k]? = some b) (e:(text a==text b)=true):Rp d s (k+1):=fun j x y hj hx hy=>by
 by_cases e1:j=k
 ·subst e1
  rw [ha] at hx
  rw [hb] at hy
  cases hx
  cases hy
  exact eq_of_beq e
 ·exact h j x y AB hx hy
theorem Um {d:Dsk} {s:Sto} {k:Nat} (h:Rp d s k) (hk:d.names.length≤k) (hd:NmI d.names) (hs:NmI s.idx.names) (hl:d.names.length≤s.idx.names.length):d.names=s.idx.names.take d.names.length:=by
 apply List.ext_getElem?
 intro j
 by_cases hj:j< d.names.length
 ·rw [List.getElem?_take,if_pos hj]
  have ha:=AP hj
  have hb:=AP (l:=s.idx.names) (i:=j) AB
  rw [ha,hb,Ms (hd.ok _ (List.getElem_mem _)) (hs.ok _ (List.getElem_mem _)) (h j _ _ AB ha hb)]
 ·rw [List.getElem?_eq_none AB,List.getElem?_eq_none (by rw [List.length_take]; omega)]
def Rq (d:Dsk) (s:Sto) (k:Nat):Prop:=∀ j n q,j< k→d.list[j]? = some n→s.parts[j]? = some q→BD d n=q
theorem Un (d:Dsk) (s:Sto):Rq d s 0:=fun j _ _ h=>absurd h AB
theorem Uo {d:Dsk} {s:Sto} {k:Nat} (h:Rq d s k) (hk:d.list.length≤k) (hl:(s.parts.length:Int)=d.list.length):s.parts=d.list.map (BD d):=by
 apply List.ext_getElem?
 intro j
 by_cases hj:j< d.list.length
 ·have ha:=AP hj
  have hb:=AP (l:=s.parts) (i:=j) AB
  rw [List.getElem?_map,ha,hb,← h j _ _ AB ha hb]
  rfl
 ·rw [List.getElem?_eq_none AB,List.getElem?_eq_none (by rw [List.length_map]; omega)]
def Rr (d:Dsk) (s:Sto) (k:Nat) (k1:Int):Prop:=∀ n q,d.list[k]? = some n→s.parts[k]? = some q→∀ id:Int,1≤id→id< k1→partOf (BD d n) id=partOf q id
theorem Up (d:Dsk) (s:Sto) (k:Nat):Rr d s k 1:=fun _ _ _ _ id h1 h2=>absurd h1 AB
theorem LR {d:Dsk} (h:Af d=true) (n:Int):Au (BD d n)=true:=by
 unfold BD
 rw [List.getD_eq_getElem?_getD]
 cases hx:d.files[(Ao d n).toNat]? with
 | none=>rfl
 | some f=>exact (Kb _ _ _ (CU h).2.2.1 f (AQ hx)).2.2
theorem Uq {d:Dsk} {s:Sto} {k:Nat} {k1:Int} {n:Int} {q:Prt} {f:Fil} (h:Rr d s k k1) (hk:Af d=true) (hs:Ak s=true) (hss:SD s) (hn:d.list[k]? = some n) (hq:s.parts[k]? = some q) (hf:d.files[(Ao d n).toNat]? = some f) (e:(EF (partOf f.part k1)==EF (partOf q k1))=true):Rr d s k (k1+1):=fun m r hm hr id h1 h2=>by
 rw [hn] at hm
 rw [hq] at hr
 cases hm
 cases hr
 by_cases e1:id=k1
 ·subst e1
  have e2:=Dp hf
  have a:BE (partOf f.part id)=true:=EN (by rw [← e2]; exact LR hk n) id
  have b:BE (partOf q id)=true:=EN ((StoK.of hss hs).part q (AQ hq)).2 id
  rw [e2]
  exact Pz a b (eq_of_beq e)
 ·exact h n q hn hq id h1 AB
theorem Ur {d:Dsk} {s:Sto} {k:Nat} {k1 n:Int} {q:Prt} {f:Fil} (hn:d.list[k]? = some n) (hq:s.parts[k]? = some q) (hf:d.files[(Ao d n).toNat]? = some f) (e:(EF (partOf f.part k1)==EF (partOf q k1))=false):false=CQ d s:=OA (fun e2=>(beq_eq_false_iff_ne.1 e) (by
 have h2:s.parts[k]? = (d.list.map (BD d))[k]? := congrArg (fun l=>l[k]?) e2
 rw [List.getElem?_map,hn,hq] at h2
 have h3:=Option.some.inj h2
 rw [h3,Dp hf]))
theorem NI {p:Prt} (h:Au p=true) {id:Int} (hid:¬ (1≤id∧id≤6)):partOf p id=[]:=by
 unfold Au at h
 simp only [AR,decide_eq_true_eq] at h
 have key:∀ (is:List Int) (bs:List (List Row)) (o:Option Int),Bl o is bs=true→Bp id is bs=[]:=by
  intro is
  induction is with
  | nil=>intro bs o _; unfold Bp; rfl
  | cons i is ih =>
    intro bs o hg
    cases bs with
    | nil=>unfold Bp; rfl
    | cons b bs =>
      simp only [Bl,AR] at hg
      have h5:=CN hg.1.1.1.1
      unfold Bp
      rw [if_neg (by simp; omega)]
      exact ih bs _ hg.2
 exact key _ _ _ h.2
theorem P0 {p q:Prt} (hp:Au p=true) (hq:Au q=true) (h:∀ id:Int,1≤id→id≤6→partOf p id=partOf q id):p=q:=NA hp hq (fun id=>by
 by_cases hid:1≤id∧id≤6
 ·exact h id hid.1 hid.2
 ·rw [NI hp hid,NI hq hid])
theorem Us {d:Dsk} {s:Sto} {k:Nat} {k1:Int} (h:Rq d s k) (hi:Rr d s k k1) (h7:¬ k1≤6) (hk:Af d=true) (hs:Ak s=true) (hss:SD s):Rq d s (k+1):=fun j n q hj hn hq=>by
 by_cases e1:j=k
 ·subst e1
  exact P0 (LR hk n) ((StoK.of hss hs).part q (AQ hq)).2 (fun id h1 h2=>hi n q hn hq id h1 AB)
 ·exact h j n q AB hn hq
def BA (d:Dsk) (s:Sto):List Stp:=if CQ d s then BZ d s else []
theorem IH {d:Dsk} {s:Sto} (h:CQ d s=true):BA d s=BZ d s:=by unfold BA; rw [if_pos h]
theorem Kd {d:Dsk} {s:Sto} (h:CQ d s=false):BA d s=[]:=by unfold BA; rw [if_neg (by simp [h])]
end Go.Proofs.YtganlmloonielaaGreat
namespace Go.Proofs.YtganlmloonielaaGreat
set_option maxRecDepth 100000
set_option maxHeartbeats 4000000
theorem FB (n:Int) {w:World} {F:Nat→Prop}  (p0:0≤n∧n≤255):Calls Tryz.prog 146 [.int .i64 n].toArray w (As fun rv w'=>rv=.string (bs ([UInt8.ofNat n.toNat]))∧Ext w w'):=by
 refine goT Tryz.func146<|.s<|.g<|.r 1<|.d<|.s<|.g<|.r 1 ?_
 obtain ⟨C,J⟩:∃ y:UInt8,(y.toNat:Int)=n:=TO AB
 refine RG.eqv (v:=.int .u8 (C.toNat:Int)) (v':=.int .u8 (IntKind.u8.wrap n)) AA (Pw J)<|.ns 1 5 [.int .u8 (C.toNat:Int)] fun O af W E aa ab=>?_
 have ac:=E
 have ae:Own (α:=UInt8) af O 5 (nin (ge w.heap.size) [O]) 1 1 [C]:=Own.lit aa rfl (by decide) ⟨rfl,rfl⟩
 exact RG.b2s (s:=22) (d:=9) (y:=C) ae AA AA<|.r 1<|.d<|.rt Tryz.func146 Tryz.results146 (.string (bs [C])) ⟨(congrArg (fun s=>Value.string (bs s)) (by rw [List.cons.injEq]; exact ⟨TR ‹_›,rfl⟩)),ac⟩
theorem HI (z:Int) {w:World} {F:Nat→Prop}  (p0:0≤z∧z≤1000000):Calls Tryz.prog 172 [.int .i64 z].toArray w (As fun rv w'=>rv=.string (bs (D9 z.toNat))∧Ext w w'):=by
 refine goT Tryz.func172<|.s<|.g<|.r 1<|.d<|.s<|.g<|.r 1<|.d<|.s<|.b 0<|T.loop (X:=Int × Str) (z,[]) (fun (C,out)=>[(0,vI C),(3,vT out)]) (fun (C,out) O=>Chg (ins []) w O∧(0≤C∧C≤1000000)∧(out++D9 C.toNat=D9 z.toNat)) (fun (C,out)=>C.toNat) AA ⟨AA,AA,trivial⟩ ⟨Chg.refl _ _,AB,(by rfl)⟩ ?_
 rintro ⟨C,out⟩ ah O ⟨J,af,ag⟩ W
 have E:Chg nil w O:=Chg.CY (Chg.refl nil w) J all_nil
 refine .s<|.s<|.g<|.r 1<|.bp (C≥128) (fun ae=>?_) (fun ae=>?_)
 ·refine .d<|.ct<|.sk<|.b 1<|.s<|.g<|.r 3<|RG.int (Int.tmod C 128+128) AA (by (have q1:=NB (z:=C) AB; omega))<|.cl (FB (Int.tmod C 128+128) (by (have q1:=NB (z:=C) AB; omega)) (w:=O) (F:=all)) ?_
  rintro ai aj ⟨rfl,aa⟩
  replace ⟨E,J⟩:=(se [] aa).g2 E J
  exact RG.cat (t:=9) (s:=out) (u:=[UInt8.ofNat (Int.tmod C 128+128).toNat]) AA (by have q1:=NF ‹_› p0; simp only [List.length_cons,List.length_nil]; omega)<|.r 1<|.d<|.g<|.r 1<|RG.quo (t:=3) (a:=C) (b:=128) AA AB (by (have q1:=NB (z:=C) AB; omega))<|.r 1<|.d<|.ib 1<|W ((Int.tdiv C 128),(out++[UInt8.ofNat (Int.tmod C 128+128).toNat])) _ _ ⟨AA,AA,trivial⟩ ⟨J,(by have q1:=NB (z:=C) AB; omega),(by exact TP ‹_› AB rfl)⟩ (by simp only []; have q1:=NB (z:=C) AB; omega)
 refine .d<|.cf<|.x 0 rfl<|.s<|.g<|.r 2<|.cl (FB C AB (w:=O) (F:=all)) ?_
 rintro ak al ⟨rfl,ab⟩
 replace E:=(se [] ab).g1 E
 exact RG.cat (t:=9) (s:=out) (u:=[UInt8.ofNat C.toNat]) AA (by have q1:=NF ‹_› p0; simp only [List.length_cons,List.length_nil]; omega)<|.r 1<|.d<|.rt Tryz.func172 Tryz.results172 (.string (bs (out++[UInt8.ofNat C.toNat]))) ⟨(congrArg (fun s=>Value.string (bs s)) (by exact Ug ‹_› AB)),E⟩
theorem Gg (list:List Int) {w:World} {F:Nat→Prop} {a1:Option Addr} {n1 c1:Nat} (h1:RepS w F a1 n1 c1 list) (p0:list.length≤1000) (p1:∀ x∈list,-1000≤x∧x≤1000):Calls Tryz.prog 145 [.slice a1 n1 c1].toArray w (As fun rv w'=>rv=.string (bs (CA 0 0 0 list))∧Ext w w'):=by
 refine goT Tryz.func145 ?_
 obtain ⟨rfl,ax,h1⟩:=h1.tp
 refine .s<|.g<|.r 1<|.d<|.s<|.g<|.r 1<|.d<|.s<|.g<|.r 1<|.d<|.s<|.g<|.r 1<|.d<|.s<|.s<|.g<|.r 1<|.d<|.b 0<|T.loop (X:=Str × Int × Int × Nat) ([],0,0,0) (fun (out,last,step,i)=>[(0,.slice a1 list.length c1),(3,vT out),(4,vI last),(5,vI step),(6,vI (i:Int))]) (fun (out,last,step,i) aa=>Chg (ins []) w aa∧(i≤list.length)∧(-1000≤last∧last≤1000)∧(-2000≤step∧step≤2000)∧(out++CA i last step (list.drop i)=CA 0 0 0 list)) (fun (out,last,step,i)=>list.length - i) AA ⟨AA,AA,AA,AA,AA,trivial⟩ ⟨Chg.refl _ _,AB,AB,AB,(by rfl)⟩ ?_
 rintro ⟨out,last,step,i⟩ aD aa ⟨C,ay,az,aA,aB⟩ O
 have ac:Mv [] [] w aa:=Mv.inl C all_nil all_nil
 replace h1:=(sp ac C).g1 h1
 have J:Chg nil w aa:=Chg.CY (Chg.refl nil w) C all_nil
 refine .s<|.s<|.g<|.r 3<|.bp ((i:Int)< (list.length:Int)) (fun ai=>?_) (fun ai=>.d<|.cf<|.x 0 rfl<|.s<|.g<|.r 2<|.d<|.rt Tryz.func145 Tryz.results145 (vT out) ⟨(congrArg (fun s=>Value.string (bs s)) (by exact TQ ‹_› AB)),J⟩)
 refine .d<|.ct<|.sk<|.s<|.b 1<|.s<|.g<|.r 2 ?_
 have aj:i< list.length:=AB
 refine .ix i 1 h1 aj ?_
 obtain ⟨E,W⟩:∃ y,list[i]? = some y:=⟨_,AP AB⟩
 have aC:=AX W; have au:=AQ W
 obtain ⟨_,rfl,ak⟩:=h1.elem i E W
 refine .lh 0 ak<|.r 1<|RG.int (E - last) AA (by (have q1:=p1 _ ‹_›; omega))<|.r 1<|.d<|.s<|.s<|.g<|.r 1<|.bp ((i:Int)< 2) (fun al=>?_) (fun al=>?_)
 ·refine .d<|.ct<|.g<|.r 2<|.cl (IG (E - last) (by have q1:=p1 _ ‹_›; omega) (w:=aa) (F:=all)) ?_
  rintro aE av ⟨rfl,ae⟩
  replace ⟨h1,J,C⟩:=(se [] ae).g3 h1 J C
  refine .cl (HI (FA (E - last)) (by have q1:=p1 _ ‹_›; exact O2 AB) (w:=av) (F:=all)) ?_
  rintro aF aG ⟨rfl,af⟩
  replace ⟨h1,J,C⟩:=(se [] af).g3 h1 J C
  refine RG.cat (t:=9) (s:=out) (u:=D9 (FA (E - last)).toNat) AA (by have q2:=p1 _ ‹_›; exact NH ‹_› p1 p0 AB AB)<|.r 1<|.d<|.s<|.g<|.r 2<|.d<|.g<|.r 2 ?_
  have am:i< list.length:=AB
  refine .ix i 1 h1 am ?_
  obtain ⟨_,rfl,ao⟩:=h1.elem i E W
  exact .lh 0 ao<|.r 1<|.d<|.ib 1<|.g<|.r 1<|RG.int ((i:Int)+1) AA AB<|.r 1<|.d<|O ((out++(D9 (FA (E - last)).toNat)),E,E - last,i+1) _ _ ⟨AA,AA,AA,AA,AA,trivial⟩ ⟨C,AB,(by exact p1 _ ‹_›),(by have q1:=p1 _ ‹_›; omega),(by exact NG ‹_› ‹_› rfl (by exact .inl ⟨by omega,rfl⟩))⟩ (by (simp only []; omega))
 refine .d<|.cf<|.g<|.r 3<|RG.int ((E - last) - step) AA (by (have q1:=p1 _ ‹_›; omega))<|.cl (IG ((E - last) - step) (by have q1:=p1 _ ‹_›; omega) (w:=aa) (F:=all)) ?_
 rintro aI aw ⟨rfl,ag⟩
 replace ⟨h1,J,C⟩:=(se [] ag).g3 h1 J C
 refine .cl (HI (FA ((E - last) - step)) (by have q1:=p1 _ ‹_›; exact O2 AB) (w:=aw) (F:=all)) ?_
 rintro aJ aK ⟨rfl,ah⟩
 replace ⟨h1,J,C⟩:=(se [] ah).g3 h1 J C
 refine RG.cat (t:=9) (s:=out) (u:=D9 (FA ((E - last) - step)).toNat) AA (by have q2:=p1 _ ‹_›; exact NH ‹_› p1 p0 AB AB)<|.r 1<|.d<|.s<|.g<|.r 2<|.d<|.g<|.r 2 ?_
 have aq:i< list.length:=AB
 refine .ix i 1 h1 aq ?_
 obtain ⟨_,rfl,ar⟩:=h1.elem i E W
 exact .lh 0 ar<|.r 1<|.d<|.ib 1<|.g<|.r 1<|RG.int ((i:Int)+1) AA AB<|.r 1<|.d<|O ((out++(D9 (FA ((E - last) - step)).toNat)),E,E - last,i+1) _ _ ⟨AA,AA,AA,AA,AA,trivial⟩ ⟨C,AB,(by exact p1 _ ‹_›),(by have q1:=p1 _ ‹_›; omega),(by exact NG ‹_› ‹_› rfl (by exact .inr ⟨by omega,rfl⟩))⟩ (by (simp only []; omega))
theorem FN (b:List Row) {w:World} {F:Nat→Prop} {a1:Option Addr} {n1 c1:Nat} (h1:RepS w F a1 n1 c1 b) (p0:b.length≤1000):Calls Tryz.prog 99 [.slice a1 n1 c1].toArray w (As fun rv w'=>rv=.string (bs (EF b))∧Ext w w'):=by
 refine goT Tryz.func99 ?_
 obtain ⟨rfl,bI,h1⟩:=h1.tp
 refine .s<|.g<|.r 1<|.d<|.s<|.s<|.g<|.r 1<|.cl (Ez b h1.ta (w:=w) (F:=all)) ?_
 rintro cg ci ⟨rfl,av⟩
 replace h1:=(se [] av).g1 h1
 have C:=av
 cases bJ:(BE b)
 ·exact .r 1<|.d<|.ct<|.s<|.g<|.r 1<|.d<|.rt Tryz.func99 Tryz.results99 (.string (bs [])) ⟨(congrArg (fun s=>Value.string (bs s)) (by exact Rj ‹_›)),C⟩
 refine .r 1<|.d<|.cf<|.sk<|.s<|.g<|.ns 0 3 [] fun aa bD aw aG aV aW=>?_
 have aX:=C.cn aw
 replace ⟨h1,C⟩:=(sn [] aG aw).g2 h1 C
 have aj:Own (α:=Int) bD aa 3 (nin (ge w.heap.size) [aa]) 0 0 []:=Own.Ag aV
 refine .r 1<|.d<|.s<|.g<|.ns 0 3 [] fun ae ai ak aH aY aZ=>?_
 have ba:=AS ak aj.lt
 have bc:=C.cn ak
 replace ⟨h1,aj,C⟩:=(sn [aa] aH ak).g3 h1 aj C
 have bd:Own (α:=Int) ai ae 3 (nin (ge w.heap.size) [ae,aa]) 0 0 []:=Own.Ag aY
 refine .r 1<|.d<|.s<|.s<|.g<|.r 1<|.d<|.b 0<|T.loop (X:=(List Int) × Nat × Nat × Nat × (List Int) × Nat × Nat × Nat × Nat) (([]:List Int),aa,0,0,([]:List Int),ae,0,0,0) (fun (ts,r_ts,n_ts,c_ts,vs,r_vs,n_vs,c_vs,i)=>[(0,.slice a1 b.length c1),(3,vS r_ts n_ts c_ts),(4,vS r_vs n_vs c_vs),(5,vI (i:Int))]) (fun (ts,r_ts,n_ts,c_ts,vs,r_vs,n_vs,c_vs,i) ar=>Chg (ins [aa,ae]) ai ar∧Own ar r_ts 3 (nin (ge w.heap.size) [r_vs,r_ts]) n_ts c_ts ts∧OrB r_ts aa ai.heap.size∧Own ar r_vs 3 (nin (ge w.heap.size) [r_vs,r_ts]) n_vs c_vs vs∧OrB r_vs ae ai.heap.size∧Nb r_vs r_ts∧(i≤b.length)∧(ts.length=i)∧(vs.length=i)∧(ts++(b.drop i).map Row.t=b.map Row.t)∧(vs++(b.drop i).map Row.v=b.map Row.v)) (fun (ts,r_ts,n_ts,c_ts,vs,r_vs,n_vs,c_vs,i)=>b.length - i) AA ⟨AA,AA,AA,AA,trivial⟩ ⟨Chg.refl _ _,aj,BJ,bd,BJ,ba,AB,(by rfl),(by rfl),(by rfl),(by rfl)⟩ ?_
 rintro ⟨ts,r_ts,n_ts,c_ts,vs,r_vs,n_vs,c_vs,i⟩ cj ar ⟨J,ab,al,E,am,bg,bK,bL,bM,bN,bO⟩ ax
 have bP:=Ar al aX C.size
 have bQ:=Ar am bc C.size
 have bh:Cov (ins [aa,ae]) ai aa:=⟨.inl AD⟩
 have bi:Cov (ins [aa,ae]) ai ae:=⟨.inl AE⟩
 have bR:=Ar al bh (Nat.le_refl _)
 have bS:=Ar am bi (Nat.le_refl _)
 have aI:Mv [ae,aa] [r_vs,r_ts] ai ar:=Mv.inl J (all_cons AE (all_cons AD all_nil)) (all_cons (BV am AD) (all_cons (BV al AE) all_nil))
 replace ⟨h1,C⟩:=(sp aI J).g2 h1 C
 have bT:=ab.len; have bU:=ab.max
 have bV:=E.len; have bW:=E.max
 refine .s<|.s<|.g<|.r 3<|.bp ((i:Int)< (b.length:Int)) (fun bj=>?_) (fun bj=>?_)
 ·refine .d<|.ct<|.sk<|.s<|.b 1<|.s<|.g<|.r 3 ?_
  have bk:i< b.length:=AB
  refine .ix i 2 h1 bk<|.r 1 ?_
  obtain ⟨ah,ao⟩:∃ y,b[i]? = some y:=⟨_,AP AB⟩
  have bX:=AX ao; have bC:=AQ ao
  obtain ⟨_,rfl,bm⟩:=h1.elem i ah ao
  refine .lh 0 bm<|.ns 1 3 [vI ah.t] fun bn ck aq aJ bo bq=>?_
  have aK:=AS aq ab.lt
  have br:=AS aq E.lt
  have bt:=Ad aq C.size
  replace ⟨h1,ab,E,C,J⟩:=(se [r_vs,r_ts] aJ).g5 h1 ab E C J
  have ay:nin (ge w.heap.size) [r_vs,r_ts] bn∧bn≠r_ts:=BG bt (all_cons br (all_cons aK all_nil)) aK
  refine RG.Ap (T:=24) (ty:=24) (y:=ah.t) ab bo AA AA rfl ay AB fun aF bE cm O af aL=>?_
  have bu:=Ae af (Nb.symm bg) E.lt
  have bv:=Bo af al J.size
  replace ⟨h1,E,C,J⟩:=(sa [r_vs,r_ts] aL af).g4 h1 E C J
  replace O:=O.rn r_ts
  have bY:=O.len; have bF:=O.max
  refine .r 1<|.d<|.g<|.r 3 ?_
  have aN:i< b.length:=AB
  refine .ix i 2 h1 aN<|.r 1 ?_
  obtain ⟨_,rfl,aO⟩:=h1.elem i ah ao
  refine .lh 1 aO<|.ns 1 3 [vI ah.v] fun aM bZ ag az aP aQ=>?_
  have aR:=AS ag O.lt
  have aA:=AS ag E.lt
  have aS:=Ad ag C.size
  replace ⟨O,E,C,J⟩:=(se [r_vs,aF] az).g4 O E C J
  have au:nin (ge w.heap.size) [r_vs,aF] aM∧aM≠r_vs:=BG aS (all_cons aA (all_cons aR all_nil)) aA
  refine RG.Ap (T:=24) (ty:=24) (y:=ah.v) E aP AA AA rfl au AB fun bw bz b0 ac W aB=>?_
  have aT:=Ae W (Nb.symm bu) O.lt
  have aU:=Bo W am J.size
  replace ⟨O,C,J⟩:=(sa [r_vs,aF] aB W).g3 O C J
  replace ac:=ac.rn r_vs
  have bG:=ac.len; have bH:=ac.max
  exact .r 1<|.d<|.ib 1<|.g<|.r 1<|.it ((i:Int)+1)<|.r 1<|.d<|ax ((ts++[ah.t]),aF,n_ts+1,bE,(vs++[ah.v]),bw,n_vs+1,bz,i+1) _ _ ⟨AA,AA,AA,AA,trivial⟩ ⟨J,O,bv,ac,aU,aT,AB,(by (simp; omega)),(by (simp; omega)),(by exact mapStep ‹_› ‹_› rfl),(by exact mapStep ‹_› ‹_› rfl)⟩ (by (simp only []; omega))
 refine .d<|.cf<|.x 0 rfl<|.s<|.g<|.r 1<|.cl (Gg ts (ab.rep) AB (by exact GW (by assumption:_++(b.drop _).map Row.t=_) AB▸Rk ‹_›) (w:=ar) (F:=all)) ?_
 rintro b6 bA ⟨rfl,aC⟩
 replace ⟨E,C⟩:=(se [r_vs,r_ts] aC).g2 E C
 refine .r 1<|.d<|.s<|.g<|.r 1<|RG.eqv (v:=vI ((CA 0 0 0 ts).length:Int)) AA (G7 (CA 0 0 0 ts))<|.cl (FB ((CA 0 0 0 ts).length:Int) (by have q1:=N8 ‹_› AB (by assumption:BE b=true); have q2:=N9 ‹_› AB (by assumption:BE b=true); omega) (w:=bA) (F:=all)) ?_
 rintro b9 bB ⟨rfl,aD⟩
 replace ⟨E,C⟩:=(se [r_vs,r_ts] aD).g2 E C
 refine .r 1<|RG.cat (t:=9) (s:=[UInt8.ofNat ((CA 0 0 0 ts).length:Int).toNat]) (u:=CA 0 0 0 ts) AA (by have q1:=N8 ‹_› AB (by assumption:BE b=true); have q2:=N9 ‹_› AB (by assumption:BE b=true); (simp only [List.length_append,List.length_cons,List.length_nil]; omega))<|.r 1<|.cl (Gg vs (E.rep) AB (by exact GW (by assumption:_++(b.drop _).map Row.v=_) AB▸Rl ‹_›) (w:=bB) (F:=all)) ?_
 rintro cd ce ⟨rfl,aE⟩
 replace C:=(se [] aE).g1 C
 exact RG.cat (t:=9) (s:=([UInt8.ofNat ((CA 0 0 0 ts).length:Int).toNat]++(CA 0 0 0 ts))) (u:=CA 0 0 0 vs) AA (by have q1:=N8 ‹_› AB (by assumption:BE b=true); have q2:=N9 ‹_› AB (by assumption:BE b=true); (simp only [List.length_append,List.length_cons,List.length_nil]; omega))<|.r 1<|.d<|.rt Tryz.func99 Tryz.results99 (.string (bs (([UInt8.ofNat ((CA 0 0 0 ts).length:Int).toNat]++(CA 0 0 0 ts))++(CA 0 0 0 vs)))) ⟨(congrArg (fun s=>Value.string (bs s)) (by exact Ui ‹_› ‹_› AB ‹_›)),C⟩
theorem Jh (d:Dsk) (s:Sto) {w:World} {F:Nat→Prop} {a1:Option Addr} {n1 c1:Nat} (h1:RepS w F a1 n1 c1 d.files) {a2:Option Addr} {n2 c2:Nat} (h2:RepS w F a2 n2 c2 d.list) {a3:Option Addr} {n3 c3:Nat} (h3:RepS w F a3 n3 c3 d.names) {a4:Option Addr} {n4 c4:Nat} (h4:RepS w F a4 n4 c4 s.idx.names) {a5:Option Addr} {n5 c5:Nat} (h5:RepS w F a5 n5 c5 s.idx.AV) {a6:Option Addr} {n6 c6:Nat} (h6:RepS w F a6 n6 c6 s.parts) {a7:Option Addr} {n7 c7:Nat} (h7:RepS w F a7 n7 c7 s.mem) (p0:DD d) (p1:SD s):Calls Tryz.prog 55 [.agg #[.slice a1 n1 c1,.slice a2 n2 c2,.slice a3 n3 c3,.int .i64 d.next],.agg #[.slice a4 n4 c4,.slice a5 n5 c5,.slice a6 n6 c6,.slice a7 n7 c7]].toArray w (As fun rv w'=>rv=.bool (CQ d s)∧Ext w w'):=by
 refine goT Tryz.func55 ?_
 obtain ⟨rfl,cP,h1⟩:=h1.tp
 obtain ⟨rfl,cQ,h2⟩:=h2.tp
 obtain ⟨rfl,cR,h3⟩:=h3.tp
 obtain ⟨rfl,cS,h4⟩:=h4.tp
 obtain ⟨rfl,cT,h5⟩:=h5.tp
 obtain ⟨rfl,cU,h6⟩:=h6.tp
 obtain ⟨rfl,cV,h7⟩:=h7.tp
 refine .s<|.g<|.np 27 [.slice a1 d.files.length c1,.slice a2 d.list.length c2,.slice a3 d.names.length c3,vI d.next] fun aa dI bj aE E bQ=>?_
 replace ⟨h1,h2,h3,h4,h5,h6,h7⟩:=(sn [] aE bj).g7 h1 h2 h3 h4 h5 h6 h7
 have C:=aE
 refine .np 34 [.slice a4 s.idx.names.length c4,.slice a5 s.idx.AV.length c5,.slice a6 s.parts.length c6,.slice a7 s.mem.length c7] fun ab cp bk bm J bR=>?_
 replace ⟨h1,h2,h3,h4,h5,h6,h7,E,C⟩:=(sn [aa] bm bk).g9 h1 h2 h3 h4 h5 h6 h7 E C
 refine .r 1<|.d<|.s<|.s<|.g<|.ln E<|.cl (CF d h1.ta h2.ta h3.ta p0 (w:=cp) (F:=all)) ?_
 rintro dJ cq ⟨rfl,bn⟩
 replace ⟨h1,h2,h3,h4,h5,h6,h7,E,J,C⟩:=(se [ab,aa] bn).g10 h1 h2 h3 h4 h5 h6 h7 E J C
 cases cW:(Af d)
 ·exact .r 25<|.d<|.ct<|.s<|.g<|.r 1<|.d<|.rt Tryz.func55 Tryz.results55 (.bool false) ⟨(congrArg Value.bool (by exact Rn ‹_›)),C⟩
 refine .r 2<|.ln J<|.cl (GG s h4.ta h5.ta h6.ta h7.ta (SG.of p1) (w:=cq) (F:=all)) ?_
 rintro dK bS ⟨rfl,bo⟩
 replace ⟨h1,h2,h3,h4,h6,E,J,C⟩:=(se [ab,aa] bo).g8 h1 h2 h3 h4 h6 E J C
 cases cX:(nmB s.idx.names&&Ak s)
 ·exact .r 21<|.d<|.ct<|.s<|.g<|.r 1<|.d<|.rt Tryz.func55 Tryz.results55 (.bool false) ⟨(congrArg Value.bool (by exact Ro ‹_›)),C⟩
 refine .r 4<|.lb J<|.r 2<|.lb E<|.r 1<|.ne (s.parts.length:Int) (d.list.length:Int) (fun bT=>.r 11<|.d<|.ct<|.s<|.g<|.r 1<|.d<|.rt Tryz.func55 Tryz.results55 (.bool false) ⟨(congrArg Value.bool (by exact TS ‹_›)),C⟩) fun bT=>.r 4<|.lb J<|.r 2<|.lb E<|.r 1<|.bp ((s.idx.names.length:Int)< (d.names.length:Int)) (fun bU=>.r 1<|.d<|.ct<|.s<|.g<|.r 1<|.d<|.rt Tryz.func55 Tryz.results55 (.bool false) ⟨(congrArg Value.bool (by exact O3 ‹_›)),C⟩) fun bU=>.r 1<|.d<|.cf<|.sk<|.s<|.s<|.g<|.r 1<|.d<|.b 0<|T.loop (X:=Nat) 0 (fun k=>[(2,.pointer (some ⟨aa,0,none⟩)),(3,.pointer (some ⟨ab,0,none⟩)),(5,vI (k:Int))]) (fun k aF=>Chg (ins []) bS aF∧(k≤d.names.length)∧(Rp d s k)) (fun k=>d.names.length - k) AA ⟨AA,AA,AA,trivial⟩ ⟨Chg.refl _ _,AB,(by exact Uk _ _)⟩ ?_
 rintro k dL aF ⟨ah,cY,cZ⟩ aG
 have bq:Mv [ab,aa] [ab,aa] bS aF:=Mv.inl ah all_nil (all_cons (.inl AD) (all_cons (.inl AE) all_nil))
 replace ⟨h1,h2,h3,h4,h6,E,J,C⟩:=(sp bq ah).g8 h1 h2 h3 h4 h6 E J C
 refine .s<|.s<|.g<|.r 2<|.lb E<|.r 1<|.bp ((k:Int)< (d.names.length:Int)) (fun bV=>?_) (fun bV=>?_)
 ·refine .d<|.ct<|.sk<|.s<|.b 1<|.s<|.gd nil 12 fun dM br=>?_
  replace ⟨h1,h2,h3,h4,h6,E,J,C,ah⟩:=(se [ab,aa] br).g9 h1 h2 h3 h4 h6 E J C ah
  refine .r [0]<|.lb 1 E id<|.r [2] ?_
  have bt:k< d.names.length:=AB
  refine GA.idx (i:=3) k (len:=d.names.length) (z:=(k:Int)) (sz:=1) AA AB bt (h3.addr (Nat.zero_lt_of_lt bt)) ?_
  obtain ⟨aH,aI⟩:∃ y,d.names[k]? = some y:=⟨_,AP AB⟩
  have c8:=AX aI; have cm:=AQ aI
  obtain ⟨_,⟨dN,dO,dP,rfl,bB⟩,bW⟩:=h3.elem k aH aI
  have bX:=bB.len
  subst bX
  have c9:=bB.max
  refine .lh 4 0 bW id<|GA.Bz (i:=5) AA (fun cr bY=>C8 aH (bB.ta.ext bY) (by (have q1:=(p0.g.sz _ ‹_›).1; omega)) (fun t ht=>by (have q1:=(p0.g.sz _ ‹_›).2 t ht; omega)) (w:=cr) (F:=all))<|.r [6,7]<|.lb 8 J id<|.r [9] ?_
  have bu:k< s.idx.names.length:=AB
  refine GA.idx (i:=10) k (len:=s.idx.names.length) (z:=(k:Int)) (sz:=1) AA AB bu (h4.addr (Nat.zero_lt_of_lt bu)) ?_
  obtain ⟨aK,aL⟩:∃ y,s.idx.names[k]? = some y:=⟨_,AP AB⟩
  have da:=AX aL; have co:=AQ aL
  obtain ⟨_,⟨dQ,dR,dS,rfl,aM⟩,bZ⟩:=h4.elem k aK aL
  have b0:=aM.len
  subst b0
  have db:=aM.max
  refine .lh 11 0 bZ id<|.d fun cu bv=>?_
  replace ⟨h1,h2,h3,h6,E,J,aM,C,ah⟩:=(se [ab,aa] bv).g9 h1 h2 h3 h6 E J aM C ah
  refine .cl (C8 aK aM.ta (by (have q1:=(p1.nm.sz _ ‹_›).1; omega)) (fun t ht=>by (have q1:=(p1.nm.sz _ ‹_›).2 t ht; omega)) (w:=cu) (F:=all)) ?_
  rintro dT dU ⟨rfl,bw⟩
  replace ⟨h1,h2,h3,h6,E,J,C,ah⟩:=(se [ab,aa] bw).g8 h1 h2 h3 h6 E J C ah
  refine RG.eqv (v:=.bool (!(text aH==text aK))) AA (SY (text aH) (text aK)) ?_
  cases cv:(text aH==text aK)
  ·exact .d<|.ct<|.s<|.g<|.r 1<|.d<|.rt Tryz.func55 Tryz.results55 (.bool false) ⟨(congrArg Value.bool (by exact Uj ‹_› ‹_› ‹_›)),C⟩
  exact .d<|.cf<|.sk<|.ib 1<|.g<|.r 1<|.it ((k:Int)+1)<|.r 1<|.d<|aG (k+1) _ _ ⟨AA,AA,AA,trivial⟩ ⟨ah,AB,(by exact Ul ‹_› ‹_› ‹_› ‹_›)⟩ AB
 refine .d<|.cf<|.x 0 rfl<|.s<|.s<|.g<|.r 1<|.d<|.b 2<|T.loop (X:=Nat) 0 (fun k=>[(2,.pointer (some ⟨aa,0,none⟩)),(3,.pointer (some ⟨ab,0,none⟩)),(6,vI (k:Int))]) (fun k aN=>Chg (ins []) aF aN∧(k≤d.list.length)∧(Rq d s k)) (fun k=>d.list.length - k) AA ⟨AA,AA,AA,trivial⟩ ⟨Chg.refl _ _,AB,(by exact Un _ _)⟩ ?_
 rintro k de aN ⟨O,cw,cx⟩ aC
 have aO:Mv [ab,aa] [ab,aa] aF aN:=Mv.inl O all_nil (all_cons (.inl AD) (all_cons (.inl AE) all_nil))
 replace ⟨h1,h2,h3,h6,E,J,C⟩:=(sp aO O).g7 h1 h2 h3 h6 E J C
 refine .s<|.s<|.g<|.r 2<|.lb E<|.r 1<|.bp ((k:Int)< (d.list.length:Int)) (fun bC=>?_) (fun bC=>.d<|.cf<|.x 2 rfl<|.s<|.g<|.r 1<|.d<|.rt Tryz.func55 Tryz.results55 (.bool true) ⟨(congrArg Value.bool (by exact Kc ‹_› ‹_› (Uo ‹_› AB AB) (Um ‹_› AB (EO ‹_›).1 p1.nm AB))),C⟩)
 refine .d<|.ct<|.sk<|.s<|.b 3<|.s<|.gd nil 13 fun df aP=>?_
 replace ⟨h1,h2,h3,h6,E,J,C,O⟩:=(se [ab,aa] aP).g8 h1 h2 h3 h6 E J C O
 refine .r [0]<|.lb 1 E id<|.ln 2 E id<|.r [3]<|.lb 4 E id<|.r [5] ?_
 have aQ:k< d.list.length:=AB
 refine GA.idx (i:=6) k (len:=d.list.length) (z:=(k:Int)) (sz:=1) AA AB aQ (h2.addr (Nat.zero_lt_of_lt aQ)) ?_
 obtain ⟨am,au⟩:∃ y,d.list[k]? = some y:=⟨_,AP AB⟩
 have cy:=AX au; have b6:=AQ au
 obtain ⟨_,rfl,bD⟩:=h2.elem k am au
 refine .lh 7 0 bD id<|GA.Bz (i:=8) AA (fun b7 av=>DO d am (h1.ta.ext av) (h2.ta.ext av) (h3.ta.ext av) (w:=b7) (F:=all)) ?_
 have aR:(Ao d am).toNat< d.files.length:=(by exact (FM (Cr (CU ‹_›).2.2.2 _ ‹_›)).1)
 refine GA.idx (i:=9) ((Ao d am).toNat) (len:=d.files.length) (z:=Ao d am) (sz:=3) AA (by exact (FM (Cr (CU ‹_›).2.2.2 _ ‹_›)).2) aR (h1.addr (Nat.zero_lt_of_lt aR))<|.r [10] ?_
 obtain ⟨al,aw⟩:∃ y,d.files[(Ao d am).toNat]? = some y:=⟨_,AP AB⟩
 have cz:=AX aw; have b8:=AQ aw
 obtain ⟨_,⟨b9,dg,cd,ce,dh,cg,rfl,ae,af⟩,bE⟩:=h1.elem ((Ao d am).toNat) al aw
 have bF:=ae.len
 subst bF
 have cA:=ae.max
 have bG:=af.len
 subst bG
 have cB:=af.max
 refine .lg 11 1 bE id<|.go 12<|.nw (fun b=>.pointer (some ⟨b,0,none⟩)) 42 [.slice none 0 0,.slice none 0 0] fun dj aS=>?_
 replace ⟨h6,E,J,ae,af,C,O⟩:=(se [ab,aa] aS).g7 h6 E J ae af C O
 intro ag dm ak aT ax bH
 have cC:=AS ak E.lt
 have cD:=AS ak J.lt
 have cE:=C.cn ak
 have cF:=O.cn ak
 replace ⟨h6,E,J,ae,af,C,O⟩:=(sn [ab,aa] aT ak).g7 h6 E J ae af C O
 refine .d fun dp aU=>?_
 replace ⟨h6,E,J,ae,af,ax,C,O⟩:=(se [ag,ab,aa] aU).g8 h6 E J ae af ax C O
 refine .sc [.slice b9 al.part.ids.length cd,.slice ce al.part.blocks.length cg] ax fun bz aV ac bI=>?_
 replace ⟨h6,E,J,ae,af,C,O⟩:=(so [ag,ab,aa] aV).g7 h6 E J ae af C O
 refine .d<|.s<|.g<|.r 1<|.d<|.b 4<|T.loop (X:=Nat) 1 (fun k1=>[(2,.pointer (some ⟨aa,0,none⟩)),(3,.pointer (some ⟨ab,0,none⟩)),(6,vI (k:Int)),(7,.pointer (some ⟨ag,0,none⟩)),(8,vI (k1:Int))]) (fun k1 aW=>Chg (ins []) bz aW∧(1≤k1)∧(k1≤7)∧(Rr d s k k1)) (fun k1=>7 - k1) AA ⟨AA,AA,AA,AA,AA,trivial⟩ ⟨Chg.refl _ _,AB,AB,(by exact Up _ _ _)⟩ ?_
 rintro k1 dq aW ⟨W,cG,cH,cI⟩ aD
 have aX:Mv [ag,ab,aa] [ag,ab,aa] bz aW:=Mv.inl W all_nil (all_cons (.inl AD) (all_cons (.inl AE) (all_cons (.inl AF) all_nil)))
 replace ⟨h6,E,J,ae,af,ac,C,O⟩:=(sp aX W).g8 h6 E J ae af ac C O
 refine .s<|.s<|.g<|.r 1<|.bp ((k1:Int)≤6) (fun bJ=>?_) (fun bJ=>.d<|.cf<|.x 4 rfl<|.ib 3<|.g<|.r 1<|.it ((k:Int)+1)<|.r 1<|.d<|aC (k+1) _ _ ⟨AA,AA,AA,trivial⟩ ⟨O,AB,(by exact Us ‹_› ‹_› AB ‹_› (Ty ‹_›) p1)⟩ AB)
 refine .d<|.ct<|.sk<|.s<|.b 5<|.s<|.gd nil 10 fun dr aY=>?_
 replace ⟨h6,E,J,ae,af,ac,C,O,W⟩:=(se [ag,ab,aa] aY).g9 h6 E J ae af ac C O W
 refine .ln 0 ac id<|.r [1,4]<|.lb 5 J id<|.r [6] ?_
 have aZ:k< s.parts.length:=AB
 refine GA.idx (i:=7) k (len:=s.parts.length) (z:=(k:Int)) (sz:=2) AA AB aZ (h6.addr (Nat.zero_lt_of_lt aZ)) ?_
 obtain ⟨aq,ay⟩:∃ y,s.parts[k]? = some y:=⟨_,AP AB⟩
 have cJ:=AX ay; have ci:=AQ ay
 obtain ⟨_,⟨dt,du,dv,dw,dx,dy,rfl,ai,aj⟩,bK⟩:=h6.elem k aq ay
 have bL:=ai.len
 subst bL
 have cK:=ai.max
 have bM:=aj.len
 subst bM
 have cL:=aj.max
 refine .lg 8 0 bK id<|.r [9]<|.go 2<|.cl (fun ba ar=>Dw al.part (k1:Int) (ae.ext ar) (af.ext ar) (by (have q1:=(p0.file _ ‹_›).sz.1; omega)) (w:=ba) (F:=nin (fo F w.heap.size) [ag,ab,aa])) ?_
 intro ba ar
 replace ⟨E,J,ac,ai,aj,C,O,W⟩:=(se [ag,ab,aa] ar).g8 E J ac ai aj C O W
 rintro dz dA ⟨⟨dB,dC,rfl,aA⟩,az⟩
 have bc:=al3 ac.lt J.lt E.lt
 have bN:Gb w.heap.size ba.heap.size:=C.size
 have hkeep_:=az
 replace ⟨E,J,ac,ai,aj,C,O,W⟩:=(se [ag,ab,aa] az).g8 E J ac ai aj C O W
 refine ⟨Ext.chg hkeep_,?_⟩
 replace aA:=RepS.Aa (M:=[ag,ab,aa]) aA bc bN
 have cM:=aA.max
 refine GA.Bz (i:=3) AA (fun cj bO=>FN (partOf al.part (k1:Int)) (aA.ta.ext bO) (by exact Ck (p0.file _ ‹_›).sz _) (w:=cj) (F:=all))<|.d fun bA bd=>?_
 replace ⟨E,J,ac,ai,aj,C,O,W⟩:=(se [ag,ab,aa] bd).g8 E J ac ai aj C O W
 refine .cl (Dw aq (k1:Int) ai aj (by (have q1:=(p1.part _ ‹_›).sz.1; omega)) (w:=bA) (F:=nin (fo F w.heap.size) [ag,ab,aa])) ?_
 rintro dD ck ⟨⟨dE,dF,rfl,aB⟩,bg⟩
 have bh:=al3 ac.lt J.lt E.lt
 have bP:Gb w.heap.size bA.heap.size:=C.size
 replace ⟨C,O,W⟩:=(se [] bg).g3 C O W
 replace aB:=RepS.Aa (M:=[ag,ab,aa]) aB bh bP
 have cN:=aB.max
 refine .cl (FN (partOf aq (k1:Int)) aB.ta (by exact Ck (p1.part _ ‹_›).sz _) (w:=ck) (F:=all)) ?_
 rintro dG dH ⟨rfl,bi⟩
 replace ⟨C,O,W⟩:=(se [] bi).g3 C O W
 refine RG.eqv (v:=.bool (!(EF (partOf al.part (k1:Int))==EF (partOf aq (k1:Int))))) AA (SY (EF (partOf al.part (k1:Int))) (EF (partOf aq (k1:Int)))) ?_
 cases cO:(EF (partOf al.part (k1:Int))==EF (partOf aq (k1:Int)))
 ·exact .d<|.ct<|.s<|.g<|.r 1<|.d<|.rt Tryz.func55 Tryz.results55 (.bool false) ⟨(congrArg Value.bool (by exact Ur ‹_› ‹_› ‹_› ‹_›)),C⟩
 exact .d<|.cf<|.sk<|.ib 5<|.g<|.r 1<|.it ((k1:Int)+1)<|.r 1<|.d<|aD (k1+1) _ _ ⟨AA,AA,AA,AA,AA,trivial⟩ ⟨W,AB,AB,(by exact Uq ‹_› ‹_› (Ty ‹_›) p1 ‹_› ‹_› ‹_› ‹_›)⟩ AB
theorem C2 (d:Dsk) (s:Sto) {w:World} {F:Nat→Prop} {a1:Option Addr} {n1 c1:Nat} (h1:RepS w F a1 n1 c1 d.files) {a2:Option Addr} {n2 c2:Nat} (h2:RepS w F a2 n2 c2 d.list) {a3:Option Addr} {n3 c3:Nat} (h3:RepS w F a3 n3 c3 d.names) {a4:Option Addr} {n4 c4:Nat} (h4:RepS w F a4 n4 c4 s.idx.names) {a5:Option Addr} {n5 c5:Nat} (h5:RepS w F a5 n5 c5 s.idx.AV) {a6:Option Addr} {n6 c6:Nat} (h6:RepS w F a6 n6 c6 s.parts) {a7:Option Addr} {n7 c7:Nat} (h7:RepS w F a7 n7 c7 s.mem) (p0:DD d) (p1:SD s):Calls Tryz.prog 18 [.agg #[.slice a1 n1 c1,.slice a2 n2 c2,.slice a3 n3 c3,.int .i64 d.next],.agg #[.slice a4 n4 c4,.slice a5 n5 c5,.slice a6 n6 c6,.slice a7 n7 c7]].toArray w (As fun rv w'=>VL (ge w.heap.size) w' (BA d s:List Stp) rv∧Ext w w'):=by
 refine goT Tryz.func18 ?_
 obtain ⟨rfl,aD,h1⟩:=h1.tp
 obtain ⟨rfl,aE,h2⟩:=h2.tp
 obtain ⟨rfl,aF,h3⟩:=h3.tp
 obtain ⟨rfl,aG,h4⟩:=h4.tp
 obtain ⟨rfl,aH,h5⟩:=h5.tp
 obtain ⟨rfl,aI,h6⟩:=h6.tp
 obtain ⟨rfl,aJ,h7⟩:=h7.tp
 refine .s<|.g<|.np 27 [.slice a1 d.files.length c1,.slice a2 d.list.length c2,.slice a3 d.names.length c3,vI d.next] fun W aO af aa E am=>?_
 replace ⟨h1,h2,h3,h4,h5,h6,h7⟩:=(sn [] aa af).g7 h1 h2 h3 h4 h5 h6 h7
 have C:=aa
 refine .np 34 [.slice a4 s.idx.names.length c4,.slice a5 s.idx.AV.length c5,.slice a6 s.parts.length c6,.slice a7 s.mem.length c7] fun ac az ag ah J ao=>?_
 replace ⟨h1,h2,h3,h4,h5,h6,h7,E,C⟩:=(sn [W] ah ag).g9 h1 h2 h3 h4 h5 h6 h7 E C
 refine .r 1<|.d<|.s<|.s<|.g<|.ln E<|.ln J<|.cl (Jh d s h1.ta h2.ta h3.ta h4.ta h5.ta h6.ta h7.ta p0 p1 (w:=az) (F:=all)) ?_
 rintro aP aq ⟨rfl,ai⟩
 replace ⟨h1,h2,h3,h4,h5,h6,h7,E,J,C⟩:=(se [ac,W] ai).g10 h1 h2 h3 h4 h5 h6 h7 E J C
 cases aK:(CQ d s)
 ·refine .r 1<|.d<|.ct<|.s<|.g<|.ns 0 44 [] fun ab ar O aj au av=>?_
  have aL:=AS O E.lt
  have aM:=AS O J.lt
  have aw:=Ad O C.size
  replace ⟨h1,h2,h3,h4,h5,h6,h7,E,J,C⟩:=(sn [ac,W] aj O).g10 h1 h2 h3 h4 h5 h6 h7 E J C
  have ax:Own (α:=Stp) ar ab 44 (nin (ge w.heap.size) [ab,ac,W]) 0 0 []:=Own.Ag au
  refine .r 1<|.d ?_
  have aA:=ax.sl aw
  replace ⟨h1,h2,h3,h4,h5,h6,h7⟩:=(sd ar [ab,ac,W] ab).g7 h1 h2 h3 h4 h5 h6 h7
  exact .rt Tryz.func18 Tryz.results18 (vS ab 0 0) ⟨(aA.vl (by exact (Kd ‹_›).symm) (fun _ _ h=>h.1)),C⟩
 refine .r 1<|.d<|.cf<|.sk<|.s<|.g<|.ln E<|.ln J<|.cl (F7 d s h1.ta h2.ta h3.ta h4.ta h5.ta h6.ta h7.ta (by have:=p1.nm2; omega) (StoK.of p1 (C1 ‹_›).sk).Ja.Hs (by have:=p0.nl; omega) (by have:=p1.nm.len; omega) (fun n hn=>(p1.nm.sz n hn).1) (w:=aq) (F:=all)) ?_
 rintro aQ aR ⟨⟨aB,aC,rfl,ae⟩,ak⟩
 have al:=al2 J.lt E.lt
 have ay:Gb w.heap.size aq.heap.size:=C.size
 replace C:=(se [] ak).g1 C
 have ae:=ae.fr al ay
 have aN:=ae.max
 exact .r 1<|.d<|.rt Tryz.func18 Tryz.results18 (.slice aB ((BZ d s).length) aC) ⟨(ae.vl (by exact (IH ‹_›).symm) (fun _ _ h=>h.1)),C⟩
end Go.Proofs.YtganlmloonielaaGreat
namespace Go.Proofs.YtganlmloonielaaGreat
def TV:Dsk:=⟨[],[],[],0⟩
def BP (d:Dsk) (st:List Stp) (c:Int):Dsk:=if Af d=true∧0≤c∧Af (toD d st c)=true then toD d st c else TV
def AT (d:Dsk) (a:Int):List Stp:=if Af d then Ba d a else []
theorem IK {d:Dsk} {a:Int} (h:Af d=true):AT d a=Ba d a:=by unfold AT; rw [if_pos h]
theorem IL {d:Dsk} {a:Int} (h:Af d=false):AT d a=[]:=by unfold AT; rw [if_neg (by simp [h])]
structure StW (d:Dsk) (st:List Stp):Prop where
 len:st.length≤4
 sz:∀ x∈st,JJ x
 pt:∀ x∈st,Cw x.part
 ok:∀ k:Nat,DD ((st.take k).foldl doD d)
theorem DD.T3 {d:Dsk} (h:DD d) {x:Stp} (hk:x.kind=1) (hf:d.files.length< 20) (hn:0≤x.num∧x.num≤998) (hp:PrtI x.part):DD (doD d x):=by
 rw [F8 hk]
 refine ⟨h.g,h.nl,by simp; omega,fun f hf=>?_,by show 0≤x.num+1∧x.num+1≤999; omega⟩
 rcases List.mem_append.1 hf with hf | hf
 ·exact h.file f hf
 ·simp at hf; subst hf; exact hp
theorem DD.Vq {d:Dsk} (h:DD d) {x:Stp} (hk:x.kind=2) (hl:x.list.length≤7) (hn:NmG x.names):DD (doD d x):=by
 rw [HE hk]
 exact ⟨hn,hl,h.nf,h.file,h.next⟩
theorem NJ {d:Dsk} {n:Int}:∀ f∈C4 d n,f∈d.files:=fun f hf=>by
 unfold C4 at hf
 split at hf
 ·rcases List.mem_append.1 hf with hf | hf
  ·exact List.mem_of_mem_take hf
  ·exact List.mem_of_mem_drop hf
 ·exact hf
theorem Ke {d:Dsk} {n:Int}:(C4 d n).length≤d.files.length:=by
 unfold C4
 split
 ·rw [List.length_append,List.length_take,List.length_drop]; omega
 ·exact Nat.le_refl _
theorem DD.Vr {d:Dsk} (h:DD d) {x:Stp} (hk:x.kind=3):DD (doD d x):=by
 rw [FG hk]
 exact ⟨h.g,h.nl,Nat.le_trans Ke h.nf,fun f hf=>h.file f (NJ f hf),h.next⟩
theorem Rv {d:Dsk} {x:Stp} {xs:List Stp} (h0:DD d) (h:∀ k:Nat,DD ((xs.take k).foldl doD (doD d x))):∀ k:Nat,DD (((x::xs).take k).foldl doD d):=by
 intro k
 cases k with
 | zero=>exact h0
 | succ k=>exact h k
theorem Rw {d:Dsk} (h0:DD d):∀ k:Nat,DD ((([]:List Stp).take k).foldl doD d):=by intro k; simpa using h0
theorem StW.nil {d:Dsk} (h:DD d):StW d []:=⟨by simp,by simp,by simp,Rw h⟩
theorem IM {x:Stp} (hl:x.list.length≤7) (hn:x.names.length≤7) (h5:∀ n∈x.names,n.length≤1000) (hx:-9000000≤x.num∧x.num≤9000000):JJ x:=⟨by omega,by omega,h5,hx.1,hx.2⟩
theorem Rx {ns:List (List Tag)} (h:NmG ns):∀ n∈ns,n.length≤1000:=fun n hn=>(h.sz n hn).1
theorem LU:Cw ⟨[],[]⟩:=⟨rfl,by simp,by simp⟩
theorem IN {d:Dsk} (h:DD d) {l:List Int} {ns:List (List Tag)} {xs:List Stp} (hl:l.length≤7) (hn:NmG ns) (hx:∀ x∈xs,x.kind=3∧JJ x∧x.part=⟨[],[]⟩) (h3:xs.length≤2):StW d (⟨2,0,⟨[],[]⟩,l,ns⟩ :: xs):=by
 refine ⟨by simp; omega,fun x hm=>?_,fun x hm=>?_,Rv h ?_⟩
 ·rcases List.mem_cons.1 hm with rfl | hm
  ·exact IM hl hn.len (Rx hn) (by simp)
  ·exact (hx x hm).2.1
 ·rcases List.mem_cons.1 hm with rfl | hm
  ·exact LU
  ·rw [(hx x hm).2.2]; exact LU
 ·have key:∀ (xs:List Stp) (d:Dsk),DD d→(∀ x∈xs,x.kind=3)→∀ k:Nat,DD ((xs.take k).foldl doD d):=by
   intro xs
   induction xs with
   | nil=>intro d h _; exact Rw h
   | cons x xs ih=>intro d h hk; exact Rv h (ih _ (h.Vr (hk x (by simp))) (fun y hy=>hk y (by simp [hy])))
  exact key xs _ (h.Vq rfl hl hn) (fun x hm=>(hx x hm).1)
theorem StW.T4 {d:Dsk} (h:DD d) {n:Int} {p:Prt} {xs:List Stp} (hf:d.files.length< 20) (hn:0≤n∧n≤998) (hp:PrtI p) (h3:xs.length≤3) (hx:StW (doD d ⟨1,n,p,[],[]⟩) xs):StW d (⟨1,n,p,[],[]⟩ :: xs):=by
 refine ⟨by simp; omega,fun x hm=>?_,fun x hm=>?_,Rv h hx.ok⟩
 ·rcases List.mem_cons.1 hm with rfl | hm
  ·exact IM (by simp) (by simp) (by simp) (by show -9000000≤n∧n≤9000000; omega)
  ·exact hx.sz x hm
 ·rcases List.mem_cons.1 hm with rfl | hm
  ·exact hp.sz
  ·exact hx.pt x hm
theorem T5 {s:Sto} (h:SD s):NmG s.idx.names:=NmG.of h.nm h.nd
theorem LV {s:Sto} (h:StoK s):PrtI (BK s.mem):=PrtI.mem h.row
theorem Cu {d:Dsk} {s:Sto} (h:DD d) (hs:SD s):StW d (BA d s)∧StW d (((BA d s).take (BA d s).length).drop 1):=by
 rw [List.take_length]
 unfold BA
 split
 ·rename_i hf
  have q:=C1 hf
  have hk:=CU q.dk
  by_cases hc:s.mem.length=0∨d.list.length≥6∨d.next≥999∨d.files.length≥20
  ·have e:BZ d s=[]:=by unfold BZ; rw [if_pos hc]
   rw [e]; exact ⟨StW.nil h,StW.nil h⟩
  ·have e:=FF (d:=d) (s:=s) AB AB AB AB
   rw [e]
   have hn:=h.next
   have h1:=IN (l:=d.list++[d.next]) (xs:=[]) h (by simp; omega) (T5 hs) (by simp) (by simp)
   have h2:DD (doD d ⟨1,d.next,BK s.mem,[],[]⟩):=h.T3 rfl AB (by show 0≤d.next∧d.next≤998; omega) (LV (StoK.of hs q.sk))
   exact ⟨StW.T4 h AB AB (LV (StoK.of hs q.sk)) (by simp) (IN h2 (by simp; omega) (T5 hs) (by simp) (by simp)),h1⟩
 ·exact ⟨StW.nil h,StW.nil h⟩
theorem LW {d:Dsk} {st:List Stp} {c:Int} (h:Af d=false∨c< 0∨Af (toD d st c)=false):(⟨[],[],[],0⟩:Dsk)=BP d st c:=by
 unfold BP
 rw [if_neg]
 ·rfl
 ·rintro ⟨h1,h2,h3⟩
  rcases h with h | h | h
  ·rw [h] at h1; cases h1
  ·omega
  ·rw [h] at h3; cases h3
theorem Rz {d:Dsk} {st:List Stp} {c:Int} (h:Af d=true) (h1:¬ c< 0) (h2:Af (toD d st c)=true):BP d st c=toD d st c:=by
 unfold BP
 rw [if_pos ⟨h,by omega,h2⟩]
theorem OD {d:Dsk} {st:List Stp} (c:Int) (h:StW d st):DD (toD d st c):=h.ok c.toNat
theorem DD.tidy {d:Dsk} (h:DD d):DD (BH d):=⟨h.g,h.nl,Nat.le_trans (List.length_filter_le _ _) h.nf,fun f hf=>h.file f (List.mem_filter.1 hf).1,h.next⟩
end Go.Proofs.YtganlmloonielaaGreat
namespace Go.Proofs.YtganlmloonielaaGreat
theorem O9:∀ (fs:List Fil) (n:Int) (i:Nat),0≤DH n i fs→∃ f,fs[(DH n i fs).toNat - i]? = some f∧f.num=n∧i≤(DH n i fs).toNat:=by
 intro fs
 induction fs with
 | nil=>intro n i h; exact absurd h (by unfold DH; omega)
 | cons x xs ih =>
   intro n i h
   unfold DH at h ⊢
   split at h
   ·next e =>
    rw [if_pos e]
    exact ⟨x,by simp,by simpa using e,by simp⟩
   ·next e =>
    rw [if_neg e]
    obtain ⟨f,h1,h2,h3⟩:=ih n (i+1) h
    refine ⟨f,?_,h2,by omega⟩
    rw [show (DH n (i+1) xs).toNat - i=((DH n (i+1) xs).toNat - (i+1))+1 by omega,List.getElem?_cons_succ]
    exact h1
end Go.Proofs.YtganlmloonielaaGreat
namespace Go.Proofs.YtganlmloonielaaGreat
theorem LZ (nx:Int):∀ (fs:List Fil) (o:Option Int),DG nx o fs=true↔(∀ f∈fs,1≤f.num∧f.num≤nx - 1∧Au f.part=true)∧fs.Pairwise (fun a b=>a.num< b.num)∧∀ q,o=some q→∀ f∈fs,q< f.num:=by
 intro fs
 induction fs with
 | nil=>intro o; simp [DG]
 | cons x xs ih =>
   intro o
   unfold DG
   simp only [AR]
   rw [ih]
   constructor
   ·rintro ⟨⟨⟨h1,h2⟩,h3⟩,h4,h5,h6⟩
    have h1:=CN h1
    refine ⟨fun f hf=>?_,List.pairwise_cons.2 ⟨fun f hf=>h6 _ rfl f hf,h5⟩,fun q hq f hf=>?_⟩
    ·rcases List.mem_cons.1 hf with rfl | hf
     ·exact ⟨h1.1,h1.2,h3⟩
     ·exact h4 f hf
    ·subst hq
     have hx:q< x.num:=by simpa using h2
     rcases List.mem_cons.1 hf with rfl | hf
     ·exact hx
     ·have:=h6 _ rfl f hf; omega
   ·rintro ⟨h1,h2,h3⟩
    obtain ⟨h4,h5⟩:=List.pairwise_cons.1 h2
    have hx:=h1 x (by simp)
    refine ⟨⟨⟨?_,?_⟩,hx.2.2⟩,fun f hf=>h1 f (by simp [hf]),h5,fun q hq f hf=>?_⟩
    ·unfold inR; rw [decide_eq_true hx.1,decide_eq_true hx.2.1]; rfl
    ·cases o with
     | none=>rfl
     | some q=>simpa using h3 q rfl x (by simp)
    ·cases hq
     exact h4 f hf
theorem L9:∀ (fs:List Fil) (i:Nat) (f:Fil),fs.Pairwise (fun a b=>a.num< b.num)→f∈fs→∃ k:Nat,DH f.num i fs=((i+k:Nat):Int)∧fs[k]? = some f:=by
 intro fs
 induction fs with
 | nil=>intro i f _ hf; cases hf
 | cons x xs ih =>
   intro i f hp hf
   obtain ⟨h1,h2⟩:=List.pairwise_cons.1 hp
   unfold DH
   rcases List.mem_cons.1 hf with rfl | hf
   ·exact ⟨0,by simp,rfl⟩
   ·have:=h1 f hf
    rw [if_neg (by simp; omega)]
    obtain ⟨k,g1,g2⟩:=ih (i+1) f h2 hf
    exact ⟨k+1,by rw [g1]; omega,by rw [List.getElem?_cons_succ]; exact g2⟩
theorem Ec {d:Dsk} (hp:d.files.Pairwise (fun a b=>a.num< b.num)) {f:Fil} (hf:f∈d.files):BD d f.num=f.part∧0≤Ao d f.num:=by
 obtain ⟨k,h1,h2⟩:=L9 d.files 0 f hp hf
 have h3:Ao d f.num=(k:Int):=by unfold Ao; rw [h1]; simp
 refine ⟨Dp (by rw [h3]; exact h2),by omega⟩
structure DskV (d:Dsk):Prop where
 next:1≤d.next∧d.next≤999
 nf:d.files.length≤20
 nl:d.list.length≤6
 file:∀ f∈d.files,1≤f.num∧f.num≤d.next - 1∧Au f.part=true
 asc:d.files.Pairwise (fun a b=>a.num< b.num)
 at_:∀ n∈d.list,∃ f∈d.files,f.num=n
 nd:d.list.Nodup
 nm:nmB d.names=true
 so:Ak (Ai d)=true
theorem CV {d:Dsk}:Af d=true↔DskV d:=by
 unfold Af
 simp only [AR,decide_eq_true_eq]
 constructor
 ·rintro ⟨⟨⟨⟨⟨h1,h2⟩,h3⟩,h4⟩,h5⟩,h6,h7⟩
  obtain ⟨g1,g2,_⟩:=(LZ _ _ _).1 h4
  unfold DZ at h5
  simp only [AR,decide_eq_true_eq,List.all_eq_true] at h5
  exact ⟨CN h1,h2,h3,g1,g2,fun n hn=>(E3 d n).1 (h5.1 n hn),h5.2,h6,h7⟩
 ·rintro ⟨h1,h2,h3,h4,h5,h6,h7,h8,h9⟩
  refine ⟨⟨⟨⟨⟨?_,h2⟩,h3⟩,(LZ _ _ _).2 ⟨h4,h5,by simp⟩⟩,?_⟩,h8,h9⟩
  ·unfold inR; rw [decide_eq_true h1.1,decide_eq_true h1.2]; rfl
  ·unfold DZ
   simp only [AR,decide_eq_true_eq,List.all_eq_true]
   exact ⟨fun n hn=>(E3 d n).2 (h6 n hn),h7⟩
theorem DskV.lt {d:Dsk} (h:DskV d):∀ n∈d.list,1≤n∧n< d.next:=fun n hn=>by
 obtain ⟨f,hf,rfl⟩:=h.at_ n hn
 have:=h.file f hf
 omega
theorem Tc {d e:Dsk} (hn:e.names=d.names) (hl:e.list=d.list) (hp:∀ n∈d.list,BD e n=BD d n):Ai e=Ai d:=by
 unfold Ai
 rw [hn,hl,List.map_congr_left hp]
theorem DskV.files {d:Dsk} (h:DskV d) {fs:List Fil} {nx:Int} (h1:1≤nx∧nx≤999) (h2:fs.length≤20) (h3:∀ f∈fs,1≤f.num∧f.num≤nx - 1∧Au f.part=true) (h4:fs.Pairwise (fun a b=>a.num< b.num)) (h5:∀ f∈d.files,f.num∈d.list→f∈fs) :
 DskV ⟨fs,d.list,d.names,nx⟩∧Ai ⟨fs,d.list,d.names,nx⟩=Ai d:=by
 have e:Ai ⟨fs,d.list,d.names,nx⟩=Ai d:=Tc rfl rfl (fun n hn=>by
  obtain ⟨f,hf,rfl⟩:=h.at_ n hn
  rw [(Ec h.asc hf).1,(Ec (d:=⟨fs,d.list,d.names,nx⟩) h4 (h5 f hf hn)).1])
 refine ⟨⟨h1,h2,h.nl,h3,h4,fun n hn=>?_,h.nd,h.nm,by rw [e]; exact h.so⟩,e⟩
 obtain ⟨f,hf,rfl⟩:=h.at_ n hn
 exact ⟨f,h5 f hf hn,rfl⟩
theorem DskV.add {d:Dsk} (h:DskV d) {p:Prt} (hp:Au p=true) (h1:d.next< 999) (h2:d.files.length< 20):DskV ⟨d.files++[⟨d.next,p⟩],d.list,d.names,d.next+1⟩∧Ai ⟨d.files++[⟨d.next,p⟩],d.list,d.names,d.next+1⟩=Ai d:=by
 have hn:=h.next
 refine h.files AB (by simp; omega) (fun f hf=>?_) ?_ (fun f hf _=>List.mem_append.2 (.inl hf))
 ·rcases List.mem_append.1 hf with hf | hf
  ·have:=h.file f hf
   exact ⟨this.1,by omega,this.2.2⟩
  ·simp at hf
   subst hf
   exact ⟨hn.1,by simp,hp⟩
 ·rw [List.pairwise_append]
  refine ⟨h.asc,by simp,fun a ha b hb=>?_⟩
  simp at hb
  subst hb
  have:=h.file a ha
  show a.num< d.next
  omega
theorem DskV.gone {d:Dsk} (h:DskV d) (n:Int):DskV ⟨C4 d n,d.list,d.names,d.next⟩∧Ai ⟨C4 d n,d.list,d.names,d.next⟩=Ai d:=by
 refine h.files h.next (Nat.le_trans Ke h.nf) (fun f hf=>h.file f (NJ f hf)) ?_ (fun f hf hm=>?_)
 ·refine h.asc.sublist ?_
  unfold C4
  split
  ·have e:=List.take_append_drop (Ao d n).toNat d.files
   conv=>rhs; rw [← e]
   refine List.Sublist.append (List.Sublist.refl _) ?_
   rw [← List.drop_drop]
   exact List.drop_sublist 1 _
  ·exact List.Sublist.refl _
 ·unfold C4
  split
  ·rename_i hc
   obtain ⟨k,g1,g2⟩:=L9 d.files 0 f h.asc hf
   have g3:Ao d f.num=(k:Int):=by unfold Ao; rw [g1]; simp
   by_cases hk:k< (Ao d n).toNat
   ·refine List.mem_append.2 (.inl (List.mem_iff_getElem?.2 ⟨k,?_⟩))
    rw [List.getElem?_take,if_pos hk]
    exact g2
   ·by_cases hk2:k=(Ao d n).toNat
    ·obtain ⟨y,hy1,hy2,_⟩:=(fun hh=>O9 d.files n 0 hh) hc.1
     have hy1':d.files[(Ao d n).toNat]? = some y:=hy1
     rw [← hk2,g2] at hy1'
     cases hy1'
     rw [hy2] at hm
     have:=hc.2
     rw [List.contains_iff_mem.2 hm] at this
     cases this
    ·refine List.mem_append.2 (.inr (List.mem_iff_getElem?.2 ⟨k - ((Ao d n).toNat+1),?_⟩))
     rw [List.getElem?_drop,show (Ao d n).toNat+1+(k - ((Ao d n).toNat+1))=k by omega]
     exact g2
  ·exact hf
theorem DskV.tidy {d:Dsk} (h:DskV d):DskV (BH d)∧Ai (BH d)=Ai d:=by
 refine h.files h.next (Nat.le_trans (List.length_filter_le _ _) h.nf) (fun f hf=>h.file f (List.mem_filter.1 hf).1) (h.asc.sublist List.filter_sublist) (fun f hf hm=>List.mem_filter.2 ⟨hf,?_⟩)
 simpa using hm
structure FlD (d:Dsk) (s:Sto):Prop where
 v:DskV d
 sd:SD s
 k:Ak s=true
 nb:nmB s.idx.names=true
 p:s.parts=d.list.map (BD d)
 m:s.mem≠[]
 l:d.list.length< 6
 n:d.next< 999
 f:d.files.length< 20
theorem FlD.of {d:Dsk} {s:Sto} (hs:SD s) (h:¬ ((BA d s).length:Int)=0):FlD d s∧BA d s=BZ d s:=by
 cases hf:CQ d s with
 | false=>rw [Kd hf] at h; exact absurd rfl h
 | true =>
   have q:=C1 hf
   have e:=IH hf
   by_cases hc:s.mem.length=0∨d.list.length≥6∨d.next≥999∨d.files.length≥20
   ·have e2:BZ d s=[]:=by unfold BZ; rw [if_pos hc]
    rw [e,e2] at h; exact absurd rfl h
   ·exact ⟨⟨CV.1 q.dk,hs,q.sk,q.nm,q.p,fun e2=>hc (.inl (by rw [e2]; rfl)),by omega,by omega,by omega⟩,e⟩
structure MgD (d:Dsk) (a:Nat) (x y:Int):Prop where
 v:DskV d
 dd:DD d
 l:a+2≤d.list.length
 hx:d.list[a]? = some x
 hy:d.list[a+1]? = some y
 n:d.next< 999
 f:d.files.length< 20
 e:Ba d a=[⟨1,d.next,BT (BD d x) (BD d y),[],[]⟩,⟨2,0,⟨[],[]⟩,d.list.take a++[d.next]++d.list.drop (a+2),d.names⟩,⟨3,x,⟨[],[]⟩,[],[]⟩,⟨3,y,⟨[],[]⟩,[],[]⟩]
theorem MgD.of {d:Dsk} {i:Int} (hd:DD d) (h:¬ ((AT d i).length:Int)=0):∃ x y,MgD d i.toNat x y∧AT d i=Ba d i.toNat∧i=(i.toNat:Int):=by
 cases hk:Af d with
 | false=>rw [IL hk] at h; exact absurd rfl h
 | true =>
   rw [IK hk] at h ⊢
   by_cases hc:(!(inR i 0 ((d.list.length:Int) - 2)) || decide (d.next≥999) || decide (d.files.length≥20))=true
   ·unfold Ba at h
    rw [if_pos hc] at h
    exact absurd rfl h
   ·have hc2:=hc
    simp only [Bool.or_eq_true,not_or,Bool.not_eq_true,Bool.not_eq_false',decide_eq_true_eq] at hc2
    obtain ⟨⟨h1,h3⟩,h4⟩:=hc2
    have h0:=CN (by simpa using h1)
    have ei:i=(i.toNat:Int):=by omega
    have hx:=AP (l:=d.list) (i:=i.toNat) AB
    have hy:=AP (l:=d.list) (i:=i.toNat+1) AB
    refine ⟨_,_,⟨CV.1 hk,hd,by omega,hx,hy,by omega,by omega,?_⟩,by rw [← ei],ei⟩
    rw [← ei]
    unfold Ba
    rw [if_neg hc]
    simp only [List.getD_eq_getElem?_getD,hx,hy,Option.getD_some]
section
variable {d:Dsk} {a:Nat} {x y:Int}
theorem MgD.list (q:MgD d a x y):d.list=d.list.take a++x::y::d.list.drop (a+2):=by
 have e:=List.take_append_drop a d.list
 rw [AX q.hx,AX q.hy] at e
 exact e.symm
theorem MgD.open (q:MgD d a x y):(Ai d).parts[a]? = some (BD d x)∧(Ai d).parts[a+1]? = some (BD d y)∧(Ai d).parts.length=d.list.length:=by
 unfold Ai
 simp only [List.getElem?_map,q.hx,q.hy,List.length_map]
 exact ⟨rfl,rfl,trivial⟩
theorem MgD.sd (q:MgD d a x y):SD (Ai d):=q.dd.sd (CV.2 q.v)
theorem MgD.part (q:MgD d a x y):Au (BT (BD d x) (BD d y))=true:=by
 have hl:a+2≤(Ai d).parts.length:=by rw [q.open.2.2]; exact q.l
 have h:=Gy q.sd q.v.so hl
 obtain ⟨u,w,hu,hw,e⟩:=Eu hl
 rw [q.open.1] at hu
 rw [q.open.2.1] at hw
 cases hu
 cases hw
 unfold Ak at h
 simp only [AR,decide_eq_true_eq,List.all_eq_true] at h
 exact Fl (h.1.1.2 _ (by rw [e]; simp))
theorem MgD.mem (q:MgD d a x y):∀ n∈d.list.take a++[d.next]++d.list.drop (a+2),n∈d.list∧n≠x∧n≠y∨n=d.next:=fun n hn=>by
 have hnd:=q.v.nd
 rw [q.list] at hnd
 rw [List.nodup_append,List.nodup_cons,List.nodup_cons] at hnd
 obtain ⟨n1,⟨n2,n3,n4⟩,n5⟩:=hnd
 rcases List.mem_append.1 hn with hn | hn
 ·rcases List.mem_append.1 hn with hn | hn
  ·exact .inl ⟨List.mem_of_mem_take hn,n5 n hn x (by simp),n5 n hn y (by simp)⟩
  ·simp at hn; exact .inr hn
 ·exact .inl ⟨List.mem_of_mem_drop hn,fun e=>n2 (by rw [← e]; simp [hn]),fun e=>n3 (by rw [← e]; exact hn)⟩
def mgD (d:Dsk) (a:Nat) (x y:Int):Dsk:=⟨d.files++[⟨d.next,BT (BD d x) (BD d y)⟩],d.list.take a++[d.next]++d.list.drop (a+2),d.names,d.next+1⟩
theorem MgD.v2 (q:MgD d a x y):DskV (mgD d a x y)∧Ai (mgD d a x y)=D6 (Ai d) a:=by
 obtain ⟨v1,o1⟩:=q.v.add q.part q.n q.f
 have hnew:BD (mgD d a x y) d.next=BT (BD d x) (BD d y):=(Ec (d:=mgD d a x y) v1.asc (f:=⟨d.next,BT (BD d x) (BD d y)⟩) (by unfold mgD; simp)).1
 have hold:∀ n∈d.list,BD (mgD d a x y) n=BD d n:=fun n hn=>by
  obtain ⟨f,hf,rfl⟩:=q.v.at_ n hn
  rw [(Ec q.v.asc hf).1,(Ec (d:=mgD d a x y) v1.asc (f:=f) (List.mem_append.2 (.inl hf))).1]
 have hl:a+2≤(Ai d).parts.length:=by rw [q.open.2.2]; exact q.l
 have eo:Ai (mgD d a x y)=D6 (Ai d) a:=by
  obtain ⟨u,w,hu,hw,e⟩:=Eu hl
  rw [q.open.1] at hu
  rw [q.open.2.1] at hw
  cases hu
  cases hw
  have h1:(Ai (mgD d a x y)).parts=(D6 (Ai d) a).parts:=by
   rw [e]
   show (d.list.take a++[d.next]++d.list.drop (a+2)).map (BD (mgD d a x y))=(d.list.map (BD d)).take a++[_]++(d.list.map (BD d)).drop (a+2)
   simp only [List.map_append,List.map_cons,List.map_nil]
   rw [hnew,List.map_congr_left (fun n hn=>hold n (List.mem_of_mem_take hn)),List.map_congr_left (l:=d.list.drop (a+2)) (fun n hn=>hold n (List.mem_of_mem_drop hn)),List.map_take,List.map_drop]
  show (⟨_,_,_⟩:Sto)=⟨_,_,_⟩
  have h2:(Ai (mgD d a x y)).parts=HO (Ai d).parts a:=h1
  unfold Ai at h2 ⊢
  simp only [] at h2 ⊢
  rw [h2]
  rfl
 refine ⟨⟨v1.next,v1.nf,?_,v1.file,v1.asc,fun n hn=>?_,?_,q.v.nm,by rw [eo]; exact Gy q.sd q.v.so hl⟩,eo⟩
 ·have:=q.v.nl
  show (d.list.take a++[d.next]++d.list.drop (a+2)).length≤6
  simp only [List.length_append,List.length_take,List.length_drop,List.length_cons,List.length_nil]
  have:=q.l
  omega
 ·rcases q.mem n hn with hn | rfl
  ·exact v1.at_ n hn.1
  ·exact ⟨⟨d.next,BT (BD d x) (BD d y)⟩,by unfold mgD; simp,rfl⟩
 ·show (d.list.take a++[d.next]++d.list.drop (a+2)).Nodup
  have hnd:=q.v.nd
  rw [q.list] at hnd
  rw [List.nodup_append,List.nodup_cons,List.nodup_cons] at hnd
  obtain ⟨n1,⟨n2,n3,n4⟩,n5⟩:=hnd
  have hlt:=q.v.lt
  rw [List.append_assoc,List.nodup_append]
  refine ⟨n1,?_,fun u hu w hw=>?_⟩
  ·rw [List.singleton_append,List.nodup_cons]
   exact ⟨fun hm=>by have:=hlt _ (List.mem_of_mem_drop hm); omega,n4⟩
  ·have hu2:=hlt u (List.mem_of_mem_take hu)
   rcases List.mem_append.1 hw with hw | hw
   ·simp at hw; omega
   ·exact n5 u hu w (by simp [hw])
end
end Go.Proofs.YtganlmloonielaaGreat
namespace Go.Proofs.YtganlmloonielaaGreat
theorem ER {d:Dsk} {st:List Stp} {c:Int} (h:DD d) (hw:Af d=true→StW d st):DD (BP d st c):=by
 unfold BP
 split
 ·rename_i hc
  exact OD c (hw hc.1)
 ·exact Rg
end Go.Proofs.YtganlmloonielaaGreat
