/- What asking computes, as plain functions, and its laws. -/
import Derived.Test.YtfninflnngpchaaGreatWkzW20
import Derived.Shelf.Lays
import Derived.Shelf.Strings.OnBuilder
open Go.Proofs.Tryz
set_option linter.unusedVariables false
set_option linter.unusedSimpArgs false
namespace Go.Proofs.YtfninflnngpchaaGreat
section
variable {P:Program} {f:FuncId} {fn:Func} {R:Value→World→Prop} {c:Code} {e:Env} {w:World}
theorem Qz (f:ResultVar→Sem Value) (r r' r2 r3:ResultVar):(#[r,r',r2,r3]).mapM f=(do let v ← f r; let v' ← f r'; let v2 ← f r2; let v3 ← f r3; pure #[v,v',v2,v3]):=by
 simp
theorem Jk {a:Act}{r r' r'' r''':ResultVar}{v v' v'' v''':Value}(hs:Sees fn.ntmps a e) (hr:fn.results = #[r,r',r'',r''']) (h:BN P w e r v) (h':BN P w e r' v') (h'':BN P w e r'' v'') (h3:BN P w e r''' v''') :
 (results fn a.tmps).run P w=.ok (.tuple #[v,v',v'',v''']) w:=by
 rw [Dv,hr,Qz]
 refine AX (a:=#[v,v',v'',v''']) ?_
 rw [AX (h.run hs),AX (h'.run hs),AX (h''.run hs),AX (h3.run hs)]
 rfl
theorem T.RW {k}{r r' r'' r''':ResultVar}{v v' v'' v''':Value}(h:Db c=true) (hf:P.funcs[f]? = some fn) (hres:fn.results = #[r,r',r'',r''']) (h1:BN P w e r v) (h2:BN P w e r' v') (h3:BN P w e r'' v'') (h4:BN P w e r''' v''')
 (hR:R (.tuple #[v,v',v'',v''']) w):T P f fn R (.code c::k) e w :=
 T.LQ h (fun _ hs=>Jk hs hres h1 h2 h3 h4) hf hR
theorem T.r4 {k}{r r' r'' r''':ResultVar}{v v' v'' v''':Value}(hf:P.funcs[f]? = some fn) (hres:fn.results = #[r,r',r'',r''']) (h1:BN P w e r v) (h2:BN P w e r' v') (h3:BN P w e r'' v'') (h4:BN P w e r''' v''') (hR:R (.tuple #[v,v',v'',v''']) w) (h:Db c=true:=by kernel_rfl):T P f fn R (.code c::k) e w :=
 T.RW h hf hres h1 h2 h3 h4 hR
end
def Nw (b:List Row) (lo hi:Int):List Row:=b.filter (fun r=>inR r.t lo hi)
def PA (b:List Row) (lo hi:Int):List Row:=if Af b then Nw b lo hi else []
def fits (f:List Cnd) (n:List Tag):Bool:=f.all (fun c=>has n c.tag != c.no)
def K5 (f:List Cnd):Bool:=f.all (fun c=>Ba c.tag)&&decide (f.length≤3)
def KM (f:List Cnd) (n:List Tag):Bool:=K5 f&&Aj n&&fits f n
def EE (p:List Tag→Bool):Nat→List (List Tag)→List Int
 | _,[]=>[]
 | i,n::ns=>(if p n then [(i:Int)+1] else [])++EE p (i+1) ns
def K6 (s:Sto) (lo hi:Int) (id:Int):List Hit:=if (Nw (rowsOf s id) lo hi).length > 0 then [⟨text (s.idx.names.getD (id - 1).toNat []),Nw (rowsOf s id) lo hi⟩] else []
def Q0 (p:List Tag→Bool) (s:Sto) (lo hi:Int):List Hit:=(EE p 0 s.idx.names).flatMap (K6 s lo hi)
def K7 (s:Sto) (f:List Cnd) (lo hi:Int):List Hit:=if AZ s&&K5 f then Q0 (fits f) s lo hi else []
theorem MW {p:List Tag→Bool}:∀ (l:List (List Tag)) (i:Nat) (x:Int),x∈EE p i l→(i:Int)+1≤x∧x≤(i:Int)+l.length:=by
 intro l
 induction l with
 | nil=>intro i x h; simp [EE] at h
 | cons n ns ih =>
   intro i x h
   unfold EE at h
   rcases List.mem_append.1 h with h | h
   ·split at h
    ·simp at h; subst h; simp only [List.length_cons]; omega
    ·cases h
   ·have:=ih (i+1) x h
    simp only [List.length_cons]; omega
theorem KN {p:List Tag→Bool}{l:List (List Tag)}{x:Int}(h:x∈EE p 0 l):1≤x∧x≤l.length:=by have:=MW l 0 x h; omega
theorem Nx {s:Sto}{i:Int}(hk:AZ s=true) (h1:1≤i) (h2:i≤s.idx.names.length):KI s i=rowsOf s i:=MQ hk (by unfold inR; simp [h1,h2])
theorem QE {s:Sto}(h:SD s) (hk:AZ s=true) (i:Int):Blk (rowsOf s i):=by
 have hI:=(StoK.of h hk).RV
 have key:∀ (mem:List Smp) (o:List Row),(∀ m∈mem,BF m.row=true)→Blk o→Blk (mem.foldl (Bp i) o):=by
  intro mem
  induction mem with
  | nil=>intro o _ ho; exact ho
  | cons m ms ih =>
    intro o hm ho
    refine ih _ (fun q hq=>hm q (by simp [hq])) ?_
    unfold Bp
    split
    ·exact ho.put (hm m AD)
    ·exact ho
 have key2:∀ (ps:List Prt) (o:List Row),(∀ p∈ps,PrtI p)→Blk o→Blk (ps.foldl (Bf i) o):=by
  intro ps
  induction ps with
  | nil=>intro o _ ho; exact ho
  | cons p ps ih=>intro o hp ho; exact ih _ (fun q hq=>hp q (by simp [hq])) (ho.merge ((hp p AD).of i))
 exact key _ _ (fun m hm=>(hI.mem m hm).2.2) (key2 _ _ hI.part Blk.nil)
theorem Q1 {s:Sto}(hk:AZ s=true){i:Int}(h1:1≤i) (h2:i≤s.idx.names.length):(rowsOf s i).length≤24:=by
 unfold AZ at hk
 simp only [AW,decide_eq_true_eq,List.all_eq_true,List.mem_range,Cu] at hk
 have:=hk.2 (i.toNat - 1) AB
 rwa [show ((i.toNat - 1:Nat):Int)+1=i by omega] at this
theorem Ny {s:Sto}(h:SD s) (hk:AZ s=true){i:Int}(h1:1≤i) (h2:i≤s.idx.names.length):Af (rowsOf s i)=true:=by
 unfold Af
 have a1:A9 none (rowsOf s i)=true:=QE h hk i
 rw [a1,Bool.true_and,decide_eq_true_eq]
 exact Q1 hk h1 h2
theorem MX {s:Sto}(h:SD s) (hk:AZ s=true){i:Int}(h1:1≤i) (h2:i≤s.idx.names.length) (lo hi:Int):PA (rowsOf s i) lo hi=Nw (rowsOf s i) lo hi:=by
 unfold PA; rw [if_pos (Ny h hk h1 h2)]
end Go.Proofs.YtfninflnngpchaaGreat
namespace Go.Proofs.YtfninflnngpchaaGreat
theorem Fi {b:List Row}(h:Af b=true):Blk b:=by
 unfold Af at h
 simp only [AW] at h
 exact h.1
def Nz (a b:List Row):List Row × Bool:=if Af a=true∧Af b=true∧¬ ((BH a b).length:Int) > 24 then (BH a b,true) else ([],false)
def okM (a b:Prt) (n:Nat):Bool:=(List.range n).all (fun i=>(Nz (Bd a ((i:Int)+1)) (Bd b ((i:Int)+1))).2)
def N1 (a b:Prt):Prt × Bool:=if Ac a=true∧Ac b=true∧okM a b 6=true then (Ce a b,true) else (⟨[],[]⟩,false)
def Bx (s:Sto) (at_:Int):Sto × Bool:=if AZ s then DV (EU s) at_ else (⟨⟨[],[]⟩,[],[]⟩,false)
theorem MY {s:Sto}{i:Int}(h:AZ s=false):Bx s i=(⟨⟨[],[]⟩,[],[]⟩,false):=by unfold Bx; rw [if_neg (by simp [h])]
theorem Hp {s:Sto}{i:Int}(h:AZ s=true):Bx s i=DV (EU s) i:=by unfold Bx; rw [if_pos h]
end Go.Proofs.YtfninflnngpchaaGreat
namespace Go.Proofs.YtfninflnngpchaaGreat
section
variable {P:Program} {n:Nat} {K:Env→World→Prop} {ops:Array Oper} {j:Nat} {e:Env} {w:World}
theorem RG.clear {ats:List TypeId}{ty:TypeId}{args:List Value}{v:Value}{w':World}(h:BZ n ops j e=some (.clear,ats,ty,args))
 (hr:(Builtin.clear_ ats.toArray ty args.toArray).run P w=.ok v w') (H:RG P n K ops (j+1) (Ab e (Aa ops j).dst v) w'):RG P n K ops j e w:=by
 obtain ⟨hg,h⟩:=BQ h
 refine RG.val (v:=v) hg ?_ H
 split at h
 ·rename_i c hop
  split at h
  ·rename_i b hcal
   simp only [Option.some.injEq,Prod.mk.injEq] at h
   obtain ⟨rfl,rfl,rfl,rfl⟩:=h
   have ha:(c.args.toList.map (ev e)).toArray=c.args.map (ev e):=by apply Array.toList_inj.1; simp
   rw [ha,Array.toArray_toList] at hr
   simp only [execOp,hop,resolve,hcal]
   exact AX hr
  ·cases h
 ·cases h
end
variable {w:World} {F:Nat→Prop}
theorem PB {x:Prt}{cs:List Value}(h:Rep.rep w F x cs):∀ v∈cs,Cm v=true:=Rep.flat h
theorem Own.Cm {w:World}{r:Nat}{t:TypeId}{F:Nat→Prop}{n c i:Nat}{xs:List Prt}{cs:List Value}(h:Own w r t F n c xs) (hB:Box w r t cs):∀ v,i+(n - i)≤n→v∈(cs.drop (i * 2)).take ((n - i) * 2)→Go.Proofs.YtfninflnngpchaaGreat.Cm v=true:=by
 intro v hin hv
 obtain ⟨k,hk⟩:=List.mem_iff_getElem?.1 hv
 rw [List.getElem?_take] at hk
 split at hk
 ·rename_i hlt
  rw [List.getElem?_drop] at hk
  have hn:=h.len
  have hj:i+k / 2< xs.length:=by omega
  obtain ⟨c1,g1,g2⟩:=h.elem (i+k / 2) xs[i+k / 2] (AU hj)
  have hl:c1.length=2:=Rep.len g1
  have hk2:k % 2< c1.length:=by omega
  have h3:=g2 (k % 2) c1[k % 2] (AU hk2)
  have hz:Rep.sz Prt=2:=rfl
  unfold Box at hB
  rw [add_lit,hz] at h3
  simp only [World.cell?,hB] at h3
  have e:(i+k / 2) * 2+k % 2=i * 2+k:=by omega
  rw [e] at h3
  have h4:cs[i * 2+k]? = some c1[k % 2]:=by simpa using h3
  rw [hk] at h4
  cases h4
  exact PB g1 _ (List.getElem_mem hk2)
 ·cases hk
theorem MZ:∀ (is:List Int) (bs:List (List Row)) (o:Option Int),Ai o is bs=true→is.length=bs.length→∀ b∈bs,Af b=true:=by
 intro is
 induction is with
 | nil =>
   intro bs o _ hl b hb
   cases bs with
   | nil=>cases hb
   | cons c cs=>simp at hl
 | cons i is ih =>
   intro bs o h hl b hb
   cases bs with
   | nil=>cases hb
   | cons c cs =>
     unfold Ai at h
     simp only [AW] at h
     rcases List.mem_cons.1 hb with rfl | hb
     ·exact h.1.2
     ·exact ih cs (some i) h.2 (by simpa using hl) b hb
theorem C6 {p:Prt}(h:Ac p=true) (id:Int):Af (partOf p id)=true:=by
 rcases Fx id p.ids p.blocks with h1 | h1
 ·unfold partOf; rw [h1]; rfl
 ·unfold Ac at h
  simp only [AW,decide_eq_true_eq] at h
  exact MZ p.ids p.blocks none h.2 h.1 _ h1
theorem K8 {id t:Int}:∀ (ps:List Prt) (o:List Row),(∀ p∈ps,PrtI p)→Blk o→((look t o).isSome=true∨∃ p∈ps,(look t (partOf p id)).isSome=true)→(look t (ps.foldl (Bf id) o)).isSome=true:=by
 intro ps
 induction ps with
 | nil =>
   rintro o _ _ (h | ⟨p,hp,_⟩)
   ·exact h
   ·cases hp
 | cons p ps ih =>
   intro o hI ho h
   have hp:Blk (partOf p id):=(hI p AD).of id
   refine ih _ (fun q hq=>hI q (by simp [hq])) (ho.merge hp) ?_
   have e:look t (Bf id o p)=(look t (partOf p id)).or (look t o):=Bl t o ho hp
   rcases h with h | ⟨q,hq,h⟩
   ·refine .inl ?_
    rw [e]
    cases look t (partOf p id) with
    | none=>exact h
    | some x=>rfl
   ·rcases List.mem_cons.1 hq with rfl | hq
    ·refine .inl ?_
     rw [e]
     obtain ⟨x,hx⟩:=Option.isSome_iff_exists.1 h
     rw [hx]; rfl
    ·exact .inr ⟨q,hq,h⟩
theorem HI {p:Prt}{n:Int}(h:Ax p n=true):∀ i∈p.ids,i≤n:=by
 unfold Ax at h
 simp only [AW] at h
 obtain ⟨h1,h2⟩:=h
 unfold Ac at h1
 simp only [AW,decide_eq_true_eq] at h1
 have key:∀ (is:List Int) (bs:List (List Row)) (o:Option Int),Ai o is bs=true→(∀ q,o=some q→∀ i∈is,q< i)∧∀ l,is.getLast? = some l→∀ i∈is,i≤l:=by
  intro is
  induction is with
  | nil=>intro bs o _; exact ⟨fun _ _ i hi=>(by cases hi),fun l hl=>(by simp at hl)⟩
  | cons x xs ih =>
    intro bs o hg
    cases bs with
    | nil=>simp [Ai] at hg
    | cons b bs =>
      simp only [Ai,AW] at hg
      obtain ⟨k1,k2⟩:=ih bs (some x) hg.2
      have hx:∀ q,o=some q→q< x:=fun q hq=>by
       have:=hg.1.1.1.2
       rw [hq] at this
       simpa using this
      refine ⟨fun q hq i hi=>?_,fun l hl i hi=>?_⟩
      ·rcases List.mem_cons.1 hi with rfl | hi
       ·exact hx q hq
       ·have:=k1 x rfl i hi; have:=hx q hq; omega
      ·cases hc:xs.getLast? with
       | none =>
         have:xs=[]:=List.getLast?_eq_none_iff.1 hc
         subst this
         simp at hl hi
         omega
       | some l2 =>
         have e:(x::xs).getLast? = some l2:=by rw [List.getLast?_cons,hc]; rfl
         rw [e] at hl
         cases hl
         rcases List.mem_cons.1 hi with rfl | hi
         ·have:=k1 i rfl l (List.mem_of_getLast? hc); omega
         ·exact k2 l hc i hi
 intro i hi
 cases hl:p.ids.getLast? with
 | none=>rw [hl] at h2; cases h2
 | some l =>
   rw [hl] at h2
   have:=(key p.ids p.blocks none h1.2).2 l hl i hi
   have h3:l≤n:=by simpa using h2
   omega
theorem GQ {p:Prt}{id:Int}(h:∀ i∈p.ids,i< id):partOf p id=[]:=by
 have key:∀ (is:List Int) (bs:List (List Row)),(∀ i∈is,i< id)→Az id is bs=[]:=by
  intro is
  induction is with
  | nil=>intro bs _; unfold Az; rfl
  | cons i is ih =>
    intro bs h
    cases bs with
    | nil=>unfold Az; rfl
    | cons b bs =>
      unfold Az
      rw [if_neg (by have:=h i AD; simp; omega)]
      exact ih bs (fun j hj=>h j (by simp [hj]))
 exact key _ _ h
theorem N2 {s:Sto}(h:SD s) (hk:AZ s=true){x y:Prt}(hx:x∈s.parts) (hy:y∈s.parts):N1 x y=(Ce x y,true):=by
 have hK:=StoK.of h hk
 have ox:=(hK.part x hx).2
 have oy:=(hK.part y hy).2
 unfold N1
 rw [if_pos]
 refine ⟨ox,oy,?_⟩
 unfold okM
 rw [List.all_eq_true]
 intro i hi
 rw [List.mem_range] at hi
 have e1:Bd x ((i:Int)+1)=partOf x ((i:Int)+1):=by unfold Bd; rw [if_pos ox]
 have e2:Bd y ((i:Int)+1)=partOf y ((i:Int)+1):=by unfold Bd; rw [if_pos oy]
 rw [e1,e2]
 have b1:=C6 ox ((i:Int)+1)
 have b2:=C6 oy ((i:Int)+1)
 have hl:(BH (partOf x ((i:Int)+1)) (partOf y ((i:Int)+1))).length≤24:=by
  unfold AZ at hk
  simp only [AW,decide_eq_true_eq,List.all_eq_true,List.mem_range,Cu] at hk
  by_cases hin:i< s.idx.names.length
  ·have bb:=(Fi b1).merge (Fi b2)
   have hP:Blk (s.parts.foldl (Bf ((i:Int)+1)) []):=GP h.part Blk.nil
   refine Nat.le_trans (Ly bb (b:=rowsOf s ((i:Int)+1)) ?_ (fun t ht=>?_)) (hk.2 i hin)
   ·exact (Ds 0 _ s.mem _ hK.row hP).2
   ·refine O9 hK _ t (.inl (K8 s.parts [] h.part Blk.nil (.inr ?_)))
    rw [Bl t _ (Fi b1) (Fi b2)] at ht
    cases hc:look t (partOf y ((i:Int)+1)) with
    | some q=>exact ⟨y,hy,by rw [hc]; rfl⟩
    | none=>rw [hc] at ht; exact ⟨x,hx,ht⟩
  ·have g:=fun p hp=>GQ (p:=p) (id:=(i:Int)+1) (fun j hj=>by have:=HI (hk.1.1.2 p hp) j hj; omega)
   rw [g x hx,g y hy]
   decide
 unfold Nz
 rw [if_pos ⟨b1,b2,by omega⟩]
theorem N3 {s:Sto}{i:Int}(_h:SD s) (hk:AZ s=true) (h1:inR i 0 ((s.parts.length:Int) - 2)=false):Bx s i=(EU s,false):=by
 rw [Hp hk]; exact NJ h1
end Go.Proofs.YtfninflnngpchaaGreat
namespace Go.Proofs.YtfninflnngpchaaGreat
theorem Ma {s:Sto}(h:SD s) (hk:AZ s=true){id:Int}{p:List Tag→Bool}(hid:id∈EE p 0 s.idx.names) (lo hi:Int):PA (KI s id) lo hi=Nw (rowsOf s id) lo hi:=by
 have:=KN hid
 rw [Nx hk this.1 this.2,MX h hk this.1 this.2]
def FF (s:Sto) (f:List Cnd) (lo hi:Int) (i k:Nat):Prop:=((EE (KM f) 0 s.idx.names).drop i).flatMap (K6 s lo hi)=(K7 s f lo hi).drop k
theorem FF.skip {s:Sto}{f:List Cnd}{lo hi:Int}{i k:Nat}{id:Int}(h:FF s f lo hi i k) (hs:SD s) (hk:AZ s=true) (hd:(EE (KM f) 0 s.idx.names).drop i=id::(EE (KM f) 0 s.idx.names).drop (i+1)) (hl:((PA (KI s id) lo hi).length:Int)=0):FF s f lo hi (i+1) k:=by
 have hm:id∈EE (KM f) 0 s.idx.names:=List.mem_of_mem_drop (by rw [hd]; simp)
 rw [Ma hs hk hm] at hl
 unfold FF at h ⊢
 rw [hd,List.flatMap_cons] at h
 have e:K6 s lo hi id=[]:=by unfold K6; rw [if_neg AB]
 rw [e,List.nil_append] at h
 exact h
theorem FF.fin {s:Sto}{f:List Cnd}{lo hi:Int}{i k:Nat}(h:FF s f lo hi i k) (hi2:(EE (KM f) 0 s.idx.names).length≤i):(K7 s f lo hi).length≤k:=by
 unfold FF at h
 rw [AY hi2] at h
 have:=congrArg List.length h
 simp only [List.flatMap_nil,List.length_nil,List.length_drop] at this
 omega
end Go.Proofs.YtfninflnngpchaaGreat
namespace Go.Proofs.YtfninflnngpchaaGreat
theorem N4 {s x:Sto}{f:List Cnd}(hi:x.idx=s.idx) (hk:AZ s=AZ x) (hr:AZ s=true→∀ id:Int,1≤id→id≤s.idx.names.length→rowsOf x id=rowsOf s id) (lo hi2:Int):K7 x f lo hi2=K7 s f lo hi2:=by
 unfold K7
 rw [← hk]
 cases hs:AZ s&&K5 f with
 | false=>rfl
 | true =>
   simp only [AW] at hs
   rw [if_pos rfl,if_pos rfl]
   unfold Q0
   rw [hi]
   have key:∀ (l:List Int),(∀ i∈l,1≤i∧i≤s.idx.names.length)→l.flatMap (K6 x lo hi2)=l.flatMap (K6 s lo hi2):=by
    intro l
    induction l with
    | nil=>intro _; rfl
    | cons i is ih =>
      intro h
      rw [List.flatMap_cons,List.flatMap_cons,ih (fun j hj=>h j (by simp [hj]))]
      have h1:=h i AD
      unfold K6
      rw [hr hs.1 i h1.1 h1.2,hi]
   exact key _ (fun i hi=>KN hi)
end Go.Proofs.YtfninflnngpchaaGreat
namespace Go.Proofs.YtfninflnngpchaaGreat
theorem Mb (a b:Prt){id:Int}(h1:1≤id) (h2:id≤6):partOf (Ce a b) id=BH (partOf a id) (partOf b id):=by
 unfold Ce
 rw [Nr _ h1,List.getD_eq_getElem?_getD]
 unfold C1
 rw [List.getElem?_map,List.getElem?_range AB]
 simp only [Option.map_some,Option.getD_some]
 rw [show (((id - 1).toNat:Nat):Int)+1=id by omega]
def EZ (s:Sto) (k:Nat):Sto:=⟨s.idx,F1 s.parts k,s.mem⟩
theorem HJ {s:Sto}{i:Int}(h:SD s) (h1:(Bx s i).2=true):AZ s=true∧0≤i∧i+2≤s.parts.length∧(Bx s i).1=EZ s i.toNat:=by
 cases hk:AZ s with
 | false=>rw [MY hk] at h1; cases h1
 | true =>
   cases hr:inR i 0 ((s.parts.length:Int) - 2) with
   | false=>rw [N3 h hk hr] at h1; cases h1
   | true =>
     have h2:=Bh hr
     refine ⟨rfl,h2.1,by omega,?_⟩
     rw [Hp hk,h.copy]
     unfold DV
     rw [if_pos hr]
     rfl
theorem Es {s:Sto}{k:Nat}(hk:k+2≤s.parts.length):∃ x y,s.parts[k]? = some x∧s.parts[k+1]? = some y∧(EZ s k).parts=s.parts.take k++[Ce x y]++s.parts.drop (k+2):=by
 refine ⟨_,_,AU AB,AU AB,?_⟩
 exact F3 (AU AB) (AU AB)
theorem Ea {s:Sto}(h:StoK s){k:Nat}(hk:k+2≤s.parts.length){id:Int}(h1:1≤id) (h2:id≤6):(EZ s k).parts.foldl (Bf id) []=s.parts.foldl (Bf id) []∧rowsOf (EZ s k) id=rowsOf s id:=by
 obtain ⟨x,y,hx,hy,e⟩:=Es hk
 have key:(EZ s k).parts.foldl (Bf id) []=s.parts.foldl (Bf id) []:=by
  have hs:s.parts=s.parts.take k++[x,y]++s.parts.drop (k+2):=by
   have e1:=List.take_append_drop k s.parts
   rw [drop_at hx,drop_at hy] at e1
   rw [List.append_assoc]
   exact e1.symm
  rw [e]
  conv=>rhs; rw [hs]
  simp only [List.foldl_append,List.foldl_cons,List.foldl_nil]
  congr 1
  have px:=h.sd.part x (AV hx)
  have py:=h.sd.part y (AV hy)
  have ho:Blk ((s.parts.take k).foldl (Bf id) []):=GP (fun p hp=>h.sd.part p (List.mem_of_mem_take hp)) Blk.nil
  unfold Bf
  rw [Mb x y h1 h2]
  exact (Jj ho (px.of id) (py.of id)).symm
 refine ⟨key,?_⟩
 unfold rowsOf
 rw [key]
 rfl
theorem K9 {p:Prt}{n:Int}(h:Ax p n=true):∃ id:Int,1≤id∧id≤6∧id≤n∧0< (partOf p id).length:=by
 have hle:=HI h
 unfold Ax at h
 simp only [AW] at h
 obtain ⟨h1,h2⟩:=h
 unfold Ac at h1
 simp only [AW,decide_eq_true_eq] at h1
 obtain ⟨h3,h4⟩:=h1
 unfold partOf
 cases hi:p.ids with
 | nil=>rw [hi] at h2; simp at h2
 | cons i is =>
   cases hb:p.blocks with
   | nil=>rw [hi,hb] at h3; simp at h3
   | cons b bs =>
     rw [hi,hb] at h4
     unfold Ai at h4
     simp only [AW,decide_eq_true_eq] at h4
     have h5:=Bh h4.1.1.1.1
     refine ⟨i,h5.1,h5.2,hle i (by rw [hi]; simp),?_⟩
     unfold Az
     rw [if_pos AD]
     exact h4.1.1.2
theorem KO {s:Sto}(h:SD s) (hk:AZ s=true){x y:Prt}(hx:x∈s.parts) (hy:y∈s.parts){id:Int}(h1:1≤id) (h2:id≤6):Blk (BH (partOf x id) (partOf y id))∧(BH (partOf x id) (partOf y id)).length≤24:=by
 have e:=N2 h hk hx hy
 unfold N1 at e
 split at e
 ·rename_i hc
  obtain ⟨ox,oy,hm⟩:=hc
  unfold okM at hm
  rw [List.all_eq_true] at hm
  have:=hm (id - 1).toNat (by rw [List.mem_range]; omega)
  rw [show (((id - 1).toNat:Nat):Int)+1=id by omega] at this
  have e1:Bd x id=partOf x id:=by unfold Bd; rw [if_pos ox]
  have e2:Bd y id=partOf y id:=by unfold Bd; rw [if_pos oy]
  rw [e1,e2] at this
  refine ⟨(Fi (C6 ox id)).merge (Fi (C6 oy id)),?_⟩
  unfold Nz at this
  split at this
  ·rename_i hc; have:=hc.2.2; omega
  ·cases this
 ·exact absurd (congrArg Prod.snd e) AD
theorem Mc {s:Sto}(h:SD s) (hk:AZ s=true){k:Nat}(hl:k+2≤s.parts.length):AZ (EZ s k)=true:=by
 have hK:=StoK.of h hk
 obtain ⟨x,y,hx,hy,e⟩:=Es hl
 have mx:=AV hx
 have my:=AV hy
 have hn:=h.nm.len
 have hk2:=hk
 unfold AZ at hk2 ⊢
 simp only [AW,decide_eq_true_eq,List.all_eq_true,List.mem_range,Cu] at hk2 ⊢
 obtain ⟨⟨⟨⟨a1,a2⟩,a3⟩,a4⟩,a5⟩:=hk2
 refine ⟨⟨⟨⟨?_,a2⟩,fun p hp=>?_⟩,a4⟩,fun i hi=>?_⟩
 ·rw [e]
  simp only [List.length_append,List.length_take,List.length_drop,List.length_cons,List.length_nil]
  omega
 ·rw [e] at hp
  simp only [List.mem_append,List.mem_cons,List.not_mem_nil,or_false] at hp
  rcases hp with (hp | rfl) | hp
  ·exact a3 p (List.mem_of_mem_take hp)
  ·show Ax (DO (C1 x y 6)) s.idx.names.length=true
   have hblk:∀ (i:Nat) b,(C1 x y 6)[i]? = some b→i< 6∧b=BH (partOf x ((i:Int)+1)) (partOf y ((i:Int)+1)):=fun i b hb=>by
    unfold C1 at hb
    rw [List.getElem?_map] at hb
    by_cases hi:i< 6
    ·rw [List.getElem?_range hi] at hb
     simp only [Option.map_some,Option.some.injEq] at hb
     exact ⟨hi,hb.symm⟩
    ·rw [List.getElem?_eq_none (by simp; omega)] at hb
     cases hb
   refine Nv (fun b hb=>?_) (by rw [Gk]; omega) ?_ (fun i b hb hp=>?_)
   ·obtain ⟨i,hi⟩:=List.mem_iff_getElem?.1 hb
    obtain ⟨h6,rfl⟩:=hblk i b hi
    exact KO h hk mx my AB AB
   ·obtain ⟨id,g1,g2,_,g4⟩:=K9 (a3 x mx)
    refine ⟨BH (partOf x id) (partOf y id),?_,?_⟩
    ·unfold C1
     refine List.mem_map.2 ⟨(id - 1).toNat,by simp; omega,?_⟩
     rw [show (((id - 1).toNat:Nat):Int)+1=id by omega]
    ·have bx:=(h.part x mx).of id
     have by':=(h.part y my).of id
     have:=Ly bx (bx.merge by') (fun t ht=>by
      rw [Bl t _ bx by']
      cases look t (partOf y id) with
      | none=>exact ht
      | some q=>rfl)
     omega
   ·obtain ⟨h6,rfl⟩:=hblk i b hb
    by_cases hin:i< s.idx.names.length
    ·exact hin
    ·rw [GQ (p:=x) (fun j hj=>by have:=HI (a3 x mx) j hj; omega),GQ (p:=y) (fun j hj=>by have:=HI (a3 y my) j hj; omega)] at hp
     exact absurd hp AE
  ·exact a3 p (List.mem_of_mem_drop hp)
 ·rw [(Ea hK hl AB (by have:i< s.idx.names.length:=hi; omega)).2]
  exact a5 i hi
theorem Md {s:Sto}(h:SD s){k:Nat}(hl:k+2≤s.parts.length):SD (EZ s k):=by
 obtain ⟨x,y,hx,hy,e⟩:=Es hl
 refine ⟨h.idx,h.nm,h.nd,?_,fun p hp=>?_,h.nm2,h.mem⟩
 ·have:=h.np
  rw [e]
  simp only [List.length_append,List.length_take,List.length_drop,List.length_cons,List.length_nil]
  omega
 ·rw [e] at hp
  simp only [List.mem_append,List.mem_cons,List.not_mem_nil,or_false] at hp
  rcases hp with (hp | rfl) | hp
  ·exact h.part p (List.mem_of_mem_take hp)
  ·exact (h.part x (AV hx)).merge (h.part y (AV hy))
  ·exact h.part p (List.mem_of_mem_drop hp)
section
variable {s:Sto} {i:Int}
theorem N5 (h:SD s) (h1:(Bx s i).2=true):SD (Bx s i).1:=by
 obtain ⟨_,h2,h3,e⟩:=HJ h h1
 rw [e]
 exact Md h AB
theorem LA (h:SD s) (h1:(Bx s i).2=true):K7 (Bx s i).1 [] 0 99=K7 s [] 0 99∧AZ (Bx s i).1=true:=by
 obtain ⟨hk,h2,h3,e⟩:=HJ h h1
 have h5:=Mc h hk (k:=i.toNat) AB
 rw [e]
 exact ⟨N4 (x:=EZ s i.toNat) (s:=s) rfl (hk.trans h5.symm) (fun _ id a b=>(Ea (StoK.of h hk) AB a (by have:=h.nm.len; omega)).2) _ _,h5⟩
theorem Me (h:SD s) (h1:(Bx s i).2=true):(Bx s i).1.parts.length+1=s.parts.length∧0≤i∧i+2≤s.parts.length∧i+1≤(Bx s i).1.parts.length:=by
 obtain ⟨hk,h2,h3,e⟩:=HJ h h1
 obtain ⟨x,y,hx,hy,e2⟩:=Es (s:=s) (k:=i.toNat) AB
 rw [e,e2]
 simp only [List.length_append,List.length_take,List.length_drop,List.length_cons,List.length_nil]
 omega
end
end Go.Proofs.YtfninflnngpchaaGreat
namespace Go.Proofs.YtfninflnngpchaaGreat
theorem N6 (v:Int):∀ (l:List Int) (i:Nat),l.contains v=decide (Cd v i l≥0):=by
 intro l
 induction l with
 | nil=>intro i; simp [Cd]
 | cons x xs ih =>
   intro i
   have:=ih (i+1)
   have e:Cd v i (x::xs)=if x==v then (i:Int) else Cd v (i+1) xs:=rfl
   rw [e,List.contains_cons,this]
   by_cases h:x=v
   ·subst h; simp
   ·have h1:(x==v)=false:=beq_eq_false_iff_ne.2 h
    have h2:(v==x)=false:=beq_eq_false_iff_ne.2 (fun e=>h e.symm)
    rw [h1,h2]
    simp
def Bs (nx:Int):Option Int→List Fil→Bool
 | _,[]=>true
 | o,f::fs=>inR f.num 1 (nx - 1)&&(match o with | some q=>decide (q< f.num) | none=>true)&&Ac f.part&&Bs nx (some f.num) fs
def B8 (d:Dsk):Bool:=d.list.all (fun n=>decide (0≤At d n))&&decide d.list.Nodup
def Ak (d:Dsk):Bool:=inR d.next 1 999&&decide (d.files.length≤20)&&decide (d.list.length≤6)&&Bs d.next none d.files&&B8 d&&(nmB d.names&&AZ (BG d))
structure DD (d:Dsk):Prop where
 g:NmG d.names
 nl:d.list.length≤7
 nf:d.files.length≤20
 file:∀ f∈d.files,PrtI f.part
 next:0≤d.next∧d.next≤999
theorem DD.part {d:Dsk}(h:DD d) (n:Int):PrtI (Aw d n):=by
 unfold Aw
 rw [List.getD_eq_getElem?_getD]
 cases hx:d.files[(At d n).toNat]? with
 | none=>exact PrtI.nil
 | some f=>exact h.file f (AV hx)
theorem DD.sg {d:Dsk}(h:DD d):SG (BG d):=by
 refine ⟨⟨h.g,fun _=>rfl⟩,by simp [BG]; exact h.nl,fun p hp=>?_,by simp [BG],by simp [BG]⟩
 simp only [BG,List.mem_map] at hp
 obtain ⟨n,_,rfl⟩:=hp
 exact h.part n
def GR (fs:List Fil) (k:Nat):Option Int:=prev (fs.map Fil.num) k
theorem Cq {nx:Int}{fs:List Fil}{k:Nat}{f:Fil}{b:Bool}(h:Bs nx (GR fs k) (fs.drop k)=b) (hd:fs.drop k=f::fs.drop (k+1)) (hf:fs[k]? = some f) (h1:inR f.num 1 (nx - 1)=true) (h2:k=0∨∃ q,fs[k - 1]? = some q∧¬ q.num≥f.num) (h3:Ac f.part=true):Bs nx (GR fs (k+1)) (fs.drop (k+1))=b:=by
 rw [hd] at h
 unfold Bs at h
 have e:GR fs (k+1)=some f.num:=by unfold GR; rw [MB,List.getElem?_map,hf]; rfl
 have e2:(match GR fs k with | some q=>decide (q< f.num) | none=>true)=true:=by
  rcases h2 with rfl | ⟨q,hq,hlt⟩
  ·rfl
  ·by_cases hk:k=0
   ·subst hk; rfl
   ·have:GR fs k=some q.num:=by unfold GR; rw [J2 _ _ AB,List.getElem?_map,hq]; rfl
    rw [this]
    simp
    omega
 rw [h1,h3,e2] at h
 rw [e]
 simpa using h
theorem Ag {nx:Int}{fs:List Fil}{k:Nat}{f:Fil}{b:Bool}(h:Bs nx (GR fs k) (fs.drop k)=b) (hd:fs.drop k=f::fs.drop (k+1)) (h1:inR f.num 1 (nx - 1)=false∨(0< k∧∃ q,fs[k - 1]? = some q∧q.num≥f.num)∨Ac f.part=false):b=false:=by
 rw [hd] at h
 unfold Bs at h
 rw [← h]
 rcases h1 with h1 | ⟨hk,q,hq,hge⟩ | h1
 ·rw [h1]; simp
 ·have:GR fs k=some q.num:=by unfold GR; rw [J2 _ _ AB,List.getElem?_map,hq]; rfl
  have e2:decide (q.num< f.num)=false:=decide_eq_false AB
  rw [this]
  simp only [e2]
  simp
 ·rw [h1]; simp
theorem Lz {nx:Int}{fs:List Fil}{k:Nat}{b:Bool}(h:Bs nx (GR fs k) (fs.drop k)=b) (hk:fs.length≤k):b=true:=by
 rw [AY hk] at h
 exact h.symm
def Mf (d:Dsk) (k:Nat):Prop:=∀ j n,j< k→d.list[j]? = some n→0≤At d n∧n∉d.list.take j
theorem N7 (d:Dsk):Mf d 0:=fun j _ h=>absurd h AB
def fresh (d:Dsk) (n:Int) (k:Nat):Prop:=n∉d.list.take k
theorem PC (d:Dsk) (n:Int):fresh d n 0:=by unfold fresh; simp
theorem LB {d:Dsk}{n m:Int}{k:Nat}(h:fresh d n k) (hm:d.list[k]? = some m) (h2:m≠n):fresh d n (k+1):=by
 unfold fresh at h ⊢
 rw [List.take_add_one,hm]
 simp only [Option.toList_some,List.mem_append,List.mem_cons,List.not_mem_nil,or_false,not_or]
 exact ⟨h,fun e=>h2 e.symm⟩
theorem N8 {d:Dsk}{n:Int}{k:Nat}(h:((d.list.take k).drop 0).contains n=false):fresh d n k:=by
 unfold fresh
 rw [List.drop_zero] at h
 intro hm
 rw [List.contains_iff_mem.2 hm] at h
 cases h
theorem JE {d:Dsk}{k j:Nat}{n:Int}(h:Mf d k) (hn:d.list[k]? = some n) (h1:¬ At d n< 0) (h2:fresh d n j) (hj:k≤j):Mf d (k+1):=fun i m hi hm=>by
 by_cases e:i=k
 ·subst e
  rw [hn] at hm
  cases hm
  refine ⟨by omega,fun hmem=>h2 ?_⟩
  obtain ⟨a,ha⟩:=List.mem_iff_getElem?.1 hmem
  rw [List.getElem?_take] at ha
  split at ha
  ·exact List.mem_iff_getElem?.2 ⟨a,by rw [List.getElem?_take,if_pos AB]; exact ha⟩
  ·cases ha
 ·exact h i m AB hm
theorem Fj {d:Dsk}{k:Nat}(h:Mf d k) (hk:d.list.length≤k):B8 d=true:=by
 unfold B8
 rw [AW,List.all_eq_true,decide_eq_true_eq]
 refine ⟨fun n hn=>?_,?_⟩
 ·obtain ⟨j,hj⟩:=List.mem_iff_getElem?.1 hn
  have:=(h j n (by have:=(List.getElem?_eq_some_iff.1 hj).1; omega) hj).1
  simpa using this
 ·unfold List.Nodup
  rw [List.pairwise_iff_getElem]
  intro i j hi hj hij e
  refine (h j d.list[j] AB (AU hj)).2 ?_
  rw [← e]
  exact List.mem_iff_getElem?.2 ⟨i,by rw [List.getElem?_take,if_pos hij]; exact AU hi⟩
theorem Bm {d:Dsk}{k:Nat}{n:Int}(hn:d.list[k]? = some n) (h:At d n< 0):B8 d=false:=by
 cases hb:B8 d with
 | false=>rfl
 | true =>
   unfold B8 at hb
   rw [AW,List.all_eq_true] at hb
   have:=hb.1 n (AV hn)
   simp at this
   omega
theorem N9 {d:Dsk}{k:Nat}{n:Int}(hn:d.list[k]? = some n) (h:n∈d.list.take k):B8 d=false:=by
 cases hb:B8 d with
 | false=>rfl
 | true =>
   unfold B8 at hb
   rw [AW,decide_eq_true_eq] at hb
   obtain ⟨i,hi⟩:=List.mem_iff_getElem?.1 h
   rw [List.getElem?_take] at hi
   split at hi
   ·rename_i hik
    have hd:=hb.2
    unfold List.Nodup at hd
    rw [List.pairwise_iff_getElem] at hd
    obtain ⟨a1,a2⟩:=List.getElem?_eq_some_iff.1 hi
    obtain ⟨b1,b2⟩:=List.getElem?_eq_some_iff.1 hn
    exact absurd (a2.trans b2.symm) (hd i k a1 b1 hik)
   ·cases hi
theorem BS {d:Dsk}(h:B8 d=true):∀ n∈d.list,0≤At d n:=fun n hn=>by
 unfold B8 at h
 rw [AW,List.all_eq_true] at h
 have:=h.1 n hn
 simpa using this
theorem Bn {d:Dsk}{k j:Nat}{n m:Int}(hn:d.list[k]? = some n) (hm:d.list[j]? = some m) (hj:j< k) (e:m=n):B8 d=false:=by
 subst e
 exact N9 hn (List.mem_iff_getElem?.2 ⟨j,by rw [List.getElem?_take,if_pos hj]; exact hm⟩)
theorem Bo {d:Dsk}{k:Nat}{n:Int}(hn:d.list[k]? = some n) (h:((d.list.take k).drop 0).contains n=true):B8 d=false:=by
 rw [List.drop_zero] at h
 exact N9 hn (List.contains_iff_mem.1 h)
section
variable {d:Dsk}
theorem As (h:inR d.next 1 999=false∨(d.files.length:Int) > 20∨(d.list.length:Int) > 6∨(d.names.length:Int) > 6):Ak d=false:=by
 unfold Ak
 rcases h with h | h | h | h
 ·rw [h]; simp
 ·rw [decide_eq_false (p:=d.files.length≤20) AB]; simp
 ·rw [decide_eq_false (p:=d.list.length≤6) AB]; simp
 ·rw [← D8 h]; simp
theorem BI (h:Bs d.next none d.files=false):Ak d=false:=by unfold Ak; rw [h]; simp
theorem BJ (h:B8 d=false):Ak d=false:=by unfold Ak; rw [h]; simp
theorem Q2 (h1:inR d.next 1 999=true) (h2:¬ (d.files.length:Int) > 20) (h3:¬ (d.list.length:Int) > 6) (h5:Bs d.next none d.files=true) (h6:B8 d=true):Ak d=(nmB d.names&&AZ (BG d)):=by
 unfold Ak
 rw [h1,h5,h6,decide_eq_true AB,decide_eq_true AB]
 simp
theorem RX {y:Sto}(h1:inR d.next 1 999=true) (h2:¬ (d.files.length:Int) > 20) (h3:¬ (d.list.length:Int) > 6) (h5:Bs d.next none d.files=true) (h6:B8 d=true) (hd:NsD d.names) (hy:y.idx.names=d.names∧(NmI d.names→NsD d.names→y=BG d)):(nmB y.idx.names&&AZ y)=Ak d:=by
 rw [Q2 h1 h2 h3 h5 h6,hy.1]
 cases hb:nmB d.names with
 | false=>rfl
 | true=>rw [hy.2 (CC.1 hb) hd]
theorem CK (h:Ak d=true):NmI d.names∧AZ (BG d)=true∧B8 d=true:=by
 unfold Ak at h
 simp only [AW] at h
 exact ⟨CC.1 h.2.1,h.2.2,h.1.2⟩
theorem DD.sd (h:DD d) (hk:Ak d=true):SD (BG d):=by
 obtain ⟨h1,h2,_⟩:=CK hk
 have h3:=QD h2
 exact h.sg.sd (CC.2 h1) h3
def LC (d:Dsk):Sto:=if Ak d then BG d else ⟨⟨[],[]⟩,[],[]⟩
theorem PD (h:Ak d=true):LC d=BG d:=by unfold LC; rw [if_pos h]
end
theorem Mg {d:Dsk}{l:List Int}{i:Nat}{n:Int}{k Y:List Prt}{f:Fil}(h:k++(l.drop i).map (Aw d)=Y) (hd:l.drop i=n::l.drop (i+1)) (hf:d.files[(At d n).toNat]? = some f):(k++[f.part])++(l.drop (i+1)).map (Aw d)=Y:=by
 rw [hd,List.map_cons] at h
 rw [← h]
 have:Aw d n=f.part:=by unfold Aw; rw [List.getD_eq_getElem?_getD,hf]; rfl
 rw [this]
 simp
theorem OA {d:Dsk}{l:List Int}{i:Nat}{k Y:List Prt}(h:k++(l.drop i).map (Aw d)=Y) (hi:l.length≤i):k=Y:=by
 rw [AY hi] at h
 simpa using h
theorem BM {d:Dsk}{n:Int}(h:0≤At d n):(At d n).toNat< d.files.length∧At d n=((At d n).toNat:Int):=by
 have:=(Jd n d.files 0).1
 unfold At at h ⊢
 omega
def DC (d:Dsk) (y:Sto):Prop:=y.idx.names=d.names∧y.parts=(BG d).parts∧y.mem=[]∧(NmI d.names→NsD d.names→y=BG d)
theorem DC.mk {d:Dsk}{a:List (List Tag)}{b:List Pst}{c:List Prt}{e:List Smp}(h1:a=d.names) (h2:c=d.list.map (Aw d)) (h3:e=[]) (h4:NmI d.names→NsD d.names→(⟨a,b⟩:Idx)=idxOf d.names):DC d ⟨⟨a,b⟩,c,e⟩:=by
 subst h2 h3
 refine ⟨h1,rfl,rfl,fun x y=>?_⟩
 unfold BG
 rw [h4 x y]
theorem DC.sg {d:Dsk}{y:Sto}(q:DC d y) (h:DD d):SG y:=by
 obtain ⟨q1,q2,q3,q4⟩:=q
 refine ⟨⟨by rw [q1]; exact h.g,fun hn=>?_⟩,by rw [q2]; exact h.sg.np,fun p hp=>h.sg.part p (by rw [← q2]; exact hp),by rw [q3]; simp,by rw [q3]; simp⟩
 rw [q1] at hn ⊢
 have:=q4 hn h.g.nd
 rw [this]
 rfl
theorem DC.eq {d:Dsk}{y:Sto}(q:DC d y) (h:DD d) (hk:Ak d=true):y=LC d:=by rw [PD hk]; exact q.2.2.2 (CK hk).1 h.g.nd
theorem DC.dk {d:Dsk}{y:Sto}(hy:DC d y) (h:DD d) (h1:inR d.next 1 999=true) (h2:¬ (d.files.length:Int) > 20) (h3:¬ (d.list.length:Int) > 6) (h5:Bs d.next none d.files=true) (h6:B8 d=true):(nmB y.idx.names&&AZ y)=Ak d:=RX h1 h2 h3 h5 h6 h.g.nd ⟨hy.1,hy.2.2.2⟩
end Go.Proofs.YtfninflnngpchaaGreat
namespace Go.Proofs.YtfninflnngpchaaGreat
set_option maxRecDepth 100000
set_option maxHeartbeats 4000000
variable {w:World} {F:Nat→Prop} {a1 a2 a3:Option Addr} {n1 c1 n2 c2 n3 c3:Nat}
theorem FG (f:Fil) (num:Int) (h1:RepS w F a1 n1 c1 f.part.ids) (h2:RepS w F a2 n2 c2 f.part.blocks){bq_num:Nat}(hb_num:Box w bq_num 3 [.int .i64 num])  : Calls Tryz.prog 200 [.agg #[.int .i64 f.num,.slice a1 n1 c1,.slice a2 n2 c2],.pointer (some ⟨bq_num,0,none⟩)].toArray w (Ad fun rv w'=>rv=.bool ((f.num==num))∧Ext w w'):=by
 cases h1.len
 cases h2.len
 refine goT func200 ?_
 have Z:=(((St.i0 F w).p h1).p h2).pb' hb_num
 have aa:=h1.max
 have ab:=h2.max
 exact .s<|.g<|RG.Np Z fun ac w Z=>.r 1<|.d<|.s<|.g<|.r 1<|RG.Lb 0 Z<|RG.Lh 0 0 Z<|.r 2<|.d<|T.rt func200 results200 (.bool (f.num==num)) ⟨(AG (by first | rfl | (simp; done) | simp_all)),Z.xt⟩
theorem Fk (s:List Fil) (num:Int) (h1:RepS w F a1 n1 c1 s){bq_num:Nat}(hb_num:Box w bq_num 3 [.int .i64 num])  : Calls Tryz.prog 199 [.slice a1 n1 c1,.func (.func 200) #[] #[.pointer (some ⟨bq_num,0,none⟩)]].toArray w (Ad fun rv w'=>rv=.int .i64 (Cf num 0 s)∧Ext w w'):=by
 refine goT func199 ?_
 obtain ⟨rfl,az,h1⟩:=h1.tp
 refine .s<|.g<|.r 1<|.d<|.s<|.s<|.g<|.r 3<|.d<|.b 0<|T.loop (X:=Nat) 0 (fun k=>[(0,.slice a1 s.length c1),(1,.func (.func 200) #[] #[.pointer (some ⟨bq_num,0,none⟩)]),(7,vI (s.length:Int)),(8,vI (k:Int))]) (fun k ac=>Chg (ins []) w ac∧(k≤s.length)∧(Cf num k (s.drop k)=Cf num 0 s)) (fun k=>s.length - k) AA ⟨AA,AA,AA,AA,trivial⟩ ⟨Chg.refl _ _,AD,AD⟩ ?_
 rintro k aG ac ⟨aa,aA,aB⟩ ae
 have ag:Mv [] [] w ac:=Mv.inl aa all_nil all_nil
 replace ⟨h1,hb_num⟩:=(sp ag aa).g2 h1 hb_num
 have ab:Chg nil w ac:=Chg.LW (Chg.refl nil w) aa all_nil
 refine .s<|.g<|.bp ((k:Int)< (s.length:Int)) (fun am=>?_) (fun am=>.d<|.s<|.cf<|.x 0 rfl<|.s<|.g<|.r 1<|.d<|.rt func199 results199 (vI (-1)) ⟨(congrArg (Value.int .i64) (by grind [Cf,AY])),ab⟩)
 refine .d<|.s<|.ct<|.sk<|.s<|.b 1<|.s<|.g<|.r 2<|.d<|.s<|.g<|.r 3 ?_
 have ao:k< s.length:=AB
 refine .ix k 3 h1 ao ?_
 obtain ⟨ai,af⟩:∃ y,s[k]? = some y:=⟨_,AU AB⟩
 have aC:=drop_at af; have ay:=AV af
 obtain ⟨_,⟨aH,aI,aJ,aK,aL,aM,rfl,aj,ak⟩,aq⟩:=h1.elem k ai af
 have ar:=aj.len
 subst ar
 have aD:=aj.max
 have ax:=ak.len
 subst ax
 have aE:=ak.max
 refine .lg 0 aq<|.cl (FG ai num aj.ta ak.ta hb_num (w:=ac) (F:=all)) ?_
 rintro aN aO ⟨rfl,ah⟩
 replace ⟨hb_num,ab,aa⟩:=(se [] ah).g3 hb_num ab aa
 cases aF:(ai.num==num)
 ·exact .d<|.cf<|.sk<|.ib 1<|.g<|.it ((k:Int)+1)<|.r 1<|.d<|ae (k+1) _ _ ⟨AA,AA,AA,AA,trivial⟩ ⟨aa,AB,(by grind [Cf])⟩ (by first | omega | (simp only []; omega))
 exact .d<|.ct<|.s<|.g<|.r 2<|.d<|.rt func199 results199 (vI (k:Int)) ⟨(congrArg (Value.int .i64) (by grind [Cf,AY])),ab⟩
theorem Dt (d:Dsk) (num:Int) (h1:RepS w F a1 n1 c1 d.files) (h2:RepS w F a2 n2 c2 d.list) (h3:RepS w F a3 n3 c3 d.names)  : Calls Tryz.prog 144 [.agg #[.slice a1 n1 c1,.slice a2 n2 c2,.slice a3 n3 c3,.int .i64 d.next],.int .i64 num].toArray w (Ad fun rv w'=>rv=.int .i64 (At d num)∧Ext w w'):=by
 cases h1.len
 cases h2.len
 cases h3.len
 refine goT func144 ?_
 have Z:=(((St.i0 F w).p h1).p h2).p h3
 have aa:=h1.max
 have ab:=h2.max
 have ac:=h3.max
 exact .s<|.g<|RG.Np Z fun ae w Z=>RG.Np Z fun af w Z=>.r 1<|.d<|.s<|.g<|.r 1<|RG.Lb 1 Z<|.r 1<|RG.C0 (Fk d.files num (Z.a 2) (Z.bc 0)) Z fun w Z=>.r 1<|.d<|T.rt func144 results144 (vI (Cf num 0 d.files)) ⟨(congrArg (Value.int .i64) AF),Z.xt⟩
theorem DM (s:List Int) (v:Int) (h1:RepS w F a1 n1 c1 s)  : Calls Tryz.prog 145 [.slice a1 n1 c1,.int .i64 v].toArray w (Ad fun rv w'=>rv=.bool (s.contains v)∧Ext w w'):=by
 cases h1.len
 refine goT func145 ?_
 have Z:=(St.i0 F w).p h1
 have aa:=h1.max
 exact .s<|.g<|.r 1<|.d<|.s<|.g<|.r 2<|RG.C0 (CR s v (Z.a 0)) Z fun w Z=>.r 2<|.d<|T.rt func145 results145 (.bool (decide (Cd v 0 s≥0))) ⟨(AG (by exact (N6 v s 0).symm)),Z.xt⟩
end Go.Proofs.YtfninflnngpchaaGreat
namespace Go.Proofs.YtfninflnngpchaaGreat
structure MI (s y:Sto) (i:Nat):Prop where
 sd:SD y
 ok:AZ y=true
 idx:y.idx=s.idx
 mem:y.mem=s.mem
 lo:1≤y.parts.length
 hi:y.parts.length≤1∨y.parts.length+i≤6
 rows:∀ id:Int,1≤id→id≤6→y.parts.foldl (Bf id) []=s.parts.foldl (Bf id) []
theorem MI.step {s y:Sto}{i:Nat}{a:Int}(h:MI s y i) (h1:(Bx y a).2=true):MI s (Bx y a).1 (i+1):=by
 obtain ⟨hk,h2,h3,e⟩:=HJ h.sd h1
 have hl:=Me h.sd h1
 refine ⟨N5 h.sd h1,(LA h.sd h1).2,by rw [e]; exact h.idx,by rw [e]; exact h.mem,by omega,?_,fun id a1 a2=>?_⟩
 ·have:=h.hi; omega
 ·rw [e,(Ea (StoK.of h.sd hk) AB a1 a2).1]
  exact h.rows id a1 a2
theorem MI.one {s y:Sto}{i:Nat}(h:MI s y i) (hi:6≤i):y.parts.length=1:=by have:=h.lo; have:=h.hi; omega
theorem OB:∀ (is:List Int) (bs:List (List Row)) (o:Option Int),Ai o is bs=true→is.length=bs.length→∀ is' bs',Ai o is' bs'=true→is'.length=bs'.length→(∀ id:Int,Az id is bs=Az id is' bs')→is=is'∧bs=bs':=by
 have low:∀ (is:List Int) (bs:List (List Row)) (o:Option Int),Ai o is bs=true→∀ q,o=some q→∀ i∈is,q< i:=by
  intro is
  induction is with
  | nil=>intro bs o _ q _ i hi; cases hi
  | cons x xs ih =>
    intro bs o hg q hq i hi
    cases bs with
    | nil=>simp [Ai] at hg
    | cons b bs =>
      simp only [Ai,AW] at hg
      have hx:q< x:=by have:=hg.1.1.1.2; rw [hq] at this; simpa using this
      rcases List.mem_cons.1 hi with rfl | hi
      ·exact hx
      ·have:=ih bs (some x) hg.2 x rfl i hi; omega
 have none_of:∀ (is:List Int) (bs:List (List Row)) (id:Int),(∀ i∈is,i≠id)→Az id is bs=[]:=by
  intro is
  induction is with
  | nil=>intro bs id _; unfold Az; rfl
  | cons i is ih =>
    intro bs id h
    cases bs with
    | nil=>unfold Az; rfl
    | cons b bs =>
      unfold Az
      rw [if_neg (by have:=h i AD; simpa using this)]
      exact ih bs id (fun j hj=>h j (by simp [hj]))
 have mem_of:∀ (is:List Int) (bs:List (List Row)) (id:Int),Az id is bs≠[]→id∈is:=by
  intro is bs id h
  rcases Classical.em (id∈is) with h1 | h1
  ·exact h1
  ·exact absurd (none_of is bs id (fun i hi e=>h1 (e▸hi))) h
 intro is
 induction is with
 | nil =>
   intro bs o hg hl is' bs' hg' hl' h
   cases bs with
   | cons _ _=>simp at hl
   | nil =>
     cases is' with
     | nil =>
       cases bs' with
       | nil=>exact ⟨rfl,rfl⟩
       | cons _ _=>simp at hl'
     | cons i is' =>
       cases bs' with
       | nil=>simp at hl'
       | cons b bs' =>
         simp only [Ai,AW,decide_eq_true_eq] at hg'
         have:=h i
         unfold Az at this
         rw [if_pos AD] at this
         rw [← this] at hg'
         exact absurd hg'.1.1.2 AD
 | cons i is ih =>
   intro bs o hg hl is' bs' hg' hl' h
   cases bs with
   | nil=>simp at hl
   | cons b bs =>
     have hg0:=hg
     simp only [Ai,AW,decide_eq_true_eq] at hg
     cases is' with
     | nil =>
       cases bs' with
       | cons _ _=>simp at hl'
       | nil =>
         have:=h i
         unfold Az at this
         rw [if_pos AD] at this
         rw [this] at hg
         exact absurd hg.1.1.2 AD
     | cons i' is' =>
       cases bs' with
       | nil=>simp at hl'
       | cons b' bs' =>
         have hg0':=hg'
         simp only [Ai,AW,decide_eq_true_eq] at hg'
         have a1:Az i (i'::is') (b'::bs')=b:=by rw [← h i]; unfold Az; rw [if_pos AD]
         have a2:Az i' (i::is) (b::bs)=b':=by rw [h i']; unfold Az; rw [if_pos AD]
         have m1:=mem_of _ _ i (by rw [a1]; exact List.ne_nil_of_length_pos hg.1.1.2)
         have m2:=mem_of _ _ i' (by rw [a2]; exact List.ne_nil_of_length_pos hg'.1.1.2)
         have hii:i=i':=by
          rcases List.mem_cons.1 m1 with e | e
          ·exact e
          ·rcases List.mem_cons.1 m2 with e2 | e2
           ·exact e2.symm
           ·have:=low is' bs' (some i') hg'.2 i' rfl i e
            have:=low is bs (some i) hg.2 i rfl i' e2
            omega
         subst hii
         have hbb:b=b':=by
          rw [← a1]
          unfold Az
          rw [if_pos AD]
         subst hbb
         have:=ih bs (some i) hg.2 (by simpa using hl) is' bs' hg'.2 (by simpa using hl') (fun id=>by
          by_cases e:i=id
          ·subst e
           rw [none_of is bs i (fun j hj e=>by have:=low is bs (some i) hg.2 i rfl j hj; omega),none_of is' bs' i (fun j hj e=>by have:=low is' bs' (some i) hg'.2 i rfl j hj; omega)]
          ·have:=h id
           unfold Az at this
           rw [if_neg (by simpa using e),if_neg (by simpa using e)] at this
           exact this)
         rw [this.1,this.2]
         exact ⟨rfl,rfl⟩
theorem OC {p q:Prt}(hp:Ac p=true) (hq:Ac q=true) (h:∀ id:Int,partOf p id=partOf q id):p=q:=by
 unfold Ac at hp hq
 simp only [AW,decide_eq_true_eq] at hp hq
 obtain ⟨e1,e2⟩:=OB p.ids p.blocks none hp.2 hp.1 q.ids q.blocks hq.2 hq.1 h
 cases p
 cases q
 simp only [Prt.mk.injEq]
 exact ⟨e1,e2⟩
end Go.Proofs.YtfninflnngpchaaGreat
namespace Go.Proofs.YtfninflnngpchaaGreat
theorem RG.b2s {P:Program}{n:Nat}{K:Env→World→Prop}{ops:Array Oper}{j:Nat}{e:Env}{w:World}{s d:TypeId}{r c:Nat}{y:UInt8}{t:TypeId}{F:Nat→Prop}
 (ho:Own w r t F 1 c [y]) (h:NP n ops j e=some (s,d,.slice (some ⟨r,0,none⟩) 1 c)) (ht:Oo P s d=true)
 (H:RG P n K ops (j+1) (Ab e (Aa ops j).dst (.string (bs [y]))) w):RG P n K ops j e w:=by
 obtain ⟨cs,h1,h2⟩:=ho.elem 0 y rfl
 cases h1
 have h3:Has w ⟨r,0,none⟩ [.int .u8 (y.toNat:Int)]:=by simpa using h2
 have h4:=F8 (P:=P) (w:=w) h (Hb h3 ht)
 exact RG.val h4.1 h4.2 H
theorem PE {n:Int}(h:0≤n∧n≤255):∃ y:UInt8,(y.toNat:Int)=n:=by
 refine ⟨UInt8.ofNat n.toNat,?_⟩
 rw [UInt8.toNat_ofNat']
 omega
theorem Mh {n:Int}{y:UInt8}(h:(y.toNat:Int)=n):Value.int .u8 (IntKind.u8.wrap n)=Value.int .u8 (y.toNat:Int):=by
 have:=UInt8.toNat_lt y
 rw [← h,IntWalk.u8_in _ AB]
def DE (n:Int):Int:=if n< 0 then -2 * n - 1 else 2 * n
theorem OD {n m:Int}(h:-m≤n∧n≤m) (hm:0≤m):0≤DE n∧DE n≤2 * m:=by unfold DE; split <;> omega
theorem L0 {n:Int}(h:-10000≤n∧n≤10000):0≤DE n∧DE n≤1000000:=by have:=OD h AB; omega
theorem Q3 {r:Row}(h:BF r=true):-1000≤r.t∧r.t≤1000:=by have:=HF h; omega
theorem Q4 {r:Row}(h:BF r=true):-1000≤r.v∧r.v≤1000:=by have:=Ll h; omega
theorem Pj {a b:Bool}(h:(a&&b)=true):b=true:=by cases a <;> simp_all
theorem JF {z:Int}(h:0≤z):0≤Int.tdiv z 128∧Int.tdiv z 128 * 128≤z∧0≤Int.tmod z 128∧Int.tmod z 128< 128:=by
 obtain ⟨k,rfl⟩:∃ k:Nat,z=k:=⟨z.toNat,by omega⟩
 have e:Int.tdiv (k:Int) 128=((k / 128:Nat):Int):=rfl
 have e2:Int.tmod (k:Int) 128=((k % 128:Nat):Int):=rfl
 rw [e,e2]
 omega
theorem KP:∀ (fs:List Fil) (nx:Int) (o:Option Int),Bs nx o fs=true→∀ f∈fs,1≤f.num∧f.num≤nx - 1∧Ac f.part=true:=by
 intro fs
 induction fs with
 | nil=>intro nx o _ f hf; cases hf
 | cons x xs ih =>
   intro nx o h f hf
   unfold Bs at h
   simp only [AW] at h
   rcases List.mem_cons.1 hf with rfl | hf
   ·have:=Bh h.1.1.1
    exact ⟨this.1,this.2,h.1.2⟩
   ·exact ih nx _ h.2 f hf
theorem BT {d:Dsk}(h:Ak d=true):(1≤d.next∧d.next≤999)∧d.list.length≤6∧Bs d.next none d.files=true∧B8 d=true:=by
 unfold Ak at h
 simp only [AW,decide_eq_true_eq] at h
 exact ⟨Bh h.1.1.1.1.1,h.1.1.1.2,h.1.1.2,h.1.2⟩
end Go.Proofs.YtfninflnngpchaaGreat
namespace Go.Proofs.YtfninflnngpchaaGreat
set_option maxRecDepth 100000
set_option maxHeartbeats 4000000
variable {w:World} {F:Nat→Prop}
theorem Fl (n:Int){F:Nat→Prop}  (p0:-1000000≤n∧n≤1000000):Calls Tryz.prog 190 [.int .i64 n].toArray w (Ad fun rv w'=>rv=.int .i64 (DE n)∧Ext w w'):=by
 refine goT func190 ?_
 have Z:=St.i0 F w
 exact .s<|.g<|.r 1<|.d<|.s<|.s<|.g<|.r 1<|.bp (n< 0) (fun aa=>.d<|.ct<|.s<|.g<|.r 1<|.it ((-2) * n)<|.it (((-2) * n) - 1)<|.r 1<|.d<|T.rt func190 results190 (vI (((-2) * n) - 1)) ⟨(congrArg (Value.int .i64) (by unfold DE; first | (rw [if_pos ‹_›]; done) | (rw [if_neg ‹_›]; done) | (rw [if_pos ‹_›]; omega) | (rw [if_neg ‹_›]; omega))),Z.xt⟩) fun aa=>.d<|.cf<|.sk<|.s<|.g<|.r 1<|.it (2 * n)<|.r 1<|.d<|T.rt func190 results190 (vI (2 * n)) ⟨(congrArg (Value.int .i64) (by unfold DE; first | (rw [if_pos ‹_›]; done) | (rw [if_neg ‹_›]; done) | (rw [if_pos ‹_›]; omega) | (rw [if_neg ‹_›]; omega))),Z.xt⟩
end Go.Proofs.YtfninflnngpchaaGreat
namespace Go.Proofs.YtfninflnngpchaaGreat
def CW (z:Nat):Str:=if h:z< 128 then [UInt8.ofNat z] else UInt8.ofNat (z % 128+128)::CW (z / 128)
termination_by z
decreasing_by omega
theorem GU {z:Nat}(h:z< 128):CW z=[UInt8.ofNat z]:=by rw [CW,dif_pos h]
theorem FH {z:Nat}(h:¬ z< 128):CW z=UInt8.ofNat (z % 128+128)::CW (z / 128):=by rw [CW,dif_neg h]
theorem KQ (z:Nat):0< (CW z).length:=by rw [CW]; split <;> simp
theorem GV {z:Nat}(h:z< 128):(CW z).length=1:=by rw [GU h]; rfl
theorem JG {z:Nat}(h:z< 16384):(CW z).length≤2:=by
 by_cases h1:z< 128
 ·rw [GV h1]; omega
 ·rw [FH h1,List.length_cons,GV AB]; omega
theorem KR {z:Nat}(h:z< 2097152):(CW z).length≤3:=by
 by_cases h1:z< 128
 ·rw [GV h1]; omega
 ·rw [FH h1,List.length_cons]
  have:=JG (z:=z / 128) AB
  omega
theorem ofNat_inj {a b:Nat}(ha:a< 256) (hb:b< 256) (h:UInt8.ofNat a=UInt8.ofNat b):a=b:=by
 have:=congrArg UInt8.toNat h
 rw [UInt8.toNat_ofNat',UInt8.toNat_ofNat'] at this
 omega
theorem OE:∀ (z y:Nat) (r s:Str),CW z++r=CW y++s→z=y∧r=s:=by
 intro z
 induction z using Nat.strongRecOn with
 | ind z ih =>
   intro y r s h
   by_cases h1:z< 128
   ·by_cases h2:y< 128
    ·rw [GU h1,GU h2] at h
     simp only [List.cons_append,List.nil_append,List.cons.injEq] at h
     exact ⟨ofNat_inj AB AB h.1,h.2⟩
    ·rw [GU h1,FH h2] at h
     simp only [List.cons_append,List.nil_append,List.cons.injEq] at h
     have:=ofNat_inj AB AB h.1
     omega
   ·by_cases h2:y< 128
    ·rw [FH h1,GU h2] at h
     simp only [List.cons_append,List.nil_append,List.cons.injEq] at h
     have:=ofNat_inj AB AB h.1
     omega
    ·rw [FH h1,FH h2] at h
     simp only [List.cons_append,List.cons.injEq] at h
     have e:=ofNat_inj AB AB h.1
     obtain ⟨e2,e3⟩:=ih (z / 128) AB (y / 128) r s h.2
     exact ⟨by omega,e3⟩
theorem PF {out:Str}{z y:Int}{Y:Str}(h:out++CW z.toNat=Y) (hz:z≥128) (hy:y=Int.tmod z 128+128):(out++[UInt8.ofNat y.toNat])++CW (Int.tdiv z 128).toNat=Y:=by
 obtain ⟨k,rfl⟩:∃ k:Nat,z=k:=⟨z.toNat,by omega⟩
 have e:Int.tdiv (k:Int) 128=((k / 128:Nat):Int):=rfl
 have e2:Int.tmod (k:Int) 128=((k % 128:Nat):Int):=rfl
 rw [e2] at hy
 have hk:¬ k< 128:=by omega
 have e3:((k:Int)).toNat=k:=by omega
 have e4:(((k / 128:Nat):Int)).toNat=k / 128:=Int.toNat_natCast _
 have e5:(((k % 128:Nat):Int)+128).toNat=k % 128+128:=by omega
 rw [e,← h,hy,e3,e4,e5,FH hk,List.append_assoc]
 rfl
theorem QF {out:Str}{z:Int}{Y:Str}(h:out++CW z.toNat=Y) (hz:¬ z≥128):out++[UInt8.ofNat z.toNat]=Y:=by
 rw [← h,GU AB]
theorem KS {out:Str}{z y:Int}(h:out++CW z.toNat=CW y.toNat) (hy:0≤y∧y≤1000000):out.length≤3:=by
 have:=congrArg List.length h
 rw [List.length_append] at this
 have:=KR (z:=y.toNat) AB
 omega
theorem OF {a b:Int}(h:(DE a).toNat=(DE b).toNat):a=b:=by
 unfold DE at h
 split at h <;> split at h <;> omega
def zp (i:Nat) (step d:Int):Nat:=(DE (if i< 2 then d else d - step)).toNat
def A6:Nat→Int→Int→List Int→Str
 | _,_,_,[]=>[]
 | i,last,step,x::xs=>CW (zp i step (x - last))++A6 (i+1) x (x - last) xs
theorem JH:∀ (xs ys:List Int) (i:Nat) (last step:Int),A6 i last step xs=A6 i last step ys→xs=ys:=by
 intro xs
 induction xs with
 | nil =>
   intro ys i last step h
   cases ys with
   | nil=>rfl
   | cons y ys =>
     have:=congrArg List.length h
     simp only [A6,List.length_nil,List.length_append] at this
     have:=KQ (zp i step (y - last))
     omega
 | cons x xs ih =>
   intro ys i last step h
   cases ys with
   | nil =>
     have:=congrArg List.length h
     simp only [A6,List.length_nil,List.length_append] at this
     have:=KQ (zp i step (x - last))
     omega
   | cons y ys =>
     simp only [A6] at h
     obtain ⟨e1,e2⟩:=OE _ _ _ _ h
     have e3:x=y:=by
      have:=OF e1
      split at this <;> omega
     subst e3
     rw [ih ys _ _ _ e2]
theorem QG {i:Nat}{step d:Int}(h:-3000≤step∧step≤3000) (hd:-3000≤d∧d≤3000):(CW (zp i step d)).length≤2:=by
 refine JG ?_
 unfold zp DE
 split <;> split <;> omega
theorem GW:∀ (l:List Int) (i:Nat) (last step:Int),(∀ x∈l,-1000≤x∧x≤1000)→(-1000≤last∧last≤1000)→(-2000≤step∧step≤2000)→(A6 i last step l).length≤2 * l.length:=by
 intro l
 induction l with
 | nil=>intro i last step _ _ _; simp [A6]
 | cons x xs ih =>
   intro i last step h h1 h2
   simp only [A6,List.length_append,List.length_cons]
   have hx:=h x AD
   have a:=QG (i:=i) (step:=step) (d:=x - last) AB AB
   have b:=ih (i+1) x (x - last) (fun y hy=>h y (by simp [hy])) hx AB
   omega
theorem KT {out Y:Str}{l:List Int}{i:Nat}{last step x y z:Int}(h:out++A6 i last step (l.drop i)=Y) (hd:l.drop i=x::l.drop (i+1)) (hy:y=DE z) (hz:(i< 2∧z=x - last)∨(¬ i< 2∧z=x - last - step)):(out++CW y.toNat)++A6 (i+1) x (x - last) (l.drop (i+1))=Y:=by
 rw [hd] at h
 rw [← h,hy]
 simp only [A6]
 have e:(DE z).toNat=zp i step (x - last):=by
  unfold zp
  rcases hz with ⟨h1,h2⟩ | ⟨h1,h2⟩
  ·rw [if_pos h1,h2]
  ·rw [if_neg h1,h2]
 rw [e,List.append_assoc]
theorem PG {out Y:Str}{l:List Int}{i:Nat}{last step:Int}(h:out++A6 i last step (l.drop i)=Y) (hi:l.length≤i):out=Y:=by
 rw [AY hi] at h
 simpa [A6] using h
theorem Mi {out:Str}{l:List Int}{i:Nat}{last step:Int}(h:out++A6 i last step (l.drop i)=A6 0 0 0 l) (hl:∀ x∈l,-1000≤x∧x≤1000):out.length≤2 * l.length:=by
 have:=congrArg List.length h
 rw [List.length_append] at this
 have:=GW l 0 0 0 hl AB AB
 omega
theorem KU {out:Str}{l:List Int}{i:Nat}{last step z:Int}(h:out++A6 i last step (l.drop i)=A6 0 0 0 l) (hl:∀ x∈l,-1000≤x∧x≤1000) (hn:l.length≤1000) (h1:-10000≤z) (h2:z≤10000):out.length+(CW (DE z).toNat).length≤9000000000000000000:=by
 have:=Mi h hl
 have:=OD (n:=z) (m:=10000) ⟨h1,h2⟩ AB
 have:=KR (z:=(DE z).toNat) AB
 omega
theorem PH {n:Int}{y:UInt8}(h:(y.toNat:Int)=n):y=UInt8.ofNat n.toNat:=by
 rw [← h,show ((y.toNat:Int)).toNat=y.toNat from Int.toNat_natCast _,UInt8.ofNat_toNat]
def Pk (b:List Row):Str:=[UInt8.ofNat (A6 0 0 0 (b.map Row.t)).length]++A6 0 0 0 (b.map Row.t)++A6 0 0 0 (b.map Row.v)
def Ca (b:List Row):Str:=if Af b=true then Pk b else []
theorem KV {b:List Row}(h:Af b=false):[]=Ca b:=by unfold Ca; rw [if_neg (by simp [h])]
theorem LD {b:List Row}(h:Af b=true):∀ x∈b.map Row.t,-1000≤x∧x≤1000:=fun x hx=>by
 obtain ⟨r,hr,rfl⟩:=List.mem_map.1 hx
 exact Q3 ((Fi h).rows r hr)
theorem LF {b:List Row}(h:Af b=true):∀ x∈b.map Row.v,-1000≤x∧x≤1000:=fun x hx=>by
 obtain ⟨r,hr,rfl⟩:=List.mem_map.1 hx
 exact Q4 ((Fi h).rows r hr)
theorem GX {b:List Row}(h:Af b=true):(A6 0 0 0 (b.map Row.t)).length≤48:=by
 have:=GW (b.map Row.t) 0 0 0 (LD h) AB AB
 rw [List.length_map] at this
 have:=bok h
 omega
theorem Mj {b:List Row}(h:Af b=true):(A6 0 0 0 (b.map Row.v)).length≤48:=by
 have:=GW (b.map Row.v) 0 0 0 (LF h) AB AB
 rw [List.length_map] at this
 have:=bok h
 omega
theorem LG {b:List Row}{ts:List Int}{i:Nat}(h:ts++(b.drop i).map Row.t=b.map Row.t) (hi:b.length≤i) (hb:Af b=true):(A6 0 0 0 ts).length≤48:=by
 rw [D4 h hi]; exact GX hb
theorem LH {b:List Row}{ts:List Int}{i:Nat}(h:ts++(b.drop i).map Row.v=b.map Row.v) (hi:b.length≤i) (hb:Af b=true):(A6 0 0 0 ts).length≤48:=by
 rw [D4 h hi]; exact Mj hb
theorem OG {b:List Row}{ts vs:List Int}{i:Nat}(h:ts++(b.drop i).map Row.t=b.map Row.t) (h2:vs++(b.drop i).map Row.v=b.map Row.v) (hi:b.length≤i) (hb:Af b=true):UInt8.ofNat (A6 0 0 0 ts).length::(A6 0 0 0 ts++A6 0 0 0 vs)=Ca b:=by
 rw [D4 h hi,D4 h2 hi]
 unfold Ca; rw [if_pos hb]; rfl
theorem OH:∀ (a b:List Row),a.map Row.t=b.map Row.t→a.map Row.v=b.map Row.v→a=b:=by
 intro a
 induction a with
 | nil=>intro b h _; cases b with | nil=>rfl | cons y ys=>simp at h
 | cons x xs ih =>
   intro b h1 h2
   cases b with
   | nil=>simp at h1
   | cons y ys =>
     simp only [List.map_cons,List.cons.injEq] at h1 h2
     obtain ⟨h3,h4⟩:=h1
     obtain ⟨h5,h6⟩:=h2
     rw [ih ys h4 h6]
     cases x
     cases y
     simp only [Row.mk.injEq] at *
     simp_all
theorem Ml {a b:List Row}(ha:Af a=true) (hb:Af b=true) (h:Ca a=Ca b):a=b:=by
 unfold Ca at h
 rw [if_pos ha,if_pos hb] at h
 unfold Pk at h
 simp only [List.cons_append,List.nil_append,List.cons.injEq] at h
 have e:=ofNat_inj (by have:=GX ha; omega) (by have:=GX hb; omega) h.1
 obtain ⟨e1,e2⟩:=List.append_inj h.2 e
 exact OH a b (JH _ _ _ _ _ e1) (JH _ _ _ _ _ e2)
def Cb (d:Dsk) (s:Sto):Bool:=Ak d&&(nmB s.idx.names&&AZ s)&&decide (s.parts=d.list.map (Aw d))&&decide (d.names=s.idx.names.take d.names.length)
theorem QH {d:Dsk}{s:Sto}(h:Ak d=false):false=Cb d s:=by unfold Cb; rw [h]; rfl
theorem LI {d:Dsk}{s:Sto}(h:s.parts≠d.list.map (Aw d)):false=Cb d s:=by unfold Cb; rw [decide_eq_false h,Bool.and_false]; rfl
theorem Et {d:Dsk}{s:Sto}(h:(s.parts.length:Int)≠d.list.length):false=Cb d s:=LI (fun e=>h (by rw [e,List.length_map]))
theorem LJ {d:Dsk}{s:Sto}(h:d.names≠s.idx.names.take d.names.length):false=Cb d s:=by unfold Cb; rw [decide_eq_false h,Bool.and_false]
theorem D9 {d:Dsk}{s:Sto}(h:(s.idx.names.length:Int)< d.names.length):false=Cb d s:=LJ (fun e=>by
 have:=congrArg List.length e
 rw [List.length_take] at this
 omega)
theorem GY {d:Dsk}{s:Sto}{k:Nat}{a b:List Tag}(ha:d.names[k]? = some a) (hb:s.idx.names[k]? = some b) (h:(text a==text b)=false):false=Cb d s:=LJ (fun e=>(beq_eq_false_iff_ne.1 h) (by
 have hk:=(List.getElem?_eq_some_iff.1 ha).1
 have h2:d.names[k]? = (s.idx.names.take d.names.length)[k]? := congrArg (fun l=>l[k]?) e
 rw [List.getElem?_take,if_pos hk,ha,hb] at h2
 cases h2
 rfl))
theorem KW {d:Dsk}{s:Sto}(h1:Ak d=true) (h2:(nmB s.idx.names&&AZ s)=true) (h3:s.parts=d.list.map (Aw d)) (h4:d.names=s.idx.names.take d.names.length):true=Cb d s:=by unfold Cb; rw [h1,h2,decide_eq_true h3,decide_eq_true h4]; rfl
def OI (d:Dsk) (s:Sto) (k:Nat):Prop:=∀ j a b,j< k→d.names[j]? = some a→s.idx.names[j]? = some b→text a=text b
theorem QI (d:Dsk) (s:Sto):OI d s 0:=fun j _ _ h=>absurd h AB
theorem QJ {d:Dsk}{s:Sto}{k:Nat}{a b:List Tag}(h:OI d s k) (ha:d.names[k]? = some a) (hb:s.idx.names[k]? = some b) (e:(text a==text b)=true):OI d s (k+1):=fun j x y hj hx hy=>by
 by_cases e1:j=k
 ·subst e1
  rw [ha] at hx
  rw [hb] at hy
  cases hx
  cases hy
  exact eq_of_beq e
 ·exact h j x y AB hx hy
theorem QK {d:Dsk}{s:Sto}{k:Nat}(h:OI d s k) (hk:d.names.length≤k) (hd:NmI d.names) (hs:NmI s.idx.names) (hl:d.names.length≤s.idx.names.length):d.names=s.idx.names.take d.names.length:=by
 apply List.ext_getElem?
 intro j
 by_cases hj:j< d.names.length
 ·rw [List.getElem?_take,if_pos hj]
  have ha:=AU hj
  have hb:=AU (l:=s.idx.names) (i:=j) AB
  rw [ha,hb,KH (hd.ok _ (List.getElem_mem _)) (hs.ok _ (List.getElem_mem _)) (h j _ _ AB ha hb)]
 ·rw [List.getElem?_eq_none AB,List.getElem?_eq_none (by rw [List.length_take]; omega)]
def OJ (d:Dsk) (s:Sto) (k:Nat):Prop:=∀ j n q,j< k→d.list[j]? = some n→s.parts[j]? = some q→Aw d n=q
theorem QL (d:Dsk) (s:Sto):OJ d s 0:=fun j _ _ h=>absurd h AB
theorem QM {d:Dsk}{s:Sto}{k:Nat}(h:OJ d s k) (hk:d.list.length≤k) (hl:(s.parts.length:Int)=d.list.length):s.parts=d.list.map (Aw d):=by
 apply List.ext_getElem?
 intro j
 by_cases hj:j< d.list.length
 ·have ha:=AU hj
  have hb:=AU (l:=s.parts) (i:=j) AB
  rw [List.getElem?_map,ha,hb,← h j _ _ AB ha hb]
  rfl
 ·rw [List.getElem?_eq_none AB,List.getElem?_eq_none (by rw [List.length_map]; omega)]
def OK (d:Dsk) (s:Sto) (k:Nat) (k1:Int):Prop:=∀ n q,d.list[k]? = some n→s.parts[k]? = some q→∀ id:Int,1≤id→id< k1→partOf (Aw d n) id=partOf q id
theorem QN (d:Dsk) (s:Sto) (k:Nat):OK d s k 1:=fun _ _ _ _ id h1 h2=>absurd h1 AB
theorem JI {d:Dsk}(h:Ak d=true) (n:Int):Ac (Aw d n)=true:=by
 unfold Aw
 rw [List.getD_eq_getElem?_getD]
 cases hx:d.files[(At d n).toNat]? with
 | none=>rfl
 | some f=>exact (KP _ _ _ (BT h).2.2.1 f (AV hx)).2.2
theorem QO {d:Dsk}{s:Sto}{k:Nat}{k1:Int}{n:Int}{q:Prt}{f:Fil}(h:OK d s k k1) (hk:Ak d=true) (hs:AZ s=true) (hss:SD s) (hn:d.list[k]? = some n) (hq:s.parts[k]? = some q) (hf:d.files[(At d n).toNat]? = some f) (e:(Ca (partOf f.part k1)==Ca (partOf q k1))=true):OK d s k (k1+1):=fun m r hm hr id h1 h2=>by
 rw [hn] at hm
 rw [hq] at hr
 cases hm
 cases hr
 by_cases e1:id=k1
 ·subst e1
  have e2:=F6 hf
  have a:Af (partOf f.part id)=true:=C6 (by rw [← e2]; exact JI hk n) id
  have b:Af (partOf q id)=true:=C6 ((StoK.of hss hs).part q (AV hq)).2 id
  rw [e2]
  exact Ml a b (eq_of_beq e)
 ·exact h n q hn hq id h1 AB
theorem GZ {d:Dsk}{s:Sto}{k:Nat}{k1 n:Int}{q:Prt}{f:Fil}(hn:d.list[k]? = some n) (hq:s.parts[k]? = some q) (hf:d.files[(At d n).toNat]? = some f) (e:(Ca (partOf f.part k1)==Ca (partOf q k1))=false):false=Cb d s:=LI (fun e2=>(beq_eq_false_iff_ne.1 e) (by
 have h2:s.parts[k]? = (d.list.map (Aw d))[k]? := congrArg (fun l=>l[k]?) e2
 rw [List.getElem?_map,hn,hq] at h2
 have h3:=Option.some.inj h2
 rw [h3,F6 hf]))
theorem KX {p:Prt}(h:Ac p=true){id:Int}(hid:¬ (1≤id∧id≤6)):partOf p id=[]:=by
 unfold Ac at h
 simp only [AW,decide_eq_true_eq] at h
 have key:∀ (is:List Int) (bs:List (List Row)) (o:Option Int),Ai o is bs=true→Az id is bs=[]:=by
  intro is
  induction is with
  | nil=>intro bs o _; unfold Az; rfl
  | cons i is ih =>
    intro bs o hg
    cases bs with
    | nil=>unfold Az; rfl
    | cons b bs =>
      simp only [Ai,AW] at hg
      have h5:=Bh hg.1.1.1.1
      unfold Az
      rw [if_neg (by simp; omega)]
      exact ih bs _ hg.2
 exact key _ _ _ h.2
theorem Mm {p q:Prt}(hp:Ac p=true) (hq:Ac q=true) (h:∀ id:Int,1≤id→id≤6→partOf p id=partOf q id):p=q:=OC hp hq (fun id=>by
 by_cases hid:1≤id∧id≤6
 ·exact h id hid.1 hid.2
 ·rw [KX hp hid,KX hq hid])
theorem QP {d:Dsk}{s:Sto}{k:Nat}{k1:Int}(h:OJ d s k) (hi:OK d s k k1) (h7:¬ k1≤6) (hk:Ak d=true) (hs:AZ s=true) (hss:SD s):OJ d s (k+1):=fun j n q hj hn hq=>by
 by_cases e1:j=k
 ·subst e1
  exact Mm (JI hk n) ((StoK.of hss hs).part q (AV hq)).2 (fun id h1 h2=>hi n q hn hq id h1 AB)
 ·exact h j n q AB hn hq
end Go.Proofs.YtfninflnngpchaaGreat
namespace Go.Proofs.YtfninflnngpchaaGreat
set_option maxRecDepth 100000
set_option maxHeartbeats 4000000
variable {w:World} {F:Nat→Prop} {a1:Option Addr} {n1 c1:Nat}
theorem DF (n:Int){F:Nat→Prop}  (p0:0≤n∧n≤255):Calls Tryz.prog 133 [.int .i64 n].toArray w (Ad fun rv w'=>rv=.string (bs ([UInt8.ofNat n.toNat]))∧Ext w w'):=by
 refine goT func133 ?_
 have Z:=St.i0 F w
 refine .s<|.g<|.r 1<|.d<|.s<|.g<|.r 1 ?_
 obtain ⟨aa,ab⟩:∃ y:UInt8,(y.toNat:Int)=n:=PE AB
 exact RG.eqv (v:=.int .u8 (aa.toNat:Int)) (v':=.int .u8 (IntKind.u8.wrap n)) AA (Mh ab)<|RG.Nl 0 ([aa]:List UInt8) [] Z fun ac w Z=>RG.b2s (s:=209) (d:=9) (y:=aa) (Z.ow 0 ([aa]:List UInt8) AA).1 AA AA<|.r 1<|.d<|T.rt func133 results133 (.string (bs [aa])) ⟨(congrArg (fun s=>Value.string (bs s)) (by rw [List.cons.injEq]; exact ⟨PH ‹_›,rfl⟩)),Z.xt⟩
theorem E2 (z:Int){F:Nat→Prop}  (p0:0≤z∧z≤1000000):Calls Tryz.prog 189 [.int .i64 z].toArray w (Ad fun rv w'=>rv=.string (bs (CW z.toNat))∧Ext w w'):=by
 refine goT func189 ?_
 have Z:=St.i0 F w
 refine .s<|.g<|.r 1<|.d<|.s<|.g<|.r 1<|.d<|.s<|.b 0<|T.Lp (z,[]) (fun (z1,out)=>([(0,vI z1),(3,vT out)],[],[],z1.toNat,(0≤z1∧z1≤1000000)∧(out++CW z1.toNat=CW z.toNat))) [] Z ⟨AB,AF⟩ ?_
 rintro ⟨z1,out⟩ ah w Z ⟨af,ag⟩ ab
 exact .s<|.s<|.g<|.r 1<|.bp (z1≥128) (fun ae=>.d<|.ct<|.sk<|.b 1<|.s<|.g<|.r 3<|RG.int (Int.tmod z1 128+128) AA (by first | omega | (have q1:=JF (z:=z1) AB; omega))<|RG.C0 (DF (Int.tmod z1 128+128) (by first | omega | (have q1:=JF (z:=z1) AB; omega)) (F:=all)) Z fun w Z=>RG.cat (t:=9) (s:=out) (u:=[UInt8.ofNat (Int.tmod z1 128+128).toNat]) AA (by have q1:=KS ‹_› p0; simp only [List.length_cons,List.length_nil]; omega)<|.r 1<|.d<|.g<|.r 1<|RG.quo (t:=3) (a:=z1) (b:=128) AA AB (by first | omega | (have q1:=JF (z:=z1) AB; omega))<|.r 1<|.d<|.ib 1<|ab ((Int.tdiv z1 128),(out++[UInt8.ofNat (Int.tmod z1 128+128).toNat])) _ _ AA (Z.to 0 [] 0) ⟨(by have q1:=JF (z:=z1) AB; omega),(by exact PF ‹_› AB rfl)⟩ (by simp only []; have q1:=JF (z:=z1) AB; omega)) fun ae=>.d<|.cf<|.x 0 rfl<|.s<|.g<|.r 2<|RG.C0 (DF z1 (by first | omega | (have q1:=JF (z:=z1) AB; omega)) (F:=all)) Z fun w Z=>RG.cat (t:=9) (s:=out) (u:=[UInt8.ofNat z1.toNat]) AA (by have q1:=KS ‹_› p0; simp only [List.length_cons,List.length_nil]; omega)<|.r 1<|.d<|T.rt func189 results189 (.string (bs (out++[UInt8.ofNat z1.toNat]))) ⟨(congrArg (fun s=>Value.string (bs s)) (by exact QF ‹_› AB)),Z.xt⟩
theorem Eb (list:List Int) (h1:RepS w F a1 n1 c1 list) (p0:list.length≤1000) (p1:∀ x∈list,-1000≤x∧x≤1000):Calls Tryz.prog 132 [.slice a1 n1 c1].toArray w (Ad fun rv w'=>rv=.string (bs (A6 0 0 0 list))∧Ext w w'):=by
 cases h1.len
 refine goT func132 ?_
 have Z:=(St.i0 F w).p h1
 have ai:=h1.max
 refine .s<|.g<|.r 1<|.d<|.s<|.g<|.r 1<|.d<|.s<|.g<|.r 1<|.d<|.s<|.g<|.r 1<|.d<|.s<|.s<|.g<|.r 1<|.d<|.b 0<|T.Lp ([],(0:Int),(0:Int),(0:Nat)) (fun (out,last,step,i)=>([(0,.slice a1 list.length c1),(3,vT out),(4,vI last),(5,vI step),(6,vI (i:Int))],[],[],list.length - i,(i≤list.length)∧(-1000≤last∧last≤1000)∧(-2000≤step∧step≤2000)∧(out++A6 i last step (list.drop i)=A6 0 0 0 list))) [] Z ⟨(by first | omega | rfl | (simp; done)),(by first | omega | rfl | (simp; done)),(by first | omega | rfl | (simp; done)),(by first | omega | rfl | (simp; done))⟩ ?_
 rintro ⟨out,last,step,i⟩ ar w Z ⟨aj,ak,am,ao⟩ ac
 refine .s<|.s<|.g<|.r 3<|.bp ((i:Int)< (list.length:Int)) (fun af=>?_) (fun af=>.d<|.cf<|.x 0 rfl<|.s<|.g<|.r 2<|.d<|T.rt func132 results132 (vT out) ⟨(congrArg (fun s=>Value.string (bs s)) (by exact PG ‹_› AB)),Z.xt⟩)
 refine .d<|.ct<|.sk<|.s<|.b 1<|.s<|.g<|.r 2<|gx list i fun aa ab=>?_
 have aq:=drop_at ab; have ah:=AV ab
 exact RG.Ix 0 ab Z<|Z.el 0 ab fun Z=>RG.Lh 0 0 Z<|.r 1<|RG.int (aa - last) AA (by first | omega | (have q1:=p1 _ ‹_›; omega))<|.r 1<|.d<|.s<|.s<|.g<|.r 1<|.bp ((i:Int)< 2) (fun ag=>.d<|.ct<|.g<|.r 2<|RG.C0 (Fl (aa - last) (by have q1:=p1 _ ‹_›; omega) (F:=all)) Z fun w Z=>RG.C0 (E2 (DE (aa - last)) (by have q1:=p1 _ ‹_›; exact L0 AB) (F:=all)) Z fun w Z=>RG.cat (t:=9) (s:=out) (u:=CW (DE (aa - last)).toNat) AA (by have q2:=p1 _ ‹_›; exact KU ‹_› p1 p0 AB AB)<|.r 1<|.d<|.s<|.g<|.r 2<|.d<|.g<|.r 2<|RG.Ix 1 ab Z<|RG.Lh 0 0 Z<|.r 1<|.d<|.ib 1<|.g<|.r 1<|RG.int ((i:Int)+1) AA (by first | omega | (have q1:=p1 _ ‹_›; omega))<|.r 1<|.d<|ac ((out++(CW (DE (aa - last)).toNat)),aa,aa - last,i+1) _ _ AA (Z.to 0 [] 1) ⟨AB,(by exact p1 _ ‹_›),(by have q1:=p1 _ ‹_›; omega),(by exact KT ‹_› ‹_› rfl (by first | exact .inl ⟨by omega,rfl⟩ | exact .inr ⟨by omega,rfl⟩))⟩ (by first | omega | (simp only []; omega))) fun ag=>.d<|.cf<|.g<|.r 3<|RG.int ((aa - last) - step) AA (by first | omega | (have q1:=p1 _ ‹_›; omega))<|RG.C0 (Fl ((aa - last) - step) (by have q1:=p1 _ ‹_›; omega) (F:=all)) Z fun w Z=>RG.C0 (E2 (DE ((aa - last) - step)) (by have q1:=p1 _ ‹_›; exact L0 AB) (F:=all)) Z fun w Z=>RG.cat (t:=9) (s:=out) (u:=CW (DE ((aa - last) - step)).toNat) AA (by have q2:=p1 _ ‹_›; exact KU ‹_› p1 p0 AB AB)<|.r 1<|.d<|.s<|.g<|.r 2<|.d<|.g<|.r 2<|RG.Ix 1 ab Z<|RG.Lh 0 0 Z<|.r 1<|.d<|.ib 1<|.g<|.r 1<|RG.int ((i:Int)+1) AA (by first | omega | (have q1:=p1 _ ‹_›; omega))<|.r 1<|.d<|ac ((out++(CW (DE ((aa - last) - step)).toNat)),aa,aa - last,i+1) _ _ AA (Z.to 0 [] 1) ⟨AB,(by exact p1 _ ‹_›),(by have q1:=p1 _ ‹_›; omega),(by exact KT ‹_› ‹_› rfl (by first | exact .inl ⟨by omega,rfl⟩ | exact .inr ⟨by omega,rfl⟩))⟩ (by first | omega | (simp only []; omega))
theorem DR (b:List Row) (h1:RepS w F a1 n1 c1 b) (p0:b.length≤1000):Calls Tryz.prog 60 [.slice a1 n1 c1].toArray w (Ad fun rv w'=>rv=.string (bs (Ca b))∧Ext w w'):=by
 cases h1.len
 refine goT func60 ?_
 have Z:=(St.i0 F w).p h1
 have ao:=h1.max
 refine .s<|.g<|.r 1<|.d<|.s<|.s<|.g<|.r 1<|RG.C0 (C9 b (Z.a 0)) Z fun w Z=>?_
 cases aq:(Af b)
 ·exact .r 1<|.d<|.ct<|.s<|.g<|.r 1<|.d<|T.rt func60 results60 (.string (bs [])) ⟨(congrArg (fun s=>Value.string (bs s)) (by first | exact KV ‹_› | exact OG ‹_› ‹_› AB ‹_›)),Z.xt⟩
 refine .r 1<|.d<|.cf<|.sk<|.s<|.g<|RG.N0 Int 0 Z fun ag w Z=>.r 1<|.d<|.s<|.g<|RG.N0 Int 0 Z fun ah w Z=>.r 1<|.d<|.s<|.s<|.g<|.r 1<|.d<|.b 0<|T.Lp (([]:List Int),ag,(0:Nat),([]:List Int),ah,(0:Nat),(0:Nat)) (fun (ts,r_ts,c_ts,vs,r_vs,c_vs,i)=>([(0,.slice a1 b.length c1),(3,vS r_ts ts.length c_ts),(4,vS r_vs vs.length c_vs),(5,vI (i:Int))],[(0,.own 0 r_vs 3 c_vs vs),(1,.own 0 r_ts 3 c_ts ts)],[],b.length - i,(i≤b.length)∧(ts.length=i)∧(vs.length=i)∧(ts++(b.drop i).map Row.t=b.map Row.t)∧(vs++(b.drop i).map Row.v=b.map Row.v))) [] Z ⟨(by first | omega | rfl | (simp; done)),(by first | omega | rfl | (simp; done)),(by first | omega | rfl | (simp; done)),(by first | omega | rfl | (simp; done)),(by first | omega | rfl | (simp; done))⟩ ?_
 rintro ⟨ts,r_ts,c_ts,vs,r_vs,c_vs,i⟩ aE w Z ⟨ar,ax,ay,az,aA⟩ ab
 refine .s<|.s<|.g<|.r 3<|.bp ((i:Int)< (b.length:Int)) (fun ae=>?_) (fun ae=>.d<|.cf<|.x 0 rfl<|.s<|.g<|.r 1<|RG.C0 (Eb ts (Z.oa 1) AB (by first | exact D4 (by assumption:_++(b.drop _).map Row.t=_) AB▸LD ‹_› | exact D4 (by assumption:_++(b.drop _).map Row.v=_) AB▸LF ‹_›)) Z fun w Z=>.r 1<|.d<|.s<|.g<|.r 1<|RG.eqv (v:=vI ((A6 0 0 0 ts).length:Int)) AA (HM (A6 0 0 0 ts))<|RG.C0 (DF ((A6 0 0 0 ts).length:Int) (by have q1:=LG ‹_› AB (by assumption:Af b=true); have q2:=LH ‹_› AB (by assumption:Af b=true); omega) (F:=all)) Z fun w Z=>.r 1<|RG.cat (t:=9) (s:=[UInt8.ofNat ((A6 0 0 0 ts).length:Int).toNat]) (u:=A6 0 0 0 ts) AA (by have q1:=LG ‹_› (by first | omega | (simp only [List.length_append,List.length_cons,List.length_nil]; omega)) (by assumption:Af b=true); have q2:=LH ‹_› (by first | omega | (simp only [List.length_append,List.length_cons,List.length_nil]; omega)) (by assumption:Af b=true); first | omega | (simp only [List.length_append,List.length_cons,List.length_nil]; omega))<|.r 1<|RG.C0 (Eb vs (Z.oa 0) AB (by first | exact D4 (by assumption:_++(b.drop _).map Row.t=_) AB▸LD ‹_› | exact D4 (by assumption:_++(b.drop _).map Row.v=_) AB▸LF ‹_›)) Z fun w Z=>RG.cat (t:=9) (s:=([UInt8.ofNat ((A6 0 0 0 ts).length:Int).toNat]++(A6 0 0 0 ts))) (u:=A6 0 0 0 vs) AA (by have q1:=LG ‹_› (by first | omega | (simp only [List.length_append,List.length_cons,List.length_nil]; omega)) (by assumption:Af b=true); have q2:=LH ‹_› (by first | omega | (simp only [List.length_append,List.length_cons,List.length_nil]; omega)) (by assumption:Af b=true); first | omega | (simp only [List.length_append,List.length_cons,List.length_nil]; omega))<|.r 1<|.d<|T.rt func60 results60 (.string (bs (([UInt8.ofNat ((A6 0 0 0 ts).length:Int).toNat]++(A6 0 0 0 ts))++(A6 0 0 0 vs)))) ⟨(congrArg (fun s=>Value.string (bs s)) (by first | exact KV ‹_› | exact OG ‹_› ‹_› AB ‹_›)),Z.xt⟩)
 refine .d<|.ct<|.sk<|.s<|.b 1<|.s<|.g<|.r 3<|gx b i fun ac aa=>?_
 have aD:=drop_at aa; have af:=AV aa
 exact RG.Ix 0 aa Z<|.r 1<|Z.el 0 aa fun Z=>RG.Lh 0 0 Z<|RG.Nb 1 Z fun aF w Z=>RG.Ap 1 0 ts ac.t [] Z fun ai aj w Z=>.r 1<|.d<|.g<|.r 3<|RG.Ix 1 aa Z<|.r 1<|RG.Lh 0 1 Z<|RG.Nb 1 Z fun aG w Z=>RG.Ap 0 0 vs ac.v [] Z fun ak am w Z=>.r 1<|.d<|.ib 1<|.g<|.r 1<|.it ((i:Int)+1)<|.r 1<|.d<|ab ((ts++[ac.t]),ai,aj,(vs++[ac.v]),ak,am,i+1) _ _ AA (Z.to 0 [] 1) ⟨AB,(by (simp; omega)),(by (simp; omega)),(by exact mapStep ‹_› ‹_› rfl),(by exact mapStep ‹_› ‹_› rfl)⟩ (by first | omega | (simp only []; omega))
end Go.Proofs.YtfninflnngpchaaGreat
namespace Go.Proofs.YtfninflnngpchaaGreat
theorem Hq {d:Dsk}{s y:Sto}(hy:DC d y) (h:(s.parts==y.parts)=false):false=Cb d s:=LI (fun e=>by
 have e2:s.parts=y.parts:=e.trans hy.2.1.symm
 rw [e2] at h
 simp at h)
theorem QQ {d:Dsk}{s y:Sto}(hy:DC d y) (h:(s.parts==y.parts)=true):s.parts=d.list.map (Aw d):=(eq_of_beq h).trans hy.2.1
theorem Hr {d:Dsk}{s:Sto}(h:¬ (d.names.length:Int)≤s.idx.names.length):false=Cb d s:=D9 AB
theorem Hs {d:Dsk}{s y:Sto}{l:List (List Tag)}(hy:DC d y) (h1:Ak d=true) (h2:(nmB s.idx.names&&AZ s)=true) (h3:(s.parts==y.parts)=true) (hl:l=s.idx.names.take d.names.length):(d.names==l)=Cb d s:=by
 subst hl
 by_cases e:d.names=s.idx.names.take d.names.length
 ·rw [beq_iff_eq.2 e]
  exact KW h1 h2 (QQ hy h3) e
 ·rw [beq_eq_false_iff_ne.2 e]
  exact LJ e
end Go.Proofs.YtfninflnngpchaaGreat
namespace Go.Proofs.YtfninflnngpchaaGreat
set_option maxRecDepth 100000
set_option maxHeartbeats 4000000
variable {w:World} {F:Nat→Prop} {a1 a2 a3 a4:Option Addr} {n1 c1 n2 c2 n3 c3 n4 c4:Nat}
theorem CX (a:List Row) (b:List Row) (h1:RepS w F a1 n1 c1 a) (h2:RepS w F a2 n2 c2 b)  : Calls Tryz.prog 148 [.slice a1 n1 c1,.slice a2 n2 c2].toArray w (Ad fun rv w'=>rv=.bool ((a==b))∧Ext w w'):=by
 cases h1.len
 cases h2.len
 refine goT func148 ?_
 have Z:=((St.i0 F w).p h1).p h2
 have ak:=h1.max
 have am:=h2.max
 refine .s<|.g<|.r 1<|.d<|.s<|.s<|.g<|.r 4<|.ne (a.length:Int) (b.length:Int) (fun ae=>.d<|.ct<|.s<|.g<|.r 1<|.d<|T.rt func148 results148 (.bool false) ⟨(AG (by grind [AY])),Z.xt⟩) fun ae=>.d<|.cf<|.sk<|.s<|.s<|.g<|.r 3<|.d<|.b 0<|T.Lp (0:Nat) (fun k=>([(0,.slice a1 a.length c1),(1,.slice a2 b.length c2),(12,vI (a.length:Int)),(13,vI (k:Int))],[],[],a.length - k,(k≤a.length)∧(a.drop k=b.drop k↔a=b))) [] Z ⟨AD,AD⟩ ?_
 rintro k az w Z ⟨ao,aq⟩ ac
 refine .s<|.g<|.bp ((k:Int)< (a.length:Int)) (fun af=>?_) (fun af=>.d<|.s<|.cf<|.x 0 rfl<|.s<|.g<|.r 1<|.d<|T.rt func148 results148 (.bool true) ⟨(AG (by grind [AY])),Z.xt⟩)
 refine .d<|.s<|.ct<|.sk<|.s<|.b 1<|.s<|.g<|.r 2<|.d<|.s<|T.Gd 8 Z fun w Z=>.r [0,1]<|gx a k fun ag aa=>?_
 have ar:=drop_at aa; have ai:=AV aa
 refine GA.Ix 2 1 aa Z<|Z.el 1 aa fun Z=>GA.Lg 3 0 0 Z<|.r [4,5]<|gx b k fun ah ab=>?_
 have ax:=drop_at ab; have aj:=AV ab
 refine GA.Ix 6 1 ab Z<|Z.el 1 ab fun Z=>GA.Lg 7 0 0 Z<|GA.Dn Z fun w Z=>RG.PW (t:=72) (x:=ag) (y:=ah) AA AA ?_
 cases ay:(ag==ah)
 ·exact .d<|.ct<|.s<|.g<|.r 1<|.d<|T.rt func148 results148 (.bool false) ⟨(AG (by grind [AY])),Z.xt⟩
 exact .d<|.cf<|.sk<|.ib 1<|.g<|.it ((k:Int)+1)<|.r 1<|.d<|ac (k+1) _ _ AA (Z.to 0 [] 2) ⟨AB,(by grind)⟩ (by first | omega | (simp only []; omega))
theorem FI (s1:List (List Row)) (s2:List (List Row)) (h1:RepS w F a1 n1 c1 s1) (h2:RepS w F a2 n2 c2 s2)  : Calls Tryz.prog 147 [.slice a1 n1 c1,.slice a2 n2 c2,.func (.func 148) #[] #[]].toArray w (Ad fun rv w'=>rv=.bool ((s1==s2))∧Ext w w'):=by
 cases h1.len
 cases h2.len
 refine goT func147 ?_
 have Z:=((St.i0 F w).p h1).p h2
 have ak:=h1.max
 have am:=h2.max
 refine .s<|.g<|.r 1<|.d<|.s<|.s<|.g<|.r 4<|.ne (s1.length:Int) (s2.length:Int) (fun ae=>.d<|.ct<|.s<|.g<|.r 1<|.d<|T.rt func147 results147 (.bool false) ⟨(AG (by grind [AY])),Z.xt⟩) fun ae=>.d<|.cf<|.sk<|.s<|.s<|.g<|.r 3<|.d<|.b 0<|T.Lp (0:Nat) (fun k=>([(1,.slice a2 s2.length c2),(2,.func (.func 148) #[] #[]),(15,.slice a1 s1.length c1),(16,vI (s1.length:Int)),(17,vI (k:Int))],[],[],s1.length - k,(k≤s1.length)∧(s1.drop k=s2.drop k↔s1=s2))) [] Z ⟨AD,AD⟩ ?_
 rintro k az w Z ⟨ao,aq⟩ ac
 refine .s<|.g<|.bp ((k:Int)< (s1.length:Int)) (fun af=>?_) (fun af=>.d<|.s<|.cf<|.x 0 rfl<|.s<|.g<|.r 1<|.d<|T.rt func147 results147 (.bool true) ⟨(AG (by grind [AY])),Z.xt⟩)
 refine .d<|.s<|.ct<|.sk<|.s<|.b 1<|.s<|.g<|.r 1<|gx s1 k fun ag aa=>?_
 have ar:=drop_at aa; have ai:=AV aa
 refine RG.Ix 1 aa Z<|Z.el 1 aa fun aA aB Z=>RG.Lh 0 0 Z<|.r 2<|.d<|.s<|.g<|.r 2<|gx s2 k fun ah ab=>?_
 have ax:=drop_at ab; have aj:=AV ab
 refine RG.Ix 2 ab Z<|Z.el 2 ab fun aC aD Z=>RG.Lh 0 0 Z<|.r 1<|.d<|.s<|.g<|.r 3<|RG.C0 (CX ag ah (Z.a 3) (Z.a 1)) Z fun w Z=>?_
 cases ay:(ag==ah)
 ·exact .r 1<|.d<|.ct<|.s<|.g<|.r 1<|.d<|T.rt func147 results147 (.bool false) ⟨(AG (by grind [AY])),Z.xt⟩
 exact .r 1<|.d<|.cf<|.sk<|.ib 1<|.g<|.it ((k:Int)+1)<|.r 1<|.d<|ac (k+1) _ _ AA (Z.to 0 [] 4) ⟨AB,(by grind)⟩ (by first | omega | (simp only []; omega))
theorem Fm (s1:List (List Tag)) (s2:List (List Tag)) (h1:RepS w F a1 n1 c1 s1) (h2:RepS w F a2 n2 c2 s2)  : Calls Tryz.prog 73 [.slice a1 n1 c1,.slice a2 n2 c2,.func (.func 74) #[] #[]].toArray w (Ad fun rv w'=>rv=.bool ((s1==s2))∧Ext w w'):=by
 cases h1.len
 cases h2.len
 refine goT func73 ?_
 have Z:=((St.i0 F w).p h1).p h2
 have ak:=h1.max
 have am:=h2.max
 refine .s<|.g<|.r 1<|.d<|.s<|.s<|.g<|.r 4<|.ne (s1.length:Int) (s2.length:Int) (fun ae=>.d<|.ct<|.s<|.g<|.r 1<|.d<|T.rt func73 results73 (.bool false) ⟨(AG (by grind [AY])),Z.xt⟩) fun ae=>.d<|.cf<|.sk<|.s<|.s<|.g<|.r 3<|.d<|.b 0<|T.Lp (0:Nat) (fun k=>([(1,.slice a2 s2.length c2),(2,.func (.func 74) #[] #[]),(15,.slice a1 s1.length c1),(16,vI (s1.length:Int)),(17,vI (k:Int))],[],[],s1.length - k,(k≤s1.length)∧(s1.drop k=s2.drop k↔s1=s2))) [] Z ⟨AD,AD⟩ ?_
 rintro k az w Z ⟨ao,aq⟩ ac
 refine .s<|.g<|.bp ((k:Int)< (s1.length:Int)) (fun af=>?_) (fun af=>.d<|.s<|.cf<|.x 0 rfl<|.s<|.g<|.r 1<|.d<|T.rt func73 results73 (.bool true) ⟨(AG (by grind [AY])),Z.xt⟩)
 refine .d<|.s<|.ct<|.sk<|.s<|.b 1<|.s<|.g<|.r 1<|gx s1 k fun ag aa=>?_
 have ar:=drop_at aa; have ai:=AV aa
 refine RG.Ix 1 aa Z<|Z.el 1 aa fun aA aB Z=>RG.Lh 0 0 Z<|.r 2<|.d<|.s<|.g<|.r 2<|gx s2 k fun ah ab=>?_
 have ax:=drop_at ab; have aj:=AV ab
 refine RG.Ix 2 ab Z<|Z.el 2 ab fun aC aD Z=>RG.Lh 0 0 Z<|.r 1<|.d<|.s<|.g<|.r 3<|RG.C0 (Bc ag ah (Z.a 3) (Z.a 1)) Z fun w Z=>?_
 cases ay:(ag==ah)
 ·exact .r 1<|.d<|.ct<|.s<|.g<|.r 1<|.d<|T.rt func73 results73 (.bool false) ⟨(AG (by grind [AY])),Z.xt⟩
 exact .r 1<|.d<|.cf<|.sk<|.ib 1<|.g<|.it ((k:Int)+1)<|.r 1<|.d<|ac (k+1) _ _ AA (Z.to 0 [] 4) ⟨AB,(by grind)⟩ (by first | omega | (simp only []; omega))
theorem Gy (a:Prt) (b:Prt) (h1:RepS w F a1 n1 c1 a.ids) (h2:RepS w F a2 n2 c2 a.blocks) (h3:RepS w F a3 n3 c3 b.ids) (h4:RepS w F a4 n4 c4 b.blocks)  : Calls Tryz.prog 72 [.agg #[.slice a1 n1 c1,.slice a2 n2 c2],.agg #[.slice a3 n3 c3,.slice a4 n4 c4]].toArray w (Ad fun rv w'=>rv=.bool ((a==b))∧Ext w w'):=by
 cases h1.len
 cases h2.len
 cases h3.len
 cases h4.len
 refine goT func72 ?_
 have Z:=((((St.i0 F w).p h1).p h2).p h3).p h4
 have aa:=h1.max
 have ab:=h2.max
 have ac:=h3.max
 have ae:=h4.max
 refine .s<|.g<|RG.Np Z fun ag w Z=>RG.Np Z fun ah w Z=>.r 1<|.d<|.s<|.g<|.r 1<|RG.Lb 1 Z<|.r 1<|RG.Lb 0 Z<|RG.C0 (CQ a.ids b.ids (Z.a 3) (Z.a 1)) Z fun w Z=>?_
 cases af:(a.ids==b.ids)
 ·exact .r 8<|.d<|T.rt func72 results72 (.bool false) ⟨(AG (by cases a; cases b; grind)),Z.xt⟩
 exact .r 2<|RG.Lb 1 Z<|.r 1<|RG.Lb 0 Z<|RG.C0 (FI a.blocks b.blocks (Z.a 2) (Z.a 0)) Z fun w Z=>.r 2<|.d<|T.rt func72 results72 (.bool (a.blocks==b.blocks)) ⟨(AG (by cases a; cases b; grind)),Z.xt⟩
theorem Fo (s1:List Prt) (s2:List Prt) (h1:RepS w F a1 n1 c1 s1) (h2:RepS w F a2 n2 c2 s2)  : Calls Tryz.prog 70 [.slice a1 n1 c1,.slice a2 n2 c2,.func (.func 72) #[] #[]].toArray w (Ad fun rv w'=>rv=.bool ((s1==s2))∧Ext w w'):=by
 cases h1.len
 cases h2.len
 refine goT func70 ?_
 have Z:=((St.i0 F w).p h1).p h2
 have ak:=h1.max
 have am:=h2.max
 refine .s<|.g<|.r 1<|.d<|.s<|.s<|.g<|.r 4<|.ne (s1.length:Int) (s2.length:Int) (fun ae=>.d<|.ct<|.s<|.g<|.r 1<|.d<|T.rt func70 results70 (.bool false) ⟨(AG (by grind [AY])),Z.xt⟩) fun ae=>.d<|.cf<|.sk<|.s<|.s<|.g<|.r 3<|.d<|.b 0<|T.Lp (0:Nat) (fun k=>([(1,.slice a2 s2.length c2),(2,.func (.func 72) #[] #[]),(15,.slice a1 s1.length c1),(16,vI (s1.length:Int)),(17,vI (k:Int))],[],[],s1.length - k,(k≤s1.length)∧(s1.drop k=s2.drop k↔s1=s2))) [] Z ⟨AD,AD⟩ ?_
 rintro k az w Z ⟨ao,aq⟩ ac
 refine .s<|.g<|.bp ((k:Int)< (s1.length:Int)) (fun af=>?_) (fun af=>.d<|.s<|.cf<|.x 0 rfl<|.s<|.g<|.r 1<|.d<|T.rt func70 results70 (.bool true) ⟨(AG (by grind [AY])),Z.xt⟩)
 refine .d<|.s<|.ct<|.sk<|.s<|.b 1<|.s<|.g<|.r 1<|gx s1 k fun ag aa=>?_
 have ar:=drop_at aa; have ai:=AV aa
 refine RG.Ix 1 aa Z<|Z.el 1 aa fun aA aB aC aD Z=>RG.Lg 0 0 Z<|RG.Np Z fun aE w Z=>.r 1<|RG.Ss 0 Z fun w Z=>.d<|.s<|.g<|.r 2<|gx s2 k fun ah ab=>?_
 have ax:=drop_at ab; have aj:=AV ab
 refine RG.Ix 3 ab Z<|Z.el 3 ab fun aF aG aH aI Z=>RG.Lg 0 0 Z<|RG.Np Z fun aJ w Z=>RG.Ss 0 Z fun w Z=>.d<|.s<|.g<|.r 1<|RG.Ln 1 Z<|RG.Ln 0 Z<|RG.C0 (Gy ag ah (Z.a 4) (Z.a 5) (Z.a 1) (Z.a 2)) Z fun w Z=>?_
 cases ay:(ag==ah)
 ·exact .r 1<|.d<|.ct<|.s<|.g<|.r 1<|.d<|T.rt func70 results70 (.bool false) ⟨(AG (by grind [AY])),Z.xt⟩
 exact .r 1<|.d<|.cf<|.sk<|.ib 1<|.g<|.it ((k:Int)+1)<|.r 1<|.d<|ac (k+1) _ _ AA (Z.to 2 [] 6) ⟨AB,(by grind)⟩ (by first | omega | (simp only []; omega))
end Go.Proofs.YtfninflnngpchaaGreat
