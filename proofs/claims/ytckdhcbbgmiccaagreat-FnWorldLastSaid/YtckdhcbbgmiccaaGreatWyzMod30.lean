/- What asking computes, as plain functions, and its laws. -/
import Derived.Test.YtckdhcbbgmiccaaGreatWyzMod20
import Derived.Test.YtckdhcbbgmiccaaGreatWyzJn
open Go.Proofs.Tryz
set_option linter.unusedVariables false
set_option linter.unusedSimpArgs false
namespace Go.Proofs.YtckdhcbbgmiccaaGreat
section
variable {P:Program} {f:FuncId} {fn:Func} {R:Value→World→Prop} {c:Code} {e:Env} {w:World}
theorem V0 (f:ResultVar→Sem Value) (r r' r2 r3:ResultVar):(#[r,r',r2,r3]).mapM f=(do let v ← f r; let v' ← f r'; let v2 ← f r2; let v3 ← f r3; pure #[v,v',v2,v3]):=by
 simp
theorem Md {a:Act}{r r' r'' r''':ResultVar}{v v' v'' v''':Value}(hs:Sees fn.ntmps a e) (hr:fn.results = #[r,r',r'',r''']) (h:CG P w e r v) (h':CG P w e r' v') (h'':CG P w e r'' v'') (h3:CG P w e r''' v''') :
 (results fn a.tmps).run P w=.ok (.tuple #[v,v',v'',v''']) w:=by
 rw [Fo,hr,V0]
 refine AX (a:=#[v,v',v'',v''']) ?_
 rw [AX (h.run hs),AX (h'.run hs),AX (h''.run hs),AX (h3.run hs)]
 rfl
theorem T.Wb {k}{r r' r'' r''':ResultVar}{v v' v'' v''':Value}(h:E5 c=true) (hf:P.funcs[f]? = some fn) (hres:fn.results = #[r,r',r'',r''']) (h1:CG P w e r v) (h2:CG P w e r' v') (h3:CG P w e r'' v'') (h4:CG P w e r''' v''')
 (hR:R (.tuple #[v,v',v'',v''']) w):T P f fn R (.code c::k) e w :=
 T.Mm h (fun _ hs=>Md hs hres h1 h2 h3 h4) hf hR
theorem T.r4 {k}{r r' r'' r''':ResultVar}{v v' v'' v''':Value}(hf:P.funcs[f]? = some fn) (hres:fn.results = #[r,r',r'',r''']) (h1:CG P w e r v) (h2:CG P w e r' v') (h3:CG P w e r'' v'') (h4:CG P w e r''' v''') (hR:R (.tuple #[v,v',v'',v''']) w) (h:E5 c=true:=by kernel_rfl):T P f fn R (.code c::k) e w :=
 T.Wb h hf hres h1 h2 h3 h4 hR
end
def LI (b:List Row) (lo hi:Int):List Row:=b.filter (fun r=>inR r.t lo hi)
def GQ (b:List Row) (lo hi:Int):List Row:=if Bc b then LI b lo hi else []
def fits (f:List Cnd) (n:List Tag):Bool:=f.all (fun c=>has n c.tag != c.no)
def DR (f:List Cnd):Bool:=f.all (fun c=>BX c.tag)&&decide (f.length≤3)
def Bs (f:List Cnd) (n:List Tag):Bool:=DR f&&Aq n&&fits f n
def BF (p:List Tag→Bool):Nat→List (List Tag)→List Int
 | _,[]=>[]
 | i,n::ns=>(if p n then [(i:Int)+1] else [])++BF p (i+1) ns
def Dh (s:Sto) (lo hi:Int) (id:Int):List Hit:=if (LI (rowsOf s id) lo hi).length > 0 then [⟨text (s.idx.names.getD (id - 1).toNat []),LI (rowsOf s id) lo hi⟩] else []
def NU (p:List Tag→Bool) (s:Sto) (lo hi:Int):List Hit:=(BF p 0 s.idx.names).flatMap (Dh s lo hi)
def Bw (s:Sto) (f:List Cnd) (lo hi:Int):List Hit:=if Ac s&&DR f then NU (fits f) s lo hi else []
def Jq (v:Tag):Nat→List Tag→Int
 | _,[]=>-1
 | i,x::xs=>if v==x then (i:Int) else Jq v (i+1) xs
theorem Rk (v:Tag):∀ (l:List Tag) (i:Nat),has l v=decide (Jq v i l≥0):=by
 intro l
 induction l with
 | nil=>intro i; simp [has,Jq]
 | cons x xs ih =>
   intro i
   have:=ih (i+1)
   unfold has at this ⊢
   rw [List.any_cons,this]
   have e:Jq v i (x::xs)=if v==x then (i:Int) else Jq v (i+1) xs:=rfl
   rw [e]
   by_cases h:v=x
   ·subst h; simp
   ·have h1:(v==x)=false:=beq_eq_false_iff_ne.2 h
    have h2:(x==v)=false:=beq_eq_false_iff_ne.2 (fun e=>h e.symm)
    rw [h1,h2]
    simp
theorem Ks (a b:Hit):a=b↔a.name=b.name∧a.rows=b.rows:=by cases a; cases b; simp
theorem OZ {α:Type}{f:α→Bool}{l k Y:List α}{i:Nat}{x:α}(h:k++(l.drop i).filter f=Y) (hd:l.drop i=x::l.drop (i+1)) (hx:f x=true):(k++[x])++(l.drop (i+1)).filter f=Y:=by
 rw [hd,List.filter_cons,if_pos hx] at h
 rw [← h]
 simp
theorem Oa {α:Type}{f:α→Bool}{l k Y:List α}{i:Nat}{x:α}(h:k++(l.drop i).filter f=Y) (hd:l.drop i=x::l.drop (i+1)) (hx:f x=false):k++(l.drop (i+1)).filter f=Y:=by
 rw [hd,List.filter_cons,if_neg (by simp [hx])] at h
 exact h
theorem QD {α:Type}{f:α→Bool}{l k Y:List α}{i:Nat}(h:k++(l.drop i).filter f=Y) (hi:l.length≤i):k=Y:=by
 rw [Aa hi] at h
 simpa using h
theorem Rl {p:List Tag→Bool}{l:List (List Tag)}{k Y:List Int}{i:Nat}{x:List Tag}(h:k++BF p i (l.drop i)=Y) (hd:l.drop i=x::l.drop (i+1)) (hx:p x=true):(k++[(i:Int)+1])++BF p (i+1) (l.drop (i+1))=Y:=by
 rw [hd,BF,if_pos hx] at h
 rw [← h]
 simp
theorem Rm {p:List Tag→Bool}{l:List (List Tag)}{k Y:List Int}{i:Nat}{x:List Tag}(h:k++BF p i (l.drop i)=Y) (hd:l.drop i=x::l.drop (i+1)) (hx:p x=false):k++BF p (i+1) (l.drop (i+1))=Y:=by
 rw [hd,BF,if_neg (by simp [hx])] at h
 exact h
theorem Tb {p:List Tag→Bool}{l:List (List Tag)}{k Y:List Int}{i:Nat}(h:k++BF p i (l.drop i)=Y) (hi:l.length≤i):k=Y:=by
 rw [Aa hi,BF] at h
 simpa using h
theorem Lo {p:List Tag→Bool}:∀ (l:List (List Tag)) (i:Nat) (x:Int),x∈BF p i l→(i:Int)+1≤x∧x≤(i:Int)+l.length:=by
 intro l
 induction l with
 | nil=>intro i x h; simp [BF] at h
 | cons n ns ih =>
   intro i x h
   unfold BF at h
   rcases List.mem_append.1 h with h | h
   ·split at h
    ·simp at h; subst h; simp only [List.length_cons]; omega
    ·cases h
   ·have:=ih (i+1) x h
    simp only [List.length_cons]; omega
theorem D4 {p:List Tag→Bool}{l:List (List Tag)}{x:Int}(h:x∈BF p 0 l):1≤x∧x≤l.length:=by have:=Lo l 0 x h; omega
theorem QE (p:List Tag→Bool):∀ (l:List (List Tag)) (i:Nat),(BF p i l).length≤l.length:=by
 intro l
 induction l with
 | nil=>intro i; simp [BF]
 | cons n ns ih =>
   intro i
   have:=ih (i+1)
   unfold BF
   split <;> simp <;> omega
theorem QF {p:List Tag→Bool}:∀ (l:List (List Tag)) (i:Nat),(∀ n∈l,p n=false)→BF p i l=[]:=by
 intro l
 induction l with
 | nil=>intro i _; rfl
 | cons n ns ih =>
   intro i h
   unfold BF
   rw [h n AD,ih (i+1) (fun m hm=>h m (by simp [hm]))]
   rfl
theorem Rn {p q:List Tag→Bool}:∀ (l:List (List Tag)) (i:Nat),(∀ n∈l,p n=q n)→BF p i l=BF q i l:=by
 intro l
 induction l with
 | nil=>intro i _; rfl
 | cons n ns ih =>
   intro i h
   unfold BF
   rw [h n AD,ih (i+1) (fun m hm=>h m (by simp [hm]))]
theorem Oc {f:List Cnd}{x:Idx}(hx:NmI x.names) (hf:DR f=true):BF (Bs f) 0 x.names=BF (fits f) 0 x.names:=Rn _ _ (fun n hn=>by unfold Bs; rw [hf,hx.ok n hn]; rfl)
theorem Ro {f:List Cnd}{x:Idx}(hf:DR f=false):BF (Bs f) 0 x.names=[]:=QF _ _ (fun n _=>by unfold Bs; rw [hf]; rfl)
theorem Rp {s:Sto}{i:Int}(hk:Ac s=true) (h1:1≤i) (h2:i≤s.idx.names.length):Ci s i=rowsOf s i:=I8 hk (by unfold inR; simp [h1,h2])
theorem Rq {s:Sto}(h:SD s) (hk:Ac s=true) (i:Int):Blk (rowsOf s i):=by
 have hI:=(StoK.of h hk).Jn
 have key:∀ (mem:List Smp) (o:List Row),(∀ m∈mem,BS m.row=true)→Blk o→Blk (mem.foldl (CM i) o):=by
  intro mem
  induction mem with
  | nil=>intro o _ ho; exact ho
  | cons m ms ih =>
    intro o hm ho
    refine ih _ (fun q hq=>hm q (by simp [hq])) ?_
    unfold CM
    split
    ·exact ho.put (hm m AD)
    ·exact ho
 have key2:∀ (ps:List Prt) (o:List Row),(∀ p∈ps,PrtI p)→Blk o→Blk (ps.foldl (Bo i) o):=by
  intro ps
  induction ps with
  | nil=>intro o _ ho; exact ho
  | cons p ps ih=>intro o hp ho; exact ih _ (fun q hq=>hp q (by simp [hq])) (ho.merge ((hp p AD).of i))
 exact key _ _ (fun m hm=>(hI.mem m hm).2.2) (key2 _ _ hI.part Blk.nil)
theorem V1 {s:Sto}(hk:Ac s=true){i:Int}(h1:1≤i) (h2:i≤s.idx.names.length):(rowsOf s i).length≤24:=by
 unfold Ac at hk
 simp only [AW,decide_eq_true_eq,List.all_eq_true,List.mem_range,Ed] at hk
 have:=hk.2 (i.toNat - 1) AB
 rwa [show ((i.toNat - 1:Nat):Int)+1=i by omega] at this
theorem Rr {s:Sto}(h:SD s) (hk:Ac s=true){i:Int}(h1:1≤i) (h2:i≤s.idx.names.length):Bc (rowsOf s i)=true:=by
 unfold Bc
 have a1:CX none (rowsOf s i)=true:=Rq h hk i
 rw [a1,Bool.true_and,decide_eq_true_eq]
 exact V1 hk h1 h2
theorem JC {s:Sto}(h:SD s) (hk:Ac s=true){i:Int}(h1:1≤i) (h2:i≤s.idx.names.length) (lo hi:Int):GQ (rowsOf s i) lo hi=LI (rowsOf s i) lo hi:=by
 unfold GQ; rw [if_pos (Rr h hk h1 h2)]
theorem Tc {s:Sto}{lo hi:Int}{l:List Int}{i:Nat}{id:Int}{k Y:List Hit}(h:k++(l.drop i).flatMap (Dh s lo hi)=Y) (hd:l.drop i=id::l.drop (i+1)){c:List Row}(hc:c=LI (rowsOf s id) lo hi) (hl:(c.length:Int) > 0){n:List Tag}(hn:s.idx.names[(id - 1).toNat]? = some n) :
 (k++[⟨text n,c⟩])++(l.drop (i+1)).flatMap (Dh s lo hi)=Y:=by
 subst hc
 rw [hd,List.flatMap_cons] at h
 rw [← h]
 have:Dh s lo hi id=[⟨text n,LI (rowsOf s id) lo hi⟩]:=by
  unfold Dh
  rw [if_pos AB,List.getD_eq_getElem?_getD,hn]
  rfl
 rw [this]
 simp
theorem Td {s:Sto}{lo hi:Int}{l:List Int}{i:Nat}{id:Int}{k Y:List Hit}(h:k++(l.drop i).flatMap (Dh s lo hi)=Y) (hd:l.drop i=id::l.drop (i+1)){c:List Row}(hc:c=LI (rowsOf s id) lo hi) (hl:¬ (c.length:Int) > 0) :
 k++(l.drop (i+1)).flatMap (Dh s lo hi)=Y:=by
 subst hc
 rw [hd,List.flatMap_cons] at h
 rw [← h]
 have:Dh s lo hi id=[]:=by
  unfold Dh
  rw [if_neg AB]
 rw [this]
 simp
theorem U3 {s:Sto}{lo hi:Int}{l:List Int}{i:Nat}{k Y:List Hit}(h:k++(l.drop i).flatMap (Dh s lo hi)=Y) (hi2:l.length≤i):k=Y:=by
 rw [Aa hi2] at h
 simpa using h
theorem QG {f:List Cnd}(h:f.all (fun c=>BX c.tag)=false):false=DR f:=by unfold DR; rw [h]; rfl
theorem Od {f:List Cnd}(h:f.all (fun c=>BX c.tag)=true):decide ((f.length:Int)≤3)=DR f:=by unfold DR; rw [h,Bool.true_and,decide_eq_decide]; omega
theorem U4 {s:Sto}{f:List Cnd}{lo hi:Int}(h:Ac s=false∨DR f=false):Bw s f lo hi=[]:=by
 unfold Bw
 rcases h with h | h <;> rw [h] <;> simp
theorem Rs {s:Sto}{f:List Cnd}{lo hi:Int}(h:Ac s=true) (h2:DR f=true):Bw s f lo hi=NU (fits f) s lo hi:=by unfold Bw; rw [h,h2]; rfl
theorem Ru {s:Sto}{f:List Cnd}{lo hi:Int}(hd:SD s) (h:Ac s=true):Bw s f lo hi=NU (Bs f) s lo hi:=by
 unfold Bw NU
 cases h2:DR f with
 | true=>rw [h,Oc hd.nm h2]; rfl
 | false=>rw [Ro h2]; simp
def tx1 (t:Tag):Txt:=⟨HM t⟩
def GK (n:List Tag):Str:=if Aq n then text n else []
theorem Oe:∀ (n:List Tag) (i:Nat),0< i→EQ i n=Lib.joinTail [44] (n.map HM):=by
 intro n
 induction n with
 | nil=>intro i _; rfl
 | cons t ts ih =>
   intro i hi
   unfold EQ
   rw [if_pos hi,ih (i+1) AB]
   simp [Lib.joinTail]
theorem QH (n:List Tag):Lib.join ((n.map tx1).map Txt.s) [44]=text n:=by
 have e:(n.map tx1).map Txt.s=n.map HM:=by rw [List.map_map]; rfl
 rw [e]
 cases n with
 | nil=>rfl
 | cons t ts =>
   rw [List.map_cons,Lib.join_cons]
   unfold text EQ
   rw [Oe ts 1 AB]
   simp
theorem QI:∀ (n:List Tag) (i:Nat),(∀ t∈n,t.key.length≤1000∧t.val.length≤1000)→(EQ i n).length≤2002 * n.length:=by
 intro n
 induction n with
 | nil=>intro i _; simp [EQ]
 | cons t ts ih =>
   intro i h
   have h1:=ih (i+1) (fun x hx=>h x (by simp [hx]))
   have h2:=h t AD
   unfold EQ HM
   simp only [List.length_append,List.length_cons,List.length_nil]
   split <;> simp only [List.length_cons,List.length_nil] <;> omega
theorem PU {n:List Tag}{k:List Txt}{i:Nat}(h:k++(n.drop i).map tx1=n.map tx1) (hi:n.length≤i):Lib.join (k.map Txt.s) [44]=text n:=by
 rw [Aa hi,List.map_nil,List.append_nil] at h
 rw [h,QH]
theorem U5 {n:List Tag}{k:List Txt}{i:Nat}(h:k++(n.drop i).map tx1=n.map tx1) (hi:n.length≤i) (hn:FX n):(Lib.join (k.map Txt.s) [44]).length≤100000000000:=by
 rw [PU h hi]
 have:=QI n 0 hn.2
 have h2:=hn.1
 unfold text
 omega
theorem Rv {n:List Tag}{k:List Txt}{i:Nat}{t:Tag}(h:k++(n.drop i).map tx1=n.map tx1) (hd:n.drop i=t::n.drop (i+1)):(k++[⟨t.key++[61]++t.val⟩])++(n.drop (i+1)).map tx1=n.map tx1:=by
 rw [hd,List.map_cons] at h
 rw [← h,List.append_assoc]
 rfl
theorem Kt {n:List Tag}(h:Aq n=true):GK n=text n:=by unfold GK; rw [if_pos h]
theorem Rw {n:List Tag}(h:Aq n=false):GK n=[]:=by unfold GK; rw [if_neg (by simp [h])]
theorem Rx {p:List Tag→Bool}{s:Sto}(hs:SD s) (hk:Ac s=true){lo hi:Int}{i:Nat}{id:Int}{k Y:List Hit}(h:k++((BF p 0 s.idx.names).drop i).flatMap (Dh s lo hi)=Y) (hd:(BF p 0 s.idx.names).drop i=id::(BF p 0 s.idx.names).drop (i+1)) (hl:((GQ (rowsOf s id) lo hi).length:Int) > 0){n:List Tag}(hn:s.idx.names[(id - 1).toNat]? = some n) :
 (k++[⟨GK n,GQ (rowsOf s id) lo hi⟩])++((BF p 0 s.idx.names).drop (i+1)).flatMap (Dh s lo hi)=Y:=by
 have hid:=D4 (p:=p) (l:=s.idx.names) (x:=id) (List.mem_of_mem_drop (by rw [hd]; simp))
 rw [Kt (hs.nm.ok n (AV hn))]
 exact Tc h hd (JC hs hk hid.1 hid.2 lo hi) hl hn
theorem Ry {p:List Tag→Bool}{s:Sto}(hs:SD s) (hk:Ac s=true){lo hi:Int}{i:Nat}{id:Int}{k Y:List Hit}(h:k++((BF p 0 s.idx.names).drop i).flatMap (Dh s lo hi)=Y) (hd:(BF p 0 s.idx.names).drop i=id::(BF p 0 s.idx.names).drop (i+1)) (hl:¬ ((GQ (rowsOf s id) lo hi).length:Int) > 0) :
 k++((BF p 0 s.idx.names).drop (i+1)).flatMap (Dh s lo hi)=Y:=by
 have hid:=D4 (p:=p) (l:=s.idx.names) (x:=id) (List.mem_of_mem_drop (by rw [hd]; simp))
 exact Td h hd (JC hs hk hid.1 hid.2 lo hi) hl
theorem Te {s:Sto}{f:List Cnd}(hs:SD s) (hk:Ac s=true){lo hi:Int}{i:Nat}{k:List Hit}(h:k++((BF (Bs f) 0 s.idx.names).drop i).flatMap (Dh s lo hi)=NU (Bs f) s lo hi) (hi2:(BF (Bs f) 0 s.idx.names).length≤i):Bw s f lo hi=k:=by
 rw [Ru hs hk]
 exact (U3 h hi2).symm
end Go.Proofs.YtckdhcbbgmiccaaGreat
namespace Go.Proofs.YtckdhcbbgmiccaaGreat
set_option maxRecDepth 100000
set_option maxHeartbeats 4000000
variable {w:World} {F:Nat→Prop} {a1 a2 a3:Option Addr} {n1 c1 n2 c2 n3 c3:Nat}
theorem Jr (b:List Row) (from_:Int) (to_:Int) (h1:RepS w F a1 n1 c1 b) (p0:b.length≤1000000):Calls Tryz.prog 83 [.slice a1 n1 c1,.int .i64 from_,.int .i64 to_].toArray w (Al fun rv w'=>VL (ge w.heap.size) w' (GQ b from_ to_:List Row) rv∧Ext w w'):=by
 cases h1.len
 refine goT func83 ?_
 have Z:=(St.i0 F w).p h1
 refine .s<|.g<|.r 1<|.d<|.s<|.g<|RG.N0 Row 0 Z fun ag w Z=>.r 1<|.d<|.s<|.s<|.g<|.r 1<|RG.C0 (DH b (Z.a 0)) Z fun w Z=>?_
 cases ak:(Bc b)
 ·exact .r 1<|.d<|.ct<|.s<|.g<|.r 2<|.d<|T.Rt func83 results83 ⟨Z.rM 0 ([]:List Row) (by unfold GQ; (rw [if_neg (by simp [*])]; done)),Z.xt⟩
 refine .r 1<|.d<|.cf<|.sk<|.s<|.s<|.g<|.r 3<|.d<|.b 0<|T.Lp (([]:List Row),ag,(0:Nat),(0:Nat)) (fun (out,r_out,c_out,k)=>([(1,vI from_),(2,vI to_),(7,vS r_out out.length c_out),(15,.slice a1 b.length c1),(16,vI (b.length:Int)),(17,vI (k:Int))],[(0,.own 0 r_out 44 c_out out)],[],b.length - k,(k≤b.length)∧(out.length≤k)∧(out++(b.drop k).filter (fun r=>inR r.t from_ to_)=LI b from_ to_))) [] Z ⟨AB,AD,AF⟩ ?_
 rintro ⟨out,r_out,c_out,k⟩ ay w Z ⟨al,am,ao⟩ E
 refine .s<|.g<|.bp ((k:Int)< (b.length:Int)) (fun ae=>?_) (fun ae=>.d<|.s<|.cf<|.x 0 rfl<|.s<|.g<|.r 2<|.d<|T.Rt func83 results83 ⟨Z.rM 0 out (by unfold GQ; (rw [if_pos ‹_›]; exact QD ‹_› AB)),Z.xt⟩)
 refine .d<|.s<|.ct<|.sk<|.s<|.b 1<|.s<|.g<|gxd b k fun ab aa aq=>RG.Ix 0 aa Z<|Z.el 0 aa fun Z=>RG.Lg 0 0 Z<|RG.Np Z fun az w Z=>RG.Ss 0 Z fun w Z=>.d<|.s<|.g<|.r 1<|RG.Lb 0 Z<|.r 2<|RG.C0 (Bm ab.t from_ to_ (F:=all)) Z fun w Z=>?_
 cases ac:(inR ab.t from_ to_)
 ·exact .d<|.cf<|.sk<|.ib 1<|.g<|.it ((k:Int)+1)<|.r 1<|.d<|E (out,r_out,c_out,k+1) _ _ AA (Z.to 1 [] 1) ⟨AB,AB,(by exact Oa ‹_› ‹_› ‹_›)⟩ (by (simp only []; omega))
 exact .d<|.ct<|.g<|.r 1<|RG.Ln 0 Z<|RG.Nb 1 Z fun aA w Z=>RG.Ap 1 0 out ab [] Z fun ah ai w Z=>.r 1<|.d<|.ib 1<|.g<|.it ((k:Int)+1)<|.r 1<|.d<|E ((out++[ab]),ah,ai,k+1) _ _ AA (Z.to 1 [] 1) ⟨AB,(by (simp; omega)),(by exact OZ ‹_› ‹_› ‹_›)⟩ (by (simp only []; omega))
theorem Js (f:List Cnd) (h1:RepS w F a1 n1 c1 f)  : Calls Tryz.prog 164 [.slice a1 n1 c1].toArray w (Al fun rv w'=>rv=.bool (DR f)∧Ext w w'):=by
 cases h1.len
 refine goT func164 ?_
 have Z:=(St.i0 F w).p h1
 have af:=h1.max
 refine .s<|.g<|.r 1<|.d<|.s<|.s<|.g<|.r 3<|.d<|.b 0<|T.Lp (0:Nat) (fun k=>([(0,.slice a1 f.length c1),(5,.slice a1 f.length c1),(6,vI (f.length:Int)),(7,vI (k:Int))],[],[],f.length - k,(k≤f.length)∧((f.drop k).all (fun c=>BX c.tag)=f.all (fun c=>BX c.tag)))) [] Z ⟨AD,AD⟩ ?_
 rintro k ak w Z ⟨ag,ah⟩ aa
 refine .s<|.g<|.bp ((k:Int)< (f.length:Int)) (fun ab=>?_) (fun ab=>.d<|.s<|.cf<|.x 0 rfl<|.s<|.g<|.r 4<|.d<|T.rt func164 results164 (.bool (decide ((f.length:Int)≤3))) ⟨(AG (by exact Od (Kh ‹_› AB))),Z.xt⟩)
 refine .d<|.s<|.ct<|.sk<|.s<|.b 1<|.s<|.g<|gxd f k fun ac E ai=>RG.Ix 0 E Z<|Z.el 0 E fun Z=>RG.Lg 0 0 Z<|RG.Np Z fun al w Z=>RG.Ss 0 Z fun w Z=>.d<|.s<|.g<|.r 1<|RG.Ln 0 Z<|RG.C0 (H2 ac.tag (F:=all)) Z fun w Z=>?_
 cases aj:(BX ac.tag)
 ·exact .r 1<|.d<|.ct<|.s<|.g<|.r 1<|.d<|T.rt func164 results164 (.bool false) ⟨(AG (by exact QG (JS ‹_› ‹_› ‹_›))),Z.xt⟩
 exact .r 1<|.d<|.cf<|.sk<|.ib 1<|.g<|.it ((k:Int)+1)<|.r 1<|.d<|aa (k+1) _ _ AA (Z.to 1 [] 1) ⟨AB,(by exact IB ‹_› ‹_› ‹_›)⟩ (by (simp only []; omega))
theorem D5 (s:List Tag) (v:Tag) (h1:RepS w F a1 n1 c1 s)  : Calls Tryz.prog 187 [.slice a1 n1 c1,.agg #[.string (bs v.key),.string (bs v.val)]].toArray w (Al fun rv w'=>rv=.int .i64 (Jq v 0 s)∧Ext w w'):=by
 cases h1.len
 refine goT func187 ?_
 have Z:=(St.i0 F w).p h1
 have ag:=h1.max
 refine .s<|.g<|RG.Np Z fun af w Z=>.r 1<|.d<|.s<|.s<|.g<|.r 3<|.d<|.b 0<|T.Lp (0:Nat) (fun k=>([(0,.slice a1 s.length c1),(3,vP af),(7,vI (s.length:Int)),(8,vI (k:Int))],[],[],s.length - k,(k≤s.length)∧(Jq v k (s.drop k)=Jq v 0 s))) [] Z ⟨AD,AD⟩ ?_
 rintro k al w Z ⟨ah,ai⟩ aa
 refine .s<|.g<|.bp ((k:Int)< (s.length:Int)) (fun ab=>?_) (fun ab=>.d<|.s<|.cf<|.x 0 rfl<|.s<|.g<|.r 1<|.d<|T.rt func187 results187 (vI (-1)) ⟨(congrArg (Value.int .i64) (by grind [Jq,Aa])),Z.xt⟩)
 refine .d<|.s<|.ct<|.sk<|.s<|.b 1<|.s<|.g<|.r 2<|.d<|.s<|T.Gd 5 Z fun w Z=>GA.Ln 0 0 Z<|.r [1,2]<|gxd s k fun ac E aj=>GA.Ix 3 0 E Z<|Z.el 0 E fun Z=>GA.Lg 4 0 0 Z<|GA.Dn Z fun w Z=>RG.M3 (t:=61) (x:=v) (y:=ac) AA AA ?_
 cases ak:(v==ac)
 ·exact .d<|.cf<|.sk<|.ib 1<|.g<|.it ((k:Int)+1)<|.r 1<|.d<|aa (k+1) _ _ AA (Z.to 0 [] 1) ⟨AB,(by grind [Jq])⟩ (by (simp only []; omega))
 exact .d<|.ct<|.s<|.g<|.r 2<|.d<|T.rt func187 results187 (vI (k:Int)) ⟨(congrArg (Value.int .i64) (by grind [Jq,Aa])),Z.xt⟩
theorem DX (s:List Tag) (v:Tag) (h1:RepS w F a1 n1 c1 s)  : Calls Tryz.prog 165 [.slice a1 n1 c1,.agg #[.string (bs v.key),.string (bs v.val)]].toArray w (Al fun rv w'=>rv=.bool (has s v)∧Ext w w'):=by
 cases h1.len
 refine goT func165 ?_
 have Z:=(St.i0 F w).p h1
 exact .s<|.g<|RG.Np Z fun aa w Z=>.r 1<|.d<|.s<|.g<|.r 1<|RG.Ln 0 Z<|RG.C0 (D5 s v (Z.a 0)) Z fun w Z=>.r 2<|.d<|T.rt func165 results165 (.bool (decide (Jq v 0 s≥0))) ⟨(AG (by exact (Rk v s 0).symm)),Z.xt⟩
theorem IL (f:List Cnd) (n:List Tag) (h1:RepS w F a1 n1 c1 f) (h2:RepS w F a2 n2 c2 n) (p0:n.length≤1000):Calls Tryz.prog 136 [.slice a1 n1 c1,.slice a2 n2 c2].toArray w (Al fun rv w'=>rv=.bool (Bs f n)∧Ext w w'):=by
 cases h1.len
 cases h2.len
 refine goT func136 ?_
 have Z:=((St.i0 F w).p h1).p h2
 have af:=h1.max
 refine .s<|.g<|.r 1<|.d<|.s<|.s<|.g<|.r 1<|RG.C0 (Js f (Z.a 1)) Z fun w Z=>?_
 cases ah:(DR f)
 ·exact .r 6<|.d<|.ct<|.s<|.g<|.r 1<|.d<|T.rt func136 results136 (.bool false) ⟨(AG (by unfold Bs; (simp [*]; done))),Z.xt⟩
 refine .r 3<|RG.C0 (DV n (Z.a 0)) Z fun w Z=>?_
 cases ai:(Aq n)
 ·exact .r 2<|.d<|.ct<|.s<|.g<|.r 1<|.d<|T.rt func136 results136 (.bool false) ⟨(AG (by unfold Bs; (simp [*]; done))),Z.xt⟩
 refine .r 2<|.d<|.cf<|.sk<|.s<|.s<|.g<|.r 3<|.d<|.b 0<|T.Lp (0:Nat) (fun k=>([(1,.slice a2 n.length c2),(15,.slice a1 f.length c1),(16,vI (f.length:Int)),(17,vI (k:Int))],[],[],f.length - k,(k≤f.length)∧(DR f=true)∧(Aq n=true)∧((f.drop k).all (fun c=>has n c.tag != c.no)=fits f n))) [] Z ⟨AB,AB,AB,AF⟩ ?_
 rintro k ar w Z ⟨aj,ak,al,am⟩ ab
 refine .s<|.g<|.bp ((k:Int)< (f.length:Int)) (fun ac=>?_) (fun ac=>.d<|.s<|.cf<|.x 0 rfl<|.s<|.g<|.r 1<|.d<|T.rt func136 results136 (.bool true) ⟨(AG (by unfold Bs; rw [Kh (f:=fun c:Cnd=>has n c.tag != c.no) (by assumption:(f.drop k).all _=fits f n) AB]; simp [*])),Z.xt⟩)
 refine .d<|.s<|.ct<|.sk<|.s<|.b 1<|.s<|.g<|gxd f k fun E aa ao=>RG.Ix 1 aa Z<|Z.el 1 aa fun Z=>RG.Lg 0 0 Z<|RG.Np Z fun ax w Z=>RG.Ss 0 Z fun w Z=>.d<|.s<|T.Gd 6 Z fun w Z=>.r [0,1]<|GA.Ln 2 0 Z<|GA.C0 3 Z (fun w Z=>DX n E.tag (Z.a 1))<|.r [4]<|GA.Lb 5 0 Z<|GA.Dn Z fun w Z=>RG.eqv (v:=.bool ((has n E.tag)==E.no)) (v':=.bool ((has n E.tag)==E.no)) AA AF ?_
 cases aq:((has n E.tag)==E.no)
 ·exact .d<|.cf<|.sk<|.ib 1<|.g<|.it ((k:Int)+1)<|.r 1<|.d<|ab (k+1) _ _ AA (Z.to 1 [] 1) ⟨AB,‹_›,‹_›,(by exact IB ‹_› ‹_› (by simp_all))⟩ (by (simp only []; omega))
 exact .d<|.ct<|.s<|.g<|.r 1<|.d<|T.rt func136 results136 (.bool false) ⟨(AG (by unfold Bs; (rw [JS (f:=fun c:Cnd=>has n c.tag != c.no) (by assumption:(f.drop k).all _=fits f n) ‹_› (by simp_all)]; simp))),Z.xt⟩
theorem JD (ix:Idx) (f:List Cnd) (h1:RepS w F a1 n1 c1 ix.names) (h2:RepS w F a2 n2 c2 ix.AY) (h3:RepS w F a3 n3 c3 f) (p0:IxI ix) (p1:NsD ix.names):Calls Tryz.prog 82 [.agg #[.slice a1 n1 c1,.slice a2 n2 c2],.slice a3 n3 c3].toArray w (Al fun rv w'=>VL (ge w.heap.size) w' (BF (Bs f) 0 ix.names:List Int) rv∧Ext w w'):=by
 cases h1.len
 cases h2.len
 cases h3.len
 refine goT func82 ?_
 have Z:=(((St.i0 F w).p h1).p h2).p h3
 have aj:=h1.max
 refine .s<|.g<|RG.Np Z fun ay w Z=>.r 1<|.d<|.s<|.g<|RG.N0 Int 0 Z fun ag w Z=>.r 1<|.d<|.s<|.s<|.g<|RG.Ln 1 Z<|RG.C0 (Gn ix (Z.a 2) (Z.a 1) p0 p1) Z fun w Z=>.r 1<|.d<|.cf<|.sk<|.s<|.s<|.g<|.r 1<|RG.Lb 1 Z<|.r 2<|.d<|.b 0<|T.Lp (([]:List Int),ag,(0:Nat),(0:Nat)) (fun (out,r_out,c_out,k)=>([(1,.slice a3 f.length c3),(5,vS r_out out.length c_out),(14,.slice a1 ix.names.length c1),(15,vI (ix.names.length:Int)),(16,vI (k:Int))],[(0,.own 0 r_out 3 c_out out)],[],ix.names.length - k,(k≤ix.names.length)∧(out.length≤k)∧(out++BF (Bs f) k (ix.names.drop k)=BF (Bs f) 0 ix.names))) [] Z ⟨AB,AD,AF⟩ ?_
 rintro ⟨out,r_out,c_out,k⟩ az w Z ⟨am,ao,aq⟩ E
 refine .s<|.g<|.bp ((k:Int)< (ix.names.length:Int)) (fun ab=>?_) (fun ab=>.d<|.s<|.cf<|.x 0 rfl<|.s<|.g<|.r 2<|.d<|T.Rt func82 results82 ⟨Z.rM 0 out (by exact Tb ‹_› AB),Z.xt⟩)
 refine .d<|.s<|.ct<|.sk<|.s<|.b 1<|.s<|.g<|.r 1<|gxb ix.names k fun ac aa ar af=>RG.Ix 2 aa Z<|Z.el 2 aa fun aA aB Z=>RG.Lh 0 0 Z<|.r 2<|.d<|.s<|.g<|.r 2<|RG.C0 (IL f ac (Z.a 2) (Z.a 1) (by have q1:=(p0.nm.sz _ ‹_›).1; omega)) Z fun w Z=>?_
 cases ax:(Bs f ac)
 ·exact .d<|.cf<|.sk<|.ib 1<|.g<|RG.int ((k:Int)+1) AA (by have q1:=p0.nm.len; omega)<|.r 1<|.d<|E (out,r_out,c_out,k+1) _ _ AA (Z.to 0 [] 2) ⟨AB,AB,(by exact Rm ‹_› ‹_› ‹_›)⟩ (by (simp only []; omega))
 exact .d<|.ct<|.g<|.r 2<|RG.int ((k:Int)+1) AA (by have q1:=p0.nm.len; omega)<|RG.Nb 1 Z fun aC w Z=>RG.Ap (hs:=by exact (by have q1:=p0.nm.len; omega)) 0 0 out ((k:Int)+1) [] Z fun ah ai w Z=>.r 1<|.d<|.ib 1<|.g<|RG.int ((k:Int)+1) AA (by have q1:=p0.nm.len; omega)<|.r 1<|.d<|E ((out++[(k:Int)+1]),ah,ai,k+1) _ _ AA (Z.to 0 [] 2) ⟨AB,(by (simp; omega)),(by exact Rl ‹_› ‹_› ‹_›)⟩ (by (simp only []; omega))
end Go.Proofs.YtckdhcbbgmiccaaGreat
namespace Go.Proofs.YtckdhcbbgmiccaaGreat
set_option maxRecDepth 100000
set_option maxHeartbeats 4000000
variable {w:World} {F:Nat→Prop} {a1 a2 a3 a4 a5 a6 a7 a8:Option Addr} {n1 c1 n2 c2 n3 c3 n4 c4 n5 c5 n6 c6 n7 c7 n8 c8:Nat}
theorem LJ (a:List Hit) (b:List Hit) (h1:RepS w F a1 n1 c1 a) (h2:RepS w F a2 n2 c2 b)  : Calls Tryz.prog 39 [.slice a1 n1 c1,.slice a2 n2 c2].toArray w (Al fun rv w'=>rv=.bool ((a==b))∧Ext w w'):=by
 cases h1.len
 cases h2.len
 refine goT func39 ?_
 have Z:=((St.i0 F w).p h1).p h2
 have aj:=h1.max
 refine .s<|.g<|.r 1<|.d<|.s<|.s<|.g<|.r 4<|.ne (a.length:Int) (b.length:Int) (fun af=>.d<|.ct<|.s<|.g<|.r 1<|.d<|T.rt func39 results39 (.bool false) ⟨(AG (by grind [Aa,Ks])),Z.xt⟩) fun af=>.d<|.cf<|.sk<|.s<|.s<|.g<|.r 1<|.d<|.b 0<|T.Lp (0:Nat) (fun i=>([(0,.slice a1 a.length c1),(1,.slice a2 b.length c2),(5,vI (i:Int))],[],[],a.length - i,(i≤a.length)∧(a.drop i=b.drop i↔a=b))) [] Z ⟨AD,AD⟩ ?_
 rintro i ay w Z ⟨al,am⟩ ab
 refine .s<|.s<|.g<|.r 3<|.bp ((i:Int)< (a.length:Int)) (fun ag=>?_) (fun ag=>.d<|.cf<|.x 0 rfl<|.s<|.g<|.r 1<|.d<|T.rt func39 results39 (.bool true) ⟨(AG (by grind [Aa,Ks])),Z.xt⟩)
 refine .d<|.ct<|.sk<|.s<|.b 1<|.s<|T.Gd 22 Z fun w Z=>.r [0,1]<|gxd a i fun ac E ao=>GA.Ix 2 1 E Z<|.r [3]<|Z.el 1 E fun az aA Z=>GA.Lh 4 0 0 Z<|.r [5,6]<|gxd b i fun ae aa aq=>GA.Ix 7 2 aa Z<|.r [8]<|Z.el 2 aa fun aB aC Z=>GA.Lh 9 0 0 Z<|GA.eqv (i:=10) (v:=.bool (!(ac.name==ae.name))) AA (Vj ac.name ae.name) ?_
 cases ar:(ac.name==ae.name)
 ·exact .r [11]<|GA.Sk Z fun w Z=>.r 3<|.d<|.ct<|.s<|.g<|.r 1<|.d<|T.rt func39 results39 (.bool false) ⟨(AG (by grind [Aa,Ks])),Z.xt⟩
 refine .r [11,12,13]<|GA.Ix 14 5 E Z<|.r [15]<|GA.Lh 16 2 1 Z<|.r [17,18]<|GA.Ix 19 4 aa Z<|.r [20]<|GA.Lh 21 0 1 Z<|GA.Dn Z fun w Z=>RG.C0 (HO ac.rows ae.rows (Z.a 3) (Z.a 1)) Z fun w Z=>?_
 cases ax:(ac.rows==ae.rows)
 ·exact .r 2<|.d<|.ct<|.s<|.g<|.r 1<|.d<|T.rt func39 results39 (.bool false) ⟨(AG (by grind [Aa,Ks])),Z.xt⟩
 exact .r 2<|.d<|.cf<|.sk<|.ib 1<|.g<|.r 1<|.it ((i:Int)+1)<|.r 1<|.d<|ab (i+1) _ _ AA (Z.to 0 [] 4) ⟨AB,(by grind [Ks])⟩ (by (simp only []; omega))
set_option maxRecDepth 100000 in
set_option maxHeartbeats 4000000 in
theorem Jt (n:List Tag) (h1:RepS w F a1 n1 c1 n) (p0:FX n):Calls Tryz.prog 84 [.slice a1 n1 c1].toArray w (Al fun rv w'=>rv=.string (bs (GK n))∧Ext w w'):=by
 cases h1.len
 refine goT func84 ?_
 have Z:=(St.i0 F w).p h1
 have ai:=h1.max
 refine .s<|.g<|.r 1<|.d<|.s<|.s<|.g<|.r 1<|RG.C0 (DV n (Z.a 0)) Z fun w Z=>?_
 cases aj:(Aq n)
 ·exact .r 1<|.d<|.ct<|.s<|.g<|.r 1<|.d<|T.rt func84 results84 (.string (bs [])) ⟨(congrArg (fun s=>Value.string (bs s)) (by rw [Rw ‹_›])),Z.xt⟩
 refine .r 1<|.d<|.cf<|.sk<|.s<|.g<|RG.N0 Txt 0 Z fun af w Z=>.r 1<|.d<|.s<|.s<|.g<|.r 3<|.d<|.b 0<|T.Lp (([]:List Txt),af,(0:Nat),(0:Nat)) (fun (out,r_out,c_out,k)=>([(3,vS r_out out.length c_out),(10,.slice a1 n.length c1),(11,vI (n.length:Int)),(12,vI (k:Int))],[(0,.own 0 r_out 9 c_out out)],[],n.length - k,(k≤n.length)∧(out.length≤k)∧(out++(n.drop k).map tx1=n.map tx1))) [] Z ⟨AB,AD,AF⟩ ?_
 rintro ⟨out,r_out,c_out,k⟩ aq w Z ⟨ak,al,am⟩ ab
 refine .s<|.g<|.bp ((k:Int)< (n.length:Int)) (fun ac=>?_) (fun ac=>.d<|.s<|.cf<|.x 0 rfl<|.s<|.g<|.r 1<|RG.C0 (Kr out [44] (Z.oa 0) (U5 ‹_› AB p0) (by have:=p0.1; omega)) Z fun w Z=>.r 1<|.d<|T.rt func84 results84 (.string (bs (Lib.join (out.map Txt.s) [44]))) ⟨(congrArg (fun s=>Value.string (bs s)) (by (rw [PU ‹_› AB,Kt ‹_›]))),Z.xt⟩)
 exact .d<|.s<|.ct<|.sk<|.s<|.b 1<|.s<|.g<|gxb n k fun E aa ao ae=>RG.Ix 0 aa Z<|Z.el 0 aa fun Z=>RG.Lg 0 0 Z<|RG.Np Z fun ar w Z=>RG.Ss 0 Z fun w Z=>.d<|.g<|.r 2<|RG.Lb 0 Z<|RG.cat (t:=9) (s:=E.key) (u:=[61]) AA (by have q1:=p0.2 _ ‹_›; simp only [List.length_append,List.length_cons,List.length_nil]; omega)<|.r 1<|RG.Lb 0 Z<|RG.cat (t:=9) (s:=(E.key++[61])) (u:=E.val) AA (by have q1:=p0.2 _ ‹_›; simp only [List.length_append,List.length_cons,List.length_nil]; omega)<|RG.Nb 1 Z fun ay w Z=>RG.Ap (hs:=by exact (by have:=p0.1; omega)) 1 0 out (⟨((E.key++[61])++E.val)⟩:Txt) [] Z fun ag ah w Z=>.r 1<|.d<|.ib 1<|.g<|.it ((k:Int)+1)<|.r 1<|.d<|ab ((out++[(⟨((E.key++[61])++E.val)⟩:Txt)]),ag,ah,k+1) _ _ AA (Z.to 1 [] 1) ⟨AB,(by (simp; omega)),(by exact Rv ‹_› ‹_›)⟩ (by (simp only []; omega))
theorem GL (s:Sto) (f:List Cnd) (from_:Int) (to_:Int) (h1:RepS w F a1 n1 c1 s.idx.names) (h2:RepS w F a2 n2 c2 s.idx.AY) (h3:RepS w F a3 n3 c3 s.parts) (h4:RepS w F a4 n4 c4 s.mem) (h5:RepS w F a5 n5 c5 f) (p0:SD s):Calls Tryz.prog 40 [.agg #[.slice a1 n1 c1,.slice a2 n2 c2,.slice a3 n3 c3,.slice a4 n4 c4],.slice a5 n5 c5,.int .i64 from_,.int .i64 to_].toArray w (Al fun rv w'=>VL (ge w.heap.size) w' (Bw s f from_ to_:List Hit) rv∧Ext w w'):=by
 cases h1.len
 cases h2.len
 cases h3.len
 cases h4.len
 cases h5.len
 refine goT func40 ?_
 have Z:=(((((St.i0 F w).p h1).p h2).p h3).p h4).p h5
 have ax:=h1.max
 have az:=h3.max
 have aA:=h4.max
 refine .s<|.g<|RG.Np Z fun ak w Z=>.r 1<|.d<|.s<|.g<|RG.N0 Hit 0 Z fun al w Z=>.r 1<|.d<|.s<|.s<|.g<|RG.Ln 1 Z<|RG.C0 (DK s (Z.a 4) (Z.a 3) (Z.a 2) (Z.a 1) p0) Z fun w Z=>?_
 cases aC:(Ac s)
 ·exact .r 1<|.d<|.ct<|.s<|.g<|.r 2<|.d<|T.Rt func40 results40 ⟨Z.rM 0 ([]:List Hit) (by rw [U4 (.inl ‹_›)]),Z.xt⟩
 refine .r 1<|.d<|.cf<|.sk<|.s<|.s<|.g<|.r 1<|RG.Ln 1 Z<|.r 1<|RG.CL (JD s.idx f (Z.a 4) (Z.a 3) (Z.a 0) p0.ix p0.nd) Z fun am ao w Z=>?_
 have aD:=Z.mf 0 (BF (Bs f) 0 s.idx.names)
 refine .r 2<|.d<|.b 0<|T.Lp (([]:List Hit),al,(0:Nat),(0:Nat)) (fun (out,r_out,c_out,k)=>([(2,vI from_),(3,vI to_),(4,vP ak),(9,vS r_out out.length c_out),(21,.slice am ((BF (Bs f) 0 s.idx.names).length) ao),(22,vI (((BF (Bs f) 0 s.idx.names).length):Int)),(23,vI (k:Int))],[(0,.own 0 r_out 125 c_out out)],[],(BF (Bs f) 0 s.idx.names).length - k,(k≤(BF (Bs f) 0 s.idx.names).length)∧(out.length≤k)∧(out++((BF (Bs f) 0 s.idx.names).drop k).flatMap (Dh s from_ to_)=NU (Bs f) s from_ to_))) [] Z ⟨AB,AD,AF⟩ ?_
 rintro ⟨out,r_out,c_out,k⟩ aO w Z ⟨aE,aF,aG⟩ aa
 have aH:=Z.mo 0 out
 refine .s<|.g<|.bp ((k:Int)< (((BF (Bs f) 0 s.idx.names).length):Int)) (fun ag=>?_) (fun ag=>.d<|.s<|.cf<|.x 0 rfl<|.s<|.g<|.r 2<|.d<|T.Rt func40 results40 ⟨Z.rM 0 out (by exact (Te p0 ‹_› ‹_› AB).symm),Z.xt⟩)
 refine .d<|.s<|.ct<|.sk<|.s<|.b 1<|.s<|.g<|gxb (h:=AB) (BF (Bs f) 0 s.idx.names) k fun E ab aI ai=>RG.Ix 0 ab Z<|Z.el 0 ab fun Z=>RG.Lh 0 0 Z<|.r 1<|.d<|.s<|.g<|RG.Ln 1 Z<|.r 1<|RG.CL (Cd s E (Z.a 6) (Z.a 5) (Z.a 4) (Z.a 3) (StoK.of p0 ‹_›).part (StoK.of p0 ‹_›).row (by have:=p0.np; omega) (by have:=p0.nm2; omega)) Z fun aP aQ w Z=>.r 2<|RG.CL (Jr (rowsOf s E) from_ to_ (Z.a 0) (Nat.le_trans (Rq p0 ‹_› _).len AB)) Z fun aR aS w Z=>.r 1<|.d<|.s<|.g<|.r 2<|.bp ((((GQ (rowsOf s E) from_ to_).length):Int) > 0) (fun ah=>?_) (fun ah=>.d<|.cf<|.sk<|.ib 1<|.g<|RG.int ((k:Int)+1) AA AB<|.r 1<|.d<|aa (out,r_out,c_out,k+1) _ _ AA (Z.to 0 [] 3) ⟨AB,AB,(by exact Ry p0 ‹_› ‹_› ‹_› ‹_›)⟩ (by (simp only []; omega)))
 exact .d<|.ct<|.g<|.r 3<|RG.Lb 1 Z<|.r 1<|RG.int (E - 1) AA (by (have q1:=D4 (by assumption:_∈BF _ 0 s.idx.names); omega))<|gxm (h:=(by (have q1:=D4 (by assumption:_∈BF _ 0 s.idx.names); omega))) s.idx.names ((E - 1).toNat) fun ae ac aj=>RG.Jx (hz:=(by (have q1:=D4 (by assumption:_∈BF _ 0 s.idx.names); omega))) 8 (E - 1) ac Z<|Z.el 8 ac fun aT aU Z=>RG.Lh 0 0 Z<|RG.C0 (Jt ae (Z.a 1) (p0.nm.sz _ ‹_›)) Z fun w Z=>.r 2<|RG.Nb 1 Z fun aV w Z=>RG.Ap (hs:=by exact (by have q1:=QE (Bs f) s.idx.names 0; have q2:=p0.nm.len; omega)) 0 0 out (⟨GK ae,GQ (rowsOf s E) from_ to_⟩:Hit) [2] Z fun aq ar w Z=>.r 1<|.d<|.ib 1<|.g<|RG.int ((k:Int)+1) AA AB<|.r 1<|.d<|aa ((out++[(⟨GK ae,GQ (rowsOf s E) from_ to_⟩:Hit)]),aq,ar,k+1) _ _ AA (Z.to 0 [] 5) ⟨AB,(by (simp; omega)),(by exact Rx p0 ‹_› ‹_› ‹_› ‹_› ‹_›)⟩ (by (simp only []; omega))
theorem EN (a:Sto) (b:Sto) (h1:RepS w F a1 n1 c1 a.idx.names) (h2:RepS w F a2 n2 c2 a.idx.AY) (h3:RepS w F a3 n3 c3 a.parts) (h4:RepS w F a4 n4 c4 a.mem) (h5:RepS w F a5 n5 c5 b.idx.names) (h6:RepS w F a6 n6 c6 b.idx.AY) (h7:RepS w F a7 n7 c7 b.parts) (h8:RepS w F a8 n8 c8 b.mem) (p0:SD a) (p1:SD b):Calls Tryz.prog 12 [.agg #[.slice a1 n1 c1,.slice a2 n2 c2,.slice a3 n3 c3,.slice a4 n4 c4],.agg #[.slice a5 n5 c5,.slice a6 n6 c6,.slice a7 n7 c7,.slice a8 n8 c8]].toArray w (Al fun rv w'=>rv=.bool ((Bw a [] 0 99==Bw b [] 0 99))∧Ext w w'):=by
 cases h1.len
 cases h2.len
 cases h3.len
 cases h4.len
 cases h5.len
 cases h6.len
 cases h7.len
 cases h8.len
 refine goT func12 ?_
 have Z:=((((((((St.i0 F w).p h1).p h2).p h3).p h4).p h5).p h6).p h7).p h8
 exact .s<|.g<|RG.Np Z fun ai w Z=>RG.Np Z fun aj w Z=>.r 1<|.d<|.s<|T.Gd 3 Z fun w Z=>GA.Ln 0 1 Z<|GA.Ln 2 0 Z<|.go 1<|GE.CL (fun w Z=>GL a ([]:List Cnd) 0 99 (Z.a 7) (Z.a 6) (Z.a 5) (Z.a 4) Z.na (by exact p0)) Z fun ak al w Z=>GA.Dn Z fun w Z=>RG.CL (GL b ([]:List Cnd) 0 99 (Z.a 4) (Z.a 3) (Z.a 2) (Z.a 1) Z.na (by exact p1)) Z fun am ao w Z=>RG.C0 (LJ (Bw a ([]:List Cnd) 0 99) (Bw b ([]:List Cnd) 0 99) (Z.a 1) (Z.a 0)) Z fun w Z=>.r 1<|.d<|T.rt func12 results12 (.bool ((Bw a ([]:List Cnd) 0 99)==(Bw b ([]:List Cnd) 0 99))) ⟨(AG AF),Z.xt⟩
end Go.Proofs.YtckdhcbbgmiccaaGreat
namespace Go.Proofs.YtckdhcbbgmiccaaGreat
set_option maxRecDepth 100000
set_option maxHeartbeats 4000000
variable {w:World} {F:Nat→Prop} {a1 a2 a3 a4:Option Addr} {n1 c1 n2 c2 n3 c3 n4 c4:Nat}
theorem Bp (s:Sto) (h1:RepS w F a1 n1 c1 s.idx.names) (h2:RepS w F a2 n2 c2 s.idx.AY) (h3:RepS w F a3 n3 c3 s.parts) (h4:RepS w F a4 n4 c4 s.mem) (p0:∀ m∈s.mem,BS m.row=true) (p1:∀ m∈s.mem,1≤m.id∧m.id≤6) (p2:s.mem.length≤1000):Calls Tryz.prog 64 [.agg #[.slice a1 n1 c1,.slice a2 n2 c2,.slice a3 n3 c3,.slice a4 n4 c4]].toArray w (Al fun rv w'=>VS (ge w.heap.size) w' (Ai s.mem:Prt) rv∧Ext w w'):=by
 cases h1.len
 cases h2.len
 cases h3.len
 cases h4.len
 refine goT func64 ?_
 have Z:=((((St.i0 F w).p h1).p h2).p h3).p h4
 refine .s<|.g<|RG.Np Z fun ag w Z=>RG.Np Z fun ah w Z=>.d<|.s<|.g<|RG.N0 Int 0 Z fun ai w Z=>RG.N0 (List Row) 0 Z fun aj w Z=>.r 1<|RG.Np Z fun ac w Z=>RG.Ss 0 Z fun w Z=>.d<|.s<|.s<|.g<|.r 1<|.d<|.b 0<|T.Lp ((1:Nat),([]:List Int),ai,(0:Nat),([]:List (List Row)),aj,(0:Nat)) (fun (id,E,r_out_0,c_out_0,aa,r_out_1,c_out_1)=>([(1,vP ag),(2,vP ah),(3,vP ac),(4,vI (id:Int))],[(0,.box ac 66 [vS r_out_0 E.length c_out_0,vS r_out_1 aa.length c_out_1]),(1,.own 0 r_out_1 55 c_out_1 aa),(2,.own 0 r_out_0 3 c_out_0 E)],[],7 - id,(1≤id)∧(id≤7)∧(E.length≤id)∧(aa.length≤id)∧(E=(BI 0 (DQ s.mem (id - 1))).1)∧(aa=(BI 0 (DQ s.mem (id - 1))).2))) [] Z ⟨AB,AB,(by (simp; done)),(by (simp; done)),AF,AF⟩ ?_
 rintro ⟨id,E,r_out_0,c_out_0,aa,r_out_1,c_out_1⟩ aF w Z ⟨az,aA,aB,aC,aD,aE⟩ ab
 refine .s<|.s<|.g<|.r 1<|.bp ((id:Int)≤6) (fun ae=>.d<|.ct<|.sk<|.s<|.b 1<|.s<|.g<|.r 1<|RG.Lb 4 Z<|.r 2<|RG.CL (Cd (⟨(⟨([]:List (List Tag)),([]:List Pst)⟩:Idx),([]:List Prt),s.mem⟩:Sto) (id:Int) Z.na Z.na Z.na (Z.a 0) AD p0 AD p2) Z fun aG aH w Z=>.r 1<|.d<|.s<|.g<|.r 2<|.bp ((((rowsOf (⟨(⟨([]:List (List Tag)),([]:List Pst)⟩:Idx),([]:List Prt),s.mem⟩:Sto) (id:Int)).length):Int) > 0) (fun af=>.d<|.ct<|.s<|.g<|.r 1<|RG.Lb 0 Z<|.r 1<|RG.Nb 1 Z fun aI w Z=>RG.Ap 2 0 E (id:Int) [] Z fun ak al w Z=>.r 1<|RG.Ss 0 Z fun w Z=>.d<|.g<|.r 1<|RG.Lb 0 Z<|.r 1<|RG.Nb 1 Z fun aJ w Z=>RG.Ap 1 0 aa (rowsOf (⟨(⟨([]:List (List Tag)),([]:List Pst)⟩:Idx),([]:List Prt),s.mem⟩:Sto) (id:Int)) [0] Z fun am ao w Z=>.r 1<|RG.Ss 0 Z fun w Z=>.d<|.ib 1<|.g<|.r 1<|.it ((id:Int)+1)<|.r 1<|.d<|ab (id+1,(E++[(id:Int)]),ak,al,(aa++[rowsOf (⟨(⟨([]:List (List Tag)),([]:List Pst)⟩:Idx),([]:List Prt),s.mem⟩:Sto) (id:Int)]),am,ao) _ _ AA (Z.to 0 [] 1) ⟨AB,AB,(by (simp; omega)),(by (simp; omega)),(by exact TX ‹_› AB ‹_›),(by exact TZ ‹_› AB ‹_›)⟩ (by (simp only []; omega))) fun af=>.d<|.cf<|.sk<|.ib 1<|.g<|.r 1<|.it ((id:Int)+1)<|.r 1<|.d<|ab (id+1,E,r_out_0,c_out_0,aa,r_out_1,c_out_1) _ _ AA (Z.to 0 [] 1) ⟨AB,AB,AB,AB,(by exact TY ‹_› AB ‹_›),(by exact Ta ‹_› AB ‹_›)⟩ (by (simp only []; omega))) fun ae=>.d<|.cf<|.x 0 rfl<|.s<|.g<|RG.Ln 0 Z<|RG.Ss 3 Z fun w Z=>.d ?_
 have Z:=(Z.sl 2).sl 1
 exact T.Rb 1 func64 results64 Z ⟨Z.rS (⟨E,aa⟩:Prt) [1,0] (by exact Vy (k:=id) p1 AB ‹_› ‹_›),Z.xt⟩
theorem CP (s:Sto) (h1:RepS w F a1 n1 c1 s.idx.names) (h2:RepS w F a2 n2 c2 s.idx.AY) (h3:RepS w F a3 n3 c3 s.parts) (h4:RepS w F a4 n4 c4 s.mem) (p0:NmI s.idx.names) (p1:NsD s.idx.names) (p2:LV s):Calls Tryz.prog 41 [.agg #[.slice a1 n1 c1,.slice a2 n2 c2,.slice a3 n3 c3,.slice a4 n4 c4]].toArray w (Al fun rv w'=>(∃ (a0:Option Addr) (n0 c0:Nat) (a1:Option Addr) (n1 c1:Nat) (r2 n2 c2:Nat) (r3 n3 c3:Nat),rv=.agg #[.slice a0 n0 c0,.slice a1 n1 c1,.slice (some ⟨r2,0,none⟩) n2 c2,.slice (some ⟨r3,0,none⟩) n3 c3]∧RepS w' (nin (ge w.heap.size) [r2,r3]) a0 n0 c0 ((((AZ s)).idx).names)∧RepS w' (nin (ge w.heap.size) [r2,r3]) a1 n1 c1 ((((AZ s)).idx).AY)∧Own w' r2 66 (nin (ge w.heap.size) [r2,r3]) n2 c2 (((AZ s)).parts)∧w.heap.size≤r2∧Own w' r3 107 (nin (ge w.heap.size) [r2,r3]) n3 c3 (((AZ s)).mem)∧w.heap.size≤r3∧Nb r3 r2)∧Ext w w'):=by
 cases h1.len
 cases h2.len
 cases h3.len
 cases h4.len
 refine goT func41 ?_
 have Z:=((((St.i0 F w).p h1).p h2).p h3).p h4
 have aF:=h3.max
 have aG:=h4.max
 refine .s<|.g<|RG.Np Z fun ae w Z=>RG.Np Z fun af w Z=>.d<|.s<|T.GS 10 [af,ae] Z fun _ w Z=>.r [0,1]<|GA.Lb (q:=1) 2 1 Z<|.r [4]<|GA.Lb (q:=1) 5 1 Z<|.r [8]<|GA.Lb (q:=1) 9 1 Z<|.tw 3 7 ?_ ?_
 ·refine GE.CS (fun w Z=>Bv s.idx.names (Z.a 3) p0 p1) Z fun E aa ab ac w Z=>.tw 6 7 ?_ ?_
  ·exact GE.CO 0 (fun w Z=>CD s.parts (Z.a 3) (by have:=p2.2.1; omega) p2.2.2.1) Z fun ag ah w Z=>.go 7<|GE.N0 Smp 0 Z fun aH w Z=>GA.Do Z fun w Z=>RG.An (hs:=by (simp only [List.nil_append,List.length_nil,List.length_append,List.length_cons] <;> exact (by have:=p2.2.2.2; omega))) (hf:=.inr EO) 0 2 ([]:List Smp) s.mem Z fun ai aj w Z=>.r 1<|RG.Ss 2 Z fun w Z=>.d<|T.Rb 2 func41 results41 Z ⟨⟨E,((idxOf s.idx.names).names.length),aa,ab,((idxOf s.idx.names).AY.length),ac,ag,s.parts.length,ah,ai,(([]++s.mem).length),aj,AA,Z.qr [1,0] 0 ((idxOf s.idx.names).names) AF,Z.qr [1,0] 1 ((idxOf s.idx.names).AY) AF,Z.qo [1,0] 1 s.parts AF,Z.qb 1,Z.qo [1,0] 0 ([]++s.mem) AF,Z.qb 0,Z.qn 0 1⟩,Z.xt⟩
  exact GE.N0 Smp 0 Z fun aI w Z=>.go 6<|GE.CO 0 (fun w Z=>CD s.parts (Z.a 3) (by have:=p2.2.1; omega) p2.2.2.1) Z fun ak al w Z=>GA.Do Z fun w Z=>RG.An (hs:=by (simp only [List.nil_append,List.length_nil,List.length_append,List.length_cons] <;> exact (by have:=p2.2.2.2; omega))) (hf:=.inr EO) 1 2 ([]:List Smp) s.mem Z fun am ao w Z=>.r 1<|RG.Ss 2 Z fun w Z=>.d<|T.Rb 2 func41 results41 Z ⟨⟨E,((idxOf s.idx.names).names.length),aa,ab,((idxOf s.idx.names).AY.length),ac,ak,s.parts.length,al,am,(([]++s.mem).length),ao,AA,Z.qr [0,1] 0 ((idxOf s.idx.names).names) AF,Z.qr [0,1] 1 ((idxOf s.idx.names).AY) AF,Z.qo [0,1] 0 s.parts AF,Z.qb 0,Z.qo [0,1] 1 ([]++s.mem) AF,Z.qb 1,Z.qn 1 0⟩,Z.xt⟩
 exact GE.N0 Smp 0 Z fun aJ w Z=>.go 3<|GE.CS (fun w Z=>Bv s.idx.names (Z.a 3) p0 p1) Z fun aq ar ax ay w Z=>.go 6<|GE.CO 0 (fun w Z=>CD s.parts (Z.a 3) (by have:=p2.2.1; omega) p2.2.2.1) Z fun az aA w Z=>GA.Do Z fun w Z=>RG.An (hs:=by (simp only [List.nil_append,List.length_nil,List.length_append,List.length_cons] <;> exact (by have:=p2.2.2.2; omega))) (hf:=.inr EO) 1 2 ([]:List Smp) s.mem Z fun aB aC w Z=>.r 1<|RG.Ss 2 Z fun w Z=>.d<|T.Rb 2 func41 results41 Z ⟨⟨aq,((idxOf s.idx.names).names.length),ar,ax,((idxOf s.idx.names).AY.length),ay,az,s.parts.length,aA,aB,(([]++s.mem).length),aC,AA,Z.qr [0,1] 0 ((idxOf s.idx.names).names) AF,Z.qr [0,1] 1 ((idxOf s.idx.names).AY) AF,Z.qo [0,1] 0 s.parts AF,Z.qb 0,Z.qo [0,1] 1 ([]++s.mem) AF,Z.qb 1,Z.qn 1 0⟩,Z.xt⟩
theorem IM (s:Sto) (h1:RepS w F a1 n1 c1 s.idx.names) (h2:RepS w F a2 n2 c2 s.idx.AY) (h3:RepS w F a3 n3 c3 s.parts) (h4:RepS w F a4 n4 c4 s.mem) (p0:SD s):Calls Tryz.prog 28 [.agg #[.slice a1 n1 c1,.slice a2 n2 c2,.slice a3 n3 c3,.slice a4 n4 c4]].toArray w (Al fun rv w'=>(∃ v0,rv=.tuple #[v0,.bool ((Bg s).2)]∧VS (fo F w.heap.size) w' ((Bg s).1:Sto) v0)∧Ext w w'):=by
 cases h1.len
 cases h2.len
 cases h3.len
 cases h4.len
 refine goT func28 ?_
 have Z:=((((St.i0 F w).p h1).p h2).p h3).p h4
 have aE:=h3.max
 have aF:=h4.max
 refine .s<|.g<|RG.Np Z fun ak w Z=>RG.Np Z fun al w Z=>.r 1<|.d<|.s<|.s<|.g<|RG.Ln 1 Z<|RG.C0 (DK s (Z.a 3) (Z.a 2) (Z.a 1) (Z.a 0) p0) Z fun w Z=>?_
 cases aG:(Ac s)
 ·refine .r 1<|.d<|.ct<|.s<|.g<|.r 1<|RG.Ss 0 Z fun w Z=>.r 1<|.d ?_
  have Z:=(((Z.nl (List Tag)).nl Pst).nl Prt).nl Smp
  exact T.r2 func28 results28 (.B 0 Z) (.t (.bool false)) ⟨⟨_,(Br rfl (AG (by rw [JB ‹_›]))),Z.rS (g:=1) (⟨(⟨([]:List (List Tag)),([]:List Pst)⟩:Idx),([]:List Prt),([]:List Smp)⟩:Sto) [3,2,1,0] (by rw [JB ‹_›])⟩,Z.xt⟩
 refine .r 1<|.d<|.cf<|.sk<|.s<|.g<|RG.Ln 1 Z<|RG.cl (CP s (Z.a 3) (Z.a 2) (Z.a 1) (Z.a 0) p0.nm p0.nd p0.sz) ?_
 rintro _ w ⟨⟨am,aH,ao,aq,aI,ar,ax,aJ,ay,az,aK,aA,rfl,ab,ac,E,ae,aa,af,ag⟩,ah⟩
 cases ab.len
 cases ac.len
 cases E.len
 cases aa.len
 have Z:=Z.so ah [.own 0 ax 66 ay (((AZ s)).parts),.own 0 az 107 aA (((AZ s)).mem)] [.rep am ao ((((AZ s)).idx).names),.rep aq ar ((((AZ s)).idx).AY)] (nd2 ag) (oN E ae (oN aa af o0)) (fc ab (fc ac fn_))
 refine RG.Np Z fun aB w Z=>RG.Ss 0 Z fun w Z=>.d<|.s<|.s<|.g<|.r 1<|RG.Lb 4 Z<|.r 1<|.eq (s.mem.length:Int) 0 (fun ai=>?_) (fun ai=>?_)
 ·refine .r 6<|.d<|.ct<|.s<|.g<|RG.Ln 0 Z<|RG.Ss 3 Z fun w Z=>.r 1<|.d ?_
  have Z:=(Z.sl 1).sl 1
  exact T.r2 func28 results28 (.B 1 Z) (.t (.bool false)) ⟨⟨_,(Br rfl (AG (by rw [Gq p0 ‹_› (.inl ‹_›)]))),Z.rS (g:=1) (⟨(⟨(((AZ s)).idx).names,(((AZ s)).idx).AY⟩:Idx),((AZ s)).parts,((AZ s)).mem⟩:Sto) [2,3,1,0] (by rw [Gq p0 ‹_› (.inl ‹_›)])⟩,Z.xt⟩
 refine .r 2<|RG.Lb 4 Z<|.r 1<|.eq (s.parts.length:Int) 6 (fun aj=>?_) (fun aj=>?_)
 ·refine .r 1<|.d<|.ct<|.s<|.g<|RG.Ln 0 Z<|RG.Ss 3 Z fun w Z=>.r 1<|.d ?_
  have Z:=(Z.sl 1).sl 1
  exact T.r2 func28 results28 (.B 1 Z) (.t (.bool false)) ⟨⟨_,(Br rfl (AG (by rw [Gq p0 ‹_› (.inr ‹_›)]))),Z.rS (g:=1) (⟨(⟨(((AZ s)).idx).names,(((AZ s)).idx).AY⟩:Idx),((AZ s)).parts,((AZ s)).mem⟩:Sto) [2,3,1,0] (by rw [Gq p0 ‹_› (.inr ‹_›)])⟩,Z.xt⟩
 refine .r 1<|.d<|.cf<|.sk<|.s<|T.GS 5 [aB,al,ak] Z fun _ w Z=>.r [0]<|GA.Lb 1 0 Z<|GA.Ln (q:=2) 2 4 Z<|.go 3<|GE.CS (fun w Z=>Bp s (Z.a 5) (Z.a 4) (Z.a 3) (Z.a 2) (StoK.of p0 ‹_›).row (StoK.of p0 ‹_›).Jn.Ip (by have:=p0.nm2; omega)) Z fun aL aM aN aO w Z=>.go 4<|GE.Nb 1 Z fun aP w Z=>GA.Do Z fun w Z=>RG.Ap (hs:=by exact (by have q1:=p0.np; have q2:(AZ s).parts.length=s.parts.length:=rfl; omega)) 1 0 (((AZ s)).parts) (Ai s.mem) [0,1] Z fun aS aT w Z=>.r 1<|RG.Ss 0 Z fun w Z=>.d<|.s<|.g<|RG.N0 Smp 1 Z fun aU w Z=>.r 1<|RG.Ss 1 Z fun w Z=>.d<|.s<|.g<|RG.Ln 1 Z<|RG.Ss 4 Z fun w Z=>.r 1<|.d ?_
 have Z:=(Z.sl 2).sl 0
 exact T.r2 func28 results28 (.B 2 Z) (.t (.bool true)) ⟨⟨_,(Br rfl (AG (by rw [IK p0 ‹_› ‹_› ‹_›]))),Z.rS (g:=1) (⟨(⟨(((AZ s)).idx).names,(((AZ s)).idx).AY⟩:Idx),(((AZ s)).parts++[(Ai s.mem)]),([]:List Smp)⟩:Sto) [4,5,1,0] (by rw [IK p0 ‹_› ‹_› ‹_›])⟩,Z.xt⟩
end Go.Proofs.YtckdhcbbgmiccaaGreat
