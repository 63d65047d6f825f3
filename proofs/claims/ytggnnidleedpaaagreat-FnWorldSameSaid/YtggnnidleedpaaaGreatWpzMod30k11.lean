/- What asking computes, as plain functions, and its laws. -/
import Derived.Test.YtggnnidleedpaaaGreatWpzSwk12
import Derived.Test.YtggnnidleedpaaaGreatWpzJnk11
import Derived.Test.YtggnnidleedpaaaGreatWpzMod30
open Go.Proofs.Tryz
set_option linter.unusedVariables false
set_option linter.unusedSimpArgs false
namespace Go.Proofs.YtggnnidleedpaaaGreat
def Jp (v:Tag):Nat→List Tag→Int
 | _,[]=>-1
 | i,x::xs=>if v==x then (i:Int) else Jp v (i+1) xs
theorem Rp (v:Tag):∀ (l:List Tag) (i:Nat),has l v=decide (Jp v i l≥0):=by
 intro l
 induction l with
 | nil=>intro i; simp [has,Jp]
 | cons x xs ih =>
   intro i
   have:=ih (i+1)
   unfold has at this ⊢
   rw [List.any_cons,this]
   have e:Jp v i (x::xs)=if v==x then (i:Int) else Jp v (i+1) xs:=rfl
   rw [e]
   by_cases h:v=x
   ·subst h; simp
   ·have h1:(v==x)=false:=beq_eq_false_iff_ne.2 h
    have h2:(x==v)=false:=beq_eq_false_iff_ne.2 (fun e=>h e.symm)
    rw [h1,h2]
    simp
theorem Kn (a b:Hit):a=b↔a.name=b.name∧a.rows=b.rows:=by cases a; cases b; simp
theorem Oh {α:Type}{f:α→Bool}{l k Y:List α}{i:Nat}{x:α}(h:k++(l.drop i).filter f=Y) (hd:l.drop i=x::l.drop (i+1)) (hx:f x=true):(k++[x])++(l.drop (i+1)).filter f=Y:=by
 rw [hd,List.filter_cons,if_pos hx] at h
 rw [← h]
 simp
theorem Oi {α:Type}{f:α→Bool}{l k Y:List α}{i:Nat}{x:α}(h:k++(l.drop i).filter f=Y) (hd:l.drop i=x::l.drop (i+1)) (hx:f x=false):k++(l.drop (i+1)).filter f=Y:=by
 rw [hd,List.filter_cons,if_neg (by simp [hx])] at h
 exact h
theorem QG {α:Type}{f:α→Bool}{l k Y:List α}{i:Nat}(h:k++(l.drop i).filter f=Y) (hi:l.length≤i):k=Y:=by
 rw [Ab hi] at h
 simpa using h
theorem Rq {p:List Tag→Bool}{l:List (List Tag)}{k Y:List Int}{i:Nat}{x:List Tag}(h:k++BJ p i (l.drop i)=Y) (hd:l.drop i=x::l.drop (i+1)) (hx:p x=true):(k++[(i:Int)+1])++BJ p (i+1) (l.drop (i+1))=Y:=by
 rw [hd,BJ,if_pos hx] at h
 rw [← h]
 simp
theorem Rr {p:List Tag→Bool}{l:List (List Tag)}{k Y:List Int}{i:Nat}{x:List Tag}(h:k++BJ p i (l.drop i)=Y) (hd:l.drop i=x::l.drop (i+1)) (hx:p x=false):k++BJ p (i+1) (l.drop (i+1))=Y:=by
 rw [hd,BJ,if_neg (by simp [hx])] at h
 exact h
theorem Ti {p:List Tag→Bool}{l:List (List Tag)}{k Y:List Int}{i:Nat}(h:k++BJ p i (l.drop i)=Y) (hi:l.length≤i):k=Y:=by
 rw [Ab hi,BJ] at h
 simpa using h
theorem QH (p:List Tag→Bool):∀ (l:List (List Tag)) (i:Nat),(BJ p i l).length≤l.length:=by
 intro l
 induction l with
 | nil=>intro i; simp [BJ]
 | cons n ns ih =>
   intro i
   have:=ih (i+1)
   unfold BJ
   split <;> simp <;> omega
theorem Tj {s:Sto}{lo hi:Int}{l:List Int}{i:Nat}{id:Int}{k Y:List Hit}(h:k++(l.drop i).flatMap (Di s lo hi)=Y) (hd:l.drop i=id::l.drop (i+1)){c:List Row}(hc:c=LF (rowsOf s id) lo hi) (hl:(c.length:Int) > 0){n:List Tag}(hn:s.idx.names[(id - 1).toNat]? = some n) :
 (k++[⟨text n,c⟩])++(l.drop (i+1)).flatMap (Di s lo hi)=Y:=by
 subst hc
 rw [hd,List.flatMap_cons] at h
 rw [← h]
 have:Di s lo hi id=[⟨text n,LF (rowsOf s id) lo hi⟩]:=by
  unfold Di
  rw [if_pos AB,List.getD_eq_getElem?_getD,hn]
  rfl
 rw [this]
 simp
theorem Tk {s:Sto}{lo hi:Int}{l:List Int}{i:Nat}{id:Int}{k Y:List Hit}(h:k++(l.drop i).flatMap (Di s lo hi)=Y) (hd:l.drop i=id::l.drop (i+1)){c:List Row}(hc:c=LF (rowsOf s id) lo hi) (hl:¬ (c.length:Int) > 0) :
 k++(l.drop (i+1)).flatMap (Di s lo hi)=Y:=by
 subst hc
 rw [hd,List.flatMap_cons] at h
 rw [← h]
 have:Di s lo hi id=[]:=by
  unfold Di
  rw [if_neg AB]
 rw [this]
 simp
theorem VF {s:Sto}{lo hi:Int}{l:List Int}{i:Nat}{k Y:List Hit}(h:k++(l.drop i).flatMap (Di s lo hi)=Y) (hi2:l.length≤i):k=Y:=by
 rw [Ab hi2] at h
 simpa using h
theorem QJ {f:List Cnd}(h:f.all (fun c=>Bb c.tag)=false):false=DR f:=by unfold DR; rw [h]; rfl
theorem Ok {f:List Cnd}(h:f.all (fun c=>Bb c.tag)=true):decide ((f.length:Int)≤3)=DR f:=by unfold DR; rw [h,Bool.true_and,decide_eq_decide]; omega
theorem VG {s:Sto}{f:List Cnd}{lo hi:Int}(h:Ad s=false∨DR f=false):Bj s f lo hi=[]:=by
 unfold Bj
 rcases h with h | h <;> rw [h] <;> simp
def tx1 (t:Tag):Txt:=⟨HI t⟩
theorem Ol:∀ (n:List Tag) (i:Nat),0< i→ET i n=Lib.joinTail [44] (n.map HI):=by
 intro n
 induction n with
 | nil=>intro i _; rfl
 | cons t ts ih =>
   intro i hi
   unfold ET
   rw [if_pos hi,ih (i+1) AB]
   simp [Lib.joinTail]
theorem QK (n:List Tag):Lib.join ((n.map tx1).map Txt.s) [44]=text n:=by
 have e:(n.map tx1).map Txt.s=n.map HI:=by rw [List.map_map]; rfl
 rw [e]
 cases n with
 | nil=>rfl
 | cons t ts =>
   rw [List.map_cons,Lib.join_cons]
   unfold text ET
   rw [Ol ts 1 AB]
   simp
theorem QL:∀ (n:List Tag) (i:Nat),(∀ t∈n,t.key.length≤1000∧t.val.length≤1000)→(ET i n).length≤2002 * n.length:=by
 intro n
 induction n with
 | nil=>intro i _; simp [ET]
 | cons t ts ih =>
   intro i h
   have h1:=ih (i+1) (fun x hx=>h x (by simp [hx]))
   have h2:=h t AD
   unfold ET HI
   simp only [List.length_append,List.length_cons,List.length_nil]
   split <;> simp only [List.length_cons,List.length_nil] <;> omega
theorem PY {n:List Tag}{k:List Txt}{i:Nat}(h:k++(n.drop i).map tx1=n.map tx1) (hi:n.length≤i):Lib.join (k.map Txt.s) [44]=text n:=by
 rw [Ab hi,List.map_nil,List.append_nil] at h
 rw [h,QK]
theorem VH {n:List Tag}{k:List Txt}{i:Nat}(h:k++(n.drop i).map tx1=n.map tx1) (hi:n.length≤i) (hn:FW n):(Lib.join (k.map Txt.s) [44]).length≤100000000000:=by
 rw [PY h hi]
 have:=QL n 0 hn.2
 have h2:=hn.1
 unfold text
 omega
theorem Rz {n:List Tag}{k:List Txt}{i:Nat}{t:Tag}(h:k++(n.drop i).map tx1=n.map tx1) (hd:n.drop i=t::n.drop (i+1)):(k++[⟨t.key++[61]++t.val⟩])++(n.drop (i+1)).map tx1=n.map tx1:=by
 rw [hd,List.map_cons] at h
 rw [← h,List.append_assoc]
 rfl
theorem R0 {n:List Tag}(h:At n=false):GG n=[]:=by unfold GG; rw [if_neg (by simp [h])]
theorem R1 {p:List Tag→Bool}{s:Sto}(hs:SD s) (hk:Ad s=true){lo hi:Int}{i:Nat}{id:Int}{k Y:List Hit}(h:k++((BJ p 0 s.idx.names).drop i).flatMap (Di s lo hi)=Y) (hd:(BJ p 0 s.idx.names).drop i=id::(BJ p 0 s.idx.names).drop (i+1)) (hl:((GL (rowsOf s id) lo hi).length:Int) > 0){n:List Tag}(hn:s.idx.names[(id - 1).toNat]? = some n) :
 (k++[⟨GG n,GL (rowsOf s id) lo hi⟩])++((BJ p 0 s.idx.names).drop (i+1)).flatMap (Di s lo hi)=Y:=by
 have hid:=D6 (p:=p) (l:=s.idx.names) (x:=id) (List.mem_of_mem_drop (by rw [hd]; simp))
 rw [Kp (hs.nm.ok n (AV hn))]
 exact Tj h hd (JE hs hk hid.1 hid.2 lo hi) hl hn
theorem R2 {p:List Tag→Bool}{s:Sto}(hs:SD s) (hk:Ad s=true){lo hi:Int}{i:Nat}{id:Int}{k Y:List Hit}(h:k++((BJ p 0 s.idx.names).drop i).flatMap (Di s lo hi)=Y) (hd:(BJ p 0 s.idx.names).drop i=id::(BJ p 0 s.idx.names).drop (i+1)) (hl:¬ ((GL (rowsOf s id) lo hi).length:Int) > 0) :
 k++((BJ p 0 s.idx.names).drop (i+1)).flatMap (Di s lo hi)=Y:=by
 have hid:=D6 (p:=p) (l:=s.idx.names) (x:=id) (List.mem_of_mem_drop (by rw [hd]; simp))
 exact Tk h hd (JE hs hk hid.1 hid.2 lo hi) hl
theorem Tl {s:Sto}{f:List Cnd}(hs:SD s) (hk:Ad s=true){lo hi:Int}{i:Nat}{k:List Hit}(h:k++((BJ (Bz f) 0 s.idx.names).drop i).flatMap (Di s lo hi)=NT (Bz f) s lo hi) (hi2:(BJ (Bz f) 0 s.idx.names).length≤i):Bj s f lo hi=k:=by
 rw [Ry hs hk]
 exact (VF h hi2).symm
end Go.Proofs.YtggnnidleedpaaaGreat
namespace Go.Proofs.YtggnnidleedpaaaGreat
set_option maxRecDepth 100000
set_option maxHeartbeats 4000000
variable {w:World} {F:Nat→Prop} {a1 a2 a3:Option Addr} {n1 c1 n2 c2 n3 c3:Nat}
theorem Jq (b:List Row) (from_:Int) (to_:Int) (h1:RepS w F a1 n1 c1 b) (p0:b.length≤1000000):Calls Tryz.prog 91 [.slice a1 n1 c1,.int .i64 from_,.int .i64 to_].toArray w (Am fun rv w'=>VL (ge w.heap.size) w' (GL b from_ to_:List Row) rv∧Ext w w'):=by
 cases h1.len
 refine goT func91 ?_
 have Z:=(St.i0 F w).p h1
 refine .s<|.g<|.r 1<|.d<|.s<|.g<|RG.N0 Row 0 Z fun ag w Z=>.r 1<|.d<|.s<|.s<|.g<|.r 1<|RG.C0 (DI b (Z.a 0)) Z fun w Z=>?_
 cases ak:(Bg b)
 ·exact .r 1<|.d<|.ct<|.s<|.g<|.r 2<|.d<|T.Rt func91 results91 ⟨Z.rM 0 ([]:List Row) (by unfold GL; (rw [if_neg (by simp [*])]; done)),Z.xt⟩
 refine .r 1<|.d<|.cf<|.sk<|.s<|.s<|.g<|.r 3<|.d<|.b 0<|T.Lp (([]:List Row),ag,(0:Nat),(0:Nat)) (fun (out,r_out,c_out,k)=>([(1,vI from_),(2,vI to_),(7,vS r_out out.length c_out),(15,.slice a1 b.length c1),(16,vI (b.length:Int)),(17,vI (k:Int))],[(0,.own 0 r_out 56 c_out out)],[],b.length - k,(k≤b.length)∧(out.length≤k)∧(out++(b.drop k).filter (fun r=>inR r.t from_ to_)=LF b from_ to_))) [] Z ⟨AB,AD,AF⟩ ?_
 rintro ⟨out,r_out,c_out,k⟩ ax w Z ⟨al,am,ao⟩ E
 refine .s<|.g<|.bp ((k:Int)< (b.length:Int)) (fun ae=>?_) (fun ae=>.d<|.s<|.cf<|.x 0 rfl<|.s<|.g<|.r 2<|.d<|T.Rt func91 results91 ⟨Z.rM 0 out (by unfold GL; (rw [if_pos ‹_›]; exact QG ‹_› AB)),Z.xt⟩)
 refine .d<|.s<|.ct<|.sk<|.s<|.b 1<|.s<|.g<|gxd b k fun ab aa aq=>RG.Ix 0 aa Z<|Z.el 0 aa fun Z=>RG.Lg 0 0 Z<|RG.Np Z fun ay w Z=>RG.Ss 0 Z fun w Z=>.d<|.s<|.g<|.r 1<|RG.Lb 0 Z<|.r 2<|RG.C0 (Br ab.t from_ to_ (F:=all)) Z fun w Z=>?_
 cases ac:(inR ab.t from_ to_)
 ·exact .d<|.cf<|.sk<|.ib 1<|.g<|.it ((k:Int)+1)<|.r 1<|.d<|E (out,r_out,c_out,k+1) _ _ AA (Z.to 1 [] 1) ⟨AB,AB,(by exact Oi ‹_› ‹_› ‹_›)⟩ (by (simp only []; omega))
 exact .d<|.ct<|.g<|.r 1<|RG.Ln 0 Z<|RG.Nb 1 Z fun az w Z=>RG.Ap 1 0 out ab [] Z fun ah ai w Z=>.r 1<|.d<|.ib 1<|.g<|.it ((k:Int)+1)<|.r 1<|.d<|E ((out++[ab]),ah,ai,k+1) _ _ AA (Z.to 1 [] 1) ⟨AB,(by (simp; omega)),(by exact Oh ‹_› ‹_› ‹_›)⟩ (by (simp only []; omega))
theorem Jr (f:List Cnd) (h1:RepS w F a1 n1 c1 f)  : Calls Tryz.prog 157 [.slice a1 n1 c1].toArray w (Am fun rv w'=>rv=.bool (DR f)∧Ext w w'):=by
 cases h1.len
 refine goT func157 ?_
 have Z:=(St.i0 F w).p h1
 have af:=h1.max
 refine .s<|.g<|.r 1<|.d<|.s<|.s<|.g<|.r 3<|.d<|.b 0<|T.Lp (0:Nat) (fun k=>([(0,.slice a1 f.length c1),(5,.slice a1 f.length c1),(6,vI (f.length:Int)),(7,vI (k:Int))],[],[],f.length - k,(k≤f.length)∧((f.drop k).all (fun c=>Bb c.tag)=f.all (fun c=>Bb c.tag)))) [] Z ⟨AD,AD⟩ ?_
 rintro k ak w Z ⟨ag,ah⟩ aa
 refine .s<|.g<|.bp ((k:Int)< (f.length:Int)) (fun ab=>?_) (fun ab=>.d<|.s<|.cf<|.x 0 rfl<|.s<|.g<|.r 4<|.d<|T.rt func157 results157 (.bool (decide ((f.length:Int)≤3))) ⟨(AG (by exact Ok (Kc ‹_› AB))),Z.xt⟩)
 refine .d<|.s<|.ct<|.sk<|.s<|.b 1<|.s<|.g<|gxd f k fun ac E ai=>RG.Ix 0 E Z<|Z.el 0 E fun Z=>RG.Lg 0 0 Z<|RG.Np Z fun al w Z=>RG.Ss 0 Z fun w Z=>.d<|.s<|.g<|.r 1<|RG.Ln 0 Z<|RG.C0 (H0 ac.tag (F:=all)) Z fun w Z=>?_
 cases aj:(Bb ac.tag)
 ·exact .r 1<|.d<|.ct<|.s<|.g<|.r 1<|.d<|T.rt func157 results157 (.bool false) ⟨(AG (by exact QJ (JS ‹_› ‹_› ‹_›))),Z.xt⟩
 exact .r 1<|.d<|.cf<|.sk<|.ib 1<|.g<|.it ((k:Int)+1)<|.r 1<|.d<|aa (k+1) _ _ AA (Z.to 1 [] 1) ⟨AB,(by exact IA ‹_› ‹_› ‹_›)⟩ (by (simp only []; omega))
theorem D7 (s:List Tag) (v:Tag) (h1:RepS w F a1 n1 c1 s)  : Calls Tryz.prog 179 [.slice a1 n1 c1,.agg #[.string (bs v.key),.string (bs v.val)]].toArray w (Am fun rv w'=>rv=.int .i64 (Jp v 0 s)∧Ext w w'):=by
 cases h1.len
 refine goT func179 ?_
 have Z:=(St.i0 F w).p h1
 have ag:=h1.max
 refine .s<|.g<|RG.Np Z fun af w Z=>.r 1<|.d<|.s<|.s<|.g<|.r 3<|.d<|.b 0<|T.Lp (0:Nat) (fun k=>([(0,.slice a1 s.length c1),(3,vP af),(7,vI (s.length:Int)),(8,vI (k:Int))],[],[],s.length - k,(k≤s.length)∧(Jp v k (s.drop k)=Jp v 0 s))) [] Z ⟨AD,AD⟩ ?_
 rintro k al w Z ⟨ah,ai⟩ aa
 refine .s<|.g<|.bp ((k:Int)< (s.length:Int)) (fun ab=>?_) (fun ab=>.d<|.s<|.cf<|.x 0 rfl<|.s<|.g<|.r 1<|.d<|T.rt func179 results179 (vI (-1)) ⟨(congrArg (Value.int .i64) (by grind [Jp,Ab])),Z.xt⟩)
 refine .d<|.s<|.ct<|.sk<|.s<|.b 1<|.s<|.g<|.r 2<|.d<|.s<|T.Gd 5 Z fun w Z=>GA.Ln 0 0 Z<|.r [1,2]<|gxd s k fun ac E aj=>GA.Ix 3 0 E Z<|Z.el 0 E fun Z=>GA.Lg 4 0 0 Z<|GA.Dn Z fun w Z=>RG.Mz (t:=67) (x:=v) (y:=ac) AA AA ?_
 cases ak:(v==ac)
 ·exact .d<|.cf<|.sk<|.ib 1<|.g<|.it ((k:Int)+1)<|.r 1<|.d<|aa (k+1) _ _ AA (Z.to 0 [] 1) ⟨AB,(by grind [Jp])⟩ (by (simp only []; omega))
 exact .d<|.ct<|.s<|.g<|.r 2<|.d<|T.rt func179 results179 (vI (k:Int)) ⟨(congrArg (Value.int .i64) (by grind [Jp,Ab])),Z.xt⟩
theorem DY (s:List Tag) (v:Tag) (h1:RepS w F a1 n1 c1 s)  : Calls Tryz.prog 158 [.slice a1 n1 c1,.agg #[.string (bs v.key),.string (bs v.val)]].toArray w (Am fun rv w'=>rv=.bool (has s v)∧Ext w w'):=by
 cases h1.len
 refine goT func158 ?_
 have Z:=(St.i0 F w).p h1
 exact .s<|.g<|RG.Np Z fun aa w Z=>.r 1<|.d<|.s<|.g<|.r 1<|RG.Ln 0 Z<|RG.C0 (D7 s v (Z.a 0)) Z fun w Z=>.r 2<|.d<|T.rt func158 results158 (.bool (decide (Jp v 0 s≥0))) ⟨(AG (by exact (Rp v s 0).symm)),Z.xt⟩
theorem IK (f:List Cnd) (n:List Tag) (h1:RepS w F a1 n1 c1 f) (h2:RepS w F a2 n2 c2 n) (p0:n.length≤1000):Calls Tryz.prog 133 [.slice a1 n1 c1,.slice a2 n2 c2].toArray w (Am fun rv w'=>rv=.bool (Bz f n)∧Ext w w'):=by
 cases h1.len
 cases h2.len
 refine goT func133 ?_
 have Z:=((St.i0 F w).p h1).p h2
 have af:=h1.max
 refine .s<|.g<|.r 1<|.d<|.s<|.s<|.g<|.r 1<|RG.C0 (Jr f (Z.a 1)) Z fun w Z=>?_
 cases ah:(DR f)
 ·exact .r 6<|.d<|.ct<|.s<|.g<|.r 1<|.d<|T.rt func133 results133 (.bool false) ⟨(AG (by unfold Bz; (simp [*]; done))),Z.xt⟩
 refine .r 3<|RG.C0 (DV n (Z.a 0)) Z fun w Z=>?_
 cases ai:(At n)
 ·exact .r 2<|.d<|.ct<|.s<|.g<|.r 1<|.d<|T.rt func133 results133 (.bool false) ⟨(AG (by unfold Bz; (simp [*]; done))),Z.xt⟩
 refine .r 2<|.d<|.cf<|.sk<|.s<|.s<|.g<|.r 3<|.d<|.b 0<|T.Lp (0:Nat) (fun k=>([(1,.slice a2 n.length c2),(15,.slice a1 f.length c1),(16,vI (f.length:Int)),(17,vI (k:Int))],[],[],f.length - k,(k≤f.length)∧(DR f=true)∧(At n=true)∧((f.drop k).all (fun c=>has n c.tag != c.no)=fits f n))) [] Z ⟨AB,AB,AB,AF⟩ ?_
 rintro k ar w Z ⟨aj,ak,al,am⟩ ab
 refine .s<|.g<|.bp ((k:Int)< (f.length:Int)) (fun ac=>?_) (fun ac=>.d<|.s<|.cf<|.x 0 rfl<|.s<|.g<|.r 1<|.d<|T.rt func133 results133 (.bool true) ⟨(AG (by unfold Bz; rw [Kc (f:=fun c:Cnd=>has n c.tag != c.no) (by assumption:(f.drop k).all _=fits f n) AB]; simp [*])),Z.xt⟩)
 refine .d<|.s<|.ct<|.sk<|.s<|.b 1<|.s<|.g<|gxd f k fun E aa ao=>RG.Ix 1 aa Z<|Z.el 1 aa fun Z=>RG.Lg 0 0 Z<|RG.Np Z fun au w Z=>RG.Ss 0 Z fun w Z=>.d<|.s<|T.Gd 6 Z fun w Z=>.r [0,1]<|GA.Ln 2 0 Z<|GA.C0 3 Z (fun w Z=>DY n E.tag (Z.a 1))<|.r [4]<|GA.Lb 5 0 Z<|GA.Dn Z fun w Z=>RG.eqv (v:=.bool ((has n E.tag)==E.no)) (v':=.bool ((has n E.tag)==E.no)) AA AF ?_
 cases aq:((has n E.tag)==E.no)
 ·exact .d<|.cf<|.sk<|.ib 1<|.g<|.it ((k:Int)+1)<|.r 1<|.d<|ab (k+1) _ _ AA (Z.to 1 [] 1) ⟨AB,‹_›,‹_›,(by exact IA ‹_› ‹_› (by simp_all))⟩ (by (simp only []; omega))
 exact .d<|.ct<|.s<|.g<|.r 1<|.d<|T.rt func133 results133 (.bool false) ⟨(AG (by unfold Bz; (rw [JS (f:=fun c:Cnd=>has n c.tag != c.no) (by assumption:(f.drop k).all _=fits f n) ‹_› (by simp_all)]; simp))),Z.xt⟩
theorem JF (ix:Idx) (f:List Cnd) (h1:RepS w F a1 n1 c1 ix.names) (h2:RepS w F a2 n2 c2 ix.AY) (h3:RepS w F a3 n3 c3 f) (p0:IxI ix) (p1:NsD ix.names):Calls Tryz.prog 90 [.agg #[.slice a1 n1 c1,.slice a2 n2 c2],.slice a3 n3 c3].toArray w (Am fun rv w'=>VL (ge w.heap.size) w' (BJ (Bz f) 0 ix.names:List Int) rv∧Ext w w'):=by
 cases h1.len
 cases h2.len
 cases h3.len
 refine goT func90 ?_
 have Z:=(((St.i0 F w).p h1).p h2).p h3
 have aj:=h1.max
 refine .s<|.g<|RG.Np Z fun ax w Z=>.r 1<|.d<|.s<|.g<|RG.N0 Int 0 Z fun ag w Z=>.r 1<|.d<|.s<|.s<|.g<|RG.Ln 1 Z<|RG.C0 (Gl ix (Z.a 2) (Z.a 1) p0 p1) Z fun w Z=>.r 1<|.d<|.cf<|.sk<|.s<|.s<|.g<|.r 1<|RG.Lb 1 Z<|.r 2<|.d<|.b 0<|T.Lp (([]:List Int),ag,(0:Nat),(0:Nat)) (fun (out,r_out,c_out,k)=>([(1,.slice a3 f.length c3),(5,vS r_out out.length c_out),(14,.slice a1 ix.names.length c1),(15,vI (ix.names.length:Int)),(16,vI (k:Int))],[(0,.own 0 r_out 3 c_out out)],[],ix.names.length - k,(k≤ix.names.length)∧(out.length≤k)∧(out++BJ (Bz f) k (ix.names.drop k)=BJ (Bz f) 0 ix.names))) [] Z ⟨AB,AD,AF⟩ ?_
 rintro ⟨out,r_out,c_out,k⟩ ay w Z ⟨am,ao,aq⟩ E
 refine .s<|.g<|.bp ((k:Int)< (ix.names.length:Int)) (fun ab=>?_) (fun ab=>.d<|.s<|.cf<|.x 0 rfl<|.s<|.g<|.r 2<|.d<|T.Rt func90 results90 ⟨Z.rM 0 out (by exact Ti ‹_› AB),Z.xt⟩)
 refine .d<|.s<|.ct<|.sk<|.s<|.b 1<|.s<|.g<|.r 1<|gxb ix.names k fun ac aa ar af=>RG.Ix 2 aa Z<|Z.el 2 aa fun az aA Z=>RG.Lh 0 0 Z<|.r 2<|.d<|.s<|.g<|.r 2<|RG.C0 (IK f ac (Z.a 2) (Z.a 1) (by have q1:=(p0.nm.sz _ ‹_›).1; omega)) Z fun w Z=>?_
 cases au:(Bz f ac)
 ·exact .d<|.cf<|.sk<|.ib 1<|.g<|RG.int ((k:Int)+1) AA (by have q1:=p0.nm.len; omega)<|.r 1<|.d<|E (out,r_out,c_out,k+1) _ _ AA (Z.to 0 [] 2) ⟨AB,AB,(by exact Rr ‹_› ‹_› ‹_›)⟩ (by (simp only []; omega))
 exact .d<|.ct<|.g<|.r 2<|RG.int ((k:Int)+1) AA (by have q1:=p0.nm.len; omega)<|RG.Nb 1 Z fun aB w Z=>RG.Ap (hs:=by exact (by have q1:=p0.nm.len; omega)) 0 0 out ((k:Int)+1) [] Z fun ah ai w Z=>.r 1<|.d<|.ib 1<|.g<|RG.int ((k:Int)+1) AA (by have q1:=p0.nm.len; omega)<|.r 1<|.d<|E ((out++[(k:Int)+1]),ah,ai,k+1) _ _ AA (Z.to 0 [] 2) ⟨AB,(by (simp; omega)),(by exact Rq ‹_› ‹_› ‹_›)⟩ (by (simp only []; omega))
end Go.Proofs.YtggnnidleedpaaaGreat
namespace Go.Proofs.YtggnnidleedpaaaGreat
set_option maxRecDepth 100000
set_option maxHeartbeats 4000000
variable {w:World} {F:Nat→Prop} {a1 a2 a3 a4 a5 a6 a7 a8:Option Addr} {n1 c1 n2 c2 n3 c3 n4 c4 n5 c5 n6 c6 n7 c7 n8 c8:Nat}
theorem LG (a:List Hit) (b:List Hit) (h1:RepS w F a1 n1 c1 a) (h2:RepS w F a2 n2 c2 b)  : Calls Tryz.prog 50 [.slice a1 n1 c1,.slice a2 n2 c2].toArray w (Am fun rv w'=>rv=.bool ((a==b))∧Ext w w'):=by
 cases h1.len
 cases h2.len
 refine goT func50 ?_
 have Z:=((St.i0 F w).p h1).p h2
 have aj:=h1.max
 refine .s<|.g<|.r 1<|.d<|.s<|.s<|.g<|.r 4<|.ne (a.length:Int) (b.length:Int) (fun af=>.d<|.ct<|.s<|.g<|.r 1<|.d<|T.rt func50 results50 (.bool false) ⟨(AG (by grind [Ab,Kn])),Z.xt⟩) fun af=>.d<|.cf<|.sk<|.s<|.s<|.g<|.r 1<|.d<|.b 0<|T.Lp (0:Nat) (fun i=>([(0,.slice a1 a.length c1),(1,.slice a2 b.length c2),(5,vI (i:Int))],[],[],a.length - i,(i≤a.length)∧(a.drop i=b.drop i↔a=b))) [] Z ⟨AD,AD⟩ ?_
 rintro i ax w Z ⟨al,am⟩ ab
 refine .s<|.s<|.g<|.r 3<|.bp ((i:Int)< (a.length:Int)) (fun ag=>?_) (fun ag=>.d<|.cf<|.x 0 rfl<|.s<|.g<|.r 1<|.d<|T.rt func50 results50 (.bool true) ⟨(AG (by grind [Ab,Kn])),Z.xt⟩)
 refine .d<|.ct<|.sk<|.s<|.b 1<|.s<|T.Gd 22 Z fun w Z=>.r [0,1]<|gxd a i fun ac E ao=>GA.Ix 2 1 E Z<|.r [3]<|Z.el 1 E fun ay az Z=>GA.Lh 4 0 0 Z<|.r [5,6]<|gxd b i fun ae aa aq=>GA.Ix 7 2 aa Z<|.r [8]<|Z.el 2 aa fun aA aB Z=>GA.Lh 9 0 0 Z<|GA.eqv (i:=10) (v:=.bool (!(ac.name==ae.name))) AA (Vy ac.name ae.name) ?_
 cases ar:(ac.name==ae.name)
 ·exact .r [11]<|GA.Sk Z fun w Z=>.r 3<|.d<|.ct<|.s<|.g<|.r 1<|.d<|T.rt func50 results50 (.bool false) ⟨(AG (by grind [Ab,Kn])),Z.xt⟩
 refine .r [11,12,13]<|GA.Ix 14 5 E Z<|.r [15]<|GA.Lh 16 2 1 Z<|.r [17,18]<|GA.Ix 19 4 aa Z<|.r [20]<|GA.Lh 21 0 1 Z<|GA.Dn Z fun w Z=>RG.C0 (HL ac.rows ae.rows (Z.a 3) (Z.a 1)) Z fun w Z=>?_
 cases au:(ac.rows==ae.rows)
 ·exact .r 2<|.d<|.ct<|.s<|.g<|.r 1<|.d<|T.rt func50 results50 (.bool false) ⟨(AG (by grind [Ab,Kn])),Z.xt⟩
 exact .r 2<|.d<|.cf<|.sk<|.ib 1<|.g<|.r 1<|.it ((i:Int)+1)<|.r 1<|.d<|ab (i+1) _ _ AA (Z.to 0 [] 4) ⟨AB,(by grind [Kn])⟩ (by (simp only []; omega))
set_option maxRecDepth 100000 in
set_option maxHeartbeats 4000000 in
theorem Js (n:List Tag) (h1:RepS w F a1 n1 c1 n) (p0:FW n):Calls Tryz.prog 92 [.slice a1 n1 c1].toArray w (Am fun rv w'=>rv=.string (bs (GG n))∧Ext w w'):=by
 cases h1.len
 refine goT func92 ?_
 have Z:=(St.i0 F w).p h1
 have ai:=h1.max
 refine .s<|.g<|.r 1<|.d<|.s<|.s<|.g<|.r 1<|RG.C0 (DV n (Z.a 0)) Z fun w Z=>?_
 cases aj:(At n)
 ·exact .r 1<|.d<|.ct<|.s<|.g<|.r 1<|.d<|T.rt func92 results92 (.string (bs [])) ⟨(congrArg (fun s=>Value.string (bs s)) (by rw [R0 ‹_›])),Z.xt⟩
 refine .r 1<|.d<|.cf<|.sk<|.s<|.g<|RG.N0 Txt 0 Z fun af w Z=>.r 1<|.d<|.s<|.s<|.g<|.r 3<|.d<|.b 0<|T.Lp (([]:List Txt),af,(0:Nat),(0:Nat)) (fun (out,r_out,c_out,k)=>([(3,vS r_out out.length c_out),(10,.slice a1 n.length c1),(11,vI (n.length:Int)),(12,vI (k:Int))],[(0,.own 0 r_out 9 c_out out)],[],n.length - k,(k≤n.length)∧(out.length≤k)∧(out++(n.drop k).map tx1=n.map tx1))) [] Z ⟨AB,AD,AF⟩ ?_
 rintro ⟨out,r_out,c_out,k⟩ aq w Z ⟨ak,al,am⟩ ab
 refine .s<|.g<|.bp ((k:Int)< (n.length:Int)) (fun ac=>?_) (fun ac=>.d<|.s<|.cf<|.x 0 rfl<|.s<|.g<|.r 1<|RG.C0 (Km out [44] (Z.oa 0) (VH ‹_› AB p0) (by have:=p0.1; omega)) Z fun w Z=>.r 1<|.d<|T.rt func92 results92 (.string (bs (Lib.join (out.map Txt.s) [44]))) ⟨(congrArg (fun s=>Value.string (bs s)) (by (rw [PY ‹_› AB,Kp ‹_›]))),Z.xt⟩)
 exact .d<|.s<|.ct<|.sk<|.s<|.b 1<|.s<|.g<|gxb n k fun E aa ao ae=>RG.Ix 0 aa Z<|Z.el 0 aa fun Z=>RG.Lg 0 0 Z<|RG.Np Z fun ar w Z=>RG.Ss 0 Z fun w Z=>.d<|.g<|.r 2<|RG.Lb 0 Z<|RG.cat (t:=9) (s:=E.key) (u:=[61]) AA (by have q1:=p0.2 _ ‹_›; simp only [List.length_append,List.length_cons,List.length_nil]; omega)<|.r 1<|RG.Lb 0 Z<|RG.cat (t:=9) (s:=(E.key++[61])) (u:=E.val) AA (by have q1:=p0.2 _ ‹_›; simp only [List.length_append,List.length_cons,List.length_nil]; omega)<|RG.Nb 1 Z fun ax w Z=>RG.Ap (hs:=by exact (by have:=p0.1; omega)) 1 0 out (⟨((E.key++[61])++E.val)⟩:Txt) [] Z fun ag ah w Z=>.r 1<|.d<|.ib 1<|.g<|.it ((k:Int)+1)<|.r 1<|.d<|ab ((out++[(⟨((E.key++[61])++E.val)⟩:Txt)]),ag,ah,k+1) _ _ AA (Z.to 1 [] 1) ⟨AB,(by (simp; omega)),(by exact Rz ‹_› ‹_›)⟩ (by (simp only []; omega))
theorem GH (s:Sto) (f:List Cnd) (from_:Int) (to_:Int) (h1:RepS w F a1 n1 c1 s.idx.names) (h2:RepS w F a2 n2 c2 s.idx.AY) (h3:RepS w F a3 n3 c3 s.parts) (h4:RepS w F a4 n4 c4 s.mem) (h5:RepS w F a5 n5 c5 f) (p0:SD s):Calls Tryz.prog 51 [.agg #[.slice a1 n1 c1,.slice a2 n2 c2,.slice a3 n3 c3,.slice a4 n4 c4],.slice a5 n5 c5,.int .i64 from_,.int .i64 to_].toArray w (Am fun rv w'=>VL (ge w.heap.size) w' (Bj s f from_ to_:List Hit) rv∧Ext w w'):=by
 cases h1.len
 cases h2.len
 cases h3.len
 cases h4.len
 cases h5.len
 refine goT func51 ?_
 have Z:=(((((St.i0 F w).p h1).p h2).p h3).p h4).p h5
 have au:=h1.max
 have ay:=h3.max
 have az:=h4.max
 refine .s<|.g<|RG.Np Z fun ak w Z=>.r 1<|.d<|.s<|.g<|RG.N0 Hit 0 Z fun al w Z=>.r 1<|.d<|.s<|.s<|.g<|RG.Ln 1 Z<|RG.C0 (DK s (Z.a 4) (Z.a 3) (Z.a 2) (Z.a 1) p0) Z fun w Z=>?_
 cases aB:(Ad s)
 ·exact .r 1<|.d<|.ct<|.s<|.g<|.r 2<|.d<|T.Rt func51 results51 ⟨Z.rM 0 ([]:List Hit) (by rw [VG (.inl ‹_›)]),Z.xt⟩
 refine .r 1<|.d<|.cf<|.sk<|.s<|.s<|.g<|.r 1<|RG.Ln 1 Z<|.r 1<|RG.CL (JF s.idx f (Z.a 4) (Z.a 3) (Z.a 0) p0.ix p0.nd) Z fun am ao w Z=>?_
 have aC:=Z.mf 0 (BJ (Bz f) 0 s.idx.names)
 refine .r 2<|.d<|.b 0<|T.Lp (([]:List Hit),al,(0:Nat),(0:Nat)) (fun (out,r_out,c_out,k)=>([(2,vI from_),(3,vI to_),(4,vP ak),(9,vS r_out out.length c_out),(21,.slice am ((BJ (Bz f) 0 s.idx.names).length) ao),(22,vI (((BJ (Bz f) 0 s.idx.names).length):Int)),(23,vI (k:Int))],[(0,.own 0 r_out 125 c_out out)],[],(BJ (Bz f) 0 s.idx.names).length - k,(k≤(BJ (Bz f) 0 s.idx.names).length)∧(out.length≤k)∧(out++((BJ (Bz f) 0 s.idx.names).drop k).flatMap (Di s from_ to_)=NT (Bz f) s from_ to_))) [] Z ⟨AB,AD,AF⟩ ?_
 rintro ⟨out,r_out,c_out,k⟩ aN w Z ⟨aD,aE,aF⟩ aa
 have aG:=Z.mo 0 out
 refine .s<|.g<|.bp ((k:Int)< (((BJ (Bz f) 0 s.idx.names).length):Int)) (fun ag=>?_) (fun ag=>.d<|.s<|.cf<|.x 0 rfl<|.s<|.g<|.r 2<|.d<|T.Rt func51 results51 ⟨Z.rM 0 out (by exact (Tl p0 ‹_› ‹_› AB).symm),Z.xt⟩)
 refine .d<|.s<|.ct<|.sk<|.s<|.b 1<|.s<|.g<|gxb (h:=AB) (BJ (Bz f) 0 s.idx.names) k fun E ab aH ai=>RG.Ix 0 ab Z<|Z.el 0 ab fun Z=>RG.Lh 0 0 Z<|.r 1<|.d<|.s<|.g<|RG.Ln 1 Z<|.r 1<|RG.CL (Ci s E (Z.a 6) (Z.a 5) (Z.a 4) (Z.a 3) (StoK.of p0 ‹_›).part (StoK.of p0 ‹_›).row (by have:=p0.np; omega) (by have:=p0.nm2; omega)) Z fun aO aP w Z=>.r 2<|RG.CL (Jq (rowsOf s E) from_ to_ (Z.a 0) (Nat.le_trans (Rv p0 ‹_› _).len AB)) Z fun aQ aR w Z=>.r 1<|.d<|.s<|.g<|.r 2<|.bp ((((GL (rowsOf s E) from_ to_).length):Int) > 0) (fun ah=>?_) (fun ah=>.d<|.cf<|.sk<|.ib 1<|.g<|RG.int ((k:Int)+1) AA AB<|.r 1<|.d<|aa (out,r_out,c_out,k+1) _ _ AA (Z.to 0 [] 3) ⟨AB,AB,(by exact R2 p0 ‹_› ‹_› ‹_› ‹_›)⟩ (by (simp only []; omega)))
 exact .d<|.ct<|.g<|.r 3<|RG.Lb 1 Z<|.r 1<|RG.int (E - 1) AA (by (have q1:=D6 (by assumption:_∈BJ _ 0 s.idx.names); omega))<|gxm (h:=(by (have q1:=D6 (by assumption:_∈BJ _ 0 s.idx.names); omega))) s.idx.names ((E - 1).toNat) fun ae ac aj=>RG.Jx (hz:=(by (have q1:=D6 (by assumption:_∈BJ _ 0 s.idx.names); omega))) 8 (E - 1) ac Z<|Z.el 8 ac fun aS aT Z=>RG.Lh 0 0 Z<|RG.C0 (Js ae (Z.a 1) (p0.nm.sz _ ‹_›)) Z fun w Z=>.r 2<|RG.Nb 1 Z fun aU w Z=>RG.Ap (hs:=by exact (by have q1:=QH (Bz f) s.idx.names 0; have q2:=p0.nm.len; omega)) 0 0 out (⟨GG ae,GL (rowsOf s E) from_ to_⟩:Hit) [2] Z fun aq ar w Z=>.r 1<|.d<|.ib 1<|.g<|RG.int ((k:Int)+1) AA AB<|.r 1<|.d<|aa ((out++[(⟨GG ae,GL (rowsOf s E) from_ to_⟩:Hit)]),aq,ar,k+1) _ _ AA (Z.to 0 [] 5) ⟨AB,(by (simp; omega)),(by exact R1 p0 ‹_› ‹_› ‹_› ‹_› ‹_›)⟩ (by (simp only []; omega))
theorem Ck (a:Sto) (b:Sto) (h1:RepS w F a1 n1 c1 a.idx.names) (h2:RepS w F a2 n2 c2 a.idx.AY) (h3:RepS w F a3 n3 c3 a.parts) (h4:RepS w F a4 n4 c4 a.mem) (h5:RepS w F a5 n5 c5 b.idx.names) (h6:RepS w F a6 n6 c6 b.idx.AY) (h7:RepS w F a7 n7 c7 b.parts) (h8:RepS w F a8 n8 c8 b.mem) (p0:SD a) (p1:SD b):Calls Tryz.prog 29 [.agg #[.slice a1 n1 c1,.slice a2 n2 c2,.slice a3 n3 c3,.slice a4 n4 c4],.agg #[.slice a5 n5 c5,.slice a6 n6 c6,.slice a7 n7 c7,.slice a8 n8 c8]].toArray w (Am fun rv w'=>rv=.bool ((Bj a [] 0 99==Bj b [] 0 99))∧Ext w w'):=by
 cases h1.len
 cases h2.len
 cases h3.len
 cases h4.len
 cases h5.len
 cases h6.len
 cases h7.len
 cases h8.len
 refine goT func29 ?_
 have Z:=((((((((St.i0 F w).p h1).p h2).p h3).p h4).p h5).p h6).p h7).p h8
 exact .s<|.g<|RG.Np Z fun ai w Z=>RG.Np Z fun aj w Z=>.r 1<|.d<|.s<|T.Gd 3 Z fun w Z=>GA.Ln 0 1 Z<|GA.Ln 2 0 Z<|.go 1<|GE.CL (fun w Z=>GH a ([]:List Cnd) 0 99 (Z.a 7) (Z.a 6) (Z.a 5) (Z.a 4) Z.na (by exact p0)) Z fun ak al w Z=>GA.Dn Z fun w Z=>RG.CL (GH b ([]:List Cnd) 0 99 (Z.a 4) (Z.a 3) (Z.a 2) (Z.a 1) Z.na (by exact p1)) Z fun am ao w Z=>RG.C0 (LG (Bj a ([]:List Cnd) 0 99) (Bj b ([]:List Cnd) 0 99) (Z.a 1) (Z.a 0)) Z fun w Z=>.r 1<|.d<|T.rt func29 results29 (.bool ((Bj a ([]:List Cnd) 0 99)==(Bj b ([]:List Cnd) 0 99))) ⟨(AG AF),Z.xt⟩
end Go.Proofs.YtggnnidleedpaaaGreat
