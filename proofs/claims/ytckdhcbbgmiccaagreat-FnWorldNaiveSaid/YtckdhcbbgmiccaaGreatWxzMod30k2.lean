/- What asking computes, as plain functions, and its laws. -/
import Derived.Test.YtckdhcbbgmiccaaGreatWxzJnk2
import Derived.Test.YtckdhcbbgmiccaaGreatWxzW70
open Go.Proofs.Tryz
set_option linter.unusedVariables false
set_option linter.unusedSimpArgs false
namespace Go.Proofs.YtckdhcbbgmiccaaGreat
def Kq (v:Tag):Nat→List Tag→Int
 | _,[]=>-1
 | i,x::xs=>if v==x then (i:Int) else Kq v (i+1) xs
theorem TQ (v:Tag):∀ (l:List Tag) (i:Nat),has l v=decide (Kq v i l≥0):=by
 intro l
 induction l with
 | nil=>intro i; simp [has,Kq]
 | cons x xs ih =>
   intro i
   have:=ih (i+1)
   unfold has at this ⊢
   rw [List.any_cons,this]
   have e:Kq v i (x::xs)=if v==x then (i:Int) else Kq v (i+1) xs:=rfl
   rw [e]
   by_cases h:v=x
   ·subst h; simp
   ·have h1:(v==x)=false:=beq_eq_false_iff_ne.2 h
    have h2:(x==v)=false:=beq_eq_false_iff_ne.2 (fun e=>h e.symm)
    rw [h1,h2]
    simp
theorem L3 (a b:Hit):a=b↔a.name=b.name∧a.rows=b.rows:=by cases a; cases b; simp
theorem Pu {α:Type}{f:α→Bool}{l k Y:List α}{i:Nat}{x:α}(h:k++(l.drop i).filter f=Y) (hd:l.drop i=x::l.drop (i+1)) (hx:f x=true):(k++[x])++(l.drop (i+1)).filter f=Y:=by
 rw [hd,List.filter_cons,if_pos hx] at h
 rw [← h]
 simp
theorem Pv {α:Type}{f:α→Bool}{l k Y:List α}{i:Nat}{x:α}(h:k++(l.drop i).filter f=Y) (hd:l.drop i=x::l.drop (i+1)) (hx:f x=false):k++(l.drop (i+1)).filter f=Y:=by
 rw [hd,List.filter_cons,if_neg (by simp [hx])] at h
 exact h
theorem Rf {α:Type}{f:α→Bool}{l k Y:List α}{i:Nat}(h:k++(l.drop i).filter f=Y) (hi:l.length≤i):k=Y:=by
 rw [Ac hi] at h
 simpa using h
theorem TR {p:List Tag→Bool}{l:List (List Tag)}{k Y:List Int}{i:Nat}{x:List Tag}(h:k++BK p i (l.drop i)=Y) (hd:l.drop i=x::l.drop (i+1)) (hx:p x=true):(k++[(i:Int)+1])++BK p (i+1) (l.drop (i+1))=Y:=by
 rw [hd,BK,if_pos hx] at h
 rw [← h]
 simp
theorem TS {p:List Tag→Bool}{l:List (List Tag)}{k Y:List Int}{i:Nat}{x:List Tag}(h:k++BK p i (l.drop i)=Y) (hd:l.drop i=x::l.drop (i+1)) (hx:p x=false):k++BK p (i+1) (l.drop (i+1))=Y:=by
 rw [hd,BK,if_neg (by simp [hx])] at h
 exact h
theorem VX {p:List Tag→Bool}{l:List (List Tag)}{k Y:List Int}{i:Nat}(h:k++BK p i (l.drop i)=Y) (hi:l.length≤i):k=Y:=by
 rw [Ac hi,BK] at h
 simpa using h
theorem Rh (p:List Tag→Bool):∀ (l:List (List Tag)) (i:Nat),(BK p i l).length≤l.length:=by
 intro l
 induction l with
 | nil=>intro i; simp [BK]
 | cons n ns ih =>
   intro i
   have:=ih (i+1)
   unfold BK
   split <;> simp <;> omega
theorem VY {s:Sto}{lo hi:Int}{l:List Int}{i:Nat}{id:Int}{k Y:List Hit}(h:k++(l.drop i).flatMap (D6 s lo hi)=Y) (hd:l.drop i=id::l.drop (i+1)){c:List Row}(hc:c=MU (rowsOf s id) lo hi) (hl:(c.length:Int) > 0){n:List Tag}(hn:s.idx.names[(id - 1).toNat]? = some n) :
 (k++[⟨text n,c⟩])++(l.drop (i+1)).flatMap (D6 s lo hi)=Y:=by
 subst hc
 rw [hd,List.flatMap_cons] at h
 rw [← h]
 have:D6 s lo hi id=[⟨text n,MU (rowsOf s id) lo hi⟩]:=by
  unfold D6
  rw [if_pos AB,List.getD_eq_getElem?_getD,hn]
  rfl
 rw [this]
 simp
theorem VZ {s:Sto}{lo hi:Int}{l:List Int}{i:Nat}{id:Int}{k Y:List Hit}(h:k++(l.drop i).flatMap (D6 s lo hi)=Y) (hd:l.drop i=id::l.drop (i+1)){c:List Row}(hc:c=MU (rowsOf s id) lo hi) (hl:¬ (c.length:Int) > 0) :
 k++(l.drop (i+1)).flatMap (D6 s lo hi)=Y:=by
 subst hc
 rw [hd,List.flatMap_cons] at h
 rw [← h]
 have:D6 s lo hi id=[]:=by
  unfold D6
  rw [if_neg AB]
 rw [this]
 simp
theorem XB {s:Sto}{lo hi:Int}{l:List Int}{i:Nat}{k Y:List Hit}(h:k++(l.drop i).flatMap (D6 s lo hi)=Y) (hi2:l.length≤i):k=Y:=by
 rw [Ac hi2] at h
 simpa using h
theorem Rj {f:List Cnd}(h:f.all (fun c=>Be c.tag)=false):false=Dk f:=by unfold Dk; rw [h]; rfl
theorem Px {f:List Cnd}(h:f.all (fun c=>Be c.tag)=true):decide ((f.length:Int)≤3)=Dk f:=by unfold Dk; rw [h,Bool.true_and,decide_eq_decide]; omega
theorem XC {s:Sto}{f:List Cnd}{lo hi:Int}(h:Ad s=false∨Dk f=false):By s f lo hi=[]:=by
 unfold By
 rcases h with h | h <;> rw [h] <;> simp
def tx1 (t:Tag):Txt:=⟨IU t⟩
theorem Py:∀ (n:List Tag) (i:Nat),0< i→E1 i n=Lib.joinTail [44] (n.map IU):=by
 intro n
 induction n with
 | nil=>intro i _; rfl
 | cons t ts ih =>
   intro i hi
   unfold E1
   rw [if_pos hi,ih (i+1) AB]
   simp [Lib.joinTail]
theorem Rk (n:List Tag):Lib.join ((n.map tx1).map Txt.s) [44]=text n:=by
 have e:(n.map tx1).map Txt.s=n.map IU:=by rw [List.map_map]; rfl
 rw [e]
 cases n with
 | nil=>rfl
 | cons t ts =>
   rw [List.map_cons,Lib.join_cons]
   unfold text E1
   rw [Py ts 1 AB]
   simp
theorem Rl:∀ (n:List Tag) (i:Nat),(∀ t∈n,t.key.length≤1000∧t.val.length≤1000)→(E1 i n).length≤2002 * n.length:=by
 intro n
 induction n with
 | nil=>intro i _; simp [E1]
 | cons t ts ih =>
   intro i h
   have h1:=ih (i+1) (fun x hx=>h x (by simp [hx]))
   have h2:=h t AD
   unfold E1 IU
   simp only [List.length_append,List.length_cons,List.length_nil]
   split <;> simp only [List.length_cons,List.length_nil] <;> omega
theorem Qs {n:List Tag}{k:List Txt}{i:Nat}(h:k++(n.drop i).map tx1=n.map tx1) (hi:n.length≤i):Lib.join (k.map Txt.s) [44]=text n:=by
 rw [Ac hi,List.map_nil,List.append_nil] at h
 rw [h,Rk]
theorem XD {n:List Tag}{k:List Txt}{i:Nat}(h:k++(n.drop i).map tx1=n.map tx1) (hi:n.length≤i) (hn:GV n):(Lib.join (k.map Txt.s) [44]).length≤100000000000:=by
 rw [Qs h hi]
 have:=Rl n 0 hn.2
 have h2:=hn.1
 unfold text
 omega
theorem Ta {n:List Tag}{k:List Txt}{i:Nat}{t:Tag}(h:k++(n.drop i).map tx1=n.map tx1) (hd:n.drop i=t::n.drop (i+1)):(k++[⟨t.key++[61]++t.val⟩])++(n.drop (i+1)).map tx1=n.map tx1:=by
 rw [hd,List.map_cons] at h
 rw [← h,List.append_assoc]
 rfl
theorem Tb {n:List Tag}(h:As n=false):HB n=[]:=by unfold HB; rw [if_neg (by simp [h])]
theorem Tc {p:List Tag→Bool}{s:Sto}(hs:SD s) (hk:Ad s=true){lo hi:Int}{i:Nat}{id:Int}{k Y:List Hit}(h:k++((BK p 0 s.idx.names).drop i).flatMap (D6 s lo hi)=Y) (hd:(BK p 0 s.idx.names).drop i=id::(BK p 0 s.idx.names).drop (i+1)) (hl:((HH (rowsOf s id) lo hi).length:Int) > 0){n:List Tag}(hn:s.idx.names[(id - 1).toNat]? = some n) :
 (k++[⟨HB n,HH (rowsOf s id) lo hi⟩])++((BK p 0 s.idx.names).drop (i+1)).flatMap (D6 s lo hi)=Y:=by
 have hid:=ER (p:=p) (l:=s.idx.names) (x:=id) (List.mem_of_mem_drop (by rw [hd]; simp))
 rw [L4 (hs.nm.ok n (AV hn))]
 exact VY h hd (KA hs hk hid.1 hid.2 lo hi) hl hn
theorem Td {p:List Tag→Bool}{s:Sto}(hs:SD s) (hk:Ad s=true){lo hi:Int}{i:Nat}{id:Int}{k Y:List Hit}(h:k++((BK p 0 s.idx.names).drop i).flatMap (D6 s lo hi)=Y) (hd:(BK p 0 s.idx.names).drop i=id::(BK p 0 s.idx.names).drop (i+1)) (hl:¬ ((HH (rowsOf s id) lo hi).length:Int) > 0) :
 k++((BK p 0 s.idx.names).drop (i+1)).flatMap (D6 s lo hi)=Y:=by
 have hid:=ER (p:=p) (l:=s.idx.names) (x:=id) (List.mem_of_mem_drop (by rw [hd]; simp))
 exact VZ h hd (KA hs hk hid.1 hid.2 lo hi) hl
theorem Va {s:Sto}{f:List Cnd}(hs:SD s) (hk:Ad s=true){lo hi:Int}{i:Nat}{k:List Hit}(h:k++((BK (CH f) 0 s.idx.names).drop i).flatMap (D6 s lo hi)=Om (CH f) s lo hi) (hi2:(BK (CH f) 0 s.idx.names).length≤i):By s f lo hi=k:=by
 rw [TZ hs hk]
 exact (XB h hi2).symm
end Go.Proofs.YtckdhcbbgmiccaaGreat
namespace Go.Proofs.YtckdhcbbgmiccaaGreat
set_option maxRecDepth 100000
set_option maxHeartbeats 4000000
variable {w:World} {F:Nat→Prop} {a1 a2 a3:Option Addr} {n1 c1 n2 c2 n3 c3:Nat}
theorem Kr (b:List Row) (from_:Int) (to_:Int) (h1:RepS w F a1 n1 c1 b) (p0:b.length≤1000000):Calls Tryz.prog 83 [.slice a1 n1 c1,.int .i64 from_,.int .i64 to_].toArray w (Aj fun rv w'=>VL (ge w.heap.size) w' (HH b from_ to_:List Row) rv∧Ext w w'):=by
 cases h1.len
 refine goT func83 ?_
 have Z:=(St.i0 F w).p h1
 refine .s<|.g<|.r 1<|.d<|.s<|.g<|RG.N0 Row 0 Z fun ag w Z=>.r 1<|.d<|.s<|.s<|.g<|.r 1<|RG.C0 (DS b (Z.a 0)) Z fun w Z=>?_
 cases ak:(BA b)
 ·exact .r 1<|.d<|.ct<|.s<|.g<|.r 2<|.d<|T.Rt func83 results83 ⟨Z.rM 0 ([]:List Row) (by unfold HH; (rw [if_neg (by simp [*])]; done)),Z.xt⟩
 refine .r 1<|.d<|.cf<|.sk<|.s<|.s<|.g<|.r 3<|.d<|.b 0<|T.Lp (([]:List Row),ag,(0:Nat),(0:Nat)) (fun (out,r_out,c_out,k)=>([(1,vI from_),(2,vI to_),(7,vS r_out out.length c_out),(15,.slice a1 b.length c1),(16,vI (b.length:Int)),(17,vI (k:Int))],[(0,.own 0 r_out 44 c_out out)],[],b.length - k,(k≤b.length)∧(out.length≤k)∧(out++(b.drop k).filter (fun r=>inR r.t from_ to_)=MU b from_ to_))) [] Z ⟨AB,AD,AF⟩ ?_
 rintro ⟨out,r_out,c_out,k⟩ ay w Z ⟨al,am,ao⟩ E
 refine .s<|.g<|.bp ((k:Int)< (b.length:Int)) (fun ae=>?_) (fun ae=>.d<|.s<|.cf<|.x 0 rfl<|.s<|.g<|.r 2<|.d<|T.Rt func83 results83 ⟨Z.rM 0 out (by unfold HH; (rw [if_pos ‹_›]; exact Rf ‹_› AB)),Z.xt⟩)
 refine .d<|.s<|.ct<|.sk<|.s<|.b 1<|.s<|.g<|gxd b k fun ab aa aq=>RG.Ix 0 aa Z<|Z.el 0 aa fun Z=>RG.Lg 0 0 Z<|RG.Np Z fun az w Z=>RG.Ss 0 Z fun w Z=>.d<|.s<|.g<|.r 1<|RG.Lb 0 Z<|.r 2<|RG.C0 (Bx ab.t from_ to_ (F:=all)) Z fun w Z=>?_
 cases ac:(inR ab.t from_ to_)
 ·exact .d<|.cf<|.sk<|.ib 1<|.g<|.it ((k:Int)+1)<|.r 1<|.d<|E (out,r_out,c_out,k+1) _ _ AA (Z.to 1 [] 1) ⟨AB,AB,(by exact Pv ‹_› ‹_› ‹_›)⟩ (by (simp only []; omega))
 exact .d<|.ct<|.g<|.r 1<|RG.Ln 0 Z<|RG.Nb 1 Z fun aA w Z=>RG.Ap 1 0 out ab [] Z fun ah ai w Z=>.r 1<|.d<|.ib 1<|.g<|.it ((k:Int)+1)<|.r 1<|.d<|E ((out++[ab]),ah,ai,k+1) _ _ AA (Z.to 1 [] 1) ⟨AB,(by (simp; omega)),(by exact Pu ‹_› ‹_› ‹_›)⟩ (by (simp only []; omega))
theorem Ks (f:List Cnd) (h1:RepS w F a1 n1 c1 f)  : Calls Tryz.prog 164 [.slice a1 n1 c1].toArray w (Aj fun rv w'=>rv=.bool (Dk f)∧Ext w w'):=by
 cases h1.len
 refine goT func164 ?_
 have Z:=(St.i0 F w).p h1
 have af:=h1.max
 refine .s<|.g<|.r 1<|.d<|.s<|.s<|.g<|.r 3<|.d<|.b 0<|T.Lp (0:Nat) (fun k=>([(0,.slice a1 f.length c1),(5,.slice a1 f.length c1),(6,vI (f.length:Int)),(7,vI (k:Int))],[],[],f.length - k,(k≤f.length)∧((f.drop k).all (fun c=>Be c.tag)=f.all (fun c=>Be c.tag)))) [] Z ⟨AD,AD⟩ ?_
 rintro k ak w Z ⟨ag,ah⟩ aa
 refine .s<|.g<|.bp ((k:Int)< (f.length:Int)) (fun ab=>?_) (fun ab=>.d<|.s<|.cf<|.x 0 rfl<|.s<|.g<|.r 4<|.d<|T.rt func164 results164 (.bool (decide ((f.length:Int)≤3))) ⟨(AG (by exact Px (Ij ‹_› AB))),Z.xt⟩)
 refine .d<|.s<|.ct<|.sk<|.s<|.b 1<|.s<|.g<|gxd f k fun ac E ai=>RG.Ix 0 E Z<|Z.el 0 E fun Z=>RG.Lg 0 0 Z<|RG.Np Z fun al w Z=>RG.Ss 0 Z fun w Z=>.d<|.s<|.g<|.r 1<|RG.Ln 0 Z<|RG.C0 (JA ac.tag (F:=all)) Z fun w Z=>?_
 cases aj:(Be ac.tag)
 ·exact .r 1<|.d<|.ct<|.s<|.g<|.r 1<|.d<|T.rt func164 results164 (.bool false) ⟨(AG (by exact Rj (Hb ‹_› ‹_› ‹_›))),Z.xt⟩
 exact .r 1<|.d<|.cf<|.sk<|.ib 1<|.g<|.it ((k:Int)+1)<|.r 1<|.d<|aa (k+1) _ _ AA (Z.to 1 [] 1) ⟨AB,(by exact Gy ‹_› ‹_› ‹_›)⟩ (by (simp only []; omega))
theorem ES (s:List Tag) (v:Tag) (h1:RepS w F a1 n1 c1 s)  : Calls Tryz.prog 187 [.slice a1 n1 c1,.agg #[.string (bs v.key),.string (bs v.val)]].toArray w (Aj fun rv w'=>rv=.int .i64 (Kq v 0 s)∧Ext w w'):=by
 cases h1.len
 refine goT func187 ?_
 have Z:=(St.i0 F w).p h1
 have ag:=h1.max
 refine .s<|.g<|RG.Np Z fun af w Z=>.r 1<|.d<|.s<|.s<|.g<|.r 3<|.d<|.b 0<|T.Lp (0:Nat) (fun k=>([(0,.slice a1 s.length c1),(3,vP af),(7,vI (s.length:Int)),(8,vI (k:Int))],[],[],s.length - k,(k≤s.length)∧(Kq v k (s.drop k)=Kq v 0 s))) [] Z ⟨AD,AD⟩ ?_
 rintro k al w Z ⟨ah,ai⟩ aa
 refine .s<|.g<|.bp ((k:Int)< (s.length:Int)) (fun ab=>?_) (fun ab=>.d<|.s<|.cf<|.x 0 rfl<|.s<|.g<|.r 1<|.d<|T.rt func187 results187 (vI (-1)) ⟨(congrArg (Value.int .i64) (by grind [Kq,Ac])),Z.xt⟩)
 refine .d<|.s<|.ct<|.sk<|.s<|.b 1<|.s<|.g<|.r 2<|.d<|.s<|T.Gd 5 Z fun w Z=>GA.Ln 0 0 Z<|.r [1,2]<|gxd s k fun ac E aj=>GA.Ix 3 0 E Z<|Z.el 0 E fun Z=>GA.Lg 4 0 0 Z<|GA.Dn Z fun w Z=>RG.OJ (t:=61) (x:=v) (y:=ac) AA AA ?_
 cases ak:(v==ac)
 ·exact .d<|.cf<|.sk<|.ib 1<|.g<|.it ((k:Int)+1)<|.r 1<|.d<|aa (k+1) _ _ AA (Z.to 0 [] 1) ⟨AB,(by grind [Kq])⟩ (by (simp only []; omega))
 exact .d<|.ct<|.s<|.g<|.r 2<|.d<|T.rt func187 results187 (vI (k:Int)) ⟨(congrArg (Value.int .i64) (by grind [Kq,Ac])),Z.xt⟩
theorem Du (s:List Tag) (v:Tag) (h1:RepS w F a1 n1 c1 s)  : Calls Tryz.prog 165 [.slice a1 n1 c1,.agg #[.string (bs v.key),.string (bs v.val)]].toArray w (Aj fun rv w'=>rv=.bool (has s v)∧Ext w w'):=by
 cases h1.len
 refine goT func165 ?_
 have Z:=(St.i0 F w).p h1
 exact .s<|.g<|RG.Np Z fun aa w Z=>.r 1<|.d<|.s<|.g<|.r 1<|RG.Ln 0 Z<|RG.C0 (ES s v (Z.a 0)) Z fun w Z=>.r 2<|.d<|T.rt func165 results165 (.bool (decide (Kq v 0 s≥0))) ⟨(AG (by exact (TQ v s 0).symm)),Z.xt⟩
theorem JQ (f:List Cnd) (n:List Tag) (h1:RepS w F a1 n1 c1 f) (h2:RepS w F a2 n2 c2 n) (p0:n.length≤1000):Calls Tryz.prog 136 [.slice a1 n1 c1,.slice a2 n2 c2].toArray w (Aj fun rv w'=>rv=.bool (CH f n)∧Ext w w'):=by
 cases h1.len
 cases h2.len
 refine goT func136 ?_
 have Z:=((St.i0 F w).p h1).p h2
 have af:=h1.max
 refine .s<|.g<|.r 1<|.d<|.s<|.s<|.g<|.r 1<|RG.C0 (Ks f (Z.a 1)) Z fun w Z=>?_
 cases ah:(Dk f)
 ·exact .r 6<|.d<|.ct<|.s<|.g<|.r 1<|.d<|T.rt func136 results136 (.bool false) ⟨(AG (by unfold CH; (simp [*]; done))),Z.xt⟩
 refine .r 3<|RG.C0 (Ds n (Z.a 0)) Z fun w Z=>?_
 cases ai:(As n)
 ·exact .r 2<|.d<|.ct<|.s<|.g<|.r 1<|.d<|T.rt func136 results136 (.bool false) ⟨(AG (by unfold CH; (simp [*]; done))),Z.xt⟩
 refine .r 2<|.d<|.cf<|.sk<|.s<|.s<|.g<|.r 3<|.d<|.b 0<|T.Lp (0:Nat) (fun k=>([(1,.slice a2 n.length c2),(15,.slice a1 f.length c1),(16,vI (f.length:Int)),(17,vI (k:Int))],[],[],f.length - k,(k≤f.length)∧(Dk f=true)∧(As n=true)∧((f.drop k).all (fun c=>has n c.tag != c.no)=fits f n))) [] Z ⟨AB,AB,AB,AF⟩ ?_
 rintro k ar w Z ⟨aj,ak,al,am⟩ ab
 refine .s<|.g<|.bp ((k:Int)< (f.length:Int)) (fun ac=>?_) (fun ac=>.d<|.s<|.cf<|.x 0 rfl<|.s<|.g<|.r 1<|.d<|T.rt func136 results136 (.bool true) ⟨(AG (by unfold CH; rw [Ij (f:=fun c:Cnd=>has n c.tag != c.no) (by assumption:(f.drop k).all _=fits f n) AB]; simp [*])),Z.xt⟩)
 refine .d<|.s<|.ct<|.sk<|.s<|.b 1<|.s<|.g<|gxd f k fun E aa ao=>RG.Ix 1 aa Z<|Z.el 1 aa fun Z=>RG.Lg 0 0 Z<|RG.Np Z fun ax w Z=>RG.Ss 0 Z fun w Z=>.d<|.s<|T.Gd 6 Z fun w Z=>.r [0,1]<|GA.Ln 2 0 Z<|GA.C0 3 Z (fun w Z=>Du n E.tag (Z.a 1))<|.r [4]<|GA.Lb 5 0 Z<|GA.Dn Z fun w Z=>RG.eqv (v:=.bool ((has n E.tag)==E.no)) (v':=.bool ((has n E.tag)==E.no)) AA AF ?_
 cases aq:((has n E.tag)==E.no)
 ·exact .d<|.cf<|.sk<|.ib 1<|.g<|.it ((k:Int)+1)<|.r 1<|.d<|ab (k+1) _ _ AA (Z.to 1 [] 1) ⟨AB,‹_›,‹_›,(by exact Gy ‹_› ‹_› (by simp_all))⟩ (by (simp only []; omega))
 exact .d<|.ct<|.s<|.g<|.r 1<|.d<|T.rt func136 results136 (.bool false) ⟨(AG (by unfold CH; (rw [Hb (f:=fun c:Cnd=>has n c.tag != c.no) (by assumption:(f.drop k).all _=fits f n) ‹_› (by simp_all)]; simp))),Z.xt⟩
theorem KB (ix:Idx) (f:List Cnd) (h1:RepS w F a1 n1 c1 ix.names) (h2:RepS w F a2 n2 c2 ix.AY) (h3:RepS w F a3 n3 c3 f) (p0:IxI ix) (p1:NsD ix.names):Calls Tryz.prog 82 [.agg #[.slice a1 n1 c1,.slice a2 n2 c2],.slice a3 n3 c3].toArray w (Aj fun rv w'=>VL (ge w.heap.size) w' (BK (CH f) 0 ix.names:List Int) rv∧Ext w w'):=by
 cases h1.len
 cases h2.len
 cases h3.len
 refine goT func82 ?_
 have Z:=(((St.i0 F w).p h1).p h2).p h3
 have aj:=h1.max
 refine .s<|.g<|RG.Np Z fun ay w Z=>.r 1<|.d<|.s<|.g<|RG.N0 Int 0 Z fun ag w Z=>.r 1<|.d<|.s<|.s<|.g<|RG.Ln 1 Z<|RG.C0 (Hg ix (Z.a 2) (Z.a 1) p0 p1) Z fun w Z=>.r 1<|.d<|.cf<|.sk<|.s<|.s<|.g<|.r 1<|RG.Lb 1 Z<|.r 2<|.d<|.b 0<|T.Lp (([]:List Int),ag,(0:Nat),(0:Nat)) (fun (out,r_out,c_out,k)=>([(1,.slice a3 f.length c3),(5,vS r_out out.length c_out),(14,.slice a1 ix.names.length c1),(15,vI (ix.names.length:Int)),(16,vI (k:Int))],[(0,.own 0 r_out 3 c_out out)],[],ix.names.length - k,(k≤ix.names.length)∧(out.length≤k)∧(out++BK (CH f) k (ix.names.drop k)=BK (CH f) 0 ix.names))) [] Z ⟨AB,AD,AF⟩ ?_
 rintro ⟨out,r_out,c_out,k⟩ az w Z ⟨am,ao,aq⟩ E
 refine .s<|.g<|.bp ((k:Int)< (ix.names.length:Int)) (fun ab=>?_) (fun ab=>.d<|.s<|.cf<|.x 0 rfl<|.s<|.g<|.r 2<|.d<|T.Rt func82 results82 ⟨Z.rM 0 out (by exact VX ‹_› AB),Z.xt⟩)
 refine .d<|.s<|.ct<|.sk<|.s<|.b 1<|.s<|.g<|.r 1<|gxb ix.names k fun ac aa ar af=>RG.Ix 2 aa Z<|Z.el 2 aa fun aA aB Z=>RG.Lh 0 0 Z<|.r 2<|.d<|.s<|.g<|.r 2<|RG.C0 (JQ f ac (Z.a 2) (Z.a 1) (by have q1:=(p0.nm.sz _ ‹_›).1; omega)) Z fun w Z=>?_
 cases ax:(CH f ac)
 ·exact .d<|.cf<|.sk<|.ib 1<|.g<|RG.int ((k:Int)+1) AA (by have q1:=p0.nm.len; omega)<|.r 1<|.d<|E (out,r_out,c_out,k+1) _ _ AA (Z.to 0 [] 2) ⟨AB,AB,(by exact TS ‹_› ‹_› ‹_›)⟩ (by (simp only []; omega))
 exact .d<|.ct<|.g<|.r 2<|RG.int ((k:Int)+1) AA (by have q1:=p0.nm.len; omega)<|RG.Nb 1 Z fun aC w Z=>RG.Ap (hs:=by exact (by have q1:=p0.nm.len; omega)) 0 0 out ((k:Int)+1) [] Z fun ah ai w Z=>.r 1<|.d<|.ib 1<|.g<|RG.int ((k:Int)+1) AA (by have q1:=p0.nm.len; omega)<|.r 1<|.d<|E ((out++[(k:Int)+1]),ah,ai,k+1) _ _ AA (Z.to 0 [] 2) ⟨AB,(by (simp; omega)),(by exact TR ‹_› ‹_› ‹_›)⟩ (by (simp only []; omega))
end Go.Proofs.YtckdhcbbgmiccaaGreat
namespace Go.Proofs.YtckdhcbbgmiccaaGreat
set_option maxRecDepth 100000
set_option maxHeartbeats 4000000
variable {w:World} {F:Nat→Prop} {a1 a2 a3 a4 a5 a6 a7 a8:Option Addr} {n1 c1 n2 c2 n3 c3 n4 c4 n5 c5 n6 c6 n7 c7 n8 c8:Nat}
theorem MV (a:List Hit) (b:List Hit) (h1:RepS w F a1 n1 c1 a) (h2:RepS w F a2 n2 c2 b)  : Calls Tryz.prog 39 [.slice a1 n1 c1,.slice a2 n2 c2].toArray w (Aj fun rv w'=>rv=.bool ((a==b))∧Ext w w'):=by
 cases h1.len
 cases h2.len
 refine goT func39 ?_
 have Z:=((St.i0 F w).p h1).p h2
 have aj:=h1.max
 refine .s<|.g<|.r 1<|.d<|.s<|.s<|.g<|.r 4<|.ne (a.length:Int) (b.length:Int) (fun af=>.d<|.ct<|.s<|.g<|.r 1<|.d<|T.rt func39 results39 (.bool false) ⟨(AG (by grind [Ac,L3])),Z.xt⟩) fun af=>.d<|.cf<|.sk<|.s<|.s<|.g<|.r 1<|.d<|.b 0<|T.Lp (0:Nat) (fun i=>([(0,.slice a1 a.length c1),(1,.slice a2 b.length c2),(5,vI (i:Int))],[],[],a.length - i,(i≤a.length)∧(a.drop i=b.drop i↔a=b))) [] Z ⟨AD,AD⟩ ?_
 rintro i ay w Z ⟨al,am⟩ ab
 refine .s<|.s<|.g<|.r 3<|.bp ((i:Int)< (a.length:Int)) (fun ag=>?_) (fun ag=>.d<|.cf<|.x 0 rfl<|.s<|.g<|.r 1<|.d<|T.rt func39 results39 (.bool true) ⟨(AG (by grind [Ac,L3])),Z.xt⟩)
 refine .d<|.ct<|.sk<|.s<|.b 1<|.s<|T.Gd 22 Z fun w Z=>.r [0,1]<|gxd a i fun ac E ao=>GA.Ix 2 1 E Z<|.r [3]<|Z.el 1 E fun az aA Z=>GA.Lh 4 0 0 Z<|.r [5,6]<|gxd b i fun ae aa aq=>GA.Ix 7 2 aa Z<|.r [8]<|Z.el 2 aa fun aB aC Z=>GA.Lh 9 0 0 Z<|GA.eqv (i:=10) (v:=.bool (!(ac.name==ae.name))) AA (Uo ac.name ae.name) ?_
 cases ar:(ac.name==ae.name)
 ·exact .r [11]<|GA.Sk Z fun w Z=>.r 3<|.d<|.ct<|.s<|.g<|.r 1<|.d<|T.rt func39 results39 (.bool false) ⟨(AG (by grind [Ac,L3])),Z.xt⟩
 refine .r [11,12,13]<|GA.Ix 14 5 E Z<|.r [15]<|GA.Lh 16 2 1 Z<|.r [17,18]<|GA.Ix 19 4 aa Z<|.r [20]<|GA.Lh 21 0 1 Z<|GA.Dn Z fun w Z=>RG.C0 (IW ac.rows ae.rows (Z.a 3) (Z.a 1)) Z fun w Z=>?_
 cases ax:(ac.rows==ae.rows)
 ·exact .r 2<|.d<|.ct<|.s<|.g<|.r 1<|.d<|T.rt func39 results39 (.bool false) ⟨(AG (by grind [Ac,L3])),Z.xt⟩
 exact .r 2<|.d<|.cf<|.sk<|.ib 1<|.g<|.r 1<|.it ((i:Int)+1)<|.r 1<|.d<|ab (i+1) _ _ AA (Z.to 0 [] 4) ⟨AB,(by grind [L3])⟩ (by (simp only []; omega))
set_option maxRecDepth 100000 in
set_option maxHeartbeats 4000000 in
theorem Kt (n:List Tag) (h1:RepS w F a1 n1 c1 n) (p0:GV n):Calls Tryz.prog 84 [.slice a1 n1 c1].toArray w (Aj fun rv w'=>rv=.string (bs (HB n))∧Ext w w'):=by
 cases h1.len
 refine goT func84 ?_
 have Z:=(St.i0 F w).p h1
 have ai:=h1.max
 refine .s<|.g<|.r 1<|.d<|.s<|.s<|.g<|.r 1<|RG.C0 (Ds n (Z.a 0)) Z fun w Z=>?_
 cases aj:(As n)
 ·exact .r 1<|.d<|.ct<|.s<|.g<|.r 1<|.d<|T.rt func84 results84 (.string (bs [])) ⟨(congrArg (fun s=>Value.string (bs s)) (by rw [Tb ‹_›])),Z.xt⟩
 refine .r 1<|.d<|.cf<|.sk<|.s<|.g<|RG.N0 Txt 0 Z fun af w Z=>.r 1<|.d<|.s<|.s<|.g<|.r 3<|.d<|.b 0<|T.Lp (([]:List Txt),af,(0:Nat),(0:Nat)) (fun (out,r_out,c_out,k)=>([(3,vS r_out out.length c_out),(10,.slice a1 n.length c1),(11,vI (n.length:Int)),(12,vI (k:Int))],[(0,.own 0 r_out 9 c_out out)],[],n.length - k,(k≤n.length)∧(out.length≤k)∧(out++(n.drop k).map tx1=n.map tx1))) [] Z ⟨AB,AD,AF⟩ ?_
 rintro ⟨out,r_out,c_out,k⟩ aq w Z ⟨ak,al,am⟩ ab
 refine .s<|.g<|.bp ((k:Int)< (n.length:Int)) (fun ac=>?_) (fun ac=>.d<|.s<|.cf<|.x 0 rfl<|.s<|.g<|.r 1<|RG.C0 (L2 out [44] (Z.oa 0) (XD ‹_› AB p0) (by have:=p0.1; omega)) Z fun w Z=>.r 1<|.d<|T.rt func84 results84 (.string (bs (Lib.join (out.map Txt.s) [44]))) ⟨(congrArg (fun s=>Value.string (bs s)) (by (rw [Qs ‹_› AB,L4 ‹_›]))),Z.xt⟩)
 exact .d<|.s<|.ct<|.sk<|.s<|.b 1<|.s<|.g<|gxb n k fun E aa ao ae=>RG.Ix 0 aa Z<|Z.el 0 aa fun Z=>RG.Lg 0 0 Z<|RG.Np Z fun ar w Z=>RG.Ss 0 Z fun w Z=>.d<|.g<|.r 2<|RG.Lb 0 Z<|RG.cat (t:=9) (s:=E.key) (u:=[61]) AA (by have q1:=p0.2 _ ‹_›; simp only [List.length_append,List.length_cons,List.length_nil]; omega)<|.r 1<|RG.Lb 0 Z<|RG.cat (t:=9) (s:=(E.key++[61])) (u:=E.val) AA (by have q1:=p0.2 _ ‹_›; simp only [List.length_append,List.length_cons,List.length_nil]; omega)<|RG.Nb 1 Z fun ay w Z=>RG.Ap (hs:=by exact (by have:=p0.1; omega)) 1 0 out (⟨((E.key++[61])++E.val)⟩:Txt) [] Z fun ag ah w Z=>.r 1<|.d<|.ib 1<|.g<|.it ((k:Int)+1)<|.r 1<|.d<|ab ((out++[(⟨((E.key++[61])++E.val)⟩:Txt)]),ag,ah,k+1) _ _ AA (Z.to 1 [] 1) ⟨AB,(by (simp; omega)),(by exact Ta ‹_› ‹_›)⟩ (by (simp only []; omega))
theorem HC (s:Sto) (f:List Cnd) (from_:Int) (to_:Int) (h1:RepS w F a1 n1 c1 s.idx.names) (h2:RepS w F a2 n2 c2 s.idx.AY) (h3:RepS w F a3 n3 c3 s.parts) (h4:RepS w F a4 n4 c4 s.mem) (h5:RepS w F a5 n5 c5 f) (p0:SD s):Calls Tryz.prog 40 [.agg #[.slice a1 n1 c1,.slice a2 n2 c2,.slice a3 n3 c3,.slice a4 n4 c4],.slice a5 n5 c5,.int .i64 from_,.int .i64 to_].toArray w (Aj fun rv w'=>VL (ge w.heap.size) w' (By s f from_ to_:List Hit) rv∧Ext w w'):=by
 cases h1.len
 cases h2.len
 cases h3.len
 cases h4.len
 cases h5.len
 refine goT func40 ?_
 have Z:=(((((St.i0 F w).p h1).p h2).p h3).p h4).p h5
 have ax:=h1.max
 have az:=h3.max
 have aA:=h4.max
 refine .s<|.g<|RG.Np Z fun ak w Z=>.r 1<|.d<|.s<|.g<|RG.N0 Hit 0 Z fun al w Z=>.r 1<|.d<|.s<|.s<|.g<|RG.Ln 1 Z<|RG.C0 (DW s (Z.a 4) (Z.a 3) (Z.a 2) (Z.a 1) p0) Z fun w Z=>?_
 cases aC:(Ad s)
 ·exact .r 1<|.d<|.ct<|.s<|.g<|.r 2<|.d<|T.Rt func40 results40 ⟨Z.rM 0 ([]:List Hit) (by rw [XC (.inl ‹_›)]),Z.xt⟩
 refine .r 1<|.d<|.cf<|.sk<|.s<|.s<|.g<|.r 1<|RG.Ln 1 Z<|.r 1<|RG.CL (KB s.idx f (Z.a 4) (Z.a 3) (Z.a 0) p0.ix p0.nd) Z fun am ao w Z=>?_
 have aD:=Z.mf 0 (BK (CH f) 0 s.idx.names)
 refine .r 2<|.d<|.b 0<|T.Lp (([]:List Hit),al,(0:Nat),(0:Nat)) (fun (out,r_out,c_out,k)=>([(2,vI from_),(3,vI to_),(4,vP ak),(9,vS r_out out.length c_out),(21,.slice am ((BK (CH f) 0 s.idx.names).length) ao),(22,vI (((BK (CH f) 0 s.idx.names).length):Int)),(23,vI (k:Int))],[(0,.own 0 r_out 125 c_out out)],[],(BK (CH f) 0 s.idx.names).length - k,(k≤(BK (CH f) 0 s.idx.names).length)∧(out.length≤k)∧(out++((BK (CH f) 0 s.idx.names).drop k).flatMap (D6 s from_ to_)=Om (CH f) s from_ to_))) [] Z ⟨AB,AD,AF⟩ ?_
 rintro ⟨out,r_out,c_out,k⟩ aO w Z ⟨aE,aF,aG⟩ aa
 have aH:=Z.mo 0 out
 refine .s<|.g<|.bp ((k:Int)< (((BK (CH f) 0 s.idx.names).length):Int)) (fun ag=>?_) (fun ag=>.d<|.s<|.cf<|.x 0 rfl<|.s<|.g<|.r 2<|.d<|T.Rt func40 results40 ⟨Z.rM 0 out (by exact (Va p0 ‹_› ‹_› AB).symm),Z.xt⟩)
 refine .d<|.s<|.ct<|.sk<|.s<|.b 1<|.s<|.g<|gxb (h:=AB) (BK (CH f) 0 s.idx.names) k fun E ab aI ai=>RG.Ix 0 ab Z<|Z.el 0 ab fun Z=>RG.Lh 0 0 Z<|.r 1<|.d<|.s<|.g<|RG.Ln 1 Z<|.r 1<|RG.CL (Ct s E (Z.a 6) (Z.a 5) (Z.a 4) (Z.a 3) (StoK.of p0 ‹_›).part (StoK.of p0 ‹_›).row (by have:=p0.np; omega) (by have:=p0.nm2; omega)) Z fun aP aQ w Z=>.r 2<|RG.CL (Kr (rowsOf s E) from_ to_ (Z.a 0) (Nat.le_trans (TW p0 ‹_› _).len AB)) Z fun aR aS w Z=>.r 1<|.d<|.s<|.g<|.r 2<|.bp ((((HH (rowsOf s E) from_ to_).length):Int) > 0) (fun ah=>?_) (fun ah=>.d<|.cf<|.sk<|.ib 1<|.g<|RG.int ((k:Int)+1) AA AB<|.r 1<|.d<|aa (out,r_out,c_out,k+1) _ _ AA (Z.to 0 [] 3) ⟨AB,AB,(by exact Td p0 ‹_› ‹_› ‹_› ‹_›)⟩ (by (simp only []; omega)))
 exact .d<|.ct<|.g<|.r 3<|RG.Lb 1 Z<|.r 1<|RG.int (E - 1) AA (by (have q1:=ER (by assumption:_∈BK _ 0 s.idx.names); omega))<|gxm (h:=(by (have q1:=ER (by assumption:_∈BK _ 0 s.idx.names); omega))) s.idx.names ((E - 1).toNat) fun ae ac aj=>RG.Jx (hz:=(by (have q1:=ER (by assumption:_∈BK _ 0 s.idx.names); omega))) 8 (E - 1) ac Z<|Z.el 8 ac fun aT aU Z=>RG.Lh 0 0 Z<|RG.C0 (Kt ae (Z.a 1) (p0.nm.sz _ ‹_›)) Z fun w Z=>.r 2<|RG.Nb 1 Z fun aV w Z=>RG.Ap (hs:=by exact (by have q1:=Rh (CH f) s.idx.names 0; have q2:=p0.nm.len; omega)) 0 0 out (⟨HB ae,HH (rowsOf s E) from_ to_⟩:Hit) [2] Z fun aq ar w Z=>.r 1<|.d<|.ib 1<|.g<|RG.int ((k:Int)+1) AA AB<|.r 1<|.d<|aa ((out++[(⟨HB ae,HH (rowsOf s E) from_ to_⟩:Hit)]),aq,ar,k+1) _ _ AA (Z.to 0 [] 5) ⟨AB,(by (simp; omega)),(by exact Tc p0 ‹_› ‹_› ‹_› ‹_› ‹_›)⟩ (by (simp only []; omega))
theorem Dv (a:Sto) (b:Sto) (h1:RepS w F a1 n1 c1 a.idx.names) (h2:RepS w F a2 n2 c2 a.idx.AY) (h3:RepS w F a3 n3 c3 a.parts) (h4:RepS w F a4 n4 c4 a.mem) (h5:RepS w F a5 n5 c5 b.idx.names) (h6:RepS w F a6 n6 c6 b.idx.AY) (h7:RepS w F a7 n7 c7 b.parts) (h8:RepS w F a8 n8 c8 b.mem) (p0:SD a) (p1:SD b):Calls Tryz.prog 12 [.agg #[.slice a1 n1 c1,.slice a2 n2 c2,.slice a3 n3 c3,.slice a4 n4 c4],.agg #[.slice a5 n5 c5,.slice a6 n6 c6,.slice a7 n7 c7,.slice a8 n8 c8]].toArray w (Aj fun rv w'=>rv=.bool ((By a [] 0 99==By b [] 0 99))∧Ext w w'):=by
 cases h1.len
 cases h2.len
 cases h3.len
 cases h4.len
 cases h5.len
 cases h6.len
 cases h7.len
 cases h8.len
 refine goT func12 ?_
 have Z:=((((((((St.i0 F w).p h1).p h2).p h3).p h4).p h5).p h6).p h7).p h8
 exact .s<|.g<|RG.Np Z fun ai w Z=>RG.Np Z fun aj w Z=>.r 1<|.d<|.s<|T.Gd 3 Z fun w Z=>GA.Ln 0 1 Z<|GA.Ln 2 0 Z<|.go 1<|GE.CL (fun w Z=>HC a ([]:List Cnd) 0 99 (Z.a 7) (Z.a 6) (Z.a 5) (Z.a 4) Z.na (by exact p0)) Z fun ak al w Z=>GA.Dn Z fun w Z=>RG.CL (HC b ([]:List Cnd) 0 99 (Z.a 4) (Z.a 3) (Z.a 2) (Z.a 1) Z.na (by exact p1)) Z fun am ao w Z=>RG.C0 (MV (By a ([]:List Cnd) 0 99) (By b ([]:List Cnd) 0 99) (Z.a 1) (Z.a 0)) Z fun w Z=>.r 1<|.d<|T.rt func12 results12 (.bool ((By a ([]:List Cnd) 0 99)==(By b ([]:List Cnd) 0 99))) ⟨(AG AF),Z.xt⟩
end Go.Proofs.YtckdhcbbgmiccaaGreat
namespace Go.Proofs.YtckdhcbbgmiccaaGreat
def BR (es:List Evt):Wld × Bool:=if es.length≤50 then (CW es,true) else (V5,false)
theorem Iv {es:List Evt}(h:¬ (es.length:Int) > 50):BR es=(CW es,true):=by unfold BR; rw [if_pos AB]
theorem MD {es:List Evt}(h:(es.length:Int) > 50):BR es=(V5,false):=by unfold BR; rw [if_neg AB]
theorem PD {es:List Evt}{k:Nat}{w Y:Wld}{e:Evt}(h:(es.drop k).foldl doW w=Y) (hd:es.drop k=e::es.drop (k+1)):(es.drop (k+1)).foldl doW (doW w e)=Y:=by
 rw [hd] at h
 exact h
theorem Q9 {es:List Evt}{k:Nat}{w Y:Wld}(h:(es.drop k).foldl doW w=Y) (hk:es.length≤k):w=Y:=by
 rw [Ac hk] at h
 exact h
end Go.Proofs.YtckdhcbbgmiccaaGreat
namespace Go.Proofs.YtckdhcbbgmiccaaGreat
set_option maxRecDepth 100000
set_option maxHeartbeats 4000000
variable {w:World} {F:Nat→Prop} {a1:Option Addr} {n1 c1:Nat}
theorem ME  {F:Nat→Prop}   : Calls Tryz.prog 42 [].toArray w (Aj fun rv w'=>VS (ge w.heap.size) w' ((⟨[],[],[],1⟩:Dsk):Dsk) rv∧Ext w w'):=by
 refine goT func42 ?_
 have Z:=St.i0 F w
 refine .s<|.g<|RG.Np Z fun E w Z=>.d<|.s<|.g<|RG.N0 Fil 0 Z fun aa w Z=>RG.N0 Int 0 Z fun ab w Z=>RG.N0 (List Tag) 0 Z fun ac w Z=>.r 1<|RG.Ss 3 Z fun w Z=>.d ?_
 have Z:=((Z.sl 2).sl 1).sl 0
 exact T.Rb 0 func42 results42 Z ⟨Z.rS (⟨([]:List Fil),([]:List Int),([]:List (List Tag)),1⟩:Dsk) [2,1,0] AF,Z.xt⟩
theorem HE  {F:Nat→Prop}   : Calls Tryz.prog 13 [].toArray w (Aj fun rv w'=>VS (ge w.heap.size) w' (Cl:Wld) rv∧Ext w w'):=by
 refine goT func13 ?_
 have Z:=St.i0 F w
 refine .s<|.g<|RG.Np Z fun ax w Z=>.d<|.s<|.g<|.r 1<|RG.cl (CA (⟨(⟨([]:List (List Tag)),([]:List Pst)⟩:Idx),([]:List Prt),([]:List Smp)⟩:Sto) Z.na Z.na Z.na Z.na WV.new.wd.wi.sto.nm NsD.nil WV.new.sd.sz) ?_
 rintro _ w ⟨⟨ai,ay,aj,ak,az,al,am,aA,ao,aq,aB,ar,rfl,ab,ac,E,ae,aa,af,ag⟩,ah⟩
 cases ab.len
 cases ac.len
 cases E.len
 cases aa.len
 have Z:=Z.so ah [.own 0 am 66 ao (((AZ (⟨(⟨([]:List (List Tag)),([]:List Pst)⟩:Idx),([]:List Prt),([]:List Smp)⟩:Sto))).parts),.own 0 aq 107 ar (((AZ (⟨(⟨([]:List (List Tag)),([]:List Pst)⟩:Idx),([]:List Prt),([]:List Smp)⟩:Sto))).mem)] [.rep ai aj ((((AZ (⟨(⟨([]:List (List Tag)),([]:List Pst)⟩:Idx),([]:List Prt),([]:List Smp)⟩:Sto))).idx).names),.rep ak al ((((AZ (⟨(⟨([]:List (List Tag)),([]:List Pst)⟩:Idx),([]:List Prt),([]:List Smp)⟩:Sto))).idx).AY)] (nd2 ag) (oN E ae (oN aa af o0)) (fc ab (fc ac fn_))
 refine RG.CS (ME (F:=all)) Z fun aC aD aE aF aG aH w Z=>.r 1<|RG.Ss 2 Z fun w Z=>.d ?_
 have Z:=(Z.sl 0).sl 0
 exact T.Rb 0 func13 results13 Z ⟨Z.rS (⟨(⟨(⟨(((AZ (⟨(⟨([]:List (List Tag)),([]:List Pst)⟩:Idx),([]:List Prt),([]:List Smp)⟩:Sto))).idx).names,(((AZ (⟨(⟨([]:List (List Tag)),([]:List Pst)⟩:Idx),([]:List Prt),([]:List Smp)⟩:Sto))).idx).AY⟩:Idx),((AZ (⟨(⟨([]:List (List Tag)),([]:List Pst)⟩:Idx),([]:List Prt),([]:List Smp)⟩:Sto))).parts,((AZ (⟨(⟨([]:List (List Tag)),([]:List Pst)⟩:Idx),([]:List Prt),([]:List Smp)⟩:Sto))).mem⟩:Sto),(⟨((⟨[],[],[],1⟩:Dsk)).files,((⟨[],[],[],1⟩:Dsk)).list,((⟨[],[],[],1⟩:Dsk)).names,((⟨[],[],[],1⟩:Dsk)).next⟩:Dsk)⟩:Wld) [5,6,1,0,2,3,4] AF,Z.xt⟩
theorem De (events:List Evt) (h1:RepS w F a1 n1 c1 events) (p0:EsD events):Calls Tryz.prog 9 [.slice a1 n1 c1].toArray w (Aj fun rv w'=>(∃ v0,rv=.tuple #[v0,.bool ((BR events).2)]∧VS (fo F w.heap.size) w' ((BR events).1:Wld) v0)∧Ext w w'):=by
 refine goT func9 ?_
 obtain ⟨rfl,dD,h1⟩:=h1.tp
 refine .s<|.g<|.np 38 [AH,AH,AH,AH,AH,AH,AH,vI 0] fun E bT bi bj ae bU=>?_
 have dE:Cov nil w E:=Et bi (Nat.le_refl _)
 replace h1:=(sn [] bj bi).g1 h1
 have ab:=bj
 refine .r 1<|.d<|.s<|.s<|.g<|.r 2<|.bp ((events.length:Int) > 50) (fun bV=>?_) (fun bV=>?_)
 ·refine .d<|.ct<|.s<|.g<|.r 1<|.sc [AH,AH,AH,AH,AH,AH,AH,vI 0] ae fun d5 bv bW bX=>?_
  replace ⟨h1,ab⟩:=(so [E] bv).g2 h1 ab
  exact .r 1<|.d<|.r2 func9 results9 (.bx bW) (.t (.bool false)) ⟨⟨_,(Bv rfl (AG (by (rw [MD ‹_›] <;> rfl)))),(VS.of (y:=(⟨(⟨(⟨([]:List (List Tag)),([]:List Pst)⟩:Idx),([]:List Prt),([]:List Smp)⟩:Sto),(⟨([]:List Fil),([]:List Int),([]:List (List Tag)),0⟩:Dsk)⟩:Wld)) ⟨_,rfl,⟨_,_,_,_,_,_,_,_,_,_,_,_,_,_,_,_,_,_,_,_,_,rfl,(RepS.BO _ _ none 0 AE),(RepS.BO _ _ none 0 AE),(RepS.BO _ _ none 0 AE),(RepS.BO _ _ none 0 AE),(RepS.BO _ _ none 0 AE),(RepS.BO _ _ none 0 AE),(RepS.BO _ _ none 0 AE)⟩⟩ (by (rw [MD ‹_›] <;> rfl)))⟩,ab⟩
 refine .d<|.cf<|.sk<|.s<|.g<|.cl (HE (w:=bT) (F:=all)) ?_
 rintro d6 d7 ⟨⟨_,rfl,⟨bY,d8,bZ,b0,d9,b6,b7,ec,b8,b9,ee,cd,ce,eg,cg,ci,eh,cj,ck,ej,cm,rfl,aJ,aK,aL,aM,aN,aO,aP⟩⟩,bw⟩
 have aI:=al1 ae.lt
 have aQ:Gb w.heap.size bT.heap.size:=ab.size
 replace ⟨h1,ae,ab⟩:=(se [E] bw).g3 h1 ae ab
 have aJ:=aJ.fr aI aQ
 replace aJ:=aJ.base (G':=fo F w.heap.size) (fun _ _ h=>.inr h)
 have dF:=aJ.max
 have aK:=aK.fr aI aQ
 replace aK:=aK.base (G':=fo F w.heap.size) (fun _ _ h=>.inr h)
 have dG:=aK.max
 have aL:=aL.fr aI aQ
 replace aL:=aL.base (G':=fo F w.heap.size) (fun _ _ h=>.inr h)
 have dH:=aL.max
 have aM:=aM.fr aI aQ
 replace aM:=aM.base (G':=fo F w.heap.size) (fun _ _ h=>.inr h)
 have dI:=aM.max
 have aN:=aN.fr aI aQ
 replace aN:=aN.base (G':=fo F w.heap.size) (fun _ _ h=>.inr h)
 have dJ:=aN.max
 have aO:=aO.fr aI aQ
 replace aO:=aO.base (G':=fo F w.heap.size) (fun _ _ h=>.inr h)
 have dK:=aO.max
 have aP:=aP.fr aI aQ
 replace aP:=aP.base (G':=fo F w.heap.size) (fun _ _ h=>.inr h)
 have dL:=aP.max
 have co:=aJ.len
 subst co
 have cp:=aK.len
 subst cp
 have cq:=aL.len
 subst cq
 have cr:=aM.len
 subst cr
 have cu:=aN.len
 subst cu
 have cw:=aO.len
 subst cw
 have cx:=aP.len
 subst cx
 refine .np 38 [AH,AH,AH,AH,AH,AH,AH,vI 0] fun aa ek bg bz cy cz=>?_
 have dM:=Ab bg ae.lt
 have dN:=ab.cn bg
 replace ⟨h1,ae,aJ,aK,aL,aM,aN,aO,aP,ab⟩:=(sn [E] bz bg).g10 h1 ae aJ aK aL aM aN aO aP ab
 refine .sc [.slice bY Cl.store.idx.names.length bZ,.slice b0 Cl.store.idx.AY.length b6,.slice b7 Cl.store.parts.length b8,.slice b9 Cl.store.mem.length cd,.slice ce Cl.disk.files.length cg,.slice ci Cl.disk.list.length cj,.slice ck Cl.disk.names.length cm,vI Cl.disk.next] cy fun bB bA cA cB=>?_
 replace ⟨h1,ae,aJ,aK,aL,aM,aN,aO,aP,ab⟩:=(so [aa,E] bA).g10 h1 ae aJ aK aL aM aN aO aP ab
 refine .d<|.s<|.s<|.g<|.r 3<|.d<|.b 0<|T.loop (X:=Nat × (List (List Tag)) × (Option Addr) × Nat × Nat × (List Pst) × (Option Addr) × Nat × Nat × (List Prt) × (Option Addr) × Nat × Nat × (List Smp) × (Option Addr) × Nat × Nat × (List Fil) × (Option Addr) × Nat × Nat × (List Int) × (Option Addr) × Nat × Nat × (List (List Tag)) × (Option Addr) × Nat × Nat × Int) (0,(Cl.store.idx.names:List (List Tag)),bY,Cl.store.idx.names.length,bZ,(Cl.store.idx.AY:List Pst),b0,Cl.store.idx.AY.length,b6,(Cl.store.parts:List Prt),b7,Cl.store.parts.length,b8,(Cl.store.mem:List Smp),b9,Cl.store.mem.length,cd,(Cl.disk.files:List Fil),ce,Cl.disk.files.length,cg,(Cl.disk.list:List Int),ci,Cl.disk.list.length,cj,(Cl.disk.names:List (List Tag)),ck,Cl.disk.names.length,cm,Cl.disk.next) (fun (k,am,a_w_0,n_w_0,c_w_0,ao,a_w_1,n_w_1,c_w_1,aq,a_w_2,n_w_2,c_w_2,ar,a_w_3,n_w_3,c_w_3,ax,a_w_4,n_w_4,c_w_4,ay,a_w_5,n_w_5,c_w_5,az,a_w_6,n_w_6,c_w_6,al)=>[(2,.pointer (some ⟨E,0,none⟩)),(4,.pointer (some ⟨aa,0,none⟩)),(12,.slice a1 events.length c1),(13,vI (events.length:Int)),(14,vI (k:Int))]) (fun (k,am,a_w_0,n_w_0,c_w_0,ao,a_w_1,n_w_1,c_w_1,aq,a_w_2,n_w_2,c_w_2,ar,a_w_3,n_w_3,c_w_3,ax,a_w_4,n_w_4,c_w_4,ay,a_w_5,n_w_5,c_w_5,az,a_w_6,n_w_6,c_w_6,al) aR=>Chg (ins [aa]) bB aR∧RepS aR (nin (fo F w.heap.size) [aa,E]) a_w_0 n_w_0 c_w_0 am∧RepS aR (nin (fo F w.heap.size) [aa,E]) a_w_1 n_w_1 c_w_1 ao∧RepS aR (nin (fo F w.heap.size) [aa,E]) a_w_2 n_w_2 c_w_2 aq∧RepS aR (nin (fo F w.heap.size) [aa,E]) a_w_3 n_w_3 c_w_3 ar∧RepS aR (nin (fo F w.heap.size) [aa,E]) a_w_4 n_w_4 c_w_4 ax∧RepS aR (nin (fo F w.heap.size) [aa,E]) a_w_5 n_w_5 c_w_5 ay∧RepS aR (nin (fo F w.heap.size) [aa,E]) a_w_6 n_w_6 c_w_6 az∧Box aR aa 38 [.slice a_w_0 n_w_0 c_w_0,.slice a_w_1 n_w_1 c_w_1,.slice a_w_2 n_w_2 c_w_2,.slice a_w_3 n_w_3 c_w_3,.slice a_w_4 n_w_4 c_w_4,.slice a_w_5 n_w_5 c_w_5,.slice a_w_6 n_w_6 c_w_6,vI al]∧(k≤events.length)∧((events.drop k).foldl doW ⟨⟨⟨am,ao⟩,aq,ar⟩,⟨ax,ay,az,al⟩⟩=CW events)∧(WV ⟨⟨⟨am,ao⟩,aq,ar⟩,⟨ax,ay,az,al⟩⟩)) (fun (k,am,a_w_0,n_w_0,c_w_0,ao,a_w_1,n_w_1,c_w_1,aq,a_w_2,n_w_2,c_w_2,ar,a_w_3,n_w_3,c_w_3,ax,a_w_4,n_w_4,c_w_4,ay,a_w_5,n_w_5,c_w_5,az,a_w_6,n_w_6,c_w_6,al)=>events.length - k) AA ⟨AA,AA,AA,AA,AA,trivial⟩ ⟨Chg.refl _ _,aJ,aK,aL,aM,aN,aO,aP,cA,AB,AF,(by exact WV.new)⟩ ?_
 rintro ⟨k,am,a_w_0,n_w_0,c_w_0,ao,a_w_1,n_w_1,c_w_1,aq,a_w_2,n_w_2,c_w_2,ar,a_w_3,n_w_3,c_w_3,ax,a_w_4,n_w_4,c_w_4,ay,a_w_5,n_w_5,c_w_5,az,a_w_6,n_w_6,c_w_6,al⟩ dO aR ⟨aE,aA,aB,af,ag,ah,ai,aj,aC,dP,dQ,dR⟩ bh
 have cT:Cov (ins [aa]) bB aa:=⟨.inl AI⟩
 have bk:Mv [aa,E] [aa,E] bB aR:=Mv.inl aE (all_cons AI all_nil) (all_cons (.inl AI) (all_cons (.inl AJ) all_nil))
 replace ⟨h1,ae,ab⟩:=(sp bk aE).g3 h1 ae ab
 refine .s<|.g<|.bp ((k:Int)< (events.length:Int)) (fun bC=>?_) (fun bC=>?_)
 ·refine .d<|.s<|.ct<|.sk<|.s<|.b 1<|.s<|.g ?_
  have bD:k< events.length:=AB
  refine .ix k 6 h1 bD ?_
  obtain ⟨ac,ba⟩:∃ y,events[k]? = some y:=⟨_,AU AB⟩
  have dm:=Bp ba; have cC:=AV ba
  obtain ⟨_,⟨cD,dS,cE,rfl,aS⟩,bE⟩:=h1.elem k ac ba
  have bF:=aS.len
  subst bF
  refine .lg 0 bE<|.np 46 [vI 0,vI 0,vI 0,AH,vI 0,vI 0] fun ak dT aH bm bG bH=>?_
  have dq:=Ab aH ae.lt
  have dt:=Ab aH aC.lt
  have du:=ab.cn aH
  have dv:=aE.cn aH
  replace ⟨ae,aC,aA,aB,af,ag,ah,ai,aj,aS,ab,aE⟩:=(sn [aa,E] bm aH).g12 ae aC aA aB af ag ah ai aj aS ab aE
  refine .sc [vI ac.kind,vI ac.at_,vI ac.cut,.slice cD ac.name.length cE,vI ac.row.t,vI ac.row.v] bG fun bn bo bq bI=>?_
  replace ⟨ae,aC,aA,aB,af,ag,ah,ai,aj,aS,ab,aE⟩:=(so [ak,aa,E] bo).g12 ae aC aA aB af ag ah ai aj aS ab aE
  refine .d<|.g<|.ln bq<|.cl (Cb (⟨(⟨(⟨am,ao⟩:Idx),aq,ar⟩:Sto),(⟨ax,ay,az,al⟩:Dsk)⟩:Wld) ac (RepS.toM aA (all_cons AJ all_nil)) (RepS.toM aB (all_cons AJ all_nil)) (RepS.toM af (all_cons AJ all_nil)) (RepS.toM ag (all_cons AJ all_nil)) (RepS.toM ah (all_cons AJ all_nil)) (RepS.toM ai (all_cons AJ all_nil)) (RepS.toM aj (all_cons AJ all_nil)) aC (RepS.toM aS (all_cons AJ all_nil)) (by assumption:WV ⟨⟨⟨am,ao⟩,aq,ar⟩,⟨ax,ay,az,al⟩⟩) (p0 _ ‹_›).1 (w:=bn) (F:=nin (fo F w.heap.size) [ak,aa,E])) ?_
  rintro dU aF ⟨⟨rfl,cF,dV,cG,cH,dW,cI,cJ,dX,cK,cL,dY,cM,cN,dZ,cO,cP,d0,cQ,cR,d3,cS,bJ,aT,aU,aV,aW,aX,aY,aZ⟩,bd⟩
  have aD:=al3 bq.lt aC.lt ae.lt
  have aG:Gb w.heap.size bn.heap.size:=ab.size
  have br:Mv [ak,aa,E] [ak,aa,E] bn aF:=Mv.inl bd (all_cons AJ all_nil) (all_cons (.inl AI) (all_cons (.inl AJ) (all_cons (.inl AK) all_nil)))
  replace ⟨ae,aA,aB,af,ag,ah,ai,aj,ab,aE⟩:=(sp br bd).g10 ae aA aB af ag ah ai aj ab aE
  replace aT:RepS aF (nin (fo F w.heap.size) [ak,aa,E]) _ _ _ _:=RepS.bxM (M2:=[ak,aa,E]) aT aD (fun _ h=>.inr (Nat.le_trans aG h)) (all_cons (.inr AI) (all_cons (.inl AI) (all_cons (.inr AK) all_nil)))
  replace aU:RepS aF (nin (fo F w.heap.size) [ak,aa,E]) _ _ _ _:=RepS.bxM (M2:=[ak,aa,E]) aU aD (fun _ h=>.inr (Nat.le_trans aG h)) (all_cons (.inr AI) (all_cons (.inl AI) (all_cons (.inr AK) all_nil)))
  replace aV:RepS aF (nin (fo F w.heap.size) [ak,aa,E]) _ _ _ _:=RepS.bxM (M2:=[ak,aa,E]) aV aD (fun _ h=>.inr (Nat.le_trans aG h)) (all_cons (.inr AI) (all_cons (.inl AI) (all_cons (.inr AK) all_nil)))
  replace aW:RepS aF (nin (fo F w.heap.size) [ak,aa,E]) _ _ _ _:=RepS.bxM (M2:=[ak,aa,E]) aW aD (fun _ h=>.inr (Nat.le_trans aG h)) (all_cons (.inr AI) (all_cons (.inl AI) (all_cons (.inr AK) all_nil)))
  replace aX:RepS aF (nin (fo F w.heap.size) [ak,aa,E]) _ _ _ _:=RepS.bxM (M2:=[ak,aa,E]) aX aD (fun _ h=>.inr (Nat.le_trans aG h)) (all_cons (.inr AI) (all_cons (.inl AI) (all_cons (.inr AK) all_nil)))
  replace aY:RepS aF (nin (fo F w.heap.size) [ak,aa,E]) _ _ _ _:=RepS.bxM (M2:=[ak,aa,E]) aY aD (fun _ h=>.inr (Nat.le_trans aG h)) (all_cons (.inr AI) (all_cons (.inl AI) (all_cons (.inr AK) all_nil)))
  replace aZ:RepS aF (nin (fo F w.heap.size) [ak,aa,E]) _ _ _ _:=RepS.bxM (M2:=[ak,aa,E]) aZ aD (fun _ h=>.inr (Nat.le_trans aG h)) (all_cons (.inr AI) (all_cons (.inl AI) (all_cons (.inr AK) all_nil)))
  have bK:=aT.len
  subst bK
  have bL:=aU.len
  subst bL
  have bM:=aV.len
  subst bM
  have bN:=aW.len
  subst bN
  have bO:=aX.len
  subst bO
  have bP:=aY.len
  subst bP
  have bQ:=aZ.len
  subst bQ
  refine .d<|.ib 1<|.g<|.it ((k:Int)+1)<|.r 1<|.d ?_
  have bt:Mv [ak,aa,E] [aa,E] aF aF:=Mv.less (all_cons AJ (all_cons AK all_nil))
  replace ⟨aA,aB,af,ag,ah,ai,aj,aT,aU,aV,aW,aX⟩:=(sp bt (Chg.refl nil _)).g12 aA aB af ag ah ai aj aT aU aV aW aX
  replace ⟨aY,aZ⟩:=(sp bt (Chg.refl nil _)).g2 aY aZ
  exact bh (k+1,((((doW (⟨(⟨(⟨am,ao⟩:Idx),aq,ar⟩:Sto),(⟨ax,ay,az,al⟩:Dsk)⟩:Wld) ac)).store).idx).names,cF,(((((doW (⟨(⟨(⟨am,ao⟩:Idx),aq,ar⟩:Sto),(⟨ax,ay,az,al⟩:Dsk)⟩:Wld) ac)).store).idx).names).length,cG,((((doW (⟨(⟨(⟨am,ao⟩:Idx),aq,ar⟩:Sto),(⟨ax,ay,az,al⟩:Dsk)⟩:Wld) ac)).store).idx).AY,cH,(((((doW (⟨(⟨(⟨am,ao⟩:Idx),aq,ar⟩:Sto),(⟨ax,ay,az,al⟩:Dsk)⟩:Wld) ac)).store).idx).AY).length,cI,(((doW (⟨(⟨(⟨am,ao⟩:Idx),aq,ar⟩:Sto),(⟨ax,ay,az,al⟩:Dsk)⟩:Wld) ac)).store).parts,cJ,((((doW (⟨(⟨(⟨am,ao⟩:Idx),aq,ar⟩:Sto),(⟨ax,ay,az,al⟩:Dsk)⟩:Wld) ac)).store).parts).length,cK,(((doW (⟨(⟨(⟨am,ao⟩:Idx),aq,ar⟩:Sto),(⟨ax,ay,az,al⟩:Dsk)⟩:Wld) ac)).store).mem,cL,((((doW (⟨(⟨(⟨am,ao⟩:Idx),aq,ar⟩:Sto),(⟨ax,ay,az,al⟩:Dsk)⟩:Wld) ac)).store).mem).length,cM,(((doW (⟨(⟨(⟨am,ao⟩:Idx),aq,ar⟩:Sto),(⟨ax,ay,az,al⟩:Dsk)⟩:Wld) ac)).disk).files,cN,((((doW (⟨(⟨(⟨am,ao⟩:Idx),aq,ar⟩:Sto),(⟨ax,ay,az,al⟩:Dsk)⟩:Wld) ac)).disk).files).length,cO,(((doW (⟨(⟨(⟨am,ao⟩:Idx),aq,ar⟩:Sto),(⟨ax,ay,az,al⟩:Dsk)⟩:Wld) ac)).disk).list,cP,((((doW (⟨(⟨(⟨am,ao⟩:Idx),aq,ar⟩:Sto),(⟨ax,ay,az,al⟩:Dsk)⟩:Wld) ac)).disk).list).length,cQ,(((doW (⟨(⟨(⟨am,ao⟩:Idx),aq,ar⟩:Sto),(⟨ax,ay,az,al⟩:Dsk)⟩:Wld) ac)).disk).names,cR,((((doW (⟨(⟨(⟨am,ao⟩:Idx),aq,ar⟩:Sto),(⟨ax,ay,az,al⟩:Dsk)⟩:Wld) ac)).disk).names).length,cS,(((doW (⟨(⟨(⟨am,ao⟩:Idx),aq,ar⟩:Sto),(⟨ax,ay,az,al⟩:Dsk)⟩:Wld) ac)).disk).next) _ _ ⟨AA,AA,AA,AA,AA,trivial⟩ ⟨aE,aT,aU,aV,aW,aX,aY,aZ,bJ,AB,(by exact PD ‹_› ‹_›),(by exact WV.do ‹_› (p0 _ ‹_›).1)⟩ (by (simp only []; omega))
 refine .d<|.s<|.cf<|.x 0 rfl<|.s<|.g<|.ln aC<|.sc [.slice a_w_0 n_w_0 c_w_0,.slice a_w_1 n_w_1 c_w_1,.slice a_w_2 n_w_2 c_w_2,.slice a_w_3 n_w_3 c_w_3,.slice a_w_4 n_w_4 c_w_4,.slice a_w_5 n_w_5 c_w_5,.slice a_w_6 n_w_6 c_w_6,vI al] ae fun d4 bu bR bS=>?_
 replace ⟨aA,aB,af,ag,ah,ai,aj,ab⟩:=(so [aa,E] bu).g8 aA aB af ag ah ai aj ab
 exact .r 1<|.d<|.r2 func9 results9 (.bx bR) (.t (.bool true)) ⟨⟨_,(Bv rfl (AG (by (rw [Iv ‹_›])))),(VS.of (y:=(⟨(⟨(⟨am,ao⟩:Idx),aq,ar⟩:Sto),(⟨ax,ay,az,al⟩:Dsk)⟩:Wld)) ⟨_,rfl,⟨_,_,_,_,_,_,_,_,_,_,_,_,_,_,_,_,_,_,_,_,_,rfl,aA.w1,aB.w1,af.w1,ag.w1,ah.w1,ai.w1,aj.w1⟩⟩ (by (rw [Iv ‹_›]; exact Q9 ‹_› AB)))⟩,ab⟩
theorem Df (events:List Evt) (h1:RepS w F a1 n1 c1 events) (p0:EsD events):Calls Tryz.prog 10 [.slice a1 n1 c1].toArray w (Aj fun rv w'=>(∃ v0,rv=.tuple #[v0,.bool ((BR events).2)]∧VS (fo F w.heap.size) w' ((BR events).1:Wld) v0)∧Ext w w'):=by
 refine goT func10 ?_
 obtain ⟨rfl,eT,h1⟩:=h1.tp
 refine .s<|.g<|.np 38 [AH,AH,AH,AH,AH,AH,AH,vI 0] fun aj cJ bF bG al cK=>?_
 have eU:Cov nil w aj:=Et bF (Nat.le_refl _)
 replace h1:=(sn [] bG bF).g1 h1
 have ai:=bG
 refine .r 1<|.d<|.s<|.s<|.g<|.r 2<|.bp ((events.length:Int) > 50) (fun cL=>?_) (fun cL=>?_)
 ·refine .d<|.ct<|.s<|.g<|.r 1<|.sc [AH,AH,AH,AH,AH,AH,AH,vI 0] al fun fK bO cM cN=>?_
  replace ⟨h1,ai⟩:=(so [aj] bO).g2 h1 ai
  exact .r 1<|.d<|.r2 func10 results10 (.bx cM) (.t (.bool false)) ⟨⟨_,(Bv rfl (AG (by (rw [MD ‹_›] <;> rfl)))),(VS.of (y:=(⟨(⟨(⟨([]:List (List Tag)),([]:List Pst)⟩:Idx),([]:List Prt),([]:List Smp)⟩:Sto),(⟨([]:List Fil),([]:List Int),([]:List (List Tag)),0⟩:Dsk)⟩:Wld)) ⟨_,rfl,⟨_,_,_,_,_,_,_,_,_,_,_,_,_,_,_,_,_,_,_,_,_,rfl,(RepS.BO _ _ none 0 AE),(RepS.BO _ _ none 0 AE),(RepS.BO _ _ none 0 AE),(RepS.BO _ _ none 0 AE),(RepS.BO _ _ none 0 AE),(RepS.BO _ _ none 0 AE),(RepS.BO _ _ none 0 AE)⟩⟩ (by (rw [MD ‹_›] <;> rfl)))⟩,ai⟩
 refine .d<|.cf<|.sk<|.s<|.g<|.cl (E8 (w:=cJ) (F:=all)) ?_
 rintro fL fM ⟨⟨_,rfl,⟨cO,fN,cP,cQ,fO,cR,cS,fP,cT,cU,fQ,cV,cW,fR,cX,cY,fS,cZ,c7,fT,c8,rfl,aU,aV,aW,aX,aY,aZ,ba⟩⟩,bP⟩
 have aT:=al1 al.lt
 have bd:Gb w.heap.size cJ.heap.size:=ai.size
 replace ⟨h1,al,ai⟩:=(se [aj] bP).g3 h1 al ai
 have aU:=aU.fr aT bd
 replace aU:=aU.base (G':=fo F w.heap.size) (fun _ _ h=>.inr h)
 have eV:=aU.max
 have aV:=aV.fr aT bd
 replace aV:=aV.base (G':=fo F w.heap.size) (fun _ _ h=>.inr h)
 have eW:=aV.max
 have aW:=aW.fr aT bd
 replace aW:=aW.base (G':=fo F w.heap.size) (fun _ _ h=>.inr h)
 have eX:=aW.max
 have aX:=aX.fr aT bd
 replace aX:=aX.base (G':=fo F w.heap.size) (fun _ _ h=>.inr h)
 have eY:=aX.max
 have aY:=aY.fr aT bd
 replace aY:=aY.base (G':=fo F w.heap.size) (fun _ _ h=>.inr h)
 have eZ:=aY.max
 have aZ:=aZ.fr aT bd
 replace aZ:=aZ.base (G':=fo F w.heap.size) (fun _ _ h=>.inr h)
 have e7:=aZ.max
 have ba:=ba.fr aT bd
 replace ba:=ba.base (G':=fo F w.heap.size) (fun _ _ h=>.inr h)
 have e8:=ba.max
 have da:=aU.len
 subst da
 have db:=aV.len
 subst db
 have de:=aW.len
 subst de
 have df:=aX.len
 subst df
 have dh:=aY.len
 subst dh
 have dj:=aZ.len
 subst dj
 have dm:=ba.len
 subst dm
 refine .np 38 [AH,AH,AH,AH,AH,AH,AH,vI 0] fun ak fU bC bQ dp dq=>?_
 have fa:=Ab bC al.lt
 have fb:=ai.cn bC
 replace ⟨h1,al,aU,aV,aW,aX,aY,aZ,ba,ai⟩:=(sn [aj] bQ bC).g10 h1 al aU aV aW aX aY aZ ba ai
 refine .sc [.slice cO ((((((⟨⟨⟨[],[]⟩,[],[]⟩,⟨[],[],[],1⟩⟩:Wld)).store).idx).names).length) cP,.slice cQ ((((((⟨⟨⟨[],[]⟩,[],[]⟩,⟨[],[],[],1⟩⟩:Wld)).store).idx).AY).length) cR,.slice cS (((((⟨⟨⟨[],[]⟩,[],[]⟩,⟨[],[],[],1⟩⟩:Wld)).store).parts).length) cT,.slice cU (((((⟨⟨⟨[],[]⟩,[],[]⟩,⟨[],[],[],1⟩⟩:Wld)).store).mem).length) cV,.slice cW (((((⟨⟨⟨[],[]⟩,[],[]⟩,⟨[],[],[],1⟩⟩:Wld)).disk).files).length) cX,.slice cY (((((⟨⟨⟨[],[]⟩,[],[]⟩,⟨[],[],[],1⟩⟩:Wld)).disk).list).length) cZ,.slice c7 (((((⟨⟨⟨[],[]⟩,[],[]⟩,⟨[],[],[],1⟩⟩:Wld)).disk).names).length) c8,vI ((((⟨⟨⟨[],[]⟩,[],[]⟩,⟨[],[],[],1⟩⟩:Wld)).disk).next)] dp fun cg bR dt du=>?_
 replace ⟨h1,al,aU,aV,aW,aX,aY,aZ,ba,ai⟩:=(so [ak,aj] bR).g10 h1 al aU aV aW aX aY aZ ba ai
 refine .d<|.s<|.s<|.g<|.r 1<|.d<|.b 0<|T.loop (X:=Nat × (List (List Tag)) × (Option Addr) × Nat × Nat × (List Pst) × (Option Addr) × Nat × Nat × (List Prt) × (Option Addr) × Nat × Nat × (List Smp) × (Option Addr) × Nat × Nat × (List Fil) × (Option Addr) × Nat × Nat × (List Int) × (Option Addr) × Nat × Nat × (List (List Tag)) × (Option Addr) × Nat × Nat × Int) (0,(((((⟨⟨⟨[],[]⟩,[],[]⟩,⟨[],[],[],1⟩⟩:Wld)).store).idx).names:List (List Tag)),cO,(((((⟨⟨⟨[],[]⟩,[],[]⟩,⟨[],[],[],1⟩⟩:Wld)).store).idx).names).length,cP,(((((⟨⟨⟨[],[]⟩,[],[]⟩,⟨[],[],[],1⟩⟩:Wld)).store).idx).AY:List Pst),cQ,(((((⟨⟨⟨[],[]⟩,[],[]⟩,⟨[],[],[],1⟩⟩:Wld)).store).idx).AY).length,cR,((((⟨⟨⟨[],[]⟩,[],[]⟩,⟨[],[],[],1⟩⟩:Wld)).store).parts:List Prt),cS,((((⟨⟨⟨[],[]⟩,[],[]⟩,⟨[],[],[],1⟩⟩:Wld)).store).parts).length,cT,((((⟨⟨⟨[],[]⟩,[],[]⟩,⟨[],[],[],1⟩⟩:Wld)).store).mem:List Smp),cU,((((⟨⟨⟨[],[]⟩,[],[]⟩,⟨[],[],[],1⟩⟩:Wld)).store).mem).length,cV,((((⟨⟨⟨[],[]⟩,[],[]⟩,⟨[],[],[],1⟩⟩:Wld)).disk).files:List Fil),cW,((((⟨⟨⟨[],[]⟩,[],[]⟩,⟨[],[],[],1⟩⟩:Wld)).disk).files).length,cX,((((⟨⟨⟨[],[]⟩,[],[]⟩,⟨[],[],[],1⟩⟩:Wld)).disk).list:List Int),cY,((((⟨⟨⟨[],[]⟩,[],[]⟩,⟨[],[],[],1⟩⟩:Wld)).disk).list).length,cZ,((((⟨⟨⟨[],[]⟩,[],[]⟩,⟨[],[],[],1⟩⟩:Wld)).disk).names:List (List Tag)),c7,((((⟨⟨⟨[],[]⟩,[],[]⟩,⟨[],[],[],1⟩⟩:Wld)).disk).names).length,c8,(((⟨⟨⟨[],[]⟩,[],[]⟩,⟨[],[],[],1⟩⟩:Wld)).disk).next) (fun (i,E,a_w_0,n_w_0,c_w_0,aa,a_w_1,n_w_1,c_w_1,ab,a_w_2,n_w_2,c_w_2,ac,a_w_3,n_w_3,c_w_3,ae,a_w_4,n_w_4,c_w_4,af,a_w_5,n_w_5,c_w_5,ag,a_w_6,n_w_6,c_w_6,ah)=>[(0,.slice a1 events.length c1),(2,.pointer (some ⟨aj,0,none⟩)),(4,.pointer (some ⟨ak,0,none⟩)),(5,vI (i:Int))]) (fun (i,E,a_w_0,n_w_0,c_w_0,aa,a_w_1,n_w_1,c_w_1,ab,a_w_2,n_w_2,c_w_2,ac,a_w_3,n_w_3,c_w_3,ae,a_w_4,n_w_4,c_w_4,af,a_w_5,n_w_5,c_w_5,ag,a_w_6,n_w_6,c_w_6,ah) aS=>Chg (ins [ak]) cg aS∧RepS aS (nin (fo F w.heap.size) [ak,aj]) a_w_0 n_w_0 c_w_0 E∧RepS aS (nin (fo F w.heap.size) [ak,aj]) a_w_1 n_w_1 c_w_1 aa∧RepS aS (nin (fo F w.heap.size) [ak,aj]) a_w_2 n_w_2 c_w_2 ab∧RepS aS (nin (fo F w.heap.size) [ak,aj]) a_w_3 n_w_3 c_w_3 ac∧RepS aS (nin (fo F w.heap.size) [ak,aj]) a_w_4 n_w_4 c_w_4 ae∧RepS aS (nin (fo F w.heap.size) [ak,aj]) a_w_5 n_w_5 c_w_5 af∧RepS aS (nin (fo F w.heap.size) [ak,aj]) a_w_6 n_w_6 c_w_6 ag∧Box aS ak 38 [.slice a_w_0 n_w_0 c_w_0,.slice a_w_1 n_w_1 c_w_1,.slice a_w_2 n_w_2 c_w_2,.slice a_w_3 n_w_3 c_w_3,.slice a_w_4 n_w_4 c_w_4,.slice a_w_5 n_w_5 c_w_5,.slice a_w_6 n_w_6 c_w_6,vI ah]∧(i≤events.length)∧((events.drop i).foldl doW ⟨⟨⟨E,aa⟩,ab,ac⟩,⟨ae,af,ag,ah⟩⟩=CW events)∧(WV ⟨⟨⟨E,aa⟩,ab,ac⟩,⟨ae,af,ag,ah⟩⟩)) (fun (i,E,a_w_0,n_w_0,c_w_0,aa,a_w_1,n_w_1,c_w_1,ab,a_w_2,n_w_2,c_w_2,ac,a_w_3,n_w_3,c_w_3,ae,a_w_4,n_w_4,c_w_4,af,a_w_5,n_w_5,c_w_5,ag,a_w_6,n_w_6,c_w_6,ah)=>events.length - i) AA ⟨AA,AA,AA,AA,trivial⟩ ⟨Chg.refl _ _,aU,aV,aW,aX,aY,aZ,ba,dt,AB,AF,(by exact WV.new)⟩ ?_
 rintro ⟨i,E,a_w_0,n_w_0,c_w_0,aa,a_w_1,n_w_1,c_w_1,ab,a_w_2,n_w_2,c_w_2,ac,a_w_3,n_w_3,c_w_3,ae,a_w_4,n_w_4,c_w_4,af,a_w_5,n_w_5,c_w_5,ag,a_w_6,n_w_6,c_w_6,ah⟩ fd aS ⟨aN,aK,aL,aA,aB,aC,aD,aE,ao,fe,ff,fg⟩ bE
 have dL:Cov (ins [ak]) cg ak:=⟨.inl AI⟩
 have bH:Mv [ak,aj] [ak,aj] cg aS:=Mv.inl aN (all_cons AI all_nil) (all_cons (.inl AI) (all_cons (.inl AJ) all_nil))
 replace ⟨h1,al,ai⟩:=(sp bH aN).g3 h1 al ai
 refine .s<|.s<|.g<|.r 3<|.bp ((i:Int)< (events.length:Int)) (fun ci=>?_) (fun ci=>?_)
 ·refine .d<|.ct<|.sk<|.s<|.b 1<|.gd nil 5 fun fi bI=>?_
  replace ⟨h1,al,ao,aK,aL,aA,aB,aC,aD,aE,ai,aN⟩:=(se [ak,aj] bI).g12 h1 al ao aK aL aA aB aC aD aE ai aN
  refine .ln 0 ao id<|.r [1,2] ?_
  have cj:i< events.length:=AB
  refine .ix 3 i 6 h1 cj ?_
  obtain ⟨am,bA⟩:∃ y,events[i]? = some y:=⟨_,AU AB⟩
  have d0:=Bp bA; have dv:=AV bA
  obtain ⟨_,⟨fj,fm,fp,rfl,bw⟩,ck⟩:=h1.elem i am bA
  have cm:=bw.len
  subst cm
  refine .lg 4 0 ck id<|.d fun bS bJ=>?_
  replace ⟨al,ao,aK,aL,aA,aB,aC,aD,aE,bw,ai,aN⟩:=(se [ak,aj] bJ).g12 al ao aK aL aA aB aC aD aE bw ai aN
  refine .cl (FP (⟨(⟨(⟨E,aa⟩:Idx),ab,ac⟩:Sto),(⟨ae,af,ag,ah⟩:Dsk)⟩:Wld) am aK aL aA aB aC aD aE bw (by assumption:WV ⟨⟨⟨E,aa⟩,ab,ac⟩,⟨ae,af,ag,ah⟩⟩).wd.wi (NmD.sz (p0 _ ‹_›).1) (w:=bS) (F:=nin (fo F w.heap.size) [ak,aj])) ?_
  rintro fq fu ⟨⟨_,rfl,⟨bT,fv,bU,bV,fw,bW,bX,fA,bY,bZ,fB,b0,b6,fC,b7,b8,fD,b9,cd,fE,ce,rfl,bg,bh,bi,bj,bk,bm,bn⟩⟩,bK⟩
  have aO:=al2 ao.lt al.lt
  have aQ:Gb w.heap.size bS.heap.size:=ai.size
  replace ⟨al,ao,aK,aL,aA,aB,aC,aD,aE,ai,aN⟩:=(se [ak,aj] bK).g11 al ao aK aL aA aB aC aD aE ai aN
  replace bg:=RepS.CG (M:=[ak,aj]) bg aO aQ
  have d4:=bg.max
  replace bh:=RepS.CG (M:=[ak,aj]) bh aO aQ
  have d5:=bh.max
  replace bi:=RepS.CG (M:=[ak,aj]) bi aO aQ
  have d6:=bi.max
  replace bj:=RepS.CG (M:=[ak,aj]) bj aO aQ
  have d7:=bj.max
  replace bk:=RepS.CG (M:=[ak,aj]) bk aO aQ
  have d8:=bk.max
  replace bm:=RepS.CG (M:=[ak,aj]) bm aO aQ
  have d9:=bm.max
  replace bn:=RepS.CG (M:=[ak,aj]) bn aO aQ
  have ec:=bn.max
  have co:=bg.len
  subst co
  have cp:=bh.len
  subst cp
  have cq:=bi.len
  subst cq
  have cr:=bj.len
  subst cr
  have cu:=bk.len
  subst cu
  have cw:=bm.len
  subst cw
  have cx:=bn.len
  subst cx
  refine .sc [.slice bT (((((doW (⟨(⟨(⟨E,aa⟩:Idx),ab,ac⟩:Sto),(⟨ae,af,ag,ah⟩:Dsk)⟩:Wld) am).store).idx).names).length) bU,.slice bV (((((doW (⟨(⟨(⟨E,aa⟩:Idx),ab,ac⟩:Sto),(⟨ae,af,ag,ah⟩:Dsk)⟩:Wld) am).store).idx).AY).length) bW,.slice bX ((((doW (⟨(⟨(⟨E,aa⟩:Idx),ab,ac⟩:Sto),(⟨ae,af,ag,ah⟩:Dsk)⟩:Wld) am).store).parts).length) bY,.slice bZ ((((doW (⟨(⟨(⟨E,aa⟩:Idx),ab,ac⟩:Sto),(⟨ae,af,ag,ah⟩:Dsk)⟩:Wld) am).store).mem).length) b0,.slice b6 ((((doW (⟨(⟨(⟨E,aa⟩:Idx),ab,ac⟩:Sto),(⟨ae,af,ag,ah⟩:Dsk)⟩:Wld) am).disk).files).length) b7,.slice b8 ((((doW (⟨(⟨(⟨E,aa⟩:Idx),ab,ac⟩:Sto),(⟨ae,af,ag,ah⟩:Dsk)⟩:Wld) am).disk).list).length) b9,.slice cd ((((doW (⟨(⟨(⟨E,aa⟩:Idx),ab,ac⟩:Sto),(⟨ae,af,ag,ah⟩:Dsk)⟩:Wld) am).disk).names).length) ce,vI (((doW (⟨(⟨(⟨E,aa⟩:Idx),ab,ac⟩:Sto),(⟨ae,af,ag,ah⟩:Dsk)⟩:Wld) am).disk).next)] ao fun fF bB cy cz=>?_
  replace ⟨al,aK,aL,aA,aB,aC,aD,aE,bg,bh,bi,bj⟩:=(so [ak,aj] bB).g12 al aK aL aA aB aC aD aE bg bh bi bj
  replace ⟨bk,bm,bn,ai,aN⟩:=(so [ak,aj] bB).g5 bk bm bn ai aN
  exact .d<|.ib 1<|.g<|.r 1<|.it ((i:Int)+1)<|.r 1<|.d<|bE (i+1,(((doW (⟨(⟨(⟨E,aa⟩:Idx),ab,ac⟩:Sto),(⟨ae,af,ag,ah⟩:Dsk)⟩:Wld) am).store).idx).names,bT,((((doW (⟨(⟨(⟨E,aa⟩:Idx),ab,ac⟩:Sto),(⟨ae,af,ag,ah⟩:Dsk)⟩:Wld) am).store).idx).names).length,bU,(((doW (⟨(⟨(⟨E,aa⟩:Idx),ab,ac⟩:Sto),(⟨ae,af,ag,ah⟩:Dsk)⟩:Wld) am).store).idx).AY,bV,((((doW (⟨(⟨(⟨E,aa⟩:Idx),ab,ac⟩:Sto),(⟨ae,af,ag,ah⟩:Dsk)⟩:Wld) am).store).idx).AY).length,bW,((doW (⟨(⟨(⟨E,aa⟩:Idx),ab,ac⟩:Sto),(⟨ae,af,ag,ah⟩:Dsk)⟩:Wld) am).store).parts,bX,(((doW (⟨(⟨(⟨E,aa⟩:Idx),ab,ac⟩:Sto),(⟨ae,af,ag,ah⟩:Dsk)⟩:Wld) am).store).parts).length,bY,((doW (⟨(⟨(⟨E,aa⟩:Idx),ab,ac⟩:Sto),(⟨ae,af,ag,ah⟩:Dsk)⟩:Wld) am).store).mem,bZ,(((doW (⟨(⟨(⟨E,aa⟩:Idx),ab,ac⟩:Sto),(⟨ae,af,ag,ah⟩:Dsk)⟩:Wld) am).store).mem).length,b0,((doW (⟨(⟨(⟨E,aa⟩:Idx),ab,ac⟩:Sto),(⟨ae,af,ag,ah⟩:Dsk)⟩:Wld) am).disk).files,b6,(((doW (⟨(⟨(⟨E,aa⟩:Idx),ab,ac⟩:Sto),(⟨ae,af,ag,ah⟩:Dsk)⟩:Wld) am).disk).files).length,b7,((doW (⟨(⟨(⟨E,aa⟩:Idx),ab,ac⟩:Sto),(⟨ae,af,ag,ah⟩:Dsk)⟩:Wld) am).disk).list,b8,(((doW (⟨(⟨(⟨E,aa⟩:Idx),ab,ac⟩:Sto),(⟨ae,af,ag,ah⟩:Dsk)⟩:Wld) am).disk).list).length,b9,((doW (⟨(⟨(⟨E,aa⟩:Idx),ab,ac⟩:Sto),(⟨ae,af,ag,ah⟩:Dsk)⟩:Wld) am).disk).names,cd,(((doW (⟨(⟨(⟨E,aa⟩:Idx),ab,ac⟩:Sto),(⟨ae,af,ag,ah⟩:Dsk)⟩:Wld) am).disk).names).length,ce,((doW (⟨(⟨(⟨E,aa⟩:Idx),ab,ac⟩:Sto),(⟨ae,af,ag,ah⟩:Dsk)⟩:Wld) am).disk).next) _ _ ⟨AA,AA,AA,AA,trivial⟩ ⟨aN,bg,bh,bi,bj,bk,bm,bn,cy,AB,(by exact PD ‹_› ‹_›),(by exact WV.do ‹_› (p0 _ ‹_›).1)⟩ (by (simp only []; omega))
 refine .d<|.cf<|.x 0 rfl<|.s<|.g<|.ln ao<|.cl (DV (⟨(⟨(⟨E,aa⟩:Idx),ab,ac⟩:Sto),(⟨ae,af,ag,ah⟩:Dsk)⟩:Wld) aK.ta aL.ta aA.ta aB.ta aC.ta aD.ta aE.ta (by assumption:WV ⟨⟨⟨E,aa⟩,ab,ac⟩,⟨ae,af,ag,ah⟩⟩).wd.wi (w:=aS) (F:=all)) ?_
 rintro fG bo ⟨⟨dw,fH,dx,dy,fI,dz,dA,fJ,dB,aM,dC,dD,aI,dE,dF,aH,dG,dH,aF,dI,dJ,rfl,ax,ay,az,aJ,br,aG,bt,ee,ar,bu,eg,eh,aq,bv,ej,ek,en⟩,bL⟩
 have aP:=al2 ao.lt al.lt
 have aR:Gb w.heap.size aS.heap.size:=ai.size
 have eA:=Bj br al.lt
 have eB:=Bj br ao.lt
 have cA:=Dg br ai.size
 have eC:=Bj bt al.lt
 have eD:=Bj bt ao.lt
 have cB:=Dg bt ai.size
 have eE:=Bj bu al.lt
 have eF:=Bj bu ao.lt
 have cC:=Dg bu ai.size
 have eG:=Bj bv al.lt
 have eH:=Bj bv ao.lt
 have cD:=Dg bv ai.size
 replace ⟨al,ai⟩:=(se [] bL).g2 al ai
 replace ax:RepS bo (nin (ge w.heap.size) [aM,aI,aH,aF,ak,aj]) _ _ _ _:=RepS.Bn (s0:=w.heap.size) (M:=[ak,aj]) ax aP aR
 replace ax:=ax.base (G':=fo F w.heap.size) (fun _ _ h=>.inr h)
 have eI:=ax.max
 replace ay:RepS bo (nin (ge w.heap.size) [aM,aI,aH,aF,ak,aj]) _ _ _ _:=RepS.Bn (s0:=w.heap.size) (M:=[ak,aj]) ay aP aR
 replace ay:=ay.base (G':=fo F w.heap.size) (fun _ _ h=>.inr h)
 have eJ:=ay.max
 replace az:RepS bo (nin (ge w.heap.size) [aM,aI,aH,aF,ak,aj]) _ _ _ _:=RepS.Bn (s0:=w.heap.size) (M:=[ak,aj]) az aP aR
 replace az:=az.base (G':=fo F w.heap.size) (fun _ _ h=>.inr h)
 have eK:=az.max
 replace aJ:Own bo aM 107 (nin (ge w.heap.size) [aM,aI,aH,aF,ak,aj]) _ _ _:=Own.Bn (s0:=w.heap.size) (M:=[ak,aj]) aJ aP aR
 replace aJ:=aJ.base (G':=fo F w.heap.size) (fun _ _ h=>.inr h)
 replace aG:Own bo aI 110 (nin (ge w.heap.size) [aM,aI,aH,aF,ak,aj]) _ _ _:=Own.Bn (s0:=w.heap.size) (M:=[ak,aj]) aG aP aR
 replace aG:=aG.base (G':=fo F w.heap.size) (fun _ _ h=>.inr h)
 replace ar:Own bo aH 3 (nin (ge w.heap.size) [aM,aI,aH,aF,ak,aj]) _ _ _:=Own.Bn (s0:=w.heap.size) (M:=[ak,aj]) ar aP aR
 replace ar:=ar.base (G':=fo F w.heap.size) (fun _ _ h=>.inr h)
 replace aq:Own bo aF 42 (nin (ge w.heap.size) [aM,aI,aH,aF,ak,aj]) _ _ _:=Own.Bn (s0:=w.heap.size) (M:=[ak,aj]) aq aP aR
 replace aq:=aq.base (G':=fo F w.heap.size) (fun _ _ h=>.inr h)
 have cE:=ax.len
 subst cE
 have cF:=ay.len
 subst cF
 have cG:=az.len
 subst cG
 refine .sc [.slice dw ((((((AX (⟨(⟨(⟨E,aa⟩:Idx),ab,ac⟩:Sto),(⟨ae,af,ag,ah⟩:Dsk)⟩:Wld))).store).idx).names).length) dx,.slice dy ((((((AX (⟨(⟨(⟨E,aa⟩:Idx),ab,ac⟩:Sto),(⟨ae,af,ag,ah⟩:Dsk)⟩:Wld))).store).idx).AY).length) dz,.slice dA (((((AX (⟨(⟨(⟨E,aa⟩:Idx),ab,ac⟩:Sto),(⟨ae,af,ag,ah⟩:Dsk)⟩:Wld))).store).parts).length) dB,vS aM dC dD,vS aI dE dF,vS aH dG dH,vS aF dI dJ,vI ((((AX (⟨(⟨(⟨E,aa⟩:Idx),ab,ac⟩:Sto),(⟨ae,af,ag,ah⟩:Dsk)⟩:Wld))).disk).next)] al fun bD bM cH cI=>?_
 replace ⟨ax,ay,az,aJ,aG,ar,aq,ai⟩:=(so [aM,aI,aH,aF,ak,aj] bM).g8 ax ay az aJ aG ar aq ai
 refine .r 1<|.d ?_
 have bq:=aJ.sl (.inr cA)
 replace ⟨ax,ay,az,aG,ar,aq⟩:=(sd bD [aM,aI,aH,aF,ak,aj] aM).g6 ax ay az aG ar aq
 have bz:=aG.sl (.inr cB)
 replace ⟨ax,ay,az,bq,ar,aq⟩:=(sd bD [aI,aH,aF,ak,aj] aI).g6 ax ay az bq ar aq
 have bN:=ar.sl (.inr cC)
 replace ⟨ax,ay,az,bq,bz,aq⟩:=(sd bD [aH,aF,ak,aj] aH).g6 ax ay az bq bz aq
 have dK:=aq.sl (.inr cD)
 replace ⟨ax,ay,az,bq,bz,bN⟩:=(sd bD [aF,ak,aj] aF).g6 ax ay az bq bz bN
 exact .r2 func10 results10 (.bx cH) (.t (.bool true)) ⟨⟨_,(Bv rfl (AG (by (rw [Iv ‹_›])))),(VS.of (y:=(⟨(⟨(⟨((((AX (⟨(⟨(⟨E,aa⟩:Idx),ab,ac⟩:Sto),(⟨ae,af,ag,ah⟩:Dsk)⟩:Wld))).store).idx).names,((((AX (⟨(⟨(⟨E,aa⟩:Idx),ab,ac⟩:Sto),(⟨ae,af,ag,ah⟩:Dsk)⟩:Wld))).store).idx).AY⟩:Idx),(((AX (⟨(⟨(⟨E,aa⟩:Idx),ab,ac⟩:Sto),(⟨ae,af,ag,ah⟩:Dsk)⟩:Wld))).store).parts,(((AX (⟨(⟨(⟨E,aa⟩:Idx),ab,ac⟩:Sto),(⟨ae,af,ag,ah⟩:Dsk)⟩:Wld))).store).mem⟩:Sto),(⟨(((AX (⟨(⟨(⟨E,aa⟩:Idx),ab,ac⟩:Sto),(⟨ae,af,ag,ah⟩:Dsk)⟩:Wld))).disk).files,(((AX (⟨(⟨(⟨E,aa⟩:Idx),ab,ac⟩:Sto),(⟨ae,af,ag,ah⟩:Dsk)⟩:Wld))).disk).list,(((AX (⟨(⟨(⟨E,aa⟩:Idx),ab,ac⟩:Sto),(⟨ae,af,ag,ah⟩:Dsk)⟩:Wld))).disk).names,(((AX (⟨(⟨(⟨E,aa⟩:Idx),ab,ac⟩:Sto),(⟨ae,af,ag,ah⟩:Dsk)⟩:Wld))).disk).next⟩:Dsk)⟩:Wld)) ⟨_,rfl,⟨_,_,_,_,_,_,_,_,_,_,_,_,_,_,_,_,_,_,_,_,_,rfl,ax.w1,ay.w1,az.w1,bq.w1,bz.w1,bN.w1,dK.w1⟩⟩ (by (rw [Iv ‹_›]; exact (WV.copy (by assumption:WV ⟨⟨⟨E,aa⟩,ab,ac⟩,⟨ae,af,ag,ah⟩⟩)).trans (Q9 ‹_› AB))))⟩,ai⟩
theorem Ky  {F:Nat→Prop}{b:Nat}{ad:Option Addr}{cd p:Nat}{D:List UInt8}(hr:Box w b 121 [.slice ad D.length cd,.int .i64 (p:Int)]) (hD:RepS w (nin all [b]) ad D.length cd D) (hp:p+3000≤1000000000)  : Calls Tryz.prog 33 [.pointer (some ⟨b,0,none⟩)].toArray w (Aj fun rv w'=>(∃ (es:List Evt),(∃ v0 v1,rv=.tuple #[v0,v1]∧VO 46 w.heap.size w' (es:List Evt) v0∧(∃ (a0:Option Addr) (n0 c0:Nat) (a1:Option Addr) (n1 c1:Nat) (a2:Option Addr) (n2 c2:Nat) (a3:Option Addr) (n3 c3:Nat) (a4:Option Addr) (n4 c4:Nat) (a5:Option Addr) (n5 c5:Nat) (a6:Option Addr) (n6 c6:Nat) (z7:Int),v1=.agg #[.slice a0 n0 c0,.slice a1 n1 c1,.slice a2 n2 c2,.slice a3 n3 c3,.slice a4 n4 c4,.slice a5 n5 c5,.slice a6 n6 c6,.int .i64 z7]))∧(EsD es∧es.length≤46))∧∃ p':Nat,p'≤p+3000∧Box w' b 121 [.slice ad D.length cd,.int .i64 (p':Int)]∧Chg (one b) w w'):=by
 refine goT func33 ?_
 refine .s<|.g<|.r 1<|.np 38 [AH,AH,AH,AH,AH,AH,AH,vI 0] fun ab cM bQ bW ac dA=>?_
 have gi:=Ab bQ hr.lt
 have gj:Cov (one b) w ab:=Et bQ (Nat.le_refl _)
 replace ⟨hD,hr⟩:=(sn [b] bW bQ).g2 hD hr
 have E:Chg (one b) w cM:=Chg.GP (Chg.refl (one b) w) bW
 refine .d<|.s<|.g<|.cl (E8 (w:=cM) (F:=all)) ?_
 rintro gT gU ⟨⟨_,rfl,⟨dB,gV,dC,dD,gW,dE,dF,gX,dG,dH,gY,dI,dJ,gZ,dK,dL,g0,dM,dN,hC,dO,rfl,bj,bk,bm,bn,bo,bq,br⟩⟩,ck⟩
 have bt:=al2 ac.lt hr.lt
 have bv:Gb w.heap.size cM.heap.size:=E.size
 replace ⟨hD,hr,ac,E⟩:=(se [ab,b] ck).g4 hD hr ac E
 have bj:=bj.fr bt bv
 have gk:=bj.max
 have bk:=bk.fr bt bv
 have gl:=bk.max
 have bm:=bm.fr bt bv
 have gm:=bm.max
 have bn:=bn.fr bt bv
 have gn:=bn.max
 have bo:=bo.fr bt bv
 have gp:=bo.max
 have bq:=bq.fr bt bv
 have gq:=bq.max
 have br:=br.fr bt bv
 have gr:=br.max
 have dP:=bj.len
 subst dP
 have dQ:=bk.len
 subst dQ
 have dR:=bm.len
 subst dR
 have dS:=bn.len
 subst dS
 have dT:=bo.len
 subst dT
 have dU:=bq.len
 subst dU
 have dV:=br.len
 subst dV
 refine .np 38 [AH,AH,AH,AH,AH,AH,AH,vI 0] fun aa hE bG cm dW dX=>?_
 have gs:=Ab bG hr.lt
 have gt:=Ab bG ac.lt
 have gu:=E.cn bG
 replace ⟨hD,hr,ac,bj,bk,bm,bn,bo,bq,br,E⟩:=(sn [ab,b] cm bG).g11 hD hr ac bj bk bm bn bo bq br E
 refine .sc [.slice dB ((((((⟨⟨⟨[],[]⟩,[],[]⟩,⟨[],[],[],1⟩⟩:Wld)).store).idx).names).length) dC,.slice dD ((((((⟨⟨⟨[],[]⟩,[],[]⟩,⟨[],[],[],1⟩⟩:Wld)).store).idx).AY).length) dE,.slice dF (((((⟨⟨⟨[],[]⟩,[],[]⟩,⟨[],[],[],1⟩⟩:Wld)).store).parts).length) dG,.slice dH (((((⟨⟨⟨[],[]⟩,[],[]⟩,⟨[],[],[],1⟩⟩:Wld)).store).mem).length) dI,.slice dJ (((((⟨⟨⟨[],[]⟩,[],[]⟩,⟨[],[],[],1⟩⟩:Wld)).disk).files).length) dK,.slice dL (((((⟨⟨⟨[],[]⟩,[],[]⟩,⟨[],[],[],1⟩⟩:Wld)).disk).list).length) dM,.slice dN (((((⟨⟨⟨[],[]⟩,[],[]⟩,⟨[],[],[],1⟩⟩:Wld)).disk).names).length) dO,vI ((((⟨⟨⟨[],[]⟩,[],[]⟩,⟨[],[],[],1⟩⟩:Wld)).disk).next)] dW fun hH co bw dY=>?_
 replace ⟨hD,hr,ac,bj,bk,bm,bn,bo,bq,br,E⟩:=(so [aa,ab,b] co).g11 hD hr ac bj bk bm bn bo bq br E
 refine .d<|.s<|.g<|.ns 0 46 [] fun bz dZ bA cp d0 d3=>?_
 have d4:=Ab bA hr.lt
 have d5:=Ab bA ac.lt
 have d6:=Ab bA bw.lt
 have d7:=BU bA E.size
 have d8:=E.cn bA
 replace ⟨hD,hr,ac,bj,bk,bm,bn,bo,bq,br,bw,E⟩:=(sn [aa,ab,b] cp bA).g12 hD hr ac bj bk bm bn bo bq br bw E
 have bH:Own (α:=Evt) dZ bz 46 (nin (ge w.heap.size) [bz,aa,ab,b]) 0 0 []:=Own.BO d0
 refine .r 1<|.d<|.s<|.s<|.g<|.r 1<|.cl (At 46 hr (hD.BY AL) AB (w:=dZ) (F:=all)) ?_
 rintro gv bB ⟨⟨d9,rfl,eK⟩,ec,eL,bX,bY⟩
 replace ⟨hD,ac,bj,bk,bm,bn,bo,bq,br,bw,bH,E⟩:=(so [bz,aa,ab,b] bY).g12 hD ac bj bk bm bn bo bq br bw bH E
 refine .r 1<|.d<|.b 0<|T.loop (X:=(List Evt) × Nat × Nat × Nat × Int × Nat × (List (List Tag)) × (Option Addr) × Nat × Nat × (List Pst) × (Option Addr) × Nat × Nat × (List Prt) × (Option Addr) × Nat × Nat × (List Smp) × (Option Addr) × Nat × Nat × (List Fil) × (Option Addr) × Nat × Nat × (List Int) × (Option Addr) × Nat × Nat × (List (List Tag)) × (Option Addr) × Nat × Nat × Int) (([]:List Evt),bz,0,0,d9,ec,(((((⟨⟨⟨[],[]⟩,[],[]⟩,⟨[],[],[],1⟩⟩:Wld)).store).idx).names:List (List Tag)),dB,(((((⟨⟨⟨[],[]⟩,[],[]⟩,⟨[],[],[],1⟩⟩:Wld)).store).idx).names).length,dC,(((((⟨⟨⟨[],[]⟩,[],[]⟩,⟨[],[],[],1⟩⟩:Wld)).store).idx).AY:List Pst),dD,(((((⟨⟨⟨[],[]⟩,[],[]⟩,⟨[],[],[],1⟩⟩:Wld)).store).idx).AY).length,dE,((((⟨⟨⟨[],[]⟩,[],[]⟩,⟨[],[],[],1⟩⟩:Wld)).store).parts:List Prt),dF,((((⟨⟨⟨[],[]⟩,[],[]⟩,⟨[],[],[],1⟩⟩:Wld)).store).parts).length,dG,((((⟨⟨⟨[],[]⟩,[],[]⟩,⟨[],[],[],1⟩⟩:Wld)).store).mem:List Smp),dH,((((⟨⟨⟨[],[]⟩,[],[]⟩,⟨[],[],[],1⟩⟩:Wld)).store).mem).length,dI,((((⟨⟨⟨[],[]⟩,[],[]⟩,⟨[],[],[],1⟩⟩:Wld)).disk).files:List Fil),dJ,((((⟨⟨⟨[],[]⟩,[],[]⟩,⟨[],[],[],1⟩⟩:Wld)).disk).files).length,dK,((((⟨⟨⟨[],[]⟩,[],[]⟩,⟨[],[],[],1⟩⟩:Wld)).disk).list:List Int),dL,((((⟨⟨⟨[],[]⟩,[],[]⟩,⟨[],[],[],1⟩⟩:Wld)).disk).list).length,dM,((((⟨⟨⟨[],[]⟩,[],[]⟩,⟨[],[],[],1⟩⟩:Wld)).disk).names:List (List Tag)),dN,((((⟨⟨⟨[],[]⟩,[],[]⟩,⟨[],[],[],1⟩⟩:Wld)).disk).names).length,dO,(((⟨⟨⟨[],[]⟩,[],[]⟩,⟨[],[],[],1⟩⟩:Wld)).disk).next) (fun (events,r_events,n_events,c_events,n,p_,ar,a_w_0,n_w_0,c_w_0,ax,a_w_1,n_w_1,c_w_1,ay,a_w_2,n_w_2,c_w_2,az,a_w_3,n_w_3,c_w_3,aA,a_w_4,n_w_4,c_w_4,aB,a_w_5,n_w_5,c_w_5,aC,a_w_6,n_w_6,c_w_6,aD)=>[(0,.pointer (some ⟨b,0,none⟩)),(3,.pointer (some ⟨ab,0,none⟩)),(4,.pointer (some ⟨aa,0,none⟩)),(5,vS r_events n_events c_events),(6,vI n)]) (fun (events,r_events,n_events,c_events,n,p_,ar,a_w_0,n_w_0,c_w_0,ax,a_w_1,n_w_1,c_w_1,ay,a_w_2,n_w_2,c_w_2,az,a_w_3,n_w_3,c_w_3,aA,a_w_4,n_w_4,c_w_4,aB,a_w_5,n_w_5,c_w_5,aC,a_w_6,n_w_6,c_w_6,aD) aG=>Chg (ins [bz,b,aa]) bB aG∧Own aG r_events 46 (nin (ge w.heap.size) [r_events,aa,ab,b]) n_events c_events events∧OrB r_events bz bB.heap.size∧RepS aG (nin (ge w.heap.size) [r_events,aa,ab,b]) a_w_0 n_w_0 c_w_0 ar∧RepS aG (nin (ge w.heap.size) [r_events,aa,ab,b]) a_w_1 n_w_1 c_w_1 ax∧RepS aG (nin (ge w.heap.size) [r_events,aa,ab,b]) a_w_2 n_w_2 c_w_2 ay∧RepS aG (nin (ge w.heap.size) [r_events,aa,ab,b]) a_w_3 n_w_3 c_w_3 az∧RepS aG (nin (ge w.heap.size) [r_events,aa,ab,b]) a_w_4 n_w_4 c_w_4 aA∧RepS aG (nin (ge w.heap.size) [r_events,aa,ab,b]) a_w_5 n_w_5 c_w_5 aB∧RepS aG (nin (ge w.heap.size) [r_events,aa,ab,b]) a_w_6 n_w_6 c_w_6 aC∧Box aG b 121 [.slice ad D.length cd,vI (p_:Int)]∧Box aG aa 38 [.slice a_w_0 n_w_0 c_w_0,.slice a_w_1 n_w_1 c_w_1,.slice a_w_2 n_w_2 c_w_2,.slice a_w_3 n_w_3 c_w_3,.slice a_w_4 n_w_4 c_w_4,.slice a_w_5 n_w_5 c_w_5,.slice a_w_6 n_w_6 c_w_6,vI aD]∧(n≤46)∧((events.length:Int)+n≤46∧0≤n∨n< 0∧events.length≤46)∧((p_:Int)+61 * n≤p+2900∨n< 0)∧(p_≤p+2900)∧(WD ⟨⟨⟨ar,ax⟩,ay,az⟩,⟨aA,aB,aC,aD⟩⟩)∧(EsD events)) (fun (events,r_events,n_events,c_events,n,p_,ar,a_w_0,n_w_0,c_w_0,ax,a_w_1,n_w_1,c_w_1,ay,a_w_2,n_w_2,c_w_2,az,a_w_3,n_w_3,c_w_3,aA,a_w_4,n_w_4,c_w_4,aB,a_w_5,n_w_5,c_w_5,aC,a_w_6,n_w_6,c_w_6,aD)=>n.toNat) AA ⟨AA,AA,AA,AA,AA,trivial⟩ ⟨Chg.refl _ _,bH,Dr,bj,bk,bm,bn,bo,bq,br,bX,bw,AB,(by (simp; omega)),AB,AB,(by exact WD.new),(by exact EsD.nil)⟩ ?_
 rintro ⟨events,r_events,n_events,c_events,n,p_,ar,a_w_0,n_w_0,c_w_0,ax,a_w_1,n_w_1,c_w_1,ay,a_w_2,n_w_2,c_w_2,az,a_w_3,n_w_3,c_w_3,aA,a_w_4,n_w_4,c_w_4,aB,a_w_5,n_w_5,c_w_5,aC,a_w_6,n_w_6,c_w_6,aD⟩ gw aG ⟨aq,ao,aL,ag,ah,ai,aj,ak,al,am,aM,af,eM,eN,eO,eP,eQ,eR⟩ bU
 have eS:=Ca aL d4 bX.lt
 have eT:=Ca aL d5 ac.lt
 have cN:=Ca aL d6 bw.lt
 have cO:=Jg aL d7 E.size
 have eU:=Cm aL d8 E.size
 have cP:Cov (ins [bz,b,aa]) bB bz:=⟨.inl AI⟩
 have eV:Cov (ins [bz,b,aa]) bB b:=⟨.inl AJ⟩
 have eW:Cov (ins [bz,b,aa]) bB aa:=⟨.inl AK⟩
 have eX:=Cm aL cP (Nat.le_refl _)
 have bZ:Mv [bz,aa,ab,b] [r_events,aa,ab,b] bB aG:=Mv.inl aq (all_cons AI (all_cons AL (all_cons AJ all_nil))) (all_cons (FL aL AI) (all_cons (.inl AJ) (all_cons (.inl AK) (all_cons (.inl AL) all_nil))))
 replace ⟨hD,ac,E⟩:=(sp bZ aq).g3 hD ac E
 have eY:=ao.len; have eZ:=ao.max
 have fm:=al.len; have fp:=al.max
 refine .s<|.s<|.g<|.r 1<|.bp (n > 0) (fun cQ=>?_) (fun cQ=>?_)
 ·refine .d<|.ct<|.sk<|.s<|.b 1<|.s<|.g<|.r 1<|.ln af<|.cl (FA (⟨(⟨(⟨ar,ax⟩:Idx),ay,az⟩:Sto),(⟨aA,aB,aC,aD⟩:Dsk)⟩:Wld) aM (hD.BY AL) AB (ag.BY AL) (ah.BY AL) (ai.BY AL) (aj.BY AL) (ak.BY AL) (al.BY AL) (am.BY AL) (by have q1:WD ⟨⟨⟨ar,ax⟩,ay,az⟩,⟨aA,aB,aC,aD⟩⟩:=‹_›; have q2:=q1.wi.dsk.nl; dsimp only at q2 ⊢; omega) (w:=aG) (F:=all)) ?_
  rintro gy gz ⟨⟨ae,⟨_,rfl,⟨cq,gA,cr,rfl,aJ⟩⟩,fv⟩,ee,fw,aE,bI⟩
  have b0:=al4 ao.lt af.lt ac.lt aM.lt
  have cR:Gb w.heap.size aG.heap.size:=E.size
  replace ⟨hD,ac,af,ao,ag,ah,ai,aj,ak,al,am,E⟩:=(so [r_events,aa,ab,b] bI).g12 hD ac af ao ag ah ai aj ak al am E
  replace aq:=(so [r_events,aa,ab,b] bI).g1 aq
  have aJ:=aJ.fr b0 cR
  have fA:=aJ.max
  have cS:=aJ.len
  subst cS
  refine .np 46 [vI 0,vI 0,vI 0,AH,vI 0,vI 0] fun aF gC aK bJ cT cU=>?_
  have fB:=Ab aK aE.lt
  have fC:=Ab aK ac.lt
  have fD:=Ab aK af.lt
  have fE:=Ab aK ao.lt
  have fF:=E.cn aK
  have fG:=aq.cn aK
  replace ⟨hD,aE,ac,af,ao,ag,ah,ai,aj,ak,al,am⟩:=(sn [r_events,aa,ab,b] bJ aK).g12 hD aE ac af ao ag ah ai aj ak al am
  replace ⟨aJ,E,aq⟩:=(sn [r_events,aa,ab,b] bJ aK).g3 aJ E aq
  refine .sc [vI ae.kind,vI ae.at_,vI ae.cut,.slice cq ae.name.length cr,vI ae.row.t,vI ae.row.v] cT fun gD bK aN cV=>?_
  replace ⟨hD,aE,ac,af,ao,ag,ah,ai,aj,ak,al,am⟩:=(so [aF,r_events,aa,ab,b] bK).g12 hD aE ac af ao ag ah ai aj ak al am
  replace ⟨aJ,E,aq⟩:=(so [aF,r_events,aa,ab,b] bK).g3 aJ E aq
  refine .d<|.s<|.g<|.r 1<|.ln aN<|.ns 1 46 [vI ae.kind,vI ae.at_,vI ae.cut,.slice cq ae.name.length cr,vI ae.row.t,vI ae.row.v] fun cu gE aU bL cW cX=>?_
  have cY:=Ab aU aE.lt
  have cZ:=Ab aU ac.lt
  have c7:=Ab aU af.lt
  have b6:=Ab aU ao.lt
  have c8:=Ab aU aN.lt
  have da:=BU aU E.size
  replace ⟨hD,aE,ac,af,ao,ag,ah,ai,aj,ak,al,am⟩:=(se [aF,r_events,aa,ab,b] bL).g12 hD aE ac af ao ag ah ai aj ak al am
  replace ⟨aJ,aN,E,aq⟩:=(se [aF,r_events,aa,ab,b] bL).g4 aJ aN E aq
  have bV:nin (ge w.heap.size) [aF,r_events,aa,ab,b] cu∧cu≠r_events:=DJ da (all_cons c8 (all_cons b6 (all_cons c7 (all_cons cZ (all_cons cY all_nil))))) b6
  refine RG.CM (T:=23) (ty:=23) (y:=ae) ao cW AA AA ⟨_,_,_,rfl,aJ.oi⟩ bV AB fun aI eg cw aH aX bM=>?_
  have fH:=BQ aX cN af.lt
  have db:=HM aX aL aq.size
  replace ⟨hD,aE,ac,af,ag,ah,ai,aj,ak,al,am,aJ⟩:=(sa [aF,r_events,aa,ab,b] bM aX).g12 hD aE ac af ag ah ai aj ak al am aJ
  replace ⟨aN,E,aq⟩:=(sa [aF,r_events,aa,ab,b] bM aX).g3 aN E aq
  replace aH:=aH.rn r_events
  have fI:=aH.len
  refine .r 1<|.d<|.g<|.ln af<|.ln aN<|.cl (FP (⟨(⟨(⟨ar,ax⟩:Idx),ay,az⟩:Sto),(⟨aA,aB,aC,aD⟩:Dsk)⟩:Wld) ae ag ah ai aj ak al am aJ (by assumption:WD _).wi (NmD.sz (by assumption:EvD _).1) (w:=cw) (F:=nin (ge w.heap.size) [aF,aI,aa,ab,b])) ?_
  rintro gF gG ⟨⟨_,rfl,⟨cx,gH,cy,cz,gI,cA,cB,gJ,cC,cD,gK,cE,cF,gL,cG,cH,gM,cI,cJ,gN,cK,rfl,aY,aZ,ba,bd,bg,bh,bi⟩⟩,bN⟩
  have aO:=al5 aN.lt aH.lt af.lt ac.lt aE.lt
  have aV:Gb w.heap.size cw.heap.size:=E.size
  replace ⟨hD,aE,ac,af,aH,ag,ah,ai,aj,ak,al,am⟩:=(se [aF,aI,aa,ab,b] bN).g12 hD aE ac af aH ag ah ai aj ak al am
  replace ⟨E,aq⟩:=(se [aF,aI,aa,ab,b] bN).g2 E aq
  replace aY:=RepS.EN (M:=[aF,aI,aa,ab,b]) aY aO (fun _ h=>Nat.le_trans aV h)
  have fK:=aY.max
  replace aZ:=RepS.EN (M:=[aF,aI,aa,ab,b]) aZ aO (fun _ h=>Nat.le_trans aV h)
  have fL:=aZ.max
  replace ba:=RepS.EN (M:=[aF,aI,aa,ab,b]) ba aO (fun _ h=>Nat.le_trans aV h)
  have fM:=ba.max
  replace bd:=RepS.EN (M:=[aF,aI,aa,ab,b]) bd aO (fun _ h=>Nat.le_trans aV h)
  have fN:=bd.max
  replace bg:=RepS.EN (M:=[aF,aI,aa,ab,b]) bg aO (fun _ h=>Nat.le_trans aV h)
  have fO:=bg.max
  replace bh:=RepS.EN (M:=[aF,aI,aa,ab,b]) bh aO (fun _ h=>Nat.le_trans aV h)
  have fP:=bh.max
  replace bi:=RepS.EN (M:=[aF,aI,aa,ab,b]) bi aO (fun _ h=>Nat.le_trans aV h)
  have fQ:=bi.max
  have de:=aY.len
  subst de
  have df:=aZ.len
  subst df
  have dh:=ba.len
  subst dh
  have dj:=bd.len
  subst dj
  have dm:=bg.len
  subst dm
  have dp:=bh.len
  subst dp
  have dq:=bi.len
  subst dq
  refine .sc [.slice cx (((((doW (⟨(⟨(⟨ar,ax⟩:Idx),ay,az⟩:Sto),(⟨aA,aB,aC,aD⟩:Dsk)⟩:Wld) ae).store).idx).names).length) cy,.slice cz (((((doW (⟨(⟨(⟨ar,ax⟩:Idx),ay,az⟩:Sto),(⟨aA,aB,aC,aD⟩:Dsk)⟩:Wld) ae).store).idx).AY).length) cA,.slice cB ((((doW (⟨(⟨(⟨ar,ax⟩:Idx),ay,az⟩:Sto),(⟨aA,aB,aC,aD⟩:Dsk)⟩:Wld) ae).store).parts).length) cC,.slice cD ((((doW (⟨(⟨(⟨ar,ax⟩:Idx),ay,az⟩:Sto),(⟨aA,aB,aC,aD⟩:Dsk)⟩:Wld) ae).store).mem).length) cE,.slice cF ((((doW (⟨(⟨(⟨ar,ax⟩:Idx),ay,az⟩:Sto),(⟨aA,aB,aC,aD⟩:Dsk)⟩:Wld) ae).disk).files).length) cG,.slice cH ((((doW (⟨(⟨(⟨ar,ax⟩:Idx),ay,az⟩:Sto),(⟨aA,aB,aC,aD⟩:Dsk)⟩:Wld) ae).disk).list).length) cI,.slice cJ ((((doW (⟨(⟨(⟨ar,ax⟩:Idx),ay,az⟩:Sto),(⟨aA,aB,aC,aD⟩:Dsk)⟩:Wld) ae).disk).names).length) cK,vI (((doW (⟨(⟨(⟨ar,ax⟩:Idx),ay,az⟩:Sto),(⟨aA,aB,aC,aD⟩:Dsk)⟩:Wld) ae).disk).next)] af fun cL bO dt du=>?_
  replace ⟨hD,aE,ac,aH,ag,ah,ai,aj,ak,al,am,aY⟩:=(so [aF,aI,aa,ab,b] bO).g12 hD aE ac aH ag ah ai aj ak al am aY
  replace ⟨aZ,ba,bd,bg,bh,bi,E,aq⟩:=(so [aF,aI,aa,ab,b] bO).g8 aZ ba bd bg bh bi E aq
  refine .d<|.ib 1<|.g<|.r 1<|.it (n - 1)<|.r 1<|.d ?_
  have b7:Mv [aF,aI,aa,ab,b] [aI,aa,ab,b] cL cL:=Mv.less (all_cons AJ (all_cons AK (all_cons AL (all_cons AM all_nil))))
  replace ⟨hD,aH,ag,ah,ai,aj,ak,al,am,aY,aZ,ba⟩:=(sp b7 (Chg.refl nil _)).g12 hD aH ag ah ai aj ak al am aY aZ ba
  replace ⟨bd,bg,bh,bi⟩:=(sp b7 (Chg.refl nil _)).g4 bd bg bh bi
  exact bU ((events++[ae]),aI,n_events+1,eg,n - 1,ee,(((doW (⟨(⟨(⟨ar,ax⟩:Idx),ay,az⟩:Sto),(⟨aA,aB,aC,aD⟩:Dsk)⟩:Wld) ae).store).idx).names,cx,((((doW (⟨(⟨(⟨ar,ax⟩:Idx),ay,az⟩:Sto),(⟨aA,aB,aC,aD⟩:Dsk)⟩:Wld) ae).store).idx).names).length,cy,(((doW (⟨(⟨(⟨ar,ax⟩:Idx),ay,az⟩:Sto),(⟨aA,aB,aC,aD⟩:Dsk)⟩:Wld) ae).store).idx).AY,cz,((((doW (⟨(⟨(⟨ar,ax⟩:Idx),ay,az⟩:Sto),(⟨aA,aB,aC,aD⟩:Dsk)⟩:Wld) ae).store).idx).AY).length,cA,((doW (⟨(⟨(⟨ar,ax⟩:Idx),ay,az⟩:Sto),(⟨aA,aB,aC,aD⟩:Dsk)⟩:Wld) ae).store).parts,cB,(((doW (⟨(⟨(⟨ar,ax⟩:Idx),ay,az⟩:Sto),(⟨aA,aB,aC,aD⟩:Dsk)⟩:Wld) ae).store).parts).length,cC,((doW (⟨(⟨(⟨ar,ax⟩:Idx),ay,az⟩:Sto),(⟨aA,aB,aC,aD⟩:Dsk)⟩:Wld) ae).store).mem,cD,(((doW (⟨(⟨(⟨ar,ax⟩:Idx),ay,az⟩:Sto),(⟨aA,aB,aC,aD⟩:Dsk)⟩:Wld) ae).store).mem).length,cE,((doW (⟨(⟨(⟨ar,ax⟩:Idx),ay,az⟩:Sto),(⟨aA,aB,aC,aD⟩:Dsk)⟩:Wld) ae).disk).files,cF,(((doW (⟨(⟨(⟨ar,ax⟩:Idx),ay,az⟩:Sto),(⟨aA,aB,aC,aD⟩:Dsk)⟩:Wld) ae).disk).files).length,cG,((doW (⟨(⟨(⟨ar,ax⟩:Idx),ay,az⟩:Sto),(⟨aA,aB,aC,aD⟩:Dsk)⟩:Wld) ae).disk).list,cH,(((doW (⟨(⟨(⟨ar,ax⟩:Idx),ay,az⟩:Sto),(⟨aA,aB,aC,aD⟩:Dsk)⟩:Wld) ae).disk).list).length,cI,((doW (⟨(⟨(⟨ar,ax⟩:Idx),ay,az⟩:Sto),(⟨aA,aB,aC,aD⟩:Dsk)⟩:Wld) ae).disk).names,cJ,(((doW (⟨(⟨(⟨ar,ax⟩:Idx),ay,az⟩:Sto),(⟨aA,aB,aC,aD⟩:Dsk)⟩:Wld) ae).disk).names).length,cK,((doW (⟨(⟨(⟨ar,ax⟩:Idx),ay,az⟩:Sto),(⟨aA,aB,aC,aD⟩:Dsk)⟩:Wld) ae).disk).next) _ _ ⟨AA,AA,AA,AA,AA,trivial⟩ ⟨aq,aH,db,aY,aZ,ba,bd,bg,bh,bi,aE,dt,AB,AB,AB,AB,(by exact WD.do ‹_› (by assumption:EvD _).1),(by exact EsD.snoc ‹_› ‹_›)⟩ (by (simp only []; omega))
 refine .d<|.cf<|.x 0 rfl<|.s<|.g<|.r 1<|.ln af<|.cl (DV (⟨(⟨(⟨ar,ax⟩:Idx),ay,az⟩:Sto),(⟨aA,aB,aC,aD⟩:Dsk)⟩:Wld) ag.ta ah.ta ai.ta aj.ta ak.ta al.ta am.ta (by assumption:WD _).wi (w:=aG) (F:=all)) ?_
 rintro gO bu ⟨⟨eh,gP,ej,ek,gQ,en,eA,gR,eB,aP,eC,eD,aQ,eE,eF,aR,eG,eH,aS,eI,eJ,rfl,bR,bS,bT,bC,b8,bD,b9,fR,bE,ce,fS,fT,bF,cg,fU,fV,fW⟩,bP⟩
 have aT:=al4 ao.lt af.lt ac.lt aM.lt
 have aW:Gb w.heap.size aG.heap.size:=E.size
 have ci:Mv [r_events,aa,ab,b] [aP,aQ,aR,aS,r_events,aa,ab,b] aG bu:=Mv.cons (Mv.cons (Mv.cons (Mv.cons (Mv.ext bP) cg) ce) b9) b8
 replace ⟨hD,aM,ac,ao,E⟩:=(sp ci bP).g5 hD aM ac ao E
 replace bR:RepS bu (nin (ge w.heap.size) [aP,aQ,aR,aS,r_events,aa,ab,b]) _ _ _ _:=RepS.Bn (s0:=w.heap.size) (M:=[r_events,aa,ab,b]) bR aT aW
 have fX:=bR.max
 replace bS:RepS bu (nin (ge w.heap.size) [aP,aQ,aR,aS,r_events,aa,ab,b]) _ _ _ _:=RepS.Bn (s0:=w.heap.size) (M:=[r_events,aa,ab,b]) bS aT aW
 have fY:=bS.max
 replace bT:RepS bu (nin (ge w.heap.size) [aP,aQ,aR,aS,r_events,aa,ab,b]) _ _ _ _:=RepS.Bn (s0:=w.heap.size) (M:=[r_events,aa,ab,b]) bT aT aW
 have fZ:=bT.max
 replace bC:Own bu aP 107 (nin (ge w.heap.size) [aP,aQ,aR,aS,r_events,aa,ab,b]) _ _ _:=Own.Bn (s0:=w.heap.size) (M:=[r_events,aa,ab,b]) bC aT aW
 replace bD:Own bu aQ 110 (nin (ge w.heap.size) [aP,aQ,aR,aS,r_events,aa,ab,b]) _ _ _:=Own.Bn (s0:=w.heap.size) (M:=[r_events,aa,ab,b]) bD aT aW
 replace bE:Own bu aR 3 (nin (ge w.heap.size) [aP,aQ,aR,aS,r_events,aa,ab,b]) _ _ _:=Own.Bn (s0:=w.heap.size) (M:=[r_events,aa,ab,b]) bE aT aW
 replace bF:Own bu aS 42 (nin (ge w.heap.size) [aP,aQ,aR,aS,r_events,aa,ab,b]) _ _ _:=Own.Bn (s0:=w.heap.size) (M:=[r_events,aa,ab,b]) bF aT aW
 have dv:=bR.len
 subst dv
 have dw:=bS.len
 subst dw
 have dx:=bT.len
 subst dx
 refine .r 1<|.sc [.slice eh ((((((AX (⟨(⟨(⟨ar,ax⟩:Idx),ay,az⟩:Sto),(⟨aA,aB,aC,aD⟩:Dsk)⟩:Wld))).store).idx).names).length) ej,.slice ek ((((((AX (⟨(⟨(⟨ar,ax⟩:Idx),ay,az⟩:Sto),(⟨aA,aB,aC,aD⟩:Dsk)⟩:Wld))).store).idx).AY).length) en,.slice eA (((((AX (⟨(⟨(⟨ar,ax⟩:Idx),ay,az⟩:Sto),(⟨aA,aB,aC,aD⟩:Dsk)⟩:Wld))).store).parts).length) eB,vS aP eC eD,vS aQ eE eF,vS aR eG eH,vS aS eI eJ,vI ((((AX (⟨(⟨(⟨ar,ax⟩:Idx),ay,az⟩:Sto),(⟨aA,aB,aC,aD⟩:Dsk)⟩:Wld))).disk).next)] ac fun gS cj dy dz=>?_
 replace ⟨hD,aM,ao,E⟩:=(so [aP,aQ,aR,aS,r_events,aa,ab,b] cj).g4 hD aM ao E
 exact .d<|.r2 func33 results33 (.t (vS r_events n_events c_events)) (.bx dy) ⟨⟨(events:List Evt),⟨_,_,(Bv rfl rfl),(VO.of ao AF cO),⟨_,_,_,_,_,_,_,_,_,_,_,_,_,_,_,_,_,_,_,_,_,_,rfl⟩⟩,(by exact ⟨by assumption,by omega⟩)⟩,p_,by omega,aM,E⟩
theorem E7 (code:List UInt8) (h1:RepS w F a1 n1 c1 code)  : Calls Tryz.prog 8 [.slice a1 n1 c1].toArray w (Aj fun rv w'=>(∃ (es:List Evt),VL (fo F w.heap.size) w' (es:List Evt) rv∧(EsD es))∧Ext w w'):=by
 refine goT func8 ?_
 obtain ⟨rfl,ck,h1⟩:=h1.tp
 refine .s<|.g<|.r 1<|.d<|.s<|.g<|.r 1<|.cl (IZ code h1 (w:=w) (F:=nin (fo F w.heap.size) [])) ?_
 rintro cC aR ⟨⟨cD,ag,cE,cF,rfl,aG,az,ab⟩,aH⟩
 have aI:∀ q_∈([]:List Nat),q_< w.heap.size:=all_nil
 have bi:Gb w.heap.size w.heap.size:=(Nat.le_refl _)
 have cm:Cov nil w ag:=Gl aG (Nat.le_refl _)
 have E:=aH
 replace ab:=RepS.SY (b:=ag) (M:=[]) ab aI bi
 refine .r 1<|.d<|.s<|.g<|.r 1<|.cl (Ky az (ab.BY AI) AB (w:=aR) (F:=all)) ?_
 rintro cG bB ⟨⟨aJ,⟨cH,cI,rfl,⟨ah,bj,bk,rfl,aa,am⟩,⟨bC,bD,bE,bF,bG,bH,bI,bJ,bK,bL,bM,bN,bO,bP,bQ,bR,bS,bT,bU,bV,bW,bX,rfl⟩⟩,co⟩,cJ,cp,ak,aA⟩
 have aK:=al1 az.lt
 have bm:Gb w.heap.size aR.heap.size:=E.size
 have bn:=Bj am az.lt
 have aL:=Dg am E.size
 have bo:Cov nil w ah:=Gl am E.size
 have aM:Mv [ag] [ah,ag] aR bB:=Mv.cons (Mv.on aA AI) am
 replace ⟨ab,E⟩:=(sp aM aA).g2 ab E
 replace aa:=Own.take (s0:=w.heap.size) (M:=[ag]) aa aK bm
 replace aa:=aa.base (G':=fo F w.heap.size) (fun _ _ h=>.inr h)
 have cq:=aa.len
 refine .r 3<|.np 38 [AH,AH,AH,AH,AH,AH,AH,vI 0] fun aB cK ao aN bq br=>?_
 have cu:=Ab ao ak.lt
 have bt:=Ab ao aa.lt
 have cw:=E.cn ao
 replace ⟨ab,ak,aa,E⟩:=(sn [ah,ag] aN ao).g4 ab ak aa E
 refine .r 1<|.sc [.slice bC bD bE,.slice bF bG bH,.slice bI bJ bK,.slice bL bM bN,.slice bO bP bQ,.slice bR bS bT,.slice bU bV bW,vI bX] bq fun bY aO al bu=>?_
 replace ⟨ab,ak,aa,E⟩:=(so [aB,ah,ag] aO).g4 ab ak aa E
 refine .d<|.s<|.s<|.g<|.r 1<|.cl (At 40 ak (ab.BY AK) AB (w:=bY) (F:=all)) ?_
 rintro cL aS ⟨⟨bZ,rfl,cx⟩,cM,cy,aq,aP⟩
 replace ⟨aa,al,E⟩:=(so [aB,ah,ag] aP).g3 aa al E
 refine .eq bZ 0 (fun aT=>?_) (fun aT=>?_)
 ·refine .d<|.ct<|.b 0<|T.loop (X:=(List Evt) × Nat × Nat × Nat) ((aJ:List Evt),ah,bj,bk) (fun (events,r_events,n_events,c_events)=>[(4,vS r_events n_events c_events)]) (fun (events,r_events,n_events,c_events) aC=>Chg (ins [ah]) aS aC∧Own aC r_events 46 (nin (fo F w.heap.size) [aB,r_events,ag]) n_events c_events events∧OrB r_events ah aS.heap.size∧(EsD events)∧(events.length≤51)) (fun (events,r_events,n_events,c_events)=>52 - events.length) AA ⟨AA,trivial⟩ ⟨Chg.refl _ _,aa,Dr,(by (have q1:EsD _∧_:=‹_›; exact q1.1)),(by (have q1:EsD _∧_:=‹_›; omega))⟩ ?_
  rintro ⟨events,r_events,n_events,c_events⟩ cz aC ⟨ac,ae,af,b0,b6⟩ ax
  have b7:=Ca af bn aq.lt
  have b8:=Ca af (Nb.symm bt) al.lt
  have aU:=Jg af aL E.size
  have b9:=Cm af bo E.size
  have aV:Cov (ins [ah]) aS ah:=⟨.inl AI⟩
  have cd:=Cm af aV (Nat.le_refl _)
  replace ⟨aq,al,E⟩:=(si ac).g3 aq al E
  have ce:=ae.len
  refine .s<|.s<|.g<|.r 2<|.bp ((n_events:Int)≤50) (fun aW=>?_) (fun aW=>?_)
  ·refine .d<|.ct<|.sk<|.b 1<|.g<|.r 2<|.ns 1 46 [vI 4,vI 0,vI 0,AH,vI 0,vI 0] fun aQ cA ai aD aX aY=>?_
   have aZ:=Ab ai aq.lt
   have aE:=Ab ai ae.lt
   have ba:=Ab ai al.lt
   have bd:=BU ai E.size
   replace ⟨ae,E,ac⟩:=(se [aB,r_events,ag] aD).g3 ae E ac
   have ay:nin (fo F w.heap.size) [aB,r_events,ag] aQ∧aQ≠r_events:=DJ (.inr bd) (all_cons ba (all_cons aE (all_cons aZ all_nil))) aE
   refine RG.CM (T:=23) (ty:=23) (y:=(⟨4,0,0,([]:List Tag),(⟨0,0⟩:Row)⟩:Evt)) ae aX AA AA ⟨_,_,_,rfl,(RepS.BO _ _ none 0 AE)⟩ ay AB fun bv bw cB aj ar aF=>?_
   have bg:=HM ar af ac.size
   replace ⟨E,ac⟩:=(s1 aF).g2 E ac
   replace aj:=aj.rn r_events
   have ci:=aj.len
   exact .r 1<|.d<|.ib 1<|ax ((events++[(⟨4,0,0,([]:List Tag),(⟨0,0⟩:Row)⟩:Evt)]),bv,n_events+1,bw) _ _ ⟨AA,trivial⟩ ⟨ac,aj,bg,(by exact EsD.snoc ‹_› ⟨NmD.nil,by simp [FH]⟩),(by (simp; omega))⟩ (by (simp only []; omega))
  refine .d<|.cf<|.x 0 rfl<|.s<|.g<|.r 2<|.d ?_
  have bz:=ae.sl (.inr aU)
  exact .rt func8 results8 (vS r_events n_events c_events) ⟨⟨(events:List Evt),(bz.vl AF (fun _ _ h=>h.1)),‹_›⟩,E⟩
 refine .d<|.cf<|.sk<|.s<|.g<|.r 2<|.d ?_
 have bA:=aa.sl (.inr aL)
 exact .rt func8 results8 (vS ah bj bk) ⟨⟨(aJ:List Evt),(bA.vl AF (fun _ _ h=>h.1)),(by (have q1:EsD _∧_:=‹_›; exact q1.1))⟩,E⟩
end Go.Proofs.YtckdhcbbgmiccaaGreat
namespace Go.Proofs.YtckdhcbbgmiccaaGreat
theorem pv {es:List Evt}(h:EsD es) (h2:(BR es).2=true):WV (BR es).1∧(BR es).1=CW es∧es.length≤50:=by
 by_cases hl:(es.length:Int) > 50
 ·rw [MD hl] at h2; cases h2
 ·rw [Iv hl]
  exact ⟨WV.R5 h,rfl,by omega⟩
end Go.Proofs.YtckdhcbbgmiccaaGreat
