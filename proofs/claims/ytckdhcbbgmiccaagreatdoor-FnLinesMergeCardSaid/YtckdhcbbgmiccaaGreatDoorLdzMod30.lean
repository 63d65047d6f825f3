/- What asking computes, as plain functions, and its laws. -/
import Derived.Test.YtckdhcbbgmiccaaGreatDoorLdzMod20
import Derived.Test.YtckdhcbbgmiccaaGreatDoorLdzJn
open Go.Proofs.Tryz
set_option linter.unusedVariables false
set_option linter.unusedSimpArgs false
namespace Go.Proofs.YtckdhcbbgmiccaaGreatDoor
def Hk (b:List Row) (lo hi:Int):List Row:=b.filter (fun r=>inR r.t lo hi)
def HO (b:List Row) (lo hi:Int):List Row:=if Bn b then Hk b lo hi else []
def fits (f:List Cnd) (n:List Tag):Bool:=f.all (fun c=>has n c.tag != c.no)
def Cq (f:List Cnd):Bool:=f.all (fun c=>CD c.tag)&&decide (f.length≤3)
def CJ (f:List Cnd) (n:List Tag):Bool:=Cq f&&Ar n&&fits f n
def BG (p:List Tag→Bool):Nat→List (List Tag)→List Int
 | _,[]=>[]
 | i,n::ns=>(if p n then [(i:Int)+1] else [])++BG p (i+1) ns
def DR (s:Sto) (lo hi:Int) (id:Int):List Hit:=if (Hk (rowsOf s id) lo hi).length > 0 then [⟨text (s.idx.names.getD (id - 1).toNat []),Hk (rowsOf s id) lo hi⟩] else []
def Fi (p:List Tag→Bool) (s:Sto) (lo hi:Int):List Hit:=(BG p 0 s.idx.names).flatMap (DR s lo hi)
def Bt (s:Sto) (f:List Cnd) (lo hi:Int):List Hit:=if Ab s&&Cq f then Fi (fits f) s lo hi else []
def LI (v:Tag):Nat→List Tag→Int
 | _,[]=>-1
 | i,x::xs=>if v==x then (i:Int) else LI v (i+1) xs
theorem Uh (v:Tag):∀ (l:List Tag) (i:Nat),has l v=decide (LI v i l≥0):=by
 intro l
 induction l with
 | nil=>intro i; simp [has,LI]
 | cons x xs ih =>
   intro i
   have:=ih (i+1)
   unfold has at this ⊢
   rw [List.any_cons,this]
   have e:LI v i (x::xs)=if v==x then (i:Int) else LI v (i+1) xs:=rfl
   rw [e]
   by_cases h:v=x
   ·subst h; simp
   ·have h1:(v==x)=false:=beq_eq_false_iff_ne.2 h
    have h2:(x==v)=false:=beq_eq_false_iff_ne.2 (fun e=>h e.symm)
    rw [h1,h2]
    simp
theorem MS {α:Type}{f:α→Bool}{l k Y:List α}{i:Nat}{x:α}(h:k++(l.drop i).filter f=Y) (hd:l.drop i=x::l.drop (i+1)) (hx:f x=true):(k++[x])++(l.drop (i+1)).filter f=Y:=by
 rw [hd,List.filter_cons,if_pos hx] at h
 rw [← h]
 simp
theorem MU {α:Type}{f:α→Bool}{l k Y:List α}{i:Nat}{x:α}(h:k++(l.drop i).filter f=Y) (hd:l.drop i=x::l.drop (i+1)) (hx:f x=false):k++(l.drop (i+1)).filter f=Y:=by
 rw [hd,List.filter_cons,if_neg (by simp [hx])] at h
 exact h
theorem Nk {α:Type}{f:α→Bool}{l k Y:List α}{i:Nat}(h:k++(l.drop i).filter f=Y) (hi:l.length≤i):k=Y:=by
 rw [Ac hi] at h
 simpa using h
theorem Pk {p:List Tag→Bool}{l:List (List Tag)}{k Y:List Int}{i:Nat}{x:List Tag}(h:k++BG p i (l.drop i)=Y) (hd:l.drop i=x::l.drop (i+1)) (hx:p x=true):(k++[(i:Int)+1])++BG p (i+1) (l.drop (i+1))=Y:=by
 rw [hd,BG,if_pos hx] at h
 rw [← h]
 simp
theorem Pl {p:List Tag→Bool}{l:List (List Tag)}{k Y:List Int}{i:Nat}{x:List Tag}(h:k++BG p i (l.drop i)=Y) (hd:l.drop i=x::l.drop (i+1)) (hx:p x=false):k++BG p (i+1) (l.drop (i+1))=Y:=by
 rw [hd,BG,if_neg (by simp [hx])] at h
 exact h
theorem Rz {p:List Tag→Bool}{l:List (List Tag)}{k Y:List Int}{i:Nat}(h:k++BG p i (l.drop i)=Y) (hi:l.length≤i):k=Y:=by
 rw [Ac hi,BG] at h
 simpa using h
theorem Nn {p:List Tag→Bool}:∀ (l:List (List Tag)) (i:Nat) (x:Int),x∈BG p i l→(i:Int)+1≤x∧x≤(i:Int)+l.length:=by
 intro l
 induction l with
 | nil=>intro i x h; simp [BG] at h
 | cons n ns ih =>
   intro i x h
   unfold BG at h
   rcases List.mem_append.1 h with h | h
   ·split at h
    ·simp at h; subst h; simp only [List.length_cons]; omega
    ·cases h
   ·have:=ih (i+1) x h
    simp only [List.length_cons]; omega
theorem C3 {p:List Tag→Bool}{l:List (List Tag)}{x:Int}(h:x∈BG p 0 l):1≤x∧x≤l.length:=by have:=Nn l 0 x h; omega
theorem KW (p:List Tag→Bool):∀ (l:List (List Tag)) (i:Nat),(BG p i l).length≤l.length:=by
 intro l
 induction l with
 | nil=>intro i; simp [BG]
 | cons n ns ih =>
   intro i
   have:=ih (i+1)
   unfold BG
   split <;> simp <;> omega
theorem TB {p:List Tag→Bool}:∀ (l:List (List Tag)) (i:Nat),(∀ n∈l,p n=false)→BG p i l=[]:=by
 intro l
 induction l with
 | nil=>intro i _; rfl
 | cons n ns ih =>
   intro i h
   unfold BG
   rw [h n AD,ih (i+1) (fun m hm=>h m (by simp [hm]))]
   rfl
theorem Ui {p q:List Tag→Bool}:∀ (l:List (List Tag)) (i:Nat),(∀ n∈l,p n=q n)→BG p i l=BG q i l:=by
 intro l
 induction l with
 | nil=>intro i _; rfl
 | cons n ns ih =>
   intro i h
   unfold BG
   rw [h n AD,ih (i+1) (fun m hm=>h m (by simp [hm]))]
theorem Qx {f:List Cnd}{x:Idx}(hx:NmI x.names) (hf:Cq f=true):BG (CJ f) 0 x.names=BG (fits f) 0 x.names:=Ui _ _ (fun n hn=>by unfold CJ; rw [hf,hx.ok n hn]; rfl)
theorem Uj {f:List Cnd}{x:Idx}(hf:Cq f=false):BG (CJ f) 0 x.names=[]:=TB _ _ (fun n _=>by unfold CJ; rw [hf]; rfl)
theorem Uk {s:Sto}{i:Int}(hk:Ab s=true) (h1:1≤i) (h2:i≤s.idx.names.length):IV s i=rowsOf s i:=S6 hk (by unfold inR; simp [h1,h2])
theorem Qy {s:Sto}(h:SD s) (hk:Ab s=true) (i:Int):Blk (rowsOf s i):=by
 have hI:=(StoK.of h hk).KS
 have key:∀ (mem:List Smp) (o:List Row),(∀ m∈mem,Be m.row=true)→Blk o→Blk (mem.foldl (Cl i) o):=by
  intro mem
  induction mem with
  | nil=>intro o _ ho; exact ho
  | cons m ms ih =>
    intro o hm ho
    refine ih _ (fun q hq=>hm q (by simp [hq])) ?_
    unfold Cl
    split
    ·exact ho.put (hm m AD)
    ·exact ho
 have key2:∀ (ps:List Prt) (o:List Row),(∀ p∈ps,PrtI p)→Blk o→Blk (ps.foldl (CG i) o):=by
  intro ps
  induction ps with
  | nil=>intro o _ ho; exact ho
  | cons p ps ih=>intro o hp ho; exact ih _ (fun q hq=>hp q (by simp [hq])) (ho.merge ((hp p AD).of i))
 exact key _ _ (fun m hm=>(hI.mem m hm).2.2) (key2 _ _ hI.part Blk.nil)
theorem Zw {s:Sto}(hk:Ab s=true){i:Int}(h1:1≤i) (h2:i≤s.idx.names.length):(rowsOf s i).length≤24:=by
 unfold Ab at hk
 simp only [AW,decide_eq_true_eq,List.all_eq_true,List.mem_range,FF] at hk
 have:=hk.2 (i.toNat - 1) AB
 rwa [show ((i.toNat - 1:Nat):Int)+1=i by omega] at this
theorem Ul {s:Sto}(h:SD s) (hk:Ab s=true){i:Int}(h1:1≤i) (h2:i≤s.idx.names.length):Bn (rowsOf s i)=true:=by
 unfold Bn
 have a1:Cp none (rowsOf s i)=true:=Qy h hk i
 rw [a1,Bool.true_and,decide_eq_true_eq]
 exact Zw hk h1 h2
theorem KX {s:Sto}(h:SD s) (hk:Ab s=true){i:Int}(h1:1≤i) (h2:i≤s.idx.names.length) (lo hi:Int):HO (rowsOf s i) lo hi=Hk (rowsOf s i) lo hi:=by
 unfold HO; rw [if_pos (Ul h hk h1 h2)]
theorem R0 {s:Sto}{lo hi:Int}{l:List Int}{i:Nat}{id:Int}{k Y:List Hit}(h:k++(l.drop i).flatMap (DR s lo hi)=Y) (hd:l.drop i=id::l.drop (i+1)){c:List Row}(hc:c=Hk (rowsOf s id) lo hi) (hl:(c.length:Int) > 0){n:List Tag}(hn:s.idx.names[(id - 1).toNat]? = some n) :
 (k++[⟨text n,c⟩])++(l.drop (i+1)).flatMap (DR s lo hi)=Y:=by
 subst hc
 rw [hd,List.flatMap_cons] at h
 rw [← h]
 have:DR s lo hi id=[⟨text n,Hk (rowsOf s id) lo hi⟩]:=by
  unfold DR
  rw [if_pos AB,List.getD_eq_getElem?_getD,hn]
  rfl
 rw [this]
 simp
theorem R1 {s:Sto}{lo hi:Int}{l:List Int}{i:Nat}{id:Int}{k Y:List Hit}(h:k++(l.drop i).flatMap (DR s lo hi)=Y) (hd:l.drop i=id::l.drop (i+1)){c:List Row}(hc:c=Hk (rowsOf s id) lo hi) (hl:¬ (c.length:Int) > 0) :
 k++(l.drop (i+1)).flatMap (DR s lo hi)=Y:=by
 subst hc
 rw [hd,List.flatMap_cons] at h
 rw [← h]
 have:DR s lo hi id=[]:=by
  unfold DR
  rw [if_neg AB]
 rw [this]
 simp
theorem Um {s:Sto}{lo hi:Int}{l:List Int}{i:Nat}{k Y:List Hit}(h:k++(l.drop i).flatMap (DR s lo hi)=Y) (hi2:l.length≤i):k=Y:=by
 rw [Ac hi2] at h
 simpa using h
theorem TC {f:List Cnd}(h:f.all (fun c=>CD c.tag)=false):false=Cq f:=by unfold Cq; rw [h]; rfl
theorem Qz {f:List Cnd}(h:f.all (fun c=>CD c.tag)=true):decide ((f.length:Int)≤3)=Cq f:=by unfold Cq; rw [h,Bool.true_and,decide_eq_decide]; omega
theorem Yd {s:Sto}{f:List Cnd}{lo hi:Int}(h:Ab s=false∨Cq f=false):Bt s f lo hi=[]:=by
 unfold Bt
 rcases h with h | h <;> rw [h] <;> simp
theorem Oh {s:Sto}{f:List Cnd}{lo hi:Int}(h:Ab s=true) (h2:Cq f=true):Bt s f lo hi=Fi (fits f) s lo hi:=by unfold Bt; rw [h,h2]; rfl
theorem Un {s:Sto}{f:List Cnd}{lo hi:Int}(hd:SD s) (h:Ab s=true):Bt s f lo hi=Fi (CJ f) s lo hi:=by
 unfold Bt Fi
 cases h2:Cq f with
 | true=>rw [h,Qx hd.nm h2]; rfl
 | false=>rw [Uj h2]; simp
def tx1 (t:Tag):Txt:=⟨HS t⟩
def Ei (n:List Tag):Str:=if Ar n then text n else []
theorem Q0:∀ (n:List Tag) (i:Nat),0< i→EF i n=Lib.joinTail [44] (n.map HS):=by
 intro n
 induction n with
 | nil=>intro i _; rfl
 | cons t ts ih =>
   intro i hi
   unfold EF
   rw [if_pos hi,ih (i+1) AB]
   simp [Lib.joinTail]
theorem TD (n:List Tag):Lib.join ((n.map tx1).map Txt.s) [44]=text n:=by
 have e:(n.map tx1).map Txt.s=n.map HS:=by rw [List.map_map]; rfl
 rw [e]
 cases n with
 | nil=>rfl
 | cons t ts =>
   rw [List.map_cons,Lib.join_cons]
   unfold text EF
   rw [Q0 ts 1 AB]
   simp
theorem TE:∀ (n:List Tag) (i:Nat),(∀ t∈n,t.key.length≤1000∧t.val.length≤1000)→(EF i n).length≤2002 * n.length:=by
 intro n
 induction n with
 | nil=>intro i _; simp [EF]
 | cons t ts ih =>
   intro i h
   have h1:=ih (i+1) (fun x hx=>h x (by simp [hx]))
   have h2:=h t AD
   unfold EF HS
   simp only [List.length_append,List.length_cons,List.length_nil]
   split <;> simp only [List.length_cons,List.length_nil] <;> omega
theorem R2 {n:List Tag}{k:List Txt}{i:Nat}(h:k++(n.drop i).map tx1=n.map tx1) (hi:n.length≤i):Lib.join (k.map Txt.s) [44]=text n:=by
 rw [Ac hi,List.map_nil,List.append_nil] at h
 rw [h,TD]
theorem Ye {n:List Tag}{k:List Txt}{i:Nat}(h:k++(n.drop i).map tx1=n.map tx1) (hi:n.length≤i) (hn:GI n):(Lib.join (k.map Txt.s) [44]).length≤100000000000:=by
 rw [R2 h hi]
 have:=TE n 0 hn.2
 have h2:=hn.1
 unfold text
 omega
theorem Uo {n:List Tag}{k:List Txt}{i:Nat}{t:Tag}(h:k++(n.drop i).map tx1=n.map tx1) (hd:n.drop i=t::n.drop (i+1)):(k++[⟨t.key++[61]++t.val⟩])++(n.drop (i+1)).map tx1=n.map tx1:=by
 rw [hd,List.map_cons] at h
 rw [← h,List.append_assoc]
 rfl
theorem MV {n:List Tag}(h:Ar n=true):Ei n=text n:=by unfold Ei; rw [if_pos h]
theorem Up {n:List Tag}(h:Ar n=false):Ei n=[]:=by unfold Ei; rw [if_neg (by simp [h])]
theorem Uq {p:List Tag→Bool}{s:Sto}(hs:SD s) (hk:Ab s=true){lo hi:Int}{i:Nat}{id:Int}{k Y:List Hit}(h:k++((BG p 0 s.idx.names).drop i).flatMap (DR s lo hi)=Y) (hd:(BG p 0 s.idx.names).drop i=id::(BG p 0 s.idx.names).drop (i+1)) (hl:((HO (rowsOf s id) lo hi).length:Int) > 0){n:List Tag}(hn:s.idx.names[(id - 1).toNat]? = some n) :
 (k++[⟨Ei n,HO (rowsOf s id) lo hi⟩])++((BG p 0 s.idx.names).drop (i+1)).flatMap (DR s lo hi)=Y:=by
 have hid:=C3 (p:=p) (l:=s.idx.names) (x:=id) (List.mem_of_mem_drop (by rw [hd]; simp))
 rw [MV (hs.nm.ok n (AV hn))]
 exact R0 h hd (KX hs hk hid.1 hid.2 lo hi) hl hn
theorem Ur {p:List Tag→Bool}{s:Sto}(hs:SD s) (hk:Ab s=true){lo hi:Int}{i:Nat}{id:Int}{k Y:List Hit}(h:k++((BG p 0 s.idx.names).drop i).flatMap (DR s lo hi)=Y) (hd:(BG p 0 s.idx.names).drop i=id::(BG p 0 s.idx.names).drop (i+1)) (hl:¬ ((HO (rowsOf s id) lo hi).length:Int) > 0) :
 k++((BG p 0 s.idx.names).drop (i+1)).flatMap (DR s lo hi)=Y:=by
 have hid:=C3 (p:=p) (l:=s.idx.names) (x:=id) (List.mem_of_mem_drop (by rw [hd]; simp))
 exact R1 h hd (KX hs hk hid.1 hid.2 lo hi) hl
theorem Wx {s:Sto}{f:List Cnd}(hs:SD s) (hk:Ab s=true){lo hi:Int}{i:Nat}{k:List Hit}(h:k++((BG (CJ f) 0 s.idx.names).drop i).flatMap (DR s lo hi)=Fi (CJ f) s lo hi) (hi2:(BG (CJ f) 0 s.idx.names).length≤i):Bt s f lo hi=k:=by
 rw [Un hs hk]
 exact (Um h hi2).symm
end Go.Proofs.YtckdhcbbgmiccaaGreatDoor
namespace Go.Proofs.YtckdhcbbgmiccaaGreatDoor
set_option maxRecDepth 100000
set_option maxHeartbeats 4000000
variable {w:World} {F:Nat→Prop} {a1 a2 a3 a4 a5:Option Addr} {n1 c1 n2 c2 n3 c3 n4 c4 n5 c5:Nat}
theorem Oi (b:List Row) (from_:Int) (to_:Int) (h1:RepS w F a1 n1 c1 b) (p0:b.length≤1000000):Calls Tryz.prog 53 [.slice a1 n1 c1,.int .i64 from_,.int .i64 to_].toArray w (Al fun rv w'=>VL (ge w.heap.size) w' (Hk b from_ to_:List Row) rv∧Ext w w'):=by
 cases h1.len
 refine goT func53 ?_
 have Z:=(St.i0 F w).p h1
 refine .s<|.g<|.r 1<|.d<|.s<|.g<|RG.N0 Row 0 Z fun ag w Z=>.r 1<|.d<|.s<|.s<|.g<|.r 1<|.d<|.b 0<|T.Lp (([]:List Row),ag,(0:Nat),(0:Nat)) (fun (out,r_out,c_out,i)=>([(0,.slice a1 b.length c1),(1,vI from_),(2,vI to_),(7,vS r_out out.length c_out),(8,vI (i:Int))],[(0,.own 0 r_out 69 c_out out)],[],b.length - i,(i≤b.length)∧(out.length≤i)∧(out++(b.drop i).filter (fun r=>inR r.t from_ to_)=Hk b from_ to_))) [] Z ⟨AB,AD,AF⟩ ?_
 rintro ⟨out,r_out,c_out,i⟩ ax w Z ⟨ak,al,am⟩ E
 refine .s<|.s<|.g<|.r 3<|.bp ((i:Int)< (b.length:Int)) (fun ae=>?_) (fun ae=>.d<|.cf<|.x 0 rfl<|.s<|.g<|.r 2<|.d<|T.Rt func53 results53 ⟨Z.rM 0 out (by exact Nk ‹_› AB),Z.xt⟩)
 refine .d<|.ct<|.sk<|.s<|.b 1<|.s<|.g<|.r 2<|gxd b i fun ab aa ao=>RG.Ix 0 aa Z<|.r 1<|Z.el 0 aa fun Z=>RG.Lh 0 0 Z<|.r 2<|RG.C0 (CP ab.t from_ to_ (F:=all)) Z fun w Z=>?_
 cases ac:(inR ab.t from_ to_)
 ·exact .d<|.cf<|.sk<|.ib 1<|.g<|.r 1<|.it ((i:Int)+1)<|.r 1<|.d<|E (out,r_out,c_out,i+1) _ _ AA (Z.to 0 [] 1) ⟨AB,AB,(by exact MU ‹_› ‹_› ‹_›)⟩ (by (simp only []; omega))
 exact .d<|.ct<|.g<|.r 3<|RG.Ix 1 aa Z<|RG.Lg 0 0 Z<|RG.Nb 1 Z fun ay w Z=>RG.Ap 0 0 out ab [] Z fun ah ai w Z=>.r 1<|.d<|.ib 1<|.g<|.r 1<|.it ((i:Int)+1)<|.r 1<|.d<|E ((out++[ab]),ah,ai,i+1) _ _ AA (Z.to 0 [] 1) ⟨AB,(by (simp; omega)),(by exact MS ‹_› ‹_› ‹_›)⟩ (by (simp only []; omega))
theorem LJ (b:List Row) (from_:Int) (to_:Int) (h1:RepS w F a1 n1 c1 b) (p0:b.length≤1000000):Calls Tryz.prog 41 [.slice a1 n1 c1,.int .i64 from_,.int .i64 to_].toArray w (Al fun rv w'=>VL (ge w.heap.size) w' (HO b from_ to_:List Row) rv∧Ext w w'):=by
 cases h1.len
 refine goT func41 ?_
 have Z:=(St.i0 F w).p h1
 refine .s<|.g<|.r 1<|.d<|.s<|.g<|RG.N0 Row 0 Z fun ag w Z=>.r 1<|.d<|.s<|.s<|.g<|.r 1<|RG.C0 (Dc b (Z.a 0)) Z fun w Z=>?_
 cases ak:(Bn b)
 ·exact .r 1<|.d<|.ct<|.s<|.g<|.r 2<|.d<|T.Rt func41 results41 ⟨Z.rM 0 ([]:List Row) (by unfold HO; (rw [if_neg (by simp [*])]; done)),Z.xt⟩
 refine .r 1<|.d<|.cf<|.sk<|.s<|.s<|.g<|.r 3<|.d<|.b 0<|T.Lp (([]:List Row),ag,(0:Nat),(0:Nat)) (fun (out,r_out,c_out,k)=>([(1,vI from_),(2,vI to_),(7,vS r_out out.length c_out),(15,.slice a1 b.length c1),(16,vI (b.length:Int)),(17,vI (k:Int))],[(0,.own 0 r_out 69 c_out out)],[],b.length - k,(k≤b.length)∧(out.length≤k)∧(out++(b.drop k).filter (fun r=>inR r.t from_ to_)=Hk b from_ to_))) [] Z ⟨AB,AD,AF⟩ ?_
 rintro ⟨out,r_out,c_out,k⟩ ay w Z ⟨al,am,ao⟩ E
 refine .s<|.g<|.bp ((k:Int)< (b.length:Int)) (fun ae=>?_) (fun ae=>.d<|.s<|.cf<|.x 0 rfl<|.s<|.g<|.r 2<|.d<|T.Rt func41 results41 ⟨Z.rM 0 out (by unfold HO; (rw [if_pos ‹_›]; exact Nk ‹_› AB)),Z.xt⟩)
 refine .d<|.s<|.ct<|.sk<|.s<|.b 1<|.s<|.g<|gxd b k fun ab aa aq=>RG.Ix 0 aa Z<|Z.el 0 aa fun Z=>RG.Lg 0 0 Z<|RG.Np Z fun az w Z=>RG.Ss 0 Z fun w Z=>.d<|.s<|.g<|.r 1<|RG.Lb 0 Z<|.r 2<|RG.C0 (Bp ab.t from_ to_ (F:=all)) Z fun w Z=>?_
 cases ac:(inR ab.t from_ to_)
 ·exact .d<|.cf<|.sk<|.ib 1<|.g<|.it ((k:Int)+1)<|.r 1<|.d<|E (out,r_out,c_out,k+1) _ _ AA (Z.to 1 [] 1) ⟨AB,AB,(by exact MU ‹_› ‹_› ‹_›)⟩ (by (simp only []; omega))
 exact .d<|.ct<|.g<|.r 1<|RG.Ln 0 Z<|RG.Nb 1 Z fun aA w Z=>RG.Ap 1 0 out ab [] Z fun ah ai w Z=>.r 1<|.d<|.ib 1<|.g<|.it ((k:Int)+1)<|.r 1<|.d<|E ((out++[ab]),ah,ai,k+1) _ _ AA (Z.to 1 [] 1) ⟨AB,(by (simp; omega)),(by exact MS ‹_› ‹_› ‹_›)⟩ (by (simp only []; omega))
theorem HH (f:List Cnd) (h1:RepS w F a1 n1 c1 f)  : Calls Tryz.prog 142 [.slice a1 n1 c1].toArray w (Al fun rv w'=>rv=.bool (Cq f)∧Ext w w'):=by
 cases h1.len
 refine goT func142 ?_
 have Z:=(St.i0 F w).p h1
 have af:=h1.max
 refine .s<|.g<|.r 1<|.d<|.s<|.s<|.g<|.r 3<|.d<|.b 0<|T.Lp (0:Nat) (fun k=>([(0,.slice a1 f.length c1),(5,.slice a1 f.length c1),(6,vI (f.length:Int)),(7,vI (k:Int))],[],[],f.length - k,(k≤f.length)∧((f.drop k).all (fun c=>CD c.tag)=f.all (fun c=>CD c.tag)))) [] Z ⟨AD,AD⟩ ?_
 rintro k ak w Z ⟨ag,ah⟩ aa
 refine .s<|.g<|.bp ((k:Int)< (f.length:Int)) (fun ab=>?_) (fun ab=>.d<|.s<|.cf<|.x 0 rfl<|.s<|.g<|.r 4<|.d<|T.rt func142 results142 (.bool (decide ((f.length:Int)≤3))) ⟨(AG (by exact Qz (KG ‹_› AB))),Z.xt⟩)
 refine .d<|.s<|.ct<|.sk<|.s<|.b 1<|.s<|.g<|gxd f k fun ac E ai=>RG.Ix 0 E Z<|Z.el 0 E fun Z=>RG.Lg 0 0 Z<|RG.Np Z fun al w Z=>RG.Ss 0 Z fun w Z=>.d<|.s<|.g<|.r 1<|RG.Ln 0 Z<|RG.C0 (JE ac.tag (F:=all)) Z fun w Z=>?_
 cases aj:(CD ac.tag)
 ·exact .r 1<|.d<|.ct<|.s<|.g<|.r 1<|.d<|T.rt func142 results142 (.bool false) ⟨(AG (by exact TC (JN ‹_› ‹_› ‹_›))),Z.xt⟩
 exact .r 1<|.d<|.cf<|.sk<|.ib 1<|.g<|.it ((k:Int)+1)<|.r 1<|.d<|aa (k+1) _ _ AA (Z.to 1 [] 1) ⟨AB,(by exact H6 ‹_› ‹_› ‹_›)⟩ (by (simp only []; omega))
theorem NH (f:List Cnd) (n:List Tag) (h1:RepS w F a1 n1 c1 f) (h2:RepS w F a2 n2 c2 n)  : Calls Tryz.prog 102 [.slice a1 n1 c1,.slice a2 n2 c2].toArray w (Al fun rv w'=>rv=.bool (fits f n)∧Ext w w'):=by
 cases h1.len
 cases h2.len
 refine goT func102 ?_
 have Z:=((St.i0 F w).p h1).p h2
 have af:=h1.max
 refine .s<|.g<|.r 1<|.d<|.s<|.s<|.g<|.r 1<|.d<|.b 0<|T.Lp (0:Nat) (fun i=>([(0,.slice a1 f.length c1),(1,.slice a2 n.length c2),(5,vI (i:Int))],[],[],f.length - i,(i≤f.length)∧((f.drop i).all (fun c=>has n c.tag != c.no)=fits f n))) [] Z ⟨AB,AF⟩ ?_
 rintro i al w Z ⟨ah,ai⟩ ab
 refine .s<|.s<|.g<|.r 3<|.bp ((i:Int)< (f.length:Int)) (fun ac=>?_) (fun ac=>.d<|.cf<|.x 0 rfl<|.s<|.g<|.r 1<|.d<|T.rt func102 results102 (.bool true) ⟨(AG (by exact (KG (f:=fun c:Cnd=>has n c.tag != c.no) ‹_› AB).symm)),Z.xt⟩)
 refine .d<|.ct<|.sk<|.s<|.b 1<|.s<|T.Gd 12 Z fun w Z=>.r [0,1,2]<|gxd f i fun aa E aj=>GA.Ix 3 1 E Z<|.r [4]<|Z.el 1 E fun Z=>GA.Lg 5 0 0 Z<|GA.C0 6 Z (fun w Z=>JF n aa.tag (Z.a 1))<|.r [7,8]<|GA.Ix 9 2 E Z<|.r [10]<|GA.Lh 11 0 2 Z<|GA.Dn Z fun w Z=>RG.eqv (v:=.bool ((has n aa.tag)==aa.no)) (v':=.bool ((has n aa.tag)==aa.no)) AA AF ?_
 cases ak:((has n aa.tag)==aa.no)
 ·exact .d<|.cf<|.sk<|.ib 1<|.g<|.r 1<|.it ((i:Int)+1)<|.r 1<|.d<|ab (i+1) _ _ AA (Z.to 0 [] 1) ⟨AB,(by exact H6 ‹_› ‹_› (by simp_all))⟩ (by (simp only []; omega))
 exact .d<|.ct<|.s<|.g<|.r 1<|.d<|T.rt func102 results102 (.bool false) ⟨(AG (by exact (JN (f:=fun c:Cnd=>has n c.tag != c.no) ‹_› ‹_› (by simp_all)).symm)),Z.xt⟩
theorem MW (ix:Idx) (f:List Cnd) (h1:RepS w F a1 n1 c1 ix.names) (h2:RepS w F a2 n2 c2 ix.AY) (h3:RepS w F a3 n3 c3 f) (p0:ix.names.length≤1000):Calls Tryz.prog 52 [.agg #[.slice a1 n1 c1,.slice a2 n2 c2],.slice a3 n3 c3].toArray w (Al fun rv w'=>VL (ge w.heap.size) w' (BG (fits f) 0 ix.names:List Int) rv∧Ext w w'):=by
 cases h1.len
 cases h2.len
 cases h3.len
 refine goT func52 ?_
 have Z:=(((St.i0 F w).p h1).p h2).p h3
 refine .s<|.g<|RG.Np Z fun af w Z=>.r 1<|.d<|.s<|.g<|RG.N0 Int 0 Z fun ag w Z=>.r 1<|.d<|.s<|.s<|.g<|.r 1<|.d<|.b 0<|T.Lp (([]:List Int),ag,(0:Nat),(0:Nat)) (fun (out,r_out,c_out,i)=>([(1,.slice a3 f.length c3),(2,vP af),(5,vS r_out out.length c_out),(6,vI (i:Int))],[(0,.own 0 r_out 3 c_out out)],[],ix.names.length - i,(i≤ix.names.length)∧(out.length≤i)∧(out++BG (fits f) i (ix.names.drop i)=BG (fits f) 0 ix.names))) [] Z ⟨AB,AD,AF⟩ ?_
 rintro ⟨out,r_out,c_out,i⟩ ay w Z ⟨am,ao,aq⟩ E
 refine .s<|.s<|.g<|.r 2<|RG.Lb 1 Z<|.r 1<|.bp ((i:Int)< (ix.names.length:Int)) (fun ab=>?_) (fun ab=>.d<|.cf<|.x 0 rfl<|.s<|.g<|.r 2<|.d<|T.Rt func52 results52 ⟨Z.rM 0 out (by exact Rz ‹_› AB),Z.xt⟩)
 refine .d<|.ct<|.sk<|.s<|.b 1<|.s<|.g<|.r 2<|RG.Lb 1 Z<|.r 1<|gxd ix.names i fun ac aa ar=>RG.Ix 2 aa Z<|Z.el 2 aa fun az aA Z=>RG.Lh 0 0 Z<|RG.C0 (NH f ac (Z.a 2) (Z.a 1)) Z fun w Z=>?_
 cases ax:(fits f ac)
 ·exact .d<|.cf<|.sk<|.ib 1<|.g<|.r 1<|.it ((i:Int)+1)<|.r 1<|.d<|E (out,r_out,c_out,i+1) _ _ AA (Z.to 0 [] 2) ⟨AB,AB,(by exact Pl ‹_› ‹_› ‹_›)⟩ (by (simp only []; omega))
 exact .d<|.ct<|.g<|.r 2<|.it ((i:Int)+1)<|RG.Nb 1 Z fun aB w Z=>RG.Ap 0 0 out ((i:Int)+1) [] Z fun ah ai w Z=>.r 1<|.d<|.ib 1<|.g<|.r 1<|.it ((i:Int)+1)<|.r 1<|.d<|E ((out++[(i:Int)+1]),ah,ai,i+1) _ _ AA (Z.to 0 [] 2) ⟨AB,(by (simp; omega)),(by exact Pk ‹_› ‹_› ‹_›)⟩ (by (simp only []; omega))
theorem IW (s:Sto) (f:List Cnd) (from_:Int) (to_:Int) (h1:RepS w F a1 n1 c1 s.idx.names) (h2:RepS w F a2 n2 c2 s.idx.AY) (h3:RepS w F a3 n3 c3 s.parts) (h4:RepS w F a4 n4 c4 s.mem) (h5:RepS w F a5 n5 c5 f) (p0:SD s) (p1:Ab s=true):Calls Tryz.prog 26 [.agg #[.slice a1 n1 c1,.slice a2 n2 c2,.slice a3 n3 c3,.slice a4 n4 c4],.slice a5 n5 c5,.int .i64 from_,.int .i64 to_].toArray w (Al fun rv w'=>VL (ge w.heap.size) w' (Fi (fits f) s from_ to_:List Hit) rv∧Ext w w'):=by
 cases h1.len
 cases h2.len
 cases h3.len
 cases h4.len
 cases h5.len
 refine goT func26 ?_
 have Z:=(((((St.i0 F w).p h1).p h2).p h3).p h4).p h5
 have ax:=h1.max
 have az:=h3.max
 have aA:=h4.max
 refine .s<|.g<|RG.Np Z fun ag w Z=>.r 1<|.d<|.s<|.g<|RG.N0 Hit 0 Z fun al w Z=>.r 1<|.d<|.s<|.g<|.r 1<|RG.Ln 1 Z<|.r 1<|RG.CL (MW s.idx f (Z.a 4) (Z.a 3) (Z.a 0) (by have q1:=p0.nm.len; omega)) Z fun am ao w Z=>?_
 have aC:=Z.mf 0 (BG (fits f) 0 s.idx.names)
 refine .r 1<|.d<|.s<|.s<|.g<|.r 1<|.d<|.b 0<|T.Lp (([]:List Hit),al,(0:Nat),(0:Nat)) (fun (out,r_out,c_out,i)=>([(2,vI from_),(3,vI to_),(4,vP ag),(9,vS r_out out.length c_out),(10,.slice am ((BG (fits f) 0 s.idx.names).length) ao),(11,vI (i:Int))],[(0,.own 0 r_out 78 c_out out)],[],(BG (fits f) 0 s.idx.names).length - i,(i≤(BG (fits f) 0 s.idx.names).length)∧(out.length≤i)∧(out++((BG (fits f) 0 s.idx.names).drop i).flatMap (DR s from_ to_)=Fi (fits f) s from_ to_))) [] Z ⟨AB,AD,AF⟩ ?_
 rintro ⟨out,r_out,c_out,i⟩ aN w Z ⟨aD,aE,aF⟩ aa
 have aG:=Z.mo 0 out
 refine .s<|.s<|.g<|.r 3<|.bp ((i:Int)< (((BG (fits f) 0 s.idx.names).length):Int)) (fun ah=>?_) (fun ah=>.d<|.cf<|.x 0 rfl<|.s<|.g<|.r 2<|.d<|T.Rt func26 results26 ⟨Z.rM 0 out (by exact Um ‹_› AB),Z.xt⟩)
 refine .d<|.ct<|.sk<|.s<|.b 1<|.s<|T.Gd 8 Z fun w Z=>GA.Ln 0 1 Z<|.r [1,2]<|gxb (h:=AB) (BG (fits f) 0 s.idx.names) i fun E ab aH aj=>GA.Ix 3 0 ab Z<|Z.el 0 ab fun Z=>GA.Lh 4 0 0 Z<|.r [6,7]<|.go 5<|GE.CL (fun w Z=>EP s E (Z.a 6) (Z.a 5) (Z.a 4) (Z.a 3) (by have:=p0.np; omega) (fun p hp=>(p0.part p hp).sz) (by have:=p0.nm2; omega)) Z fun aO aP w Z=>GA.Dn Z fun w Z=>RG.CL (Oi (rowsOf s E) from_ to_ (Z.a 0) (Nat.le_trans (Qy p0 p1 _).len AB)) Z fun aQ aR w Z=>.r 1<|.d<|.s<|.g<|.r 2<|.bp ((((Hk (rowsOf s E) from_ to_).length):Int) > 0) (fun ai=>?_) (fun ai=>.d<|.cf<|.sk<|.ib 1<|.g<|.r 1<|RG.int ((i:Int)+1) AA AB<|.r 1<|.d<|aa (out,r_out,c_out,i+1) _ _ AA (Z.to 0 [] 3) ⟨AB,AB,(by exact R1 ‹_› ‹_› rfl ‹_›)⟩ (by (simp only []; omega)))
 refine .d<|.ct<|T.GS 15 [ag] Z fun _ w Z=>.r [0,1,2]<|GA.Lb 3 1 Z<|.r [4,5]<|GA.Ix 6 3 ab Z<|GA.Lh 7 2 0 Z<|GA.int (i:=8) (E - 1) AA (by (have q1:=C3 (by assumption:_∈BG _ 0 s.idx.names); omega))<|gxm (h:=(by (have q1:=C3 (by assumption:_∈BG _ 0 s.idx.names); omega))) s.idx.names ((E - 1).toNat) fun ae ac ak=>GA.Jx (hz:=(by (have q1:=C3 (by assumption:_∈BG _ 0 s.idx.names); omega))) 9 8 (E - 1) ac Z<|Z.el 8 ac fun aS aT Z=>?_
 have aL:=Z.mf 1 ae
 exact GA.Lh 10 0 0 Z<|GA.D0 11 Z (fun w Y=>GK ae (Y.a 1) (by have q1:=(p0.nm.sz _ ‹_›).1; omega) (fun t ht=>by have q1:=(p0.nm.sz _ ‹_›).2 t ht; omega))<|.r [12,13]<|.go 14<|GE.Nb 1 Z fun aU w Z=>GA.Do Z fun w Z=>RG.Ap (hs:=by exact (by have q1:=KW (fits f) s.idx.names 0; have q2:=p0.nm.len; omega)) 0 0 out (⟨text ae,Hk (rowsOf s E) from_ to_⟩:Hit) [2] Z fun aq ar w Z=>.r 1<|.d<|.ib 1<|.g<|.r 1<|RG.int ((i:Int)+1) AA AB<|.r 1<|.d<|aa ((out++[(⟨text ae,Hk (rowsOf s E) from_ to_⟩:Hit)]),aq,ar,i+1) _ _ AA (Z.to 0 [] 5) ⟨AB,(by (simp; omega)),(by exact R0 ‹_› ‹_› rfl ‹_› ‹_›)⟩ (by (simp only []; omega))
theorem EX (s:List Tag) (v:Tag) (h1:RepS w F a1 n1 c1 s)  : Calls Tryz.prog 202 [.slice a1 n1 c1,.agg #[.string (bs v.key),.string (bs v.val)]].toArray w (Al fun rv w'=>rv=.int .i64 (LI v 0 s)∧Ext w w'):=by
 cases h1.len
 refine goT func202 ?_
 have Z:=(St.i0 F w).p h1
 have ag:=h1.max
 refine .s<|.g<|RG.Np Z fun af w Z=>.r 1<|.d<|.s<|.s<|.g<|.r 3<|.d<|.b 0<|T.Lp (0:Nat) (fun k=>([(0,.slice a1 s.length c1),(3,vP af),(7,vI (s.length:Int)),(8,vI (k:Int))],[],[],s.length - k,(k≤s.length)∧(LI v k (s.drop k)=LI v 0 s))) [] Z ⟨AD,AD⟩ ?_
 rintro k al w Z ⟨ah,ai⟩ aa
 refine .s<|.g<|.bp ((k:Int)< (s.length:Int)) (fun ab=>?_) (fun ab=>.d<|.s<|.cf<|.x 0 rfl<|.s<|.g<|.r 1<|.d<|T.rt func202 results202 (vI (-1)) ⟨(congrArg (Value.int .i64) (by grind [LI,Ac])),Z.xt⟩)
 refine .d<|.s<|.ct<|.sk<|.s<|.b 1<|.s<|.g<|.r 2<|.d<|.s<|T.Gd 5 Z fun w Z=>GA.Ln 0 0 Z<|.r [1,2]<|gxd s k fun ac E aj=>GA.Ix 3 0 E Z<|Z.el 0 E fun Z=>GA.Lg 4 0 0 Z<|GA.Dn Z fun w Z=>RG.PL (t:=96) (x:=v) (y:=ac) AA AA ?_
 cases ak:(v==ac)
 ·exact .d<|.cf<|.sk<|.ib 1<|.g<|.it ((k:Int)+1)<|.r 1<|.d<|aa (k+1) _ _ AA (Z.to 0 [] 1) ⟨AB,(by grind [LI])⟩ (by (simp only []; omega))
 exact .d<|.ct<|.s<|.g<|.r 2<|.d<|T.rt func202 results202 (vI (k:Int)) ⟨(congrArg (Value.int .i64) (by grind [LI,Ac])),Z.xt⟩
theorem Dx (s:List Tag) (v:Tag) (h1:RepS w F a1 n1 c1 s)  : Calls Tryz.prog 150 [.slice a1 n1 c1,.agg #[.string (bs v.key),.string (bs v.val)]].toArray w (Al fun rv w'=>rv=.bool (has s v)∧Ext w w'):=by
 cases h1.len
 refine goT func150 ?_
 have Z:=(St.i0 F w).p h1
 exact .s<|.g<|RG.Np Z fun aa w Z=>.r 1<|.d<|.s<|.g<|.r 1<|RG.Ln 0 Z<|RG.C0 (EX s v (Z.a 0)) Z fun w Z=>.r 2<|.d<|T.rt func150 results150 (.bool (decide (LI v 0 s≥0))) ⟨(AG (by exact (Uh v s 0).symm)),Z.xt⟩
theorem JX (f:List Cnd) (n:List Tag) (h1:RepS w F a1 n1 c1 f) (h2:RepS w F a2 n2 c2 n) (p0:n.length≤1000):Calls Tryz.prog 83 [.slice a1 n1 c1,.slice a2 n2 c2].toArray w (Al fun rv w'=>rv=.bool (CJ f n)∧Ext w w'):=by
 cases h1.len
 cases h2.len
 refine goT func83 ?_
 have Z:=((St.i0 F w).p h1).p h2
 have af:=h1.max
 refine .s<|.g<|.r 1<|.d<|.s<|.s<|.g<|.r 1<|RG.C0 (HH f (Z.a 1)) Z fun w Z=>?_
 cases ah:(Cq f)
 ·exact .r 6<|.d<|.ct<|.s<|.g<|.r 1<|.d<|T.rt func83 results83 (.bool false) ⟨(AG (by unfold CJ; (simp [*]; done))),Z.xt⟩
 refine .r 3<|RG.C0 (Dv n (Z.a 0)) Z fun w Z=>?_
 cases ai:(Ar n)
 ·exact .r 2<|.d<|.ct<|.s<|.g<|.r 1<|.d<|T.rt func83 results83 (.bool false) ⟨(AG (by unfold CJ; (simp [*]; done))),Z.xt⟩
 refine .r 2<|.d<|.cf<|.sk<|.s<|.s<|.g<|.r 3<|.d<|.b 0<|T.Lp (0:Nat) (fun k=>([(1,.slice a2 n.length c2),(15,.slice a1 f.length c1),(16,vI (f.length:Int)),(17,vI (k:Int))],[],[],f.length - k,(k≤f.length)∧(Cq f=true)∧(Ar n=true)∧((f.drop k).all (fun c=>has n c.tag != c.no)=fits f n))) [] Z ⟨AB,AB,AB,AF⟩ ?_
 rintro k ar w Z ⟨aj,ak,al,am⟩ ab
 refine .s<|.g<|.bp ((k:Int)< (f.length:Int)) (fun ac=>?_) (fun ac=>.d<|.s<|.cf<|.x 0 rfl<|.s<|.g<|.r 1<|.d<|T.rt func83 results83 (.bool true) ⟨(AG (by unfold CJ; rw [KG (f:=fun c:Cnd=>has n c.tag != c.no) (by assumption:(f.drop k).all _=fits f n) AB]; simp [*])),Z.xt⟩)
 refine .d<|.s<|.ct<|.sk<|.s<|.b 1<|.s<|.g<|gxd f k fun E aa ao=>RG.Ix 1 aa Z<|Z.el 1 aa fun Z=>RG.Lg 0 0 Z<|RG.Np Z fun ax w Z=>RG.Ss 0 Z fun w Z=>.d<|.s<|T.Gd 6 Z fun w Z=>.r [0,1]<|GA.Ln 2 0 Z<|GA.C0 3 Z (fun w Z=>Dx n E.tag (Z.a 1))<|.r [4]<|GA.Lb 5 0 Z<|GA.Dn Z fun w Z=>RG.eqv (v:=.bool ((has n E.tag)==E.no)) (v':=.bool ((has n E.tag)==E.no)) AA AF ?_
 cases aq:((has n E.tag)==E.no)
 ·exact .d<|.cf<|.sk<|.ib 1<|.g<|.it ((k:Int)+1)<|.r 1<|.d<|ab (k+1) _ _ AA (Z.to 1 [] 1) ⟨AB,‹_›,‹_›,(by exact H6 ‹_› ‹_› (by simp_all))⟩ (by (simp only []; omega))
 exact .d<|.ct<|.s<|.g<|.r 1<|.d<|T.rt func83 results83 (.bool false) ⟨(AG (by unfold CJ; (rw [JN (f:=fun c:Cnd=>has n c.tag != c.no) (by assumption:(f.drop k).all _=fits f n) ‹_› (by simp_all)]; simp))),Z.xt⟩
theorem KY (ix:Idx) (f:List Cnd) (h1:RepS w F a1 n1 c1 ix.names) (h2:RepS w F a2 n2 c2 ix.AY) (h3:RepS w F a3 n3 c3 f) (p0:IxI ix) (p1:NsD ix.names):Calls Tryz.prog 40 [.agg #[.slice a1 n1 c1,.slice a2 n2 c2],.slice a3 n3 c3].toArray w (Al fun rv w'=>VL (ge w.heap.size) w' (BG (CJ f) 0 ix.names:List Int) rv∧Ext w w'):=by
 cases h1.len
 cases h2.len
 cases h3.len
 refine goT func40 ?_
 have Z:=(((St.i0 F w).p h1).p h2).p h3
 have aj:=h1.max
 refine .s<|.g<|RG.Np Z fun ay w Z=>.r 1<|.d<|.s<|.g<|RG.N0 Int 0 Z fun ag w Z=>.r 1<|.d<|.s<|.s<|.g<|RG.Ln 1 Z<|RG.C0 (Hf ix (Z.a 2) (Z.a 1) p0 p1) Z fun w Z=>.r 1<|.d<|.cf<|.sk<|.s<|.s<|.g<|.r 1<|RG.Lb 1 Z<|.r 2<|.d<|.b 0<|T.Lp (([]:List Int),ag,(0:Nat),(0:Nat)) (fun (out,r_out,c_out,k)=>([(1,.slice a3 f.length c3),(5,vS r_out out.length c_out),(14,.slice a1 ix.names.length c1),(15,vI (ix.names.length:Int)),(16,vI (k:Int))],[(0,.own 0 r_out 3 c_out out)],[],ix.names.length - k,(k≤ix.names.length)∧(out.length≤k)∧(out++BG (CJ f) k (ix.names.drop k)=BG (CJ f) 0 ix.names))) [] Z ⟨AB,AD,AF⟩ ?_
 rintro ⟨out,r_out,c_out,k⟩ az w Z ⟨am,ao,aq⟩ E
 refine .s<|.g<|.bp ((k:Int)< (ix.names.length:Int)) (fun ab=>?_) (fun ab=>.d<|.s<|.cf<|.x 0 rfl<|.s<|.g<|.r 2<|.d<|T.Rt func40 results40 ⟨Z.rM 0 out (by exact Rz ‹_› AB),Z.xt⟩)
 refine .d<|.s<|.ct<|.sk<|.s<|.b 1<|.s<|.g<|.r 1<|gxb ix.names k fun ac aa ar af=>RG.Ix 2 aa Z<|Z.el 2 aa fun aA aB Z=>RG.Lh 0 0 Z<|.r 2<|.d<|.s<|.g<|.r 2<|RG.C0 (JX f ac (Z.a 2) (Z.a 1) (by have q1:=(p0.nm.sz _ ‹_›).1; omega)) Z fun w Z=>?_
 cases ax:(CJ f ac)
 ·exact .d<|.cf<|.sk<|.ib 1<|.g<|RG.int ((k:Int)+1) AA (by have q1:=p0.nm.len; omega)<|.r 1<|.d<|E (out,r_out,c_out,k+1) _ _ AA (Z.to 0 [] 2) ⟨AB,AB,(by exact Pl ‹_› ‹_› ‹_›)⟩ (by (simp only []; omega))
 exact .d<|.ct<|.g<|.r 2<|RG.int ((k:Int)+1) AA (by have q1:=p0.nm.len; omega)<|RG.Nb 1 Z fun aC w Z=>RG.Ap (hs:=by exact (by have q1:=p0.nm.len; omega)) 0 0 out ((k:Int)+1) [] Z fun ah ai w Z=>.r 1<|.d<|.ib 1<|.g<|RG.int ((k:Int)+1) AA (by have q1:=p0.nm.len; omega)<|.r 1<|.d<|E ((out++[(k:Int)+1]),ah,ai,k+1) _ _ AA (Z.to 0 [] 2) ⟨AB,(by (simp; omega)),(by exact Pk ‹_› ‹_› ‹_›)⟩ (by (simp only []; omega))
end Go.Proofs.YtckdhcbbgmiccaaGreatDoor
namespace Go.Proofs.YtckdhcbbgmiccaaGreatDoor
set_option maxRecDepth 100000
set_option maxHeartbeats 4000000
variable {w:World} {F:Nat→Prop} {a1 a2 a3 a4 a5:Option Addr} {n1 c1 n2 c2 n3 c3 n4 c4 n5 c5:Nat}
set_option maxRecDepth 100000 in
set_option maxHeartbeats 4000000 in
theorem HI (n:List Tag) (h1:RepS w F a1 n1 c1 n) (p0:GI n):Calls Tryz.prog 43 [.slice a1 n1 c1].toArray w (Al fun rv w'=>rv=.string (bs (Ei n))∧Ext w w'):=by
 cases h1.len
 refine goT func43 ?_
 have Z:=(St.i0 F w).p h1
 have ai:=h1.max
 refine .s<|.g<|.r 1<|.d<|.s<|.s<|.g<|.r 1<|RG.C0 (Dv n (Z.a 0)) Z fun w Z=>?_
 cases aj:(Ar n)
 ·exact .r 1<|.d<|.ct<|.s<|.g<|.r 1<|.d<|T.rt func43 results43 (.string (bs [])) ⟨(congrArg (fun s=>Value.string (bs s)) (by rw [Up ‹_›])),Z.xt⟩
 refine .r 1<|.d<|.cf<|.sk<|.s<|.g<|RG.N0 Txt 0 Z fun af w Z=>.r 1<|.d<|.s<|.s<|.g<|.r 3<|.d<|.b 0<|T.Lp (([]:List Txt),af,(0:Nat),(0:Nat)) (fun (out,r_out,c_out,k)=>([(3,vS r_out out.length c_out),(10,.slice a1 n.length c1),(11,vI (n.length:Int)),(12,vI (k:Int))],[(0,.own 0 r_out 9 c_out out)],[],n.length - k,(k≤n.length)∧(out.length≤k)∧(out++(n.drop k).map tx1=n.map tx1))) [] Z ⟨AB,AD,AF⟩ ?_
 rintro ⟨out,r_out,c_out,k⟩ aq w Z ⟨ak,al,am⟩ ab
 refine .s<|.g<|.bp ((k:Int)< (n.length:Int)) (fun ac=>?_) (fun ac=>.d<|.s<|.cf<|.x 0 rfl<|.s<|.g<|.r 1<|RG.C0 (Fh out [44] (Z.oa 0) (Ye ‹_› AB p0) (by have:=p0.1; omega)) Z fun w Z=>.r 1<|.d<|T.rt func43 results43 (.string (bs (Lib.join (out.map Txt.s) [44]))) ⟨(congrArg (fun s=>Value.string (bs s)) (by (rw [R2 ‹_› AB,MV ‹_›]))),Z.xt⟩)
 exact .d<|.s<|.ct<|.sk<|.s<|.b 1<|.s<|.g<|gxb n k fun E aa ao ae=>RG.Ix 0 aa Z<|Z.el 0 aa fun Z=>RG.Lg 0 0 Z<|RG.Np Z fun ar w Z=>RG.Ss 0 Z fun w Z=>.d<|.g<|.r 2<|RG.Lb 0 Z<|RG.cat (t:=9) (s:=E.key) (u:=[61]) AA (by have q1:=p0.2 _ ‹_›; simp only [List.length_append,List.length_cons,List.length_nil]; omega)<|.r 1<|RG.Lb 0 Z<|RG.cat (t:=9) (s:=(E.key++[61])) (u:=E.val) AA (by have q1:=p0.2 _ ‹_›; simp only [List.length_append,List.length_cons,List.length_nil]; omega)<|RG.Nb 1 Z fun ay w Z=>RG.Ap (hs:=by exact (by have:=p0.1; omega)) 1 0 out (⟨((E.key++[61])++E.val)⟩:Txt) [] Z fun ag ah w Z=>.r 1<|.d<|.ib 1<|.g<|.it ((k:Int)+1)<|.r 1<|.d<|ab ((out++[(⟨((E.key++[61])++E.val)⟩:Txt)]),ag,ah,k+1) _ _ AA (Z.to 1 [] 1) ⟨AB,(by (simp; omega)),(by exact Uo ‹_› ‹_›)⟩ (by (simp only []; omega))
theorem HJ (s:Sto) (f:List Cnd) (from_:Int) (to_:Int) (h1:RepS w F a1 n1 c1 s.idx.names) (h2:RepS w F a2 n2 c2 s.idx.AY) (h3:RepS w F a3 n3 c3 s.parts) (h4:RepS w F a4 n4 c4 s.mem) (h5:RepS w F a5 n5 c5 f) (p0:SD s):Calls Tryz.prog 21 [.agg #[.slice a1 n1 c1,.slice a2 n2 c2,.slice a3 n3 c3,.slice a4 n4 c4],.slice a5 n5 c5,.int .i64 from_,.int .i64 to_].toArray w (Al fun rv w'=>VL (ge w.heap.size) w' (Bt s f from_ to_:List Hit) rv∧Ext w w'):=by
 cases h1.len
 cases h2.len
 cases h3.len
 cases h4.len
 cases h5.len
 refine goT func21 ?_
 have Z:=(((((St.i0 F w).p h1).p h2).p h3).p h4).p h5
 have ax:=h1.max
 have az:=h3.max
 have aA:=h4.max
 refine .s<|.g<|RG.Np Z fun ak w Z=>.r 1<|.d<|.s<|.g<|RG.N0 Hit 0 Z fun al w Z=>.r 1<|.d<|.s<|.s<|.g<|RG.Ln 1 Z<|RG.C0 (EV s (Z.a 4) (Z.a 3) (Z.a 2) (Z.a 1) p0) Z fun w Z=>?_
 cases aC:(Ab s)
 ·exact .r 1<|.d<|.ct<|.s<|.g<|.r 2<|.d<|T.Rt func21 results21 ⟨Z.rM 0 ([]:List Hit) (by rw [Yd (.inl ‹_›)]),Z.xt⟩
 refine .r 1<|.d<|.cf<|.sk<|.s<|.s<|.g<|.r 1<|RG.Ln 1 Z<|.r 1<|RG.CL (KY s.idx f (Z.a 4) (Z.a 3) (Z.a 0) p0.ix p0.nd) Z fun am ao w Z=>?_
 have aD:=Z.mf 0 (BG (CJ f) 0 s.idx.names)
 refine .r 2<|.d<|.b 0<|T.Lp (([]:List Hit),al,(0:Nat),(0:Nat)) (fun (out,r_out,c_out,k)=>([(2,vI from_),(3,vI to_),(4,vP ak),(9,vS r_out out.length c_out),(21,.slice am ((BG (CJ f) 0 s.idx.names).length) ao),(22,vI (((BG (CJ f) 0 s.idx.names).length):Int)),(23,vI (k:Int))],[(0,.own 0 r_out 78 c_out out)],[],(BG (CJ f) 0 s.idx.names).length - k,(k≤(BG (CJ f) 0 s.idx.names).length)∧(out.length≤k)∧(out++((BG (CJ f) 0 s.idx.names).drop k).flatMap (DR s from_ to_)=Fi (CJ f) s from_ to_))) [] Z ⟨AB,AD,AF⟩ ?_
 rintro ⟨out,r_out,c_out,k⟩ aO w Z ⟨aE,aF,aG⟩ aa
 have aH:=Z.mo 0 out
 refine .s<|.g<|.bp ((k:Int)< (((BG (CJ f) 0 s.idx.names).length):Int)) (fun ag=>?_) (fun ag=>.d<|.s<|.cf<|.x 0 rfl<|.s<|.g<|.r 2<|.d<|T.Rt func21 results21 ⟨Z.rM 0 out (by exact (Wx p0 ‹_› ‹_› AB).symm),Z.xt⟩)
 refine .d<|.s<|.ct<|.sk<|.s<|.b 1<|.s<|.g<|gxb (h:=AB) (BG (CJ f) 0 s.idx.names) k fun E ab aI ai=>RG.Ix 0 ab Z<|Z.el 0 ab fun Z=>RG.Lh 0 0 Z<|.r 1<|.d<|.s<|.g<|RG.Ln 1 Z<|.r 1<|RG.CL (DW s E (Z.a 6) (Z.a 5) (Z.a 4) (Z.a 3) (StoK.of p0 ‹_›).part (StoK.of p0 ‹_›).row (by have:=p0.np; omega) (by have:=p0.nm2; omega)) Z fun aP aQ w Z=>.r 2<|RG.CL (LJ (rowsOf s E) from_ to_ (Z.a 0) (Nat.le_trans (Qy p0 ‹_› _).len AB)) Z fun aR aS w Z=>.r 1<|.d<|.s<|.g<|.r 2<|.bp ((((HO (rowsOf s E) from_ to_).length):Int) > 0) (fun ah=>?_) (fun ah=>.d<|.cf<|.sk<|.ib 1<|.g<|RG.int ((k:Int)+1) AA AB<|.r 1<|.d<|aa (out,r_out,c_out,k+1) _ _ AA (Z.to 0 [] 3) ⟨AB,AB,(by exact Ur p0 ‹_› ‹_› ‹_› ‹_›)⟩ (by (simp only []; omega)))
 exact .d<|.ct<|.g<|.r 3<|RG.Lb 1 Z<|.r 1<|RG.int (E - 1) AA (by (have q1:=C3 (by assumption:_∈BG _ 0 s.idx.names); omega))<|gxm (h:=(by (have q1:=C3 (by assumption:_∈BG _ 0 s.idx.names); omega))) s.idx.names ((E - 1).toNat) fun ae ac aj=>RG.Jx (hz:=(by (have q1:=C3 (by assumption:_∈BG _ 0 s.idx.names); omega))) 8 (E - 1) ac Z<|Z.el 8 ac fun aT aU Z=>RG.Lh 0 0 Z<|RG.C0 (HI ae (Z.a 1) (p0.nm.sz _ ‹_›)) Z fun w Z=>.r 2<|RG.Nb 1 Z fun aV w Z=>RG.Ap (hs:=by exact (by have q1:=KW (CJ f) s.idx.names 0; have q2:=p0.nm.len; omega)) 0 0 out (⟨Ei ae,HO (rowsOf s E) from_ to_⟩:Hit) [2] Z fun aq ar w Z=>.r 1<|.d<|.ib 1<|.g<|RG.int ((k:Int)+1) AA AB<|.r 1<|.d<|aa ((out++[(⟨Ei ae,HO (rowsOf s E) from_ to_⟩:Hit)]),aq,ar,k+1) _ _ AA (Z.to 0 [] 5) ⟨AB,(by (simp; omega)),(by exact Uq p0 ‹_› ‹_› ‹_› ‹_› ‹_›)⟩ (by (simp only []; omega))
end Go.Proofs.YtckdhcbbgmiccaaGreatDoor
namespace Go.Proofs.YtckdhcbbgmiccaaGreatDoor
set_option maxRecDepth 100000
set_option maxHeartbeats 4000000
variable {w:World} {F:Nat→Prop} {a1 a2 a3 a4:Option Addr} {n1 c1 n2 c2 n3 c3 n4 c4:Nat}
theorem CH (s:Sto) (h1:RepS w F a1 n1 c1 s.idx.names) (h2:RepS w F a2 n2 c2 s.idx.AY) (h3:RepS w F a3 n3 c3 s.parts) (h4:RepS w F a4 n4 c4 s.mem) (p0:∀ m∈s.mem,Be m.row=true) (p1:∀ m∈s.mem,1≤m.id∧m.id≤6) (p2:s.mem.length≤1000):Calls Tryz.prog 122 [.agg #[.slice a1 n1 c1,.slice a2 n2 c2,.slice a3 n3 c3,.slice a4 n4 c4]].toArray w (Al fun rv w'=>VS (ge w.heap.size) w' (Ak s.mem:Prt) rv∧Ext w w'):=by
 cases h1.len
 cases h2.len
 cases h3.len
 cases h4.len
 refine goT func122 ?_
 have Z:=((((St.i0 F w).p h1).p h2).p h3).p h4
 refine .s<|.g<|RG.Np Z fun ag w Z=>RG.Np Z fun ah w Z=>.d<|.s<|.g<|RG.N0 Int 0 Z fun ai w Z=>RG.N0 (List Row) 0 Z fun aj w Z=>.r 1<|RG.Np Z fun ac w Z=>RG.Ss 0 Z fun w Z=>.d<|.s<|.s<|.g<|.r 1<|.d<|.b 0<|T.Lp ((1:Nat),([]:List Int),ai,(0:Nat),([]:List (List Row)),aj,(0:Nat)) (fun (id,E,r_out_0,c_out_0,aa,r_out_1,c_out_1)=>([(1,vP ag),(2,vP ah),(3,vP ac),(4,vI (id:Int))],[(0,.box ac 124 [vS r_out_0 E.length c_out_0,vS r_out_1 aa.length c_out_1]),(1,.own 0 r_out_1 76 c_out_1 aa),(2,.own 0 r_out_0 3 c_out_0 E)],[],7 - id,(1≤id)∧(id≤7)∧(E.length≤id)∧(aa.length≤id)∧(E=(BQ 0 (Dr s.mem (id - 1))).1)∧(aa=(BQ 0 (Dr s.mem (id - 1))).2))) [] Z ⟨AB,AB,(by (simp; done)),(by (simp; done)),AF,AF⟩ ?_
 rintro ⟨id,E,r_out_0,c_out_0,aa,r_out_1,c_out_1⟩ aF w Z ⟨az,aA,aB,aC,aD,aE⟩ ab
 refine .s<|.s<|.g<|.r 1<|.bp ((id:Int)≤6) (fun ae=>.d<|.ct<|.sk<|.s<|.b 1<|.s<|.g<|.r 1<|RG.Lb 4 Z<|.r 2<|RG.CL (DW (⟨(⟨([]:List (List Tag)),([]:List Pst)⟩:Idx),([]:List Prt),s.mem⟩:Sto) (id:Int) Z.na Z.na Z.na (Z.a 0) AD p0 AD p2) Z fun aG aH w Z=>.r 1<|.d<|.s<|.g<|.r 2<|.bp ((((rowsOf (⟨(⟨([]:List (List Tag)),([]:List Pst)⟩:Idx),([]:List Prt),s.mem⟩:Sto) (id:Int)).length):Int) > 0) (fun af=>.d<|.ct<|.s<|.g<|.r 1<|RG.Lb 0 Z<|.r 1<|RG.Nb 1 Z fun aI w Z=>RG.Ap 2 0 E (id:Int) [] Z fun ak al w Z=>.r 1<|RG.Ss 0 Z fun w Z=>.d<|.g<|.r 1<|RG.Lb 0 Z<|.r 1<|RG.Nb 1 Z fun aJ w Z=>RG.Ap 1 0 aa (rowsOf (⟨(⟨([]:List (List Tag)),([]:List Pst)⟩:Idx),([]:List Prt),s.mem⟩:Sto) (id:Int)) [0] Z fun am ao w Z=>.r 1<|RG.Ss 0 Z fun w Z=>.d<|.ib 1<|.g<|.r 1<|.it ((id:Int)+1)<|.r 1<|.d<|ab (id+1,(E++[(id:Int)]),ak,al,(aa++[rowsOf (⟨(⟨([]:List (List Tag)),([]:List Pst)⟩:Idx),([]:List Prt),s.mem⟩:Sto) (id:Int)]),am,ao) _ _ AA (Z.to 0 [] 1) ⟨AB,AB,(by (simp; omega)),(by (simp; omega)),(by exact Wt ‹_› AB ‹_›),(by exact Wv ‹_› AB ‹_›)⟩ (by (simp only []; omega))) fun af=>.d<|.cf<|.sk<|.ib 1<|.g<|.r 1<|.it ((id:Int)+1)<|.r 1<|.d<|ab (id+1,E,r_out_0,c_out_0,aa,r_out_1,c_out_1) _ _ AA (Z.to 0 [] 1) ⟨AB,AB,AB,AB,(by exact Wu ‹_› AB ‹_›),(by exact Ww ‹_› AB ‹_›)⟩ (by (simp only []; omega))) fun ae=>.d<|.cf<|.x 0 rfl<|.s<|.g<|RG.Ln 0 Z<|RG.Ss 3 Z fun w Z=>.d ?_
 have Z:=(Z.sl 2).sl 1
 exact T.Rb 1 func122 results122 Z ⟨Z.rS (⟨E,aa⟩:Prt) [1,0] (by exact Zu (k:=id) p1 AB ‹_› ‹_›),Z.xt⟩
theorem EB (s:Sto) (h1:RepS w F a1 n1 c1 s.idx.names) (h2:RepS w F a2 n2 c2 s.idx.AY) (h3:RepS w F a3 n3 c3 s.parts) (h4:RepS w F a4 n4 c4 s.mem) (p0:NmI s.idx.names) (p1:NsD s.idx.names) (p2:NS s):Calls Tryz.prog 29 [.agg #[.slice a1 n1 c1,.slice a2 n2 c2,.slice a3 n3 c3,.slice a4 n4 c4]].toArray w (Al fun rv w'=>(∃ (a0:Option Addr) (n0 c0:Nat) (a1:Option Addr) (n1 c1:Nat) (r2 n2 c2:Nat) (r3 n3 c3:Nat),rv=.agg #[.slice a0 n0 c0,.slice a1 n1 c1,.slice (some ⟨r2,0,none⟩) n2 c2,.slice (some ⟨r3,0,none⟩) n3 c3]∧RepS w' (nin (ge w.heap.size) [r2,r3]) a0 n0 c0 ((((Ai s)).idx).names)∧RepS w' (nin (ge w.heap.size) [r2,r3]) a1 n1 c1 ((((Ai s)).idx).AY)∧Own w' r2 124 (nin (ge w.heap.size) [r2,r3]) n2 c2 (((Ai s)).parts)∧w.heap.size≤r2∧Own w' r3 128 (nin (ge w.heap.size) [r2,r3]) n3 c3 (((Ai s)).mem)∧w.heap.size≤r3∧Nb r3 r2)∧Ext w w'):=by
 cases h1.len
 cases h2.len
 cases h3.len
 cases h4.len
 refine goT func29 ?_
 have Z:=((((St.i0 F w).p h1).p h2).p h3).p h4
 have aF:=h3.max
 have aG:=h4.max
 refine .s<|.g<|RG.Np Z fun ae w Z=>RG.Np Z fun af w Z=>.d<|.s<|T.GS 10 [af,ae] Z fun _ w Z=>.r [0,1]<|GA.Lb (q:=1) 2 1 Z<|.r [4]<|GA.Lb (q:=1) 5 1 Z<|.r [8]<|GA.Lb (q:=1) 9 1 Z<|.tw 3 7 ?_ ?_
 ·refine GE.CS (fun w Z=>CM s.idx.names (Z.a 3) p0 p1) Z fun E aa ab ac w Z=>.tw 6 7 ?_ ?_
  ·exact GE.CO 0 (fun w Z=>CZ s.parts (Z.a 3) (by have:=p2.2.1; omega) p2.2.2.1) Z fun ag ah w Z=>.go 7<|GE.N0 Smp 0 Z fun aH w Z=>GA.Do Z fun w Z=>RG.An (hs:=by (simp only [List.nil_append,List.length_nil,List.length_append,List.length_cons] <;> exact (by have:=p2.2.2.2; omega))) (hf:=.inr E0) 0 2 ([]:List Smp) s.mem Z fun ai aj w Z=>.r 1<|RG.Ss 2 Z fun w Z=>.d<|T.Rb 2 func29 results29 Z ⟨⟨E,((idxOf s.idx.names).names.length),aa,ab,((idxOf s.idx.names).AY.length),ac,ag,s.parts.length,ah,ai,(([]++s.mem).length),aj,AA,Z.qr [1,0] 0 ((idxOf s.idx.names).names) AF,Z.qr [1,0] 1 ((idxOf s.idx.names).AY) AF,Z.qo [1,0] 1 s.parts AF,Z.qb 1,Z.qo [1,0] 0 ([]++s.mem) AF,Z.qb 0,Z.qn 0 1⟩,Z.xt⟩
  exact GE.N0 Smp 0 Z fun aI w Z=>.go 6<|GE.CO 0 (fun w Z=>CZ s.parts (Z.a 3) (by have:=p2.2.1; omega) p2.2.2.1) Z fun ak al w Z=>GA.Do Z fun w Z=>RG.An (hs:=by (simp only [List.nil_append,List.length_nil,List.length_append,List.length_cons] <;> exact (by have:=p2.2.2.2; omega))) (hf:=.inr E0) 1 2 ([]:List Smp) s.mem Z fun am ao w Z=>.r 1<|RG.Ss 2 Z fun w Z=>.d<|T.Rb 2 func29 results29 Z ⟨⟨E,((idxOf s.idx.names).names.length),aa,ab,((idxOf s.idx.names).AY.length),ac,ak,s.parts.length,al,am,(([]++s.mem).length),ao,AA,Z.qr [0,1] 0 ((idxOf s.idx.names).names) AF,Z.qr [0,1] 1 ((idxOf s.idx.names).AY) AF,Z.qo [0,1] 0 s.parts AF,Z.qb 0,Z.qo [0,1] 1 ([]++s.mem) AF,Z.qb 1,Z.qn 1 0⟩,Z.xt⟩
 exact GE.N0 Smp 0 Z fun aJ w Z=>.go 3<|GE.CS (fun w Z=>CM s.idx.names (Z.a 3) p0 p1) Z fun aq ar ax ay w Z=>.go 6<|GE.CO 0 (fun w Z=>CZ s.parts (Z.a 3) (by have:=p2.2.1; omega) p2.2.2.1) Z fun az aA w Z=>GA.Do Z fun w Z=>RG.An (hs:=by (simp only [List.nil_append,List.length_nil,List.length_append,List.length_cons] <;> exact (by have:=p2.2.2.2; omega))) (hf:=.inr E0) 1 2 ([]:List Smp) s.mem Z fun aB aC w Z=>.r 1<|RG.Ss 2 Z fun w Z=>.d<|T.Rb 2 func29 results29 Z ⟨⟨aq,((idxOf s.idx.names).names.length),ar,ax,((idxOf s.idx.names).AY.length),ay,az,s.parts.length,aA,aB,(([]++s.mem).length),aC,AA,Z.qr [0,1] 0 ((idxOf s.idx.names).names) AF,Z.qr [0,1] 1 ((idxOf s.idx.names).AY) AF,Z.qo [0,1] 0 s.parts AF,Z.qb 0,Z.qo [0,1] 1 ([]++s.mem) AF,Z.qb 1,Z.qn 1 0⟩,Z.xt⟩
theorem JY (s:Sto) (h1:RepS w F a1 n1 c1 s.idx.names) (h2:RepS w F a2 n2 c2 s.idx.AY) (h3:RepS w F a3 n3 c3 s.parts) (h4:RepS w F a4 n4 c4 s.mem) (p0:SD s):Calls Tryz.prog 64 [.agg #[.slice a1 n1 c1,.slice a2 n2 c2,.slice a3 n3 c3,.slice a4 n4 c4]].toArray w (Al fun rv w'=>(∃ v0,rv=.tuple #[v0,.bool ((Bs s).2)]∧VS (fo F w.heap.size) w' ((Bs s).1:Sto) v0)∧Ext w w'):=by
 cases h1.len
 cases h2.len
 cases h3.len
 cases h4.len
 refine goT func64 ?_
 have Z:=((((St.i0 F w).p h1).p h2).p h3).p h4
 have aE:=h3.max
 have aF:=h4.max
 refine .s<|.g<|RG.Np Z fun ak w Z=>RG.Np Z fun al w Z=>.r 1<|.d<|.s<|.s<|.g<|RG.Ln 1 Z<|RG.C0 (EV s (Z.a 3) (Z.a 2) (Z.a 1) (Z.a 0) p0) Z fun w Z=>?_
 cases aG:(Ab s)
 ·refine .r 1<|.d<|.ct<|.s<|.g<|.r 1<|RG.Ss 0 Z fun w Z=>.r 1<|.d ?_
  have Z:=(((Z.nl (List Tag)).nl Pst).nl Prt).nl Smp
  exact T.r2 func64 results64 (.B 0 Z) (.t (.bool false)) ⟨⟨_,(Bk rfl (AG (by rw [KV ‹_›]))),Z.rS (g:=1) (⟨(⟨([]:List (List Tag)),([]:List Pst)⟩:Idx),([]:List Prt),([]:List Smp)⟩:Sto) [3,2,1,0] (by rw [KV ‹_›])⟩,Z.xt⟩
 refine .r 1<|.d<|.cf<|.sk<|.s<|.g<|RG.Ln 1 Z<|RG.cl (EB s (Z.a 3) (Z.a 2) (Z.a 1) (Z.a 0) p0.nm p0.nd p0.sz) ?_
 rintro _ w ⟨⟨am,aH,ao,aq,aI,ar,ax,aJ,ay,az,aK,aA,rfl,ab,ac,E,ae,aa,af,ag⟩,ah⟩
 cases ab.len
 cases ac.len
 cases E.len
 cases aa.len
 have Z:=Z.so ah [.own 0 ax 124 ay (((Ai s)).parts),.own 0 az 128 aA (((Ai s)).mem)] [.rep am ao ((((Ai s)).idx).names),.rep aq ar ((((Ai s)).idx).AY)] (nd2 ag) (oN E ae (oN aa af o0)) (fc ab (fc ac fn_))
 refine RG.Np Z fun aB w Z=>RG.Ss 0 Z fun w Z=>.d<|.s<|.s<|.g<|.r 1<|RG.Lb 4 Z<|.r 1<|.eq (s.mem.length:Int) 0 (fun ai=>?_) (fun ai=>?_)
 ·refine .r 6<|.d<|.ct<|.s<|.g<|RG.Ln 0 Z<|RG.Ss 3 Z fun w Z=>.r 1<|.d ?_
  have Z:=(Z.sl 1).sl 1
  exact T.r2 func64 results64 (.B 1 Z) (.t (.bool false)) ⟨⟨_,(Bk rfl (AG (by rw [Hh p0 ‹_› (.inl ‹_›)]))),Z.rS (g:=1) (⟨(⟨(((Ai s)).idx).names,(((Ai s)).idx).AY⟩:Idx),((Ai s)).parts,((Ai s)).mem⟩:Sto) [2,3,1,0] (by rw [Hh p0 ‹_› (.inl ‹_›)])⟩,Z.xt⟩
 refine .r 2<|RG.Lb 4 Z<|.r 1<|.eq (s.parts.length:Int) 6 (fun aj=>?_) (fun aj=>?_)
 ·refine .r 1<|.d<|.ct<|.s<|.g<|RG.Ln 0 Z<|RG.Ss 3 Z fun w Z=>.r 1<|.d ?_
  have Z:=(Z.sl 1).sl 1
  exact T.r2 func64 results64 (.B 1 Z) (.t (.bool false)) ⟨⟨_,(Bk rfl (AG (by rw [Hh p0 ‹_› (.inr ‹_›)]))),Z.rS (g:=1) (⟨(⟨(((Ai s)).idx).names,(((Ai s)).idx).AY⟩:Idx),((Ai s)).parts,((Ai s)).mem⟩:Sto) [2,3,1,0] (by rw [Hh p0 ‹_› (.inr ‹_›)])⟩,Z.xt⟩
 refine .r 1<|.d<|.cf<|.sk<|.s<|T.GS 5 [aB,al,ak] Z fun _ w Z=>.r [0]<|GA.Lb 1 0 Z<|GA.Ln (q:=2) 2 4 Z<|.go 3<|GE.CS (fun w Z=>CH s (Z.a 5) (Z.a 4) (Z.a 3) (Z.a 2) (StoK.of p0 ‹_›).row (StoK.of p0 ‹_›).KS.J9 (by have:=p0.nm2; omega)) Z fun aL aM aN aO w Z=>.go 4<|GE.Nb 1 Z fun aP w Z=>GA.Do Z fun w Z=>RG.Ap (hs:=by exact (by have q1:=p0.np; have q2:(Ai s).parts.length=s.parts.length:=rfl; omega)) 1 0 (((Ai s)).parts) (Ak s.mem) [0,1] Z fun aS aT w Z=>.r 1<|RG.Ss 0 Z fun w Z=>.d<|.s<|.g<|RG.N0 Smp 1 Z fun aU w Z=>.r 1<|RG.Ss 1 Z fun w Z=>.d<|.s<|.g<|RG.Ln 1 Z<|RG.Ss 4 Z fun w Z=>.r 1<|.d ?_
 have Z:=(Z.sl 2).sl 0
 exact T.r2 func64 results64 (.B 2 Z) (.t (.bool true)) ⟨⟨_,(Bk rfl (AG (by rw [JW p0 ‹_› ‹_› ‹_›]))),Z.rS (g:=1) (⟨(⟨(((Ai s)).idx).names,(((Ai s)).idx).AY⟩:Idx),(((Ai s)).parts++[(Ak s.mem)]),([]:List Smp)⟩:Sto) [4,5,1,0] (by rw [JW p0 ‹_› ‹_› ‹_›])⟩,Z.xt⟩
end Go.Proofs.YtckdhcbbgmiccaaGreatDoor
