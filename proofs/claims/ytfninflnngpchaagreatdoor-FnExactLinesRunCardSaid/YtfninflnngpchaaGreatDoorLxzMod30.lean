/- What asking computes, as plain functions, and its laws. -/
import Derived.Test.YtfninflnngpchaaGreatDoorLxzW20
import Derived.Test.YtfninflnngpchaaGreatDoorLxzJn
open Go.Proofs.Tryz
set_option linter.unusedVariables false
set_option linter.unusedSimpArgs false
namespace Go.Proofs.YtfninflnngpchaaGreatDoor
def HW (b:List Row) (lo hi:Int):List Row:=b.filter (fun r=>inR r.t lo hi)
def G8 (b:List Row) (lo hi:Int):List Row:=if Bi b then HW b lo hi else []
def fits (f:List Cnd) (n:List Tag):Bool:=f.all (fun c=>has n c.tag != c.no)
def Bt (f:List Cnd):Bool:=f.all (fun c=>Bj c.tag)&&decide (f.length≤3)
def CA (f:List Cnd) (n:List Tag):Bool:=Bt f&&Ao n&&fits f n
def BD (p:List Tag→Bool):Nat→List (List Tag)→List Int
 | _,[]=>[]
 | i,n::ns=>(if p n then [(i:Int)+1] else [])++BD p (i+1) ns
def DH (s:Sto) (lo hi:Int) (id:Int):List Hit:=if (HW (rowsOf s id) lo hi).length > 0 then [⟨text (s.idx.names.getD (id - 1).toNat []),HW (rowsOf s id) lo hi⟩] else []
def FW (p:List Tag→Bool) (s:Sto) (lo hi:Int):List Hit:=(BD p 0 s.idx.names).flatMap (DH s lo hi)
def By (s:Sto) (f:List Cnd) (lo hi:Int):List Hit:=if Aa s&&Bt f then FW (fits f) s lo hi else []
def Ku (v:Tag):Nat→List Tag→Int
 | _,[]=>-1
 | i,x::xs=>if v==x then (i:Int) else Ku v (i+1) xs
theorem T8 (v:Tag):∀ (l:List Tag) (i:Nat),has l v=decide (Ku v i l≥0):=by
 intro l
 induction l with
 | nil=>intro i; simp [has,Ku]
 | cons x xs ih =>
   intro i
   have:=ih (i+1)
   unfold has at this ⊢
   rw [List.any_cons,this]
   have e:Ku v i (x::xs)=if v==x then (i:Int) else Ku v (i+1) xs:=rfl
   rw [e]
   by_cases h:v=x
   ·subst h; simp
   ·have h1:(v==x)=false:=beq_eq_false_iff_ne.2 h
    have h2:(x==v)=false:=beq_eq_false_iff_ne.2 (fun e=>h e.symm)
    rw [h1,h2]
    simp
theorem L3 {α:Type}{f:α→Bool}{l k Y:List α}{i:Nat}{x:α}(h:k++(l.drop i).filter f=Y) (hd:l.drop i=x::l.drop (i+1)) (hx:f x=true):(k++[x])++(l.drop (i+1)).filter f=Y:=by
 rw [hd,List.filter_cons,if_pos hx] at h
 rw [← h]
 simp
theorem L4 {α:Type}{f:α→Bool}{l k Y:List α}{i:Nat}{x:α}(h:k++(l.drop i).filter f=Y) (hd:l.drop i=x::l.drop (i+1)) (hx:f x=false):k++(l.drop (i+1)).filter f=Y:=by
 rw [hd,List.filter_cons,if_neg (by simp [hx])] at h
 exact h
theorem NF {α:Type}{f:α→Bool}{l k Y:List α}{i:Nat}(h:k++(l.drop i).filter f=Y) (hi:l.length≤i):k=Y:=by
 rw [Ac hi] at h
 simpa using h
theorem PC {p:List Tag→Bool}{l:List (List Tag)}{k Y:List Int}{i:Nat}{x:List Tag}(h:k++BD p i (l.drop i)=Y) (hd:l.drop i=x::l.drop (i+1)) (hx:p x=true):(k++[(i:Int)+1])++BD p (i+1) (l.drop (i+1))=Y:=by
 rw [hd,BD,if_pos hx] at h
 rw [← h]
 simp
theorem PD {p:List Tag→Bool}{l:List (List Tag)}{k Y:List Int}{i:Nat}{x:List Tag}(h:k++BD p i (l.drop i)=Y) (hd:l.drop i=x::l.drop (i+1)) (hx:p x=false):k++BD p (i+1) (l.drop (i+1))=Y:=by
 rw [hd,BD,if_neg (by simp [hx])] at h
 exact h
theorem RI {p:List Tag→Bool}{l:List (List Tag)}{k Y:List Int}{i:Nat}(h:k++BD p i (l.drop i)=Y) (hi:l.length≤i):k=Y:=by
 rw [Ac hi,BD] at h
 simpa using h
theorem NG {p:List Tag→Bool}:∀ (l:List (List Tag)) (i:Nat) (x:Int),x∈BD p i l→(i:Int)+1≤x∧x≤(i:Int)+l.length:=by
 intro l
 induction l with
 | nil=>intro i x h; simp [BD] at h
 | cons n ns ih =>
   intro i x h
   unfold BD at h
   rcases List.mem_append.1 h with h | h
   ·split at h
    ·simp at h; subst h; simp only [List.length_cons]; omega
    ·cases h
   ·have:=ih (i+1) x h
    simp only [List.length_cons]; omega
theorem Cp {p:List Tag→Bool}{l:List (List Tag)}{x:Int}(h:x∈BD p 0 l):1≤x∧x≤l.length:=by have:=NG l 0 x h; omega
theorem J8 (p:List Tag→Bool):∀ (l:List (List Tag)) (i:Nat),(BD p i l).length≤l.length:=by
 intro l
 induction l with
 | nil=>intro i; simp [BD]
 | cons n ns ih =>
   intro i
   have:=ih (i+1)
   unfold BD
   split <;> simp <;> omega
theorem SU {p:List Tag→Bool}:∀ (l:List (List Tag)) (i:Nat),(∀ n∈l,p n=false)→BD p i l=[]:=by
 intro l
 induction l with
 | nil=>intro i _; rfl
 | cons n ns ih =>
   intro i h
   unfold BD
   rw [h n AD,ih (i+1) (fun m hm=>h m (by simp [hm]))]
   rfl
theorem T9 {p q:List Tag→Bool}:∀ (l:List (List Tag)) (i:Nat),(∀ n∈l,p n=q n)→BD p i l=BD q i l:=by
 intro l
 induction l with
 | nil=>intro i _; rfl
 | cons n ns ih =>
   intro i h
   unfold BD
   rw [h n AD,ih (i+1) (fun m hm=>h m (by simp [hm]))]
theorem QQ {f:List Cnd}{x:Idx}(hx:NmI x.names) (hf:Bt f=true):BD (CA f) 0 x.names=BD (fits f) 0 x.names:=T9 _ _ (fun n hn=>by unfold CA; rw [hf,hx.ok n hn]; rfl)
theorem UA {f:List Cnd}{x:Idx}(hf:Bt f=false):BD (CA f) 0 x.names=[]:=SU _ _ (fun n _=>by unfold CA; rw [hf]; rfl)
theorem UB {s:Sto}{i:Int}(hk:Aa s=true) (h1:1≤i) (h2:i≤s.idx.names.length):IH s i=rowsOf s i:=SO hk (by unfold inR; simp [h1,h2])
theorem QR {s:Sto}(h:SD s) (hk:Aa s=true) (i:Int):Blk (rowsOf s i):=by
 have hI:=(StoK.of h hk).J4
 have key:∀ (mem:List Smp) (o:List Row),(∀ m∈mem,BZ m.row=true)→Blk o→Blk (mem.foldl (Cb i) o):=by
  intro mem
  induction mem with
  | nil=>intro o _ ho; exact ho
  | cons m ms ih =>
    intro o hm ho
    refine ih _ (fun q hq=>hm q (by simp [hq])) ?_
    unfold Cb
    split
    ·exact ho.put (hm m AD)
    ·exact ho
 have key2:∀ (ps:List Prt) (o:List Row),(∀ p∈ps,PrtI p)→Blk o→Blk (ps.foldl (Bv i) o):=by
  intro ps
  induction ps with
  | nil=>intro o _ ho; exact ho
  | cons p ps ih=>intro o hp ho; exact ih _ (fun q hq=>hp q (by simp [hq])) (ho.merge ((hp p AD).of i))
 exact key _ _ (fun m hm=>(hI.mem m hm).2.2) (key2 _ _ hI.part Blk.nil)
theorem ZJ {s:Sto}(hk:Aa s=true){i:Int}(h1:1≤i) (h2:i≤s.idx.names.length):(rowsOf s i).length≤24:=by
 unfold Aa at hk
 simp only [AW,decide_eq_true_eq,List.all_eq_true,List.mem_range,E9] at hk
 have:=hk.2 (i.toNat - 1) AB
 rwa [show ((i.toNat - 1:Nat):Int)+1=i by omega] at this
theorem UC {s:Sto}(h:SD s) (hk:Aa s=true){i:Int}(h1:1≤i) (h2:i≤s.idx.names.length):Bi (rowsOf s i)=true:=by
 unfold Bi
 have a1:Ce none (rowsOf s i)=true:=QR h hk i
 rw [a1,Bool.true_and,decide_eq_true_eq]
 exact ZJ hk h1 h2
theorem J9 {s:Sto}(h:SD s) (hk:Aa s=true){i:Int}(h1:1≤i) (h2:i≤s.idx.names.length) (lo hi:Int):G8 (rowsOf s i) lo hi=HW (rowsOf s i) lo hi:=by
 unfold G8; rw [if_pos (UC h hk h1 h2)]
theorem RJ {s:Sto}{lo hi:Int}{l:List Int}{i:Nat}{id:Int}{k Y:List Hit}(h:k++(l.drop i).flatMap (DH s lo hi)=Y) (hd:l.drop i=id::l.drop (i+1)){c:List Row}(hc:c=HW (rowsOf s id) lo hi) (hl:(c.length:Int) > 0){n:List Tag}(hn:s.idx.names[(id - 1).toNat]? = some n) :
 (k++[⟨text n,c⟩])++(l.drop (i+1)).flatMap (DH s lo hi)=Y:=by
 subst hc
 rw [hd,List.flatMap_cons] at h
 rw [← h]
 have:DH s lo hi id=[⟨text n,HW (rowsOf s id) lo hi⟩]:=by
  unfold DH
  rw [if_pos AB,List.getD_eq_getElem?_getD,hn]
  rfl
 rw [this]
 simp
theorem RL {s:Sto}{lo hi:Int}{l:List Int}{i:Nat}{id:Int}{k Y:List Hit}(h:k++(l.drop i).flatMap (DH s lo hi)=Y) (hd:l.drop i=id::l.drop (i+1)){c:List Row}(hc:c=HW (rowsOf s id) lo hi) (hl:¬ (c.length:Int) > 0) :
 k++(l.drop (i+1)).flatMap (DH s lo hi)=Y:=by
 subst hc
 rw [hd,List.flatMap_cons] at h
 rw [← h]
 have:DH s lo hi id=[]:=by
  unfold DH
  rw [if_neg AB]
 rw [this]
 simp
theorem UD {s:Sto}{lo hi:Int}{l:List Int}{i:Nat}{k Y:List Hit}(h:k++(l.drop i).flatMap (DH s lo hi)=Y) (hi2:l.length≤i):k=Y:=by
 rw [Ac hi2] at h
 simpa using h
theorem SV {f:List Cnd}(h:f.all (fun c=>Bj c.tag)=false):false=Bt f:=by unfold Bt; rw [h]; rfl
theorem QS {f:List Cnd}(h:f.all (fun c=>Bj c.tag)=true):decide ((f.length:Int)≤3)=Bt f:=by unfold Bt; rw [h,Bool.true_and,decide_eq_decide]; omega
theorem X1 {s:Sto}{f:List Cnd}{lo hi:Int}(h:Aa s=false∨Bt f=false):By s f lo hi=[]:=by
 unfold By
 rcases h with h | h <;> rw [h] <;> simp
theorem OF {s:Sto}{f:List Cnd}{lo hi:Int}(h:Aa s=true) (h2:Bt f=true):By s f lo hi=FW (fits f) s lo hi:=by unfold By; rw [h,h2]; rfl
theorem X2 {s:Sto}{f:List Cnd}{lo hi:Int}(hd:SD s) (h:Aa s=true):By s f lo hi=FW (CA f) s lo hi:=by
 unfold By FW
 cases h2:Bt f with
 | true=>rw [h,QQ hd.nm h2]; rfl
 | false=>rw [UA h2]; simp
def tx1 (t:Tag):Txt:=⟨Gw t⟩
def D9 (n:List Tag):Str:=if Ao n then text n else []
theorem QT:∀ (n:List Tag) (i:Nat),0< i→D5 i n=Lib.joinTail [44] (n.map Gw):=by
 intro n
 induction n with
 | nil=>intro i _; rfl
 | cons t ts ih =>
   intro i hi
   unfold D5
   rw [if_pos hi,ih (i+1) AB]
   simp [Lib.joinTail]
theorem NH (n:List Tag):Lib.join ((n.map tx1).map Txt.s) [44]=text n:=by
 have e:(n.map tx1).map Txt.s=n.map Gw:=by rw [List.map_map]; rfl
 rw [e]
 cases n with
 | nil=>rfl
 | cons t ts =>
   rw [List.map_cons,Lib.join_cons]
   unfold text D5
   rw [QT ts 1 AB]
   simp
theorem SW:∀ (n:List Tag) (i:Nat),(∀ t∈n,t.key.length≤1000∧t.val.length≤1000)→(D5 i n).length≤2002 * n.length:=by
 intro n
 induction n with
 | nil=>intro i _; simp [D5]
 | cons t ts ih =>
   intro i h
   have h1:=ih (i+1) (fun x hx=>h x (by simp [hx]))
   have h2:=h t AD
   unfold D5 Gw
   simp only [List.length_append,List.length_cons,List.length_nil]
   split <;> simp only [List.length_cons,List.length_nil] <;> omega
theorem RM {n:List Tag}{k:List Txt}{i:Nat}(h:k++(n.drop i).map tx1=n.map tx1) (hi:n.length≤i):Lib.join (k.map Txt.s) [44]=text n:=by
 rw [Ac hi,List.map_nil,List.append_nil] at h
 rw [h,NH]
theorem X3 {n:List Tag}{k:List Txt}{i:Nat}(h:k++(n.drop i).map tx1=n.map tx1) (hi:n.length≤i) (hn:Fw n):(Lib.join (k.map Txt.s) [44]).length≤100000000000:=by
 rw [RM h hi]
 have:=SW n 0 hn.2
 have h2:=hn.1
 unfold text
 omega
theorem UE {n:List Tag}{k:List Txt}{i:Nat}{t:Tag}(h:k++(n.drop i).map tx1=n.map tx1) (hd:n.drop i=t::n.drop (i+1)):(k++[⟨t.key++[61]++t.val⟩])++(n.drop (i+1)).map tx1=n.map tx1:=by
 rw [hd,List.map_cons] at h
 rw [← h,List.append_assoc]
 rfl
theorem L5 {n:List Tag}(h:Ao n=true):D9 n=text n:=by unfold D9; rw [if_pos h]
theorem UF {n:List Tag}(h:Ao n=false):D9 n=[]:=by unfold D9; rw [if_neg (by simp [h])]
theorem UG {p:List Tag→Bool}{s:Sto}(hs:SD s) (hk:Aa s=true){lo hi:Int}{i:Nat}{id:Int}{k Y:List Hit}(h:k++((BD p 0 s.idx.names).drop i).flatMap (DH s lo hi)=Y) (hd:(BD p 0 s.idx.names).drop i=id::(BD p 0 s.idx.names).drop (i+1)) (hl:((G8 (rowsOf s id) lo hi).length:Int) > 0){n:List Tag}(hn:s.idx.names[(id - 1).toNat]? = some n) :
 (k++[⟨D9 n,G8 (rowsOf s id) lo hi⟩])++((BD p 0 s.idx.names).drop (i+1)).flatMap (DH s lo hi)=Y:=by
 have hid:=Cp (p:=p) (l:=s.idx.names) (x:=id) (List.mem_of_mem_drop (by rw [hd]; simp))
 rw [L5 (hs.nm.ok n (AV hn))]
 exact RJ h hd (J9 hs hk hid.1 hid.2 lo hi) hl hn
theorem UH {p:List Tag→Bool}{s:Sto}(hs:SD s) (hk:Aa s=true){lo hi:Int}{i:Nat}{id:Int}{k Y:List Hit}(h:k++((BD p 0 s.idx.names).drop i).flatMap (DH s lo hi)=Y) (hd:(BD p 0 s.idx.names).drop i=id::(BD p 0 s.idx.names).drop (i+1)) (hl:¬ ((G8 (rowsOf s id) lo hi).length:Int) > 0) :
 k++((BD p 0 s.idx.names).drop (i+1)).flatMap (DH s lo hi)=Y:=by
 have hid:=Cp (p:=p) (l:=s.idx.names) (x:=id) (List.mem_of_mem_drop (by rw [hd]; simp))
 exact RL h hd (J9 hs hk hid.1 hid.2 lo hi) hl
theorem WJ {s:Sto}{f:List Cnd}(hs:SD s) (hk:Aa s=true){lo hi:Int}{i:Nat}{k:List Hit}(h:k++((BD (CA f) 0 s.idx.names).drop i).flatMap (DH s lo hi)=FW (CA f) s lo hi) (hi2:(BD (CA f) 0 s.idx.names).length≤i):By s f lo hi=k:=by
 rw [X2 hs hk]
 exact (UD h hi2).symm
end Go.Proofs.YtfninflnngpchaaGreatDoor
namespace Go.Proofs.YtfninflnngpchaaGreatDoor
set_option maxRecDepth 100000
set_option maxHeartbeats 4000000
variable {w:World} {F:Nat→Prop} {a1 a2 a3 a4 a5:Option Addr} {n1 c1 n2 c2 n3 c3 n4 c4 n5 c5:Nat}
theorem OG (b:List Row) (from_:Int) (to_:Int) (h1:RepS w F a1 n1 c1 b) (p0:b.length≤1000000):Calls Tryz.prog 26 [.slice a1 n1 c1,.int .i64 from_,.int .i64 to_].toArray w (Am fun rv w'=>VL (ge w.heap.size) w' (HW b from_ to_:List Row) rv∧Ext w w'):=by
 cases h1.len
 refine goT func26 ?_
 have Z:=(St.i0 F w).p h1
 refine .s<|.g<|.r 1<|.d<|.s<|.g<|RG.N0 Row 0 Z fun ah w Z=>.r 1<|.d<|.s<|.s<|.g<|.r 1<|.d<|.b 0<|T.Lp (([]:List Row),ah,(0:Nat),(0:Nat)) (fun (out,r_out,c_out,i)=>([(0,.slice a1 b.length c1),(1,vI from_),(2,vI to_),(7,vS r_out out.length c_out),(8,vI (i:Int))],[(0,.own 0 r_out 58 c_out out)],[],b.length - i,(i≤b.length)∧(out.length≤i)∧(out++(b.drop i).filter (fun r=>inR r.t from_ to_)=HW b from_ to_))) [] Z ⟨AB,AD,AF⟩ ?_
 rintro ⟨out,r_out,c_out,i⟩ az w Z ⟨am,ao,aq⟩ aa
 refine .s<|.s<|.g<|.r 3<|.bp ((i:Int)< (b.length:Int)) (fun af=>?_) (fun af=>.d<|.cf<|.x 0 rfl<|.s<|.g<|.r 2<|.d<|T.Rt func26 results26 ⟨Z.rM 0 out (by exact NF ‹_› AB),Z.xt⟩)
 refine .d<|.ct<|.sk<|.s<|.b 1<|.s<|.g<|.r 2<|gx b i fun ac ab=>?_
 have ar:=drop_at ab
 refine RG.Ix 0 ab Z<|.r 1<|Z.el 0 ab fun Z=>RG.Lh 0 0 Z<|.r 2<|RG.C0 (CF ac.t from_ to_ (F:=all)) Z fun w Z=>?_
 cases ae:(inR ac.t from_ to_)
 ·exact .d<|.cf<|.sk<|.ib 1<|.g<|.r 1<|.it ((i:Int)+1)<|.r 1<|.d<|aa (out,r_out,c_out,i+1) _ _ AA (Z.to 0 [] 1) ⟨AB,AB,(by exact L4 ‹_› ‹_› ‹_›)⟩ (by (simp only []; omega))
 exact .d<|.ct<|.g<|.r 3<|RG.Ix 1 ab Z<|RG.Lg 0 0 Z<|RG.Nb 1 Z fun aA w Z=>RG.Ap 0 0 out ac [] Z fun ai aj w Z=>.r 1<|.d<|.ib 1<|.g<|.r 1<|.it ((i:Int)+1)<|.r 1<|.d<|aa ((out++[ac]),ai,aj,i+1) _ _ AA (Z.to 0 [] 1) ⟨AB,(by (simp; omega)),(by exact L3 ‹_› ‹_› ‹_›)⟩ (by (simp only []; omega))
theorem Kv (b:List Row) (from_:Int) (to_:Int) (h1:RepS w F a1 n1 c1 b) (p0:b.length≤1000000):Calls Tryz.prog 41 [.slice a1 n1 c1,.int .i64 from_,.int .i64 to_].toArray w (Am fun rv w'=>VL (ge w.heap.size) w' (G8 b from_ to_:List Row) rv∧Ext w w'):=by
 cases h1.len
 refine goT func41 ?_
 have Z:=(St.i0 F w).p h1
 refine .s<|.g<|.r 1<|.d<|.s<|.g<|RG.N0 Row 0 Z fun ah w Z=>.r 1<|.d<|.s<|.s<|.g<|.r 1<|RG.C0 (DS b (Z.a 0)) Z fun w Z=>?_
 cases am:(Bi b)
 ·exact .r 1<|.d<|.ct<|.s<|.g<|.r 2<|.d<|T.Rt func41 results41 ⟨Z.rM 0 ([]:List Row) (by unfold G8; (rw [if_neg (by simp [*])]; done)),Z.xt⟩
 refine .r 1<|.d<|.cf<|.sk<|.s<|.s<|.g<|.r 3<|.d<|.b 0<|T.Lp (([]:List Row),ah,(0:Nat),(0:Nat)) (fun (out,r_out,c_out,k)=>([(1,vI from_),(2,vI to_),(7,vS r_out out.length c_out),(15,.slice a1 b.length c1),(16,vI (b.length:Int)),(17,vI (k:Int))],[(0,.own 0 r_out 58 c_out out)],[],b.length - k,(k≤b.length)∧(out.length≤k)∧(out++(b.drop k).filter (fun r=>inR r.t from_ to_)=HW b from_ to_))) [] Z ⟨AB,AD,AF⟩ ?_
 rintro ⟨out,r_out,c_out,k⟩ aA w Z ⟨ao,aq,ar⟩ aa
 refine .s<|.g<|.bp ((k:Int)< (b.length:Int)) (fun af=>?_) (fun af=>.d<|.s<|.cf<|.x 0 rfl<|.s<|.g<|.r 2<|.d<|T.Rt func41 results41 ⟨Z.rM 0 out (by unfold G8; (rw [if_pos ‹_›]; exact NF ‹_› AB)),Z.xt⟩)
 refine .d<|.s<|.ct<|.sk<|.s<|.b 1<|.s<|.g<|gx b k fun ac ab=>?_
 have ax:=drop_at ab
 refine RG.Ix 0 ab Z<|Z.el 0 ab fun Z=>RG.Lg 0 0 Z<|RG.Np Z fun aB w Z=>RG.Ss 0 Z fun w Z=>.d<|.s<|.g<|.r 1<|RG.Lb 0 Z<|.r 2<|RG.C0 (Bk ac.t from_ to_ (F:=all)) Z fun w Z=>?_
 cases ae:(inR ac.t from_ to_)
 ·exact .d<|.cf<|.sk<|.ib 1<|.g<|.it ((k:Int)+1)<|.r 1<|.d<|aa (out,r_out,c_out,k+1) _ _ AA (Z.to 1 [] 1) ⟨AB,AB,(by exact L4 ‹_› ‹_› ‹_›)⟩ (by (simp only []; omega))
 exact .d<|.ct<|.g<|.r 1<|RG.Ln 0 Z<|RG.Nb 1 Z fun aC w Z=>RG.Ap 1 0 out ac [] Z fun ai aj w Z=>.r 1<|.d<|.ib 1<|.g<|.it ((k:Int)+1)<|.r 1<|.d<|aa ((out++[ac]),ai,aj,k+1) _ _ AA (Z.to 1 [] 1) ⟨AB,(by (simp; omega)),(by exact L3 ‹_› ‹_› ‹_›)⟩ (by (simp only []; omega))
theorem G2 (f:List Cnd) (h1:RepS w F a1 n1 c1 f)  : Calls Tryz.prog 141 [.slice a1 n1 c1].toArray w (Am fun rv w'=>rv=.bool (Bt f)∧Ext w w'):=by
 cases h1.len
 refine goT func141 ?_
 have Z:=(St.i0 F w).p h1
 have ag:=h1.max
 refine .s<|.g<|.r 1<|.d<|.s<|.s<|.g<|.r 3<|.d<|.b 0<|T.Lp (0:Nat) (fun k=>([(0,.slice a1 f.length c1),(5,.slice a1 f.length c1),(6,vI (f.length:Int)),(7,vI (k:Int))],[],[],f.length - k,(k≤f.length)∧((f.drop k).all (fun c=>Bj c.tag)=f.all (fun c=>Bj c.tag)))) [] Z ⟨AD,AD⟩ ?_
 rintro k am w Z ⟨ah,ai⟩ ab
 refine .s<|.g<|.bp ((k:Int)< (f.length:Int)) (fun ac=>?_) (fun ac=>.d<|.s<|.cf<|.x 0 rfl<|.s<|.g<|.r 4<|.d<|T.rt func141 results141 (.bool (decide ((f.length:Int)≤3))) ⟨(AG (by exact QS (Js ‹_› AB))),Z.xt⟩)
 refine .d<|.s<|.ct<|.sk<|.s<|.b 1<|.s<|.g<|gx f k fun ae aa=>?_
 have aj:=drop_at aa
 refine RG.Ix 0 aa Z<|Z.el 0 aa fun Z=>RG.Lg 0 0 Z<|RG.Np Z fun ao w Z=>RG.Ss 0 Z fun w Z=>.d<|.s<|.g<|.r 1<|RG.Ln 0 Z<|RG.C0 (Iz ae.tag (F:=all)) Z fun w Z=>?_
 cases ak:(Bj ae.tag)
 ·exact .r 1<|.d<|.ct<|.s<|.g<|.r 1<|.d<|T.rt func141 results141 (.bool false) ⟨(AG (by exact SV (I7 ‹_› ‹_› ‹_›))),Z.xt⟩
 exact .r 1<|.d<|.cf<|.sk<|.ib 1<|.g<|.it ((k:Int)+1)<|.r 1<|.d<|ab (k+1) _ _ AA (Z.to 1 [] 1) ⟨AB,(by exact Hu ‹_› ‹_› ‹_›)⟩ (by (simp only []; omega))
theorem Mk (f:List Cnd) (n:List Tag) (h1:RepS w F a1 n1 c1 f) (h2:RepS w F a2 n2 c2 n)  : Calls Tryz.prog 58 [.slice a1 n1 c1,.slice a2 n2 c2].toArray w (Am fun rv w'=>rv=.bool (fits f n)∧Ext w w'):=by
 cases h1.len
 cases h2.len
 refine goT func58 ?_
 have Z:=((St.i0 F w).p h1).p h2
 have ag:=h1.max
 refine .s<|.g<|.r 1<|.d<|.s<|.s<|.g<|.r 1<|.d<|.b 0<|T.Lp (0:Nat) (fun i=>([(0,.slice a1 f.length c1),(1,.slice a2 n.length c2),(5,vI (i:Int))],[],[],f.length - i,(i≤f.length)∧((f.drop i).all (fun c=>has n c.tag != c.no)=fits f n))) [] Z ⟨AB,AF⟩ ?_
 rintro i ao w Z ⟨ai,aj⟩ ac
 refine .s<|.s<|.g<|.r 3<|.bp ((i:Int)< (f.length:Int)) (fun ae=>?_) (fun ae=>.d<|.cf<|.x 0 rfl<|.s<|.g<|.r 1<|.d<|T.rt func58 results58 (.bool true) ⟨(AG (by exact (Js (f:=fun c:Cnd=>has n c.tag != c.no) ‹_› AB).symm)),Z.xt⟩)
 refine .d<|.ct<|.sk<|.s<|.b 1<|.s<|T.Gd 12 Z fun w Z=>.r [0,1,2]<|gx f i fun ab aa=>?_
 have ak:=drop_at aa
 refine GA.Ix 3 1 aa Z<|.r [4]<|Z.el 1 aa fun Z=>GA.Lg 5 0 0 Z<|GA.C0 6 Z (fun w Z=>I0 n ab.tag (Z.a 1))<|.r [7,8]<|GA.Ix 9 2 aa Z<|.r [10]<|GA.Lh 11 0 2 Z<|GA.Dn Z fun w Z=>RG.eqv (v:=.bool ((has n ab.tag)==ab.no)) (v':=.bool ((has n ab.tag)==ab.no)) AA AF ?_
 cases am:((has n ab.tag)==ab.no)
 ·exact .d<|.cf<|.sk<|.ib 1<|.g<|.r 1<|.it ((i:Int)+1)<|.r 1<|.d<|ac (i+1) _ _ AA (Z.to 0 [] 1) ⟨AB,(by exact Hu ‹_› ‹_› (by simp_all))⟩ (by (simp only []; omega))
 exact .d<|.ct<|.s<|.g<|.r 1<|.d<|T.rt func58 results58 (.bool false) ⟨(AG (by exact (I7 (f:=fun c:Cnd=>has n c.tag != c.no) ‹_› ‹_› (by simp_all)).symm)),Z.xt⟩
theorem L6 (ix:Idx) (f:List Cnd) (h1:RepS w F a1 n1 c1 ix.names) (h2:RepS w F a2 n2 c2 ix.AY) (h3:RepS w F a3 n3 c3 f) (p0:ix.names.length≤1000):Calls Tryz.prog 25 [.agg #[.slice a1 n1 c1,.slice a2 n2 c2],.slice a3 n3 c3].toArray w (Am fun rv w'=>VL (ge w.heap.size) w' (BD (fits f) 0 ix.names:List Int) rv∧Ext w w'):=by
 cases h1.len
 cases h2.len
 cases h3.len
 refine goT func25 ?_
 have Z:=(((St.i0 F w).p h1).p h2).p h3
 refine .s<|.g<|RG.Np Z fun ag w Z=>.r 1<|.d<|.s<|.g<|RG.N0 Int 0 Z fun ah w Z=>.r 1<|.d<|.s<|.s<|.g<|.r 1<|.d<|.b 0<|T.Lp (([]:List Int),ah,(0:Nat),(0:Nat)) (fun (out,r_out,c_out,i)=>([(1,.slice a3 f.length c3),(2,vP ag),(5,vS r_out out.length c_out),(6,vI (i:Int))],[(0,.own 0 r_out 3 c_out out)],[],ix.names.length - i,(i≤ix.names.length)∧(out.length≤i)∧(out++BD (fits f) i (ix.names.drop i)=BD (fits f) 0 ix.names))) [] Z ⟨AB,AD,AF⟩ ?_
 rintro ⟨out,r_out,c_out,i⟩ aA w Z ⟨aq,ar,ax⟩ aa
 refine .s<|.s<|.g<|.r 2<|RG.Lb 1 Z<|.r 1<|.bp ((i:Int)< (ix.names.length:Int)) (fun ac=>?_) (fun ac=>.d<|.cf<|.x 0 rfl<|.s<|.g<|.r 2<|.d<|T.Rt func25 results25 ⟨Z.rM 0 out (by exact RI ‹_› AB),Z.xt⟩)
 refine .d<|.ct<|.sk<|.s<|.b 1<|.s<|.g<|.r 2<|RG.Lb 1 Z<|.r 1<|gx ix.names i fun ae ab=>?_
 have ay:=drop_at ab
 refine RG.Ix 2 ab Z<|Z.el 2 ab fun aB aC Z=>RG.Lh 0 0 Z<|RG.C0 (Mk f ae (Z.a 2) (Z.a 1)) Z fun w Z=>?_
 cases az:(fits f ae)
 ·exact .d<|.cf<|.sk<|.ib 1<|.g<|.r 1<|.it ((i:Int)+1)<|.r 1<|.d<|aa (out,r_out,c_out,i+1) _ _ AA (Z.to 0 [] 2) ⟨AB,AB,(by exact PD ‹_› ‹_› ‹_›)⟩ (by (simp only []; omega))
 exact .d<|.ct<|.g<|.r 2<|.it ((i:Int)+1)<|RG.Nb 1 Z fun aD w Z=>RG.Ap 0 0 out ((i:Int)+1) [] Z fun ai aj w Z=>.r 1<|.d<|.ib 1<|.g<|.r 1<|.it ((i:Int)+1)<|.r 1<|.d<|aa ((out++[(i:Int)+1]),ai,aj,i+1) _ _ AA (Z.to 0 [] 2) ⟨AB,(by (simp; omega)),(by exact PC ‹_› ‹_› ‹_›)⟩ (by (simp only []; omega))
theorem II (s:Sto) (f:List Cnd) (from_:Int) (to_:Int) (h1:RepS w F a1 n1 c1 s.idx.names) (h2:RepS w F a2 n2 c2 s.idx.AY) (h3:RepS w F a3 n3 c3 s.parts) (h4:RepS w F a4 n4 c4 s.mem) (h5:RepS w F a5 n5 c5 f) (p0:SD s) (p1:Aa s=true):Calls Tryz.prog 10 [.agg #[.slice a1 n1 c1,.slice a2 n2 c2,.slice a3 n3 c3,.slice a4 n4 c4],.slice a5 n5 c5,.int .i64 from_,.int .i64 to_].toArray w (Am fun rv w'=>VL (ge w.heap.size) w' (FW (fits f) s from_ to_:List Hit) rv∧Ext w w'):=by
 cases h1.len
 cases h2.len
 cases h3.len
 cases h4.len
 cases h5.len
 refine goT func10 ?_
 have Z:=(((((St.i0 F w).p h1).p h2).p h3).p h4).p h5
 have az:=h1.max
 have aB:=h3.max
 have aC:=h4.max
 refine .s<|.g<|RG.Np Z fun ah w Z=>.r 1<|.d<|.s<|.g<|RG.N0 Hit 0 Z fun ao w Z=>.r 1<|.d<|.s<|.g<|.r 1<|RG.Ln 1 Z<|.r 1<|RG.CL (L6 s.idx f (Z.a 4) (Z.a 3) (Z.a 0) (by have q1:=p0.nm.len; omega)) Z fun aq ar w Z=>?_
 have aE:=Z.mf 0 (BD (fits f) 0 s.idx.names)
 refine .r 1<|.d<|.s<|.s<|.g<|.r 1<|.d<|.b 0<|T.Lp (([]:List Hit),ao,(0:Nat),(0:Nat)) (fun (out,r_out,c_out,i)=>([(2,vI from_),(3,vI to_),(4,vP ah),(9,vS r_out out.length c_out),(10,.slice aq ((BD (fits f) 0 s.idx.names).length) ar),(11,vI (i:Int))],[(0,.own 0 r_out 67 c_out out)],[],(BD (fits f) 0 s.idx.names).length - i,(i≤(BD (fits f) 0 s.idx.names).length)∧(out.length≤i)∧(out++((BD (fits f) 0 s.idx.names).drop i).flatMap (DH s from_ to_)=FW (fits f) s from_ to_))) [] Z ⟨AB,AD,AF⟩ ?_
 rintro ⟨out,r_out,c_out,i⟩ aP w Z ⟨aF,aG,aH⟩ ab
 have aI:=Z.mo 0 out
 refine .s<|.s<|.g<|.r 3<|.bp ((i:Int)< (((BD (fits f) 0 s.idx.names).length):Int)) (fun ai=>?_) (fun ai=>.d<|.cf<|.x 0 rfl<|.s<|.g<|.r 2<|.d<|T.Rt func10 results10 ⟨Z.rM 0 out (by exact UD ‹_› AB),Z.xt⟩)
 refine .d<|.ct<|.sk<|.s<|.b 1<|.s<|T.Gd 8 Z fun w Z=>GA.Ln 0 1 Z<|.r [1,2]<|gx (h:=AB) (BD (fits f) 0 s.idx.names) i fun aa ac=>?_
 have aJ:=drop_at ac; have ak:=AV ac
 refine GA.Ix 3 0 ac Z<|Z.el 0 ac fun Z=>GA.Lh 4 0 0 Z<|.r [6,7]<|.go 5<|GE.CL (fun w Z=>EI s aa (Z.a 6) (Z.a 5) (Z.a 4) (Z.a 3) (by have:=p0.np; omega) (fun p hp=>(p0.part p hp).sz) (by have:=p0.nm2; omega)) Z fun aQ aR w Z=>?_
 refine GA.Dn Z fun w Z=>RG.CL (OG (rowsOf s aa) from_ to_ (Z.a 0) (Nat.le_trans (QR p0 p1 _).len AB)) Z fun aS aT w Z=>?_
 refine .r 1<|.d<|.s<|.g<|.r 2<|.bp ((((HW (rowsOf s aa) from_ to_).length):Int) > 0) (fun aj=>?_) (fun aj=>.d<|.cf<|.sk<|.ib 1<|.g<|.r 1<|RG.int ((i:Int)+1) AA AB<|.r 1<|.d<|ab (out,r_out,c_out,i+1) _ _ AA (Z.to 0 [] 3) ⟨AB,AB,(by exact RL ‹_› ‹_› rfl ‹_›)⟩ (by (simp only []; omega)))
 refine .d<|.ct<|T.GS 15 [ah] Z fun _ w Z=>.r [0,1,2]<|GA.Lb 3 1 Z<|.r [4,5]<|GA.Ix 6 3 ac Z<|GA.Lh 7 2 0 Z<|GA.int (i:=8) (aa - 1) AA (by (have q1:=Cp (by assumption:_∈BD _ 0 s.idx.names); omega))<|gx (h:=(by (have q1:=Cp (by assumption:_∈BD _ 0 s.idx.names); omega))) s.idx.names ((aa - 1).toNat) fun af ae=>?_
 have am:=AV ae
 refine GA.Jx (hz:=(by (have q1:=Cp (by assumption:_∈BD _ 0 s.idx.names); omega))) 9 8 (aa - 1) ae Z<|Z.el 8 ae fun aU aV Z=>?_
 have aN:=Z.mf 1 af
 refine GA.Lh 10 0 0 Z<|GA.D0 11 Z (fun w Y=>Fy af (Y.a 1) (by have q1:=(p0.nm.sz _ ‹_›).1; omega) (fun t ht=>by have q1:=(p0.nm.sz _ ‹_›).2 t ht; omega))<|.r [12,13]<|.go 14<|GE.Nb 1 Z fun aW w Z=>GA.Do Z fun w Z=>RG.Ap (hs:=by exact (by have q1:=J8 (fits f) s.idx.names 0; have q2:=p0.nm.len; omega)) 0 0 out (⟨text af,HW (rowsOf s aa) from_ to_⟩:Hit) [2] Z fun ax ay w Z=>?_
 exact .r 1<|.d<|.ib 1<|.g<|.r 1<|RG.int ((i:Int)+1) AA AB<|.r 1<|.d<|ab ((out++[(⟨text af,HW (rowsOf s aa) from_ to_⟩:Hit)]),ax,ay,i+1) _ _ AA (Z.to 0 [] 5) ⟨AB,(by (simp; omega)),(by exact RJ ‹_› ‹_› rfl ‹_› ‹_›)⟩ (by (simp only []; omega))
theorem EQ (s:List Tag) (v:Tag) (h1:RepS w F a1 n1 c1 s)  : Calls Tryz.prog 194 [.slice a1 n1 c1,.agg #[.string (bs v.key),.string (bs v.val)]].toArray w (Am fun rv w'=>rv=.int .i64 (Ku v 0 s)∧Ext w w'):=by
 cases h1.len
 refine goT func194 ?_
 have Z:=(St.i0 F w).p h1
 have ah:=h1.max
 refine .s<|.g<|RG.Np Z fun ag w Z=>.r 1<|.d<|.s<|.s<|.g<|.r 3<|.d<|.b 0<|T.Lp (0:Nat) (fun k=>([(0,.slice a1 s.length c1),(3,vP ag),(7,vI (s.length:Int)),(8,vI (k:Int))],[],[],s.length - k,(k≤s.length)∧(Ku v k (s.drop k)=Ku v 0 s))) [] Z ⟨AD,AD⟩ ?_
 rintro k ao w Z ⟨ai,aj⟩ ab
 refine .s<|.g<|.bp ((k:Int)< (s.length:Int)) (fun ac=>?_) (fun ac=>.d<|.s<|.cf<|.x 0 rfl<|.s<|.g<|.r 1<|.d<|T.rt func194 results194 (vI (-1)) ⟨(congrArg (Value.int .i64) (by grind [Ku,Ac])),Z.xt⟩)
 refine .d<|.s<|.ct<|.sk<|.s<|.b 1<|.s<|.g<|.r 2<|.d<|.s<|T.Gd 5 Z fun w Z=>GA.Ln 0 0 Z<|.r [1,2]<|gx s k fun ae aa=>?_
 have ak:=drop_at aa
 refine GA.Ix 3 0 aa Z<|Z.el 0 aa fun Z=>GA.Lg 4 0 0 Z<|GA.Dn Z fun w Z=>RG.On (t:=83) (x:=v) (y:=ae) AA AA ?_
 cases am:(v==ae)
 ·exact .d<|.cf<|.sk<|.ib 1<|.g<|.it ((k:Int)+1)<|.r 1<|.d<|ab (k+1) _ _ AA (Z.to 0 [] 1) ⟨AB,(by grind [Ku])⟩ (by (simp only []; omega))
 exact .d<|.ct<|.s<|.g<|.r 2<|.d<|T.rt func194 results194 (vI (k:Int)) ⟨(congrArg (Value.int .i64) (by grind [Ku,Ac])),Z.xt⟩
theorem Dg (s:List Tag) (v:Tag) (h1:RepS w F a1 n1 c1 s)  : Calls Tryz.prog 149 [.slice a1 n1 c1,.agg #[.string (bs v.key),.string (bs v.val)]].toArray w (Am fun rv w'=>rv=.bool (has s v)∧Ext w w'):=by
 cases h1.len
 refine goT func149 ?_
 have Z:=(St.i0 F w).p h1
 exact .s<|.g<|RG.Np Z fun ab w Z=>.r 1<|.d<|.s<|.g<|.r 1<|RG.Ln 0 Z<|RG.C0 (EQ s v (Z.a 0)) Z fun w Z=>.r 2<|.d<|T.rt func149 results149 (.bool (decide (Ku v 0 s≥0))) ⟨(AG (by exact (T8 v s 0).symm)),Z.xt⟩
theorem JG (f:List Cnd) (n:List Tag) (h1:RepS w F a1 n1 c1 f) (h2:RepS w F a2 n2 c2 n) (p0:n.length≤1000):Calls Tryz.prog 89 [.slice a1 n1 c1,.slice a2 n2 c2].toArray w (Am fun rv w'=>rv=.bool (CA f n)∧Ext w w'):=by
 cases h1.len
 cases h2.len
 refine goT func89 ?_
 have Z:=((St.i0 F w).p h1).p h2
 have ag:=h1.max
 refine .s<|.g<|.r 1<|.d<|.s<|.s<|.g<|.r 1<|RG.C0 (G2 f (Z.a 1)) Z fun w Z=>?_
 cases ai:(Bt f)
 ·exact .r 6<|.d<|.ct<|.s<|.g<|.r 1<|.d<|T.rt func89 results89 (.bool false) ⟨(AG (by unfold CA; (simp [*]; done))),Z.xt⟩
 refine .r 3<|RG.C0 (De n (Z.a 0)) Z fun w Z=>?_
 cases aj:(Ao n)
 ·exact .r 2<|.d<|.ct<|.s<|.g<|.r 1<|.d<|T.rt func89 results89 (.bool false) ⟨(AG (by unfold CA; (simp [*]; done))),Z.xt⟩
 refine .r 2<|.d<|.cf<|.sk<|.s<|.s<|.g<|.r 3<|.d<|.b 0<|T.Lp (0:Nat) (fun k=>([(1,.slice a2 n.length c2),(15,.slice a1 f.length c1),(16,vI (f.length:Int)),(17,vI (k:Int))],[],[],f.length - k,(k≤f.length)∧(Bt f=true)∧(Ao n=true)∧((f.drop k).all (fun c=>has n c.tag != c.no)=fits f n))) [] Z ⟨AB,AB,AB,AF⟩ ?_
 rintro k ay w Z ⟨ak,am,ao,aq⟩ ac
 refine .s<|.g<|.bp ((k:Int)< (f.length:Int)) (fun ae=>?_) (fun ae=>.d<|.s<|.cf<|.x 0 rfl<|.s<|.g<|.r 1<|.d<|T.rt func89 results89 (.bool true) ⟨(AG (by unfold CA; rw [Js (f:=fun c:Cnd=>has n c.tag != c.no) (by assumption:(f.drop k).all _=fits f n) AB]; simp [*])),Z.xt⟩)
 refine .d<|.s<|.ct<|.sk<|.s<|.b 1<|.s<|.g<|gx f k fun aa ab=>?_
 have ar:=drop_at ab
 refine RG.Ix 1 ab Z<|Z.el 1 ab fun Z=>RG.Lg 0 0 Z<|RG.Np Z fun az w Z=>RG.Ss 0 Z fun w Z=>.d<|.s<|T.Gd 6 Z fun w Z=>.r [0,1]<|GA.Ln 2 0 Z<|GA.C0 3 Z (fun w Z=>Dg n aa.tag (Z.a 1))<|.r [4]<|GA.Lb 5 0 Z<|GA.Dn Z fun w Z=>RG.eqv (v:=.bool ((has n aa.tag)==aa.no)) (v':=.bool ((has n aa.tag)==aa.no)) AA AF ?_
 cases ax:((has n aa.tag)==aa.no)
 ·exact .d<|.cf<|.sk<|.ib 1<|.g<|.it ((k:Int)+1)<|.r 1<|.d<|ac (k+1) _ _ AA (Z.to 1 [] 1) ⟨AB,‹_›,‹_›,(by exact Hu ‹_› ‹_› (by simp_all))⟩ (by (simp only []; omega))
 exact .d<|.ct<|.s<|.g<|.r 1<|.d<|T.rt func89 results89 (.bool false) ⟨(AG (by unfold CA; (rw [I7 (f:=fun c:Cnd=>has n c.tag != c.no) (by assumption:(f.drop k).all _=fits f n) ‹_› (by simp_all)]; simp))),Z.xt⟩
theorem KA (ix:Idx) (f:List Cnd) (h1:RepS w F a1 n1 c1 ix.names) (h2:RepS w F a2 n2 c2 ix.AY) (h3:RepS w F a3 n3 c3 f) (p0:IxI ix) (p1:NsD ix.names):Calls Tryz.prog 40 [.agg #[.slice a1 n1 c1,.slice a2 n2 c2],.slice a3 n3 c3].toArray w (Am fun rv w'=>VL (ge w.heap.size) w' (BD (CA f) 0 ix.names:List Int) rv∧Ext w w'):=by
 cases h1.len
 cases h2.len
 cases h3.len
 refine goT func40 ?_
 have Z:=(((St.i0 F w).p h1).p h2).p h3
 have ak:=h1.max
 refine .s<|.g<|RG.Np Z fun aA w Z=>.r 1<|.d<|.s<|.g<|RG.N0 Int 0 Z fun ah w Z=>.r 1<|.d<|.s<|.s<|.g<|RG.Ln 1 Z<|RG.C0 (HT ix (Z.a 2) (Z.a 1) p0 p1) Z fun w Z=>.r 1<|.d<|.cf<|.sk<|.s<|.s<|.g<|.r 1<|RG.Lb 1 Z<|.r 2<|.d<|.b 0<|T.Lp (([]:List Int),ah,(0:Nat),(0:Nat)) (fun (out,r_out,c_out,k)=>([(1,.slice a3 f.length c3),(5,vS r_out out.length c_out),(14,.slice a1 ix.names.length c1),(15,vI (ix.names.length:Int)),(16,vI (k:Int))],[(0,.own 0 r_out 3 c_out out)],[],ix.names.length - k,(k≤ix.names.length)∧(out.length≤k)∧(out++BD (CA f) k (ix.names.drop k)=BD (CA f) 0 ix.names))) [] Z ⟨AB,AD,AF⟩ ?_
 rintro ⟨out,r_out,c_out,k⟩ aB w Z ⟨aq,ar,ax⟩ aa
 refine .s<|.g<|.bp ((k:Int)< (ix.names.length:Int)) (fun ac=>?_) (fun ac=>.d<|.s<|.cf<|.x 0 rfl<|.s<|.g<|.r 2<|.d<|T.Rt func40 results40 ⟨Z.rM 0 out (by exact RI ‹_› AB),Z.xt⟩)
 refine .d<|.s<|.ct<|.sk<|.s<|.b 1<|.s<|.g<|.r 1<|gx ix.names k fun ae ab=>?_
 have ay:=drop_at ab; have ag:=AV ab
 refine RG.Ix 2 ab Z<|Z.el 2 ab fun aC aD Z=>RG.Lh 0 0 Z<|.r 2<|.d<|.s<|.g<|.r 2<|RG.C0 (JG f ae (Z.a 2) (Z.a 1) (by have q1:=(p0.nm.sz _ ‹_›).1; omega)) Z fun w Z=>?_
 cases az:(CA f ae)
 ·exact .d<|.cf<|.sk<|.ib 1<|.g<|RG.int ((k:Int)+1) AA (by have q1:=p0.nm.len; omega)<|.r 1<|.d<|aa (out,r_out,c_out,k+1) _ _ AA (Z.to 0 [] 2) ⟨AB,AB,(by exact PD ‹_› ‹_› ‹_›)⟩ (by (simp only []; omega))
 exact .d<|.ct<|.g<|.r 2<|RG.int ((k:Int)+1) AA (by have q1:=p0.nm.len; omega)<|RG.Nb 1 Z fun aE w Z=>RG.Ap (hs:=by exact (by have q1:=p0.nm.len; omega)) 0 0 out ((k:Int)+1) [] Z fun ai aj w Z=>.r 1<|.d<|.ib 1<|.g<|RG.int ((k:Int)+1) AA (by have q1:=p0.nm.len; omega)<|.r 1<|.d<|aa ((out++[(k:Int)+1]),ai,aj,k+1) _ _ AA (Z.to 0 [] 2) ⟨AB,(by (simp; omega)),(by exact PC ‹_› ‹_› ‹_›)⟩ (by (simp only []; omega))
end Go.Proofs.YtfninflnngpchaaGreatDoor
namespace Go.Proofs.YtfninflnngpchaaGreatDoor
set_option maxRecDepth 100000
set_option maxHeartbeats 4000000
variable {w:World} {F:Nat→Prop} {a1 a2 a3 a4 a5:Option Addr} {n1 c1 n2 c2 n3 c3 n4 c4 n5 c5:Nat}
set_option maxRecDepth 100000 in
set_option maxHeartbeats 4000000 in
theorem G3 (n:List Tag) (h1:RepS w F a1 n1 c1 n) (p0:Fw n):Calls Tryz.prog 43 [.slice a1 n1 c1].toArray w (Am fun rv w'=>rv=.string (bs (D9 n))∧Ext w w'):=by
 cases h1.len
 refine goT func43 ?_
 have Z:=(St.i0 F w).p h1
 have aj:=h1.max
 refine .s<|.g<|.r 1<|.d<|.s<|.s<|.g<|.r 1<|RG.C0 (De n (Z.a 0)) Z fun w Z=>?_
 cases ak:(Ao n)
 ·exact .r 1<|.d<|.ct<|.s<|.g<|.r 1<|.d<|T.rt func43 results43 (.string (bs [])) ⟨(congrArg (fun s=>Value.string (bs s)) (by rw [UF ‹_›])),Z.xt⟩
 refine .r 1<|.d<|.cf<|.sk<|.s<|.g<|RG.N0 Txt 0 Z fun ag w Z=>.r 1<|.d<|.s<|.s<|.g<|.r 3<|.d<|.b 0<|T.Lp (([]:List Txt),ag,(0:Nat),(0:Nat)) (fun (out,r_out,c_out,k)=>([(3,vS r_out out.length c_out),(10,.slice a1 n.length c1),(11,vI (n.length:Int)),(12,vI (k:Int))],[(0,.own 0 r_out 9 c_out out)],[],n.length - k,(k≤n.length)∧(out.length≤k)∧(out++(n.drop k).map tx1=n.map tx1))) [] Z ⟨AB,AD,AF⟩ ?_
 rintro ⟨out,r_out,c_out,k⟩ ax w Z ⟨am,ao,aq⟩ ac
 refine .s<|.g<|.bp ((k:Int)< (n.length:Int)) (fun ae=>?_) (fun ae=>.d<|.s<|.cf<|.x 0 rfl<|.s<|.g<|.r 1<|RG.C0 (FV out [44] (Z.oa 0) (X3 ‹_› AB p0) (by have:=p0.1; omega)) Z fun w Z=>.r 1<|.d<|T.rt func43 results43 (.string (bs (Lib.join (out.map Txt.s) [44]))) ⟨(congrArg (fun s=>Value.string (bs s)) (by (rw [RM ‹_› AB,L5 ‹_›]))),Z.xt⟩)
 refine .d<|.s<|.ct<|.sk<|.s<|.b 1<|.s<|.g<|gx n k fun aa ab=>?_
 have ar:=drop_at ab; have af:=AV ab
 exact RG.Ix 0 ab Z<|Z.el 0 ab fun Z=>RG.Lg 0 0 Z<|RG.Np Z fun ay w Z=>RG.Ss 0 Z fun w Z=>.d<|.g<|.r 2<|RG.Lb 0 Z<|RG.cat (t:=9) (s:=aa.key) (u:=[61]) AA (by have q1:=p0.2 _ ‹_›; simp only [List.length_append,List.length_cons,List.length_nil]; omega)<|.r 1<|RG.Lb 0 Z<|RG.cat (t:=9) (s:=(aa.key++[61])) (u:=aa.val) AA (by have q1:=p0.2 _ ‹_›; simp only [List.length_append,List.length_cons,List.length_nil]; omega)<|RG.Nb 1 Z fun aA w Z=>RG.Ap (hs:=by exact (by have:=p0.1; omega)) 1 0 out (⟨((aa.key++[61])++aa.val)⟩:Txt) [] Z fun ah ai w Z=>.r 1<|.d<|.ib 1<|.g<|.it ((k:Int)+1)<|.r 1<|.d<|ac ((out++[(⟨((aa.key++[61])++aa.val)⟩:Txt)]),ah,ai,k+1) _ _ AA (Z.to 1 [] 1) ⟨AB,(by (simp; omega)),(by exact UE ‹_› ‹_›)⟩ (by (simp only []; omega))
theorem G4 (s:Sto) (f:List Cnd) (from_:Int) (to_:Int) (h1:RepS w F a1 n1 c1 s.idx.names) (h2:RepS w F a2 n2 c2 s.idx.AY) (h3:RepS w F a3 n3 c3 s.parts) (h4:RepS w F a4 n4 c4 s.mem) (h5:RepS w F a5 n5 c5 f) (p0:SD s):Calls Tryz.prog 15 [.agg #[.slice a1 n1 c1,.slice a2 n2 c2,.slice a3 n3 c3,.slice a4 n4 c4],.slice a5 n5 c5,.int .i64 from_,.int .i64 to_].toArray w (Am fun rv w'=>VL (ge w.heap.size) w' (By s f from_ to_:List Hit) rv∧Ext w w'):=by
 cases h1.len
 cases h2.len
 cases h3.len
 cases h4.len
 cases h5.len
 refine goT func15 ?_
 have Z:=(((((St.i0 F w).p h1).p h2).p h3).p h4).p h5
 have az:=h1.max
 have aB:=h3.max
 have aC:=h4.max
 refine .s<|.g<|RG.Np Z fun am w Z=>.r 1<|.d<|.s<|.g<|RG.N0 Hit 0 Z fun ao w Z=>.r 1<|.d<|.s<|.s<|.g<|RG.Ln 1 Z<|RG.C0 (EO s (Z.a 4) (Z.a 3) (Z.a 2) (Z.a 1) p0) Z fun w Z=>?_
 cases aE:(Aa s)
 ·exact .r 1<|.d<|.ct<|.s<|.g<|.r 2<|.d<|T.Rt func15 results15 ⟨Z.rM 0 ([]:List Hit) (by rw [X1 (.inl ‹_›)]),Z.xt⟩
 refine .r 1<|.d<|.cf<|.sk<|.s<|.s<|.g<|.r 1<|RG.Ln 1 Z<|.r 1<|RG.CL (KA s.idx f (Z.a 4) (Z.a 3) (Z.a 0) p0.ix p0.nd) Z fun aq ar w Z=>?_
 have aF:=Z.mf 0 (BD (CA f) 0 s.idx.names)
 refine .r 2<|.d<|.b 0<|T.Lp (([]:List Hit),ao,(0:Nat),(0:Nat)) (fun (out,r_out,c_out,k)=>([(2,vI from_),(3,vI to_),(4,vP am),(9,vS r_out out.length c_out),(21,.slice aq ((BD (CA f) 0 s.idx.names).length) ar),(22,vI (((BD (CA f) 0 s.idx.names).length):Int)),(23,vI (k:Int))],[(0,.own 0 r_out 67 c_out out)],[],(BD (CA f) 0 s.idx.names).length - k,(k≤(BD (CA f) 0 s.idx.names).length)∧(out.length≤k)∧(out++((BD (CA f) 0 s.idx.names).drop k).flatMap (DH s from_ to_)=FW (CA f) s from_ to_))) [] Z ⟨AB,AD,AF⟩ ?_
 rintro ⟨out,r_out,c_out,k⟩ aQ w Z ⟨aG,aH,aI⟩ ab
 have aJ:=Z.mo 0 out
 refine .s<|.g<|.bp ((k:Int)< (((BD (CA f) 0 s.idx.names).length):Int)) (fun ah=>?_) (fun ah=>.d<|.s<|.cf<|.x 0 rfl<|.s<|.g<|.r 2<|.d<|T.Rt func15 results15 ⟨Z.rM 0 out (by exact (WJ p0 ‹_› ‹_› AB).symm),Z.xt⟩)
 refine .d<|.s<|.ct<|.sk<|.s<|.b 1<|.s<|.g<|gx (h:=AB) (BD (CA f) 0 s.idx.names) k fun aa ac=>?_
 have aK:=drop_at ac; have aj:=AV ac
 refine RG.Ix 0 ac Z<|Z.el 0 ac fun Z=>RG.Lh 0 0 Z<|.r 1<|.d<|.s<|.g<|RG.Ln 1 Z<|.r 1<|RG.CL (DK s aa (Z.a 6) (Z.a 5) (Z.a 4) (Z.a 3) (StoK.of p0 ‹_›).part (StoK.of p0 ‹_›).row (by have:=p0.np; omega) (by have:=p0.nm2; omega)) Z fun aR aS w Z=>?_
 refine .r 2<|RG.CL (Kv (rowsOf s aa) from_ to_ (Z.a 0) (Nat.le_trans (QR p0 ‹_› _).len AB)) Z fun aT aU w Z=>?_
 refine .r 1<|.d<|.s<|.g<|.r 2<|.bp ((((G8 (rowsOf s aa) from_ to_).length):Int) > 0) (fun ai=>?_) (fun ai=>.d<|.cf<|.sk<|.ib 1<|.g<|RG.int ((k:Int)+1) AA AB<|.r 1<|.d<|ab (out,r_out,c_out,k+1) _ _ AA (Z.to 0 [] 3) ⟨AB,AB,(by exact UH p0 ‹_› ‹_› ‹_› ‹_›)⟩ (by (simp only []; omega)))
 refine .d<|.ct<|.g<|.r 3<|RG.Lb 1 Z<|.r 1<|RG.int (aa - 1) AA (by (have q1:=Cp (by assumption:_∈BD _ 0 s.idx.names); omega))<|gx (h:=(by (have q1:=Cp (by assumption:_∈BD _ 0 s.idx.names); omega))) s.idx.names ((aa - 1).toNat) fun af ae=>?_
 have ak:=AV ae
 refine RG.Jx (hz:=(by (have q1:=Cp (by assumption:_∈BD _ 0 s.idx.names); omega))) 8 (aa - 1) ae Z<|Z.el 8 ae fun aV aW Z=>?_
 refine RG.Lh 0 0 Z<|RG.C0 (G3 af (Z.a 1) (p0.nm.sz _ ‹_›)) Z fun w Z=>.r 2<|RG.Nb 1 Z fun aX w Z=>RG.Ap (hs:=by exact (by have q1:=J8 (CA f) s.idx.names 0; have q2:=p0.nm.len; omega)) 0 0 out (⟨D9 af,G8 (rowsOf s aa) from_ to_⟩:Hit) [2] Z fun ax ay w Z=>?_
 exact .r 1<|.d<|.ib 1<|.g<|RG.int ((k:Int)+1) AA AB<|.r 1<|.d<|ab ((out++[(⟨D9 af,G8 (rowsOf s aa) from_ to_⟩:Hit)]),ax,ay,k+1) _ _ AA (Z.to 0 [] 5) ⟨AB,(by (simp; omega)),(by exact UG p0 ‹_› ‹_› ‹_› ‹_› ‹_›)⟩ (by (simp only []; omega))
end Go.Proofs.YtfninflnngpchaaGreatDoor
namespace Go.Proofs.YtfninflnngpchaaGreatDoor
set_option maxRecDepth 100000
set_option maxHeartbeats 4000000
variable {w:World} {F:Nat→Prop} {a1 a2 a3 a4:Option Addr} {n1 c1 n2 c2 n3 c3 n4 c4:Nat}
theorem Bw (s:Sto) (h1:RepS w F a1 n1 c1 s.idx.names) (h2:RepS w F a2 n2 c2 s.idx.AY) (h3:RepS w F a3 n3 c3 s.parts) (h4:RepS w F a4 n4 c4 s.mem) (p0:∀ m∈s.mem,BZ m.row=true) (p1:∀ m∈s.mem,1≤m.id∧m.id≤6) (p2:s.mem.length≤1000):Calls Tryz.prog 121 [.agg #[.slice a1 n1 c1,.slice a2 n2 c2,.slice a3 n3 c3,.slice a4 n4 c4]].toArray w (Am fun rv w'=>VS (ge w.heap.size) w' (Ai s.mem:Prt) rv∧Ext w w'):=by
 cases h1.len
 cases h2.len
 cases h3.len
 cases h4.len
 refine goT func121 ?_
 have Z:=((((St.i0 F w).p h1).p h2).p h3).p h4
 refine .s<|.g<|RG.Np Z fun ah w Z=>RG.Np Z fun ai w Z=>.d<|.s<|.g<|RG.N0 Int 0 Z fun aj w Z=>RG.N0 (List Row) 0 Z fun ak w Z=>.r 1<|RG.Np Z fun ae w Z=>RG.Ss 0 Z fun w Z=>.d<|.s<|.s<|.g<|.r 1<|.d<|.b 0<|T.Lp ((1:Nat),([]:List Int),aj,(0:Nat),([]:List (List Row)),ak,(0:Nat)) (fun (id,aa,r_out_0,c_out_0,ab,r_out_1,c_out_1)=>([(1,vP ah),(2,vP ai),(3,vP ae),(4,vI (id:Int))],[(0,.box ae 104 [vS r_out_0 aa.length c_out_0,vS r_out_1 ab.length c_out_1]),(1,.own 0 r_out_1 65 c_out_1 ab),(2,.own 0 r_out_0 3 c_out_0 aa)],[],7 - id,(1≤id)∧(id≤7)∧(aa.length≤id)∧(ab.length≤id)∧(aa=(BM 0 (Dd s.mem (id - 1))).1)∧(ab=(BM 0 (Dd s.mem (id - 1))).2))) [] Z ⟨AB,AB,(by (simp; done)),(by (simp; done)),AF,AF⟩ ?_
 rintro ⟨id,aa,r_out_0,c_out_0,ab,r_out_1,c_out_1⟩ aH w Z ⟨aB,aC,aD,aE,aF,aG⟩ ac
 refine .s<|.s<|.g<|.r 1<|.bp ((id:Int)≤6) (fun af=>.d<|.ct<|.sk<|.s<|.b 1<|.s<|.g<|.r 1<|RG.Lb 4 Z<|.r 2<|RG.CL (DK (⟨(⟨([]:List (List Tag)),([]:List Pst)⟩:Idx),([]:List Prt),s.mem⟩:Sto) (id:Int) Z.na Z.na Z.na (Z.a 0) AD p0 AD p2) Z fun aI aJ w Z=>.r 1<|.d<|.s<|.g<|.r 2<|.bp ((((rowsOf (⟨(⟨([]:List (List Tag)),([]:List Pst)⟩:Idx),([]:List Prt),s.mem⟩:Sto) (id:Int)).length):Int) > 0) (fun ag=>.d<|.ct<|.s<|.g<|.r 1<|RG.Lb 0 Z<|.r 1<|RG.Nb 1 Z fun aK w Z=>RG.Ap 2 0 aa (id:Int) [] Z fun am ao w Z=>.r 1<|RG.Ss 0 Z fun w Z=>.d<|.g<|.r 1<|RG.Lb 0 Z<|.r 1<|RG.Nb 1 Z fun aL w Z=>RG.Ap 1 0 ab (rowsOf (⟨(⟨([]:List (List Tag)),([]:List Pst)⟩:Idx),([]:List Prt),s.mem⟩:Sto) (id:Int)) [0] Z fun aq ar w Z=>.r 1<|RG.Ss 0 Z fun w Z=>.d<|.ib 1<|.g<|.r 1<|.it ((id:Int)+1)<|.r 1<|.d<|ac (id+1,(aa++[(id:Int)]),am,ao,(ab++[rowsOf (⟨(⟨([]:List (List Tag)),([]:List Pst)⟩:Idx),([]:List Prt),s.mem⟩:Sto) (id:Int)]),aq,ar) _ _ AA (Z.to 0 [] 1) ⟨AB,AB,(by (simp; omega)),(by (simp; omega)),(by exact WC ‹_› AB ‹_›),(by exact WG ‹_› AB ‹_›)⟩ (by (simp only []; omega))) fun ag=>.d<|.cf<|.sk<|.ib 1<|.g<|.r 1<|.it ((id:Int)+1)<|.r 1<|.d<|ac (id+1,aa,r_out_0,c_out_0,ab,r_out_1,c_out_1) _ _ AA (Z.to 0 [] 1) ⟨AB,AB,AB,AB,(by exact WE ‹_› AB ‹_›),(by exact WH ‹_› AB ‹_›)⟩ (by (simp only []; omega))) fun af=>.d<|.cf<|.x 0 rfl<|.s<|.g<|RG.Ln 0 Z<|RG.Ss 3 Z fun w Z=>.d ?_
 have Z:=(Z.sl 2).sl 1
 exact T.Rb 1 func121 results121 Z ⟨Z.rS (⟨aa,ab⟩:Prt) [1,0] (by exact ZH (k:=id) p1 AB ‹_› ‹_›),Z.xt⟩
theorem Dy (s:Sto) (h1:RepS w F a1 n1 c1 s.idx.names) (h2:RepS w F a2 n2 c2 s.idx.AY) (h3:RepS w F a3 n3 c3 s.parts) (h4:RepS w F a4 n4 c4 s.mem) (p0:NmI s.idx.names) (p1:NsD s.idx.names) (p2:My s):Calls Tryz.prog 29 [.agg #[.slice a1 n1 c1,.slice a2 n2 c2,.slice a3 n3 c3,.slice a4 n4 c4]].toArray w (Am fun rv w'=>(∃ (a0:Option Addr) (n0 c0:Nat) (a1:Option Addr) (n1 c1:Nat) (r2 n2 c2:Nat) (r3 n3 c3:Nat),rv=.agg #[.slice a0 n0 c0,.slice a1 n1 c1,.slice (some ⟨r2,0,none⟩) n2 c2,.slice (some ⟨r3,0,none⟩) n3 c3]∧RepS w' (nin (ge w.heap.size) [r2,r3]) a0 n0 c0 ((((Ah s)).idx).names)∧RepS w' (nin (ge w.heap.size) [r2,r3]) a1 n1 c1 ((((Ah s)).idx).AY)∧Own w' r2 104 (nin (ge w.heap.size) [r2,r3]) n2 c2 (((Ah s)).parts)∧w.heap.size≤r2∧Own w' r3 106 (nin (ge w.heap.size) [r2,r3]) n3 c3 (((Ah s)).mem)∧w.heap.size≤r3∧Nb r3 r2)∧Ext w w'):=by
 cases h1.len
 cases h2.len
 cases h3.len
 cases h4.len
 refine goT func29 ?_
 have Z:=((((St.i0 F w).p h1).p h2).p h3).p h4
 have aH:=h3.max
 have aI:=h4.max
 refine .s<|.g<|RG.Np Z fun af w Z=>RG.Np Z fun ag w Z=>.d<|.s<|T.GS 10 [ag,af] Z fun _ w Z=>.r [0,1]<|GA.Lb (q:=1) 2 1 Z<|.r [4]<|GA.Lb (q:=1) 5 1 Z<|.r [8]<|GA.Lb (q:=1) 9 1 Z<|.tw 3 7 ?_ ?_
 ·refine GE.CS (fun w Z=>CB s.idx.names (Z.a 3) p0 p1) Z fun aa ab ac ae w Z=>.tw 6 7 ?_ ?_
  ·exact GE.CO 0 (fun w Z=>CK s.parts (Z.a 3) (by have:=p2.2.1; omega) p2.2.2.1) Z fun ah ai w Z=>.go 7<|GE.N0 Smp 0 Z fun aJ w Z=>GA.Do Z fun w Z=>RG.An (hs:=by (simp only [List.nil_append,List.length_nil,List.length_append,List.length_cons] <;> exact (by have:=p2.2.2.2; omega))) (hf:=.inr Ev) 0 2 ([]:List Smp) s.mem Z fun aj ak w Z=>.r 1<|RG.Ss 2 Z fun w Z=>.d<|T.Rb 2 func29 results29 Z ⟨⟨aa,((idxOf s.idx.names).names.length),ab,ac,((idxOf s.idx.names).AY.length),ae,ah,s.parts.length,ai,aj,(([]++s.mem).length),ak,AA,Z.qr [1,0] 0 ((idxOf s.idx.names).names) AF,Z.qr [1,0] 1 ((idxOf s.idx.names).AY) AF,Z.qo [1,0] 1 s.parts AF,Z.qb 1,Z.qo [1,0] 0 ([]++s.mem) AF,Z.qb 0,Z.qn 0 1⟩,Z.xt⟩
  exact GE.N0 Smp 0 Z fun aK w Z=>.go 6<|GE.CO 0 (fun w Z=>CK s.parts (Z.a 3) (by have:=p2.2.1; omega) p2.2.2.1) Z fun am ao w Z=>GA.Do Z fun w Z=>RG.An (hs:=by (simp only [List.nil_append,List.length_nil,List.length_append,List.length_cons] <;> exact (by have:=p2.2.2.2; omega))) (hf:=.inr Ev) 1 2 ([]:List Smp) s.mem Z fun aq ar w Z=>.r 1<|RG.Ss 2 Z fun w Z=>.d<|T.Rb 2 func29 results29 Z ⟨⟨aa,((idxOf s.idx.names).names.length),ab,ac,((idxOf s.idx.names).AY.length),ae,am,s.parts.length,ao,aq,(([]++s.mem).length),ar,AA,Z.qr [0,1] 0 ((idxOf s.idx.names).names) AF,Z.qr [0,1] 1 ((idxOf s.idx.names).AY) AF,Z.qo [0,1] 0 s.parts AF,Z.qb 0,Z.qo [0,1] 1 ([]++s.mem) AF,Z.qb 1,Z.qn 1 0⟩,Z.xt⟩
 exact GE.N0 Smp 0 Z fun aL w Z=>.go 3<|GE.CS (fun w Z=>CB s.idx.names (Z.a 3) p0 p1) Z fun ax ay az aA w Z=>.go 6<|GE.CO 0 (fun w Z=>CK s.parts (Z.a 3) (by have:=p2.2.1; omega) p2.2.2.1) Z fun aB aC w Z=>GA.Do Z fun w Z=>RG.An (hs:=by (simp only [List.nil_append,List.length_nil,List.length_append,List.length_cons] <;> exact (by have:=p2.2.2.2; omega))) (hf:=.inr Ev) 1 2 ([]:List Smp) s.mem Z fun aD aE w Z=>.r 1<|RG.Ss 2 Z fun w Z=>.d<|T.Rb 2 func29 results29 Z ⟨⟨ax,((idxOf s.idx.names).names.length),ay,az,((idxOf s.idx.names).AY.length),aA,aB,s.parts.length,aC,aD,(([]++s.mem).length),aE,AA,Z.qr [0,1] 0 ((idxOf s.idx.names).names) AF,Z.qr [0,1] 1 ((idxOf s.idx.names).AY) AF,Z.qo [0,1] 0 s.parts AF,Z.qb 0,Z.qo [0,1] 1 ([]++s.mem) AF,Z.qb 1,Z.qn 1 0⟩,Z.xt⟩
theorem JH (s:Sto) (h1:RepS w F a1 n1 c1 s.idx.names) (h2:RepS w F a2 n2 c2 s.idx.AY) (h3:RepS w F a3 n3 c3 s.parts) (h4:RepS w F a4 n4 c4 s.mem) (p0:SD s):Calls Tryz.prog 70 [.agg #[.slice a1 n1 c1,.slice a2 n2 c2,.slice a3 n3 c3,.slice a4 n4 c4]].toArray w (Am fun rv w'=>(∃ v0,rv=.tuple #[v0,.bool ((Bm s).2)]∧VS (fo F w.heap.size) w' ((Bm s).1:Sto) v0)∧Ext w w'):=by
 cases h1.len
 cases h2.len
 cases h3.len
 cases h4.len
 refine goT func70 ?_
 have Z:=((((St.i0 F w).p h1).p h2).p h3).p h4
 have aG:=h3.max
 have aH:=h4.max
 refine .s<|.g<|RG.Np Z fun am w Z=>RG.Np Z fun ao w Z=>.r 1<|.d<|.s<|.s<|.g<|RG.Ln 1 Z<|RG.C0 (EO s (Z.a 3) (Z.a 2) (Z.a 1) (Z.a 0) p0) Z fun w Z=>?_
 cases aI:(Aa s)
 ·refine .r 1<|.d<|.ct<|.s<|.g<|.r 1<|RG.Ss 0 Z fun w Z=>.r 1<|.d ?_
  have Z:=(((Z.nl (List Tag)).nl Pst).nl Prt).nl Smp
  exact T.r2 func70 results70 (.B 0 Z) (.t (.bool false)) ⟨⟨_,(Be rfl (AG (by rw [J7 ‹_›]))),Z.rS (g:=1) (⟨(⟨([]:List (List Tag)),([]:List Pst)⟩:Idx),([]:List Prt),([]:List Smp)⟩:Sto) [3,2,1,0] (by rw [J7 ‹_›])⟩,Z.xt⟩
 refine .r 1<|.d<|.cf<|.sk<|.s<|.g<|RG.Ln 1 Z<|RG.cl (Dy s (Z.a 3) (Z.a 2) (Z.a 1) (Z.a 0) p0.nm p0.nd p0.sz) ?_
 rintro _ w ⟨⟨aq,aJ,ar,ax,aK,ay,az,aL,aA,aB,aM,aC,rfl,ac,ae,aa,af,ab,ag,ah⟩,ai⟩
 cases ac.len
 cases ae.len
 cases aa.len
 cases ab.len
 have Z:=Z.so ai [.own 0 az 104 aA (((Ah s)).parts),.own 0 aB 106 aC (((Ah s)).mem)] [.rep aq ar ((((Ah s)).idx).names),.rep ax ay ((((Ah s)).idx).AY)] (nd2 ah) (oN aa af (oN ab ag o0)) (fc ac (fc ae fn_))
 refine RG.Np Z fun aD w Z=>RG.Ss 0 Z fun w Z=>.d<|.s<|.s<|.g<|.r 1<|RG.Lb 4 Z<|.r 1<|.eq (s.mem.length:Int) 0 (fun aj=>?_) (fun aj=>?_)
 ·refine .r 6<|.d<|.ct<|.s<|.g<|RG.Ln 0 Z<|RG.Ss 3 Z fun w Z=>.r 1<|.d ?_
  have Z:=(Z.sl 1).sl 1
  exact T.r2 func70 results70 (.B 1 Z) (.t (.bool false)) ⟨⟨_,(Be rfl (AG (by rw [HV p0 ‹_› (.inl ‹_›)]))),Z.rS (g:=1) (⟨(⟨(((Ah s)).idx).names,(((Ah s)).idx).AY⟩:Idx),((Ah s)).parts,((Ah s)).mem⟩:Sto) [2,3,1,0] (by rw [HV p0 ‹_› (.inl ‹_›)])⟩,Z.xt⟩
 refine .r 2<|RG.Lb 4 Z<|.r 1<|.eq (s.parts.length:Int) 6 (fun ak=>?_) (fun ak=>?_)
 ·refine .r 1<|.d<|.ct<|.s<|.g<|RG.Ln 0 Z<|RG.Ss 3 Z fun w Z=>.r 1<|.d ?_
  have Z:=(Z.sl 1).sl 1
  exact T.r2 func70 results70 (.B 1 Z) (.t (.bool false)) ⟨⟨_,(Be rfl (AG (by rw [HV p0 ‹_› (.inr ‹_›)]))),Z.rS (g:=1) (⟨(⟨(((Ah s)).idx).names,(((Ah s)).idx).AY⟩:Idx),((Ah s)).parts,((Ah s)).mem⟩:Sto) [2,3,1,0] (by rw [HV p0 ‹_› (.inr ‹_›)])⟩,Z.xt⟩
 refine .r 1<|.d<|.cf<|.sk<|.s<|T.GS 5 [aD,ao,am] Z fun _ w Z=>.r [0]<|GA.Lb 1 0 Z<|GA.Ln (q:=2) 2 4 Z<|.go 3<|GE.CS (fun w Z=>Bw s (Z.a 5) (Z.a 4) (Z.a 3) (Z.a 2) (StoK.of p0 ‹_›).row (StoK.of p0 ‹_›).J4.Jk (by have:=p0.nm2; omega)) Z fun aN aO aP aQ w Z=>.go 4<|GE.Nb 1 Z fun aR w Z=>GA.Do Z fun w Z=>RG.Ap (hs:=by exact (by have q1:=p0.np; have q2:(Ah s).parts.length=s.parts.length:=rfl; omega)) 1 0 (((Ah s)).parts) (Ai s.mem) [0,1] Z fun aU aV w Z=>.r 1<|RG.Ss 0 Z fun w Z=>.d<|.s<|.g<|RG.N0 Smp 1 Z fun aW w Z=>.r 1<|RG.Ss 1 Z fun w Z=>.d<|.s<|.g<|RG.Ln 1 Z<|RG.Ss 4 Z fun w Z=>.r 1<|.d ?_
 have Z:=(Z.sl 2).sl 0
 exact T.r2 func70 results70 (.B 2 Z) (.t (.bool true)) ⟨⟨_,(Be rfl (AG (by rw [JF p0 ‹_› ‹_› ‹_›]))),Z.rS (g:=1) (⟨(⟨(((Ah s)).idx).names,(((Ah s)).idx).AY⟩:Idx),(((Ah s)).parts++[(Ai s.mem)]),([]:List Smp)⟩:Sto) [4,5,1,0] (by rw [JF p0 ‹_› ‹_› ‹_›])⟩,Z.xt⟩
end Go.Proofs.YtfninflnngpchaaGreatDoor
