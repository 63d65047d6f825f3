/- What asking computes, as plain functions, and its laws. -/
import Derived.Test.YtganlmloonielaaGreatTazW51ck18
import Derived.Test.YtganlmloonielaaGreatTazJnk18
import Derived.Test.YtganlmloonielaaGreatTazMod30k19
import Derived.Test.YtganlmloonielaaGreatTazMod58k20
set_option linter.unusedVariables false
set_option linter.unusedSimpArgs false
namespace Go.Proofs.YtganlmloonielaaGreat
def Jd (v:Tag):Nat→List Tag→Int
 | _,[]=>-1
 | i,x::xs=>if v==x then (i:Int) else Jd v (i+1) xs
theorem RE (v:Tag):∀ (l:List Tag) (i:Nat),has l v=decide (Jd v i l≥0):=by
 intro l
 induction l with
 | nil=>intro i; simp [has,Jd]
 | cons x xs ih =>
   intro i
   have:=ih (i+1)
   unfold has at this ⊢
   rw [List.any_cons,this]
   have e:Jd v i (x::xs)=if v==x then (i:Int) else Jd v (i+1) xs:=rfl
   rw [e]
   by_cases h:v=x
   ·subst h; simp
   ·have h1:(v==x)=false:=beq_eq_false_iff_ne.2 h
    have h2:(x==v)=false:=beq_eq_false_iff_ne.2 (fun e=>h e.symm)
    rw [h1,h2]
    simp
theorem KV (a b:Hit):a=b↔a.name=b.name∧a.rows=b.rows:=by cases a; cases b; simp
theorem KW {α:Type} {f:α→Bool} {l k Y:List α} {i:Nat} {x:α} (h:k++(l.drop i).filter f=Y) (hd:l.drop i=x::l.drop (i+1)) (hx:f x=true):(k++[x])++(l.drop (i+1)).filter f=Y:=by
 rw [hd,List.filter_cons,if_pos hx] at h
 rw [← h]
 simp
theorem KX {α:Type} {f:α→Bool} {l k Y:List α} {i:Nat} {x:α} (h:k++(l.drop i).filter f=Y) (hd:l.drop i=x::l.drop (i+1)) (hx:f x=false):k++(l.drop (i+1)).filter f=Y:=by
 rw [hd,List.filter_cons,if_neg (by simp [hx])] at h
 exact h
theorem LJ {α:Type} {f:α→Bool} {l k Y:List α} {i:Nat} (h:k++(l.drop i).filter f=Y) (hi:l.length≤i):k=Y:=by
 rw [AY hi] at h
 simpa using h
theorem M0 {p:List Tag→Bool} {l:List (List Tag)} {k Y:List Int} {i:Nat} {x:List Tag} (h:k++BW p i (l.drop i)=Y) (hd:l.drop i=x::l.drop (i+1)) (hx:p x=true):(k++[(i:Int)+1])++BW p (i+1) (l.drop (i+1))=Y:=by
 rw [hd,BW,if_pos hx] at h
 rw [← h]
 simp
theorem M3 {p:List Tag→Bool} {l:List (List Tag)} {k Y:List Int} {i:Nat} {x:List Tag} (h:k++BW p i (l.drop i)=Y) (hd:l.drop i=x::l.drop (i+1)) (hx:p x=false):k++BW p (i+1) (l.drop (i+1))=Y:=by
 rw [hd,BW,if_neg (by simp [hx])] at h
 exact h
theorem TC {p:List Tag→Bool} {l:List (List Tag)} {k Y:List Int} {i:Nat} (h:k++BW p i (l.drop i)=Y) (hi:l.length≤i):k=Y:=by
 rw [AY hi,BW] at h
 simpa using h
theorem Pj (p:List Tag→Bool):∀ (l:List (List Tag)) (i:Nat),(BW p i l).length≤l.length:=by
 intro l
 induction l with
 | nil=>intro i; simp [BW]
 | cons n ns ih =>
   intro i
   have:=ih (i+1)
   unfold BW
   split <;> simp <;> omega
theorem TD {s:Sto} {lo hi:Int} {l:List Int} {i:Nat} {id:Int} {k Y:List Hit} (h:k++(l.drop i).flatMap (Ep s lo hi)=Y) (hd:l.drop i=id::l.drop (i+1)) {c:List Row} (hc:c=Ku (rowsOf s id) lo hi) (hl:(c.length:Int) > 0) {n:List Tag} (hn:s.idx.names[(id - 1).toNat]? = some n) :
 (k++[⟨text n,c⟩])++(l.drop (i+1)).flatMap (Ep s lo hi)=Y:=by
 subst hc
 rw [hd,List.flatMap_cons] at h
 rw [← h]
 have:Ep s lo hi id=[⟨text n,Ku (rowsOf s id) lo hi⟩]:=by
  unfold Ep
  rw [if_pos AB,List.getD_eq_getElem?_getD,hn]
  rfl
 rw [this]
 simp
theorem TE {s:Sto} {lo hi:Int} {l:List Int} {i:Nat} {id:Int} {k Y:List Hit} (h:k++(l.drop i).flatMap (Ep s lo hi)=Y) (hd:l.drop i=id::l.drop (i+1)) {c:List Row} (hc:c=Ku (rowsOf s id) lo hi) (hl:¬ (c.length:Int) > 0) :
 k++(l.drop (i+1)).flatMap (Ep s lo hi)=Y:=by
 subst hc
 rw [hd,List.flatMap_cons] at h
 rw [← h]
 have:Ep s lo hi id=[]:=by
  unfold Ep
  rw [if_neg AB]
 rw [this]
 simp
theorem Ub {s:Sto} {lo hi:Int} {l:List Int} {i:Nat} {k Y:List Hit} (h:k++(l.drop i).flatMap (Ep s lo hi)=Y) (hi2:l.length≤i):k=Y:=by
 rw [AY hi2] at h
 simpa using h
theorem LK {f:List Cnd} (h:f.all (fun c=>Bg c.tag)=false):false=D4 f:=by unfold D4; rw [h]; rfl
theorem Nz {f:List Cnd} (h:f.all (fun c=>Bg c.tag)=true):decide ((f.length:Int)≤3)=D4 f:=by unfold D4; rw [h,Bool.true_and,decide_eq_decide]; omega
theorem RL {s:Sto} {f:List Cnd} {lo hi:Int} (h:Ak s=false∨D4 f=false):DQ s f lo hi=[]:=by
 unfold DQ
 rcases h with h | h <;> rw [h] <;> simp
def tx1 (t:Tag):Txt:=⟨HA t⟩
theorem N0:∀ (n:List Tag) (i:Nat),0< i→EY i n=Lib.joinTail [44] (n.map HA):=by
 intro n
 induction n with
 | nil=>intro i _; rfl
 | cons t ts ih =>
   intro i hi
   unfold EY
   rw [if_pos hi,ih (i+1) AB]
   simp [Lib.joinTail]
theorem Pl (n:List Tag):Lib.join ((n.map tx1).map Txt.s) [44]=text n:=by
 have e:(n.map tx1).map Txt.s=n.map HA:=by rw [List.map_map]; rfl
 rw [e]
 cases n with
 | nil=>rfl
 | cons t ts =>
   rw [List.map_cons,Lib.join_cons]
   unfold text EY
   rw [N0 ts 1 AB]
   simp
theorem Pm:∀ (n:List Tag) (i:Nat),(∀ t∈n,t.key.length≤1000∧t.val.length≤1000)→(EY i n).length≤2002 * n.length:=by
 intro n
 induction n with
 | nil=>intro i _; simp [EY]
 | cons t ts ih =>
   intro i h
   have h1:=ih (i+1) (fun x hx=>h x (by simp [hx]))
   have h2:=h t (by simp)
   unfold EY HA
   simp only [List.length_append,List.length_cons,List.length_nil]
   split <;> simp only [List.length_cons,List.length_nil] <;> omega
theorem L7 {n:List Tag} {k:List Txt} {i:Nat} (h:k++(n.drop i).map tx1=n.map tx1) (hi:n.length≤i):Lib.join (k.map Txt.s) [44]=text n:=by
 rw [AY hi,List.map_nil,List.append_nil] at h
 rw [h,Pl]
theorem Uc {n:List Tag} {k:List Txt} {i:Nat} (h:k++(n.drop i).map tx1=n.map tx1) (hi:n.length≤i) (hn:Fg n):(Lib.join (k.map Txt.s) [44]).length≤100000000000:=by
 rw [L7 h hi]
 have:=Pm n 0 hn.2
 have h2:=hn.1
 unfold text
 omega
theorem RN {n:List Tag} {k:List Txt} {i:Nat} {t:Tag} (h:k++(n.drop i).map tx1=n.map tx1) (hd:n.drop i=t::n.drop (i+1)):(k++[⟨t.key++[61]++t.val⟩])++(n.drop (i+1)).map tx1=n.map tx1:=by
 rw [hd,List.map_cons] at h
 rw [← h,List.append_assoc]
 rfl
theorem M4 {n:List Tag} (h:BS n=false):Fo n=[]:=by unfold Fo; rw [if_neg (by simp [h])]
theorem M5 {p:List Tag→Bool} {s:Sto} (hs:SD s) (hk:Ak s=true) {lo hi:Int} {i:Nat} {id:Int} {k Y:List Hit} (h:k++((BW p 0 s.idx.names).drop i).flatMap (Ep s lo hi)=Y) (hd:(BW p 0 s.idx.names).drop i=id::(BW p 0 s.idx.names).drop (i+1)) (hl:((F1 (rowsOf s id) lo hi).length:Int) > 0) {n:List Tag} (hn:s.idx.names[(id - 1).toNat]? = some n) :
 (k++[⟨Fo n,F1 (rowsOf s id) lo hi⟩])++((BW p 0 s.idx.names).drop (i+1)).flatMap (Ep s lo hi)=Y:=by
 have hid:=Cj (p:=p) (l:=s.idx.names) (x:=id) (List.mem_of_mem_drop (by rw [hd]; simp))
 rw [H8 (hs.nm.ok n (AQ hn))]
 exact TD h hd (Iz hs hk hid.1 hid.2 lo hi) hl hn
theorem M6 {p:List Tag→Bool} {s:Sto} (hs:SD s) (hk:Ak s=true) {lo hi:Int} {i:Nat} {id:Int} {k Y:List Hit} (h:k++((BW p 0 s.idx.names).drop i).flatMap (Ep s lo hi)=Y) (hd:(BW p 0 s.idx.names).drop i=id::(BW p 0 s.idx.names).drop (i+1)) (hl:¬ ((F1 (rowsOf s id) lo hi).length:Int) > 0) :
 k++((BW p 0 s.idx.names).drop (i+1)).flatMap (Ep s lo hi)=Y:=by
 have hid:=Cj (p:=p) (l:=s.idx.names) (x:=id) (List.mem_of_mem_drop (by rw [hd]; simp))
 exact TE h hd (Iz hs hk hid.1 hid.2 lo hi) hl
theorem Ou {s:Sto} {f:List Cnd} (hs:SD s) (hk:Ak s=true) {lo hi:Int} {i:Nat} {k:List Hit} (h:k++((BW (CD f) 0 s.idx.names).drop i).flatMap (Ep s lo hi)=Pg (CD f) s lo hi) (hi2:(BW (CD f) 0 s.idx.names).length≤i):DQ s f lo hi=k:=by
 rw [RM hs hk]
 exact (Ub h hi2).symm
end Go.Proofs.YtganlmloonielaaGreat
namespace Go.Proofs.YtganlmloonielaaGreat
set_option maxRecDepth 100000
set_option maxHeartbeats 4000000
theorem Je (b:List Row) (from_:Int) (to_:Int) {w:World} {F:Nat→Prop} {a1:Option Addr} {n1 c1:Nat} (h1:RepS w F a1 n1 c1 b) (p0:b.length≤1000000):Calls Tryz.prog 125 [.slice a1 n1 c1,.int .i64 from_,.int .i64 to_].toArray w (As fun rv w'=>VL (ge w.heap.size) w' (F1 b from_ to_:List Row) rv∧Ext w w'):=by
 refine goT Tryz.func125 ?_
 obtain ⟨rfl,bm,h1⟩:=h1.tp
 refine .s<|.g<|.r 1<|.d<|.s<|.g<|.ns 0 105 [] fun O aH ag ak aI aJ=>?_
 have au:=Ad ag (Nat.le_refl _)
 have aK:Cov nil w O:=Bc ag (Nat.le_refl _)
 replace h1:=(sn [] ak ag).g1 h1
 have C:=ak
 have ah:Own (α:=Row) aH O 105 (nin (ge w.heap.size) [O]) 0 0 []:=Own.Ag aI
 refine .r 1<|.d<|.s<|.s<|.g<|.r 1<|.cl (DK b h1.ta (w:=aH) (F:=all)) ?_
 rintro bF al ⟨rfl,av⟩
 replace ⟨h1,ah,C⟩:=(se [O] av).g3 h1 ah C
 cases bn:(BE b)
 ·refine .r 1<|.d<|.ct<|.s<|.g<|.r 2<|.d ?_
  have bg:=ah.sl au
  replace h1:=(sd al [O] O).g1 h1
  exact .rt Tryz.func125 Tryz.results125 (vS O 0 0) ⟨(bg.vl (by unfold F1; first | (rw [if_neg (by simp [*])]; done) | (rw [if_pos ‹_›]; exact LJ ‹_› AB)) (fun _ _ h=>h.1)),C⟩
 refine .r 1<|.d<|.cf<|.sk<|.s<|.s<|.g<|.r 3<|.d<|.b 0<|T.loop (X:=(List Row) × Nat × Nat × Nat × Nat) (([]:List Row),O,0,0,0) (fun (out,r_out,n_out,c_out,k)=>[(1,vI from_),(2,vI to_),(7,vS r_out n_out c_out),(15,.slice a1 b.length c1),(16,vI (b.length:Int)),(17,vI (k:Int))]) (fun (out,r_out,n_out,c_out,k) ar=>Chg (ins [O]) al ar∧Own ar r_out 105 (nin (ge w.heap.size) [r_out]) n_out c_out out∧OrB r_out O al.heap.size∧(k≤b.length)∧(out.length≤k)∧(out++(b.drop k).filter (fun r=>inR r.t from_ to_)=Ku b from_ to_)) (fun (out,r_out,n_out,c_out,k)=>b.length - k) AA ⟨AA,AA,AA,AA,AA,AA,trivial⟩ ⟨Chg.refl _ _,ah,BJ,(by first | omega | rfl | simp),(by first | omega | rfl | simp),(by first | omega | rfl | simp)⟩ ?_
 rintro ⟨out,r_out,n_out,c_out,k⟩ bG ar ⟨J,E,aa,bo,bq,br⟩ ac
 have aL:=Bv aa au C.size
 have bt:=Ar aa aK C.size
 have aM:Cov (ins [O]) al O:=⟨.inl AD⟩
 have bu:=Ar aa aM (Nat.le_refl _)
 have aw:Mv [O] [r_out] al ar:=Mv.inl J (all_cons AD all_nil) (all_cons (BV aa AD) all_nil)
 replace ⟨h1,C⟩:=(sp aw J).g2 h1 C
 have bv:=E.len; have bw:=E.max
 refine .s<|.g<|.bp ((k:Int)< (b.length:Int)) (fun aN=>?_) (fun aN=>?_)
 ·refine .d<|.s<|.ct<|.sk<|.s<|.b 1<|.s<|.g ?_
  have aO:k< b.length:=AB
  refine .ix k 2 h1 aO ?_
  obtain ⟨ab,am⟩:∃ y,b[k]? = some y:=⟨_,AP AB⟩
  have bz:=AX am; have bd:=AQ am
  obtain ⟨_,rfl,aP⟩:=h1.elem k ab am
  refine .lg 0 aP<|.np 105 [vI 0,vI 0] fun aj bH ae ax aQ aR=>?_
  have bA:=AS ae E.lt
  have bB:=C.cn ae
  have bC:=J.cn ae
  replace ⟨E,C,J⟩:=(sn [r_out] ax ae).g3 E C J
  refine .sc [vI ab.t,vI ab.v] aQ fun bh ay af aS=>?_
  replace ⟨E,C,J⟩:=(so [aj,r_out] ay).g3 E C J
  refine .d<|.s<|.g<|.r 1<|.lb af<|.r 2<|.cl (CM ab.t from_ to_ (w:=bh) (F:=all)) ?_
  rintro bI aT ⟨rfl,az⟩
  replace ⟨E,af,C,J⟩:=(se [aj,r_out] az).g4 E af C J
  cases aA:(inR ab.t from_ to_)
  ·have bD:=Ex aA
   refine .d<|.cf<|.sk<|.ib 1<|.g<|.it ((k:Int)+1)<|.r 1<|.d ?_
   have aU:Mv [aj,r_out] [r_out] aT aT:=Mv.less (all_cons AE all_nil)
   replace E:=(sp aU (Chg.refl nil _)).g1 E
   exact ac (out,r_out,n_out,c_out,k+1) _ _ ⟨AA,AA,AA,AA,AA,AA,trivial⟩ ⟨J,E,aa,AB,(by first | omega | (simp; omega)),(by first | exact KW ‹_› ‹_› ‹_› | exact KX ‹_› ‹_› ‹_›)⟩ (by first | omega | (simp only []; omega))
  have bE:=CN aA
  refine .d<|.ct<|.g<|.r 1<|.ln af<|.ns 1 105 [vI ab.t,vI ab.v] fun aV bJ ai aB aW aX=>?_
  have aC:=AS ai E.lt
  have aY:=AS ai af.lt
  have aZ:=Ad ai C.size
  replace ⟨E,C,J⟩:=(se [aj,r_out] aB).g3 E C J
  have ao:nin (ge w.heap.size) [aj,r_out] aV∧aV≠r_out:=BG aZ (all_cons aY (all_cons aC all_nil)) aC
  refine RG.Ap (T:=91) (ty:=91) (y:=ab) E aW AA AA rfl ao AB fun aE bi ba W aq aD=>?_
  have aF:=Bo aq aa J.size
  replace ⟨C,J⟩:=(s1 aD).g2 C J
  replace W:=W.rn r_out
  have bj:=W.len; have bk:=W.max
  refine .r 1<|.d<|.ib 1<|.g<|.it ((k:Int)+1)<|.r 1<|.d ?_
  have aG:Mv [aj,aE] [aE] ba ba:=Mv.less (all_cons AE all_nil)
  replace W:=(sp aG (Chg.refl nil _)).g1 W
  exact ac ((out++[ab]),aE,n_out+1,bi,k+1) _ _ ⟨AA,AA,AA,AA,AA,AA,trivial⟩ ⟨J,W,aF,AB,(by first | omega | (simp; omega)),(by first | exact KW ‹_› ‹_› ‹_› | exact KX ‹_› ‹_› ‹_›)⟩ (by first | omega | (simp only []; omega))
 refine .d<|.s<|.cf<|.x 0 rfl<|.s<|.g<|.r 2<|.d ?_
 have bc:=E.sl aL
 exact .rt Tryz.func125 Tryz.results125 (vS r_out n_out c_out) ⟨(bc.vl (by unfold F1; first | (rw [if_neg (by simp [*])]; done) | (rw [if_pos ‹_›]; exact LJ ‹_› AB)) (fun _ _ h=>h.1)),C⟩
theorem Jf (f:List Cnd) {w:World} {F:Nat→Prop} {a1:Option Addr} {n1 c1:Nat} (h1:RepS w F a1 n1 c1 f)  : Calls Tryz.prog 181 [.slice a1 n1 c1].toArray w (As fun rv w'=>rv=.bool (D4 f)∧Ext w w'):=by
 refine goT Tryz.func181 ?_
 obtain ⟨rfl,au,h1⟩:=h1.tp
 refine .s<|.g<|.r 1<|.d<|.s<|.s<|.g<|.r 3<|.d<|.b 0<|T.loop (X:=Nat) 0 (fun k=>[(0,.slice a1 f.length c1),(5,.slice a1 f.length c1),(6,vI (f.length:Int)),(7,vI (k:Int))]) (fun k ab=>Chg (ins []) w ab∧(k≤f.length)∧((f.drop k).all (fun c=>Bg c.tag)=f.all (fun c=>Bg c.tag))) (fun k=>f.length - k) AA ⟨AA,AA,AA,AA,trivial⟩ ⟨Chg.refl _ _,(by simp),(by simp)⟩ ?_
 rintro k aB ab ⟨C,av,aw⟩ O
 have ac:Mv [] [] w ab:=Mv.inl C all_nil all_nil
 replace h1:=(sp ac C).g1 h1
 have E:Chg nil w ab:=Chg.CY (Chg.refl nil w) C all_nil
 refine .s<|.g<|.bp ((k:Int)< (f.length:Int)) (fun ah=>?_) (fun ah=>.d<|.s<|.cf<|.x 0 rfl<|.s<|.g<|.r 4<|.d<|.rt Tryz.func181 Tryz.results181 (.bool (decide ((f.length:Int)≤3))) ⟨(congrArg Value.bool (by first | exact LK (FJ ‹_› ‹_› ‹_›) | exact Nz (HR ‹_› AB))),E⟩)
 refine .d<|.s<|.ct<|.sk<|.s<|.b 1<|.s<|.g ?_
 have ai:k< f.length:=AB
 refine .ix k 3 h1 ai ?_
 obtain ⟨J,W⟩:∃ y,f[k]? = some y:=⟨_,AP AB⟩
 have ax:=AX W; have aq:=AQ W
 obtain ⟨_,rfl,aj⟩:=h1.elem k J W
 refine .lg 0 aj<|.np 198 [.string (bs []),.string (bs []),.bool false] fun aC aD aa ae ak al=>?_
 have ay:=E.cn aa
 have az:=C.cn aa
 replace ⟨E,C⟩:=(se [] ae).g2 E C
 refine .sc [vT J.tag.key,vT J.tag.val,.bool J.no] ak fun ar af am ao=>?_
 replace ⟨E,C⟩:=(s1 af).g2 E C
 refine .d<|.s<|.g<|.r 1<|.ln am<|.cl (Hm J.tag (w:=ar) (F:=all)) ?_
 rintro aE aF ⟨rfl,ag⟩
 replace ⟨E,C⟩:=(se [] ag).g2 E C
 cases aA:(Bg J.tag)
 ·exact .r 1<|.d<|.ct<|.s<|.g<|.r 1<|.d<|.rt Tryz.func181 Tryz.results181 (.bool false) ⟨(congrArg Value.bool (by exact LK (FJ ‹_› ‹_› ‹_›))),E⟩
 exact .r 1<|.d<|.cf<|.sk<|.ib 1<|.g<|.it ((k:Int)+1)<|.r 1<|.d<|O (k+1) _ _ ⟨AA,AA,AA,AA,trivial⟩ ⟨C,AB,(by exact Fz ‹_› ‹_› ‹_›)⟩ (by first | omega | (simp only []; omega))
theorem D5 (s:List Tag) (v:Tag) {w:World} {F:Nat→Prop} {a1:Option Addr} {n1 c1:Nat} (h1:RepS w F a1 n1 c1 s)  : Calls Tryz.prog 202 [.slice a1 n1 c1,.agg #[.string (bs v.key),.string (bs v.val)]].toArray w (As fun rv w'=>rv=.int .i64 (Jd v 0 s)∧Ext w w'):=by
 refine goT Tryz.func202 ?_
 obtain ⟨rfl,ar,h1⟩:=h1.tp
 refine .s<|.g<|.np 120 [vT v.key,vT v.val] fun ab aj ac O J ak=>?_
 replace h1:=(sn [] O ac).g1 h1
 have C:=O
 refine .r 1<|.d<|.s<|.s<|.g<|.r 3<|.d<|.b 0<|T.loop (X:=Nat) 0 (fun k=>[(0,.slice a1 s.length c1),(3,.pointer (some ⟨ab,0,none⟩)),(7,vI (s.length:Int)),(8,vI (k:Int))]) (fun k ah=>Chg (ins []) aj ah∧(k≤s.length)∧(Jd v k (s.drop k)=Jd v 0 s)) (fun k=>s.length - k) AA ⟨AA,AA,AA,AA,trivial⟩ ⟨Chg.refl _ _,(by simp),(by simp)⟩ ?_
 rintro k ay ah ⟨E,au,av⟩ W
 have ae:Mv [ab] [ab] aj ah:=Mv.inl E all_nil (all_cons (.inl AD) all_nil)
 replace ⟨h1,J,C⟩:=(sp ae E).g3 h1 J C
 refine .s<|.g<|.bp ((k:Int)< (s.length:Int)) (fun al=>?_) (fun al=>.d<|.s<|.cf<|.x 0 rfl<|.s<|.g<|.r 1<|.d<|.rt Tryz.func202 Tryz.results202 (vI (-1)) ⟨(congrArg (Value.int .i64) (by grind [Jd,AY])),C⟩)
 refine .d<|.s<|.ct<|.sk<|.s<|.b 1<|.s<|.g<|.r 2<|.d<|.s<|.gd nil 5 fun az af=>?_
 replace ⟨h1,J,C,E⟩:=(se [ab] af).g4 h1 J C E
 refine .ln 0 J id<|.r [1,2] ?_
 have am:k< s.length:=AB
 refine .ix 3 k 2 h1 am ?_
 obtain ⟨ai,aa⟩:∃ y,s[k]? = some y:=⟨_,AP AB⟩
 have aw:=AX aa; have aq:=AQ aa
 obtain ⟨_,rfl,ao⟩:=h1.elem k ai aa
 refine .lg 4 0 ao id<|.d fun aA ag=>?_
 replace ⟨C,E⟩:=(se [] ag).g2 C E
 refine RG.MU (t:=120) (x:=v) (y:=ai) AA AA ?_
 cases ax:(v==ai)
 ·exact .d<|.cf<|.sk<|.ib 1<|.g<|.it ((k:Int)+1)<|.r 1<|.d<|W (k+1) _ _ ⟨AA,AA,AA,AA,trivial⟩ ⟨E,AB,(by grind [Jd])⟩ (by first | omega | (simp only []; omega))
 exact .d<|.ct<|.s<|.g<|.r 2<|.d<|.rt Tryz.func202 Tryz.results202 (vI (k:Int)) ⟨(congrArg (Value.int .i64) (by grind [Jd,AY])),C⟩
theorem DY (s:List Tag) (v:Tag) {w:World} {F:Nat→Prop} {a1:Option Addr} {n1 c1:Nat} (h1:RepS w F a1 n1 c1 s)  : Calls Tryz.prog 182 [.slice a1 n1 c1,.agg #[.string (bs v.key),.string (bs v.val)]].toArray w (As fun rv w'=>rv=.bool (has s v)∧Ext w w'):=by
 refine goT Tryz.func182 ?_
 obtain ⟨rfl,ac,h1⟩:=h1.tp
 refine .s<|.g<|.np 120 [vT v.key,vT v.val] fun ae ab J C W aa=>?_
 replace h1:=(sn [] C J).g1 h1
 have E:=C
 refine .r 1<|.d<|.s<|.g<|.r 1<|.ln W<|.cl (D5 s v h1.ta (w:=ab) (F:=all)) ?_
 rintro af ag ⟨rfl,O⟩
 replace E:=(se [] O).g1 E
 exact .r 2<|.d<|.rt Tryz.func182 Tryz.results182 (.bool (decide (Jd v 0 s≥0))) ⟨(congrArg Value.bool (by exact (RE v s 0).symm)),E⟩
theorem H9 (f:List Cnd) (n:List Tag) {w:World} {F:Nat→Prop} {a1:Option Addr} {n1 c1:Nat} (h1:RepS w F a1 n1 c1 f) {a2:Option Addr} {n2 c2:Nat} (h2:RepS w F a2 n2 c2 n) (p0:n.length≤1000):Calls Tryz.prog 163 [.slice a1 n1 c1,.slice a2 n2 c2].toArray w (As fun rv w'=>rv=.bool (CD f n)∧Ext w w'):=by
 refine goT Tryz.func163 ?_
 obtain ⟨rfl,aB,h1⟩:=h1.tp
 obtain ⟨rfl,aC,h2⟩:=h2.tp
 refine .s<|.g<|.r 1<|.d<|.s<|.s<|.g<|.r 1<|.cl (Jf f h1.ta (w:=w) (F:=all)) ?_
 rintro aN az ⟨rfl,aa⟩
 replace ⟨h1,h2⟩:=(se [] aa).g2 h1 h2
 have C:=aa
 cases aD:(D4 f)
 ·exact .r 6<|.d<|.ct<|.s<|.g<|.r 1<|.d<|.rt Tryz.func163 Tryz.results163 (.bool false) ⟨(congrArg Value.bool (by unfold CD; first | (simp [*]; done) | (rw [FJ (f:=fun c:Cnd=>has n c.tag != c.no) (by assumption:(f.drop k).all _=fits f n) ‹_› (by simp_all)]; simp))),C⟩
 refine .r 3<|.cl (FV n h2.ta (w:=az) (F:=all)) ?_
 rintro aO al ⟨rfl,ae⟩
 replace ⟨h1,h2,C⟩:=(se [] ae).g3 h1 h2 C
 cases aE:(BS n)
 ·exact .r 2<|.d<|.ct<|.s<|.g<|.r 1<|.d<|.rt Tryz.func163 Tryz.results163 (.bool false) ⟨(congrArg Value.bool (by unfold CD; first | (simp [*]; done) | (rw [FJ (f:=fun c:Cnd=>has n c.tag != c.no) (by assumption:(f.drop k).all _=fits f n) ‹_› (by simp_all)]; simp))),C⟩
 refine .r 2<|.d<|.cf<|.sk<|.s<|.s<|.g<|.r 3<|.d<|.b 0<|T.loop (X:=Nat) 0 (fun k=>[(1,.slice a2 n.length c2),(15,.slice a1 f.length c1),(16,vI (f.length:Int)),(17,vI (k:Int))]) (fun k ak=>Chg (ins []) al ak∧(k≤f.length)∧(D4 f=true)∧(BS n=true)∧((f.drop k).all (fun c=>has n c.tag != c.no)=fits f n)) (fun k=>f.length - k) AA ⟨AA,AA,AA,AA,trivial⟩ ⟨Chg.refl _ _,(by first | omega | assumption | rfl),(by first | omega | assumption | rfl),(by first | omega | assumption | rfl),(by first | omega | assumption | rfl)⟩ ?_
 rintro k aP ak ⟨E,aF,aG,aH,aI⟩ ab
 have af:Mv [] [] al ak:=Mv.inl E all_nil all_nil
 replace ⟨h1,h2,C⟩:=(sp af E).g3 h1 h2 C
 refine .s<|.g<|.bp ((k:Int)< (f.length:Int)) (fun am=>?_) (fun am=>.d<|.s<|.cf<|.x 0 rfl<|.s<|.g<|.r 1<|.d<|.rt Tryz.func163 Tryz.results163 (.bool true) ⟨(congrArg Value.bool (by unfold CD; rw [HR (f:=fun c:Cnd=>has n c.tag != c.no) (by assumption:(f.drop k).all _=fits f n) AB]; simp [*])),C⟩)
 refine .d<|.s<|.ct<|.sk<|.s<|.b 1<|.s<|.g ?_
 have ao:k< f.length:=AB
 refine .ix k 3 h1 ao ?_
 obtain ⟨J,ac⟩:∃ y,f[k]? = some y:=⟨_,AP AB⟩
 have aJ:=AX ac; have ay:=AQ ac
 obtain ⟨_,rfl,aq⟩:=h1.elem k J ac
 refine .lg 0 aq<|.np 198 [.string (bs []),.string (bs []),.bool false] fun ar aQ O ag au av=>?_
 have aK:=C.cn O
 have aL:=E.cn O
 replace ⟨h2,C,E⟩:=(sn [] ag O).g3 h2 C E
 refine .sc [vT J.tag.key,vT J.tag.val,.bool J.no] au fun aR ah W aw=>?_
 replace ⟨h2,C,E⟩:=(so [ar] ah).g3 h2 C E
 refine .d<|.s<|.gd nil 6 fun aS ai=>?_
 replace ⟨h2,W,C,E⟩:=(se [ar] ai).g4 h2 W C E
 refine .r [0,1]<|.ln 2 W id<|GA.Bz (i:=3) AA (fun aA ax=>DY n J.tag (h2.ta.ext ax) (w:=aA) (F:=all))<|.r [4]<|.lb 5 W id<|.d fun aT aj=>?_
 replace ⟨C,E⟩:=(se [] aj).g2 C E
 refine RG.eqv (v:=.bool ((has n J.tag)==J.no)) (v':=.bool ((has n J.tag)==J.no)) AA (by rfl) ?_
 cases aM:((has n J.tag)==J.no)
 ·exact .d<|.cf<|.sk<|.ib 1<|.g<|.it ((k:Int)+1)<|.r 1<|.d<|ab (k+1) _ _ ⟨AA,AA,AA,AA,trivial⟩ ⟨E,AB,‹_›,‹_›,(by exact Fz ‹_› ‹_› (by simp_all))⟩ (by first | omega | (simp only []; omega))
 exact .d<|.ct<|.s<|.g<|.r 1<|.d<|.rt Tryz.func163 Tryz.results163 (.bool false) ⟨(congrArg Value.bool (by unfold CD; first | (simp [*]; done) | (rw [FJ (f:=fun c:Cnd=>has n c.tag != c.no) (by assumption:(f.drop k).all _=fits f n) ‹_› (by simp_all)]; simp))),C⟩
theorem I0 (ix:Idx) (f:List Cnd) {w:World} {F:Nat→Prop} {a1:Option Addr} {n1 c1:Nat} (h1:RepS w F a1 n1 c1 ix.names) {a2:Option Addr} {n2 c2:Nat} (h2:RepS w F a2 n2 c2 ix.AV) {a3:Option Addr} {n3 c3:Nat} (h3:RepS w F a3 n3 c3 f) (p0:IxI ix) (p1:NsD ix.names):Calls Tryz.prog 124 [.agg #[.slice a1 n1 c1,.slice a2 n2 c2],.slice a3 n3 c3].toArray w (As fun rv w'=>VL (ge w.heap.size) w' (BW (CD f) 0 ix.names:List Int) rv∧Ext w w'):=by
 refine goT Tryz.func124 ?_
 obtain ⟨rfl,bd,h1⟩:=h1.tp
 obtain ⟨rfl,bg,h2⟩:=h2.tp
 obtain ⟨rfl,bh,h3⟩:=h3.tp
 refine .s<|.g<|.np 30 [.slice a1 ix.names.length c1,.slice a2 ix.AV.length c2] fun aa bw aq ah E aD=>?_
 replace ⟨h1,h2,h3⟩:=(sn [] ah aq).g3 h1 h2 h3
 have C:=ah
 refine .r 1<|.d<|.s<|.g<|.ns 0 3 [] fun ab aE ac ar aF aG=>?_
 have aH:=AS ac E.lt
 have aI:=Ad ac C.size
 have aJ:=C.cn ac
 replace ⟨h1,h2,h3,E,C⟩:=(sn [aa] ar ac).g5 h1 h2 h3 E C
 have ai:Own (α:=Int) aE ab 3 (nin (ge w.heap.size) [ab,aa]) 0 0 []:=Own.Ag aF
 refine .r 1<|.d<|.s<|.s<|.g<|.ln E<|.cl (KP ix h1.ta h2.ta p0 p1 (w:=aE) (F:=all)) ?_
 rintro bz ao ⟨rfl,au⟩
 replace ⟨h1,h3,E,ai,C⟩:=(se [ab,aa] au).g5 h1 h3 E ai C
 refine .r 1<|.d<|.cf<|.sk<|.s<|.s<|.g<|.r 1<|.lb E<|.r 2<|.d<|.b 0<|T.loop (X:=(List Int) × Nat × Nat × Nat × Nat) (([]:List Int),ab,0,0,0) (fun (out,r_out,n_out,c_out,k)=>[(1,.slice a3 f.length c3),(5,vS r_out n_out c_out),(14,.slice a1 ix.names.length c1),(15,vI (ix.names.length:Int)),(16,vI (k:Int))]) (fun (out,r_out,n_out,c_out,k) aj=>Chg (ins [ab]) ao aj∧Own aj r_out 3 (nin (ge w.heap.size) [r_out,aa]) n_out c_out out∧OrB r_out ab ao.heap.size∧(k≤ix.names.length)∧(out.length≤k)∧(out++BW (CD f) k (ix.names.drop k)=BW (CD f) 0 ix.names)) (fun (out,r_out,n_out,c_out,k)=>ix.names.length - k) AA ⟨AA,AA,AA,AA,AA,trivial⟩ ⟨Chg.refl _ _,ai,BJ,(by first | omega | rfl | simp),(by first | omega | rfl | simp),(by first | omega | rfl | simp)⟩ ?_
 rintro ⟨out,r_out,n_out,c_out,k⟩ bA aj ⟨J,O,W,bi,bj,bk⟩ ae
 have bm:=Aw W aH E.lt
 have aK:=Bv W aI C.size
 have bn:=Ar W aJ C.size
 have aL:Cov (ins [ab]) ao ab:=⟨.inl AD⟩
 have bo:=Ar W aL (Nat.le_refl _)
 have av:Mv [ab,aa] [r_out,aa] ao aj:=Mv.inl J (all_cons AD all_nil) (all_cons (BV W AD) (all_cons (.inl AE) all_nil))
 replace ⟨h1,h3,E,C⟩:=(sp av J).g4 h1 h3 E C
 have bq:=O.len; have br:=O.max
 refine .s<|.g<|.bp ((k:Int)< (ix.names.length:Int)) (fun aM=>?_) (fun aM=>?_)
 ·refine .d<|.s<|.ct<|.sk<|.s<|.b 1<|.s<|.g<|.r 1 ?_
  have aN:k< ix.names.length:=AB
  refine .ix k 1 h1 aN ?_
  obtain ⟨aA,ak⟩:∃ y,ix.names[k]? = some y:=⟨_,AP AB⟩
  have bt:=AX ak; have aW:=AQ ak
  obtain ⟨_,⟨bB,bC,bD,rfl,aB⟩,aO⟩:=h1.elem k aA ak
  have aP:=aB.len
  subst aP
  have bu:=aB.max
  refine .lh 0 aO<|.r 2<|.d<|.s<|.g<|.r 2<|.cl (H9 f aA h3.ta aB.ta (by have q1:=(p0.nm.sz _ ‹_›).1; omega) (w:=aj) (F:=all)) ?_
  rintro bE bF ⟨rfl,aw⟩
  replace ⟨E,O,C,J⟩:=(se [r_out,aa] aw).g4 E O C J
  cases bv:(CD f aA)
  ·exact .d<|.cf<|.sk<|.ib 1<|.g<|RG.int ((k:Int)+1) AA (by have q1:=p0.nm.len; omega)<|.r 1<|.d<|ae (out,r_out,n_out,c_out,k+1) _ _ ⟨AA,AA,AA,AA,AA,trivial⟩ ⟨J,O,W,AB,(by first | omega | (simp; omega)),(by first | exact M0 ‹_› ‹_› ‹_› | exact M3 ‹_› ‹_› ‹_›)⟩ (by first | omega | (simp only []; omega))
  refine .d<|.ct<|.g<|.r 2<|RG.int ((k:Int)+1) AA (by have q1:=p0.nm.len; omega)<|.ns 1 3 [vI ((k:Int)+1)] fun aQ bG ag ax aR aS=>?_
  have aT:=AS ag E.lt
  have ay:=AS ag O.lt
  have aU:=Ad ag C.size
  replace ⟨O,C,J⟩:=(se [r_out,aa] ax).g3 O C J
  have al:nin (ge w.heap.size) [r_out,aa] aQ∧aQ≠r_out:=BG aU (all_cons ay (all_cons aT all_nil)) ay
  refine RG.Ap (T:=24) (ty:=24) (y:=(k:Int)+1) O aR AA AA rfl al (by have q1:=p0.nm.len; omega) fun aY aZ bH af am az=>?_
  have aC:=Bo am W J.size
  replace ⟨C,J⟩:=(s1 az).g2 C J
  replace af:=af.rn r_out
  have ba:=af.len; have bc:=af.max
  exact .r 1<|.d<|.ib 1<|.g<|RG.int ((k:Int)+1) AA (by have q1:=p0.nm.len; omega)<|.r 1<|.d<|ae ((out++[(k:Int)+1]),aY,n_out+1,aZ,k+1) _ _ ⟨AA,AA,AA,AA,AA,trivial⟩ ⟨J,af,aC,AB,(by first | omega | (simp; omega)),(by first | exact M0 ‹_› ‹_› ‹_› | exact M3 ‹_› ‹_› ‹_›)⟩ (by first | omega | (simp only []; omega))
 refine .d<|.s<|.cf<|.x 0 rfl<|.s<|.g<|.r 2<|.d ?_
 have aV:=O.sl aK
 exact .rt Tryz.func124 Tryz.results124 (vS r_out n_out c_out) ⟨(aV.vl (by exact TC ‹_› AB) (fun _ _ h=>h.1)),C⟩
end Go.Proofs.YtganlmloonielaaGreat
namespace Go.Proofs.YtganlmloonielaaGreat
set_option maxRecDepth 100000
set_option maxHeartbeats 4000000
theorem Kv (a:List Hit) (b:List Hit) {w:World} {F:Nat→Prop} {a1:Option Addr} {n1 c1:Nat} (h1:RepS w F a1 n1 c1 a) {a2:Option Addr} {n2 c2:Nat} (h2:RepS w F a2 n2 c2 b)  : Calls Tryz.prog 83 [.slice a1 n1 c1,.slice a2 n2 c2].toArray w (As fun rv w'=>rv=.bool ((a==b))∧Ext w w'):=by
 refine goT Tryz.func83 ?_
 obtain ⟨rfl,aC,h1⟩:=h1.tp
 obtain ⟨rfl,aD,h2⟩:=h2.tp
 refine .s<|.g<|.r 1<|.d<|.s<|.s<|.g<|.r 4<|.ne (a.length:Int) (b.length:Int) (fun ao=>.d<|.ct<|.s<|.g<|.r 1<|.d<|.rt Tryz.func83 Tryz.results83 (.bool false) ⟨(congrArg Value.bool (by grind [AY,KV])),(Chg.refl _ _)⟩) fun ao=>.d<|.cf<|.sk<|.s<|.s<|.g<|.r 1<|.d<|.b 0<|T.loop (X:=Nat) 0 (fun i=>[(0,.slice a1 a.length c1),(1,.slice a2 b.length c2),(5,vI (i:Int))]) (fun i af=>Chg (ins []) w af∧(i≤a.length)∧(a.drop i=b.drop i↔a=b)) (fun i=>a.length - i) AA ⟨AA,AA,AA,trivial⟩ ⟨Chg.refl _ _,(by simp),(by simp)⟩ ?_
 rintro i aM af ⟨C,aE,aF⟩ ab
 have ag:Mv [] [] w af:=Mv.inl C all_nil all_nil
 replace ⟨h1,h2⟩:=(sp ag C).g2 h1 h2
 have E:Chg nil w af:=Chg.CY (Chg.refl nil w) C all_nil
 refine .s<|.s<|.g<|.r 3<|.bp ((i:Int)< (a.length:Int)) (fun aq=>?_) (fun aq=>.d<|.cf<|.x 0 rfl<|.s<|.g<|.r 1<|.d<|.rt Tryz.func83 Tryz.results83 (.bool true) ⟨(congrArg Value.bool (by grind [AY,KV])),E⟩)
 refine .d<|.ct<|.sk<|.s<|.b 1<|.s<|.gd nil 22 fun aN ah=>?_
 replace ⟨h1,h2,E,C⟩:=(se [] ah).g4 h1 h2 E C
 refine .r [0,1] ?_
 have ar:i< a.length:=AB
 refine .ix 2 i 2 h1 ar<|.r [3] ?_
 obtain ⟨W,ac⟩:∃ y,a[i]? = some y:=⟨_,AP AB⟩
 have aG:=AX ac; have az:=AQ ac
 obtain ⟨_,⟨aO,aP,aQ,rfl,J⟩,ai⟩:=h1.elem i W ac
 have au:=J.len
 subst au
 have aH:=J.max
 refine .lh 4 0 ai id<|.r [5,6] ?_
 have av:i< b.length:=AB
 refine .ix 7 i 2 h2 av<|.r [8] ?_
 obtain ⟨aa,ae⟩:∃ y,b[i]? = some y:=⟨_,AP AB⟩
 have aI:=AX ae; have aA:=AQ ae
 obtain ⟨_,⟨aR,aS,aT,rfl,O⟩,aj⟩:=h2.elem i aa ae
 have aw:=O.len
 subst aw
 have aJ:=O.max
 refine .lh 9 0 aj id<|GA.eqv (i:=10) (v:=.bool (!(W.name==aa.name))) AA (SY W.name aa.name) ?_
 cases aK:(W.name==aa.name)
 ·refine .r [11]<|GA.skip AA fun aU ak=>?_
  replace ⟨h1,h2,J,O,E,C⟩:=(se [] ak).g6 h1 h2 J O E C
  exact .r 3<|.d<|.ct<|.s<|.g<|.r 1<|.d<|.rt Tryz.func83 Tryz.results83 (.bool false) ⟨(congrArg Value.bool (by grind [AY,KV])),E⟩
 refine .r [11,12,13] ?_
 have ax:i< a.length:=AB
 refine .ix 14 i 2 h1 ax<|.r [15]<|.lh 16 1 ai id<|.r [17,18] ?_
 have ay:i< b.length:=AB
 refine .ix 19 i 2 h2 ay<|.r [20]<|.lh 21 1 aj id<|.d fun aB al=>?_
 replace ⟨J,O,E,C⟩:=(se [] al).g4 J O E C
 refine .cl (HB W.rows aa.rows J.ta O.ta (w:=aB) (F:=all)) ?_
 rintro aV aW ⟨rfl,am⟩
 replace ⟨E,C⟩:=(se [] am).g2 E C
 cases aL:(W.rows==aa.rows)
 ·exact .r 2<|.d<|.ct<|.s<|.g<|.r 1<|.d<|.rt Tryz.func83 Tryz.results83 (.bool false) ⟨(congrArg Value.bool (by grind [AY,KV])),E⟩
 exact .r 2<|.d<|.cf<|.sk<|.ib 1<|.g<|.r 1<|.it ((i:Int)+1)<|.r 1<|.d<|ab (i+1) _ _ ⟨AA,AA,AA,trivial⟩ ⟨C,AB,(by grind [KV])⟩ (by first | omega | (simp only []; omega))
set_option maxRecDepth 100000 in
set_option maxHeartbeats 4000000 in
theorem Jg (n:List Tag) {w:World} {F:Nat→Prop} {a1:Option Addr} {n1 c1:Nat} (h1:RepS w F a1 n1 c1 n) (p0:Fg n):Calls Tryz.prog 126 [.slice a1 n1 c1].toArray w (As fun rv w'=>rv=.string (bs (Fo n))∧Ext w w'):=by
 refine goT Tryz.func126 ?_
 obtain ⟨rfl,aX,h1⟩:=h1.tp
 refine .s<|.g<|.r 1<|.d<|.s<|.s<|.g<|.r 1<|.cl (FV n h1.ta (w:=w) (F:=all)) ?_
 rintro br bt ⟨rfl,af⟩
 replace h1:=(se [] af).g1 h1
 have C:=af
 cases aY:(BS n)
 ·exact .r 1<|.d<|.ct<|.s<|.g<|.r 1<|.d<|.rt Tryz.func126 Tryz.results126 (.string (bs [])) ⟨(congrArg (fun s=>Value.string (bs s)) (by first | rw [M4 ‹_›] | (rw [L7 ‹_› AB,H8 ‹_›]))),C⟩
 refine .r 1<|.d<|.cf<|.sk<|.s<|.g<|.ns 0 9 [] fun aa ag ah ar aC aD=>?_
 have aE:=C.cn ah
 replace ⟨h1,C⟩:=(sn [] ar ah).g2 h1 C
 have aF:Own (α:=Txt) ag aa 9 (nin (ge w.heap.size) [aa]) 0 0 []:=Own.Ag aC
 refine .r 1<|.d<|.s<|.s<|.g<|.r 3<|.d<|.b 0<|T.loop (X:=(List Txt) × Nat × Nat × Nat × Nat) (([]:List Txt),aa,0,0,0) (fun (out,r_out,n_out,c_out,k)=>[(3,vS r_out n_out c_out),(10,.slice a1 n.length c1),(11,vI (n.length:Int)),(12,vI (k:Int))]) (fun (out,r_out,n_out,c_out,k) ai=>Chg (ins [aa]) ag ai∧Own ai r_out 9 (nin (ge w.heap.size) [r_out]) n_out c_out out∧OrB r_out aa ag.heap.size∧(k≤n.length)∧(out.length≤k)∧(out++(n.drop k).map tx1=n.map tx1)) (fun (out,r_out,n_out,c_out,k)=>n.length - k) AA ⟨AA,AA,AA,AA,trivial⟩ ⟨Chg.refl _ _,aF,BJ,(by first | omega | rfl | simp),(by first | omega | rfl | simp),(by first | omega | rfl | simp)⟩ ?_
 rintro ⟨out,r_out,n_out,c_out,k⟩ bu ai ⟨E,J,ac,aZ,ba,bc⟩ aj
 have bd:=Ar ac aE C.size
 have aG:Cov (ins [aa]) ag aa:=⟨.inl AD⟩
 have bg:=Ar ac aG (Nat.le_refl _)
 have au:Mv [aa] [r_out] ag ai:=Mv.inl E (all_cons AD all_nil) (all_cons (BV ac AD) all_nil)
 replace ⟨h1,C⟩:=(sp au E).g2 h1 C
 have bh:=J.len; have bi:=J.max
 refine .s<|.g<|.bp ((k:Int)< (n.length:Int)) (fun aH=>?_) (fun aH=>?_)
 ·refine .d<|.s<|.ct<|.sk<|.s<|.b 1<|.s<|.g ?_
  have aI:k< n.length:=AB
  refine .ix k 2 h1 aI ?_
  obtain ⟨O,ak⟩:∃ y,n[k]? = some y:=⟨_,AP AB⟩
  have bj:=AX ak; have aV:=AQ ak
  obtain ⟨_,rfl,aJ⟩:=h1.elem k O ak
  refine .lg 0 aJ<|.np 120 [.string (bs []),.string (bs [])] fun aq bv ab av aK aL=>?_
  have bk:=AS ab J.lt
  have bm:=C.cn ab
  have bn:=E.cn ab
  replace ⟨J,C,E⟩:=(sn [r_out] av ab).g3 J C E
  refine .sc [vT O.key,vT O.val] aK fun bw aw al aM=>?_
  replace ⟨J,C,E⟩:=(so [aq,r_out] aw).g3 J C E
  refine .d<|.g<|.r 2<|.lb al<|RG.cat (t:=9) (s:=O.key) (u:=[61]) AA (by have q1:=p0.2 _ ‹_›; simp only [List.length_append,List.length_cons,List.length_nil]; omega)<|.r 1<|.lb al<|RG.cat (t:=9) (s:=(O.key++[61])) (u:=O.val) AA (by have q1:=p0.2 _ ‹_›; simp only [List.length_append,List.length_cons,List.length_nil]; omega)<|.ns 1 9 [.string (bs ((O.key++[61])++O.val))] fun aN bA ae ax aO aP=>?_
  have ay:=AS ae J.lt
  have aQ:=AS ae al.lt
  have aR:=Ad ae C.size
  replace ⟨J,C,E⟩:=(se [aq,r_out] ax).g3 J C E
  have am:nin (ge w.heap.size) [aq,r_out] aN∧aN≠r_out:=BG aR (all_cons aQ (all_cons ay all_nil)) ay
  refine RG.Ap (T:=162) (ty:=162) (y:=(⟨((O.key++[61])++O.val)⟩:Txt)) J aO AA AA rfl am (by have:=p0.1; omega) fun aB aW aS W ao az=>?_
  have aT:=Bo ao ac E.size
  replace ⟨C,E⟩:=(s1 az).g2 C E
  replace W:=W.rn r_out
  have bo:=W.len; have bq:=W.max
  refine .r 1<|.d<|.ib 1<|.g<|.it ((k:Int)+1)<|.r 1<|.d ?_
  have aU:Mv [aq,aB] [aB] aS aS:=Mv.less (all_cons AE all_nil)
  replace W:=(sp aU (Chg.refl nil _)).g1 W
  exact aj ((out++[(⟨((O.key++[61])++O.val)⟩:Txt)]),aB,n_out+1,aW,k+1) _ _ ⟨AA,AA,AA,AA,trivial⟩ ⟨E,W,aT,AB,(by first | omega | (simp; omega)),(by exact RN ‹_› ‹_›)⟩ (by first | omega | (simp only []; omega))
 refine .d<|.s<|.cf<|.x 0 rfl<|.s<|.g<|.r 1<|.cl (KU out [44] (J.rep) (Uc ‹_› AB p0) (by have:=p0.1; omega) (w:=ai) (F:=all)) ?_
 rintro bB bC ⟨rfl,aA⟩
 replace C:=(se [] aA).g1 C
 exact .r 1<|.d<|.rt Tryz.func126 Tryz.results126 (.string (bs (Lib.join (out.map Txt.s) [44]))) ⟨(congrArg (fun s=>Value.string (bs s)) (by first | rw [M4 ‹_›] | (rw [L7 ‹_› AB,H8 ‹_›]))),C⟩
theorem GH (s:Sto) (f:List Cnd) (from_:Int) (to_:Int) {w:World} {F:Nat→Prop} {a1:Option Addr} {n1 c1:Nat} (h1:RepS w F a1 n1 c1 s.idx.names) {a2:Option Addr} {n2 c2:Nat} (h2:RepS w F a2 n2 c2 s.idx.AV) {a3:Option Addr} {n3 c3:Nat} (h3:RepS w F a3 n3 c3 s.parts) {a4:Option Addr} {n4 c4:Nat} (h4:RepS w F a4 n4 c4 s.mem) {a5:Option Addr} {n5 c5:Nat} (h5:RepS w F a5 n5 c5 f) (p0:SD s):Calls Tryz.prog 84 [.agg #[.slice a1 n1 c1,.slice a2 n2 c2,.slice a3 n3 c3,.slice a4 n4 c4],.slice a5 n5 c5,.int .i64 from_,.int .i64 to_].toArray w (As fun rv w'=>VL (ge w.heap.size) w' (DQ s f from_ to_:List Hit) rv∧Ext w w'):=by
 refine goT Tryz.func84 ?_
 obtain ⟨rfl,bN,h1⟩:=h1.tp
 obtain ⟨rfl,bO,h2⟩:=h2.tp
 obtain ⟨rfl,bP,h3⟩:=h3.tp
 obtain ⟨rfl,bQ,h4⟩:=h4.tp
 obtain ⟨rfl,bR,h5⟩:=h5.tp
 refine .s<|.g<|.np 34 [.slice a1 s.idx.names.length c1,.slice a2 s.idx.AV.length c2,.slice a3 s.parts.length c3,.slice a4 s.mem.length c4] fun W cm aG au E bd=>?_
 replace ⟨h1,h2,h3,h4,h5⟩:=(sn [] au aG).g5 h1 h2 h3 h4 h5
 have C:=au
 refine .r 1<|.d<|.s<|.g<|.ns 0 151 [] fun aa bg ai aH bh bi=>?_
 have bj:=AS ai E.lt
 have aI:=Ad ai C.size
 have bk:=C.cn ai
 replace ⟨h1,h2,h3,h4,h5,E,C⟩:=(sn [W] aH ai).g7 h1 h2 h3 h4 h5 E C
 have ae:Own (α:=Hit) bg aa 151 (nin (ge w.heap.size) [aa,W]) 0 0 []:=Own.Ag bh
 refine .r 1<|.d<|.s<|.s<|.g<|.ln E<|.cl (Gc s h1.ta h2.ta h3.ta h4.ta p0 (w:=bg) (F:=all)) ?_
 rintro co aS ⟨rfl,aJ⟩
 replace ⟨h1,h2,h3,h4,h5,E,ae,C⟩:=(se [aa,W] aJ).g8 h1 h2 h3 h4 h5 E ae C
 cases bS:(Ak s)
 ·refine .r 1<|.d<|.ct<|.s<|.g<|.r 2<|.d ?_
  have bC:=ae.sl aI
  replace ⟨h1,h2,h3,h4,h5⟩:=(sd aS [aa,W] aa).g5 h1 h2 h3 h4 h5
  exact .rt Tryz.func84 Tryz.results84 (vS aa 0 0) ⟨(bC.vl (by first | rw [RL (.inl ‹_›)] | exact (Ou p0 ‹_› ‹_› AB).symm) (fun _ _ h=>h.1)),C⟩
 refine .r 1<|.d<|.cf<|.sk<|.s<|.s<|.g<|.r 1<|.ln E<|.r 1<|.cl (I0 s.idx f h1.ta h2.ta h5.ta p0.ix p0.nd (w:=aS) (F:=all)) ?_
 rintro cp aD ⟨⟨bD,bE,rfl,al⟩,aK⟩
 have aL:=al2 ae.lt E.lt
 have bm:Gb w.heap.size aS.heap.size:=C.size
 replace ⟨h1,h2,h3,h4,E,ae,C⟩:=(se [aa,W] aK).g7 h1 h2 h3 h4 E ae C
 have al:=al.fr aL bm
 have bT:=al.max
 refine .r 2<|.d<|.b 0<|T.loop (X:=(List Hit) × Nat × Nat × Nat × Nat) (([]:List Hit),aa,0,0,0) (fun (out,r_out,n_out,c_out,k)=>[(2,vI from_),(3,vI to_),(4,.pointer (some ⟨W,0,none⟩)),(9,vS r_out n_out c_out),(21,.slice bD ((BW (CD f) 0 s.idx.names).length) bE),(22,vI (((BW (CD f) 0 s.idx.names).length):Int)),(23,vI (k:Int))]) (fun (out,r_out,n_out,c_out,k) aq=>Chg (ins [aa]) aD aq∧Own aq r_out 151 (nin (ge w.heap.size) [r_out,W]) n_out c_out out∧OrB r_out aa aD.heap.size∧(k≤(BW (CD f) 0 s.idx.names).length)∧(out.length≤k)∧(out++((BW (CD f) 0 s.idx.names).drop k).flatMap (Ep s from_ to_)=Pg (CD f) s from_ to_)) (fun (out,r_out,n_out,c_out,k)=>(BW (CD f) 0 s.idx.names).length - k) AA ⟨AA,AA,AA,AA,AA,AA,AA,trivial⟩ ⟨Chg.refl _ _,ae,BJ,(by first | omega | rfl | simp),(by first | omega | rfl | simp),(by first | omega | rfl | simp)⟩ ?_
 rintro ⟨out,r_out,n_out,c_out,k⟩ cq aq ⟨O,J,af,bU,bV,bW⟩ aj
 have bX:=Aw af bj E.lt
 have bn:=Bv af aI C.size
 have bY:=Ar af bk C.size
 have bo:Cov (ins [aa]) aD aa:=⟨.inl AD⟩
 have bZ:=Ar af bo (Nat.le_refl _)
 have aM:Mv [aa,W] [r_out,W] aD aq:=Mv.inl O (all_cons AD all_nil) (all_cons (BV af AD) (all_cons (.inl AE) all_nil))
 replace ⟨h1,h2,h3,h4,E,al,C⟩:=(sp aM O).g7 h1 h2 h3 h4 E al C
 have b0:=J.len; have b6:=J.max
 refine .s<|.g<|.bp ((k:Int)< (((BW (CD f) 0 s.idx.names).length):Int)) (fun bq=>?_) (fun bq=>?_)
 ·refine .d<|.s<|.ct<|.sk<|.s<|.b 1<|.s<|.g ?_
  have aN:k< (BW (CD f) 0 s.idx.names).length:=(by first | omega | (have q1:=Cj (by assumption:_∈BW _ 0 s.idx.names); omega))
  refine RG.idx k (len:=(BW (CD f) 0 s.idx.names).length) (i:=(k:Int)) (sz:=1) AA (by first | omega | (have q1:=Cj (by assumption:_∈BW _ 0 s.idx.names); omega)) aN (al.addr (Nat.zero_lt_of_lt aN)) ?_
  obtain ⟨ab,av⟩:∃ y,(BW (CD f) 0 s.idx.names)[k]? = some y:=⟨_,AP (by first | omega | (have q1:=Cj (by assumption:_∈BW _ 0 s.idx.names); omega))⟩
  have b7:=AX av; have bB:=AQ av
  obtain ⟨_,rfl,br⟩:=al.elem k ab av
  refine .lh 0 br<|.r 1<|.d<|.s<|.g<|.ln E<|.r 1<|.cl (D1 s ab h1.ta h2.ta h3.ta h4.ta (StoK.of p0 ‹_›).part (StoK.of p0 ‹_›).row (by have:=p0.np; omega) (by have:=p0.nm2; omega) (w:=aq) (F:=all)) ?_
  rintro cr bt ⟨⟨cu,cv,rfl,aF⟩,aO⟩
  have aP:=al2 J.lt E.lt
  have bu:Gb w.heap.size aq.heap.size:=C.size
  replace ⟨h1,E,J,C,O⟩:=(se [r_out,W] aO).g5 h1 E J C O
  have aF:=aF.fr aP bu
  have b8:=aF.max
  refine .r 2<|.cl (Je (rowsOf s ab) from_ to_ aF.ta (Nat.le_trans (RJ p0 ‹_› _).len AB) (w:=bt) (F:=all)) ?_
  rintro cw bF ⟨⟨bG,bH,rfl,ac⟩,aQ⟩
  have aw:=al2 J.lt E.lt
  have aT:Gb w.heap.size bt.heap.size:=C.size
  replace ⟨h1,E,J,C,O⟩:=(se [r_out,W] aQ).g5 h1 E J C O
  have ac:=ac.fr aw aT
  have bI:=ac.max
  refine .r 1<|.d<|.s<|.g<|.r 2<|.bp ((((F1 (rowsOf s ab) from_ to_).length):Int) > 0) (fun aU=>?_) (fun aU=>.d<|.cf<|.sk<|.ib 1<|.g<|RG.int ((k:Int)+1) AA (by first | omega | (have q1:=Cj (by assumption:_∈BW _ 0 s.idx.names); omega))<|.r 1<|.d<|aj (out,r_out,n_out,c_out,k+1) _ _ ⟨AA,AA,AA,AA,AA,AA,AA,trivial⟩ ⟨O,J,af,AB,(by first | omega | (simp; omega)),(by first | exact M5 p0 ‹_› ‹_› ‹_› ‹_› ‹_› | exact M6 p0 ‹_› ‹_› ‹_› ‹_›)⟩ (by first | omega | (simp only []; omega)))
  refine .d<|.ct<|.g<|.r 3<|.lb E<|.r 1<|RG.int (ab - 1) AA (by first | omega | (have q1:=Cj (by assumption:_∈BW _ 0 s.idx.names); omega)) ?_
  have ax:(ab - 1).toNat< s.idx.names.length:=(by first | omega | (have q1:=Cj (by assumption:_∈BW _ 0 s.idx.names); omega))
  refine RG.idx ((ab - 1).toNat) (len:=s.idx.names.length) (i:=ab - 1) (sz:=1) AA (by first | omega | (have q1:=Cj (by assumption:_∈BW _ 0 s.idx.names); omega)) ax (h1.addr (Nat.zero_lt_of_lt ax)) ?_
  obtain ⟨ak,am⟩:∃ y,s.idx.names[(ab - 1).toNat]? = some y:=⟨_,AP (by first | omega | (have q1:=Cj (by assumption:_∈BW _ 0 s.idx.names); omega))⟩
  have bJ:=AX am; have bv:=AQ am
  obtain ⟨_,⟨b9,cd,ce,rfl,ay⟩,aV⟩:=h1.elem ((ab - 1).toNat) ak am
  have aW:=ay.len
  subst aW
  have bK:=ay.max
  refine .lh 0 aV<|.cl (Jg ak ay.ta (p0.nm.sz _ ‹_›) (w:=bF) (F:=all)) ?_
  rintro cg ci ⟨rfl,az⟩
  replace ⟨E,J,ac,C,O⟩:=(se [r_out,W] az).g5 E J ac C O
  refine .r 2<|.ns 1 151 [.string (bs (Fo ak)),.slice bG ((F1 (rowsOf s ab) from_ to_).length) bH] fun aR cj ah aA aX aY=>?_
  have aZ:=AS ah E.lt
  have aB:=AS ah J.lt
  have ba:=Ad ah C.size
  replace ⟨J,ac,C,O⟩:=(se [r_out,W] aA).g4 J ac C O
  have ar:nin (ge w.heap.size) [r_out,W] aR∧aR≠r_out:=BG ba (all_cons aB (all_cons aZ all_nil)) aB
  refine RG.Ap (T:=109) (ty:=109) (y:=(⟨Fo ak,F1 (rowsOf s ab) from_ to_⟩:Hit)) J aX AA AA ⟨_,_,_,rfl,ac.oi⟩ ar (by have q1:=Pj (CD f) s.idx.names 0; have q2:=p0.nm.len; omega) fun bw bz ck ag ao aC=>?_
  have bc:=Bo ao af O.size
  replace ⟨C,O⟩:=(s1 aC).g2 C O
  replace ag:=ag.rn r_out
  have bL:=ag.len; have bM:=ag.max
  exact .r 1<|.d<|.ib 1<|.g<|RG.int ((k:Int)+1) AA (by first | omega | (have q1:=Cj (by assumption:_∈BW _ 0 s.idx.names); omega))<|.r 1<|.d<|aj ((out++[(⟨Fo ak,F1 (rowsOf s ab) from_ to_⟩:Hit)]),bw,n_out+1,bz,k+1) _ _ ⟨AA,AA,AA,AA,AA,AA,AA,trivial⟩ ⟨O,ag,bc,AB,(by first | omega | (simp; omega)),(by first | exact M5 p0 ‹_› ‹_› ‹_› ‹_› ‹_› | exact M6 p0 ‹_› ‹_› ‹_› ‹_›)⟩ (by first | omega | (simp only []; omega))
 refine .d<|.s<|.cf<|.x 0 rfl<|.s<|.g<|.r 2<|.d ?_
 have bA:=J.sl bn
 exact .rt Tryz.func84 Tryz.results84 (vS r_out n_out c_out) ⟨(bA.vl (by first | rw [RL (.inl ‹_›)] | exact (Ou p0 ‹_› ‹_› AB).symm) (fun _ _ h=>h.1)),C⟩
theorem HG (a:Sto) (b:Sto) {w:World} {F:Nat→Prop} {a1:Option Addr} {n1 c1:Nat} (h1:RepS w F a1 n1 c1 a.idx.names) {a2:Option Addr} {n2 c2:Nat} (h2:RepS w F a2 n2 c2 a.idx.AV) {a3:Option Addr} {n3 c3:Nat} (h3:RepS w F a3 n3 c3 a.parts) {a4:Option Addr} {n4 c4:Nat} (h4:RepS w F a4 n4 c4 a.mem) {a5:Option Addr} {n5 c5:Nat} (h5:RepS w F a5 n5 c5 b.idx.names) {a6:Option Addr} {n6 c6:Nat} (h6:RepS w F a6 n6 c6 b.idx.AV) {a7:Option Addr} {n7 c7:Nat} (h7:RepS w F a7 n7 c7 b.parts) {a8:Option Addr} {n8 c8:Nat} (h8:RepS w F a8 n8 c8 b.mem) (p0:SD a) (p1:SD b):Calls Tryz.prog 41 [.agg #[.slice a1 n1 c1,.slice a2 n2 c2,.slice a3 n3 c3,.slice a4 n4 c4],.agg #[.slice a5 n5 c5,.slice a6 n6 c6,.slice a7 n7 c7,.slice a8 n8 c8]].toArray w (As fun rv w'=>rv=.bool ((DQ a [] 0 99==DQ b [] 0 99))∧Ext w w'):=by
 refine goT Tryz.func41 ?_
 obtain ⟨rfl,aA,h1⟩:=h1.tp
 obtain ⟨rfl,aB,h2⟩:=h2.tp
 obtain ⟨rfl,aC,h3⟩:=h3.tp
 obtain ⟨rfl,aD,h4⟩:=h4.tp
 obtain ⟨rfl,aE,h5⟩:=h5.tp
 obtain ⟨rfl,aF,h6⟩:=h6.tp
 obtain ⟨rfl,aG,h7⟩:=h7.tp
 obtain ⟨rfl,aH,h8⟩:=h8.tp
 refine .s<|.g<|.np 34 [.slice a1 a.idx.names.length c1,.slice a2 a.idx.AV.length c2,.slice a3 a.parts.length c3,.slice a4 a.mem.length c4] fun aa aK ag ab E au=>?_
 replace ⟨h1,h2,h3,h4,h5,h6,h7,h8⟩:=(sn [] ab ag).g8 h1 h2 h3 h4 h5 h6 h7 h8
 have C:=ab
 refine .np 34 [.slice a5 b.idx.names.length c5,.slice a6 b.idx.AV.length c6,.slice a7 b.parts.length c7,.slice a8 b.mem.length c8] fun ac aL ah ai J av=>?_
 replace ⟨h1,h2,h3,h4,h5,h6,h7,h8,E,C⟩:=(sn [aa] ai ah).g10 h1 h2 h3 h4 h5 h6 h7 h8 E C
 refine .r 1<|.d<|.s<|.gd nil 3 fun aM aj=>?_
 replace ⟨h1,h2,h3,h4,h5,h6,h7,h8,E,J,C⟩:=(se [ac,aa] aj).g11 h1 h2 h3 h4 h5 h6 h7 h8 E J C
 refine .ln 0 E id<|.ln 2 J id<|.go 1<|.cl (fun ar O=>GH a ([]:List Cnd) 0 99 (h1.ta.ext O) (h2.ta.ext O) (h3.ta.ext O) (h4.ta.ext O) ((RepS.Ag _ all none 0 (by decide)).ext O) (by first | exact p0 | exact p1) (w:=ar) (F:=all)) ?_
 intro ar O
 replace ⟨h5,h6,h7,h8,E,J,C⟩:=(se [ac,aa] O).g7 h5 h6 h7 h8 E J C
 rintro aN aO ⟨⟨aP,aQ,rfl,W⟩,ae⟩
 have ak:=al2 J.lt E.lt
 have aw:Gb w.heap.size ar.heap.size:=C.size
 have hkeep_:=ae
 replace ⟨h5,h6,h7,h8,E,J,C⟩:=(se [ac,aa] ae).g7 h5 h6 h7 h8 E J C
 refine ⟨Ext.chg hkeep_,?_⟩
 have W:=W.fr ak aw
 have aI:=W.max
 refine .d fun ax al=>?_
 replace ⟨h5,h6,h7,h8,E,J,W,C⟩:=(se [ac,aa] al).g8 h5 h6 h7 h8 E J W C
 refine .cl (GH b ([]:List Cnd) 0 99 h5.ta h6.ta h7.ta h8.ta (RepS.Ag _ all none 0 (by decide)) (by first | exact p0 | exact p1) (w:=ax) (F:=all)) ?_
 rintro aR az ⟨⟨aS,aT,rfl,af⟩,am⟩
 have ao:=al2 J.lt E.lt
 have ay:Gb w.heap.size ax.heap.size:=C.size
 replace ⟨W,C⟩:=(se [ac,aa] am).g2 W C
 have af:=af.fr ao ay
 have aJ:=af.max
 refine .cl (Kv (DQ a ([]:List Cnd) 0 99) (DQ b ([]:List Cnd) 0 99) W.ta af.ta (w:=az) (F:=all)) ?_
 rintro aU aV ⟨rfl,aq⟩
 replace C:=(se [] aq).g1 C
 exact .r 1<|.d<|.rt Tryz.func41 Tryz.results41 (.bool ((DQ a ([]:List Cnd) 0 99)==(DQ b ([]:List Cnd) 0 99))) ⟨(congrArg Value.bool (by rfl)),C⟩
end Go.Proofs.YtganlmloonielaaGreat
namespace Go.Proofs.YtganlmloonielaaGreat
theorem Db {d:Dsk} {x:Stp} {st:List Stp} {c:Int} (h:1≤c):toD d (x::st) c=toD (doD d x) st (c - 1):=by
 unfold toD
 rw [show c.toNat=(c - 1).toNat+1 by omega]
 rfl
theorem MA {d:Dsk} {c:Int}:toD d [] c=d:=by
 unfold toD
 simp
theorem SB {s:Sto} (h:s.idx=idxOf s.idx.names) {ps:List Prt} {m:List Smp}:(⟨idxOf s.idx.names,ps,m⟩:Sto)=⟨s.idx,ps,m⟩:=by rw [← h]
theorem OE {s:Sto} (h:SD s) (hk:Ak s=true) (h1:s.mem≠[]) (h2:s.parts.length< 6):Au (BK s.mem)=true:=by
 have h5:=KS h hk h1 h2
 unfold Ak at h5
 simp only [AR,decide_eq_true_eq,List.all_eq_true] at h5
 exact Fl (h5.1.1.2 (BK s.mem) (by unfold DB; simp))
theorem FlD.to {d:Dsk} {s:Sto} (q:FlD d s) (c:Int):DskV (toD d (BZ d s) c)∧Ai (toD d (BZ d s) c)=if c< 2 then Ai d else DB s:=by
 have hpl:s.parts.length< 6:=by rw [q.p,List.length_map]; exact q.l
 have e:=FF (d:=d) (s:=s) (by have:=q.m; rw [← List.length_pos_iff] at this; omega) (by have:=q.l; omega) (by have:=q.n; omega) (by have:=q.f; omega)
 rw [e]
 by_cases h0:c≤0
 ·rw [JO h0,if_pos AB]
  exact ⟨q.v,rfl⟩
 ·have hp:=OE q.sd q.k q.m hpl
  obtain ⟨v1,o1⟩:=q.v.add hp q.n q.f
  rw [Db AB,F8 rfl]
  by_cases h1:c≤1
  ·rw [JO AB,if_pos AB]
   exact ⟨v1,o1⟩
  ·rw [Db AB,HE rfl,MA,if_neg AB]
   have hnew:BD ⟨d.files++[⟨d.next,BK s.mem⟩],d.list++[d.next],s.idx.names,d.next+1⟩ d.next=BK s.mem:=(Ec (d:=⟨d.files++[⟨d.next,BK s.mem⟩],d.list++[d.next],s.idx.names,d.next+1⟩) v1.asc (f:=⟨d.next,BK s.mem⟩) (by simp)).1
   have hold:∀ n∈d.list,BD ⟨d.files++[⟨d.next,BK s.mem⟩],d.list++[d.next],s.idx.names,d.next+1⟩ n=BD d n:=fun n hn=>by
    obtain ⟨f,hf,rfl⟩:=q.v.at_ n hn
    rw [(Ec q.v.asc hf).1,(Ec (d:=⟨d.files++[⟨d.next,BK s.mem⟩],d.list++[d.next],s.idx.names,d.next+1⟩) v1.asc (f:=f) (List.mem_append.2 (.inl hf))).1]
   have eo:Ai ⟨d.files++[⟨d.next,BK s.mem⟩],d.list++[d.next],s.idx.names,d.next+1⟩=DB s:=by
    unfold Ai DB
    rw [SB q.sd.idx]
    simp only [List.map_append,List.map_cons,List.map_nil]
    rw [hnew,List.map_congr_left hold,q.p]
   refine ⟨⟨v1.next,v1.nf,by have:=q.l; simp; omega,v1.file,v1.asc,fun n hn=>?_,?_,q.nb,by rw [eo]; exact KS q.sd q.k q.m hpl⟩,eo⟩
   ·rcases List.mem_append.1 hn with hn | hn
    ·exact v1.at_ n hn
    ·simp at hn
     exact ⟨⟨d.next,BK s.mem⟩,by simp,hn.symm⟩
   ·rw [List.nodup_append]
    refine ⟨q.v.nd,by simp,fun a ha b hb=>?_⟩
    simp at hb
    subst hb
    have:=q.v.lt a ha
    omega
section
variable {d:Dsk} {a:Nat} {x y:Int}
theorem MgD.to (q:MgD d a x y) (c:Int):DskV (toD d (Ba d a) c)∧Ai (toD d (Ba d a) c)=if c< 2 then Ai d else D6 (Ai d) a:=by
 rw [q.e]
 by_cases h0:c≤0
 ·rw [JO h0,if_pos AB]
  exact ⟨q.v,rfl⟩
 ·obtain ⟨v1,o1⟩:=q.v.add q.part q.n q.f
  rw [Db AB,F8 rfl]
  by_cases h1:c≤1
  ·rw [JO AB,if_pos AB]
   exact ⟨v1,o1⟩
  ·obtain ⟨v2,o2⟩:=q.v2
   have e2:doD (⟨d.files++[⟨d.next,BT (BD d x) (BD d y)⟩],d.list,d.names,d.next+1⟩:Dsk) ⟨2,0,⟨[],[]⟩,d.list.take a++[d.next]++d.list.drop (a+2),d.names⟩=mgD d a x y:=HE rfl
   rw [Db AB,e2,if_neg AB]
   by_cases h2:c≤2
   ·rw [JO AB]
    exact ⟨v2,o2⟩
   ·obtain ⟨v3,o3⟩:=v2.gone x
    rw [Db AB,FG rfl]
    by_cases h3:c≤3
    ·rw [JO AB]
     exact ⟨v3,o3.trans o2⟩
    ·obtain ⟨v4,o4⟩:=v3.gone y
     rw [Db AB,FG rfl,MA]
     exact ⟨v4,(o4.trans o3).trans o2⟩
end
end Go.Proofs.YtganlmloonielaaGreat
