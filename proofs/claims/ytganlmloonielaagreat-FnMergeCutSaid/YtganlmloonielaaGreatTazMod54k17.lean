/- Packing, steps on drawn disks: rules and plain laws. -/
import Derived.Test.YtganlmloonielaaGreatTazMod40k17
import Derived.Test.YtganlmloonielaaGreatTazMod42
set_option linter.unusedVariables false
set_option linter.unusedSimpArgs false
namespace Go.Proofs.YtganlmloonielaaGreat
theorem N7 {p:Prt} (h:PrtI p) (hk:Au p=true):BT p ⟨[],[]⟩=p:=by
 have hb:∀ id:Int,(partOf p id).length≤24:=fun id=>by
  have:=EN hk id
  unfold BE at this
  simp only [AR,decide_eq_true_eq] at this
  exact this.2
 have e:∀ id:Int,partOf (⟨[],[]⟩:Prt) id=[]:=fun id=>by unfold partOf Bp; rfl
 have hz:∀ id:Int,¬ (1≤id∧id≤6)→∀ q:Prt,Au q=true→partOf q id=[]:=fun id hid q hq=>by
  unfold Au at hq
  simp only [AR,decide_eq_true_eq] at hq
  have key:∀ (is:List Int) (bs:List (List Row)) (o:Option Int),Bl o is bs=true→Bp id is bs=[]:=by
   intro is
   induction is with
   | nil=>intro bs o _; unfold Bp; rfl
   | cons i is ih =>
     intro bs o hg
     cases bs with
     | nil=>unfold Bp; rfl
     | cons b bs =>
       simp only [Bl,AR] at hg
       have h5:=CN hg.1.1.1.1
       unfold Bp
       rw [if_neg (by simp; omega)]
       exact ih bs _ hg.2
  exact key _ _ _ hq.2
 have hm:Au (BT p ⟨[],[]⟩)=true:=by
  unfold BT
  refine My (fun b hb2=>?_) (by rw [Dn]; omega)
  unfold Be at hb2
  obtain ⟨i,_,rfl⟩:=List.mem_map.1 hb2
  rw [e,KQ]
  exact ⟨h.of _,hb _⟩
 refine NA hm hk (fun id=>?_)
 by_cases hid:1≤id∧id≤6
 ·rw [LN _ _ hid.1 hid.2,e,KQ]
 ·rw [hz id hid _ hm,hz id hid _ hk]
theorem DD.NC {d:Dsk} (h:DD d) (hk:Af d=true):Az d=d:=by
 have hf:=(CU hk).2.2.1
 have:d.files.map KA=d.files:=by
  have key:∀ f∈d.files,KA f=f:=fun f hm=>by
   unfold KA
   rw [N7 (h.file f hm) (Kb _ _ _ hf f hm).2.2]
  exact (List.map_congr_left key).trans (List.map_id _)
 unfold Az
 rw [this]
theorem DD.di {d:Dsk} (h:DD d) (hk:Af d=true):DskI d:=by
 obtain ⟨h1,h2,h3,h4⟩:=CU hk
 have hth:∀ n∈d.list,∃ f∈d.files,f.num=n:=fun n hn=>(E3 d n).1 (Cr h4 n hn)
 refine ⟨(EO hk).1,h.nf,h.file,h2,hth,fun n hn=>?_,h1⟩
 obtain ⟨f,hf,rfl⟩:=hth n hn
 have:=Kb _ _ _ h3 f hf
 omega
theorem L8 {d:Dsk} (h:DD d):DD (Az d):=⟨h.g,h.nl,by unfold Az; rw [List.length_map]; exact h.nf,fun f hf=>by
 unfold Az at hf
 obtain ⟨x,hx,rfl⟩:=List.mem_map.1 hf
 exact (h.file x hx).merge PrtI.nil,h.next⟩
end Go.Proofs.YtganlmloonielaaGreat
namespace Go.Proofs.YtganlmloonielaaGreat
theorem Cb {d:Dsk} (h:DD d) (a:Int):StW d (AT d a)∧StW d (((AT d a).take (AT d a).length).drop 1):=by
 rw [List.take_length]
 unfold AT
 split
 ·rename_i hk0
  have hk:=CU hk0
  have hdi:=h.di hk0
  unfold Ba
  split
  ·exact ⟨StW.nil h,StW.nil h⟩
  ·rename_i h1
   simp only [Bool.or_eq_true,not_or,Bool.not_eq_true,Bool.not_eq_false',decide_eq_true_eq] at h1
   obtain ⟨⟨h1,h3⟩,h4⟩:=h1
   have h0:=CN (by simpa using h1)
   have hl:a.toNat+1< d.list.length:=by omega
   have ha:d.list.getD a.toNat 0∈d.list:=by rw [List.getD_eq_getElem?_getD,AP AB]; exact List.getElem_mem _
   have hb:d.list.getD (a.toNat+1) 0∈d.list:=by rw [List.getD_eq_getElem?_getD,AP hl]; exact List.getElem_mem _
   have na:=hdi.num _ ha
   have nb:=hdi.num _ hb
   have hn:=h.next
   generalize d.list.getD a.toNat 0=x at *
   generalize d.list.getD (a.toNat+1) 0=y at *
   have hp:PrtI (BT (BD d x) (BD d y)):=(h.part x).merge (h.part y)
   have hlen:(d.list.take a.toNat++[d.next]++d.list.drop (a.toNat+2)).length≤7:=by
    simp only [List.length_append,List.length_take,List.length_drop,List.length_cons,List.length_nil]; omega
   have hg:∀ z∈[(⟨3,x,⟨[],[]⟩,[],[]⟩:Stp),⟨3,y,⟨[],[]⟩,[],[]⟩],z.kind=3∧JJ z∧z.part=⟨[],[]⟩:=fun z hz=>by
    simp only [List.mem_cons,List.not_mem_nil,or_false] at hz
    rcases hz with rfl | rfl
    ·exact ⟨rfl,IM (by simp) (by simp) (by simp) (by show -9000000≤x∧x≤9000000; omega),rfl⟩
    ·exact ⟨rfl,IM (by simp) (by simp) (by simp) (by show -9000000≤y∧y≤9000000; omega),rfl⟩
   have h2:DD (doD d ⟨1,d.next,BT (BD d x) (BD d y),[],[]⟩):=h.T3 rfl AB (by show 0≤d.next∧d.next≤998; omega) hp
   exact ⟨StW.T4 h AB AB hp (by simp) (IN h2 hlen h.g hg (by simp)),IN h hlen h.g hg (by simp)⟩
 ·exact ⟨StW.nil h,StW.nil h⟩
theorem WN {d:Dsk} {st:List Stp} {c:Int} (hd:DD d) (h:Af d=true) (h1:¬ c< 0) (hw:StW d st) (h2:Af (toD (Az d) st c)=true):Az (toD (Az d) st c)=BP d st c:=by
 rw [hd.NC h] at h2 ⊢
 rw [(OD c hw).NC h2,Rz h h1 h2]
theorem Vt {d:Dsk} {st:List Stp} {c:Int} (hd:DD d) (h:Af d=true) (h2:Af (toD (Az d) st c)=false):(⟨[],[],[],0⟩:Dsk)=BP d st c:=by
 rw [hd.NC h] at h2
 exact LW (.inr (.inr h2))
theorem Gz {d:Dsk} {st:List Stp} {c:Int} (hd:DD d) (h:Af d=true) (hw:StW d st):DD (toD (Az d) st c):=by
 rw [hd.NC h]
 exact OD c hw
end Go.Proofs.YtganlmloonielaaGreat
namespace Go.Proofs.YtganlmloonielaaGreat
set_option maxRecDepth 100000
set_option maxHeartbeats 4000000
theorem CB (d:Dsk) (at_:Int) {w:World} {F:Nat→Prop} {a1:Option Addr} {n1 c1:Nat} (h1:RepS w F a1 n1 c1 d.files) {a2:Option Addr} {n2 c2:Nat} (h2:RepS w F a2 n2 c2 d.list) {a3:Option Addr} {n3 c3:Nat} (h3:RepS w F a3 n3 c3 d.names) (p0:DD d):Calls Tryz.prog 30 [.agg #[.slice a1 n1 c1,.slice a2 n2 c2,.slice a3 n3 c3,.int .i64 d.next],.int .i64 at_].toArray w (As fun rv w'=>VL (ge w.heap.size) w' (AT d at_:List Stp) rv∧Ext w w'):=by
 refine goT Tryz.func30 ?_
 obtain ⟨rfl,ay,h1⟩:=h1.tp
 obtain ⟨rfl,az,h2⟩:=h2.tp
 obtain ⟨rfl,aA,h3⟩:=h3.tp
 refine .s<|.g<|.np 27 [.slice a1 d.files.length c1,.slice a2 d.list.length c2,.slice a3 d.names.length c3,vI d.next] fun aa au ac O E ai=>?_
 replace ⟨h1,h2,h3⟩:=(sn [] O ac).g3 h1 h2 h3
 have C:=O
 refine .r 1<|.d<|.s<|.s<|.g<|.ln E<|.cl (CF d h1.ta h2.ta h3.ta p0 (w:=au) (F:=all)) ?_
 rintro aE aj ⟨rfl,ae⟩
 replace ⟨h1,h2,h3,E,C⟩:=(se [aa] ae).g5 h1 h2 h3 E C
 cases aB:(Af d)
 ·refine .r 1<|.d<|.ct<|.s<|.g<|.ns 0 44 [] fun W ak J af al am=>?_
  have aC:=AS J E.lt
  have ao:=Ad J C.size
  replace ⟨h1,h2,h3,E,C⟩:=(sn [aa] af J).g5 h1 h2 h3 E C
  have aq:Own (α:=Stp) ak W 44 (nin (ge w.heap.size) [W,aa]) 0 0 []:=Own.Ag al
  refine .r 1<|.d ?_
  have av:=aq.sl ao
  replace ⟨h1,h2,h3⟩:=(sd ak [W,aa] W).g3 h1 h2 h3
  exact .rt Tryz.func30 Tryz.results30 (vS W 0 0) ⟨(av.vl (by exact (IL ‹_›).symm) (fun _ _ h=>h.1)),C⟩
 refine .r 1<|.d<|.cf<|.sk<|.s<|.g<|.ln E<|.r 1<|.cl (F9 d at_ h1.ta h2.ta h3.ta (by have:=p0.g.len; omega) (fun n hn=>(p0.g.sz n hn).1) (by have:=p0.nl; omega) (Cr (CU ‹_›).2.2.2) (fun f hf=>(p0.file f hf).sz) (w:=aj) (F:=all)) ?_
 rintro aF aG ⟨⟨aw,ax,rfl,ab⟩,ag⟩
 have ah:=al1 E.lt
 have ar:Gb w.heap.size aj.heap.size:=C.size
 replace C:=(se [] ag).g1 C
 have ab:=ab.fr ah ar
 have aD:=ab.max
 exact .r 1<|.d<|.rt Tryz.func30 Tryz.results30 (.slice aw ((Ba d at_).length) ax) ⟨(ab.vl (by exact (IK ‹_›).symm) (fun _ _ h=>h.1)),C⟩
theorem Cv (d:Dsk) (steps:List Stp) (cut:Int) {w:World} {F:Nat→Prop} {a1:Option Addr} {n1 c1:Nat} (h1:RepS w F a1 n1 c1 d.files) {a2:Option Addr} {n2 c2:Nat} (h2:RepS w F a2 n2 c2 d.list) {a3:Option Addr} {n3 c3:Nat} (h3:RepS w F a3 n3 c3 d.names) {a4:Option Addr} {n4 c4:Nat} (h4:RepS w F a4 n4 c4 steps) (p0:DD d) (p1:Af d=true→StW d steps):Calls Tryz.prog 25 [.agg #[.slice a1 n1 c1,.slice a2 n2 c2,.slice a3 n3 c3,.int .i64 d.next],.slice a4 n4 c4,.int .i64 cut].toArray w (As fun rv w'=>VS (ge w.heap.size) w' (BP d steps cut:Dsk) rv∧Ext w w'):=by
 refine goT Tryz.func25 ?_
 obtain ⟨rfl,cG,h1⟩:=h1.tp
 obtain ⟨rfl,cH,h2⟩:=h2.tp
 obtain ⟨rfl,cI,h3⟩:=h3.tp
 obtain ⟨rfl,cJ,h4⟩:=h4.tp
 refine .s<|.g<|.np 27 [.slice a1 d.files.length c1,.slice a2 d.list.length c2,.slice a3 d.names.length c3,vI d.next] fun O dp ba aL E bD=>?_
 replace ⟨h1,h2,h3,h4⟩:=(sn [] aL ba).g4 h1 h2 h3 h4
 have C:=aL
 refine .np 27 [.slice none 0 0,.slice none 0 0,.slice none 0 0,vI 0] fun W b7 aJ bc J bE=>?_
 have cK:=AS aJ E.lt
 have cL:=C.cn aJ
 replace ⟨h1,h2,h3,h4,E,C⟩:=(sn [O] bc aJ).g6 h1 h2 h3 h4 E C
 refine .d<|.s<|.s<|.g<|.ln E<|.cl (CF d h1.ta h2.ta h3.ta (by exact p0) (w:=b7) (F:=all)) ?_
 rintro dq bk ⟨rfl,bd⟩
 replace ⟨h1,h2,h3,h4,E,J,C⟩:=(se [W,O] bd).g7 h1 h2 h3 h4 E J C
 cases cM:(Af d)
 ·refine .r 5<|.d<|.ct<|.s<|.g<|.r 1<|.sc [.slice none 0 0,.slice none 0 0,.slice none 0 0,vI 0] J fun dr bg bF bG=>?_
  replace ⟨h1,h2,h3,h4,E,C⟩:=(so [W,O] bg).g6 h1 h2 h3 h4 E C
  exact .d<|.rb Tryz.func25 Tryz.results25 bF ⟨(VS.of (y:=(⟨([]:List Fil),([]:List Int),([]:List (List Tag)),0⟩:Dsk)) ⟨_,rfl,⟨_,_,_,_,_,_,_,_,_,rfl,(RepS.Ag _ _ none 0 (by decide)),(RepS.Ag _ _ none 0 (by decide)),(RepS.Ag _ _ none 0 (by decide))⟩⟩ (by exact LW (.inl ‹_›))),C⟩
 refine .r 3<|.bp (cut< 0) (fun bH=>?_) (fun bH=>?_)
 ·refine .r 1<|.d<|.ct<|.s<|.g<|.r 1<|.sc [.slice none 0 0,.slice none 0 0,.slice none 0 0,vI 0] J fun dt bh bI bJ=>?_
  replace ⟨h1,h2,h3,h4,E,C⟩:=(so [W,O] bh).g6 h1 h2 h3 h4 E C
  exact .d<|.rb Tryz.func25 Tryz.results25 bI ⟨(VS.of (y:=(⟨([]:List Fil),([]:List Int),([]:List (List Tag)),0⟩:Dsk)) ⟨_,rfl,⟨_,_,_,_,_,_,_,_,_,rfl,(RepS.Ag _ _ none 0 (by decide)),(RepS.Ag _ _ none 0 (by decide)),(RepS.Ag _ _ none 0 (by decide))⟩⟩ (by exact LW (.inr (.inl ‹_›)))),C⟩
 refine .r 1<|.d<|.cf<|.sk<|.s<|.g<|.ln E<|.cl (DL d h1.ta h2.ta h3.ta (by (have:=p0.g.len; omega)) (by exact (fun n hn=>(p0.g.sz n hn).1)) (by (have:=p0.nl; omega)) (by (have:=p0.nf; omega)) (by exact (fun f hf=>(p0.file f hf).sz)) (w:=bk) (F:=all)) ?_
 rintro du aw ⟨⟨aG,dv,dw,aA,dx,dy,ax,dz,dA,rfl,aB,aC,ao,aD,cN,ak,aE,cO,cP⟩,aM⟩
 have aK:=al2 J.lt E.lt
 have aN:Gb w.heap.size bk.heap.size:=C.size
 have cQ:=Ab aC E.lt
 have cR:=Ab aC J.lt
 have bK:=Bd aC C.size
 have cS:=Ab aD E.lt
 have cT:=Ab aD J.lt
 have bL:=Bd aD C.size
 have cU:=Ab aE E.lt
 have cV:=Ab aE J.lt
 have bM:=Bd aE C.size
 have bi:Mv [W,O] [aG,aA,ax,W,O] bk aw:=Mv.cons (Mv.cons (Mv.cons (Mv.ext aM) aE) aD) aC
 replace ⟨h4,E,J,C⟩:=(sp bi aM).g4 h4 E J C
 replace aB:Own aw aG 66 (nin (ge w.heap.size) [aG,aA,ax,W,O]) _ _ _:=Own.BC (s0:=w.heap.size) (M:=[W,O]) aB aK aN
 have cW:=aB.max
 have cX:=aB.len
 replace ao:Own aw aA 3 (nin (ge w.heap.size) [aG,aA,ax,W,O]) _ _ _:=Own.BC (s0:=w.heap.size) (M:=[W,O]) ao aK aN
 have cY:=ao.max
 have cZ:=ao.len
 replace ak:Own aw ax 77 (nin (ge w.heap.size) [aG,aA,ax,W,O]) _ _ _:=Own.BC (s0:=w.heap.size) (M:=[W,O]) ak aK aN
 have c7:=ak.max
 have c8:=ak.len
 refine .r 2 ?_
 have aO:=aB.sl bK
 replace ⟨h4,ao,ak⟩:=(sd aw [aG,aA,ax,W,O] aG).g3 h4 ao ak
 have aP:=ao.sl bL
 replace ⟨h4,aO,ak⟩:=(sd aw [aA,ax,W,O] aA).g3 h4 aO ak
 have bN:=ak.sl bM
 replace ⟨h4,aO,aP⟩:=(sd aw [ax,W,O] ax).g3 h4 aO aP
 refine .cl (Hr ((Az d)) steps cut (aO.base (fun _ _ h=>.inr h)) (aP.base (fun _ _ h=>.inr h)) (bN.base (fun _ _ h=>.inr h)) h4 (by have:=(L8 p0).nf; omega) (by have:=(p1 ‹_›).len; omega) (by have:=(L8 p0).nl; omega) (p1 ‹_›).sz (w:=aw) (F:=nin (fo F w.heap.size) [W,O])) ?_
 rintro c9 da ⟨⟨_,rfl,⟨bO,db,bP,bQ,de,bR,bS,df,bT,rfl,ab,ac,ae⟩⟩,aQ⟩
 have ay:=al2 J.lt E.lt
 have aH:Gb w.heap.size aw.heap.size:=C.size
 replace ⟨E,J,C⟩:=(se [] aQ).g3 E J C
 replace ab:=RepS.Aa (M:=[W,O]) ab ay aH
 have b8:=ab.max
 replace ac:=RepS.Aa (M:=[W,O]) ac ay aH
 have b9:=ac.max
 replace ae:=RepS.Aa (M:=[W,O]) ae ay aH
 have cd:=ae.max
 have bm:=ab.len
 subst bm
 have bn:=ac.len
 subst bn
 have bo:=ae.len
 subst bo
 refine .np 27 [.slice none 0 0,.slice none 0 0,.slice none 0 0,vI 0] fun ag dg aq aR bq br=>?_
 have ce:=AS aq E.lt
 have cg:=AS aq J.lt
 have ci:=C.cn aq
 replace ⟨E,J,ab,ac,ae,C⟩:=(sn [W,O] aR aq).g6 E J ab ac ae C
 refine .sc [.slice bO (((toD ((Az d)) steps cut).files).length) bP,.slice bQ (((toD ((Az d)) steps cut).list).length) bR,.slice bS (((toD ((Az d)) steps cut).names).length) bT,vI ((toD ((Az d)) steps cut).next)] bq fun bU aS af bt=>?_
 replace ⟨E,J,ab,ac,ae,C⟩:=(so [ag,W,O] aS).g6 E J ab ac ae C
 refine .d<|.s<|.s<|.g<|.ln af<|.cl (CF (toD ((Az d)) steps cut) ab.ta ac.ta ae.ta (by exact Gz p0 ‹_› (p1 ‹_›)) (w:=bU) (F:=all)) ?_
 rintro dh bj ⟨rfl,aT⟩
 replace ⟨E,J,ab,ac,ae,af,C⟩:=(se [ag,W,O] aT).g7 E J ab ac ae af C
 cases cj:(Af (toD ((Az d)) steps cut))
 ·refine .r 1<|.d<|.ct<|.s<|.g<|.r 1<|.sc [.slice none 0 0,.slice none 0 0,.slice none 0 0,vI 0] J fun dj aU bu bv=>?_
  replace ⟨E,ab,ac,ae,af,C⟩:=(so [ag,W,O] aU).g6 E ab ac ae af C
  exact .d<|.rb Tryz.func25 Tryz.results25 bu ⟨(VS.of (y:=(⟨([]:List Fil),([]:List Int),([]:List (List Tag)),0⟩:Dsk)) ⟨_,rfl,⟨_,_,_,_,_,_,_,_,_,rfl,(RepS.Ag _ _ none 0 (by decide)),(RepS.Ag _ _ none 0 (by decide)),(RepS.Ag _ _ none 0 (by decide))⟩⟩ (by exact Vt p0 ‹_› ‹_›)),C⟩
 refine .r 1<|.d<|.cf<|.sk<|.s<|.g<|.ln af<|.cl (DL (toD ((Az d)) steps cut) ab.ta ac.ta ae.ta (by (have:=(Gz (c:=cut) p0 ‹_› (p1 ‹_›)).g.len; omega)) (by exact (fun n hn=>((Gz (c:=cut) p0 ‹_› (p1 ‹_›)).g.sz n hn).1)) (by (have:=(Gz (c:=cut) p0 ‹_› (p1 ‹_›)).nl; omega)) (by (have:=(Gz (c:=cut) p0 ‹_› (p1 ‹_›)).nf; omega)) (by exact (fun f hf=>((Gz (c:=cut) p0 ‹_› (p1 ‹_›)).file f hf).sz)) (w:=bj) (F:=all)) ?_
 rintro dm aV ⟨⟨am,bV,bW,al,bX,bY,ai,bZ,b0,rfl,aj,ar,ah,au,ck,aa,av,cm,co⟩,aW⟩
 have az:=al3 af.lt J.lt E.lt
 have aI:Gb w.heap.size bj.heap.size:=C.size
 have cp:=Ab ar E.lt
 have cq:=Ab ar J.lt
 have cr:=Ab ar af.lt
 have bw:=Bd ar C.size
 have cu:=Ab au E.lt
 have cv:=Ab au J.lt
 have cw:=Ab au af.lt
 have bz:=Bd au C.size
 have cx:=Ab av E.lt
 have cy:=Ab av J.lt
 have cz:=Ab av af.lt
 have bA:=Bd av C.size
 replace ⟨J,C⟩:=(se [] aW).g2 J C
 replace aj:Own aV am 66 (nin (ge w.heap.size) [am,al,ai,ag,W,O]) _ _ _:=Own.BC (s0:=w.heap.size) (M:=[ag,W,O]) aj az aI
 have cA:=aj.max
 have cB:=aj.len
 replace ah:Own aV al 3 (nin (ge w.heap.size) [am,al,ai,ag,W,O]) _ _ _:=Own.BC (s0:=w.heap.size) (M:=[ag,W,O]) ah az aI
 have cC:=ah.max
 have cD:=ah.len
 replace aa:Own aV ai 77 (nin (ge w.heap.size) [am,al,ai,ag,W,O]) _ _ _:=Own.BC (s0:=w.heap.size) (M:=[ag,W,O]) aa az aI
 have cE:=aa.max
 have cF:=aa.len
 refine .sc [vS am bV bW,vS al bX bY,vS ai bZ b0,vI (((Az (toD ((Az d)) steps cut))).next)] J fun aX aY bB bC=>?_
 replace ⟨aj,ah,aa,C⟩:=(so [am,al,ai,ag,W,O] aY).g4 aj ah aa C
 refine .d ?_
 have aF:=aj.sl bw
 replace ⟨ah,aa⟩:=(sd aX [am,al,ai,ag,W,O] am).g2 ah aa
 have aZ:=ah.sl bz
 replace ⟨aF,aa⟩:=(sd aX [al,ai,ag,W,O] al).g2 aF aa
 have b6:=aa.sl bA
 replace ⟨aF,aZ⟩:=(sd aX [ai,ag,W,O] ai).g2 aF aZ
 exact .rb Tryz.func25 Tryz.results25 bB ⟨(VS.of (y:=((Az (toD ((Az d)) steps cut)))) ⟨_,rfl,⟨_,_,_,_,_,_,_,_,_,rfl,aF.w1,aZ.w1,b6.w1⟩⟩ (by exact WN p0 ‹_› ‹_› (p1 ‹_›) ‹_›)),C⟩
end Go.Proofs.YtganlmloonielaaGreat
