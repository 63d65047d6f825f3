/- A struct behind a pointer that the call changes; one element, or some, taken out of a row of files in place: rules. No conditions. -/
import Derived.Test.YtganlmloonielaaGreatTazMod43k23
import Derived.Test.YtganlmloonielaaGreatTazMod54k17
set_option linter.unusedVariables false
set_option linter.unusedSimpArgs false
namespace Go.Proofs.YtganlmloonielaaGreat
theorem Ru {P:Program} {T ty t:TypeId} {sz:Nat} {w:World} {r o c m:Nat} {cs:List Value} (hT:TJ P T t sz=true) (hB:Box w r t cs) (hm:0< m) (hfit:o+m * sz≤cs.length) :
 ∃ vs w',(Builtin.clear_ #[T] ty #[.slice (some ⟨r,o,none⟩) m c]).run P w=.ok (.tuple #[]) w'∧vs.length=m * sz∧Box w' r t (BM cs o vs)∧Chg (one r) w w':=by
 unfold TJ at hT
 simp only [AR] at hT
 obtain ⟨h1,h2⟩:=hT
 split at h1
 ·rename_i e he
  have:=Nat.eq_of_beq_eq_true h1
  subst this
  split at h2
  ·rename_i inf hinf
   split at h2
   ·rename_i z hz
    simp only [AR,List.all_eq_true] at h2
    have hsz:=Nat.eq_of_beq_eq_true h2.1
    have hl:(Builtin.zeroCells z.cells m).toList.length=m * sz:=by rw [Array.length_toList,size_zeroCells,hsz]
    have ho:∀ v∈(Builtin.zeroCells z.cells m).toList,EH v=true:=fun v hv=>by
     unfold Builtin.zeroCells at hv
     simp only [Array.toList_map,List.mem_map,Array.toList_range,List.mem_range] at hv
     obtain ⟨k,hk,rfl⟩:=hv
     have hk2:k % z.cells.size< z.cells.size:=Nat.mod_lt _ (Nat.pos_of_ne_zero (fun e=>by rw [e,Nat.mul_zero] at hk; omega))
     refine h2.2 _ ?_
     rw [getElem!_pos z.cells _ hk2]
     exact Array.getElem_mem_toList hk2
    obtain ⟨w',g1,g2,g3,_⟩:=hB.Li (P:=P) (Builtin.zeroCells z.cells m).toList (o:=o) (i:=0) AB ho
    refine ⟨_,w',?_,hl,g2,g3⟩
    have hv:(zeroValue e).run P w=.ok z w:=by simp [zeroValue,typeInfo,hinf,hz,go_sem]
    unfold Builtin.clear_
    simp only [List.getElem?_toArray,List.getElem?_cons_zero]
    rw [AW (run_underlying he w)]
    obtain ⟨m',rfl⟩:∃ k,m=k+1:=⟨m - 1,by omega⟩
    simp only []
    rw [AW hv,AW g1]
    rfl
   ·cases h2
  ·cases h2
 ·cases h1
theorem Own.U0 {α:Type} [Rep α] {w w':World} {r:Nat} {t:TypeId} {F:Nat→Prop} {n c i:Nat} {xs:List α} {cs cs':List Value} (h:Own w r t F n c xs) (hx:Chg (one r) w w') (hB:Box w r t cs) (hB':Box w' r t cs') (hl:cs'.length=c * Rep.sz α) (hi:i≤n)
 (hp:∀ p,p< i * Rep.sz α→cs'[p]? = cs[p]?):Own w' r t F i c (xs.take i):=by
 have hn:=h.len
 have hle:=h.le
 have hcap:=h.cap
 unfold Box at hB hB'
 refine ⟨by rw [List.length_take]; omega,by omega,hcap,⟨cs'.toArray,hB',by simpa using hl⟩,fun k x hk=>?_⟩
 have hfr:∀ b,b< w.heap.size→F b∧b≠r→(F b∧b≠r)∧w'.heap[b]? = w.heap[b]? := fun b hb hF=>⟨hF,hx.block b hb (fun e=>hF.2 e)⟩
 rw [List.getElem?_take] at hk
 split at hk
 ·rename_i hki
  obtain ⟨c1,g1,g2⟩:=h.elem k x hk
  refine ⟨c1,Rep.frame g1 hfr,fun u v hv=>?_⟩
  have h3:=g2 u v hv
  have hu:u< Rep.sz α:=by have:=(List.getElem?_eq_some_iff.1 hv).1; rw [Rep.len g1] at this; exact this
  have hm:k * Rep.sz α+Rep.sz α≤i * Rep.sz α:=by rw [← Nat.succ_mul]; exact Nat.mul_le_mul_right _ hki
  rw [add_lit] at h3 ⊢
  simp only [World.cell?,hB] at h3
  simp only [World.cell?,hB']
  have:=hp (k * Rep.sz α+u) AB
  simpa [this] using h3
 ·cases hk
theorem P2 {cs v:List Value} {i p:Nat} (hp:p< i) (hi:i≤cs.length):(BM cs i v)[p]? = cs[p]? := by
 unfold BM
 rw [List.append_assoc,List.getElem?_append_left (by rw [List.length_take]; omega),List.getElem?_take,if_pos hp]
end Go.Proofs.YtganlmloonielaaGreat
namespace Go.Proofs.YtganlmloonielaaGreat
def BN (d:Dsk):Dsk:=if Af d then BH d else TV
theorem O6 {d:Dsk} (h:Af d=false):(⟨[],[],[],0⟩:Dsk)=BN d:=by unfold BN; rw [if_neg (by simp [h])]; rfl
theorem Er {d:Dsk} (h:Af d=true):BN d=BH d:=by unfold BN; rw [if_pos h]
end Go.Proofs.YtganlmloonielaaGreat
namespace Go.Proofs.YtganlmloonielaaGreat
def Da (l:List Int):Nat→List Fil→Int
 | _,[]=>-1
 | i,f::fs=>if l.contains f.num then Da l (i+1) fs else i
theorem VC {l:List Int} {s:List Fil} {k:Nat} {f:Fil} (h:Da l k (s.drop k)=Da l 0 s) (hd:s.drop k=f::s.drop (k+1)) (hc:(!(l.contains f.num))=false):Da l (k+1) (s.drop (k+1))=Da l 0 s:=by
 rw [← h,hd]
 show _=if l.contains f.num then Da l (k+1) (s.drop (k+1)) else (k:Int)
 rw [if_pos (by simpa using hc)]
theorem R3 {l:List Int} {s:List Fil} {k:Nat} {f:Fil} (h:Da l k (s.drop k)=Da l 0 s) (hd:s.drop k=f::s.drop (k+1)) (hc:(!(l.contains f.num))=true):(k:Int)=Da l 0 s:=by
 rw [← h,hd]
 show _=if l.contains f.num then Da l (k+1) (s.drop (k+1)) else (k:Int)
 rw [if_neg (by simpa using hc)]
theorem R4 {l:List Int} {s:List Fil} {k:Nat} (h:Da l k (s.drop k)=Da l 0 s) (hk:s.length≤k):(-1:Int)=Da l 0 s:=by
 rw [AY hk] at h
 exact h
theorem G0 (l:List Int):∀ (s:List Fil) (i:Nat),(Da l i s = -1∧s.filter (fun f=>l.contains f.num)=s)∨∃ k:Nat,Da l i s=(i+k:Nat)∧k< s.length∧s.take k=(s.take (k+1)).filter (fun f=>l.contains f.num):=by
 intro s
 induction s with
 | nil=>intro i; exact .inl ⟨rfl,rfl⟩
 | cons f fs ih =>
   intro i
   unfold Da
   by_cases hc:l.contains f.num=true
   ·rw [if_pos hc]
    rcases ih (i+1) with ⟨h1,h2⟩ | ⟨k,h1,h2,h3⟩
    ·left
     refine ⟨h1,?_⟩
     rw [List.filter_cons,if_pos hc,h2]
    ·right
     refine ⟨k+1,by rw [h1]; omega,by simp; omega,?_⟩
     rw [List.take_succ_cons,List.take_succ_cons,List.filter_cons,if_pos hc,← h3]
   ·rw [if_neg hc]
    right
    refine ⟨0,by simp,by simp,?_⟩
    simp only [List.take_zero,Nat.zero_add,List.take_succ_cons]
    rw [List.filter_cons,if_neg hc]
    rfl
theorem O7 {l:List Int} {s:List Fil} (h:¬ Da l 0 s = -1):0≤Da l 0 s:=by
 rcases G0 l s 0 with ⟨h1,_⟩ | ⟨k,h1,_⟩
 ·exact absurd h1 h
 ·omega
theorem O8 (l:List Int) (s:List Fil):Da l 0 s< s.length∨s.length=0∧Da l 0 s = -1:=by
 rcases G0 l s 0 with ⟨h1,_⟩ | ⟨k,h1,h2,_⟩
 ·by_cases e:s.length=0
  ·exact .inr ⟨e,h1⟩
  ·exact .inl AB
 ·exact .inl AB
theorem P3 {l:List Int} {s:List Fil} (h:¬ Da l 0 s = -1):s.take (Da l 0 s).toNat=(s.take (Da l 0 s+1).toNat).filter (fun f=>l.contains f.num):=by
 rcases G0 l s 0 with ⟨h1,_⟩ | ⟨k,h1,h2,h3⟩
 ·exact absurd h1 h
 ·rw [h1,show (((0+k:Nat):Int)).toNat=k by omega,show (((0+k:Nat):Int)+1).toNat=k+1 by omega]
  exact h3
theorem Ta {l:List Int} {s:List Fil} (h:Da l 0 s = -1):s=s.filter (fun f=>l.contains f.num):=by
 rcases G0 l s 0 with ⟨_,h1⟩ | ⟨k,h1,h2,h3⟩
 ·exact h1.symm
 ·omega
theorem JN {α:Type} {a b:List α} {j:Nat} {x:α} (h:a.drop j=b.drop j) (hx:a[j]? = some x):b[j]? = some x:=by
 have h1:(a.drop j)[0]? = (b.drop j)[0]? := by rw [h]
 rw [List.getElem?_drop,List.getElem?_drop,Nat.add_zero] at h1
 rw [← h1]; exact hx
theorem LY {α:Type} {b:List α} {j:Int} {x:α} (hj:0≤j) (hx:b[j.toNat]? = some x):b.take (j+1).toNat=b.take j.toNat++[x]:=by
 rw [show (j+1).toNat=j.toNat+1 by omega,List.take_add_one,hx]
 rfl
theorem R5 {l:List Int} {xs xs0:List Fil} {i j:Int} {v:Fil} (h:xs.take i.toNat=(xs0.take j.toNat).filter (fun f=>l.contains f.num)) (h2:xs.drop j.toNat=xs0.drop j.toNat) (hv:xs[j.toNat]? = some v) (hi:0≤i) (hij:i< j) (hl:j< xs.length) (hc:(!(l.contains v.num))=false):(xs.set i.toNat v).take (i+1).toNat=(xs0.take (j+1).toNat).filter (fun f=>l.contains f.num):=by
 have h0:=JN h2 hv
 rw [LY AB h0,List.filter_append,← h,List.filter_cons,if_pos (by simpa using hc),show (i+1).toNat=i.toNat+1 by omega,List.take_add_one,List.take_set_of_le (Nat.le_refl _),List.getElem?_set_self AB]
 rfl
theorem R6 {l:List Int} {xs xs0:List Fil} {i j:Int} {v:Fil} (h:xs.take i.toNat=(xs0.take j.toNat).filter (fun f=>l.contains f.num)) (h2:xs.drop j.toNat=xs0.drop j.toNat) (hv:xs[j.toNat]? = some v) (hj:0≤j) (hc:(!(l.contains v.num))=true):xs.take i.toNat=(xs0.take (j+1).toNat).filter (fun f=>l.contains f.num):=by
 have h0:=JN h2 hv
 rw [LY hj h0,List.filter_append,← h,List.filter_cons,if_neg (by simpa using hc)]
 simp
theorem P4 {xs xs0:List Fil} {i j:Int} {v:Fil} (h2:xs.drop j.toNat=xs0.drop j.toNat) (hi:0≤i) (hij:i< j) (_hj:0≤j):(xs.set i.toNat v).drop (j+1).toNat=xs0.drop (j+1).toNat:=by
 rw [List.drop_set_of_lt AB,show (j+1).toNat=j.toNat+1 by omega,← List.drop_drop,← List.drop_drop,h2]
theorem R7 {xs xs0:List Fil} {j:Int} (h2:xs.drop j.toNat=xs0.drop j.toNat) (hj:0≤j):xs.drop (j+1).toNat=xs0.drop (j+1).toNat:=by
 rw [show (j+1).toNat=j.toNat+1 by omega,← List.drop_drop,← List.drop_drop,h2]
theorem Tb {l:List Int} {xs xs0:List Fil} {i j:Int} (h:xs.take i.toNat=(xs0.take j.toNat).filter (fun f=>l.contains f.num)) (h2:xs.drop j.toNat=xs0.drop j.toNat) (hj:(xs.length:Int)≤j) (hij:0≤j):xs.take i.toNat=xs0.filter (fun f=>l.contains f.num):=by
 rw [h]
 congr 1
 have h3:xs0.drop j.toNat=[]:=by rw [← h2]; exact List.drop_of_length_le AB
 rw [List.drop_eq_nil_iff] at h3
 exact List.take_of_length_le h3
end Go.Proofs.YtganlmloonielaaGreat
namespace Go.Proofs.YtganlmloonielaaGreat
set_option maxRecDepth 100000
set_option maxHeartbeats 4000000
theorem FP (f:Fil) (d:Dsk) {w:World} {F:Nat→Prop} {a1:Option Addr} {n1 c1:Nat} (h1:RepS w F a1 n1 c1 f.part.ids) {a2:Option Addr} {n2 c2:Nat} (h2:RepS w F a2 n2 c2 f.part.blocks) {bq_d:Nat} {a3:Option Addr} {c3:Nat} {a4:Option Addr} {c4:Nat} {a5:Option Addr} {c5:Nat} (hb_d:Box w bq_d 27 [.slice a3 d.files.length c3,.slice a4 d.list.length c4,.slice a5 d.names.length c5,.int .i64 d.next]) (h3:RepS w F a3 d.files.length c3 d.files) (h4:RepS w F a4 d.list.length c4 d.list) (h5:RepS w F a5 d.names.length c5 d.names)  : Calls Tryz.prog 79 [.agg #[.int .i64 f.num,.slice a1 n1 c1,.slice a2 n2 c2],.pointer (some ⟨bq_d,0,none⟩)].toArray w (As fun rv w'=>rv=.bool ((!(d.list.contains f.num)))∧Ext w w'):=by
 refine goT Tryz.func79 ?_
 obtain ⟨rfl,ac,h1⟩:=h1.tp
 obtain ⟨rfl,ae,h2⟩:=h2.tp
 replace h3:=h3.top (s:=w.heap.size)
 have af:=h3.max
 replace h4:=h4.top (s:=w.heap.size)
 have ag:=h4.max
 replace h5:=h5.top (s:=w.heap.size)
 have ah:=h5.max
 refine .s<|.g<|.np 66 [vI f.num,.slice a1 f.part.ids.length c1,.slice a2 f.part.blocks.length c2] fun ai ab J C W aa=>?_
 replace ⟨h4,hb_d⟩:=(sn [] C J).g2 h4 hb_d
 have E:=C
 refine .r 1<|.d<|.s<|.g<|.r 1<|.lb hb_d<|.r 1<|.lb W<|.cl (Cd d.list f.num h4.ta (w:=ab) (F:=all)) ?_
 rintro aj ak ⟨rfl,O⟩
 replace ⟨hb_d,E⟩:=(se [] O).g2 hb_d E
 exact .r 2<|.d<|.rt Tryz.func79 Tryz.results79 (.bool (!(d.list.contains f.num))) ⟨(congrArg Value.bool (by rfl)),E⟩
theorem JC (s:List Fil) (d:Dsk) {w:World} {F:Nat→Prop} {a1:Option Addr} {n1 c1:Nat} (h1:RepS w F a1 n1 c1 s) {bq_d:Nat} {a2:Option Addr} {c2:Nat} {a3:Option Addr} {c3:Nat} {a4:Option Addr} {c4:Nat} (hb_d:Box w bq_d 27 [.slice a2 d.files.length c2,.slice a3 d.list.length c3,.slice a4 d.names.length c4,.int .i64 d.next]) (h2:RepS w F a2 d.files.length c2 d.files) (h3:RepS w F a3 d.list.length c3 d.list) (h4:RepS w F a4 d.names.length c4 d.names)  : Calls Tryz.prog 119 [.slice a1 n1 c1,.func (.func 79) #[] #[.pointer (some ⟨bq_d,0,none⟩)]].toArray w (As fun rv w'=>rv=.int .i64 (Da d.list 0 s)∧Ext w w'):=by
 refine goT Tryz.func119 ?_
 obtain ⟨rfl,am,h1⟩:=h1.tp
 replace h2:=h2.top (s:=w.heap.size)
 have ao:=h2.max
 replace h3:=h3.top (s:=w.heap.size)
 have aq:=h3.max
 replace h4:=h4.top (s:=w.heap.size)
 have ar:=h4.max
 refine .s<|.g<|.r 1<|.d<|.s<|.s<|.g<|.r 3<|.d<|.b 0<|T.loop (X:=Nat) 0 (fun k=>[(0,.slice a1 s.length c1),(1,.func (.func 79) #[] #[.pointer (some ⟨bq_d,0,none⟩)]),(7,vI (s.length:Int)),(8,vI (k:Int))]) (fun k J=>Chg (ins []) w J∧(k≤s.length)∧(Da d.list k (s.drop k)=Da d.list 0 s)) (fun k=>s.length - k) AA ⟨AA,AA,AA,AA,trivial⟩ ⟨Chg.refl _ _,(by simp),(by simp)⟩ ?_
 rintro k aA J ⟨C,au,av⟩ O
 have aa:Mv [] [] w J:=Mv.inl C all_nil all_nil
 replace ⟨h1,h2,h3,h4,hb_d⟩:=(sp aa C).g5 h1 h2 h3 h4 hb_d
 have E:Chg nil w J:=Chg.CY (Chg.refl nil w) C all_nil
 refine .s<|.g<|.bp ((k:Int)< (s.length:Int)) (fun ag=>?_) (fun ag=>.d<|.s<|.cf<|.x 0 rfl<|.s<|.g<|.r 1<|.d<|.rt Tryz.func119 Tryz.results119 (vI (-1)) ⟨(congrArg (Value.int .i64) (by exact R4 ‹_› AB)),E⟩)
 refine .d<|.s<|.ct<|.sk<|.s<|.b 1<|.s<|.g<|.r 2<|.d<|.s<|.g<|.r 3 ?_
 have ah:k< s.length:=AB
 refine .ix k 3 h1 ah ?_
 obtain ⟨ac,W⟩:∃ y,s[k]? = some y:=⟨_,AP AB⟩
 have aw:=AX W; have al:=AQ W
 obtain ⟨_,⟨aB,aC,aD,aE,aF,aG,rfl,ae,af⟩,ai⟩:=h1.elem k ac W
 have aj:=ae.len
 subst aj
 have ax:=ae.max
 have ak:=af.len
 subst ak
 have ay:=af.max
 refine .lg 0 ai<|.cl (FP ac d ae.ta af.ta hb_d h2.ta h3.ta h4.ta (w:=J) (F:=all)) ?_
 rintro aH aI ⟨rfl,ab⟩
 replace ⟨hb_d,E,C⟩:=(se [] ab).g3 hb_d E C
 cases az:(!(d.list.contains ac.num))
 ·exact .d<|.cf<|.sk<|.ib 1<|.g<|.it ((k:Int)+1)<|.r 1<|.d<|O (k+1) _ _ ⟨AA,AA,AA,AA,trivial⟩ ⟨C,AB,(by exact VC ‹_› ‹_› ‹_›)⟩ AB
 exact .d<|.ct<|.s<|.g<|.r 2<|.d<|.rt Tryz.func119 Tryz.results119 (vI (k:Int)) ⟨(congrArg (Value.int .i64) (by exact R3 ‹_› ‹_› ‹_›)),E⟩
theorem G3 (d:Dsk) {w:World} {F:Nat→Prop} {r n c bq c1 c2 c3:Nat} {a1 a2 a3:Option Addr} {xs0:List Fil} (ho:Own w r 66 F n c xs0) (hb:Box w bq 27 [.slice a1 d.files.length c1,.slice a2 d.list.length c2,.slice a3 d.names.length c3,.int .i64 d.next]) (h1:RepS w (nin all [r]) a1 d.files.length c1 d.files) (h2:RepS w (nin all [r]) a2 d.list.length c2 d.list) (h3:RepS w (nin all [r]) a3 d.names.length c3 d.names) (hne:Nb r bq) (hn:n≤1000000):Calls Tryz.prog 78 [.slice (some ⟨r,0,none⟩) n c,.func (.func 79) #[] #[.pointer (some ⟨bq,0,none⟩)]].toArray w (As fun rv w'=>(∃ m,rv=.slice (some ⟨r,0,none⟩) m c∧Own w' r 66 F m c (xs0.filter (fun f=>d.list.contains f.num)))∧Chg (one r) w w'):=by
 refine goT Tryz.func78 ?_
 replace ho:=ho.Ol; have hnl:=ho.len; have hnm:=ho.max; have hle:=ho.le; have bJ:=h1.max; have bK:=h2.max; have bL:=h3.max
 refine .s<|.g<|.r 1<|.d<|.s<|.g<|.r 2<|.cl (JC xs0 d (ho.rep) hb h1.ta h2.ta h3.ta (w:=w) (F:=all)) ?_
 rintro bM aq ⟨rfl,ai⟩
 replace ⟨ho,h1,h2,h3,hb⟩:=(se [r] ai).g5 ho h1 h2 h3 hb
 have E:Chg (one r) w aq:=Chg.Cc (Chg.refl (one r) w) ai
 refine .r 1<|.d<|.s<|.s<|.g<|.r 1<|.eq (Da d.list 0 xs0) (-1) (fun aK=>.d<|.ct<|.s<|.g<|.r 2<|.d<|.rt Tryz.func78 Tryz.results78 (vS r n c) ⟨⟨_,rfl,(Own.Mr ho).eqx (Ta ‹_›)⟩,E⟩) fun aK=>.d<|.cf<|.sk<|.s<|.s<|.g<|.r 1<|RG.int (Da d.list 0 xs0+1) AA (by (have q1:=O7 (by assumption:¬ Da d.list 0 xs0 = -1); have q2:=O8 d.list xs0; omega))<|.r 1<|.d<|.b 0<|T.loop (X:=Int × Int × (List Fil)) (Da d.list 0 xs0,Da d.list 0 xs0+1,xs0) (fun (i,j,xs)=>[(0,vS r n c),(1,.func (.func 79) #[] #[.pointer (some ⟨bq,0,none⟩)]),(5,vI i),(6,vI j)]) (fun (i,j,xs) aj=>Chg (ins [r]) aq aj∧Own aj r 66 (nin F [r]) n c xs∧(0≤i)∧(i< j)∧(j≤n)∧(xs.take i.toNat=(xs0.take j.toNat).filter (fun f=>d.list.contains f.num))∧(xs.drop j.toNat=xs0.drop j.toNat)) (fun (i,j,xs)=>n - j.toNat) AA ⟨AA,AA,AA,AA,trivial⟩ ⟨Chg.refl _ _,ho,(by exact O7 ‹_›),AB,(by have:=O8 d.list xs0; omega),(by exact P3 ‹_›),(by rfl)⟩ ?_
 rintro ⟨i,j,xs⟩ bN aj ⟨J,C,bk,bm,bn,bo,br⟩ ac
 have bt:Cov (ins [r]) aq r:=⟨.inl AD⟩
 have aw:Mv [r] [r] aq aj:=Mv.inl J (all_cons AD all_nil) (all_cons (.inl AD) all_nil)
 replace ⟨h1,h2,h3,hb,E⟩:=(sp aw J).g5 h1 h2 h3 hb E
 have bu:=C.len; have bv:=C.max
 refine .s<|.s<|.g<|.r 3<|.bp (j< (n:Int)) (fun aL=>?_) (fun aL=>?_)
 ·refine .d<|.ct<|.sk<|.s<|.b 1<|.s<|.g<|.r 2 ?_
  have aM:(j).toNat< n:=AB
  refine RG.idx (b:=r) (o:=0) ((j).toNat) (len:=n) (i:=j) (sz:=3) AA AB aM rfl ?_
  obtain ⟨O,ak⟩:∃ y,xs[(j).toNat]? = some y:=⟨_,AP AB⟩
  have bw:=AX ak; have ba:=AQ ak
  obtain ⟨_,⟨aB,bO,aC,aD,bP,aE,rfl,W,aa⟩,al⟩:=C.elem ((j).toNat) O ak
  replace W:=W.CJ (fun _ _ h=>h.1)
  replace aa:=aa.CJ (fun _ _ h=>h.1)
  have aN:=W.len
  subst aN
  have bz:=W.max
  have aO:=aa.len
  subst aO
  have bA:=aa.max
  replace al:Has aj ⟨r,0+((j).toNat) * Rep.sz Fil,none⟩ [vI O.num,.slice aB O.part.ids.length aC,.slice aD O.part.blocks.length aE]:=by rw [Nat.zero_add]; exact al
  refine .lg 0 al<|.np 66 [vI 0,.slice none 0 0,.slice none 0 0] fun ar bQ ab ax aP aQ=>?_
  have bB:=AS ab C.lt
  have bC:=AS ab hb.lt
  have bD:=E.cn ab
  have bE:=J.cn ab
  replace ⟨C,h1,h2,h3,hb,W,aa,E,J⟩:=(sn [r] ax ab).g9 C h1 h2 h3 hb W aa E J
  refine .sc [vI O.num,.slice aB O.part.ids.length aC,.slice aD O.part.blocks.length aE] aP fun bh ay ag aR=>?_
  replace ⟨C,h1,h2,h3,hb,W,aa,E,J⟩:=(so [ar,r] ay).g9 C h1 h2 h3 hb W aa E J
  refine .d<|.s<|.g<|.r 1<|.ln ag<|.cl (FP O d W.ta aa.ta hb h1.ta h2.ta h3.ta (w:=bh) (F:=all)) ?_
  rintro bR aF ⟨rfl,az⟩
  replace ⟨C,hb,W,aa,ag,E,J⟩:=(se [ar,r] az).g7 C hb W aa ag E J
  cases bF:(!(d.list.contains O.num))
  ·refine .r 1<|.d<|.ct<|.s<|.g<|.r 2<|.ln ag ?_
   have aS:(i).toNat< n:=AB
   refine RG.idx (b:=r) (o:=0) ((i).toNat) (len:=n) (i:=i) (sz:=3) AA AB aS rfl ?_
   obtain ⟨ae,ah⟩:∃ y,xs[(i).toNat]? = some y:=⟨_,AP AB⟩
   have bG:=AX ah; have bc:=AQ ah
   obtain ⟨_,⟨aT,bS,aU,aV,bT,aW,rfl,au,av⟩,am⟩:=C.elem ((i).toNat) ae ah
   replace au:=au.CJ (fun _ _ h=>h.1)
   replace av:=av.CJ (fun _ _ h=>h.1)
   have aX:=au.len
   subst aX
   have bH:=au.max
   have aY:=av.len
   subst aY
   have bI:=av.max
   replace am:Has aF ⟨r,0+((i).toNat) * Rep.sz Fil,none⟩ [vI ae.num,.slice aT ae.part.ids.length aU,.slice aV ae.part.blocks.length aW]:=by rw [Nat.zero_add]; exact am
   refine RG.Ds (t':=66) (i:=((i).toNat)) (k:=0) (v:=.agg #[vI O.num,.slice aB O.part.ids.length aC,.slice aD O.part.blocks.length aE]) (cs:=[vI ae.num,.slice aT ae.part.ids.length aU,.slice aV ae.part.blocks.length aW]) O C ah am AA AA AA ⟨_,_,_,_,_,_,rfl,W.oi,aa.oi⟩ fun aA af ao aG=>?_
   replace ⟨hb,E,J⟩:=(s1 ao).g3 hb E J
   refine .d<|.g<|.r 1<|RG.int (i+1) AA AB<|.r 1<|.d<|.ib 1<|.g<|.r 1<|RG.int (j+1) AA AB<|.r 1<|.d ?_
   have aH:Mv [ar,r] [r] aA aA:=Mv.less (all_cons AE all_nil)
   replace af:=(sp aH (Chg.refl nil _)).g1 af
   exact ac (i+1,j+1,(xs.set ((i).toNat) O)) _ _ ⟨AA,AA,AA,AA,trivial⟩ ⟨J,af,AB,AB,AB,(by exact R5 ‹_› ‹_› ‹_› AB AB AB ‹_›),(by exact P4 ‹_› AB AB AB)⟩ (by (simp only []; omega))
  refine .r 1<|.d<|.cf<|.sk<|.ib 1<|.g<|.r 1<|RG.int (j+1) AA AB<|.r 1<|.d ?_
  have aI:Mv [ar,r] [r] aF aF:=Mv.less (all_cons AE all_nil)
  replace C:=(sp aI (Chg.refl nil _)).g1 C
  exact ac (i,j+1,xs) _ _ ⟨AA,AA,AA,AA,trivial⟩ ⟨J,C,AB,AB,AB,(by exact R6 ‹_› ‹_› ‹_› AB ‹_›),(by exact R7 ‹_› AB)⟩ (by (simp only []; omega))
 refine .d<|.cf<|.x 0 rfl<|.s<|.g<|.r 2 ?_
 have bU:0≤i∧i< n:=AB
 refine RG.Hy (t:=23) (r:=r) (o:=0) (len:=n) (cap:=c) (lo:=some (vI i)) (hi:=none) (sz:=3) ((i).toNat) n AA AA (.inr ⟨_,_,rfl,by omega⟩) (.inl ⟨rfl,rfl⟩) AB AB AB ?_
 obtain ⟨cs_,hB_,hl_⟩:=Own.Vk C; have hz_:Rep.sz Fil=3:=rfl; rw [hz_] at hl_; have hle_:=C.le
 obtain ⟨vs_,w5,bi,bV,aZ,aJ⟩:=Ru (P:=Tryz.prog) (T:=23) (ty:=0) (t:=66) (sz:=3) (o:=0+((i).toNat) * 3) (m:=n - (i).toNat) (c:=c - (i).toNat) AA hB_ AB AB
 rw [Nat.zero_add] at aZ
 have hsl_:(BM cs_ (((i).toNat) * 3) vs_).length=c * Rep.sz Fil:=by rw [EV AB,hz_]; exact hl_
 have bj:=Own.U0 C aJ hB_ aZ hsl_ (i:=(i).toNat) AB (fun p hp=>P2 (by rw [hz_] at hp; exact hp) AB)
 refine RG.clear (ats:=[23]) (ty:=0) (args:=[.slice (some ⟨r,0+((i).toNat) * 3,none⟩) (n - (i).toNat) (c - (i).toNat)]) AA bi ?_
 replace ⟨hb,E⟩:=(s1 aJ).g2 hb E
 exact .d<|.s<|.g<|.r 2<|RG.Hy (t:=23) (r:=r) (o:=0) (len:=n) (cap:=c) (lo:=none) (hi:=some (vI i)) (sz:=3) 0 ((i).toNat) AA AA (.inl ⟨rfl,rfl⟩) (.inr ⟨_,_,rfl,by omega⟩) AB AB AB<|.r 1<|.d<|.rt Tryz.func78 Tryz.results78 (vS r ((i).toNat) c) ⟨⟨_,rfl,(Own.Mr bj).eqx (Tb ‹_› ‹_› AB AB)⟩,E⟩
theorem Dg (d:Dsk) {w:World} {F:Nat→Prop} {a1:Option Addr} {n1 c1:Nat} (h1:RepS w F a1 n1 c1 d.files) {a2:Option Addr} {n2 c2:Nat} (h2:RepS w F a2 n2 c2 d.list) {a3:Option Addr} {n3 c3:Nat} (h3:RepS w F a3 n3 c3 d.names) (p0:DD d):Calls Tryz.prog 34 [.agg #[.slice a1 n1 c1,.slice a2 n2 c2,.slice a3 n3 c3,.int .i64 d.next]].toArray w (As fun rv w'=>VS (ge w.heap.size) w' (BN d:Dsk) rv∧Ext w w'):=by
 refine goT Tryz.func34 ?_
 obtain ⟨rfl,bP,h1⟩:=h1.tp
 obtain ⟨rfl,bQ,h2⟩:=h2.tp
 obtain ⟨rfl,bR,h3⟩:=h3.tp
 refine .s<|.g<|.np 27 [.slice a1 d.files.length c1,.slice a2 d.list.length c2,.slice a3 d.names.length c3,vI d.next] fun aa ci aE ax E bd=>?_
 replace ⟨h1,h2,h3⟩:=(sn [] ax aE).g3 h1 h2 h3
 have C:=ax
 refine .np 27 [.slice none 0 0,.slice none 0 0,.slice none 0 0,vI 0] fun ab bE au aF J bg=>?_
 have bS:=AS au E.lt
 have bT:=C.cn au
 replace ⟨h1,h2,h3,E,C⟩:=(sn [aa] aF au).g5 h1 h2 h3 E C
 refine .d<|.s<|.s<|.g<|.ln E<|.cl (Bs d h1.ta h2.ta h3.ta p0 (w:=bE) (F:=all)) ?_
 rintro cj bh ⟨rfl,aG⟩
 replace ⟨h1,h2,h3,E,J,C⟩:=(se [ab,aa] aG).g6 h1 h2 h3 E J C
 cases bU:(Af d)
 ·refine .r 1<|.d<|.ct<|.s<|.g<|.r 1<|.sc [.slice none 0 0,.slice none 0 0,.slice none 0 0,vI 0] J fun ck aH bi bj=>?_
  replace ⟨h1,h2,h3,E,C⟩:=(so [ab,aa] aH).g5 h1 h2 h3 E C
  exact .d<|.rb Tryz.func34 Tryz.results34 bi ⟨(VS.of (y:=(⟨([]:List Fil),([]:List Int),([]:List (List Tag)),0⟩:Dsk)) ⟨_,rfl,⟨_,_,_,_,_,_,_,_,_,rfl,(RepS.Ag _ _ none 0 (by decide)),(RepS.Ag _ _ none 0 (by decide)),(RepS.Ag _ _ none 0 (by decide))⟩⟩ (by exact O6 ‹_›)),C⟩
 refine .r 1<|.d<|.cf<|.sk<|.s<|.g<|.ln E<|.cl (EQ d h1.ta h2.ta h3.ta (by exact U2 p0) (by exact U3 p0) (by exact U4 p0) (by exact U5 p0) (by exact U6 p0) (w:=bh) (F:=all)) ?_
 rintro cm aO ⟨⟨ai,bF,bk,bm,co,bn,bo,cp,bq,rfl,ae,al,O,W⟩,aI⟩
 have av:=al2 J.lt E.lt
 have ay:Gb w.heap.size bh.heap.size:=C.size
 have br:=Ab al E.lt
 have bV:=Ab al J.lt
 have bt:=Bd al C.size
 have bW:Cov nil w ai:=BR al C.size
 replace ⟨h1,h2,h3,E,J,C⟩:=(sz [ab,aa] aI al).g6 h1 h2 h3 E J C
 replace ae:Own aO ai 66 (nin (ge w.heap.size) [ai,ab,aa]) _ _ _:=Own.BC (s0:=w.heap.size) (M:=[ab,aa]) ae av ay
 have bX:=ae.max
 have bY:=ae.len
 replace O:RepS aO (nin (ge w.heap.size) [ai,ab,aa]) _ _ _ _:=RepS.BC (s0:=w.heap.size) (M:=[ab,aa]) O av ay
 have bZ:=O.max
 replace W:RepS aO (nin (ge w.heap.size) [ai,ab,aa]) _ _ _ _:=RepS.BC (s0:=w.heap.size) (M:=[ab,aa]) W av ay
 have b0:=W.max
 have bu:=O.len
 subst bu
 have bv:=W.len
 subst bv
 refine .np 27 [.slice none 0 0,.slice none 0 0,.slice none 0 0,vI 0] fun ak cq am aJ bw bz=>?_
 have b6:=AS am E.lt
 have b7:=AS am J.lt
 have b8:=AS am ae.lt
 have b9:=C.cn am
 replace ⟨h1,h2,h3,E,J,ae,O,W,C⟩:=(sn [ai,ab,aa] aJ am).g9 h1 h2 h3 E J ae O W C
 refine .sc [vS ai bF bk,.slice bm d.list.length bn,.slice bo d.names.length bq,vI d.next] bw fun cr aK aw bA=>?_
 replace ⟨h1,h2,h3,E,J,ae,O,W,C⟩:=(so [ak,ai,ab,aa] aK).g9 h1 h2 h3 E J ae O W C
 refine .d<|.s<|.g<|.r 1<|.lb aw<|.r 1 ?_
 have hqd:=ae.len
 refine .cl (G3 d ae E (RepS.BB h1 AE) (RepS.BB h2 AE) (RepS.BB h3 AE) br (by have:=p0.nf; have:=List.length_filter_le (fun f:Fil=>d.list.contains f.num) d.files; omega)) ?_
 rintro cu cv ⟨⟨aP,rfl,aj⟩,aL⟩
 replace ⟨E,J,O,W,aw,C⟩:=(so [ak,ai,ab,aa] aL).g6 E J O W aw C
 have bG:=aj.len; have bH:=aj.max
 refine .r 1<|.ss 0 (vS ai aP bk) aw fun cd az af aQ=>?_
 replace ⟨E,J,aj,O,W,C⟩:=(so [ak,ai,ab,aa] az).g6 E J aj O W C
 refine .d<|.s<|.g<|.ns 0 66 [] fun aq aM ag aA aR aS=>?_
 have aT:=AS ag E.lt
 have aU:=AS ag J.lt
 have bI:=AS ag aj.lt
 have aV:=AS ag af.lt
 have aW:=Ad ag C.size
 have bJ:=C.cn ag
 replace ⟨E,J,aj,O,W,af,C⟩:=(sn [ak,ai,ab,aa] aA ag).g7 E J aj O W af C
 have ar:Own (α:=Fil) aM aq 66 (nin (ge w.heap.size) [aq,ak,ai,ab,aa]) 0 0 []:=Own.Ag aR
 refine .r 1<|.lb af ?_
 have bB:=aj.sl bt
 replace ⟨O,W,ar⟩:=(sd aM [aq,ak,ai,ab,aa] ai).g3 O W ar
 refine RG.Jj (T:=23) (ty:=23) ar bB AA AA (fun b _ h=>FQ AD h) (by have:=p0.nf; have:=List.length_filter_le (fun f:Fil=>d.list.contains f.num) d.files; omega) fun ao aN ce ac ah aB=>?_
 have bK:=Ae ah aT E.lt
 have bL:=Ae ah aU J.lt
 have bM:=Ae ah aV af.lt
 have aX:=Bt ah aW C.size
 replace ⟨J,O,W,af,C⟩:=(sa [aq,ak,ab,aa] aB ah).g5 J O W af C
 replace ac:=ac.rn aq
 have bN:=ac.len; have bO:=ac.max
 refine .r 1<|.ss 0 (vS ao (0+aP) aN) af fun cg aC aY aZ=>?_
 replace ⟨J,O,W,ac,C⟩:=(so [ao,ak,ab,aa] aC).g5 J O W ac C
 refine .d<|.s<|.g<|.ln aY<|.sc [vS ao (0+aP) aN,.slice bm d.list.length bn,.slice bo d.names.length bq,vI d.next] J fun bC aD ba bc=>?_
 replace ⟨O,W,ac,C⟩:=(so [ao,ak,ab,aa] aD).g4 O W ac C
 refine .d ?_
 have bD:=ac.sl aX
 replace ⟨O,W⟩:=(sd bC [ao,ak,ab,aa] ao).g2 O W
 exact .rb Tryz.func34 Tryz.results34 ba ⟨(VS.of (y:=(⟨([]++(d.files.filter (fun f=>d.list.contains f.num))),d.list,d.names,d.next⟩:Dsk)) ⟨_,rfl,⟨_,_,_,_,_,_,_,_,_,rfl,bD.w1,O.w1,W.w1⟩⟩ (by (rw [Er ‹_›]; rfl))),C⟩
end Go.Proofs.YtganlmloonielaaGreat
namespace Go.Proofs.YtganlmloonielaaGreat
section
variable {d:Dsk}
theorem G1 (h:DD d):DD (BN d):=by
 unfold BN
 split
 ·exact h.tidy
 ·exact Rg
end
end Go.Proofs.YtganlmloonielaaGreat
