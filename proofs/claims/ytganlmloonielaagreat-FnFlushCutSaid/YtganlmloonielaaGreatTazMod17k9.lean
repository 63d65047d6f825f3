/- Rows put in place: plain laws. -/
import Derived.Test.YtganlmloonielaaGreatTazMemk18
import Derived.Test.YtganlmloonielaaGreatTazOpsk11
import Derived.Test.YtganlmloonielaaGreatTazMod8k19
import Derived.Test.YtganlmloonielaaGreatTazMod10k23
import Derived.Test.YtganlmloonielaaGreatTazMod16
set_option linter.unusedVariables false
set_option linter.unusedSimpArgs false
namespace Go.Proofs.YtganlmloonielaaGreat
theorem Qw {α:Type} {l:List α} {i:Nat} {k:List α} {q:α} (h:k++l.drop i=l) (hd:l.drop i=q::l.drop (i+1)):(k++[q])++l.drop (i+1)=l:=by
 rw [hd] at h
 simpa using h
end Go.Proofs.YtganlmloonielaaGreat
namespace Go.Proofs.YtganlmloonielaaGreat
set_option maxRecDepth 100000
set_option maxHeartbeats 4000000
theorem D0 (list:List Prt) {w:World} {F:Nat→Prop} {a1:Option Addr} {n1 c1:Nat} (h1:RepS w F a1 n1 c1 list) (p0:list.length≤1000) (p1:∀ p∈list,Cw p):Calls Tryz.prog 107 [.slice a1 n1 c1].toArray w (As fun rv w'=>VO 42 w.heap.size w' (list:List Prt) rv∧Ext w w'):=by
 refine goT Tryz.func107 ?_
 obtain ⟨rfl,bB,h1⟩:=h1.tp
 refine .s<|.g<|.r 1<|.d<|.s<|.g<|.ns 0 42 [] fun W ao ah aq aL aM=>?_
 have aN:=Ad ah (Nat.le_refl _)
 have aO:Cov nil w W:=Bc ah (Nat.le_refl _)
 replace h1:=(sn [] aq ah).g1 h1
 have C:=aq
 have aP:Own (α:=Prt) ao W 42 (nin (ge w.heap.size) [W]) 0 0 []:=Own.Ag aL
 refine .r 1<|.d<|.s<|.s<|.g<|.r 3<|.d<|.b 0<|T.loop (X:=(List Prt) × Nat × Nat × Nat × Nat) (([]:List Prt),W,0,0,0) (fun (out,r_out,n_out,c_out,k)=>[(3,vS r_out n_out c_out),(7,.slice a1 list.length c1),(8,vI (list.length:Int)),(9,vI (k:Int))]) (fun (out,r_out,n_out,c_out,k) az=>Chg (ins [W]) ao az∧Own az r_out 42 (nin (ge w.heap.size) [r_out]) n_out c_out out∧OrB r_out W ao.heap.size∧(k≤list.length)∧(out.length≤k)∧(out++list.drop k=list)) (fun (out,r_out,n_out,c_out,k)=>list.length - k) AA ⟨AA,AA,AA,AA,trivial⟩ ⟨Chg.refl _ _,aP,BJ,AB,(by simp),(by rfl)⟩ ?_
 rintro ⟨out,r_out,n_out,c_out,k⟩ bP az ⟨E,J,aa,bC,bD,bE⟩ ar
 have aQ:=Bv aa aN C.size
 have bF:=Ar aa aO C.size
 have aR:Cov (ins [W]) ao W:=⟨.inl AD⟩
 have bG:=Ar aa aR (Nat.le_refl _)
 have aA:Mv [W] [r_out] ao az:=Mv.inl E (all_cons AD all_nil) (all_cons (BV aa AD) all_nil)
 replace ⟨h1,C⟩:=(sp aA E).g2 h1 C
 have bH:=J.len; have bI:=J.max
 refine .s<|.g<|.bp ((k:Int)< (list.length:Int)) (fun aS=>?_) (fun aS=>.d<|.s<|.cf<|.x 0 rfl<|.s<|.g<|.r 2<|.d<|.rt Tryz.func107 Tryz.results107 (vS r_out n_out c_out) ⟨(VO.of J (by exact Qv ‹_› AB) aQ),C⟩)
 refine .d<|.s<|.ct<|.sk<|.s<|.b 1<|.s<|.g ?_
 have aT:k< list.length:=AB
 refine .ix k 2 h1 aT ?_
 obtain ⟨ab,au⟩:∃ y,list[k]? = some y:=⟨_,AP AB⟩
 have bJ:=AX au; have bm:=AQ au
 obtain ⟨_,⟨bn,bQ,bo,bq,bR,br,rfl,af,ag⟩,aU⟩:=h1.elem k ab au
 have aV:=af.len
 subst aV
 have bK:=af.max
 have aW:=ag.len
 subst aW
 have bL:=ag.max
 refine .lg 0 aU<|.np 42 [.slice none 0 0,.slice none 0 0] fun av bS ac aB aX aY=>?_
 have bM:=AS ac J.lt
 have bN:=C.cn ac
 have bO:=E.cn ac
 replace ⟨J,af,ag,C,E⟩:=(sn [r_out] aB ac).g5 J af ag C E
 refine .sc [.slice bn ab.ids.length bo,.slice bq ab.blocks.length br] aX fun aZ aC ae ba=>?_
 replace ⟨J,af,ag,C,E⟩:=(so [av,r_out] aC).g5 J af ag C E
 refine .d<|.g<|.r 1<|.ln ae<|.cl (DP ab af.ta ag.ta (p1 _ ‹_›) (w:=aZ) (F:=all)) ?_
 rintro bT bU ⟨⟨_,rfl,⟨bt,bV,bu,bv,bW,bw,rfl,ak,al⟩⟩,aD⟩
 have aw:=al2 ae.lt J.lt
 have aE:Gb w.heap.size aZ.heap.size:=C.size
 replace ⟨J,ae,C,E⟩:=(se [av,r_out] aD).g4 J ae C E
 have ak:=ak.fr aw aE
 have al:=al.fr aw aE
 have bc:=ak.len
 subst bc
 have bd:=al.len
 subst bd
 refine .ns 1 42 [.slice bt ab.ids.length bu,.slice bv ab.blocks.length bw] fun bg bX ai aF bh bi=>?_
 have aG:=AS ai J.lt
 have bj:=AS ai ae.lt
 have aI:=Ad ai C.size
 replace ⟨J,ak,al,C,E⟩:=(se [av,r_out] aF).g5 J ak al C E
 have am:nin (ge w.heap.size) [av,r_out] bg∧bg≠r_out:=BG aI (all_cons bj (all_cons aG all_nil)) aG
 refine RG.Ap (T:=31) (ty:=31) (y:=ab) J bh AA AA ⟨_,_,_,_,_,_,rfl,ak.oi,al.oi⟩ am AB fun ax bk aH O aj ay=>?_
 have aJ:=Bo aj aa E.size
 replace ⟨C,E⟩:=(s1 ay).g2 C E
 replace O:=O.rn r_out
 have bz:=O.len; have bA:=O.max
 refine .r 1<|.d<|.ib 1<|.g<|.it ((k:Int)+1)<|.r 1<|.d ?_
 have aK:Mv [av,ax] [ax] aH aH:=Mv.less (all_cons AE all_nil)
 replace O:=(sp aK (Chg.refl nil _)).g1 O
 exact ar ((out++[ab]),ax,n_out+1,bk,k+1) _ _ ⟨AA,AA,AA,AA,trivial⟩ ⟨E,O,aJ,AB,(by simp; omega),(by exact Qw ‹_› ‹_›)⟩ (by (simp only []; omega))
end Go.Proofs.YtganlmloonielaaGreat
