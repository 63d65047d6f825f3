/- Drawn disks: what it is to be well; plain laws. -/
import Derived.Test.YtganlmloonielaaGreatTazMod42
set_option linter.unusedVariables false
set_option linter.unusedSimpArgs false
namespace Go.Proofs.YtganlmloonielaaGreat
section
variable {d:Dsk}
theorem O1 (h:Af d=false):Aq d=⟨⟨[],[]⟩,[],[]⟩:=by unfold Aq; rw [if_neg (by simp [h])]
end
end Go.Proofs.YtganlmloonielaaGreat
namespace Go.Proofs.YtganlmloonielaaGreat
set_option maxRecDepth 100000
set_option maxHeartbeats 4000000
theorem Bn (d:Dsk) {w:World} {F:Nat→Prop} {a1:Option Addr} {n1 c1:Nat} (h1:RepS w F a1 n1 c1 d.files) {a2:Option Addr} {n2 c2:Nat} (h2:RepS w F a2 n2 c2 d.list) {a3:Option Addr} {n3 c3:Nat} (h3:RepS w F a3 n3 c3 d.names) (p0:DD d):Calls Tryz.prog 31 [.agg #[.slice a1 n1 c1,.slice a2 n2 c2,.slice a3 n3 c3,.int .i64 d.next]].toArray w (As fun rv w'=>VS (fo F w.heap.size) w' (Aq d:Sto) rv∧Ext w w'):=by
 refine goT Tryz.func31 ?_
 obtain ⟨rfl,aO,h1⟩:=h1.tp
 obtain ⟨rfl,aP,h2⟩:=h2.tp
 obtain ⟨rfl,aQ,h3⟩:=h3.tp
 refine .s<|.g<|.np 27 [.slice a1 d.files.length c1,.slice a2 d.list.length c2,.slice a3 d.names.length c3,vI d.next] fun ai aZ aj ag E au=>?_
 replace ⟨h1,h2,h3⟩:=(sn [] ag aj).g3 h1 h2 h3
 have C:=ag
 refine .np 34 [.slice none 0 0,.slice none 0 0,.slice none 0 0,.slice none 0 0] fun ar aF ae ak J av=>?_
 have aR:=AS ae E.lt
 have aS:=C.cn ae
 replace ⟨h1,h2,h3,E,C⟩:=(sn [ai] ak ae).g5 h1 h2 h3 E C
 refine .d<|.s<|.s<|.g<|.ln E<|.cl (Bs d h1.ta h2.ta h3.ta p0 (w:=aF) (F:=all)) ?_
 rintro ba aw ⟨rfl,al⟩
 replace ⟨h1,h2,h3,E,J,C⟩:=(se [ar,ai] al).g6 h1 h2 h3 E J C
 cases aT:(Af d)
 ·refine .r 1<|.d<|.ct<|.s<|.g<|.r 1<|.sc [.slice none 0 0,.slice none 0 0,.slice none 0 0,.slice none 0 0] J fun bc am ax ay=>?_
  replace ⟨h1,h2,h3,E,C⟩:=(so [ar,ai] am).g5 h1 h2 h3 E C
  exact .d<|.rb Tryz.func31 Tryz.results31 ax ⟨(VS.of (y:=(⟨(⟨([]:List (List Tag)),([]:List Pst)⟩:Idx),([]:List Prt),([]:List Smp)⟩:Sto)) ⟨_,rfl,⟨_,_,_,_,_,_,_,_,_,_,_,_,rfl,(RepS.Ag _ _ none 0 (by decide)),(RepS.Ag _ _ none 0 (by decide)),(RepS.Ag _ _ none 0 (by decide)),(RepS.Ag _ _ none 0 (by decide))⟩⟩ (by exact (O1 ‹_›).symm)),C⟩
 refine .r 1<|.d<|.cf<|.sk<|.s<|.g<|.ln E<|.cl (EP d h1.ta h2.ta h3.ta p0 (Cr (EO ‹_›).2.2) (w:=aw) (F:=all)) ?_
 rintro bd bg ⟨⟨ah,⟨_,rfl,⟨aG,bh,aH,aI,bi,aJ,aK,bj,aL,aM,bk,aN,rfl,O,W,aa,ab⟩⟩,aU⟩,ao⟩
 have ac:=al2 J.lt E.lt
 have af:Gb w.heap.size aw.heap.size:=C.size
 replace ⟨J,C⟩:=(se [] ao).g2 J C
 have O:=O.fr ac af
 replace O:=O.base (G':=fo F w.heap.size) (fun _ _ h=>.inr h)
 have aV:=O.max
 have W:=W.fr ac af
 replace W:=W.base (G':=fo F w.heap.size) (fun _ _ h=>.inr h)
 have aW:=W.max
 have aa:=aa.fr ac af
 replace aa:=aa.base (G':=fo F w.heap.size) (fun _ _ h=>.inr h)
 have aX:=aa.max
 have ab:=ab.fr ac af
 replace ab:=ab.base (G':=fo F w.heap.size) (fun _ _ h=>.inr h)
 have aY:=ab.max
 have az:=O.len
 subst az
 have aA:=W.len
 subst aA
 have aB:=aa.len
 subst aB
 have aC:=ab.len
 subst aC
 refine .sc [.slice aG ah.idx.names.length aH,.slice aI ah.idx.AV.length aJ,.slice aK ah.parts.length aL,.slice aM ah.mem.length aN] J fun bm aq aD aE=>?_
 replace ⟨O,W,aa,ab,C⟩:=(so [ar,ai] aq).g5 O W aa ab C
 exact .d<|.rb Tryz.func31 Tryz.results31 aD ⟨(VS.of (y:=ah) ⟨_,rfl,⟨_,_,_,_,_,_,_,_,_,_,_,_,rfl,O.w1,W.w1,aa.w1,ab.w1⟩⟩ (by exact D8.eq (by assumption:D8 d _) p0 ‹_›)),C⟩
end Go.Proofs.YtganlmloonielaaGreat
