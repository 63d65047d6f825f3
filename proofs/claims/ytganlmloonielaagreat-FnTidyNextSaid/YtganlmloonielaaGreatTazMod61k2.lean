/- Steps done on a disk, tidying, which steps merge: what the program computes; plain laws. -/
import Derived.Test.YtganlmloonielaaGreatTazMod60k8
import Derived.Test.YtganlmloonielaaGreatTazMod61k4
import Derived.Test.YtganlmloonielaaGreatTazW63k16
set_option linter.unusedVariables false
set_option linter.unusedSimpArgs false
namespace Go.Proofs.YtganlmloonielaaGreat
theorem U7 {d:Dsk} (hd:DD d) (h:Af d=true):BH (Az d)=BN d:=by rw [hd.NC h,Er h]
end Go.Proofs.YtganlmloonielaaGreat
namespace Go.Proofs.YtganlmloonielaaGreat
set_option maxRecDepth 100000
set_option maxHeartbeats 4000000
theorem Dh (d:Dsk) {w:World} {F:Nat→Prop} {a1:Option Addr} {n1 c1:Nat} (h1:RepS w F a1 n1 c1 d.files) {a2:Option Addr} {n2 c2:Nat} (h2:RepS w F a2 n2 c2 d.list) {a3:Option Addr} {n3 c3:Nat} (h3:RepS w F a3 n3 c3 d.names) (p0:DD d):Calls Tryz.prog 35 [.agg #[.slice a1 n1 c1,.slice a2 n2 c2,.slice a3 n3 c3,.int .i64 d.next]].toArray w (As fun rv w'=>VS (fo F w.heap.size) w' (BN d:Dsk) rv∧Ext w w'):=by
 refine goT Tryz.func35 ?_
 obtain ⟨rfl,bi,h1⟩:=h1.tp
 obtain ⟨rfl,bj,h2⟩:=h2.tp
 obtain ⟨rfl,bk,h3⟩:=h3.tp
 refine .s<|.g<|.np 27 [.slice a1 d.files.length c1,.slice a2 d.list.length c2,.slice a3 d.names.length c3,vI d.next] fun O bM aA aw E aM=>?_
 replace ⟨h1,h2,h3⟩:=(sn [] aw aA).g3 h1 h2 h3
 have C:=aw
 refine .np 27 [.slice none 0 0,.slice none 0 0,.slice none 0 0,vI 0] fun aa aZ am aB J aN=>?_
 have bm:=AS am E.lt
 have bn:=C.cn am
 replace ⟨h1,h2,h3,E,C⟩:=(sn [O] aB am).g5 h1 h2 h3 E C
 refine .d<|.s<|.s<|.g<|.ln E<|.cl (CF d h1.ta h2.ta h3.ta p0 (w:=aZ) (F:=all)) ?_
 rintro bN aO ⟨rfl,aC⟩
 replace ⟨h1,h2,h3,E,J,C⟩:=(se [aa,O] aC).g6 h1 h2 h3 E J C
 cases bo:(Af d)
 ·refine .r 1<|.d<|.ct<|.s<|.g<|.r 1<|.sc [.slice none 0 0,.slice none 0 0,.slice none 0 0,vI 0] J fun bO aD aP aQ=>?_
  replace ⟨h1,h2,h3,E,C⟩:=(so [aa,O] aD).g5 h1 h2 h3 E C
  exact .d<|.rb Tryz.func35 Tryz.results35 aP ⟨(VS.of (y:=(⟨([]:List Fil),([]:List Int),([]:List (List Tag)),0⟩:Dsk)) ⟨_,rfl,⟨_,_,_,_,_,_,_,_,_,rfl,(RepS.Ag _ _ none 0 (by decide)),(RepS.Ag _ _ none 0 (by decide)),(RepS.Ag _ _ none 0 (by decide))⟩⟩ (by exact O6 ‹_›)),C⟩
 refine .r 1<|.d<|.cf<|.sk<|.s<|.g<|.ln E<|.cl (DL d h1.ta h2.ta h3.ta (by have:=p0.g.len; omega) (fun n hn=>(p0.g.sz n hn).1) (by have:=p0.nl; omega) (by have:=p0.nf; omega) (fun f hf=>(p0.file f hf).sz) (w:=aO) (F:=all)) ?_
 rintro bP ai ⟨⟨av,bQ,bR,ak,bS,bT,aj,bU,bV,rfl,ac,ao,ab,aq,bq,W,ar,br,bt⟩,aE⟩
 have au:=al2 J.lt E.lt
 have ax:Gb w.heap.size aO.heap.size:=C.size
 have bu:=Ab ao E.lt
 have bv:=Ab ao J.lt
 have aR:=Bd ao C.size
 have bw:=Ab aq E.lt
 have bz:=Ab aq J.lt
 have aS:=Bd aq C.size
 have bA:=Ab ar E.lt
 have bB:=Ab ar J.lt
 have aT:=Bd ar C.size
 replace ⟨E,J,C⟩:=(se [] aE).g3 E J C
 replace ac:Own ai av 66 (nin (ge w.heap.size) [av,ak,aj,aa,O]) _ _ _:=Own.BC (s0:=w.heap.size) (M:=[aa,O]) ac au ax
 replace ac:=ac.base (G':=fo F w.heap.size) (fun _ _ h=>.inr h)
 have bC:=ac.max
 have bD:=ac.len
 replace ab:Own ai ak 3 (nin (ge w.heap.size) [av,ak,aj,aa,O]) _ _ _:=Own.BC (s0:=w.heap.size) (M:=[aa,O]) ab au ax
 replace ab:=ab.base (G':=fo F w.heap.size) (fun _ _ h=>.inr h)
 have bE:=ab.max
 have bF:=ab.len
 replace W:Own ai aj 77 (nin (ge w.heap.size) [av,ak,aj,aa,O]) _ _ _:=Own.BC (s0:=w.heap.size) (M:=[aa,O]) W au ax
 replace W:=W.base (G':=fo F w.heap.size) (fun _ _ h=>.inr h)
 have bG:=W.max
 have bH:=W.len
 have ay:=ac.sl (.inr aR)
 replace ⟨ab,W⟩:=(sd ai [av,ak,aj,aa,O] av).g2 ab W
 have aG:=ab.sl (.inr aS)
 replace ⟨ay,W⟩:=(sd ai [ak,aj,aa,O] ak).g2 ay W
 have ba:=W.sl (.inr aT)
 replace ⟨ay,aG⟩:=(sd ai [aj,aa,O] aj).g2 ay aG
 refine .cl (GV ((Az d)) ay aG ba (by have:=(L8 p0).nf; omega) (w:=ai) (F:=nin (fo F w.heap.size) [aa,O])) ?_
 rintro bW bX ⟨⟨_,rfl,⟨bc,bI,aU,aV,bJ,aW,aX,bK,aY,rfl,ae,af,ag⟩⟩,aF⟩
 have ah:=al2 J.lt E.lt
 have al:Gb w.heap.size ai.heap.size:=C.size
 replace ⟨J,C⟩:=(se [] aF).g2 J C
 replace ae:=RepS.Aa (M:=[aa,O]) ae ah al
 have bd:=ae.max
 replace af:=RepS.Aa (M:=[aa,O]) af ah al
 have bg:=af.max
 replace ag:=RepS.Aa (M:=[aa,O]) ag ah al
 have bh:=ag.max
 have aH:=ae.len
 subst aH
 have aI:=af.len
 subst aI
 have aJ:=ag.len
 subst aJ
 refine .sc [.slice bc (((BH ((Az d))).files).length) aU,.slice aV (((BH ((Az d))).list).length) aW,.slice aX (((BH ((Az d))).names).length) aY,vI ((BH ((Az d))).next)] J fun bL az aK aL=>?_
 replace ⟨ae,af,ag,C⟩:=(so [aa,O] az).g4 ae af ag C
 exact .d<|.rb Tryz.func35 Tryz.results35 aK ⟨(VS.of (y:=(BH ((Az d)))) ⟨_,rfl,⟨_,_,_,_,_,_,_,_,_,rfl,ae.w1,af.w1,ag.w1⟩⟩ (by exact U7 p0 ‹_›)),C⟩
end Go.Proofs.YtganlmloonielaaGreat
namespace Go.Proofs.YtganlmloonielaaGreat
section
variable {d:Dsk}
theorem MD (h:Af d=true):(BN d).next=d.next:=by rw [Er h]; rfl
end
end Go.Proofs.YtganlmloonielaaGreat
namespace Go.Proofs.YtganlmloonielaaGreat
set_option maxRecDepth 100000
set_option maxHeartbeats 4000000
theorem Ek (code:List UInt8) {w:World} {F:Nat→Prop} {a1:Option Addr} {n1 c1:Nat} (h1:RepS w F a1 n1 c1 code)  : Calls Tryz.prog 33 [.slice a1 n1 c1].toArray w (As fun rv w'=>(∃ (d:Dsk),VS (fo F w.heap.size) w' (d:Dsk) rv∧(DD d))∧Ext w w'):=by
 refine goT Tryz.func33 ?_
 obtain ⟨rfl,aI,h1⟩:=h1.tp
 refine .s<|.g<|.np 27 [.slice none 0 0,.slice none 0 0,.slice none 0 0,vI 0] fun ai ar ab ac E au=>?_
 have aJ:Cov nil w ai:=Bc ab (Nat.le_refl _)
 replace h1:=(sn [] ac ab).g1 h1
 have C:=ac
 refine .d<|.s<|.g<|.r 1<|.cl (DX code h1 (w:=ar) (F:=nin (fo F w.heap.size) [ai])) ?_
 rintro aS av ⟨⟨aT,aq,aU,aV,rfl,ae,aj,af⟩,ak⟩
 have al:=al1 E.lt
 have aw:Gb w.heap.size ar.heap.size:=C.size
 have aK:=Ab ae E.lt
 have aL:Cov nil w aq:=BR ae C.size
 replace ⟨E,C⟩:=(se [] ak).g2 E C
 replace af:=RepS.KC (b:=aq) (M:=[ai]) af al aw
 refine .cl (EC aj (af.BB AD) AB (w:=av) (F:=all)) ?_
 rintro aW aX ⟨⟨ag,⟨_,rfl,⟨aC,aY,aD,aE,aZ,aF,aG,ba,aH,rfl,J,O,W⟩⟩,aM⟩,bc,aN,aO,am⟩
 have aa:=al2 aj.lt E.lt
 have ah:Gb w.heap.size av.heap.size:=C.size
 replace ⟨E,C⟩:=(s1 am).g2 E C
 have J:=J.fr aa ah
 replace J:=J.base (G':=fo F w.heap.size) (fun _ _ h=>.inr h)
 have aP:=J.max
 have O:=O.fr aa ah
 replace O:=O.base (G':=fo F w.heap.size) (fun _ _ h=>.inr h)
 have aQ:=O.max
 have W:=W.fr aa ah
 replace W:=W.base (G':=fo F w.heap.size) (fun _ _ h=>.inr h)
 have aR:=W.max
 have ax:=J.len
 subst ax
 have ay:=O.len
 subst ay
 have az:=W.len
 subst az
 refine .sc [.slice aC ag.files.length aD,.slice aE ag.list.length aF,.slice aG ag.names.length aH,vI ag.next] E fun bd ao aA aB=>?_
 replace ⟨J,O,W,C⟩:=(so [aq,ai] ao).g4 J O W C
 exact .d<|.rb Tryz.func33 Tryz.results33 aA ⟨⟨(ag:Dsk),⟨_,rfl,⟨_,_,_,_,_,_,_,_,_,rfl,J.w1,O.w1,W.w1⟩⟩,‹_›⟩,C⟩
end Go.Proofs.YtganlmloonielaaGreat
