/- Rules on operations that look into their operands: texts, parts of slices, equal structs, rest of a division. No conditions. -/
import Derived.Test.YtganlmloonielaaGreatTazW4
set_option linter.unusedVariables false
set_option linter.unusedSimpArgs false
namespace Go.Proofs.YtganlmloonielaaGreat
section
variable {P:Program}
def NV (P:Program) (t:TypeId):Bool :=
 (match P.underlying t with
  | some (.struct fs) => (match fs.toList with
    | [f,g]=>f.name != "_" && g.name != "_" && NU P f.type&&Ln P g.type&&GL P g.type 2&&Nat.beq f.offset 0&&Nat.beq g.offset 1
    | _=>false)
  | _=>false) && !P.stoodInHeld t && !P.eqGuardType P.depth t
theorem Hg {t:TypeId} {cs:Array Value} {o n:Nat} (ht:GL P t n=true) (w:World):(part t cs o).run P w=.ok (.agg (cs.extract o (o+n))) w:=by
 simp only [GL,AR] at ht
 unfold part
 have h1:(isAgg t).run P w=.ok true w:=by
  unfold isAgg underlying
  have:=ht.1
  split at this
  ·rename_i d hd; simp [run_program,hd,go_sem]
  ·rename_i d hd; simp [run_program,hd,go_sem]
  ·cases this
 rw [AW h1]
 simp only [if_true]
 rw [AW (run_sizeOf (n:=n) ht.2 w)]
 rfl
theorem Kl {t:TypeId} {i k v i' k' v':Int} (ht:NV P t=true) (w:World) :
 (Op.equal t (.agg #[.int .i64 i,.int .i64 k,.int .i64 v]) (.agg #[.int .i64 i',.int .i64 k',.int .i64 v'])).run P w=.ok (i==i'&&(k==k'&&v==v')) w:=by
 unfold NV at ht
 simp only [AR,Bool.not_eq_true'] at ht
 obtain ⟨⟨h1,h2⟩,h3⟩:=ht
 split at h1
 ·rename_i fs hu
  split at h1
  ·rename_i f g hfg
   simp only [AR] at h1
   obtain ⟨⟨⟨⟨⟨⟨a1,a2⟩,a3⟩,a4⟩,a7⟩,a5⟩,a6⟩:=h1
   have a5':=Nat.eq_of_beq_eq_true a5
   have a6':=Nat.eq_of_beq_eq_true a6
   have hun:(underlying t).run P w=.ok (.struct fs) w:=by simp [underlying,hu,go_sem]
   have hfs:fs = #[f,g]:=Array.toList_inj.1 (by simpa using hfg)
   subst hfs
   unfold Op.equal
   rw [show Op.maxDepth=9999+1 from rfl]
   unfold Op.equalIn
   rw [AW hun]
   simp only []
   have hp:(program:Sem Program).run P w=.ok P w:=run_program P w
   rw [AW hp]
   simp only [h2,Bool.false_eq_true,if_false]
   have e1:=fun (w:World)=>DN (P:=P) (t:=f.type) (cs:=#[.int .i64 i,.int .i64 k,.int .i64 v]) (o:=f.offset) (v:=.int .i64 i) a3 (by rw [a5']; rfl) w
   have e2:=fun (w:World)=>DN (P:=P) (t:=f.type) (cs:=#[.int .i64 i',.int .i64 k',.int .i64 v']) (o:=f.offset) (v:=.int .i64 i') a3 (by rw [a5']; rfl) w
   have e3:=fun (w:World)=>Hg (P:=P) (t:=g.type) (cs:=#[.int .i64 i,.int .i64 k,.int .i64 v]) (o:=g.offset) (n:=2) a7 w
   have e4:=fun (w:World)=>Hg (P:=P) (t:=g.type) (cs:=#[.int .i64 i',.int .i64 k',.int .i64 v']) (o:=g.offset) (n:=2) a7 w
   have x1:(#[.int .i64 i,.int .i64 k,.int .i64 v]:Array Value).extract g.offset (g.offset+2) = #[.int .i64 k,.int .i64 v]:=by rw [a6']; rfl
   have x2:(#[.int .i64 i',.int .i64 k',.int .i64 v']:Array Value).extract g.offset (g.offset+2) = #[.int .i64 k',.int .i64 v']:=by rw [a6']; rfl
   simp only [x1] at e3
   simp only [x2] at e4
   have e5:=FR (P:=P) (d:=9998) (t:=f.type) (s:=i) (u:=i') a3
   have e6:=F6 (P:=P) (d:=9997) (t:=g.type) (k:=k) (v:=v) (k':=k') (v':=v') a4
   have c1:(f.name ≠ "_")=True:=by simpa using a1
   have c2:(g.name ≠ "_")=True:=by simpa using a2
   simp only [List.forIn_toArray,Array.forIn_toList,List.forIn_cons,List.forIn_nil,c1,c2,if_true,bind_assoc]
   rw [AW (e1 w),AW (e2 w),AW (e5 w)]
   cases hk:(i==i') with
   | false=>simp [go_sem]
   | true =>
     simp only [Bool.not_true,Bool.false_eq_true,if_false,pure_bind,bind_assoc]
     rw [AW (e3 w),AW (e4 w),AW (e6 w)]
     cases hv:(k==k'&&v==v') <;> simp [go_sem]
  ·cases h1
 ·cases h1
theorem UK {t:TypeId} (h:NV P t=true):(!P.eqGuardType P.depth t)=true:=by unfold NV at h; simp only [AR] at h; exact h.2
theorem K0 {t:TypeId} {x y:Operand} {i k v i' k' v':Int} (ht:NV P t=true) (w:World) :
 (do eqGuard .neq t x y (.agg #[.int .i64 i,.int .i64 k,.int .i64 v]) (.agg #[.int .i64 i',.int .i64 k',.int .i64 v']); binOp .neq t (.agg #[.int .i64 i,.int .i64 k,.int .i64 v]) (.agg #[.int .i64 i',.int .i64 k',.int .i64 v'])).run P w
  = .ok (.bool (!(i==i'&&(k==k'&&v==v')))) w:=by
 rw [AW (Fs (UK ht) w)]
 simp only [binOp]
 rw [AW (Kl ht w)]
 rfl
theorem OT (x y:Smp):(x==y)=(x.id==y.id&&(x.row.t==y.row.t&&x.row.v==y.row.v)):=by
 rw [Bool.eq_iff_iff]
 simp only [beq_iff_eq,AR]
 constructor
 ·rintro rfl; exact ⟨rfl,rfl,rfl⟩
 ·rintro ⟨h1,h2,h3⟩
  cases x with | mk i r=>cases y with | mk i' r'=>cases r; cases r'; simp_all
end
section
variable {P:Program} {n:Nat} {K:Env→World→Prop} {ops:Array Oper} {j:Nat} {e:Env} {w:World}
theorem RG.Tm {t:TypeId} {x y:Smp} (h:Eg n ops j e=some (.neq,t,.agg #[.int .i64 x.id,.int .i64 x.row.t,.int .i64 x.row.v],.agg #[.int .i64 y.id,.int .i64 y.row.t,.int .i64 y.row.v])) (ht:NV P t=true)
 (H:RG P n K ops (j+1) (BL e (An ops j).dst (.bool (!(x==y)))) w):RG P n K ops j e w :=
 have h1:=Cy (P:=P) (w:=w) h (fun _ _=>K0 ht w)
 RG.val h1.1 (by rw [OT]; exact h1.2) H
end
section
variable {P:Program} {S:Nat→Prop} {n m:Nat} {L:Env→World→Prop} {ops:Array Oper} {l:List Nat} {e:Env} {w:World}
theorem GA.Tm {i:Nat} {t:TypeId} {x y:Smp} (hb:gB n m ops l i=true) (h:Eg n ops i e=some (.neq,t,.agg #[.int .i64 x.id,.int .i64 x.row.t,.int .i64 x.row.v],.agg #[.int .i64 y.id,.int .i64 y.row.t,.int .i64 y.row.v])) (ht:NV P t=true)
 (H:GA P S n m L ops (i::l) (BL e (An ops i).dst (.bool (!(x==y)))) w):GA P S n m L ops l e w :=
 GA.JS hb (fun w=>by rw [OT]; exact Cy h (fun _ _=>K0 ht w)) H
end
end Go.Proofs.YtganlmloonielaaGreat
namespace Go.Proofs.YtganlmloonielaaGreat
set_option maxRecDepth 100000
set_option maxHeartbeats 4000000
theorem J8 (a:Idx) (b:Idx) {w:World} {F:Nat→Prop} {a1:Option Addr} {n1 c1:Nat} (h1:RepS w F a1 n1 c1 a.names) {a2:Option Addr} {n2 c2:Nat} (h2:RepS w F a2 n2 c2 a.AV) {a3:Option Addr} {n3 c3:Nat} (h3:RepS w F a3 n3 c3 b.names) {a4:Option Addr} {n4 c4:Nat} (h4:RepS w F a4 n4 c4 b.AV)  : Calls Tryz.prog 81 [.agg #[.slice a1 n1 c1,.slice a2 n2 c2],.agg #[.slice a3 n3 c3,.slice a4 n4 c4]].toArray w (As fun rv w'=>rv=.bool ((a==b))∧Ext w w'):=by
 refine goT Tryz.func81 ?_
 obtain ⟨rfl,bz,h1⟩:=h1.tp
 obtain ⟨rfl,bA,h2⟩:=h2.tp
 obtain ⟨rfl,bB,h3⟩:=h3.tp
 obtain ⟨rfl,bC,h4⟩:=h4.tp
 refine .s<|.g<|.np 30 [.slice a1 a.names.length c1,.slice a2 a.AV.length c2] fun aa bW aA ah E aR=>?_
 replace ⟨h1,h2,h3,h4⟩:=(sn [] ah aA).g4 h1 h2 h3 h4
 have C:=ah
 refine .np 30 [.slice a3 b.names.length c3,.slice a4 b.AV.length c4] fun ab aS aB aC J aT=>?_
 replace ⟨h1,h2,h3,h4,E,C⟩:=(sn [aa] aC aB).g6 h1 h2 h3 h4 E C
 refine .r 1<|.d<|.s<|.s<|.g<|.r 1<|.lb E<|.r 2<|.lb J<|.r 1<|.ne (a.names.length:Int) (b.names.length:Int) (fun aU=>.r 9<|.d<|.ct<|.s<|.g<|.r 1<|.d<|.rt Tryz.func81 Tryz.results81 (.bool false) ⟨(congrArg Value.bool (by cases a; cases b; grind [AY,Ey])),C⟩) fun aU=>.r 2<|.lb E<|.r 2<|.lb J<|.r 1<|.ne (a.AV.length:Int) (b.AV.length:Int) (fun aV=>.r 1<|.d<|.ct<|.s<|.g<|.r 1<|.d<|.rt Tryz.func81 Tryz.results81 (.bool false) ⟨(congrArg Value.bool (by cases a; cases b; grind [AY,Ey])),C⟩) fun aV=>.r 1<|.d<|.cf<|.sk<|.s<|.s<|.g<|.r 1<|.d<|.b 0<|T.loop (X:=Nat) 0 (fun k=>[(2,.pointer (some ⟨aa,0,none⟩)),(3,.pointer (some ⟨ab,0,none⟩)),(5,vI (k:Int))]) (fun k ai=>Chg (ins []) aS ai∧(k≤a.names.length)∧(a.names.drop k=b.names.drop k↔a.names=b.names)) (fun k=>a.names.length - k) AA ⟨AA,AA,AA,trivial⟩ ⟨Chg.refl _ _,(by simp),(by simp)⟩ ?_
 rintro k bX ai ⟨W,bD,bE⟩ aj
 have aD:Mv [ab,aa] [ab,aa] aS ai:=Mv.inl W all_nil (all_cons (.inl AD) (all_cons (.inl AE) all_nil))
 replace ⟨h1,h2,h3,h4,E,J,C⟩:=(sp aD W).g7 h1 h2 h3 h4 E J C
 refine .s<|.s<|.g<|.r 2<|.lb E<|.r 1<|.bp ((k:Int)< (a.names.length:Int)) (fun aW=>?_) (fun aW=>?_)
 ·refine .d<|.ct<|.sk<|.s<|.b 1<|.s<|.gd nil 10 fun bY aE=>?_
  replace ⟨h1,h2,h3,h4,E,J,C,W⟩:=(se [ab,aa] aE).g8 h1 h2 h3 h4 E J C W
  refine .r [0]<|.lb 1 E id<|.r [2] ?_
  have aX:k< a.names.length:=AB
  refine .ix 3 k 1 h1 aX ?_
  obtain ⟨aJ,ak⟩:∃ y,a.names[k]? = some y:=⟨_,AP AB⟩
  have bF:=AX ak; have bk:=AQ ak
  obtain ⟨_,⟨bZ,b0,b6,rfl,al⟩,aY⟩:=h1.elem k aJ ak
  have aZ:=al.len
  subst aZ
  have bG:=al.max
  refine .lh 4 0 aY id<|.r [5]<|.lb 6 J id<|.r [7] ?_
  have ba:k< b.names.length:=AB
  refine .ix 8 k 1 h3 ba ?_
  obtain ⟨aK,am⟩:∃ y,b.names[k]? = some y:=⟨_,AP AB⟩
  have bH:=AX am; have bm:=AQ am
  obtain ⟨_,⟨b7,b8,b9,rfl,ao⟩,bc⟩:=h3.elem k aK am
  have bd:=ao.len
  subst bd
  have bI:=ao.max
  refine .lh 9 0 bc id<|.d fun bo aF=>?_
  replace ⟨h2,h4,E,J,al,ao,C,W⟩:=(se [ab,aa] aF).g8 h2 h4 E J al ao C W
  refine .cl (FU aJ aK al.ta ao.ta (w:=bo) (F:=all)) ?_
  rintro cd ce ⟨rfl,aG⟩
  replace ⟨h2,h4,E,J,C,W⟩:=(se [ab,aa] aG).g6 h2 h4 E J C W
  cases bJ:(aJ==aK)
  ·exact .r 1<|.d<|.ct<|.s<|.g<|.r 1<|.d<|.rt Tryz.func81 Tryz.results81 (.bool false) ⟨(congrArg Value.bool (by cases a; cases b; grind [AY,Ey])),C⟩
  exact .r 1<|.d<|.cf<|.sk<|.ib 1<|.g<|.r 1<|.it ((k:Int)+1)<|.r 1<|.d<|aj (k+1) _ _ ⟨AA,AA,AA,trivial⟩ ⟨W,AB,(by grind)⟩ AB
 refine .d<|.cf<|.x 0 rfl<|.s<|.s<|.g<|.r 1<|.d<|.b 2<|T.loop (X:=Nat) 0 (fun k=>[(2,.pointer (some ⟨aa,0,none⟩)),(3,.pointer (some ⟨ab,0,none⟩)),(6,vI (k:Int))]) (fun k aL=>Chg (ins []) ai aL∧(k≤a.AV.length)∧(a.names=b.names)∧(a.AV.drop k=b.AV.drop k↔a.AV=b.AV)) (fun k=>a.AV.length - k) AA ⟨AA,AA,AA,trivial⟩ ⟨Chg.refl _ _,(by grind [AY]),(by grind [AY]),(by grind [AY])⟩ ?_
 rintro k cg aL ⟨O,bK,bL,bM⟩ aq
 have aH:Mv [ab,aa] [ab,aa] ai aL:=Mv.inl O all_nil (all_cons (.inl AD) (all_cons (.inl AE) all_nil))
 replace ⟨h2,h4,E,J,C⟩:=(sp aH O).g5 h2 h4 E J C
 refine .s<|.s<|.g<|.r 2<|.lb E<|.r 1<|.bp ((k:Int)< (a.AV.length:Int)) (fun bg=>?_) (fun bg=>.d<|.cf<|.x 2 rfl<|.s<|.g<|.r 1<|.d<|.rt Tryz.func81 Tryz.results81 (.bool true) ⟨(congrArg Value.bool (by cases a; cases b; grind [AY,Ey])),C⟩)
 refine .d<|.ct<|.sk<|.s<|.b 3<|.s<|.gd nil 26 fun ci aI=>?_
 replace ⟨h2,h4,E,J,C,O⟩:=(se [ab,aa] aI).g6 h2 h4 E J C O
 refine .r [0]<|.lb 1 E id<|.r [2] ?_
 have bh:k< a.AV.length:=AB
 refine .ix 3 k 3 h2 bh<|.r [4] ?_
 obtain ⟨ar,au⟩:∃ y,a.AV[k]? = some y:=⟨_,AP AB⟩
 have bq:=AX au; have bn:=AQ au
 obtain ⟨_,⟨bN,bO,bP,rfl,ac⟩,av⟩:=h2.elem k ar au
 have aM:=ac.len
 subst aM
 have br:=ac.max
 refine .lg 5 0 av id<|.r [6]<|.lb 7 J id<|.r [8] ?_
 have aN:k< b.AV.length:=AB
 refine .ix 9 k 3 h4 aN<|.r [10] ?_
 obtain ⟨af,ag⟩:∃ y,b.AV[k]? = some y:=⟨_,AP AB⟩
 have bt:=AX ag; have bi:=AQ ag
 obtain ⟨_,⟨bQ,bR,bS,rfl,ae⟩,aw⟩:=h4.elem k af ag
 have aO:=ae.len
 subst aO
 have bu:=ae.max
 refine .lg 11 0 aw id<|GA.OV (i:=12) (t:=120) (x:=ar.tag) (y:=af.tag) AA AA AA ?_
 cases bv:(ar.tag==af.tag)
 ·refine .r [13]<|GA.skip AA fun bT ax=>?_
  replace ⟨h2,h4,E,J,ac,ae,C,O⟩:=(se [ab,aa] ax).g8 h2 h4 E J ac ae C O
  exact .r 3<|.d<|.ct<|.s<|.g<|.r 1<|.d<|.rt Tryz.func81 Tryz.results81 (.bool false) ⟨(congrArg Value.bool (by cases a; cases b; grind [AY,Ey])),C⟩
 refine .r [13,14]<|.lb 15 E id<|.r [16] ?_
 have aP:k< a.AV.length:=AB
 refine .ix 17 k 3 h2 aP<|.r [18]<|.lh 19 2 av id<|.r [20]<|.lb 21 J id<|.r [22] ?_
 have aQ:k< b.AV.length:=AB
 refine .ix 23 k 3 h4 aQ<|.r [24]<|.lh 25 2 aw id<|.d fun bj ay=>?_
 replace ⟨ac,ae,C,O⟩:=(se [ab,aa] ay).g4 ac ae C O
 refine .cl (C6 ar.ids af.ids ac.ta ae.ta (w:=bj) (F:=all)) ?_
 rintro bU bV ⟨rfl,az⟩
 replace ⟨C,O⟩:=(se [] az).g2 C O
 cases bw:(ar.ids==af.ids)
 ·exact .r 2<|.d<|.ct<|.s<|.g<|.r 1<|.d<|.rt Tryz.func81 Tryz.results81 (.bool false) ⟨(congrArg Value.bool (by cases a; cases b; grind [AY,Ey])),C⟩
 exact .r 2<|.d<|.cf<|.sk<|.ib 3<|.g<|.r 1<|.it ((k:Int)+1)<|.r 1<|.d<|aq (k+1) _ _ ⟨AA,AA,AA,trivial⟩ ⟨O,(by grind [Ey]),(by grind [Ey]),(by grind [Ey])⟩ AB
theorem Co (a:Sto) (b:Sto) {w:World} {F:Nat→Prop} {a1:Option Addr} {n1 c1:Nat} (h1:RepS w F a1 n1 c1 a.idx.names) {a2:Option Addr} {n2 c2:Nat} (h2:RepS w F a2 n2 c2 a.idx.AV) {a3:Option Addr} {n3 c3:Nat} (h3:RepS w F a3 n3 c3 a.parts) {a4:Option Addr} {n4 c4:Nat} (h4:RepS w F a4 n4 c4 a.mem) {a5:Option Addr} {n5 c5:Nat} (h5:RepS w F a5 n5 c5 b.idx.names) {a6:Option Addr} {n6 c6:Nat} (h6:RepS w F a6 n6 c6 b.idx.AV) {a7:Option Addr} {n7 c7:Nat} (h7:RepS w F a7 n7 c7 b.parts) {a8:Option Addr} {n8 c8:Nat} (h8:RepS w F a8 n8 c8 b.mem)  : Calls Tryz.prog 37 [.agg #[.slice a1 n1 c1,.slice a2 n2 c2,.slice a3 n3 c3,.slice a4 n4 c4],.agg #[.slice a5 n5 c5,.slice a6 n6 c6,.slice a7 n7 c7,.slice a8 n8 c8]].toArray w (As fun rv w'=>rv=.bool ((a==b))∧Ext w w'):=by
 refine goT Tryz.func37 ?_
 obtain ⟨rfl,bz,h1⟩:=h1.tp
 obtain ⟨rfl,bA,h2⟩:=h2.tp
 obtain ⟨rfl,bB,h3⟩:=h3.tp
 obtain ⟨rfl,bC,h4⟩:=h4.tp
 obtain ⟨rfl,bD,h5⟩:=h5.tp
 obtain ⟨rfl,bE,h6⟩:=h6.tp
 obtain ⟨rfl,bF,h7⟩:=h7.tp
 obtain ⟨rfl,bG,h8⟩:=h8.tp
 refine .s<|.g<|.np 34 [.slice a1 a.idx.names.length c1,.slice a2 a.idx.AV.length c2,.slice a3 a.parts.length c3,.slice a4 a.mem.length c4] fun aa bV aB ag E aP=>?_
 replace ⟨h1,h2,h3,h4,h5,h6,h7,h8⟩:=(sn [] ag aB).g8 h1 h2 h3 h4 h5 h6 h7 h8
 have C:=ag
 refine .np 34 [.slice a5 b.idx.names.length c5,.slice a6 b.idx.AV.length c6,.slice a7 b.parts.length c7,.slice a8 b.mem.length c8] fun ab bk aC aD J aQ=>?_
 replace ⟨h1,h2,h3,h4,h5,h6,h7,h8,E,C⟩:=(sn [aa] aD aC).g10 h1 h2 h3 h4 h5 h6 h7 h8 E C
 refine .r 1<|.d<|.s<|.s<|.g<|.r 1<|.ln E<|.r 1<|.ln J<|.cl (J8 a.idx b.idx h1.ta h2.ta h5.ta h6.ta (w:=bk) (F:=all)) ?_
 rintro bW aR ⟨rfl,aE⟩
 replace ⟨h3,h4,h7,h8,E,J,C⟩:=(se [ab,aa] aE).g7 h3 h4 h7 h8 E J C
 cases bH:(a.idx==b.idx)
 ·exact .r 19<|.d<|.ct<|.s<|.g<|.r 1<|.d<|.rt Tryz.func37 Tryz.results37 (.bool false) ⟨(congrArg Value.bool (by cases a; cases b; grind [AY])),C⟩
 refine .r 3<|.lb E<|.r 2<|.lb J<|.r 1<|.ne (a.parts.length:Int) (b.parts.length:Int) (fun aS=>.r 10<|.d<|.ct<|.s<|.g<|.r 1<|.d<|.rt Tryz.func37 Tryz.results37 (.bool false) ⟨(congrArg Value.bool (by cases a; cases b; grind [AY])),C⟩) fun aS=>.r 3<|.lb E<|.r 2<|.lb J<|.r 1<|.ne (a.mem.length:Int) (b.mem.length:Int) (fun aT=>.r 1<|.d<|.ct<|.s<|.g<|.r 1<|.d<|.rt Tryz.func37 Tryz.results37 (.bool false) ⟨(congrArg Value.bool (by cases a; cases b; grind [AY])),C⟩) fun aT=>.r 1<|.d<|.cf<|.sk<|.s<|.s<|.g<|.r 1<|.d<|.b 0<|T.loop (X:=Nat) 0 (fun k=>[(2,.pointer (some ⟨aa,0,none⟩)),(3,.pointer (some ⟨ab,0,none⟩)),(5,vI (k:Int))]) (fun k ah=>Chg (ins []) aR ah∧(k≤a.parts.length)∧(a.idx=b.idx)∧(a.parts.drop k=b.parts.drop k↔a.parts=b.parts)) (fun k=>a.parts.length - k) AA ⟨AA,AA,AA,trivial⟩ ⟨Chg.refl _ _,(by grind),(by grind),(by grind)⟩ ?_
 rintro k bX ah ⟨W,bI,bJ,bK⟩ ai
 have aF:Mv [ab,aa] [ab,aa] aR ah:=Mv.inl W all_nil (all_cons (.inl AD) (all_cons (.inl AE) all_nil))
 replace ⟨h3,h4,h7,h8,E,J,C⟩:=(sp aF W).g7 h3 h4 h7 h8 E J C
 refine .s<|.s<|.g<|.r 2<|.lb E<|.r 1<|.bp ((k:Int)< (a.parts.length:Int)) (fun aU=>?_) (fun aU=>?_)
 ·refine .d<|.ct<|.sk<|.s<|.b 1<|.s<|.gd nil 10 fun bY aG=>?_
  replace ⟨h3,h4,h7,h8,E,J,C,W⟩:=(se [ab,aa] aG).g8 h3 h4 h7 h8 E J C W
  refine .r [0]<|.lb 1 E id<|.r [2] ?_
  have aV:k< a.parts.length:=AB
  refine .ix 3 k 2 h3 aV ?_
  obtain ⟨aH,aj⟩:∃ y,a.parts[k]? = some y:=⟨_,AP AB⟩
  have bL:=AX aj; have bi:=AQ aj
  obtain ⟨_,⟨bZ,b0,b6,b7,b8,b9,rfl,ak,al⟩,aW⟩:=h3.elem k aH aj
  have aX:=ak.len
  subst aX
  have bM:=ak.max
  have aY:=al.len
  subst aY
  have bN:=al.max
  refine .lg 4 0 aW id<|.r [5]<|.lb 6 J id<|.r [7] ?_
  have aZ:k< b.parts.length:=AB
  refine .ix 8 k 2 h7 aZ ?_
  obtain ⟨aI,am⟩:∃ y,b.parts[k]? = some y:=⟨_,AP AB⟩
  have bO:=AX am; have bj:=AQ am
  obtain ⟨_,⟨cd,ce,cg,ci,cj,ck,rfl,ao,aq⟩,ba⟩:=h7.elem k aI am
  have bc:=ao.len
  subst bc
  have bP:=ao.max
  have aJ:=aq.len
  subst aJ
  have bm:=aq.max
  refine .lg 9 0 ba id<|.d fun bd ar=>?_
  replace ⟨h4,h8,E,J,ak,al,ao,aq,C,W⟩:=(se [ab,aa] ar).g10 h4 h8 E J ak al ao aq C W
  refine .cl (DW aH aI ak.ta al.ta ao.ta aq.ta (w:=bd) (F:=all)) ?_
  rintro bQ bR ⟨rfl,au⟩
  replace ⟨h4,h8,E,J,C,W⟩:=(se [ab,aa] au).g6 h4 h8 E J C W
  cases bn:(aH==aI)
  ·exact .r 1<|.d<|.ct<|.s<|.g<|.r 1<|.d<|.rt Tryz.func37 Tryz.results37 (.bool false) ⟨(congrArg Value.bool (by cases a; cases b; grind [AY])),C⟩
  exact .r 1<|.d<|.cf<|.sk<|.ib 1<|.g<|.r 1<|.it ((k:Int)+1)<|.r 1<|.d<|ai (k+1) _ _ ⟨AA,AA,AA,trivial⟩ ⟨W,(by grind),(by grind),(by grind)⟩ AB
 refine .d<|.cf<|.x 0 rfl<|.s<|.s<|.g<|.r 1<|.d<|.b 2<|T.loop (X:=Nat) 0 (fun k=>[(2,.pointer (some ⟨aa,0,none⟩)),(3,.pointer (some ⟨ab,0,none⟩)),(6,vI (k:Int))]) (fun k av=>Chg (ins []) ah av∧(k≤a.mem.length)∧(a.idx=b.idx)∧(a.parts=b.parts)∧(a.mem.drop k=b.mem.drop k↔a.mem=b.mem)) (fun k=>a.mem.length - k) AA ⟨AA,AA,AA,trivial⟩ ⟨Chg.refl _ _,(by grind [AY]),(by grind [AY]),(by grind [AY]),(by grind [AY])⟩ ?_
 rintro k bS av ⟨O,bo,bq,br,bt⟩ af
 have aw:Mv [ab,aa] [ab,aa] ah av:=Mv.inl O all_nil (all_cons (.inl AD) (all_cons (.inl AE) all_nil))
 replace ⟨h4,h8,E,J,C⟩:=(sp aw O).g5 h4 h8 E J C
 refine .s<|.s<|.g<|.r 2<|.lb E<|.r 1<|.bp ((k:Int)< (a.mem.length:Int)) (fun aK=>?_) (fun aK=>.d<|.cf<|.x 2 rfl<|.s<|.g<|.r 1<|.d<|.rt Tryz.func37 Tryz.results37 (.bool true) ⟨(congrArg Value.bool (by cases a; cases b; grind [AY])),C⟩)
 refine .d<|.ct<|.sk<|.s<|.b 3<|.s<|.gd nil 10 fun bT ax=>?_
 replace ⟨h4,h8,E,J,C,O⟩:=(se [ab,aa] ax).g6 h4 h8 E J C O
 refine .r [0]<|.lb 1 E id<|.r [2] ?_
 have aL:k< a.mem.length:=AB
 refine .ix 3 k 3 h4 aL ?_
 obtain ⟨ay,ac⟩:∃ y,a.mem[k]? = some y:=⟨_,AP AB⟩
 have bu:=AX ac; have bg:=AQ ac
 obtain ⟨_,rfl,aM⟩:=h4.elem k ay ac
 refine .lg 4 0 aM id<|.r [5]<|.lb 6 J id<|.r [7] ?_
 have aN:k< b.mem.length:=AB
 refine .ix 8 k 3 h8 aN ?_
 obtain ⟨az,ae⟩:∃ y,b.mem[k]? = some y:=⟨_,AP AB⟩
 have bv:=AX ae; have bh:=AQ ae
 obtain ⟨_,rfl,aO⟩:=h8.elem k az ae
 refine .lg 9 0 aO id<|.d fun bU aA=>?_
 replace ⟨C,O⟩:=(se [] aA).g2 C O
 refine RG.Tm (t:=107) (x:=ay) (y:=az) AA AA ?_
 cases bw:(ay==az)
 ·exact .d<|.ct<|.s<|.g<|.r 1<|.d<|.rt Tryz.func37 Tryz.results37 (.bool false) ⟨(congrArg Value.bool (by cases a; cases b; grind [AY])),C⟩
 exact .d<|.cf<|.sk<|.ib 3<|.g<|.r 1<|.it ((k:Int)+1)<|.r 1<|.d<|af (k+1) _ _ ⟨AA,AA,AA,trivial⟩ ⟨O,(by grind),(by grind),(by grind),(by grind)⟩ AB
end Go.Proofs.YtganlmloonielaaGreat
