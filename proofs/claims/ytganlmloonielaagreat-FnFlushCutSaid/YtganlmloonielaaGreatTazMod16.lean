/- A row put into a row: slices of rows whose cells are told, copies, zeros. No conditions. -/
import Derived.Test.YtganlmloonielaaGreatTazW12
import Derived.Lib.Overlaps
import Derived.Lib.AppendZerosOnto
set_option linter.unusedVariables false
set_option linter.unusedSimpArgs false
namespace Go.Proofs.YtganlmloonielaaGreat
def BX (xs:List Row):List Value:=xs.flatMap (fun x=>[.int .i64 x.t,.int .i64 x.v])
theorem Dj (xs:List Row):(BX xs).length=xs.length * 2:=by
 induction xs with
 | nil=>rfl
 | cons x xs ih=>simp only [BX,List.flatMap_cons,List.length_append,List.length_cons,List.length_nil] at *; omega
theorem Nl (xs ys:List Row):BX (xs++ys)=BX xs++BX ys:=by simp [BX]
theorem KI (xs:List Row):∀ v∈BX xs,EH v=true:=by
 intro v hv
 simp only [BX,List.mem_flatMap] at hv
 obtain ⟨x,_,hv⟩:=hv
 simp at hv
 rcases hv with rfl | rfl <;> rfl
theorem Mo (xs:List Row) (i:Nat):BX (xs.take i)=(BX xs).take (i * 2):=by
 induction xs generalizing i with
 | nil=>simp [BX]
 | cons x xs ih =>
   cases i with
   | zero=>simp [BX]
   | succ i =>
     rw [List.take_succ_cons,show (i+1) * 2=i * 2+1+1 by omega]
     have:=ih i
     simp only [BX,List.flatMap_cons] at *
     rw [this]
     simp
theorem JK (xs:List Row) (i:Nat):BX (xs.drop i)=(BX xs).drop (i * 2):=by
 induction xs generalizing i with
 | nil=>simp [BX]
 | cons x xs ih =>
   cases i with
   | zero=>simp [BX]
   | succ i =>
     rw [List.drop_succ_cons,show (i+1) * 2=i * 2+1+1 by omega]
     have:=ih i
     simp only [BX,List.flatMap_cons] at *
     rw [this]
     simp
theorem LF {xs:List Row} {i:Nat} {x:Row} (h:xs[i]? = some x):(BX xs)[i * 2]? = some (.int .i64 x.t)∧(BX xs)[i * 2+1]? = some (.int .i64 x.v):=by
 have hd:=AX h
 have h1:=JK xs i
 rw [hd] at h1
 have h2:(BX xs).drop (i * 2)=.int .i64 x.t :: .int .i64 x.v::BX (xs.drop (i+1)):=h1.symm
 constructor
 ·have:=congrArg (fun l=>l[0]?) h2
  simpa [List.getElem?_drop] using this
 ·have:=congrArg (fun l=>l[1]?) h2
  simpa [List.getElem?_drop] using this
section
variable {w:World} {r n c:Nat} {t:TypeId} {F:Nat→Prop} {xs:List Row}
theorem Own.box (h:Own w r t F n c xs):∃ cs,Box w r t cs∧cs.length=c * 2∧cs.take (n * 2)=BX xs∧n≤c∧c≤maxLen:=by
 obtain ⟨cur,h1,h2⟩:=h.row
 have hz:Rep.sz Row=2:=rfl
 rw [hz] at h2
 refine ⟨cur.toList,by unfold Box; simpa using h1,by simpa using h2,?_,h.le,h.cap⟩
 have hn:=h.len
 have hnc:=h.le
 apply List.ext_getElem?
 intro k
 rw [List.getElem?_take]
 by_cases hk:k< n * 2
 ·rw [if_pos hk]
  have hi:k / 2< xs.length:=by omega
  obtain ⟨cs,g1,g2⟩:=h.elem (k / 2) xs[k / 2] (AP hi)
  cases g1
  obtain ⟨e1,e2⟩:=LF (AP hi)
  rcases Nat.mod_two_eq_zero_or_one k with h0 | h0
  ·have hk2:k=k / 2 * 2:=by omega
   have g3:=g2 0 _ rfl
   rw [hk2,e1]
   simp only [add_lit,World.cell?,h1,hz] at g3
   simpa using g3
  ·have hk2:k=k / 2 * 2+1:=by omega
   have g3:=g2 1 _ rfl
   rw [hk2,e2]
   simp only [add_lit,World.cell?,h1,hz] at g3
   simpa using g3
 ·rw [if_neg hk,List.getElem?_eq_none (by rw [Dj]; omega)]
theorem Own.Tu {cs:List Value} (h:Box w r t cs) (hl:cs.length=c * 2) (hx:cs.take (xs.length * 2)=BX xs) (hn:xs.length≤c) (hc:c≤maxLen):Own w r t F xs.length c xs:=by
 refine ⟨rfl,hn,hc,⟨cs.toArray,h,by rw [show Rep.sz Row=2 from rfl]; simpa using hl⟩,fun i x hi=>⟨_,rfl,fun k u hu=>?_⟩⟩
 obtain ⟨e1,e2⟩:=LF hi
 have hil:i< xs.length:=(List.getElem?_eq_some_iff.1 hi).1
 have hcs:∀ j,j< xs.length * 2→cs[j]? = (BX xs)[j]? := fun j hj=>by rw [← hx,List.getElem?_take,if_pos hj]
 have hcell:∀ j v,cs[j]? = some v→w.cell? ⟨r,j,none⟩=some v:=fun j v hv=>by
  unfold Box at h
  simp only [World.cell?,h]
  simpa using hv
 rw [add_lit]
 match k,hu with
 | 0,hu=>cases hu; exact hcell _ _ (by rw [hcs _ (by show i * 2+0< _; omega)]; exact e1)
 | 1,hu=>cases hu; exact hcell _ _ (by rw [hcs _ (by show i * 2+1< _; omega)]; exact e2)
 | k+2,hu=>simp at hu
end
section
variable {P:Program} {n:Nat} {K:Env→World→Prop} {ops:Array Oper} {j:Nat} {e:Env} {w:World}
theorem RG.V8 {t:TypeId} {sz:Nat} {a:Option Addr} {len cap:Nat} {lo hi:Option Value} (l h':Nat) (h:Hh n ops j e=some (t,.slice a len cap,lo,hi)) (ht:Ki P t sz=true) (hlo:bnd lo 0 l) (hhi:bnd hi len h') (hlh:l≤h') (hh:h'≤cap)
 (H:∀ v,RG P n K ops (j+1) (BL e (An ops j).dst v) w):RG P n K ops j e w :=
 have h1:=Dk h (Gn ht hlo hhi hlh hh w)
 RG.val h1.1 h1.2 (H _)
theorem RG.Hy {t:TypeId} {sz:Nat} {r o len cap:Nat} {lo hi:Option Value} (l h':Nat) (h:Hh n ops j e=some (t,.slice (some ⟨r,o,none⟩) len cap,lo,hi)) (ht:Ki P t sz=true) (hlo:bnd lo 0 l) (hhi:bnd hi len h') (hlh:l≤h') (hh:h'≤cap) (hne:cap≠l)
 (H:RG P n K ops (j+1) (BL e (An ops j).dst (.slice (some ⟨r,o+l * sz,none⟩) (h' - l) (cap - l))) w):RG P n K ops j e w:=by
 have h1:=Dk h (Gn ht hlo hhi hlh hh w)
 rw [if_neg hne] at h1
 simp only [Option.map_some,add_lit] at h1
 exact RG.val h1.1 h1.2 H
def VX (P:Program) (n:Nat) (ops:Array Oper) (j:Nat) (e:Env):Option (FuncId × List Value) :=
 bif Ca n ops j e then
  match (An ops j).op with
  | .call c => match c.callee with
    | .value f => match ev e f with
      | .func (.func g) first cap=>some (g,first.toList++(c.args.toList.map (ev e))++cap.toList)
      | _=>none
    | _=>none
  | _=>none
 else none
theorem RG.ext {f:FuncId} {args:List Value} {v:Value} (h:VX P n ops j e=some (f,args)) (hr:(callFunc f args.toArray).run P w=.ok (.value v) w)
 (H:RG P n K ops (j+1) (BL e (An ops j).dst v) w):RG P n K ops j e w:=by
 obtain ⟨hg,h⟩:=CW h
 refine RG.val hg ?_ H
 split at h
 ·rename_i c hop
  split at h
  ·rename_i fo hcal
   split at h
   ·rename_i g first cap hf
    simp only [Option.some.injEq,Prod.mk.injEq] at h
    obtain ⟨rfl,rfl⟩:=h
    have hargs:(first.toList++(c.args.toList.map (ev e))++cap.toList).toArray=(first++c.args.map (ev e))++cap:=by
     apply Array.toList_inj.1; simp
    rw [hargs] at hr
    simp only [execOp,hop,resolve,hcal,hf,Deferred.ofValue]
    simp only [invoke]
    exact hr
   ·cases h
  ·cases h
 ·cases h
end
theorem PW {P:Program} {f:FuncId} {fn:Func} {tS tR t:TypeId} {w:World} {vb r o la ca lb cb:Nat} {cs cs2:List Value} (hf:P.funcs[f]? = some fn) (h1:(fn.name == "runtime.NumGoroutine")=false) (h2:fn.body.isNone=true) (h3:Extern.findNext fn=none)
 (h4:Extern.find fn=some (Extern.SlicesOverlaps.overlaps #[tS,tS] #[tR])) {sz:Nat} (ht:Hf P tS t sz=true) (hB:Box w vb t cs) (hR:Box w r t cs2) (hne:vb≠r) (hk:cs2.length≠0) :
 (callFunc f #[.slice (some ⟨vb,0,none⟩) la ca,.slice (some ⟨r,o,none⟩) lb cb]).run P w=.ok (.value (.bool false)) w:=by
 obtain ⟨g1,i,z,hi,hsz,_,_,_⟩:=Es ht
 have hz:∀ w,(Go.sizeOf t).run P w=.ok i.size w:=fun w=>by simp [sizeOf,typeInfo,hi,go_sem]
 unfold Box at hB hR
 rw [run_callFunc_extern hf h1 h2 h3 h4,Lib.run_overlaps_apart w tS tR t g1 i.size hz ⟨vb,0,none⟩ ⟨r,o,none⟩ la ca lb cb hne t t cs.length cs2.length (by simp [World.shape?,hB]) (by simp [World.shape?,hR]) hk (by simp [World.frozen?,hB]) (by simp [World.frozen?,hB])]
 rfl
theorem Gw {P:Program} {T T2 ty t:TypeId} {sz:Nat} {w:World} {b o dl dc sl sc k:Nat} {a2:Addr} {cs vs:List Value} (hT:Hf P T t sz=true) (hB:Box w b t cs) (hsrc:Has w a2 vs) (hvs:vs.length=k * sz) (hk:Nat.min sl dl=k) (ho:o+k * sz≤cs.length) (hone:∀ v∈vs,EH v=true) :
 ∃ w',(Builtin.copy_ #[T,T2] ty #[.slice (some ⟨b,o,none⟩) dl dc,.slice (some a2) sl sc]).run P w=.ok (goInt k) w'∧Box w' b t (BM cs o vs)∧Chg (one b) w w'∧w'.heap.size=w.heap.size:=by
 obtain ⟨g1,i,z,hi,hsz,_,_,_⟩:=Es hT
 obtain ⟨w',h1,h2,h3,h4⟩:=hB.Li (P:=P) vs (o:=o) (i:=0) AB hone
 have h5:=run_loadCellsFrom (P:=P) a2 vs 0 #[] vs rfl hsrc
 have h6:(loadCells a2 (k * i.size)).run P w=.ok vs.toArray w:=by
  rw [hsz,← hvs]
  unfold loadCells
  rw [h5]
  simp
 have hz:(sizeOf t).run P w=.ok i.size w:=by simp [sizeOf,typeInfo,hi,go_sem]
 refine ⟨w',?_,h2,h3,h4⟩
 unfold Builtin.copy_
 simp only [List.getElem?_toArray,List.getElem?_cons_zero,List.getElem?_cons_succ]
 rw [AW (run_underlying g1 w)]
 simp only [Builtin.lenOf]
 rw [AW (show (pure sl:Sem Nat).run P w=.ok sl w from rfl),AW hz,hk]
 simp only [Builtin.firstCells]
 rw [AW h6]
 simp only []
 rw [AW h1]
 rfl
theorem Si {P:Program} {T tn ty t:TypeId} {kn:IntKind} {w:World} {r n c i:Nat} {cs:List Value} (hT:Hf P T t 2=true) (htn:P.underlying tn=some (.int kn)) (hB:Box w r t cs) (hl:cs.length=c * 2) (hi:i< n) (hn:n≤c) (hc:c< n+1) (hs:n≤1000000000) :
 ∃ gc ob w', (Builtin.append_ #[T, tn] ty #[.slice (some ⟨r, 0, none⟩) i c, .int .i64 ((n : Int) + 1 - i)]).run P w = .ok (.slice (some ⟨w.heap.size, 0, none⟩) (n + 1) gc) w' ∧
   Box w' w.heap.size t ob∧ob.length=gc * 2∧n+1≤gc∧gc≤maxLen∧ob.take (i * 2)=cs.take (i * 2)∧Ext w w'∧w'.heap.size=w.heap.size+1:=by
 obtain ⟨g1,inf,z,hinf,hsz,hby,hz,hzs⟩:=Es hT
 have hBx:=hB
 unfold Box at hBx
 have hole:(cs.take (i * 2)).length=i * inf.size:=by rw [List.length_take,hsz]; omega
 have hold:(Builtin.firstCells inf.size i (.slice (some ⟨r,0,none⟩) i c)).run P w.drew=.ok (cs.take (i * 2)).toArray w.drew:=by
  have hh:Has w.drew ⟨r,0,none⟩ (cs.take (i * 2)):=by
   intro k u hu
   rw [List.getElem?_take] at hu
   split at hu
   ·rw [add_lit]
    show World.cell? w.drew _=_
    have:w.drew.heap=w.heap:=rfl
    simp only [World.cell?,this,hBx]
    simpa using hu
   ·cases hu
  have h1:=run_loadCellsFrom (P:=P) ⟨r,0,none⟩ (cs.take (i * 2)) 0 #[] _ rfl hh
  simp only [Builtin.firstCells,loadCells]
  rw [List.drop_zero] at h1
  rw [← hole,h1]
  simp
 have hr:=Lib.run_append_grow_zeros (P:=P) w T tn ty t inf z .i64 kn g1 htn hinf hz (some ⟨r,0,none⟩) i c (cs.take (i * 2)) hold (n+1 - i) AB AB AB AB (Nat.le_trans (Nat.mul_le_mul (show n+1 - i≤1000000001 by omega) hby) AB)
  (growslice_fits AB (Nat.le_trans (Nat.mul_le_mul (show i+(n+1 - i)≤1000000001 by omega) hby) AB))
 rw [show i+(n+1 - i)=n+1 by omega] at hr
 generalize hg:grownCap w (n+1) c t=gc at hr
 have hge:n+1≤gc:=by rw [← hg]; exact grownCap_ge _ _ _ _
 have hgm:gc≤maxLen:=by rw [← hg]; exact grownCap_le_maxLen _ _ _ _ (by unfold maxLen; omega)
 generalize hob:((cs.take (i * 2)).toArray++Builtin.zeroCells z.cells (n+1 - i)++Builtin.zeroCells z.cells (gc - (n+1)))=ob at hr
 have hnew:(w.drew.alloc (.cells ob t)).heap[w.heap.size]? = some (.cells ob t (0,0)):=heap_alloc_new w.drew _
 have hoth:∀ k,k< w.heap.size→(w.drew.alloc (.cells ob t)).heap[k]? = w.heap[k]? := fun k hk=>heap_alloc_old w.drew _ k hk
 have hoz:ob.size=gc * 2:=by
  rw [← hob]
  simp only [Array.size_append,List.size_toArray,hole,hsz,size_zeroCells,hzs,← Nat.add_mul]
  congr 1
  omega
 refine ⟨gc,ob.toList,w.drew.alloc (.cells ob t),?_,by unfold Box; simpa using hnew,by simpa using hoz,hge,hgm,?_,⟨rfl,rfl,rfl,by simp,fun k hk _=>hoth k hk⟩,by simp⟩
 ·have he:((n+1 - i:Nat):Int)=(n:Int)+1 - i:=by omega
  rw [he] at hr
  exact hr
 ·rw [← hob]
  simp only [Array.toList_append,List.append_assoc]
  rw [List.take_append_of_le_length (by rw [hole,hsz]; omega)]
  rw [List.take_of_length_le (by rw [hole,hsz]; omega)]
theorem Qs {P:Program} {T tn ty t:TypeId} {kn:IntKind} {w:World} {r n c i:Nat} {cs:List Value} (hT:Hf P T t 2=true) (htn:P.underlying tn=some (.int kn)) (hB:Box w r t cs) (hl:cs.length=c * 2) (hi:i< n) (hn:n≤c) (hc:c< n+1) (hs:n≤1000000000) :
 ∃ b, b = w.heap.size ∧ ∃ gc ob w', (Builtin.append_ #[T, tn] ty #[.slice (some ⟨r, 0, none⟩) i c, .int .i64 ((n : Int) + 1 - i)]).run P w = .ok (.slice (some ⟨b, 0, none⟩) (n + 1) gc) w' ∧
   Box w' b t ob∧ob.length=gc * 2∧n+1≤gc∧gc≤maxLen∧ob.take (i * 2)=cs.take (i * 2)∧Ext w w'∧w'.heap.size=w.heap.size+1 :=
 ⟨_,rfl,Si hT htn hB hl hi hn hc hs⟩
theorem Qt {cs vs:List Value} {o:Nat} (h:o+vs.length≤cs.length):(BM cs o vs).take o=cs.take o:=by
 unfold BM
 rw [List.append_assoc,List.take_append_of_le_length (by rw [List.length_take]; omega),List.take_take,Nat.min_self]
theorem PX {cs vs:List Value} {o:Nat} (h:o+vs.length≤cs.length):(BM cs o vs).take (o+vs.length)=cs.take o++vs:=by
 unfold BM
 have:(cs.take o++vs).length=o+vs.length:=by rw [List.length_append,List.length_take]; omega
 rw [← this,List.take_left]
theorem EV {cs vs:List Value} {o:Nat} (h:o+vs.length≤cs.length):(BM cs o vs).length=cs.length:=by
 unfold BM
 simp only [List.length_append,List.length_take,List.length_drop]
 omega
def Fk (y:Row):List Value:=[.int .i64 y.t,.int .i64 y.v]
theorem GZ (y:Row):(Fk y).length=2:=rfl
section
variable {cs ob:List Value} {xs:List Row} {y:Row} {n c gc i:Nat}
theorem Nn (hx:cs.take (n * 2)=BX xs) (hn:n=xs.length):(cs.drop (i * 2)).take ((n - i) * 2)=BX (xs.drop i):=by
 rw [JK,← hx,List.drop_take]
 congr 1
 omega
theorem Tv (hx:cs.take (n * 2)=BX xs) (hi:i≤n):cs.take (i * 2)=BX (xs.take i):=by
 rw [Mo,← hx,List.take_take,Nat.min_eq_left AB]
theorem VY (a b:List Value) (ha:a=BX (xs.take i)):(a++Fk y++BX (xs.drop i)++b).take ((xs.take i++y::xs.drop i).length * 2)=BX (xs.take i++y::xs.drop i):=by
 have h1:a++Fk y++BX (xs.drop i)=BX (xs.take i++y::xs.drop i):=by
  rw [Nl,ha,List.append_assoc]
  congr 1
 rw [h1,← Dj,List.take_left]
theorem V9 (hl:cs.length=c * 2) (hx:cs.take (n * 2)=BX xs) (hn:n=xs.length) (hi:i< n) (hc:n+1≤c) :
 (BM (BM cs ((i+1) * 2) ((cs.drop (i * 2)).take ((n - i) * 2))) (i * 2) (Fk y)).take ((xs.take i++y::xs.drop i).length * 2)=BX (xs.take i++y::xs.drop i) ∧
  (BM (BM cs ((i+1) * 2) ((cs.drop (i * 2)).take ((n - i) * 2))) (i * 2) (Fk y)).length=c * 2:=by
 rw [Nn hx hn]
 have hm:(BX (xs.drop i)).length=(n - i) * 2:=by rw [Dj,List.length_drop]; omega
 have h1:(i+1) * 2+(BX (xs.drop i)).length≤cs.length:=by rw [hm]; omega
 have h2:=EV h1
 have h3:i * 2+(Fk y).length≤(BM cs ((i+1) * 2) (BX (xs.drop i))).length:=by rw [h2,GZ]; omega
 refine ⟨?_,by rw [EV h3,h2,hl]⟩
 have e1:(BM cs ((i+1) * 2) (BX (xs.drop i))).take (i * 2)=cs.take (i * 2):=by
  have:=congrArg (fun l=>l.take (i * 2)) (Qt h1)
  simpa [List.take_take,Nat.min_eq_left (show i * 2≤(i+1) * 2 by omega)] using this
 have e2:(BM cs ((i+1) * 2) (BX (xs.drop i))).drop (i * 2+(Fk y).length)=BX (xs.drop i)++cs.drop ((i+1) * 2+(BX (xs.drop i)).length):=by
  rw [GZ,show i * 2+2=(i+1) * 2 by omega]
  unfold BM
  have:(cs.take ((i+1) * 2)).length=(i+1) * 2:=by rw [List.length_take]; omega
  rw [List.append_assoc]
  have h5:(cs.take ((i+1) * 2)++(BX (xs.drop i)++cs.drop ((i+1) * 2+(BX (xs.drop i)).length))).drop (cs.take ((i+1) * 2)).length=BX (xs.drop i)++cs.drop ((i+1) * 2+(BX (xs.drop i)).length):=List.drop_left
  rw [this] at h5
  exact h5
 unfold BM at e1 e2 ⊢
 rw [e1,e2,← List.append_assoc]
 exact VY _ _ (Tv hx AB)
theorem WA (hl:ob.length=gc * 2) (ho:ob.take (i * 2)=cs.take (i * 2)) (hx:cs.take (n * 2)=BX xs) (hn:n=xs.length) (hi:i< n) (hc:n+1≤gc) :
 (BM (BM ob (i * 2) (Fk y)) ((i+1) * 2) ((cs.drop (i * 2)).take ((n - i) * 2))).take ((xs.take i++y::xs.drop i).length * 2)=BX (xs.take i++y::xs.drop i) ∧
  (BM (BM ob (i * 2) (Fk y)) ((i+1) * 2) ((cs.drop (i * 2)).take ((n - i) * 2))).length=gc * 2:=by
 rw [Nn hx hn]
 have hm:(BX (xs.drop i)).length=(n - i) * 2:=by rw [Dj,List.length_drop]; omega
 have h1:i * 2+(Fk y).length≤ob.length:=by rw [GZ]; omega
 have h2:=EV h1
 have h3:(i+1) * 2+(BX (xs.drop i)).length≤(BM ob (i * 2) (Fk y)).length:=by rw [h2,hm]; omega
 refine ⟨?_,by rw [EV h3,h2,hl]⟩
 have e1:(BM ob (i * 2) (Fk y)).take ((i+1) * 2)=ob.take (i * 2)++Fk y:=by
  rw [show (i+1) * 2=i * 2+(Fk y).length by rw [GZ]; omega]
  exact PX h1
 unfold BM at e1 ⊢
 rw [e1]
 exact VY _ _ (by rw [ho]; exact Tv hx AB)
end
theorem GA.Hy {P:Program} {S:Nat→Prop} {n m:Nat} {L:Env→World→Prop} {ops:Array Oper} {l:List Nat} {e:Env} {w:World} {i:Nat} {t:TypeId} {sz r o len cap:Nat} {lo hi:Option Value} (l' h':Nat) (hb:gB n m ops l i=true) (h:Hh n ops i e=some (t,.slice (some ⟨r,o,none⟩) len cap,lo,hi)) (ht:Ki P t sz=true) (hlo:bnd lo 0 l') (hhi:bnd hi len h') (hlh:l'≤h') (hh:h'≤cap) (hne:cap≠l')
 (H:GA P S n m L ops (i::l) (BL e (An ops i).dst (.slice (some ⟨r,o+l' * sz,none⟩) (h' - l') (cap - l'))) w):GA P S n m L ops l e w:=by
 refine GA.JS hb (fun w=>?_) H
 have h1:=Dk h (Gn ht hlo hhi hlh hh w)
 rw [if_neg hne] at h1
 simp only [Option.map_some,add_lit] at h1
 exact h1
theorem Mp {cs:List Value} {a k:Nat} (h:((cs.drop a).take k).length≤k):(cs.drop a).take ((cs.drop a).take k).length=(cs.drop a).take k:=by
 rw [List.length_take]
 by_cases hk:k≤(cs.drop a).length
 ·rw [Nat.min_eq_left hk]
 ·rw [Nat.min_eq_right AB,List.take_of_length_le (Nat.le_refl _),List.take_of_length_le AB]
theorem Ok {a b k:Nat} (h:b≤a∧b=k∨a≤b∧a=k):Nat.min a b=k:=by
 show min a b=k
 omega
theorem Sj {w:World} {r t n c i:Nat} {F:Nat→Prop} {xs:List Row} {y:Row} (h:Own w r t F (n+1) c (xs++[y])) (hi:xs.length≤i):Own w r t F (n+1) c (xs.take i++y::xs.drop i):=by
 rw [List.take_of_length_le hi,List.drop_of_length_le hi]
 exact h
end Go.Proofs.YtganlmloonielaaGreat
namespace Go.Proofs.YtganlmloonielaaGreat
set_option maxRecDepth 100000
set_option maxHeartbeats 4000000
theorem Df {w:World} {F:Nat→Prop} {r n c vb i:Nat} {xs:List Row} {y:Row} (ho:Own w r 105 F n c xs) (hv:Box w vb 105 [.int .i64 y.t,.int .i64 y.v]) (hne:vb≠r) (hi:i≤n) (hn:n≤1000000):Calls Tryz.prog 162 [.slice (some ⟨r,0,none⟩) n c,.int .i64 (i:Int),.slice (some ⟨vb,0,none⟩) 1 1].toArray w (As fun rv w'=>(∃ r2 c2,rv=.slice (some ⟨r2,0,none⟩) (n+1) c2∧Own w' r2 105 all (n+1) c2 (xs.take i++y::xs.drop i)∧OrB r2 r w.heap.size)∧Chg (one r) w w'):=by
 refine goT Tryz.func162 ?_
 replace hne:Nb vb r:=hne
 have hnx:=ho.len; have hle:=ho.le; have hcm:=ho.cap
 replace ho:Own w r 105 (nin all [r]) n c xs:=ho.flat Bx
 refine .s<|.g<|.r 1<|.d<|.s<|.g<|.r 2<|RG.V8 (a:=some ⟨r,0,none⟩) (t:=91) (lo:=some (vI (i:Int))) (hi:=none) (sz:=2) i n AA AA (.inr ⟨_,_,rfl,by omega⟩) (.inl ⟨rfl,rfl⟩) AB AB fun v_=>.d<|.s<|.g<|.r 3<|.d<|.s<|.s<|.g<|.r 1<|.eq 1 0 (fun ax=>.d<|.ct<|.s<|.g<|.r 2<|.d<|absurd (show False by omega) id) fun ax=>.d<|.cf<|.sk<|.s<|.g<|.r 3<|.d<|.s<|.s<|.g<|.r 2<|.eq (i:Int) (n:Int) (fun ay=>?_) (fun ay=>?_)
 ·refine .d<|.ct<|.s<|.g<|.r 2 ?_
  have W:nin all [r] vb∧vb≠r:=BG trivial (all_cons hne all_nil) hne
  refine RG.Ap (T:=91) (ty:=91) (y:=y) ho hv AA AA rfl W AB fun aG aH aI O aa ab=>?_
  have az:=Am aa (Cov.mk1 w r) (Nat.le_refl _)
  replace hv:=(s1 ab).g1 hv
  have aA:Chg (one r) w aI:=Chg.Ew (Chg.refl (one r) w) ab (Cov.mk1 w r)
  replace O:=O.rn r
  have aM:=O.len; have aN:=O.max
  exact .r 1<|.d<|.rt Tryz.func162 Tryz.results162 (vS aG (n+1) aH) ⟨⟨_,_,rfl,Sj (O.flat Bx) AB,az⟩,aA⟩
 refine .d<|.cf<|.sk<|.s<|.s<|.g<|.r 2<|.it ((n:Int)+1)<|.r 2<|.bp ((n:Int)+1 > (c:Int)) (fun aB=>?_) (fun aB=>?_)
 ·refine .d<|.ct<|.s<|.g<|.r 2 ?_
  obtain ⟨cs,hbx,hcl,hct,aC,aD⟩:=ho.box
  refine RG.Hy (r:=r) (o:=0) (len:=n) (cap:=c) (t:=91) (lo:=none) (hi:=some (vI (i:Int))) (sz:=2) 0 i AA AA (.inl ⟨rfl,rfl⟩) (.inr ⟨_,_,rfl,by omega⟩) AB AB AB<|.r 2<|.it ((n:Int)+1)<|.r 1<|.it (((n:Int)+1) - (i:Int)) ?_
  obtain ⟨b2,hq,gc,ob,w2,hrun,aJ,hol,hge,hgm,hot,aE,aO⟩:=Qs (P:=Tryz.prog) (T:=91) (tn:=3) (ty:=91) (kn:=.i64) (n:=n) AA AA hbx hcl (by omega:i< n) AB AB AB
  refine RG.append (ats:=[91,3]) (args:=[vS r i c,vI ((n:Int)+1 - i)]) AA hrun ?_
  have aP:=AS hq hbx.lt
  have aQ:=AS hq hv.lt
  have aF:Cov (one r) w b2:=Bc hq (Nat.le_refl _)
  replace ⟨hbx,hv⟩:=(se [] aE).g2 hbx hv
  have C:Chg (one r) w w2:=Chg.Cc (Chg.refl (one r) w) aE
  refine .r 1<|.d<|.s<|.g<|.r 2<|RG.Hy (r:=b2) (o:=0) (len:=(n+1)) (cap:=gc) (t:=91) (lo:=some (vI (i:Int))) (hi:=none) (sz:=2) i (n+1) AA AA (.inr ⟨_,_,rfl,by omega⟩) (.inl ⟨rfl,rfl⟩) AB AB AB<|.r 1 ?_
  obtain ⟨aK,ae,J,ai,aR⟩:=Gw (P:=Tryz.prog) (a2:=⟨vb,0,none⟩) (T:=91) (T2:=91) (ty:=3) (t:=105) (sz:=2) (o:=(0+i * 2)) (dl:=((n+1) - i)) (dc:=(gc - i)) (sl:=1) (sc:=1) (k:=1) (vs:=(Fk y)) AA aJ (hv.has 0 (Fk y) rfl) (by rfl) (Nat.min_eq_left AB) (by have:=hcl; omega) (by intro v hv_; simp [Fk] at hv_; rcases hv_ with rfl | rfl <;> rfl)
  refine RG.copy (ats:=[91,91]) (args:=[.slice (some ⟨b2,0+i * 2,none⟩) ((n+1) - i) (gc - i),vS vb 1 1]) AA ae ?_
  rw [Nat.zero_add] at J
  replace ⟨hbx,hv,C⟩:=(s1 ai).g3 hbx hv C
  refine .d<|.s<|.gd (mtb [] aK.heap.size) 8 fun aW aj=>?_
  replace ⟨hbx,hv,J,C⟩:=(se [] aj).g4 hbx hv J C
  refine .r [0,1,2]<|GA.int (i:=3) ((i:Int)+1) AA AB<|GA.Hy (i:=4) (r:=b2) (o:=0) (len:=(n+1)) (cap:=gc) (t:=91) (lo:=some (vI ((i:Int)+1))) (hi:=none) (sz:=2) (i+1) (n+1) AA AA AA (.inr ⟨_,_,rfl,by omega⟩) (.inl ⟨rfl,rfl⟩) AB AB AB<|.r [5,6]<|GA.Hy (i:=7) (r:=r) (o:=0) (len:=n) (cap:=c) (t:=91) (lo:=some (vI (i:Int))) (hi:=none) (sz:=2) i n AA AA AA (.inr ⟨_,_,rfl,by omega⟩) (.inl ⟨rfl,rfl⟩) AB AB AB<|.d fun aX ak=>?_
  replace ⟨hbx,hv,J,C⟩:=(se [] ak).g4 hbx hv J C
  obtain ⟨aY,af,al,am,aS⟩:=Gw (P:=Tryz.prog) (a2:=⟨r,0+i * 2,none⟩) (T:=91) (T2:=91) (ty:=3) (t:=105) (sz:=2) (o:=(0+(i+1) * 2)) (dl:=((n+1) - (i+1))) (dc:=(gc - (i+1))) (sl:=(n - i)) (sc:=(c - i)) (k:=(n - i)) (vs:=((cs.drop (i * 2)).take ((n - i) * 2))) AA J (by rw [Nat.zero_add]; exact hbx.has (i * 2) ((cs.drop (i * 2)).take ((n - i) * 2)) (Mp (by simp; omega))) (by rw [Nn hct hnx,Dj,List.length_drop]; omega) (Ok AB) (by have:=hcl; rw [EV (by rw [GZ]; omega)]; omega) (by rw [Nn hct hnx]; exact KI _)
  refine RG.copy (ats:=[91,91]) (args:=[.slice (some ⟨b2,0+(i+1) * 2,none⟩) ((n+1) - (i+1)) (gc - (i+1)),.slice (some ⟨r,0+i * 2,none⟩) (n - i) (c - i)]) AA af ?_
  rw [Nat.zero_add] at al
  replace ⟨hbx,hv,C⟩:=(s1 am).g3 hbx hv C
  refine .d<|.s<|.g<|.r 2<|.d ?_
  have hfin:=WA (y:=y) hol hot hct hnx (by omega:i< n) AB
  have hlen:(xs.take i++y::xs.drop i).length=n+1:=by simp; omega
  have hown:=Own.Tu (F:=all) al hfin.2 hfin.1 (by rw [hlen]; omega) AB
  rw [hlen] at hown
  exact .rt Tryz.func162 Tryz.results162 (vS b2 (n+1) gc) ⟨⟨_,_,rfl,hown,aF⟩,C⟩
 refine .d<|.cf<|.sk<|.s<|.g<|.r 3<|.it ((n:Int)+1) ?_
 obtain ⟨cs,hbx,hcl,hct,aC,aD⟩:=ho.box
 refine RG.Hy (r:=r) (o:=0) (len:=n) (cap:=c) (t:=91) (lo:=none) (hi:=some (vI ((n:Int)+1))) (sz:=2) 0 (n+1) AA AA (.inl ⟨rfl,rfl⟩) (.inr ⟨_,_,rfl,by omega⟩) AB AB AB<|.r 1<|.d<|.s<|.s<|.g<|.r 4<|.it ((i:Int)+1)<|RG.Hy (r:=r) (o:=0) (len:=(n+1)) (cap:=c) (t:=91) (lo:=some (vI ((i:Int)+1))) (hi:=none) (sz:=2) (i+1) (n+1) AA AA (.inr ⟨_,_,rfl,by omega⟩) (.inl ⟨rfl,rfl⟩) AB AB AB<|RG.ext (f:=179) (args:=[vS vb 1 1,.slice (some ⟨r,0+(i+1) * 2,none⟩) (n+1 - (i+1)) (c - (i+1))]) AA (PW (fn:=Tryz.f179) (tS:=91) (tR:=4) (sz:=2) Tryz.func179 AA AA AA AA AA hv hbx hne AB)<|.r 1<|.d<|.ct<|.s<|.gd (mtb [] w.heap.size) 8 fun aL ac=>?_
 replace ⟨hbx,hv⟩:=(se [] ac).g2 hbx hv
 have E:Chg (one r) w aL:=Chg.Cc (Chg.refl (one r) w) ac
 refine .r [0,1,2]<|GA.int (i:=3) ((i:Int)+1) AA AB<|GA.Hy (i:=4) (r:=r) (o:=0) (len:=(n+1)) (cap:=c) (t:=91) (lo:=some (vI ((i:Int)+1))) (hi:=none) (sz:=2) (i+1) (n+1) AA AA AA (.inr ⟨_,_,rfl,by omega⟩) (.inl ⟨rfl,rfl⟩) AB AB AB<|.r [5,6]<|GA.Hy (i:=7) (r:=r) (o:=0) (len:=(n+1)) (cap:=c) (t:=91) (lo:=some (vI (i:Int))) (hi:=none) (sz:=2) i (n+1) AA AA AA (.inr ⟨_,_,rfl,by omega⟩) (.inl ⟨rfl,rfl⟩) AB AB AB<|.d fun aZ ao=>?_
 replace ⟨hbx,hv,E⟩:=(se [] ao).g3 hbx hv E
 obtain ⟨ba,ag,aq,ar,aT⟩:=Gw (P:=Tryz.prog) (a2:=⟨r,0+i * 2,none⟩) (T:=91) (T2:=91) (ty:=3) (t:=105) (sz:=2) (o:=(0+(i+1) * 2)) (dl:=(n+1 - (i+1))) (dc:=(c - (i+1))) (sl:=(n+1 - i)) (sc:=(c - i)) (k:=(n - i)) (vs:=((cs.drop (i * 2)).take ((n - i) * 2))) AA hbx (by rw [Nat.zero_add]; exact hbx.has (i * 2) ((cs.drop (i * 2)).take ((n - i) * 2)) (Mp (by simp; omega))) (by rw [Nn hct hnx,Dj,List.length_drop]; omega) (Ok AB) (by have:=hcl; omega) (by rw [Nn hct hnx]; exact KI _)
 refine RG.copy (ats:=[91,91]) (args:=[.slice (some ⟨r,0+(i+1) * 2,none⟩) (n+1 - (i+1)) (c - (i+1)),.slice (some ⟨r,0+i * 2,none⟩) (n+1 - i) (c - i)]) AA ag ?_
 rw [Nat.zero_add] at aq
 replace ⟨hv,E⟩:=(s1 ar).g2 hv E
 refine .d<|.s<|.g<|.r 2<|RG.Hy (r:=r) (o:=0) (len:=(n+1)) (cap:=c) (t:=91) (lo:=some (vI (i:Int))) (hi:=none) (sz:=2) i (n+1) AA AA (.inr ⟨_,_,rfl,by omega⟩) (.inl ⟨rfl,rfl⟩) AB AB AB<|.r 1 ?_
 obtain ⟨bc,ah,au,av,aU⟩:=Gw (P:=Tryz.prog) (a2:=⟨vb,0,none⟩) (T:=91) (T2:=91) (ty:=3) (t:=105) (sz:=2) (o:=(0+i * 2)) (dl:=(n+1 - i)) (dc:=(c - i)) (sl:=1) (sc:=1) (k:=1) (vs:=(Fk y)) AA aq (hv.has 0 (Fk y) rfl) (by rfl) (Nat.min_eq_left AB) (by have:=hcl; rw [EV (by rw [Nn hct hnx,Dj,List.length_drop]; omega)]; omega) (by intro v hv_; simp [Fk] at hv_; rcases hv_ with rfl | rfl <;> rfl)
 refine RG.copy (ats:=[91,91]) (args:=[.slice (some ⟨r,0+i * 2,none⟩) (n+1 - i) (c - i),vS vb 1 1]) AA ah ?_
 rw [Nat.zero_add] at au
 replace ⟨hv,E⟩:=(s1 av).g2 hv E
 refine .d<|.s<|.g<|.r 2<|.d ?_
 have hfin:=V9 (y:=y) hcl hct hnx (by omega:i< n) AB
 have hlen:(xs.take i++y::xs.drop i).length=n+1:=by simp; omega
 have hown:=Own.Tu (F:=all) au hfin.2 hfin.1 (by rw [hlen]; omega) AB
 rw [hlen] at hown
 exact .rt Tryz.func162 Tryz.results162 (vS r (n+1) c) ⟨⟨_,_,rfl,hown,BJ⟩,E⟩
end Go.Proofs.YtganlmloonielaaGreat
namespace Go.Proofs.YtganlmloonielaaGreat
theorem Own.Sk {w:World} {r t c:Nat} {F:Nat→Prop} {y:Row} (h:Own w r t F 1 c [y]) (hc:c=1:=by rfl):Box w r t [.int .i64 y.t,.int .i64 y.v]:=by
 obtain ⟨cs,h1,h2,h3,_,_⟩:=h.box
 subst hc
 rw [List.take_of_length_le AB] at h3
 rw [h3] at h1
 exact h1
theorem Mv.Sl {w w':World} {r r2:Nat} (A B:List Nat) (hx:Chg (Go.Proofs.YtganlmloonielaaGreat.one r) w w') (h:OrB r2 r w.heap.size):Mv (A++r::B) (A++r2::B) w w':=Mv.mk hx (fun k hk hm=>by
 unfold OrB at h
 simp only [List.mem_append,List.mem_cons,not_or] at hm ⊢
 exact ⟨⟨hm.1,by omega,hm.2.2⟩,hm.2.1⟩)
theorem Sm {b:List Row} {r x:Row} {i:Nat} (h:b.take i++DA r (b.drop i)=DA r b) (hx:b[i]? = some x) (ht:x.t< r.t):b.take (i+1)++DA r (b.drop (i+1))=DA r b:=by
 rw [AX hx,DA,if_neg AB,if_neg AB] at h
 rw [← h,List.take_add_one,hx]
 simp
theorem Qu {b:List Row} {r x:Row} {i:Nat} (h:b.take i++DA r (b.drop i)=DA r b) (hx:b[i]? = some x) (ht:x.t=r.t):b.set i r=DA r b:=by
 rw [AX hx,DA,if_neg AB,if_pos AB] at h
 rw [← h]
 obtain ⟨h1,h2⟩:=List.getElem?_eq_some_iff.1 hx
 rw [List.set_eq_take_append_cons_drop,if_pos h1]
theorem UT {b:List Row} {r x:Row} {i:Nat} (h:b.take i++DA r (b.drop i)=DA r b) (hx:b[i]? = some x) (h1:¬ x.t< r.t) (h2:x.t≠r.t):b.take i++r::b.drop i=DA r b:=by
 rw [← h]
 congr 1
 rw [AX hx,DA,if_pos AB]
theorem Np {b:List Row} {r:Row} {i:Nat} (h:b.take i++DA r (b.drop i)=DA r b) (hi:b.length≤i):b.take i++r::b.drop i=DA r b:=by
 rw [← h,AY hi]
 rfl
def BQ (p:Prt) (id:Int):List Row:=if Au p then partOf p id else []
theorem Io (v:Int):∀ (is:List Int) (bs:List (List Row)) (i:Nat),is.length=bs.length→(Dr v i is = -1∧Bp v is bs=[])∨((i:Int)≤Dr v i is∧Dr v i is< (i:Int)+is.length∧∃ b,bs[(Dr v i is).toNat - i]? = some b∧Bp v is bs=b):=by
 intro is
 induction is with
 | nil=>intro bs i h; left; exact ⟨rfl,by unfold Bp; rfl⟩
 | cons x xs ih =>
   intro bs i h
   cases bs with
   | nil=>simp at h
   | cons b bs =>
     unfold Dr Bp
     by_cases hx:(x==v)=true
     ·right
      rw [if_pos hx,if_pos hx]
      refine ⟨by omega,by simp only [List.length_cons]; omega,b,?_,rfl⟩
      simp
     ·rw [if_neg hx,if_neg hx]
      rcases ih bs (i+1) (by simpa using h) with ⟨h1,h2⟩ | ⟨h1,h2,c,h3,h4⟩
      ·left; exact ⟨h1,h2⟩
      ·right
       refine ⟨by omega,by simp only [List.length_cons]; omega,c,?_,h4⟩
       rw [show (Dr v (i+1) xs).toNat - i=((Dr v (i+1) xs).toNat - (i+1))+1 by omega,List.getElem?_cons_succ]
       exact h3
theorem F0 {p:Prt} (h:Au p=true):p.ids.length=p.blocks.length:=by
 unfold Au at h
 simp only [AR,decide_eq_true_eq] at h
 exact h.1
theorem Sn {p:Prt} {id:Int} (h:Au p=false):BQ p id=[]:=by unfold BQ; rw [h]; rfl
theorem So {p:Prt} {id:Int} (h:Au p=true) (h2:Dr id 0 p.ids< 0):BQ p id=[]:=by
 unfold BQ partOf
 rw [if_pos h]
 rcases Io id p.ids p.blocks 0 (F0 h) with ⟨_,h3⟩ | ⟨h1,_⟩
 ·exact h3
 ·omega
theorem Sq {p:Prt} {id:Int} {b:List Row} (h:Au p=true) (h2:¬ Dr id 0 p.ids< 0) (hb:p.blocks[(Dr id 0 p.ids).toNat]? = some b):BQ p id=b:=by
 unfold BQ partOf
 rw [if_pos h]
 rcases Io id p.ids p.blocks 0 (F0 h) with ⟨h1,_⟩ | ⟨_,_,c,h3,h4⟩
 ·omega
 ·rw [Nat.sub_zero,hb] at h3
  cases h3
  exact h4
theorem Sr {p:Prt} {id:Int} (h:Au p=true) (h2:¬ Dr id 0 p.ids< 0):(Dr id 0 p.ids).toNat< p.blocks.length:=by
 rcases Io id p.ids p.blocks 0 (F0 h) with ⟨h1,_⟩ | ⟨_,h3,_⟩
 ·omega
 ·have:=F0 h; omega
theorem PrtI.ofI {p:Prt} (h:PrtI p) (id:Int):Blk (BQ p id):=by
 unfold BQ
 split
 ·exact h.of id
 ·exact Blk.nil
theorem E6 {α β:Type} {f:β→α→β} {l:List α} {i:Nat} {b:β} {x:α} {Y:β} (h:(l.drop i).foldl f b=Y) (hd:l.drop i=x::l.drop (i+1)):(l.drop (i+1)).foldl f (f b x)=Y:=by
 rw [hd] at h
 exact h
theorem FK {α β:Type} {f:β→α→β} {l:List α} {i:Nat} {b:β} {Y:β} (h:(l.drop i).foldl f b=Y) (hi:l.length≤i):b=Y:=by
 rw [AY hi] at h
 exact h
theorem LG {id:Int} {o:List Row} {m:Smp} (h:m.id=id) (ho:Blk o):Cg id o m=DA m.row o:=by unfold Cg; rw [if_pos (by simpa using h),Fi ho]
theorem KJ {id:Int} {o:List Row} {m:Smp} (h:m.id≠id):Cg id o m=o:=by unfold Cg; rw [if_neg (by simpa using h)]
theorem Blk.ins {b:List Row} (h:Blk b) {r:Row} (hr:Bw r=true):Blk (DA r b):=by rw [← Fi h]; exact h.put hr
theorem VZ {p:Prt} {a:List Int} {b:List (List Row)} (ha:a=p.ids) (hb:b=p.blocks):(⟨a,b⟩:Prt)=p:=by subst ha hb; rfl
theorem Qv {α:Type} {l k:List α} {i:Nat} (h:k++l.drop i=l) (hi:l.length≤i):k=l:=by
 rw [AY hi,List.append_nil] at h
 exact h
end Go.Proofs.YtganlmloonielaaGreat
namespace Go.Proofs.YtganlmloonielaaGreat
set_option maxRecDepth 100000
set_option maxHeartbeats 4000000
theorem HS (b:List Row) (r:Row) {w:World} {F:Nat→Prop} {a1:Option Addr} {n1 c1:Nat} (h1:RepS w F a1 n1 c1 b) (p0:b.length≤100000):Calls Tryz.prog 122 [.slice a1 n1 c1,.agg #[.int .i64 r.t,.int .i64 r.v]].toArray w (As fun rv w'=>VL (ge w.heap.size) w' (DA r b:List Row) rv∧Ext w w'):=by
 refine goT Tryz.func122 ?_
 obtain ⟨rfl,eY,h1⟩:=h1.tp
 refine .s<|.g<|.np 105 [vI r.t,vI r.v] fun O fC bW bj E dm=>?_
 replace h1:=(sn [] bj bW).g1 h1
 have C:=bj
 refine .r 1<|.d<|.s<|.g<|.ns 0 105 [] fun cq d8 aY bX dp dq=>?_
 have dr:=AS aY E.lt
 have dt:=Ad aY C.size
 have du:=C.cn aY
 replace ⟨h1,E,C⟩:=(sn [O] bX aY).g3 h1 E C
 have dv:Own (α:=Row) d8 cq 105 (nin (ge w.heap.size) [cq,O]) 0 0 []:=Own.Ag dp
 refine .r 1<|RG.Ay (T:=91) (ty:=91) Bx dv h1 AA AA (fun b h e=>h.2 (e▸AD)) AB fun W cr dw J aK bY=>?_
 have eZ:=Ae aK dr E.lt
 have bZ:=Bt aK dt C.size
 have e7:=Am aK du C.size
 replace ⟨E,C⟩:=(s1 bY).g2 E C
 replace J:=J.rn cq
 have e8:=J.len; have fa:=J.max
 refine .r 1<|.d<|.s<|.g<|.r 1<|.d<|.s<|.b 0<|T.loop (X:=Nat) 0 (fun at_=>[(3,.pointer (some ⟨O,0,none⟩)),(5,vS W (0+b.length) cr),(6,vI (at_:Int))]) (fun at_ cu=>Chg (ins []) dw cu∧(at_≤b.length)∧(b.take at_++DA r (b.drop at_)=DA r b)) (fun at_=>b.length - at_) AA ⟨AA,AA,AA,trivial⟩ ⟨Chg.refl _ _,AB,(by simp)⟩ ?_
 rintro at_ fD cu ⟨ay,fb,fc⟩ bk
 have b0:Mv [W,O] [W,O] dw cu:=Mv.inl ay all_nil (all_cons (.inl AD) (all_cons (.inl AE) all_nil))
 replace ⟨E,J,C⟩:=(sp b0 ay).g3 E J C
 refine .s<|.s<|.gd nil 12 fun d9 b6=>?_
 replace ⟨E,J,C,ay⟩:=(se [W,O] b6).g4 E J C ay
 refine .r [0,1,2]<|GA.EE (i:=3) ((at_:Int)< ((0+b.length):Int)) AA (fun dx=>?_) (fun dx=>?_)
 ·refine .r [4,5,6] ?_
  have dy:at_< 0+b.length:=AB
  refine GA.idx (i:=7) (b:=W) (o:=0) at_ (len:=0+b.length) (z:=(at_:Int)) (sz:=2) AA AB dy rfl<|.r [8] ?_
  obtain ⟨am,aF⟩:∃ y,([]++b)[at_]? = some y:=⟨_,AP AB⟩
  have fd:=AX aF; have d7:=AQ aF
  obtain ⟨_,rfl,bm⟩:=J.elem at_ am aF
  replace bm:Has d9 ⟨W,0+at_ * Rep.sz Row,none⟩ [vI am.t,vI am.v]:=by rw [Nat.zero_add]; exact bm
  refine .lh 9 0 bm id<|.r [10]<|.lb 11 E id<|.d fun fE b7=>?_
  replace ⟨E,J,C,ay⟩:=(se [W,O] b7).g4 E J C ay
  refine .bp (am.t< r.t) (fun dz=>.r 1<|.d<|.ct<|.sk<|.b 1<|.g<|.r 1<|.it ((at_:Int)+1)<|.r 1<|.d<|.ib 1<|bk (at_+1) _ _ ⟨AA,AA,AA,trivial⟩ ⟨ay,AB,(by exact Sm ‹_› ‹_› ‹_›)⟩ AB) fun dz=>.r 1<|.d<|.cf<|.x 0 rfl<|.s<|.s<|.gd nil 12 fun ec b8=>?_
  replace ⟨E,J,C⟩:=(se [W,O] b8).g3 E J C
  refine .r [0,1,2]<|GA.EE (i:=3) ((at_:Int)< ((0+b.length):Int)) AA (fun dA=>?_) (fun dA=>?_)
  ·refine .r [4,5,6] ?_
   have dB:at_< 0+b.length:=AB
   refine GA.idx (i:=7) (b:=W) (o:=0) at_ (len:=0+b.length) (z:=(at_:Int)) (sz:=2) AA AB dB rfl<|.r [8] ?_
   obtain ⟨_,rfl,bn⟩:=J.elem at_ am aF
   replace bn:Has ec ⟨W,0+at_ * Rep.sz Row,none⟩ [vI am.t,vI am.v]:=by rw [Nat.zero_add]; exact bn
   refine .lh 9 0 bn id<|.r [10]<|.lb 11 E id<|.d fun ed b9=>?_
   replace ⟨E,J,C⟩:=(se [W,O] b9).g3 E J C
   refine .eq am.t r.t (fun dC=>?_) (fun dC=>?_)
   ·refine .r 1<|.d<|.ct<|.s<|.g<|.r 2<|.ln E ?_
    have dD:at_< 0+b.length:=AB
    refine RG.idx (b:=W) (o:=0) at_ (len:=0+b.length) (i:=(at_:Int)) (sz:=2) AA AB dD rfl ?_
    obtain ⟨_,rfl,bo⟩:=J.elem at_ am aF
    replace bo:Has ed ⟨W,0+at_ * Rep.sz Row,none⟩ [vI am.t,vI am.v]:=by rw [Nat.zero_add]; exact bo
    refine RG.Ds (t':=105) (i:=at_) (k:=0) (v:=.agg #[vI r.t,vI r.v]) (cs:=[vI am.t,vI am.v]) r J aF bo AA AA AA rfl fun fF dE cd dF=>?_
    replace ⟨E,C⟩:=(s1 cd).g2 E C
    refine .d<|.s<|.g<|.r 2<|.d ?_
    have ee:=dE.sl bZ
    exact .rt Tryz.func122 Tryz.results122 (vS W (0+b.length) cr) ⟨(ee.vl (by exact Qu ‹_› ‹_› ‹_›) (fun _ _ h=>h.1)),C⟩
   refine .r 1<|.d<|.cf<|.sk<|.s<|.g<|.ns 0 105 [] fun aL ef aG ce dG dH=>?_
   have dI:=AS aG E.lt
   have dJ:=AS aG J.lt
   have dK:=Ad aG C.size
   have fe:=C.cn aG
   replace ⟨E,J,C⟩:=(sn [W,O] ce aG).g3 E J C
   have az:Own (α:=Row) ef aL 105 (nin (ge w.heap.size) [aL,W,O]) 0 0 []:=Own.Ag dG
   refine .r 2<|.ln E<|.ns 1 105 [vI r.t,vI r.v] fun bi dL aM bq cv cw=>?_
   have cx:=AS aM J.lt
   have cy:=AS aM az.lt
   replace ⟨E,J,az,C⟩:=(sn [aL,W,O] bq aM).g4 E J az C
   have aN:Own (α:=Row) dL bi 105 (nin (ge w.heap.size) [bi,aL,W,O]) 1 1 [r]:=Own.lit cv rfl (by decide) ⟨rfl,rfl⟩
   refine .cl (Df (i:=at_) (y:=r) J (Own.Sk aN) cx AB AB) ?_
   rintro ff cg ⟨⟨br,fg,rfl,ao,aO⟩,aZ⟩
   have bt:=Aw aO (Nb.symm dJ) az.lt
   have bu:Mv [bi,aL,W,O] [bi,aL,br,O] dL cg:=Mv.Sl [bi,aL] [O] aZ aO
   replace ⟨E,az,aN,C⟩:=(sp bu aZ).g4 E az aN C
   replace ao:Own cg br 105 (nin (ge w.heap.size) [bi,aL,br,O]) _ _ _:=ao.flat Bx
   have eg:=ao.len; have eh:=ao.max
   refine RG.Ay (T:=91) (ty:=91) Bx az (ao.SU Bx) AA AA (fun b h e=>bt (h.symm.trans e)) AB fun dM dN fh aA ae bv=>?_
   have ej:=Ae ae dI E.lt
   have ek:=Ae ae (Nb.symm bt) ao.lt
   have en:=Ae ae (Nb.symm cy) aN.lt
   have cz:=Bt ae dK C.size
   replace ⟨E,C⟩:=(s1 bv).g2 E C
   replace aA:=aA.rn aL
   have et:=aA.len; have ey:=aA.max
   refine .r 1<|.d ?_
   have dO:=aA.sl cz
   exact .rt Tryz.func122 Tryz.results122 (vS dM (0+(0+b.length+1)) dN) ⟨(dO.vl (by exact UT ‹_› ‹_› ‹_› ‹_›) (fun _ _ h=>h.1)),C⟩
  refine .r [4]<|GA.skip AA fun fi bw=>?_
  replace ⟨E,J,C⟩:=(se [W,O] bw).g3 E J C
  refine .r 2<|.d<|.cf<|.sk<|.s<|.g<|.ns 0 105 [] fun af dP aq bz cA cB=>?_
  have cC:=AS aq E.lt
  have cD:=AS aq J.lt
  have cE:=Ad aq C.size
  have ez:=C.cn aq
  replace ⟨E,J,C⟩:=(sn [W,O] bz aq).g3 E J C
  have aa:Own (α:=Row) dP af 105 (nin (ge w.heap.size) [af,W,O]) 0 0 []:=Own.Ag cA
  refine .r 2<|.ln E<|.ns 1 105 [vI r.t,vI r.v] fun aH ci aP bA cF cG=>?_
  have cH:=AS aP J.lt
  have cI:=AS aP aa.lt
  replace ⟨E,J,aa,C⟩:=(sn [af,W,O] bA aP).g4 E J aa C
  have aQ:Own (α:=Row) ci aH 105 (nin (ge w.heap.size) [aH,af,W,O]) 1 1 [r]:=Own.lit cF rfl (by decide) ⟨rfl,rfl⟩
  refine .cl (Df (i:=at_) (y:=r) J (Own.Sk aQ) cH AB AB) ?_
  rintro fj cj ⟨⟨bB,fk,rfl,ar,aR⟩,ba⟩
  have bC:=Aw aR (Nb.symm cD) aa.lt
  have bD:Mv [aH,af,W,O] [aH,af,bB,O] ci cj:=Mv.Sl [aH,af] [O] ba aR
  replace ⟨E,aa,aQ,C⟩:=(sp bD ba).g4 E aa aQ C
  replace ar:Own cj bB 105 (nin (ge w.heap.size) [aH,af,bB,O]) _ _ _:=ar.flat Bx
  have eA:=ar.len; have eB:=ar.max
  refine RG.Ay (T:=91) (ty:=91) Bx aa (ar.SU Bx) AA AA (fun b h e=>bC (h.symm.trans e)) AB fun dQ dR fm aB ag bE=>?_
  have eC:=Ae ag cC E.lt
  have eD:=Ae ag (Nb.symm bC) ar.lt
  have eE:=Ae ag (Nb.symm cI) aQ.lt
  have cJ:=Bt ag cE C.size
  replace ⟨E,C⟩:=(s1 bE).g2 E C
  replace aB:=aB.rn af
  have eF:=aB.len; have eG:=aB.max
  refine .r 1<|.d ?_
  have dS:=aB.sl cJ
  exact .rt Tryz.func122 Tryz.results122 (vS dQ (0+(0+b.length+1)) dR) ⟨(dS.vl (by exact Np ‹_› AB) (fun _ _ h=>h.1)),C⟩
 refine .r [4]<|GA.skip AA fun fp bF=>?_
 replace ⟨E,J,C⟩:=(se [W,O] bF).g3 E J C
 refine .r 2<|.d<|.cf<|.x 0 rfl<|.s<|.s<|.gd nil 12 fun dT bG=>?_
 replace ⟨E,J,C⟩:=(se [W,O] bG).g3 E J C
 refine .r [0,1,2]<|GA.EE (i:=3) ((at_:Int)< ((0+b.length):Int)) AA (fun cK=>?_) (fun cK=>?_)
 ·refine .r [4,5,6] ?_
  have cL:at_< 0+b.length:=AB
  refine GA.idx (i:=7) (b:=W) (o:=0) at_ (len:=0+b.length) (z:=(at_:Int)) (sz:=2) AA AB cL rfl<|.r [8] ?_
  obtain ⟨ah,aC⟩:∃ y,([]++b)[at_]? = some y:=⟨_,AP AB⟩
  have eH:=AX aC; have dU:=AQ aC
  obtain ⟨_,rfl,bc⟩:=J.elem at_ ah aC
  replace bc:Has dT ⟨W,0+at_ * Rep.sz Row,none⟩ [vI ah.t,vI ah.v]:=by rw [Nat.zero_add]; exact bc
  refine .lh 9 0 bc id<|.r [10]<|.lb 11 E id<|.d fun dV bH=>?_
  replace ⟨E,J,C⟩:=(se [W,O] bH).g3 E J C
  refine .eq ah.t r.t (fun cM=>?_) (fun cM=>?_)
  ·refine .r 1<|.d<|.ct<|.s<|.g<|.r 2<|.ln E ?_
   have cN:at_< 0+b.length:=AB
   refine RG.idx (b:=W) (o:=0) at_ (len:=0+b.length) (i:=(at_:Int)) (sz:=2) AA AB cN rfl ?_
   obtain ⟨_,rfl,bd⟩:=J.elem at_ ah aC
   replace bd:Has dV ⟨W,0+at_ * Rep.sz Row,none⟩ [vI ah.t,vI ah.v]:=by rw [Nat.zero_add]; exact bd
   refine RG.Ds (t':=105) (i:=at_) (k:=0) (v:=.agg #[vI r.t,vI r.v]) (cs:=[vI ah.t,vI ah.v]) r J aC bd AA AA AA rfl fun fq cO bI cP=>?_
   replace ⟨E,C⟩:=(s1 bI).g2 E C
   refine .d<|.s<|.g<|.r 2<|.d ?_
   have dW:=cO.sl bZ
   exact .rt Tryz.func122 Tryz.results122 (vS W (0+b.length) cr) ⟨(dW.vl (by exact Qu ‹_› ‹_› ‹_›) (fun _ _ h=>h.1)),C⟩
  refine .r 1<|.d<|.cf<|.sk<|.s<|.g<|.ns 0 105 [] fun ai dX au bJ cQ cR=>?_
  have cS:=AS au E.lt
  have cT:=AS au J.lt
  have cU:=Ad au C.size
  have eI:=C.cn au
  replace ⟨E,J,C⟩:=(sn [W,O] bJ au).g3 E J C
  have ab:Own (α:=Row) dX ai 105 (nin (ge w.heap.size) [ai,W,O]) 0 0 []:=Own.Ag cQ
  refine .r 2<|.ln E<|.ns 1 105 [vI r.t,vI r.v] fun aI ck aS bK cV cW=>?_
  have cX:=AS aS J.lt
  have cY:=AS aS ab.lt
  replace ⟨E,J,ab,C⟩:=(sn [ai,W,O] bK aS).g4 E J ab C
  have aT:Own (α:=Row) ck aI 105 (nin (ge w.heap.size) [aI,ai,W,O]) 1 1 [r]:=Own.lit cV rfl (by decide) ⟨rfl,rfl⟩
  refine .cl (Df (i:=at_) (y:=r) J (Own.Sk aT) cX AB AB) ?_
  rintro ft cm ⟨⟨bL,fu,rfl,av,aU⟩,bg⟩
  have bM:=Aw aU (Nb.symm cT) ab.lt
  have bN:Mv [aI,ai,W,O] [aI,ai,bL,O] ck cm:=Mv.Sl [aI,ai] [O] bg aU
  replace ⟨E,ab,aT,C⟩:=(sp bN bg).g4 E ab aT C
  replace av:Own cm bL 105 (nin (ge w.heap.size) [aI,ai,bL,O]) _ _ _:=av.flat Bx
  have eJ:=av.len; have eK:=av.max
  refine RG.Ay (T:=91) (ty:=91) Bx ab (av.SU Bx) AA AA (fun b h e=>bM (h.symm.trans e)) AB fun dY dZ fv aD aj bO=>?_
  have eL:=Ae aj cS E.lt
  have eM:=Ae aj (Nb.symm bM) av.lt
  have eN:=Ae aj (Nb.symm cY) aT.lt
  have cZ:=Bt aj cU C.size
  replace ⟨E,C⟩:=(s1 bO).g2 E C
  replace aD:=aD.rn ai
  have eO:=aD.len; have eP:=aD.max
  refine .r 1<|.d ?_
  have d0:=aD.sl cZ
  exact .rt Tryz.func122 Tryz.results122 (vS dY (0+(0+b.length+1)) dZ) ⟨(d0.vl (by exact Np ‹_› AB) (fun _ _ h=>h.1)),C⟩
 refine .r [4]<|GA.skip AA fun fw bP=>?_
 replace ⟨E,J,C⟩:=(se [W,O] bP).g3 E J C
 refine .r 2<|.d<|.cf<|.sk<|.s<|.g<|.ns 0 105 [] fun ak d3 aw bQ c7 c8=>?_
 have c9:=AS aw E.lt
 have da:=AS aw J.lt
 have db:=Ad aw C.size
 have eQ:=C.cn aw
 replace ⟨E,J,C⟩:=(sn [W,O] bQ aw).g3 E J C
 have ac:Own (α:=Row) d3 ak 105 (nin (ge w.heap.size) [ak,W,O]) 0 0 []:=Own.Ag c7
 refine .r 2<|.ln E<|.ns 1 105 [vI r.t,vI r.v] fun aJ co aV bR de df=>?_
 have dg:=AS aV J.lt
 have dh:=AS aV ac.lt
 replace ⟨E,J,ac,C⟩:=(sn [ak,W,O] bR aV).g4 E J ac C
 have aW:Own (α:=Row) co aJ 105 (nin (ge w.heap.size) [aJ,ak,W,O]) 1 1 [r]:=Own.lit de rfl (by decide) ⟨rfl,rfl⟩
 refine .cl (Df (i:=at_) (y:=r) J (Own.Sk aW) dg AB AB) ?_
 rintro fz cp ⟨⟨bS,fA,rfl,ax,aX⟩,bh⟩
 have bT:=Aw aX (Nb.symm da) ac.lt
 have bU:Mv [aJ,ak,W,O] [aJ,ak,bS,O] co cp:=Mv.Sl [aJ,ak] [O] bh aX
 replace ⟨E,ac,aW,C⟩:=(sp bU bh).g4 E ac aW C
 replace ax:Own cp bS 105 (nin (ge w.heap.size) [aJ,ak,bS,O]) _ _ _:=ax.flat Bx
 have eR:=ax.len; have eS:=ax.max
 refine RG.Ay (T:=91) (ty:=91) Bx ac (ax.SU Bx) AA AA (fun b h e=>bT (h.symm.trans e)) AB fun d4 d5 fB aE al bV=>?_
 have eT:=Ae al c9 E.lt
 have eU:=Ae al (Nb.symm bT) ax.lt
 have eV:=Ae al (Nb.symm dh) aW.lt
 have dj:=Bt al db C.size
 replace C:=(s1 bV).g1 C
 replace aE:=aE.rn ak
 have eW:=aE.len; have eX:=aE.max
 refine .r 1<|.d ?_
 have d6:=aE.sl dj
 exact .rt Tryz.func122 Tryz.results122 (vS d4 (0+(0+b.length+1)) d5) ⟨(d6.vl (by exact Np ‹_› AB) (fun _ _ h=>h.1)),C⟩
theorem FY (p:Prt) (id:Int) {w:World} {F:Nat→Prop} {a1:Option Addr} {n1 c1:Nat} (h1:RepS w F a1 n1 c1 p.ids) {a2:Option Addr} {n2 c2:Nat} (h2:RepS w F a2 n2 c2 p.blocks) (p0:Cw p):Calls Tryz.prog 77 [.agg #[.slice a1 n1 c1,.slice a2 n2 c2],.int .i64 id].toArray w (As fun rv w'=>VL (ge w.heap.size) w' (BQ p id:List Row) rv∧Ext w w'):=by
 refine goT Tryz.func77 ?_
 obtain ⟨rfl,ba,h1⟩:=h1.tp
 obtain ⟨rfl,bc,h2⟩:=h2.tp
 refine .s<|.g<|.np 42 [.slice a1 p.ids.length c1,.slice a2 p.blocks.length c2] fun J aS ai ae E aw=>?_
 replace ⟨h1,h2⟩:=(sn [] ae ai).g2 h1 h2
 have C:=ae
 refine .r 1<|.d<|.s<|.g<|.r 1<|.lb E<|.r 1<|.cl (Dx p.ids id h1.ta (w:=aS) (F:=all)) ?_
 rintro bq aT ⟨rfl,aj⟩
 replace ⟨h1,h2,E,C⟩:=(se [J] aj).g4 h1 h2 E C
 refine .r 1<|.d<|.s<|.s<|.g<|.ln E<|.cl (C7 p h1.ta h2.ta (w:=aT) (F:=all)) ?_
 rintro br bt ⟨rfl,ak⟩
 replace ⟨h2,E,C⟩:=(se [J] ak).g3 h2 E C
 cases bd:(Au p)
 ·refine .r 5<|.d<|.ct<|.s<|.g<|.ns 0 105 [] fun af ax ab al ay az=>?_
  have bg:=AS ab E.lt
  have aA:=Ad ab C.size
  replace ⟨h2,E,C⟩:=(sn [J] al ab).g3 h2 E C
  have aB:Own (α:=Row) ax af 105 (nin (ge w.heap.size) [af,J]) 0 0 []:=Own.Ag ay
  refine .r 1<|.d ?_
  have aU:=aB.sl aA
  replace h2:=(sd ax [af,J] af).g1 h2
  exact .rt Tryz.func77 Tryz.results77 (vS af 0 0) ⟨(aU.vl (by rw [Sn ‹_›]) (fun _ _ h=>h.1)),C⟩
 refine .r 3<|.bp (Dr id 0 p.ids< 0) (fun aC=>?_) (fun aC=>?_)
 ·refine .r 1<|.d<|.ct<|.s<|.g<|.ns 0 105 [] fun ag aD ac am aE aF=>?_
  have bh:=AS ac E.lt
  have aG:=Ad ac C.size
  replace ⟨h2,E,C⟩:=(sn [J] am ac).g3 h2 E C
  have aH:Own (α:=Row) aD ag 105 (nin (ge w.heap.size) [ag,J]) 0 0 []:=Own.Ag aE
  refine .r 1<|.d ?_
  have aV:=aH.sl aG
  replace h2:=(sd aD [ag,J] ag).g1 h2
  exact .rt Tryz.func77 Tryz.results77 (vS ag 0 0) ⟨(aV.vl (by rw [So ‹_› ‹_›]) (fun _ _ h=>h.1)),C⟩
 refine .r 1<|.d<|.cf<|.sk<|.s<|.g<|.ns 0 105 [] fun au aW O ao aI aJ=>?_
 have aK:=AS O E.lt
 have aL:=Ad O C.size
 have bi:=C.cn O
 replace ⟨h2,E,C⟩:=(sn [J] ao O).g3 h2 E C
 have aM:Own (α:=Row) aW au 105 (nin (ge w.heap.size) [au,J]) 0 0 []:=Own.Ag aI
 refine .r 1<|.lb E<|.r 1 ?_
 have aq:(Dr id 0 p.ids).toNat< p.blocks.length:=(by exact Sr ‹_› ‹_›)
 refine RG.idx ((Dr id 0 p.ids).toNat) (len:=p.blocks.length) (i:=Dr id 0 p.ids) (sz:=1) AA AB aq (h2.addr (Nat.zero_lt_of_lt aq)) ?_
 obtain ⟨aN,ah⟩:∃ y,p.blocks[(Dr id 0 p.ids).toNat]? = some y:=⟨_,AP AB⟩
 have bj:=AX ah; have aR:=AQ ah
 obtain ⟨_,⟨bu,bv,bw,rfl,av⟩,aO⟩:=h2.elem ((Dr id 0 p.ids).toNat) aN ah
 have aP:=av.len
 subst aP
 have bk:=av.max
 refine .lh 0 aO<|RG.Ay (T:=91) (ty:=91) Bx aM av AA AA (fun b h e=>h.2 (e▸AD)) (by (have q1:=p0.2.2 _ ‹_›; omega)) fun aX aY bz W aa ar=>?_
 have bm:=Ae aa aK E.lt
 have aQ:=Bt aa aL C.size
 replace C:=(s1 ar).g1 C
 replace W:=W.rn au
 have bn:=W.len; have bo:=W.max
 refine .r 1<|.d ?_
 have aZ:=W.sl aQ
 exact .rt Tryz.func77 Tryz.results77 (vS aX (0+aN.length) aY) ⟨(aZ.vl (by (rw [Sq ‹_› ‹_› ‹_›]; rfl)) (fun _ _ h=>h.1)),C⟩
theorem DP (p:Prt) {w:World} {F:Nat→Prop} {a1:Option Addr} {n1 c1:Nat} (h1:RepS w F a1 n1 c1 p.ids) {a2:Option Addr} {n2 c2:Nat} (h2:RepS w F a2 n2 c2 p.blocks) (p0:Cw p):Calls Tryz.prog 108 [.agg #[.slice a1 n1 c1,.slice a2 n2 c2]].toArray w (As fun rv w'=>VS (ge w.heap.size) w' (p:Prt) rv∧Ext w w'):=by
 refine goT Tryz.func108 ?_
 obtain ⟨rfl,dA,h1⟩:=h1.tp
 obtain ⟨rfl,dB,h2⟩:=h2.tp
 refine .s<|.g<|.np 42 [.slice a1 p.ids.length c1,.slice a2 p.blocks.length c2] fun ac dZ bn aQ J ci=>?_
 replace ⟨h1,h2⟩:=(sn [] aQ bn).g2 h1 h2
 have C:=aQ
 refine .np 42 [.slice none 0 0,.slice none 0 0] fun ae d0 aR bo E cj=>?_
 have dC:=C.cn aR
 replace ⟨h1,h2,J,C⟩:=(sn [ac] bo aR).g4 h1 h2 J C
 refine .d<|.s<|.g<|.ns 0 3 [] fun bm cU aB bq ck cm=>?_
 have co:=AS aB J.lt
 have cp:=AS aB E.lt
 have cq:=Ad aB C.size
 have cr:=C.cn aB
 replace ⟨h1,h2,J,E,C⟩:=(sn [ae,ac] bq aB).g5 h1 h2 J E C
 have cu:Own (α:=Int) cU bm 3 (nin (ge w.heap.size) [bm,ae,ac]) 0 0 []:=Own.Ag ck
 refine .r 1<|.lb J<|RG.Ay (T:=24) (ty:=24) BF cu h1 AA AA (fun b h e=>h.2 (e▸AD)) (by have q1:=p0.1; have q2:=p0.2.1; omega) fun ay cv d3 aj av br=>?_
 have cw:=Ae av co J.lt
 have cx:=Ae av cp E.lt
 have cy:=Bt av cq C.size
 have dG:=Am av cr C.size
 replace ⟨h2,J,E,C⟩:=(sa [bm,ae,ac] br av).g4 h2 J E C
 replace aj:=aj.rn bm
 have dH:=aj.len; have dI:=aj.max
 refine .ns 0 91 [] fun aw cV az bt cz cA=>?_
 have cB:=AS az J.lt
 have cC:=AS az E.lt
 have cD:=AS az aj.lt
 have cE:=Ad az C.size
 have cF:=C.cn az
 replace ⟨h2,J,E,aj,C⟩:=(sn [ay,ae,ac] bt az).g5 h2 J E aj C
 have aC:Own (α:=List Row) cV aw 91 (nin (ge w.heap.size) [aw,ay,ae,ac]) 0 0 []:=Own.Ag cz
 refine .r 1<|.np 42 [.slice none 0 0,.slice none 0 0] fun af d4 aA bu cG cH=>?_
 have dJ:=AS aA J.lt
 have dK:=AS aA E.lt
 have cI:=AS aA aj.lt
 have cJ:=AS aA aC.lt
 have dL:=C.cn aA
 replace ⟨h2,J,E,aj,aC,C⟩:=(sn [aw,ay,ae,ac] bu aA).g6 h2 J E aj aC C
 refine .sc [vS ay (0+p.ids.length) cv,vS aw 0 0] cG fun aN bv aS cK=>?_
 replace ⟨h2,J,E,aj,aC,C⟩:=(so [af,aw,ay,ae,ac] bv).g6 h2 J E aj aC C
 refine .d<|.s<|.s<|.g<|.r 1<|.lb J<|.r 2<|.d<|.b 0<|T.loop (X:=Nat × (List Int) × Nat × Nat × Nat × (List (List Row)) × Nat × Nat × Nat) (0,(([]++p.ids):List Int),ay,0+p.ids.length,cv,([]:List (List Row)),aw,0,0) (fun (k,ao,r_out_0,n_out_0,c_out_0,al,r_out_1,n_out_1,c_out_1)=>[(2,.pointer (some ⟨ae,0,none⟩)),(3,.pointer (some ⟨af,0,none⟩)),(13,.slice a2 p.blocks.length c2),(14,vI (p.blocks.length:Int)),(15,vI (k:Int))]) (fun (k,ao,r_out_0,n_out_0,c_out_0,al,r_out_1,n_out_1,c_out_1) ax=>Chg (ins [ay,aw,af]) aN ax∧Own ax r_out_0 3 (nin (ge w.heap.size) [af,r_out_1,r_out_0,ae,ac]) n_out_0 c_out_0 ao∧OrB r_out_0 ay aN.heap.size∧Own ax r_out_1 91 (nin (ge w.heap.size) [af,r_out_1,r_out_0,ae,ac]) n_out_1 c_out_1 al∧OrB r_out_1 aw aN.heap.size∧Nb r_out_1 r_out_0∧Box ax af 42 [vS r_out_0 n_out_0 c_out_0,vS r_out_1 n_out_1 c_out_1]∧(k≤p.blocks.length)∧(ao=p.ids)∧(al.length≤k)∧(al++p.blocks.drop k=p.blocks)) (fun (k,ao,r_out_0,n_out_0,c_out_0,al,r_out_1,n_out_1,c_out_1)=>p.blocks.length - k) AA ⟨AA,AA,AA,AA,AA,trivial⟩ ⟨Chg.refl _ _,aj,BJ,aC,BJ,cD,aS,AB,(by rfl),(by simp),(by rfl)⟩ ?_
 rintro ⟨k,ao,r_out_0,n_out_0,c_out_0,al,r_out_1,n_out_1,c_out_1⟩ dM ax ⟨ab,W,aD,aa,am,bB,O,dN,dO,dP,dQ⟩ aO
 have cW:=Aw aD cw J.lt
 have cX:=Aw aD cx E.lt
 have bC:=Aw aD (Nb.symm cI) aS.lt
 have bD:=Bv aD cy C.size
 have cY:=Aw am cB J.lt
 have cZ:=Aw am cC E.lt
 have aT:=Aw am (Nb.symm cJ) aS.lt
 have bE:=Bv am cE C.size
 have c7:=Ar am cF C.size
 have bF:Cov (ins [ay,aw,af]) aN aw:=⟨.inl AE⟩
 have c8:Cov (ins [ay,aw,af]) aN af:=⟨.inl AF⟩
 have c9:=Ar am bF (Nat.le_refl _)
 have aU:Mv [af,aw,ay,ae,ac] [af,r_out_1,r_out_0,ae,ac] aN ax:=Mv.inl ab (all_cons AF (all_cons AE (all_cons AD all_nil))) (all_cons (.inl AD) (all_cons (BV am AE) (all_cons (BV aD AF) (all_cons (.inl AG) (all_cons (.inl AH) all_nil)))))
 replace ⟨h2,J,E,C⟩:=(sp aU ab).g4 h2 J E C
 have da:=W.len; have db:=W.max
 have de:=aa.len; have df:=aa.max
 refine .s<|.g<|.bp ((k:Int)< (p.blocks.length:Int)) (fun bG=>?_) (fun bG=>?_)
 ·refine .d<|.s<|.ct<|.sk<|.s<|.b 1<|.s<|.g ?_
  have bH:k< p.blocks.length:=AB
  refine .ix k 1 h2 bH ?_
  obtain ⟨aG,aH⟩:∃ y,p.blocks[k]? = some y:=⟨_,AP AB⟩
  have dg:=AX aH; have cL:=AQ aH
  obtain ⟨_,⟨cM,dR,cN,rfl,ak⟩,bI⟩:=h2.elem k aG aH
  have bJ:=ak.len
  subst bJ
  have dh:=ak.max
  refine .lh 0 bI<|.r 1<|.d ?_
  replace ak:=ak.Ah
  have bK:Gb (af+1) ax.heap.size:=O.lt
  refine .gd (mtb [r_out_0,r_out_1] ax.heap.size) 6 fun cO aI=>?_
  replace ⟨J,E,W,aa,O,ak,C,ab⟩:=(se [af,r_out_1,r_out_0,ae,ac] aI).g8 J E W aa O ak C ab
  have aJ:Chg (mtb [r_out_0,r_out_1] ax.heap.size) ax cO:=Chg.Cc (Chg.refl (mtb [r_out_0,r_out_1] ax.heap.size) ax) aI
  refine .r [0]<|.lb 1 O (Ax (all_cons (Nb.symm bC) (all_cons (Nb.symm aT) all_nil)) bK)<|.r [3]<|.go 2<|.ns 0 105 [] fun dS aV=>?_
  replace ⟨J,E,W,aa,O,ak,C,ab,aJ⟩:=(se [af,r_out_1,r_out_0,ae,ac] aV).g9 J E W aa O ak C ab aJ
  intro aE cP ag aW bL bM
  have bN:=AS ag J.lt
  have bO:=AS ag E.lt
  have bP:=AS ag W.lt
  have bQ:=AS ag aa.lt
  have bR:=AS ag O.lt
  have bS:=Ad ag C.size
  have dj:=C.cn ag
  have dm:=ab.cn ag
  have bT:=aJ.cn ag
  replace ⟨J,E,W,aa,O,ak,C,ab⟩:=(sn [af,r_out_1,r_out_0,ae,ac] aW ag).g8 J E W aa O ak C ab
  have aK:Own (α:=Row) cP aE 105 (nin (ge w.heap.size) [aE,af,r_out_1,r_out_0,ae,ac]) 0 0 []:=Own.Ag bL
  refine .go 4<|GE.append (T:=91) (ty:=91) (args:=[vS aE 0 0,.slice cM aG.length cN]) AA fun dT aX=>?_
  replace ⟨J,E,W,aa,O,ak,aK,C,ab⟩:=(se [aE,af,r_out_1,r_out_0,ae,ac] aX).g9 J E W aa O ak aK C ab
  obtain ⟨aF,cQ,dU,aY,ah,ai,aL,bU⟩:=Own.Ay (P:=Tryz.prog) (T:=91) (ty:=91) Bx aK AA ak (fun b h e=>h.2 (e▸AD)) (by have q1:=p0.1; have q2:=p0.2.1; (have q3:=p0.2.2 _ ‹_›; omega))
  refine ⟨_,_,aY,Chg.toS aL (Cov.toS bT),?_⟩
  have dp:=Ae ai bN J.lt
  have dq:=Ae ai bO E.lt
  have dr:=Ae ai bP W.lt
  have dt:=Ae ai bQ aa.lt
  have du:=Ae ai bR O.lt
  have bV:=Bt ai bS C.size
  replace ⟨J,E,W,aa,O,C,ab⟩:=(sa [aE,af,r_out_1,r_out_0,ae,ac] aL ai).g7 J E W aa O C ab
  replace ah:=ah.rn aE
  have dv:=ah.len; have dw:=ah.max
  refine .go 5<|.ns 1 91 [vS aF (0+aG.length) cQ] fun dV aZ=>?_
  replace ⟨J,E,W,aa,O,ah,C,ab⟩:=(se [aF,af,r_out_1,r_out_0,ae,ac] aZ).g8 J E W aa O ah C ab
  intro bw dW aq ba aM bW
  have bX:=AS aq J.lt
  have bY:=AS aq E.lt
  have bZ:=AS aq W.lt
  have bc:=AS aq aa.lt
  have b0:=AS aq O.lt
  have b6:=Ad aq C.size
  replace ⟨E,W,aa,O,ah,C,ab⟩:=(se [aF,af,r_out_1,r_out_0,ae,ac] ba).g7 E W aa O ah C ab
  refine .d fun cR bd=>?_
  replace ⟨E,W,aa,O,ah,aM,C,ab⟩:=(se [aF,af,r_out_1,r_out_0,ae,ac] bd).g8 E W aa O ah aM C ab
  have cS:=ah.sl bV
  replace ⟨W,aa⟩:=(sd cR [aF,af,r_out_1,r_out_0,ae,ac] aF).g2 W aa
  have aP:nin (ge w.heap.size) [af,r_out_1,r_out_0,ae,ac] bw∧bw≠r_out_1:=BG b6 (all_cons b0 (all_cons bc (all_cons bZ (all_cons bY (all_cons bX all_nil))))) bc
  refine RG.Ap (T:=40) (ty:=40) (y:=([]++aG)) aa aM AA AA ⟨_,_,_,rfl,cS.oi⟩ aP (by have q1:=p0.1; have q2:=p0.2.1; omega) fun bg bz dX ar au bh=>?_
  have b7:=Ae au bB W.lt
  have dx:=Ae au aT O.lt
  have b8:=Bo au am ab.size
  replace ⟨E,W,O,C,ab⟩:=(sa [af,r_out_1,r_out_0,ae,ac] bh au).g5 E W O C ab
  replace ar:=ar.rn r_out_1
  have dy:=ar.len; have dz:=ar.max
  refine .r 1<|.ss 1 (vS bg (n_out_1+1) bz) O fun dY bi b9 cd=>?_
  replace ⟨E,W,ar,C,ab⟩:=(so [af,bg,r_out_0,ae,ac] bi).g5 E W ar C ab
  exact .d<|.ib 1<|.g<|.it ((k:Int)+1)<|.r 1<|.d<|aO (k+1,ao,r_out_0,n_out_0,c_out_0,(al++[([]++aG)]),bg,n_out_1+1,bz) _ _ ⟨AA,AA,AA,AA,AA,trivial⟩ ⟨ab,W,aD,ar,b8,b7,b9,AB,‹_›,(by simp; omega),(by exact OX ‹_› ‹_›)⟩ (by (simp only []; omega))
 refine .d<|.s<|.cf<|.x 0 rfl<|.s<|.g<|.ln O<|.sc [vS r_out_0 n_out_0 c_out_0,vS r_out_1 n_out_1 c_out_1] E fun bA bj ce cg=>?_
 replace ⟨W,aa,C⟩:=(so [af,r_out_1,r_out_0,ae,ac] bj).g3 W aa C
 refine .d ?_
 have bk:=W.sl bD
 replace aa:=(sd bA [af,r_out_1,r_out_0,ae,ac] r_out_0).g1 aa
 have cT:=aa.sl bE
 replace bk:=(sd bA [af,r_out_1,ae,ac] r_out_1).g1 bk
 exact .rb Tryz.func108 Tryz.results108 ce ⟨(VS.of (y:=(⟨ao,al⟩:Prt)) ⟨_,rfl,⟨_,_,_,_,_,_,rfl,bk.w1,cT.w1⟩⟩ (by exact VZ ‹_› (Qv ‹_› AB))),C⟩
theorem D1 (s:Sto) (id:Int) {w:World} {F:Nat→Prop} {a1:Option Addr} {n1 c1:Nat} (h1:RepS w F a1 n1 c1 s.idx.names) {a2:Option Addr} {n2 c2:Nat} (h2:RepS w F a2 n2 c2 s.idx.AV) {a3:Option Addr} {n3 c3:Nat} (h3:RepS w F a3 n3 c3 s.parts) {a4:Option Addr} {n4 c4:Nat} (h4:RepS w F a4 n4 c4 s.mem) (p0:∀ p∈s.parts,PrtI p∧Au p=true) (p1:∀ m∈s.mem,Bw m.row=true) (p2:s.parts.length≤1000) (p3:s.mem.length≤1000):Calls Tryz.prog 97 [.agg #[.slice a1 n1 c1,.slice a2 n2 c2,.slice a3 n3 c3,.slice a4 n4 c4],.int .i64 id].toArray w (As fun rv w'=>VL (ge w.heap.size) w' (rowsOf s id:List Row) rv∧Ext w w'):=by
 refine goT Tryz.func97 ?_
 obtain ⟨rfl,cQ,h1⟩:=h1.tp
 obtain ⟨rfl,cR,h2⟩:=h2.tp
 obtain ⟨rfl,cS,h3⟩:=h3.tp
 obtain ⟨rfl,cT,h4⟩:=h4.tp
 refine .s<|.g<|.np 34 [.slice a1 s.idx.names.length c1,.slice a2 s.idx.AV.length c2,.slice a3 s.parts.length c3,.slice a4 s.mem.length c4] fun O dt bc aK E bM=>?_
 replace ⟨h3,h4⟩:=(sn [] aK bc).g2 h3 h4
 have C:=aK
 refine .r 1<|.d<|.s<|.g<|.ns 0 105 [] fun aL ba aD bd bN bO=>?_
 have cU:=AS aD E.lt
 have bP:=Ad aD C.size
 replace ⟨h3,h4,E,C⟩:=(sn [O] bd aD).g4 h3 h4 E C
 have bQ:Own (α:=Row) ba aL 105 (nin (ge w.heap.size) [aL,O]) 0 0 []:=Own.Ag bN
 refine .r 1<|.d<|.s<|.s<|.g<|.r 1<|.lb E<|.r 2<|.d<|.b 0 ?_
 have cj:=bQ.sl bP
 replace ⟨h3,h4⟩:=(sd ba [aL,O] aL).g2 h3 h4
 refine T.loop (X:=(List Row) × (Option Addr) × Nat × Nat × Nat) (([]:List Row),some ⟨aL,0,none⟩,0,0,0) (fun (out,a_out,n_out,c_out,k)=>[(1,vI id),(2,.pointer (some ⟨O,0,none⟩)),(5,.slice a_out n_out c_out),(14,.slice a3 s.parts.length c3),(15,vI (s.parts.length:Int)),(16,vI (k:Int))]) (fun (out,a_out,n_out,c_out,k) aH=>Chg (ins []) ba aH∧RepS aH (nin (ge w.heap.size) [O]) a_out n_out c_out out∧(k≤s.parts.length)∧(Blk out)∧((s.parts.drop k).foldl (CZ id) out=s.parts.foldl (CZ id) [])) (fun (out,a_out,n_out,c_out,k)=>s.parts.length - k) AA ⟨AA,AA,AA,AA,AA,AA,trivial⟩ ⟨Chg.refl _ _,cj,AB,(by rfl),(by rfl)⟩ ?_
 rintro ⟨out,a_out,n_out,c_out,k⟩ du aH ⟨aa,J,cV,cW,cX⟩ aM
 have bg:Mv [O] [O] ba aH:=Mv.inl aa all_nil (all_cons (.inl AD) all_nil)
 replace ⟨h3,h4,E,C⟩:=(sp bg aa).g4 h3 h4 E C
 have cY:=J.len; have cZ:=J.max
 refine .s<|.g<|.bp ((k:Int)< (s.parts.length:Int)) (fun bR=>?_) (fun bR=>?_)
 ·refine .d<|.s<|.ct<|.sk<|.s<|.b 1<|.s<|.g ?_
  have bS:k< s.parts.length:=AB
  refine .ix k 2 h3 bS ?_
  obtain ⟨ah,aN⟩:∃ y,s.parts[k]? = some y:=⟨_,AP AB⟩
  have c7:=AX aN; have ci:=AQ aN
  obtain ⟨_,⟨ck,dv,cm,co,dw,cp,rfl,aw,ax⟩,bT⟩:=h3.elem k ah aN
  have bU:=aw.len
  subst bU
  have c8:=aw.max
  have bV:=ax.len
  subst bV
  have c9:=ax.max
  refine .lg 0 bT<|.np 42 [.slice none 0 0,.slice none 0 0] fun ak dx au bh bW bX=>?_
  have da:=AS au E.lt
  have db:=C.cn au
  have de:=aa.cn au
  replace ⟨h4,E,J,aw,ax,C,aa⟩:=(sn [O] bh au).g7 h4 E J aw ax C aa
  refine .sc [.slice ck ah.ids.length cm,.slice co ah.blocks.length cp] bW fun bY bi ag bZ=>?_
  replace ⟨h4,E,J,aw,ax,C,aa⟩:=(so [ak,O] bi).g7 h4 E J aw ax C aa
  refine .d<|.s<|.g<|.ln ag<|.r 1<|.cl (FY ah id aw.ta ax.ta (p0 _ ‹_›).1.sz (w:=bY) (F:=all)) ?_
  rintro dy b0 ⟨⟨cq,cr,rfl,ay⟩,bj⟩
  have bk:=al2 ag.lt E.lt
  have b6:Gb w.heap.size bY.heap.size:=C.size
  replace ⟨h4,E,J,ag,C,aa⟩:=(se [ak,O] bj).g6 h4 E J ag C aa
  have ay:=ay.fr bk b6
  have df:=ay.max
  refine .r 2<|.d<|.b 2<|T.loop (X:=(List Row) × (Option Addr) × Nat × Nat × Nat) ((out:List Row),a_out,n_out,c_out,0) (fun (af,a_out1,n_out1,c_out1,k1)=>[(1,vI id),(2,.pointer (some ⟨O,0,none⟩)),(5,.slice a_out1 n_out1 c_out1),(14,.slice a3 s.parts.length c3),(15,vI (s.parts.length:Int)),(16,vI (k:Int)),(22,.slice cq ((BQ ah id).length) cr),(23,vI (((BQ ah id).length):Int)),(24,vI (k1:Int))]) (fun (af,a_out1,n_out1,c_out1,k1) aI=>Chg (ins []) b0 aI∧RepS aI (nin (ge w.heap.size) [ak,O]) a_out1 n_out1 c_out1 af∧(k1≤(BQ ah id).length)∧(Blk af)∧(((BQ ah id).drop k1).foldl Di af=CZ id out ah)) (fun (af,a_out1,n_out1,c_out1,k1)=>(BQ ah id).length - k1) AA ⟨AA,AA,AA,AA,AA,AA,AA,AA,AA,trivial⟩ ⟨Chg.refl _ _,J,AB,‹_›,(by unfold BQ CZ; rw [if_pos (p0 _ ‹_›).2]; rfl)⟩ ?_
  rintro ⟨af,a_out1,n_out1,c_out1,k1⟩ dg aI ⟨ae,ab,cu,cv,cw⟩ aJ
  have aO:Mv [ak,O] [ak,O] b0 aI:=Mv.inl ae all_nil (all_cons (.inl AD) (all_cons (.inl AE) all_nil))
  replace ⟨h4,E,J,ag,ay,C,aa⟩:=(sp aO ae).g7 h4 E J ag ay C aa
  have cx:=ab.len; have cy:=ab.max
  refine .s<|.g<|.bp ((k1:Int)< (((BQ ah id).length):Int)) (fun bq=>?_) (fun bq=>?_)
  ·refine .d<|.s<|.ct<|.sk<|.s<|.b 3<|.s<|.g ?_
   have br:k1< (BQ ah id).length:=AB
   refine .ix k1 2 ay br ?_
   obtain ⟨am,aA⟩:∃ y,(BQ ah id)[k1]? = some y:=⟨_,AP AB⟩
   have cz:=AX aA; have b7:=AQ aA
   obtain ⟨_,rfl,bt⟩:=ay.elem k1 am aA
   refine .lg 0 bt<|.np 105 [vI 0,vI 0] fun aP dh ai aQ bu bv=>?_
   have cA:=AS ai E.lt
   have cB:=AS ai ag.lt
   have cC:=C.cn ai
   have cD:=aa.cn ai
   have cE:=ae.cn ai
   replace ⟨h4,E,J,ag,ab,C,aa,ae⟩:=(sn [ak,O] aQ ai).g8 h4 E J ag ab C aa ae
   refine .sc [vI am.t,vI am.v] bu fun bm aR aS bw=>?_
   replace ⟨h4,E,J,ag,ab,C,aa,ae⟩:=(so [aP,ak,O] aR).g8 h4 E J ag ab C aa ae
   refine .d<|.g<|.r 1<|.ln aS<|.cl (HS af am ab.ta (by (have q1:=Blk.len (by assumption:Blk af); omega)) (w:=bm) (F:=all)) ?_
   rintro dj bn ⟨⟨b8,b9,rfl,ao⟩,aT⟩
   have aU:=al3 aS.lt ag.lt E.lt
   have bz:Gb w.heap.size bm.heap.size:=C.size
   replace ⟨h4,E,J,ab,C,aa,ae⟩:=(se [aP,ak,O] aT).g7 h4 E J ab C aa ae
   have ao:=ao.fr aU bz
   have cF:=ao.max
   refine .r 1<|.d<|.ib 3<|.g<|.it ((k1:Int)+1)<|.r 1<|.d ?_
   have bA:Mv [aP,ak,O] [ak,O] bn bn:=Mv.less (all_cons AE (all_cons AF all_nil))
   replace ⟨h4,J,ab,ao⟩:=(sp bA (Chg.refl nil _)).g4 h4 J ab ao
   exact aJ (DA am af,b8,(DA am af).length,b9,k1+1) _ _ ⟨AA,AA,AA,AA,AA,AA,AA,AA,AA,trivial⟩ ⟨ae,ao,AB,(by exact Blk.ins ‹_› (((p0 ah ‹_›).1.ofI id).rows _ ‹_›)),(by rw [← Fi ‹_›]; exact E6 ‹_› ‹_›)⟩ (by (simp only []; omega))
  refine .d<|.s<|.cf<|.x 2 rfl<|.ib 1<|.g<|.it ((k:Int)+1)<|.r 1<|.d ?_
  have bB:Mv [ak,O] [O] aI aI:=Mv.less (all_cons AE all_nil)
  replace ⟨h4,J,ab⟩:=(sp bB (Chg.refl nil _)).g3 h4 J ab
  exact aM (af,a_out1,n_out1,c_out1,k+1) _ _ ⟨AA,AA,AA,AA,AA,AA,trivial⟩ ⟨aa,ab,AB,‹_›,(by have q1:=FK (by assumption:((BQ ah id).drop k1).foldl Di af=_) AB; have q2:=E6 (by assumption:(s.parts.drop k).foldl (CZ id) out=_) ‹_›; rw [← q1] at q2; exact q2)⟩ (by (simp only []; omega))
 refine .d<|.s<|.cf<|.x 0 rfl<|.s<|.s<|.g<|.r 1<|.lb E<|.r 2<|.d<|.b 4<|T.loop (X:=(List Row) × (Option Addr) × Nat × Nat × Nat) ((out:List Row),a_out,n_out,c_out,0) (fun (out,a_out,n_out,c_out,k)=>[(1,vI id),(5,.slice a_out n_out c_out),(34,.slice a4 s.mem.length c4),(35,vI (s.mem.length:Int)),(36,vI (k:Int))]) (fun (out,a_out,n_out,c_out,k) aE=>Chg (ins []) aH aE∧RepS aE (nin (ge w.heap.size) [O]) a_out n_out c_out out∧(k≤s.mem.length)∧(Blk out)∧((s.mem.drop k).foldl (Cg id) out=rowsOf s id)) (fun (out,a_out,n_out,c_out,k)=>s.mem.length - k) AA ⟨AA,AA,AA,AA,AA,trivial⟩ ⟨Chg.refl _ _,J,AB,‹_›,(by have q1:out=s.parts.foldl (CZ id) []:=FK (by assumption:(s.parts.drop k).foldl (CZ id) out=_) AB; rw [q1]; rfl)⟩ ?_
 rintro ⟨out,a_out,n_out,c_out,k⟩ dp aE ⟨ac,W,cG,cH,cI⟩ aq
 have aV:Mv [O] [O] aH aE:=Mv.inl ac all_nil (all_cons (.inl AD) all_nil)
 replace ⟨h4,E,C⟩:=(sp aV ac).g3 h4 E C
 have cJ:=W.len; have cK:=W.max
 refine .s<|.g<|.bp ((k:Int)< (s.mem.length:Int)) (fun bC=>?_) (fun bC=>.d<|.s<|.cf<|.x 4 rfl<|.s<|.g<|.r 2<|.d<|.rt Tryz.func97 Tryz.results97 (.slice a_out n_out c_out) ⟨(W.vl (by exact FK ‹_› AB) (fun _ _ h=>h.1)),C⟩)
 refine .d<|.s<|.ct<|.sk<|.s<|.b 5<|.s<|.g ?_
 have bD:k< s.mem.length:=AB
 refine .ix k 3 h4 bD ?_
 obtain ⟨aj,aB⟩:∃ y,s.mem[k]? = some y:=⟨_,AP AB⟩
 have cL:=AX aB; have cd:=AQ aB
 obtain ⟨_,rfl,bE⟩:=h4.elem k aj aB
 refine .lg 0 bE<|.np 107 [vI 0,vI 0,vI 0] fun aF dq al aW bF bG=>?_
 have cM:=AS al E.lt
 have cN:=C.cn al
 have cO:=ac.cn al
 replace ⟨E,W,C,ac⟩:=(sn [O] aW al).g4 E W C ac
 refine .sc [vI aj.id,vI aj.row.t,vI aj.row.v] bF fun aG aX aC bH=>?_
 replace ⟨E,W,C,ac⟩:=(so [aF,O] aX).g4 E W C ac
 refine .d<|.s<|.g<|.r 1<|.lb aC<|.r 1<|.eq aj.id id (fun bI=>?_) (fun bI=>?_)
 ·refine .d<|.ct<|.g<|.r 2<|.ln aC<|.cl (HS out aj.row W.ta (by (have q1:=Blk.len (by assumption:Blk out); omega)) (w:=aG) (F:=all)) ?_
  rintro dr bo ⟨⟨ce,cg,rfl,ar⟩,aY⟩
  have aZ:=al2 aC.lt E.lt
  have bJ:Gb w.heap.size aG.heap.size:=C.size
  replace ⟨W,C,ac⟩:=(se [aF,O] aY).g3 W C ac
  have ar:=ar.fr aZ bJ
  have cP:=ar.max
  refine .r 1<|.d<|.ib 5<|.g<|.it ((k:Int)+1)<|.r 1<|.d ?_
  have bK:Mv [aF,O] [O] bo bo:=Mv.less (all_cons AE all_nil)
  replace ⟨W,ar⟩:=(sp bK (Chg.refl nil _)).g2 W ar
  exact aq (DA aj.row out,ce,(DA aj.row out).length,cg,k+1) _ _ ⟨AA,AA,AA,AA,AA,trivial⟩ ⟨ac,ar,AB,(by exact Blk.ins ‹_› (p1 _ ‹_›)),(by have q1:=E6 (by assumption:(s.mem.drop k).foldl (Cg id) out=_) ‹_›; (rw [LG ‹_› ‹_›] at q1; exact q1))⟩ (by (simp only []; omega))
 refine .d<|.cf<|.sk<|.ib 5<|.g<|.it ((k:Int)+1)<|.r 1<|.d ?_
 have bL:Mv [aF,O] [O] aG aG:=Mv.less (all_cons AE all_nil)
 replace W:=(sp bL (Chg.refl nil _)).g1 W
 exact aq (out,a_out,n_out,c_out,k+1) _ _ ⟨AA,AA,AA,AA,AA,trivial⟩ ⟨ac,W,AB,‹_›,(by have q1:=E6 (by assumption:(s.mem.drop k).foldl (Cg id) out=_) ‹_›; (rw [KJ ‹_›] at q1; exact q1))⟩ (by (simp only []; omega))
end Go.Proofs.YtganlmloonielaaGreat
namespace Go.Proofs.YtganlmloonielaaGreat
def FD (n:List Tag):Nat→List (List Tag)→Int
 | _,[]=>-1
 | i,x::xs=>if x==n then (i:Int) else FD n (i+1) xs
def CT (t:Tag):Nat→List Pst→Int
 | _,[]=>-1
 | i,x::xs=>if x.tag==t then (i:Int) else CT t (i+1) xs
theorem Ss (n:List Tag):∀ (xs:List (List Tag)) (i:Nat),-1≤FD n i xs∧FD n i xs+1≤(i:Int)+xs.length:=by
 intro xs
 induction xs with
 | nil=>intro i; simp [FD]
 | cons x xs ih =>
   intro i
   have:=ih (i+1)
   unfold FD
   simp only [List.length_cons]
   split <;> omega
def HT (x y:Str):Int:=if Bq x y then -1 else if Bq y x then 1 else 0
def orF:List Int→Int
 | []=>0
 | x::xs=>if x≠0 then x else orF xs
def Ks (a b:Pst):Int:=orF [HT a.tag.key b.tag.key,HT a.tag.val b.tag.val]
theorem Hz (x y:Str):Ev x y = !Bq y x:=by
 have key:∀ (x y:Str),(Op.bytesLess x y || x==y) = !Op.bytesLess y x:=by
  intro x
  induction x with
  | nil=>intro y; cases y <;> simp [Op.bytesLess]
  | cons a x ih =>
    intro y
    cases y with
    | nil=>simp [Op.bytesLess]
    | cons b y =>
      show ((decide (a< b) || a==b&&Op.bytesLess x y) || (a::x)==(b::y)) = !(decide (b< a) || b==a&&Op.bytesLess y x)
      rcases Nat.lt_trichotomy a.toNat b.toNat with h | h | h
      ·have h1:a< b:=UInt8.lt_iff_toNat_lt.2 h
       have h2:¬ b< a:=fun h2=>by have:=UInt8.lt_iff_toNat_lt.1 h2; omega
       have h3:¬ b=a:=fun e=>by rw [e] at h; omega
       simp [h1,h2,h3]
      ·have h1:a=b:=UInt8.toNat_inj.1 h
       subst h1
       have h2:¬ a< a:=fun h2=>by have:=UInt8.lt_iff_toNat_lt.1 h2; omega
       have:=ih y
       simp only [h2,decide_false,beq_self_eq_true,Bool.true_and,Bool.false_or,List.cons_beq_cons]
       exact this
      ·have h1:b< a:=UInt8.lt_iff_toNat_lt.2 h
       have h2:¬ a< b:=fun h2=>by have:=UInt8.lt_iff_toNat_lt.1 h2; omega
       have h3:¬ a=b:=fun e=>by rw [e] at h; omega
       simp [h1,h2,h3]
 exact key x y
theorem St {names:List (List Tag)} (h:(names.map text).Nodup):∀ (k:Nat) (x:List Tag),names[k]? = some x→FD x 0 names=k:=by
 have key:∀ (ns:List (List Tag)) (i k:Nat) (x:List Tag),(ns.map text).Nodup→ns[k]? = some x→FD x i ns=i+k:=by
  intro ns
  induction ns with
  | nil=>intro i k x _ h; simp at h
  | cons y ys ih =>
    intro i k x hn hx
    rw [List.map_cons,List.nodup_cons] at hn
    unfold FD
    cases k with
    | zero =>
      simp at hx
      subst hx
      simp
    | succ k =>
      rw [List.getElem?_cons_succ] at hx
      have hne:¬ (y==x)=true:=fun e=>hn.1 (by rw [eq_of_beq e]; exact List.mem_map_of_mem (AQ hx))
      rw [if_neg hne,ih (i+1) k x hn.2 hx]
      omega
 intro k x hx
 have:=key names 0 k x h hx
 omega
theorem Su {names:List (List Tag)} {k:Nat} {x:List Tag} (h:NmI names) (hx:names[k]? = some x) (h2:BS x=false∨FD x 0 names+1≠(k:Int)+1):False:=by
 rcases h2 with h2 | h2
 ·rw [h.ok x (AQ hx)] at h2; cases h2
 ·rw [St h.nodup k x hx] at h2; omega
theorem Sv {a b:Pst} (h:(a.tag==b.tag)=true):(a.ids==b.ids)=(a==b):=by
 rw [Bool.eq_iff_iff,beq_iff_eq,beq_iff_eq,Ey]
 exact ⟨fun h1=>⟨eq_of_beq h,h1⟩,fun h1=>h1.2⟩
theorem Sw {a b:Pst} (h:(a.tag==b.tag)=false):false=(a==b):=by
 symm
 rw [beq_eq_false_iff_ne]
 rintro rfl
 simp at h
end Go.Proofs.YtganlmloonielaaGreat
namespace Go.Proofs.YtganlmloonielaaGreat
set_option maxRecDepth 100000
set_option maxHeartbeats 4000000
theorem H0 (x:List Tag) (n:List Tag) {w:World} {F:Nat→Prop} {a1:Option Addr} {n1 c1:Nat} (h1:RepS w F a1 n1 c1 x) {bq_n:Nat} {a2:Option Addr} {c2:Nat} (hb_n:Box w bq_n 77 [.slice a2 n.length c2]) (h2:RepS w F a2 n.length c2 n)  : Calls Tryz.prog 190 [.slice a1 n1 c1,.pointer (some ⟨bq_n,0,none⟩)].toArray w (As fun rv w'=>rv=.bool ((x==n))∧Ext w w'):=by
 refine goT Tryz.func190 ?_
 obtain ⟨rfl,J,h1⟩:=h1.tp
 replace h2:=h2.top (s:=w.heap.size)
 have O:=h2.max
 refine .s<|.g<|.r 1<|.d<|.s<|.g<|.r 1<|.lb hb_n<|.cl (Ch x n h1.ta h2.ta (w:=w) (F:=all)) ?_
 rintro W aa ⟨rfl,C⟩
 replace hb_n:=(se [] C).g1 hb_n
 have E:=C
 exact .r 1<|.d<|.rt Tryz.func190 Tryz.results190 (.bool (x==n)) ⟨(congrArg Value.bool (by simp_all)),E⟩
theorem H3 (s:List (List Tag)) (n:List Tag) {w:World} {F:Nat→Prop} {a1:Option Addr} {n1 c1:Nat} (h1:RepS w F a1 n1 c1 s) {bq_n:Nat} {a2:Option Addr} {c2:Nat} (hb_n:Box w bq_n 77 [.slice a2 n.length c2]) (h2:RepS w F a2 n.length c2 n)  : Calls Tryz.prog 189 [.slice a1 n1 c1,.func (.func 190) #[] #[.pointer (some ⟨bq_n,0,none⟩)]].toArray w (As fun rv w'=>rv=.int .i64 (FD n 0 s)∧Ext w w'):=by
 refine goT Tryz.func189 ?_
 obtain ⟨rfl,ak,h1⟩:=h1.tp
 replace h2:=h2.top (s:=w.heap.size)
 have al:=h2.max
 refine .s<|.g<|.r 1<|.d<|.s<|.s<|.g<|.r 3<|.d<|.b 0<|T.loop (X:=Nat) 0 (fun k=>[(0,.slice a1 s.length c1),(1,.func (.func 190) #[] #[.pointer (some ⟨bq_n,0,none⟩)]),(7,vI (s.length:Int)),(8,vI (k:Int))]) (fun k J=>Chg (ins []) w J∧(k≤s.length)∧(FD n k (s.drop k)=FD n 0 s)) (fun k=>s.length - k) AA ⟨AA,AA,AA,AA,trivial⟩ ⟨Chg.refl _ _,(by simp),(by simp)⟩ ?_
 rintro k av J ⟨C,am,ao⟩ O
 have aa:Mv [] [] w J:=Mv.inl C all_nil all_nil
 replace ⟨h1,h2,hb_n⟩:=(sp aa C).g3 h1 h2 hb_n
 have E:Chg nil w J:=Chg.CY (Chg.refl nil w) C all_nil
 refine .s<|.g<|.bp ((k:Int)< (s.length:Int)) (fun af=>?_) (fun af=>.d<|.s<|.cf<|.x 0 rfl<|.s<|.g<|.r 1<|.d<|.rt Tryz.func189 Tryz.results189 (vI (-1)) ⟨(congrArg (Value.int .i64) (by grind [FD,AY])),E⟩)
 refine .d<|.s<|.ct<|.sk<|.s<|.b 1<|.s<|.g<|.r 2<|.d<|.s<|.g<|.r 3 ?_
 have ag:k< s.length:=AB
 refine .ix k 1 h1 ag ?_
 obtain ⟨ac,W⟩:∃ y,s[k]? = some y:=⟨_,AP AB⟩
 have aq:=AX W; have aj:=AQ W
 obtain ⟨_,⟨aw,ax,ay,rfl,ae⟩,ah⟩:=h1.elem k ac W
 have ai:=ae.len
 subst ai
 have ar:=ae.max
 refine .lh 0 ah<|.cl (H0 ac n ae.ta hb_n h2.ta (w:=J) (F:=all)) ?_
 rintro az aA ⟨rfl,ab⟩
 replace ⟨hb_n,E,C⟩:=(se [] ab).g3 hb_n E C
 cases au:(ac==n)
 ·exact .d<|.cf<|.sk<|.ib 1<|.g<|.it ((k:Int)+1)<|.r 1<|.d<|O (k+1) _ _ ⟨AA,AA,AA,AA,trivial⟩ ⟨C,AB,(by grind [FD])⟩ AB
 exact .d<|.ct<|.s<|.g<|.r 2<|.d<|.rt Tryz.func189 Tryz.results189 (vI (k:Int)) ⟨(congrArg (Value.int .i64) (by grind [FD,AY])),E⟩
theorem JY (names:List (List Tag)) (n:List Tag) {w:World} {F:Nat→Prop} {a1:Option Addr} {n1 c1:Nat} (h1:RepS w F a1 n1 c1 names) {a2:Option Addr} {n2 c2:Nat} (h2:RepS w F a2 n2 c2 n)  : Calls Tryz.prog 174 [.slice a1 n1 c1,.slice a2 n2 c2].toArray w (As fun rv w'=>rv=.int .i64 ((FD n 0 names+1))∧Ext w w'):=by
 refine goT Tryz.func174 ?_
 obtain ⟨rfl,ac,h1⟩:=h1.tp
 obtain ⟨rfl,ae,h2⟩:=h2.tp
 refine .s<|.g<|.np 77 [.slice a2 n.length c2] fun af ab J C W aa=>?_
 replace ⟨h1,h2⟩:=(sn [] C J).g2 h1 h2
 have E:=C
 refine .r 1<|.d<|.s<|.g<|.r 2<|.cl (H3 names n h1.ta W h2.ta (w:=ab) (F:=all)) ?_
 rintro ag ah ⟨rfl,O⟩
 replace E:=(se [] O).g1 E
 exact RG.int (FD n 0 names+1) AA (by have:=Ss n names 0; omega)<|.r 1<|.d<|.rt Tryz.func174 Tryz.results174 (vI (FD n 0 names+1)) ⟨(congrArg (Value.int .i64) (by rfl)),E⟩
theorem Ip (p:Pst) (t:Tag) {w:World} {F:Nat→Prop} {a1:Option Addr} {n1 c1:Nat} (h1:RepS w F a1 n1 c1 p.ids) {bq_t:Nat} (hb_t:Box w bq_t 120 [.string (bs t.key),.string (bs t.val)])  : Calls Tryz.prog 153 [.agg #[.string (bs p.tag.key),.string (bs p.tag.val),.slice a1 n1 c1],.pointer (some ⟨bq_t,0,none⟩)].toArray w (As fun rv w'=>rv=.bool ((p.tag==t))∧Ext w w'):=by
 refine goT Tryz.func153 ?_
 obtain ⟨rfl,aa,h1⟩:=h1.tp
 refine .s<|.g<|.np 149 [vT p.tag.key,vT p.tag.val,.slice a1 p.ids.length c1] fun ab ac E C J O=>?_
 replace hb_t:=(se [] C).g1 hb_t
 have W:=C
 exact .r 1<|.d<|.s<|.g<|.r 1<|.ln J<|.ln hb_t<|RG.MU (t:=120) (x:=p.tag) (y:=t) AA AA<|.r 1<|.d<|.rt Tryz.func153 Tryz.results153 (.bool (p.tag==t)) ⟨(congrArg Value.bool (by simp_all)),W⟩
theorem H4 (s:List Pst) (t:Tag) {w:World} {F:Nat→Prop} {a1:Option Addr} {n1 c1:Nat} (h1:RepS w F a1 n1 c1 s) {bq_t:Nat} (hb_t:Box w bq_t 120 [.string (bs t.key),.string (bs t.val)])  : Calls Tryz.prog 152 [.slice a1 n1 c1,.func (.func 153) #[] #[.pointer (some ⟨bq_t,0,none⟩)]].toArray w (As fun rv w'=>rv=.int .i64 (CT t 0 s)∧Ext w w'):=by
 refine goT Tryz.func152 ?_
 obtain ⟨rfl,ak,h1⟩:=h1.tp
 refine .s<|.g<|.r 1<|.d<|.s<|.s<|.g<|.r 3<|.d<|.b 0<|T.loop (X:=Nat) 0 (fun k=>[(0,.slice a1 s.length c1),(1,.func (.func 153) #[] #[.pointer (some ⟨bq_t,0,none⟩)]),(7,vI (s.length:Int)),(8,vI (k:Int))]) (fun k J=>Chg (ins []) w J∧(k≤s.length)∧(CT t k (s.drop k)=CT t 0 s)) (fun k=>s.length - k) AA ⟨AA,AA,AA,AA,trivial⟩ ⟨Chg.refl _ _,(by simp),(by simp)⟩ ?_
 rintro k au J ⟨C,al,am⟩ O
 have aa:Mv [] [] w J:=Mv.inl C all_nil all_nil
 replace ⟨h1,hb_t⟩:=(sp aa C).g2 h1 hb_t
 have E:Chg nil w J:=Chg.CY (Chg.refl nil w) C all_nil
 refine .s<|.g<|.bp ((k:Int)< (s.length:Int)) (fun af=>?_) (fun af=>.d<|.s<|.cf<|.x 0 rfl<|.s<|.g<|.r 1<|.d<|.rt Tryz.func152 Tryz.results152 (vI (-1)) ⟨(congrArg (Value.int .i64) (by grind [CT,AY])),E⟩)
 refine .d<|.s<|.ct<|.sk<|.s<|.b 1<|.s<|.g<|.r 2<|.d<|.s<|.g<|.r 3 ?_
 have ag:k< s.length:=AB
 refine .ix k 3 h1 ag ?_
 obtain ⟨ac,W⟩:∃ y,s[k]? = some y:=⟨_,AP AB⟩
 have ao:=AX W; have aj:=AQ W
 obtain ⟨_,⟨av,aw,ax,rfl,ae⟩,ah⟩:=h1.elem k ac W
 have ai:=ae.len
 subst ai
 have aq:=ae.max
 refine .lg 0 ah<|.cl (Ip ac t ae.ta hb_t (w:=J) (F:=all)) ?_
 rintro ay az ⟨rfl,ab⟩
 replace ⟨hb_t,E,C⟩:=(se [] ab).g3 hb_t E C
 cases ar:(ac.tag==t)
 ·exact .d<|.cf<|.sk<|.ib 1<|.g<|.it ((k:Int)+1)<|.r 1<|.d<|O (k+1) _ _ ⟨AA,AA,AA,AA,trivial⟩ ⟨C,AB,(by grind [CT])⟩ AB
 exact .d<|.ct<|.s<|.g<|.r 2<|.d<|.rt Tryz.func152 Tryz.results152 (vI (k:Int)) ⟨(congrArg (Value.int .i64) (by grind [CT,AY])),E⟩
theorem E7 (x:Str) {w:World} {F:Nat→Prop}   : Calls Tryz.prog 177 [.string (bs x)].toArray w (As fun rv w'=>rv=.bool (false)∧Ext w w'):=by
 exact goT Tryz.func177<|.s<|.g<|.r 1<|.d<|.s<|.g<|.r 2<|RG.eqv (v:=.bool (!(x==x))) AA (SY x x)<|.r 1<|.d<|.rt Tryz.func177 Tryz.results177 (.bool (!(x==x))) ⟨(congrArg Value.bool (by simp)),(Chg.refl _ _)⟩
theorem Ea (x:Str) (y:Str) {w:World} {F:Nat→Prop}   : Calls Tryz.prog 157 [.string (bs x),.string (bs y)].toArray w (As fun rv w'=>rv=.int .i64 (HT x y)∧Ext w w'):=by
 refine goT Tryz.func157<|.s<|.g<|.r 1<|.d<|.s<|.g<|.r 1<|.cl (E7 x (w:=w) (F:=all)) ?_
 rintro ab O ⟨rfl,E⟩
 have C:=E
 refine .r 1<|.d<|.s<|.g<|.r 1<|.cl (E7 y (w:=O) (F:=all)) ?_
 rintro ac ae ⟨rfl,J⟩
 replace C:=(se [] J).g1 C
 refine .r 1<|.d<|.s<|.s<|.g<|.r 1<|.d<|.cf<|.sk<|.s<|.s<|.g<|.r 1<|.d<|.cf<|.sk<|.s<|.s<|.g<|.r 2<|RG.eqv (v:=.bool ((Bq x y))) AA (UJ x y) ?_
 cases W:(Bq x y)
 ·refine .d<|.cf<|.sk<|.s<|.s<|.g<|.r 2<|RG.eqv (v:=.bool (!(Ev x y))) AA (V7 x y) ?_
  cases aa:(Ev x y)
  ·exact .d<|.ct<|.s<|.g<|.r 1<|.d<|.rt Tryz.func157 Tryz.results157 (vI 1) ⟨(congrArg (Value.int .i64) (by grind [HT,Hz])),C⟩
  exact .d<|.cf<|.sk<|.s<|.g<|.r 1<|.d<|.rt Tryz.func157 Tryz.results157 (vI 0) ⟨(congrArg (Value.int .i64) (by grind [HT,Hz])),C⟩
 exact .d<|.ct<|.s<|.g<|.r 1<|.d<|.rt Tryz.func157 Tryz.results157 (vI (-1)) ⟨(congrArg (Value.int .i64) (by grind [HT,Hz])),C⟩
theorem L0 (vals:List Int) {w:World} {F:Nat→Prop} {a1:Option Addr} {n1 c1:Nat} (h1:RepS w F a1 n1 c1 vals)  : Calls Tryz.prog 156 [.slice a1 n1 c1].toArray w (As fun rv w'=>rv=.int .i64 (orF vals)∧Ext w w'):=by
 refine goT Tryz.func156 ?_
 obtain ⟨rfl,ai,h1⟩:=h1.tp
 refine .s<|.g<|.r 1<|.d<|.s<|.g<|.r 1<|.d<|.s<|.s<|.g<|.r 3<|.d<|.b 0<|T.loop (X:=Nat) 0 (fun k=>[(3,vI 0),(6,.slice a1 vals.length c1),(7,vI (vals.length:Int)),(8,vI (k:Int))]) (fun k O=>Chg (ins []) w O∧(k≤vals.length)∧(orF (vals.drop k)=orF vals)) (fun k=>vals.length - k) AA ⟨AA,AA,AA,AA,trivial⟩ ⟨Chg.refl _ _,(by simp),(by simp)⟩ ?_
 rintro k am O ⟨C,aj,ak⟩ E
 have W:Mv [] [] w O:=Mv.inl C all_nil all_nil
 replace h1:=(sp W C).g1 h1
 have aa:Chg nil w O:=Chg.CY (Chg.refl nil w) C all_nil
 refine .s<|.g<|.bp ((k:Int)< (vals.length:Int)) (fun ac=>?_) (fun ac=>.d<|.s<|.cf<|.x 0 rfl<|.s<|.g<|.r 2<|.d<|.rt Tryz.func156 Tryz.results156 (vI 0) ⟨(congrArg (Value.int .i64) (by grind [orF,AY])),aa⟩)
 refine .d<|.s<|.ct<|.sk<|.s<|.b 1<|.s<|.g ?_
 have ae:k< vals.length:=AB
 refine .ix k 1 h1 ae ?_
 obtain ⟨ab,J⟩:∃ y,vals[k]? = some y:=⟨_,AP AB⟩
 have al:=AX J; have ah:=AQ J
 obtain ⟨_,rfl,af⟩:=h1.elem k ab J
 exact .lh 0 af<|.r 1<|.d<|.s<|.g<|.r 2<|.ne ab 0 (fun ag=>.d<|.ct<|.s<|.g<|.r 2<|.d<|.rt Tryz.func156 Tryz.results156 (vI ab) ⟨(congrArg (Value.int .i64) (by grind [orF,AY])),aa⟩) fun ag=>.d<|.cf<|.sk<|.ib 1<|.g<|.it ((k:Int)+1)<|.r 1<|.d<|E (k+1) _ _ ⟨AA,AA,AA,AA,trivial⟩ ⟨C,AB,(by grind [orF])⟩ AB
theorem Iq (a:Pst) (b_:Pst) {w:World} {F:Nat→Prop} {a1:Option Addr} {n1 c1:Nat} (h1:RepS w F a1 n1 c1 a.ids) {a2:Option Addr} {n2 c2:Nat} (h2:RepS w F a2 n2 c2 b_.ids)  : Calls Tryz.prog 155 [.agg #[.string (bs a.tag.key),.string (bs a.tag.val),.slice a1 n1 c1],.agg #[.string (bs b_.tag.key),.string (bs b_.tag.val),.slice a2 n2 c2]].toArray w (As fun rv w'=>rv=.int .i64 (Ks a b_)∧Ext w w'):=by
 refine goT Tryz.func155 ?_
 obtain ⟨rfl,ay,h1⟩:=h1.tp
 obtain ⟨rfl,az,h2⟩:=h2.tp
 refine .s<|.g<|.np 149 [vT a.tag.key,vT a.tag.val,.slice a1 a.ids.length c1] fun au aB ag O E ah=>?_
 have C:=O
 refine .np 149 [vT b_.tag.key,vT b_.tag.val,.slice a2 b_.ids.length c2] fun av aC ai W J aj=>?_
 replace ⟨E,C⟩:=(se [] W).g2 E C
 refine .r 1<|.d<|.s<|.gd nil 13 fun aD aa=>?_
 replace ⟨E,J,C⟩:=(se [] aa).g3 E J C
 refine .r [0,1]<|.lb 2 E id<|.r [3,4]<|.lb 5 J id<|GA.Bz (i:=6) AA (fun aw aA=>Ea a.tag.key b_.tag.key (w:=aw) (F:=all))<|.r [7,8]<|.lb 9 E id<|.r [10,11]<|.lb 12 J id<|.d fun ax ab=>?_
 replace C:=(se [] ab).g1 C
 refine .cl (Ea a.tag.val b_.tag.val (w:=ax) (F:=all)) ?_
 rintro aE aF ⟨rfl,ac⟩
 replace C:=(se [] ac).g1 C
 refine .ns 2 3 [vI (HT a.tag.key b_.tag.key),vI (HT a.tag.val b_.tag.val)] fun ak al am ae ao aq=>?_
 replace C:=(se [] ae).g1 C
 have ar:Own (α:=Int) al ak 3 (nin (ge w.heap.size) [ak,av,au]) 2 2 [HT a.tag.key b_.tag.key,HT a.tag.val b_.tag.val]:=Own.lit ao rfl (by decide) ⟨rfl,rfl,rfl⟩
 refine .cl (L0 ([HT a.tag.key b_.tag.key,HT a.tag.val b_.tag.val]:List Int) (ar.rep) (w:=al) (F:=all)) ?_
 rintro aG aH ⟨rfl,af⟩
 replace C:=(se [] af).g1 C
 exact .r 1<|.d<|.rt Tryz.func155 Tryz.results155 (vI (orF ([HT a.tag.key b_.tag.key,HT a.tag.val b_.tag.val]:List Int))) ⟨(congrArg (Value.int .i64) (by rfl)),C⟩
theorem Ir (a:Pst) (b_:Pst) {w:World} {F:Nat→Prop} {a1:Option Addr} {n1 c1:Nat} (h1:RepS w F a1 n1 c1 a.ids) {a2:Option Addr} {n2 c2:Nat} (h2:RepS w F a2 n2 c2 b_.ids)  : Calls Tryz.prog 151 [.agg #[.string (bs a.tag.key),.string (bs a.tag.val),.slice a1 n1 c1],.agg #[.string (bs b_.tag.key),.string (bs b_.tag.val),.slice a2 n2 c2]].toArray w (As fun rv w'=>rv=.bool ((a==b_))∧Ext w w'):=by
 refine goT Tryz.func151 ?_
 obtain ⟨rfl,ai,h1⟩:=h1.tp
 obtain ⟨rfl,aj,h2⟩:=h2.tp
 refine .s<|.g<|.np 149 [vT a.tag.key,vT a.tag.val,.slice a1 a.ids.length c1] fun ag al O J E ae=>?_
 replace ⟨h1,h2⟩:=(sn [] J O).g2 h1 h2
 have C:=J
 refine .np 149 [vT b_.tag.key,vT b_.tag.val,.slice a2 b_.ids.length c2] fun am ah W aa ab af=>?_
 replace ⟨h1,h2,E,C⟩:=(sn [ag] aa W).g4 h1 h2 E C
 refine .r 1<|.d<|.s<|.g<|.r 1<|.ln E<|.r 1<|.ln ab<|RG.MU (t:=120) (x:=a.tag) (y:=b_.tag) AA AA ?_
 cases ak:(a.tag==b_.tag)
 ·exact .r 8<|.d<|.rt Tryz.func151 Tryz.results151 (.bool false) ⟨(congrArg Value.bool (by exact Sw ‹_›)),C⟩
 refine .r 2<|.lb E<|.r 1<|.lb ab<|.cl (Dv a.ids b_.ids h1.ta h2.ta (w:=ah) (F:=all)) ?_
 rintro ao aq ⟨rfl,ac⟩
 replace C:=(se [] ac).g1 C
 exact .r 2<|.d<|.rt Tryz.func151 Tryz.results151 (.bool (a.ids==b_.ids)) ⟨(congrArg Value.bool (by exact Sv ‹_›)),C⟩
theorem H5 (s1:List Pst) (s2:List Pst) {w:World} {F:Nat→Prop} {a1:Option Addr} {n1 c1:Nat} (h1:RepS w F a1 n1 c1 s1) {a2:Option Addr} {n2 c2:Nat} (h2:RepS w F a2 n2 c2 s2)  : Calls Tryz.prog 150 [.slice a1 n1 c1,.slice a2 n2 c2,.func (.func 151) #[] #[]].toArray w (As fun rv w'=>rv=.bool ((s1==s2))∧Ext w w'):=by
 refine goT Tryz.func150 ?_
 obtain ⟨rfl,aR,h1⟩:=h1.tp
 obtain ⟨rfl,aS,h2⟩:=h2.tp
 refine .s<|.g<|.r 1<|.d<|.s<|.s<|.g<|.r 4<|.ne (s1.length:Int) (s2.length:Int) (fun au=>.d<|.ct<|.s<|.g<|.r 1<|.d<|.rt Tryz.func150 Tryz.results150 (.bool false) ⟨(congrArg Value.bool (by grind [AY])),(Chg.refl _ _)⟩) fun au=>.d<|.cf<|.sk<|.s<|.s<|.g<|.r 3<|.d<|.b 0<|T.loop (X:=Nat) 0 (fun k=>[(1,.slice a2 s2.length c2),(2,.func (.func 151) #[] #[]),(15,.slice a1 s1.length c1),(16,vI (s1.length:Int)),(17,vI (k:Int))]) (fun k ai=>Chg (ins []) w ai∧(k≤s1.length)∧(s1.drop k=s2.drop k↔s1=s2)) (fun k=>s1.length - k) AA ⟨AA,AA,AA,AA,AA,trivial⟩ ⟨Chg.refl _ _,(by simp),(by simp)⟩ ?_
 rintro k bi ai ⟨C,aT,aU⟩ af
 have aj:Mv [] [] w ai:=Mv.inl C all_nil all_nil
 replace ⟨h1,h2⟩:=(sp aj C).g2 h1 h2
 have E:Chg nil w ai:=Chg.CY (Chg.refl nil w) C all_nil
 refine .s<|.g<|.bp ((k:Int)< (s1.length:Int)) (fun av=>?_) (fun av=>.d<|.s<|.cf<|.x 0 rfl<|.s<|.g<|.r 1<|.d<|.rt Tryz.func150 Tryz.results150 (.bool true) ⟨(congrArg Value.bool (by grind [AY])),E⟩)
 refine .d<|.s<|.ct<|.sk<|.s<|.b 1<|.s<|.g<|.r 1 ?_
 have aw:k< s1.length:=AB
 refine .ix k 3 h1 aw ?_
 obtain ⟨ac,ag⟩:∃ y,s1[k]? = some y:=⟨_,AP AB⟩
 have aV:=AX ag; have aJ:=AQ ag
 obtain ⟨_,⟨aL,bj,aM,rfl,J⟩,ax⟩:=h1.elem k ac ag
 have ay:=J.len
 subst ay
 have aW:=J.max
 refine .lg 0 ax<|.np 149 [.string (bs []),.string (bs []),.slice none 0 0] fun ar bk ab ak az aA=>?_
 have aX:=E.cn ab
 have aY:=C.cn ab
 replace ⟨h2,J,E,C⟩:=(sn [] ak ab).g4 h2 J E C
 refine .r 1<|.sc [vT ac.tag.key,vT ac.tag.val,.slice aL ac.ids.length aM] az fun bm al O aB=>?_
 replace ⟨h2,J,E,C⟩:=(so [ar] al).g4 h2 J E C
 refine .d<|.s<|.g<|.r 2 ?_
 have aC:k< s2.length:=AB
 refine .ix k 3 h2 aC ?_
 obtain ⟨ae,ah⟩:∃ y,s2[k]? = some y:=⟨_,AP AB⟩
 have aZ:=AX ah; have aK:=AQ ah
 obtain ⟨_,⟨aN,bn,aO,rfl,aa⟩,aD⟩:=h2.elem k ae ah
 have aE:=aa.len
 subst aE
 have ba:=aa.max
 refine .lg 0 aD<|.np 149 [.string (bs []),.string (bs []),.slice none 0 0] fun aP bo W am aF aG=>?_
 have bc:=AS W O.lt
 have bd:=E.cn W
 have bg:=C.cn W
 replace ⟨J,O,aa,E,C⟩:=(sn [ar] am W).g5 J O aa E C
 refine .sc [vT ae.tag.key,vT ae.tag.val,.slice aN ae.ids.length aO] aF fun aQ ao aH aI=>?_
 replace ⟨J,O,aa,E,C⟩:=(so [aP,ar] ao).g5 J O aa E C
 refine .d<|.s<|.g<|.r 1<|.ln O<|.ln aH<|.cl (Ir ac ae J.ta aa.ta (w:=aQ) (F:=all)) ?_
 rintro bq br ⟨rfl,aq⟩
 replace ⟨E,C⟩:=(se [] aq).g2 E C
 cases bh:(ac==ae)
 ·exact .r 1<|.d<|.ct<|.s<|.g<|.r 1<|.d<|.rt Tryz.func150 Tryz.results150 (.bool false) ⟨(congrArg Value.bool (by grind [AY])),E⟩
 exact .r 1<|.d<|.cf<|.sk<|.ib 1<|.g<|.it ((k:Int)+1)<|.r 1<|.d<|af (k+1) _ _ ⟨AA,AA,AA,AA,AA,trivial⟩ ⟨C,AB,(by grind)⟩ AB
end Go.Proofs.YtganlmloonielaaGreat
namespace Go.Proofs.YtganlmloonielaaGreat
theorem Sx {α:Type} (xs:List α) (x y:α):(xs++[x]).set xs.length y=xs++[y]:=by simp
theorem Sy {α:Type} (xs:List α) (x:α):(xs++[x])[xs.length]? = some x:=by simp
structure RP where
 key:Str
 val:Str
 a:Option Addr
 n:Nat
 c:Nat
instance:Rep RP where
 sz:=3
 rep _ _ x cs:=cs=[.string (bs x.key),.string (bs x.val),.slice x.a x.n x.c]
 len:=by rintro w F x cs rfl; rfl
 pos:=by decide
 flat:=by rintro w F x cs rfl v hv; simp at hv; rcases hv with rfl | rfl | rfl <;> rfl
 frame:=by rintro w w' F F' x cs rfl _; rfl
theorem Jr:Flat RP:=fun _ _ _ _ _ _ h=>h
def Kt (tI:TypeId) (w:World) (y:RP) (ri:Nat) (ids:List Int):Prop :=
 (y.a=none∧y.n=0∧y.c=0∧ids=[])∨(y.a=some ⟨ri,0,none⟩∧Own w ri tI all y.n y.c ids)
structure IX (tX tP tI s0 s1:Nat) (G:Nat→Prop) (w:World) (b3 r c:Nat) (an:Option Addr) (nn cn:Nat) (nms:List (List Tag)) (ys:List RP) (xs:List Pst) (rs:List Nat):Prop where
 hs:s0≤s1
 hG:∀ b,G b→b< s1
 nm:RepS w G an nn cn nms
 box:Box w b3 tX [.slice an nn cn,.slice (some ⟨r,0,none⟩) ys.length c]
 own:Own w r tP all ys.length c ys
 nd:(b3::r::rs).Nodup
 new:∀ b∈b3::r::rs,s1≤b
 lt:∀ b∈b3::r::rs,b< w.heap.size
 lx:ys.length=xs.length
 lr:rs.length=xs.length
 el:∀ (i:Nat) (x:Pst) (y:RP) (ri:Nat),xs[i]? = some x→ys[i]? = some y→rs[i]? = some ri→y.key=x.tag.key∧y.val=x.tag.val∧Kt tI w y ri x.ids
section
variable {tX tP tI s0 s1:Nat} {w w' w2 w3:World} {b3 r c:Nat} {an:Option Addr} {nn cn:Nat} {nms:List (List Tag)} {ys:List RP} {xs:List Pst} {rs:List Nat} {S G:Nat→Prop}
theorem Kt.chg {y:RP} {ri:Nat} {ids:List Int} (h:Kt tI w y ri ids) (hx:Chg S w w') (hr:¬ S ri):Kt tI w' y ri ids:=by
 rcases h with h | ⟨h1,h2⟩
 ·exact .inl h
 ·refine .inr ⟨h1,?_⟩
  have:=(h2.flat BF (F':=fun _=>False)).chg hx hr (fun b hb _=>hb.elim)
  exact this.flat BF
theorem Qx {α:Type} [Rep α] {r t n c:Nat} {xs:List α} (hf:Flat α) (h:Own w r t all n c xs) (hx:Chg S w w') (hr:¬ S r):Own w' r t all n c xs :=
 ((h.flat hf (F':=fun _=>False)).chg hx hr (fun b hb _=>hb.elim)).flat hf
theorem IX.chg (h:IX tX tP tI s0 s1 G w b3 r c an nn cn nms ys xs rs) (hx:Chg S w w') (hS:∀ b∈b3::r::rs,¬ S b) (h1:∀ b,b< s1→¬ S b):IX tX tP tI s0 s1 G w' b3 r c an nn cn nms ys xs rs :=
 ⟨h.hs,h.hG,h.nm.chg hx (fun b hb=>h1 b (h.hG b hb)),h.box.chg hx (hS _ (by simp)),Qx Jr h.own hx (hS _ (by simp)),h.nd,h.new,fun b hb=>Nat.lt_of_lt_of_le (h.lt b hb) hx.size,h.lx,h.lr,
  fun i x y ri h2 h3 h4=>by
   obtain ⟨g1,g2,g3⟩:=h.el i x y ri h2 h3 h4
   exact ⟨g1,g2,g3.chg hx (hS _ (by simp [AQ h4]))⟩⟩
theorem IX.ext (h:IX tX tP tI s0 s1 G w b3 r c an nn cn nms ys xs rs) (hx:Ext w w'):IX tX tP tI s0 s1 G w' b3 r c an nn cn nms ys xs rs:=h.chg hx (fun _ _ h=>h) (fun _ _ h=>h)
theorem IX.one {b:Nat} (h:IX tX tP tI s0 s1 G w b3 r c an nn cn nms ys xs rs) (hx:Chg (Go.Proofs.YtganlmloonielaaGreat.one b) w w') (hb:∀ q∈b3::r::rs,Nb b q) (h1:s1≤b):IX tX tP tI s0 s1 G w' b3 r c an nn cn nms ys xs rs :=
 h.chg hx (fun q hq e=>(hb q hq).ne (by unfold Go.Proofs.YtganlmloonielaaGreat.one at e; exact e.symm)) (fun q hq e=>by unfold Go.Proofs.YtganlmloonielaaGreat.one at e; omega)
theorem IX.rep (h:IX tX tP tI s0 s1 G w b3 r c an nn cn nms ys xs rs):RepS w all (some ⟨r,0,none⟩) ys.length c xs:=by
 have h0:=h.own.rep
 refine ⟨h.lx,h0.le,h0.cap,h0.addr,h0.inF,fun i x hi=>?_⟩
 obtain ⟨hl,_⟩:=List.getElem?_eq_some_iff.1 hi
 have hy:ys[i]? = some (ys[i]'(by rw [h.lx]; exact hl)):=AP _
 have hr:rs[i]? = some (rs[i]'(by rw [h.lr]; exact hl)):=AP _
 obtain ⟨cs,g1,g2⟩:=h0.elem i _ hy
 obtain ⟨e1,e2,e3⟩:=h.el i x _ _ hi hy hr
 cases g1
 refine ⟨_,?_,g2⟩
 rw [e1,e2]
 rcases e3 with ⟨a1,a2,a3,a4⟩ | ⟨a1,a2⟩
 ·rw [a1,a2,a3]
  refine ⟨none,0,0,rfl,?_⟩
  rw [a4]
  exact RepS.Ag _ _ none 0 (by decide)
 ·rw [a1]
  exact ⟨_,_,_,rfl,a2.rep⟩
theorem IX.done (h:IX tX tP tI s0 s1 G w b3 r c an nn cn nms ys xs rs):Own w r tP (nin (ge s1) [b3,r]) ys.length c xs:=by
 refine ⟨h.lx,h.own.le,h.own.cap,h.own.row,fun i x hi=>?_⟩
 obtain ⟨hl,_⟩:=List.getElem?_eq_some_iff.1 hi
 have hy:ys[i]? = some (ys[i]'(by rw [h.lx]; exact hl)):=AP _
 have hr:rs[i]? = some (rs[i]'(by rw [h.lr]; exact hl)):=AP _
 obtain ⟨cs,g1,g2⟩:=h.own.elem i _ hy
 obtain ⟨e1,e2,e3⟩:=h.el i x _ _ hi hy hr
 cases g1
 refine ⟨_,?_,g2⟩
 rw [e1,e2]
 have hm:=AQ hr
 have hnd:=h.nd
 simp only [List.nodup_cons,List.mem_cons,not_or] at hnd
 have hge:=h.new (rs[i]'(by rw [h.lr]; exact hl)) (by simp [hm])
 rcases e3 with ⟨a1,a2,a3,a4⟩ | ⟨a1,a2⟩
 ·rw [a1,a2,a3]
  refine ⟨none,0,0,rfl,?_⟩
  rw [a4]
  exact RepS.Ag _ _ none 0 (by decide)
 ·rw [a1]
  refine ⟨_,_,_,rfl,(a2.flat BF (F':=fun _=>False)).QF (fun _ _ hf=>hf.elim) ⟨⟨?_,?_⟩,?_⟩⟩
  ·show s1≤_
   omega
  ·simp only [List.mem_cons,List.not_mem_nil,or_false,not_or]
   exact ⟨fun e=>hnd.1.2 (e▸hm),fun e=>hnd.2.1 (e▸hm)⟩
  ·exact fun e=>hnd.2.1 (e▸hm)
theorem IX.names (h:IX tX tP tI s0 s1 G w b3 r c an nn cn nms ys xs rs):RepS w (nin G [b3,r]) an nn cn nms:=h.nm.CJ fun b _ hb=>⟨hb,by
 simp only [List.mem_cons,List.not_mem_nil,or_false,not_or]
 have h1:=h.new b3 (by simp)
 have h2:=h.new r (by simp)
 have h3:=h.hG b hb
 exact ⟨by omega,by omega⟩⟩
def GN (s0 s1 b2 b:Nat):Prop:=s0≤b∧b< s1∧b≠b2
theorem GN.lt {s0 s1 b2:Nat}:∀ b,GN s0 s1 b2 b→b< s1:=fun _ h=>h.2.1
theorem RepS.WB {α:Type} [Rep α] {w:World} {s0 b2 n c:Nat} {o:Option Addr} {xs:List α} (h:RepS w (nin (ge s0) [b2]) o n c xs):RepS w (GN s0 w.heap.size b2) o n c xs:=h.CJ fun b hb hF=>⟨hF.1,hb,fun e=>hF.2 (by simp [e])⟩
theorem RepS.low {α:Type} [Rep α] {w w':World} {F:Nat→Prop} {s1 b n c:Nat} {o:Option Addr} {xs:List α} (h:RepS w (ltG F s1) o n c xs) (hx:Chg (Go.Proofs.YtganlmloonielaaGreat.one b) w w') (hb:s1≤b):RepS w' (ltG F s1) o n c xs :=
 h.chg hx (fun k hk e=>by unfold Go.Proofs.YtganlmloonielaaGreat.one at e; have:=hk.2; omega)
theorem RepS.Va {α:Type} [Rep α] {w:World} {F:Nat→Prop} {n c:Nat} {o:Option Addr} {xs:List α} (h:RepS w F o n c xs):RepS w (ltG all w.heap.size) o n c xs:=h.CJ fun _ hb _=>⟨trivial,hb⟩
theorem IX.WC {tX tP tI s0 s1:Nat} {w:World} {b3 r:Nat} {an:Option Addr} {nn cn:Nat} {nms:List (List Tag)} {G:Nat→Prop} {F:Nat→Prop} (hs:s0≤s1) (hG:∀ b,G b→b< s1) (hn:RepS w G an nn cn nms) (hb:Box w b3 tX [.slice an nn cn,.slice (some ⟨r,0,none⟩) 0 0])
 (ho:Own w r tP F 0 0 ([]:List Pst)) (hne:Nb b3 r) (h3:s1≤b3) (hr:s1≤r):IX tX tP tI s0 s1 G w b3 r 0 an nn cn nms [] [] [] :=
 ⟨hs,hG,hn,hb,⟨rfl,Nat.le_refl _,by decide,ho.row,fun i x hi=>by simp at hi⟩,by simp; exact hne.ne,fun b hb'=>by simp at hb'; rcases hb' with rfl | rfl <;> assumption,
  fun b hb'=>by simp at hb'; rcases hb' with rfl | rfl; exact hb.lt; exact ho.lt,rfl,rfl,fun i x y ri hi=>by simp at hi⟩
theorem Cov.ge {w:World} {b:Nat} (h:Cov nil w b):w.heap.size≤b:=h.or.resolve_left (fun h=>h)
section
variable {tX tP tI s0 s1:Nat} {w w':World} {b3 b2 r c:Nat} {an:Option Addr} {nn cn:Nat} {nms:List (List Tag)} {ys:List RP} {xs:List Pst} {rs:List Nat} {G:Nat→Prop}
theorem IX.Vb (h:IX tX tP tI s0 s1 G w b3 r c an nn cn nms ys xs rs) (hb:b2< s1):Own w r tP (nin (ge s0) [b3,r,b2]) ys.length c xs:=h.done.CJ fun b _ hF=>⟨Nat.le_trans h.hs hF.1,by
 have h1:s1≤b:=hF.1
 have h2:=hF.2
 simp only [List.mem_cons,List.not_mem_nil,or_false,not_or] at h2 ⊢
 exact ⟨h2.1,h2.2,by omega⟩⟩
theorem IX.UU (h:IX tX tP tI s0 s1 (GN s0 s1 b2) w b3 r c an nn cn nms ys xs rs):RepS w (nin (ge s0) [b3,r,b2]) an nn cn nms:=h.names.CJ fun b _ hF=>⟨hF.1.1,by
 have h2:=hF.2
 simp only [List.mem_cons,List.not_mem_nil,or_false,not_or] at h2 ⊢
 exact ⟨h2.1,h2.2,hF.1.2.2⟩⟩
theorem IX.ne (h:IX tX tP tI s0 s1 G w b3 r c an nn cn nms ys xs rs):Nb b3 r:=by
 have:=h.nd
 simp only [List.nodup_cons,List.mem_cons,not_or] at this
 exact ⟨this.1.1⟩
theorem IX.ne3 {i ri:Nat} (h:IX tX tP tI s0 s1 G w b3 r c an nn cn nms ys xs rs) (hr:rs[i]? = some ri):Nb b3 ri:=by
 have:=h.nd
 simp only [List.nodup_cons,List.mem_cons,not_or] at this
 exact ⟨fun e=>this.1.2 (e▸AQ hr)⟩
theorem IX.ner {i ri:Nat} (h:IX tX tP tI s0 s1 G w b3 r c an nn cn nms ys xs rs) (hr:rs[i]? = some ri):Nb r ri:=by
 have:=h.nd
 simp only [List.nodup_cons,List.mem_cons,not_or] at this
 exact ⟨fun e=>this.2.1 (e▸AQ hr)⟩
theorem IX.mi {i ri:Nat} (hr:rs[i]? = some ri):ri∈b3::r::rs:=by simp [AQ hr]
theorem RepS.via {α:Type} [Rep α] {wc wa wb:World} {n c':Nat} {o:Option Addr} {zs:List α} (h:RepS wa (ltG all wc.heap.size) o n c' zs) (ha:Ext wc wa) (hb:Ext wc wb):RepS wb (ltG all wc.heap.size) o n c' zs :=
 h.frame fun b _ hF=>⟨hF,by rw [hb.block hF.2,ha.block hF.2]⟩
theorem UW {xs:List Pst} {t:Tag} {m:Nat} {x:Pst} {z:Int} (hx:(xs++[⟨t,[]⟩])[m]? = some x) (hm:m=xs.length):(xs++[(⟨t,[]⟩:Pst)]).set m ⟨x.tag,x.ids++[z]⟩=xs++[⟨t,[z]⟩]:=by
 subst hm
 rw [Sy] at hx
 cases hx
 rw [Sx]
 rfl
theorem Kt.n {y:RP} {ri:Nat} {ids:List Int} (h:Kt tI w y ri ids):y.n=ids.length:=by
 rcases h with ⟨_,h2,_,h4⟩ | ⟨_,h2⟩
 ·rw [h2,h4]; rfl
 ·exact h2.len
end
def E8 (k:Int) (xs:List Pst) (t:Tag):List Pst :=
 if CT t 0 xs< 0 then xs++[⟨t,[k]⟩] else match xs[(CT t 0 xs).toNat]? with
  | some x=>xs.set (CT t 0 xs).toNat ⟨x.tag,x.ids++[k]⟩
  | none=>xs
def FZ:Nat→List Pst→List (List Tag)→List Pst
 | _,xs,[]=>xs
 | i,xs,n::ns=>FZ (i+1) (n.foldl (E8 ((i:Int)+1)) xs) ns
theorem Is (t:Tag):∀ (xs:List Pst) (i:Nat),(CT t i xs = -1∧∀ x∈xs,x.tag≠t)∨((i:Int)≤CT t i xs∧CT t i xs< (i:Int)+xs.length∧∃ x,xs[(CT t i xs).toNat - i]? = some x∧x.tag=t):=by
 intro xs
 induction xs with
 | nil=>intro i; left; simp [CT]
 | cons x xs ih =>
   intro i
   unfold CT
   by_cases hx:(x.tag==t)=true
   ·right
    rw [if_pos hx]
    exact ⟨by omega,by simp only [List.length_cons]; omega,x,by simp,eq_of_beq hx⟩
   ·rw [if_neg hx]
    rcases ih (i+1) with ⟨h1,h2⟩ | ⟨h1,h2,y,h3,h4⟩
    ·left
     refine ⟨h1,fun z hz=>?_⟩
     rcases List.mem_cons.1 hz with rfl | hz
     ·exact fun e=>hx (by simp [e])
     ·exact h2 z hz
    ·right
     refine ⟨by omega,by simp only [List.length_cons]; omega,y,?_,h4⟩
     rw [show (CT t (i+1) xs).toNat - i=((CT t (i+1) xs).toNat - (i+1))+1 by omega,List.getElem?_cons_succ]
     exact h3
theorem Sz {t:Tag} {xs:List Pst} (h:¬ CT t 0 xs< 0):(CT t 0 xs).toNat< xs.length:=by
 rcases Is t xs 0 with ⟨h1,_⟩ | ⟨_,h2,_⟩
 ·omega
 ·omega
theorem KK {k:Int} {xs:List Pst} {t:Tag} (h:CT t 0 xs< 0):E8 k xs t=xs++[⟨t,[k]⟩]:=by unfold E8; rw [if_pos h]
theorem KL {k:Int} {xs:List Pst} {t:Tag} {x:Pst} (h:¬ CT t 0 xs< 0) (hx:xs[(CT t 0 xs).toNat]? = some x):E8 k xs t=xs.set (CT t 0 xs).toNat ⟨x.tag,x.ids++[k]⟩:=by unfold E8; rw [if_neg h,hx]
theorem Mq (k:Int) (xs:List Pst) (t:Tag) (m:Nat) (h1:xs.length≤m) (h2:∀ x∈xs,x.ids.length≤m):(E8 k xs t).length≤m+1∧∀ x∈E8 k xs t,x.ids.length≤m+1:=by
 unfold E8
 split
 ·refine ⟨by simp; omega,fun x hx=>?_⟩
  rcases List.mem_append.1 hx with hx | hx
  ·have:=h2 x hx; omega
  ·simp at hx; subst hx; simp
 ·split
  ·rename_i x hx
   refine ⟨by simp; omega,fun z hz=>?_⟩
   rcases List.mem_or_eq_of_mem_set hz with hz | rfl
   ·have:=h2 z hz; omega
   ·have:=h2 x (AQ hx); simp; omega
  ·exact ⟨by omega,fun x hx=>by have:=h2 x hx; omega⟩
theorem S0 {i:Nat} {xs ys:List Pst} {ns:List (List Tag)} {n:List Tag} {Y:List Pst} (h:FZ i xs (ns.drop i)=Y) (hd:ns.drop i=n::ns.drop (i+1)) (hy:ys=n.foldl (E8 ((i:Int)+1)) xs):FZ (i+1) ys (ns.drop (i+1))=Y:=by
 rw [hd] at h
 subst hy
 exact h
theorem UX {i:Nat} {xs:List Pst} {ns:List (List Tag)} {Y:List Pst} (h:FZ i xs (ns.drop i)=Y) (hi:ns.length≤i):xs=Y:=by
 rw [AY hi] at h
 exact h
theorem IX.push {r2 c2 vb:Nat} {t:Tag} (h:IX tX tP tI s0 s1 G w b3 r c an nn cn nms ys xs rs) (hs1:s1≤w.heap.size) (hx:Chg (Go.Proofs.YtganlmloonielaaGreat.one r) w w2) (ho:Own w2 r2 tP all (ys.length+1) c2 (ys++[⟨t.key,t.val,none,0,0⟩]))
 (hor:r2=r∨r2=w.heap.size) (hv:∀ q∈b3::r::rs,Nb vb q) (hv1:s1≤vb) (hv2:vb< w.heap.size) (hx3:Chg (Go.Proofs.YtganlmloonielaaGreat.one b3) w2 w3)
 (hb:Box w3 b3 tX [.slice an nn cn,.slice (some ⟨r2,0,none⟩) (ys.length+1) c2]) :
 IX tX tP tI s0 s1 G w3 b3 r2 c2 an nn cn nms (ys++[⟨t.key,t.val,none,0,0⟩]) (xs++[⟨t,[]⟩]) (rs++[vb]):=by
 have hnd:=h.nd
 simp only [List.nodup_cons,List.mem_cons,not_or] at hnd
 obtain ⟨⟨n1,n2⟩,n3,n4⟩:=hnd
 have hb3:=h.lt b3 (by simp)
 have hrr:=h.lt r (by simp)
 have hrs:∀ q∈rs,q< w.heap.size∧q≠b3∧q≠r∧q≠vb:=fun q hq=>⟨h.lt q (by simp [hq]),fun e=>n2 (e▸hq),fun e=>n3 (e▸hq),fun e=>(hv q (by simp [hq])).ne e.symm⟩
 have hvb3:=(hv b3 (by simp)).ne
 have hvr:=(hv r (by simp)).ne
 have e3:b3≠r2:=by rcases hor with rfl | rfl <;> omega
 have e4:∀ q∈rs,q≠r2:=fun q hq=>by have:=hrs q hq; rcases hor with rfl | rfl <;> omega
 have e5:vb≠r2:=by rcases hor with rfl | rfl; exact hvr; omega
 have hnew3:=h.new b3 (by simp)
 have hnewr:=h.new r (by simp)
 have z2:=hx.size
 have z3:=hx3.size
 refine ⟨h.hs,h.hG,(h.nm.chg hx (fun b hb e=>by unfold Go.Proofs.YtganlmloonielaaGreat.one at e; have:=h.hG b hb; omega)).chg hx3 (fun b hb e=>by unfold Go.Proofs.YtganlmloonielaaGreat.one at e; have:=h.hG b hb; omega),
  by simpa using hb,by simpa using Qx Jr ho hx3 (fun e=>e3 e.symm),?_,?_,?_,by simp [h.lx],by simp [h.lr],?_⟩
 ·simp only [List.nodup_cons,List.mem_cons,List.mem_append,List.not_mem_nil,or_false,not_or,List.nodup_append,List.nodup_nil]
  exact ⟨⟨e3,n2,fun e=>hvb3 e.symm⟩,⟨fun hm=>e4 _ hm rfl,fun e=>e5 e.symm⟩,n4,by simp,fun a ha b hb=>by subst hb; exact (hrs a ha).2.2.2⟩
 ·intro b hb
  simp only [List.mem_cons,List.mem_append,List.not_mem_nil,or_false] at hb
  rcases hb with rfl | rfl | hb | rfl
  ·exact hnew3
  ·rcases hor with rfl | rfl
   ·exact hnewr
   ·exact hs1
  ·exact h.new b (by simp [hb])
  ·exact hv1
 ·intro b hb
  simp only [List.mem_cons,List.mem_append,List.not_mem_nil,or_false] at hb
  rcases hb with rfl | rfl | hb | rfl
  ·omega
  ·have:=ho.lt; omega
  ·have:=(hrs b hb).1; omega
  ·omega
 ·intro i x y ri g1 g2 g3
  rw [List.getElem?_append] at g1 g2 g3
  have l1:=h.lx
  have l2:=h.lr
  by_cases hi:i< xs.length
  ·rw [if_pos hi] at g1
   rw [if_pos AB] at g2
   rw [if_pos AB] at g3
   obtain ⟨a1,a2,a3⟩:=h.el i x y ri g1 g2 g3
   have hq:=hrs ri (AQ g3)
   exact ⟨a1,a2,(a3.chg hx (fun e=>hq.2.2.1 e)).chg hx3 (fun e=>hq.2.1 e)⟩
  ·rw [if_neg hi] at g1
   rw [if_neg AB] at g2
   rw [if_neg AB] at g3
   have h0:i - xs.length=0:=by
    rcases hk:i - xs.length with _ | k
    ·rfl
    ·rw [hk] at g1; simp at g1
   rw [h0] at g1
   rw [show i - ys.length=0 by omega] at g2
   simp at g1 g2
   subst g1 g2
   exact ⟨rfl,rfl,.inl ⟨rfl,rfl,rfl,rfl⟩⟩
theorem Kt.app {P:Program} {T ty:TypeId} {y:RP} {ri vb:Nat} {ids:List Int} {z:Int} (h:Kt tI w y ri ids) (hT:Hf P T tI 1=true) (hB:Box w vb tI [.int .i64 z]) (hv:vb≠ri) (hl:y.n≤1000) :
 ∃ r2 c2 w', (Builtin.append_ #[T, T] ty #[.slice y.a y.n y.c, .slice (some ⟨vb, 0, none⟩) 1 1]).run P w = .ok (.slice (some ⟨r2, 0, none⟩) (y.n + 1) c2) w' ∧
   Own w' r2 tI all (y.n+1) c2 (ids++[z])∧(r2=ri∨r2=w.heap.size)∧Chg (Go.Proofs.YtganlmloonielaaGreat.one ri) w w':=by
 rcases h with ⟨a1,a2,a3,a4⟩ | ⟨a1,a2⟩
 ·obtain ⟨g1,inf,z0,hinf,hsz,hby,hz,hzs⟩:=Es hT
  rw [a1,a2,a3,a4]
  have hBx:=hB
  unfold Box at hBx
  have hnews:∀ j v,[Value.int .i64 z][j]? = some v→w.cell? ((⟨vb,0,none⟩:Addr).add j)=some v:=fun j v hj=>by
   rw [add_lit]
   simp only [World.cell?,hBx]
   simpa using hj
  have hr:=run_append_nil (P:=P) (w:=w) T ty tI inf z0 g1 hinf hz ⟨vb,0,none⟩ 1 1 [.int .i64 z] (by rw [hsz]; rfl) hnews AB AB AB
  generalize hg:grownCap w 1 0 tI=gc at hr
  have hge:1≤gc:=by rw [← hg]; exact grownCap_ge _ _ _ _
  have hgm:gc≤maxLen:=by rw [← hg]; exact grownCap_le_maxLen _ _ _ _ (by unfold maxLen; omega)
  generalize hob:(([Value.int .i64 z]:List Value).toArray++Builtin.zeroCells z0.cells (gc - 1))=ob at hr
  have hnew:(w.drew.alloc (.cells ob tI)).heap[w.heap.size]? = some (.cells ob tI (0,0)):=heap_alloc_new w.drew _
  have hoth:∀ k,k< w.heap.size→(w.drew.alloc (.cells ob tI)).heap[k]? = w.heap[k]? := fun k hk=>heap_alloc_old w.drew _ k hk
  refine ⟨w.heap.size,gc,w.drew.alloc (.cells ob tI),by simpa using hr,⟨rfl,hge,hgm,⟨ob,hnew,?_⟩,fun i x hi=>⟨_,rfl,?_⟩⟩,.inr rfl,⟨rfl,rfl,rfl,by simp,fun k hk _=>hoth k hk⟩⟩
  ·rw [← hob]
   simp only [Array.size_append,List.size_toArray,List.length_cons,List.length_nil,size_zeroCells,hzs]
   show _=gc * 1
   omega
  ·cases i with
   | succ i=>simp at hi
   | zero =>
     simp at hi
     subst hi
     intro k u hu
     cases k with
     | succ k=>simp at hu
     | zero =>
       simp at hu
       subst hu
       rw [add_lit]
       simp only [World.cell?,hnew]
       rw [← hob]
       rw [Array.getElem?_append_left (by simp)]
       rfl
 ·rw [a1]
  obtain ⟨r2,c2,w',h1,h2,h3,h4,_⟩:=a2.Ap (P:=P) (T:=T) (ty:=ty) (y:=z) hT hB rfl ⟨trivial,hv⟩ AB
  exact ⟨r2,c2,w',h1,h2,h3,h4⟩
theorem IX.upd {i r2 c2 ri:Nat} {x:Pst} {y y':RP} {z:Int} (h:IX tX tP tI s0 s1 G w b3 r c an nn cn nms ys xs rs) (hs1:s1≤w.heap.size) (hxi:xs[i]? = some x) (hyi:ys[i]? = some y) (hri:rs[i]? = some ri)
 (hx:Chg (Go.Proofs.YtganlmloonielaaGreat.one ri) w w2) (ho2:Own w2 r2 tI all (y.n+1) c2 (x.ids++[z])) (hor:r2=ri∨r2=w.heap.size) (hx3:Chg (Go.Proofs.YtganlmloonielaaGreat.one r) w2 w3)
 (hy':y'=⟨y.key,y.val,some ⟨r2,0,none⟩,y.n+1,c2⟩) (ho:Own w3 r tP all ys.length c (ys.set i y')) :
 IX tX tP tI s0 s1 G w3 b3 r c an nn cn nms (ys.set i y') (xs.set i ⟨x.tag,x.ids++[z]⟩) (rs.set i r2):=by
 have hnd:=h.nd
 simp only [List.nodup_cons,List.mem_cons,not_or] at hnd
 obtain ⟨⟨n1,n2⟩,n3,n4⟩:=hnd
 have hrm:=AQ hri
 have hri2:ri≠b3∧ri≠r:=⟨fun e=>n2 (e▸hrm),fun e=>n3 (e▸hrm)⟩
 have hb3:=h.lt b3 (by simp)
 have hrr:=h.lt r (by simp)
 have hril:=h.lt ri (by simp [hrm])
 have e3:r2≠b3∧r2≠r:=by rcases hor with rfl | rfl; exact hri2; omega
 have z2:=hx.size
 have z3:=hx3.size
 have n3i:=h.new ri (by simp [hrm])
 have nr:=h.new r (by simp)
 obtain ⟨hil,hie⟩:=List.getElem?_eq_some_iff.1 hri
 have hset:∀ q,q∈rs.set i r2→q=r2∨(q∈rs∧q≠ri):=by
  intro q hq
  obtain ⟨k,hk,hkq⟩:=List.mem_iff_getElem.1 hq
  rw [List.getElem_set] at hkq
  split at hkq
  ·exact .inl hkq.symm
  ·rename_i hne
   right
   have hk2:k< rs.length:=by simpa using hk
   refine ⟨hkq▸List.getElem_mem _,fun e=>hne ?_⟩
   have:=(List.getElem_inj (h₀:=hil) (h₁:=hk2) n4).1 (by rw [hie,hkq,e])
   exact this
 refine ⟨h.hs,h.hG,(h.nm.chg hx (fun b hb e=>by unfold Go.Proofs.YtganlmloonielaaGreat.one at e; have:=h.hG b hb; omega)).chg hx3 (fun b hb e=>by unfold Go.Proofs.YtganlmloonielaaGreat.one at e; have:=h.hG b hb; omega),
  by rw [List.length_set]; exact (h.box.chg hx (fun e=>hri2.1 e.symm)).chg hx3 (fun e=>n1 e),by rw [List.length_set]; exact ho,?_,?_,?_,by simp [h.lx],by simp [h.lr],?_⟩
 ·simp only [List.nodup_cons,List.mem_cons,not_or]
  refine ⟨⟨n1,fun hm=>?_⟩,fun hm=>?_,?_⟩
  ·rcases hset b3 hm with e | ⟨e,_⟩
   ·exact e3.1 e.symm
   ·exact n2 e
  ·rcases hset r hm with e | ⟨e,_⟩
   ·exact e3.2 e.symm
   ·exact n3 e
  ·rcases hor with rfl | hor
   ·rw [← hie,List.set_getElem_self]; exact n4
   ·rw [List.nodup_iff_pairwise_ne,List.pairwise_iff_getElem]
    intro p q hp hq hpq
    rw [List.getElem_set,List.getElem_set]
    have hp2:p< rs.length:=by simpa using hp
    have hq2:q< rs.length:=by simpa using hq
    have hnew:∀ k (hk:k< rs.length),rs[k]≠r2:=fun k hk e=>by have:=h.lt rs[k] (by simp); omega
    split
    ·split
     ·omega
     ·exact fun e=>hnew q hq2 e.symm
    ·split
     ·exact hnew p hp2
     ·intro e
      have:=(List.getElem_inj (h₀:=hp2) (h₁:=hq2) n4).1 e
      omega
 ·intro b hb
  simp only [List.mem_cons] at hb
  rcases hb with rfl | rfl | hb
  ·exact h.new _ (by simp)
  ·exact nr
  ·rcases hset b hb with rfl | ⟨hb,_⟩
   ·rcases hor with rfl | rfl
    ·exact n3i
    ·exact hs1
   ·exact h.new b (by simp [hb])
 ·intro b hb
  simp only [List.mem_cons] at hb
  rcases hb with rfl | rfl | hb
  ·omega
  ·omega
  ·rcases hset b hb with rfl | ⟨hb,_⟩
   ·have:=ho2.lt; omega
   ·have:=h.lt b (by simp [hb]); omega
 ·intro j x1 y1 r1 g1 g2 g3
  rw [List.getElem?_set] at g1 g2 g3
  have l1:=h.lx
  have l2:=h.lr
  by_cases hj:i=j
  ·subst hj
   rw [if_pos rfl,if_pos AB] at g1 g2 g3
   cases g1; cases g2; cases g3
   obtain ⟨a1,a2,_⟩:=h.el i x y ri hxi hyi hri
   subst hy'
   exact ⟨a1,a2,.inr ⟨rfl,Qx BF ho2 hx3 (fun e=>e3.2 e)⟩⟩
  ·rw [if_neg hj] at g1 g2 g3
   obtain ⟨a1,a2,a3⟩:=h.el j x1 y1 r1 g1 g2 g3
   have hne:r1≠ri:=fun e=>hj (by
    obtain ⟨hj1,hj2⟩:=List.getElem?_eq_some_iff.1 g3
    exact (List.getElem_inj (h₀:=hil) (h₁:=hj1) n4).1 (by rw [hie,hj2,e]))
   have hm1:=AQ g3
   exact ⟨a1,a2,(a3.chg hx (fun e=>hne e)).chg hx3 (fun e=>n3 (e▸hm1))⟩
end
end Go.Proofs.YtganlmloonielaaGreat
