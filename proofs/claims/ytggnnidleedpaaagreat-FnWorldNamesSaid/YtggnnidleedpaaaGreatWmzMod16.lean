/- A row put into a row: slices of rows whose cells are told, copies, zeros. No conditions. -/
import Derived.Test.YtggnnidleedpaaaGreatWmzW12
import Derived.Lib.Overlaps
import Derived.Lib.AppendZerosOnto
open Go.Proofs.Tryz
set_option linter.unusedVariables false
set_option linter.unusedSimpArgs false
namespace Go.Proofs.YtggnnidleedpaaaGreat
def BX (xs:List Row):List Value:=xs.flatMap (fun x=>[.int .i64 x.t,.int .i64 x.v])
theorem DS (xs:List Row):(BX xs).length=xs.length * 2:=by
 induction xs with
 | nil=>rfl
 | cons x xs ih=>simp only [BX,List.flatMap_cons,List.length_append,List.length_cons,List.length_nil] at *; omega
theorem Mu (xs ys:List Row):BX (xs++ys)=BX xs++BX ys:=by simp [BX]
theorem JS (xs:List Row):∀ v∈BX xs,Dr v=true:=by
 intro v hv
 simp only [BX,List.mem_flatMap] at hv
 obtain ⟨x,_,hv⟩:=hv
 simp at hv
 rcases hv with rfl | rfl <;> rfl
theorem Ls (xs:List Row) (i:Nat):BX (xs.take i)=(BX xs).take (i * 2):=by
 induction xs generalizing i with
 | nil=>simp [BX]
 | cons x xs ih =>
   cases i with
   | zero=>simp [BX]
   | succ i =>
     rw [List.take_succ_cons,show (i+1) * 2=i * 2+1+1 by omega]
     have:=ih i
     simp only [BX,List.flatMap_cons] at *
     rw [this]
     simp
theorem IJ (xs:List Row) (i:Nat):BX (xs.drop i)=(BX xs).drop (i * 2):=by
 induction xs generalizing i with
 | nil=>simp [BX]
 | cons x xs ih =>
   cases i with
   | zero=>simp [BX]
   | succ i =>
     rw [List.drop_succ_cons,show (i+1) * 2=i * 2+1+1 by omega]
     have:=ih i
     simp only [BX,List.flatMap_cons] at *
     rw [this]
     simp
theorem KQ {xs:List Row}{i:Nat}{x:Row}(h:xs[i]? = some x):(BX xs)[i * 2]? = some (.int .i64 x.t)∧(BX xs)[i * 2+1]? = some (.int .i64 x.v):=by
 have hd:=Ai h
 have h1:=IJ xs i
 rw [hd] at h1
 have h2:(BX xs).drop (i * 2)=.int .i64 x.t :: .int .i64 x.v::BX (xs.drop (i+1)):=h1.symm
 constructor
 ·have:=congrArg (fun l=>l[0]?) h2
  simpa [List.getElem?_drop] using this
 ·have:=congrArg (fun l=>l[1]?) h2
  simpa [List.getElem?_drop] using this
section
variable {w:World} {r n c:Nat} {t:TypeId} {F:Nat→Prop} {xs:List Row}
theorem Own.box (h:Own w r t F n c xs):∃ cs,Box w r t cs∧cs.length=c * 2∧cs.take (n * 2)=BX xs∧n≤c∧c≤maxLen:=by
 obtain ⟨cur,h1,h2⟩:=h.row
 have hz:Rep.sz Row=2:=rfl
 rw [hz] at h2
 refine ⟨cur.toList,by unfold Box; simpa using h1,by simpa using h2,?_,h.le,h.cap⟩
 have hn:=h.len
 have hnc:=h.le
 apply List.ext_getElem?
 intro k
 rw [List.getElem?_take]
 by_cases hk:k< n * 2
 ·rw [if_pos hk]
  have hi:k / 2< xs.length:=by omega
  obtain ⟨cs,g1,g2⟩:=h.elem (k / 2) xs[k / 2] (AU hi)
  cases g1
  obtain ⟨e1,e2⟩:=KQ (AU hi)
  rcases Nat.mod_two_eq_zero_or_one k with h0 | h0
  ·have hk2:k=k / 2 * 2:=by omega
   have g3:=g2 0 _ rfl
   rw [hk2,e1]
   simp only [add_lit,World.cell?,h1,hz] at g3
   simpa using g3
  ·have hk2:k=k / 2 * 2+1:=by omega
   have g3:=g2 1 _ rfl
   rw [hk2,e2]
   simp only [add_lit,World.cell?,h1,hz] at g3
   simpa using g3
 ·rw [if_neg hk,List.getElem?_eq_none (by rw [DS]; omega)]
theorem Own.SE {cs:List Value}(h:Box w r t cs) (hl:cs.length=c * 2) (hx:cs.take (xs.length * 2)=BX xs) (hn:xs.length≤c) (hc:c≤maxLen):Own w r t F xs.length c xs:=by
 refine ⟨rfl,hn,hc,⟨cs.toArray,h,by rw [show Rep.sz Row=2 from rfl]; simpa using hl⟩,fun i x hi=>⟨_,rfl,fun k u hu=>?_⟩⟩
 obtain ⟨e1,e2⟩:=KQ hi
 have hil:i< xs.length:=(List.getElem?_eq_some_iff.1 hi).1
 have hcs:∀ j,j< xs.length * 2→cs[j]? = (BX xs)[j]? := fun j hj=>by rw [← hx,List.getElem?_take,if_pos hj]
 have hcell:∀ j v,cs[j]? = some v→w.cell? ⟨r,j,none⟩=some v:=fun j v hv=>by
  unfold Box at h
  simp only [World.cell?,h]
  simpa using hv
 rw [add_lit]
 match k,hu with
 | 0,hu=>cases hu; exact hcell _ _ (by rw [hcs _ (by show i * 2+0< _; omega)]; exact e1)
 | 1,hu=>cases hu; exact hcell _ _ (by rw [hcs _ (by show i * 2+1< _; omega)]; exact e2)
 | k+2,hu=>simp at hu
end
section
variable {P:Program} {n:Nat} {K:Env→World→Prop} {ops:Array Oper} {j:Nat} {e:Env} {w:World}
theorem RG.UO {t:TypeId}{sz:Nat}{a:Option Addr}{len cap:Nat}{lo hi:Option Value}(l h':Nat) (h:G5 n ops j e=some (t,.slice a len cap,lo,hi)) (ht:Jo P t sz=true) (hlo:bnd lo 0 l) (hhi:bnd hi len h') (hlh:l≤h') (hh:h'≤cap)
 (H:∀ v,RG P n K ops (j+1) (BN e (Aq ops j).dst v) w):RG P n K ops j e w :=
 have h1:=DU h (GD ht hlo hhi hlh hh w)
 RG.val h1.1 h1.2 (H _)
theorem RG.GR {t:TypeId}{sz:Nat}{r o len cap:Nat}{lo hi:Option Value}(l h':Nat) (h:G5 n ops j e=some (t,.slice (some ⟨r,o,none⟩) len cap,lo,hi)) (ht:Jo P t sz=true) (hlo:bnd lo 0 l) (hhi:bnd hi len h') (hlh:l≤h') (hh:h'≤cap) (hne:cap≠l)
 (H:RG P n K ops (j+1) (BN e (Aq ops j).dst (.slice (some ⟨r,o+l * sz,none⟩) (h' - l) (cap - l))) w):RG P n K ops j e w:=by
 have h1:=DU h (GD ht hlo hhi hlh hh w)
 rw [if_neg hne] at h1
 simp only [Option.map_some,add_lit] at h1
 exact RG.val h1.1 h1.2 H
def Ti (P:Program) (n:Nat) (ops:Array Oper) (j:Nat) (e:Env):Option (FuncId × List Value) :=
 bif CT n ops j e then
  match (Aq ops j).op with
  | .call c => match c.callee with
    | .value f => match ev e f with
      | .func (.func g) first cap=>some (g,first.toList++(c.args.toList.map (ev e))++cap.toList)
      | _=>none
    | _=>none
  | _=>none
 else none
theorem RG.ext {f:FuncId}{args:List Value}{v:Value}(h:Ti P n ops j e=some (f,args)) (hr:(callFunc f args.toArray).run P w=.ok (.value v) w)
 (H:RG P n K ops (j+1) (BN e (Aq ops j).dst v) w):RG P n K ops j e w:=by
 obtain ⟨hg,h⟩:=CR h
 refine RG.val hg ?_ H
 split at h
 ·rename_i c hop
  split at h
  ·rename_i fo hcal
   split at h
   ·rename_i g first cap hf
    simp only [Option.some.injEq,Prod.mk.injEq] at h
    obtain ⟨rfl,rfl⟩:=h
    have hargs:(first.toList++(c.args.toList.map (ev e))++cap.toList).toArray=(first++c.args.map (ev e))++cap:=by
     apply Array.toList_inj.1; simp
    rw [hargs] at hr
    simp only [execOp,hop,resolve,hcal,hf,Deferred.ofValue]
    simp only [invoke]
    exact hr
   ·cases h
  ·cases h
 ·cases h
end
theorem OQ {P:Program}{f:FuncId}{fn:Func}{tS tR t:TypeId}{w:World}{vb r o la ca lb cb:Nat}{cs cs2:List Value}(hf:P.funcs[f]? = some fn) (h1:(fn.name == "runtime.NumGoroutine")=false) (h2:fn.body.isNone=true) (h3:Extern.findNext fn=none)
 (h4:Extern.find fn=some (Extern.SlicesOverlaps.overlaps #[tS,tS] #[tR])) {sz:Nat} (ht:G1 P tS t sz=true) (hB:Box w vb t cs) (hR:Box w r t cs2) (hne:vb≠r) (hk:cs2.length≠0) :
 (callFunc f #[.slice (some ⟨vb,0,none⟩) la ca,.slice (some ⟨r,o,none⟩) lb cb]).run P w=.ok (.value (.bool false)) w:=by
 obtain ⟨g1,i,z,hi,hsz,_,_,_⟩:=EQ ht
 have hz:∀ w,(Go.sizeOf t).run P w=.ok i.size w:=fun w=>by simp [sizeOf,typeInfo,hi,go_sem]
 unfold Box at hB hR
 rw [run_callFunc_extern hf h1 h2 h3 h4,Lib.run_overlaps_apart w tS tR t g1 i.size hz ⟨vb,0,none⟩ ⟨r,o,none⟩ la ca lb cb hne t t cs.length cs2.length (by simp [World.shape?,hB]) (by simp [World.shape?,hR]) hk (by simp [World.frozen?,hB]) (by simp [World.frozen?,hB])]
 rfl
theorem GJ {P:Program}{T T2 ty t:TypeId}{sz:Nat}{w:World}{b o dl dc sl sc k:Nat}{a2:Addr}{cs vs:List Value}(hT:G1 P T t sz=true) (hB:Box w b t cs) (hsrc:Has w a2 vs) (hvs:vs.length=k * sz) (hk:Nat.min sl dl=k) (ho:o+k * sz≤cs.length) (hone:∀ v∈vs,Dr v=true) :
 ∃ w',(Builtin.copy_ #[T,T2] ty #[.slice (some ⟨b,o,none⟩) dl dc,.slice (some a2) sl sc]).run P w=.ok (goInt k) w'∧Box w' b t (BQ cs o vs)∧Chg (one b) w w'∧w'.heap.size=w.heap.size:=by
 obtain ⟨g1,i,z,hi,hsz,_,_,_⟩:=EQ hT
 obtain ⟨w',h1,h2,h3,h4⟩:=hB.Kn (P:=P) vs (o:=o) (i:=0) AB hone
 have h5:=run_loadCellsFrom (P:=P) a2 vs 0 #[] vs rfl hsrc
 have h6:(loadCells a2 (k * i.size)).run P w=.ok vs.toArray w:=by
  rw [hsz,← hvs]
  unfold loadCells
  rw [h5]
  simp
 have hz:(sizeOf t).run P w=.ok i.size w:=by simp [sizeOf,typeInfo,hi,go_sem]
 refine ⟨w',?_,h2,h3,h4⟩
 unfold Builtin.copy_
 simp only [List.getElem?_toArray,List.getElem?_cons_zero,List.getElem?_cons_succ]
 rw [AZ (run_underlying g1 w)]
 simp only [Builtin.lenOf]
 rw [AZ (show (pure sl:Sem Nat).run P w=.ok sl w from rfl),AZ hz,hk]
 simp only [Builtin.firstCells]
 rw [AZ h6]
 simp only []
 rw [AZ h1]
 rfl
theorem Q7 {P:Program}{T tn ty t:TypeId}{kn:IntKind}{w:World}{r n c i:Nat}{cs:List Value}(hT:G1 P T t 2=true) (htn:P.underlying tn=some (.int kn)) (hB:Box w r t cs) (hl:cs.length=c * 2) (hi:i< n) (hn:n≤c) (hc:c< n+1) (hs:n≤1000000000) :
 ∃ gc ob w', (Builtin.append_ #[T, tn] ty #[.slice (some ⟨r, 0, none⟩) i c, .int .i64 ((n : Int) + 1 - i)]).run P w = .ok (.slice (some ⟨w.heap.size, 0, none⟩) (n + 1) gc) w' ∧
   Box w' w.heap.size t ob∧ob.length=gc * 2∧n+1≤gc∧gc≤maxLen∧ob.take (i * 2)=cs.take (i * 2)∧Ext w w'∧w'.heap.size=w.heap.size+1:=by
 obtain ⟨g1,inf,z,hinf,hsz,hby,hz,hzs⟩:=EQ hT
 have hBx:=hB
 unfold Box at hBx
 have hole:(cs.take (i * 2)).length=i * inf.size:=by rw [List.length_take,hsz]; omega
 have hold:(Builtin.firstCells inf.size i (.slice (some ⟨r,0,none⟩) i c)).run P w.drew=.ok (cs.take (i * 2)).toArray w.drew:=by
  have hh:Has w.drew ⟨r,0,none⟩ (cs.take (i * 2)):=by
   intro k u hu
   rw [List.getElem?_take] at hu
   split at hu
   ·rw [add_lit]
    show World.cell? w.drew _=_
    have:w.drew.heap=w.heap:=rfl
    simp only [World.cell?,this,hBx]
    simpa using hu
   ·cases hu
  have h1:=run_loadCellsFrom (P:=P) ⟨r,0,none⟩ (cs.take (i * 2)) 0 #[] _ rfl hh
  simp only [Builtin.firstCells,loadCells]
  rw [List.drop_zero] at h1
  rw [← hole,h1]
  simp
 have hr:=Lib.run_append_grow_zeros (P:=P) w T tn ty t inf z .i64 kn g1 htn hinf hz (some ⟨r,0,none⟩) i c (cs.take (i * 2)) hold (n+1 - i) AB AB AB AB (Nat.le_trans (Nat.mul_le_mul (show n+1 - i≤1000000001 by omega) hby) AB)
  (growslice_fits AB (Nat.le_trans (Nat.mul_le_mul (show i+(n+1 - i)≤1000000001 by omega) hby) AB))
 rw [show i+(n+1 - i)=n+1 by omega] at hr
 generalize hg:grownCap w (n+1) c t=gc at hr
 have hge:n+1≤gc:=by rw [← hg]; exact grownCap_ge _ _ _ _
 have hgm:gc≤maxLen:=by rw [← hg]; exact grownCap_le_maxLen _ _ _ _ (by unfold maxLen; omega)
 generalize hob:((cs.take (i * 2)).toArray++Builtin.zeroCells z.cells (n+1 - i)++Builtin.zeroCells z.cells (gc - (n+1)))=ob at hr
 have hnew:(w.drew.alloc (.cells ob t)).heap[w.heap.size]? = some (.cells ob t (0,0)):=heap_alloc_new w.drew _
 have hoth:∀ k,k< w.heap.size→(w.drew.alloc (.cells ob t)).heap[k]? = w.heap[k]? := fun k hk=>heap_alloc_old w.drew _ k hk
 have hoz:ob.size=gc * 2:=by
  rw [← hob]
  simp only [Array.size_append,List.size_toArray,hole,hsz,size_zeroCells,hzs,← Nat.add_mul]
  congr 1
  omega
 refine ⟨gc,ob.toList,w.drew.alloc (.cells ob t),?_,by unfold Box; simpa using hnew,by simpa using hoz,hge,hgm,?_,⟨rfl,rfl,rfl,by simp,fun k hk _=>hoth k hk⟩,by simp⟩
 ·have he:((n+1 - i:Nat):Int)=(n:Int)+1 - i:=by omega
  rw [he] at hr
  exact hr
 ·rw [← hob]
  simp only [Array.toList_append,List.append_assoc]
  rw [List.take_append_of_le_length (by rw [hole,hsz]; omega)]
  rw [List.take_of_length_le (by rw [hole,hsz]; omega)]
theorem PU {P:Program}{T tn ty t:TypeId}{kn:IntKind}{w:World}{r n c i:Nat}{cs:List Value}(hT:G1 P T t 2=true) (htn:P.underlying tn=some (.int kn)) (hB:Box w r t cs) (hl:cs.length=c * 2) (hi:i< n) (hn:n≤c) (hc:c< n+1) (hs:n≤1000000000) :
 ∃ b, b = w.heap.size ∧ ∃ gc ob w', (Builtin.append_ #[T, tn] ty #[.slice (some ⟨r, 0, none⟩) i c, .int .i64 ((n : Int) + 1 - i)]).run P w = .ok (.slice (some ⟨b, 0, none⟩) (n + 1) gc) w' ∧
   Box w' b t ob∧ob.length=gc * 2∧n+1≤gc∧gc≤maxLen∧ob.take (i * 2)=cs.take (i * 2)∧Ext w w'∧w'.heap.size=w.heap.size+1 :=
 ⟨_,rfl,Q7 hT htn hB hl hi hn hc hs⟩
theorem PV {cs vs:List Value}{o:Nat}(h:o+vs.length≤cs.length):(BQ cs o vs).take o=cs.take o:=by
 unfold BQ
 rw [List.append_assoc,List.take_append_of_le_length (by rw [List.length_take]; omega),List.take_take,Nat.min_self]
theorem OR {cs vs:List Value}{o:Nat}(h:o+vs.length≤cs.length):(BQ cs o vs).take (o+vs.length)=cs.take o++vs:=by
 unfold BQ
 have:(cs.take o++vs).length=o+vs.length:=by rw [List.length_append,List.length_take]; omega
 rw [← this,List.take_left]
theorem Di {cs vs:List Value}{o:Nat}(h:o+vs.length≤cs.length):(BQ cs o vs).length=cs.length:=by
 unfold BQ
 simp only [List.length_append,List.length_take,List.length_drop]
 omega
def E9 (y:Row):List Value:=[.int .i64 y.t,.int .i64 y.v]
theorem Fx (y:Row):(E9 y).length=2:=rfl
section
variable {cs ob:List Value} {xs:List Row} {y:Row} {n c gc i:Nat}
theorem Mw (hx:cs.take (n * 2)=BX xs) (hn:n=xs.length):(cs.drop (i * 2)).take ((n - i) * 2)=BX (xs.drop i):=by
 rw [IJ,← hx,List.drop_take]
 congr 1
 omega
theorem SF (hx:cs.take (n * 2)=BX xs) (hi:i≤n):cs.take (i * 2)=BX (xs.take i):=by
 rw [Ls,← hx,List.take_take,Nat.min_eq_left AB]
theorem Tj (a b:List Value) (ha:a=BX (xs.take i)):(a++E9 y++BX (xs.drop i)++b).take ((xs.take i++y::xs.drop i).length * 2)=BX (xs.take i++y::xs.drop i):=by
 have h1:a++E9 y++BX (xs.drop i)=BX (xs.take i++y::xs.drop i):=by
  rw [Mu,ha,List.append_assoc]
  congr 1
 rw [h1,← DS,List.take_left]
theorem UP (hl:cs.length=c * 2) (hx:cs.take (n * 2)=BX xs) (hn:n=xs.length) (hi:i< n) (hc:n+1≤c) :
 (BQ (BQ cs ((i+1) * 2) ((cs.drop (i * 2)).take ((n - i) * 2))) (i * 2) (E9 y)).take ((xs.take i++y::xs.drop i).length * 2)=BX (xs.take i++y::xs.drop i) ∧
  (BQ (BQ cs ((i+1) * 2) ((cs.drop (i * 2)).take ((n - i) * 2))) (i * 2) (E9 y)).length=c * 2:=by
 rw [Mw hx hn]
 have hm:(BX (xs.drop i)).length=(n - i) * 2:=by rw [DS,List.length_drop]; omega
 have h1:(i+1) * 2+(BX (xs.drop i)).length≤cs.length:=by rw [hm]; omega
 have h2:=Di h1
 have h3:i * 2+(E9 y).length≤(BQ cs ((i+1) * 2) (BX (xs.drop i))).length:=by rw [h2,Fx]; omega
 refine ⟨?_,by rw [Di h3,h2,hl]⟩
 have e1:(BQ cs ((i+1) * 2) (BX (xs.drop i))).take (i * 2)=cs.take (i * 2):=by
  have:=congrArg (fun l=>l.take (i * 2)) (PV h1)
  simpa [List.take_take,Nat.min_eq_left (show i * 2≤(i+1) * 2 by omega)] using this
 have e2:(BQ cs ((i+1) * 2) (BX (xs.drop i))).drop (i * 2+(E9 y).length)=BX (xs.drop i)++cs.drop ((i+1) * 2+(BX (xs.drop i)).length):=by
  rw [Fx,show i * 2+2=(i+1) * 2 by omega]
  unfold BQ
  have:(cs.take ((i+1) * 2)).length=(i+1) * 2:=by rw [List.length_take]; omega
  rw [List.append_assoc]
  have h5:(cs.take ((i+1) * 2)++(BX (xs.drop i)++cs.drop ((i+1) * 2+(BX (xs.drop i)).length))).drop (cs.take ((i+1) * 2)).length=BX (xs.drop i)++cs.drop ((i+1) * 2+(BX (xs.drop i)).length):=List.drop_left
  rw [this] at h5
  exact h5
 unfold BQ at e1 e2 ⊢
 rw [e1,e2,← List.append_assoc]
 exact Tj _ _ (SF hx AB)
theorem UQ (hl:ob.length=gc * 2) (ho:ob.take (i * 2)=cs.take (i * 2)) (hx:cs.take (n * 2)=BX xs) (hn:n=xs.length) (hi:i< n) (hc:n+1≤gc) :
 (BQ (BQ ob (i * 2) (E9 y)) ((i+1) * 2) ((cs.drop (i * 2)).take ((n - i) * 2))).take ((xs.take i++y::xs.drop i).length * 2)=BX (xs.take i++y::xs.drop i) ∧
  (BQ (BQ ob (i * 2) (E9 y)) ((i+1) * 2) ((cs.drop (i * 2)).take ((n - i) * 2))).length=gc * 2:=by
 rw [Mw hx hn]
 have hm:(BX (xs.drop i)).length=(n - i) * 2:=by rw [DS,List.length_drop]; omega
 have h1:i * 2+(E9 y).length≤ob.length:=by rw [Fx]; omega
 have h2:=Di h1
 have h3:(i+1) * 2+(BX (xs.drop i)).length≤(BQ ob (i * 2) (E9 y)).length:=by rw [h2,hm]; omega
 refine ⟨?_,by rw [Di h3,h2,hl]⟩
 have e1:(BQ ob (i * 2) (E9 y)).take ((i+1) * 2)=ob.take (i * 2)++E9 y:=by
  rw [show (i+1) * 2=i * 2+(E9 y).length by rw [Fx]; omega]
  exact OR h1
 unfold BQ at e1 ⊢
 rw [e1]
 exact Tj _ _ (by rw [ho]; exact SF hx AB)
end
theorem GA.GR {P:Program}{S:Nat→Prop}{n m:Nat}{L:Env→World→Prop}{ops:Array Oper}{l:List Nat}{e:Env}{w:World}{i:Nat}{t:TypeId}{sz r o len cap:Nat}{lo hi:Option Value}(l' h':Nat) (hb:gB n m ops l i=true) (h:G5 n ops i e=some (t,.slice (some ⟨r,o,none⟩) len cap,lo,hi)) (ht:Jo P t sz=true) (hlo:bnd lo 0 l') (hhi:bnd hi len h') (hlh:l'≤h') (hh:h'≤cap) (hne:cap≠l')
 (H:GA P S n m L ops (i::l) (BN e (Aq ops i).dst (.slice (some ⟨r,o+l' * sz,none⟩) (h' - l') (cap - l'))) w):GA P S n m L ops l e w:=by
 refine GA.IT hb (fun w=>?_) H
 have h1:=DU h (GD ht hlo hhi hlh hh w)
 rw [if_neg hne] at h1
 simp only [Option.map_some,add_lit] at h1
 exact h1
theorem Lt {cs:List Value}{a k:Nat}(h:((cs.drop a).take k).length≤k):(cs.drop a).take ((cs.drop a).take k).length=(cs.drop a).take k:=by
 rw [List.length_take]
 by_cases hk:k≤(cs.drop a).length
 ·rw [Nat.min_eq_left hk]
 ·rw [Nat.min_eq_right AB,List.take_of_length_le (Nat.le_refl _),List.take_of_length_le AB]
theorem Nk {a b k:Nat}(h:b≤a∧b=k∨a≤b∧a=k):Nat.min a b=k:=by
 show min a b=k
 omega
theorem Q8 {w:World}{r t n c i:Nat}{F:Nat→Prop}{xs:List Row}{y:Row}(h:Own w r t F (n+1) c (xs++[y])) (hi:xs.length≤i):Own w r t F (n+1) c (xs.take i++y::xs.drop i):=by
 rw [List.take_of_length_le hi,List.drop_of_length_le hi]
 exact h
end Go.Proofs.YtggnnidleedpaaaGreat
namespace Go.Proofs.YtggnnidleedpaaaGreat
set_option maxRecDepth 100000
set_option maxHeartbeats 4000000
variable {w:World} {F:Nat→Prop}
theorem DP {r n c vb i:Nat}{xs:List Row}{y:Row}(ho:Own w r 56 F n c xs) (hv:Box w vb 56 [.int .i64 y.t,.int .i64 y.v]) (hne:vb≠r) (hi:i≤n) (hn:n≤1000000):Calls Tryz.prog 132 [.slice (some ⟨r,0,none⟩) n c,.int .i64 (i:Int),.slice (some ⟨vb,0,none⟩) 1 1].toArray w (BB fun rv w'=>(∃ r2 c2,rv=.slice (some ⟨r2,0,none⟩) (n+1) c2∧Own w' r2 56 all (n+1) c2 (xs.take i++y::xs.drop i)∧OrB r2 r w.heap.size)∧Chg (one r) w w'):=by
 refine goT func132 ?_
 replace hne:Nb vb r:=hne
 have hnx:=ho.len; have hle:=ho.le
 replace ho:Own w r 56 (nin all [r]) n c xs:=ho.flat Bx
 refine .s<|.g<|.r 1<|.d<|.s<|.g<|.r 2<|RG.UO (a:=some ⟨r,0,none⟩) (t:=62) (lo:=some (vI (i:Int))) (hi:=none) (sz:=2) i n AA AA (.inr ⟨_,_,rfl,by omega⟩) (.inl ⟨rfl,rfl⟩) AB AB fun v_=>.d<|.s<|.g<|.r 3<|.d<|.s<|.s<|.g<|.r 2<|.d<|.cf<|.sk<|.s<|.g<|.r 3<|.d<|.s<|.s<|.g<|.r 2<|.eq (i:Int) (n:Int) (fun ay=>?_) (fun ay=>?_)
 ·refine .d<|.ct<|.s<|.g<|.r 2 ?_
  have aa:nin all [r] vb∧vb≠r:=BR trivial (all_cons hne all_nil) hne
  refine RG.Ax (T:=62) (ty:=62) (y:=y) ho hv AA AA rfl aa AB fun aG aH aI W ab ac=>?_
  have az:=Aw ab (Cov.mk1 w r) (Nat.le_refl _)
  replace hv:=(s1 ac).g1 hv
  have aA:Chg (one r) w aI:=Chg.EW (Chg.refl (one r) w) ac (Cov.mk1 w r)
  replace W:=W.rn r
  exact .r 1<|.d<|.rt func132 results132 (vS aG (n+1) aH) ⟨⟨_,_,rfl,Q8 (W.flat Bx) AB,az⟩,aA⟩
 refine .d<|.cf<|.sk<|.s<|.s<|.g<|.r 2<|.it ((n:Int)+1)<|.r 2<|.bp ((n:Int)+1 > (c:Int)) (fun aB=>?_) (fun aB=>?_)
 ·refine .d<|.ct<|.s<|.g<|.r 2 ?_
  obtain ⟨cs,hbx,hcl,hct,aC,aD⟩:=ho.box
  refine RG.GR (r:=r) (o:=0) (len:=n) (cap:=c) (t:=62) (lo:=none) (hi:=some (vI (i:Int))) (sz:=2) 0 i AA AA (.inl ⟨rfl,rfl⟩) (.inr ⟨_,_,rfl,by omega⟩) AB AB AB<|.r 2<|.it ((n:Int)+1)<|.r 1<|.it (((n:Int)+1) - (i:Int)) ?_
  obtain ⟨b2,hq,gc,ob,w2,hrun,aJ,hol,hge,hgm,hot,aE,aO⟩:=PU (P:=Tryz.prog) (T:=62) (tn:=3) (ty:=62) (kn:=.i64) (n:=n) AA AA hbx hcl (by omega:i< n) AB AB AB
  refine RG.append (ats:=[62,3]) (args:=[vS r i c,vI ((n:Int)+1 - i)]) AA hrun ?_
  have aP:=AX hq hbx.lt
  have aQ:=AX hq hv.lt
  have aF:Cov (one r) w b2:=Bf hq (Nat.le_refl _)
  replace ⟨hbx,hv⟩:=(se [] aE).g2 hbx hv
  have C:Chg (one r) w w2:=Chg.Cb (Chg.refl (one r) w) aE
  refine .r 1<|.d<|.s<|.g<|.r 2<|RG.GR (r:=b2) (o:=0) (len:=(n+1)) (cap:=gc) (t:=62) (lo:=some (vI (i:Int))) (hi:=none) (sz:=2) i (n+1) AA AA (.inr ⟨_,_,rfl,by omega⟩) (.inl ⟨rfl,rfl⟩) AB AB AB<|.r 1 ?_
  obtain ⟨aK,af,J,aj,aR⟩:=GJ (P:=Tryz.prog) (a2:=⟨vb,0,none⟩) (T:=62) (T2:=62) (ty:=3) (t:=56) (sz:=2) (o:=(0+i * 2)) (dl:=((n+1) - i)) (dc:=(gc - i)) (sl:=1) (sc:=1) (k:=1) (vs:=(E9 y)) AA aJ (hv.has 0 (E9 y) rfl) AF (Nat.min_eq_left AB) (by have:=hcl; omega) (by intro v hv_; simp [E9] at hv_; rcases hv_ with rfl | rfl <;> rfl)
  refine RG.copy (ats:=[62,62]) (args:=[.slice (some ⟨b2,0+i * 2,none⟩) ((n+1) - i) (gc - i),vS vb 1 1]) AA af ?_
  rw [Nat.zero_add] at J
  replace ⟨hbx,hv,C⟩:=(s1 aj).g3 hbx hv C
  refine .d<|.s<|.gd (mtb [] aK.heap.size) 8 fun aW ak=>?_
  replace ⟨hbx,hv,J,C⟩:=(se [] ak).g4 hbx hv J C
  refine .r [0,1,2]<|GA.int (i:=3) ((i:Int)+1) AA AB<|GA.GR (i:=4) (r:=b2) (o:=0) (len:=(n+1)) (cap:=gc) (t:=62) (lo:=some (vI ((i:Int)+1))) (hi:=none) (sz:=2) (i+1) (n+1) AA AA AA (.inr ⟨_,_,rfl,by omega⟩) (.inl ⟨rfl,rfl⟩) AB AB AB<|.r [5,6]<|GA.GR (i:=7) (r:=r) (o:=0) (len:=n) (cap:=c) (t:=62) (lo:=some (vI (i:Int))) (hi:=none) (sz:=2) i n AA AA AA (.inr ⟨_,_,rfl,by omega⟩) (.inl ⟨rfl,rfl⟩) AB AB AB<|.d fun aX al=>?_
  replace ⟨hbx,hv,J,C⟩:=(se [] al).g4 hbx hv J C
  obtain ⟨aY,ag,am,ao,aS⟩:=GJ (P:=Tryz.prog) (a2:=⟨r,0+i * 2,none⟩) (T:=62) (T2:=62) (ty:=3) (t:=56) (sz:=2) (o:=(0+(i+1) * 2)) (dl:=((n+1) - (i+1))) (dc:=(gc - (i+1))) (sl:=(n - i)) (sc:=(c - i)) (k:=(n - i)) (vs:=((cs.drop (i * 2)).take ((n - i) * 2))) AA J (by rw [Nat.zero_add]; exact hbx.has (i * 2) ((cs.drop (i * 2)).take ((n - i) * 2)) (Lt (by simp; omega))) (by rw [Mw hct hnx,DS,List.length_drop]; omega) (Nk AB) (by have:=hcl; rw [Di (by rw [Fx]; omega)]; omega) (by rw [Mw hct hnx]; exact JS _)
  refine RG.copy (ats:=[62,62]) (args:=[.slice (some ⟨b2,0+(i+1) * 2,none⟩) ((n+1) - (i+1)) (gc - (i+1)),.slice (some ⟨r,0+i * 2,none⟩) (n - i) (c - i)]) AA ag ?_
  rw [Nat.zero_add] at am
  replace ⟨hbx,hv,C⟩:=(s1 ao).g3 hbx hv C
  refine .d<|.s<|.g<|.r 2<|.d ?_
  have hfin:=UQ (y:=y) hol hot hct hnx (by omega:i< n) AB
  have hlen:(xs.take i++y::xs.drop i).length=n+1:=by simp; omega
  have hown:=Own.SE (F:=all) am hfin.2 hfin.1 (by rw [hlen]; omega) AB
  rw [hlen] at hown
  exact .rt func132 results132 (vS b2 (n+1) gc) ⟨⟨_,_,rfl,hown,aF⟩,C⟩
 refine .d<|.cf<|.sk<|.s<|.g<|.r 3<|.it ((n:Int)+1) ?_
 obtain ⟨cs,hbx,hcl,hct,aC,aD⟩:=ho.box
 refine RG.GR (r:=r) (o:=0) (len:=n) (cap:=c) (t:=62) (lo:=none) (hi:=some (vI ((n:Int)+1))) (sz:=2) 0 (n+1) AA AA (.inl ⟨rfl,rfl⟩) (.inr ⟨_,_,rfl,by omega⟩) AB AB AB<|.r 1<|.d<|.s<|.s<|.g<|.r 4<|.it ((i:Int)+1)<|RG.GR (r:=r) (o:=0) (len:=(n+1)) (cap:=c) (t:=62) (lo:=some (vI ((i:Int)+1))) (hi:=none) (sz:=2) (i+1) (n+1) AA AA (.inr ⟨_,_,rfl,by omega⟩) (.inl ⟨rfl,rfl⟩) AB AB AB<|RG.ext (f:=155) (args:=[vS vb 1 1,.slice (some ⟨r,0+(i+1) * 2,none⟩) (n+1 - (i+1)) (c - (i+1))]) AA (OQ (fn:=Tryz.f155) (tS:=62) (tR:=4) (sz:=2) func155 AA AA AA AA AA hv hbx hne AB)<|.r 1<|.d<|.ct<|.s<|.gd (mtb [] w.heap.size) 8 fun aL ae=>?_
 replace ⟨hbx,hv⟩:=(se [] ae).g2 hbx hv
 have E:Chg (one r) w aL:=Chg.Cb (Chg.refl (one r) w) ae
 refine .r [0,1,2]<|GA.int (i:=3) ((i:Int)+1) AA AB<|GA.GR (i:=4) (r:=r) (o:=0) (len:=(n+1)) (cap:=c) (t:=62) (lo:=some (vI ((i:Int)+1))) (hi:=none) (sz:=2) (i+1) (n+1) AA AA AA (.inr ⟨_,_,rfl,by omega⟩) (.inl ⟨rfl,rfl⟩) AB AB AB<|.r [5,6]<|GA.GR (i:=7) (r:=r) (o:=0) (len:=(n+1)) (cap:=c) (t:=62) (lo:=some (vI (i:Int))) (hi:=none) (sz:=2) i (n+1) AA AA AA (.inr ⟨_,_,rfl,by omega⟩) (.inl ⟨rfl,rfl⟩) AB AB AB<|.d fun aZ aq=>?_
 replace ⟨hbx,hv,E⟩:=(se [] aq).g3 hbx hv E
 obtain ⟨ba,ah,ar,au,aT⟩:=GJ (P:=Tryz.prog) (a2:=⟨r,0+i * 2,none⟩) (T:=62) (T2:=62) (ty:=3) (t:=56) (sz:=2) (o:=(0+(i+1) * 2)) (dl:=(n+1 - (i+1))) (dc:=(c - (i+1))) (sl:=(n+1 - i)) (sc:=(c - i)) (k:=(n - i)) (vs:=((cs.drop (i * 2)).take ((n - i) * 2))) AA hbx (by rw [Nat.zero_add]; exact hbx.has (i * 2) ((cs.drop (i * 2)).take ((n - i) * 2)) (Lt (by simp; omega))) (by rw [Mw hct hnx,DS,List.length_drop]; omega) (Nk AB) (by have:=hcl; omega) (by rw [Mw hct hnx]; exact JS _)
 refine RG.copy (ats:=[62,62]) (args:=[.slice (some ⟨r,0+(i+1) * 2,none⟩) (n+1 - (i+1)) (c - (i+1)),.slice (some ⟨r,0+i * 2,none⟩) (n+1 - i) (c - i)]) AA ah ?_
 rw [Nat.zero_add] at ar
 replace ⟨hv,E⟩:=(s1 au).g2 hv E
 refine .d<|.s<|.g<|.r 2<|RG.GR (r:=r) (o:=0) (len:=(n+1)) (cap:=c) (t:=62) (lo:=some (vI (i:Int))) (hi:=none) (sz:=2) i (n+1) AA AA (.inr ⟨_,_,rfl,by omega⟩) (.inl ⟨rfl,rfl⟩) AB AB AB<|.r 1 ?_
 obtain ⟨bc,ai,av,aw,aU⟩:=GJ (P:=Tryz.prog) (a2:=⟨vb,0,none⟩) (T:=62) (T2:=62) (ty:=3) (t:=56) (sz:=2) (o:=(0+i * 2)) (dl:=(n+1 - i)) (dc:=(c - i)) (sl:=1) (sc:=1) (k:=1) (vs:=(E9 y)) AA ar (hv.has 0 (E9 y) rfl) AF (Nat.min_eq_left AB) (by have:=hcl; rw [Di (by rw [Mw hct hnx,DS,List.length_drop]; omega)]; omega) (by intro v hv_; simp [E9] at hv_; rcases hv_ with rfl | rfl <;> rfl)
 refine RG.copy (ats:=[62,62]) (args:=[.slice (some ⟨r,0+i * 2,none⟩) (n+1 - i) (c - i),vS vb 1 1]) AA ai ?_
 rw [Nat.zero_add] at av
 replace ⟨hv,E⟩:=(s1 aw).g2 hv E
 refine .d<|.s<|.g<|.r 2<|.d ?_
 have hfin:=UP (y:=y) hcl hct hnx (by omega:i< n) AB
 have hlen:(xs.take i++y::xs.drop i).length=n+1:=by simp; omega
 have hown:=Own.SE (F:=all) av hfin.2 hfin.1 (by rw [hlen]; omega) AB
 rw [hlen] at hown
 exact .rt func132 results132 (vS r (n+1) c) ⟨⟨_,_,rfl,hown,BU⟩,E⟩
end Go.Proofs.YtggnnidleedpaaaGreat
namespace Go.Proofs.YtggnnidleedpaaaGreat
theorem Own.Q9 {w:World}{r t c:Nat}{F:Nat→Prop}{y:Row}(h:Own w r t F 1 c [y]) (hc:c=1:=by rfl):Box w r t [.int .i64 y.t,.int .i64 y.v]:=by
 obtain ⟨cs,h1,h2,h3,_,_⟩:=h.box
 subst hc
 rw [List.take_of_length_le AB] at h3
 rw [h3] at h1
 exact h1
theorem Mv.RA {w w':World}{r r2:Nat}(A B:List Nat) (hx:Chg (Go.Proofs.YtggnnidleedpaaaGreat.one r) w w') (h:OrB r2 r w.heap.size):Mv (A++r::B) (A++r2::B) w w':=Mv.mk hx (fun k hk hm=>by
 unfold OrB at h
 simp only [List.mem_append,List.mem_cons,not_or] at hm ⊢
 exact ⟨⟨hm.1,by omega,hm.2.2⟩,hm.2.1⟩)
theorem RB {b:List Row}{r x:Row}{i:Nat}(h:b.take i++Cx r (b.drop i)=Cx r b) (hx:b[i]? = some x) (ht:x.t< r.t):b.take (i+1)++Cx r (b.drop (i+1))=Cx r b:=by
 rw [Ai hx,Cx,if_neg AB,if_neg AB] at h
 rw [← h,List.take_add_one,hx]
 simp
theorem PW {b:List Row}{r x:Row}{i:Nat}(h:b.take i++Cx r (b.drop i)=Cx r b) (hx:b[i]? = some x) (ht:x.t=r.t):b.set i r=Cx r b:=by
 rw [Ai hx,Cx,if_neg AB,if_pos AB] at h
 rw [← h]
 obtain ⟨h1,h2⟩:=List.getElem?_eq_some_iff.1 hx
 rw [List.set_eq_take_append_cons_drop,if_pos h1]
theorem Sk {b:List Row}{r x:Row}{i:Nat}(h:b.take i++Cx r (b.drop i)=Cx r b) (hx:b[i]? = some x) (h1:¬ x.t< r.t) (h2:x.t≠r.t):b.take i++r::b.drop i=Cx r b:=by
 rw [← h]
 congr 1
 rw [Ai hx,Cx,if_pos AB]
theorem Mx {b:List Row}{r:Row}{i:Nat}(h:b.take i++Cx r (b.drop i)=Cx r b) (hi:b.length≤i):b.take i++r::b.drop i=Cx r b:=by
 rw [← h,Ab hi]
 rfl
def BV (p:Prt) (id:Int):List Row:=if Az p then partOf p id else []
theorem Hq (v:Int):∀ (is:List Int) (bs:List (List Row)) (i:Nat),is.length=bs.length→(Db v i is = -1∧Bm v is bs=[])∨((i:Int)≤Db v i is∧Db v i is< (i:Int)+is.length∧∃ b,bs[(Db v i is).toNat - i]? = some b∧Bm v is bs=b):=by
 intro is
 induction is with
 | nil=>intro bs i h; left; exact ⟨rfl,by unfold Bm; rfl⟩
 | cons x xs ih =>
   intro bs i h
   cases bs with
   | nil=>simp at h
   | cons b bs =>
     unfold Db Bm
     by_cases hx:(x==v)=true
     ·right
      rw [if_pos hx,if_pos hx]
      refine ⟨by omega,by simp only [List.length_cons]; omega,b,?_,rfl⟩
      simp
     ·rw [if_neg hx,if_neg hx]
      rcases ih bs (i+1) (by simpa using h) with ⟨h1,h2⟩ | ⟨h1,h2,c,h3,h4⟩
      ·left; exact ⟨h1,h2⟩
      ·right
       refine ⟨by omega,by simp only [List.length_cons]; omega,c,?_,h4⟩
       rw [show (Db v (i+1) xs).toNat - i=((Db v (i+1) xs).toNat - (i+1))+1 by omega,List.getElem?_cons_succ]
       exact h3
theorem FN {p:Prt}(h:Az p=true):p.ids.length=p.blocks.length:=by
 unfold Az at h
 simp only [AW,decide_eq_true_eq] at h
 exact h.1
theorem RC {p:Prt}{id:Int}(h:Az p=false):BV p id=[]:=by unfold BV; rw [h]; rfl
theorem RD {p:Prt}{id:Int}(h:Az p=true) (h2:Db id 0 p.ids< 0):BV p id=[]:=by
 unfold BV partOf
 rw [if_pos h]
 rcases Hq id p.ids p.blocks 0 (FN h) with ⟨_,h3⟩ | ⟨h1,_⟩
 ·exact h3
 ·omega
theorem RE {p:Prt}{id:Int}{b:List Row}(h:Az p=true) (h2:¬ Db id 0 p.ids< 0) (hb:p.blocks[(Db id 0 p.ids).toNat]? = some b):BV p id=b:=by
 unfold BV partOf
 rw [if_pos h]
 rcases Hq id p.ids p.blocks 0 (FN h) with ⟨h1,_⟩ | ⟨_,_,c,h3,h4⟩
 ·omega
 ·rw [Nat.sub_zero,hb] at h3
  cases h3
  exact h4
theorem RF {p:Prt}{id:Int}(h:Az p=true) (h2:¬ Db id 0 p.ids< 0):(Db id 0 p.ids).toNat< p.blocks.length:=by
 rcases Hq id p.ids p.blocks 0 (FN h) with ⟨h1,_⟩ | ⟨_,h3,_⟩
 ·omega
 ·have:=FN h; omega
theorem PrtI.ofI {p:Prt}(h:PrtI p) (id:Int):Blk (BV p id):=by
 unfold BV
 split
 ·exact h.of id
 ·exact Blk.nil
theorem Ed {α β:Type}{f:β→α→β}{l:List α}{i:Nat}{b:β}{x:α}{Y:β}(h:(l.drop i).foldl f b=Y) (hd:l.drop i=x::l.drop (i+1)):(l.drop (i+1)).foldl f (f b x)=Y:=by
 rw [hd] at h
 exact h
theorem Em {α β:Type}{f:β→α→β}{l:List α}{i:Nat}{b:β}{Y:β}(h:(l.drop i).foldl f b=Y) (hi:l.length≤i):b=Y:=by
 rw [Ab hi] at h
 exact h
theorem KR {id:Int}{o:List Row}{m:Smp}(h:m.id=id) (ho:Blk o):CV id o m=Cx m.row o:=by unfold CV; rw [if_pos (by simpa using h),E7 ho]
theorem Fy {id:Int}{o:List Row}{m:Smp}(h:m.id≠id):CV id o m=o:=by unfold CV; rw [if_neg (by simpa using h)]
theorem Blk.ins {b:List Row}(h:Blk b){r:Row}(hr:Bi r=true):Blk (Cx r b):=by rw [← E7 h]; exact h.put hr
theorem Tk {p:Prt}{a:List Int}{b:List (List Row)}(ha:a=p.ids) (hb:b=p.blocks):(⟨a,b⟩:Prt)=p:=by subst ha hb; rfl
theorem PX {α:Type}{l k:List α}{i:Nat}(h:k++l.drop i=l) (hi:l.length≤i):k=l:=by
 rw [Ab hi,List.append_nil] at h
 exact h
theorem PY {α:Type}{l:List α}{i:Nat}{k:List α}{q:α}(h:k++l.drop i=l) (hd:l.drop i=q::l.drop (i+1)):(k++[q])++l.drop (i+1)=l:=by
 rw [hd] at h
 simpa using h
end Go.Proofs.YtggnnidleedpaaaGreat
namespace Go.Proofs.YtggnnidleedpaaaGreat
set_option maxRecDepth 100000
set_option maxHeartbeats 4000000
variable {w:World} {F:Nat→Prop} {a1 a2 a3 a4:Option Addr} {n1 c1 n2 c2 n3 c3 n4 c4:Nat}
theorem Gp (b:List Row) (r:Row) (h1:RepS w F a1 n1 c1 b) (p0:b.length≤100000):Calls Tryz.prog 89 [.slice a1 n1 c1,.agg #[.int .i64 r.t,.int .i64 r.v]].toArray w (BB fun rv w'=>VL (ge w.heap.size) w' (Cx r b:List Row) rv∧Ext w w'):=by
 refine goT func89 ?_
 obtain ⟨rfl,e7,h1⟩:=h1.tp
 refine .s<|.g<|.np 56 [vI r.t,vI r.v] fun W fF bX bk E dq=>?_
 replace h1:=(sn [] bk bX).g1 h1
 have C:=bk
 refine .r 1<|.d<|.s<|.g<|.ns 0 56 [] fun cr ec aZ bY dr dt=>?_
 have du:=AX aZ E.lt
 have dv:=Ae aZ C.size
 have dw:=C.cn aZ
 replace ⟨h1,E,C⟩:=(sn [W] bY aZ).g3 h1 E C
 have dx:Own (α:=Row) ec cr 56 (nin (ge w.heap.size) [cr,W]) 0 0 []:=Own.Aj dr
 refine .r 1<|RG.BG (T:=62) (ty:=62) Bx dx h1 AA AA (fun b h e=>h.2 (e▸AI)) AB fun aa cu dy J aL bZ=>?_
 have e8:=Ag aL du E.lt
 have b0:=Bt aL dv C.size
 have fa:=Aw aL dw C.size
 replace ⟨E,C⟩:=(s1 bZ).g2 E C
 replace J:=J.rn cr
 have fb:=J.len
 refine .r 1<|.d<|.s<|.g<|.r 1<|.d<|.s<|.b 0<|T.loop (X:=Nat) 0 (fun at_=>[(3,.pointer (some ⟨W,0,none⟩)),(5,vS aa (0+b.length) cu),(6,vI (at_:Int))]) (fun at_ cw=>Chg (ins []) dy cw∧(at_≤b.length)∧(b.take at_++Cx r (b.drop at_)=Cx r b)) (fun at_=>b.length - at_) AA ⟨AA,AA,AA,trivial⟩ ⟨Chg.refl _ _,AB,AD⟩ ?_
 rintro at_ fG cw ⟨az,fd,fe⟩ bm
 have b6:Mv [aa,W] [aa,W] dy cw:=Mv.inl az all_nil (all_cons (.inl AI) (all_cons (.inl AJ) all_nil))
 replace ⟨E,J,C⟩:=(sp b6 az).g3 E J C
 refine .s<|.s<|.gd nil 12 fun ed b7=>?_
 replace ⟨E,J,C,az⟩:=(se [aa,W] b7).g4 E J C az
 refine .r [0,1,2]<|GA.Ey (i:=3) ((at_:Int)< ((0+b.length):Int)) AA (fun dz=>?_) (fun dz=>?_)
 ·refine .r [4,5,6] ?_
  have dA:at_< 0+b.length:=AB
  refine GA.idx (i:=7) (b:=aa) (o:=0) at_ (len:=0+b.length) (z:=(at_:Int)) (sz:=2) AA AB dA rfl<|.r [8] ?_
  obtain ⟨ao,aG⟩:∃ y,([]++b)[at_]? = some y:=⟨_,AU AB⟩
  obtain ⟨_,rfl,bn⟩:=J.elem at_ ao aG
  replace bn:Has ed ⟨aa,0+at_ * Rep.sz Row,none⟩ [vI ao.t,vI ao.v]:=by rw [Nat.zero_add]; exact bn
  refine .lh 9 0 bn id<|.r [10]<|.lb 11 E id<|.d fun fH b8=>?_
  replace ⟨E,J,C,az⟩:=(se [aa,W] b8).g4 E J C az
  refine .bp (ao.t< r.t) (fun dB=>.r 1<|.d<|.ct<|.sk<|.b 1<|.g<|.r 1<|.it ((at_:Int)+1)<|.r 1<|.d<|.ib 1<|bm (at_+1) _ _ ⟨AA,AA,AA,trivial⟩ ⟨az,AB,(by exact RB ‹_› ‹_› ‹_›)⟩ AB) fun dB=>.r 1<|.d<|.cf<|.x 0 rfl<|.s<|.s<|.gd nil 12 fun ee b9=>?_
  replace ⟨E,J,C⟩:=(se [aa,W] b9).g3 E J C
  refine .r [0,1,2]<|GA.Ey (i:=3) ((at_:Int)< ((0+b.length):Int)) AA (fun dC=>?_) (fun dC=>?_)
  ·refine .r [4,5,6] ?_
   have dD:at_< 0+b.length:=AB
   refine GA.idx (i:=7) (b:=aa) (o:=0) at_ (len:=0+b.length) (z:=(at_:Int)) (sz:=2) AA AB dD rfl<|.r [8] ?_
   obtain ⟨_,rfl,bo⟩:=J.elem at_ ao aG
   replace bo:Has ee ⟨aa,0+at_ * Rep.sz Row,none⟩ [vI ao.t,vI ao.v]:=by rw [Nat.zero_add]; exact bo
   refine .lh 9 0 bo id<|.r [10]<|.lb 11 E id<|.d fun ef cd=>?_
   replace ⟨E,J,C⟩:=(se [aa,W] cd).g3 E J C
   refine .eq ao.t r.t (fun dE=>?_) (fun dE=>?_)
   ·refine .r 1<|.d<|.ct<|.s<|.g<|.r 2<|.ln E ?_
    have dF:at_< 0+b.length:=AB
    refine RG.idx (b:=aa) (o:=0) at_ (len:=0+b.length) (i:=(at_:Int)) (sz:=2) AA AB dF rfl ?_
    obtain ⟨_,rfl,bq⟩:=J.elem at_ ao aG
    replace bq:Has ef ⟨aa,0+at_ * Rep.sz Row,none⟩ [vI ao.t,vI ao.v]:=by rw [Nat.zero_add]; exact bq
    refine RG.DQ (t':=56) (i:=at_) (k:=0) (v:=.agg #[vI r.t,vI r.v]) (cs:=[vI ao.t,vI ao.v]) r J aG bq AA AA AA rfl fun fI dG ce dH=>?_
    replace ⟨E,C⟩:=(s1 ce).g2 E C
    refine .d<|.s<|.g<|.r 2<|.d ?_
    have eg:=dG.sl b0
    exact .rt func89 results89 (vS aa (0+b.length) cu) ⟨(eg.vl (by exact PW ‹_› ‹_› ‹_›) (fun _ _ h=>h.1)),C⟩
   refine .r 1<|.d<|.cf<|.sk<|.s<|.g<|.ns 0 56 [] fun aM eh aH cg dI dJ=>?_
   have dK:=AX aH E.lt
   have dL:=AX aH J.lt
   have dM:=Ae aH C.size
   have fg:=C.cn aH
   replace ⟨E,J,C⟩:=(sn [aa,W] cg aH).g3 E J C
   have aA:Own (α:=Row) eh aM 56 (nin (ge w.heap.size) [aM,aa,W]) 0 0 []:=Own.Aj dI
   refine .r 2<|.ln E<|.ns 1 56 [vI r.t,vI r.v] fun bj dN aN br cx cy=>?_
   have cz:=AX aN J.lt
   have cA:=AX aN aA.lt
   replace ⟨E,J,aA,C⟩:=(sn [aM,aa,W] br aN).g4 E J aA C
   have aO:Own (α:=Row) dN bj 56 (nin (ge w.heap.size) [bj,aM,aa,W]) 1 1 [r]:=Own.lit cx rfl AE ⟨rfl,rfl⟩
   refine .cl (DP (i:=at_) (y:=r) J (Own.Q9 aO) cz AB AB) ?_
   rintro fh ci ⟨⟨bt,fi,rfl,aq,aP⟩,ba⟩
   have bu:=Ay aP (Nb.symm dL) aA.lt
   have bv:Mv [bj,aM,aa,W] [bj,aM,bt,W] dN ci:=Mv.RA [bj,aM] [W] ba aP
   replace ⟨E,aA,aO,C⟩:=(sp bv ba).g4 E aA aO C
   replace aq:Own ci bt 56 (nin (ge w.heap.size) [bj,aM,bt,W]) _ _ _:=aq.flat Bx
   have ej:=aq.len
   refine RG.BG (T:=62) (ty:=62) Bx aA (aq.Qu Bx) AA AA (fun b h e=>bu (h.symm.trans e)) AB fun dO dP fj aB af bw=>?_
   have en:=Ag af dK E.lt
   have et:=Ag af (Nb.symm bu) aq.lt
   have ey:=Ag af (Nb.symm cA) aO.lt
   have cB:=Bt af dM C.size
   replace ⟨E,C⟩:=(s1 bw).g2 E C
   replace aB:=aB.rn aM
   refine .r 1<|.d ?_
   have dQ:=aB.sl cB
   exact .rt func89 results89 (vS dO (0+(0+b.length+1)) dP) ⟨(dQ.vl (by exact Sk ‹_› ‹_› ‹_› ‹_›) (fun _ _ h=>h.1)),C⟩
  refine .r [4]<|GA.skip AA fun fk bz=>?_
  replace ⟨E,J,C⟩:=(se [aa,W] bz).g3 E J C
  refine .r 2<|.d<|.cf<|.sk<|.s<|.g<|.ns 0 56 [] fun ag dR ar bA cC cD=>?_
  have cE:=AX ar E.lt
  have cF:=AX ar J.lt
  have cG:=Ae ar C.size
  have eB:=C.cn ar
  replace ⟨E,J,C⟩:=(sn [aa,W] bA ar).g3 E J C
  have ab:Own (α:=Row) dR ag 56 (nin (ge w.heap.size) [ag,aa,W]) 0 0 []:=Own.Aj cC
  refine .r 2<|.ln E<|.ns 1 56 [vI r.t,vI r.v] fun aI cj aQ bB cH cI=>?_
  have cJ:=AX aQ J.lt
  have cK:=AX aQ ab.lt
  replace ⟨E,J,ab,C⟩:=(sn [ag,aa,W] bB aQ).g4 E J ab C
  have aR:Own (α:=Row) cj aI 56 (nin (ge w.heap.size) [aI,ag,aa,W]) 1 1 [r]:=Own.lit cH rfl AE ⟨rfl,rfl⟩
  refine .cl (DP (i:=at_) (y:=r) J (Own.Q9 aR) cJ AB AB) ?_
  rintro fm ck ⟨⟨bC,fp,rfl,au,aS⟩,bc⟩
  have bD:=Ay aS (Nb.symm cF) ab.lt
  have bE:Mv [aI,ag,aa,W] [aI,ag,bC,W] cj ck:=Mv.RA [aI,ag] [W] bc aS
  replace ⟨E,ab,aR,C⟩:=(sp bE bc).g4 E ab aR C
  replace au:Own ck bC 56 (nin (ge w.heap.size) [aI,ag,bC,W]) _ _ _:=au.flat Bx
  refine RG.BG (T:=62) (ty:=62) Bx ab (au.Qu Bx) AA AA (fun b h e=>bD (h.symm.trans e)) AB fun dS dT fq aC ah bF=>?_
  have eE:=Ag ah cE E.lt
  have eF:=Ag ah (Nb.symm bD) au.lt
  have eG:=Ag ah (Nb.symm cK) aR.lt
  have cL:=Bt ah cG C.size
  replace ⟨E,C⟩:=(s1 bF).g2 E C
  replace aC:=aC.rn ag
  refine .r 1<|.d ?_
  have dU:=aC.sl cL
  exact .rt func89 results89 (vS dS (0+(0+b.length+1)) dT) ⟨(dU.vl (by exact Mx ‹_› AB) (fun _ _ h=>h.1)),C⟩
 refine .r [4]<|GA.skip AA fun ft bG=>?_
 replace ⟨E,J,C⟩:=(se [aa,W] bG).g3 E J C
 refine .r 2<|.d<|.cf<|.x 0 rfl<|.s<|.s<|.gd nil 12 fun dV bH=>?_
 replace ⟨E,J,C⟩:=(se [aa,W] bH).g3 E J C
 refine .r [0,1,2]<|GA.Ey (i:=3) ((at_:Int)< ((0+b.length):Int)) AA (fun cM=>?_) (fun cM=>?_)
 ·refine .r [4,5,6] ?_
  have cN:at_< 0+b.length:=AB
  refine GA.idx (i:=7) (b:=aa) (o:=0) at_ (len:=0+b.length) (z:=(at_:Int)) (sz:=2) AA AB cN rfl<|.r [8] ?_
  obtain ⟨ai,aD⟩:∃ y,([]++b)[at_]? = some y:=⟨_,AU AB⟩
  obtain ⟨_,rfl,bd⟩:=J.elem at_ ai aD
  replace bd:Has dV ⟨aa,0+at_ * Rep.sz Row,none⟩ [vI ai.t,vI ai.v]:=by rw [Nat.zero_add]; exact bd
  refine .lh 9 0 bd id<|.r [10]<|.lb 11 E id<|.d fun dX bI=>?_
  replace ⟨E,J,C⟩:=(se [aa,W] bI).g3 E J C
  refine .eq ai.t r.t (fun cO=>?_) (fun cO=>?_)
  ·refine .r 1<|.d<|.ct<|.s<|.g<|.r 2<|.ln E ?_
   have cP:at_< 0+b.length:=AB
   refine RG.idx (b:=aa) (o:=0) at_ (len:=0+b.length) (i:=(at_:Int)) (sz:=2) AA AB cP rfl ?_
   obtain ⟨_,rfl,bg⟩:=J.elem at_ ai aD
   replace bg:Has dX ⟨aa,0+at_ * Rep.sz Row,none⟩ [vI ai.t,vI ai.v]:=by rw [Nat.zero_add]; exact bg
   refine RG.DQ (t':=56) (i:=at_) (k:=0) (v:=.agg #[vI r.t,vI r.v]) (cs:=[vI ai.t,vI ai.v]) r J aD bg AA AA AA rfl fun fu cQ bJ cR=>?_
   replace ⟨E,C⟩:=(s1 bJ).g2 E C
   refine .d<|.s<|.g<|.r 2<|.d ?_
   have dY:=cQ.sl b0
   exact .rt func89 results89 (vS aa (0+b.length) cu) ⟨(dY.vl (by exact PW ‹_› ‹_› ‹_›) (fun _ _ h=>h.1)),C⟩
  refine .r 1<|.d<|.cf<|.sk<|.s<|.g<|.ns 0 56 [] fun aj dZ av bK cS cT=>?_
  have cU:=AX av E.lt
  have cV:=AX av J.lt
  have cW:=Ae av C.size
  have eK:=C.cn av
  replace ⟨E,J,C⟩:=(sn [aa,W] bK av).g3 E J C
  have ac:Own (α:=Row) dZ aj 56 (nin (ge w.heap.size) [aj,aa,W]) 0 0 []:=Own.Aj cS
  refine .r 2<|.ln E<|.ns 1 56 [vI r.t,vI r.v] fun aJ cm aT bL cX cY=>?_
  have cZ:=AX aT J.lt
  have c7:=AX aT ac.lt
  replace ⟨E,J,ac,C⟩:=(sn [aj,aa,W] bL aT).g4 E J ac C
  have aU:Own (α:=Row) cm aJ 56 (nin (ge w.heap.size) [aJ,aj,aa,W]) 1 1 [r]:=Own.lit cX rfl AE ⟨rfl,rfl⟩
  refine .cl (DP (i:=at_) (y:=r) J (Own.Q9 aU) cZ AB AB) ?_
  rintro fv co ⟨⟨bM,fw,rfl,aw,aV⟩,bh⟩
  have bN:=Ay aV (Nb.symm cV) ac.lt
  have bO:Mv [aJ,aj,aa,W] [aJ,aj,bM,W] cm co:=Mv.RA [aJ,aj] [W] bh aV
  replace ⟨E,ac,aU,C⟩:=(sp bO bh).g4 E ac aU C
  replace aw:Own co bM 56 (nin (ge w.heap.size) [aJ,aj,bM,W]) _ _ _:=aw.flat Bx
  refine RG.BG (T:=62) (ty:=62) Bx ac (aw.Qu Bx) AA AA (fun b h e=>bN (h.symm.trans e)) AB fun d0 d3 fA aE ak bP=>?_
  have eN:=Ag ak cU E.lt
  have eO:=Ag ak (Nb.symm bN) aw.lt
  have eP:=Ag ak (Nb.symm c7) aU.lt
  have c8:=Bt ak cW C.size
  replace ⟨E,C⟩:=(s1 bP).g2 E C
  replace aE:=aE.rn aj
  refine .r 1<|.d ?_
  have d4:=aE.sl c8
  exact .rt func89 results89 (vS d0 (0+(0+b.length+1)) d3) ⟨(d4.vl (by exact Mx ‹_› AB) (fun _ _ h=>h.1)),C⟩
 refine .r [4]<|GA.skip AA fun fB bQ=>?_
 replace ⟨E,J,C⟩:=(se [aa,W] bQ).g3 E J C
 refine .r 2<|.d<|.cf<|.sk<|.s<|.g<|.ns 0 56 [] fun al d5 ax bR c9 da=>?_
 have db:=AX ax E.lt
 have de:=AX ax J.lt
 have df:=Ae ax C.size
 have eS:=C.cn ax
 replace ⟨E,J,C⟩:=(sn [aa,W] bR ax).g3 E J C
 have ae:Own (α:=Row) d5 al 56 (nin (ge w.heap.size) [al,aa,W]) 0 0 []:=Own.Aj c9
 refine .r 2<|.ln E<|.ns 1 56 [vI r.t,vI r.v] fun aK cp aW bS dg dh=>?_
 have dj:=AX aW J.lt
 have dm:=AX aW ae.lt
 replace ⟨E,J,ae,C⟩:=(sn [al,aa,W] bS aW).g4 E J ae C
 have aX:Own (α:=Row) cp aK 56 (nin (ge w.heap.size) [aK,al,aa,W]) 1 1 [r]:=Own.lit dg rfl AE ⟨rfl,rfl⟩
 refine .cl (DP (i:=at_) (y:=r) J (Own.Q9 aX) dj AB AB) ?_
 rintro fC cq ⟨⟨bT,fD,rfl,ay,aY⟩,bi⟩
 have bU:=Ay aY (Nb.symm de) ae.lt
 have bV:Mv [aK,al,aa,W] [aK,al,bT,W] cp cq:=Mv.RA [aK,al] [W] bi aY
 replace ⟨E,ae,aX,C⟩:=(sp bV bi).g4 E ae aX C
 replace ay:Own cq bT 56 (nin (ge w.heap.size) [aK,al,bT,W]) _ _ _:=ay.flat Bx
 have eT:=ay.len
 refine RG.BG (T:=62) (ty:=62) Bx ae (ay.Qu Bx) AA AA (fun b h e=>bU (h.symm.trans e)) AB fun d6 d7 fE aF am bW=>?_
 have eV:=Ag am db E.lt
 have eW:=Ag am (Nb.symm bU) ay.lt
 have eX:=Ag am (Nb.symm dm) aX.lt
 have dp:=Bt am df C.size
 replace C:=(s1 bW).g1 C
 replace aF:=aF.rn al
 refine .r 1<|.d ?_
 have d8:=aF.sl dp
 exact .rt func89 results89 (vS d6 (0+(0+b.length+1)) d7) ⟨(d8.vl (by exact Mx ‹_› AB) (fun _ _ h=>h.1)),C⟩
theorem Ew (p:Prt) (id:Int) (h1:RepS w F a1 n1 c1 p.ids) (h2:RepS w F a2 n2 c2 p.blocks) (p0:Ck p):Calls Tryz.prog 88 [.agg #[.slice a1 n1 c1,.slice a2 n2 c2],.int .i64 id].toArray w (BB fun rv w'=>VL (ge w.heap.size) w' (BV p id:List Row) rv∧Ext w w'):=by
 refine goT func88 ?_
 obtain ⟨rfl,bc,h1⟩:=h1.tp
 obtain ⟨rfl,bd,h2⟩:=h2.tp
 refine .s<|.g<|.np 48 [.slice a1 p.ids.length c1,.slice a2 p.blocks.length c2] fun J aT aj af E ax=>?_
 replace ⟨h1,h2⟩:=(sn [] af aj).g2 h1 h2
 have C:=af
 refine .r 1<|.d<|.s<|.g<|.r 1<|.lb E<|.r 1<|.cl (Dg p.ids id h1.ta (w:=aT) (F:=all)) ?_
 rintro br aU ⟨rfl,ak⟩
 replace ⟨h1,h2,E,C⟩:=(se [J] ak).g4 h1 h2 E C
 refine .r 1<|.d<|.s<|.s<|.g<|.ln E<|.cl (Cf p h1.ta h2.ta (w:=aU) (F:=all)) ?_
 rintro bt bu ⟨rfl,al⟩
 replace ⟨h2,E,C⟩:=(se [J] al).g3 h2 E C
 cases bg:(Az p)
 ·refine .r 5<|.d<|.ct<|.s<|.g<|.ns 0 56 [] fun ag ay ac am az aA=>?_
  have bh:=AX ac E.lt
  have aB:=Ae ac C.size
  replace ⟨h2,E,C⟩:=(sn [J] am ac).g3 h2 E C
  have aC:Own (α:=Row) ay ag 56 (nin (ge w.heap.size) [ag,J]) 0 0 []:=Own.Aj az
  refine .r 1<|.d ?_
  have aV:=aC.sl aB
  replace h2:=(sd ay [ag,J] ag).g1 h2
  exact .rt func88 results88 (vS ag 0 0) ⟨(aV.vl (by rw [RC ‹_›]) (fun _ _ h=>h.1)),C⟩
 refine .r 3<|.bp (Db id 0 p.ids< 0) (fun aD=>?_) (fun aD=>?_)
 ·refine .r 1<|.d<|.ct<|.s<|.g<|.ns 0 56 [] fun ah aE ae ao aF aG=>?_
  have bi:=AX ae E.lt
  have aH:=Ae ae C.size
  replace ⟨h2,E,C⟩:=(sn [J] ao ae).g3 h2 E C
  have aI:Own (α:=Row) aE ah 56 (nin (ge w.heap.size) [ah,J]) 0 0 []:=Own.Aj aF
  refine .r 1<|.d ?_
  have aW:=aI.sl aH
  replace h2:=(sd aE [ah,J] ah).g1 h2
  exact .rt func88 results88 (vS ah 0 0) ⟨(aW.vl (by rw [RD ‹_› ‹_›]) (fun _ _ h=>h.1)),C⟩
 refine .r 1<|.d<|.cf<|.sk<|.s<|.g<|.ns 0 56 [] fun av aX W aq aJ aK=>?_
 have aL:=AX W E.lt
 have aM:=Ae W C.size
 have bj:=C.cn W
 replace ⟨h2,E,C⟩:=(sn [J] aq W).g3 h2 E C
 have aN:Own (α:=Row) aX av 56 (nin (ge w.heap.size) [av,J]) 0 0 []:=Own.Aj aJ
 refine .r 1<|.lb E<|.r 1 ?_
 have ar:(Db id 0 p.ids).toNat< p.blocks.length:=(by exact RF ‹_› ‹_›)
 refine RG.idx ((Db id 0 p.ids).toNat) (len:=p.blocks.length) (i:=Db id 0 p.ids) (sz:=1) AA AB ar (h2.addr (Nat.zero_lt_of_lt ar)) ?_
 obtain ⟨aO,ai⟩:∃ y,p.blocks[(Db id 0 p.ids).toNat]? = some y:=⟨_,AU AB⟩
 have aS:=AV ai
 obtain ⟨_,⟨bv,bw,bz,rfl,aw⟩,aP⟩:=h2.elem ((Db id 0 p.ids).toNat) aO ai
 have aQ:=aw.len
 subst aQ
 have bm:=aw.max
 refine .lh 0 aP<|RG.BG (T:=62) (ty:=62) Bx aN aw AA AA (fun b h e=>h.2 (e▸AI)) (by (have q1:=p0.2.2 _ ‹_›; omega)) fun aY aZ bA aa ab au=>?_
 have bn:=Ag ab aL E.lt
 have aR:=Bt ab aM C.size
 replace C:=(s1 au).g1 C
 replace aa:=aa.rn av
 refine .r 1<|.d ?_
 have ba:=aa.sl aR
 exact .rt func88 results88 (vS aY (0+aO.length) aZ) ⟨(ba.vl (by (rw [RE ‹_› ‹_› ‹_›]; rfl)) (fun _ _ h=>h.1)),C⟩
theorem C9 (p:Prt) (h1:RepS w F a1 n1 c1 p.ids) (h2:RepS w F a2 n2 c2 p.blocks) (p0:Ck p):Calls Tryz.prog 81 [.agg #[.slice a1 n1 c1,.slice a2 n2 c2]].toArray w (BB fun rv w'=>VS (ge w.heap.size) w' (p:Prt) rv∧Ext w w'):=by
 refine goT func81 ?_
 obtain ⟨rfl,dC,h1⟩:=h1.tp
 obtain ⟨rfl,dD,h2⟩:=h2.tp
 refine .s<|.g<|.np 48 [.slice a1 p.ids.length c1,.slice a2 p.blocks.length c2] fun ae d3 bo aR J cj=>?_
 replace ⟨h1,h2⟩:=(sn [] aR bo).g2 h1 h2
 have C:=aR
 refine .np 48 [AH,AH] fun af d4 aS bq E ck=>?_
 have dE:=C.cn aS
 replace ⟨h1,h2,J,C⟩:=(sn [ae] bq aS).g4 h1 h2 J C
 refine .d<|.s<|.g<|.ns 0 3 [] fun bn cW aC br cm co=>?_
 have cp:=AX aC J.lt
 have cq:=AX aC E.lt
 have cr:=Ae aC C.size
 have cu:=C.cn aC
 replace ⟨h1,h2,J,E,C⟩:=(sn [af,ae] br aC).g5 h1 h2 J E C
 have cw:Own (α:=Int) cW bn 3 (nin (ge w.heap.size) [bn,af,ae]) 0 0 []:=Own.Aj cm
 refine .r 1<|.lb J<|RG.BG (T:=34) (ty:=34) BS cw h1 AA AA (fun b h e=>h.2 (e▸AI)) (by have q1:=p0.1; have q2:=p0.2.1; omega) fun az cx d5 ak aw bt=>?_
 have cy:=Ag aw cp J.lt
 have cz:=Ag aw cq E.lt
 have cA:=Bt aw cr C.size
 have dI:=Aw aw cu C.size
 replace ⟨h2,J,E,C⟩:=(sa [bn,af,ae] bt aw).g4 h2 J E C
 replace ak:=ak.rn bn
 have dJ:=ak.len
 refine .ns 0 62 [] fun ax cX aA bu cB cC=>?_
 have cD:=AX aA J.lt
 have cE:=AX aA E.lt
 have cF:=AX aA ak.lt
 have cG:=Ae aA C.size
 have cH:=C.cn aA
 replace ⟨h2,J,E,ak,C⟩:=(sn [az,af,ae] bu aA).g5 h2 J E ak C
 have aD:Own (α:=List Row) cX ax 62 (nin (ge w.heap.size) [ax,az,af,ae]) 0 0 []:=Own.Aj cB
 refine .r 1<|.np 48 [AH,AH] fun ag d6 aB bv cI cJ=>?_
 have dL:=AX aB J.lt
 have dM:=AX aB E.lt
 have cK:=AX aB ak.lt
 have cL:=AX aB aD.lt
 have dN:=C.cn aB
 replace ⟨h2,J,E,ak,aD,C⟩:=(sn [ax,az,af,ae] bv aB).g6 h2 J E ak aD C
 refine .sc [vS az (0+p.ids.length) cx,vS ax 0 0] cI fun aO bw aT cM=>?_
 replace ⟨h2,J,E,ak,aD,C⟩:=(so [ag,ax,az,af,ae] bw).g6 h2 J E ak aD C
 refine .d<|.s<|.s<|.g<|.r 1<|.lb J<|.r 2<|.d<|.b 0<|T.loop (X:=Nat × (List Int) × Nat × Nat × Nat × (List (List Row)) × Nat × Nat × Nat) (0,(([]++p.ids):List Int),az,0+p.ids.length,cx,([]:List (List Row)),ax,0,0) (fun (k,aq,r_out_0,n_out_0,c_out_0,am,r_out_1,n_out_1,c_out_1)=>[(2,.pointer (some ⟨af,0,none⟩)),(3,.pointer (some ⟨ag,0,none⟩)),(13,.slice a2 p.blocks.length c2),(14,vI (p.blocks.length:Int)),(15,vI (k:Int))]) (fun (k,aq,r_out_0,n_out_0,c_out_0,am,r_out_1,n_out_1,c_out_1) ay=>Chg (ins [az,ax,ag]) aO ay∧Own ay r_out_0 3 (nin (ge w.heap.size) [ag,r_out_1,r_out_0,af,ae]) n_out_0 c_out_0 aq∧OrB r_out_0 az aO.heap.size∧Own ay r_out_1 62 (nin (ge w.heap.size) [ag,r_out_1,r_out_0,af,ae]) n_out_1 c_out_1 am∧OrB r_out_1 ax aO.heap.size∧Nb r_out_1 r_out_0∧Box ay ag 48 [vS r_out_0 n_out_0 c_out_0,vS r_out_1 n_out_1 c_out_1]∧(k≤p.blocks.length)∧(aq=p.ids)∧(am.length≤k)∧(am++p.blocks.drop k=p.blocks)) (fun (k,aq,r_out_0,n_out_0,c_out_0,am,r_out_1,n_out_1,c_out_1)=>p.blocks.length - k) AA ⟨AA,AA,AA,AA,AA,trivial⟩ ⟨Chg.refl _ _,ak,BU,aD,BU,cF,aT,AB,AF,AD,AF⟩ ?_
 rintro ⟨k,aq,r_out_0,n_out_0,c_out_0,am,r_out_1,n_out_1,c_out_1⟩ dO ay ⟨ac,aa,aE,ab,ao,bC,W,dP,dQ,dR,dS⟩ aP
 have cY:=Ay aE cy J.lt
 have cZ:=Ay aE cz E.lt
 have bD:=Ay aE (Nb.symm cK) aT.lt
 have bE:=Bz aE cA C.size
 have c7:=Ay ao cD J.lt
 have c8:=Ay ao cE E.lt
 have aU:=Ay ao (Nb.symm cL) aT.lt
 have bF:=Bz ao cG C.size
 have c9:=BA ao cH C.size
 have bG:Cov (ins [az,ax,ag]) aO ax:=⟨.inl AJ⟩
 have da:Cov (ins [az,ax,ag]) aO ag:=⟨.inl AK⟩
 have db:=BA ao bG (Nat.le_refl _)
 have aV:Mv [ag,ax,az,af,ae] [ag,r_out_1,r_out_0,af,ae] aO ay:=Mv.inl ac (all_cons AK (all_cons AJ (all_cons AI all_nil))) (all_cons (.inl AI) (all_cons (Bb ao AJ) (all_cons (Bb aE AK) (all_cons (.inl AL) (all_cons (.inl AM) all_nil)))))
 replace ⟨h2,J,E,C⟩:=(sp aV ac).g4 h2 J E C
 have dg:=ab.len; have dh:=ab.max
 refine .s<|.g<|.bp ((k:Int)< (p.blocks.length:Int)) (fun bH=>?_) (fun bH=>?_)
 ·refine .d<|.s<|.ct<|.sk<|.s<|.b 1<|.s<|.g ?_
  have bI:k< p.blocks.length:=AB
  refine .ix k 1 h2 bI ?_
  obtain ⟨aH,aI⟩:∃ y,p.blocks[k]? = some y:=⟨_,AU AB⟩
  have dj:=Ai aI; have cN:=AV aI
  obtain ⟨_,⟨cO,dT,cP,rfl,al⟩,bJ⟩:=h2.elem k aH aI
  have bK:=al.len
  subst bK
  have dm:=al.max
  refine .lh 0 bJ<|.r 1<|.d ?_
  replace al:=al.BO
  have bL:Gb (ag+1) ay.heap.size:=W.lt
  refine .gd (mtb [r_out_0,r_out_1] ay.heap.size) 6 fun cQ aJ=>?_
  replace ⟨J,E,aa,ab,W,al,C,ac⟩:=(se [ag,r_out_1,r_out_0,af,ae] aJ).g8 J E aa ab W al C ac
  have aK:Chg (mtb [r_out_0,r_out_1] ay.heap.size) ay cQ:=Chg.Cb (Chg.refl (mtb [r_out_0,r_out_1] ay.heap.size) ay) aJ
  refine .r [0]<|.lb 1 W (BL (all_cons (Nb.symm bD) (all_cons (Nb.symm aU) all_nil)) bL)<|.r [3]<|.go 2<|.ns 0 56 [] fun dU aW=>?_
  replace ⟨J,E,aa,ab,W,al,C,ac,aK⟩:=(se [ag,r_out_1,r_out_0,af,ae] aW).g9 J E aa ab W al C ac aK
  intro aF cR ah aX bM bN
  have bO:=AX ah J.lt
  have bP:=AX ah E.lt
  have bQ:=AX ah aa.lt
  have bR:=AX ah ab.lt
  have bS:=AX ah W.lt
  have bT:=Ae ah C.size
  have dp:=C.cn ah
  have dq:=ac.cn ah
  have bU:=aK.cn ah
  replace ⟨J,E,aa,ab,W,al,C,ac⟩:=(sn [ag,r_out_1,r_out_0,af,ae] aX ah).g8 J E aa ab W al C ac
  have aL:Own (α:=Row) cR aF 56 (nin (ge w.heap.size) [aF,ag,r_out_1,r_out_0,af,ae]) 0 0 []:=Own.Aj bM
  refine .go 4<|GE.append (T:=62) (ty:=62) (args:=[vS aF 0 0,.slice cO aH.length cP]) AA fun dV aY=>?_
  replace ⟨J,E,aa,ab,W,al,aL,C,ac⟩:=(se [aF,ag,r_out_1,r_out_0,af,ae] aY).g9 J E aa ab W al aL C ac
  obtain ⟨aG,cS,dW,aZ,ai,aj,aM,bV⟩:=Own.BG (P:=Tryz.prog) (T:=62) (ty:=62) Bx aL AA al (fun b h e=>h.2 (e▸AI)) (by have q1:=p0.1; (have q3:=p0.2.2 _ ‹_›; omega))
  refine ⟨_,_,aZ,Chg.toS aM (Cov.toS bU),?_⟩
  have dr:=Ag aj bO J.lt
  have dt:=Ag aj bP E.lt
  have du:=Ag aj bQ aa.lt
  have dv:=Ag aj bR ab.lt
  have dw:=Ag aj bS W.lt
  have bW:=Bt aj bT C.size
  replace ⟨J,E,aa,ab,W,C,ac⟩:=(sa [aF,ag,r_out_1,r_out_0,af,ae] aM aj).g7 J E aa ab W C ac
  replace ai:=ai.rn aF
  refine .go 5<|.ns 1 62 [vS aG (0+aH.length) cS] fun dX ba=>?_
  replace ⟨J,E,aa,ab,W,ai,C,ac⟩:=(se [aG,ag,r_out_1,r_out_0,af,ae] ba).g8 J E aa ab W ai C ac
  intro bz dY ar bc aN bX
  have bY:=AX ar J.lt
  have bZ:=AX ar E.lt
  have b0:=AX ar aa.lt
  have bd:=AX ar ab.lt
  have b6:=AX ar W.lt
  have b7:=Ae ar C.size
  replace ⟨E,aa,ab,W,ai,C,ac⟩:=(se [aG,ag,r_out_1,r_out_0,af,ae] bc).g7 E aa ab W ai C ac
  refine .d fun cT bg=>?_
  replace ⟨E,aa,ab,W,ai,aN,C,ac⟩:=(se [aG,ag,r_out_1,r_out_0,af,ae] bg).g8 E aa ab W ai aN C ac
  have cU:=ai.sl bW
  replace ⟨aa,ab⟩:=(sd cT [aG,ag,r_out_1,r_out_0,af,ae] aG).g2 aa ab
  have aQ:nin (ge w.heap.size) [ag,r_out_1,r_out_0,af,ae] bz∧bz≠r_out_1:=BR b7 (all_cons b6 (all_cons bd (all_cons b0 (all_cons bZ (all_cons bY all_nil))))) bd
  refine RG.Ax (T:=46) (ty:=46) (y:=([]++aH)) ab aN AA AA ⟨_,_,_,rfl,cU.oi⟩ aQ (by have q1:=p0.1; have q2:=p0.2.1; omega) fun bh bA dZ au av bi=>?_
  have b8:=Ag av bC aa.lt
  have dz:=Ag av aU W.lt
  have b9:=CB av ao ac.size
  replace ⟨E,aa,W,C,ac⟩:=(sa [ag,r_out_1,r_out_0,af,ae] bi av).g5 E aa W C ac
  replace au:=au.rn r_out_1
  refine .r 1<|.ss 1 (vS bh (n_out_1+1) bA) W fun d0 bj cd ce=>?_
  replace ⟨E,aa,au,C,ac⟩:=(so [ag,bh,r_out_0,af,ae] bj).g5 E aa au C ac
  exact .d<|.ib 1<|.g<|.it ((k:Int)+1)<|.r 1<|.d<|aP (k+1,aq,r_out_0,n_out_0,c_out_0,(am++[([]++aH)]),bh,n_out_1+1,bA) _ _ ⟨AA,AA,AA,AA,AA,trivial⟩ ⟨ac,aa,aE,au,b9,b8,cd,AB,‹_›,(by simp; omega),(by exact NX ‹_› ‹_›)⟩ (by (simp only []; omega))
 refine .d<|.s<|.cf<|.x 0 rfl<|.s<|.g<|.ln W<|.sc [vS r_out_0 n_out_0 c_out_0,vS r_out_1 n_out_1 c_out_1] E fun bB bk cg ci=>?_
 replace ⟨aa,ab,C⟩:=(so [ag,r_out_1,r_out_0,af,ae] bk).g3 aa ab C
 refine .d ?_
 have bm:=aa.sl bE
 replace ab:=(sd bB [ag,r_out_1,r_out_0,af,ae] r_out_0).g1 ab
 have cV:=ab.sl bF
 replace bm:=(sd bB [ag,r_out_1,af,ae] r_out_1).g1 bm
 exact .rb func81 results81 cg ⟨(VS.of (y:=(⟨aq,am⟩:Prt)) ⟨_,rfl,⟨_,_,_,_,_,_,rfl,bm.w1,cV.w1⟩⟩ (by exact Tk ‹_› (PX ‹_› AB))),C⟩
theorem CO (list:List Prt) (h1:RepS w F a1 n1 c1 list) (p0:list.length≤1000) (p1:∀ p∈list,Ck p):Calls Tryz.prog 79 [.slice a1 n1 c1].toArray w (BB fun rv w'=>VO 48 w.heap.size w' (list:List Prt) rv∧Ext w w'):=by
 refine goT func79 ?_
 obtain ⟨rfl,bC,h1⟩:=h1.tp
 refine .s<|.g<|.r 1<|.d<|.s<|.g<|.ns 0 48 [] fun aa aq ai ar aM aN=>?_
 have aO:=Ae ai (Nat.le_refl _)
 have aP:Cov nil w aa:=Bf ai (Nat.le_refl _)
 replace h1:=(sn [] ar ai).g1 h1
 have C:=ar
 have aQ:Own (α:=Prt) aq aa 48 (nin (ge w.heap.size) [aa]) 0 0 []:=Own.Aj aM
 refine .r 1<|.d<|.s<|.s<|.g<|.r 3<|.d<|.b 0<|T.loop (X:=(List Prt) × Nat × Nat × Nat × Nat) (([]:List Prt),aa,0,0,0) (fun (out,r_out,n_out,c_out,k)=>[(3,vS r_out n_out c_out),(7,.slice a1 list.length c1),(8,vI (list.length:Int)),(9,vI (k:Int))]) (fun (out,r_out,n_out,c_out,k) aA=>Chg (ins [aa]) aq aA∧Own aA r_out 48 (nin (ge w.heap.size) [r_out]) n_out c_out out∧OrB r_out aa aq.heap.size∧(k≤list.length)∧(out.length≤k)∧(out++list.drop k=list)) (fun (out,r_out,n_out,c_out,k)=>list.length - k) AA ⟨AA,AA,AA,AA,trivial⟩ ⟨Chg.refl _ _,aQ,BU,AB,AD,AF⟩ ?_
 rintro ⟨out,r_out,n_out,c_out,k⟩ bQ aA ⟨E,J,ab,bD,bE,bF⟩ au
 have aR:=Bz ab aO C.size
 have bG:=BA ab aP C.size
 have aS:Cov (ins [aa]) aq aa:=⟨.inl AI⟩
 have bH:=BA ab aS (Nat.le_refl _)
 have aB:Mv [aa] [r_out] aq aA:=Mv.inl E (all_cons AI all_nil) (all_cons (Bb ab AI) all_nil)
 replace ⟨h1,C⟩:=(sp aB E).g2 h1 C
 have bI:=J.len; have bJ:=J.max
 refine .s<|.g<|.bp ((k:Int)< (list.length:Int)) (fun aT=>?_) (fun aT=>.d<|.s<|.cf<|.x 0 rfl<|.s<|.g<|.r 2<|.d<|.rt func79 results79 (vS r_out n_out c_out) ⟨(VO.of J (by exact PX ‹_› AB) aR),C⟩)
 refine .d<|.s<|.ct<|.sk<|.s<|.b 1<|.s<|.g ?_
 have aU:k< list.length:=AB
 refine .ix k 2 h1 aU ?_
 obtain ⟨ac,av⟩:∃ y,list[k]? = some y:=⟨_,AU AB⟩
 have bK:=Ai av; have bn:=AV av
 obtain ⟨_,⟨bo,bR,bq,br,bS,bt,rfl,ag,ah⟩,aV⟩:=h1.elem k ac av
 have aW:=ag.len
 subst aW
 have aX:=ah.len
 subst aX
 refine .lg 0 aV<|.np 48 [AH,AH] fun aw bT ae aC aY aZ=>?_
 have bN:=AX ae J.lt
 have bO:=C.cn ae
 have bP:=E.cn ae
 replace ⟨J,ag,ah,C,E⟩:=(sn [r_out] aC ae).g5 J ag ah C E
 refine .sc [.slice bo ac.ids.length bq,.slice br ac.blocks.length bt] aY fun ba aD af bc=>?_
 replace ⟨J,ag,ah,C,E⟩:=(so [aw,r_out] aD).g5 J ag ah C E
 refine .d<|.g<|.r 1<|.ln af<|.cl (C9 ac ag.ta ah.ta (p1 _ ‹_›) (w:=ba) (F:=all)) ?_
 rintro bU bV ⟨⟨_,rfl,⟨bu,bW,bv,bw,bX,bz,rfl,al,am⟩⟩,aE⟩
 have ax:=al2 af.lt J.lt
 have aF:Gb w.heap.size ba.heap.size:=C.size
 replace ⟨J,af,C,E⟩:=(se [aw,r_out] aE).g4 J af C E
 have al:=al.fr ax aF
 have am:=am.fr ax aF
 have bd:=al.len
 subst bd
 have bg:=am.len
 subst bg
 refine .ns 1 48 [.slice bu ac.ids.length bv,.slice bw ac.blocks.length bz] fun bh bY aj aG bi bj=>?_
 have aH:=AX aj J.lt
 have bk:=AX aj af.lt
 have aJ:=Ae aj C.size
 replace ⟨J,al,am,C,E⟩:=(se [aw,r_out] aG).g5 J al am C E
 have ao:nin (ge w.heap.size) [aw,r_out] bh∧bh≠r_out:=BR aJ (all_cons bk (all_cons aH all_nil)) aH
 refine RG.Ax (T:=29) (ty:=29) (y:=ac) J bi AA AA ⟨_,_,_,_,_,_,rfl,al.oi,am.oi⟩ ao AB fun ay bm aI W ak az=>?_
 have aK:=CB ak ab E.size
 replace ⟨C,E⟩:=(s1 az).g2 C E
 replace W:=W.rn r_out
 refine .r 1<|.d<|.ib 1<|.g<|.it ((k:Int)+1)<|.r 1<|.d ?_
 have aL:Mv [aw,ay] [ay] aI aI:=Mv.less (all_cons AJ all_nil)
 replace W:=(sp aL (Chg.refl nil _)).g1 W
 exact au ((out++[ac]),ay,n_out+1,bm,k+1) _ _ ⟨AA,AA,AA,AA,trivial⟩ ⟨E,W,aK,AB,(by simp; omega),(by exact PY ‹_› ‹_›)⟩ (by (simp only []; omega))
theorem Dj (s:Sto) (id:Int) (h1:RepS w F a1 n1 c1 s.idx.names) (h2:RepS w F a2 n2 c2 s.idx.AY) (h3:RepS w F a3 n3 c3 s.parts) (h4:RepS w F a4 n4 c4 s.mem) (p0:∀ p∈s.parts,PrtI p∧Az p=true) (p1:∀ m∈s.mem,Bi m.row=true) (p2:s.parts.length≤1000) (p3:s.mem.length≤1000):Calls Tryz.prog 49 [.agg #[.slice a1 n1 c1,.slice a2 n2 c2,.slice a3 n3 c3,.slice a4 n4 c4],.int .i64 id].toArray w (BB fun rv w'=>VL (ge w.heap.size) w' (rowsOf s id:List Row) rv∧Ext w w'):=by
 refine goT func49 ?_
 obtain ⟨rfl,cS,h1⟩:=h1.tp
 obtain ⟨rfl,cT,h2⟩:=h2.tp
 obtain ⟨rfl,cU,h3⟩:=h3.tp
 obtain ⟨rfl,cV,h4⟩:=h4.tp
 refine .s<|.g<|.np 32 [.slice a1 s.idx.names.length c1,.slice a2 s.idx.AY.length c2,.slice a3 s.parts.length c3,.slice a4 s.mem.length c4] fun W dv bd aL E bN=>?_
 replace ⟨h3,h4⟩:=(sn [] aL bd).g2 h3 h4
 have C:=aL
 refine .r 1<|.d<|.s<|.g<|.ns 0 56 [] fun aM bc aE bg bO bP=>?_
 have cW:=AX aE E.lt
 have bQ:=Ae aE C.size
 replace ⟨h3,h4,E,C⟩:=(sn [W] bg aE).g4 h3 h4 E C
 have bR:Own (α:=Row) bc aM 56 (nin (ge w.heap.size) [aM,W]) 0 0 []:=Own.Aj bO
 refine .r 1<|.d<|.s<|.s<|.g<|.r 1<|.lb E<|.r 2<|.d<|.b 0 ?_
 have ck:=bR.sl bQ
 replace ⟨h3,h4⟩:=(sd bc [aM,W] aM).g2 h3 h4
 refine T.loop (X:=(List Row) × (Option Addr) × Nat × Nat × Nat) (([]:List Row),some ⟨aM,0,none⟩,0,0,0) (fun (out,a_out,n_out,c_out,k)=>[(1,vI id),(2,.pointer (some ⟨W,0,none⟩)),(5,.slice a_out n_out c_out),(14,.slice a3 s.parts.length c3),(15,vI (s.parts.length:Int)),(16,vI (k:Int))]) (fun (out,a_out,n_out,c_out,k) aI=>Chg (ins []) bc aI∧RepS aI (nin (ge w.heap.size) [W]) a_out n_out c_out out∧(k≤s.parts.length)∧(Blk out)∧((s.parts.drop k).foldl (CK id) out=s.parts.foldl (CK id) [])) (fun (out,a_out,n_out,c_out,k)=>s.parts.length - k) AA ⟨AA,AA,AA,AA,AA,AA,trivial⟩ ⟨Chg.refl _ _,ck,AB,AF,AF⟩ ?_
 rintro ⟨out,a_out,n_out,c_out,k⟩ dw aI ⟨ab,J,cX,cY,cZ⟩ aN
 have bh:Mv [W] [W] bc aI:=Mv.inl ab all_nil (all_cons (.inl AI) all_nil)
 replace ⟨h3,h4,E,C⟩:=(sp bh ab).g4 h3 h4 E C
 refine .s<|.g<|.bp ((k:Int)< (s.parts.length:Int)) (fun bS=>?_) (fun bS=>?_)
 ·refine .d<|.s<|.ct<|.sk<|.s<|.b 1<|.s<|.g ?_
  have bT:k< s.parts.length:=AB
  refine .ix k 2 h3 bT ?_
  obtain ⟨ai,aO⟩:∃ y,s.parts[k]? = some y:=⟨_,AU AB⟩
  have c9:=Ai aO; have cj:=AV aO
  obtain ⟨_,⟨cm,dx,co,cp,dy,cq,rfl,ax,ay⟩,bU⟩:=h3.elem k ai aO
  have bV:=ax.len
  subst bV
  have bW:=ay.len
  subst bW
  refine .lg 0 bU<|.np 48 [AH,AH] fun al dz av bi bX bY=>?_
  have de:=AX av E.lt
  have df:=C.cn av
  have dg:=ab.cn av
  replace ⟨h4,E,J,ax,ay,C,ab⟩:=(sn [W] bi av).g7 h4 E J ax ay C ab
  refine .sc [.slice cm ai.ids.length co,.slice cp ai.blocks.length cq] bX fun bZ bj ah b0=>?_
  replace ⟨h4,E,J,ax,ay,C,ab⟩:=(so [al,W] bj).g7 h4 E J ax ay C ab
  refine .d<|.s<|.g<|.ln ah<|.r 1<|.cl (Ew ai id ax.ta ay.ta (p0 _ ‹_›).1.sz (w:=bZ) (F:=all)) ?_
  rintro dA b6 ⟨⟨cr,cu,rfl,az⟩,bk⟩
  have bm:=al2 ah.lt E.lt
  have b7:Gb w.heap.size bZ.heap.size:=C.size
  replace ⟨h4,E,J,ah,C,ab⟩:=(se [al,W] bk).g6 h4 E J ah C ab
  have az:=az.fr bm b7
  have dh:=az.max
  refine .r 2<|.d<|.b 2<|T.loop (X:=(List Row) × (Option Addr) × Nat × Nat × Nat) ((out:List Row),a_out,n_out,c_out,0) (fun (ag,a_out1,n_out1,c_out1,k1)=>[(1,vI id),(2,.pointer (some ⟨W,0,none⟩)),(5,.slice a_out1 n_out1 c_out1),(14,.slice a3 s.parts.length c3),(15,vI (s.parts.length:Int)),(16,vI (k:Int)),(22,.slice cr ((BV ai id).length) cu),(23,vI (((BV ai id).length):Int)),(24,vI (k1:Int))]) (fun (ag,a_out1,n_out1,c_out1,k1) aJ=>Chg (ins []) b6 aJ∧RepS aJ (nin (ge w.heap.size) [al,W]) a_out1 n_out1 c_out1 ag∧(k1≤(BV ai id).length)∧(Blk ag)∧(((BV ai id).drop k1).foldl DR ag=CK id out ai)) (fun (ag,a_out1,n_out1,c_out1,k1)=>(BV ai id).length - k1) AA ⟨AA,AA,AA,AA,AA,AA,AA,AA,AA,trivial⟩ ⟨Chg.refl _ _,J,AB,‹_›,(by unfold BV CK; rw [if_pos (p0 _ ‹_›).2]; rfl)⟩ ?_
  rintro ⟨ag,a_out1,n_out1,c_out1,k1⟩ dj aJ ⟨af,ac,cw,cx,cy⟩ aK
  have aP:Mv [al,W] [al,W] b6 aJ:=Mv.inl af all_nil (all_cons (.inl AI) (all_cons (.inl AJ) all_nil))
  replace ⟨h4,E,J,ah,az,C,ab⟩:=(sp aP af).g7 h4 E J ah az C ab
  have cz:=ac.len; have cA:=ac.max
  refine .s<|.g<|.bp ((k1:Int)< (((BV ai id).length):Int)) (fun br=>?_) (fun br=>?_)
  ·refine .d<|.s<|.ct<|.sk<|.s<|.b 3<|.s<|.g ?_
   have bt:k1< (BV ai id).length:=AB
   refine .ix k1 2 az bt ?_
   obtain ⟨ao,aB⟩:∃ y,(BV ai id)[k1]? = some y:=⟨_,AU AB⟩
   have cB:=Ai aB; have b8:=AV aB
   obtain ⟨_,rfl,bu⟩:=az.elem k1 ao aB
   refine .lg 0 bu<|.np 56 [vI 0,vI 0] fun aQ dm aj aR bv bw=>?_
   have cC:=AX aj E.lt
   have cD:=AX aj ah.lt
   have cE:=C.cn aj
   have cF:=ab.cn aj
   have cG:=af.cn aj
   replace ⟨h4,E,J,ah,ac,C,ab,af⟩:=(sn [al,W] aR aj).g8 h4 E J ah ac C ab af
   refine .sc [vI ao.t,vI ao.v] bv fun bn aS aT bz=>?_
   replace ⟨h4,E,J,ah,ac,C,ab,af⟩:=(so [aQ,al,W] aS).g8 h4 E J ah ac C ab af
   refine .d<|.g<|.r 1<|.ln aT<|.cl (Gp ag ao ac.ta (by (have q1:=Blk.len (by assumption:Blk ag); omega)) (w:=bn) (F:=all)) ?_
   rintro dp bo ⟨⟨b9,cd,rfl,aq⟩,aU⟩
   have aV:=al3 aT.lt ah.lt E.lt
   have bA:Gb w.heap.size bn.heap.size:=C.size
   replace ⟨h4,E,J,ac,C,ab,af⟩:=(se [aQ,al,W] aU).g7 h4 E J ac C ab af
   have aq:=aq.fr aV bA
   refine .r 1<|.d<|.ib 3<|.g<|.it ((k1:Int)+1)<|.r 1<|.d ?_
   have bB:Mv [aQ,al,W] [al,W] bo bo:=Mv.less (all_cons AJ (all_cons AK all_nil))
   replace ⟨h4,J,ac,aq⟩:=(sp bB (Chg.refl nil _)).g4 h4 J ac aq
   exact aK (Cx ao ag,b9,(Cx ao ag).length,cd,k1+1) _ _ ⟨AA,AA,AA,AA,AA,AA,AA,AA,AA,trivial⟩ ⟨af,aq,AB,(by exact Blk.ins ‹_› (((p0 ai ‹_›).1.ofI id).rows _ ‹_›)),(by rw [← E7 ‹_›]; exact Ed ‹_› ‹_›)⟩ (by (simp only []; omega))
  refine .d<|.s<|.cf<|.x 2 rfl<|.ib 1<|.g<|.it ((k:Int)+1)<|.r 1<|.d ?_
  have bC:Mv [al,W] [W] aJ aJ:=Mv.less (all_cons AJ all_nil)
  replace ⟨h4,J,ac⟩:=(sp bC (Chg.refl nil _)).g3 h4 J ac
  exact aN (ag,a_out1,n_out1,c_out1,k+1) _ _ ⟨AA,AA,AA,AA,AA,AA,trivial⟩ ⟨ab,ac,AB,‹_›,(by have q1:=Em (by assumption:((BV ai id).drop k1).foldl DR ag=_) AB; have q2:=Ed (by assumption:(s.parts.drop k).foldl (CK id) out=_) ‹_›; rw [← q1] at q2; exact q2)⟩ (by (simp only []; omega))
 refine .d<|.s<|.cf<|.x 0 rfl<|.s<|.s<|.g<|.r 1<|.lb E<|.r 2<|.d<|.b 4<|T.loop (X:=(List Row) × (Option Addr) × Nat × Nat × Nat) ((out:List Row),a_out,n_out,c_out,0) (fun (out,a_out,n_out,c_out,k)=>[(1,vI id),(5,.slice a_out n_out c_out),(34,.slice a4 s.mem.length c4),(35,vI (s.mem.length:Int)),(36,vI (k:Int))]) (fun (out,a_out,n_out,c_out,k) aF=>Chg (ins []) aI aF∧RepS aF (nin (ge w.heap.size) [W]) a_out n_out c_out out∧(k≤s.mem.length)∧(Blk out)∧((s.mem.drop k).foldl (CV id) out=rowsOf s id)) (fun (out,a_out,n_out,c_out,k)=>s.mem.length - k) AA ⟨AA,AA,AA,AA,AA,trivial⟩ ⟨Chg.refl _ _,J,AB,‹_›,(by have q1:out=s.parts.foldl (CK id) []:=Em (by assumption:(s.parts.drop k).foldl (CK id) out=_) AB; rw [q1]; rfl)⟩ ?_
 rintro ⟨out,a_out,n_out,c_out,k⟩ dr aF ⟨ae,aa,cI,cJ,cK⟩ ar
 have aW:Mv [W] [W] aI aF:=Mv.inl ae all_nil (all_cons (.inl AI) all_nil)
 replace ⟨h4,E,C⟩:=(sp aW ae).g3 h4 E C
 have cL:=aa.len; have cM:=aa.max
 refine .s<|.g<|.bp ((k:Int)< (s.mem.length:Int)) (fun bD=>?_) (fun bD=>.d<|.s<|.cf<|.x 4 rfl<|.s<|.g<|.r 2<|.d<|.rt func49 results49 (.slice a_out n_out c_out) ⟨(aa.vl (by exact Em ‹_› AB) (fun _ _ h=>h.1)),C⟩)
 refine .d<|.s<|.ct<|.sk<|.s<|.b 5<|.s<|.g ?_
 have bE:k< s.mem.length:=AB
 refine .ix k 3 h4 bE ?_
 obtain ⟨ak,aC⟩:∃ y,s.mem[k]? = some y:=⟨_,AU AB⟩
 have cN:=Ai aC; have ce:=AV aC
 obtain ⟨_,rfl,bF⟩:=h4.elem k ak aC
 refine .lg 0 bF<|.np 85 [vI 0,vI 0,vI 0] fun aG dt am aX bG bH=>?_
 have cO:=AX am E.lt
 have cP:=C.cn am
 have cQ:=ae.cn am
 replace ⟨E,aa,C,ae⟩:=(sn [W] aX am).g4 E aa C ae
 refine .sc [vI ak.id,vI ak.row.t,vI ak.row.v] bG fun aH aY aD bI=>?_
 replace ⟨E,aa,C,ae⟩:=(so [aG,W] aY).g4 E aa C ae
 refine .d<|.s<|.g<|.r 1<|.lb aD<|.r 1<|.eq ak.id id (fun bJ=>?_) (fun bJ=>?_)
 ·refine .d<|.ct<|.g<|.r 2<|.ln aD<|.cl (Gp out ak.row aa.ta (by (have q1:=Blk.len (by assumption:Blk out); omega)) (w:=aH) (F:=all)) ?_
  rintro du bq ⟨⟨cg,ci,rfl,au⟩,aZ⟩
  have ba:=al2 aD.lt E.lt
  have bK:Gb w.heap.size aH.heap.size:=C.size
  replace ⟨aa,C,ae⟩:=(se [aG,W] aZ).g3 aa C ae
  have au:=au.fr ba bK
  refine .r 1<|.d<|.ib 5<|.g<|.it ((k:Int)+1)<|.r 1<|.d ?_
  have bL:Mv [aG,W] [W] bq bq:=Mv.less (all_cons AJ all_nil)
  replace ⟨aa,au⟩:=(sp bL (Chg.refl nil _)).g2 aa au
  exact ar (Cx ak.row out,cg,(Cx ak.row out).length,ci,k+1) _ _ ⟨AA,AA,AA,AA,AA,trivial⟩ ⟨ae,au,AB,(by exact Blk.ins ‹_› (p1 _ ‹_›)),(by have q1:=Ed (by assumption:(s.mem.drop k).foldl (CV id) out=_) ‹_›; (rw [KR ‹_› ‹_›] at q1; exact q1))⟩ (by (simp only []; omega))
 refine .d<|.cf<|.sk<|.ib 5<|.g<|.it ((k:Int)+1)<|.r 1<|.d ?_
 have bM:Mv [aG,W] [W] aH aH:=Mv.less (all_cons AJ all_nil)
 replace aa:=(sp bM (Chg.refl nil _)).g1 aa
 exact ar (out,a_out,n_out,c_out,k+1) _ _ ⟨AA,AA,AA,AA,AA,trivial⟩ ⟨ae,aa,AB,‹_›,(by have q1:=Ed (by assumption:(s.mem.drop k).foldl (CV id) out=_) ‹_›; (rw [Fy ‹_›] at q1; exact q1))⟩ (by (simp only []; omega))
end Go.Proofs.YtggnnidleedpaaaGreat
namespace Go.Proofs.YtggnnidleedpaaaGreat
def DI (n:List Tag):Nat→List (List Tag)→Int
 | _,[]=>-1
 | i,x::xs=>if x==n then (i:Int) else DI n (i+1) xs
def CQ (t:Tag):Nat→List Pst→Int
 | _,[]=>-1
 | i,x::xs=>if x.tag==t then (i:Int) else CQ t (i+1) xs
theorem RH (n:List Tag):∀ (xs:List (List Tag)) (i:Nat),-1≤DI n i xs∧DI n i xs+1≤(i:Int)+xs.length:=by
 intro xs
 induction xs with
 | nil=>intro i; simp [DI]
 | cons x xs ih =>
   intro i
   have:=ih (i+1)
   unfold DI
   simp only [List.length_cons]
   split <;> omega
def Gq (x y:Str):Int:=if By x y then -1 else if By y x then 1 else 0
def orF:List Int→Int
 | []=>0
 | x::xs=>if x≠0 then x else orF xs
def J1 (a b:Pst):Int:=orF [Gq a.tag.key b.tag.key,Gq a.tag.val b.tag.val]
theorem HE (x y:Str):EV x y = !By y x:=by
 have key:∀ (x y:Str),(Op.bytesLess x y || x==y) = !Op.bytesLess y x:=by
  intro x
  induction x with
  | nil=>intro y; cases y <;> simp [Op.bytesLess]
  | cons a x ih =>
    intro y
    cases y with
    | nil=>simp [Op.bytesLess]
    | cons b y =>
      show ((decide (a< b) || a==b&&Op.bytesLess x y) || (a::x)==(b::y)) = !(decide (b< a) || b==a&&Op.bytesLess y x)
      rcases Nat.lt_trichotomy a.toNat b.toNat with h | h | h
      ·have h1:a< b:=UInt8.lt_iff_toNat_lt.2 h
       have h2:¬ b< a:=fun h2=>by have:=UInt8.lt_iff_toNat_lt.1 h2; omega
       have h3:¬ b=a:=fun e=>by rw [e] at h; omega
       simp [h1,h2,h3]
      ·have h1:a=b:=UInt8.toNat_inj.1 h
       subst h1
       have h2:¬ a< a:=fun h2=>by have:=UInt8.lt_iff_toNat_lt.1 h2; omega
       have:=ih y
       simp only [h2,decide_false,beq_self_eq_true,Bool.true_and,Bool.false_or,List.cons_beq_cons]
       exact this
      ·have h1:b< a:=UInt8.lt_iff_toNat_lt.2 h
       have h2:¬ a< b:=fun h2=>by have:=UInt8.lt_iff_toNat_lt.1 h2; omega
       have h3:¬ a=b:=fun e=>by rw [e] at h; omega
       simp [h1,h2,h3]
 exact key x y
theorem RI {names:List (List Tag)}(h:(names.map text).Nodup):∀ (k:Nat) (x:List Tag),names[k]? = some x→DI x 0 names=k:=by
 have key:∀ (ns:List (List Tag)) (i k:Nat) (x:List Tag),(ns.map text).Nodup→ns[k]? = some x→DI x i ns=i+k:=by
  intro ns
  induction ns with
  | nil=>intro i k x _ h; simp at h
  | cons y ys ih =>
    intro i k x hn hx
    rw [List.map_cons,List.nodup_cons] at hn
    unfold DI
    cases k with
    | zero =>
      simp at hx
      subst hx
      simp
    | succ k =>
      rw [List.getElem?_cons_succ] at hx
      have hne:¬ (y==x)=true:=fun e=>hn.1 (by rw [eq_of_beq e]; exact List.mem_map_of_mem (AV hx))
      rw [if_neg hne,ih (i+1) k x hn.2 hx]
      omega
 intro k x hx
 have:=key names 0 k x h hx
 omega
theorem RJ {names:List (List Tag)}{k:Nat}{x:List Tag}(h:NmI names) (hx:names[k]? = some x) (h2:BC x=false∨DI x 0 names+1≠(k:Int)+1):False:=by
 rcases h2 with h2 | h2
 ·rw [h.ok x (AV hx)] at h2; cases h2
 ·rw [RI h.nodup k x hx] at h2; omega
theorem RK {a b:Pst}(h:(a.tag==b.tag)=true):(a.ids==b.ids)=(a==b):=by
 rw [Bool.eq_iff_iff,beq_iff_eq,beq_iff_eq,EX]
 exact ⟨fun h1=>⟨eq_of_beq h,h1⟩,fun h1=>h1.2⟩
theorem RL {a b:Pst}(h:(a.tag==b.tag)=false):false=(a==b):=by
 symm
 rw [beq_eq_false_iff_ne]
 rintro rfl
 simp at h
end Go.Proofs.YtggnnidleedpaaaGreat
namespace Go.Proofs.YtggnnidleedpaaaGreat
set_option maxRecDepth 100000
set_option maxHeartbeats 4000000
variable {w:World} {F:Nat→Prop} {a1 a2:Option Addr} {n1 c1 n2 c2:Nat}
theorem HF (x:List Tag) (n:List Tag) (h1:RepS w F a1 n1 c1 x){bq_n:Nat}{a2:Option Addr}{c2:Nat}(hb_n:Box w bq_n 43 [.slice a2 n.length c2]) (h2:RepS w F a2 n.length c2 n)  : Calls Tryz.prog 165 [.slice a1 n1 c1,.pointer (some ⟨bq_n,0,none⟩)].toArray w (BB fun rv w'=>rv=.bool ((x==n))∧Ext w w'):=by
 refine goT func165 ?_
 obtain ⟨rfl,J,h1⟩:=h1.tp
 replace h2:=h2.top (s:=w.heap.size)
 refine .s<|.g<|.r 1<|.d<|.s<|.g<|.r 1<|.lb hb_n<|.cl (Cc x n h1.ta h2.ta (w:=w) (F:=all)) ?_
 rintro aa ab ⟨rfl,C⟩
 replace hb_n:=(se [] C).g1 hb_n
 have E:=C
 exact .r 1<|.d<|.rt func165 results165 (.bool (x==n)) ⟨(AG (by simp_all)),E⟩
theorem HG (s:List (List Tag)) (n:List Tag) (h1:RepS w F a1 n1 c1 s){bq_n:Nat}{a2:Option Addr}{c2:Nat}(hb_n:Box w bq_n 43 [.slice a2 n.length c2]) (h2:RepS w F a2 n.length c2 n)  : Calls Tryz.prog 164 [.slice a1 n1 c1,.func (.func 165) #[] #[.pointer (some ⟨bq_n,0,none⟩)]].toArray w (BB fun rv w'=>rv=.int .i64 (DI n 0 s)∧Ext w w'):=by
 refine goT func164 ?_
 obtain ⟨rfl,al,h1⟩:=h1.tp
 replace h2:=h2.top (s:=w.heap.size)
 refine .s<|.g<|.r 1<|.d<|.s<|.s<|.g<|.r 3<|.d<|.b 0<|T.loop (X:=Nat) 0 (fun k=>[(0,.slice a1 s.length c1),(1,.func (.func 165) #[] #[.pointer (some ⟨bq_n,0,none⟩)]),(7,vI (s.length:Int)),(8,vI (k:Int))]) (fun k J=>Chg (ins []) w J∧(k≤s.length)∧(DI n k (s.drop k)=DI n 0 s)) (fun k=>s.length - k) AA ⟨AA,AA,AA,AA,trivial⟩ ⟨Chg.refl _ _,AD,AD⟩ ?_
 rintro k aw J ⟨C,ao,aq⟩ W
 have ab:Mv [] [] w J:=Mv.inl C all_nil all_nil
 replace ⟨h1,h2,hb_n⟩:=(sp ab C).g3 h1 h2 hb_n
 have E:Chg nil w J:=Chg.Cr (Chg.refl nil w) C all_nil
 refine .s<|.g<|.bp ((k:Int)< (s.length:Int)) (fun ag=>?_) (fun ag=>.d<|.s<|.cf<|.x 0 rfl<|.s<|.g<|.r 1<|.d<|.rt func164 results164 (vI (-1)) ⟨(congrArg (Value.int .i64) (by grind [DI,Ab])),E⟩)
 refine .d<|.s<|.ct<|.sk<|.s<|.b 1<|.s<|.g<|.r 2<|.d<|.s<|.g<|.r 3 ?_
 have ah:k< s.length:=AB
 refine .ix k 1 h1 ah ?_
 obtain ⟨ae,aa⟩:∃ y,s[k]? = some y:=⟨_,AU AB⟩
 have ar:=Ai aa
 obtain ⟨_,⟨ax,ay,az,rfl,af⟩,ai⟩:=h1.elem k ae aa
 have aj:=af.len
 subst aj
 refine .lh 0 ai<|.cl (HF ae n af.ta hb_n h2.ta (w:=J) (F:=all)) ?_
 rintro aA aB ⟨rfl,ac⟩
 replace ⟨hb_n,E,C⟩:=(se [] ac).g3 hb_n E C
 cases av:(ae==n)
 ·exact .d<|.cf<|.sk<|.ib 1<|.g<|.it ((k:Int)+1)<|.r 1<|.d<|W (k+1) _ _ ⟨AA,AA,AA,AA,trivial⟩ ⟨C,AB,(by grind [DI])⟩ AB
 exact .d<|.ct<|.s<|.g<|.r 2<|.d<|.rt func164 results164 (vI (k:Int)) ⟨(congrArg (Value.int .i64) (by grind [DI,Ab])),E⟩
theorem FY (names:List (List Tag)) (n:List Tag) (h1:RepS w F a1 n1 c1 names) (h2:RepS w F a2 n2 c2 n)  : Calls Tryz.prog 139 [.slice a1 n1 c1,.slice a2 n2 c2].toArray w (BB fun rv w'=>rv=.int .i64 ((DI n 0 names+1))∧Ext w w'):=by
 refine goT func139 ?_
 obtain ⟨rfl,ae,h1⟩:=h1.tp
 obtain ⟨rfl,af,h2⟩:=h2.tp
 refine .s<|.g<|.np 43 [.slice a2 n.length c2] fun ag ac J C aa ab=>?_
 replace ⟨h1,h2⟩:=(sn [] C J).g2 h1 h2
 have E:=C
 refine .r 1<|.d<|.s<|.g<|.r 2<|.cl (HG names n h1.ta aa h2.ta (w:=ac) (F:=all)) ?_
 rintro ah ai ⟨rfl,W⟩
 replace E:=(se [] W).g1 E
 exact RG.int (DI n 0 names+1) AA (by have:=RH n names 0; omega)<|.r 1<|.d<|.rt func139 results139 (vI (DI n 0 names+1)) ⟨(congrArg (Value.int .i64) AF),E⟩
theorem Hr (p:Pst) (t:Tag) (h1:RepS w F a1 n1 c1 p.ids){bq_t:Nat}(hb_t:Box w bq_t 67 [.string (bs t.key),.string (bs t.val)])  : Calls Tryz.prog 121 [.agg #[.string (bs p.tag.key),.string (bs p.tag.val),.slice a1 n1 c1],.pointer (some ⟨bq_t,0,none⟩)].toArray w (BB fun rv w'=>rv=.bool ((p.tag==t))∧Ext w w'):=by
 refine goT func121 ?_
 obtain ⟨rfl,ab,h1⟩:=h1.tp
 refine .s<|.g<|.np 117 [vT p.tag.key,vT p.tag.val,.slice a1 p.ids.length c1] fun ac ae E C J W=>?_
 replace hb_t:=(se [] C).g1 hb_t
 have aa:=C
 exact .r 1<|.d<|.s<|.g<|.r 1<|.ln J<|.ln hb_t<|RG.NU (t:=67) (x:=p.tag) (y:=t) AA AA<|.r 1<|.d<|.rt func121 results121 (.bool (p.tag==t)) ⟨(AG (by simp_all)),aa⟩
theorem HH (s:List Pst) (t:Tag) (h1:RepS w F a1 n1 c1 s){bq_t:Nat}(hb_t:Box w bq_t 67 [.string (bs t.key),.string (bs t.val)])  : Calls Tryz.prog 120 [.slice a1 n1 c1,.func (.func 121) #[] #[.pointer (some ⟨bq_t,0,none⟩)]].toArray w (BB fun rv w'=>rv=.int .i64 (CQ t 0 s)∧Ext w w'):=by
 refine goT func120 ?_
 obtain ⟨rfl,al,h1⟩:=h1.tp
 refine .s<|.g<|.r 1<|.d<|.s<|.s<|.g<|.r 3<|.d<|.b 0<|T.loop (X:=Nat) 0 (fun k=>[(0,.slice a1 s.length c1),(1,.func (.func 121) #[] #[.pointer (some ⟨bq_t,0,none⟩)]),(7,vI (s.length:Int)),(8,vI (k:Int))]) (fun k J=>Chg (ins []) w J∧(k≤s.length)∧(CQ t k (s.drop k)=CQ t 0 s)) (fun k=>s.length - k) AA ⟨AA,AA,AA,AA,trivial⟩ ⟨Chg.refl _ _,AD,AD⟩ ?_
 rintro k av J ⟨C,am,ao⟩ W
 have ab:Mv [] [] w J:=Mv.inl C all_nil all_nil
 replace ⟨h1,hb_t⟩:=(sp ab C).g2 h1 hb_t
 have E:Chg nil w J:=Chg.Cr (Chg.refl nil w) C all_nil
 refine .s<|.g<|.bp ((k:Int)< (s.length:Int)) (fun ag=>?_) (fun ag=>.d<|.s<|.cf<|.x 0 rfl<|.s<|.g<|.r 1<|.d<|.rt func120 results120 (vI (-1)) ⟨(congrArg (Value.int .i64) (by grind [CQ,Ab])),E⟩)
 refine .d<|.s<|.ct<|.sk<|.s<|.b 1<|.s<|.g<|.r 2<|.d<|.s<|.g<|.r 3 ?_
 have ah:k< s.length:=AB
 refine .ix k 3 h1 ah ?_
 obtain ⟨ae,aa⟩:∃ y,s[k]? = some y:=⟨_,AU AB⟩
 have aq:=Ai aa
 obtain ⟨_,⟨aw,ax,ay,rfl,af⟩,ai⟩:=h1.elem k ae aa
 have aj:=af.len
 subst aj
 refine .lg 0 ai<|.cl (Hr ae t af.ta hb_t (w:=J) (F:=all)) ?_
 rintro az aA ⟨rfl,ac⟩
 replace ⟨hb_t,E,C⟩:=(se [] ac).g3 hb_t E C
 cases au:(ae.tag==t)
 ·exact .d<|.cf<|.sk<|.ib 1<|.g<|.it ((k:Int)+1)<|.r 1<|.d<|W (k+1) _ _ ⟨AA,AA,AA,AA,trivial⟩ ⟨C,AB,(by grind [CQ])⟩ AB
 exact .d<|.ct<|.s<|.g<|.r 2<|.d<|.rt func120 results120 (vI (k:Int)) ⟨(congrArg (Value.int .i64) (by grind [CQ,Ab])),E⟩
theorem Ee (x:Str){F:Nat→Prop}   : Calls Tryz.prog 154 [.string (bs x)].toArray w (BB fun rv w'=>rv=.bool (false)∧Ext w w'):=by
 exact goT func154<|.s<|.g<|.r 1<|.d<|.s<|.g<|.r 2<|RG.eqv (v:=.bool (!(x==x))) AA (UL x x)<|.r 1<|.d<|.rt func154 results154 (.bool (!(x==x))) ⟨(AG AD),(Chg.refl _ _)⟩
theorem EA (x:Str) (y:Str){F:Nat→Prop}   : Calls Tryz.prog 125 [.string (bs x),.string (bs y)].toArray w (BB fun rv w'=>rv=.int .i64 (Gq x y)∧Ext w w'):=by
 refine goT func125<|.s<|.g<|.r 1<|.d<|.s<|.g<|.r 1<|.cl (Ee x (w:=w) (F:=all)) ?_
 rintro ac W ⟨rfl,E⟩
 have C:=E
 refine .r 1<|.d<|.s<|.g<|.r 1<|.cl (Ee y (w:=W) (F:=all)) ?_
 rintro ae af ⟨rfl,J⟩
 replace C:=(se [] J).g1 C
 refine .r 1<|.d<|.s<|.s<|.g<|.r 1<|.d<|.cf<|.sk<|.s<|.s<|.g<|.r 1<|.d<|.cf<|.sk<|.s<|.s<|.g<|.r 2<|RG.eqv (v:=.bool ((By x y))) AA (UM x y) ?_
 cases aa:(By x y)
 ·refine .d<|.cf<|.sk<|.s<|.s<|.g<|.r 2<|RG.eqv (v:=.bool (!(EV x y))) AA (UN x y) ?_
  cases ab:(EV x y)
  ·exact .d<|.ct<|.s<|.g<|.r 1<|.d<|.rt func125 results125 (vI 1) ⟨(congrArg (Value.int .i64) (by grind [Gq,HE])),C⟩
  exact .d<|.cf<|.sk<|.s<|.g<|.r 1<|.d<|.rt func125 results125 (vI 0) ⟨(congrArg (Value.int .i64) (by grind [Gq,HE])),C⟩
 exact .d<|.ct<|.s<|.g<|.r 1<|.d<|.rt func125 results125 (vI (-1)) ⟨(congrArg (Value.int .i64) (by grind [Gq,HE])),C⟩
theorem LC (vals:List Int) (h1:RepS w F a1 n1 c1 vals)  : Calls Tryz.prog 124 [.slice a1 n1 c1].toArray w (BB fun rv w'=>rv=.int .i64 (orF vals)∧Ext w w'):=by
 refine goT func124 ?_
 obtain ⟨rfl,aj,h1⟩:=h1.tp
 refine .s<|.g<|.r 1<|.d<|.s<|.g<|.r 1<|.d<|.s<|.s<|.g<|.r 3<|.d<|.b 0<|T.loop (X:=Nat) 0 (fun k=>[(3,vI 0),(6,.slice a1 vals.length c1),(7,vI (vals.length:Int)),(8,vI (k:Int))]) (fun k W=>Chg (ins []) w W∧(k≤vals.length)∧(orF (vals.drop k)=orF vals)) (fun k=>vals.length - k) AA ⟨AA,AA,AA,AA,trivial⟩ ⟨Chg.refl _ _,AD,AD⟩ ?_
 rintro k ao W ⟨C,ak,al⟩ E
 have aa:Mv [] [] w W:=Mv.inl C all_nil all_nil
 replace h1:=(sp aa C).g1 h1
 have ab:Chg nil w W:=Chg.Cr (Chg.refl nil w) C all_nil
 refine .s<|.g<|.bp ((k:Int)< (vals.length:Int)) (fun ae=>?_) (fun ae=>.d<|.s<|.cf<|.x 0 rfl<|.s<|.g<|.r 2<|.d<|.rt func124 results124 (vI 0) ⟨(congrArg (Value.int .i64) (by grind [orF,Ab])),ab⟩)
 refine .d<|.s<|.ct<|.sk<|.s<|.b 1<|.s<|.g ?_
 have af:k< vals.length:=AB
 refine .ix k 1 h1 af ?_
 obtain ⟨ac,J⟩:∃ y,vals[k]? = some y:=⟨_,AU AB⟩
 have am:=Ai J
 obtain ⟨_,rfl,ag⟩:=h1.elem k ac J
 exact .lh 0 ag<|.r 1<|.d<|.s<|.g<|.r 2<|.ne ac 0 (fun ah=>.d<|.ct<|.s<|.g<|.r 2<|.d<|.rt func124 results124 (vI ac) ⟨(congrArg (Value.int .i64) (by grind [orF,Ab])),ab⟩) fun ah=>.d<|.cf<|.sk<|.ib 1<|.g<|.it ((k:Int)+1)<|.r 1<|.d<|E (k+1) _ _ ⟨AA,AA,AA,AA,trivial⟩ ⟨C,AB,(by grind [orF])⟩ AB
theorem Hs (a:Pst) (b_:Pst) (h1:RepS w F a1 n1 c1 a.ids) (h2:RepS w F a2 n2 c2 b_.ids)  : Calls Tryz.prog 123 [.agg #[.string (bs a.tag.key),.string (bs a.tag.val),.slice a1 n1 c1],.agg #[.string (bs b_.tag.key),.string (bs b_.tag.val),.slice a2 n2 c2]].toArray w (BB fun rv w'=>rv=.int .i64 (J1 a b_)∧Ext w w'):=by
 refine goT func123 ?_
 obtain ⟨rfl,az,h1⟩:=h1.tp
 obtain ⟨rfl,aA,h2⟩:=h2.tp
 refine .s<|.g<|.np 117 [vT a.tag.key,vT a.tag.val,.slice a1 a.ids.length c1] fun av aC ah W E ai=>?_
 have C:=W
 refine .np 117 [vT b_.tag.key,vT b_.tag.val,.slice a2 b_.ids.length c2] fun aw aD aj aa J ak=>?_
 replace ⟨E,C⟩:=(se [] aa).g2 E C
 refine .r 1<|.d<|.s<|.gd nil 13 fun aE ab=>?_
 replace ⟨E,J,C⟩:=(se [] ab).g3 E J C
 refine .r [0,1]<|.lb 2 E id<|.r [3,4]<|.lb 5 J id<|GA.Dt (i:=6) AA (fun ax aB=>EA a.tag.key b_.tag.key (w:=ax) (F:=all))<|.r [7,8]<|.lb 9 E id<|.r [10,11]<|.lb 12 J id<|.d fun ay ac=>?_
 replace C:=(se [] ac).g1 C
 refine .cl (EA a.tag.val b_.tag.val (w:=ay) (F:=all)) ?_
 rintro aF aG ⟨rfl,ae⟩
 replace C:=(se [] ae).g1 C
 refine .ns 2 3 [vI (Gq a.tag.key b_.tag.key),vI (Gq a.tag.val b_.tag.val)] fun al am ao af aq ar=>?_
 replace C:=(se [] af).g1 C
 have au:Own (α:=Int) am al 3 (nin (ge w.heap.size) [al,aw,av]) 2 2 [Gq a.tag.key b_.tag.key,Gq a.tag.val b_.tag.val]:=Own.lit aq rfl AE ⟨rfl,rfl,rfl⟩
 refine .cl (LC ([Gq a.tag.key b_.tag.key,Gq a.tag.val b_.tag.val]:List Int) (au.rep) (w:=am) (F:=all)) ?_
 rintro aH aI ⟨rfl,ag⟩
 replace C:=(se [] ag).g1 C
 exact .r 1<|.d<|.rt func123 results123 (vI (orF ([Gq a.tag.key b_.tag.key,Gq a.tag.val b_.tag.val]:List Int))) ⟨(congrArg (Value.int .i64) AF),C⟩
theorem Ht (a:Pst) (b_:Pst) (h1:RepS w F a1 n1 c1 a.ids) (h2:RepS w F a2 n2 c2 b_.ids)  : Calls Tryz.prog 131 [.agg #[.string (bs a.tag.key),.string (bs a.tag.val),.slice a1 n1 c1],.agg #[.string (bs b_.tag.key),.string (bs b_.tag.val),.slice a2 n2 c2]].toArray w (BB fun rv w'=>rv=.bool ((a==b_))∧Ext w w'):=by
 refine goT func131 ?_
 obtain ⟨rfl,aj,h1⟩:=h1.tp
 obtain ⟨rfl,ak,h2⟩:=h2.tp
 refine .s<|.g<|.np 117 [vT a.tag.key,vT a.tag.val,.slice a1 a.ids.length c1] fun ah am W J E af=>?_
 replace ⟨h1,h2⟩:=(sn [] J W).g2 h1 h2
 have C:=J
 refine .np 117 [vT b_.tag.key,vT b_.tag.val,.slice a2 b_.ids.length c2] fun ao ai aa ab ac ag=>?_
 replace ⟨h1,h2,E,C⟩:=(sn [ah] ab aa).g4 h1 h2 E C
 refine .r 1<|.d<|.s<|.g<|.r 1<|.ln E<|.r 1<|.ln ac<|RG.NU (t:=67) (x:=a.tag) (y:=b_.tag) AA AA ?_
 cases al:(a.tag==b_.tag)
 ·exact .r 8<|.d<|.rt func131 results131 (.bool false) ⟨(AG (by exact RL ‹_›)),C⟩
 refine .r 2<|.lb E<|.r 1<|.lb ac<|.cl (De a.ids b_.ids h1.ta h2.ta (w:=ai) (F:=all)) ?_
 rintro aq ar ⟨rfl,ae⟩
 replace C:=(se [] ae).g1 C
 exact .r 2<|.d<|.rt func131 results131 (.bool (a.ids==b_.ids)) ⟨(AG (by exact RK ‹_›)),C⟩
theorem HI (s1:List Pst) (s2:List Pst) (h1:RepS w F a1 n1 c1 s1) (h2:RepS w F a2 n2 c2 s2)  : Calls Tryz.prog 130 [.slice a1 n1 c1,.slice a2 n2 c2,.func (.func 131) #[] #[]].toArray w (BB fun rv w'=>rv=.bool ((s1==s2))∧Ext w w'):=by
 refine goT func130 ?_
 obtain ⟨rfl,aS,h1⟩:=h1.tp
 obtain ⟨rfl,aT,h2⟩:=h2.tp
 refine .s<|.g<|.r 1<|.d<|.s<|.s<|.g<|.r 4<|.ne (s1.length:Int) (s2.length:Int) (fun av=>.d<|.ct<|.s<|.g<|.r 1<|.d<|.rt func130 results130 (.bool false) ⟨(AG (by grind [Ab])),(Chg.refl _ _)⟩) fun av=>.d<|.cf<|.sk<|.s<|.s<|.g<|.r 3<|.d<|.b 0<|T.loop (X:=Nat) 0 (fun k=>[(1,.slice a2 s2.length c2),(2,.func (.func 131) #[] #[]),(15,.slice a1 s1.length c1),(16,vI (s1.length:Int)),(17,vI (k:Int))]) (fun k aj=>Chg (ins []) w aj∧(k≤s1.length)∧(s1.drop k=s2.drop k↔s1=s2)) (fun k=>s1.length - k) AA ⟨AA,AA,AA,AA,AA,trivial⟩ ⟨Chg.refl _ _,AD,AD⟩ ?_
 rintro k bj aj ⟨C,aU,aV⟩ ag
 have ak:Mv [] [] w aj:=Mv.inl C all_nil all_nil
 replace ⟨h1,h2⟩:=(sp ak C).g2 h1 h2
 have E:Chg nil w aj:=Chg.Cr (Chg.refl nil w) C all_nil
 refine .s<|.g<|.bp ((k:Int)< (s1.length:Int)) (fun aw=>?_) (fun aw=>.d<|.s<|.cf<|.x 0 rfl<|.s<|.g<|.r 1<|.d<|.rt func130 results130 (.bool true) ⟨(AG (by grind [Ab])),E⟩)
 refine .d<|.s<|.ct<|.sk<|.s<|.b 1<|.s<|.g<|.r 1 ?_
 have ax:k< s1.length:=AB
 refine .ix k 3 h1 ax ?_
 obtain ⟨ae,ah⟩:∃ y,s1[k]? = some y:=⟨_,AU AB⟩
 have aW:=Ai ah
 obtain ⟨_,⟨aM,bk,aN,rfl,J⟩,ay⟩:=h1.elem k ae ah
 have az:=J.len
 subst az
 refine .lg 0 ay<|.np 117 [.string (bs []),.string (bs []),AH] fun au bm ac al aA aB=>?_
 have aY:=E.cn ac
 have aZ:=C.cn ac
 replace ⟨h2,J,E,C⟩:=(sn [] al ac).g4 h2 J E C
 refine .r 1<|.sc [vT ae.tag.key,vT ae.tag.val,.slice aM ae.ids.length aN] aA fun bn am W aC=>?_
 replace ⟨h2,J,E,C⟩:=(so [au] am).g4 h2 J E C
 refine .d<|.s<|.g<|.r 2 ?_
 have aD:k< s2.length:=AB
 refine .ix k 3 h2 aD ?_
 obtain ⟨af,ai⟩:∃ y,s2[k]? = some y:=⟨_,AU AB⟩
 have ba:=Ai ai
 obtain ⟨_,⟨aO,bo,aP,rfl,ab⟩,aE⟩:=h2.elem k af ai
 have aF:=ab.len
 subst aF
 refine .lg 0 aE<|.np 117 [.string (bs []),.string (bs []),AH] fun aQ bq aa ao aG aH=>?_
 have bd:=AX aa W.lt
 have bg:=E.cn aa
 have bh:=C.cn aa
 replace ⟨J,W,ab,E,C⟩:=(sn [au] ao aa).g5 J W ab E C
 refine .sc [vT af.tag.key,vT af.tag.val,.slice aO af.ids.length aP] aG fun aR aq aI aJ=>?_
 replace ⟨J,W,ab,E,C⟩:=(so [aQ,au] aq).g5 J W ab E C
 refine .d<|.s<|.g<|.r 1<|.ln W<|.ln aI<|.cl (Ht ae af J.ta ab.ta (w:=aR) (F:=all)) ?_
 rintro br bt ⟨rfl,ar⟩
 replace ⟨E,C⟩:=(se [] ar).g2 E C
 cases bi:(ae==af)
 ·exact .r 1<|.d<|.ct<|.s<|.g<|.r 1<|.d<|.rt func130 results130 (.bool false) ⟨(AG (by grind [Ab])),E⟩
 exact .r 1<|.d<|.cf<|.sk<|.ib 1<|.g<|.it ((k:Int)+1)<|.r 1<|.d<|ag (k+1) _ _ ⟨AA,AA,AA,AA,AA,trivial⟩ ⟨C,AB,(by grind)⟩ AB
end Go.Proofs.YtggnnidleedpaaaGreat
namespace Go.Proofs.YtggnnidleedpaaaGreat
theorem RM {α:Type}(xs:List α) (x y:α):(xs++[x]).set xs.length y=xs++[y]:=by simp
theorem RN {α:Type}(xs:List α) (x:α):(xs++[x])[xs.length]? = some x:=by simp
structure RP where
 key:Str
 val:Str
 a:Option Addr
 n:Nat
 c:Nat
instance:Rep RP where
 sz:=3
 rep _ _ x cs:=cs=[.string (bs x.key),.string (bs x.val),.slice x.a x.n x.c]
 len:=by rintro w F x cs rfl; rfl
 pos:=by decide
 flat:=by rintro w F x cs rfl v hv; simp at hv; rcases hv with rfl | rfl | rfl <;> rfl
 frame:=by rintro w w' F F' x cs rfl _; rfl
theorem Iy:Flat RP:=fun _ _ _ _ _ _ h=>h
def J2 (tI:TypeId) (w:World) (y:RP) (ri:Nat) (ids:List Int):Prop :=
 (y.a=none∧y.n=0∧y.c=0∧ids=[])∨(y.a=some ⟨ri,0,none⟩∧Own w ri tI all y.n y.c ids)
structure IX (tX tP tI s0 s1:Nat) (G:Nat→Prop) (w:World) (b3 r c:Nat) (an:Option Addr) (nn cn:Nat) (nms:List (List Tag)) (ys:List RP) (xs:List Pst) (rs:List Nat):Prop where
 hs:s0≤s1
 hG:∀ b,G b→b< s1
 nm:RepS w G an nn cn nms
 box:Box w b3 tX [.slice an nn cn,.slice (some ⟨r,0,none⟩) ys.length c]
 own:Own w r tP all ys.length c ys
 nd:(b3::r::rs).Nodup
 new:∀ b∈b3::r::rs,s1≤b
 lt:∀ b∈b3::r::rs,b< w.heap.size
 lx:ys.length=xs.length
 lr:rs.length=xs.length
 el:∀ (i:Nat) (x:Pst) (y:RP) (ri:Nat),xs[i]? = some x→ys[i]? = some y→rs[i]? = some ri→y.key=x.tag.key∧y.val=x.tag.val∧J2 tI w y ri x.ids
section
variable {tX tP tI s0 s1:Nat} {w w' w2 w3:World} {b3 r c:Nat} {an:Option Addr} {nn cn:Nat} {nms:List (List Tag)} {ys:List RP} {xs:List Pst} {rs:List Nat} {S G:Nat→Prop}
theorem J2.chg {y:RP}{ri:Nat}{ids:List Int}(h:J2 tI w y ri ids) (hx:Chg S w w') (hr:¬ S ri):J2 tI w' y ri ids:=by
 rcases h with h | ⟨h1,h2⟩
 ·exact .inl h
 ·refine .inr ⟨h1,?_⟩
  have:=(h2.flat BS (F':=fun _=>False)).chg hx hr (fun b hb _=>hb.elim)
  exact this.flat BS
theorem PZ {α:Type}[Rep α] {r t n c:Nat}{xs:List α}(hf:Flat α) (h:Own w r t all n c xs) (hx:Chg S w w') (hr:¬ S r):Own w' r t all n c xs :=
 ((h.flat hf (F':=fun _=>False)).chg hx hr (fun b hb _=>hb.elim)).flat hf
theorem IX.chg (h:IX tX tP tI s0 s1 G w b3 r c an nn cn nms ys xs rs) (hx:Chg S w w') (hS:∀ b∈b3::r::rs,¬ S b) (h1:∀ b,b< s1→¬ S b):IX tX tP tI s0 s1 G w' b3 r c an nn cn nms ys xs rs :=
 ⟨h.hs,h.hG,h.nm.chg hx (fun b hb=>h1 b (h.hG b hb)),h.box.chg hx (hS _ AD),PZ Iy h.own hx (hS _ AD),h.nd,h.new,fun b hb=>Nat.lt_of_lt_of_le (h.lt b hb) hx.size,h.lx,h.lr,
  fun i x y ri h2 h3 h4=>by
   obtain ⟨g1,g2,g3⟩:=h.el i x y ri h2 h3 h4
   exact ⟨g1,g2,g3.chg hx (hS _ (by simp [AV h4]))⟩⟩
theorem IX.ext (h:IX tX tP tI s0 s1 G w b3 r c an nn cn nms ys xs rs) (hx:Ext w w'):IX tX tP tI s0 s1 G w' b3 r c an nn cn nms ys xs rs:=h.chg hx (fun _ _ h=>h) (fun _ _ h=>h)
theorem IX.one {b:Nat}(h:IX tX tP tI s0 s1 G w b3 r c an nn cn nms ys xs rs) (hx:Chg (Go.Proofs.YtggnnidleedpaaaGreat.one b) w w') (hb:∀ q∈b3::r::rs,Nb b q) (h1:s1≤b):IX tX tP tI s0 s1 G w' b3 r c an nn cn nms ys xs rs :=
 h.chg hx (fun q hq e=>(hb q hq).ne (by unfold Go.Proofs.YtggnnidleedpaaaGreat.one at e; exact e.symm)) (fun q hq e=>by unfold Go.Proofs.YtggnnidleedpaaaGreat.one at e; omega)
theorem IX.rep (h:IX tX tP tI s0 s1 G w b3 r c an nn cn nms ys xs rs):RepS w all (some ⟨r,0,none⟩) ys.length c xs:=by
 have h0:=h.own.rep
 refine ⟨h.lx,h0.le,h0.cap,h0.addr,h0.inF,fun i x hi=>?_⟩
 obtain ⟨hl,_⟩:=List.getElem?_eq_some_iff.1 hi
 have hy:ys[i]? = some (ys[i]'(by rw [h.lx]; exact hl)):=AU _
 have hr:rs[i]? = some (rs[i]'(by rw [h.lr]; exact hl)):=AU _
 obtain ⟨cs,g1,g2⟩:=h0.elem i _ hy
 obtain ⟨e1,e2,e3⟩:=h.el i x _ _ hi hy hr
 cases g1
 refine ⟨_,?_,g2⟩
 rw [e1,e2]
 rcases e3 with ⟨a1,a2,a3,a4⟩ | ⟨a1,a2⟩
 ·rw [a1,a2,a3]
  refine ⟨none,0,0,rfl,?_⟩
  rw [a4]
  exact RepS.Aj _ _ none 0 AE
 ·rw [a1]
  exact ⟨_,_,_,rfl,a2.rep⟩
theorem IX.done (h:IX tX tP tI s0 s1 G w b3 r c an nn cn nms ys xs rs):Own w r tP (nin (ge s1) [b3,r]) ys.length c xs:=by
 refine ⟨h.lx,h.own.le,h.own.cap,h.own.row,fun i x hi=>?_⟩
 obtain ⟨hl,_⟩:=List.getElem?_eq_some_iff.1 hi
 have hy:ys[i]? = some (ys[i]'(by rw [h.lx]; exact hl)):=AU _
 have hr:rs[i]? = some (rs[i]'(by rw [h.lr]; exact hl)):=AU _
 obtain ⟨cs,g1,g2⟩:=h.own.elem i _ hy
 obtain ⟨e1,e2,e3⟩:=h.el i x _ _ hi hy hr
 cases g1
 refine ⟨_,?_,g2⟩
 rw [e1,e2]
 have hm:=AV hr
 have hnd:=h.nd
 simp only [List.nodup_cons,List.mem_cons,not_or] at hnd
 have hge:=h.new (rs[i]'(by rw [h.lr]; exact hl)) (by simp [hm])
 rcases e3 with ⟨a1,a2,a3,a4⟩ | ⟨a1,a2⟩
 ·rw [a1,a2,a3]
  refine ⟨none,0,0,rfl,?_⟩
  rw [a4]
  exact RepS.Aj _ _ none 0 AE
 ·rw [a1]
  refine ⟨_,_,_,rfl,(a2.flat BS (F':=fun _=>False)).O0 (fun _ _ hf=>hf.elim) ⟨⟨?_,?_⟩,?_⟩⟩
  ·show s1≤_
   omega
  ·simp only [List.mem_cons,List.not_mem_nil,or_false,not_or]
   exact ⟨fun e=>hnd.1.2 (e▸hm),fun e=>hnd.2.1 (e▸hm)⟩
  ·exact fun e=>hnd.2.1 (e▸hm)
theorem IX.names (h:IX tX tP tI s0 s1 G w b3 r c an nn cn nms ys xs rs):RepS w (nin G [b3,r]) an nn cn nms:=h.nm.CE fun b _ hb=>⟨hb,by
 simp only [List.mem_cons,List.not_mem_nil,or_false,not_or]
 have h1:=h.new b3 AD
 have h2:=h.new r AD
 have h3:=h.hG b hb
 exact ⟨by omega,by omega⟩⟩
def GN (s0 s1 b2 b:Nat):Prop:=s0≤b∧b< s1∧b≠b2
theorem GN.lt {s0 s1 b2:Nat}:∀ b,GN s0 s1 b2 b→b< s1:=fun _ h=>h.2.1
theorem RepS.UR {α:Type}[Rep α] {w:World}{s0 b2 n c:Nat}{o:Option Addr}{xs:List α}(h:RepS w (nin (ge s0) [b2]) o n c xs):RepS w (GN s0 w.heap.size b2) o n c xs:=h.CE fun b hb hF=>⟨hF.1,hb,fun e=>hF.2 (by simp [e])⟩
theorem RepS.low {α:Type}[Rep α] {w w':World}{F:Nat→Prop}{s1 b n c:Nat}{o:Option Addr}{xs:List α}(h:RepS w (ltG F s1) o n c xs) (hx:Chg (Go.Proofs.YtggnnidleedpaaaGreat.one b) w w') (hb:s1≤b):RepS w' (ltG F s1) o n c xs :=
 h.chg hx (fun k hk e=>by unfold Go.Proofs.YtggnnidleedpaaaGreat.one at e; have:=hk.2; omega)
variable {w:World} {F:Nat→Prop}
theorem RepS.Tl {α:Type}[Rep α] {n c:Nat}{o:Option Addr}{xs:List α}(h:RepS w F o n c xs):RepS w (ltG all w.heap.size) o n c xs:=h.CE fun _ hb _=>⟨trivial,hb⟩
theorem IX.US {tX tP tI s0 s1:Nat}{w:World}{b3 r:Nat}{an:Option Addr}{nn cn:Nat}{nms:List (List Tag)}{G:Nat→Prop}{F:Nat→Prop}(hs:s0≤s1) (hG:∀ b,G b→b< s1) (hn:RepS w G an nn cn nms) (hb:Box w b3 tX [.slice an nn cn,.slice (some ⟨r,0,none⟩) 0 0])
 (ho:Own w r tP F 0 0 ([]:List Pst)) (hne:Nb b3 r) (h3:s1≤b3) (hr:s1≤r):IX tX tP tI s0 s1 G w b3 r 0 an nn cn nms [] [] [] :=
 ⟨hs,hG,hn,hb,⟨rfl,Nat.le_refl _,by decide,ho.row,fun i x hi=>by simp at hi⟩,by simp; exact hne.ne,fun b hb'=>by simp at hb'; rcases hb' with rfl | rfl <;> assumption,
  fun b hb'=>by simp at hb'; rcases hb' with rfl | rfl; exact hb.lt; exact ho.lt,rfl,rfl,fun i x y ri hi=>by simp at hi⟩
theorem Cov.ge {w:World}{b:Nat}(h:Cov nil w b):w.heap.size≤b:=h.or.resolve_left (fun h=>h)
section
variable {tX tP tI s0 s1:Nat} {w w':World} {b3 b2 r c:Nat} {an:Option Addr} {nn cn:Nat} {nms:List (List Tag)} {ys:List RP} {xs:List Pst} {rs:List Nat} {G:Nat→Prop}
theorem IX.Tm (h:IX tX tP tI s0 s1 G w b3 r c an nn cn nms ys xs rs) (hb:b2< s1):Own w r tP (nin (ge s0) [b3,r,b2]) ys.length c xs:=h.done.CE fun b _ hF=>⟨Nat.le_trans h.hs hF.1,by
 have h1:s1≤b:=hF.1
 have h2:=hF.2
 simp only [List.mem_cons,List.not_mem_nil,or_false,not_or] at h2 ⊢
 exact ⟨h2.1,h2.2,by omega⟩⟩
theorem IX.Sl (h:IX tX tP tI s0 s1 (GN s0 s1 b2) w b3 r c an nn cn nms ys xs rs):RepS w (nin (ge s0) [b3,r,b2]) an nn cn nms:=h.names.CE fun b _ hF=>⟨hF.1.1,by
 have h2:=hF.2
 simp only [List.mem_cons,List.not_mem_nil,or_false,not_or] at h2 ⊢
 exact ⟨h2.1,h2.2,hF.1.2.2⟩⟩
theorem IX.ne (h:IX tX tP tI s0 s1 G w b3 r c an nn cn nms ys xs rs):Nb b3 r:=by
 have:=h.nd
 simp only [List.nodup_cons,List.mem_cons,not_or] at this
 exact ⟨this.1.1⟩
theorem IX.ne3 {i ri:Nat}(h:IX tX tP tI s0 s1 G w b3 r c an nn cn nms ys xs rs) (hr:rs[i]? = some ri):Nb b3 ri:=by
 have:=h.nd
 simp only [List.nodup_cons,List.mem_cons,not_or] at this
 exact ⟨fun e=>this.1.2 (e▸AV hr)⟩
theorem IX.ner {i ri:Nat}(h:IX tX tP tI s0 s1 G w b3 r c an nn cn nms ys xs rs) (hr:rs[i]? = some ri):Nb r ri:=by
 have:=h.nd
 simp only [List.nodup_cons,List.mem_cons,not_or] at this
 exact ⟨fun e=>this.2.1 (e▸AV hr)⟩
theorem IX.mi {i ri:Nat}(hr:rs[i]? = some ri):ri∈b3::r::rs:=by simp [AV hr]
theorem RepS.via {α:Type}[Rep α] {wc wa wb:World}{n c':Nat}{o:Option Addr}{zs:List α}(h:RepS wa (ltG all wc.heap.size) o n c' zs) (ha:Ext wc wa) (hb:Ext wc wb):RepS wb (ltG all wc.heap.size) o n c' zs :=
 h.frame fun b _ hF=>⟨hF,by rw [hb.block hF.2,ha.block hF.2]⟩
theorem Sm {xs:List Pst}{t:Tag}{m:Nat}{x:Pst}{z:Int}(hx:(xs++[⟨t,[]⟩])[m]? = some x) (hm:m=xs.length):(xs++[(⟨t,[]⟩:Pst)]).set m ⟨x.tag,x.ids++[z]⟩=xs++[⟨t,[z]⟩]:=by
 subst hm
 rw [RN] at hx
 cases hx
 rw [RM]
 rfl
theorem J2.n {y:RP}{ri:Nat}{ids:List Int}(h:J2 tI w y ri ids):y.n=ids.length:=by
 rcases h with ⟨_,h2,_,h4⟩ | ⟨_,h2⟩
 ·rw [h2,h4]; rfl
 ·exact h2.len
end
def Gr (k:Int) (xs:List Pst) (t:Tag):List Pst :=
 if CQ t 0 xs< 0 then xs++[⟨t,[k]⟩] else match xs[(CQ t 0 xs).toNat]? with
  | some x=>xs.set (CQ t 0 xs).toNat ⟨x.tag,x.ids++[k]⟩
  | none=>xs
def HJ:Nat→List Pst→List (List Tag)→List Pst
 | _,xs,[]=>xs
 | i,xs,n::ns=>HJ (i+1) (n.foldl (Gr ((i:Int)+1)) xs) ns
theorem KS (t:Tag):∀ (xs:List Pst) (i:Nat),(CQ t i xs = -1∧∀ x∈xs,x.tag≠t)∨((i:Int)≤CQ t i xs∧CQ t i xs< (i:Int)+xs.length∧∃ x,xs[(CQ t i xs).toNat - i]? = some x∧x.tag=t):=by
 intro xs
 induction xs with
 | nil=>intro i; left; simp [CQ]
 | cons x xs ih =>
   intro i
   unfold CQ
   by_cases hx:(x.tag==t)=true
   ·right
    rw [if_pos hx]
    exact ⟨by omega,by simp only [List.length_cons]; omega,x,by simp,eq_of_beq hx⟩
   ·rw [if_neg hx]
    rcases ih (i+1) with ⟨h1,h2⟩ | ⟨h1,h2,y,h3,h4⟩
    ·left
     refine ⟨h1,fun z hz=>?_⟩
     rcases List.mem_cons.1 hz with rfl | hz
     ·exact fun e=>hx (by simp [e])
     ·exact h2 z hz
    ·right
     refine ⟨by omega,by simp only [List.length_cons]; omega,y,?_,h4⟩
     rw [show (CQ t (i+1) xs).toNat - i=((CQ t (i+1) xs).toNat - (i+1))+1 by omega,List.getElem?_cons_succ]
     exact h3
theorem RO {t:Tag}{xs:List Pst}(h:¬ CQ t 0 xs< 0):(CQ t 0 xs).toNat< xs.length:=by
 rcases KS t xs 0 with ⟨h1,_⟩ | ⟨_,h2,_⟩
 ·omega
 ·omega
theorem Lu {k:Int}{xs:List Pst}{t:Tag}(h:CQ t 0 xs< 0):Gr k xs t=xs++[⟨t,[k]⟩]:=by unfold Gr; rw [if_pos h]
theorem Lv {k:Int}{xs:List Pst}{t:Tag}{x:Pst}(h:¬ CQ t 0 xs< 0) (hx:xs[(CQ t 0 xs).toNat]? = some x):Gr k xs t=xs.set (CQ t 0 xs).toNat ⟨x.tag,x.ids++[k]⟩:=by unfold Gr; rw [if_neg h,hx]
theorem Lw (k:Int) (xs:List Pst) (t:Tag) (m:Nat) (h1:xs.length≤m) (h2:∀ x∈xs,x.ids.length≤m):(Gr k xs t).length≤m+1∧∀ x∈Gr k xs t,x.ids.length≤m+1:=by
 unfold Gr
 split
 ·refine ⟨by simp; omega,fun x hx=>?_⟩
  rcases List.mem_append.1 hx with hx | hx
  ·have:=h2 x hx; omega
  ·simp at hx; subst hx; simp
 ·split
  ·rename_i x hx
   refine ⟨by simp; omega,fun z hz=>?_⟩
   rcases List.mem_or_eq_of_mem_set hz with hz | rfl
   ·have:=h2 z hz; omega
   ·have:=h2 x (AV hx); simp; omega
  ·exact ⟨by omega,fun x hx=>by have:=h2 x hx; omega⟩
theorem RQ {i:Nat}{xs ys:List Pst}{ns:List (List Tag)}{n:List Tag}{Y:List Pst}(h:HJ i xs (ns.drop i)=Y) (hd:ns.drop i=n::ns.drop (i+1)) (hy:ys=n.foldl (Gr ((i:Int)+1)) xs):HJ (i+1) ys (ns.drop (i+1))=Y:=by
 rw [hd] at h
 subst hy
 exact h
theorem Sn {i:Nat}{xs:List Pst}{ns:List (List Tag)}{Y:List Pst}(h:HJ i xs (ns.drop i)=Y) (hi:ns.length≤i):xs=Y:=by
 rw [Ab hi] at h
 exact h
theorem IX.push {r2 c2 vb:Nat}{t:Tag}(h:IX tX tP tI s0 s1 G w b3 r c an nn cn nms ys xs rs) (hs1:s1≤w.heap.size) (hx:Chg (Go.Proofs.YtggnnidleedpaaaGreat.one r) w w2) (ho:Own w2 r2 tP all (ys.length+1) c2 (ys++[⟨t.key,t.val,none,0,0⟩]))
 (hor:r2=r∨r2=w.heap.size) (hv:∀ q∈b3::r::rs,Nb vb q) (hv1:s1≤vb) (hv2:vb< w.heap.size) (hx3:Chg (Go.Proofs.YtggnnidleedpaaaGreat.one b3) w2 w3)
 (hb:Box w3 b3 tX [.slice an nn cn,.slice (some ⟨r2,0,none⟩) (ys.length+1) c2]) :
 IX tX tP tI s0 s1 G w3 b3 r2 c2 an nn cn nms (ys++[⟨t.key,t.val,none,0,0⟩]) (xs++[⟨t,[]⟩]) (rs++[vb]):=by
 have hnd:=h.nd
 simp only [List.nodup_cons,List.mem_cons,not_or] at hnd
 obtain ⟨⟨n1,n2⟩,n3,n4⟩:=hnd
 have hb3:=h.lt b3 AD
 have hrr:=h.lt r AD
 have hrs:∀ q∈rs,q< w.heap.size∧q≠b3∧q≠r∧q≠vb:=fun q hq=>⟨h.lt q (by simp [hq]),fun e=>n2 (e▸hq),fun e=>n3 (e▸hq),fun e=>(hv q (by simp [hq])).ne e.symm⟩
 have hvb3:=(hv b3 AD).ne
 have hvr:=(hv r AD).ne
 have e3:b3≠r2:=by rcases hor with rfl | rfl <;> omega
 have e4:∀ q∈rs,q≠r2:=fun q hq=>by have:=hrs q hq; rcases hor with rfl | rfl <;> omega
 have e5:vb≠r2:=by rcases hor with rfl | rfl; exact hvr; omega
 have hnew3:=h.new b3 AD
 have hnewr:=h.new r AD
 have z2:=hx.size
 have z3:=hx3.size
 refine ⟨h.hs,h.hG,(h.nm.chg hx (fun b hb e=>by unfold Go.Proofs.YtggnnidleedpaaaGreat.one at e; have:=h.hG b hb; omega)).chg hx3 (fun b hb e=>by unfold Go.Proofs.YtggnnidleedpaaaGreat.one at e; have:=h.hG b hb; omega),
  by simpa using hb,by simpa using PZ Iy ho hx3 (fun e=>e3 e.symm),?_,?_,?_,by simp [h.lx],by simp [h.lr],?_⟩
 ·simp only [List.nodup_cons,List.mem_cons,List.mem_append,List.not_mem_nil,or_false,not_or,List.nodup_append,List.nodup_nil]
  exact ⟨⟨e3,n2,fun e=>hvb3 e.symm⟩,⟨fun hm=>e4 _ hm rfl,fun e=>e5 e.symm⟩,n4,by simp,fun a ha b hb=>by subst hb; exact (hrs a ha).2.2.2⟩
 ·intro b hb
  simp only [List.mem_cons,List.mem_append,List.not_mem_nil,or_false] at hb
  rcases hb with rfl | rfl | hb | rfl
  ·exact hnew3
  ·rcases hor with rfl | rfl
   ·exact hnewr
   ·exact hs1
  ·exact h.new b (by simp [hb])
  ·exact hv1
 ·intro b hb
  simp only [List.mem_cons,List.mem_append,List.not_mem_nil,or_false] at hb
  rcases hb with rfl | rfl | hb | rfl
  ·omega
  ·have:=ho.lt; omega
  ·have:=(hrs b hb).1; omega
  ·omega
 ·intro i x y ri g1 g2 g3
  rw [List.getElem?_append] at g1 g2 g3
  have l1:=h.lx
  have l2:=h.lr
  by_cases hi:i< xs.length
  ·rw [if_pos hi] at g1
   rw [if_pos AB] at g2
   rw [if_pos AB] at g3
   obtain ⟨a1,a2,a3⟩:=h.el i x y ri g1 g2 g3
   have hq:=hrs ri (AV g3)
   exact ⟨a1,a2,(a3.chg hx (fun e=>hq.2.2.1 e)).chg hx3 (fun e=>hq.2.1 e)⟩
  ·rw [if_neg hi] at g1
   rw [if_neg AB] at g2
   rw [if_neg AB] at g3
   have h0:i - xs.length=0:=by
    rcases hk:i - xs.length with _ | k
    ·rfl
    ·rw [hk] at g1; simp at g1
   rw [h0] at g1
   rw [show i - ys.length=0 by omega] at g2
   simp at g1 g2
   subst g1 g2
   exact ⟨rfl,rfl,.inl ⟨rfl,rfl,rfl,rfl⟩⟩
theorem J2.app {P:Program}{T ty:TypeId}{y:RP}{ri vb:Nat}{ids:List Int}{z:Int}(h:J2 tI w y ri ids) (hT:G1 P T tI 1=true) (hB:Box w vb tI [.int .i64 z]) (hv:vb≠ri) (hl:y.n≤1000) :
 ∃ r2 c2 w', (Builtin.append_ #[T, T] ty #[.slice y.a y.n y.c, .slice (some ⟨vb, 0, none⟩) 1 1]).run P w = .ok (.slice (some ⟨r2, 0, none⟩) (y.n + 1) c2) w' ∧
   Own w' r2 tI all (y.n+1) c2 (ids++[z])∧(r2=ri∨r2=w.heap.size)∧Chg (Go.Proofs.YtggnnidleedpaaaGreat.one ri) w w':=by
 rcases h with ⟨a1,a2,a3,a4⟩ | ⟨a1,a2⟩
 ·obtain ⟨g1,inf,z0,hinf,hsz,hby,hz,hzs⟩:=EQ hT
  rw [a1,a2,a3,a4]
  have hBx:=hB
  unfold Box at hBx
  have hnews:∀ j v,[Value.int .i64 z][j]? = some v→w.cell? ((⟨vb,0,none⟩:Addr).add j)=some v:=fun j v hj=>by
   rw [add_lit]
   simp only [World.cell?,hBx]
   simpa using hj
  have hr:=run_append_nil (P:=P) (w:=w) T ty tI inf z0 g1 hinf hz ⟨vb,0,none⟩ 1 1 [.int .i64 z] (by rw [hsz]; rfl) hnews AB AB AB
  generalize hg:grownCap w 1 0 tI=gc at hr
  have hge:1≤gc:=by rw [← hg]; exact grownCap_ge _ _ _ _
  have hgm:gc≤maxLen:=by rw [← hg]; exact grownCap_le_maxLen _ _ _ _ (by unfold maxLen; omega)
  generalize hob:(([Value.int .i64 z]:List Value).toArray++Builtin.zeroCells z0.cells (gc - 1))=ob at hr
  have hnew:(w.drew.alloc (.cells ob tI)).heap[w.heap.size]? = some (.cells ob tI (0,0)):=heap_alloc_new w.drew _
  have hoth:∀ k,k< w.heap.size→(w.drew.alloc (.cells ob tI)).heap[k]? = w.heap[k]? := fun k hk=>heap_alloc_old w.drew _ k hk
  refine ⟨w.heap.size,gc,w.drew.alloc (.cells ob tI),by simpa using hr,⟨rfl,hge,hgm,⟨ob,hnew,?_⟩,fun i x hi=>⟨_,rfl,?_⟩⟩,.inr rfl,⟨rfl,rfl,rfl,by simp,fun k hk _=>hoth k hk⟩⟩
  ·rw [← hob]
   simp only [Array.size_append,List.size_toArray,List.length_cons,List.length_nil,size_zeroCells,hzs]
   show _=gc * 1
   omega
  ·cases i with
   | succ i=>simp at hi
   | zero =>
     simp at hi
     subst hi
     intro k u hu
     cases k with
     | succ k=>simp at hu
     | zero =>
       simp at hu
       subst hu
       rw [add_lit]
       simp only [World.cell?,hnew]
       rw [← hob]
       rw [Array.getElem?_append_left AD]
       rfl
 ·rw [a1]
  obtain ⟨r2,c2,w',h1,h2,h3,h4,_⟩:=a2.Ax (P:=P) (T:=T) (ty:=ty) (y:=z) hT hB rfl ⟨trivial,hv⟩ AB
  exact ⟨r2,c2,w',h1,h2,h3,h4⟩
theorem IX.upd {i r2 c2 ri:Nat}{x:Pst}{y y':RP}{z:Int}(h:IX tX tP tI s0 s1 G w b3 r c an nn cn nms ys xs rs) (hs1:s1≤w.heap.size) (hxi:xs[i]? = some x) (hyi:ys[i]? = some y) (hri:rs[i]? = some ri)
 (hx:Chg (Go.Proofs.YtggnnidleedpaaaGreat.one ri) w w2) (ho2:Own w2 r2 tI all (y.n+1) c2 (x.ids++[z])) (hor:r2=ri∨r2=w.heap.size) (hx3:Chg (Go.Proofs.YtggnnidleedpaaaGreat.one r) w2 w3)
 (hy':y'=⟨y.key,y.val,some ⟨r2,0,none⟩,y.n+1,c2⟩) (ho:Own w3 r tP all ys.length c (ys.set i y')) :
 IX tX tP tI s0 s1 G w3 b3 r c an nn cn nms (ys.set i y') (xs.set i ⟨x.tag,x.ids++[z]⟩) (rs.set i r2):=by
 have hnd:=h.nd
 simp only [List.nodup_cons,List.mem_cons,not_or] at hnd
 obtain ⟨⟨n1,n2⟩,n3,n4⟩:=hnd
 have hrm:=AV hri
 have hri2:ri≠b3∧ri≠r:=⟨fun e=>n2 (e▸hrm),fun e=>n3 (e▸hrm)⟩
 have hb3:=h.lt b3 AD
 have hrr:=h.lt r AD
 have hril:=h.lt ri (by simp [hrm])
 have e3:r2≠b3∧r2≠r:=by rcases hor with rfl | rfl; exact hri2; omega
 have z2:=hx.size
 have z3:=hx3.size
 have n3i:=h.new ri (by simp [hrm])
 have nr:=h.new r AD
 obtain ⟨hil,hie⟩:=List.getElem?_eq_some_iff.1 hri
 have hset:∀ q,q∈rs.set i r2→q=r2∨(q∈rs∧q≠ri):=by
  intro q hq
  obtain ⟨k,hk,hkq⟩:=List.mem_iff_getElem.1 hq
  rw [List.getElem_set] at hkq
  split at hkq
  ·exact .inl hkq.symm
  ·rename_i hne
   right
   have hk2:k< rs.length:=by simpa using hk
   refine ⟨hkq▸List.getElem_mem _,fun e=>hne ?_⟩
   have:=(List.getElem_inj (h₀:=hil) (h₁:=hk2) n4).1 (by rw [hie,hkq,e])
   exact this
 refine ⟨h.hs,h.hG,(h.nm.chg hx (fun b hb e=>by unfold Go.Proofs.YtggnnidleedpaaaGreat.one at e; have:=h.hG b hb; omega)).chg hx3 (fun b hb e=>by unfold Go.Proofs.YtggnnidleedpaaaGreat.one at e; have:=h.hG b hb; omega),
  by rw [List.length_set]; exact (h.box.chg hx (fun e=>hri2.1 e.symm)).chg hx3 (fun e=>n1 e),by rw [List.length_set]; exact ho,?_,?_,?_,by simp [h.lx],by simp [h.lr],?_⟩
 ·simp only [List.nodup_cons,List.mem_cons,not_or]
  refine ⟨⟨n1,fun hm=>?_⟩,fun hm=>?_,?_⟩
  ·rcases hset b3 hm with e | ⟨e,_⟩
   ·exact e3.1 e.symm
   ·exact n2 e
  ·rcases hset r hm with e | ⟨e,_⟩
   ·exact e3.2 e.symm
   ·exact n3 e
  ·rcases hor with rfl | hor
   ·rw [← hie,List.set_getElem_self]; exact n4
   ·rw [List.nodup_iff_pairwise_ne,List.pairwise_iff_getElem]
    intro p q hp hq hpq
    rw [List.getElem_set,List.getElem_set]
    have hp2:p< rs.length:=by simpa using hp
    have hq2:q< rs.length:=by simpa using hq
    have hnew:∀ k (hk:k< rs.length),rs[k]≠r2:=fun k hk e=>by have:=h.lt rs[k] AD; omega
    split
    ·split
     ·omega
     ·exact fun e=>hnew q hq2 e.symm
    ·split
     ·exact hnew p hp2
     ·intro e
      have:=(List.getElem_inj (h₀:=hp2) (h₁:=hq2) n4).1 e
      omega
 ·intro b hb
  simp only [List.mem_cons] at hb
  rcases hb with rfl | rfl | hb
  ·exact h.new _ AD
  ·exact nr
  ·rcases hset b hb with rfl | ⟨hb,_⟩
   ·rcases hor with rfl | rfl
    ·exact n3i
    ·exact hs1
   ·exact h.new b (by simp [hb])
 ·intro b hb
  simp only [List.mem_cons] at hb
  rcases hb with rfl | rfl | hb
  ·omega
  ·omega
  ·rcases hset b hb with rfl | ⟨hb,_⟩
   ·have:=ho2.lt; omega
   ·have:=h.lt b (by simp [hb]); omega
 ·intro j x1 y1 r1 g1 g2 g3
  rw [List.getElem?_set] at g1 g2 g3
  have l1:=h.lx
  have l2:=h.lr
  by_cases hj:i=j
  ·subst hj
   rw [if_pos rfl,if_pos AB] at g1 g2 g3
   cases g1; cases g2; cases g3
   obtain ⟨a1,a2,_⟩:=h.el i x y ri hxi hyi hri
   subst hy'
   exact ⟨a1,a2,.inr ⟨rfl,PZ BS ho2 hx3 (fun e=>e3.2 e)⟩⟩
  ·rw [if_neg hj] at g1 g2 g3
   obtain ⟨a1,a2,a3⟩:=h.el j x1 y1 r1 g1 g2 g3
   have hne:r1≠ri:=fun e=>hj (by
    obtain ⟨hj1,hj2⟩:=List.getElem?_eq_some_iff.1 g3
    exact (List.getElem_inj (h₀:=hil) (h₁:=hj1) n4).1 (by rw [hie,hj2,e]))
   have hm1:=AV g3
   exact ⟨a1,a2,(a3.chg hx (fun e=>hne e)).chg hx3 (fun e=>n3 (e▸hm1))⟩
end
end Go.Proofs.YtggnnidleedpaaaGreat
