/- A row put into a row: slices of rows whose cells are told, copies, zeros. No conditions. -/
import Derived.Test.YtcginoabkicdiaaGreatDzzW2
import Derived.Lib.Overlaps
import Derived.Lib.AppendZerosOnto
open Go.Proofs.Tryz
set_option linter.unusedVariables false
set_option linter.unusedSimpArgs false
namespace Go.Proofs.YtcginoabkicdiaaGreat
def BM (xs:List Row):List Value:=xs.flatMap (fun x=>[.int .i64 x.t,.int .i64 x.v])
theorem Ds (xs:List Row):(BM xs).length=xs.length * 2:=by
 induction xs with
 | nil=>rfl
 | cons x xs ih=>simp only [BM,List.flatMap_cons,List.length_append,List.length_cons,List.length_nil] at *; omega
theorem Qf (xs ys:List Row):BM (xs++ys)=BM xs++BM ys:=by simp [BM]
theorem L4 (xs:List Row):∀ v∈BM xs,Cy v=true:=by
 intro v hv
 simp only [BM,List.mem_flatMap] at hv
 obtain ⟨x,_,hv⟩:=hv
 simp at hv
 rcases hv with rfl | rfl <;> rfl
theorem PQ (xs:List Row) (i:Nat):BM (xs.take i)=(BM xs).take (i * 2):=by
 induction xs generalizing i with
 | nil=>simp [BM]
 | cons x xs ih =>
   cases i with
   | zero=>simp [BM]
   | succ i =>
     rw [List.take_succ_cons,show (i+1) * 2=i * 2+1+1 by omega]
     have:=ih i
     simp only [BM,List.flatMap_cons] at *
     rw [this]
     simp
theorem Ka (xs:List Row) (i:Nat):BM (xs.drop i)=(BM xs).drop (i * 2):=by
 induction xs generalizing i with
 | nil=>simp [BM]
 | cons x xs ih =>
   cases i with
   | zero=>simp [BM]
   | succ i =>
     rw [List.drop_succ_cons,show (i+1) * 2=i * 2+1+1 by omega]
     have:=ih i
     simp only [BM,List.flatMap_cons] at *
     rw [this]
     simp
theorem Ni {xs:List Row}{i:Nat}{x:Row}(h:xs[i]? = some x):(BM xs)[i * 2]? = some (.int .i64 x.t)∧(BM xs)[i * 2+1]? = some (.int .i64 x.v):=by
 have hd:=Ab h
 have h1:=Ka xs i
 rw [hd] at h1
 have h2:(BM xs).drop (i * 2)=.int .i64 x.t :: .int .i64 x.v::BM (xs.drop (i+1)):=h1.symm
 constructor
 ·have:=congrArg (fun l=>l[0]?) h2
  simpa [List.getElem?_drop] using this
 ·have:=congrArg (fun l=>l[1]?) h2
  simpa [List.getElem?_drop] using this
section
variable {w:World} {r n c:Nat} {t:TypeId} {F:Nat→Prop} {xs:List Row}
theorem Own.box (h:Own w r t F n c xs):∃ cs,Box w r t cs∧cs.length=c * 2∧cs.take (n * 2)=BM xs∧n≤c∧c≤maxLen:=by
 obtain ⟨cur,h1,h2⟩:=h.row
 have hz:Rep.sz Row=2:=rfl
 rw [hz] at h2
 refine ⟨cur.toList,by unfold Box; simpa using h1,by simpa using h2,?_,h.le,h.cap⟩
 have hn:=h.len
 have hnc:=h.le
 apply List.ext_getElem?
 intro k
 rw [List.getElem?_take]
 by_cases hk:k< n * 2
 ·rw [if_pos hk]
  have hi:k / 2< xs.length:=by omega
  obtain ⟨cs,g1,g2⟩:=h.elem (k / 2) xs[k / 2] (AU hi)
  cases g1
  obtain ⟨e1,e2⟩:=Ni (AU hi)
  rcases Nat.mod_two_eq_zero_or_one k with h0 | h0
  ·have hk2:k=k / 2 * 2:=by omega
   have g3:=g2 0 _ rfl
   rw [hk2,e1]
   simp only [add_lit,World.cell?,h1,hz] at g3
   simpa using g3
  ·have hk2:k=k / 2 * 2+1:=by omega
   have g3:=g2 1 _ rfl
   rw [hk2,e2]
   simp only [add_lit,World.cell?,h1,hz] at g3
   simpa using g3
 ·rw [if_neg hk,List.getElem?_eq_none (by rw [Ds]; omega)]
theorem Own.XK {cs:List Value}(h:Box w r t cs) (hl:cs.length=c * 2) (hx:cs.take (xs.length * 2)=BM xs) (hn:xs.length≤c) (hc:c≤maxLen):Own w r t F xs.length c xs:=by
 refine ⟨rfl,hn,hc,⟨cs.toArray,h,by rw [show Rep.sz Row=2 from rfl]; simpa using hl⟩,fun i x hi=>⟨_,rfl,fun k u hu=>?_⟩⟩
 obtain ⟨e1,e2⟩:=Ni hi
 have hil:i< xs.length:=(List.getElem?_eq_some_iff.1 hi).1
 have hcs:∀ j,j< xs.length * 2→cs[j]? = (BM xs)[j]? := fun j hj=>by rw [← hx,List.getElem?_take,if_pos hj]
 have hcell:∀ j v,cs[j]? = some v→w.cell? ⟨r,j,none⟩=some v:=fun j v hv=>by
  unfold Box at h
  simp only [World.cell?,h]
  simpa using hv
 rw [add_lit]
 match k,hu with
 | 0,hu=>cases hu; exact hcell _ _ (by rw [hcs _ (by show i * 2+0< _; omega)]; exact e1)
 | 1,hu=>cases hu; exact hcell _ _ (by rw [hcs _ (by show i * 2+1< _; omega)]; exact e2)
 | k+2,hu=>simp at hu
end
section
variable {P:Program} {n:Nat} {K:Env→World→Prop} {ops:Array Oper} {j:Nat} {e:Env} {w:World}
theorem RG.pB {t:TypeId}{sz:Nat}{a:Option Addr}{len cap:Nat}{lo hi:Option Value}(l h':Nat) (h:Db n ops j e=some (t,.slice a len cap,lo,hi)) (ht:Kl P t sz=true) (hlo:bnd lo 0 l) (hhi:bnd hi len h') (hlh:l≤h') (hh:h'≤cap)
 (H:∀ v,RG P n K ops (j+1) (Ag e (Ad ops j).dst v) w):RG P n K ops j e w :=
 have h1:=FC h (Hp ht hlo hhi hlh hh w)
 RG.val h1.1 h1.2 (H _)
theorem RG.IE {t:TypeId}{sz:Nat}{r o len cap:Nat}{lo hi:Option Value}(l h':Nat) (h:Db n ops j e=some (t,.slice (some ⟨r,o,none⟩) len cap,lo,hi)) (ht:Kl P t sz=true) (hlo:bnd lo 0 l) (hhi:bnd hi len h') (hlh:l≤h') (hh:h'≤cap) (hne:cap≠l)
 (H:RG P n K ops (j+1) (Ag e (Ad ops j).dst (.slice (some ⟨r,o+l * sz,none⟩) (h' - l) (cap - l))) w):RG P n K ops j e w:=by
 have h1:=FC h (Hp ht hlo hhi hlh hh w)
 rw [if_neg hne] at h1
 simp only [Option.map_some,add_lit] at h1
 exact RG.val h1.1 h1.2 H
def ZI (P:Program) (n:Nat) (ops:Array Oper) (j:Nat) (e:Env):Option (FuncId × List Value) :=
 bif CC n ops j e then
  match (Ad ops j).op with
  | .call c => match c.callee with
    | .value f => match ev e f with
      | .func (.func g) first cap=>some (g,first.toList++(c.args.toList.map (ev e))++cap.toList)
      | _=>none
    | _=>none
  | _=>none
 else none
theorem RG.ext {f:FuncId}{args:List Value}{v:Value}(h:ZI P n ops j e=some (f,args)) (hr:(callFunc f args.toArray).run P w=.ok (.value v) w)
 (H:RG P n K ops (j+1) (Ag e (Ad ops j).dst v) w):RG P n K ops j e w:=by
 obtain ⟨hg,h⟩:=CG h
 refine RG.val hg ?_ H
 split at h
 ·rename_i c hop
  split at h
  ·rename_i fo hcal
   split at h
   ·rename_i g first cap hf
    simp only [Option.some.injEq,Prod.mk.injEq] at h
    obtain ⟨rfl,rfl⟩:=h
    have hargs:(first.toList++(c.args.toList.map (ev e))++cap.toList).toArray=(first++c.args.map (ev e))++cap:=by
     apply Array.toList_inj.1; simp
    rw [hargs] at hr
    simp only [execOp,hop,resolve,hcal,hf,Deferred.ofValue]
    simp only [invoke]
    exact hr
   ·cases h
  ·cases h
 ·cases h
end
theorem SU {P:Program}{f:FuncId}{fn:Func}{tS tR t:TypeId}{w:World}{vb r o la ca lb cb:Nat}{cs cs2:List Value}(hf:P.funcs[f]? = some fn) (h1:(fn.name == "runtime.NumGoroutine")=false) (h2:fn.body.isNone=true) (h3:Extern.findNext fn=none)
 (h4:Extern.find fn=some (Extern.SlicesOverlaps.overlaps #[tS,tS] #[tR])) {sz:Nat} (ht:E2 P tS t sz=true) (hB:Box w vb t cs) (hR:Box w r t cs2) (hne:vb≠r) (hk:cs2.length≠0) :
 (callFunc f #[.slice (some ⟨vb,0,none⟩) la ca,.slice (some ⟨r,o,none⟩) lb cb]).run P w=.ok (.value (.bool false)) w:=by
 obtain ⟨g1,i,z,hi,hsz,_,_,_⟩:=FB ht
 have hz:∀ w,(Go.sizeOf t).run P w=.ok i.size w:=fun w=>by simp [sizeOf,typeInfo,hi,go_sem]
 unfold Box at hB hR
 rw [run_callFunc_extern hf h1 h2 h3 h4,Lib.run_overlaps_apart w tS tR t g1 i.size hz ⟨vb,0,none⟩ ⟨r,o,none⟩ la ca lb cb hne t t cs.length cs2.length (by simp [World.shape?,hB]) (by simp [World.shape?,hR]) hk (by simp [World.frozen?,hB]) (by simp [World.frozen?,hB])]
 rfl
theorem H4 {P:Program}{T T2 ty t:TypeId}{sz:Nat}{w:World}{b o dl dc sl sc k:Nat}{a2:Addr}{cs vs:List Value}(hT:E2 P T t sz=true) (hB:Box w b t cs) (hsrc:Has w a2 vs) (hvs:vs.length=k * sz) (hk:Nat.min sl dl=k) (ho:o+k * sz≤cs.length) (hone:∀ v∈vs,Cy v=true) :
 ∃ w',(Builtin.copy_ #[T,T2] ty #[.slice (some ⟨b,o,none⟩) dl dc,.slice (some a2) sl sc]).run P w=.ok (goInt k) w'∧Box w' b t (Ay cs o vs)∧Chg (one b) w w'∧w'.heap.size=w.heap.size:=by
 obtain ⟨g1,i,z,hi,hsz,_,_,_⟩:=FB hT
 obtain ⟨w',h1,h2,h3,h4⟩:=hB.OF (P:=P) vs (o:=o) (i:=0) AB hone
 have h5:=run_loadCellsFrom (P:=P) a2 vs 0 #[] vs rfl hsrc
 have h6:(loadCells a2 (k * i.size)).run P w=.ok vs.toArray w:=by
  rw [hsz,← hvs]
  unfold loadCells
  rw [h5]
  simp
 have hz:(sizeOf t).run P w=.ok i.size w:=by simp [sizeOf,typeInfo,hi,go_sem]
 refine ⟨w',?_,h2,h3,h4⟩
 unfold Builtin.copy_
 simp only [List.getElem?_toArray,List.getElem?_cons_zero,List.getElem?_cons_succ]
 rw [AZ (run_underlying g1 w)]
 simp only [Builtin.lenOf]
 rw [AZ (show (pure sl:Sem Nat).run P w=.ok sl w from rfl),AZ hz,hk]
 simp only [Builtin.firstCells]
 rw [AZ h6]
 simp only []
 rw [AZ h1]
 rfl
theorem Vn {P:Program}{T tn ty t:TypeId}{kn:IntKind}{w:World}{r n c i:Nat}{cs:List Value}(hT:E2 P T t 2=true) (htn:P.underlying tn=some (.int kn)) (hB:Box w r t cs) (hl:cs.length=c * 2) (hi:i< n) (hn:n≤c) (hc:c< n+1) (hs:n≤1000000000) :
 ∃ gc ob w', (Builtin.append_ #[T, tn] ty #[.slice (some ⟨r, 0, none⟩) i c, .int .i64 ((n : Int) + 1 - i)]).run P w = .ok (.slice (some ⟨w.heap.size, 0, none⟩) (n + 1) gc) w' ∧
   Box w' w.heap.size t ob∧ob.length=gc * 2∧n+1≤gc∧gc≤maxLen∧ob.take (i * 2)=cs.take (i * 2)∧Ext w w'∧w'.heap.size=w.heap.size+1:=by
 obtain ⟨g1,inf,z,hinf,hsz,hby,hz,hzs⟩:=FB hT
 have hBx:=hB
 unfold Box at hBx
 have hole:(cs.take (i * 2)).length=i * inf.size:=by rw [List.length_take,hsz]; omega
 have hold:(Builtin.firstCells inf.size i (.slice (some ⟨r,0,none⟩) i c)).run P w.drew=.ok (cs.take (i * 2)).toArray w.drew:=by
  have hh:Has w.drew ⟨r,0,none⟩ (cs.take (i * 2)):=by
   intro k u hu
   rw [List.getElem?_take] at hu
   split at hu
   ·rw [add_lit]
    show World.cell? w.drew _=_
    have:w.drew.heap=w.heap:=rfl
    simp only [World.cell?,this,hBx]
    simpa using hu
   ·cases hu
  have h1:=run_loadCellsFrom (P:=P) ⟨r,0,none⟩ (cs.take (i * 2)) 0 #[] _ rfl hh
  simp only [Builtin.firstCells,loadCells]
  rw [List.drop_zero] at h1
  rw [← hole,h1]
  simp
 have hr:=Lib.run_append_grow_zeros (P:=P) w T tn ty t inf z .i64 kn g1 htn hinf hz (some ⟨r,0,none⟩) i c (cs.take (i * 2)) hold (n+1 - i) AB AB AB AB (Nat.le_trans (Nat.mul_le_mul (show n+1 - i≤1000000001 by omega) hby) AB)
  (growslice_fits AB (Nat.le_trans (Nat.mul_le_mul (show i+(n+1 - i)≤1000000001 by omega) hby) AB))
 rw [show i+(n+1 - i)=n+1 by omega] at hr
 generalize hg:grownCap w (n+1) c t=gc at hr
 have hge:n+1≤gc:=by rw [← hg]; exact grownCap_ge _ _ _ _
 have hgm:gc≤maxLen:=by rw [← hg]; exact grownCap_le_maxLen _ _ _ _ (by unfold maxLen; omega)
 generalize hob:((cs.take (i * 2)).toArray++Builtin.zeroCells z.cells (n+1 - i)++Builtin.zeroCells z.cells (gc - (n+1)))=ob at hr
 have hnew:(w.drew.alloc (.cells ob t)).heap[w.heap.size]? = some (.cells ob t (0,0)):=heap_alloc_new w.drew _
 have hoth:∀ k,k< w.heap.size→(w.drew.alloc (.cells ob t)).heap[k]? = w.heap[k]? := fun k hk=>heap_alloc_old w.drew _ k hk
 have hoz:ob.size=gc * 2:=by
  rw [← hob]
  simp only [Array.size_append,List.size_toArray,hole,hsz,size_zeroCells,hzs,← Nat.add_mul]
  congr 1
  omega
 refine ⟨gc,ob.toList,w.drew.alloc (.cells ob t),?_,by unfold Box; simpa using hnew,by simpa using hoz,hge,hgm,?_,⟨rfl,rfl,rfl,by simp,fun k hk _=>hoth k hk⟩,by simp⟩
 ·have he:((n+1 - i:Nat):Int)=(n:Int)+1 - i:=by omega
  rw [he] at hr
  exact hr
 ·rw [← hob]
  simp only [Array.toList_append,List.append_assoc]
  rw [List.take_append_of_le_length (by rw [hole,hsz]; omega)]
  rw [List.take_of_length_le (by rw [hole,hsz]; omega)]
theorem Td {P:Program}{T tn ty t:TypeId}{kn:IntKind}{w:World}{r n c i:Nat}{cs:List Value}(hT:E2 P T t 2=true) (htn:P.underlying tn=some (.int kn)) (hB:Box w r t cs) (hl:cs.length=c * 2) (hi:i< n) (hn:n≤c) (hc:c< n+1) (hs:n≤1000000000) :
 ∃ b, b = w.heap.size ∧ ∃ gc ob w', (Builtin.append_ #[T, tn] ty #[.slice (some ⟨r, 0, none⟩) i c, .int .i64 ((n : Int) + 1 - i)]).run P w = .ok (.slice (some ⟨b, 0, none⟩) (n + 1) gc) w' ∧
   Box w' b t ob∧ob.length=gc * 2∧n+1≤gc∧gc≤maxLen∧ob.take (i * 2)=cs.take (i * 2)∧Ext w w'∧w'.heap.size=w.heap.size+1 :=
 ⟨_,rfl,Vn hT htn hB hl hi hn hc hs⟩
theorem Te {cs vs:List Value}{o:Nat}(h:o+vs.length≤cs.length):(Ay cs o vs).take o=cs.take o:=by
 unfold Ay
 rw [List.append_assoc,List.take_append_of_le_length (by rw [List.length_take]; omega),List.take_take,Nat.min_self]
theorem SV {cs vs:List Value}{o:Nat}(h:o+vs.length≤cs.length):(Ay cs o vs).take (o+vs.length)=cs.take o++vs:=by
 unfold Ay
 have:(cs.take o++vs).length=o+vs.length:=by rw [List.length_append,List.length_take]; omega
 rw [← this,List.take_left]
theorem EJ {cs vs:List Value}{o:Nat}(h:o+vs.length≤cs.length):(Ay cs o vs).length=cs.length:=by
 unfold Ay
 simp only [List.length_append,List.length_take,List.length_drop]
 omega
def GC (y:Row):List Value:=[.int .i64 y.t,.int .i64 y.v]
theorem HP (y:Row):(GC y).length=2:=rfl
section
variable {cs ob:List Value} {xs:List Row} {y:Row} {n c gc i:Nat}
theorem Qg (hx:cs.take (n * 2)=BM xs) (hn:n=xs.length):(cs.drop (i * 2)).take ((n - i) * 2)=BM (xs.drop i):=by
 rw [Ka,← hx,List.drop_take]
 congr 1
 omega
theorem XL (hx:cs.take (n * 2)=BM xs) (hi:i≤n):cs.take (i * 2)=BM (xs.take i):=by
 rw [PQ,← hx,List.take_take,Nat.min_eq_left AB]
theorem ZJ (a b:List Value) (ha:a=BM (xs.take i)):(a++GC y++BM (xs.drop i)++b).take ((xs.take i++y::xs.drop i).length * 2)=BM (xs.take i++y::xs.drop i):=by
 have h1:a++GC y++BM (xs.drop i)=BM (xs.take i++y::xs.drop i):=by
  rw [Qf,ha,List.append_assoc]
  congr 1
 rw [h1,← Ds,List.take_left]
theorem pC (hl:cs.length=c * 2) (hx:cs.take (n * 2)=BM xs) (hn:n=xs.length) (hi:i< n) (hc:n+1≤c) :
 (Ay (Ay cs ((i+1) * 2) ((cs.drop (i * 2)).take ((n - i) * 2))) (i * 2) (GC y)).take ((xs.take i++y::xs.drop i).length * 2)=BM (xs.take i++y::xs.drop i) ∧
  (Ay (Ay cs ((i+1) * 2) ((cs.drop (i * 2)).take ((n - i) * 2))) (i * 2) (GC y)).length=c * 2:=by
 rw [Qg hx hn]
 have hm:(BM (xs.drop i)).length=(n - i) * 2:=by rw [Ds,List.length_drop]; omega
 have h1:(i+1) * 2+(BM (xs.drop i)).length≤cs.length:=by rw [hm]; omega
 have h2:=EJ h1
 have h3:i * 2+(GC y).length≤(Ay cs ((i+1) * 2) (BM (xs.drop i))).length:=by rw [h2,HP]; omega
 refine ⟨?_,by rw [EJ h3,h2,hl]⟩
 have e1:(Ay cs ((i+1) * 2) (BM (xs.drop i))).take (i * 2)=cs.take (i * 2):=by
  have:=congrArg (fun l=>l.take (i * 2)) (Te h1)
  simpa [List.take_take,Nat.min_eq_left (show i * 2≤(i+1) * 2 by omega)] using this
 have e2:(Ay cs ((i+1) * 2) (BM (xs.drop i))).drop (i * 2+(GC y).length)=BM (xs.drop i)++cs.drop ((i+1) * 2+(BM (xs.drop i)).length):=by
  rw [HP,show i * 2+2=(i+1) * 2 by omega]
  unfold Ay
  have:(cs.take ((i+1) * 2)).length=(i+1) * 2:=by rw [List.length_take]; omega
  rw [List.append_assoc]
  have h5:(cs.take ((i+1) * 2)++(BM (xs.drop i)++cs.drop ((i+1) * 2+(BM (xs.drop i)).length))).drop (cs.take ((i+1) * 2)).length=BM (xs.drop i)++cs.drop ((i+1) * 2+(BM (xs.drop i)).length):=List.drop_left
  rw [this] at h5
  exact h5
 unfold Ay at e1 e2 ⊢
 rw [e1,e2,← List.append_assoc]
 exact ZJ _ _ (XL hx AB)
theorem pD (hl:ob.length=gc * 2) (ho:ob.take (i * 2)=cs.take (i * 2)) (hx:cs.take (n * 2)=BM xs) (hn:n=xs.length) (hi:i< n) (hc:n+1≤gc) :
 (Ay (Ay ob (i * 2) (GC y)) ((i+1) * 2) ((cs.drop (i * 2)).take ((n - i) * 2))).take ((xs.take i++y::xs.drop i).length * 2)=BM (xs.take i++y::xs.drop i) ∧
  (Ay (Ay ob (i * 2) (GC y)) ((i+1) * 2) ((cs.drop (i * 2)).take ((n - i) * 2))).length=gc * 2:=by
 rw [Qg hx hn]
 have hm:(BM (xs.drop i)).length=(n - i) * 2:=by rw [Ds,List.length_drop]; omega
 have h1:i * 2+(GC y).length≤ob.length:=by rw [HP]; omega
 have h2:=EJ h1
 have h3:(i+1) * 2+(BM (xs.drop i)).length≤(Ay ob (i * 2) (GC y)).length:=by rw [h2,hm]; omega
 refine ⟨?_,by rw [EJ h3,h2,hl]⟩
 have e1:(Ay ob (i * 2) (GC y)).take ((i+1) * 2)=ob.take (i * 2)++GC y:=by
  rw [show (i+1) * 2=i * 2+(GC y).length by rw [HP]; omega]
  exact SV h1
 unfold Ay at e1 ⊢
 rw [e1]
 exact ZJ _ _ (by rw [ho]; exact XL hx AB)
end
theorem GA.IE {P:Program}{S:Nat→Prop}{n m:Nat}{L:Env→World→Prop}{ops:Array Oper}{l:List Nat}{e:Env}{w:World}{i:Nat}{t:TypeId}{sz r o len cap:Nat}{lo hi:Option Value}(l' h':Nat) (hb:gB n m ops l i=true) (h:Db n ops i e=some (t,.slice (some ⟨r,o,none⟩) len cap,lo,hi)) (ht:Kl P t sz=true) (hlo:bnd lo 0 l') (hhi:bnd hi len h') (hlh:l'≤h') (hh:h'≤cap) (hne:cap≠l')
 (H:GA P S n m L ops (i::l) (Ag e (Ad ops i).dst (.slice (some ⟨r,o+l' * sz,none⟩) (h' - l') (cap - l'))) w):GA P S n m L ops l e w:=by
 refine GA.OM hb (fun w=>?_) H
 have h1:=FC h (Hp ht hlo hhi hlh hh w)
 rw [if_neg hne] at h1
 simp only [Option.map_some,add_lit] at h1
 exact h1
theorem PR {cs:List Value}{a k:Nat}(h:((cs.drop a).take k).length≤k):(cs.drop a).take ((cs.drop a).take k).length=(cs.drop a).take k:=by
 rw [List.length_take]
 by_cases hk:k≤(cs.drop a).length
 ·rw [Nat.min_eq_left hk]
 ·rw [Nat.min_eq_right AB,List.take_of_length_le (Nat.le_refl _),List.take_of_length_le AB]
theorem Rh {a b k:Nat}(h:b≤a∧b=k∨a≤b∧a=k):Nat.min a b=k:=by
 show min a b=k
 omega
theorem Vo {w:World}{r t n c i:Nat}{F:Nat→Prop}{xs:List Row}{y:Row}(h:Own w r t F (n+1) c (xs++[y])) (hi:xs.length≤i):Own w r t F (n+1) c (xs.take i++y::xs.drop i):=by
 rw [List.take_of_length_le hi,List.drop_of_length_le hi]
 exact h
end Go.Proofs.YtcginoabkicdiaaGreat
namespace Go.Proofs.YtcginoabkicdiaaGreat
set_option maxRecDepth 100000
set_option maxHeartbeats 4000000
variable {w:World} {F:Nat→Prop}
theorem Dj {r n c vb i:Nat}{xs:List Row}{y:Row}(ho:Own w r 70 F n c xs) (hv:Box w vb 70 [.int .i64 y.t,.int .i64 y.v]) (hne:vb≠r) (hi:i≤n) (hn:n≤1000000):Calls Tryz.prog 217 [.slice (some ⟨r,0,none⟩) n c,.int .i64 (i:Int),.slice (some ⟨vb,0,none⟩) 1 1].toArray w (Af fun rv w'=>(∃ r2 c2,rv=.slice (some ⟨r2,0,none⟩) (n+1) c2∧Own w' r2 70 all (n+1) c2 (xs.take i++y::xs.drop i)∧OrB r2 r w.heap.size)∧Chg (one r) w w'):=by
 refine goT func217 ?_
 replace hne:Nb vb r:=hne
 have hnx:=ho.len; have hle:=ho.le
 replace ho:Own w r 70 (nin all [r]) n c xs:=ho.flat Bn
 refine .s<|.g<|.r 1<|.d<|.s<|.g<|.r 2<|RG.pB (a:=some ⟨r,0,none⟩) (t:=159) (lo:=some (vI (i:Int))) (hi:=none) (sz:=2) i n AA AA (.inr ⟨_,_,rfl,by omega⟩) (.inl ⟨rfl,rfl⟩) AB AB fun v_=>.d<|.s<|.g<|.r 3<|.d<|.s<|.s<|.g<|.r 2<|.d<|.cf<|.sk<|.s<|.g<|.r 3<|.d<|.s<|.s<|.g<|.r 2<|.eq (i:Int) (n:Int) (fun aG=>?_) (fun aG=>?_)
 ·refine .d<|.ct<|.s<|.g<|.r 2 ?_
  have af:nin all [r] vb∧vb≠r:=OK trivial (all_cons hne all_nil) hne
  refine RG.E3 (T:=159) (ty:=159) (y:=y) ho hv AA AA rfl af AB fun aO aP aQ ae ag ah=>?_
  have aH:=Ic ag (Cov.mk1 w r) (Nat.le_refl _)
  replace hv:=(s1 ah).g1 hv
  have aI:Chg (one r) w aQ:=Chg.Dy (Chg.refl (one r) w) ah (Cov.mk1 w r)
  replace ae:=ae.rn r
  exact .r 1<|.d<|.rt func217 results217 (vS aO (n+1) aP) ⟨⟨_,_,rfl,Vo (ae.flat Bn) AB,aH⟩,aI⟩
 refine .d<|.cf<|.sk<|.s<|.s<|.g<|.r 2<|.it ((n:Int)+1)<|.r 2<|.bp ((n:Int)+1 > (c:Int)) (fun aJ=>?_) (fun aJ=>?_)
 ·refine .d<|.ct<|.s<|.g<|.r 2 ?_
  obtain ⟨cs,hbx,hcl,hct,aK,aL⟩:=ho.box
  refine RG.IE (r:=r) (o:=0) (len:=n) (cap:=c) (t:=159) (lo:=none) (hi:=some (vI (i:Int))) (sz:=2) 0 i AA AA (.inl ⟨rfl,rfl⟩) (.inr ⟨_,_,rfl,by omega⟩) AB AB AB<|.r 2<|.it ((n:Int)+1)<|.r 1<|.it (((n:Int)+1) - (i:Int)) ?_
  obtain ⟨b2,hq,gc,ob,w2,hrun,aR,hol,hge,hgm,hot,aM,aW⟩:=Td (P:=Tryz.prog) (T:=159) (tn:=3) (ty:=159) (kn:=.i64) (n:=n) AA AA hbx hcl (by omega:i< n) AB AB AB
  refine RG.append (ats:=[159,3]) (args:=[vS r i c,vI ((n:Int)+1 - i)]) AA hrun ?_
  have aX:=Az hq hbx.lt
  have aY:=Az hq hv.lt
  have aN:Cov (one r) w b2:=LH hq (Nat.le_refl _)
  replace ⟨hbx,hv⟩:=(se [] aM).g2 hbx hv
  have aa:Chg (one r) w w2:=Chg.NR (Chg.refl (one r) w) aM
  refine .r 1<|.d<|.s<|.g<|.r 2<|RG.IE (r:=b2) (o:=0) (len:=(n+1)) (cap:=gc) (t:=159) (lo:=some (vI (i:Int))) (hi:=none) (sz:=2) i (n+1) AA AA (.inr ⟨_,_,rfl,by omega⟩) (.inl ⟨rfl,rfl⟩) AB AB AB<|.r 1 ?_
  obtain ⟨aS,aj,ac,aq,aZ⟩:=H4 (P:=Tryz.prog) (a2:=⟨vb,0,none⟩) (T:=159) (T2:=159) (ty:=3) (t:=70) (sz:=2) (o:=(0+i * 2)) (dl:=((n+1) - i)) (dc:=(gc - i)) (sl:=1) (sc:=1) (k:=1) (vs:=(GC y)) AA aR (hv.has 0 (GC y) rfl) AF (Nat.min_eq_left AB) (by have:=hcl; omega) (by intro v hv_; simp [GC] at hv_; rcases hv_ with rfl | rfl <;> rfl)
  refine RG.copy (ats:=[159,159]) (args:=[.slice (some ⟨b2,0+i * 2,none⟩) ((n+1) - i) (gc - i),vS vb 1 1]) AA aj ?_
  rw [Nat.zero_add] at ac
  replace ⟨hbx,hv,aa⟩:=(s1 aq).g3 hbx hv aa
  refine .d<|.s<|.gd (mtb [] aS.heap.size) 8 fun bj ar=>?_
  replace ⟨hbx,hv,ac,aa⟩:=(se [] ar).g4 hbx hv ac aa
  refine .r [0,1,2]<|GA.int (i:=3) ((i:Int)+1) AA AB<|GA.IE (i:=4) (r:=b2) (o:=0) (len:=(n+1)) (cap:=gc) (t:=159) (lo:=some (vI ((i:Int)+1))) (hi:=none) (sz:=2) (i+1) (n+1) AA AA AA (.inr ⟨_,_,rfl,by omega⟩) (.inl ⟨rfl,rfl⟩) AB AB AB<|.r [5,6]<|GA.IE (i:=7) (r:=r) (o:=0) (len:=n) (cap:=c) (t:=159) (lo:=some (vI (i:Int))) (hi:=none) (sz:=2) i n AA AA AA (.inr ⟨_,_,rfl,by omega⟩) (.inl ⟨rfl,rfl⟩) AB AB AB<|.d fun bk ax=>?_
  replace ⟨hbx,hv,ac,aa⟩:=(se [] ax).g4 hbx hv ac aa
  obtain ⟨bm,ak,ay,az,ba⟩:=H4 (P:=Tryz.prog) (a2:=⟨r,0+i * 2,none⟩) (T:=159) (T2:=159) (ty:=3) (t:=70) (sz:=2) (o:=(0+(i+1) * 2)) (dl:=((n+1) - (i+1))) (dc:=(gc - (i+1))) (sl:=(n - i)) (sc:=(c - i)) (k:=(n - i)) (vs:=((cs.drop (i * 2)).take ((n - i) * 2))) AA ac (by rw [Nat.zero_add]; exact hbx.has (i * 2) ((cs.drop (i * 2)).take ((n - i) * 2)) (PR (by simp; omega))) (by rw [Qg hct hnx,Ds,List.length_drop]; omega) (Rh AB) (by have:=hcl; rw [EJ (by rw [HP]; omega)]; omega) (by rw [Qg hct hnx]; exact L4 _)
  refine RG.copy (ats:=[159,159]) (args:=[.slice (some ⟨b2,0+(i+1) * 2,none⟩) ((n+1) - (i+1)) (gc - (i+1)),.slice (some ⟨r,0+i * 2,none⟩) (n - i) (c - i)]) AA ak ?_
  rw [Nat.zero_add] at ay
  replace ⟨hbx,hv,aa⟩:=(s1 az).g3 hbx hv aa
  refine .d<|.s<|.g<|.r 2<|.d ?_
  have hfin:=pD (y:=y) hol hot hct hnx (by omega:i< n) AB
  have hlen:(xs.take i++y::xs.drop i).length=n+1:=by simp; omega
  have hown:=Own.XK (F:=all) ay hfin.2 hfin.1 (by rw [hlen]; omega) AB
  rw [hlen] at hown
  exact .rt func217 results217 (vS b2 (n+1) gc) ⟨⟨_,_,rfl,hown,aN⟩,aa⟩
 refine .d<|.cf<|.sk<|.s<|.g<|.r 3<|.it ((n:Int)+1) ?_
 obtain ⟨cs,hbx,hcl,hct,aK,aL⟩:=ho.box
 refine RG.IE (r:=r) (o:=0) (len:=n) (cap:=c) (t:=159) (lo:=none) (hi:=some (vI ((n:Int)+1))) (sz:=2) 0 (n+1) AA AA (.inl ⟨rfl,rfl⟩) (.inr ⟨_,_,rfl,by omega⟩) AB AB AB<|.r 1<|.d<|.s<|.s<|.g<|.r 4<|.it ((i:Int)+1)<|RG.IE (r:=r) (o:=0) (len:=(n+1)) (cap:=c) (t:=159) (lo:=some (vI ((i:Int)+1))) (hi:=none) (sz:=2) (i+1) (n+1) AA AA (.inr ⟨_,_,rfl,by omega⟩) (.inl ⟨rfl,rfl⟩) AB AB AB<|RG.ext (f:=235) (args:=[vS vb 1 1,.slice (some ⟨r,0+(i+1) * 2,none⟩) (n+1 - (i+1)) (c - (i+1))]) AA (SU (fn:=Tryz.f235) (tS:=159) (tR:=4) (sz:=2) func235 AA AA AA AA AA hv hbx hne AB)<|.r 1<|.d<|.ct<|.s<|.gd (mtb [] w.heap.size) 8 fun aT ai=>?_
 replace ⟨hbx,hv⟩:=(se [] ai).g2 hbx hv
 have ab:Chg (one r) w aT:=Chg.NR (Chg.refl (one r) w) ai
 refine .r [0,1,2]<|GA.int (i:=3) ((i:Int)+1) AA AB<|GA.IE (i:=4) (r:=r) (o:=0) (len:=(n+1)) (cap:=c) (t:=159) (lo:=some (vI ((i:Int)+1))) (hi:=none) (sz:=2) (i+1) (n+1) AA AA AA (.inr ⟨_,_,rfl,by omega⟩) (.inl ⟨rfl,rfl⟩) AB AB AB<|.r [5,6]<|GA.IE (i:=7) (r:=r) (o:=0) (len:=(n+1)) (cap:=c) (t:=159) (lo:=some (vI (i:Int))) (hi:=none) (sz:=2) i (n+1) AA AA AA (.inr ⟨_,_,rfl,by omega⟩) (.inl ⟨rfl,rfl⟩) AB AB AB<|.d fun bn aA=>?_
 replace ⟨hbx,hv,ab⟩:=(se [] aA).g3 hbx hv ab
 obtain ⟨bo,am,aB,aC,bg⟩:=H4 (P:=Tryz.prog) (a2:=⟨r,0+i * 2,none⟩) (T:=159) (T2:=159) (ty:=3) (t:=70) (sz:=2) (o:=(0+(i+1) * 2)) (dl:=(n+1 - (i+1))) (dc:=(c - (i+1))) (sl:=(n+1 - i)) (sc:=(c - i)) (k:=(n - i)) (vs:=((cs.drop (i * 2)).take ((n - i) * 2))) AA hbx (by rw [Nat.zero_add]; exact hbx.has (i * 2) ((cs.drop (i * 2)).take ((n - i) * 2)) (PR (by simp; omega))) (by rw [Qg hct hnx,Ds,List.length_drop]; omega) (Rh AB) (by have:=hcl; omega) (by rw [Qg hct hnx]; exact L4 _)
 refine RG.copy (ats:=[159,159]) (args:=[.slice (some ⟨r,0+(i+1) * 2,none⟩) (n+1 - (i+1)) (c - (i+1)),.slice (some ⟨r,0+i * 2,none⟩) (n+1 - i) (c - i)]) AA am ?_
 rw [Nat.zero_add] at aB
 replace ⟨hv,ab⟩:=(s1 aC).g2 hv ab
 refine .d<|.s<|.g<|.r 2<|RG.IE (r:=r) (o:=0) (len:=(n+1)) (cap:=c) (t:=159) (lo:=some (vI (i:Int))) (hi:=none) (sz:=2) i (n+1) AA AA (.inr ⟨_,_,rfl,by omega⟩) (.inl ⟨rfl,rfl⟩) AB AB AB<|.r 1 ?_
 obtain ⟨bq,ao,aD,aE,bh⟩:=H4 (P:=Tryz.prog) (a2:=⟨vb,0,none⟩) (T:=159) (T2:=159) (ty:=3) (t:=70) (sz:=2) (o:=(0+i * 2)) (dl:=(n+1 - i)) (dc:=(c - i)) (sl:=1) (sc:=1) (k:=1) (vs:=(GC y)) AA aB (hv.has 0 (GC y) rfl) AF (Nat.min_eq_left AB) (by have:=hcl; rw [EJ (by rw [Qg hct hnx,Ds,List.length_drop]; omega)]; omega) (by intro v hv_; simp [GC] at hv_; rcases hv_ with rfl | rfl <;> rfl)
 refine RG.copy (ats:=[159,159]) (args:=[.slice (some ⟨r,0+i * 2,none⟩) (n+1 - i) (c - i),vS vb 1 1]) AA ao ?_
 rw [Nat.zero_add] at aD
 replace ⟨hv,ab⟩:=(s1 aE).g2 hv ab
 refine .d<|.s<|.g<|.r 2<|.d ?_
 have hfin:=pC (y:=y) hcl hct hnx (by omega:i< n) AB
 have hlen:(xs.take i++y::xs.drop i).length=n+1:=by simp; omega
 have hown:=Own.XK (F:=all) aD hfin.2 hfin.1 (by rw [hlen]; omega) AB
 rw [hlen] at hown
 exact .rt func217 results217 (vS r (n+1) c) ⟨⟨_,_,rfl,hown,O5⟩,ab⟩
end Go.Proofs.YtcginoabkicdiaaGreat
namespace Go.Proofs.YtcginoabkicdiaaGreat
theorem Own.Vp {w:World}{r t c:Nat}{F:Nat→Prop}{y:Row}(h:Own w r t F 1 c [y]) (hc:c=1:=by rfl):Box w r t [.int .i64 y.t,.int .i64 y.v]:=by
 obtain ⟨cs,h1,h2,h3,_,_⟩:=h.box
 subst hc
 rw [List.take_of_length_le AB] at h3
 rw [h3] at h1
 exact h1
theorem Mv.Vq {w w':World}{r r2:Nat}(A B:List Nat) (hx:Chg (Go.Proofs.YtcginoabkicdiaaGreat.one r) w w') (h:OrB r2 r w.heap.size):Mv (A++r::B) (A++r2::B) w w':=Mv.mk hx (fun k hk hm=>by
 unfold OrB at h
 simp only [List.mem_append,List.mem_cons,not_or] at hm ⊢
 exact ⟨⟨hm.1,by omega,hm.2.2⟩,hm.2.1⟩)
theorem Vr {b:List Row}{r x:Row}{i:Nat}(h:b.take i++C4 r (b.drop i)=C4 r b) (hx:b[i]? = some x) (ht:x.t< r.t):b.take (i+1)++C4 r (b.drop (i+1))=C4 r b:=by
 rw [Ab hx,C4,if_neg AB,if_neg AB] at h
 rw [← h,List.take_add_one,hx]
 simp
theorem Tf {b:List Row}{r x:Row}{i:Nat}(h:b.take i++C4 r (b.drop i)=C4 r b) (hx:b[i]? = some x) (ht:x.t=r.t):b.set i r=C4 r b:=by
 rw [Ab hx,C4,if_neg AB,if_pos AB] at h
 rw [← h]
 obtain ⟨h1,h2⟩:=List.getElem?_eq_some_iff.1 hx
 rw [List.set_eq_take_append_cons_drop,if_pos h1]
theorem X0 {b:List Row}{r x:Row}{i:Nat}(h:b.take i++C4 r (b.drop i)=C4 r b) (hx:b[i]? = some x) (h1:¬ x.t< r.t) (h2:x.t≠r.t):b.take i++r::b.drop i=C4 r b:=by
 rw [← h]
 congr 1
 rw [Ab hx,C4,if_pos AB]
theorem Qh {b:List Row}{r:Row}{i:Nat}(h:b.take i++C4 r (b.drop i)=C4 r b) (hi:b.length≤i):b.take i++r::b.drop i=C4 r b:=by
 rw [← h,Aa hi]
 rfl
def BA (p:Prt) (id:Int):List Row:=if Ai p then partOf p id else []
theorem Jt (v:Int):∀ (is:List Int) (bs:List (List Row)) (i:Nat),is.length=bs.length→(Ec v i is = -1∧Bd v is bs=[])∨((i:Int)≤Ec v i is∧Ec v i is< (i:Int)+is.length∧∃ b,bs[(Ec v i is).toNat - i]? = some b∧Bd v is bs=b):=by
 intro is
 induction is with
 | nil=>intro bs i h; left; exact ⟨rfl,by unfold Bd; rfl⟩
 | cons x xs ih =>
   intro bs i h
   cases bs with
   | nil=>simp at h
   | cons b bs =>
     unfold Ec Bd
     by_cases hx:(x==v)=true
     ·right
      rw [if_pos hx,if_pos hx]
      refine ⟨by omega,by simp only [List.length_cons]; omega,b,?_,rfl⟩
      simp
     ·rw [if_neg hx,if_neg hx]
      rcases ih bs (i+1) (by simpa using h) with ⟨h1,h2⟩ | ⟨h1,h2,c,h3,h4⟩
      ·left; exact ⟨h1,h2⟩
      ·right
       refine ⟨by omega,by simp only [List.length_cons]; omega,c,?_,h4⟩
       rw [show (Ec v (i+1) xs).toNat - i=((Ec v (i+1) xs).toNat - (i+1))+1 by omega,List.getElem?_cons_succ]
       exact h3
theorem Ge {p:Prt}(h:Ai p=true):p.ids.length=p.blocks.length:=by
 unfold Ai at h
 simp only [AW,decide_eq_true_eq] at h
 exact h.1
theorem Vs {p:Prt}{id:Int}(h:Ai p=false):BA p id=[]:=by unfold BA; rw [h]; rfl
theorem Vt {p:Prt}{id:Int}(h:Ai p=true) (h2:Ec id 0 p.ids< 0):BA p id=[]:=by
 unfold BA partOf
 rw [if_pos h]
 rcases Jt id p.ids p.blocks 0 (Ge h) with ⟨_,h3⟩ | ⟨h1,_⟩
 ·exact h3
 ·omega
theorem Vu {p:Prt}{id:Int}{b:List Row}(h:Ai p=true) (h2:¬ Ec id 0 p.ids< 0) (hb:p.blocks[(Ec id 0 p.ids).toNat]? = some b):BA p id=b:=by
 unfold BA partOf
 rw [if_pos h]
 rcases Jt id p.ids p.blocks 0 (Ge h) with ⟨h1,_⟩ | ⟨_,_,c,h3,h4⟩
 ·omega
 ·rw [Nat.sub_zero,hb] at h3
  cases h3
  exact h4
theorem Vv {p:Prt}{id:Int}(h:Ai p=true) (h2:¬ Ec id 0 p.ids< 0):(Ec id 0 p.ids).toNat< p.blocks.length:=by
 rcases Jt id p.ids p.blocks 0 (Ge h) with ⟨h1,_⟩ | ⟨_,h3,_⟩
 ·omega
 ·have:=Ge h; omega
theorem PrtI.ofI {p:Prt}(h:PrtI p) (id:Int):Blk (BA p id):=by
 unfold BA
 split
 ·exact h.of id
 ·exact Blk.nil
theorem EK {α β:Type}{f:β→α→β}{l:List α}{i:Nat}{b:β}{x:α}{Y:β}(h:(l.drop i).foldl f b=Y) (hd:l.drop i=x::l.drop (i+1)):(l.drop (i+1)).foldl f (f b x)=Y:=by
 rw [hd] at h
 exact h
theorem E8 {α β:Type}{f:β→α→β}{l:List α}{i:Nat}{b:β}{Y:β}(h:(l.drop i).foldl f b=Y) (hi:l.length≤i):b=Y:=by
 rw [Aa hi] at h
 exact h
theorem Nj {id:Int}{o:List Row}{m:Smp}(h:m.id=id) (ho:Blk o):CZ id o m=C4 m.row o:=by unfold CZ; rw [if_pos (by simpa using h),F9 ho]
theorem HQ {id:Int}{o:List Row}{m:Smp}(h:m.id≠id):CZ id o m=o:=by unfold CZ; rw [if_neg (by simpa using h)]
theorem Blk.ins {b:List Row}(h:Blk b){r:Row}(hr:BS r=true):Blk (C4 r b):=by rw [← F9 h]; exact h.put hr
theorem ZK {p:Prt}{a:List Int}{b:List (List Row)}(ha:a=p.ids) (hb:b=p.blocks):(⟨a,b⟩:Prt)=p:=by subst ha hb; rfl
theorem Tg {α:Type}{l k:List α}{i:Nat}(h:k++l.drop i=l) (hi:l.length≤i):k=l:=by
 rw [Aa hi,List.append_nil] at h
 exact h
theorem Ti {α:Type}{l:List α}{i:Nat}{k:List α}{q:α}(h:k++l.drop i=l) (hd:l.drop i=q::l.drop (i+1)):(k++[q])++l.drop (i+1)=l:=by
 rw [hd] at h
 simpa using h
end Go.Proofs.YtcginoabkicdiaaGreat
namespace Go.Proofs.YtcginoabkicdiaaGreat
set_option maxRecDepth 100000
set_option maxHeartbeats 4000000
variable {w:World} {F:Nat→Prop} {a1 a2:Option Addr} {n1 c1 n2 c2:Nat}
theorem Ft (p:Prt) (id:Int) (h1:RepS w F a1 n1 c1 p.ids) (h2:RepS w F a2 n2 c2 p.blocks) (p0:CR p):Calls Tryz.prog 180 [.agg #[.slice a1 n1 c1,.slice a2 n2 c2],.int .i64 id].toArray w (Af fun rv w'=>VL (ge w.heap.size) w' (BA p id:List Row) rv∧Ext w w'):=by
 cases h1.len
 cases h2.len
 refine goT func180 ?_
 have Z:=((St.i0 F w).p h1).p h2
 refine .s<|.g<|RG.Np Z fun aj w Z=>.r 1<|.d<|.s<|.g<|.r 1<|RG.Lb 0 Z<|.r 1<|RG.C0 (EG p.ids id (Z.a 1)) Z fun w Z=>.r 1<|.d<|.s<|.s<|.g<|RG.Ln 0 Z<|RG.C0 (C6 p (Z.a 1) (Z.a 0)) Z fun w Z=>?_
 cases ah:(Ai p)
 ·exact .r 5<|.d<|.ct<|.s<|.g<|RG.N0 Row 0 Z fun ak w Z=>.r 1<|.d<|T.Rt func180 results180 ⟨Z.rM 0 ([]:List Row) (by rw [Vs ‹_›]),Z.xt⟩
 refine .r 3<|.bp (Ec id 0 p.ids< 0) (fun ab=>.r 1<|.d<|.ct<|.s<|.g<|RG.N0 Row 0 Z fun am w Z=>.r 1<|.d<|T.Rt func180 results180 ⟨Z.rM 0 ([]:List Row) (by rw [Vt ‹_› ‹_›]),Z.xt⟩) fun ab=>.r 1<|.d<|.cf<|.sk<|.s<|.g<|RG.N0 Row 0 Z fun ao w Z=>.r 1<|RG.Lb 1 Z<|.r 1<|gx (h:=(by exact Vv ‹_› ‹_›)) p.blocks ((Ec id 0 p.ids).toNat) fun ac aa=>?_
 have ae:=AV aa
 exact RG.Jx (hz:=AB) 0 (Ec id 0 p.ids) aa Z<|Z.el 0 aa fun aq ar Z=>RG.Lh 0 0 Z<|RG.An (hs:=by (simp only [List.nil_append,List.length_nil,List.length_append,List.length_cons] <;> exact (by (have q1:=p0.2.2 _ ‹_›; omega)))) (hf:=.inr Bn) 0 1 ([]:List Row) ac Z fun ay az w Z=>.r 1<|.d<|T.Rt func180 results180 ⟨Z.rM 0 ([]++ac) (by (rw [Vu ‹_› ‹_› ‹_›]; rfl)),Z.xt⟩
end Go.Proofs.YtcginoabkicdiaaGreat
namespace Go.Proofs.YtcginoabkicdiaaGreat
def Dd (n:List Tag):Nat→List (List Tag)→Int
 | _,[]=>-1
 | i,x::xs=>if x==n then (i:Int) else Dd n (i+1) xs
def Bi (t:Tag):Nat→List Pst→Int
 | _,[]=>-1
 | i,x::xs=>if x.tag==t then (i:Int) else Bi t (i+1) xs
theorem Vw (n:List Tag):∀ (xs:List (List Tag)) (i:Nat),-1≤Dd n i xs∧Dd n i xs+1≤(i:Int)+xs.length:=by
 intro xs
 induction xs with
 | nil=>intro i; simp [Dd]
 | cons x xs ih =>
   intro i
   have:=ih (i+1)
   unfold Dd
   simp only [List.length_cons]
   split <;> omega
def EV (x y:Str):Int:=if Bh x y then -1 else if Bh y x then 1 else 0
def orF:List Int→Int
 | []=>0
 | x::xs=>if x≠0 then x else orF xs
def Qi (a b:Pst):Int:=orF [EV a.tag.key b.tag.key,EV a.tag.val b.tag.val]
theorem Tj (x y:Str):Gm x y = !Bh y x:=by
 have key:∀ (x y:Str),(Op.bytesLess x y || x==y) = !Op.bytesLess y x:=by
  intro x
  induction x with
  | nil=>intro y; cases y <;> simp [Op.bytesLess]
  | cons a x ih =>
    intro y
    cases y with
    | nil=>simp [Op.bytesLess]
    | cons b y =>
      show ((decide (a< b) || a==b&&Op.bytesLess x y) || (a::x)==(b::y)) = !(decide (b< a) || b==a&&Op.bytesLess y x)
      rcases Nat.lt_trichotomy a.toNat b.toNat with h | h | h
      ·have h1:a< b:=UInt8.lt_iff_toNat_lt.2 h
       have h2:¬ b< a:=fun h2=>by have:=UInt8.lt_iff_toNat_lt.1 h2; omega
       have h3:¬ b=a:=fun e=>by rw [e] at h; omega
       simp [h1,h2,h3]
      ·have h1:a=b:=UInt8.toNat_inj.1 h
       subst h1
       have h2:¬ a< a:=fun h2=>by have:=UInt8.lt_iff_toNat_lt.1 h2; omega
       have:=ih y
       simp only [h2,decide_false,beq_self_eq_true,Bool.true_and,Bool.false_or,List.cons_beq_cons]
       exact this
      ·have h1:b< a:=UInt8.lt_iff_toNat_lt.2 h
       have h2:¬ a< b:=fun h2=>by have:=UInt8.lt_iff_toNat_lt.1 h2; omega
       have h3:¬ a=b:=fun e=>by rw [e] at h; omega
       simp [h1,h2,h3]
 exact key x y
theorem Vx {names:List (List Tag)}(h:(names.map text).Nodup):∀ (k:Nat) (x:List Tag),names[k]? = some x→Dd x 0 names=k:=by
 have key:∀ (ns:List (List Tag)) (i k:Nat) (x:List Tag),(ns.map text).Nodup→ns[k]? = some x→Dd x i ns=i+k:=by
  intro ns
  induction ns with
  | nil=>intro i k x _ h; simp at h
  | cons y ys ih =>
    intro i k x hn hx
    rw [List.map_cons,List.nodup_cons] at hn
    unfold Dd
    cases k with
    | zero =>
      simp at hx
      subst hx
      simp
    | succ k =>
      rw [List.getElem?_cons_succ] at hx
      have hne:¬ (y==x)=true:=fun e=>hn.1 (by rw [eq_of_beq e]; exact List.mem_map_of_mem (AV hx))
      rw [if_neg hne,ih (i+1) k x hn.2 hx]
      omega
 intro k x hx
 have:=key names 0 k x h hx
 omega
theorem Vy {names:List (List Tag)}{k:Nat}{x:List Tag}(h:NmI names) (hx:names[k]? = some x) (h2:As x=false∨Dd x 0 names+1≠(k:Int)+1):False:=by
 rcases h2 with h2 | h2
 ·rw [h.ok x (AV hx)] at h2; cases h2
 ·rw [Vx h.nodup k x hx] at h2; omega
theorem Vz {a b:Pst}(h:(a.tag==b.tag)=true):(a.ids==b.ids)=(a==b):=by
 rw [Bool.eq_iff_iff,beq_iff_eq,beq_iff_eq,TM]
 exact ⟨fun h1=>⟨eq_of_beq h,h1⟩,fun h1=>h1.2⟩
theorem V0 {a b:Pst}(h:(a.tag==b.tag)=false):false=(a==b):=by
 symm
 rw [beq_eq_false_iff_ne]
 rintro rfl
 simp at h
end Go.Proofs.YtcginoabkicdiaaGreat
namespace Go.Proofs.YtcginoabkicdiaaGreat
set_option maxRecDepth 100000
set_option maxHeartbeats 4000000
variable {w:World} {F:Nat→Prop} {a1 a2:Option Addr} {n1 c1 n2 c2:Nat}
theorem JA (x:List Tag) (n:List Tag) (h1:RepS w F a1 n1 c1 x){bq_n:Nat}{a2:Option Addr}{c2:Nat}(hb_n:Box w bq_n 69 [.slice a2 n.length c2]) (h2:RepS w F a2 n.length c2 n)  : Calls Tryz.prog 215 [.slice a1 n1 c1,.pointer (some ⟨bq_n,0,none⟩)].toArray w (Af fun rv w'=>rv=.bool ((x==n))∧Ext w w'):=by
 cases h1.len
 refine goT func215 ?_
 have Z:=(((St.i0 F w).p h1).p h2).pb' hb_n
 exact .s<|.g<|.r 1<|.d<|.s<|.g<|.r 1<|RG.Lh 0 0 Z<|RG.C0 (Ca x n (Z.a 2) (Z.a 1)) Z fun w Z=>.r 1<|.d<|T.rt func215 results215 (.bool (x==n)) ⟨(AG (by simp_all)),Z.xt⟩
theorem JB (s:List (List Tag)) (n:List Tag) (h1:RepS w F a1 n1 c1 s){bq_n:Nat}{a2:Option Addr}{c2:Nat}(hb_n:Box w bq_n 69 [.slice a2 n.length c2]) (h2:RepS w F a2 n.length c2 n)  : Calls Tryz.prog 214 [.slice a1 n1 c1,.func (.func 215) #[] #[.pointer (some ⟨bq_n,0,none⟩)]].toArray w (Af fun rv w'=>rv=.int .i64 (Dd n 0 s)∧Ext w w'):=by
 refine goT func214 ?_
 obtain ⟨rfl,ax,h1⟩:=h1.tp
 replace h2:=h2.top (s:=w.heap.size)
 refine .s<|.g<|.r 1<|.d<|.s<|.s<|.g<|.r 3<|.d<|.b 0<|T.loop (X:=Nat) 0 (fun k=>[(0,.slice a1 s.length c1),(1,.func (.func 215) #[] #[.pointer (some ⟨bq_n,0,none⟩)]),(7,vI (s.length:Int)),(8,vI (k:Int))]) (fun k ac=>Chg (ins []) w ac∧(k≤s.length)∧(Dd n k (s.drop k)=Dd n 0 s)) (fun k=>s.length - k) AA ⟨AA,AA,AA,AA,trivial⟩ ⟨Chg.refl _ _,AD,AD⟩ ?_
 rintro k aE ac ⟨aa,az,aA⟩ ae
 have ag:Mv [] [] w ac:=Mv.inl aa all_nil all_nil
 replace ⟨h1,h2,hb_n⟩:=(sp ag aa).g3 h1 h2 hb_n
 have ab:Chg nil w ac:=Chg.O6 (Chg.refl nil w) aa all_nil
 refine .s<|.g<|.bp ((k:Int)< (s.length:Int)) (fun ak=>?_) (fun ak=>.d<|.s<|.cf<|.x 0 rfl<|.s<|.g<|.r 1<|.d<|.rt func214 results214 (vI (-1)) ⟨(congrArg (Value.int .i64) (by grind [Dd,Aa])),ab⟩)
 refine .d<|.s<|.ct<|.sk<|.s<|.b 1<|.s<|.g<|.r 2<|.d<|.s<|.g<|.r 3 ?_
 have am:k< s.length:=AB
 refine .ix k 1 h1 am ?_
 obtain ⟨ai,af⟩:∃ y,s[k]? = some y:=⟨_,AU AB⟩
 have aB:=Ab af
 obtain ⟨_,⟨aF,aG,aH,rfl,aj⟩,ao⟩:=h1.elem k ai af
 have aq:=aj.len
 subst aq
 refine .lh 0 ao<|.cl (JA ai n aj.ta hb_n h2.ta (w:=ac) (F:=all)) ?_
 rintro aI aJ ⟨rfl,ah⟩
 replace ⟨hb_n,ab,aa⟩:=(se [] ah).g3 hb_n ab aa
 cases aD:(ai==n)
 ·exact .d<|.cf<|.sk<|.ib 1<|.g<|.it ((k:Int)+1)<|.r 1<|.d<|ae (k+1) _ _ ⟨AA,AA,AA,AA,trivial⟩ ⟨aa,AB,(by grind [Dd])⟩ AB
 exact .d<|.ct<|.s<|.g<|.r 2<|.d<|.rt func214 results214 (vI (k:Int)) ⟨(congrArg (Value.int .i64) (by grind [Dd,Aa])),ab⟩
theorem Gr (names:List (List Tag)) (n:List Tag) (h1:RepS w F a1 n1 c1 names) (h2:RepS w F a2 n2 c2 n)  : Calls Tryz.prog 179 [.slice a1 n1 c1,.slice a2 n2 c2].toArray w (Af fun rv w'=>rv=.int .i64 ((Dd n 0 names+1))∧Ext w w'):=by
 cases h1.len
 cases h2.len
 refine goT func179 ?_
 have Z:=((St.i0 F w).p h1).p h2
 have aa:=h1.max
 exact .s<|.g<|RG.Np Z fun ac w Z=>.r 1<|.d<|.s<|.g<|.r 2<|RG.C0 (JB names n (Z.a 1) (Z.bc 0) (Z.a 0)) Z fun w Z=>RG.int (Dd n 0 names+1) AA (by have:=Vw n names 0; omega)<|.r 1<|.d<|T.rt func179 results179 (vI (Dd n 0 names+1)) ⟨(congrArg (Value.int .i64) AF),Z.xt⟩
theorem Ju (p:Pst) (t:Tag) (h1:RepS w F a1 n1 c1 p.ids){bq_t:Nat}(hb_t:Box w bq_t 118 [.string (bs t.key),.string (bs t.val)])  : Calls Tryz.prog 163 [.agg #[.string (bs p.tag.key),.string (bs p.tag.val),.slice a1 n1 c1],.pointer (some ⟨bq_t,0,none⟩)].toArray w (Af fun rv w'=>rv=.bool ((p.tag==t))∧Ext w w'):=by
 cases h1.len
 refine goT func163 ?_
 have Z:=((St.i0 F w).p h1).pb' hb_t
 exact .s<|.g<|RG.Np Z fun ab w Z=>.r 1<|.d<|.s<|.g<|.r 1<|RG.Ln 0 Z<|RG.Lg 0 0 Z<|RG.RO (t:=118) (x:=p.tag) (y:=t) AA AA<|.r 1<|.d<|T.rt func163 results163 (.bool (p.tag==t)) ⟨(AG (by simp_all)),Z.xt⟩
theorem Fh (s:List Pst) (t:Tag) (h1:RepS w F a1 n1 c1 s){bq_t:Nat}(hb_t:Box w bq_t 118 [.string (bs t.key),.string (bs t.val)])  : Calls Tryz.prog 162 [.slice a1 n1 c1,.func (.func 163) #[] #[.pointer (some ⟨bq_t,0,none⟩)]].toArray w (Af fun rv w'=>rv=.int .i64 (Bi t 0 s)∧Ext w w'):=by
 refine goT func162 ?_
 obtain ⟨rfl,ax,h1⟩:=h1.tp
 refine .s<|.g<|.r 1<|.d<|.s<|.s<|.g<|.r 3<|.d<|.b 0<|T.loop (X:=Nat) 0 (fun k=>[(0,.slice a1 s.length c1),(1,.func (.func 163) #[] #[.pointer (some ⟨bq_t,0,none⟩)]),(7,vI (s.length:Int)),(8,vI (k:Int))]) (fun k ac=>Chg (ins []) w ac∧(k≤s.length)∧(Bi t k (s.drop k)=Bi t 0 s)) (fun k=>s.length - k) AA ⟨AA,AA,AA,AA,trivial⟩ ⟨Chg.refl _ _,AD,AD⟩ ?_
 rintro k aD ac ⟨aa,ay,az⟩ ae
 have ag:Mv [] [] w ac:=Mv.inl aa all_nil all_nil
 replace ⟨h1,hb_t⟩:=(sp ag aa).g2 h1 hb_t
 have ab:Chg nil w ac:=Chg.O6 (Chg.refl nil w) aa all_nil
 refine .s<|.g<|.bp ((k:Int)< (s.length:Int)) (fun ak=>?_) (fun ak=>.d<|.s<|.cf<|.x 0 rfl<|.s<|.g<|.r 1<|.d<|.rt func162 results162 (vI (-1)) ⟨(congrArg (Value.int .i64) (by grind [Bi,Aa])),ab⟩)
 refine .d<|.s<|.ct<|.sk<|.s<|.b 1<|.s<|.g<|.r 2<|.d<|.s<|.g<|.r 3 ?_
 have am:k< s.length:=AB
 refine .ix k 3 h1 am ?_
 obtain ⟨ai,af⟩:∃ y,s[k]? = some y:=⟨_,AU AB⟩
 have aA:=Ab af
 obtain ⟨_,⟨aE,aF,aG,rfl,aj⟩,ao⟩:=h1.elem k ai af
 have aq:=aj.len
 subst aq
 refine .lg 0 ao<|.cl (Ju ai t aj.ta hb_t (w:=ac) (F:=all)) ?_
 rintro aH aI ⟨rfl,ah⟩
 replace ⟨hb_t,ab,aa⟩:=(se [] ah).g3 hb_t ab aa
 cases aC:(ai.tag==t)
 ·exact .d<|.cf<|.sk<|.ib 1<|.g<|.it ((k:Int)+1)<|.r 1<|.d<|ae (k+1) _ _ ⟨AA,AA,AA,AA,trivial⟩ ⟨aa,AB,(by grind [Bi])⟩ AB
 exact .d<|.ct<|.s<|.g<|.r 2<|.d<|.rt func162 results162 (vI (k:Int)) ⟨(congrArg (Value.int .i64) (by grind [Bi,Aa])),ab⟩
theorem Jv (a:Pst) (b_:Pst) (h1:RepS w F a1 n1 c1 a.ids) (h2:RepS w F a2 n2 c2 b_.ids)  : Calls Tryz.prog 212 [.agg #[.string (bs a.tag.key),.string (bs a.tag.val),.slice a1 n1 c1],.agg #[.string (bs b_.tag.key),.string (bs b_.tag.val),.slice a2 n2 c2]].toArray w (Af fun rv w'=>rv=.bool ((a==b_))∧Ext w w'):=by
 cases h1.len
 cases h2.len
 refine goT func212 ?_
 have Z:=((St.i0 F w).p h1).p h2
 refine .s<|.g<|RG.Np Z fun ae w Z=>RG.Np Z fun af w Z=>.r 1<|.d<|.s<|.g<|.r 1<|RG.Ln 1 Z<|.r 1<|RG.Ln 0 Z<|RG.RO (t:=118) (x:=a.tag) (y:=b_.tag) AA AA ?_
 cases ac:(a.tag==b_.tag)
 ·exact .r 8<|.d<|T.rt func212 results212 (.bool false) ⟨(AG (by exact V0 ‹_›)),Z.xt⟩
 exact .r 2<|RG.Lb 1 Z<|.r 1<|RG.Lb 0 Z<|RG.C0 (ED a.ids b_.ids (Z.a 1) (Z.a 0)) Z fun w Z=>.r 2<|.d<|T.rt func212 results212 (.bool (a.ids==b_.ids)) ⟨(AG (by exact Vz ‹_›)),Z.xt⟩
theorem JC (s1:List Pst) (s2:List Pst) (h1:RepS w F a1 n1 c1 s1) (h2:RepS w F a2 n2 c2 s2)  : Calls Tryz.prog 211 [.slice a1 n1 c1,.slice a2 n2 c2,.func (.func 212) #[] #[]].toArray w (Af fun rv w'=>rv=.bool ((s1==s2))∧Ext w w'):=by
 cases h1.len
 cases h2.len
 refine goT func211 ?_
 have Z:=((St.i0 F w).p h1).p h2
 have ak:=h1.max
 refine .s<|.g<|.r 1<|.d<|.s<|.s<|.g<|.r 4<|.ne (s1.length:Int) (s2.length:Int) (fun ae=>.d<|.ct<|.s<|.g<|.r 1<|.d<|T.rt func211 results211 (.bool false) ⟨(AG (by grind [Aa])),Z.xt⟩) fun ae=>.d<|.cf<|.sk<|.s<|.s<|.g<|.r 3<|.d<|.b 0<|T.Lp (0:Nat) (fun k=>([(1,.slice a2 s2.length c2),(2,.func (.func 212) #[] #[]),(15,.slice a1 s1.length c1),(16,vI (s1.length:Int)),(17,vI (k:Int))],[],[],s1.length - k,(k≤s1.length)∧(s1.drop k=s2.drop k↔s1=s2))) [] Z ⟨AD,AD⟩ ?_
 rintro k az w Z ⟨ao,aq⟩ ac
 refine .s<|.g<|.bp ((k:Int)< (s1.length:Int)) (fun af=>?_) (fun af=>.d<|.s<|.cf<|.x 0 rfl<|.s<|.g<|.r 1<|.d<|T.rt func211 results211 (.bool true) ⟨(AG (by grind [Aa])),Z.xt⟩)
 refine .d<|.s<|.ct<|.sk<|.s<|.b 1<|.s<|.g<|.r 1<|gx s1 k fun ag aa=>?_
 have ar:=Ab aa
 refine RG.Ix 1 aa Z<|Z.el 1 aa fun aA aB Z=>RG.Lg 0 0 Z<|RG.Np Z fun aC w Z=>.r 1<|RG.Ss 0 Z fun w Z=>.d<|.s<|.g<|.r 2<|gx s2 k fun ah ab=>?_
 have ax:=Ab ab
 refine RG.Ix 2 ab Z<|Z.el 2 ab fun aD aE Z=>RG.Lg 0 0 Z<|RG.Np Z fun aF w Z=>RG.Ss 0 Z fun w Z=>.d<|.s<|.g<|.r 1<|RG.Ln 1 Z<|RG.Ln 0 Z<|RG.C0 (Jv ag ah (Z.a 3) (Z.a 1)) Z fun w Z=>?_
 cases ay:(ag==ah)
 ·exact .r 1<|.d<|.ct<|.s<|.g<|.r 1<|.d<|T.rt func211 results211 (.bool false) ⟨(AG (by grind [Aa])),Z.xt⟩
 exact .r 1<|.d<|.cf<|.sk<|.ib 1<|.g<|.it ((k:Int)+1)<|.r 1<|.d<|ac (k+1) _ _ AA (Z.to 2 [] 4) ⟨AB,(by grind)⟩ (by (simp only []; omega))
end Go.Proofs.YtcginoabkicdiaaGreat
namespace Go.Proofs.YtcginoabkicdiaaGreat
theorem V1 {α:Type}(xs:List α) (x y:α):(xs++[x]).set xs.length y=xs++[y]:=by simp
theorem V3 {α:Type}(xs:List α) (x:α):(xs++[x])[xs.length]? = some x:=by simp
structure RP where
 key:Str
 val:Str
 a:Option Addr
 n:Nat
 c:Nat
instance:Rep RP where
 sz:=3
 rep _ _ x cs:=cs=[.string (bs x.key),.string (bs x.val),.slice x.a x.n x.c]
 len:=by rintro w F x cs rfl; rfl
 pos:=by decide
 flat:=by rintro w F x cs rfl v hv; simp at hv; rcases hv with rfl | rfl | rfl <;> rfl
 frame:=by rintro w w' F F' x cs rfl _; rfl
theorem H5:Flat RP:=fun _ _ _ _ _ _ h=>h
def Ku (tI:TypeId) (w:World) (y:RP) (ri:Nat) (ids:List Int):Prop :=
 (y.a=none∧y.n=0∧y.c=0∧ids=[])∨(y.a=some ⟨ri,0,none⟩∧Own w ri tI all y.n y.c ids)
structure IX (tX tP tI s0 s1:Nat) (G:Nat→Prop) (w:World) (b3 r c:Nat) (an:Option Addr) (nn cn:Nat) (nms:List (List Tag)) (ys:List RP) (xs:List Pst) (rs:List Nat):Prop where
 hs:s0≤s1
 hG:∀ b,G b→b< s1
 nm:RepS w G an nn cn nms
 box:Box w b3 tX [.slice an nn cn,.slice (some ⟨r,0,none⟩) ys.length c]
 own:Own w r tP all ys.length c ys
 nd:(b3::r::rs).Nodup
 new:∀ b∈b3::r::rs,s1≤b
 lt:∀ b∈b3::r::rs,b< w.heap.size
 lx:ys.length=xs.length
 lr:rs.length=xs.length
 el:∀ (i:Nat) (x:Pst) (y:RP) (ri:Nat),xs[i]? = some x→ys[i]? = some y→rs[i]? = some ri→y.key=x.tag.key∧y.val=x.tag.val∧Ku tI w y ri x.ids
section
variable {tX tP tI s0 s1:Nat} {w w' w2 w3:World} {b3 r c:Nat} {an:Option Addr} {nn cn:Nat} {nms:List (List Tag)} {ys:List RP} {xs:List Pst} {rs:List Nat} {S G:Nat→Prop}
theorem Ku.chg {y:RP}{ri:Nat}{ids:List Int}(h:Ku tI w y ri ids) (hx:Chg S w w') (hr:¬ S ri):Ku tI w' y ri ids:=by
 rcases h with h | ⟨h1,h2⟩
 ·exact .inl h
 ·refine .inr ⟨h1,?_⟩
  have:=(h2.flat Av (F':=fun _=>False)).chg hx hr (fun b hb _=>hb.elim)
  exact this.flat Av
theorem PS {α:Type}[Rep α] {r t n c:Nat}{xs:List α}(hf:Flat α) (h:Own w r t all n c xs) (hx:Chg S w w') (hr:¬ S r):Own w' r t all n c xs :=
 ((h.flat hf (F':=fun _=>False)).chg hx hr (fun b hb _=>hb.elim)).flat hf
theorem IX.chg (h:IX tX tP tI s0 s1 G w b3 r c an nn cn nms ys xs rs) (hx:Chg S w w') (hS:∀ b∈b3::r::rs,¬ S b) (h1:∀ b,b< s1→¬ S b):IX tX tP tI s0 s1 G w' b3 r c an nn cn nms ys xs rs :=
 ⟨h.hs,h.hG,h.nm.chg hx (fun b hb=>h1 b (h.hG b hb)),h.box.chg hx (hS _ AD),PS H5 h.own hx (hS _ AD),h.nd,h.new,fun b hb=>Nat.lt_of_lt_of_le (h.lt b hb) hx.size,h.lx,h.lr,
  fun i x y ri h2 h3 h4=>by
   obtain ⟨g1,g2,g3⟩:=h.el i x y ri h2 h3 h4
   exact ⟨g1,g2,g3.chg hx (hS _ (by simp [AV h4]))⟩⟩
theorem IX.ext (h:IX tX tP tI s0 s1 G w b3 r c an nn cn nms ys xs rs) (hx:Ext w w'):IX tX tP tI s0 s1 G w' b3 r c an nn cn nms ys xs rs:=h.chg hx (fun _ _ h=>h) (fun _ _ h=>h)
theorem IX.one {b:Nat}(h:IX tX tP tI s0 s1 G w b3 r c an nn cn nms ys xs rs) (hx:Chg (Go.Proofs.YtcginoabkicdiaaGreat.one b) w w') (hb:∀ q∈b3::r::rs,Nb b q) (h1:s1≤b):IX tX tP tI s0 s1 G w' b3 r c an nn cn nms ys xs rs :=
 h.chg hx (fun q hq e=>(hb q hq).ne (by unfold Go.Proofs.YtcginoabkicdiaaGreat.one at e; exact e.symm)) (fun q hq e=>by unfold Go.Proofs.YtcginoabkicdiaaGreat.one at e; omega)
theorem IX.rep (h:IX tX tP tI s0 s1 G w b3 r c an nn cn nms ys xs rs):RepS w all (some ⟨r,0,none⟩) ys.length c xs:=by
 have h0:=h.own.rep
 refine ⟨h.lx,h0.le,h0.cap,h0.addr,h0.inF,fun i x hi=>?_⟩
 obtain ⟨hl,_⟩:=List.getElem?_eq_some_iff.1 hi
 have hy:ys[i]? = some (ys[i]'(by rw [h.lx]; exact hl)):=AU _
 have hr:rs[i]? = some (rs[i]'(by rw [h.lr]; exact hl)):=AU _
 obtain ⟨cs,g1,g2⟩:=h0.elem i _ hy
 obtain ⟨e1,e2,e3⟩:=h.el i x _ _ hi hy hr
 cases g1
 refine ⟨_,?_,g2⟩
 rw [e1,e2]
 rcases e3 with ⟨a1,a2,a3,a4⟩ | ⟨a1,a2⟩
 ·rw [a1,a2,a3]
  refine ⟨none,0,0,rfl,?_⟩
  rw [a4]
  exact RepS.Bv _ _ none 0 AE
 ·rw [a1]
  exact ⟨_,_,_,rfl,a2.rep⟩
theorem IX.done (h:IX tX tP tI s0 s1 G w b3 r c an nn cn nms ys xs rs):Own w r tP (nin (ge s1) [b3,r]) ys.length c xs:=by
 refine ⟨h.lx,h.own.le,h.own.cap,h.own.row,fun i x hi=>?_⟩
 obtain ⟨hl,_⟩:=List.getElem?_eq_some_iff.1 hi
 have hy:ys[i]? = some (ys[i]'(by rw [h.lx]; exact hl)):=AU _
 have hr:rs[i]? = some (rs[i]'(by rw [h.lr]; exact hl)):=AU _
 obtain ⟨cs,g1,g2⟩:=h.own.elem i _ hy
 obtain ⟨e1,e2,e3⟩:=h.el i x _ _ hi hy hr
 cases g1
 refine ⟨_,?_,g2⟩
 rw [e1,e2]
 have hm:=AV hr
 have hnd:=h.nd
 simp only [List.nodup_cons,List.mem_cons,not_or] at hnd
 have hge:=h.new (rs[i]'(by rw [h.lr]; exact hl)) (by simp [hm])
 rcases e3 with ⟨a1,a2,a3,a4⟩ | ⟨a1,a2⟩
 ·rw [a1,a2,a3]
  refine ⟨none,0,0,rfl,?_⟩
  rw [a4]
  exact RepS.Bv _ _ none 0 AE
 ·rw [a1]
  refine ⟨_,_,_,rfl,(a2.flat Av (F':=fun _=>False)).QQ (fun _ _ hf=>hf.elim) ⟨⟨?_,?_⟩,?_⟩⟩
  ·show s1≤_
   omega
  ·simp only [List.mem_cons,List.not_mem_nil,or_false,not_or]
   exact ⟨fun e=>hnd.1.2 (e▸hm),fun e=>hnd.2.1 (e▸hm)⟩
  ·exact fun e=>hnd.2.1 (e▸hm)
theorem IX.names (h:IX tX tP tI s0 s1 G w b3 r c an nn cn nms ys xs rs):RepS w (nin G [b3,r]) an nn cn nms:=h.nm.Bj fun b _ hb=>⟨hb,by
 simp only [List.mem_cons,List.not_mem_nil,or_false,not_or]
 have h1:=h.new b3 AD
 have h2:=h.new r AD
 have h3:=h.hG b hb
 exact ⟨by omega,by omega⟩⟩
def GN (s0 s1 b2 b:Nat):Prop:=s0≤b∧b< s1∧b≠b2
theorem GN.lt {s0 s1 b2:Nat}:∀ b,GN s0 s1 b2 b→b< s1:=fun _ h=>h.2.1
theorem RepS.ZL {α:Type}[Rep α] {w:World}{s0 b2 n c:Nat}{o:Option Addr}{xs:List α}(h:RepS w (nin (ge s0) [b2]) o n c xs):RepS w (GN s0 w.heap.size b2) o n c xs:=h.Bj fun b hb hF=>⟨hF.1,hb,fun e=>hF.2 (by simp [e])⟩
theorem RepS.low {α:Type}[Rep α] {w w':World}{F:Nat→Prop}{s1 b n c:Nat}{o:Option Addr}{xs:List α}(h:RepS w (ltG F s1) o n c xs) (hx:Chg (Go.Proofs.YtcginoabkicdiaaGreat.one b) w w') (hb:s1≤b):RepS w' (ltG F s1) o n c xs :=
 h.chg hx (fun k hk e=>by unfold Go.Proofs.YtcginoabkicdiaaGreat.one at e; have:=hk.2; omega)
variable {w:World} {F:Nat→Prop}
theorem RepS.XM {α:Type}[Rep α] {n c:Nat}{o:Option Addr}{xs:List α}(h:RepS w F o n c xs):RepS w (ltG all w.heap.size) o n c xs:=h.Bj fun _ hb _=>⟨trivial,hb⟩
theorem IX.ZM {tX tP tI s0 s1:Nat}{w:World}{b3 r:Nat}{an:Option Addr}{nn cn:Nat}{nms:List (List Tag)}{G:Nat→Prop}{F:Nat→Prop}(hs:s0≤s1) (hG:∀ b,G b→b< s1) (hn:RepS w G an nn cn nms) (hb:Box w b3 tX [.slice an nn cn,.slice (some ⟨r,0,none⟩) 0 0])
 (ho:Own w r tP F 0 0 ([]:List Pst)) (hne:Nb b3 r) (h3:s1≤b3) (hr:s1≤r):IX tX tP tI s0 s1 G w b3 r 0 an nn cn nms [] [] [] :=
 ⟨hs,hG,hn,hb,⟨rfl,Nat.le_refl _,by decide,ho.row,fun i x hi=>by simp at hi⟩,by simp; exact hne.ne,fun b hb'=>by simp at hb'; rcases hb' with rfl | rfl <;> assumption,
  fun b hb'=>by simp at hb'; rcases hb' with rfl | rfl; exact hb.lt; exact ho.lt,rfl,rfl,fun i x y ri hi=>by simp at hi⟩
theorem Cov.ge {w:World}{b:Nat}(h:Cov nil w b):w.heap.size≤b:=h.or.resolve_left (fun h=>h)
section
variable {tX tP tI s0 s1:Nat} {w w':World} {b3 b2 r c:Nat} {an:Option Addr} {nn cn:Nat} {nms:List (List Tag)} {ys:List RP} {xs:List Pst} {rs:List Nat} {G:Nat→Prop}
theorem IX.XN (h:IX tX tP tI s0 s1 G w b3 r c an nn cn nms ys xs rs) (hb:b2< s1):Own w r tP (nin (ge s0) [b3,r,b2]) ys.length c xs:=h.done.Bj fun b _ hF=>⟨Nat.le_trans h.hs hF.1,by
 have h1:s1≤b:=hF.1
 have h2:=hF.2
 simp only [List.mem_cons,List.not_mem_nil,or_false,not_or] at h2 ⊢
 exact ⟨h2.1,h2.2,by omega⟩⟩
theorem IX.Tk (h:IX tX tP tI s0 s1 (GN s0 s1 b2) w b3 r c an nn cn nms ys xs rs):RepS w (nin (ge s0) [b3,r,b2]) an nn cn nms:=h.names.Bj fun b _ hF=>⟨hF.1.1,by
 have h2:=hF.2
 simp only [List.mem_cons,List.not_mem_nil,or_false,not_or] at h2 ⊢
 exact ⟨h2.1,h2.2,hF.1.2.2⟩⟩
theorem IX.ne (h:IX tX tP tI s0 s1 G w b3 r c an nn cn nms ys xs rs):Nb b3 r:=by
 have:=h.nd
 simp only [List.nodup_cons,List.mem_cons,not_or] at this
 exact ⟨this.1.1⟩
theorem IX.ne3 {i ri:Nat}(h:IX tX tP tI s0 s1 G w b3 r c an nn cn nms ys xs rs) (hr:rs[i]? = some ri):Nb b3 ri:=by
 have:=h.nd
 simp only [List.nodup_cons,List.mem_cons,not_or] at this
 exact ⟨fun e=>this.1.2 (e▸AV hr)⟩
theorem IX.ner {i ri:Nat}(h:IX tX tP tI s0 s1 G w b3 r c an nn cn nms ys xs rs) (hr:rs[i]? = some ri):Nb r ri:=by
 have:=h.nd
 simp only [List.nodup_cons,List.mem_cons,not_or] at this
 exact ⟨fun e=>this.2.1 (e▸AV hr)⟩
theorem IX.mi {i ri:Nat}(hr:rs[i]? = some ri):ri∈b3::r::rs:=by simp [AV hr]
theorem RepS.via {α:Type}[Rep α] {wc wa wb:World}{n c':Nat}{o:Option Addr}{zs:List α}(h:RepS wa (ltG all wc.heap.size) o n c' zs) (ha:Ext wc wa) (hb:Ext wc wb):RepS wb (ltG all wc.heap.size) o n c' zs :=
 h.frame fun b _ hF=>⟨hF,by rw [hb.block hF.2,ha.block hF.2]⟩
theorem Tl {xs:List Pst}{t:Tag}{m:Nat}{x:Pst}{z:Int}(hx:(xs++[⟨t,[]⟩])[m]? = some x) (hm:m=xs.length):(xs++[(⟨t,[]⟩:Pst)]).set m ⟨x.tag,x.ids++[z]⟩=xs++[⟨t,[z]⟩]:=by
 subst hm
 rw [V3] at hx
 cases hx
 rw [V1]
 rfl
theorem Ku.n {y:RP}{ri:Nat}{ids:List Int}(h:Ku tI w y ri ids):y.n=ids.length:=by
 rcases h with ⟨_,h2,_,h4⟩ | ⟨_,h2⟩
 ·rw [h2,h4]; rfl
 ·exact h2.len
end
def E9 (k:Int) (xs:List Pst) (t:Tag):List Pst :=
 if Bi t 0 xs< 0 then xs++[⟨t,[k]⟩] else match xs[(Bi t 0 xs).toNat]? with
  | some x=>xs.set (Bi t 0 xs).toNat ⟨x.tag,x.ids++[k]⟩
  | none=>xs
def HR:Nat→List Pst→List (List Tag)→List Pst
 | _,xs,[]=>xs
 | i,xs,n::ns=>HR (i+1) (n.foldl (E9 ((i:Int)+1)) xs) ns
theorem Jw (t:Tag):∀ (xs:List Pst) (i:Nat),(Bi t i xs = -1∧∀ x∈xs,x.tag≠t)∨((i:Int)≤Bi t i xs∧Bi t i xs< (i:Int)+xs.length∧∃ x,xs[(Bi t i xs).toNat - i]? = some x∧x.tag=t):=by
 intro xs
 induction xs with
 | nil=>intro i; left; simp [Bi]
 | cons x xs ih =>
   intro i
   unfold Bi
   by_cases hx:(x.tag==t)=true
   ·right
    rw [if_pos hx]
    exact ⟨by omega,by simp only [List.length_cons]; omega,x,by simp,eq_of_beq hx⟩
   ·rw [if_neg hx]
    rcases ih (i+1) with ⟨h1,h2⟩ | ⟨h1,h2,y,h3,h4⟩
    ·left
     refine ⟨h1,fun z hz=>?_⟩
     rcases List.mem_cons.1 hz with rfl | hz
     ·exact fun e=>hx (by simp [e])
     ·exact h2 z hz
    ·right
     refine ⟨by omega,by simp only [List.length_cons]; omega,y,?_,h4⟩
     rw [show (Bi t (i+1) xs).toNat - i=((Bi t (i+1) xs).toNat - (i+1))+1 by omega,List.getElem?_cons_succ]
     exact h3
theorem Ri {t:Tag}{xs:List Pst}(h:¬ Bi t 0 xs< 0):(Bi t 0 xs).toNat< xs.length:=by
 rcases Jw t xs 0 with ⟨h1,_⟩ | ⟨_,h2,_⟩
 ·omega
 ·omega
theorem JD {k:Int}{xs:List Pst}{t:Tag}(h:Bi t 0 xs< 0):E9 k xs t=xs++[⟨t,[k]⟩]:=by unfold E9; rw [if_pos h]
theorem JE {k:Int}{xs:List Pst}{t:Tag}{x:Pst}(h:¬ Bi t 0 xs< 0) (hx:xs[(Bi t 0 xs).toNat]? = some x):E9 k xs t=xs.set (Bi t 0 xs).toNat ⟨x.tag,x.ids++[k]⟩:=by unfold E9; rw [if_neg h,hx]
theorem JF (k:Int) (xs:List Pst) (t:Tag) (m:Nat) (h1:xs.length≤m) (h2:∀ x∈xs,x.ids.length≤m):(E9 k xs t).length≤m+1∧∀ x∈E9 k xs t,x.ids.length≤m+1:=by
 unfold E9
 split
 ·refine ⟨by simp; omega,fun x hx=>?_⟩
  rcases List.mem_append.1 hx with hx | hx
  ·have:=h2 x hx; omega
  ·simp at hx; subst hx; simp
 ·split
  ·rename_i x hx
   refine ⟨by simp; omega,fun z hz=>?_⟩
   rcases List.mem_or_eq_of_mem_set hz with hz | rfl
   ·have:=h2 z hz; omega
   ·have:=h2 x (AV hx); simp; omega
  ·exact ⟨by omega,fun x hx=>by have:=h2 x hx; omega⟩
theorem Rj {i:Nat}{xs ys:List Pst}{ns:List (List Tag)}{n:List Tag}{Y:List Pst}(h:HR i xs (ns.drop i)=Y) (hd:ns.drop i=n::ns.drop (i+1)) (hy:ys=n.foldl (E9 ((i:Int)+1)) xs):HR (i+1) ys (ns.drop (i+1))=Y:=by
 rw [hd] at h
 subst hy
 exact h
theorem Tm {i:Nat}{xs:List Pst}{ns:List (List Tag)}{Y:List Pst}(h:HR i xs (ns.drop i)=Y) (hi:ns.length≤i):xs=Y:=by
 rw [Aa hi] at h
 exact h
theorem IX.push {r2 c2 vb:Nat}{t:Tag}(h:IX tX tP tI s0 s1 G w b3 r c an nn cn nms ys xs rs) (hs1:s1≤w.heap.size) (hx:Chg (Go.Proofs.YtcginoabkicdiaaGreat.one r) w w2) (ho:Own w2 r2 tP all (ys.length+1) c2 (ys++[⟨t.key,t.val,none,0,0⟩]))
 (hor:r2=r∨r2=w.heap.size) (hv:∀ q∈b3::r::rs,Nb vb q) (hv1:s1≤vb) (hv2:vb< w.heap.size) (hx3:Chg (Go.Proofs.YtcginoabkicdiaaGreat.one b3) w2 w3)
 (hb:Box w3 b3 tX [.slice an nn cn,.slice (some ⟨r2,0,none⟩) (ys.length+1) c2]) :
 IX tX tP tI s0 s1 G w3 b3 r2 c2 an nn cn nms (ys++[⟨t.key,t.val,none,0,0⟩]) (xs++[⟨t,[]⟩]) (rs++[vb]):=by
 have hnd:=h.nd
 simp only [List.nodup_cons,List.mem_cons,not_or] at hnd
 obtain ⟨⟨n1,n2⟩,n3,n4⟩:=hnd
 have hb3:=h.lt b3 AD
 have hrr:=h.lt r AD
 have hrs:∀ q∈rs,q< w.heap.size∧q≠b3∧q≠r∧q≠vb:=fun q hq=>⟨h.lt q (by simp [hq]),fun e=>n2 (e▸hq),fun e=>n3 (e▸hq),fun e=>(hv q (by simp [hq])).ne e.symm⟩
 have hvb3:=(hv b3 AD).ne
 have hvr:=(hv r AD).ne
 have e3:b3≠r2:=by rcases hor with rfl | rfl <;> omega
 have e4:∀ q∈rs,q≠r2:=fun q hq=>by have:=hrs q hq; rcases hor with rfl | rfl <;> omega
 have e5:vb≠r2:=by rcases hor with rfl | rfl; exact hvr; omega
 have hnew3:=h.new b3 AD
 have hnewr:=h.new r AD
 have z2:=hx.size
 have z3:=hx3.size
 refine ⟨h.hs,h.hG,(h.nm.chg hx (fun b hb e=>by unfold Go.Proofs.YtcginoabkicdiaaGreat.one at e; have:=h.hG b hb; omega)).chg hx3 (fun b hb e=>by unfold Go.Proofs.YtcginoabkicdiaaGreat.one at e; have:=h.hG b hb; omega),
  by simpa using hb,by simpa using PS H5 ho hx3 (fun e=>e3 e.symm),?_,?_,?_,by simp [h.lx],by simp [h.lr],?_⟩
 ·simp only [List.nodup_cons,List.mem_cons,List.mem_append,List.not_mem_nil,or_false,not_or,List.nodup_append,List.nodup_nil]
  exact ⟨⟨e3,n2,fun e=>hvb3 e.symm⟩,⟨fun hm=>e4 _ hm rfl,fun e=>e5 e.symm⟩,n4,by simp,fun a ha b hb=>by subst hb; exact (hrs a ha).2.2.2⟩
 ·intro b hb
  simp only [List.mem_cons,List.mem_append,List.not_mem_nil,or_false] at hb
  rcases hb with rfl | rfl | hb | rfl
  ·exact hnew3
  ·rcases hor with rfl | rfl
   ·exact hnewr
   ·exact hs1
  ·exact h.new b (by simp [hb])
  ·exact hv1
 ·intro b hb
  simp only [List.mem_cons,List.mem_append,List.not_mem_nil,or_false] at hb
  rcases hb with rfl | rfl | hb | rfl
  ·omega
  ·have:=ho.lt; omega
  ·have:=(hrs b hb).1; omega
  ·omega
 ·intro i x y ri g1 g2 g3
  rw [List.getElem?_append] at g1 g2 g3
  have l1:=h.lx
  have l2:=h.lr
  by_cases hi:i< xs.length
  ·rw [if_pos hi] at g1
   rw [if_pos AB] at g2
   rw [if_pos AB] at g3
   obtain ⟨a1,a2,a3⟩:=h.el i x y ri g1 g2 g3
   have hq:=hrs ri (AV g3)
   exact ⟨a1,a2,(a3.chg hx (fun e=>hq.2.2.1 e)).chg hx3 (fun e=>hq.2.1 e)⟩
  ·rw [if_neg hi] at g1
   rw [if_neg AB] at g2
   rw [if_neg AB] at g3
   have h0:i - xs.length=0:=by
    rcases hk:i - xs.length with _ | k
    ·rfl
    ·rw [hk] at g1; simp at g1
   rw [h0] at g1
   rw [show i - ys.length=0 by omega] at g2
   simp at g1 g2
   subst g1 g2
   exact ⟨rfl,rfl,.inl ⟨rfl,rfl,rfl,rfl⟩⟩
theorem Ku.app {P:Program}{T ty:TypeId}{y:RP}{ri vb:Nat}{ids:List Int}{z:Int}(h:Ku tI w y ri ids) (hT:E2 P T tI 1=true) (hB:Box w vb tI [.int .i64 z]) (hv:vb≠ri) (hl:y.n≤5000000) :
 ∃ r2 c2 w', (Builtin.append_ #[T, T] ty #[.slice y.a y.n y.c, .slice (some ⟨vb, 0, none⟩) 1 1]).run P w = .ok (.slice (some ⟨r2, 0, none⟩) (y.n + 1) c2) w' ∧
   Own w' r2 tI all (y.n+1) c2 (ids++[z])∧(r2=ri∨r2=w.heap.size)∧Chg (Go.Proofs.YtcginoabkicdiaaGreat.one ri) w w':=by
 rcases h with ⟨a1,a2,a3,a4⟩ | ⟨a1,a2⟩
 ·obtain ⟨g1,inf,z0,hinf,hsz,hby,hz,hzs⟩:=FB hT
  rw [a1,a2,a3,a4]
  have hBx:=hB
  unfold Box at hBx
  have hnews:∀ j v,[Value.int .i64 z][j]? = some v→w.cell? ((⟨vb,0,none⟩:Addr).add j)=some v:=fun j v hj=>by
   rw [add_lit]
   simp only [World.cell?,hBx]
   simpa using hj
  have hr:=run_append_nil (P:=P) (w:=w) T ty tI inf z0 g1 hinf hz ⟨vb,0,none⟩ 1 1 [.int .i64 z] (by rw [hsz]; rfl) hnews AB AB AB
  generalize hg:grownCap w 1 0 tI=gc at hr
  have hge:1≤gc:=by rw [← hg]; exact grownCap_ge _ _ _ _
  have hgm:gc≤maxLen:=by rw [← hg]; exact grownCap_le_maxLen _ _ _ _ (by unfold maxLen; omega)
  generalize hob:(([Value.int .i64 z]:List Value).toArray++Builtin.zeroCells z0.cells (gc - 1))=ob at hr
  have hnew:(w.drew.alloc (.cells ob tI)).heap[w.heap.size]? = some (.cells ob tI (0,0)):=heap_alloc_new w.drew _
  have hoth:∀ k,k< w.heap.size→(w.drew.alloc (.cells ob tI)).heap[k]? = w.heap[k]? := fun k hk=>heap_alloc_old w.drew _ k hk
  refine ⟨w.heap.size,gc,w.drew.alloc (.cells ob tI),by simpa using hr,⟨rfl,hge,hgm,⟨ob,hnew,?_⟩,fun i x hi=>⟨_,rfl,?_⟩⟩,.inr rfl,⟨rfl,rfl,rfl,by simp,fun k hk _=>hoth k hk⟩⟩
  ·rw [← hob]
   simp only [Array.size_append,List.size_toArray,List.length_cons,List.length_nil,size_zeroCells,hzs]
   show _=gc * 1
   omega
  ·cases i with
   | succ i=>simp at hi
   | zero =>
     simp at hi
     subst hi
     intro k u hu
     cases k with
     | succ k=>simp at hu
     | zero =>
       simp at hu
       subst hu
       rw [add_lit]
       simp only [World.cell?,hnew]
       rw [← hob]
       rw [Array.getElem?_append_left AD]
       rfl
 ·rw [a1]
  obtain ⟨r2,c2,w',h1,h2,h3,h4,_⟩:=a2.E3 (P:=P) (T:=T) (ty:=ty) (y:=z) hT hB rfl ⟨trivial,hv⟩ AB
  exact ⟨r2,c2,w',h1,h2,h3,h4⟩
theorem IX.upd {i r2 c2 ri:Nat}{x:Pst}{y y':RP}{z:Int}(h:IX tX tP tI s0 s1 G w b3 r c an nn cn nms ys xs rs) (hs1:s1≤w.heap.size) (hxi:xs[i]? = some x) (hyi:ys[i]? = some y) (hri:rs[i]? = some ri)
 (hx:Chg (Go.Proofs.YtcginoabkicdiaaGreat.one ri) w w2) (ho2:Own w2 r2 tI all (y.n+1) c2 (x.ids++[z])) (hor:r2=ri∨r2=w.heap.size) (hx3:Chg (Go.Proofs.YtcginoabkicdiaaGreat.one r) w2 w3)
 (hy':y'=⟨y.key,y.val,some ⟨r2,0,none⟩,y.n+1,c2⟩) (ho:Own w3 r tP all ys.length c (ys.set i y')) :
 IX tX tP tI s0 s1 G w3 b3 r c an nn cn nms (ys.set i y') (xs.set i ⟨x.tag,x.ids++[z]⟩) (rs.set i r2):=by
 have hnd:=h.nd
 simp only [List.nodup_cons,List.mem_cons,not_or] at hnd
 obtain ⟨⟨n1,n2⟩,n3,n4⟩:=hnd
 have hrm:=AV hri
 have hri2:ri≠b3∧ri≠r:=⟨fun e=>n2 (e▸hrm),fun e=>n3 (e▸hrm)⟩
 have hb3:=h.lt b3 AD
 have hrr:=h.lt r AD
 have hril:=h.lt ri (by simp [hrm])
 have e3:r2≠b3∧r2≠r:=by rcases hor with rfl | rfl; exact hri2; omega
 have z2:=hx.size
 have z3:=hx3.size
 have n3i:=h.new ri (by simp [hrm])
 have nr:=h.new r AD
 obtain ⟨hil,hie⟩:=List.getElem?_eq_some_iff.1 hri
 have hset:∀ q,q∈rs.set i r2→q=r2∨(q∈rs∧q≠ri):=by
  intro q hq
  obtain ⟨k,hk,hkq⟩:=List.mem_iff_getElem.1 hq
  rw [List.getElem_set] at hkq
  split at hkq
  ·exact .inl hkq.symm
  ·rename_i hne
   right
   have hk2:k< rs.length:=by simpa using hk
   refine ⟨hkq▸List.getElem_mem _,fun e=>hne ?_⟩
   have:=(List.getElem_inj (h₀:=hil) (h₁:=hk2) n4).1 (by rw [hie,hkq,e])
   exact this
 refine ⟨h.hs,h.hG,(h.nm.chg hx (fun b hb e=>by unfold Go.Proofs.YtcginoabkicdiaaGreat.one at e; have:=h.hG b hb; omega)).chg hx3 (fun b hb e=>by unfold Go.Proofs.YtcginoabkicdiaaGreat.one at e; have:=h.hG b hb; omega),
  by rw [List.length_set]; exact (h.box.chg hx (fun e=>hri2.1 e.symm)).chg hx3 (fun e=>n1 e),by rw [List.length_set]; exact ho,?_,?_,?_,by simp [h.lx],by simp [h.lr],?_⟩
 ·simp only [List.nodup_cons,List.mem_cons,not_or]
  refine ⟨⟨n1,fun hm=>?_⟩,fun hm=>?_,?_⟩
  ·rcases hset b3 hm with e | ⟨e,_⟩
   ·exact e3.1 e.symm
   ·exact n2 e
  ·rcases hset r hm with e | ⟨e,_⟩
   ·exact e3.2 e.symm
   ·exact n3 e
  ·rcases hor with rfl | hor
   ·rw [← hie,List.set_getElem_self]; exact n4
   ·rw [List.nodup_iff_pairwise_ne,List.pairwise_iff_getElem]
    intro p q hp hq hpq
    rw [List.getElem_set,List.getElem_set]
    have hp2:p< rs.length:=by simpa using hp
    have hq2:q< rs.length:=by simpa using hq
    have hnew:∀ k (hk:k< rs.length),rs[k]≠r2:=fun k hk e=>by have:=h.lt rs[k] AD; omega
    split
    ·split
     ·omega
     ·exact fun e=>hnew q hq2 e.symm
    ·split
     ·exact hnew p hp2
     ·intro e
      have:=(List.getElem_inj (h₀:=hp2) (h₁:=hq2) n4).1 e
      omega
 ·intro b hb
  simp only [List.mem_cons] at hb
  rcases hb with rfl | rfl | hb
  ·exact h.new _ AD
  ·exact nr
  ·rcases hset b hb with rfl | ⟨hb,_⟩
   ·rcases hor with rfl | rfl
    ·exact n3i
    ·exact hs1
   ·exact h.new b (by simp [hb])
 ·intro b hb
  simp only [List.mem_cons] at hb
  rcases hb with rfl | rfl | hb
  ·omega
  ·omega
  ·rcases hset b hb with rfl | ⟨hb,_⟩
   ·have:=ho2.lt; omega
   ·have:=h.lt b (by simp [hb]); omega
 ·intro j x1 y1 r1 g1 g2 g3
  rw [List.getElem?_set] at g1 g2 g3
  have l1:=h.lx
  have l2:=h.lr
  by_cases hj:i=j
  ·subst hj
   rw [if_pos rfl,if_pos AB] at g1 g2 g3
   cases g1; cases g2; cases g3
   obtain ⟨a1,a2,_⟩:=h.el i x y ri hxi hyi hri
   subst hy'
   exact ⟨a1,a2,.inr ⟨rfl,PS Av ho2 hx3 (fun e=>e3.2 e)⟩⟩
  ·rw [if_neg hj] at g1 g2 g3
   obtain ⟨a1,a2,a3⟩:=h.el j x1 y1 r1 g1 g2 g3
   have hne:r1≠ri:=fun e=>hj (by
    obtain ⟨hj1,hj2⟩:=List.getElem?_eq_some_iff.1 g3
    exact (List.getElem_inj (h₀:=hil) (h₁:=hj1) n4).1 (by rw [hie,hj2,e]))
   have hm1:=AV g3
   exact ⟨a1,a2,(a3.chg hx (fun e=>hne e)).chg hx3 (fun e=>n3 (e▸hm1))⟩
end
end Go.Proofs.YtcginoabkicdiaaGreat
