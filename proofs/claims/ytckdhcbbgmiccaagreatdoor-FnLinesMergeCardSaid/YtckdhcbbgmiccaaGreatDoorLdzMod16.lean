/- A row put into a row: slices of rows whose cells are told, copies, zeros. No conditions. -/
import Derived.Test.YtckdhcbbgmiccaaGreatDoorLdzW3
import Derived.Lib.Overlaps
import Derived.Lib.AppendZerosOnto
open Go.Proofs.Tryz
set_option linter.unusedVariables false
set_option linter.unusedSimpArgs false
namespace Go.Proofs.YtckdhcbbgmiccaaGreatDoor
def BP (xs:List Row):List Value:=xs.flatMap (fun x=>[.int .i64 x.t,.int .i64 x.v])
theorem EA (xs:List Row):(BP xs).length=xs.length * 2:=by
 induction xs with
 | nil=>rfl
 | cons x xs ih=>simp only [BP,List.flatMap_cons,List.length_append,List.length_cons,List.length_nil] at *; omega
theorem Qp (xs ys:List Row):BP (xs++ys)=BP xs++BP ys:=by simp [BP]
theorem MK (xs:List Row):∀ v∈BP xs,Dq v=true:=by
 intro v hv
 simp only [BP,List.mem_flatMap] at hv
 obtain ⟨x,_,hv⟩:=hv
 simp at hv
 rcases hv with rfl | rfl <;> rfl
theorem PY (xs:List Row) (i:Nat):BP (xs.take i)=(BP xs).take (i * 2):=by
 induction xs generalizing i with
 | nil=>simp [BP]
 | cons x xs ih =>
   cases i with
   | zero=>simp [BP]
   | succ i =>
     rw [List.take_succ_cons,show (i+1) * 2=i * 2+1+1 by omega]
     have:=ih i
     simp only [BP,List.flatMap_cons] at *
     rw [this]
     simp
theorem Ku (xs:List Row) (i:Nat):BP (xs.drop i)=(BP xs).drop (i * 2):=by
 induction xs generalizing i with
 | nil=>simp [BP]
 | cons x xs ih =>
   cases i with
   | zero=>simp [BP]
   | succ i =>
     rw [List.drop_succ_cons,show (i+1) * 2=i * 2+1+1 by omega]
     have:=ih i
     simp only [BP,List.flatMap_cons] at *
     rw [this]
     simp
theorem Nf {xs:List Row}{i:Nat}{x:Row}(h:xs[i]? = some x):(BP xs)[i * 2]? = some (.int .i64 x.t)∧(BP xs)[i * 2+1]? = some (.int .i64 x.v):=by
 have hd:=drop_at h
 have h1:=Ku xs i
 rw [hd] at h1
 have h2:(BP xs).drop (i * 2)=.int .i64 x.t :: .int .i64 x.v::BP (xs.drop (i+1)):=h1.symm
 constructor
 ·have:=congrArg (fun l=>l[0]?) h2
  simpa [List.getElem?_drop] using this
 ·have:=congrArg (fun l=>l[1]?) h2
  simpa [List.getElem?_drop] using this
section
variable {w:World} {r n c:Nat} {t:TypeId} {F:Nat→Prop} {xs:List Row}
theorem Own.box (h:Own w r t F n c xs):∃ cs,Box w r t cs∧cs.length=c * 2∧cs.take (n * 2)=BP xs∧n≤c∧c≤maxLen:=by
 obtain ⟨cur,h1,h2⟩:=h.row
 have hz:Rep.sz Row=2:=rfl
 rw [hz] at h2
 refine ⟨cur.toList,by unfold Box; simpa using h1,by simpa using h2,?_,h.le,h.cap⟩
 have hn:=h.len
 have hnc:=h.le
 apply List.ext_getElem?
 intro k
 rw [List.getElem?_take]
 by_cases hk:k< n * 2
 ·rw [if_pos hk]
  have hi:k / 2< xs.length:=by omega
  obtain ⟨cs,g1,g2⟩:=h.elem (k / 2) xs[k / 2] (AU hi)
  cases g1
  obtain ⟨e1,e2⟩:=Nf (AU hi)
  rcases Nat.mod_two_eq_zero_or_one k with h0 | h0
  ·have hk2:k=k / 2 * 2:=by omega
   have g3:=g2 0 _ rfl
   rw [hk2,e1]
   simp only [add_lit,World.cell?,h1,hz] at g3
   simpa using g3
  ·have hk2:k=k / 2 * 2+1:=by omega
   have g3:=g2 1 _ rfl
   rw [hk2,e2]
   simp only [add_lit,World.cell?,h1,hz] at g3
   simpa using g3
 ·rw [if_neg hk,List.getElem?_eq_none (by rw [EA]; omega)]
theorem Own.Xv {cs:List Value}(h:Box w r t cs) (hl:cs.length=c * 2) (hx:cs.take (xs.length * 2)=BP xs) (hn:xs.length≤c) (hc:c≤maxLen):Own w r t F xs.length c xs:=by
 refine ⟨rfl,hn,hc,⟨cs.toArray,h,by rw [show Rep.sz Row=2 from rfl]; simpa using hl⟩,fun i x hi=>⟨_,rfl,fun k u hu=>?_⟩⟩
 obtain ⟨e1,e2⟩:=Nf hi
 have hil:i< xs.length:=(List.getElem?_eq_some_iff.1 hi).1
 have hcs:∀ j,j< xs.length * 2→cs[j]? = (BP xs)[j]? := fun j hj=>by rw [← hx,List.getElem?_take,if_pos hj]
 have hcell:∀ j v,cs[j]? = some v→w.cell? ⟨r,j,none⟩=some v:=fun j v hv=>by
  unfold Box at h
  simp only [World.cell?,h]
  simpa using hv
 rw [add_lit]
 match k,hu with
 | 0,hu=>cases hu; exact hcell _ _ (by rw [hcs _ (by show i * 2+0< _; omega)]; exact e1)
 | 1,hu=>cases hu; exact hcell _ _ (by rw [hcs _ (by show i * 2+1< _; omega)]; exact e2)
 | k+2,hu=>simp at hu
end
section
variable {P:Program} {n:Nat} {K:Env→World→Prop} {ops:Array Oper} {j:Nat} {e:Env} {w:World}
theorem RG.oQ {t:TypeId}{sz:Nat}{a:Option Addr}{len cap:Nat}{lo hi:Option Value}(l h':Nat) (h:DZ n ops j e=some (t,.slice a len cap,lo,hi)) (ht:K5 P t sz=true) (hlo:bnd lo 0 l) (hhi:bnd hi len h') (hlh:l≤h') (hh:h'≤cap)
 (H:∀ v,RG P n K ops (j+1) (Am e (Ae ops j).dst v) w):RG P n K ops j e w :=
 have h1:=EC h (H2 ht hlo hhi hlh hh w)
 RG.val h1.1 h1.2 (H _)
theorem RG.IH {t:TypeId}{sz:Nat}{r o len cap:Nat}{lo hi:Option Value}(l h':Nat) (h:DZ n ops j e=some (t,.slice (some ⟨r,o,none⟩) len cap,lo,hi)) (ht:K5 P t sz=true) (hlo:bnd lo 0 l) (hhi:bnd hi len h') (hlh:l≤h') (hh:h'≤cap) (hne:cap≠l)
 (H:RG P n K ops (j+1) (Am e (Ae ops j).dst (.slice (some ⟨r,o+l * sz,none⟩) (h' - l) (cap - l))) w):RG P n K ops j e w:=by
 have h1:=EC h (H2 ht hlo hhi hlh hh w)
 rw [if_neg hne] at h1
 simp only [Option.map_some,add_lit] at h1
 exact RG.val h1.1 h1.2 H
def Zl (P:Program) (n:Nat) (ops:Array Oper) (j:Nat) (e:Env):Option (FuncId × List Value) :=
 bif Cj n ops j e then
  match (Ae ops j).op with
  | .call c => match c.callee with
    | .value f => match ev e f with
      | .func (.func g) first cap=>some (g,first.toList++(c.args.toList.map (ev e))++cap.toList)
      | _=>none
    | _=>none
  | _=>none
 else none
theorem RG.ext {f:FuncId}{args:List Value}{v:Value}(h:Zl P n ops j e=some (f,args)) (hr:(callFunc f args.toArray).run P w=.ok (.value v) w)
 (H:RG P n K ops (j+1) (Am e (Ae ops j).dst v) w):RG P n K ops j e w:=by
 obtain ⟨hg,h⟩:=Ci h
 refine RG.val hg ?_ H
 split at h
 ·rename_i c hop
  split at h
  ·rename_i fo hcal
   split at h
   ·rename_i g first cap hf
    simp only [Option.some.injEq,Prod.mk.injEq] at h
    obtain ⟨rfl,rfl⟩:=h
    have hargs:(first.toList++(c.args.toList.map (ev e))++cap.toList).toArray=(first++c.args.map (ev e))++cap:=by
     apply Array.toList_inj.1; simp
    rw [hargs] at hr
    simp only [execOp,hop,resolve,hcal,hf,Deferred.ofValue]
    simp only [invoke]
    exact hr
   ·cases h
  ·cases h
 ·cases h
end
theorem S1 {P:Program}{f:FuncId}{fn:Func}{tS tR t:TypeId}{w:World}{vb r o la ca lb cb:Nat}{cs cs2:List Value}(hf:P.funcs[f]? = some fn) (h1:(fn.name == "runtime.NumGoroutine")=false) (h2:fn.body.isNone=true) (h3:Extern.findNext fn=none)
 (h4:Extern.find fn=some (Extern.SlicesOverlaps.overlaps #[tS,tS] #[tR])) {sz:Nat} (ht:GG P tS t sz=true) (hB:Box w vb t cs) (hR:Box w r t cs2) (hne:vb≠r) (hk:cs2.length≠0) :
 (callFunc f #[.slice (some ⟨vb,0,none⟩) la ca,.slice (some ⟨r,o,none⟩) lb cb]).run P w=.ok (.value (.bool false)) w:=by
 obtain ⟨g1,i,z,hi,hsz,_,_,_⟩:=FO ht
 have hz:∀ w,(Go.sizeOf t).run P w=.ok i.size w:=fun w=>by simp [sizeOf,typeInfo,hi,go_sem]
 unfold Box at hB hR
 rw [run_callFunc_extern hf h1 h2 h3 h4,Lib.run_overlaps_apart w tS tR t g1 i.size hz ⟨vb,0,none⟩ ⟨r,o,none⟩ la ca lb cb hne t t cs.length cs2.length (by simp [World.shape?,hB]) (by simp [World.shape?,hR]) hk (by simp [World.frozen?,hB]) (by simp [World.frozen?,hB])]
 rfl
theorem H7 {P:Program}{T T2 ty t:TypeId}{sz:Nat}{w:World}{b o dl dc sl sc k:Nat}{a2:Addr}{cs vs:List Value}(hT:GG P T t sz=true) (hB:Box w b t cs) (hsrc:Has w a2 vs) (hvs:vs.length=k * sz) (hk:Nat.min sl dl=k) (ho:o+k * sz≤cs.length) (hone:∀ v∈vs,Dq v=true) :
 ∃ w',(Builtin.copy_ #[T,T2] ty #[.slice (some ⟨b,o,none⟩) dl dc,.slice (some a2) sl sc]).run P w=.ok (goInt k) w'∧Box w' b t (BH cs o vs)∧Chg (one b) w w'∧w'.heap.size=w.heap.size:=by
 obtain ⟨g1,i,z,hi,hsz,_,_,_⟩:=FO hT
 obtain ⟨w',h1,h2,h3,h4⟩:=hB.OH (P:=P) vs (o:=o) (i:=0) AB hone
 have h5:=run_loadCellsFrom (P:=P) a2 vs 0 #[] vs rfl hsrc
 have h6:(loadCells a2 (k * i.size)).run P w=.ok vs.toArray w:=by
  rw [hsz,← hvs]
  unfold loadCells
  rw [h5]
  simp
 have hz:(sizeOf t).run P w=.ok i.size w:=by simp [sizeOf,typeInfo,hi,go_sem]
 refine ⟨w',?_,h2,h3,h4⟩
 unfold Builtin.copy_
 simp only [List.getElem?_toArray,List.getElem?_cons_zero,List.getElem?_cons_succ]
 rw [AX (run_underlying g1 w)]
 simp only [Builtin.lenOf]
 rw [AX (show (pure sl:Sem Nat).run P w=.ok sl w from rfl),AX hz,hk]
 simp only [Builtin.firstCells]
 rw [AX h6]
 simp only []
 rw [AX h1]
 rfl
theorem WW {P:Program}{T tn ty t:TypeId}{kn:IntKind}{w:World}{r n c i:Nat}{cs:List Value}(hT:GG P T t 2=true) (htn:P.underlying tn=some (.int kn)) (hB:Box w r t cs) (hl:cs.length=c * 2) (hi:i< n) (hn:n≤c) (hc:c< n+1) (hs:n≤1000000000) :
 ∃ gc ob w', (Builtin.append_ #[T, tn] ty #[.slice (some ⟨r, 0, none⟩) i c, .int .i64 ((n : Int) + 1 - i)]).run P w = .ok (.slice (some ⟨w.heap.size, 0, none⟩) (n + 1) gc) w' ∧
   Box w' w.heap.size t ob∧ob.length=gc * 2∧n+1≤gc∧gc≤maxLen∧ob.take (i * 2)=cs.take (i * 2)∧Ext w w'∧w'.heap.size=w.heap.size+1:=by
 obtain ⟨g1,inf,z,hinf,hsz,hby,hz,hzs⟩:=FO hT
 have hBx:=hB
 unfold Box at hBx
 have hole:(cs.take (i * 2)).length=i * inf.size:=by rw [List.length_take,hsz]; omega
 have hold:(Builtin.firstCells inf.size i (.slice (some ⟨r,0,none⟩) i c)).run P w.drew=.ok (cs.take (i * 2)).toArray w.drew:=by
  have hh:Has w.drew ⟨r,0,none⟩ (cs.take (i * 2)):=by
   intro k u hu
   rw [List.getElem?_take] at hu
   split at hu
   ·rw [add_lit]
    show World.cell? w.drew _=_
    have:w.drew.heap=w.heap:=rfl
    simp only [World.cell?,this,hBx]
    simpa using hu
   ·cases hu
  have h1:=run_loadCellsFrom (P:=P) ⟨r,0,none⟩ (cs.take (i * 2)) 0 #[] _ rfl hh
  simp only [Builtin.firstCells,loadCells]
  rw [List.drop_zero] at h1
  rw [← hole,h1]
  simp
 have hr:=Lib.run_append_grow_zeros (P:=P) w T tn ty t inf z .i64 kn g1 htn hinf hz (some ⟨r,0,none⟩) i c (cs.take (i * 2)) hold (n+1 - i) AB AB AB AB (Nat.le_trans (Nat.mul_le_mul (show n+1 - i≤1000000001 by omega) hby) AB)
  (growslice_fits AB (Nat.le_trans (Nat.mul_le_mul (show i+(n+1 - i)≤1000000001 by omega) hby) AB))
 rw [show i+(n+1 - i)=n+1 by omega] at hr
 generalize hg:grownCap w (n+1) c t=gc at hr
 have hge:n+1≤gc:=by rw [← hg]; exact grownCap_ge _ _ _ _
 have hgm:gc≤maxLen:=by rw [← hg]; exact grownCap_le_maxLen _ _ _ _ (by unfold maxLen; omega)
 generalize hob:((cs.take (i * 2)).toArray++Builtin.zeroCells z.cells (n+1 - i)++Builtin.zeroCells z.cells (gc - (n+1)))=ob at hr
 have hnew:(w.drew.alloc (.cells ob t)).heap[w.heap.size]? = some (.cells ob t (0,0)):=heap_alloc_new w.drew _
 have hoth:∀ k,k< w.heap.size→(w.drew.alloc (.cells ob t)).heap[k]? = w.heap[k]? := fun k hk=>heap_alloc_old w.drew _ k hk
 have hoz:ob.size=gc * 2:=by
  rw [← hob]
  simp only [Array.size_append,List.size_toArray,hole,hsz,size_zeroCells,hzs,← Nat.add_mul]
  congr 1
  omega
 refine ⟨gc,ob.toList,w.drew.alloc (.cells ob t),?_,by unfold Box; simpa using hnew,by simpa using hoz,hge,hgm,?_,⟨rfl,rfl,rfl,by simp,fun k hk _=>hoth k hk⟩,by simp⟩
 ·have he:((n+1 - i:Nat):Int)=(n:Int)+1 - i:=by omega
  rw [he] at hr
  exact hr
 ·rw [← hob]
  simp only [Array.toList_append,List.append_assoc]
  rw [List.take_append_of_le_length (by rw [hole,hsz]; omega)]
  rw [List.take_of_length_le (by rw [hole,hsz]; omega)]
theorem UC {P:Program}{T tn ty t:TypeId}{kn:IntKind}{w:World}{r n c i:Nat}{cs:List Value}(hT:GG P T t 2=true) (htn:P.underlying tn=some (.int kn)) (hB:Box w r t cs) (hl:cs.length=c * 2) (hi:i< n) (hn:n≤c) (hc:c< n+1) (hs:n≤1000000000) :
 ∃ b, b = w.heap.size ∧ ∃ gc ob w', (Builtin.append_ #[T, tn] ty #[.slice (some ⟨r, 0, none⟩) i c, .int .i64 ((n : Int) + 1 - i)]).run P w = .ok (.slice (some ⟨b, 0, none⟩) (n + 1) gc) w' ∧
   Box w' b t ob∧ob.length=gc * 2∧n+1≤gc∧gc≤maxLen∧ob.take (i * 2)=cs.take (i * 2)∧Ext w w'∧w'.heap.size=w.heap.size+1 :=
 ⟨_,rfl,WW hT htn hB hl hi hn hc hs⟩
theorem UD {cs vs:List Value}{o:Nat}(h:o+vs.length≤cs.length):(BH cs o vs).take o=cs.take o:=by
 unfold BH
 rw [List.append_assoc,List.take_append_of_le_length (by rw [List.length_take]; omega),List.take_take,Nat.min_self]
theorem S2 {cs vs:List Value}{o:Nat}(h:o+vs.length≤cs.length):(BH cs o vs).take (o+vs.length)=cs.take o++vs:=by
 unfold BH
 have:(cs.take o++vs).length=o+vs.length:=by rw [List.length_append,List.length_take]; omega
 rw [← this,List.take_left]
theorem ET {cs vs:List Value}{o:Nat}(h:o+vs.length≤cs.length):(BH cs o vs).length=cs.length:=by
 unfold BH
 simp only [List.length_append,List.length_take,List.length_drop]
 omega
def Gf (y:Row):List Value:=[.int .i64 y.t,.int .i64 y.v]
theorem Hb (y:Row):(Gf y).length=2:=rfl
section
variable {cs ob:List Value} {xs:List Row} {y:Row} {n c gc i:Nat}
theorem Qq (hx:cs.take (n * 2)=BP xs) (hn:n=xs.length):(cs.drop (i * 2)).take ((n - i) * 2)=BP (xs.drop i):=by
 rw [Ku,← hx,List.drop_take]
 congr 1
 omega
theorem Xw (hx:cs.take (n * 2)=BP xs) (hi:i≤n):cs.take (i * 2)=BP (xs.take i):=by
 rw [PY,← hx,List.take_take,Nat.min_eq_left AB]
theorem Zm (a b:List Value) (ha:a=BP (xs.take i)):(a++Gf y++BP (xs.drop i)++b).take ((xs.take i++y::xs.drop i).length * 2)=BP (xs.take i++y::xs.drop i):=by
 have h1:a++Gf y++BP (xs.drop i)=BP (xs.take i++y::xs.drop i):=by
  rw [Qp,ha,List.append_assoc]
  congr 1
 rw [h1,← EA,List.take_left]
theorem oR (hl:cs.length=c * 2) (hx:cs.take (n * 2)=BP xs) (hn:n=xs.length) (hi:i< n) (hc:n+1≤c) :
 (BH (BH cs ((i+1) * 2) ((cs.drop (i * 2)).take ((n - i) * 2))) (i * 2) (Gf y)).take ((xs.take i++y::xs.drop i).length * 2)=BP (xs.take i++y::xs.drop i) ∧
  (BH (BH cs ((i+1) * 2) ((cs.drop (i * 2)).take ((n - i) * 2))) (i * 2) (Gf y)).length=c * 2:=by
 rw [Qq hx hn]
 have hm:(BP (xs.drop i)).length=(n - i) * 2:=by rw [EA,List.length_drop]; omega
 have h1:(i+1) * 2+(BP (xs.drop i)).length≤cs.length:=by rw [hm]; omega
 have h2:=ET h1
 have h3:i * 2+(Gf y).length≤(BH cs ((i+1) * 2) (BP (xs.drop i))).length:=by rw [h2,Hb]; omega
 refine ⟨?_,by rw [ET h3,h2,hl]⟩
 have e1:(BH cs ((i+1) * 2) (BP (xs.drop i))).take (i * 2)=cs.take (i * 2):=by
  have:=congrArg (fun l=>l.take (i * 2)) (UD h1)
  simpa [List.take_take,Nat.min_eq_left (show i * 2≤(i+1) * 2 by omega)] using this
 have e2:(BH cs ((i+1) * 2) (BP (xs.drop i))).drop (i * 2+(Gf y).length)=BP (xs.drop i)++cs.drop ((i+1) * 2+(BP (xs.drop i)).length):=by
  rw [Hb,show i * 2+2=(i+1) * 2 by omega]
  unfold BH
  have:(cs.take ((i+1) * 2)).length=(i+1) * 2:=by rw [List.length_take]; omega
  rw [List.append_assoc]
  have h5:(cs.take ((i+1) * 2)++(BP (xs.drop i)++cs.drop ((i+1) * 2+(BP (xs.drop i)).length))).drop (cs.take ((i+1) * 2)).length=BP (xs.drop i)++cs.drop ((i+1) * 2+(BP (xs.drop i)).length):=List.drop_left
  rw [this] at h5
  exact h5
 unfold BH at e1 e2 ⊢
 rw [e1,e2,← List.append_assoc]
 exact Zm _ _ (Xw hx AB)
theorem oS (hl:ob.length=gc * 2) (ho:ob.take (i * 2)=cs.take (i * 2)) (hx:cs.take (n * 2)=BP xs) (hn:n=xs.length) (hi:i< n) (hc:n+1≤gc) :
 (BH (BH ob (i * 2) (Gf y)) ((i+1) * 2) ((cs.drop (i * 2)).take ((n - i) * 2))).take ((xs.take i++y::xs.drop i).length * 2)=BP (xs.take i++y::xs.drop i) ∧
  (BH (BH ob (i * 2) (Gf y)) ((i+1) * 2) ((cs.drop (i * 2)).take ((n - i) * 2))).length=gc * 2:=by
 rw [Qq hx hn]
 have hm:(BP (xs.drop i)).length=(n - i) * 2:=by rw [EA,List.length_drop]; omega
 have h1:i * 2+(Gf y).length≤ob.length:=by rw [Hb]; omega
 have h2:=ET h1
 have h3:(i+1) * 2+(BP (xs.drop i)).length≤(BH ob (i * 2) (Gf y)).length:=by rw [h2,hm]; omega
 refine ⟨?_,by rw [ET h3,h2,hl]⟩
 have e1:(BH ob (i * 2) (Gf y)).take ((i+1) * 2)=ob.take (i * 2)++Gf y:=by
  rw [show (i+1) * 2=i * 2+(Gf y).length by rw [Hb]; omega]
  exact S2 h1
 unfold BH at e1 ⊢
 rw [e1]
 exact Zm _ _ (by rw [ho]; exact Xw hx AB)
end
theorem GA.IH {P:Program}{S:Nat→Prop}{n m:Nat}{L:Env→World→Prop}{ops:Array Oper}{l:List Nat}{e:Env}{w:World}{i:Nat}{t:TypeId}{sz r o len cap:Nat}{lo hi:Option Value}(l' h':Nat) (hb:gB n m ops l i=true) (h:DZ n ops i e=some (t,.slice (some ⟨r,o,none⟩) len cap,lo,hi)) (ht:K5 P t sz=true) (hlo:bnd lo 0 l') (hhi:bnd hi len h') (hlh:l'≤h') (hh:h'≤cap) (hne:cap≠l')
 (H:GA P S n m L ops (i::l) (Am e (Ae ops i).dst (.slice (some ⟨r,o+l' * sz,none⟩) (h' - l') (cap - l'))) w):GA P S n m L ops l e w:=by
 refine GA.L1 hb (fun w=>?_) H
 have h1:=EC h (H2 ht hlo hhi hlh hh w)
 rw [if_neg hne] at h1
 simp only [Option.map_some,add_lit] at h1
 exact h1
theorem PZ {cs:List Value}{a k:Nat}(h:((cs.drop a).take k).length≤k):(cs.drop a).take ((cs.drop a).take k).length=(cs.drop a).take k:=by
 rw [List.length_take]
 by_cases hk:k≤(cs.drop a).length
 ·rw [Nat.min_eq_left hk]
 ·rw [Nat.min_eq_right AB,List.take_of_length_le (Nat.le_refl _),List.take_of_length_le AB]
theorem Rr {a b k:Nat}(h:b≤a∧b=k∨a≤b∧a=k):Nat.min a b=k:=by
 show min a b=k
 omega
theorem WX {w:World}{r t n c i:Nat}{F:Nat→Prop}{xs:List Row}{y:Row}(h:Own w r t F (n+1) c (xs++[y])) (hi:xs.length≤i):Own w r t F (n+1) c (xs.take i++y::xs.drop i):=by
 rw [List.take_of_length_le hi,List.drop_of_length_le hi]
 exact h
end Go.Proofs.YtckdhcbbgmiccaaGreatDoor
namespace Go.Proofs.YtckdhcbbgmiccaaGreatDoor
set_option maxRecDepth 100000
set_option maxHeartbeats 4000000
variable {w:World} {F:Nat→Prop}
theorem D6 {r n c vb i:Nat}{xs:List Row}{y:Row}(ho:Own w r 69 F n c xs) (hv:Box w vb 69 [.int .i64 y.t,.int .i64 y.v]) (hne:vb≠r) (hi:i≤n) (hn:n≤1000000):Calls Tryz.prog 152 [.slice (some ⟨r,0,none⟩) n c,.int .i64 (i:Int),.slice (some ⟨vb,0,none⟩) 1 1].toArray w (Al fun rv w'=>(∃ r2 c2,rv=.slice (some ⟨r2,0,none⟩) (n+1) c2∧Own w' r2 69 all (n+1) c2 (xs.take i++y::xs.drop i)∧OrB r2 r w.heap.size)∧Chg (one r) w w'):=by
 refine goT func152 ?_
 replace hne:Nb vb r:=hne
 have hnx:=ho.len; have hle:=ho.le
 replace ho:Own w r 69 (nin all [r]) n c xs:=ho.flat By
 refine .s<|.g<|.r 1<|.d<|.s<|.g<|.r 2<|RG.oQ (a:=some ⟨r,0,none⟩) (t:=76) (lo:=some (vI (i:Int))) (hi:=none) (sz:=2) i n AA AA (.inr ⟨_,_,rfl,by omega⟩) (.inl ⟨rfl,rfl⟩) AB AB fun v_=>.d<|.s<|.g<|.r 3<|.d<|.s<|.s<|.g<|.r 2<|.d<|.cf<|.sk<|.s<|.g<|.r 3<|.d<|.s<|.s<|.g<|.r 2<|.eq (i:Int) (n:Int) (fun aE=>?_) (fun aE=>?_)
 ·refine .d<|.ct<|.s<|.g<|.r 2 ?_
  have ae:nin all [r] vb∧vb≠r:=GH trivial (all_cons hne all_nil) hne
  refine RG.DV (T:=76) (ty:=76) (y:=y) ho hv AA AA rfl ae AB fun aM aN aO ac af ag=>?_
  have aF:=Ig af (Cov.mk1 w r) (Nat.le_refl _)
  replace hv:=(s1 ag).g1 hv
  have aG:Chg (one r) w aO:=Chg.G9 (Chg.refl (one r) w) ag (Cov.mk1 w r)
  replace ac:=ac.rn r
  exact .r 1<|.d<|.rt func152 results152 (vS aM (n+1) aN) ⟨⟨_,_,rfl,WX (ac.flat By) AB,aF⟩,aG⟩
 refine .d<|.cf<|.sk<|.s<|.s<|.g<|.r 2<|.it ((n:Int)+1)<|.r 2<|.bp ((n:Int)+1 > (c:Int)) (fun aH=>?_) (fun aH=>?_)
 ·refine .d<|.ct<|.s<|.g<|.r 2 ?_
  obtain ⟨cs,hbx,hcl,hct,aI,aJ⟩:=ho.box
  refine RG.IH (r:=r) (o:=0) (len:=n) (cap:=c) (t:=76) (lo:=none) (hi:=some (vI (i:Int))) (sz:=2) 0 i AA AA (.inl ⟨rfl,rfl⟩) (.inr ⟨_,_,rfl,by omega⟩) AB AB AB<|.r 2<|.it ((n:Int)+1)<|.r 1<|.it (((n:Int)+1) - (i:Int)) ?_
  obtain ⟨b2,hq,gc,ob,w2,hrun,aP,hol,hge,hgm,hot,aK,aU⟩:=UC (P:=Tryz.prog) (T:=76) (tn:=3) (ty:=76) (kn:=.i64) (n:=n) AA AA hbx hcl (by omega:i< n) AB AB AB
  refine RG.append (ats:=[76,3]) (args:=[vS r i c,vI ((n:Int)+1 - i)]) AA hrun ?_
  have aV:=Ad hq hbx.lt
  have aW:=Ad hq hv.lt
  have aL:Cov (one r) w b2:=ON hq (Nat.le_refl _)
  replace ⟨hbx,hv⟩:=(se [] aK).g2 hbx hv
  have E:Chg (one r) w w2:=Chg.I9 (Chg.refl (one r) w) aK
  refine .r 1<|.d<|.s<|.g<|.r 2<|RG.IH (r:=b2) (o:=0) (len:=(n+1)) (cap:=gc) (t:=76) (lo:=some (vI (i:Int))) (hi:=none) (sz:=2) i (n+1) AA AA (.inr ⟨_,_,rfl,by omega⟩) (.inl ⟨rfl,rfl⟩) AB AB AB<|.r 1 ?_
  obtain ⟨aQ,ai,ab,am,aX⟩:=H7 (P:=Tryz.prog) (a2:=⟨vb,0,none⟩) (T:=76) (T2:=76) (ty:=3) (t:=69) (sz:=2) (o:=(0+i * 2)) (dl:=((n+1) - i)) (dc:=(gc - i)) (sl:=1) (sc:=1) (k:=1) (vs:=(Gf y)) AA aP (hv.has 0 (Gf y) rfl) AF (Nat.min_eq_left AB) (by have:=hcl; omega) (by intro v hv_; simp [Gf] at hv_; rcases hv_ with rfl | rfl <;> rfl)
  refine RG.copy (ats:=[76,76]) (args:=[.slice (some ⟨b2,0+i * 2,none⟩) ((n+1) - i) (gc - i),vS vb 1 1]) AA ai ?_
  rw [Nat.zero_add] at ab
  replace ⟨hbx,hv,E⟩:=(s1 am).g3 hbx hv E
  refine .d<|.s<|.gd (mtb [] aQ.heap.size) 8 fun bg ao=>?_
  replace ⟨hbx,hv,ab,E⟩:=(se [] ao).g4 hbx hv ab E
  refine .r [0,1,2]<|GA.int (i:=3) ((i:Int)+1) AA AB<|GA.IH (i:=4) (r:=b2) (o:=0) (len:=(n+1)) (cap:=gc) (t:=76) (lo:=some (vI ((i:Int)+1))) (hi:=none) (sz:=2) (i+1) (n+1) AA AA AA (.inr ⟨_,_,rfl,by omega⟩) (.inl ⟨rfl,rfl⟩) AB AB AB<|.r [5,6]<|GA.IH (i:=7) (r:=r) (o:=0) (len:=n) (cap:=c) (t:=76) (lo:=some (vI (i:Int))) (hi:=none) (sz:=2) i n AA AA AA (.inr ⟨_,_,rfl,by omega⟩) (.inl ⟨rfl,rfl⟩) AB AB AB<|.d fun bh aq=>?_
  replace ⟨hbx,hv,ab,E⟩:=(se [] aq).g4 hbx hv ab E
  obtain ⟨bi,aj,ar,ax,aY⟩:=H7 (P:=Tryz.prog) (a2:=⟨r,0+i * 2,none⟩) (T:=76) (T2:=76) (ty:=3) (t:=69) (sz:=2) (o:=(0+(i+1) * 2)) (dl:=((n+1) - (i+1))) (dc:=(gc - (i+1))) (sl:=(n - i)) (sc:=(c - i)) (k:=(n - i)) (vs:=((cs.drop (i * 2)).take ((n - i) * 2))) AA ab (by rw [Nat.zero_add]; exact hbx.has (i * 2) ((cs.drop (i * 2)).take ((n - i) * 2)) (PZ (by simp; omega))) (by rw [Qq hct hnx,EA,List.length_drop]; omega) (Rr AB) (by have:=hcl; rw [ET (by rw [Hb]; omega)]; omega) (by rw [Qq hct hnx]; exact MK _)
  refine RG.copy (ats:=[76,76]) (args:=[.slice (some ⟨b2,0+(i+1) * 2,none⟩) ((n+1) - (i+1)) (gc - (i+1)),.slice (some ⟨r,0+i * 2,none⟩) (n - i) (c - i)]) AA aj ?_
  rw [Nat.zero_add] at ar
  replace ⟨hbx,hv,E⟩:=(s1 ax).g3 hbx hv E
  refine .d<|.s<|.g<|.r 2<|.d ?_
  have hfin:=oS (y:=y) hol hot hct hnx (by omega:i< n) AB
  have hlen:(xs.take i++y::xs.drop i).length=n+1:=by simp; omega
  have hown:=Own.Xv (F:=all) ar hfin.2 hfin.1 (by rw [hlen]; omega) AB
  rw [hlen] at hown
  exact .rt func152 results152 (vS b2 (n+1) gc) ⟨⟨_,_,rfl,hown,aL⟩,E⟩
 refine .d<|.cf<|.sk<|.s<|.g<|.r 3<|.it ((n:Int)+1) ?_
 obtain ⟨cs,hbx,hcl,hct,aI,aJ⟩:=ho.box
 refine RG.IH (r:=r) (o:=0) (len:=n) (cap:=c) (t:=76) (lo:=none) (hi:=some (vI ((n:Int)+1))) (sz:=2) 0 (n+1) AA AA (.inl ⟨rfl,rfl⟩) (.inr ⟨_,_,rfl,by omega⟩) AB AB AB<|.r 1<|.d<|.s<|.s<|.g<|.r 4<|.it ((i:Int)+1)<|RG.IH (r:=r) (o:=0) (len:=(n+1)) (cap:=c) (t:=76) (lo:=some (vI ((i:Int)+1))) (hi:=none) (sz:=2) (i+1) (n+1) AA AA (.inr ⟨_,_,rfl,by omega⟩) (.inl ⟨rfl,rfl⟩) AB AB AB<|RG.ext (f:=203) (args:=[vS vb 1 1,.slice (some ⟨r,0+(i+1) * 2,none⟩) (n+1 - (i+1)) (c - (i+1))]) AA (S1 (fn:=Tryz.f203) (tS:=76) (tR:=4) (sz:=2) func203 AA AA AA AA AA hv hbx hne AB)<|.r 1<|.d<|.ct<|.s<|.gd (mtb [] w.heap.size) 8 fun aR ah=>?_
 replace ⟨hbx,hv⟩:=(se [] ah).g2 hbx hv
 have aa:Chg (one r) w aR:=Chg.I9 (Chg.refl (one r) w) ah
 refine .r [0,1,2]<|GA.int (i:=3) ((i:Int)+1) AA AB<|GA.IH (i:=4) (r:=r) (o:=0) (len:=(n+1)) (cap:=c) (t:=76) (lo:=some (vI ((i:Int)+1))) (hi:=none) (sz:=2) (i+1) (n+1) AA AA AA (.inr ⟨_,_,rfl,by omega⟩) (.inl ⟨rfl,rfl⟩) AB AB AB<|.r [5,6]<|GA.IH (i:=7) (r:=r) (o:=0) (len:=(n+1)) (cap:=c) (t:=76) (lo:=some (vI (i:Int))) (hi:=none) (sz:=2) i (n+1) AA AA AA (.inr ⟨_,_,rfl,by omega⟩) (.inl ⟨rfl,rfl⟩) AB AB AB<|.d fun bj ay=>?_
 replace ⟨hbx,hv,aa⟩:=(se [] ay).g3 hbx hv aa
 obtain ⟨bk,ak,az,aA,aZ⟩:=H7 (P:=Tryz.prog) (a2:=⟨r,0+i * 2,none⟩) (T:=76) (T2:=76) (ty:=3) (t:=69) (sz:=2) (o:=(0+(i+1) * 2)) (dl:=(n+1 - (i+1))) (dc:=(c - (i+1))) (sl:=(n+1 - i)) (sc:=(c - i)) (k:=(n - i)) (vs:=((cs.drop (i * 2)).take ((n - i) * 2))) AA hbx (by rw [Nat.zero_add]; exact hbx.has (i * 2) ((cs.drop (i * 2)).take ((n - i) * 2)) (PZ (by simp; omega))) (by rw [Qq hct hnx,EA,List.length_drop]; omega) (Rr AB) (by have:=hcl; omega) (by rw [Qq hct hnx]; exact MK _)
 refine RG.copy (ats:=[76,76]) (args:=[.slice (some ⟨r,0+(i+1) * 2,none⟩) (n+1 - (i+1)) (c - (i+1)),.slice (some ⟨r,0+i * 2,none⟩) (n+1 - i) (c - i)]) AA ak ?_
 rw [Nat.zero_add] at az
 replace ⟨hv,aa⟩:=(s1 aA).g2 hv aa
 refine .d<|.s<|.g<|.r 2<|RG.IH (r:=r) (o:=0) (len:=(n+1)) (cap:=c) (t:=76) (lo:=some (vI (i:Int))) (hi:=none) (sz:=2) i (n+1) AA AA (.inr ⟨_,_,rfl,by omega⟩) (.inl ⟨rfl,rfl⟩) AB AB AB<|.r 1 ?_
 obtain ⟨bm,al,aB,aC,ba⟩:=H7 (P:=Tryz.prog) (a2:=⟨vb,0,none⟩) (T:=76) (T2:=76) (ty:=3) (t:=69) (sz:=2) (o:=(0+i * 2)) (dl:=(n+1 - i)) (dc:=(c - i)) (sl:=1) (sc:=1) (k:=1) (vs:=(Gf y)) AA az (hv.has 0 (Gf y) rfl) AF (Nat.min_eq_left AB) (by have:=hcl; rw [ET (by rw [Qq hct hnx,EA,List.length_drop]; omega)]; omega) (by intro v hv_; simp [Gf] at hv_; rcases hv_ with rfl | rfl <;> rfl)
 refine RG.copy (ats:=[76,76]) (args:=[.slice (some ⟨r,0+i * 2,none⟩) (n+1 - i) (c - i),vS vb 1 1]) AA al ?_
 rw [Nat.zero_add] at aB
 replace ⟨hv,aa⟩:=(s1 aC).g2 hv aa
 refine .d<|.s<|.g<|.r 2<|.d ?_
 have hfin:=oR (y:=y) hcl hct hnx (by omega:i< n) AB
 have hlen:(xs.take i++y::xs.drop i).length=n+1:=by simp; omega
 have hown:=Own.Xv (F:=all) aB hfin.2 hfin.1 (by rw [hlen]; omega) AB
 rw [hlen] at hown
 exact .rt func152 results152 (vS r (n+1) c) ⟨⟨_,_,rfl,hown,FX⟩,aa⟩
end Go.Proofs.YtckdhcbbgmiccaaGreatDoor
namespace Go.Proofs.YtckdhcbbgmiccaaGreatDoor
theorem Own.WY {w:World}{r t c:Nat}{F:Nat→Prop}{y:Row}(h:Own w r t F 1 c [y]) (hc:c=1:=by rfl):Box w r t [.int .i64 y.t,.int .i64 y.v]:=by
 obtain ⟨cs,h1,h2,h3,_,_⟩:=h.box
 subst hc
 rw [List.take_of_length_le AB] at h3
 rw [h3] at h1
 exact h1
theorem Mv.WZ {w w':World}{r r2:Nat}(A B:List Nat) (hx:Chg (Go.Proofs.YtckdhcbbgmiccaaGreatDoor.one r) w w') (h:OrB r2 r w.heap.size):Mv (A++r::B) (A++r2::B) w w':=Mv.mk hx (fun k hk hm=>by
 unfold OrB at h
 simp only [List.mem_append,List.mem_cons,not_or] at hm ⊢
 exact ⟨⟨hm.1,by omega,hm.2.2⟩,hm.2.1⟩)
theorem Wa {b:List Row}{r x:Row}{i:Nat}(h:b.take i++De r (b.drop i)=De r b) (hx:b[i]? = some x) (ht:x.t< r.t):b.take (i+1)++De r (b.drop (i+1))=De r b:=by
 rw [drop_at hx,De,if_neg AB,if_neg AB] at h
 rw [← h,List.take_add_one,hx]
 simp
theorem UE {b:List Row}{r x:Row}{i:Nat}(h:b.take i++De r (b.drop i)=De r b) (hx:b[i]? = some x) (ht:x.t=r.t):b.set i r=De r b:=by
 rw [drop_at hx,De,if_neg AB,if_pos AB] at h
 rw [← h]
 obtain ⟨h1,h2⟩:=List.getElem?_eq_some_iff.1 hx
 rw [List.set_eq_take_append_cons_drop,if_pos h1]
theorem YS {b:List Row}{r x:Row}{i:Nat}(h:b.take i++De r (b.drop i)=De r b) (hx:b[i]? = some x) (h1:¬ x.t< r.t) (h2:x.t≠r.t):b.take i++r::b.drop i=De r b:=by
 rw [← h]
 congr 1
 rw [drop_at hx,De,if_pos AB]
theorem Qr {b:List Row}{r:Row}{i:Nat}(h:b.take i++De r (b.drop i)=De r b) (hi:b.length≤i):b.take i++r::b.drop i=De r b:=by
 rw [← h,Ac hi]
 rfl
def BN (p:Prt) (id:Int):List Row:=if Ay p then partOf p id else []
theorem KI (v:Int):∀ (is:List Int) (bs:List (List Row)) (i:Nat),is.length=bs.length→(Em v i is = -1∧Bj v is bs=[])∨((i:Int)≤Em v i is∧Em v i is< (i:Int)+is.length∧∃ b,bs[(Em v i is).toNat - i]? = some b∧Bj v is bs=b):=by
 intro is
 induction is with
 | nil=>intro bs i h; left; exact ⟨rfl,by unfold Bj; rfl⟩
 | cons x xs ih =>
   intro bs i h
   cases bs with
   | nil=>simp at h
   | cons b bs =>
     unfold Em Bj
     by_cases hx:(x==v)=true
     ·right
      rw [if_pos hx,if_pos hx]
      refine ⟨by omega,by simp only [List.length_cons]; omega,b,?_,rfl⟩
      simp
     ·rw [if_neg hx,if_neg hx]
      rcases ih bs (i+1) (by simpa using h) with ⟨h1,h2⟩ | ⟨h1,h2,c,h3,h4⟩
      ·left; exact ⟨h1,h2⟩
      ·right
       refine ⟨by omega,by simp only [List.length_cons]; omega,c,?_,h4⟩
       rw [show (Em v (i+1) xs).toNat - i=((Em v (i+1) xs).toNat - (i+1))+1 by omega,List.getElem?_cons_succ]
       exact h3
theorem G2 {p:Prt}(h:Ay p=true):p.ids.length=p.blocks.length:=by
 unfold Ay at h
 simp only [AW,decide_eq_true_eq] at h
 exact h.1
theorem Wb {p:Prt}{id:Int}(h:Ay p=false):BN p id=[]:=by unfold BN; rw [h]; rfl
theorem Wc {p:Prt}{id:Int}(h:Ay p=true) (h2:Em id 0 p.ids< 0):BN p id=[]:=by
 unfold BN partOf
 rw [if_pos h]
 rcases KI id p.ids p.blocks 0 (G2 h) with ⟨_,h3⟩ | ⟨h1,_⟩
 ·exact h3
 ·omega
theorem Wd {p:Prt}{id:Int}{b:List Row}(h:Ay p=true) (h2:¬ Em id 0 p.ids< 0) (hb:p.blocks[(Em id 0 p.ids).toNat]? = some b):BN p id=b:=by
 unfold BN partOf
 rw [if_pos h]
 rcases KI id p.ids p.blocks 0 (G2 h) with ⟨h1,_⟩ | ⟨_,_,c,h3,h4⟩
 ·omega
 ·rw [Nat.sub_zero,hb] at h3
  cases h3
  exact h4
theorem We {p:Prt}{id:Int}(h:Ay p=true) (h2:¬ Em id 0 p.ids< 0):(Em id 0 p.ids).toNat< p.blocks.length:=by
 rcases KI id p.ids p.blocks 0 (G2 h) with ⟨h1,_⟩ | ⟨_,h3,_⟩
 ·omega
 ·have:=G2 h; omega
theorem PrtI.ofI {p:Prt}(h:PrtI p) (id:Int):Blk (BN p id):=by
 unfold BN
 split
 ·exact h.of id
 ·exact Blk.nil
theorem Ff {α β:Type}{f:β→α→β}{l:List α}{i:Nat}{b:β}{x:α}{Y:β}(h:(l.drop i).foldl f b=Y) (hd:l.drop i=x::l.drop (i+1)):(l.drop (i+1)).foldl f (f b x)=Y:=by
 rw [hd] at h
 exact h
theorem F6 {α β:Type}{f:β→α→β}{l:List α}{i:Nat}{b:β}{Y:β}(h:(l.drop i).foldl f b=Y) (hi:l.length≤i):b=Y:=by
 rw [Ac hi] at h
 exact h
theorem KJ {id:Int}{o:List Row}{m:Smp}(h:m.id=id) (ho:Blk o):Cl id o m=De m.row o:=by unfold Cl; rw [if_pos (by simpa using h),Ge ho]
theorem Gg {id:Int}{o:List Row}{m:Smp}(h:m.id≠id):Cl id o m=o:=by unfold Cl; rw [if_neg (by simpa using h)]
theorem Blk.ins {b:List Row}(h:Blk b){r:Row}(hr:Be r=true):Blk (De r b):=by rw [← Ge h]; exact h.put hr
theorem Zn {p:Prt}{a:List Int}{b:List (List Row)}(ha:a=p.ids) (hb:b=p.blocks):(⟨a,b⟩:Prt)=p:=by subst ha hb; rfl
theorem UF {α:Type}{l k:List α}{i:Nat}(h:k++l.drop i=l) (hi:l.length≤i):k=l:=by
 rw [Ac hi,List.append_nil] at h
 exact h
theorem UG {α:Type}{l:List α}{i:Nat}{k:List α}{q:α}(h:k++l.drop i=l) (hd:l.drop i=q::l.drop (i+1)):(k++[q])++l.drop (i+1)=l:=by
 rw [hd] at h
 simpa using h
end Go.Proofs.YtckdhcbbgmiccaaGreatDoor
namespace Go.Proofs.YtckdhcbbgmiccaaGreatDoor
set_option maxRecDepth 100000
set_option maxHeartbeats 4000000
variable {w:World} {F:Nat→Prop} {a1 a2 a3 a4:Option Addr} {n1 c1 n2 c2 n3 c3 n4 c4:Nat}
theorem Ik (b:List Row) (r:Row) (h1:RepS w F a1 n1 c1 b) (p0:b.length≤100000):Calls Tryz.prog 86 [.slice a1 n1 c1,.agg #[.int .i64 r.t,.int .i64 r.v]].toArray w (Al fun rv w'=>VL (ge w.heap.size) w' (De r b:List Row) rv∧Ext w w'):=by
 refine goT func86 ?_
 obtain ⟨rfl,fw,h1⟩:=h1.tp
 refine .s<|.g<|.np 69 [vI r.t,vI r.v] fun ac fY b9 bu aa dB=>?_
 replace h1:=(sn [] bu b9).g1 h1
 have E:=bu
 refine .r 1<|.d<|.s<|.g<|.ns 0 69 [] fun cB eD bj cd dC dD=>?_
 have dE:=Ad bj aa.lt
 have dF:=Bq bj E.size
 have dG:=E.cn bj
 replace ⟨h1,aa,E⟩:=(sn [ac] cd bj).g3 h1 aa E
 have dH:Own (α:=Row) eD cB 69 (nin (ge w.heap.size) [cB,ac]) 0 0 []:=Own.BX dC
 refine .r 1<|RG.Dj (T:=76) (ty:=76) By dH h1 AA AA (fun b h e=>h.2 (e▸AI)) AB fun ae cC dI ab aR ce=>?_
 have fA:=CI aR dE aa.lt
 have cg:=Fx aR dF E.size
 have fB:=Ig aR dG E.size
 replace ⟨aa,E⟩:=(s1 ce).g2 aa E
 replace ab:=ab.rn cB
 have fC:=ab.len
 refine .r 1<|.d<|.s<|.g<|.r 1<|.d<|.s<|.b 0<|T.loop (X:=Nat) 0 (fun at_=>[(3,.pointer (some ⟨ac,0,none⟩)),(5,vS ae (0+b.length) cC),(6,vI (at_:Int))]) (fun at_ cD=>Chg (ins []) dI cD∧(at_≤b.length)∧(b.take at_++De r (b.drop at_)=De r b)) (fun at_=>b.length - at_) AA ⟨AA,AA,AA,trivial⟩ ⟨Chg.refl _ _,AB,AD⟩ ?_
 rintro at_ fZ cD ⟨aF,fE,fF⟩ bv
 have ci:Mv [ae,ac] [ae,ac] dI cD:=Mv.inl aF all_nil (all_cons (.inl AI) (all_cons (.inl AJ) all_nil))
 replace ⟨aa,ab,E⟩:=(sp ci aF).g3 aa ab E
 refine .s<|.s<|.gd nil 12 fun eE cj=>?_
 replace ⟨aa,ab,E,aF⟩:=(se [ae,ac] cj).g4 aa ab E aF
 refine .r [0,1,2]<|GA.G5 (i:=3) ((at_:Int)< ((0+b.length):Int)) AA (fun dJ=>?_) (fun dJ=>?_)
 ·refine .r [4,5,6] ?_
  have dK:at_< 0+b.length:=AB
  refine GA.idx (i:=7) (b:=ae) (o:=0) at_ (len:=0+b.length) (z:=(at_:Int)) (sz:=2) AA AB dK rfl<|.r [8] ?_
  obtain ⟨ax,aM⟩:∃ y,([]++b)[at_]? = some y:=⟨_,AU AB⟩
  obtain ⟨_,rfl,bw⟩:=ab.elem at_ ax aM
  replace bw:Has eE ⟨ae,0+at_ * Rep.sz Row,none⟩ [vI ax.t,vI ax.v]:=by rw [Nat.zero_add]; exact bw
  refine .lh 9 0 bw id<|.r [10]<|.lb 11 aa id<|.d fun f0 ck=>?_
  replace ⟨aa,ab,E,aF⟩:=(se [ae,ac] ck).g4 aa ab E aF
  refine .bp (ax.t< r.t) (fun dL=>.r 1<|.d<|.ct<|.sk<|.b 1<|.g<|.r 1<|.it ((at_:Int)+1)<|.r 1<|.d<|.ib 1<|bv (at_+1) _ _ ⟨AA,AA,AA,trivial⟩ ⟨aF,AB,(by exact Wa ‹_› ‹_› ‹_›)⟩ AB) fun dL=>.r 1<|.d<|.cf<|.x 0 rfl<|.s<|.s<|.gd nil 12 fun eF cm=>?_
  replace ⟨aa,ab,E⟩:=(se [ae,ac] cm).g3 aa ab E
  refine .r [0,1,2]<|GA.G5 (i:=3) ((at_:Int)< ((0+b.length):Int)) AA (fun dM=>?_) (fun dM=>?_)
  ·refine .r [4,5,6] ?_
   have dN:at_< 0+b.length:=AB
   refine GA.idx (i:=7) (b:=ae) (o:=0) at_ (len:=0+b.length) (z:=(at_:Int)) (sz:=2) AA AB dN rfl<|.r [8] ?_
   obtain ⟨_,rfl,bz⟩:=ab.elem at_ ax aM
   replace bz:Has eF ⟨ae,0+at_ * Rep.sz Row,none⟩ [vI ax.t,vI ax.v]:=by rw [Nat.zero_add]; exact bz
   refine .lh 9 0 bz id<|.r [10]<|.lb 11 aa id<|.d fun eG co=>?_
   replace ⟨aa,ab,E⟩:=(se [ae,ac] co).g3 aa ab E
   refine .eq ax.t r.t (fun dO=>?_) (fun dO=>?_)
   ·refine .r 1<|.d<|.ct<|.s<|.g<|.r 2<|.ln aa ?_
    have dP:at_< 0+b.length:=AB
    refine RG.idx (b:=ae) (o:=0) at_ (len:=0+b.length) (i:=(at_:Int)) (sz:=2) AA AB dP rfl ?_
    obtain ⟨_,rfl,bA⟩:=ab.elem at_ ax aM
    replace bA:Has eG ⟨ae,0+at_ * Rep.sz Row,none⟩ [vI ax.t,vI ax.v]:=by rw [Nat.zero_add]; exact bA
    refine RG.FV (t':=69) (i:=at_) (k:=0) (v:=.agg #[vI r.t,vI r.v]) (cs:=[vI ax.t,vI ax.v]) r ab aM bA AA AA AA rfl fun f5 dQ cp dR=>?_
    replace ⟨aa,E⟩:=(s1 cp).g2 aa E
    refine .d<|.s<|.g<|.r 2<|.d ?_
    have eH:=dQ.sl cg
    exact .rt func86 results86 (vS ae (0+b.length) cC) ⟨(eH.vl (by exact UE ‹_› ‹_› ‹_›) (fun _ _ h=>h.1)),E⟩
   refine .r 1<|.d<|.cf<|.sk<|.s<|.g<|.ns 0 69 [] fun aS eI aN cq dS dT=>?_
   have dU:=Ad aN aa.lt
   have dV:=Ad aN ab.lt
   have dW:=Bq aN E.size
   have fH:=E.cn aN
   replace ⟨aa,ab,E⟩:=(sn [ae,ac] cq aN).g3 aa ab E
   have aG:Own (α:=Row) eI aS 69 (nin (ge w.heap.size) [aS,ae,ac]) 0 0 []:=Own.BX dS
   refine .r 2<|.ln aa<|.ns 1 69 [vI r.t,vI r.v] fun bt dX aT bB cE cF=>?_
   have cG:=Ad aT ab.lt
   have cH:=Ad aT aG.lt
   replace ⟨aa,ab,aG,E⟩:=(sn [aS,ae,ac] bB aT).g4 aa ab aG E
   have aU:Own (α:=Row) dX bt 69 (nin (ge w.heap.size) [bt,aS,ae,ac]) 1 1 [r]:=Own.lit cE rfl AE ⟨rfl,rfl⟩
   refine .cl (D6 (i:=at_) (y:=r) ab (Own.WY aU) cG AB AB) ?_
   rintro fI cr ⟨⟨bC,fJ,rfl,ay,aV⟩,bk⟩
   have bD:=D9 aV (Nb.symm dV) aG.lt
   have bE:Mv [bt,aS,ae,ac] [bt,aS,bC,ac] dX cr:=Mv.WZ [bt,aS] [ac] bk aV
   replace ⟨aa,aG,aU,E⟩:=(sp bE bk).g4 aa aG aU E
   replace ay:Own cr bC 69 (nin (ge w.heap.size) [bt,aS,bC,ac]) _ _ _:=ay.flat By
   have eJ:=ay.len
   refine RG.Dj (T:=76) (ty:=76) By aG (ay.WH By) AA AA (fun b h e=>bD (h.symm.trans e)) AB fun dY dZ fK aH ai bF=>?_
   have eL:=CI ai dU aa.lt
   have eM:=CI ai (Nb.symm bD) ay.lt
   have eN:=CI ai (Nb.symm cH) aU.lt
   have cI:=Fx ai dW E.size
   replace ⟨aa,E⟩:=(s1 bF).g2 aa E
   replace aH:=aH.rn aS
   refine .r 1<|.d ?_
   have d0:=aH.sl cI
   exact .rt func86 results86 (vS dY (0+(0+b.length+1)) dZ) ⟨(d0.vl (by exact YS ‹_› ‹_› ‹_› ‹_›) (fun _ _ h=>h.1)),E⟩
  refine .r [4]<|GA.skip AA fun fL bG=>?_
  replace ⟨aa,ab,E⟩:=(se [ae,ac] bG).g3 aa ab E
  refine .r 2<|.d<|.cf<|.sk<|.s<|.g<|.ns 0 69 [] fun aj d3 az bH cJ cK=>?_
  have cL:=Ad az aa.lt
  have cM:=Ad az ab.lt
  have cN:=Bq az E.size
  have eQ:=E.cn az
  replace ⟨aa,ab,E⟩:=(sn [ae,ac] bH az).g3 aa ab E
  have af:Own (α:=Row) d3 aj 69 (nin (ge w.heap.size) [aj,ae,ac]) 0 0 []:=Own.BX cJ
  refine .r 2<|.ln aa<|.ns 1 69 [vI r.t,vI r.v] fun aO cu aW bI cO cP=>?_
  have cQ:=Ad aW ab.lt
  have cR:=Ad aW af.lt
  replace ⟨aa,ab,af,E⟩:=(sn [aj,ae,ac] bI aW).g4 aa ab af E
  have aX:Own (α:=Row) cu aO 69 (nin (ge w.heap.size) [aO,aj,ae,ac]) 1 1 [r]:=Own.lit cO rfl AE ⟨rfl,rfl⟩
  refine .cl (D6 (i:=at_) (y:=r) ab (Own.WY aX) cQ AB AB) ?_
  rintro fM cw ⟨⟨bJ,fN,rfl,aA,aY⟩,bm⟩
  have bK:=D9 aY (Nb.symm cM) af.lt
  have bL:Mv [aO,aj,ae,ac] [aO,aj,bJ,ac] cu cw:=Mv.WZ [aO,aj] [ac] bm aY
  replace ⟨aa,af,aX,E⟩:=(sp bL bm).g4 aa af aX E
  replace aA:Own cw bJ 69 (nin (ge w.heap.size) [aO,aj,bJ,ac]) _ _ _:=aA.flat By
  refine RG.Dj (T:=76) (ty:=76) By af (aA.WH By) AA AA (fun b h e=>bK (h.symm.trans e)) AB fun d4 d5 fO aI ak bM=>?_
  have eT:=CI ak cL aa.lt
  have eU:=CI ak (Nb.symm bK) aA.lt
  have eV:=CI ak (Nb.symm cR) aX.lt
  have cS:=Fx ak cN E.size
  replace ⟨aa,E⟩:=(s1 bM).g2 aa E
  replace aI:=aI.rn aj
  refine .r 1<|.d ?_
  have d6:=aI.sl cS
  exact .rt func86 results86 (vS d4 (0+(0+b.length+1)) d5) ⟨(d6.vl (by exact Qr ‹_› AB) (fun _ _ h=>h.1)),E⟩
 refine .r [4]<|GA.skip AA fun fP bN=>?_
 replace ⟨aa,ab,E⟩:=(se [ae,ac] bN).g3 aa ab E
 refine .r 2<|.d<|.cf<|.x 0 rfl<|.s<|.s<|.gd nil 12 fun d7 bO=>?_
 replace ⟨aa,ab,E⟩:=(se [ae,ac] bO).g3 aa ab E
 refine .r [0,1,2]<|GA.G5 (i:=3) ((at_:Int)< ((0+b.length):Int)) AA (fun cT=>?_) (fun cT=>?_)
 ·refine .r [4,5,6] ?_
  have cU:at_< 0+b.length:=AB
  refine GA.idx (i:=7) (b:=ae) (o:=0) at_ (len:=0+b.length) (z:=(at_:Int)) (sz:=2) AA AB cU rfl<|.r [8] ?_
  obtain ⟨al,aJ⟩:∃ y,([]++b)[at_]? = some y:=⟨_,AU AB⟩
  obtain ⟨_,rfl,bn⟩:=ab.elem at_ al aJ
  replace bn:Has d7 ⟨ae,0+at_ * Rep.sz Row,none⟩ [vI al.t,vI al.v]:=by rw [Nat.zero_add]; exact bn
  refine .lh 9 0 bn id<|.r [10]<|.lb 11 aa id<|.d fun d9 bP=>?_
  replace ⟨aa,ab,E⟩:=(se [ae,ac] bP).g3 aa ab E
  refine .eq al.t r.t (fun cV=>?_) (fun cV=>?_)
  ·refine .r 1<|.d<|.ct<|.s<|.g<|.r 2<|.ln aa ?_
   have cW:at_< 0+b.length:=AB
   refine RG.idx (b:=ae) (o:=0) at_ (len:=0+b.length) (i:=(at_:Int)) (sz:=2) AA AB cW rfl ?_
   obtain ⟨_,rfl,bo⟩:=ab.elem at_ al aJ
   replace bo:Has d9 ⟨ae,0+at_ * Rep.sz Row,none⟩ [vI al.t,vI al.v]:=by rw [Nat.zero_add]; exact bo
   refine RG.FV (t':=69) (i:=at_) (k:=0) (v:=.agg #[vI r.t,vI r.v]) (cs:=[vI al.t,vI al.v]) r ab aJ bo AA AA AA rfl fun fQ cX bQ cY=>?_
   replace ⟨aa,E⟩:=(s1 bQ).g2 aa E
   refine .d<|.s<|.g<|.r 2<|.d ?_
   have ec:=cX.sl cg
   exact .rt func86 results86 (vS ae (0+b.length) cC) ⟨(ec.vl (by exact UE ‹_› ‹_› ‹_›) (fun _ _ h=>h.1)),E⟩
  refine .r 1<|.d<|.cf<|.sk<|.s<|.g<|.ns 0 69 [] fun am ee aB bR cZ c7=>?_
  have c8:=Ad aB aa.lt
  have da:=Ad aB ab.lt
  have db:=Bq aB E.size
  have eZ:=E.cn aB
  replace ⟨aa,ab,E⟩:=(sn [ae,ac] bR aB).g3 aa ab E
  have ag:Own (α:=Row) ee am 69 (nin (ge w.heap.size) [am,ae,ac]) 0 0 []:=Own.BX cZ
  refine .r 2<|.ln aa<|.ns 1 69 [vI r.t,vI r.v] fun aP cx aZ bS de df=>?_
  have dh:=Ad aZ ab.lt
  have dj:=Ad aZ ag.lt
  replace ⟨aa,ab,ag,E⟩:=(sn [am,ae,ac] bS aZ).g4 aa ab ag E
  have ba:Own (α:=Row) cx aP 69 (nin (ge w.heap.size) [aP,am,ae,ac]) 1 1 [r]:=Own.lit de rfl AE ⟨rfl,rfl⟩
  refine .cl (D6 (i:=at_) (y:=r) ab (Own.WY ba) dh AB AB) ?_
  rintro fR cy ⟨⟨bT,fS,rfl,aC,bd⟩,bq⟩
  have bU:=D9 bd (Nb.symm da) ag.lt
  have bV:Mv [aP,am,ae,ac] [aP,am,bT,ac] cx cy:=Mv.WZ [aP,am] [ac] bq bd
  replace ⟨aa,ag,ba,E⟩:=(sp bV bq).g4 aa ag ba E
  replace aC:Own cy bT 69 (nin (ge w.heap.size) [aP,am,bT,ac]) _ _ _:=aC.flat By
  refine RG.Dj (T:=76) (ty:=76) By ag (aC.WH By) AA AA (fun b h e=>bU (h.symm.trans e)) AB fun eg eh fT aK ao bW=>?_
  have fa:=CI ao c8 aa.lt
  have fb:=CI ao (Nb.symm bU) aC.lt
  have fd:=CI ao (Nb.symm dj) ba.lt
  have dm:=Fx ao db E.size
  replace ⟨aa,E⟩:=(s1 bW).g2 aa E
  replace aK:=aK.rn am
  refine .r 1<|.d ?_
  have ej:=aK.sl dm
  exact .rt func86 results86 (vS eg (0+(0+b.length+1)) eh) ⟨(ej.vl (by exact Qr ‹_› AB) (fun _ _ h=>h.1)),E⟩
 refine .r [4]<|GA.skip AA fun fU bX=>?_
 replace ⟨aa,ab,E⟩:=(se [ae,ac] bX).g3 aa ab E
 refine .r 2<|.d<|.cf<|.sk<|.s<|.g<|.ns 0 69 [] fun aq ek aD bY dp dq=>?_
 have dt:=Ad aD aa.lt
 have du:=Ad aD ab.lt
 have dv:=Bq aD E.size
 have fg:=E.cn aD
 replace ⟨aa,ab,E⟩:=(sn [ae,ac] bY aD).g3 aa ab E
 have ah:Own (α:=Row) ek aq 69 (nin (ge w.heap.size) [aq,ae,ac]) 0 0 []:=Own.BX dp
 refine .r 2<|.ln aa<|.ns 1 69 [vI r.t,vI r.v] fun aQ cz bg bZ dw dx=>?_
 have dy:=Ad bg ab.lt
 have dz:=Ad bg ah.lt
 replace ⟨aa,ab,ah,E⟩:=(sn [aq,ae,ac] bZ bg).g4 aa ab ah E
 have bh:Own (α:=Row) cz aQ 69 (nin (ge w.heap.size) [aQ,aq,ae,ac]) 1 1 [r]:=Own.lit dw rfl AE ⟨rfl,rfl⟩
 refine .cl (D6 (i:=at_) (y:=r) ab (Own.WY bh) dy AB AB) ?_
 rintro fV cA ⟨⟨b0,fW,rfl,aE,bi⟩,br⟩
 have b6:=D9 bi (Nb.symm du) ah.lt
 have b7:Mv [aQ,aq,ae,ac] [aQ,aq,b0,ac] cz cA:=Mv.WZ [aQ,aq] [ac] br bi
 replace ⟨aa,ah,bh,E⟩:=(sp b7 br).g4 aa ah bh E
 replace aE:Own cA b0 69 (nin (ge w.heap.size) [aQ,aq,b0,ac]) _ _ _:=aE.flat By
 have fi:=aE.len
 refine RG.Dj (T:=76) (ty:=76) By ah (aE.WH By) AA AA (fun b h e=>b6 (h.symm.trans e)) AB fun en eA fX aL ar b8=>?_
 have fm:=CI ar dt aa.lt
 have fp:=CI ar (Nb.symm b6) aE.lt
 have fq:=CI ar (Nb.symm dz) bh.lt
 have dA:=Fx ar dv E.size
 replace E:=(s1 b8).g1 E
 replace aL:=aL.rn aq
 refine .r 1<|.d ?_
 have eB:=aL.sl dA
 exact .rt func86 results86 (vS en (0+(0+b.length+1)) eA) ⟨(eB.vl (by exact Qr ‹_› AB) (fun _ _ h=>h.1)),E⟩
theorem GM (p:Prt) (id:Int) (h1:RepS w F a1 n1 c1 p.ids) (h2:RepS w F a2 n2 c2 p.blocks) (p0:C9 p):Calls Tryz.prog 85 [.agg #[.slice a1 n1 c1,.slice a2 n2 c2],.int .i64 id].toArray w (Al fun rv w'=>VL (ge w.heap.size) w' (BN p id:List Row) rv∧Ext w w'):=by
 cases h1.len
 cases h2.len
 refine goT func85 ?_
 have Z:=((St.i0 F w).p h1).p h2
 refine .s<|.g<|RG.Np Z fun ai w Z=>.r 1<|.d<|.s<|.g<|.r 1<|RG.Lb 0 Z<|.r 1<|RG.C0 (EO p.ids id (Z.a 1)) Z fun w Z=>.r 1<|.d<|.s<|.s<|.g<|RG.Ln 0 Z<|RG.C0 (DM p (Z.a 1) (Z.a 0)) Z fun w Z=>?_
 cases ag:(Ay p)
 ·exact .r 5<|.d<|.ct<|.s<|.g<|RG.N0 Row 0 Z fun aj w Z=>.r 1<|.d<|T.Rt func85 results85 ⟨Z.rM 0 ([]:List Row) (by rw [Wb ‹_›]),Z.xt⟩
 exact .r 3<|.bp (Em id 0 p.ids< 0) (fun aa=>.r 1<|.d<|.ct<|.s<|.g<|RG.N0 Row 0 Z fun ak w Z=>.r 1<|.d<|T.Rt func85 results85 ⟨Z.rM 0 ([]:List Row) (by rw [Wc ‹_› ‹_›]),Z.xt⟩) fun aa=>.r 1<|.d<|.cf<|.sk<|.s<|.g<|RG.N0 Row 0 Z fun al w Z=>.r 1<|RG.Lb 1 Z<|.r 1<|gxm (h:=(by exact We ‹_› ‹_›)) p.blocks ((Em id 0 p.ids).toNat) fun ab E ac=>RG.Jx (hz:=AB) 0 (Em id 0 p.ids) E Z<|Z.el 0 E fun am ao Z=>RG.Lh 0 0 Z<|RG.An (hs:=by (simp only [List.nil_append,List.length_nil,List.length_append,List.length_cons] <;> exact (by (have q1:=p0.2.2 _ ‹_›; omega)))) (hf:=.inr By) 0 1 ([]:List Row) ab Z fun ar ax w Z=>.r 1<|.d<|T.Rt func85 results85 ⟨Z.rM 0 ([]++ab) (by (rw [Wd ‹_› ‹_› ‹_›]; rfl)),Z.xt⟩
theorem Av (p:Prt) (h1:RepS w F a1 n1 c1 p.ids) (h2:RepS w F a2 n2 c2 p.blocks) (p0:C9 p):Calls Tryz.prog 113 [.agg #[.slice a1 n1 c1,.slice a2 n2 c2]].toArray w (Al fun rv w'=>VS (ge w.heap.size) w' (p:Prt) rv∧Ext w w'):=by
 cases h1.len
 cases h2.len
 refine goT func113 ?_
 have Z:=((St.i0 F w).p h1).p h2
 have az:=h1.max
 have aA:=h2.max
 refine .s<|.g<|RG.Np Z fun am w Z=>RG.Np Z fun ag w Z=>.d<|.s<|.g<|RG.N0 Int 0 Z fun aG w Z=>.r 1<|RG.Lb 2 Z<|RG.An (hs:=by (simp only [List.nil_append,List.length_nil,List.length_append,List.length_cons] <;> exact (by have q1:=p0.1; have q2:=p0.2.1; omega))) (hf:=.inr BB) 0 1 ([]:List Int) p.ids Z fun ao aq w Z=>RG.N0 (List Row) 0 Z fun ar w Z=>.r 1<|RG.Np Z fun ae w Z=>RG.Ss 0 Z fun w Z=>.d<|.s<|.s<|.g<|.r 1<|RG.Lb 4 Z<|.r 2<|.d<|.b 0<|T.Lp ((0:Nat),(([]++p.ids):List Int),ao,aq,([]:List (List Row)),ar,(0:Nat)) (fun (k,aa,r_out_0,c_out_0,E,r_out_1,c_out_1)=>([(2,vP ag),(3,vP ae),(13,.slice a2 p.blocks.length c2),(14,vI (p.blocks.length:Int)),(15,vI (k:Int))],[(0,.box ae 124 [vS r_out_0 aa.length c_out_0,vS r_out_1 E.length c_out_1]),(1,.own 0 r_out_1 76 c_out_1 E),(2,.own 0 r_out_0 3 c_out_0 aa)],[],p.blocks.length - k,(k≤p.blocks.length)∧(aa=p.ids)∧(E.length≤k)∧(E++p.blocks.drop k=p.blocks))) [] Z ⟨AB,AF,AD,AF⟩ ?_
 rintro ⟨k,aa,r_out_0,c_out_0,E,r_out_1,c_out_1⟩ aH w Z ⟨aB,aC,aD,aE⟩ ac
 refine .s<|.g<|.bp ((k:Int)< (p.blocks.length:Int)) (fun ak=>?_) (fun ak=>?_)
 ·exact .d<|.s<|.ct<|.sk<|.s<|.b 1<|.s<|.g<|gxb p.blocks k fun af ab aF al=>RG.Ix 0 ab Z<|Z.el 0 ab fun aI aJ Z=>RG.Lh 0 0 Z<|.r 1<|.d<|T.GS 6 [ae,ag,am] Z fun _ w Z=>.r [0]<|GA.Lb 1 0 Z<|.r [3]<|.go 2<|GE.N0 Row 0 Z fun aK w Z=>.go 4<|GE.An (hs:=by (simp only [List.nil_append,List.length_nil,List.length_append,List.length_cons] <;> exact (by have q1:=p0.1; (have q3:=p0.2.2 _ ‹_›; omega)))) (hf:=.inr By) 0 1 ([]:List Row) af [1,4,5] Z fun aL aM w Z=>.go 5<|GE.Nb 1 Z fun aN w Z=>GA.Do Z fun w Z=>RG.Ap (hs:=by exact (by have q1:=p0.1; have q2:=p0.2.1; omega)) 1 0 E ([]++af) [0] (Z.sl 1) fun ax ay w Z=>.r 1<|RG.Ss 0 Z fun w Z=>.d<|.ib 1<|.g<|.it ((k:Int)+1)<|.r 1<|.d<|ac (k+1,aa,r_out_0,c_out_0,(E++[([]++af)]),ax,ay) _ _ AA (Z.to 0 [] 3) ⟨AB,‹_›,(by simp; omega),(by exact Rj ‹_› ‹_›)⟩ (by (simp only []; omega))
 refine .d<|.s<|.cf<|.x 0 rfl<|.s<|.g<|RG.Ln 0 Z<|RG.Ss 3 Z fun w Z=>.d ?_
 have Z:=(Z.sl 2).sl 1
 exact T.Rb 1 func113 results113 Z ⟨Z.rS (⟨aa,E⟩:Prt) [1,0] (by exact Zn ‹_› (UF ‹_› AB)),Z.xt⟩
theorem CZ (list:List Prt) (h1:RepS w F a1 n1 c1 list) (p0:list.length≤1000) (p1:∀ p∈list,C9 p):Calls Tryz.prog 57 [.slice a1 n1 c1].toArray w (Al fun rv w'=>VO 124 w.heap.size w' (list:List Prt) rv∧Ext w w'):=by
 cases h1.len
 refine goT func57 ?_
 have Z:=(St.i0 F w).p h1
 refine .s<|.g<|.r 1<|.d<|.s<|.g<|RG.N0 Prt 0 Z fun af w Z=>.r 1<|.d<|.s<|.s<|.g<|.r 3<|.d<|.b 0<|T.Lp (([]:List Prt),af,(0:Nat),(0:Nat)) (fun (out,r_out,c_out,k)=>([(3,vS r_out out.length c_out),(7,.slice a1 list.length c1),(8,vI (list.length:Int)),(9,vI (k:Int))],[(0,.own 0 r_out 124 c_out out)],[],list.length - k,(k≤list.length)∧(out.length≤k)∧(out++list.drop k=list))) [] Z ⟨AB,AD,AF⟩ ?_
 rintro ⟨out,r_out,c_out,k⟩ ao w Z ⟨aj,ak,al⟩ aa
 refine .s<|.g<|.bp ((k:Int)< (list.length:Int)) (fun ac=>?_) (fun ac=>.d<|.s<|.cf<|.x 0 rfl<|.s<|.g<|.r 2<|.d<|T.Rt func57 results57 ⟨Z.rO 0 out (by exact UF ‹_› AB),Z.xt⟩)
 exact .d<|.s<|.ct<|.sk<|.s<|.b 1<|.s<|.g<|gxb list k fun ab E am ae=>RG.Ix 0 E Z<|Z.el 0 E fun aq ar ax ay Z=>RG.Lg 0 0 Z<|RG.Np Z fun az w Z=>RG.Ss 0 Z fun w Z=>.d<|.g<|.r 1<|RG.Ln 0 Z<|RG.CS (Av ab (Z.a 1) (Z.a 2) (p1 _ ‹_›)) Z fun aA aB aC aD w Z=>RG.Nb 1 Z fun aE w Z=>RG.Ap 1 0 out ab [0,1] Z fun ag ah w Z=>.r 1<|.d<|.ib 1<|.g<|.it ((k:Int)+1)<|.r 1<|.d<|aa ((out++[ab]),ag,ah,k+1) _ _ AA (Z.to 1 [] 5) ⟨AB,(by simp; omega),(by exact UG ‹_› ‹_›)⟩ (by (simp only []; omega))
theorem DW (s:Sto) (id:Int) (h1:RepS w F a1 n1 c1 s.idx.names) (h2:RepS w F a2 n2 c2 s.idx.AY) (h3:RepS w F a3 n3 c3 s.parts) (h4:RepS w F a4 n4 c4 s.mem) (p0:∀ p∈s.parts,PrtI p∧Ay p=true) (p1:∀ m∈s.mem,Be m.row=true) (p2:s.parts.length≤1000) (p3:s.mem.length≤1000):Calls Tryz.prog 42 [.agg #[.slice a1 n1 c1,.slice a2 n2 c2,.slice a3 n3 c3,.slice a4 n4 c4],.int .i64 id].toArray w (Al fun rv w'=>VL (ge w.heap.size) w' (rowsOf s id:List Row) rv∧Ext w w'):=by
 cases h1.len
 cases h2.len
 cases h3.len
 cases h4.len
 refine goT func42 ?_
 have Z:=((((St.i0 F w).p h1).p h2).p h3).p h4
 refine .s<|.g<|RG.Np Z fun am w Z=>.r 1<|.d<|.s<|.g<|RG.N0 Row 0 Z fun aB w Z=>.r 1<|.d<|.s<|.s<|.g<|.r 1<|RG.Lb 1 Z<|.r 2<|.d<|.b 0 ?_
 have Z:=Z.sl 0
 refine T.Lp (([]:List Row),sA aB,(0:Nat),(0:Nat)) (fun (out,a_out,c_out,k)=>([(1,vI id),(2,vP am),(5,.slice a_out out.length c_out),(14,.slice a3 s.parts.length c3),(15,vI (s.parts.length:Int)),(16,vI (k:Int))],[],[⟨0,none,.rep a_out c_out out⟩],s.parts.length - k,(k≤s.parts.length)∧(Blk out)∧((s.parts.drop k).foldl (CG id) out=s.parts.foldl (CG id) []))) [0] Z ⟨AB,AF,AF⟩ ?_
 rintro ⟨out,a_out,c_out,k⟩ bk w Z ⟨aM,aN,aO⟩ ah
 refine .s<|.g<|.bp ((k:Int)< (s.parts.length:Int)) (fun ao=>?_) (fun ao=>?_)
 ·refine .d<|.s<|.ct<|.sk<|.s<|.b 1<|.s<|.g<|gxb s.parts k fun aa ae aQ ay=>RG.Ix 3 ae Z<|Z.el 3 ae fun bm bn bo bq Z=>RG.Lg 0 0 Z<|RG.Np Z fun br w Z=>RG.Ss 0 Z fun w Z=>.d<|.s<|.g<|RG.Ln 0 Z<|.r 1<|RG.CL (GM aa id (Z.a 1) (Z.a 2) (p0 _ ‹_›).1.sz) Z fun aC aD w Z=>?_
  have aT:=Z.mf 0 (BN aa id)
  refine .r 2<|.d<|.b 2<|T.Lp ((out:List Row),a_out,c_out,(0:Nat)) (fun (E,a_out1,c_out1,k1)=>([(1,vI id),(2,vP am),(5,.slice a_out1 E.length c_out1),(14,.slice a3 s.parts.length c3),(15,vI (s.parts.length:Int)),(16,vI (k:Int)),(22,.slice aC ((BN aa id).length) aD),(23,vI (((BN aa id).length):Int)),(24,vI (k1:Int))],[],[⟨0,none,.rep a_out1 c_out1 E⟩],(BN aa id).length - k1,(k1≤(BN aa id).length)∧(Blk E)∧(((BN aa id).drop k1).foldl Eg E=CG id out aa))) [4] Z ⟨AB,‹_›,(by unfold BN CG; rw [if_pos (p0 _ ‹_›).2]; rfl)⟩ ?_
  rintro ⟨E,a_out1,c_out1,k1⟩ bt w Z ⟨aU,aV,aW⟩ ai
  have aX:=Z.mf 0 E
  refine .s<|.g<|.bp ((k1:Int)< (((BN aa id).length):Int)) (fun aq=>?_) (fun aq=>.d<|.s<|.cf<|.x 2 rfl<|.ib 1<|.g<|.it ((k:Int)+1)<|.r 1<|.d<|ah (E,a_out1,c_out1,k+1) _ _ AA (Z.to 1 [0] 6) ⟨AB,‹_›,(by have q1:=F6 (by assumption:((BN aa id).drop k1).foldl Eg E=_) AB; have q2:=Ff (by assumption:(s.parts.drop k).foldl (CG id) out=_) ‹_›; rw [← q1] at q2; exact q2)⟩ (by (simp only []; omega)))
  exact .d<|.s<|.ct<|.sk<|.s<|.b 3<|.s<|.g<|gxb (BN aa id) k1 fun al af aZ az=>RG.Ix 1 af Z<|Z.el 1 af fun Z=>RG.Lg 0 0 Z<|RG.Np Z fun bu w Z=>RG.Ss 0 Z fun w Z=>.d<|.g<|.r 1<|RG.Ln 0 Z<|RG.CL (Ik E al (Z.a 1) (by (have q1:=Blk.len (by assumption:Blk E); omega))) Z fun aE aF w Z=>.r 1<|.d<|.ib 3<|.g<|.it ((k1:Int)+1)<|.r 1<|.d<|ai (De al E,aE,aF,k1+1) _ _ AA (Z.to 1 [0] 3) ⟨AB,(by exact Blk.ins ‹_› (((p0 aa ‹_›).1.ofI id).rows _ ‹_›)),(by rw [← Ge ‹_›]; exact Ff ‹_› ‹_›)⟩ (by (simp only []; omega))
 refine .d<|.s<|.cf<|.x 0 rfl<|.s<|.s<|.g<|.r 1<|RG.Lb 0 Z<|.r 2<|.d<|.b 4<|T.Lp ((out:List Row),a_out,c_out,(0:Nat)) (fun (out,a_out,c_out,k)=>([(1,vI id),(5,.slice a_out out.length c_out),(34,.slice a4 s.mem.length c4),(35,vI (s.mem.length:Int)),(36,vI (k:Int))],[],[⟨0,none,.rep a_out c_out out⟩],s.mem.length - k,(k≤s.mem.length)∧(Blk out)∧((s.mem.drop k).foldl (Cl id) out=rowsOf s id))) [0] Z ⟨AB,‹_›,(by have q1:out=s.parts.foldl (CG id) []:=F6 (by assumption:(s.parts.drop k).foldl (CG id) out=_) AB; rw [q1]; rfl)⟩ ?_
 rintro ⟨out,a_out,c_out,k⟩ bv w Z ⟨bd,bg,bh⟩ ac
 refine .s<|.g<|.bp ((k:Int)< (s.mem.length:Int)) (fun ar=>?_) (fun ar=>.d<|.s<|.cf<|.x 4 rfl<|.s<|.g<|.r 2<|.d<|T.Rt func42 results42 ⟨Z.rL 0 out (by exact F6 ‹_› AB),Z.xt⟩)
 refine .d<|.s<|.ct<|.sk<|.s<|.b 5<|.s<|.g<|gxb s.mem k fun ak ag bi aA=>RG.Ix 3 ag Z<|Z.el 3 ag fun Z=>RG.Lg 0 0 Z<|RG.Np Z fun bw w Z=>RG.Ss 0 Z fun w Z=>.d<|.s<|.g<|.r 1<|RG.Lb 0 Z<|.r 1<|.eq ak.id id (fun ax=>?_) (fun ax=>.d<|.cf<|.sk<|.ib 5<|.g<|.it ((k:Int)+1)<|.r 1<|.d<|ac (out,a_out,c_out,k+1) _ _ AA (Z.to 1 [1] 2) ⟨AB,‹_›,(by have q1:=Ff (by assumption:(s.mem.drop k).foldl (Cl id) out=_) ‹_›; (rw [Gg ‹_›] at q1; exact q1))⟩ (by (simp only []; omega)))
 exact .d<|.ct<|.g<|.r 2<|RG.Ln 0 Z<|RG.CL (Ik out ak.row (Z.a 1) (by (have q1:=Blk.len (by assumption:Blk out); omega))) Z fun aG aH w Z=>.r 1<|.d<|.ib 5<|.g<|.it ((k:Int)+1)<|.r 1<|.d<|ac (De ak.row out,aG,aH,k+1) _ _ AA (Z.to 1 [0] 3) ⟨AB,(by exact Blk.ins ‹_› (p1 _ ‹_›)),(by have q1:=Ff (by assumption:(s.mem.drop k).foldl (Cl id) out=_) ‹_›; (rw [KJ ‹_› ‹_›] at q1; exact q1))⟩ (by (simp only []; omega))
end Go.Proofs.YtckdhcbbgmiccaaGreatDoor
namespace Go.Proofs.YtckdhcbbgmiccaaGreatDoor
def Dw (n:List Tag):Nat→List (List Tag)→Int
 | _,[]=>-1
 | i,x::xs=>if x==n then (i:Int) else Dw n (i+1) xs
def Cf (t:Tag):Nat→List Pst→Int
 | _,[]=>-1
 | i,x::xs=>if x.tag==t then (i:Int) else Cf t (i+1) xs
theorem Wf (n:List Tag):∀ (xs:List (List Tag)) (i:Nat),-1≤Dw n i xs∧Dw n i xs+1≤(i:Int)+xs.length:=by
 intro xs
 induction xs with
 | nil=>intro i; simp [Dw]
 | cons x xs ih =>
   intro i
   have:=ih (i+1)
   unfold Dw
   simp only [List.length_cons]
   split <;> omega
def KK (x y:Str):Int:=if Bz x y then -1 else if Bz y x then 1 else 0
def orF:List Int→Int
 | []=>0
 | x::xs=>if x≠0 then x else orF xs
def NF (a b:Pst):Int:=orF [KK a.tag.key b.tag.key,KK a.tag.val b.tag.val]
theorem JO (x y:Str):FW x y = !Bz y x:=by
 have key:∀ (x y:Str),(Op.bytesLess x y || x==y) = !Op.bytesLess y x:=by
  intro x
  induction x with
  | nil=>intro y; cases y <;> simp [Op.bytesLess]
  | cons a x ih =>
    intro y
    cases y with
    | nil=>simp [Op.bytesLess]
    | cons b y =>
      show ((decide (a< b) || a==b&&Op.bytesLess x y) || (a::x)==(b::y)) = !(decide (b< a) || b==a&&Op.bytesLess y x)
      rcases Nat.lt_trichotomy a.toNat b.toNat with h | h | h
      ·have h1:a< b:=UInt8.lt_iff_toNat_lt.2 h
       have h2:¬ b< a:=fun h2=>by have:=UInt8.lt_iff_toNat_lt.1 h2; omega
       have h3:¬ b=a:=fun e=>by rw [e] at h; omega
       simp [h1,h2,h3]
      ·have h1:a=b:=UInt8.toNat_inj.1 h
       subst h1
       have h2:¬ a< a:=fun h2=>by have:=UInt8.lt_iff_toNat_lt.1 h2; omega
       have:=ih y
       simp only [h2,decide_false,beq_self_eq_true,Bool.true_and,Bool.false_or,List.cons_beq_cons]
       exact this
      ·have h1:b< a:=UInt8.lt_iff_toNat_lt.2 h
       have h2:¬ a< b:=fun h2=>by have:=UInt8.lt_iff_toNat_lt.1 h2; omega
       have h3:¬ a=b:=fun e=>by rw [e] at h; omega
       simp [h1,h2,h3]
 exact key x y
theorem Wg {names:List (List Tag)}(h:(names.map text).Nodup):∀ (k:Nat) (x:List Tag),names[k]? = some x→Dw x 0 names=k:=by
 have key:∀ (ns:List (List Tag)) (i k:Nat) (x:List Tag),(ns.map text).Nodup→ns[k]? = some x→Dw x i ns=i+k:=by
  intro ns
  induction ns with
  | nil=>intro i k x _ h; simp at h
  | cons y ys ih =>
    intro i k x hn hx
    rw [List.map_cons,List.nodup_cons] at hn
    unfold Dw
    cases k with
    | zero =>
      simp at hx
      subst hx
      simp
    | succ k =>
      rw [List.getElem?_cons_succ] at hx
      have hne:¬ (y==x)=true:=fun e=>hn.1 (by rw [eq_of_beq e]; exact List.mem_map_of_mem (AV hx))
      rw [if_neg hne,ih (i+1) k x hn.2 hx]
      omega
 intro k x hx
 have:=key names 0 k x h hx
 omega
theorem Wh {names:List (List Tag)}{k:Nat}{x:List Tag}(h:NmI names) (hx:names[k]? = some x) (h2:Ar x=false∨Dw x 0 names+1≠(k:Int)+1):False:=by
 rcases h2 with h2 | h2
 ·rw [h.ok x (AV hx)] at h2; cases h2
 ·rw [Wg h.nodup k x hx] at h2; omega
theorem Wi {a b:Pst}(h:(a.tag==b.tag)=true):(a.ids==b.ids)=(a==b):=by
 rw [Bool.eq_iff_iff,beq_iff_eq,beq_iff_eq,Tq]
 exact ⟨fun h1=>⟨eq_of_beq h,h1⟩,fun h1=>h1.2⟩
theorem Wj {a b:Pst}(h:(a.tag==b.tag)=false):false=(a==b):=by
 symm
 rw [beq_eq_false_iff_ne]
 rintro rfl
 simp at h
end Go.Proofs.YtckdhcbbgmiccaaGreatDoor
namespace Go.Proofs.YtckdhcbbgmiccaaGreatDoor
set_option maxRecDepth 100000
set_option maxHeartbeats 4000000
variable {w:World} {F:Nat→Prop} {a1 a2:Option Addr} {n1 c1 n2 c2:Nat}
theorem JP (x:List Tag) (n:List Tag) (h1:RepS w F a1 n1 c1 x){bq_n:Nat}{a2:Option Addr}{c2:Nat}(hb_n:Box w bq_n 63 [.slice a2 n.length c2]) (h2:RepS w F a2 n.length c2 n)  : Calls Tryz.prog 222 [.slice a1 n1 c1,.pointer (some ⟨bq_n,0,none⟩)].toArray w (Al fun rv w'=>rv=.bool ((x==n))∧Ext w w'):=by
 cases h1.len
 refine goT func222 ?_
 have Z:=(((St.i0 F w).p h1).p h2).pb' hb_n
 exact .s<|.g<|.r 1<|.d<|.s<|.g<|.r 1<|RG.Lh 0 0 Z<|RG.C0 (Ct x n (Z.a 2) (Z.a 1)) Z fun w Z=>.r 1<|.d<|T.rt func222 results222 (.bool (x==n)) ⟨(AG (by simp_all)),Z.xt⟩
theorem JQ (s:List (List Tag)) (n:List Tag) (h1:RepS w F a1 n1 c1 s){bq_n:Nat}{a2:Option Addr}{c2:Nat}(hb_n:Box w bq_n 63 [.slice a2 n.length c2]) (h2:RepS w F a2 n.length c2 n)  : Calls Tryz.prog 221 [.slice a1 n1 c1,.func (.func 222) #[] #[.pointer (some ⟨bq_n,0,none⟩)]].toArray w (Al fun rv w'=>rv=.int .i64 (Dw n 0 s)∧Ext w w'):=by
 refine goT func221 ?_
 obtain ⟨rfl,aq,h1⟩:=h1.tp
 replace h2:=h2.top (s:=w.heap.size)
 refine .s<|.g<|.r 1<|.d<|.s<|.s<|.g<|.r 3<|.d<|.b 0<|T.loop (X:=Nat) 0 (fun k=>[(0,.slice a1 s.length c1),(1,.func (.func 222) #[] #[.pointer (some ⟨bq_n,0,none⟩)]),(7,vI (s.length:Int)),(8,vI (k:Int))]) (fun k ab=>Chg (ins []) w ab∧(k≤s.length)∧(Dw n k (s.drop k)=Dw n 0 s)) (fun k=>s.length - k) AA ⟨AA,AA,AA,AA,trivial⟩ ⟨Chg.refl _ _,AD,AD⟩ ?_
 rintro k aC ab ⟨E,ax,ay⟩ ac
 have af:Mv [] [] w ab:=Mv.inl E all_nil all_nil
 replace ⟨h1,h2,hb_n⟩:=(sp af E).g3 h1 h2 hb_n
 have aa:Chg nil w ab:=Chg.NN (Chg.refl nil w) E all_nil
 refine .s<|.g<|.bp ((k:Int)< (s.length:Int)) (fun aj=>?_) (fun aj=>.d<|.s<|.cf<|.x 0 rfl<|.s<|.g<|.r 1<|.d<|.rt func221 results221 (vI (-1)) ⟨(congrArg (Value.int .i64) (by grind [Dw,Ac])),aa⟩)
 refine .d<|.s<|.ct<|.sk<|.s<|.b 1<|.s<|.g<|.r 2<|.d<|.s<|.g<|.r 3 ?_
 have ak:k< s.length:=AB
 refine .ix k 1 h1 ak ?_
 obtain ⟨ah,ae⟩:∃ y,s[k]? = some y:=⟨_,AU AB⟩
 have az:=drop_at ae
 obtain ⟨_,⟨aD,aE,aF,rfl,ai⟩,al⟩:=h1.elem k ah ae
 have am:=ai.len
 subst am
 refine .lh 0 al<|.cl (JP ah n ai.ta hb_n h2.ta (w:=ab) (F:=all)) ?_
 rintro aG aH ⟨rfl,ag⟩
 replace ⟨hb_n,aa,E⟩:=(se [] ag).g3 hb_n aa E
 cases aB:(ah==n)
 ·exact .d<|.cf<|.sk<|.ib 1<|.g<|.it ((k:Int)+1)<|.r 1<|.d<|ac (k+1) _ _ ⟨AA,AA,AA,AA,trivial⟩ ⟨E,AB,(by grind [Dw])⟩ AB
 exact .d<|.ct<|.s<|.g<|.r 2<|.d<|.rt func221 results221 (vI (k:Int)) ⟨(congrArg (Value.int .i64) (by grind [Dw,Ac])),aa⟩
theorem HD (names:List (List Tag)) (n:List Tag) (h1:RepS w F a1 n1 c1 names) (h2:RepS w F a2 n2 c2 n)  : Calls Tryz.prog 173 [.slice a1 n1 c1,.slice a2 n2 c2].toArray w (Al fun rv w'=>rv=.int .i64 ((Dw n 0 names+1))∧Ext w w'):=by
 cases h1.len
 cases h2.len
 refine goT func173 ?_
 have Z:=((St.i0 F w).p h1).p h2
 have E:=h1.max
 exact .s<|.g<|RG.Np Z fun ab w Z=>.r 1<|.d<|.s<|.g<|.r 2<|RG.C0 (JQ names n (Z.a 1) (Z.bc 0) (Z.a 0)) Z fun w Z=>RG.int (Dw n 0 names+1) AA (by have:=Wf n names 0; omega)<|.r 1<|.d<|T.rt func173 results173 (vI (Dw n 0 names+1)) ⟨(congrArg (Value.int .i64) AF),Z.xt⟩
theorem KL (p:Pst) (t:Tag) (h1:RepS w F a1 n1 c1 p.ids){bq_t:Nat}(hb_t:Box w bq_t 96 [.string (bs t.key),.string (bs t.val)])  : Calls Tryz.prog 108 [.agg #[.string (bs p.tag.key),.string (bs p.tag.val),.slice a1 n1 c1],.pointer (some ⟨bq_t,0,none⟩)].toArray w (Al fun rv w'=>rv=.bool ((p.tag==t))∧Ext w w'):=by
 cases h1.len
 refine goT func108 ?_
 have Z:=((St.i0 F w).p h1).pb' hb_t
 exact .s<|.g<|RG.Np Z fun aa w Z=>.r 1<|.d<|.s<|.g<|.r 1<|RG.Ln 0 Z<|RG.Lg 0 0 Z<|RG.PL (t:=96) (x:=p.tag) (y:=t) AA AA<|.r 1<|.d<|T.rt func108 results108 (.bool (p.tag==t)) ⟨(AG (by simp_all)),Z.xt⟩
theorem JR (s:List Pst) (t:Tag) (h1:RepS w F a1 n1 c1 s){bq_t:Nat}(hb_t:Box w bq_t 96 [.string (bs t.key),.string (bs t.val)])  : Calls Tryz.prog 107 [.slice a1 n1 c1,.func (.func 108) #[] #[.pointer (some ⟨bq_t,0,none⟩)]].toArray w (Al fun rv w'=>rv=.int .i64 (Cf t 0 s)∧Ext w w'):=by
 refine goT func107 ?_
 obtain ⟨rfl,aq,h1⟩:=h1.tp
 refine .s<|.g<|.r 1<|.d<|.s<|.s<|.g<|.r 3<|.d<|.b 0<|T.loop (X:=Nat) 0 (fun k=>[(0,.slice a1 s.length c1),(1,.func (.func 108) #[] #[.pointer (some ⟨bq_t,0,none⟩)]),(7,vI (s.length:Int)),(8,vI (k:Int))]) (fun k ab=>Chg (ins []) w ab∧(k≤s.length)∧(Cf t k (s.drop k)=Cf t 0 s)) (fun k=>s.length - k) AA ⟨AA,AA,AA,AA,trivial⟩ ⟨Chg.refl _ _,AD,AD⟩ ?_
 rintro k aB ab ⟨E,ar,ax⟩ ac
 have af:Mv [] [] w ab:=Mv.inl E all_nil all_nil
 replace ⟨h1,hb_t⟩:=(sp af E).g2 h1 hb_t
 have aa:Chg nil w ab:=Chg.NN (Chg.refl nil w) E all_nil
 refine .s<|.g<|.bp ((k:Int)< (s.length:Int)) (fun aj=>?_) (fun aj=>.d<|.s<|.cf<|.x 0 rfl<|.s<|.g<|.r 1<|.d<|.rt func107 results107 (vI (-1)) ⟨(congrArg (Value.int .i64) (by grind [Cf,Ac])),aa⟩)
 refine .d<|.s<|.ct<|.sk<|.s<|.b 1<|.s<|.g<|.r 2<|.d<|.s<|.g<|.r 3 ?_
 have ak:k< s.length:=AB
 refine .ix k 3 h1 ak ?_
 obtain ⟨ah,ae⟩:∃ y,s[k]? = some y:=⟨_,AU AB⟩
 have ay:=drop_at ae
 obtain ⟨_,⟨aC,aD,aE,rfl,ai⟩,al⟩:=h1.elem k ah ae
 have am:=ai.len
 subst am
 refine .lg 0 al<|.cl (KL ah t ai.ta hb_t (w:=ab) (F:=all)) ?_
 rintro aF aG ⟨rfl,ag⟩
 replace ⟨hb_t,aa,E⟩:=(se [] ag).g3 hb_t aa E
 cases aA:(ah.tag==t)
 ·exact .d<|.cf<|.sk<|.ib 1<|.g<|.it ((k:Int)+1)<|.r 1<|.d<|ac (k+1) _ _ ⟨AA,AA,AA,AA,trivial⟩ ⟨E,AB,(by grind [Cf])⟩ AB
 exact .d<|.ct<|.s<|.g<|.r 2<|.d<|.rt func107 results107 (vI (k:Int)) ⟨(congrArg (Value.int .i64) (by grind [Cf,Ac])),aa⟩
theorem Fg (x:Str){F:Nat→Prop}   : Calls Tryz.prog 167 [.string (bs x)].toArray w (Al fun rv w'=>rv=.bool (false)∧Ext w w'):=by
 refine goT func167 ?_
 have Z:=St.i0 F w
 exact .s<|.g<|.r 1<|.d<|.s<|.g<|.r 2<|RG.eqv (v:=.bool (!(x==x))) AA (K3 x x)<|.r 1<|.d<|T.rt func167 results167 (.bool (!(x==x))) ⟨(AG AD),Z.xt⟩
theorem E3 (x:Str) (y:Str){F:Nat→Prop}   : Calls Tryz.prog 112 [.string (bs x),.string (bs y)].toArray w (Al fun rv w'=>rv=.int .i64 (KK x y)∧Ext w w'):=by
 refine goT func112 ?_
 have Z:=St.i0 F w
 refine .s<|.g<|.r 1<|.d<|.s<|.g<|.r 1<|RG.C0 (Fg x (F:=all)) Z fun w Z=>.r 1<|.d<|.s<|.g<|.r 1<|RG.C0 (Fg y (F:=all)) Z fun w Z=>.r 1<|.d<|.s<|.s<|.g<|.r 1<|.d<|.cf<|.sk<|.s<|.s<|.g<|.r 1<|.d<|.cf<|.sk<|.s<|.s<|.g<|.r 2<|RG.eqv (v:=.bool ((Bz x y))) AA (oM x y) ?_
 cases E:(Bz x y)
 ·refine .d<|.cf<|.sk<|.s<|.s<|.g<|.r 2<|RG.eqv (v:=.bool (!(FW x y))) AA (oO x y) ?_
  cases aa:(FW x y)
  ·exact .d<|.ct<|.s<|.g<|.r 1<|.d<|T.rt func112 results112 (vI 1) ⟨(congrArg (Value.int .i64) (by grind [KK,JO])),Z.xt⟩
  exact .d<|.cf<|.sk<|.s<|.g<|.r 1<|.d<|T.rt func112 results112 (vI 0) ⟨(congrArg (Value.int .i64) (by grind [KK,JO])),Z.xt⟩
 exact .d<|.ct<|.s<|.g<|.r 1<|.d<|T.rt func112 results112 (vI (-1)) ⟨(congrArg (Value.int .i64) (by grind [KK,JO])),Z.xt⟩
theorem OZ (vals:List Int) (h1:RepS w F a1 n1 c1 vals)  : Calls Tryz.prog 111 [.slice a1 n1 c1].toArray w (Al fun rv w'=>rv=.int .i64 (orF vals)∧Ext w w'):=by
 cases h1.len
 refine goT func111 ?_
 have Z:=(St.i0 F w).p h1
 have ag:=h1.max
 refine .s<|.g<|.r 1<|.d<|.s<|.g<|.r 1<|.d<|.s<|.s<|.g<|.r 3<|.d<|.b 0<|T.Lp (0:Nat) (fun k=>([(3,vI 0),(6,.slice a1 vals.length c1),(7,vI (vals.length:Int)),(8,vI (k:Int))],[],[],vals.length - k,(k≤vals.length)∧(orF (vals.drop k)=orF vals))) [] Z ⟨AD,AD⟩ ?_
 rintro k ak w Z ⟨ah,ai⟩ aa
 refine .s<|.g<|.bp ((k:Int)< (vals.length:Int)) (fun ab=>?_) (fun ab=>.d<|.s<|.cf<|.x 0 rfl<|.s<|.g<|.r 2<|.d<|T.rt func111 results111 (vI 0) ⟨(congrArg (Value.int .i64) (by grind [orF,Ac])),Z.xt⟩)
 exact .d<|.s<|.ct<|.sk<|.s<|.b 1<|.s<|.g<|gxd vals k fun ac E aj=>RG.Ix 0 E Z<|Z.el 0 E fun Z=>RG.Lh 0 0 Z<|.r 1<|.d<|.s<|.g<|.r 2<|.ne ac 0 (fun ae=>.d<|.ct<|.s<|.g<|.r 2<|.d<|T.rt func111 results111 (vI ac) ⟨(congrArg (Value.int .i64) (by grind [orF,Ac])),Z.xt⟩) fun ae=>.d<|.cf<|.sk<|.ib 1<|.g<|.it ((k:Int)+1)<|.r 1<|.d<|aa (k+1) _ _ AA (Z.to 0 [] 1) ⟨AB,(by grind [orF])⟩ (by (simp only []; omega))
theorem KM (a:Pst) (b_:Pst) (h1:RepS w F a1 n1 c1 a.ids) (h2:RepS w F a2 n2 c2 b_.ids)  : Calls Tryz.prog 110 [.agg #[.string (bs a.tag.key),.string (bs a.tag.val),.slice a1 n1 c1],.agg #[.string (bs b_.tag.key),.string (bs b_.tag.val),.slice a2 n2 c2]].toArray w (Al fun rv w'=>rv=.int .i64 (NF a b_)∧Ext w w'):=by
 cases h1.len
 cases h2.len
 refine goT func110 ?_
 have Z:=((St.i0 F w).p h1).p h2
 exact .s<|.g<|RG.Np Z fun ab w Z=>RG.Np Z fun ac w Z=>.r 1<|.d<|.s<|T.Gd 13 Z fun w Z=>.r [0,1]<|GA.Lb 2 1 Z<|.r [3,4]<|GA.Lb 5 0 Z<|GA.C0 6 Z (fun w Z=>E3 a.tag.key b_.tag.key (F:=all))<|.r [7,8]<|GA.Lb 9 1 Z<|.r [10,11]<|GA.Lb 12 0 Z<|GA.Dn Z fun w Z=>RG.C0 (E3 a.tag.val b_.tag.val (F:=all)) Z fun w Z=>RG.Nl 0 ([KK a.tag.key b_.tag.key,KK a.tag.val b_.tag.val]:List Int) [] Z fun ae w Z=>RG.C0 (OZ ([KK a.tag.key b_.tag.key,KK a.tag.val b_.tag.val]:List Int) (Z.oa 0)) Z fun w Z=>.r 1<|.d<|T.rt func110 results110 (vI (orF ([KK a.tag.key b_.tag.key,KK a.tag.val b_.tag.val]:List Int))) ⟨(congrArg (Value.int .i64) AF),Z.xt⟩
theorem KN (a:Pst) (b_:Pst) (h1:RepS w F a1 n1 c1 a.ids) (h2:RepS w F a2 n2 c2 b_.ids)  : Calls Tryz.prog 148 [.agg #[.string (bs a.tag.key),.string (bs a.tag.val),.slice a1 n1 c1],.agg #[.string (bs b_.tag.key),.string (bs b_.tag.val),.slice a2 n2 c2]].toArray w (Al fun rv w'=>rv=.bool ((a==b_))∧Ext w w'):=by
 cases h1.len
 cases h2.len
 refine goT func148 ?_
 have Z:=((St.i0 F w).p h1).p h2
 refine .s<|.g<|RG.Np Z fun ac w Z=>RG.Np Z fun ae w Z=>.r 1<|.d<|.s<|.g<|.r 1<|RG.Ln 1 Z<|.r 1<|RG.Ln 0 Z<|RG.PL (t:=96) (x:=a.tag) (y:=b_.tag) AA AA ?_
 cases ab:(a.tag==b_.tag)
 ·exact .r 8<|.d<|T.rt func148 results148 (.bool false) ⟨(AG (by exact Wj ‹_›)),Z.xt⟩
 exact .r 2<|RG.Lb 1 Z<|.r 1<|RG.Lb 0 Z<|RG.C0 (EN a.ids b_.ids (Z.a 1) (Z.a 0)) Z fun w Z=>.r 2<|.d<|T.rt func148 results148 (.bool (a.ids==b_.ids)) ⟨(AG (by exact Wi ‹_›)),Z.xt⟩
theorem JS (s1:List Pst) (s2:List Pst) (h1:RepS w F a1 n1 c1 s1) (h2:RepS w F a2 n2 c2 s2)  : Calls Tryz.prog 147 [.slice a1 n1 c1,.slice a2 n2 c2,.func (.func 148) #[] #[]].toArray w (Al fun rv w'=>rv=.bool ((s1==s2))∧Ext w w'):=by
 cases h1.len
 cases h2.len
 refine goT func147 ?_
 have Z:=((St.i0 F w).p h1).p h2
 have aj:=h1.max
 refine .s<|.g<|.r 1<|.d<|.s<|.s<|.g<|.r 4<|.ne (s1.length:Int) (s2.length:Int) (fun ac=>.d<|.ct<|.s<|.g<|.r 1<|.d<|T.rt func147 results147 (.bool false) ⟨(AG (by grind [Ac])),Z.xt⟩) fun ac=>.d<|.cf<|.sk<|.s<|.s<|.g<|.r 3<|.d<|.b 0<|T.Lp (0:Nat) (fun k=>([(1,.slice a2 s2.length c2),(2,.func (.func 148) #[] #[]),(15,.slice a1 s1.length c1),(16,vI (s1.length:Int)),(17,vI (k:Int))],[],[],s1.length - k,(k≤s1.length)∧(s1.drop k=s2.drop k↔s1=s2))) [] Z ⟨AD,AD⟩ ?_
 rintro k ax w Z ⟨al,am⟩ ab
 refine .s<|.g<|.bp ((k:Int)< (s1.length:Int)) (fun ae=>?_) (fun ae=>.d<|.s<|.cf<|.x 0 rfl<|.s<|.g<|.r 1<|.d<|T.rt func147 results147 (.bool true) ⟨(AG (by grind [Ac])),Z.xt⟩)
 refine .d<|.s<|.ct<|.sk<|.s<|.b 1<|.s<|.g<|.r 1<|gxd s1 k fun af E ao=>RG.Ix 1 E Z<|Z.el 1 E fun ay az Z=>RG.Lg 0 0 Z<|RG.Np Z fun aA w Z=>.r 1<|RG.Ss 0 Z fun w Z=>.d<|.s<|.g<|.r 2<|gxd s2 k fun ag aa aq=>RG.Ix 2 aa Z<|Z.el 2 aa fun aB aC Z=>RG.Lg 0 0 Z<|RG.Np Z fun aD w Z=>RG.Ss 0 Z fun w Z=>.d<|.s<|.g<|.r 1<|RG.Ln 1 Z<|RG.Ln 0 Z<|RG.C0 (KN af ag (Z.a 3) (Z.a 1)) Z fun w Z=>?_
 cases ar:(af==ag)
 ·exact .r 1<|.d<|.ct<|.s<|.g<|.r 1<|.d<|T.rt func147 results147 (.bool false) ⟨(AG (by grind [Ac])),Z.xt⟩
 exact .r 1<|.d<|.cf<|.sk<|.ib 1<|.g<|.it ((k:Int)+1)<|.r 1<|.d<|ab (k+1) _ _ AA (Z.to 2 [] 4) ⟨AB,(by grind)⟩ (by (simp only []; omega))
end Go.Proofs.YtckdhcbbgmiccaaGreatDoor
namespace Go.Proofs.YtckdhcbbgmiccaaGreatDoor
theorem Wk {α:Type}(xs:List α) (x y:α):(xs++[x]).set xs.length y=xs++[y]:=by simp
theorem Wl {α:Type}(xs:List α) (x:α):(xs++[x])[xs.length]? = some x:=by simp
structure RP where
 key:Str
 val:Str
 a:Option Addr
 n:Nat
 c:Nat
instance:Rep RP where
 sz:=3
 rep _ _ x cs:=cs=[.string (bs x.key),.string (bs x.val),.slice x.a x.n x.c]
 len:=by rintro w F x cs rfl; rfl
 pos:=by decide
 flat:=by rintro w F x cs rfl v hv; simp at hv; rcases hv with rfl | rfl | rfl <;> rfl
 frame:=by rintro w w' F F' x cs rfl _; rfl
theorem Lf:Flat RP:=fun _ _ _ _ _ _ h=>h
def NG (tI:TypeId) (w:World) (y:RP) (ri:Nat) (ids:List Int):Prop :=
 (y.a=none∧y.n=0∧y.c=0∧ids=[])∨(y.a=some ⟨ri,0,none⟩∧Own w ri tI all y.n y.c ids)
structure IX (tX tP tI s0 s1:Nat) (G:Nat→Prop) (w:World) (b3 r c:Nat) (an:Option Addr) (nn cn:Nat) (nms:List (List Tag)) (ys:List RP) (xs:List Pst) (rs:List Nat):Prop where
 hs:s0≤s1
 hG:∀ b,G b→b< s1
 nm:RepS w G an nn cn nms
 box:Box w b3 tX [.slice an nn cn,.slice (some ⟨r,0,none⟩) ys.length c]
 own:Own w r tP all ys.length c ys
 nd:(b3::r::rs).Nodup
 new:∀ b∈b3::r::rs,s1≤b
 lt:∀ b∈b3::r::rs,b< w.heap.size
 lx:ys.length=xs.length
 lr:rs.length=xs.length
 el:∀ (i:Nat) (x:Pst) (y:RP) (ri:Nat),xs[i]? = some x→ys[i]? = some y→rs[i]? = some ri→y.key=x.tag.key∧y.val=x.tag.val∧NG tI w y ri x.ids
section
variable {tX tP tI s0 s1:Nat} {w w' w2 w3:World} {b3 r c:Nat} {an:Option Addr} {nn cn:Nat} {nms:List (List Tag)} {ys:List RP} {xs:List Pst} {rs:List Nat} {S G:Nat→Prop}
theorem NG.chg {y:RP}{ri:Nat}{ids:List Int}(h:NG tI w y ri ids) (hx:Chg S w w') (hr:¬ S ri):NG tI w' y ri ids:=by
 rcases h with h | ⟨h1,h2⟩
 ·exact .inl h
 ·refine .inr ⟨h1,?_⟩
  have:=(h2.flat BB (F':=fun _=>False)).chg hx hr (fun b hb _=>hb.elim)
  exact this.flat BB
theorem UH {α:Type}[Rep α] {r t n c:Nat}{xs:List α}(hf:Flat α) (h:Own w r t all n c xs) (hx:Chg S w w') (hr:¬ S r):Own w' r t all n c xs :=
 ((h.flat hf (F':=fun _=>False)).chg hx hr (fun b hb _=>hb.elim)).flat hf
theorem IX.chg (h:IX tX tP tI s0 s1 G w b3 r c an nn cn nms ys xs rs) (hx:Chg S w w') (hS:∀ b∈b3::r::rs,¬ S b) (h1:∀ b,b< s1→¬ S b):IX tX tP tI s0 s1 G w' b3 r c an nn cn nms ys xs rs :=
 ⟨h.hs,h.hG,h.nm.chg hx (fun b hb=>h1 b (h.hG b hb)),h.box.chg hx (hS _ AD),UH Lf h.own hx (hS _ AD),h.nd,h.new,fun b hb=>Nat.lt_of_lt_of_le (h.lt b hb) hx.size,h.lx,h.lr,
  fun i x y ri h2 h3 h4=>by
   obtain ⟨g1,g2,g3⟩:=h.el i x y ri h2 h3 h4
   exact ⟨g1,g2,g3.chg hx (hS _ (by simp [AV h4]))⟩⟩
theorem IX.ext (h:IX tX tP tI s0 s1 G w b3 r c an nn cn nms ys xs rs) (hx:Ext w w'):IX tX tP tI s0 s1 G w' b3 r c an nn cn nms ys xs rs:=h.chg hx (fun _ _ h=>h) (fun _ _ h=>h)
theorem IX.one {b:Nat}(h:IX tX tP tI s0 s1 G w b3 r c an nn cn nms ys xs rs) (hx:Chg (Go.Proofs.YtckdhcbbgmiccaaGreatDoor.one b) w w') (hb:∀ q∈b3::r::rs,Nb b q) (h1:s1≤b):IX tX tP tI s0 s1 G w' b3 r c an nn cn nms ys xs rs :=
 h.chg hx (fun q hq e=>(hb q hq).ne (by unfold Go.Proofs.YtckdhcbbgmiccaaGreatDoor.one at e; exact e.symm)) (fun q hq e=>by unfold Go.Proofs.YtckdhcbbgmiccaaGreatDoor.one at e; omega)
theorem IX.rep (h:IX tX tP tI s0 s1 G w b3 r c an nn cn nms ys xs rs):RepS w all (some ⟨r,0,none⟩) ys.length c xs:=by
 have h0:=h.own.rep
 refine ⟨h.lx,h0.le,h0.cap,h0.addr,h0.inF,fun i x hi=>?_⟩
 obtain ⟨hl,_⟩:=List.getElem?_eq_some_iff.1 hi
 have hy:ys[i]? = some (ys[i]'(by rw [h.lx]; exact hl)):=AU _
 have hr:rs[i]? = some (rs[i]'(by rw [h.lr]; exact hl)):=AU _
 obtain ⟨cs,g1,g2⟩:=h0.elem i _ hy
 obtain ⟨e1,e2,e3⟩:=h.el i x _ _ hi hy hr
 cases g1
 refine ⟨_,?_,g2⟩
 rw [e1,e2]
 rcases e3 with ⟨a1,a2,a3,a4⟩ | ⟨a1,a2⟩
 ·rw [a1,a2,a3]
  refine ⟨none,0,0,rfl,?_⟩
  rw [a4]
  exact RepS.BX _ _ none 0 AE
 ·rw [a1]
  exact ⟨_,_,_,rfl,a2.rep⟩
theorem IX.done (h:IX tX tP tI s0 s1 G w b3 r c an nn cn nms ys xs rs):Own w r tP (nin (ge s1) [b3,r]) ys.length c xs:=by
 refine ⟨h.lx,h.own.le,h.own.cap,h.own.row,fun i x hi=>?_⟩
 obtain ⟨hl,_⟩:=List.getElem?_eq_some_iff.1 hi
 have hy:ys[i]? = some (ys[i]'(by rw [h.lx]; exact hl)):=AU _
 have hr:rs[i]? = some (rs[i]'(by rw [h.lr]; exact hl)):=AU _
 obtain ⟨cs,g1,g2⟩:=h.own.elem i _ hy
 obtain ⟨e1,e2,e3⟩:=h.el i x _ _ hi hy hr
 cases g1
 refine ⟨_,?_,g2⟩
 rw [e1,e2]
 have hm:=AV hr
 have hnd:=h.nd
 simp only [List.nodup_cons,List.mem_cons,not_or] at hnd
 have hge:=h.new (rs[i]'(by rw [h.lr]; exact hl)) (by simp [hm])
 rcases e3 with ⟨a1,a2,a3,a4⟩ | ⟨a1,a2⟩
 ·rw [a1,a2,a3]
  refine ⟨none,0,0,rfl,?_⟩
  rw [a4]
  exact RepS.BX _ _ none 0 AE
 ·rw [a1]
  refine ⟨_,_,_,rfl,(a2.flat BB (F':=fun _=>False)).PD (fun _ _ hf=>hf.elim) ⟨⟨?_,?_⟩,?_⟩⟩
  ·show s1≤_
   omega
  ·simp only [List.mem_cons,List.not_mem_nil,or_false,not_or]
   exact ⟨fun e=>hnd.1.2 (e▸hm),fun e=>hnd.2.1 (e▸hm)⟩
  ·exact fun e=>hnd.2.1 (e▸hm)
theorem IX.names (h:IX tX tP tI s0 s1 G w b3 r c an nn cn nms ys xs rs):RepS w (nin G [b3,r]) an nn cn nms:=h.nm.Bx fun b _ hb=>⟨hb,by
 simp only [List.mem_cons,List.not_mem_nil,or_false,not_or]
 have h1:=h.new b3 AD
 have h2:=h.new r AD
 have h3:=h.hG b hb
 exact ⟨by omega,by omega⟩⟩
def GN (s0 s1 b2 b:Nat):Prop:=s0≤b∧b< s1∧b≠b2
theorem GN.lt {s0 s1 b2:Nat}:∀ b,GN s0 s1 b2 b→b< s1:=fun _ h=>h.2.1
theorem RepS.oT {α:Type}[Rep α] {w:World}{s0 b2 n c:Nat}{o:Option Addr}{xs:List α}(h:RepS w (nin (ge s0) [b2]) o n c xs):RepS w (GN s0 w.heap.size b2) o n c xs:=h.Bx fun b hb hF=>⟨hF.1,hb,fun e=>hF.2 (by simp [e])⟩
theorem RepS.low {α:Type}[Rep α] {w w':World}{F:Nat→Prop}{s1 b n c:Nat}{o:Option Addr}{xs:List α}(h:RepS w (ltG F s1) o n c xs) (hx:Chg (Go.Proofs.YtckdhcbbgmiccaaGreatDoor.one b) w w') (hb:s1≤b):RepS w' (ltG F s1) o n c xs :=
 h.chg hx (fun k hk e=>by unfold Go.Proofs.YtckdhcbbgmiccaaGreatDoor.one at e; have:=hk.2; omega)
variable {w:World} {F:Nat→Prop}
theorem RepS.Zo {α:Type}[Rep α] {n c:Nat}{o:Option Addr}{xs:List α}(h:RepS w F o n c xs):RepS w (ltG all w.heap.size) o n c xs:=h.Bx fun _ hb _=>⟨trivial,hb⟩
theorem IX.oU {tX tP tI s0 s1:Nat}{w:World}{b3 r:Nat}{an:Option Addr}{nn cn:Nat}{nms:List (List Tag)}{G:Nat→Prop}{F:Nat→Prop}(hs:s0≤s1) (hG:∀ b,G b→b< s1) (hn:RepS w G an nn cn nms) (hb:Box w b3 tX [.slice an nn cn,.slice (some ⟨r,0,none⟩) 0 0])
 (ho:Own w r tP F 0 0 ([]:List Pst)) (hne:Nb b3 r) (h3:s1≤b3) (hr:s1≤r):IX tX tP tI s0 s1 G w b3 r 0 an nn cn nms [] [] [] :=
 ⟨hs,hG,hn,hb,⟨rfl,Nat.le_refl _,by decide,ho.row,fun i x hi=>by simp at hi⟩,by simp; exact hne.ne,fun b hb'=>by simp at hb'; rcases hb' with rfl | rfl <;> assumption,
  fun b hb'=>by simp at hb'; rcases hb' with rfl | rfl; exact hb.lt; exact ho.lt,rfl,rfl,fun i x y ri hi=>by simp at hi⟩
theorem Cov.ge {w:World}{b:Nat}(h:Cov nil w b):w.heap.size≤b:=h.or.resolve_left (fun h=>h)
section
variable {tX tP tI s0 s1:Nat} {w w':World} {b3 b2 r c:Nat} {an:Option Addr} {nn cn:Nat} {nms:List (List Tag)} {ys:List RP} {xs:List Pst} {rs:List Nat} {G:Nat→Prop}
theorem IX.Zp (h:IX tX tP tI s0 s1 G w b3 r c an nn cn nms ys xs rs) (hb:b2< s1):Own w r tP (nin (ge s0) [b3,r,b2]) ys.length c xs:=h.done.Bx fun b _ hF=>⟨Nat.le_trans h.hs hF.1,by
 have h1:s1≤b:=hF.1
 have h2:=hF.2
 simp only [List.mem_cons,List.not_mem_nil,or_false,not_or] at h2 ⊢
 exact ⟨h2.1,h2.2,by omega⟩⟩
theorem IX.YT (h:IX tX tP tI s0 s1 (GN s0 s1 b2) w b3 r c an nn cn nms ys xs rs):RepS w (nin (ge s0) [b3,r,b2]) an nn cn nms:=h.names.Bx fun b _ hF=>⟨hF.1.1,by
 have h2:=hF.2
 simp only [List.mem_cons,List.not_mem_nil,or_false,not_or] at h2 ⊢
 exact ⟨h2.1,h2.2,hF.1.2.2⟩⟩
theorem IX.ne (h:IX tX tP tI s0 s1 G w b3 r c an nn cn nms ys xs rs):Nb b3 r:=by
 have:=h.nd
 simp only [List.nodup_cons,List.mem_cons,not_or] at this
 exact ⟨this.1.1⟩
theorem IX.ne3 {i ri:Nat}(h:IX tX tP tI s0 s1 G w b3 r c an nn cn nms ys xs rs) (hr:rs[i]? = some ri):Nb b3 ri:=by
 have:=h.nd
 simp only [List.nodup_cons,List.mem_cons,not_or] at this
 exact ⟨fun e=>this.1.2 (e▸AV hr)⟩
theorem IX.ner {i ri:Nat}(h:IX tX tP tI s0 s1 G w b3 r c an nn cn nms ys xs rs) (hr:rs[i]? = some ri):Nb r ri:=by
 have:=h.nd
 simp only [List.nodup_cons,List.mem_cons,not_or] at this
 exact ⟨fun e=>this.2.1 (e▸AV hr)⟩
theorem IX.mi {i ri:Nat}(hr:rs[i]? = some ri):ri∈b3::r::rs:=by simp [AV hr]
theorem RepS.via {α:Type}[Rep α] {wc wa wb:World}{n c':Nat}{o:Option Addr}{zs:List α}(h:RepS wa (ltG all wc.heap.size) o n c' zs) (ha:Ext wc wa) (hb:Ext wc wb):RepS wb (ltG all wc.heap.size) o n c' zs :=
 h.frame fun b _ hF=>⟨hF,by rw [hb.block hF.2,ha.block hF.2]⟩
theorem YU {xs:List Pst}{t:Tag}{m:Nat}{x:Pst}{z:Int}(hx:(xs++[⟨t,[]⟩])[m]? = some x) (hm:m=xs.length):(xs++[(⟨t,[]⟩:Pst)]).set m ⟨x.tag,x.ids++[z]⟩=xs++[⟨t,[z]⟩]:=by
 subst hm
 rw [Wl] at hx
 cases hx
 rw [Wk]
 rfl
theorem NG.n {y:RP}{ri:Nat}{ids:List Int}(h:NG tI w y ri ids):y.n=ids.length:=by
 rcases h with ⟨_,h2,_,h4⟩ | ⟨_,h2⟩
 ·rw [h2,h4]; rfl
 ·exact h2.len
end
def Il (k:Int) (xs:List Pst) (t:Tag):List Pst :=
 if Cf t 0 xs< 0 then xs++[⟨t,[k]⟩] else match xs[(Cf t 0 xs).toNat]? with
  | some x=>xs.set (Cf t 0 xs).toNat ⟨x.tag,x.ids++[k]⟩
  | none=>xs
def JT:Nat→List Pst→List (List Tag)→List Pst
 | _,xs,[]=>xs
 | i,xs,n::ns=>JT (i+1) (n.foldl (Il ((i:Int)+1)) xs) ns
theorem Ng (t:Tag):∀ (xs:List Pst) (i:Nat),(Cf t i xs = -1∧∀ x∈xs,x.tag≠t)∨((i:Int)≤Cf t i xs∧Cf t i xs< (i:Int)+xs.length∧∃ x,xs[(Cf t i xs).toNat - i]? = some x∧x.tag=t):=by
 intro xs
 induction xs with
 | nil=>intro i; left; simp [Cf]
 | cons x xs ih =>
   intro i
   unfold Cf
   by_cases hx:(x.tag==t)=true
   ·right
    rw [if_pos hx]
    exact ⟨by omega,by simp only [List.length_cons]; omega,x,by simp,eq_of_beq hx⟩
   ·rw [if_neg hx]
    rcases ih (i+1) with ⟨h1,h2⟩ | ⟨h1,h2,y,h3,h4⟩
    ·left
     refine ⟨h1,fun z hz=>?_⟩
     rcases List.mem_cons.1 hz with rfl | hz
     ·exact fun e=>hx (by simp [e])
     ·exact h2 z hz
    ·right
     refine ⟨by omega,by simp only [List.length_cons]; omega,y,?_,h4⟩
     rw [show (Cf t (i+1) xs).toNat - i=((Cf t (i+1) xs).toNat - (i+1))+1 by omega,List.getElem?_cons_succ]
     exact h3
theorem Wm {t:Tag}{xs:List Pst}(h:¬ Cf t 0 xs< 0):(Cf t 0 xs).toNat< xs.length:=by
 rcases Ng t xs 0 with ⟨h1,_⟩ | ⟨_,h2,_⟩
 ·omega
 ·omega
theorem Pa {k:Int}{xs:List Pst}{t:Tag}(h:Cf t 0 xs< 0):Il k xs t=xs++[⟨t,[k]⟩]:=by unfold Il; rw [if_pos h]
theorem Pb {k:Int}{xs:List Pst}{t:Tag}{x:Pst}(h:¬ Cf t 0 xs< 0) (hx:xs[(Cf t 0 xs).toNat]? = some x):Il k xs t=xs.set (Cf t 0 xs).toNat ⟨x.tag,x.ids++[k]⟩:=by unfold Il; rw [if_neg h,hx]
theorem Pc (k:Int) (xs:List Pst) (t:Tag) (m:Nat) (h1:xs.length≤m) (h2:∀ x∈xs,x.ids.length≤m):(Il k xs t).length≤m+1∧∀ x∈Il k xs t,x.ids.length≤m+1:=by
 unfold Il
 split
 ·refine ⟨by simp; omega,fun x hx=>?_⟩
  rcases List.mem_append.1 hx with hx | hx
  ·have:=h2 x hx; omega
  ·simp at hx; subst hx; simp
 ·split
  ·rename_i x hx
   refine ⟨by simp; omega,fun z hz=>?_⟩
   rcases List.mem_or_eq_of_mem_set hz with hz | rfl
   ·have:=h2 z hz; omega
   ·have:=h2 x (AV hx); simp; omega
  ·exact ⟨by omega,fun x hx=>by have:=h2 x hx; omega⟩
theorem Wn {i:Nat}{xs ys:List Pst}{ns:List (List Tag)}{n:List Tag}{Y:List Pst}(h:JT i xs (ns.drop i)=Y) (hd:ns.drop i=n::ns.drop (i+1)) (hy:ys=n.foldl (Il ((i:Int)+1)) xs):JT (i+1) ys (ns.drop (i+1))=Y:=by
 rw [hd] at h
 subst hy
 exact h
theorem YV {i:Nat}{xs:List Pst}{ns:List (List Tag)}{Y:List Pst}(h:JT i xs (ns.drop i)=Y) (hi:ns.length≤i):xs=Y:=by
 rw [Ac hi] at h
 exact h
theorem IX.push {r2 c2 vb:Nat}{t:Tag}(h:IX tX tP tI s0 s1 G w b3 r c an nn cn nms ys xs rs) (hs1:s1≤w.heap.size) (hx:Chg (Go.Proofs.YtckdhcbbgmiccaaGreatDoor.one r) w w2) (ho:Own w2 r2 tP all (ys.length+1) c2 (ys++[⟨t.key,t.val,none,0,0⟩]))
 (hor:r2=r∨r2=w.heap.size) (hv:∀ q∈b3::r::rs,Nb vb q) (hv1:s1≤vb) (hv2:vb< w.heap.size) (hx3:Chg (Go.Proofs.YtckdhcbbgmiccaaGreatDoor.one b3) w2 w3)
 (hb:Box w3 b3 tX [.slice an nn cn,.slice (some ⟨r2,0,none⟩) (ys.length+1) c2]) :
 IX tX tP tI s0 s1 G w3 b3 r2 c2 an nn cn nms (ys++[⟨t.key,t.val,none,0,0⟩]) (xs++[⟨t,[]⟩]) (rs++[vb]):=by
 have hnd:=h.nd
 simp only [List.nodup_cons,List.mem_cons,not_or] at hnd
 obtain ⟨⟨n1,n2⟩,n3,n4⟩:=hnd
 have hb3:=h.lt b3 AD
 have hrr:=h.lt r AD
 have hrs:∀ q∈rs,q< w.heap.size∧q≠b3∧q≠r∧q≠vb:=fun q hq=>⟨h.lt q (by simp [hq]),fun e=>n2 (e▸hq),fun e=>n3 (e▸hq),fun e=>(hv q (by simp [hq])).ne e.symm⟩
 have hvb3:=(hv b3 AD).ne
 have hvr:=(hv r AD).ne
 have e3:b3≠r2:=by rcases hor with rfl | rfl <;> omega
 have e4:∀ q∈rs,q≠r2:=fun q hq=>by have:=hrs q hq; rcases hor with rfl | rfl <;> omega
 have e5:vb≠r2:=by rcases hor with rfl | rfl; exact hvr; omega
 have hnew3:=h.new b3 AD
 have hnewr:=h.new r AD
 have z2:=hx.size
 have z3:=hx3.size
 refine ⟨h.hs,h.hG,(h.nm.chg hx (fun b hb e=>by unfold Go.Proofs.YtckdhcbbgmiccaaGreatDoor.one at e; have:=h.hG b hb; omega)).chg hx3 (fun b hb e=>by unfold Go.Proofs.YtckdhcbbgmiccaaGreatDoor.one at e; have:=h.hG b hb; omega),
  by simpa using hb,by simpa using UH Lf ho hx3 (fun e=>e3 e.symm),?_,?_,?_,by simp [h.lx],by simp [h.lr],?_⟩
 ·simp only [List.nodup_cons,List.mem_cons,List.mem_append,List.not_mem_nil,or_false,not_or,List.nodup_append,List.nodup_nil]
  exact ⟨⟨e3,n2,fun e=>hvb3 e.symm⟩,⟨fun hm=>e4 _ hm rfl,fun e=>e5 e.symm⟩,n4,by simp,fun a ha b hb=>by subst hb; exact (hrs a ha).2.2.2⟩
 ·intro b hb
  simp only [List.mem_cons,List.mem_append,List.not_mem_nil,or_false] at hb
  rcases hb with rfl | rfl | hb | rfl
  ·exact hnew3
  ·rcases hor with rfl | rfl
   ·exact hnewr
   ·exact hs1
  ·exact h.new b (by simp [hb])
  ·exact hv1
 ·intro b hb
  simp only [List.mem_cons,List.mem_append,List.not_mem_nil,or_false] at hb
  rcases hb with rfl | rfl | hb | rfl
  ·omega
  ·have:=ho.lt; omega
  ·have:=(hrs b hb).1; omega
  ·omega
 ·intro i x y ri g1 g2 g3
  rw [List.getElem?_append] at g1 g2 g3
  have l1:=h.lx
  have l2:=h.lr
  by_cases hi:i< xs.length
  ·rw [if_pos hi] at g1
   rw [if_pos AB] at g2
   rw [if_pos AB] at g3
   obtain ⟨a1,a2,a3⟩:=h.el i x y ri g1 g2 g3
   have hq:=hrs ri (AV g3)
   exact ⟨a1,a2,(a3.chg hx (fun e=>hq.2.2.1 e)).chg hx3 (fun e=>hq.2.1 e)⟩
  ·rw [if_neg hi] at g1
   rw [if_neg AB] at g2
   rw [if_neg AB] at g3
   have h0:i - xs.length=0:=by
    rcases hk:i - xs.length with _ | k
    ·rfl
    ·rw [hk] at g1; simp at g1
   rw [h0] at g1
   rw [show i - ys.length=0 by omega] at g2
   simp at g1 g2
   subst g1 g2
   exact ⟨rfl,rfl,.inl ⟨rfl,rfl,rfl,rfl⟩⟩
theorem NG.app {P:Program}{T ty:TypeId}{y:RP}{ri vb:Nat}{ids:List Int}{z:Int}(h:NG tI w y ri ids) (hT:GG P T tI 1=true) (hB:Box w vb tI [.int .i64 z]) (hv:vb≠ri) (hl:y.n≤1000) :
 ∃ r2 c2 w', (Builtin.append_ #[T, T] ty #[.slice y.a y.n y.c, .slice (some ⟨vb, 0, none⟩) 1 1]).run P w = .ok (.slice (some ⟨r2, 0, none⟩) (y.n + 1) c2) w' ∧
   Own w' r2 tI all (y.n+1) c2 (ids++[z])∧(r2=ri∨r2=w.heap.size)∧Chg (Go.Proofs.YtckdhcbbgmiccaaGreatDoor.one ri) w w':=by
 rcases h with ⟨a1,a2,a3,a4⟩ | ⟨a1,a2⟩
 ·obtain ⟨g1,inf,z0,hinf,hsz,hby,hz,hzs⟩:=FO hT
  rw [a1,a2,a3,a4]
  have hBx:=hB
  unfold Box at hBx
  have hnews:∀ j v,[Value.int .i64 z][j]? = some v→w.cell? ((⟨vb,0,none⟩:Addr).add j)=some v:=fun j v hj=>by
   rw [add_lit]
   simp only [World.cell?,hBx]
   simpa using hj
  have hr:=run_append_nil (P:=P) (w:=w) T ty tI inf z0 g1 hinf hz ⟨vb,0,none⟩ 1 1 [.int .i64 z] (by rw [hsz]; rfl) hnews AB AB AB
  generalize hg:grownCap w 1 0 tI=gc at hr
  have hge:1≤gc:=by rw [← hg]; exact grownCap_ge _ _ _ _
  have hgm:gc≤maxLen:=by rw [← hg]; exact grownCap_le_maxLen _ _ _ _ (by unfold maxLen; omega)
  generalize hob:(([Value.int .i64 z]:List Value).toArray++Builtin.zeroCells z0.cells (gc - 1))=ob at hr
  have hnew:(w.drew.alloc (.cells ob tI)).heap[w.heap.size]? = some (.cells ob tI (0,0)):=heap_alloc_new w.drew _
  have hoth:∀ k,k< w.heap.size→(w.drew.alloc (.cells ob tI)).heap[k]? = w.heap[k]? := fun k hk=>heap_alloc_old w.drew _ k hk
  refine ⟨w.heap.size,gc,w.drew.alloc (.cells ob tI),by simpa using hr,⟨rfl,hge,hgm,⟨ob,hnew,?_⟩,fun i x hi=>⟨_,rfl,?_⟩⟩,.inr rfl,⟨rfl,rfl,rfl,by simp,fun k hk _=>hoth k hk⟩⟩
  ·rw [← hob]
   simp only [Array.size_append,List.size_toArray,List.length_cons,List.length_nil,size_zeroCells,hzs]
   show _=gc * 1
   omega
  ·cases i with
   | succ i=>simp at hi
   | zero =>
     simp at hi
     subst hi
     intro k u hu
     cases k with
     | succ k=>simp at hu
     | zero =>
       simp at hu
       subst hu
       rw [add_lit]
       simp only [World.cell?,hnew]
       rw [← hob]
       rw [Array.getElem?_append_left AD]
       rfl
 ·rw [a1]
  obtain ⟨r2,c2,w',h1,h2,h3,h4,_⟩:=a2.DV (P:=P) (T:=T) (ty:=ty) (y:=z) hT hB rfl ⟨trivial,hv⟩ AB
  exact ⟨r2,c2,w',h1,h2,h3,h4⟩
theorem IX.upd {i r2 c2 ri:Nat}{x:Pst}{y y':RP}{z:Int}(h:IX tX tP tI s0 s1 G w b3 r c an nn cn nms ys xs rs) (hs1:s1≤w.heap.size) (hxi:xs[i]? = some x) (hyi:ys[i]? = some y) (hri:rs[i]? = some ri)
 (hx:Chg (Go.Proofs.YtckdhcbbgmiccaaGreatDoor.one ri) w w2) (ho2:Own w2 r2 tI all (y.n+1) c2 (x.ids++[z])) (hor:r2=ri∨r2=w.heap.size) (hx3:Chg (Go.Proofs.YtckdhcbbgmiccaaGreatDoor.one r) w2 w3)
 (hy':y'=⟨y.key,y.val,some ⟨r2,0,none⟩,y.n+1,c2⟩) (ho:Own w3 r tP all ys.length c (ys.set i y')) :
 IX tX tP tI s0 s1 G w3 b3 r c an nn cn nms (ys.set i y') (xs.set i ⟨x.tag,x.ids++[z]⟩) (rs.set i r2):=by
 have hnd:=h.nd
 simp only [List.nodup_cons,List.mem_cons,not_or] at hnd
 obtain ⟨⟨n1,n2⟩,n3,n4⟩:=hnd
 have hrm:=AV hri
 have hri2:ri≠b3∧ri≠r:=⟨fun e=>n2 (e▸hrm),fun e=>n3 (e▸hrm)⟩
 have hb3:=h.lt b3 AD
 have hrr:=h.lt r AD
 have hril:=h.lt ri (by simp [hrm])
 have e3:r2≠b3∧r2≠r:=by rcases hor with rfl | rfl; exact hri2; omega
 have z2:=hx.size
 have z3:=hx3.size
 have n3i:=h.new ri (by simp [hrm])
 have nr:=h.new r AD
 obtain ⟨hil,hie⟩:=List.getElem?_eq_some_iff.1 hri
 have hset:∀ q,q∈rs.set i r2→q=r2∨(q∈rs∧q≠ri):=by
  intro q hq
  obtain ⟨k,hk,hkq⟩:=List.mem_iff_getElem.1 hq
  rw [List.getElem_set] at hkq
  split at hkq
  ·exact .inl hkq.symm
  ·rename_i hne
   right
   have hk2:k< rs.length:=by simpa using hk
   refine ⟨hkq▸List.getElem_mem _,fun e=>hne ?_⟩
   have:=(List.getElem_inj (h₀:=hil) (h₁:=hk2) n4).1 (by rw [hie,hkq,e])
   exact this
 refine ⟨h.hs,h.hG,(h.nm.chg hx (fun b hb e=>by unfold Go.Proofs.YtckdhcbbgmiccaaGreatDoor.one at e; have:=h.hG b hb; omega)).chg hx3 (fun b hb e=>by unfold Go.Proofs.YtckdhcbbgmiccaaGreatDoor.one at e; have:=h.hG b hb; omega),
  by rw [List.length_set]; exact (h.box.chg hx (fun e=>hri2.1 e.symm)).chg hx3 (fun e=>n1 e),by rw [List.length_set]; exact ho,?_,?_,?_,by simp [h.lx],by simp [h.lr],?_⟩
 ·simp only [List.nodup_cons,List.mem_cons,not_or]
  refine ⟨⟨n1,fun hm=>?_⟩,fun hm=>?_,?_⟩
  ·rcases hset b3 hm with e | ⟨e,_⟩
   ·exact e3.1 e.symm
   ·exact n2 e
  ·rcases hset r hm with e | ⟨e,_⟩
   ·exact e3.2 e.symm
   ·exact n3 e
  ·rcases hor with rfl | hor
   ·rw [← hie,List.set_getElem_self]; exact n4
   ·rw [List.nodup_iff_pairwise_ne,List.pairwise_iff_getElem]
    intro p q hp hq hpq
    rw [List.getElem_set,List.getElem_set]
    have hp2:p< rs.length:=by simpa using hp
    have hq2:q< rs.length:=by simpa using hq
    have hnew:∀ k (hk:k< rs.length),rs[k]≠r2:=fun k hk e=>by have:=h.lt rs[k] AD; omega
    split
    ·split
     ·omega
     ·exact fun e=>hnew q hq2 e.symm
    ·split
     ·exact hnew p hp2
     ·intro e
      have:=(List.getElem_inj (h₀:=hp2) (h₁:=hq2) n4).1 e
      omega
 ·intro b hb
  simp only [List.mem_cons] at hb
  rcases hb with rfl | rfl | hb
  ·exact h.new _ AD
  ·exact nr
  ·rcases hset b hb with rfl | ⟨hb,_⟩
   ·rcases hor with rfl | rfl
    ·exact n3i
    ·exact hs1
   ·exact h.new b (by simp [hb])
 ·intro b hb
  simp only [List.mem_cons] at hb
  rcases hb with rfl | rfl | hb
  ·omega
  ·omega
  ·rcases hset b hb with rfl | ⟨hb,_⟩
   ·have:=ho2.lt; omega
   ·have:=h.lt b (by simp [hb]); omega
 ·intro j x1 y1 r1 g1 g2 g3
  rw [List.getElem?_set] at g1 g2 g3
  have l1:=h.lx
  have l2:=h.lr
  by_cases hj:i=j
  ·subst hj
   rw [if_pos rfl,if_pos AB] at g1 g2 g3
   cases g1; cases g2; cases g3
   obtain ⟨a1,a2,_⟩:=h.el i x y ri hxi hyi hri
   subst hy'
   exact ⟨a1,a2,.inr ⟨rfl,UH BB ho2 hx3 (fun e=>e3.2 e)⟩⟩
  ·rw [if_neg hj] at g1 g2 g3
   obtain ⟨a1,a2,a3⟩:=h.el j x1 y1 r1 g1 g2 g3
   have hne:r1≠ri:=fun e=>hj (by
    obtain ⟨hj1,hj2⟩:=List.getElem?_eq_some_iff.1 g3
    exact (List.getElem_inj (h₀:=hil) (h₁:=hj1) n4).1 (by rw [hie,hj2,e]))
   have hm1:=AV g3
   exact ⟨a1,a2,(a3.chg hx (fun e=>hne e)).chg hx3 (fun e=>n3 (e▸hm1))⟩
end
end Go.Proofs.YtckdhcbbgmiccaaGreatDoor
