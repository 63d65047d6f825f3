/- A row put into a row: slices of rows whose cells are told, copies, zeros. No conditions. -/
import Derived.Test.YtfninflnngpchaaGreatWkzW3
import Derived.Lib.Overlaps
import Derived.Lib.AppendZerosOnto
open Go.Proofs.Tryz
set_option linter.unusedVariables false
set_option linter.unusedSimpArgs false
namespace Go.Proofs.YtfninflnngpchaaGreat
def Ah (xs:List Row):List Value:=xs.flatMap (fun x=>[.int .i64 x.t,.int .i64 x.v])
theorem CF (xs:List Row):(Ah xs).length=xs.length * 2:=by
 induction xs with
 | nil=>rfl
 | cons x xs ih=>simp only [Ah,List.flatMap_cons,List.length_append,List.length_cons,List.length_nil] at *; omega
theorem Ky (xs ys:List Row):Ah (xs++ys)=Ah xs++Ah ys:=by simp [Ah]
theorem He (xs:List Row):∀ v∈Ah xs,Cm v=true:=by
 intro v hv
 simp only [Ah,List.mem_flatMap] at hv
 obtain ⟨x,_,hv⟩:=hv
 simp at hv
 rcases hv with rfl | rfl <;> rfl
theorem KD (xs:List Row) (i:Nat):Ah (xs.take i)=(Ah xs).take (i * 2):=by
 induction xs generalizing i with
 | nil=>simp [Ah]
 | cons x xs ih =>
   cases i with
   | zero=>simp [Ah]
   | succ i =>
     rw [List.take_succ_cons,show (i+1) * 2=i * 2+1+1 by omega]
     have:=ih i
     simp only [Ah,List.flatMap_cons] at *
     rw [this]
     simp
theorem Gm (xs:List Row) (i:Nat):Ah (xs.drop i)=(Ah xs).drop (i * 2):=by
 induction xs generalizing i with
 | nil=>simp [Ah]
 | cons x xs ih =>
   cases i with
   | zero=>simp [Ah]
   | succ i =>
     rw [List.drop_succ_cons,show (i+1) * 2=i * 2+1+1 by omega]
     have:=ih i
     simp only [Ah,List.flatMap_cons] at *
     rw [this]
     simp
theorem I9 {xs:List Row}{i:Nat}{x:Row}(h:xs[i]? = some x):(Ah xs)[i * 2]? = some (.int .i64 x.t)∧(Ah xs)[i * 2+1]? = some (.int .i64 x.v):=by
 have hd:=drop_at h
 have h1:=Gm xs i
 rw [hd] at h1
 have h2:(Ah xs).drop (i * 2)=.int .i64 x.t :: .int .i64 x.v::Ah (xs.drop (i+1)):=h1.symm
 constructor
 ·have:=congrArg (fun l=>l[0]?) h2
  simpa [List.getElem?_drop] using this
 ·have:=congrArg (fun l=>l[1]?) h2
  simpa [List.getElem?_drop] using this
section
variable {w:World} {r n c:Nat} {t:TypeId} {F:Nat→Prop} {xs:List Row}
theorem Own.box (h:Own w r t F n c xs):∃ cs,Box w r t cs∧cs.length=c * 2∧cs.take (n * 2)=Ah xs∧n≤c∧c≤maxLen:=by
 obtain ⟨cur,h1,h2⟩:=h.row
 have hz:Rep.sz Row=2:=rfl
 rw [hz] at h2
 refine ⟨cur.toList,by unfold Box; simpa using h1,by simpa using h2,?_,h.le,h.cap⟩
 have hn:=h.len
 have hnc:=h.le
 apply List.ext_getElem?
 intro k
 rw [List.getElem?_take]
 by_cases hk:k< n * 2
 ·rw [if_pos hk]
  have hi:k / 2< xs.length:=by omega
  obtain ⟨cs,g1,g2⟩:=h.elem (k / 2) xs[k / 2] (AU hi)
  cases g1
  obtain ⟨e1,e2⟩:=I9 (AU hi)
  rcases Nat.mod_two_eq_zero_or_one k with h0 | h0
  ·have hk2:k=k / 2 * 2:=by omega
   have g3:=g2 0 _ rfl
   rw [hk2,e1]
   simp only [add_lit,World.cell?,h1,hz] at g3
   simpa using g3
  ·have hk2:k=k / 2 * 2+1:=by omega
   have g3:=g2 1 _ rfl
   rw [hk2,e2]
   simp only [add_lit,World.cell?,h1,hz] at g3
   simpa using g3
 ·rw [if_neg hk,List.getElem?_eq_none (by rw [CF]; omega)]
theorem Own.Pe {cs:List Value}(h:Box w r t cs) (hl:cs.length=c * 2) (hx:cs.take (xs.length * 2)=Ah xs) (hn:xs.length≤c) (hc:c≤maxLen):Own w r t F xs.length c xs:=by
 refine ⟨rfl,hn,hc,⟨cs.toArray,h,by rw [show Rep.sz Row=2 from rfl]; simpa using hl⟩,fun i x hi=>⟨_,rfl,fun k u hu=>?_⟩⟩
 obtain ⟨e1,e2⟩:=I9 hi
 have hil:i< xs.length:=(List.getElem?_eq_some_iff.1 hi).1
 have hcs:∀ j,j< xs.length * 2→cs[j]? = (Ah xs)[j]? := fun j hj=>by rw [← hx,List.getElem?_take,if_pos hj]
 have hcell:∀ j v,cs[j]? = some v→w.cell? ⟨r,j,none⟩=some v:=fun j v hv=>by
  unfold Box at h
  simp only [World.cell?,h]
  simpa using hv
 rw [add_lit]
 match k,hu with
 | 0,hu=>cases hu; exact hcell _ _ (by rw [hcs _ (by show i * 2+0< _; omega)]; exact e1)
 | 1,hu=>cases hu; exact hcell _ _ (by rw [hcs _ (by show i * 2+1< _; omega)]; exact e2)
 | k+2,hu=>simp at hu
end
section
variable {P:Program} {n:Nat} {K:Env→World→Prop} {ops:Array Oper} {j:Nat} {e:Env} {w:World}
theorem RG.RJ {t:TypeId}{sz:Nat}{a:Option Addr}{len cap:Nat}{lo hi:Option Value}(l h':Nat) (h:CH n ops j e=some (t,.slice a len cap,lo,hi)) (ht:JW P t sz=true) (hlo:bnd lo 0 l) (hhi:bnd hi len h') (hlh:l≤h') (hh:h'≤cap)
 (H:∀ v,RG P n K ops (j+1) (Ab e (Aa ops j).dst v) w):RG P n K ops j e w :=
 have h1:=Di h (FN ht hlo hhi hlh hh w)
 RG.val h1.1 h1.2 (H _)
theorem RG.IT {t:TypeId}{sz:Nat}{r o len cap:Nat}{lo hi:Option Value}(l h':Nat) (h:CH n ops j e=some (t,.slice (some ⟨r,o,none⟩) len cap,lo,hi)) (ht:JW P t sz=true) (hlo:bnd lo 0 l) (hhi:bnd hi len h') (hlh:l≤h') (hh:h'≤cap) (hne:cap≠l)
 (H:RG P n K ops (j+1) (Ab e (Aa ops j).dst (.slice (some ⟨r,o+l * sz,none⟩) (h' - l) (cap - l))) w):RG P n K ops j e w:=by
 have h1:=Di h (FN ht hlo hhi hlh hh w)
 rw [if_neg hne] at h1
 simp only [Option.map_some,add_lit] at h1
 exact RG.val h1.1 h1.2 H
def Qs (P:Program) (n:Nat) (ops:Array Oper) (j:Nat) (e:Env):Option (FuncId × List Value) :=
 bif BW n ops j e then
  match (Aa ops j).op with
  | .call c => match c.callee with
    | .value f => match ev e f with
      | .func (.func g) first cap=>some (g,first.toList++(c.args.toList.map (ev e))++cap.toList)
      | _=>none
    | _=>none
  | _=>none
 else none
theorem RG.ext {f:FuncId}{args:List Value}{v:Value}(h:Qs P n ops j e=some (f,args)) (hr:(callFunc f args.toArray).run P w=.ok (.value v) w)
 (H:RG P n K ops (j+1) (Ab e (Aa ops j).dst v) w):RG P n K ops j e w:=by
 obtain ⟨hg,h⟩:=BQ h
 refine RG.val hg ?_ H
 split at h
 ·rename_i c hop
  split at h
  ·rename_i fo hcal
   split at h
   ·rename_i g first cap hf
    simp only [Option.some.injEq,Prod.mk.injEq] at h
    obtain ⟨rfl,rfl⟩:=h
    have hargs:(first.toList++(c.args.toList.map (ev e))++cap.toList).toArray=(first++c.args.map (ev e))++cap:=by
     apply Array.toList_inj.1; simp
    rw [hargs] at hr
    simp only [execOp,hop,resolve,hcal,hf,Deferred.ofValue]
    simp only [invoke]
    exact hr
   ·cases h
  ·cases h
 ·cases h
end
theorem ML {P:Program}{f:FuncId}{fn:Func}{tS tR t:TypeId}{w:World}{vb r o la ca lb cb:Nat}{cs cs2:List Value}(hf:P.funcs[f]? = some fn) (h1:(fn.name == "runtime.NumGoroutine")=false) (h2:fn.body.isNone=true) (h3:Extern.findNext fn=none)
 (h4:Extern.find fn=some (Extern.SlicesOverlaps.overlaps #[tS,tS] #[tR])) {sz:Nat} (ht:Dx P tS t sz=true) (hB:Box w vb t cs) (hR:Box w r t cs2) (hne:vb≠r) (hk:cs2.length≠0) :
 (callFunc f #[.slice (some ⟨vb,0,none⟩) la ca,.slice (some ⟨r,o,none⟩) lb cb]).run P w=.ok (.value (.bool false)) w:=by
 obtain ⟨g1,i,z,hi,hsz,_,_,_⟩:=Dg ht
 have hz:∀ w,(Go.sizeOf t).run P w=.ok i.size w:=fun w=>by simp [sizeOf,typeInfo,hi,go_sem]
 unfold Box at hB hR
 rw [run_callFunc_extern hf h1 h2 h3 h4,Lib.run_overlaps_apart w tS tR t g1 i.size hz ⟨vb,0,none⟩ ⟨r,o,none⟩ la ca lb cb hne t t cs.length cs2.length (by simp [World.shape?,hB]) (by simp [World.shape?,hR]) hk (by simp [World.frozen?,hB]) (by simp [World.frozen?,hB])]
 rfl
theorem El {P:Program}{T T2 ty t:TypeId}{sz:Nat}{w:World}{b o dl dc sl sc k:Nat}{a2:Addr}{cs vs:List Value}(hT:Dx P T t sz=true) (hB:Box w b t cs) (hsrc:Has w a2 vs) (hvs:vs.length=k * sz) (hk:Nat.min sl dl=k) (ho:o+k * sz≤cs.length) (hone:∀ v∈vs,Cm v=true) :
 ∃ w',(Builtin.copy_ #[T,T2] ty #[.slice (some ⟨b,o,none⟩) dl dc,.slice (some a2) sl sc]).run P w=.ok (goInt k) w'∧Box w' b t (Al cs o vs)∧Chg (one b) w w'∧w'.heap.size=w.heap.size:=by
 obtain ⟨g1,i,z,hi,hsz,_,_,_⟩:=Dg hT
 obtain ⟨w',h1,h2,h3,h4⟩:=hB.Mr (P:=P) vs (o:=o) (i:=0) AB hone
 have h5:=run_loadCellsFrom (P:=P) a2 vs 0 #[] vs rfl hsrc
 have h6:(loadCells a2 (k * i.size)).run P w=.ok vs.toArray w:=by
  rw [hsz,← hvs]
  unfold loadCells
  rw [h5]
  simp
 have hz:(sizeOf t).run P w=.ok i.size w:=by simp [sizeOf,typeInfo,hi,go_sem]
 refine ⟨w',?_,h2,h3,h4⟩
 unfold Builtin.copy_
 simp only [List.getElem?_toArray,List.getElem?_cons_zero,List.getElem?_cons_succ]
 rw [AX (run_underlying g1 w)]
 simp only [Builtin.lenOf]
 rw [AX (show (pure sl:Sem Nat).run P w=.ok sl w from rfl),AX hz,hk]
 simp only [Builtin.firstCells]
 rw [AX h6]
 simp only []
 rw [AX h1]
 rfl
theorem Ou {P:Program}{T tn ty t:TypeId}{kn:IntKind}{w:World}{r n c i:Nat}{cs:List Value}(hT:Dx P T t 2=true) (htn:P.underlying tn=some (.int kn)) (hB:Box w r t cs) (hl:cs.length=c * 2) (hi:i< n) (hn:n≤c) (hc:c< n+1) (hs:n≤1000000000) :
 ∃ gc ob w', (Builtin.append_ #[T, tn] ty #[.slice (some ⟨r, 0, none⟩) i c, .int .i64 ((n : Int) + 1 - i)]).run P w = .ok (.slice (some ⟨w.heap.size, 0, none⟩) (n + 1) gc) w' ∧
   Box w' w.heap.size t ob∧ob.length=gc * 2∧n+1≤gc∧gc≤maxLen∧ob.take (i * 2)=cs.take (i * 2)∧Ext w w'∧w'.heap.size=w.heap.size+1:=by
 obtain ⟨g1,inf,z,hinf,hsz,hby,hz,hzs⟩:=Dg hT
 have hBx:=hB
 unfold Box at hBx
 have hole:(cs.take (i * 2)).length=i * inf.size:=by rw [List.length_take,hsz]; omega
 have hold:(Builtin.firstCells inf.size i (.slice (some ⟨r,0,none⟩) i c)).run P w.drew=.ok (cs.take (i * 2)).toArray w.drew:=by
  have hh:Has w.drew ⟨r,0,none⟩ (cs.take (i * 2)):=by
   intro k u hu
   rw [List.getElem?_take] at hu
   split at hu
   ·rw [add_lit]
    show World.cell? w.drew _=_
    have:w.drew.heap=w.heap:=rfl
    simp only [World.cell?,this,hBx]
    simpa using hu
   ·cases hu
  have h1:=run_loadCellsFrom (P:=P) ⟨r,0,none⟩ (cs.take (i * 2)) 0 #[] _ rfl hh
  simp only [Builtin.firstCells,loadCells]
  rw [List.drop_zero] at h1
  rw [← hole,h1]
  simp
 have hr:=Lib.run_append_grow_zeros (P:=P) w T tn ty t inf z .i64 kn g1 htn hinf hz (some ⟨r,0,none⟩) i c (cs.take (i * 2)) hold (n+1 - i) AB AB AB AB (Nat.le_trans (Nat.mul_le_mul (show n+1 - i≤1000000001 by omega) hby) AB)
  (growslice_fits AB (Nat.le_trans (Nat.mul_le_mul (show i+(n+1 - i)≤1000000001 by omega) hby) AB))
 rw [show i+(n+1 - i)=n+1 by omega] at hr
 generalize hg:grownCap w (n+1) c t=gc at hr
 have hge:n+1≤gc:=by rw [← hg]; exact grownCap_ge _ _ _ _
 have hgm:gc≤maxLen:=by rw [← hg]; exact grownCap_le_maxLen _ _ _ _ (by unfold maxLen; omega)
 generalize hob:((cs.take (i * 2)).toArray++Builtin.zeroCells z.cells (n+1 - i)++Builtin.zeroCells z.cells (gc - (n+1)))=ob at hr
 have hnew:(w.drew.alloc (.cells ob t)).heap[w.heap.size]? = some (.cells ob t (0,0)):=heap_alloc_new w.drew _
 have hoth:∀ k,k< w.heap.size→(w.drew.alloc (.cells ob t)).heap[k]? = w.heap[k]? := fun k hk=>heap_alloc_old w.drew _ k hk
 have hoz:ob.size=gc * 2:=by
  rw [← hob]
  simp only [Array.size_append,List.size_toArray,hole,hsz,size_zeroCells,hzs,← Nat.add_mul]
  congr 1
  omega
 refine ⟨gc,ob.toList,w.drew.alloc (.cells ob t),?_,by unfold Box; simpa using hnew,by simpa using hoz,hge,hgm,?_,⟨rfl,rfl,rfl,by simp,fun k hk _=>hoth k hk⟩,by simp⟩
 ·have he:((n+1 - i:Nat):Int)=(n:Int)+1 - i:=by omega
  rw [he] at hr
  exact hr
 ·rw [← hob]
  simp only [Array.toList_append,List.append_assoc]
  rw [List.take_append_of_le_length (by rw [hole,hsz]; omega)]
  rw [List.take_of_length_le (by rw [hole,hsz]; omega)]
theorem NU {P:Program}{T tn ty t:TypeId}{kn:IntKind}{w:World}{r n c i:Nat}{cs:List Value}(hT:Dx P T t 2=true) (htn:P.underlying tn=some (.int kn)) (hB:Box w r t cs) (hl:cs.length=c * 2) (hi:i< n) (hn:n≤c) (hc:c< n+1) (hs:n≤1000000000) :
 ∃ b, b = w.heap.size ∧ ∃ gc ob w', (Builtin.append_ #[T, tn] ty #[.slice (some ⟨r, 0, none⟩) i c, .int .i64 ((n : Int) + 1 - i)]).run P w = .ok (.slice (some ⟨b, 0, none⟩) (n + 1) gc) w' ∧
   Box w' b t ob∧ob.length=gc * 2∧n+1≤gc∧gc≤maxLen∧ob.take (i * 2)=cs.take (i * 2)∧Ext w w'∧w'.heap.size=w.heap.size+1 :=
 ⟨_,rfl,Ou hT htn hB hl hi hn hc hs⟩
theorem NV {cs vs:List Value}{o:Nat}(h:o+vs.length≤cs.length):(Al cs o vs).take o=cs.take o:=by
 unfold Al
 rw [List.append_assoc,List.take_append_of_le_length (by rw [List.length_take]; omega),List.take_take,Nat.min_self]
theorem MM {cs vs:List Value}{o:Nat}(h:o+vs.length≤cs.length):(Al cs o vs).take (o+vs.length)=cs.take o++vs:=by
 unfold Al
 have:(cs.take o++vs).length=o+vs.length:=by rw [List.length_append,List.length_take]; omega
 rw [← this,List.take_left]
theorem Em {cs vs:List Value}{o:Nat}(h:o+vs.length≤cs.length):(Al cs o vs).length=cs.length:=by
 unfold Al
 simp only [List.length_append,List.length_take,List.length_drop]
 omega
def Dl (y:Row):List Value:=[.int .i64 y.t,.int .i64 y.v]
theorem EW (y:Row):(Dl y).length=2:=rfl
section
variable {cs ob:List Value} {xs:List Row} {y:Row} {n c gc i:Nat}
theorem Kz (hx:cs.take (n * 2)=Ah xs) (hn:n=xs.length):(cs.drop (i * 2)).take ((n - i) * 2)=Ah (xs.drop i):=by
 rw [Gm,← hx,List.drop_take]
 congr 1
 omega
theorem Pf (hx:cs.take (n * 2)=Ah xs) (hi:i≤n):cs.take (i * 2)=Ah (xs.take i):=by
 rw [KD,← hx,List.take_take,Nat.min_eq_left AB]
theorem Qt (a b:List Value) (ha:a=Ah (xs.take i)):(a++Dl y++Ah (xs.drop i)++b).take ((xs.take i++y::xs.drop i).length * 2)=Ah (xs.take i++y::xs.drop i):=by
 have h1:a++Dl y++Ah (xs.drop i)=Ah (xs.take i++y::xs.drop i):=by
  rw [Ky,ha,List.append_assoc]
  congr 1
 rw [h1,← CF,List.take_left]
theorem RL (hl:cs.length=c * 2) (hx:cs.take (n * 2)=Ah xs) (hn:n=xs.length) (hi:i< n) (hc:n+1≤c) :
 (Al (Al cs ((i+1) * 2) ((cs.drop (i * 2)).take ((n - i) * 2))) (i * 2) (Dl y)).take ((xs.take i++y::xs.drop i).length * 2)=Ah (xs.take i++y::xs.drop i) ∧
  (Al (Al cs ((i+1) * 2) ((cs.drop (i * 2)).take ((n - i) * 2))) (i * 2) (Dl y)).length=c * 2:=by
 rw [Kz hx hn]
 have hm:(Ah (xs.drop i)).length=(n - i) * 2:=by rw [CF,List.length_drop]; omega
 have h1:(i+1) * 2+(Ah (xs.drop i)).length≤cs.length:=by rw [hm]; omega
 have h2:=Em h1
 have h3:i * 2+(Dl y).length≤(Al cs ((i+1) * 2) (Ah (xs.drop i))).length:=by rw [h2,EW]; omega
 refine ⟨?_,by rw [Em h3,h2,hl]⟩
 have e1:(Al cs ((i+1) * 2) (Ah (xs.drop i))).take (i * 2)=cs.take (i * 2):=by
  have:=congrArg (fun l=>l.take (i * 2)) (NV h1)
  simpa [List.take_take,Nat.min_eq_left (show i * 2≤(i+1) * 2 by omega)] using this
 have e2:(Al cs ((i+1) * 2) (Ah (xs.drop i))).drop (i * 2+(Dl y).length)=Ah (xs.drop i)++cs.drop ((i+1) * 2+(Ah (xs.drop i)).length):=by
  rw [EW,show i * 2+2=(i+1) * 2 by omega]
  unfold Al
  have:(cs.take ((i+1) * 2)).length=(i+1) * 2:=by rw [List.length_take]; omega
  rw [List.append_assoc]
  have h5:(cs.take ((i+1) * 2)++(Ah (xs.drop i)++cs.drop ((i+1) * 2+(Ah (xs.drop i)).length))).drop (cs.take ((i+1) * 2)).length=Ah (xs.drop i)++cs.drop ((i+1) * 2+(Ah (xs.drop i)).length):=List.drop_left
  rw [this] at h5
  exact h5
 unfold Al at e1 e2 ⊢
 rw [e1,e2,← List.append_assoc]
 exact Qt _ _ (Pf hx AB)
theorem RM (hl:ob.length=gc * 2) (ho:ob.take (i * 2)=cs.take (i * 2)) (hx:cs.take (n * 2)=Ah xs) (hn:n=xs.length) (hi:i< n) (hc:n+1≤gc) :
 (Al (Al ob (i * 2) (Dl y)) ((i+1) * 2) ((cs.drop (i * 2)).take ((n - i) * 2))).take ((xs.take i++y::xs.drop i).length * 2)=Ah (xs.take i++y::xs.drop i) ∧
  (Al (Al ob (i * 2) (Dl y)) ((i+1) * 2) ((cs.drop (i * 2)).take ((n - i) * 2))).length=gc * 2:=by
 rw [Kz hx hn]
 have hm:(Ah (xs.drop i)).length=(n - i) * 2:=by rw [CF,List.length_drop]; omega
 have h1:i * 2+(Dl y).length≤ob.length:=by rw [EW]; omega
 have h2:=Em h1
 have h3:(i+1) * 2+(Ah (xs.drop i)).length≤(Al ob (i * 2) (Dl y)).length:=by rw [h2,hm]; omega
 refine ⟨?_,by rw [Em h3,h2,hl]⟩
 have e1:(Al ob (i * 2) (Dl y)).take ((i+1) * 2)=ob.take (i * 2)++Dl y:=by
  rw [show (i+1) * 2=i * 2+(Dl y).length by rw [EW]; omega]
  exact MM h1
 unfold Al at e1 ⊢
 rw [e1]
 exact Qt _ _ (by rw [ho]; exact Pf hx AB)
end
theorem GA.IT {P:Program}{S:Nat→Prop}{n m:Nat}{L:Env→World→Prop}{ops:Array Oper}{l:List Nat}{e:Env}{w:World}{i:Nat}{t:TypeId}{sz r o len cap:Nat}{lo hi:Option Value}(l' h':Nat) (hb:gB n m ops l i=true) (h:CH n ops i e=some (t,.slice (some ⟨r,o,none⟩) len cap,lo,hi)) (ht:JW P t sz=true) (hlo:bnd lo 0 l') (hhi:bnd hi len h') (hlh:l'≤h') (hh:h'≤cap) (hne:cap≠l')
 (H:GA P S n m L ops (i::l) (Ab e (Aa ops i).dst (.slice (some ⟨r,o+l' * sz,none⟩) (h' - l') (cap - l'))) w):GA P S n m L ops l e w:=by
 refine GA.J1 hb (fun w=>?_) H
 have h1:=Di h (FN ht hlo hhi hlh hh w)
 rw [if_neg hne] at h1
 simp only [Option.map_some,add_lit] at h1
 exact h1
theorem KE {cs:List Value}{a k:Nat}(h:((cs.drop a).take k).length≤k):(cs.drop a).take ((cs.drop a).take k).length=(cs.drop a).take k:=by
 rw [List.length_take]
 by_cases hk:k≤(cs.drop a).length
 ·rw [Nat.min_eq_left hk]
 ·rw [Nat.min_eq_right AB,List.take_of_length_le (Nat.le_refl _),List.take_of_length_le AB]
theorem Ls {a b k:Nat}(h:b≤a∧b=k∨a≤b∧a=k):Nat.min a b=k:=by
 show min a b=k
 omega
theorem Ov {w:World}{r t n c i:Nat}{F:Nat→Prop}{xs:List Row}{y:Row}(h:Own w r t F (n+1) c (xs++[y])) (hi:xs.length≤i):Own w r t F (n+1) c (xs.take i++y::xs.drop i):=by
 rw [List.take_of_length_le hi,List.drop_of_length_le hi]
 exact h
end Go.Proofs.YtfninflnngpchaaGreat
namespace Go.Proofs.YtfninflnngpchaaGreat
set_option maxRecDepth 100000
set_option maxHeartbeats 4000000
variable {w:World} {F:Nat→Prop}
theorem CB {r n c vb i:Nat}{xs:List Row}{y:Row}(ho:Own w r 72 F n c xs) (hv:Box w vb 72 [.int .i64 y.t,.int .i64 y.v]) (hne:vb≠r) (hi:i≤n) (hn:n≤1000000):Calls Tryz.prog 222 [.slice (some ⟨r,0,none⟩) n c,.int .i64 (i:Int),.slice (some ⟨vb,0,none⟩) 1 1].toArray w (Ad fun rv w'=>(∃ r2 c2,rv=.slice (some ⟨r2,0,none⟩) (n+1) c2∧Own w' r2 72 all (n+1) c2 (xs.take i++y::xs.drop i)∧OrB r2 r w.heap.size)∧Chg (one r) w w'):=by
 refine goT func222 ?_
 replace hne:Nb vb r:=hne
 have hnx:=ho.len; have hle:=ho.le; have hcm:=ho.cap
 replace ho:Own w r 72 (nin all [r]) n c xs:=ho.flat BL
 refine .s<|.g<|.r 1<|.d<|.s<|.g<|.r 2<|RG.RJ (a:=some ⟨r,0,none⟩) (t:=115) (lo:=some (vI (i:Int))) (hi:=none) (sz:=2) i n AA AA (.inr ⟨_,_,rfl,by omega⟩) (.inl ⟨rfl,rfl⟩) AB AB fun v_=>.d<|.s<|.g<|.r 3<|.d<|.s<|.s<|.g<|.r 2<|.d<|.cf<|.sk<|.s<|.g<|.r 3<|.d<|.s<|.s<|.g<|.r 2<|.eq (i:Int) (n:Int) (fun aG=>?_) (fun aG=>?_)
 ·refine .d<|.ct<|.s<|.g<|.r 2 ?_
  have af:nin all [r] vb∧vb≠r:=Px trivial (all_cons hne all_nil) hne
  refine RG.Eh (T:=115) (ty:=115) (y:=y) ho hv AA AA rfl af AB fun aO aP aQ ae ag ah=>?_
  have aH:=My ag (Cov.mk1 w r) (Nat.le_refl _)
  replace hv:=(s1 ah).g1 hv
  have aI:Chg (one r) w aQ:=Chg.CG (Chg.refl (one r) w) ah (Cov.mk1 w r)
  replace ae:=ae.rn r
  have aU:=ae.len; have aV:=ae.max
  exact .r 1<|.d<|.rt func222 results222 (vS aO (n+1) aP) ⟨⟨_,_,rfl,Ov (ae.flat BL) AB,aH⟩,aI⟩
 refine .d<|.cf<|.sk<|.s<|.s<|.g<|.r 2<|.it ((n:Int)+1)<|.r 2<|.bp ((n:Int)+1 > (c:Int)) (fun aJ=>?_) (fun aJ=>?_)
 ·refine .d<|.ct<|.s<|.g<|.r 2 ?_
  obtain ⟨cs,hbx,hcl,hct,aK,aL⟩:=ho.box
  refine RG.IT (r:=r) (o:=0) (len:=n) (cap:=c) (t:=115) (lo:=none) (hi:=some (vI (i:Int))) (sz:=2) 0 i AA AA (.inl ⟨rfl,rfl⟩) (.inr ⟨_,_,rfl,by omega⟩) AB AB AB<|.r 2<|.it ((n:Int)+1)<|.r 1<|.it (((n:Int)+1) - (i:Int)) ?_
  obtain ⟨b2,hq,gc,ob,w2,hrun,aR,hol,hge,hgm,hot,aM,aW⟩:=NU (P:=Tryz.prog) (T:=115) (tn:=3) (ty:=115) (kn:=.i64) (n:=n) AA AA hbx hcl (by omega:i< n) AB AB AB
  refine RG.append (ats:=[115,3]) (args:=[vS r i c,vI ((n:Int)+1 - i)]) AA hrun ?_
  have aX:=A8 hq hbx.lt
  have aY:=A8 hq hv.lt
  have aN:Cov (one r) w b2:=HB hq (Nat.le_refl _)
  replace ⟨hbx,hv⟩:=(se [] aM).g2 hbx hv
  have aa:Chg (one r) w w2:=Chg.M0 (Chg.refl (one r) w) aM
  refine .r 1<|.d<|.s<|.g<|.r 2<|RG.IT (r:=b2) (o:=0) (len:=(n+1)) (cap:=gc) (t:=115) (lo:=some (vI (i:Int))) (hi:=none) (sz:=2) i (n+1) AA AA (.inr ⟨_,_,rfl,by omega⟩) (.inl ⟨rfl,rfl⟩) AB AB AB<|.r 1 ?_
  obtain ⟨aS,aj,ac,aq,aZ⟩:=El (P:=Tryz.prog) (a2:=⟨vb,0,none⟩) (T:=115) (T2:=115) (ty:=3) (t:=72) (sz:=2) (o:=(0+i * 2)) (dl:=((n+1) - i)) (dc:=(gc - i)) (sl:=1) (sc:=1) (k:=1) (vs:=(Dl y)) AA aR (hv.has 0 (Dl y) rfl) AF (Nat.min_eq_left AB) (by have:=hcl; omega) (by intro v hv_; simp [Dl] at hv_; rcases hv_ with rfl | rfl <;> rfl)
  refine RG.copy (ats:=[115,115]) (args:=[.slice (some ⟨b2,0+i * 2,none⟩) ((n+1) - i) (gc - i),vS vb 1 1]) AA aj ?_
  rw [Nat.zero_add] at ac
  replace ⟨hbx,hv,aa⟩:=(s1 aq).g3 hbx hv aa
  refine .d<|.s<|.gd (mtb [] aS.heap.size) 8 fun bi ar=>?_
  replace ⟨hbx,hv,ac,aa⟩:=(se [] ar).g4 hbx hv ac aa
  refine .r [0,1,2]<|GA.int (i:=3) ((i:Int)+1) AA AB<|GA.IT (i:=4) (r:=b2) (o:=0) (len:=(n+1)) (cap:=gc) (t:=115) (lo:=some (vI ((i:Int)+1))) (hi:=none) (sz:=2) (i+1) (n+1) AA AA AA (.inr ⟨_,_,rfl,by omega⟩) (.inl ⟨rfl,rfl⟩) AB AB AB<|.r [5,6]<|GA.IT (i:=7) (r:=r) (o:=0) (len:=n) (cap:=c) (t:=115) (lo:=some (vI (i:Int))) (hi:=none) (sz:=2) i n AA AA AA (.inr ⟨_,_,rfl,by omega⟩) (.inl ⟨rfl,rfl⟩) AB AB AB<|.d fun bj ax=>?_
  replace ⟨hbx,hv,ac,aa⟩:=(se [] ax).g4 hbx hv ac aa
  obtain ⟨bk,ak,ay,az,ba⟩:=El (P:=Tryz.prog) (a2:=⟨r,0+i * 2,none⟩) (T:=115) (T2:=115) (ty:=3) (t:=72) (sz:=2) (o:=(0+(i+1) * 2)) (dl:=((n+1) - (i+1))) (dc:=(gc - (i+1))) (sl:=(n - i)) (sc:=(c - i)) (k:=(n - i)) (vs:=((cs.drop (i * 2)).take ((n - i) * 2))) AA ac (by rw [Nat.zero_add]; exact hbx.has (i * 2) ((cs.drop (i * 2)).take ((n - i) * 2)) (KE (by simp; omega))) (by rw [Kz hct hnx,CF,List.length_drop]; omega) (Ls AB) (by have:=hcl; rw [Em (by rw [EW]; omega)]; omega) (by rw [Kz hct hnx]; exact He _)
  refine RG.copy (ats:=[115,115]) (args:=[.slice (some ⟨b2,0+(i+1) * 2,none⟩) ((n+1) - (i+1)) (gc - (i+1)),.slice (some ⟨r,0+i * 2,none⟩) (n - i) (c - i)]) AA ak ?_
  rw [Nat.zero_add] at ay
  replace ⟨hbx,hv,aa⟩:=(s1 az).g3 hbx hv aa
  refine .d<|.s<|.g<|.r 2<|.d ?_
  have hfin:=RM (y:=y) hol hot hct hnx (by omega:i< n) AB
  have hlen:(xs.take i++y::xs.drop i).length=n+1:=by simp; omega
  have hown:=Own.Pe (F:=all) ay hfin.2 hfin.1 (by rw [hlen]; omega) AB
  rw [hlen] at hown
  exact .rt func222 results222 (vS b2 (n+1) gc) ⟨⟨_,_,rfl,hown,aN⟩,aa⟩
 refine .d<|.cf<|.sk<|.s<|.g<|.r 3<|.it ((n:Int)+1) ?_
 obtain ⟨cs,hbx,hcl,hct,aK,aL⟩:=ho.box
 refine RG.IT (r:=r) (o:=0) (len:=n) (cap:=c) (t:=115) (lo:=none) (hi:=some (vI ((n:Int)+1))) (sz:=2) 0 (n+1) AA AA (.inl ⟨rfl,rfl⟩) (.inr ⟨_,_,rfl,by omega⟩) AB AB AB<|.r 1<|.d<|.s<|.s<|.g<|.r 4<|.it ((i:Int)+1)<|RG.IT (r:=r) (o:=0) (len:=(n+1)) (cap:=c) (t:=115) (lo:=some (vI ((i:Int)+1))) (hi:=none) (sz:=2) (i+1) (n+1) AA AA (.inr ⟨_,_,rfl,by omega⟩) (.inl ⟨rfl,rfl⟩) AB AB AB<|RG.ext (f:=236) (args:=[vS vb 1 1,.slice (some ⟨r,0+(i+1) * 2,none⟩) (n+1 - (i+1)) (c - (i+1))]) AA (ML (fn:=Tryz.f236) (tS:=115) (tR:=4) (sz:=2) func236 AA AA AA AA AA hv hbx hne AB)<|.r 1<|.d<|.ct<|.s<|.gd (mtb [] w.heap.size) 8 fun aT ai=>?_
 replace ⟨hbx,hv⟩:=(se [] ai).g2 hbx hv
 have ab:Chg (one r) w aT:=Chg.M0 (Chg.refl (one r) w) ai
 refine .r [0,1,2]<|GA.int (i:=3) ((i:Int)+1) AA AB<|GA.IT (i:=4) (r:=r) (o:=0) (len:=(n+1)) (cap:=c) (t:=115) (lo:=some (vI ((i:Int)+1))) (hi:=none) (sz:=2) (i+1) (n+1) AA AA AA (.inr ⟨_,_,rfl,by omega⟩) (.inl ⟨rfl,rfl⟩) AB AB AB<|.r [5,6]<|GA.IT (i:=7) (r:=r) (o:=0) (len:=(n+1)) (cap:=c) (t:=115) (lo:=some (vI (i:Int))) (hi:=none) (sz:=2) i (n+1) AA AA AA (.inr ⟨_,_,rfl,by omega⟩) (.inl ⟨rfl,rfl⟩) AB AB AB<|.d fun bm aA=>?_
 replace ⟨hbx,hv,ab⟩:=(se [] aA).g3 hbx hv ab
 obtain ⟨bn,am,aB,aC,bd⟩:=El (P:=Tryz.prog) (a2:=⟨r,0+i * 2,none⟩) (T:=115) (T2:=115) (ty:=3) (t:=72) (sz:=2) (o:=(0+(i+1) * 2)) (dl:=(n+1 - (i+1))) (dc:=(c - (i+1))) (sl:=(n+1 - i)) (sc:=(c - i)) (k:=(n - i)) (vs:=((cs.drop (i * 2)).take ((n - i) * 2))) AA hbx (by rw [Nat.zero_add]; exact hbx.has (i * 2) ((cs.drop (i * 2)).take ((n - i) * 2)) (KE (by simp; omega))) (by rw [Kz hct hnx,CF,List.length_drop]; omega) (Ls AB) (by have:=hcl; omega) (by rw [Kz hct hnx]; exact He _)
 refine RG.copy (ats:=[115,115]) (args:=[.slice (some ⟨r,0+(i+1) * 2,none⟩) (n+1 - (i+1)) (c - (i+1)),.slice (some ⟨r,0+i * 2,none⟩) (n+1 - i) (c - i)]) AA am ?_
 rw [Nat.zero_add] at aB
 replace ⟨hv,ab⟩:=(s1 aC).g2 hv ab
 refine .d<|.s<|.g<|.r 2<|RG.IT (r:=r) (o:=0) (len:=(n+1)) (cap:=c) (t:=115) (lo:=some (vI (i:Int))) (hi:=none) (sz:=2) i (n+1) AA AA (.inr ⟨_,_,rfl,by omega⟩) (.inl ⟨rfl,rfl⟩) AB AB AB<|.r 1 ?_
 obtain ⟨bo,ao,aD,aE,bg⟩:=El (P:=Tryz.prog) (a2:=⟨vb,0,none⟩) (T:=115) (T2:=115) (ty:=3) (t:=72) (sz:=2) (o:=(0+i * 2)) (dl:=(n+1 - i)) (dc:=(c - i)) (sl:=1) (sc:=1) (k:=1) (vs:=(Dl y)) AA aB (hv.has 0 (Dl y) rfl) AF (Nat.min_eq_left AB) (by have:=hcl; rw [Em (by rw [Kz hct hnx,CF,List.length_drop]; omega)]; omega) (by intro v hv_; simp [Dl] at hv_; rcases hv_ with rfl | rfl <;> rfl)
 refine RG.copy (ats:=[115,115]) (args:=[.slice (some ⟨r,0+i * 2,none⟩) (n+1 - i) (c - i),vS vb 1 1]) AA ao ?_
 rw [Nat.zero_add] at aD
 replace ⟨hv,ab⟩:=(s1 aE).g2 hv ab
 refine .d<|.s<|.g<|.r 2<|.d ?_
 have hfin:=RL (y:=y) hcl hct hnx (by omega:i< n) AB
 have hlen:(xs.take i++y::xs.drop i).length=n+1:=by simp; omega
 have hown:=Own.Pe (F:=all) aD hfin.2 hfin.1 (by rw [hlen]; omega) AB
 rw [hlen] at hown
 exact .rt func222 results222 (vS r (n+1) c) ⟨⟨_,_,rfl,hown,Mz⟩,ab⟩
end Go.Proofs.YtfninflnngpchaaGreat
namespace Go.Proofs.YtfninflnngpchaaGreat
theorem Own.Ow {w:World}{r t c:Nat}{F:Nat→Prop}{y:Row}(h:Own w r t F 1 c [y]) (hc:c=1:=by rfl):Box w r t [.int .i64 y.t,.int .i64 y.v]:=by
 obtain ⟨cs,h1,h2,h3,_,_⟩:=h.box
 subst hc
 rw [List.take_of_length_le AB] at h3
 rw [h3] at h1
 exact h1
theorem Mv.Ox {w w':World}{r r2:Nat}(A B:List Nat) (hx:Chg (Go.Proofs.YtfninflnngpchaaGreat.one r) w w') (h:OrB r2 r w.heap.size):Mv (A++r::B) (A++r2::B) w w':=Mv.mk hx (fun k hk hm=>by
 unfold OrB at h
 simp only [List.mem_append,List.mem_cons,not_or] at hm ⊢
 exact ⟨⟨hm.1,by omega,hm.2.2⟩,hm.2.1⟩)
theorem Oy {b:List Row}{r x:Row}{i:Nat}(h:b.take i++Bv r (b.drop i)=Bv r b) (hx:b[i]? = some x) (ht:x.t< r.t):b.take (i+1)++Bv r (b.drop (i+1))=Bv r b:=by
 rw [drop_at hx,Bv,if_neg AB,if_neg AB] at h
 rw [← h,List.take_add_one,hx]
 simp
theorem GB {b:List Row}{r x:Row}{i:Nat}(h:b.take i++Bv r (b.drop i)=Bv r b) (hx:b[i]? = some x) (ht:x.t=r.t):b.set i r=Bv r b:=by
 rw [drop_at hx,Bv,if_neg AB,if_pos AB] at h
 rw [← h]
 obtain ⟨h1,h2⟩:=List.getElem?_eq_some_iff.1 hx
 rw [List.set_eq_take_append_cons_drop,if_pos h1]
theorem GC {b:List Row}{r x:Row}{i:Nat}(h:b.take i++Bv r (b.drop i)=Bv r b) (hx:b[i]? = some x) (h1:¬ x.t< r.t) (h2:x.t≠r.t):b.take i++r::b.drop i=Bv r b:=by
 rw [← h]
 congr 1
 rw [drop_at hx,Bv,if_pos AB]
theorem GF {b:List Row}{r:Row}{i:Nat}(h:b.take i++Bv r (b.drop i)=Bv r b) (hi:b.length≤i):b.take i++r::b.drop i=Bv r b:=by
 rw [← h,AY hi]
 rfl
def Bd (p:Prt) (id:Int):List Row:=if Ac p then partOf p id else []
theorem GG (v:Int):∀ (is:List Int) (bs:List (List Row)) (i:Nat),is.length=bs.length→(Cd v i is = -1∧Az v is bs=[])∨((i:Int)≤Cd v i is∧Cd v i is< (i:Int)+is.length∧∃ b,bs[(Cd v i is).toNat - i]? = some b∧Az v is bs=b):=by
 intro is
 induction is with
 | nil=>intro bs i h; left; exact ⟨rfl,by unfold Az; rfl⟩
 | cons x xs ih =>
   intro bs i h
   cases bs with
   | nil=>simp at h
   | cons b bs =>
     unfold Cd Az
     by_cases hx:(x==v)=true
     ·right
      rw [if_pos hx,if_pos hx]
      refine ⟨by omega,by simp only [List.length_cons]; omega,b,?_,rfl⟩
      simp
     ·rw [if_neg hx,if_neg hx]
      rcases ih bs (i+1) (by simpa using h) with ⟨h1,h2⟩ | ⟨h1,h2,c,h3,h4⟩
      ·left; exact ⟨h1,h2⟩
      ·right
       refine ⟨by omega,by simp only [List.length_cons]; omega,c,?_,h4⟩
       rw [show (Cd v (i+1) xs).toNat - i=((Cd v (i+1) xs).toNat - (i+1))+1 by omega,List.getElem?_cons_succ]
       exact h3
theorem D7 {p:Prt}(h:Ac p=true):p.ids.length=p.blocks.length:=by
 unfold Ac at h
 simp only [AW,decide_eq_true_eq] at h
 exact h.1
theorem Je {p:Prt}{id:Int}(h:Ac p=false):Bd p id=[]:=by unfold Bd; rw [h]; rfl
theorem Jf {p:Prt}{id:Int}(h:Ac p=true) (h2:Cd id 0 p.ids< 0):Bd p id=[]:=by
 unfold Bd partOf
 rw [if_pos h]
 rcases GG id p.ids p.blocks 0 (D7 h) with ⟨_,h3⟩ | ⟨h1,_⟩
 ·exact h3
 ·omega
theorem Jg {p:Prt}{id:Int}{b:List Row}(h:Ac p=true) (h2:¬ Cd id 0 p.ids< 0) (hb:p.blocks[(Cd id 0 p.ids).toNat]? = some b):Bd p id=b:=by
 unfold Bd partOf
 rw [if_pos h]
 rcases GG id p.ids p.blocks 0 (D7 h) with ⟨h1,_⟩ | ⟨_,_,c,h3,h4⟩
 ·omega
 ·rw [Nat.sub_zero,hb] at h3
  cases h3
  exact h4
theorem Lt {p:Prt}{id:Int}(h:Ac p=true) (h2:¬ Cd id 0 p.ids< 0):(Cd id 0 p.ids).toNat< p.blocks.length:=by
 rcases GG id p.ids p.blocks 0 (D7 h) with ⟨h1,_⟩ | ⟨_,h3,_⟩
 ·omega
 ·have:=D7 h; omega
theorem PrtI.ofI {p:Prt}(h:PrtI p) (id:Int):Blk (Bd p id):=by
 unfold Bd
 split
 ·exact h.of id
 ·exact Blk.nil
theorem Cp {α β:Type}{f:β→α→β}{l:List α}{i:Nat}{b:β}{x:α}{Y:β}(h:(l.drop i).foldl f b=Y) (hd:l.drop i=x::l.drop (i+1)):(l.drop (i+1)).foldl f (f b x)=Y:=by
 rw [hd] at h
 exact h
theorem FY {α β:Type}{f:β→α→β}{l:List α}{i:Nat}{b:β}{Y:β}(h:(l.drop i).foldl f b=Y) (hi:l.length≤i):b=Y:=by
 rw [AY hi] at h
 exact h
theorem GH {id:Int}{o:List Row}{m:Smp}(h:m.id=id) (ho:Blk o):Bp id o m=Bv m.row o:=by unfold Bp; rw [if_pos (by simpa using h),EV ho]
theorem Hf {id:Int}{o:List Row}{m:Smp}(h:m.id≠id):Bp id o m=o:=by unfold Bp; rw [if_neg (by simpa using h)]
theorem Blk.ins {b:List Row}(h:Blk b){r:Row}(hr:BF r=true):Blk (Bv r b):=by rw [← EV h]; exact h.put hr
theorem Qu {p:Prt}{a:List Int}{b:List (List Row)}(ha:a=p.ids) (hb:b=p.blocks):(⟨a,b⟩:Prt)=p:=by subst ha hb; rfl
theorem P7 {α:Type}{l k:List α}{i:Nat}(h:k++l.drop i=l) (hi:l.length≤i):k=l:=by
 rw [AY hi,List.append_nil] at h
 exact h
end Go.Proofs.YtfninflnngpchaaGreat
namespace Go.Proofs.YtfninflnngpchaaGreat
set_option maxRecDepth 100000
set_option maxHeartbeats 4000000
variable {w:World} {F:Nat→Prop} {a1 a2 a3 a4:Option Addr} {n1 c1 n2 c2 n3 c3 n4 c4:Nat}
theorem Hg (b:List Row) (r:Row) (h1:RepS w F a1 n1 c1 b) (p0:b.length≤100000):Calls Tryz.prog 198 [.slice a1 n1 c1,.agg #[.int .i64 r.t,.int .i64 r.v]].toArray w (Ad fun rv w'=>VL (ge w.heap.size) w' (Bv r b:List Row) rv∧Ext w w'):=by
 refine goT func198 ?_
 obtain ⟨rfl,fD,h1⟩:=h1.tp
 refine .s<|.g<|.np 72 [vI r.t,vI r.v] fun ae f7 cg bz ab dF=>?_
 replace h1:=(sn [] bz cg).g1 h1
 have aa:=bz
 refine .r 1<|.d<|.s<|.g<|.ns 0 72 [] fun cE eH bm ci dG dH=>?_
 have dI:=A8 bm ab.lt
 have dJ:=FB bm aa.size
 have dK:=aa.cn bm
 replace ⟨h1,ab,aa⟩:=(sn [ae] ci bm).g3 h1 ab aa
 have dL:Own (α:=Row) eH cE 72 (nin (ge w.heap.size) [cE,ae]) 0 0 []:=Own.DI dG
 refine .r 1<|RG.DN (T:=115) (ty:=115) BL dL h1 AA AA (fun b h e=>h.2 (e▸AI)) AB fun af cF dM ac aT cj=>?_
 have fE:=Dh aT dI ab.lt
 have ck:=Jy aT dJ aa.size
 have fF:=My aT dK aa.size
 replace ⟨ab,aa⟩:=(s1 cj).g2 ab aa
 replace ac:=ac.rn cE
 have fG:=ac.len; have fH:=ac.max
 refine .r 1<|.d<|.s<|.g<|.r 1<|.d<|.s<|.b 0<|T.loop (X:=Nat) 0 (fun at_=>[(3,.pointer (some ⟨ae,0,none⟩)),(5,vS af (0+b.length) cF),(6,vI (at_:Int))]) (fun at_ cG=>Chg (ins []) dM cG∧(at_≤b.length)∧(b.take at_++Bv r (b.drop at_)=Bv r b)) (fun at_=>b.length - at_) AA ⟨AA,AA,AA,trivial⟩ ⟨Chg.refl _ _,AB,AD⟩ ?_
 rintro at_ f8 cG ⟨aH,fI,fJ⟩ bA
 have cm:Mv [af,ae] [af,ae] dM cG:=Mv.inl aH all_nil (all_cons (.inl AI) (all_cons (.inl AJ) all_nil))
 replace ⟨ab,ac,aa⟩:=(sp cm aH).g3 ab ac aa
 refine .s<|.s<|.gd nil 12 fun eI co=>?_
 replace ⟨ab,ac,aa,aH⟩:=(se [af,ae] co).g4 ab ac aa aH
 refine .r [0,1,2]<|GA.Cr (i:=3) ((at_:Int)< ((0+b.length):Int)) AA (fun dN=>?_) (fun dN=>?_)
 ·refine .r [4,5,6] ?_
  have dO:at_< 0+b.length:=(by first | omega | (simp; omega))
  refine GA.idx (i:=7) (b:=af) (o:=0) at_ (len:=0+b.length) (z:=(at_:Int)) (sz:=2) AA (by first | omega | (simp; omega)) dO rfl<|.r [8] ?_
  obtain ⟨az,aO⟩:∃ y,([]++b)[at_]? = some y:=⟨_,AU (by first | omega | (simp; omega))⟩
  have fK:=drop_at aO; have eG:=AV aO
  obtain ⟨_,rfl,bB⟩:=ac.elem at_ az aO
  replace bB:Has eI ⟨af,0+at_ * Rep.sz Row,none⟩ [vI az.t,vI az.v]:=by rw [Nat.zero_add]; exact bB
  refine .lh 9 0 bB id<|.r [10]<|.lb 11 ab id<|.d fun f9 cp=>?_
  replace ⟨ab,ac,aa,aH⟩:=(se [af,ae] cp).g4 ab ac aa aH
  refine .bp (az.t< r.t) (fun dP=>.r 1<|.d<|.ct<|.sk<|.b 1<|.g<|.r 1<|.it ((at_:Int)+1)<|.r 1<|.d<|.ib 1<|bA (at_+1) _ _ ⟨AA,AA,AA,trivial⟩ ⟨aH,AB,(by exact Oy ‹_› ‹_› ‹_›)⟩ (by first | omega | (simp only []; omega))) fun dP=>.r 1<|.d<|.cf<|.x 0 rfl<|.s<|.s<|.gd nil 12 fun eJ cq=>?_
  replace ⟨ab,ac,aa⟩:=(se [af,ae] cq).g3 ab ac aa
  refine .r [0,1,2]<|GA.Cr (i:=3) ((at_:Int)< ((0+b.length):Int)) AA (fun dQ=>?_) (fun dQ=>?_)
  ·refine .r [4,5,6] ?_
   have dR:at_< 0+b.length:=(by first | omega | (simp; omega))
   refine GA.idx (i:=7) (b:=af) (o:=0) at_ (len:=0+b.length) (z:=(at_:Int)) (sz:=2) AA (by first | omega | (simp; omega)) dR rfl<|.r [8] ?_
   obtain ⟨_,rfl,bC⟩:=ac.elem at_ az aO
   replace bC:Has eJ ⟨af,0+at_ * Rep.sz Row,none⟩ [vI az.t,vI az.v]:=by rw [Nat.zero_add]; exact bC
   refine .lh 9 0 bC id<|.r [10]<|.lb 11 ab id<|.d fun eK cr=>?_
   replace ⟨ab,ac,aa⟩:=(se [af,ae] cr).g3 ab ac aa
   refine .eq az.t r.t (fun dS=>?_) (fun dS=>?_)
   ·refine .r 1<|.d<|.ct<|.s<|.g<|.r 2<|.ln ab ?_
    have dT:at_< 0+b.length:=(by first | omega | (simp; omega))
    refine RG.idx (b:=af) (o:=0) at_ (len:=0+b.length) (i:=(at_:Int)) (sz:=2) AA (by first | omega | (simp; omega)) dT rfl ?_
    obtain ⟨_,rfl,bD⟩:=ac.elem at_ az aO
    replace bD:Has eK ⟨af,0+at_ * Rep.sz Row,none⟩ [vI az.t,vI az.v]:=by rw [Nat.zero_add]; exact bD
    refine RG.FA (t':=72) (i:=at_) (k:=0) (v:=.agg #[vI r.t,vI r.v]) (cs:=[vI az.t,vI az.v]) r ac aO bD AA AA AA rfl fun gb dU cu dV=>?_
    replace ⟨ab,aa⟩:=(s1 cu).g2 ab aa
    refine .d<|.s<|.g<|.r 2<|.d ?_
    have eL:=dU.sl ck
    exact .rt func198 results198 (vS af (0+b.length) cF) ⟨(eL.vl (by first | exact GB ‹_› ‹_› ‹_› | exact GC ‹_› ‹_› ‹_› ‹_› | exact GF ‹_› AB) (fun _ _ h=>h.1)),aa⟩
   refine .r 1<|.d<|.cf<|.sk<|.s<|.g<|.ns 0 72 [] fun aU eM aP cw dW dX=>?_
   have dY:=A8 aP ab.lt
   have dZ:=A8 aP ac.lt
   have d0:=FB aP aa.size
   have fL:=aa.cn aP
   replace ⟨ab,ac,aa⟩:=(sn [af,ae] cw aP).g3 ab ac aa
   have aI:Own (α:=Row) eM aU 72 (nin (ge w.heap.size) [aU,af,ae]) 0 0 []:=Own.DI dW
   refine .r 2<|.ln ab<|.ns 1 72 [vI r.t,vI r.v] fun bw d3 aV bE cH cI=>?_
   have cJ:=A8 aV ac.lt
   have cK:=A8 aV aI.lt
   replace ⟨ab,ac,aI,aa⟩:=(sn [aU,af,ae] bE aV).g4 ab ac aI aa
   have aW:Own (α:=Row) d3 bw 72 (nin (ge w.heap.size) [bw,aU,af,ae]) 1 1 [r]:=Own.lit cH rfl AE ⟨rfl,rfl⟩
   refine .cl (CB (i:=at_) (y:=r) ac (Own.Ow aW) cJ AB AB) ?_
   rintro fM cx ⟨⟨bF,fN,rfl,aA,aX⟩,bn⟩
   have bG:=JU aX (Nb.symm dZ) aI.lt
   have bH:Mv [bw,aU,af,ae] [bw,aU,bF,ae] d3 cx:=Mv.Ox [bw,aU] [ae] bn aX
   replace ⟨ab,aI,aW,aa⟩:=(sp bH bn).g4 ab aI aW aa
   replace aA:Own cx bF 72 (nin (ge w.heap.size) [bw,aU,bF,ae]) _ _ _:=aA.flat BL
   have eN:=aA.len; have eO:=aA.max
   refine RG.DN (T:=115) (ty:=115) BL aI (aA.Of BL) AA AA (fun b h e=>bG (h.symm.trans e)) AB fun d4 d5 fO aJ aj bI=>?_
   have eP:=Dh aj dY ab.lt
   have eQ:=Dh aj (Nb.symm bG) aA.lt
   have eR:=Dh aj (Nb.symm cK) aW.lt
   have cL:=Jy aj d0 aa.size
   replace ⟨ab,aa⟩:=(s1 bI).g2 ab aa
   replace aJ:=aJ.rn aU
   have eS:=aJ.len; have eT:=aJ.max
   refine .r 1<|.d ?_
   have d6:=aJ.sl cL
   exact .rt func198 results198 (vS d4 (0+(0+b.length+1)) d5) ⟨(d6.vl (by first | exact GB ‹_› ‹_› ‹_› | exact GC ‹_› ‹_› ‹_› ‹_› | exact GF ‹_› AB) (fun _ _ h=>h.1)),aa⟩
  refine .r [4]<|GA.skip AA fun fP bJ=>?_
  replace ⟨ab,ac,aa⟩:=(se [af,ae] bJ).g3 ab ac aa
  refine .r 2<|.d<|.cf<|.sk<|.s<|.g<|.ns 0 72 [] fun ak d7 aB bK cM cN=>?_
  have cO:=A8 aB ab.lt
  have cP:=A8 aB ac.lt
  have cQ:=FB aB aa.size
  have eU:=aa.cn aB
  replace ⟨ab,ac,aa⟩:=(sn [af,ae] bK aB).g3 ab ac aa
  have ag:Own (α:=Row) d7 ak 72 (nin (ge w.heap.size) [ak,af,ae]) 0 0 []:=Own.DI cM
  refine .r 2<|.ln ab<|.ns 1 72 [vI r.t,vI r.v] fun aQ cy aY bL cR cS=>?_
  have cT:=A8 aY ac.lt
  have cU:=A8 aY ag.lt
  replace ⟨ab,ac,ag,aa⟩:=(sn [ak,af,ae] bL aY).g4 ab ac ag aa
  have aZ:Own (α:=Row) cy aQ 72 (nin (ge w.heap.size) [aQ,ak,af,ae]) 1 1 [r]:=Own.lit cR rfl AE ⟨rfl,rfl⟩
  refine .cl (CB (i:=at_) (y:=r) ac (Own.Ow aZ) cT AB AB) ?_
  rintro fQ cz ⟨⟨bM,fR,rfl,aC,ba⟩,bo⟩
  have bN:=JU ba (Nb.symm cP) ag.lt
  have bO:Mv [aQ,ak,af,ae] [aQ,ak,bM,ae] cy cz:=Mv.Ox [aQ,ak] [ae] bo ba
  replace ⟨ab,ag,aZ,aa⟩:=(sp bO bo).g4 ab ag aZ aa
  replace aC:Own cz bM 72 (nin (ge w.heap.size) [aQ,ak,bM,ae]) _ _ _:=aC.flat BL
  have eV:=aC.len; have eW:=aC.max
  refine RG.DN (T:=115) (ty:=115) BL ag (aC.Of BL) AA AA (fun b h e=>bN (h.symm.trans e)) AB fun d8 d9 fS aK am bP=>?_
  have eX:=Dh am cO ab.lt
  have eY:=Dh am (Nb.symm bN) aC.lt
  have eZ:=Dh am (Nb.symm cU) aZ.lt
  have cV:=Jy am cQ aa.size
  replace ⟨ab,aa⟩:=(s1 bP).g2 ab aa
  replace aK:=aK.rn ak
  have e7:=aK.len; have e8:=aK.max
  refine .r 1<|.d ?_
  have ec:=aK.sl cV
  exact .rt func198 results198 (vS d8 (0+(0+b.length+1)) d9) ⟨(ec.vl (by first | exact GB ‹_› ‹_› ‹_› | exact GC ‹_› ‹_› ‹_› ‹_› | exact GF ‹_› AB) (fun _ _ h=>h.1)),aa⟩
 refine .r [4]<|GA.skip AA fun fT bQ=>?_
 replace ⟨ab,ac,aa⟩:=(se [af,ae] bQ).g3 ab ac aa
 refine .r 2<|.d<|.cf<|.x 0 rfl<|.s<|.s<|.gd nil 12 fun ee bR=>?_
 replace ⟨ab,ac,aa⟩:=(se [af,ae] bR).g3 ab ac aa
 refine .r [0,1,2]<|GA.Cr (i:=3) ((at_:Int)< ((0+b.length):Int)) AA (fun cW=>?_) (fun cW=>?_)
 ·refine .r [4,5,6] ?_
  have cX:at_< 0+b.length:=(by first | omega | (simp; omega))
  refine GA.idx (i:=7) (b:=af) (o:=0) at_ (len:=0+b.length) (z:=(at_:Int)) (sz:=2) AA (by first | omega | (simp; omega)) cX rfl<|.r [8] ?_
  obtain ⟨ao,aL⟩:∃ y,([]++b)[at_]? = some y:=⟨_,AU (by first | omega | (simp; omega))⟩
  have fa:=drop_at aL; have eg:=AV aL
  obtain ⟨_,rfl,bq⟩:=ac.elem at_ ao aL
  replace bq:Has ee ⟨af,0+at_ * Rep.sz Row,none⟩ [vI ao.t,vI ao.v]:=by rw [Nat.zero_add]; exact bq
  refine .lh 9 0 bq id<|.r [10]<|.lb 11 ab id<|.d fun eh bS=>?_
  replace ⟨ab,ac,aa⟩:=(se [af,ae] bS).g3 ab ac aa
  refine .eq ao.t r.t (fun cY=>?_) (fun cY=>?_)
  ·refine .r 1<|.d<|.ct<|.s<|.g<|.r 2<|.ln ab ?_
   have cZ:at_< 0+b.length:=(by first | omega | (simp; omega))
   refine RG.idx (b:=af) (o:=0) at_ (len:=0+b.length) (i:=(at_:Int)) (sz:=2) AA (by first | omega | (simp; omega)) cZ rfl ?_
   obtain ⟨_,rfl,br⟩:=ac.elem at_ ao aL
   replace br:Has eh ⟨af,0+at_ * Rep.sz Row,none⟩ [vI ao.t,vI ao.v]:=by rw [Nat.zero_add]; exact br
   refine RG.FA (t':=72) (i:=at_) (k:=0) (v:=.agg #[vI r.t,vI r.v]) (cs:=[vI ao.t,vI ao.v]) r ac aL br AA AA AA rfl fun fU c7 bT c8=>?_
   replace ⟨ab,aa⟩:=(s1 bT).g2 ab aa
   refine .d<|.s<|.g<|.r 2<|.d ?_
   have ej:=c7.sl ck
   exact .rt func198 results198 (vS af (0+b.length) cF) ⟨(ej.vl (by first | exact GB ‹_› ‹_› ‹_› | exact GC ‹_› ‹_› ‹_› ‹_› | exact GF ‹_› AB) (fun _ _ h=>h.1)),aa⟩
  refine .r 1<|.d<|.cf<|.sk<|.s<|.g<|.ns 0 72 [] fun aq ek aD bU da db=>?_
  have de:=A8 aD ab.lt
  have df:=A8 aD ac.lt
  have dh:=FB aD aa.size
  have fb:=aa.cn aD
  replace ⟨ab,ac,aa⟩:=(sn [af,ae] bU aD).g3 ab ac aa
  have ah:Own (α:=Row) ek aq 72 (nin (ge w.heap.size) [aq,af,ae]) 0 0 []:=Own.DI da
  refine .r 2<|.ln ab<|.ns 1 72 [vI r.t,vI r.v] fun aR cA bd bV dj dm=>?_
  have dq:=A8 bd ac.lt
  have dt:=A8 bd ah.lt
  replace ⟨ab,ac,ah,aa⟩:=(sn [aq,af,ae] bV bd).g4 ab ac ah aa
  have bg:Own (α:=Row) cA aR 72 (nin (ge w.heap.size) [aR,aq,af,ae]) 1 1 [r]:=Own.lit dj rfl AE ⟨rfl,rfl⟩
  refine .cl (CB (i:=at_) (y:=r) ac (Own.Ow bg) dq AB AB) ?_
  rintro fV cB ⟨⟨bW,fW,rfl,aE,bh⟩,bu⟩
  have bX:=JU bh (Nb.symm df) ah.lt
  have bY:Mv [aR,aq,af,ae] [aR,aq,bW,ae] cA cB:=Mv.Ox [aR,aq] [ae] bu bh
  replace ⟨ab,ah,bg,aa⟩:=(sp bY bu).g4 ab ah bg aa
  replace aE:Own cB bW 72 (nin (ge w.heap.size) [aR,aq,bW,ae]) _ _ _:=aE.flat BL
  have fd:=aE.len; have fe:=aE.max
  refine RG.DN (T:=115) (ty:=115) BL ah (aE.Of BL) AA AA (fun b h e=>bX (h.symm.trans e)) AB fun en eA fX aM ar bZ=>?_
  have ff:=Dh ar de ab.lt
  have fg:=Dh ar (Nb.symm bX) aE.lt
  have fi:=Dh ar (Nb.symm dt) bg.lt
  have du:=Jy ar dh aa.size
  replace ⟨ab,aa⟩:=(s1 bZ).g2 ab aa
  replace aM:=aM.rn aq
  have fj:=aM.len; have fm:=aM.max
  refine .r 1<|.d ?_
  have eB:=aM.sl du
  exact .rt func198 results198 (vS en (0+(0+b.length+1)) eA) ⟨(eB.vl (by first | exact GB ‹_› ‹_› ‹_› | exact GC ‹_› ‹_› ‹_› ‹_› | exact GF ‹_› AB) (fun _ _ h=>h.1)),aa⟩
 refine .r [4]<|GA.skip AA fun fY b0=>?_
 replace ⟨ab,ac,aa⟩:=(se [af,ae] b0).g3 ab ac aa
 refine .r 2<|.d<|.cf<|.sk<|.s<|.g<|.ns 0 72 [] fun ax eC aF b6 dv dw=>?_
 have dx:=A8 aF ab.lt
 have dy:=A8 aF ac.lt
 have dz:=FB aF aa.size
 have fp:=aa.cn aF
 replace ⟨ab,ac,aa⟩:=(sn [af,ae] b6 aF).g3 ab ac aa
 have ai:Own (α:=Row) eC ax 72 (nin (ge w.heap.size) [ax,af,ae]) 0 0 []:=Own.DI dv
 refine .r 2<|.ln ab<|.ns 1 72 [vI r.t,vI r.v] fun aS cC bi b7 dA dB=>?_
 have dC:=A8 bi ac.lt
 have dD:=A8 bi ai.lt
 replace ⟨ab,ac,ai,aa⟩:=(sn [ax,af,ae] b7 bi).g4 ab ac ai aa
 have bj:Own (α:=Row) cC aS 72 (nin (ge w.heap.size) [aS,ax,af,ae]) 1 1 [r]:=Own.lit dA rfl AE ⟨rfl,rfl⟩
 refine .cl (CB (i:=at_) (y:=r) ac (Own.Ow bj) dC AB AB) ?_
 rintro fZ cD ⟨⟨b8,f5,rfl,aG,bk⟩,bv⟩
 have b9:=JU bk (Nb.symm dy) ai.lt
 have cd:Mv [aS,ax,af,ae] [aS,ax,b8,ae] cC cD:=Mv.Ox [aS,ax] [ae] bv bk
 replace ⟨ab,ai,bj,aa⟩:=(sp cd bv).g4 ab ai bj aa
 replace aG:Own cD b8 72 (nin (ge w.heap.size) [aS,ax,b8,ae]) _ _ _:=aG.flat BL
 have fq:=aG.len; have fu:=aG.max
 refine RG.DN (T:=115) (ty:=115) BL ai (aG.Of BL) AA AA (fun b h e=>b9 (h.symm.trans e)) AB fun eD eE f6 aN ay ce=>?_
 have fv:=Dh ay dx ab.lt
 have fw:=Dh ay (Nb.symm b9) aG.lt
 have fA:=Dh ay (Nb.symm dD) bj.lt
 have dE:=Jy ay dz aa.size
 replace aa:=(s1 ce).g1 aa
 replace aN:=aN.rn ax
 have fB:=aN.len; have fC:=aN.max
 refine .r 1<|.d ?_
 have eF:=aN.sl dE
 exact .rt func198 results198 (vS eD (0+(0+b.length+1)) eE) ⟨(eF.vl (by first | exact GB ‹_› ‹_› ‹_› | exact GC ‹_› ‹_› ‹_› ‹_› | exact GF ‹_› AB) (fun _ _ h=>h.1)),aa⟩
theorem IU (p:Prt) (id:Int) (h1:RepS w F a1 n1 c1 p.ids) (h2:RepS w F a2 n2 c2 p.blocks) (p0:HP p):Calls Tryz.prog 197 [.agg #[.slice a1 n1 c1,.slice a2 n2 c2],.int .i64 id].toArray w (Ad fun rv w'=>VL (ge w.heap.size) w' (Bd p id:List Row) rv∧Ext w w'):=by
 cases h1.len
 cases h2.len
 refine goT func197 ?_
 have Z:=((St.i0 F w).p h1).p h2
 have af:=h1.max
 have ag:=h2.max
 refine .s<|.g<|RG.Np Z fun aj w Z=>.r 1<|.d<|.s<|.g<|.r 1<|RG.Lb 0 Z<|.r 1<|RG.C0 (CR p.ids id (Z.a 1)) Z fun w Z=>.r 1<|.d<|.s<|.s<|.g<|RG.Ln 0 Z<|RG.C0 (Cj p (Z.a 1) (Z.a 0)) Z fun w Z=>?_
 cases ah:(Ac p)
 ·exact .r 5<|.d<|.ct<|.s<|.g<|RG.N0 Row 0 Z fun ak w Z=>.r 1<|.d<|T.Rt func197 results197 ⟨Z.rM 0 ([]:List Row) (by first | rw [Je ‹_›] | rw [Jf ‹_› ‹_›] | (rw [Jg ‹_› ‹_› ‹_›]; rfl)),Z.xt⟩
 refine .r 3<|.bp (Cd id 0 p.ids< 0) (fun ab=>.r 1<|.d<|.ct<|.s<|.g<|RG.N0 Row 0 Z fun am w Z=>.r 1<|.d<|T.Rt func197 results197 ⟨Z.rM 0 ([]:List Row) (by first | rw [Je ‹_›] | rw [Jf ‹_› ‹_›] | (rw [Jg ‹_› ‹_› ‹_›]; rfl)),Z.xt⟩) fun ab=>.r 1<|.d<|.cf<|.sk<|.s<|.g<|RG.N0 Row 0 Z fun ao w Z=>.r 1<|RG.Lb 1 Z<|.r 1<|gx (h:=(by first | omega | exact Lt ‹_› ‹_›)) p.blocks ((Cd id 0 p.ids).toNat) fun ac aa=>?_
 have ai:=drop_at aa; have ae:=AV aa
 exact RG.Jx (hz:=(by first | omega | exact Lt ‹_› ‹_›)) 0 (Cd id 0 p.ids) aa Z<|Z.el 0 aa fun aq ar Z=>RG.Lh 0 0 Z<|RG.An (hs:=by first | exact (by first | omega | (have q1:=p0.2.2 _ ‹_›; omega)) | (simp only [List.nil_append,List.length_nil,List.length_append,List.length_cons] <;> exact (by first | omega | (have q1:=p0.2.2 _ ‹_›; omega))) | (simp <;> omega)) (hf:=.inr BL) 0 1 ([]:List Row) ac Z fun ay az w Z=>.r 1<|.d<|T.Rt func197 results197 ⟨Z.rM 0 ([]++ac) (by first | rw [Je ‹_›] | rw [Jf ‹_› ‹_›] | (rw [Jg ‹_› ‹_› ‹_›]; rfl)),Z.xt⟩
theorem GI (p:Prt) (h1:RepS w F a1 n1 c1 p.ids) (h2:RepS w F a2 n2 c2 p.blocks) (p0:HP p):Calls Tryz.prog 119 [.agg #[.slice a1 n1 c1,.slice a2 n2 c2]].toArray w (Ad fun rv w'=>VS (ge w.heap.size) w' (p:Prt) rv∧Ext w w'):=by
 cases h1.len
 cases h2.len
 refine goT func119 ?_
 have Z:=((St.i0 F w).p h1).p h2
 have aB:=h1.max
 have aC:=h2.max
 refine .s<|.g<|RG.Np Z fun aq w Z=>RG.Np Z fun ah w Z=>.d<|.s<|.g<|RG.N0 Int 0 Z fun aI w Z=>.r 1<|RG.Lb 2 Z<|RG.An (hs:=by first | exact (by have q1:=p0.1; have q2:=p0.2.1; first | omega | (have q3:=p0.2.2 _ ‹_›; omega)) | (simp only [List.nil_append,List.length_nil,List.length_append,List.length_cons] <;> exact (by have q1:=p0.1; have q2:=p0.2.1; first | omega | (have q3:=p0.2.2 _ ‹_›; omega))) | (simp <;> omega)) (hf:=.inr EM) 0 1 ([]:List Int) p.ids Z fun ar ax w Z=>RG.N0 (List Row) 0 Z fun ay w Z=>.r 1<|RG.Np Z fun af w Z=>RG.Ss 0 Z fun w Z=>.d<|.s<|.s<|.g<|.r 1<|RG.Lb 4 Z<|.r 2<|.d<|.b 0<|T.Lp ((0:Nat),(([]++p.ids):List Int),ar,ax,([]:List (List Row)),ay,(0:Nat)) (fun (k,ab,r_out_0,c_out_0,aa,r_out_1,c_out_1)=>([(2,vP ah),(3,vP af),(13,.slice a2 p.blocks.length c2),(14,vI (p.blocks.length:Int)),(15,vI (k:Int))],[(0,.box af 111 [vS r_out_0 ab.length c_out_0,vS r_out_1 aa.length c_out_1]),(1,.own 0 r_out_1 115 c_out_1 aa),(2,.own 0 r_out_0 3 c_out_0 ab)],[],p.blocks.length - k,(k≤p.blocks.length)∧(ab=p.ids)∧(aa.length≤k)∧(aa++p.blocks.drop k=p.blocks))) [] Z ⟨(by first | omega | rfl | simp),(by first | omega | rfl | simp),(by first | omega | rfl | simp),(by first | omega | rfl | simp)⟩ ?_
 rintro ⟨k,ab,r_out_0,c_out_0,aa,r_out_1,c_out_1⟩ aJ w Z ⟨aD,aE,aF,aG⟩ ae
 refine .s<|.g<|.bp ((k:Int)< (p.blocks.length:Int)) (fun am=>?_) (fun am=>?_)
 ·refine .d<|.s<|.ct<|.sk<|.s<|.b 1<|.s<|.g<|gx p.blocks k fun ag ac=>?_
  have aH:=drop_at ac; have ao:=AV ac
  exact RG.Ix 0 ac Z<|Z.el 0 ac fun aK aL Z=>RG.Lh 0 0 Z<|.r 1<|.d<|T.GS 6 [af,ah,aq] Z fun _ w Z=>.r [0]<|GA.Lb 1 0 Z<|.r [3]<|.go 2<|GE.N0 Row 0 Z fun aM w Z=>.go 4<|GE.An (hs:=by first | exact (by have q1:=p0.1; have q2:=p0.2.1; first | omega | (have q3:=p0.2.2 _ ‹_›; omega)) | (simp only [List.nil_append,List.length_nil,List.length_append,List.length_cons] <;> exact (by have q1:=p0.1; have q2:=p0.2.1; first | omega | (have q3:=p0.2.2 _ ‹_›; omega))) | (simp <;> omega)) (hf:=.inr BL) 0 1 ([]:List Row) ag [1,4,5] Z fun aN aO w Z=>.go 5<|GE.Nb 1 Z fun aP w Z=>GA.Do Z fun w Z=>RG.Ap (hs:=by first | exact (by have q1:=p0.1; have q2:=p0.2.1; first | omega | (have q3:=p0.2.2 _ ‹_›; omega)) | (simp only [List.nil_append,List.length_nil,List.length_append,List.length_cons] <;> exact (by have q1:=p0.1; have q2:=p0.2.1; first | omega | (have q3:=p0.2.2 _ ‹_›; omega))) | (simp <;> omega)) 1 0 aa ([]++ag) [0] (Z.sl 1) fun az aA w Z=>.r 1<|RG.Ss 0 Z fun w Z=>.d<|.ib 1<|.g<|.it ((k:Int)+1)<|.r 1<|.d<|ae (k+1,ab,r_out_0,c_out_0,(aa++[([]++ag)]),az,aA) _ _ AA (Z.to 0 [] 3) ⟨AB,‹_›,(by simp; omega),(by exact Om ‹_› ‹_›)⟩ (by first | omega | (simp only []; omega))
 refine .d<|.s<|.cf<|.x 0 rfl<|.s<|.g<|RG.Ln 0 Z<|RG.Ss 3 Z fun w Z=>.d ?_
 have Z:=(Z.sl 2).sl 1
 exact T.Rb 1 func119 results119 Z ⟨Z.rS (⟨ab,aa⟩:Prt) [1,0] (by exact Qu ‹_› (P7 ‹_› AB)),Z.xt⟩
theorem FZ (s:Sto) (id:Int) (h1:RepS w F a1 n1 c1 s.idx.names) (h2:RepS w F a2 n2 c2 s.idx.Ae) (h3:RepS w F a3 n3 c3 s.parts) (h4:RepS w F a4 n4 c4 s.mem) (p0:∀ p∈s.parts,PrtI p∧Ac p=true) (p1:∀ m∈s.mem,BF m.row=true) (p2:s.parts.length≤1000) (p3:s.mem.length≤1000):Calls Tryz.prog 143 [.agg #[.slice a1 n1 c1,.slice a2 n2 c2,.slice a3 n3 c3,.slice a4 n4 c4],.int .i64 id].toArray w (Ad fun rv w'=>VL (ge w.heap.size) w' (rowsOf s id:List Row) rv∧Ext w w'):=by
 cases h1.len
 cases h2.len
 cases h3.len
 cases h4.len
 refine goT func143 ?_
 have Z:=((((St.i0 F w).p h1).p h2).p h3).p h4
 have aK:=h1.max
 have aL:=h2.max
 have aM:=h3.max
 have aN:=h4.max
 refine .s<|.g<|RG.Np Z fun aq w Z=>.r 1<|.d<|.s<|.g<|RG.N0 Row 0 Z fun aD w Z=>.r 1<|.d<|.s<|.s<|.g<|.r 1<|RG.Lb 1 Z<|.r 2<|.d<|.b 0 ?_
 have Z:=Z.sl 0
 refine T.Lp (([]:List Row),sA aD,(0:Nat),(0:Nat)) (fun (out,a_out,c_out,k)=>([(1,vI id),(2,vP aq),(5,.slice a_out out.length c_out),(14,.slice a3 s.parts.length c3),(15,vI (s.parts.length:Int)),(16,vI (k:Int))],[],[⟨0,none,.rep a_out c_out out⟩],s.parts.length - k,(k≤s.parts.length)∧(Blk out)∧((s.parts.drop k).foldl (Bf id) out=s.parts.foldl (Bf id) []))) [0] Z ⟨(by first | omega | rfl | exact Blk.nil),(by first | omega | rfl | exact Blk.nil),(by first | omega | rfl | exact Blk.nil)⟩ ?_
 rintro ⟨out,a_out,c_out,k⟩ bn w Z ⟨aO,aP,aQ⟩ ai
 have aR:=Z.mf 0 out
 refine .s<|.g<|.bp ((k:Int)< (s.parts.length:Int)) (fun ar=>?_) (fun ar=>?_)
 ·refine .d<|.s<|.ct<|.sk<|.s<|.b 1<|.s<|.g<|gx s.parts k fun ab af=>?_
  have aS:=drop_at af; have aA:=AV af
  refine RG.Ix 3 af Z<|Z.el 3 af fun bo bq br bu Z=>?_
  have aT:=Z.mf 1 ab.ids
  have aU:=Z.mf 2 ab.blocks
  refine RG.Lg 0 0 Z<|RG.Np Z fun bv w Z=>RG.Ss 0 Z fun w Z=>.d<|.s<|.g<|RG.Ln 0 Z<|.r 1<|RG.CL (IU ab id (Z.a 1) (Z.a 2) (p0 _ ‹_›).1.sz) Z fun aE aF w Z=>?_
  have aV:=Z.mf 0 (Bd ab id)
  refine .r 2<|.d<|.b 2<|T.Lp ((out:List Row),a_out,c_out,(0:Nat)) (fun (aa,a_out1,c_out1,k1)=>([(1,vI id),(2,vP aq),(5,.slice a_out1 aa.length c_out1),(14,.slice a3 s.parts.length c3),(15,vI (s.parts.length:Int)),(16,vI (k:Int)),(22,.slice aE ((Bd ab id).length) aF),(23,vI (((Bd ab id).length):Int)),(24,vI (k1:Int))],[],[⟨0,none,.rep a_out1 c_out1 aa⟩],(Bd ab id).length - k1,(k1≤(Bd ab id).length)∧(Blk aa)∧(((Bd ab id).drop k1).foldl DJ aa=Bf id out ab))) [4] Z ⟨AB,‹_›,(by unfold Bd Bf; rw [if_pos (p0 _ ‹_›).2]; rfl)⟩ ?_
  rintro ⟨aa,a_out1,c_out1,k1⟩ bw w Z ⟨aW,aX,aY⟩ aj
  have aZ:=Z.mf 0 aa
  refine .s<|.g<|.bp ((k1:Int)< (((Bd ab id).length):Int)) (fun ax=>?_) (fun ax=>.d<|.s<|.cf<|.x 2 rfl<|.ib 1<|.g<|.it ((k:Int)+1)<|.r 1<|.d<|ai (aa,a_out1,c_out1,k+1) _ _ AA (Z.to 1 [0] 6) ⟨AB,‹_›,(by have q1:=FY (by assumption:((Bd ab id).drop k1).foldl DJ aa=_) AB; have q2:=Cp (by assumption:(s.parts.drop k).foldl (Bf id) out=_) ‹_›; rw [← q1] at q2; exact q2)⟩ (by first | omega | (simp only []; omega)))
  refine .d<|.s<|.ct<|.sk<|.s<|.b 3<|.s<|.g<|gx (Bd ab id) k1 fun ao ag=>?_
  have bd:=drop_at ag; have aB:=AV ag
  refine RG.Ix 1 ag Z<|Z.el 1 ag fun Z=>RG.Lg 0 0 Z<|RG.Np Z fun bz w Z=>RG.Ss 0 Z fun w Z=>.d<|.g<|.r 1<|RG.Ln 0 Z<|RG.CL (Hg aa ao (Z.a 1) (by first | (have q1:=Blk.len (by assumption:Blk aa); omega) | (have q1:=Blk.len (by assumption:Blk out); omega))) Z fun aG aH w Z=>?_
  have bg:=Z.mf 0 (Bv ao aa)
  exact .r 1<|.d<|.ib 3<|.g<|.it ((k1:Int)+1)<|.r 1<|.d<|aj (Bv ao aa,aG,aH,k1+1) _ _ AA (Z.to 1 [0] 3) ⟨AB,(by exact Blk.ins ‹_› (((p0 ab ‹_›).1.ofI id).rows _ ‹_›)),(by rw [← EV ‹_›]; exact Cp ‹_› ‹_›)⟩ (by first | omega | (simp only []; omega))
 refine .d<|.s<|.cf<|.x 0 rfl<|.s<|.s<|.g<|.r 1<|RG.Lb 0 Z<|.r 2<|.d<|.b 4<|T.Lp ((out:List Row),a_out,c_out,(0:Nat)) (fun (out,a_out,c_out,k)=>([(1,vI id),(5,.slice a_out out.length c_out),(34,.slice a4 s.mem.length c4),(35,vI (s.mem.length:Int)),(36,vI (k:Int))],[],[⟨0,none,.rep a_out c_out out⟩],s.mem.length - k,(k≤s.mem.length)∧(Blk out)∧((s.mem.drop k).foldl (Bp id) out=rowsOf s id))) [0] Z ⟨AB,‹_›,(by have q1:out=s.parts.foldl (Bf id) []:=FY (by assumption:(s.parts.drop k).foldl (Bf id) out=_) AB; rw [q1]; rfl)⟩ ?_
 rintro ⟨out,a_out,c_out,k⟩ bA w Z ⟨bh,bi,bj⟩ ae
 refine .s<|.g<|.bp ((k:Int)< (s.mem.length:Int)) (fun ay=>?_) (fun ay=>.d<|.s<|.cf<|.x 4 rfl<|.s<|.g<|.r 2<|.d<|T.Rt func143 results143 ⟨Z.rL 0 out (by exact FY ‹_› AB),Z.xt⟩)
 refine .d<|.s<|.ct<|.sk<|.s<|.b 5<|.s<|.g<|gx s.mem k fun am ah=>?_
 have bk:=drop_at ah; have aC:=AV ah
 refine RG.Ix 3 ah Z<|Z.el 3 ah fun Z=>RG.Lg 0 0 Z<|RG.Np Z fun bB w Z=>RG.Ss 0 Z fun w Z=>.d<|.s<|.g<|.r 1<|RG.Lb 0 Z<|.r 1<|.eq am.id id (fun az=>?_) (fun az=>.d<|.cf<|.sk<|.ib 5<|.g<|.it ((k:Int)+1)<|.r 1<|.d<|ae (out,a_out,c_out,k+1) _ _ AA (Z.to 1 [1] 2) ⟨AB,(by first | assumption | exact Blk.ins ‹_› (p1 _ ‹_›)),(by have q1:=Cp (by assumption:(s.mem.drop k).foldl (Bp id) out=_) ‹_›; first | (rw [GH ‹_› ‹_›] at q1; exact q1) | (rw [Hf ‹_›] at q1; exact q1))⟩ (by first | omega | (simp only []; omega)))
 refine .d<|.ct<|.g<|.r 2<|RG.Ln 0 Z<|RG.CL (Hg out am.row (Z.a 1) (by first | (have q1:=Blk.len (by assumption:Blk aa); omega) | (have q1:=Blk.len (by assumption:Blk out); omega))) Z fun aI aJ w Z=>?_
 have bm:=Z.mf 0 (Bv am.row out)
 exact .r 1<|.d<|.ib 5<|.g<|.it ((k:Int)+1)<|.r 1<|.d<|ae (Bv am.row out,aI,aJ,k+1) _ _ AA (Z.to 1 [0] 3) ⟨AB,(by first | assumption | exact Blk.ins ‹_› (p1 _ ‹_›)),(by have q1:=Cp (by assumption:(s.mem.drop k).foldl (Bp id) out=_) ‹_›; first | (rw [GH ‹_› ‹_›] at q1; exact q1) | (rw [Hf ‹_›] at q1; exact q1))⟩ (by first | omega | (simp only []; omega))
end Go.Proofs.YtfninflnngpchaaGreat
namespace Go.Proofs.YtfninflnngpchaaGreat
def DL (n:List Tag):Nat→List (List Tag)→Int
 | _,[]=>-1
 | i,x::xs=>if x==n then (i:Int) else DL n (i+1) xs
def Av (t:Tag):Nat→List Pst→Int
 | _,[]=>-1
 | i,x::xs=>if x.tag==t then (i:Int) else Av t (i+1) xs
theorem Oz (n:List Tag):∀ (xs:List (List Tag)) (i:Nat),-1≤DL n i xs∧DL n i xs+1≤(i:Int)+xs.length:=by
 intro xs
 induction xs with
 | nil=>intro i; simp [DL]
 | cons x xs ih =>
   intro i
   have:=ih (i+1)
   unfold DL
   simp only [List.length_cons]
   split <;> omega
def CY (x y:Str):Int:=if Au x y then -1 else if Au y x then 1 else 0
def orF:List Int→Int
 | []=>0
 | x::xs=>if x≠0 then x else orF xs
def IV (a b:Pst):Int:=orF [CY a.tag.key b.tag.key,CY a.tag.val b.tag.val]
theorem NW (x y:Str):EC x y = !Au y x:=by
 have key:∀ (x y:Str),(Op.bytesLess x y || x==y) = !Op.bytesLess y x:=by
  intro x
  induction x with
  | nil=>intro y; cases y <;> simp [Op.bytesLess]
  | cons a x ih =>
    intro y
    cases y with
    | nil=>simp [Op.bytesLess]
    | cons b y =>
      show ((decide (a< b) || a==b&&Op.bytesLess x y) || (a::x)==(b::y)) = !(decide (b< a) || b==a&&Op.bytesLess y x)
      rcases Nat.lt_trichotomy a.toNat b.toNat with h | h | h
      ·have h1:a< b:=UInt8.lt_iff_toNat_lt.2 h
       have h2:¬ b< a:=fun h2=>by have:=UInt8.lt_iff_toNat_lt.1 h2; omega
       have h3:¬ b=a:=fun e=>by rw [e] at h; omega
       simp [h1,h2,h3]
      ·have h1:a=b:=UInt8.toNat_inj.1 h
       subst h1
       have h2:¬ a< a:=fun h2=>by have:=UInt8.lt_iff_toNat_lt.1 h2; omega
       have:=ih y
       simp only [h2,decide_false,beq_self_eq_true,Bool.true_and,Bool.false_or,List.cons_beq_cons]
       exact this
      ·have h1:b< a:=UInt8.lt_iff_toNat_lt.2 h
       have h2:¬ a< b:=fun h2=>by have:=UInt8.lt_iff_toNat_lt.1 h2; omega
       have h3:¬ a=b:=fun e=>by rw [e] at h; omega
       simp [h1,h2,h3]
 exact key x y
theorem O0 {names:List (List Tag)}(h:(names.map text).Nodup):∀ (k:Nat) (x:List Tag),names[k]? = some x→DL x 0 names=k:=by
 have key:∀ (ns:List (List Tag)) (i k:Nat) (x:List Tag),(ns.map text).Nodup→ns[k]? = some x→DL x i ns=i+k:=by
  intro ns
  induction ns with
  | nil=>intro i k x _ h; simp at h
  | cons y ys ih =>
    intro i k x hn hx
    rw [List.map_cons,List.nodup_cons] at hn
    unfold DL
    cases k with
    | zero =>
      simp at hx
      subst hx
      simp
    | succ k =>
      rw [List.getElem?_cons_succ] at hx
      have hne:¬ (y==x)=true:=fun e=>hn.1 (by rw [eq_of_beq e]; exact List.mem_map_of_mem (AV hx))
      rw [if_neg hne,ih (i+1) k x hn.2 hx]
      omega
 intro k x hx
 have:=key names 0 k x h hx
 omega
theorem O1 {names:List (List Tag)}{k:Nat}{x:List Tag}(h:NmI names) (hx:names[k]? = some x) (h2:Aj x=false∨DL x 0 names+1≠(k:Int)+1):False:=by
 rcases h2 with h2 | h2
 ·rw [h.ok x (AV hx)] at h2; cases h2
 ·rw [O0 h.nodup k x hx] at h2; omega
theorem Lu {a b:Pst}(h:(a.tag==b.tag)=true):(a.ids==b.ids)=(a==b):=by
 rw [Bool.eq_iff_iff,beq_iff_eq,beq_iff_eq,NB]
 exact ⟨fun h1=>⟨eq_of_beq h,h1⟩,fun h1=>h1.2⟩
theorem Lv {a b:Pst}(h:(a.tag==b.tag)=false):false=(a==b):=by
 symm
 rw [beq_eq_false_iff_ne]
 rintro rfl
 simp at h
end Go.Proofs.YtfninflnngpchaaGreat
namespace Go.Proofs.YtfninflnngpchaaGreat
set_option maxRecDepth 100000
set_option maxHeartbeats 4000000
variable {w:World} {F:Nat→Prop} {a1 a2:Option Addr} {n1 c1 n2 c2:Nat}
theorem Fa (x:List Tag) (n:List Tag) (h1:RepS w F a1 n1 c1 x){bq_n:Nat}{a2:Option Addr}{c2:Nat}(hb_n:Box w bq_n 71 [.slice a2 n.length c2]) (h2:RepS w F a2 n.length c2 n)  : Calls Tryz.prog 225 [.slice a1 n1 c1,.pointer (some ⟨bq_n,0,none⟩)].toArray w (Ad fun rv w'=>rv=.bool ((x==n))∧Ext w w'):=by
 cases h1.len
 refine goT func225 ?_
 have Z:=(((St.i0 F w).p h1).p h2).pb' hb_n
 have aa:=h1.max
 have ab:=h2.max
 exact .s<|.g<|.r 1<|.d<|.s<|.g<|.r 1<|RG.Lh 0 0 Z<|RG.C0 (Bc x n (Z.a 2) (Z.a 1)) Z fun w Z=>.r 1<|.d<|T.rt func225 results225 (.bool (x==n)) ⟨(AG (by simp_all)),Z.xt⟩
theorem Fb (s:List (List Tag)) (n:List Tag) (h1:RepS w F a1 n1 c1 s){bq_n:Nat}{a2:Option Addr}{c2:Nat}(hb_n:Box w bq_n 71 [.slice a2 n.length c2]) (h2:RepS w F a2 n.length c2 n)  : Calls Tryz.prog 224 [.slice a1 n1 c1,.func (.func 225) #[] #[.pointer (some ⟨bq_n,0,none⟩)]].toArray w (Ad fun rv w'=>rv=.int .i64 (DL n 0 s)∧Ext w w'):=by
 refine goT func224 ?_
 obtain ⟨rfl,ax,h1⟩:=h1.tp
 replace h2:=h2.top (s:=w.heap.size)
 have ay:=h2.max
 refine .s<|.g<|.r 1<|.d<|.s<|.s<|.g<|.r 3<|.d<|.b 0<|T.loop (X:=Nat) 0 (fun k=>[(0,.slice a1 s.length c1),(1,.func (.func 225) #[] #[.pointer (some ⟨bq_n,0,none⟩)]),(7,vI (s.length:Int)),(8,vI (k:Int))]) (fun k ac=>Chg (ins []) w ac∧(k≤s.length)∧(DL n k (s.drop k)=DL n 0 s)) (fun k=>s.length - k) AA ⟨AA,AA,AA,AA,trivial⟩ ⟨Chg.refl _ _,AD,AD⟩ ?_
 rintro k aE ac ⟨aa,az,aA⟩ ae
 have ag:Mv [] [] w ac:=Mv.inl aa all_nil all_nil
 replace ⟨h1,h2,hb_n⟩:=(sp ag aa).g3 h1 h2 hb_n
 have ab:Chg nil w ac:=Chg.LW (Chg.refl nil w) aa all_nil
 refine .s<|.g<|.bp ((k:Int)< (s.length:Int)) (fun ak=>?_) (fun ak=>.d<|.s<|.cf<|.x 0 rfl<|.s<|.g<|.r 1<|.d<|.rt func224 results224 (vI (-1)) ⟨(congrArg (Value.int .i64) (by grind [DL,AY])),ab⟩)
 refine .d<|.s<|.ct<|.sk<|.s<|.b 1<|.s<|.g<|.r 2<|.d<|.s<|.g<|.r 3 ?_
 have am:k< s.length:=AB
 refine .ix k 1 h1 am ?_
 obtain ⟨ai,af⟩:∃ y,s[k]? = some y:=⟨_,AU AB⟩
 have aB:=drop_at af; have ar:=AV af
 obtain ⟨_,⟨aF,aG,aH,rfl,aj⟩,ao⟩:=h1.elem k ai af
 have aq:=aj.len
 subst aq
 have aC:=aj.max
 refine .lh 0 ao<|.cl (Fa ai n aj.ta hb_n h2.ta (w:=ac) (F:=all)) ?_
 rintro aI aJ ⟨rfl,ah⟩
 replace ⟨hb_n,ab,aa⟩:=(se [] ah).g3 hb_n ab aa
 cases aD:(ai==n)
 ·exact .d<|.cf<|.sk<|.ib 1<|.g<|.it ((k:Int)+1)<|.r 1<|.d<|ae (k+1) _ _ ⟨AA,AA,AA,AA,trivial⟩ ⟨aa,AB,(by grind [DL])⟩ (by first | omega | (simp only []; omega))
 exact .d<|.ct<|.s<|.g<|.r 2<|.d<|.rt func224 results224 (vI (k:Int)) ⟨(congrArg (Value.int .i64) (by grind [DL,AY])),ab⟩
theorem Gv (names:List (List Tag)) (n:List Tag) (h1:RepS w F a1 n1 c1 names) (h2:RepS w F a2 n2 c2 n)  : Calls Tryz.prog 209 [.slice a1 n1 c1,.slice a2 n2 c2].toArray w (Ad fun rv w'=>rv=.int .i64 ((DL n 0 names+1))∧Ext w w'):=by
 cases h1.len
 cases h2.len
 refine goT func209 ?_
 have Z:=((St.i0 F w).p h1).p h2
 have aa:=h1.max
 have ab:=h2.max
 exact .s<|.g<|RG.Np Z fun ac w Z=>.r 1<|.d<|.s<|.g<|.r 2<|RG.C0 (Fb names n (Z.a 1) (Z.bc 0) (Z.a 0)) Z fun w Z=>RG.int (DL n 0 names+1) AA (by have:=Oz n names 0; omega)<|.r 1<|.d<|T.rt func209 results209 (vI (DL n 0 names+1)) ⟨(congrArg (Value.int .i64) AF),Z.xt⟩
theorem GJ (p:Pst) (t:Tag) (h1:RepS w F a1 n1 c1 p.ids){bq_t:Nat}(hb_t:Box w bq_t 128 [.string (bs t.key),.string (bs t.val)])  : Calls Tryz.prog 177 [.agg #[.string (bs p.tag.key),.string (bs p.tag.val),.slice a1 n1 c1],.pointer (some ⟨bq_t,0,none⟩)].toArray w (Ad fun rv w'=>rv=.bool ((p.tag==t))∧Ext w w'):=by
 cases h1.len
 refine goT func177 ?_
 have Z:=((St.i0 F w).p h1).pb' hb_t
 have aa:=h1.max
 exact .s<|.g<|RG.Np Z fun ab w Z=>.r 1<|.d<|.s<|.g<|.r 1<|RG.Ln 0 Z<|RG.Lg 0 0 Z<|RG.La (t:=128) (x:=p.tag) (y:=t) AA AA<|.r 1<|.d<|T.rt func177 results177 (.bool (p.tag==t)) ⟨(AG (by simp_all)),Z.xt⟩
theorem DQ (s:List Pst) (t:Tag) (h1:RepS w F a1 n1 c1 s){bq_t:Nat}(hb_t:Box w bq_t 128 [.string (bs t.key),.string (bs t.val)])  : Calls Tryz.prog 176 [.slice a1 n1 c1,.func (.func 177) #[] #[.pointer (some ⟨bq_t,0,none⟩)]].toArray w (Ad fun rv w'=>rv=.int .i64 (Av t 0 s)∧Ext w w'):=by
 refine goT func176 ?_
 obtain ⟨rfl,ax,h1⟩:=h1.tp
 refine .s<|.g<|.r 1<|.d<|.s<|.s<|.g<|.r 3<|.d<|.b 0<|T.loop (X:=Nat) 0 (fun k=>[(0,.slice a1 s.length c1),(1,.func (.func 177) #[] #[.pointer (some ⟨bq_t,0,none⟩)]),(7,vI (s.length:Int)),(8,vI (k:Int))]) (fun k ac=>Chg (ins []) w ac∧(k≤s.length)∧(Av t k (s.drop k)=Av t 0 s)) (fun k=>s.length - k) AA ⟨AA,AA,AA,AA,trivial⟩ ⟨Chg.refl _ _,AD,AD⟩ ?_
 rintro k aD ac ⟨aa,ay,az⟩ ae
 have ag:Mv [] [] w ac:=Mv.inl aa all_nil all_nil
 replace ⟨h1,hb_t⟩:=(sp ag aa).g2 h1 hb_t
 have ab:Chg nil w ac:=Chg.LW (Chg.refl nil w) aa all_nil
 refine .s<|.g<|.bp ((k:Int)< (s.length:Int)) (fun ak=>?_) (fun ak=>.d<|.s<|.cf<|.x 0 rfl<|.s<|.g<|.r 1<|.d<|.rt func176 results176 (vI (-1)) ⟨(congrArg (Value.int .i64) (by grind [Av,AY])),ab⟩)
 refine .d<|.s<|.ct<|.sk<|.s<|.b 1<|.s<|.g<|.r 2<|.d<|.s<|.g<|.r 3 ?_
 have am:k< s.length:=AB
 refine .ix k 3 h1 am ?_
 obtain ⟨ai,af⟩:∃ y,s[k]? = some y:=⟨_,AU AB⟩
 have aA:=drop_at af; have ar:=AV af
 obtain ⟨_,⟨aE,aF,aG,rfl,aj⟩,ao⟩:=h1.elem k ai af
 have aq:=aj.len
 subst aq
 have aB:=aj.max
 refine .lg 0 ao<|.cl (GJ ai t aj.ta hb_t (w:=ac) (F:=all)) ?_
 rintro aH aI ⟨rfl,ah⟩
 replace ⟨hb_t,ab,aa⟩:=(se [] ah).g3 hb_t ab aa
 cases aC:(ai.tag==t)
 ·exact .d<|.cf<|.sk<|.ib 1<|.g<|.it ((k:Int)+1)<|.r 1<|.d<|ae (k+1) _ _ ⟨AA,AA,AA,AA,trivial⟩ ⟨aa,AB,(by grind [Av])⟩ (by first | omega | (simp only []; omega))
 exact .d<|.ct<|.s<|.g<|.r 2<|.d<|.rt func176 results176 (vI (k:Int)) ⟨(congrArg (Value.int .i64) (by grind [Av,AY])),ab⟩
theorem GK (a:Pst) (b_:Pst) (h1:RepS w F a1 n1 c1 a.ids) (h2:RepS w F a2 n2 c2 b_.ids)  : Calls Tryz.prog 195 [.agg #[.string (bs a.tag.key),.string (bs a.tag.val),.slice a1 n1 c1],.agg #[.string (bs b_.tag.key),.string (bs b_.tag.val),.slice a2 n2 c2]].toArray w (Ad fun rv w'=>rv=.bool ((a==b_))∧Ext w w'):=by
 cases h1.len
 cases h2.len
 refine goT func195 ?_
 have Z:=((St.i0 F w).p h1).p h2
 have aa:=h1.max
 have ab:=h2.max
 refine .s<|.g<|RG.Np Z fun ae w Z=>RG.Np Z fun af w Z=>.r 1<|.d<|.s<|.g<|.r 1<|RG.Ln 1 Z<|.r 1<|RG.Ln 0 Z<|RG.La (t:=128) (x:=a.tag) (y:=b_.tag) AA AA ?_
 cases ac:(a.tag==b_.tag)
 ·exact .r 8<|.d<|T.rt func195 results195 (.bool false) ⟨(AG (by first | exact Lu ‹_› | exact Lv ‹_›)),Z.xt⟩
 exact .r 2<|RG.Lb 1 Z<|.r 1<|RG.Lb 0 Z<|RG.C0 (CQ a.ids b_.ids (Z.a 1) (Z.a 0)) Z fun w Z=>.r 2<|.d<|T.rt func195 results195 (.bool (a.ids==b_.ids)) ⟨(AG (by first | exact Lu ‹_› | exact Lv ‹_›)),Z.xt⟩
theorem Fc (s1:List Pst) (s2:List Pst) (h1:RepS w F a1 n1 c1 s1) (h2:RepS w F a2 n2 c2 s2)  : Calls Tryz.prog 194 [.slice a1 n1 c1,.slice a2 n2 c2,.func (.func 195) #[] #[]].toArray w (Ad fun rv w'=>rv=.bool ((s1==s2))∧Ext w w'):=by
 cases h1.len
 cases h2.len
 refine goT func194 ?_
 have Z:=((St.i0 F w).p h1).p h2
 have ak:=h1.max
 have am:=h2.max
 refine .s<|.g<|.r 1<|.d<|.s<|.s<|.g<|.r 4<|.ne (s1.length:Int) (s2.length:Int) (fun ae=>.d<|.ct<|.s<|.g<|.r 1<|.d<|T.rt func194 results194 (.bool false) ⟨(AG (by grind [AY])),Z.xt⟩) fun ae=>.d<|.cf<|.sk<|.s<|.s<|.g<|.r 3<|.d<|.b 0<|T.Lp (0:Nat) (fun k=>([(1,.slice a2 s2.length c2),(2,.func (.func 195) #[] #[]),(15,.slice a1 s1.length c1),(16,vI (s1.length:Int)),(17,vI (k:Int))],[],[],s1.length - k,(k≤s1.length)∧(s1.drop k=s2.drop k↔s1=s2))) [] Z ⟨AD,AD⟩ ?_
 rintro k az w Z ⟨ao,aq⟩ ac
 refine .s<|.g<|.bp ((k:Int)< (s1.length:Int)) (fun af=>?_) (fun af=>.d<|.s<|.cf<|.x 0 rfl<|.s<|.g<|.r 1<|.d<|T.rt func194 results194 (.bool true) ⟨(AG (by grind [AY])),Z.xt⟩)
 refine .d<|.s<|.ct<|.sk<|.s<|.b 1<|.s<|.g<|.r 1<|gx s1 k fun ag aa=>?_
 have ar:=drop_at aa; have ai:=AV aa
 refine RG.Ix 1 aa Z<|Z.el 1 aa fun aA aB Z=>RG.Lg 0 0 Z<|RG.Np Z fun aC w Z=>.r 1<|RG.Ss 0 Z fun w Z=>.d<|.s<|.g<|.r 2<|gx s2 k fun ah ab=>?_
 have ax:=drop_at ab; have aj:=AV ab
 refine RG.Ix 2 ab Z<|Z.el 2 ab fun aD aE Z=>RG.Lg 0 0 Z<|RG.Np Z fun aF w Z=>RG.Ss 0 Z fun w Z=>.d<|.s<|.g<|.r 1<|RG.Ln 1 Z<|RG.Ln 0 Z<|RG.C0 (GK ag ah (Z.a 3) (Z.a 1)) Z fun w Z=>?_
 cases ay:(ag==ah)
 ·exact .r 1<|.d<|.ct<|.s<|.g<|.r 1<|.d<|T.rt func194 results194 (.bool false) ⟨(AG (by grind [AY])),Z.xt⟩
 exact .r 1<|.d<|.cf<|.sk<|.ib 1<|.g<|.it ((k:Int)+1)<|.r 1<|.d<|ac (k+1) _ _ AA (Z.to 2 [] 4) ⟨AB,(by grind)⟩ (by first | omega | (simp only []; omega))
end Go.Proofs.YtfninflnngpchaaGreat
namespace Go.Proofs.YtfninflnngpchaaGreat
theorem O2 {α:Type}(xs:List α) (x y:α):(xs++[x]).set xs.length y=xs++[y]:=by simp
theorem O3 {α:Type}(xs:List α) (x:α):(xs++[x])[xs.length]? = some x:=by simp
structure RP where
 key:Str
 val:Str
 a:Option Addr
 n:Nat
 c:Nat
instance:Rep RP where
 sz:=3
 rep _ _ x cs:=cs=[.string (bs x.key),.string (bs x.val),.slice x.a x.n x.c]
 len:=by rintro w F x cs rfl; rfl
 pos:=by decide
 flat:=by rintro w F x cs rfl v hv; simp at hv; rcases hv with rfl | rfl | rfl <;> rfl
 frame:=by rintro w w' F F' x cs rfl _; rfl
theorem En:Flat RP:=fun _ _ _ _ _ _ h=>h
def Gw (tI:TypeId) (w:World) (y:RP) (ri:Nat) (ids:List Int):Prop :=
 (y.a=none∧y.n=0∧y.c=0∧ids=[])∨(y.a=some ⟨ri,0,none⟩∧Own w ri tI all y.n y.c ids)
structure IX (tX tP tI s0 s1:Nat) (G:Nat→Prop) (w:World) (b3 r c:Nat) (an:Option Addr) (nn cn:Nat) (nms:List (List Tag)) (ys:List RP) (xs:List Pst) (rs:List Nat):Prop where
 hs:s0≤s1
 hG:∀ b,G b→b< s1
 nm:RepS w G an nn cn nms
 box:Box w b3 tX [.slice an nn cn,.slice (some ⟨r,0,none⟩) ys.length c]
 own:Own w r tP all ys.length c ys
 nd:(b3::r::rs).Nodup
 new:∀ b∈b3::r::rs,s1≤b
 lt:∀ b∈b3::r::rs,b< w.heap.size
 lx:ys.length=xs.length
 lr:rs.length=xs.length
 el:∀ (i:Nat) (x:Pst) (y:RP) (ri:Nat),xs[i]? = some x→ys[i]? = some y→rs[i]? = some ri→y.key=x.tag.key∧y.val=x.tag.val∧Gw tI w y ri x.ids
section
variable {tX tP tI s0 s1:Nat} {w w' w2 w3:World} {b3 r c:Nat} {an:Option Addr} {nn cn:Nat} {nms:List (List Tag)} {ys:List RP} {xs:List Pst} {rs:List Nat} {S G:Nat→Prop}
theorem Gw.chg {y:RP}{ri:Nat}{ids:List Int}(h:Gw tI w y ri ids) (hx:Chg S w w') (hr:¬ S ri):Gw tI w' y ri ids:=by
 rcases h with h | ⟨h1,h2⟩
 ·exact .inl h
 ·refine .inr ⟨h1,?_⟩
  have:=(h2.flat EM (F':=fun _=>False)).chg hx hr (fun b hb _=>hb.elim)
  exact this.flat EM
theorem K0 {α:Type}[Rep α] {r t n c:Nat}{xs:List α}(hf:Flat α) (h:Own w r t all n c xs) (hx:Chg S w w') (hr:¬ S r):Own w' r t all n c xs :=
 ((h.flat hf (F':=fun _=>False)).chg hx hr (fun b hb _=>hb.elim)).flat hf
theorem IX.chg (h:IX tX tP tI s0 s1 G w b3 r c an nn cn nms ys xs rs) (hx:Chg S w w') (hS:∀ b∈b3::r::rs,¬ S b) (h1:∀ b,b< s1→¬ S b):IX tX tP tI s0 s1 G w' b3 r c an nn cn nms ys xs rs :=
 ⟨h.hs,h.hG,h.nm.chg hx (fun b hb=>h1 b (h.hG b hb)),h.box.chg hx (hS _ AD),K0 En h.own hx (hS _ AD),h.nd,h.new,fun b hb=>Nat.lt_of_lt_of_le (h.lt b hb) hx.size,h.lx,h.lr,
  fun i x y ri h2 h3 h4=>by
   obtain ⟨g1,g2,g3⟩:=h.el i x y ri h2 h3 h4
   exact ⟨g1,g2,g3.chg hx (hS _ (by simp [AV h4]))⟩⟩
theorem IX.ext (h:IX tX tP tI s0 s1 G w b3 r c an nn cn nms ys xs rs) (hx:Ext w w'):IX tX tP tI s0 s1 G w' b3 r c an nn cn nms ys xs rs:=h.chg hx (fun _ _ h=>h) (fun _ _ h=>h)
theorem IX.one {b:Nat}(h:IX tX tP tI s0 s1 G w b3 r c an nn cn nms ys xs rs) (hx:Chg (Go.Proofs.YtfninflnngpchaaGreat.one b) w w') (hb:∀ q∈b3::r::rs,Nb b q) (h1:s1≤b):IX tX tP tI s0 s1 G w' b3 r c an nn cn nms ys xs rs :=
 h.chg hx (fun q hq e=>(hb q hq).ne (by unfold Go.Proofs.YtfninflnngpchaaGreat.one at e; exact e.symm)) (fun q hq e=>by unfold Go.Proofs.YtfninflnngpchaaGreat.one at e; omega)
theorem IX.rep (h:IX tX tP tI s0 s1 G w b3 r c an nn cn nms ys xs rs):RepS w all (some ⟨r,0,none⟩) ys.length c xs:=by
 have h0:=h.own.rep
 refine ⟨h.lx,h0.le,h0.cap,h0.addr,h0.inF,fun i x hi=>?_⟩
 obtain ⟨hl,_⟩:=List.getElem?_eq_some_iff.1 hi
 have hy:ys[i]? = some (ys[i]'(by rw [h.lx]; exact hl)):=AU _
 have hr:rs[i]? = some (rs[i]'(by rw [h.lr]; exact hl)):=AU _
 obtain ⟨cs,g1,g2⟩:=h0.elem i _ hy
 obtain ⟨e1,e2,e3⟩:=h.el i x _ _ hi hy hr
 cases g1
 refine ⟨_,?_,g2⟩
 rw [e1,e2]
 rcases e3 with ⟨a1,a2,a3,a4⟩ | ⟨a1,a2⟩
 ·rw [a1,a2,a3]
  refine ⟨none,0,0,rfl,?_⟩
  rw [a4]
  exact RepS.DI _ _ none 0 AE
 ·rw [a1]
  exact ⟨_,_,_,rfl,a2.rep⟩
theorem IX.done (h:IX tX tP tI s0 s1 G w b3 r c an nn cn nms ys xs rs):Own w r tP (nin (ge s1) [b3,r]) ys.length c xs:=by
 refine ⟨h.lx,h.own.le,h.own.cap,h.own.row,fun i x hi=>?_⟩
 obtain ⟨hl,_⟩:=List.getElem?_eq_some_iff.1 hi
 have hy:ys[i]? = some (ys[i]'(by rw [h.lx]; exact hl)):=AU _
 have hr:rs[i]? = some (rs[i]'(by rw [h.lr]; exact hl)):=AU _
 obtain ⟨cs,g1,g2⟩:=h.own.elem i _ hy
 obtain ⟨e1,e2,e3⟩:=h.el i x _ _ hi hy hr
 cases g1
 refine ⟨_,?_,g2⟩
 rw [e1,e2]
 have hm:=AV hr
 have hnd:=h.nd
 simp only [List.nodup_cons,List.mem_cons,not_or] at hnd
 have hge:=h.new (rs[i]'(by rw [h.lr]; exact hl)) (by simp [hm])
 rcases e3 with ⟨a1,a2,a3,a4⟩ | ⟨a1,a2⟩
 ·rw [a1,a2,a3]
  refine ⟨none,0,0,rfl,?_⟩
  rw [a4]
  exact RepS.DI _ _ none 0 AE
 ·rw [a1]
  refine ⟨_,_,_,rfl,(a2.flat EM (F':=fun _=>False)).L8 (fun _ _ hf=>hf.elim) ⟨⟨?_,?_⟩,?_⟩⟩
  ·show s1≤_
   omega
  ·simp only [List.mem_cons,List.not_mem_nil,or_false,not_or]
   exact ⟨fun e=>hnd.1.2 (e▸hm),fun e=>hnd.2.1 (e▸hm)⟩
  ·exact fun e=>hnd.2.1 (e▸hm)
theorem IX.names (h:IX tX tP tI s0 s1 G w b3 r c an nn cn nms ys xs rs):RepS w (nin G [b3,r]) an nn cn nms:=h.nm.CN fun b _ hb=>⟨hb,by
 simp only [List.mem_cons,List.not_mem_nil,or_false,not_or]
 have h1:=h.new b3 AD
 have h2:=h.new r AD
 have h3:=h.hG b hb
 exact ⟨by omega,by omega⟩⟩
def GN (s0 s1 b2 b:Nat):Prop:=s0≤b∧b< s1∧b≠b2
theorem GN.lt {s0 s1 b2:Nat}:∀ b,GN s0 s1 b2 b→b< s1:=fun _ h=>h.2.1
theorem RepS.Qv {α:Type}[Rep α] {w:World}{s0 b2 n c:Nat}{o:Option Addr}{xs:List α}(h:RepS w (nin (ge s0) [b2]) o n c xs):RepS w (GN s0 w.heap.size b2) o n c xs:=h.CN fun b hb hF=>⟨hF.1,hb,fun e=>hF.2 (by simp [e])⟩
theorem RepS.low {α:Type}[Rep α] {w w':World}{F:Nat→Prop}{s1 b n c:Nat}{o:Option Addr}{xs:List α}(h:RepS w (ltG F s1) o n c xs) (hx:Chg (Go.Proofs.YtfninflnngpchaaGreat.one b) w w') (hb:s1≤b):RepS w' (ltG F s1) o n c xs :=
 h.chg hx (fun k hk e=>by unfold Go.Proofs.YtfninflnngpchaaGreat.one at e; have:=hk.2; omega)
variable {w:World} {F:Nat→Prop}
theorem RepS.Pg {α:Type}[Rep α] {n c:Nat}{o:Option Addr}{xs:List α}(h:RepS w F o n c xs):RepS w (ltG all w.heap.size) o n c xs:=h.CN fun _ hb _=>⟨trivial,hb⟩
theorem IX.Qw {tX tP tI s0 s1:Nat}{w:World}{b3 r:Nat}{an:Option Addr}{nn cn:Nat}{nms:List (List Tag)}{G:Nat→Prop}{F:Nat→Prop}(hs:s0≤s1) (hG:∀ b,G b→b< s1) (hn:RepS w G an nn cn nms) (hb:Box w b3 tX [.slice an nn cn,.slice (some ⟨r,0,none⟩) 0 0])
 (ho:Own w r tP F 0 0 ([]:List Pst)) (hne:Nb b3 r) (h3:s1≤b3) (hr:s1≤r):IX tX tP tI s0 s1 G w b3 r 0 an nn cn nms [] [] [] :=
 ⟨hs,hG,hn,hb,⟨rfl,Nat.le_refl _,by decide,ho.row,fun i x hi=>by simp at hi⟩,by simp; exact hne.ne,fun b hb'=>by simp at hb'; rcases hb' with rfl | rfl <;> assumption,
  fun b hb'=>by simp at hb'; rcases hb' with rfl | rfl; exact hb.lt; exact ho.lt,rfl,rfl,fun i x y ri hi=>by simp at hi⟩
theorem Cov.ge {w:World}{b:Nat}(h:Cov nil w b):w.heap.size≤b:=h.or.resolve_left (fun h=>h)
section
variable {tX tP tI s0 s1:Nat} {w w':World} {b3 b2 r c:Nat} {an:Option Addr} {nn cn:Nat} {nms:List (List Tag)} {ys:List RP} {xs:List Pst} {rs:List Nat} {G:Nat→Prop}
theorem IX.Ph (h:IX tX tP tI s0 s1 G w b3 r c an nn cn nms ys xs rs) (hb:b2< s1):Own w r tP (nin (ge s0) [b3,r,b2]) ys.length c xs:=h.done.CN fun b _ hF=>⟨Nat.le_trans h.hs hF.1,by
 have h1:s1≤b:=hF.1
 have h2:=hF.2
 simp only [List.mem_cons,List.not_mem_nil,or_false,not_or] at h2 ⊢
 exact ⟨h2.1,h2.2,by omega⟩⟩
theorem IX.NX (h:IX tX tP tI s0 s1 (GN s0 s1 b2) w b3 r c an nn cn nms ys xs rs):RepS w (nin (ge s0) [b3,r,b2]) an nn cn nms:=h.names.CN fun b _ hF=>⟨hF.1.1,by
 have h2:=hF.2
 simp only [List.mem_cons,List.not_mem_nil,or_false,not_or] at h2 ⊢
 exact ⟨h2.1,h2.2,hF.1.2.2⟩⟩
theorem IX.ne (h:IX tX tP tI s0 s1 G w b3 r c an nn cn nms ys xs rs):Nb b3 r:=by
 have:=h.nd
 simp only [List.nodup_cons,List.mem_cons,not_or] at this
 exact ⟨this.1.1⟩
theorem IX.ne3 {i ri:Nat}(h:IX tX tP tI s0 s1 G w b3 r c an nn cn nms ys xs rs) (hr:rs[i]? = some ri):Nb b3 ri:=by
 have:=h.nd
 simp only [List.nodup_cons,List.mem_cons,not_or] at this
 exact ⟨fun e=>this.1.2 (e▸AV hr)⟩
theorem IX.ner {i ri:Nat}(h:IX tX tP tI s0 s1 G w b3 r c an nn cn nms ys xs rs) (hr:rs[i]? = some ri):Nb r ri:=by
 have:=h.nd
 simp only [List.nodup_cons,List.mem_cons,not_or] at this
 exact ⟨fun e=>this.2.1 (e▸AV hr)⟩
theorem IX.mi {i ri:Nat}(hr:rs[i]? = some ri):ri∈b3::r::rs:=by simp [AV hr]
theorem RepS.via {α:Type}[Rep α] {wc wa wb:World}{n c':Nat}{o:Option Addr}{zs:List α}(h:RepS wa (ltG all wc.heap.size) o n c' zs) (ha:Ext wc wa) (hb:Ext wc wb):RepS wb (ltG all wc.heap.size) o n c' zs :=
 h.frame fun b _ hF=>⟨hF,by rw [hb.block hF.2,ha.block hF.2]⟩
theorem NY {xs:List Pst}{t:Tag}{m:Nat}{x:Pst}{z:Int}(hx:(xs++[⟨t,[]⟩])[m]? = some x) (hm:m=xs.length):(xs++[(⟨t,[]⟩:Pst)]).set m ⟨x.tag,x.ids++[z]⟩=xs++[⟨t,[z]⟩]:=by
 subst hm
 rw [O3] at hx
 cases hx
 rw [O2]
 rfl
theorem Gw.n {y:RP}{ri:Nat}{ids:List Int}(h:Gw tI w y ri ids):y.n=ids.length:=by
 rcases h with ⟨_,h2,_,h4⟩ | ⟨_,h2⟩
 ·rw [h2,h4]; rfl
 ·exact h2.len
end
def C3 (k:Int) (xs:List Pst) (t:Tag):List Pst :=
 if Av t 0 xs< 0 then xs++[⟨t,[k]⟩] else match xs[(Av t 0 xs).toNat]? with
  | some x=>xs.set (Av t 0 xs).toNat ⟨x.tag,x.ids++[k]⟩
  | none=>xs
def EX:Nat→List Pst→List (List Tag)→List Pst
 | _,xs,[]=>xs
 | i,xs,n::ns=>EX (i+1) (n.foldl (C3 ((i:Int)+1)) xs) ns
theorem GL (t:Tag):∀ (xs:List Pst) (i:Nat),(Av t i xs = -1∧∀ x∈xs,x.tag≠t)∨((i:Int)≤Av t i xs∧Av t i xs< (i:Int)+xs.length∧∃ x,xs[(Av t i xs).toNat - i]? = some x∧x.tag=t):=by
 intro xs
 induction xs with
 | nil=>intro i; left; simp [Av]
 | cons x xs ih =>
   intro i
   unfold Av
   by_cases hx:(x.tag==t)=true
   ·right
    rw [if_pos hx]
    exact ⟨by omega,by simp only [List.length_cons]; omega,x,by simp,eq_of_beq hx⟩
   ·rw [if_neg hx]
    rcases ih (i+1) with ⟨h1,h2⟩ | ⟨h1,h2,y,h3,h4⟩
    ·left
     refine ⟨h1,fun z hz=>?_⟩
     rcases List.mem_cons.1 hz with rfl | hz
     ·exact fun e=>hx (by simp [e])
     ·exact h2 z hz
    ·right
     refine ⟨by omega,by simp only [List.length_cons]; omega,y,?_,h4⟩
     rw [show (Av t (i+1) xs).toNat - i=((Av t (i+1) xs).toNat - (i+1))+1 by omega,List.getElem?_cons_succ]
     exact h3
theorem Lw {t:Tag}{xs:List Pst}(h:¬ Av t 0 xs< 0):(Av t 0 xs).toNat< xs.length:=by
 rcases GL t xs 0 with ⟨h1,_⟩ | ⟨_,h2,_⟩
 ·omega
 ·omega
theorem Fe {k:Int}{xs:List Pst}{t:Tag}(h:Av t 0 xs< 0):C3 k xs t=xs++[⟨t,[k]⟩]:=by unfold C3; rw [if_pos h]
theorem Ff {k:Int}{xs:List Pst}{t:Tag}{x:Pst}(h:¬ Av t 0 xs< 0) (hx:xs[(Av t 0 xs).toNat]? = some x):C3 k xs t=xs.set (Av t 0 xs).toNat ⟨x.tag,x.ids++[k]⟩:=by unfold C3; rw [if_neg h,hx]
theorem Fg (k:Int) (xs:List Pst) (t:Tag) (m:Nat) (h1:xs.length≤m) (h2:∀ x∈xs,x.ids.length≤m):(C3 k xs t).length≤m+1∧∀ x∈C3 k xs t,x.ids.length≤m+1:=by
 unfold C3
 split
 ·refine ⟨by simp; omega,fun x hx=>?_⟩
  rcases List.mem_append.1 hx with hx | hx
  ·have:=h2 x hx; omega
  ·simp at hx; subst hx; simp
 ·split
  ·rename_i x hx
   refine ⟨by simp; omega,fun z hz=>?_⟩
   rcases List.mem_or_eq_of_mem_set hz with hz | rfl
   ·have:=h2 z hz; omega
   ·have:=h2 x (AV hx); simp; omega
  ·exact ⟨by omega,fun x hx=>by have:=h2 x hx; omega⟩
theorem Lx {i:Nat}{xs ys:List Pst}{ns:List (List Tag)}{n:List Tag}{Y:List Pst}(h:EX i xs (ns.drop i)=Y) (hd:ns.drop i=n::ns.drop (i+1)) (hy:ys=n.foldl (C3 ((i:Int)+1)) xs):EX (i+1) ys (ns.drop (i+1))=Y:=by
 rw [hd] at h
 subst hy
 exact h
theorem NZ {i:Nat}{xs:List Pst}{ns:List (List Tag)}{Y:List Pst}(h:EX i xs (ns.drop i)=Y) (hi:ns.length≤i):xs=Y:=by
 rw [AY hi] at h
 exact h
theorem IX.push {r2 c2 vb:Nat}{t:Tag}(h:IX tX tP tI s0 s1 G w b3 r c an nn cn nms ys xs rs) (hs1:s1≤w.heap.size) (hx:Chg (Go.Proofs.YtfninflnngpchaaGreat.one r) w w2) (ho:Own w2 r2 tP all (ys.length+1) c2 (ys++[⟨t.key,t.val,none,0,0⟩]))
 (hor:r2=r∨r2=w.heap.size) (hv:∀ q∈b3::r::rs,Nb vb q) (hv1:s1≤vb) (hv2:vb< w.heap.size) (hx3:Chg (Go.Proofs.YtfninflnngpchaaGreat.one b3) w2 w3)
 (hb:Box w3 b3 tX [.slice an nn cn,.slice (some ⟨r2,0,none⟩) (ys.length+1) c2]) :
 IX tX tP tI s0 s1 G w3 b3 r2 c2 an nn cn nms (ys++[⟨t.key,t.val,none,0,0⟩]) (xs++[⟨t,[]⟩]) (rs++[vb]):=by
 have hnd:=h.nd
 simp only [List.nodup_cons,List.mem_cons,not_or] at hnd
 obtain ⟨⟨n1,n2⟩,n3,n4⟩:=hnd
 have hb3:=h.lt b3 AD
 have hrr:=h.lt r AD
 have hrs:∀ q∈rs,q< w.heap.size∧q≠b3∧q≠r∧q≠vb:=fun q hq=>⟨h.lt q (by simp [hq]),fun e=>n2 (e▸hq),fun e=>n3 (e▸hq),fun e=>(hv q (by simp [hq])).ne e.symm⟩
 have hvb3:=(hv b3 AD).ne
 have hvr:=(hv r AD).ne
 have e3:b3≠r2:=by rcases hor with rfl | rfl <;> omega
 have e4:∀ q∈rs,q≠r2:=fun q hq=>by have:=hrs q hq; rcases hor with rfl | rfl <;> omega
 have e5:vb≠r2:=by rcases hor with rfl | rfl; exact hvr; omega
 have hnew3:=h.new b3 AD
 have hnewr:=h.new r AD
 have z2:=hx.size
 have z3:=hx3.size
 refine ⟨h.hs,h.hG,(h.nm.chg hx (fun b hb e=>by unfold Go.Proofs.YtfninflnngpchaaGreat.one at e; have:=h.hG b hb; omega)).chg hx3 (fun b hb e=>by unfold Go.Proofs.YtfninflnngpchaaGreat.one at e; have:=h.hG b hb; omega),
  by simpa using hb,by simpa using K0 En ho hx3 (fun e=>e3 e.symm),?_,?_,?_,by simp [h.lx],by simp [h.lr],?_⟩
 ·simp only [List.nodup_cons,List.mem_cons,List.mem_append,List.not_mem_nil,or_false,not_or,List.nodup_append,List.nodup_nil]
  exact ⟨⟨e3,n2,fun e=>hvb3 e.symm⟩,⟨fun hm=>e4 _ hm rfl,fun e=>e5 e.symm⟩,n4,by simp,fun a ha b hb=>by subst hb; exact (hrs a ha).2.2.2⟩
 ·intro b hb
  simp only [List.mem_cons,List.mem_append,List.not_mem_nil,or_false] at hb
  rcases hb with rfl | rfl | hb | rfl
  ·exact hnew3
  ·rcases hor with rfl | rfl
   ·exact hnewr
   ·exact hs1
  ·exact h.new b (by simp [hb])
  ·exact hv1
 ·intro b hb
  simp only [List.mem_cons,List.mem_append,List.not_mem_nil,or_false] at hb
  rcases hb with rfl | rfl | hb | rfl
  ·omega
  ·have:=ho.lt; omega
  ·have:=(hrs b hb).1; omega
  ·omega
 ·intro i x y ri g1 g2 g3
  rw [List.getElem?_append] at g1 g2 g3
  have l1:=h.lx
  have l2:=h.lr
  by_cases hi:i< xs.length
  ·rw [if_pos hi] at g1
   rw [if_pos AB] at g2
   rw [if_pos AB] at g3
   obtain ⟨a1,a2,a3⟩:=h.el i x y ri g1 g2 g3
   have hq:=hrs ri (AV g3)
   exact ⟨a1,a2,(a3.chg hx (fun e=>hq.2.2.1 e)).chg hx3 (fun e=>hq.2.1 e)⟩
  ·rw [if_neg hi] at g1
   rw [if_neg AB] at g2
   rw [if_neg AB] at g3
   have h0:i - xs.length=0:=by
    rcases hk:i - xs.length with _ | k
    ·rfl
    ·rw [hk] at g1; simp at g1
   rw [h0] at g1
   rw [show i - ys.length=0 by omega] at g2
   simp at g1 g2
   subst g1 g2
   exact ⟨rfl,rfl,.inl ⟨rfl,rfl,rfl,rfl⟩⟩
theorem Gw.app {P:Program}{T ty:TypeId}{y:RP}{ri vb:Nat}{ids:List Int}{z:Int}(h:Gw tI w y ri ids) (hT:Dx P T tI 1=true) (hB:Box w vb tI [.int .i64 z]) (hv:vb≠ri) (hl:y.n≤5000000) :
 ∃ r2 c2 w', (Builtin.append_ #[T, T] ty #[.slice y.a y.n y.c, .slice (some ⟨vb, 0, none⟩) 1 1]).run P w = .ok (.slice (some ⟨r2, 0, none⟩) (y.n + 1) c2) w' ∧
   Own w' r2 tI all (y.n+1) c2 (ids++[z])∧(r2=ri∨r2=w.heap.size)∧Chg (Go.Proofs.YtfninflnngpchaaGreat.one ri) w w':=by
 rcases h with ⟨a1,a2,a3,a4⟩ | ⟨a1,a2⟩
 ·obtain ⟨g1,inf,z0,hinf,hsz,hby,hz,hzs⟩:=Dg hT
  rw [a1,a2,a3,a4]
  have hBx:=hB
  unfold Box at hBx
  have hnews:∀ j v,[Value.int .i64 z][j]? = some v→w.cell? ((⟨vb,0,none⟩:Addr).add j)=some v:=fun j v hj=>by
   rw [add_lit]
   simp only [World.cell?,hBx]
   simpa using hj
  have hr:=run_append_nil (P:=P) (w:=w) T ty tI inf z0 g1 hinf hz ⟨vb,0,none⟩ 1 1 [.int .i64 z] (by rw [hsz]; rfl) hnews AB AB AB
  generalize hg:grownCap w 1 0 tI=gc at hr
  have hge:1≤gc:=by rw [← hg]; exact grownCap_ge _ _ _ _
  have hgm:gc≤maxLen:=by rw [← hg]; exact grownCap_le_maxLen _ _ _ _ (by unfold maxLen; omega)
  generalize hob:(([Value.int .i64 z]:List Value).toArray++Builtin.zeroCells z0.cells (gc - 1))=ob at hr
  have hnew:(w.drew.alloc (.cells ob tI)).heap[w.heap.size]? = some (.cells ob tI (0,0)):=heap_alloc_new w.drew _
  have hoth:∀ k,k< w.heap.size→(w.drew.alloc (.cells ob tI)).heap[k]? = w.heap[k]? := fun k hk=>heap_alloc_old w.drew _ k hk
  refine ⟨w.heap.size,gc,w.drew.alloc (.cells ob tI),by simpa using hr,⟨rfl,hge,hgm,⟨ob,hnew,?_⟩,fun i x hi=>⟨_,rfl,?_⟩⟩,.inr rfl,⟨rfl,rfl,rfl,by simp,fun k hk _=>hoth k hk⟩⟩
  ·rw [← hob]
   simp only [Array.size_append,List.size_toArray,List.length_cons,List.length_nil,size_zeroCells,hzs]
   show _=gc * 1
   omega
  ·cases i with
   | succ i=>simp at hi
   | zero =>
     simp at hi
     subst hi
     intro k u hu
     cases k with
     | succ k=>simp at hu
     | zero =>
       simp at hu
       subst hu
       rw [add_lit]
       simp only [World.cell?,hnew]
       rw [← hob]
       rw [Array.getElem?_append_left AD]
       rfl
 ·rw [a1]
  obtain ⟨r2,c2,w',h1,h2,h3,h4,_⟩:=a2.Eh (P:=P) (T:=T) (ty:=ty) (y:=z) hT hB rfl ⟨trivial,hv⟩ AB
  exact ⟨r2,c2,w',h1,h2,h3,h4⟩
theorem IX.upd {i r2 c2 ri:Nat}{x:Pst}{y y':RP}{z:Int}(h:IX tX tP tI s0 s1 G w b3 r c an nn cn nms ys xs rs) (hs1:s1≤w.heap.size) (hxi:xs[i]? = some x) (hyi:ys[i]? = some y) (hri:rs[i]? = some ri)
 (hx:Chg (Go.Proofs.YtfninflnngpchaaGreat.one ri) w w2) (ho2:Own w2 r2 tI all (y.n+1) c2 (x.ids++[z])) (hor:r2=ri∨r2=w.heap.size) (hx3:Chg (Go.Proofs.YtfninflnngpchaaGreat.one r) w2 w3)
 (hy':y'=⟨y.key,y.val,some ⟨r2,0,none⟩,y.n+1,c2⟩) (ho:Own w3 r tP all ys.length c (ys.set i y')) :
 IX tX tP tI s0 s1 G w3 b3 r c an nn cn nms (ys.set i y') (xs.set i ⟨x.tag,x.ids++[z]⟩) (rs.set i r2):=by
 have hnd:=h.nd
 simp only [List.nodup_cons,List.mem_cons,not_or] at hnd
 obtain ⟨⟨n1,n2⟩,n3,n4⟩:=hnd
 have hrm:=AV hri
 have hri2:ri≠b3∧ri≠r:=⟨fun e=>n2 (e▸hrm),fun e=>n3 (e▸hrm)⟩
 have hb3:=h.lt b3 AD
 have hrr:=h.lt r AD
 have hril:=h.lt ri (by simp [hrm])
 have e3:r2≠b3∧r2≠r:=by rcases hor with rfl | rfl; exact hri2; omega
 have z2:=hx.size
 have z3:=hx3.size
 have n3i:=h.new ri (by simp [hrm])
 have nr:=h.new r AD
 obtain ⟨hil,hie⟩:=List.getElem?_eq_some_iff.1 hri
 have hset:∀ q,q∈rs.set i r2→q=r2∨(q∈rs∧q≠ri):=by
  intro q hq
  obtain ⟨k,hk,hkq⟩:=List.mem_iff_getElem.1 hq
  rw [List.getElem_set] at hkq
  split at hkq
  ·exact .inl hkq.symm
  ·rename_i hne
   right
   have hk2:k< rs.length:=by simpa using hk
   refine ⟨hkq▸List.getElem_mem _,fun e=>hne ?_⟩
   have:=(List.getElem_inj (h₀:=hil) (h₁:=hk2) n4).1 (by rw [hie,hkq,e])
   exact this
 refine ⟨h.hs,h.hG,(h.nm.chg hx (fun b hb e=>by unfold Go.Proofs.YtfninflnngpchaaGreat.one at e; have:=h.hG b hb; omega)).chg hx3 (fun b hb e=>by unfold Go.Proofs.YtfninflnngpchaaGreat.one at e; have:=h.hG b hb; omega),
  by rw [List.length_set]; exact (h.box.chg hx (fun e=>hri2.1 e.symm)).chg hx3 (fun e=>n1 e),by rw [List.length_set]; exact ho,?_,?_,?_,by simp [h.lx],by simp [h.lr],?_⟩
 ·simp only [List.nodup_cons,List.mem_cons,not_or]
  refine ⟨⟨n1,fun hm=>?_⟩,fun hm=>?_,?_⟩
  ·rcases hset b3 hm with e | ⟨e,_⟩
   ·exact e3.1 e.symm
   ·exact n2 e
  ·rcases hset r hm with e | ⟨e,_⟩
   ·exact e3.2 e.symm
   ·exact n3 e
  ·rcases hor with rfl | hor
   ·rw [← hie,List.set_getElem_self]; exact n4
   ·rw [List.nodup_iff_pairwise_ne,List.pairwise_iff_getElem]
    intro p q hp hq hpq
    rw [List.getElem_set,List.getElem_set]
    have hp2:p< rs.length:=by simpa using hp
    have hq2:q< rs.length:=by simpa using hq
    have hnew:∀ k (hk:k< rs.length),rs[k]≠r2:=fun k hk e=>by have:=h.lt rs[k] AD; omega
    split
    ·split
     ·omega
     ·exact fun e=>hnew q hq2 e.symm
    ·split
     ·exact hnew p hp2
     ·intro e
      have:=(List.getElem_inj (h₀:=hp2) (h₁:=hq2) n4).1 e
      omega
 ·intro b hb
  simp only [List.mem_cons] at hb
  rcases hb with rfl | rfl | hb
  ·exact h.new _ AD
  ·exact nr
  ·rcases hset b hb with rfl | ⟨hb,_⟩
   ·rcases hor with rfl | rfl
    ·exact n3i
    ·exact hs1
   ·exact h.new b (by simp [hb])
 ·intro b hb
  simp only [List.mem_cons] at hb
  rcases hb with rfl | rfl | hb
  ·omega
  ·omega
  ·rcases hset b hb with rfl | ⟨hb,_⟩
   ·have:=ho2.lt; omega
   ·have:=h.lt b (by simp [hb]); omega
 ·intro j x1 y1 r1 g1 g2 g3
  rw [List.getElem?_set] at g1 g2 g3
  have l1:=h.lx
  have l2:=h.lr
  by_cases hj:i=j
  ·subst hj
   rw [if_pos rfl,if_pos AB] at g1 g2 g3
   cases g1; cases g2; cases g3
   obtain ⟨a1,a2,_⟩:=h.el i x y ri hxi hyi hri
   subst hy'
   exact ⟨a1,a2,.inr ⟨rfl,K0 EM ho2 hx3 (fun e=>e3.2 e)⟩⟩
  ·rw [if_neg hj] at g1 g2 g3
   obtain ⟨a1,a2,a3⟩:=h.el j x1 y1 r1 g1 g2 g3
   have hne:r1≠ri:=fun e=>hj (by
    obtain ⟨hj1,hj2⟩:=List.getElem?_eq_some_iff.1 g3
    exact (List.getElem_inj (h₀:=hil) (h₁:=hj1) n4).1 (by rw [hie,hj2,e]))
   have hm1:=AV g3
   exact ⟨a1,a2,(a3.chg hx (fun e=>hne e)).chg hx3 (fun e=>n3 (e▸hm1))⟩
end
end Go.Proofs.YtfninflnngpchaaGreat
