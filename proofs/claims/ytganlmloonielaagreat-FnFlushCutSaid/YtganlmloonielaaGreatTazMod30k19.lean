/- What asking computes, as plain functions, and its laws. -/
import Derived.Test.YtganlmloonielaaGreatTazMod8k19
import Derived.Test.YtganlmloonielaaGreatTazMod43k23
import Derived.Test.YtganlmloonielaaGreatTazMod58k21
set_option linter.unusedVariables false
set_option linter.unusedSimpArgs false
namespace Go.Proofs.YtganlmloonielaaGreat
def Fo (n:List Tag):Str:=if BS n then text n else []
theorem H8 {n:List Tag} (h:BS n=true):Fo n=text n:=by unfold Fo; rw [if_pos h]
end Go.Proofs.YtganlmloonielaaGreat
namespace Go.Proofs.YtganlmloonielaaGreat
theorem RR {P:Program} {T ty t:TypeId} {sz:Nat} {w:World} {r i c m c':Nat} {a2:Option Addr} {cs vs:List Value} (hT:Hf P T t sz=true) (hB:Box w r t cs) (hsrc:0< m→∃ x,a2=some x∧Has w x vs) (hvs:vs.length=m * sz) (hroom:i+m≤c) (hfit:i * sz+vs.length≤cs.length) (hone:∀ v∈vs,EH v=true) :
 ∃ w',(Builtin.append_ #[T,T] ty #[.slice (some ⟨r,0,none⟩) i c,.slice a2 m c']).run P w=.ok (.slice (some ⟨r,0,none⟩) (i+m) c) w'∧Box w' r t (BM cs (i * sz) vs)∧Chg (one r) w w':=by
 obtain ⟨g1,inf,z,hinf,hsz,_,_,_⟩:=Es hT
 by_cases hm:m=0
 ·subst hm
  have:vs=[]:=List.length_eq_zero_iff.1 AB
  subst this
  refine ⟨w,F5 g1 hinf _ _ _ _ _ AB w,?_,Chg.refl _ _⟩
  unfold BM
  simpa using hB
 ·obtain ⟨x,rfl,hx⟩:=hsrc AB
  unfold Box at hB
  have hr:=run_append_room (P:=P) w T ty t inf g1 hinf r i c cs.toArray hB x m c' vs (by rw [hsz]; exact hvs) hx (fun u hu=>MO (hone u hu)) hroom (by rw [hsz]; simpa using hfit)
  rw [hsz] at hr
  have hset:(w.setRow r (BM cs (i * sz) vs).toArray).heap[r]? = some (.cells (BM cs (i * sz) vs).toArray t (0,0)):=setRow_heap w r cs.toArray _ t _ hB
  refine ⟨_,hr,hset,⟨rfl,rfl,rfl,by simp [World.setRow],fun k _ hn=>setRow_other w r k _ hn⟩⟩
theorem RS {P:Program} {T ty t:TypeId} {sz:Nat} {w:World} {r o c:Nat} {cs:List Value} (hT:TJ P T t sz=true) (hB:Box w r t cs) (hfit:o+sz≤cs.length) :
 ∃ vs w',(Builtin.clear_ #[T] ty #[.slice (some ⟨r,o,none⟩) 1 c]).run P w=.ok (.tuple #[]) w'∧vs.length=sz∧Box w' r t (BM cs o vs)∧Chg (one r) w w':=by
 unfold TJ at hT
 simp only [AR] at hT
 obtain ⟨h1,h2⟩:=hT
 split at h1
 ·rename_i e he
  have:=Nat.eq_of_beq_eq_true h1
  subst this
  split at h2
  ·rename_i inf hinf
   split at h2
   ·rename_i z hz
    simp only [AR,List.all_eq_true] at h2
    have hsz:=Nat.eq_of_beq_eq_true h2.1
    have hl:(Builtin.zeroCells z.cells 1).toList.length=sz:=by rw [Array.length_toList,size_zeroCells,hsz]; omega
    have ho:∀ v∈(Builtin.zeroCells z.cells 1).toList,EH v=true:=fun v hv=>by
     unfold Builtin.zeroCells at hv
     simp only [Array.toList_map,List.mem_map,Array.toList_range,List.mem_range] at hv
     obtain ⟨k,hk,rfl⟩:=hv
     have hk2:k % z.cells.size< z.cells.size:=Nat.mod_lt _ AB
     refine h2.2 _ ?_
     rw [getElem!_pos z.cells _ hk2]
     exact Array.getElem_mem_toList hk2
    obtain ⟨w',g1,g2,g3,_⟩:=hB.Li (P:=P) (Builtin.zeroCells z.cells 1).toList (o:=o) (i:=0) AB ho
    refine ⟨_,w',?_,hl,g2,g3⟩
    have hv:(zeroValue e).run P w=.ok z w:=by simp [zeroValue,typeInfo,hinf,hz,go_sem]
    unfold Builtin.clear_
    simp only [List.getElem?_toArray,List.getElem?_cons_zero]
    rw [AW (run_underlying he w)]
    simp only []
    rw [AW hv,AW g1]
    rfl
   ·cases h2
  ·cases h2
 ·cases h1
section
variable {P:Program} {n:Nat} {K:Env→World→Prop} {ops:Array Oper} {j:Nat} {e:Env} {w:World}
def Vj (n:Nat) (ops:Array Oper) (j:Nat) (e:Env):Option (TypeId × Value × Value × Value × Value) :=
 bif Ca n ops j e then
  match (An ops j).op with
  | .slice t x (some lo) (some hi) (some mx)=>some (t,ev e x,ev e lo,ev e hi,ev e mx)
  | _=>none
 else none
theorem RG.WH {t:TypeId} {sz:Nat} {a:Option Addr} {len cap:Nat} {k k2 k3:IntKind} {i1 i2 i3:Int} (l h' m:Nat) (h:Vj n ops j e=some (t,.slice a len cap,.int k i1,.int k2 i2,.int k3 i3)) (ht:Ki P t sz=true) (e1:i1=(l:Int)) (e2:i2=(h':Int)) (e3:i3=(m:Int)) (hlh:l≤h') (hh:h'≤m) (hm:m≤cap)
 (H:∀ v,RG P n K ops (j+1) (BL e (An ops j).dst v) w):RG P n K ops j e w:=by
 obtain ⟨hg,h⟩:=CW h
 unfold Ki at ht
 split at ht
 ·rename_i el hu
  split at ht
  ·rename_i inf hinf
   have hun:(underlying t).run P w=.ok (.slice el) w:=by simp [underlying,hu,go_sem]
   refine RG.val (v:=.slice (if m=l then a else a.map (·.add (l * inf.size))) (h' - l) (m - l)) hg ?_ (H _)
   split at h
   ·rename_i t' x lo hi mx hop
    simp only [Option.some.injEq,Prod.mk.injEq] at h
    obtain ⟨rfl,hx,hlo,hhi,hmx⟩:=h
    simp only [execOp,hop]
    refine AW ?_
    simp only [Option.map_some,hx,hlo,hhi,hmx]
    unfold Instr.sliceAt
    rw [AW hun]
    simp only []
    unfold Instr.slice
    rw [AW hun]
    simp only []
    have hb:(Instr.sliceBounds true len cap (some (.int k i1)) (some (.int k2 i2)) (some (.int k3 i3))).run P w=.ok (l,h',m) w:=by
     unfold Instr.sliceBounds
     simp only []
     rw [AW (EK e3 hm w),AW (EK e2 hh w),AW (EK e1 hlh w)]
     rfl
    rw [AW hb]
    simp only []
    rw [AW (show (sizeOf el).run P w=.ok inf.size w by simp [sizeOf,typeInfo,hinf,go_sem])]
    rfl
   ·cases h
  ·cases ht
 ·cases ht
end
theorem GA.WJ {P:Program} {S:Nat→Prop} {n m:Nat} {L:Env→World→Prop} {ops:Array Oper} {l:List Nat} {e:Env} {w:World} {i:Nat} {t:TypeId} {sz r len cap:Nat} {lo hi:Option Value} (l' h':Nat) (hb:gB n m ops l i=true) (h:Hh n ops i e=some (t,.slice (some ⟨r,0,none⟩) len cap,lo,hi)) (ht:Ki P t sz=true) (hlo:bnd lo 0 l') (hhi:bnd hi len h') (hlh:l'≤h') (hh:h'≤cap)
 (H:∀ a2 c2,(0< h' - l'→a2=some ⟨r,l' * sz,none⟩)→GA P S n m L ops (i::l) (BL e (An ops i).dst (.slice a2 (h' - l') c2)) w):GA P S n m L ops l e w:=by
 refine GA.JS hb (fun w=>?_) (H (if cap=l' then some ⟨r,0,none⟩ else some ⟨r,l' * sz,none⟩) (cap - l') (fun hp=>by rw [if_neg AB]))
 have h1:=Dk h (Gn ht hlo hhi hlh hh w)
 simp only [Option.map_some,add_lit,Nat.zero_add] at h1
 exact h1
theorem Own.Ud {α:Type} [Rep α] {w w':World} {r:Nat} {t:TypeId} {F:Nat→Prop} {n c i:Nat} {xs:List α} {cs cs':List Value} (h:Own w r t F n c xs) (hx:Chg (one r) w w') (hB:Box w r t cs) (hB':Box w' r t cs') (hl:cs'.length=c * Rep.sz α) (hi:i< n)
 (hp:∀ p,p< (n - 1) * Rep.sz α→cs'[p]? = if p< i * Rep.sz α then cs[p]? else cs[p+Rep.sz α]?):Own w' r t F (n - 1) c (xs.take i++xs.drop (i+1)):=by
 have hn:=h.len
 have hle:=h.le
 have hcap:=h.cap
 unfold Box at hB hB'
 refine ⟨by rw [List.length_append,List.length_take,List.length_drop]; omega,by omega,hcap,⟨cs'.toArray,hB',by simpa using hl⟩,fun k x hk=>?_⟩
 have hfr:∀ b,b< w.heap.size→F b∧b≠r→(F b∧b≠r)∧w'.heap[b]? = w.heap[b]? := fun b hb hF=>⟨hF,hx.block b hb (fun e=>hF.2 e)⟩
 have hk2:k< (xs.take i++xs.drop (i+1)).length:=(List.getElem?_eq_some_iff.1 hk).1
 rw [List.length_append,List.length_take,List.length_drop] at hk2
 by_cases hki:k< i
 ·rw [List.getElem?_append_left (by rw [List.length_take]; omega),List.getElem?_take,if_pos hki] at hk
  obtain ⟨c1,g1,g2⟩:=h.elem k x hk
  refine ⟨c1,Rep.frame g1 hfr,fun u v hv=>?_⟩
  have h3:=g2 u v hv
  have hu:u< Rep.sz α:=by have:=(List.getElem?_eq_some_iff.1 hv).1; rw [Rep.len g1] at this; exact this
  have hm:k * Rep.sz α+Rep.sz α≤i * Rep.sz α:=by rw [← Nat.succ_mul]; exact Nat.mul_le_mul_right _ hki
  have hm2:i * Rep.sz α≤(n - 1) * Rep.sz α:=Nat.mul_le_mul_right _ AB
  rw [add_lit] at h3 ⊢
  simp only [World.cell?,hB] at h3
  simp only [World.cell?,hB']
  have:=hp (k * Rep.sz α+u) AB
  rw [if_pos AB] at this
  simpa [this] using h3
 ·rw [List.getElem?_append_right (by rw [List.length_take]; omega),List.length_take,Nat.min_eq_left AB,List.getElem?_drop] at hk
  rw [show i+1+(k - i)=k+1 by omega] at hk
  obtain ⟨c1,g1,g2⟩:=h.elem (k+1) x hk
  refine ⟨c1,Rep.frame g1 hfr,fun u v hv=>?_⟩
  have h3:=g2 u v hv
  have hu:u< Rep.sz α:=by have:=(List.getElem?_eq_some_iff.1 hv).1; rw [Rep.len g1] at this; exact this
  have hm:k * Rep.sz α+Rep.sz α≤(n - 1) * Rep.sz α:=by rw [← Nat.succ_mul]; exact Nat.mul_le_mul_right _ AB
  have hm2:i * Rep.sz α≤k * Rep.sz α:=Nat.mul_le_mul_right _ AB
  rw [add_lit] at h3 ⊢
  simp only [World.cell?,hB] at h3
  simp only [World.cell?,hB']
  have:=hp (k * Rep.sz α+u) AB
  rw [if_neg AB] at this
  rw [Nat.succ_mul,show k * Rep.sz α+Rep.sz α+u=k * Rep.sz α+u+Rep.sz α by omega] at h3
  simpa [this] using h3
theorem Pq {cs v1 v2:List Value} {n c i sz:Nat} (hl:cs.length=c * sz) (hi:i< n) (hn:n≤c) (h1:v1=(cs.drop ((i+1) * sz)).take ((n - (i+1)) * sz)) (h2:v2.length=sz) :
 (BM (BM cs (i * sz) v1) ((n - 1) * sz) v2).length=c * sz∧∀ p,p< (n - 1) * sz→(BM (BM cs (i * sz) v1) ((n - 1) * sz) v2)[p]? = if p< i * sz then cs[p]? else cs[p+sz]? := by
 have m1:(i+1) * sz+(n - (i+1)) * sz=n * sz:=by rw [← Nat.add_mul]; congr 1; omega
 have m2:(n - 1) * sz+sz=n * sz:=by rw [← Nat.succ_mul]; congr 1; omega
 have m3:n * sz≤c * sz:=Nat.mul_le_mul_right _ hn
 have m4:(i+1) * sz=i * sz+sz:=Nat.succ_mul _ _
 have l1:v1.length=(n - (i+1)) * sz:=by rw [h1,List.length_take,List.length_drop]; omega
 have l2:(BM cs (i * sz) v1).length=c * sz:=by rw [EV AB]; exact hl
 refine ⟨by rw [EV AB]; exact l2,fun p hp=>?_⟩
 unfold BM
 rw [List.append_assoc,List.getElem?_append_left (by rw [List.length_take]; unfold BM at l2; omega),List.getElem?_take,if_pos hp,List.append_assoc]
 by_cases hpi:p< i * sz
 ·rw [if_pos hpi,List.getElem?_append_left (by rw [List.length_take]; omega),List.getElem?_take,if_pos hpi]
 ·rw [if_neg hpi,List.getElem?_append_right (by rw [List.length_take]; omega),List.length_take,Nat.min_eq_left AB,List.getElem?_append_left AB,h1,List.getElem?_take,if_pos AB,List.getElem?_drop]
  congr 1
  omega
end Go.Proofs.YtganlmloonielaaGreat
namespace Go.Proofs.YtganlmloonielaaGreat
theorem DC.hit {s:Sto} {f:List Cnd} {lo hi:Int} {i k:Nat} {id:Int} (h:DC s f lo hi i k) (hs:SD s) (hk:Ak s=true) (hd:(BW (CD f) 0 s.idx.names).drop i=id::(BW (CD f) 0 s.idx.names).drop (i+1)) (hl:((F1 (HF s id) lo hi).length:Int)≠0) {n:List Tag} (hn:s.idx.names[(id - 1).toNat]? = some n) :
 (DQ s f lo hi)[k]? = some ⟨Fo n,F1 (HF s id) lo hi⟩∧DC s f lo hi (i+1) (k+1):=by
 have hm:id∈BW (CD f) 0 s.idx.names:=List.mem_of_mem_drop (by rw [hd]; simp)
 rw [LM hs hk hm] at hl ⊢
 unfold DC at h ⊢
 rw [hd,List.flatMap_cons] at h
 have e:Ep s lo hi id=[⟨Fo n,Ku (rowsOf s id) lo hi⟩]:=by
  unfold Ep
  rw [if_pos AB,List.getD_eq_getElem?_getD,hn,H8 (hs.nm.ok n (AQ hn))]
  rfl
 rw [e,List.cons_append,List.nil_append] at h
 constructor
 ·have:=congrArg (fun l=>l[0]?) h
  simp only [List.getElem?_cons_zero,List.getElem?_drop,Nat.add_zero] at this
  exact this.symm
 ·have:=congrArg List.tail h
  rw [List.tail_cons,List.tail_drop] at this
  exact this
theorem DC.no1 {s:Sto} {f:List Cnd} {lo hi:Int} {i k:Nat} {id:Int} (h:DC s f lo hi i k) (hs:SD s) (hk:Ak s=true) (hd:(BW (CD f) 0 s.idx.names).drop i=id::(BW (CD f) 0 s.idx.names).drop (i+1)) (hl:((F1 (HF s id) lo hi).length:Int)≠0) (hb:(k:Int)≥((DQ s f lo hi).length:Int)):False:=by
 have hm:id∈BW (CD f) 0 s.idx.names:=List.mem_of_mem_drop (by rw [hd]; simp)
 have h2:=Cj hm
 obtain ⟨n,hn⟩:∃ n,s.idx.names[(id - 1).toNat]? = some n:=⟨_,AP AB⟩
 have h3:=(List.getElem?_eq_some_iff.1 (h.hit hs hk hd hl hn).1).1
 omega
theorem DC.no2 {s:Sto} {f:List Cnd} {lo hi:Int} {i k:Nat} {id:Int} (h:DC s f lo hi i k) (hs:SD s) (hk:Ak s=true) (hd:(BW (CD f) 0 s.idx.names).drop i=id::(BW (CD f) 0 s.idx.names).drop (i+1)) (hl:((F1 (HF s id) lo hi).length:Int)≠0) {n:List Tag} (hn:s.idx.names[(id - 1).toNat]? = some n) {b:Hit} (hb:(DQ s f lo hi)[k]? = some b)
 (hf:(b.name==Fo n)=false∨(b.name != Fo n)=true∨(b.rows==F1 (HF s id) lo hi)=false):False:=by
 have h3:=(h.hit hs hk hd hl hn).1
 rw [hb] at h3
 simp only [Option.some.injEq] at h3
 subst h3
 rcases hf with hf | hf | hf <;> simp at hf
end Go.Proofs.YtganlmloonielaaGreat
namespace Go.Proofs.YtganlmloonielaaGreat
section
variable {α:Type} [Rep α] {w:World} {G F:Nat→Prop} {M ML M2:List Nat} {o:Option Addr} {n c r s b x:Nat} {t:TypeId} {xs:List α}
theorem RepS.P1 (h:RepS w (nin F M) o n c xs):RepS w (nin (fo F s) M) o n c xs:=h.CJ fun _ _ hF=>⟨.inl hF.1,hF.2⟩
theorem RepS.toM (h:RepS w (nin G M) o n c xs) (hs:∀ b∈ML,b∈M):RepS w (nin (nin G M) ML) o n c xs:=h.CJ fun k _ hk=>⟨hk,fun e=>hk.2 (hs k e)⟩
theorem Own.toM (h:Own w r t (nin G M) n c xs) (hs:∀ b∈ML,b∈M):Own w r t (nin (nin G M) ML) n c xs:=h.CJ fun k _ hk=>⟨hk,fun e=>hk.2 (hs k e)⟩
theorem Cov.mkI {L:List Nat} (h:b∈L):Cov (ins L) w b:=⟨.inl h⟩
theorem I8 (h:Cov (ins [b,r]) w x) (hn:Nb x b):OrB x r w.heap.size:=by
 rcases h.or with h | h
 ·have h2:x∈[b,r]:=h
  rcases List.mem_cons.1 h2 with rfl | h2
  ·exact absurd rfl hn.ne
  ·simp at h2
   exact .inl h2
 ·exact .inr h
theorem Rt {k:Nat} (h:nin (fo (nin G M) s) ML k) (hM:∀ b∈M,b< s) (hG:∀ b,s≤b→G b) (h2:∀ b∈M2,b∈ML∨b∈M):nin G M2 k:=by
 refine ⟨?_,fun hm=>?_⟩
 ·rcases h.1 with h1 | h1
  ·exact h1.1
  ·exact hG _ h1
 ·rcases h2 k hm with h3 | h3
  ·exact h.2 h3
  ·rcases h.1 with h1 | h1
   ·exact h1.2 h3
   ·have:=hM k h3; omega
theorem RepS.bxM (h:RepS w (nin (fo (nin G M) s) ML) o n c xs) (hM:∀ b∈M,b< s) (hG:∀ b,s≤b→G b) (h2:∀ b∈M2,b∈ML∨b∈M):RepS w (nin G M2) o n c xs:=h.CJ fun _ _ hk=>Rt hk hM hG h2
theorem Own.bxM (h:Own w r t (nin (fo (nin G M) s) ML) n c xs) (hM:∀ b∈M,b< s) (hG:∀ b,s≤b→G b) (h2:∀ b∈M2,b∈ML∨b∈M):Own w r t (nin G M2) n c xs:=h.CJ fun _ _ hk=>Rt hk hM hG h2
end
theorem Own.WM {w:World} {r:Nat} {t:TypeId} {F:Nat→Prop} {n c i:Nat} {xs:List Fil} {cs:List Value} (h:Own w r t F n c xs) (hB:Box w r t cs):∀ v,i+(n - i)≤n→v∈(cs.drop (i * 3)).take ((n - i) * 3)→Go.Proofs.YtganlmloonielaaGreat.EH v=true:=by
 intro v hin hv
 obtain ⟨k,hk⟩:=List.mem_iff_getElem?.1 hv
 rw [List.getElem?_take] at hk
 split at hk
 ·rename_i hlt
  rw [List.getElem?_drop] at hk
  have hn:=h.len
  have hj:i+k / 3< xs.length:=by omega
  obtain ⟨c1,g1,g2⟩:=h.elem (i+k / 3) xs[i+k / 3] (AP hj)
  have hl:c1.length=3:=Rep.len g1
  have hk2:k % 3< c1.length:=by omega
  have h3:=g2 (k % 3) c1[k % 3] (AP hk2)
  have hz:Rep.sz Fil=3:=rfl
  unfold Box at hB
  rw [add_lit,hz] at h3
  simp only [World.cell?,hB] at h3
  have e:(i+k / 3) * 3+k % 3=i * 3+k:=by omega
  rw [e] at h3
  have h4:cs[i * 3+k]? = some c1[k % 3]:=by simpa using h3
  rw [hk] at h4
  cases h4
  exact Rep.flat g1 _ (List.getElem_mem hk2)
 ·cases hk
end Go.Proofs.YtganlmloonielaaGreat
namespace Go.Proofs.YtganlmloonielaaGreat
theorem TW {l:List Stp} {i:Nat} {d:Dsk} {q:Stp} {Y:Dsk} (h:(l.drop i).foldl doD d=Y) (hd:l.drop i=q::l.drop (i+1)):(l.drop (i+1)).foldl doD (doD d q)=Y:=by
 rw [hd] at h
 exact h
theorem OC {l:List Stp} {i:Nat} {d:Dsk} {Y:Dsk} (h:(l.drop i).foldl doD d=Y) (hi:l.length≤i):d=Y:=by
 rw [AY hi] at h
 exact h
theorem U1 {d:Dsk} {st:List Stp} {c:Int} (hc:¬ c< 0):((st.take (if (st.length:Int)< c then (st.length:Int) else c).toNat).drop 0).foldl doD d=toD d st c:=by
 unfold toD
 rw [List.drop_zero]
 split
 ·rw [show ((st.length:Int)).toNat=st.length by omega,List.take_length,List.take_of_length_le AB]
 ·rfl
theorem I9 {l:List Stp} {i:Nat} {x d:Dsk} {st:List Stp} {c:Int} (h:(l.drop i).foldl doD x=toD d st c) (hi:l.length≤i) (hw:StW d st):DD x:=by
 rw [OC h hi]
 exact hw.ok c.toNat
theorem Ry {d:Dsk} (x:Stp):(doD d x).files.length≤d.files.length+1:=by
 unfold doD
 split
 ·simp
 ·split
  ·simp
  ·split
   ·have:=Ke (d:=d) (n:=x.num); simp only; omega
   ·omega
theorem Vs {st:List Stp} {c:Int} {k:Nat} {x:Stp} (h:((st.take (if (st.length:Int)< c then (st.length:Int) else c).toNat).drop 0)[k]? = some x):k< st.length:=by
 have:=(List.getElem?_eq_some_iff.1 h).1
 rw [List.length_drop,List.length_take] at this
 omega
theorem TX {l:List Stp} {i:Nat} {x d:Dsk} {st:List Stp} {c:Int} (h:(l.drop i).foldl doD x=toD d st c) (hi:l.length≤i) (h2:Af x=false):(⟨[],[],[],0⟩:Dsk)=BP d st c:=by
 rw [OC h hi] at h2
 exact LW (.inr (.inr h2))
theorem TY {l:List Stp} {i:Nat} {x d:Dsk} {st:List Stp} {c:Int} (h:(l.drop i).foldl doD x=toD d st c) (hi:l.length≤i) (h0:Af d=true) (h1:¬ c< 0) (h2:Af x=true):x=BP d st c:=by
 rw [OC h hi] at h2 ⊢
 exact (Rz h0 h1 h2).symm
end Go.Proofs.YtganlmloonielaaGreat
namespace Go.Proofs.YtganlmloonielaaGreat
set_option maxRecDepth 100000
set_option maxHeartbeats 4000000
theorem JA {w:World} {F:Nat→Prop} {r n c i:Nat} {xs:List Fil} {a b:Int} (ho:Own w r 66 F n c xs) (ha:a=(i:Int)) (hb:b=(i:Int)+1) (hi:i< n) (hn:n≤1000000):Calls Tryz.prog 109 [.slice (some ⟨r,0,none⟩) n c,.int .i64 a,.int .i64 b].toArray w (As fun rv w'=>(rv=.slice (some ⟨r,0,none⟩) (n - 1) c∧Own w' r 66 F (n - 1) c (xs.take i++xs.drop (i+1)))∧Chg (one r) w w'):=by
 subst ha hb
 refine goT Tryz.func109 ?_
 have hle:=ho.le
 obtain ⟨cs,hB,hl⟩:=ho.Vk
 have hz:Rep.sz Fil=3:=rfl
 rw [hz] at hl
 refine .s<|.g<|.r 1<|.d<|.s<|.g<|.r 5<|RG.WH (t:=23) (k:=.i64) (k2:=.i64) (k3:=.i64) (a:=some ⟨r,0,none⟩) (len:=n) (cap:=c) (i1:=(i:Int)) (i2:=(i:Int)+1) (i3:=(n:Int)) (sz:=3) i (i+1) n AA AA rfl AB rfl AB AB hle fun v_=>.d<|.s<|.s<|.g<|.r 2<|.eq (i:Int) ((i:Int)+1) (fun h=>absurd (show False by omega) id) fun _=>.d<|.cf<|.sk<|.s<|.g<|.r 3<|.d<|.s<|.gd (one r) 7 fun w1 hx1=>?_
 refine .r [0,1]<|GA.Hy (i:=2) (t:=23) (r:=r) (o:=0) (len:=n) (cap:=c) (lo:=none) (hi:=some (vI (i:Int))) (sz:=3) 0 i AA AA AA (.inl ⟨rfl,rfl⟩) (.inr ⟨_,_,rfl,rfl⟩) AB AB AB<|.r [3,4]<|GA.WJ (i:=5) (t:=23) (r:=r) (len:=n) (cap:=c) (lo:=some (vI ((i:Int)+1))) (hi:=none) (sz:=3) (i+1) n AA AA AA (.inr ⟨_,_,rfl,by omega⟩) (.inl ⟨rfl,rfl⟩) AB AB fun a2 c2 h2=>?_
 refine .go 6<|GE.append (T:=23) (ty:=23) (args:=[.slice (some ⟨r,0,none⟩) i c,.slice a2 (n - (i+1)) c2]) AA fun w2 hx2=>?_
 have hx12:Ext w w2:=hx1.trans hx2
 have m1:(i+1) * 3+(n - (i+1)) * 3=n * 3:=by omega
 have hB2:=hB.ext hx12
 obtain ⟨w3,hr,hB3,hx3⟩:=RR (P:=Tryz.prog) (T:=23) (ty:=23) (t:=66) (sz:=3) (i:=i) (c:=c) (m:=n - (i+1)) (c':=c2) (a2:=a2) (vs:=(cs.drop ((i+1) * 3)).take ((n - (i+1)) * 3)) AA hB2
  (fun hp=>⟨_,h2 hp,fun k u hu=>by
   rw [add_lit]
   unfold Box at hB2
   simp only [World.cell?,hB2]
   rw [List.getElem?_take] at hu
   split at hu
   ·rw [List.getElem?_drop] at hu
    simpa using hu
   ·cases hu⟩) (by rw [List.length_take,List.length_drop]; omega) AB (by rw [List.length_take,List.length_drop]; omega) (fun v hv=>ho.WM (i:=i+1) hB v AB hv)
 refine ⟨_,w3,hr,hx3,.d fun w4 hx4=>.r 1<|.d<|.s<|.g<|.r 4<|?_⟩
 have hB4:=hB3.ext hx4
 have hlen:i+(n - (i+1))=n - 1:=by omega
 rw [hlen]
 refine RG.Hy (t:=23) (r:=r) (o:=0) (len:=n - 1) (cap:=c) (lo:=some (vI ((n - 1:Nat):Int))) (hi:=some (vI (n:Int))) (sz:=3) (n - 1) n AA AA (.inr ⟨_,_,rfl,rfl⟩) (.inr ⟨_,_,rfl,rfl⟩) AB AB AB ?_
 have h1:n - (n - 1)=1:=by omega
 rw [h1]
 have hl4:(BM cs (i * 3) ((cs.drop ((i+1) * 3)).take ((n - (i+1)) * 3))).length=c * 3:=by rw [EV (by rw [List.length_take,List.length_drop]; omega)]; exact hl
 obtain ⟨vs,w5,hr5,hv5,hB5,hx5⟩:=RS (P:=Tryz.prog) (T:=23) (ty:=0) (t:=66) (sz:=3) (o:=0+(n - 1) * 3) (c:=c - (n - 1)) AA hB4 AB
 rw [Nat.zero_add] at hB5
 have hd:=Pq (sz:=3) hl hi hle rfl hv5
 have hx:Chg (one r) w w5:=(((hx12.chg (S:=one r)).trans hx3).trans hx4.chg).trans hx5
 refine RG.clear (ats:=[23]) (ty:=0) (args:=[.slice (some ⟨r,0+(n - 1) * 3,none⟩) 1 (c - (n - 1))]) AA hr5<|.d<|.s<|.g<|.r 2<|.d<|.rt Tryz.func109 Tryz.results109 (.slice (some ⟨r,0,none⟩) (n - 1) c) ⟨⟨rfl,Own.Ud ho hx hB hB5 (by rw [hz]; exact hd.1) hi (by rw [hz]; exact hd.2)⟩,hx⟩
end Go.Proofs.YtganlmloonielaaGreat
namespace Go.Proofs.YtganlmloonielaaGreat
set_option maxRecDepth 100000
set_option maxHeartbeats 4000000
theorem JB (d:Dsk) (s:Stp) {w:World} {F:Nat→Prop} {bx rb0:Nat} {nb0 cb0:Nat} (hob0:Own w rb0 66 (nin F [bx,rb0]) nb0 cb0 d.files) {ab1:Option Addr} {nb1 cb1:Nat} (hrb1:RepS w (nin F [bx,rb0]) ab1 nb1 cb1 d.list) {ab2:Option Addr} {nb2 cb2:Nat} (hrb2:RepS w (nin F [bx,rb0]) ab2 nb2 cb2 d.names) (hbx:Box w bx 27 [.slice (some ⟨rb0,0,none⟩) nb0 cb0,.slice ab1 nb1 cb1,.slice ab2 nb2 cb2,.int .i64 d.next]) (hnb0:Nb rb0 bx) {a1:Option Addr} {n1 c1:Nat} (h1:RepS w (nin F [bx,rb0]) a1 n1 c1 s.part.ids) {a2:Option Addr} {n2 c2:Nat} (h2:RepS w (nin F [bx,rb0]) a2 n2 c2 s.part.blocks) {a3:Option Addr} {n3 c3:Nat} (h3:RepS w (nin F [bx,rb0]) a3 n3 c3 s.list) {a4:Option Addr} {n4 c4:Nat} (h4:RepS w (nin F [bx,rb0]) a4 n4 c4 s.names) (p0:d.files.length≤1000) (p1:JJ s) (p2:Cw s.part):Calls Tryz.prog 61 [.pointer (some ⟨bx,0,none⟩),.agg #[.int .i64 s.kind,.int .i64 s.num,.slice a1 n1 c1,.slice a2 n2 c2,.slice a3 n3 c3,.slice a4 n4 c4]].toArray w (As fun rv w'=>(rv=.tuple #[]∧(∃ (ro0 no0 co0:Nat) (ao1:Option Addr) (no1 co1:Nat) (ao2:Option Addr) (no2 co2:Nat),Box w' bx 27 [.slice (some ⟨ro0,0,none⟩) no0 co0,.slice ao1 no1 co1,.slice ao2 no2 co2,.int .i64 (((doD d s)).next)]∧Own w' ro0 66 (nin (fo F w.heap.size) [bx,ro0]) no0 co0 (((doD d s)).files)∧OrB ro0 rb0 w.heap.size∧Nb ro0 bx∧RepS w' (nin (fo F w.heap.size) [bx,ro0]) ao1 no1 co1 (((doD d s)).list)∧RepS w' (nin (fo F w.heap.size) [bx,ro0]) ao2 no2 co2 (((doD d s)).names)))∧Chg (ins [bx,rb0]) w w'):=by
 refine goT Tryz.func61 ?_
 have hcv_bx:Cov (ins [bx,rb0]) w bx:=Cov.mkI AD
 have hcv_rb0:Cov (ins [bx,rb0]) w rb0:=Cov.mkI AE
 replace hob0:=hob0.base (G':=fo F w.heap.size) (fun _ _ h=>.inl h)
 have cI:=hob0.len; have cJ:=hob0.max
 obtain rfl:=hrb1.len
 replace hrb1:=hrb1.P1 (s:=w.heap.size)
 have cK:=hrb1.max
 obtain rfl:=hrb2.len
 replace hrb2:=hrb2.P1 (s:=w.heap.size)
 have cL:=hrb2.max
 obtain rfl:=h1.len
 replace h1:=h1.P1 (s:=w.heap.size)
 have cM:=h1.max
 obtain rfl:=h2.len
 replace h2:=h2.P1 (s:=w.heap.size)
 have cN:=h2.max
 obtain rfl:=h3.len
 replace h3:=h3.P1 (s:=w.heap.size)
 have cO:=h3.max
 obtain rfl:=h4.len
 replace h4:=h4.P1 (s:=w.heap.size)
 have cP:=h4.max
 refine .s<|.g<|.np 44 [vI s.kind,vI s.num,.slice a1 s.part.ids.length c1,.slice a2 s.part.blocks.length c2,.slice a3 s.list.length c3,.slice a4 s.names.length c4] fun J az ax aB E b6=>?_
 have bj:=AS ax hob0.lt
 have cQ:=AS ax hbx.lt
 replace ⟨hob0,hrb1,hrb2,hbx,h1,h2,h3,h4⟩:=(sn [bx,rb0] aB ax).g8 hob0 hrb1 hrb2 hbx h1 h2 h3 h4
 have C:Chg (ins [bx,rb0]) w az:=Chg.Cc (Chg.refl (ins [bx,rb0]) w) aB
 refine .d<|.s<|.g<|.r 1<|.lb E<|.d<|.b 0<|.s<|.g<|.eq s.kind 1 (fun b7=>?_) (fun b7=>?_)
 ·refine .r 1<|.d<|.ct<|.s ?_
  replace hrb1:=hrb1.Ah
  replace hrb2:=hrb2.Ah
  replace h1:=h1.Ah
  replace h2:=h2.Ah
  replace h3:=h3.Ah
  replace h4:=h4.Ah
  have bt:Cov (mtb [rb0] az.heap.size) az rb0:=⟨.inl (.inl AD)⟩
  have bu:Gb (bx+1) az.heap.size:=hbx.lt
  have aC:Gb (J+1) az.heap.size:=E.lt
  refine .gd (mtb [rb0] az.heap.size) 13 fun cR aD=>?_
  replace ⟨hob0,hrb1,hrb2,hbx,h1,h2,h3,h4,E,C⟩:=(se [J,bx,rb0] aD).g10 hob0 hrb1 hrb2 hbx h1 h2 h3 h4 E C
  refine .r [0,1,2,3]<|.lb 4 hbx (Ax (all_cons (Nb.symm hnb0) all_nil) bu)<|.r [5]<|.lb 6 E (Ax (all_cons bj all_nil) aC)<|.r [7]<|.ln 8 E (Ax (all_cons bj all_nil) aC)<|.go 9<|.cl (fun aE ao=>DP s.part (h1.ta.ext ao) (h2.ta.ext ao) p2 (w:=aE) (F:=all)) ?_
  intro aE ao
  replace ⟨hob0,hrb1,hrb2,hbx,h3,h4,E,C⟩:=(se [J,bx,rb0] ao).g8 hob0 hrb1 hrb2 hbx h3 h4 E C
  rintro cS cT ⟨⟨_,rfl,⟨b8,cU,b9,cd,cV,ce,rfl,ab,ac⟩⟩,ar⟩
  have au:=al3 E.lt hbx.lt hob0.lt
  have aF:Gb w.heap.size aE.heap.size:=C.size
  have hkeep_:=ar
  replace ⟨hob0,hrb1,hrb2,hbx,h3,h4,E,C⟩:=(se [J,bx,rb0] ar).g8 hob0 hrb1 hrb2 hbx h3 h4 E C
  refine ⟨Ext.chg hkeep_,?_⟩
  have ab:=ab.fr au aF
  replace ab:=ab.base (G':=fo F w.heap.size) (fun _ _ h=>.inr h)
  have cm:=ab.max
  have ac:=ac.fr au aF
  replace ac:=ac.base (G':=fo F w.heap.size) (fun _ _ h=>.inr h)
  have co:=ac.max
  have bv:=ab.len
  subst bv
  have bw:=ac.len
  subst bw
  refine .r [10]<|.go 11<|.ns 1 66 [vI s.num,.slice b8 s.part.ids.length b9,.slice cd s.part.blocks.length ce] fun cW aG=>?_
  replace ⟨hob0,hrb1,hrb2,hbx,h3,h4,E,ab,ac,C⟩:=(se [J,bx,rb0] aG).g10 hob0 hrb1 hrb2 hbx h3 h4 E ab ac C
  intro aH cX aj aI av bz
  have aJ:=AS aj hob0.lt
  have bA:=AS aj hbx.lt
  have bB:=AS aj E.lt
  have bC:=Ad aj C.size
  replace ⟨hob0,hrb1,hrb2,hbx,h3,h4,E,ab,ac,C⟩:=(se [J,bx,rb0] aI).g10 hob0 hrb1 hrb2 hbx h3 h4 E ab ac C
  refine .go 12<|GE.append (T:=23) (ty:=23) (args:=[vS rb0 nb0 cb0,vS aH 1 1]) AA fun cY aK=>?_
  replace ⟨hob0,hrb1,hrb2,hbx,h3,h4,E,ab,ac,av,C⟩:=(se [J,bx,rb0] aK).g11 hob0 hrb1 hrb2 hbx h3 h4 E ab ac av C
  have aA:nin (fo F w.heap.size) [J,bx,rb0] aH∧aH≠rb0:=BG (.inr bC) (all_cons bB (all_cons bA (all_cons aJ all_nil))) aJ
  obtain ⟨aq,bk,cZ,aL,W,ai,aw,bD⟩:=hob0.Ap (P:=Tryz.prog) (T:=23) (ty:=23) (y:=(⟨s.num,(⟨s.part.ids,s.part.blocks⟩:Prt)⟩:Fil)) AA av ⟨_,_,_,_,_,_,rfl,ab.oi,ac.oi⟩ aA AB
  refine ⟨_,_,aL,Chg.toS aw (Cov.toS bt),?_⟩
  have aM:=Ae ai hnb0 hbx.lt
  have bE:=Am ai hcv_rb0 C.size
  replace ⟨hrb1,hrb2,hbx,h3,h4,E,C⟩:=(sa [J,bx,rb0] aw ai).g7 hrb1 hrb2 hbx h3 h4 E C
  replace W:=W.rn rb0
  have cp:=W.len; have cq:=W.max
  refine .d fun c7 aN=>?_
  replace ⟨W,hrb1,hrb2,hbx,h3,h4,E,C⟩:=(se [J,bx,aq] aN).g8 W hrb1 hrb2 hbx h3 h4 E C
  replace hrb1:=hrb1.AU
  replace hrb2:=hrb2.AU
  replace h3:=h3.AU
  replace h4:=h4.AU
  refine .r 2<|.ss 0 (vS aq (nb0+1) bk) hbx fun c8 aO bF bG=>?_
  replace ⟨W,hrb1,hrb2,h3,h4,E,C⟩:=(so [J,bx,aq] aO).g7 W hrb1 hrb2 h3 h4 E C
  refine .d<|.g<|.r 2<|.lb E<|RG.int (s.num+1) AA (by have q1:=p1.2.2.2; omega)<|.r 2<|.ss 3 (vI (s.num+1)) bF fun c9 aP bH bI=>?_
  replace ⟨W,hrb1,hrb2,h3,h4,E,C⟩:=(so [J,bx,aq] aP).g7 W hrb1 hrb2 h3 h4 E C
  refine .d<|.ib 0<|T.JG Tryz.func61 Tryz.results61 ?_
  rw [show (doD d s)=(⟨(d.files++[(⟨s.num,(⟨s.part.ids,s.part.blocks⟩:Prt)⟩:Fil)]),d.list,d.names,s.num+1⟩:Dsk) from by (rw [F8 ‹_›]; done)]
  exact ⟨⟨rfl,aq,(nb0+1),bk,ab1,d.list.length,cb1,ab2,d.names.length,cb2,bH,(Own.BI W (all_cons AE (all_cons AF all_nil))),(I8 bE aM),aM,(RepS.BI hrb1 (all_cons AE (all_cons AF all_nil))),(RepS.BI hrb2 (all_cons AE (all_cons AF all_nil)))⟩,C⟩
 refine .r 1<|.d<|.cf<|.s<|.g<|.eq s.kind 2 (fun bJ=>?_) (fun bJ=>?_)
 ·refine .r 1<|.d<|.ct<|.s<|.g<|.r 1<|.ns 0 3 [] fun ay cg af aQ bK bL=>?_
  have bM:=AS af hob0.lt
  have bN:=AS af hbx.lt
  have bO:=AS af E.lt
  have bP:=Ad af C.size
  have cr:=C.cn af
  replace ⟨hob0,hrb1,hrb2,hbx,h3,h4,E,C⟩:=(sn [J,bx,rb0] aQ af).g8 hob0 hrb1 hrb2 hbx h3 h4 E C
  have bQ:Own (α:=Int) cg ay 3 (nin (fo F w.heap.size) [ay,J,bx,rb0]) 0 0 []:=Own.Ag bK
  refine .r 1<|.lb E<|RG.Ay (T:=24) (ty:=24) BF bQ h3 AA AA (fun b h e=>h.2 (e▸AD)) (by (have:=p1.1; omega)) fun ah bm da O ae aR=>?_
  have cu:=Ae ae bM hob0.lt
  have cv:=Ae ae bN hbx.lt
  have cw:=Ae ae bO E.lt
  have bR:=Bt ae bP C.size
  replace ⟨hob0,hrb1,hrb2,hbx,h4,E,C⟩:=(sa [ay,J,bx,rb0] aR ae).g7 hob0 hrb1 hrb2 hbx h4 E C
  replace O:=O.rn ay
  have cx:=O.len; have cy:=O.max
  refine .r 2<|.ss 1 (vS ah (0+s.list.length) bm) hbx fun bn aS ak bS=>?_
  replace ⟨hob0,hrb1,hrb2,h4,E,O,C⟩:=(so [ah,J,bx,rb0] aS).g7 hob0 hrb1 hrb2 h4 E O C
  refine .d<|.g<|.r 2<|.lb E<|.cl (Aj s.names h4.ta (by have:=p1.2.1; omega) (by (intro n hn; have:=p1.2.2.1 n hn; omega)) (w:=bn) (F:=all)) ?_
  rintro db de ⟨⟨am,bo,bq,rfl,aa,ag⟩,aT⟩
  have aU:=al4 O.lt E.lt ak.lt hob0.lt
  have bT:Gb w.heap.size bn.heap.size:=C.size
  have cz:=Ab ag hob0.lt
  have cA:=Ab ag ak.lt
  have cB:=Ab ag E.lt
  have cC:=Ab ag O.lt
  have bU:=Bd ag C.size
  replace ⟨hob0,hrb1,hrb2,ak,E,O,C⟩:=(sz [ah,J,bx,rb0] aT ag).g7 hob0 hrb1 hrb2 ak E O C
  replace aa:=Own.take (s0:=w.heap.size) (M:=[ah,J,bx,rb0]) aa aU bT
  replace aa:=aa.base (G':=fo F w.heap.size) (fun _ _ h=>.inr h)
  have cD:=aa.len; have cE:=aa.max
  refine .r 2<|.ss 2 (vS am bo bq) ak fun br aV bV bW=>?_
  replace ⟨hob0,hrb1,hrb2,E,O,aa,C⟩:=(so [am,ah,J,bx,rb0] aV).g7 hob0 hrb1 hrb2 E O aa C
  refine .d<|.ib 0 ?_
  have aW:=O.sl (.inr bR)
  replace ⟨hob0,hrb1,hrb2,aa⟩:=(sd br [am,ah,J,bx,rb0] ah).g4 hob0 hrb1 hrb2 aa
  have ci:=aa.sl (.inr bU)
  replace ⟨hob0,hrb1,hrb2,aW⟩:=(sd br [am,J,bx,rb0] am).g4 hob0 hrb1 hrb2 aW
  refine T.JG Tryz.func61 Tryz.results61 ?_
  rw [show (doD d s)=(⟨d.files,([]++s.list),s.names,d.next⟩:Dsk) from by (rw [HE ‹_›]; rfl)]
  exact ⟨⟨rfl,rb0,nb0,cb0,(some ⟨ah,0,none⟩),(0+s.list.length),bm,(some ⟨am,0,none⟩),bo,bq,bV,(Own.BI hob0 (all_cons AE (all_cons AF all_nil))),(I8 hcv_rb0 hnb0),hnb0,(RepS.BI aW (all_cons AE (all_cons AF all_nil))),(RepS.BI ci (all_cons AE (all_cons AF all_nil)))⟩,C⟩
 refine .r 1<|.d<|.cf<|.s<|.g<|.eq s.kind 3 (fun bX=>?_) (fun bX=>?_)
 ·refine .r 1<|.d<|.ct<|.s<|.gd nil 5 fun df aX=>?_
  replace ⟨hob0,hrb1,hrb2,hbx,E,C⟩:=(se [J,bx,rb0] aX).g6 hob0 hrb1 hrb2 hbx E C
  refine .r [0,1]<|.ln 2 hbx id<|.r [3]<|.lb 4 E id<|.d fun cj aY=>?_
  replace ⟨hob0,hrb1,hrb2,hbx,E,C⟩:=(se [J,bx,rb0] aY).g6 hob0 hrb1 hrb2 hbx E C
  refine .cl (Cs d s.num (hob0.rep) hrb1.ta hrb2.ta (w:=cj) (F:=all)) ?_
  rintro dg dh ⟨rfl,aZ⟩
  replace ⟨hob0,hrb1,hrb2,hbx,E,C⟩:=(se [J,bx,rb0] aZ).g6 hob0 hrb1 hrb2 hbx E C
  refine .r 1<|.d<|.s<|.gd nil 9 fun dj ba=>?_
  replace ⟨hob0,hrb1,hrb2,hbx,E,C⟩:=(se [J,bx,rb0] ba).g6 hob0 hrb1 hrb2 hbx E C
  refine .r [0]<|GA.EE (i:=1) (Ao d s.num≥0) AA (fun bY=>?_) (fun bY=>?_)
  ·refine .r [2,3,4,5]<|.lb 6 hbx id<|.r [7]<|.lb 8 E id<|.d fun ck bc=>?_
   replace ⟨hob0,hrb1,hrb2,hbx,C⟩:=(se [J,bx,rb0] bc).g5 hob0 hrb1 hrb2 hbx C
   refine .cl (Cd d.list s.num hrb1.ta (w:=ck) (F:=all)) ?_
   rintro dm dp ⟨rfl,bd⟩
   replace ⟨hob0,hrb1,hrb2,hbx,C⟩:=(se [J,bx,rb0] bd).g5 hob0 hrb1 hrb2 hbx C
   cases cF:(d.list.contains s.num)
   ·refine .r 2<|.d<|.ct<|.g<|.r 4<|.lb hbx<|.r 2<|RG.int (Ao d s.num+1) AA (by have q1:=p1.2.2.2; (have:=CC d s.num; omega))<|.cl (JA (i:=(Ao d s.num).toNat) (a:=Ao d s.num) (b:=Ao d s.num+1) hob0 (by have:=CC d s.num; have:=Hp d s.num; omega) (by have:=CC d s.num; have:=Hp d s.num; omega) (by have:=CC d s.num; have:=Hp d s.num; omega) (by have:=CC d s.num; have:=Hp d s.num; omega)) ?_
    rintro dq dr ⟨⟨rfl,al⟩,bg⟩
    replace ⟨hrb1,hrb2,hbx,C⟩:=(so [J,bx,rb0] bg).g4 hrb1 hrb2 hbx C
    have cG:=al.len; have cH:=al.max
    refine .r 2<|.ss 0 (vS rb0 (nb0 - 1) cb0) hbx fun dt bh bZ b0=>?_
    replace ⟨al,hrb1,hrb2,C⟩:=(so [J,bx,rb0] bh).g4 al hrb1 hrb2 C
    refine .d<|.ib 0<|T.JG Tryz.func61 Tryz.results61 ?_
    rw [show (doD d s)=(⟨(d.files.take ((Ao d s.num).toNat)++d.files.drop ((Ao d s.num).toNat+1)),d.list,d.names,d.next⟩:Dsk) from by (rw [FG ‹_›,Na ‹_› ‹_›]; done)]
    exact ⟨⟨rfl,rb0,(nb0 - 1),cb0,ab1,d.list.length,cb1,ab2,d.names.length,cb2,bZ,(Own.BI al (all_cons AE (all_cons AF all_nil))),(I8 hcv_rb0 hnb0),hnb0,(RepS.BI hrb1 (all_cons AE (all_cons AF all_nil))),(RepS.BI hrb2 (all_cons AE (all_cons AF all_nil)))⟩,C⟩
   refine .r 2<|.d<|.cf<|.sk<|.ib 0<|T.JG Tryz.func61 Tryz.results61 ?_
   rw [show (doD d s)=d from by (rw [FG ‹_›,Lu (.inr ‹_›)]; done)]
   exact ⟨⟨rfl,rb0,nb0,cb0,ab1,d.list.length,cb1,ab2,d.names.length,cb2,hbx,(Own.BI hob0 (all_cons AE (all_cons AF all_nil))),(I8 hcv_rb0 hnb0),hnb0,(RepS.BI hrb1 (all_cons AE (all_cons AF all_nil))),(RepS.BI hrb2 (all_cons AE (all_cons AF all_nil)))⟩,C⟩
  refine .r [2]<|GA.skip AA fun du bi=>?_
  replace ⟨hob0,hrb1,hrb2,hbx,C⟩:=(se [J,bx,rb0] bi).g5 hob0 hrb1 hrb2 hbx C
  refine .r 3<|.d<|.cf<|.sk<|.ib 0<|T.JG Tryz.func61 Tryz.results61 ?_
  rw [show (doD d s)=d from by (rw [FG ‹_›,Lu (.inl ‹_›)]; done)]
  exact ⟨⟨rfl,rb0,nb0,cb0,ab1,d.list.length,cb1,ab2,d.names.length,cb2,hbx,(Own.BI hob0 (all_cons AE (all_cons AF all_nil))),(I8 hcv_rb0 hnb0),hnb0,(RepS.BI hrb1 (all_cons AE (all_cons AF all_nil))),(RepS.BI hrb2 (all_cons AE (all_cons AF all_nil)))⟩,C⟩
 refine .r 1<|.d<|.cf<|.sk<|.ib 0<|T.JG Tryz.func61 Tryz.results61 ?_
 rw [show (doD d s)=d from by (rw [Tp ‹_› ‹_› ‹_›]; done)]
 exact ⟨⟨rfl,rb0,nb0,cb0,ab1,d.list.length,cb1,ab2,d.names.length,cb2,hbx,(Own.BI hob0 (all_cons AE (all_cons AF all_nil))),(I8 hcv_rb0 hnb0),hnb0,(RepS.BI hrb1 (all_cons AE (all_cons AF all_nil))),(RepS.BI hrb2 (all_cons AE (all_cons AF all_nil)))⟩,C⟩
end Go.Proofs.YtganlmloonielaaGreat
namespace Go.Proofs.YtganlmloonielaaGreat
set_option maxRecDepth 100000
set_option maxHeartbeats 4000000
theorem Cl (d:Dsk) (steps:List Stp) (cut:Int) {w:World} {F:Nat→Prop} {a1:Option Addr} {n1 c1:Nat} (h1:RepS w F a1 n1 c1 d.files) {a2:Option Addr} {n2 c2:Nat} (h2:RepS w F a2 n2 c2 d.list) {a3:Option Addr} {n3 c3:Nat} (h3:RepS w F a3 n3 c3 d.names) {a4:Option Addr} {n4 c4:Nat} (h4:RepS w F a4 n4 c4 steps) (p0:DD d) (p1:Af d=true→StW d steps):Calls Tryz.prog 23 [.agg #[.slice a1 n1 c1,.slice a2 n2 c2,.slice a3 n3 c3,.int .i64 d.next],.slice a4 n4 c4,.int .i64 cut].toArray w (As fun rv w'=>VS (fo F w.heap.size) w' (BP d steps cut:Dsk) rv∧Ext w w'):=by
 refine goT Tryz.func23 ?_
 obtain ⟨rfl,dZ,h1⟩:=h1.tp
 obtain ⟨rfl,d0,h2⟩:=h2.tp
 obtain ⟨rfl,d3,h3⟩:=h3.tp
 obtain ⟨rfl,d4,h4⟩:=h4.tp
 refine .s<|.g<|.np 27 [.slice a1 d.files.length c1,.slice a2 d.list.length c2,.slice a3 d.names.length c3,vI d.next] fun W eH bt aZ E cd=>?_
 replace ⟨h1,h2,h3,h4⟩:=(sn [] aZ bt).g4 h1 h2 h3 h4
 have C:=aZ
 refine .np 27 [.slice none 0 0,.slice none 0 0,.slice none 0 0,vI 0] fun aa db aV bu J ce=>?_
 have d5:=AS aV E.lt
 have d6:=C.cn aV
 replace ⟨h1,h2,h3,h4,E,C⟩:=(sn [W] bu aV).g6 h1 h2 h3 h4 E C
 refine .d<|.s<|.s<|.g<|.ln E<|.cl (Bs d h1.ta h2.ta h3.ta (by exact p0) (w:=db) (F:=all)) ?_
 rintro eI cg ⟨rfl,bv⟩
 replace ⟨h1,h2,h3,h4,E,J,C⟩:=(se [aa,W] bv).g7 h1 h2 h3 h4 E J C
 cases d7:(Af d)
 ·refine .r 5<|.d<|.ct<|.s<|.g<|.r 1<|.sc [.slice none 0 0,.slice none 0 0,.slice none 0 0,vI 0] J fun eJ bw ci cj=>?_
  replace ⟨h1,h2,h3,h4,E,C⟩:=(so [aa,W] bw).g6 h1 h2 h3 h4 E C
  exact .d<|.rb Tryz.func23 Tryz.results23 ci ⟨(VS.of (y:=(⟨([]:List Fil),([]:List Int),([]:List (List Tag)),0⟩:Dsk)) ⟨_,rfl,⟨_,_,_,_,_,_,_,_,_,rfl,(RepS.Ag _ _ none 0 (by decide)),(RepS.Ag _ _ none 0 (by decide)),(RepS.Ag _ _ none 0 (by decide))⟩⟩ (by exact LW (.inl ‹_›))),C⟩
 refine .r 3<|.bp (cut< 0) (fun ck=>?_) (fun ck=>?_)
 ·refine .r 1<|.d<|.ct<|.s<|.g<|.r 1<|.sc [.slice none 0 0,.slice none 0 0,.slice none 0 0,vI 0] J fun eK bz cm co=>?_
  replace ⟨h1,h2,h3,h4,E,C⟩:=(so [aa,W] bz).g6 h1 h2 h3 h4 E C
  exact .d<|.rb Tryz.func23 Tryz.results23 cm ⟨(VS.of (y:=(⟨([]:List Fil),([]:List Int),([]:List (List Tag)),0⟩:Dsk)) ⟨_,rfl,⟨_,_,_,_,_,_,_,_,_,rfl,(RepS.Ag _ _ none 0 (by decide)),(RepS.Ag _ _ none 0 (by decide)),(RepS.Ag _ _ none 0 (by decide))⟩⟩ (by exact LW (.inr (.inl ‹_›)))),C⟩
 refine .r 1<|.d<|.cf<|.sk<|.s<|.g<|.ln E<|.cl (EQ d h1.ta h2.ta h3.ta (by exact U2 p0) (by exact U3 p0) (by exact U4 p0) (by exact U5 p0) (by exact U6 p0) (w:=cg) (F:=all)) ?_
 rintro eL bF ⟨⟨ax,cp,cq,cr,eM,cu,cv,eN,cw,rfl,ao,aQ,aD,aE⟩,bA⟩
 have aW:=al2 J.lt E.lt
 have ba:Gb w.heap.size cg.heap.size:=C.size
 have cx:=Ab aQ E.lt
 have cy:=Ab aQ J.lt
 have cz:Cov nil w ax:=BR aQ C.size
 replace ⟨h4,E,J,C⟩:=(sz [aa,W] bA aQ).g4 h4 E J C
 replace ao:Own bF ax 66 (nin (ge w.heap.size) [ax,aa,W]) _ _ _:=Own.BC (s0:=w.heap.size) (M:=[aa,W]) ao aW ba
 replace ao:=ao.base (G':=fo F w.heap.size) (fun _ _ h=>.inr h)
 have d8:=ao.max
 have d9:=ao.len
 replace aD:RepS bF (nin (ge w.heap.size) [ax,aa,W]) _ _ _ _:=RepS.BC (s0:=w.heap.size) (M:=[aa,W]) aD aW ba
 replace aD:=aD.base (G':=fo F w.heap.size) (fun _ _ h=>.inr h)
 have ec:=aD.max
 replace aE:RepS bF (nin (ge w.heap.size) [ax,aa,W]) _ _ _ _:=RepS.BC (s0:=w.heap.size) (M:=[aa,W]) aE aW ba
 replace aE:=aE.base (G':=fo F w.heap.size) (fun _ _ h=>.inr h)
 have ed:=aE.max
 have cA:=aD.len
 subst cA
 have cB:=aE.len
 subst cB
 refine .np 27 [.slice none 0 0,.slice none 0 0,.slice none 0 0,vI 0] fun af eO aL bB cC cD=>?_
 have ee:=AS aL E.lt
 have ef:=AS aL J.lt
 have cE:=AS aL ao.lt
 have eg:=C.cn aL
 replace ⟨h4,E,J,ao,aD,aE,C⟩:=(sn [ax,aa,W] bB aL).g7 h4 E J ao aD aE C
 refine .sc [vS ax cp cq,.slice cr d.list.length cu,.slice cv d.names.length cw,vI d.next] cC fun bc bC bD bG=>?_
 replace ⟨h4,E,J,ao,aD,aE,C⟩:=(so [af,ax,aa,W] bC).g7 h4 E J ao aD aE C
 refine .d<|.s<|.s<|.g<|.r 5<|RG.sub (t:=37) (lo:=none) (hi:=some (vI (if (steps.length:Int)< cut then (steps.length:Int) else cut))) h4 0 (((if (steps.length:Int)< cut then (steps.length:Int) else cut)).toNat) AA AA (.inl ⟨rfl,rfl⟩) (.inr ⟨_,_,rfl,by omega⟩) (by split <;> omega) (by split <;> omega) fun cF cG aM=>?_
 have de:=aM.len; have df:=aM.max
 refine .r 2<|.d<|.b 0<|T.loop (X:=Nat × (List Fil) × Nat × Nat × Nat × (List Int) × (Option Addr) × Nat × Nat × (List (List Tag)) × (Option Addr) × Nat × Nat × Int) (0,(d.files:List Fil),ax,cp,cq,(d.list:List Int),cr,d.list.length,cu,(d.names:List (List Tag)),cv,d.names.length,cw,d.next) (fun (k,O,r_out_0,n_out_0,c_out_0,ab,a_out_1,n_out_1,c_out_1,ac,a_out_2,n_out_2,c_out_2,ae)=>[(6,.pointer (some ⟨aa,0,none⟩)),(7,.pointer (some ⟨af,0,none⟩)),(25,.slice cF (((if (steps.length:Int)< cut then (steps.length:Int) else cut)).toNat - 0) cG),(26,vI (((((if (steps.length:Int)< cut then (steps.length:Int) else cut)).toNat - 0)):Int)),(27,vI (k:Int))]) (fun (k,O,r_out_0,n_out_0,c_out_0,ab,a_out_1,n_out_1,c_out_1,ac,a_out_2,n_out_2,c_out_2,ae) aB=>Chg (ins [ax,af]) bc aB∧Own aB r_out_0 66 (nin (fo F w.heap.size) [af,r_out_0,aa,W]) n_out_0 c_out_0 O∧OrB r_out_0 ax bc.heap.size∧RepS aB (nin (fo F w.heap.size) [af,r_out_0,aa,W]) a_out_1 n_out_1 c_out_1 ab∧RepS aB (nin (fo F w.heap.size) [af,r_out_0,aa,W]) a_out_2 n_out_2 c_out_2 ac∧Box aB af 27 [vS r_out_0 n_out_0 c_out_0,.slice a_out_1 n_out_1 c_out_1,.slice a_out_2 n_out_2 c_out_2,vI ae]∧(k≤((steps.take (if (steps.length:Int)< cut then (steps.length:Int) else cut).toNat).drop 0).length)∧(O.length≤d.files.length+k)∧((List.drop k ((steps.take (if (steps.length:Int)< cut then (steps.length:Int) else cut).toNat).drop 0)).foldl doD (⟨O,ab,ac,ae⟩:Dsk)=toD d steps cut)) (fun (k,O,r_out_0,n_out_0,c_out_0,ab,a_out_1,n_out_1,c_out_1,ac,a_out_2,n_out_2,c_out_2,ae)=>((steps.take (if (steps.length:Int)< cut then (steps.length:Int) else cut).toNat).drop 0).length - k) AA ⟨AA,AA,AA,AA,AA,trivial⟩ ⟨Chg.refl _ _,ao,BJ,aD,aE,bD,AB,AB,(by exact U1 ‹_›)⟩ ?_
 rintro ⟨k,O,r_out_0,n_out_0,c_out_0,ab,a_out_1,n_out_1,c_out_1,ac,a_out_2,n_out_2,c_out_2,ae⟩ eh aB ⟨ak,ag,ay,ah,ai,aj,dg,dh,dj⟩ aY
 have dm:=Aw ay cx E.lt
 have dp:=Aw ay cy J.lt
 have bH:=Aw ay (Nb.symm cE) bD.lt
 have dq:=Ar ay cz C.size
 have bI:Cov (ins [ax,af]) bc ax:=⟨.inl AD⟩
 have dr:Cov (ins [ax,af]) bc af:=⟨.inl AE⟩
 have dt:=Ar ay bI (Nat.le_refl _)
 have bd:Mv [af,ax,aa,W] [af,r_out_0,aa,W] bc aB:=Mv.inl ak (all_cons AE (all_cons AD all_nil)) (all_cons (.inl AD) (all_cons (BV ay AE) (all_cons (.inl AF) (all_cons (.inl AG) all_nil))))
 replace ⟨E,J,aM,C⟩:=(sp bd ak).g4 E J aM C
 have du:=ag.len; have dv:=ag.max
 have dw:=ah.len; have dx:=ah.max
 have dy:=ai.len; have dz:=ai.max
 refine .s<|.g<|.bp ((k:Int)< (((((if (steps.length:Int)< cut then (steps.length:Int) else cut)).toNat - 0)):Int)) (fun bJ=>?_) (fun bJ=>?_)
 ·refine .d<|.s<|.ct<|.sk<|.s<|.b 1<|.s<|.g ?_
  have bK:k< (((if (steps.length:Int)< cut then (steps.length:Int) else cut)).toNat - 0):=AB
  refine .ix k 6 aM bK ?_
  obtain ⟨al,aR⟩:∃ y,((steps.take (((if (steps.length:Int)< cut then (steps.length:Int) else cut)).toNat)).drop 0)[k]? = some y:=⟨_,AP AB⟩
  have dA:=AX aR; have cH:=AQ aR
  obtain ⟨_,⟨cI,ej,cJ,cK,ek,cL,cM,en,cN,cO,et,cP,rfl,aF,aG,aH,aI⟩,bL⟩:=aM.elem k al aR
  have bM:=aF.len
  subst bM
  have dB:=aF.max
  have bN:=aG.len
  subst bN
  have dC:=aG.max
  have bO:=aH.len
  subst bO
  have dD:=aH.max
  have bP:=aI.len
  subst bP
  have dE:=aI.max
  refine .lg 0 bL<|.np 44 [vI 0,vI 0,.slice none 0 0,.slice none 0 0,.slice none 0 0,.slice none 0 0] fun aq ey ar bg bQ bR=>?_
  have dF:=AS ar E.lt
  have dG:=AS ar J.lt
  have dH:=AS ar ag.lt
  have dI:=AS ar aj.lt
  have dJ:=C.cn ar
  have dK:=ak.cn ar
  replace ⟨E,J,ag,aj,ah,ai,aF,aG,aH,aI,C,ak⟩:=(sn [af,r_out_0,aa,W] bg ar).g12 E J ag aj ah ai aF aG aH aI C ak
  refine .sc [vI al.kind,vI al.num,.slice cI al.part.ids.length cJ,.slice cK al.part.blocks.length cL,.slice cM al.list.length cN,.slice cO al.names.length cP] bQ fun bh bi bj bS=>?_
  replace ⟨E,J,ag,aj,ah,ai,aF,aG,aH,aI,C,ak⟩:=(so [aq,af,r_out_0,aa,W] bi).g12 E J ag aj ah ai aF aG aH aI C ak
  refine .d<|.g<|.ln bj<|.cl (JB (⟨O,ab,ac,ae⟩:Dsk) al (Own.toM ag (all_cons AE (all_cons AF all_nil))) (RepS.toM ah (all_cons AE (all_cons AF all_nil))) (RepS.toM ai (all_cons AE (all_cons AF all_nil))) aj bH (RepS.toM aF (all_cons AE (all_cons AF all_nil))) (RepS.toM aG (all_cons AE (all_cons AF all_nil))) (RepS.toM aH (all_cons AE (all_cons AF all_nil))) (RepS.toM aI (all_cons AE (all_cons AF all_nil))) (by have:=p0.nf; have q2:=(p1 ‹_›).len; have q3:=Vs (st:=steps) (c:=cut) ‹_›; show O.length≤1000; omega) ((p1 ‹_›).sz _ (List.mem_of_mem_take (List.mem_of_mem_drop ‹_›))) ((p1 ‹_›).pt _ (List.mem_of_mem_take (List.mem_of_mem_drop ‹_›))) (w:=bh) (F:=nin (fo F w.heap.size) [aq,af,r_out_0,aa,W])) ?_
  rintro ez aN ⟨⟨rfl,au,cQ,cR,cS,eA,cT,cU,eB,cV,bT,az,aX,dL,aJ,aK⟩,aS⟩
  have aO:=al5 bj.lt aj.lt ag.lt J.lt E.lt
  have aT:Gb w.heap.size bh.heap.size:=C.size
  have bU:=OP aX ay ak.size
  have bk:Mv [aq,af,r_out_0,aa,W] [aq,af,au,aa,W] bh aN:=Mv.inl aS (all_cons AE (all_cons AF all_nil)) (all_cons (.inl AD) (all_cons (.inl AE) (all_cons (BV aX AF) (all_cons (.inl AG) (all_cons (.inl AH) all_nil)))))
  replace ⟨E,J,ah,ai,C,ak⟩:=(sp bk aS).g6 E J ah ai C ak
  replace az:Own aN au 66 (nin (fo F w.heap.size) [aq,af,au,aa,W]) _ _ _:=Own.bxM (M2:=[aq,af,au,aa,W]) az aO (fun _ h=>.inr (Nat.le_trans aT h)) (all_cons (.inr AD) (all_cons (.inl AD) (all_cons (.inl AE) (all_cons (.inr AG) (all_cons (.inr AH) all_nil)))))
  have dM:=az.len; have dN:=az.max
  replace aJ:RepS aN (nin (fo F w.heap.size) [aq,af,au,aa,W]) _ _ _ _:=RepS.bxM (M2:=[aq,af,au,aa,W]) aJ aO (fun _ h=>.inr (Nat.le_trans aT h)) (all_cons (.inr AD) (all_cons (.inl AD) (all_cons (.inl AE) (all_cons (.inr AG) (all_cons (.inr AH) all_nil)))))
  replace aK:RepS aN (nin (fo F w.heap.size) [aq,af,au,aa,W]) _ _ _ _:=RepS.bxM (M2:=[aq,af,au,aa,W]) aK aO (fun _ h=>.inr (Nat.le_trans aT h)) (all_cons (.inr AD) (all_cons (.inl AD) (all_cons (.inl AE) (all_cons (.inr AG) (all_cons (.inr AH) all_nil)))))
  have bV:=aJ.len
  subst bV
  have dO:=aJ.max
  have bW:=aK.len
  subst bW
  have dP:=aK.max
  refine .d<|.ib 1<|.g<|.it ((k:Int)+1)<|.r 1<|.d ?_
  have bX:Mv [aq,af,au,aa,W] [af,au,aa,W] aN aN:=Mv.less (all_cons AE (all_cons AF (all_cons AG (all_cons AH all_nil))))
  replace ⟨az,ah,ai,aJ,aK⟩:=(sp bX (Chg.refl nil _)).g5 az ah ai aJ aK
  exact aY (k+1,((doD (⟨O,ab,ac,ae⟩:Dsk) al)).files,au,cQ,cR,((doD (⟨O,ab,ac,ae⟩:Dsk) al)).list,cS,(((doD (⟨O,ab,ac,ae⟩:Dsk) al)).list).length,cT,((doD (⟨O,ab,ac,ae⟩:Dsk) al)).names,cU,(((doD (⟨O,ab,ac,ae⟩:Dsk) al)).names).length,cV,((doD (⟨O,ab,ac,ae⟩:Dsk) al)).next) _ _ ⟨AA,AA,AA,AA,AA,trivial⟩ ⟨ak,az,bU,aJ,aK,bT,AB,(by exact Nat.le_trans (Ry _) (by show O.length+1≤_; omega)),(by exact TW ‹_› ‹_›)⟩ (by (simp only []; omega))
 refine .d<|.s<|.cf<|.x 0 rfl<|.s<|.s<|.g<|.ln aj<|.cl (Bs (⟨O,ab,ac,ae⟩:Dsk) (ag.rep) ah.ta ai.ta (by exact I9 ‹_› AB (p1 ‹_›)) (w:=aB) (F:=all)) ?_
 rintro eC bE ⟨rfl,bm⟩
 replace ⟨E,J,ag,aj,ah,ai,C⟩:=(se [af,r_out_0,aa,W] bm).g7 E J ag aj ah ai C
 cases dQ:(Af (⟨O,ab,ac,ae⟩:Dsk))
 ·refine .r 1<|.d<|.ct<|.s<|.g<|.r 1<|.sc [.slice none 0 0,.slice none 0 0,.slice none 0 0,vI 0] J fun eD bn bY bZ=>?_
  replace ⟨E,ag,aj,ah,ai,C⟩:=(so [af,r_out_0,aa,W] bn).g6 E ag aj ah ai C
  exact .d<|.rb Tryz.func23 Tryz.results23 bY ⟨(VS.of (y:=(⟨([]:List Fil),([]:List Int),([]:List (List Tag)),0⟩:Dsk)) ⟨_,rfl,⟨_,_,_,_,_,_,_,_,_,rfl,(RepS.Ag _ _ none 0 (by decide)),(RepS.Ag _ _ none 0 (by decide)),(RepS.Ag _ _ none 0 (by decide))⟩⟩ (by exact TX ‹_› AB ‹_›)),C⟩
 refine .r 1<|.d<|.cf<|.sk<|.s<|.g<|.ln aj<|.cl (EQ (⟨O,ab,ac,ae⟩:Dsk) (ag.rep) ah.ta ai.ta (by exact U2 (I9 ‹_› AB (p1 ‹_›))) (by exact U3 (I9 ‹_› AB (p1 ‹_›))) (by exact U4 (I9 ‹_› AB (p1 ‹_›))) (by exact U5 (I9 ‹_› AB (p1 ‹_›))) (by exact U6 (I9 ‹_› AB (p1 ‹_›))) (w:=bE) (F:=all)) ?_
 rintro eE bo ⟨⟨aC,cW,cX,cY,eF,cZ,c7,eG,c8,rfl,am,aA,av,aw⟩,bq⟩
 have aP:=al4 aj.lt ag.lt J.lt E.lt
 have aU:Gb w.heap.size bE.heap.size:=C.size
 have dR:=Ab aA E.lt
 have dS:=Ab aA J.lt
 have dT:=Ab aA ag.lt
 have dU:=Ab aA aj.lt
 have b0:=Bd aA C.size
 replace ⟨J,C⟩:=(se [] bq).g2 J C
 replace am:Own bo aC 66 (nin (ge w.heap.size) [aC,af,r_out_0,aa,W]) _ _ _:=Own.BC (s0:=w.heap.size) (M:=[af,r_out_0,aa,W]) am aP aU
 replace am:=am.base (G':=fo F w.heap.size) (fun _ _ h=>.inr h)
 have dV:=am.max
 have dW:=am.len
 replace av:RepS bo (nin (ge w.heap.size) [aC,af,r_out_0,aa,W]) _ _ _ _:=RepS.BC (s0:=w.heap.size) (M:=[af,r_out_0,aa,W]) av aP aU
 replace av:=av.base (G':=fo F w.heap.size) (fun _ _ h=>.inr h)
 have dX:=av.max
 replace aw:RepS bo (nin (ge w.heap.size) [aC,af,r_out_0,aa,W]) _ _ _ _:=RepS.BC (s0:=w.heap.size) (M:=[af,r_out_0,aa,W]) aw aP aU
 replace aw:=aw.base (G':=fo F w.heap.size) (fun _ _ h=>.inr h)
 have dY:=aw.max
 have b6:=av.len
 subst b6
 have b7:=aw.len
 subst b7
 refine .sc [vS aC cW cX,.slice cY ((((⟨O,ab,ac,ae⟩:Dsk)).list).length) cZ,.slice c7 ((((⟨O,ab,ac,ae⟩:Dsk)).names).length) c8,vI (((⟨O,ab,ac,ae⟩:Dsk)).next)] J fun c9 br b8 b9=>?_
 replace ⟨am,av,aw,C⟩:=(so [aC,af,r_out_0,aa,W] br).g4 am av aw C
 refine .d ?_
 have da:=am.sl (.inr b0)
 replace ⟨av,aw⟩:=(sd c9 [aC,af,r_out_0,aa,W] aC).g2 av aw
 exact .rb Tryz.func23 Tryz.results23 b8 ⟨(VS.of (y:=((⟨O,ab,ac,ae⟩:Dsk))) ⟨_,rfl,⟨_,_,_,_,_,_,_,_,_,rfl,da.w1,av.w1,aw.w1⟩⟩ (by exact TY ‹_› AB ‹_› ‹_› ‹_›)),C⟩
end Go.Proofs.YtganlmloonielaaGreat
namespace Go.Proofs.YtganlmloonielaaGreat
theorem JO {d:Dsk} {st:List Stp} {c:Int} (h:c≤0):toD d st c=d:=by
 unfold toD
 rw [show c.toNat=0 by omega]
 rfl
end Go.Proofs.YtganlmloonielaaGreat
namespace Go.Proofs.YtganlmloonielaaGreat
theorem MB {d:Dsk} {st:List Stp} {c:Int} (h:Af d=true) (h1:0≤c) (h2:Af (toD d st c)=true):BP d st c=toD d st c:=Rz h AB h2
end Go.Proofs.YtganlmloonielaaGreat
