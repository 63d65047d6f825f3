/- Memory in two parts: the blocks M that the call still changes, and all the rest, which stands. No conditions. -/
import Derived.Test.YtganlmloonielaaGreatTazEng
import Derived.MapKept
import Derived.Test.YtganlmloonielaaGreatProg
set_option linter.unusedVariables false
set_option linter.unusedSimpArgs false
namespace Go.Proofs.YtganlmloonielaaGreat
def nin (G:Nat→Prop) (M:List Nat) (b:Nat):Prop:=G b∧b∉M
def fo (F:Nat→Prop) (s:Nat) (b:Nat):Prop:=F b∨s≤b
def ins (L:List Nat) (b:Nat):Prop:=b∈L
def Mv (M M':List Nat) (w w':World):Prop:=∀ b,b< w.heap.size→b∉M→b∉M'∧w'.heap[b]? = w.heap[b]?
theorem Mv.mk {S:Nat→Prop} {M M':List Nat} {w w':World} (hx:Chg S w w') (h:∀ b,b< w.heap.size→b∉M→b∉M'∧¬ S b):Mv M M' w w' :=
 fun b hb hm=>⟨(h b hb hm).1,hx.block b hb (h b hb hm).2⟩
section
variable {α:Type} [Rep α] {w w':World} {G G':Nat→Prop} {M M':List Nat} {a:Option Addr} {n c r b:Nat} {t:TypeId} {xs:List α} {cs:List Value}
theorem RepS.mv (h:RepS w (nin G M) a n c xs) (hm:Mv M M' w w'):RepS w' (nin G M') a n c xs :=
 h.frame fun b hb hF=>⟨⟨hF.1,(hm b hb hF.2).1⟩,(hm b hb hF.2).2⟩
theorem RepS.base (h:RepS w (nin G M) a n c xs) (hg:∀ b,b< w.heap.size→G b→G' b):RepS w (nin G' M) a n c xs :=
 h.CJ fun b hb hF=>⟨hg b hb hF.1,hF.2⟩
theorem Box.mv {S:Nat→Prop} (h:Box w b t cs) (hx:Chg S w w') (hb:¬ S b):Box w' b t cs:=h.chg hx hb
theorem Own.mv {S:Nat→Prop} (h:Own w r t (nin G M) n c xs) (hm:Mv M M' w w') (hx:Chg S w w') (hr:¬ S r):Own w' r t (nin G M') n c xs:=by
 refine ⟨h.len,h.le,h.cap,?_,fun i x hi=>?_⟩
 ·obtain ⟨cur,h1,h2⟩:=h.row
  exact ⟨cur,(hx.block r h.lt hr).trans h1,h2⟩
 ·obtain ⟨cs,h1,h2⟩:=h.elem i x hi
  exact ⟨cs,Rep.frame h1 (fun b hb hF=>⟨⟨⟨hF.1.1,(hm b hb hF.1.2).1⟩,hF.2⟩,(hm b hb hF.1.2).2⟩),h2.chg hx hr⟩
theorem Own.base (h:Own w r t (nin G M) n c xs) (hg:∀ b,b< w.heap.size→G b→G' b):Own w r t (nin G' M) n c xs :=
 h.CJ fun b hb hF=>⟨hg b hb hF.1,hF.2⟩
theorem Own.Ag (h:Box w r t []):Own w r t (nin G M) 0 0 ([]:List α):=Own.nil h _
end
theorem RepS.top {α:Type} [Rep α] {w:World} {F:Nat→Prop} {a:Option Addr} {n c s:Nat} {xs:List α} (h:RepS w F a n c xs):RepS w (nin (fo F s) []) a n c xs :=
 h.CJ fun _ _ hF=>⟨.inl hF,by simp⟩
theorem RepS.fresh {α:Type} [Rep α] {w:World} {G:Nat→Prop} {M:List Nat} {a:Option Addr} {n c s:Nat} {xs:List α} (h:RepS w (ge s) a n c xs) (hM:∀ b,b∈M→b< s) (hG:∀ b,s≤b→G b):RepS w (nin G M) a n c xs :=
 h.CJ fun b _ hF=>⟨hG b hF,fun hm=>by have:=hM b hm; unfold ge at hF; omega⟩
def mtb (L:List Nat) (s:Nat) (b:Nat):Prop:=b∈L∨s≤b
theorem RepS.blt {α:Type} [Rep α] {w:World} {F:Nat→Prop} {a:Option Addr} {n c:Nat} {xs:List α} (h:RepS w F a n c xs) (hn:0< n):blk a< w.heap.size:=by
 have hx:0< xs.length:=by have:=h.len; omega
 obtain ⟨cs,hr,hc⟩:=h.elem 0 xs[0] (by simp [hx])
 have hl:=Rep.len hr
 have hp:=Rep.pos (α:=α)
 have h0:=hc 0 cs[0] (by simp)
 rw [add_lit] at h0
 exact World.block_lt_of_cell? w _ h0
theorem RepS.mixed {α:Type} [Rep α] {w:World} {F:Nat→Prop} {M M':List Nat} {a:Option Addr} {n c s s':Nat} {xs:List α} (h:RepS w (fo (nin (fo F s') M') s) a n c xs) (hM:∀ b,b∈M→b< s∧b∈M') (hs:s'≤s):RepS w (nin (fo F s') M) a n c xs :=
 h.CJ fun b _ hF=>by
  rcases hF with hF | hF
  ·exact ⟨hF.1,fun hm=>hF.2 (hM b hm).2⟩
  ·exact ⟨.inr AB,fun hm=>by have:=(hM b hm).1; omega⟩
section
variable {α:Type} [Rep α] {w w':World} {G G':Nat→Prop} {M M':List Nat} {a:Option Addr} {n c r b:Nat} {t:TypeId} {xs:List α} {cs:List Value}
theorem Own.Tl (h:Own w r t (nin G M) n c xs) (hm:∀ b,b< w.heap.size→b∉M→b≠r→b∉M'):Own w r t (nin G M') n c xs :=
 ⟨h.len,h.le,h.cap,h.row,fun i x hi=>by
  obtain ⟨cs,h1,h2⟩:=h.elem i x hi
  exact ⟨cs,Rep.frame h1 (fun b hb hF=>⟨⟨⟨hF.1.1,hm b hb hF.1.2 hF.2⟩,hF.2⟩,rfl⟩),h2⟩⟩
theorem VS.of {F:Nat→Prop} {x y:α} {v:Value} (h:VS F w y v) (e:y=x):VS F w x v:=e▸h
end
def VO {α:Type} [Rep α] (t:TypeId) (s:Nat) (w:World) (xs:List α) (v:Value):Prop:=∃ r n c,v=.slice (some ⟨r,0,none⟩) n c∧Own w r t (nin (ge s) []) n c xs∧s≤r
theorem VO.of {α:Type} [Rep α] {t:TypeId} {s r n c:Nat} {w:World} {M:List Nat} {xs ys:List α} (h:Own w r t (nin (ge s) M) n c xs) (e:xs=ys) (hr:s≤r):VO t s w ys (.slice (some ⟨r,0,none⟩) n c) :=
 ⟨r,n,c,rfl,e▸h.Tl (fun _ _ _ _=>by simp),hr⟩
theorem Own.take {α:Type} [Rep α] {t:TypeId} {s s0 r n c:Nat} {w:World} {M:List Nat} {xs:List α} (h:Own w r t (nin (ge s) []) n c xs) (hM:∀ b,b∈M→b< s) (hs:s0≤s):Own w r t (nin (ge s0) (r::M)) n c xs :=
 ⟨h.len,h.le,h.cap,h.row,fun i x hi=>by
  obtain ⟨cs,h1,h2⟩:=h.elem i x hi
  refine ⟨cs,Rep.frame h1 (fun b hb hF=>⟨⟨⟨Nat.le_trans hs hF.1.1,fun hm=>?_⟩,hF.2⟩,rfl⟩),h2⟩
  rcases List.mem_cons.1 hm with rfl | hm
  ·exact hF.2 rfl
  ·have h3:=hM b hm
   have h4:s≤b:=hF.1.1
   omega⟩
def Flat (α:Type) [Rep α]:Prop:=∀ (w w':World) (F F':Nat→Prop) (x:α) (cs:List Value),Rep.rep w F x cs→Rep.rep w' F' x cs
theorem BF:Flat Int:=fun _ _ _ _ _ _ h=>h
theorem Bx:Flat Row:=fun _ _ _ _ _ _ h=>h
theorem Jz:Flat Tag:=fun _ _ _ _ _ _ h=>h
theorem Fc:Flat Smp:=fun _ _ _ _ _ _ h=>h
section
variable {α:Type} [Rep α] {w w':World} {F F':Nat→Prop} {a:Option Addr} {n c r m c':Nat} {t:TypeId} {xs ys:List α}
theorem Own.flat (hf:Flat α) (h:Own w r t F n c xs):Own w r t F' n c xs :=
 ⟨h.len,h.le,h.cap,h.row,fun i x hi=>by
  obtain ⟨cs,h1,h2⟩:=h.elem i x hi
  exact ⟨cs,hf _ _ _ _ _ _ h1,h2⟩⟩
theorem Own.SU (hf:Flat α) (h:Own w r t F n c xs):RepS w (one r) (some ⟨r,0,none⟩) n c xs :=
 (h.flat (F':=fun _=>False) hf).QF (fun _ _ h=>h.elim) rfl
theorem Own.Ay {P:Program} {T ty:TypeId} {F2:Nat→Prop} (hf:Flat α) (ho:Own w r t F n c xs) (hT:Hf P T t (Rep.sz α)=true)
 (hn:RepS w F2 a m c' ys) (h2:∀ b,F2 b→b≠r) (hs:n+m≤100000000000) :
 ∃ r' c2 w', (Builtin.append_ #[T, T] ty #[.slice (some ⟨r, 0, none⟩) n c, .slice a m c']).run P w = .ok (.slice (some ⟨r', 0, none⟩) (n + m) c2) w' ∧
   Own w' r' t F (n+m) c2 (xs++ys)∧(r'=r∨r'=w.heap.size)∧Chg (one r) w w'∧w'.heap.size≤w.heap.size+1:=by
 obtain ⟨r',c2,w',h1,h3,h4,h5,h6⟩:=(ho.CJ (F':=all) (fun _ _ _=>trivial)).append (P:=P) (T:=T) (ty:=ty) hT hn (fun b _ hb=>⟨trivial,h2 b hb⟩) hs
 exact ⟨r',c2,w',h1,h3.flat hf,h4,h5,h6⟩
theorem RG.Ay {P:Program} {nn:Nat} {K:Env→World→Prop} {ops:Array Oper} {j:Nat} {e:Env} {T ty:TypeId} {F2:Nat→Prop} (hf:Flat α) (ho:Own w r t F n c xs) (hn:RepS w F2 a m c' ys)
 (h:JF nn ops j e=some (.append,[T,T],ty,[.slice (some ⟨r,0,none⟩) n c,.slice a m c'])) (hT:Hf P T t (Rep.sz α)=true)
 (h2:∀ b,F2 b→b≠r) (hs:n+m≤100000000000)
 (H:∀ r' c2 w',Own w' r' t F (n+m) c2 (xs++ys)→(r'=r∨r'=w.heap.size)→Chg (one r) w w'→RG P nn K ops (j+1) (BL e (An ops j).dst (.slice (some ⟨r',0,none⟩) (n+m) c2)) w'):RG P nn K ops j e w:=by
 obtain ⟨r',c2,w',hrun,ho',hor,hx,_⟩:=ho.Ay (P:=P) (T:=T) (ty:=ty) hf hT hn h2 hs
 exact RG.append h hrun (H r' c2 w' ho' hor hx)
end
theorem AX {α:Type} {xs:List α} {k:Nat} {x:α} (h:xs[k]? = some x):xs.drop k=x::xs.drop (k+1):=by
 obtain ⟨h1,h2⟩:=List.getElem?_eq_some_iff.1 h
 rw [List.drop_eq_getElem_cons h1,h2]
theorem AY {α:Type} {xs:List α} {k:Nat} (h:xs.length≤k):xs.drop k=[]:=List.drop_of_length_le h
theorem SV {P:Program} {n:Nat} {ops:Array Oper} {j:Nat} {e:Env} {w:World} {v:Value} {t:TypeId} {cs:List Value} (h:DT P n ops j e w.heap.size=some (v,t,cs)) :
 Ca n ops j e=true∧(execOp (ev e) (An ops j)).run P w=.ok (.value v) (w.alloc (.cells cs.toArray t)):=by
 unfold DT at h
 split at h
 ·rename_i v' cs' t' hn
  simp only [Option.some.injEq,Prod.mk.injEq] at h
  obtain ⟨rfl,rfl,rfl⟩:=h
  obtain ⟨hg,h⟩:=CW hn
  refine ⟨hg,?_⟩
  split at h
  ·rename_i v2 o' hs
   simp only [Option.some.injEq,Prod.mk.injEq] at h
   obtain ⟨rfl,rfl⟩:=h
   rw [OH _ hs]
   have hp:w.heap++[Obj.cells cs' t' (0,0)].toArray=w.heap.push (Obj.cells cs'.toList.toArray t' (0,0)):=by simp
   rw [hp]
   rfl
  ·cases h
 ·cases h
theorem SW {P:Program} {n:Nat} {ops:Array Oper} {j:Nat} {e:Env} {w w':World} {ats:List TypeId} {ty:TypeId} {args:List Value} {v:Value} (h:JF n ops j e=some (.append,ats,ty,args))
 (hr:(Builtin.append_ ats.toArray ty args.toArray).run P w=.ok v w'):(execOp (ev e) (An ops j)).run P w=.ok (.value v) w':=by
 obtain ⟨hg,h⟩:=CW h
 split at h
 ·rename_i c hop
  split at h
  ·rename_i b hcal
   simp only [Option.some.injEq,Prod.mk.injEq] at h
   obtain ⟨rfl,rfl,rfl,rfl⟩:=h
   have ha:(c.args.toList.map (ev e)).toArray=c.args.map (ev e):=by apply Array.toList_inj.1; simp
   rw [ha,Array.toArray_toList] at hr
   simp only [execOp,hop,resolve,hcal]
   exact AW hr
  ·cases h
 ·cases h
section
variable {P:Program} {S:Nat→Prop} {n m:Nat} {L:Env→World→Prop} {ops:Array Oper} {l:List Nat} {e:Env} {w:World}
def GE (P:Program) (S:Nat→Prop) (n m:Nat) (L:Env→World→Prop) (ops:Array Oper) (l:List Nat) (i:Nat) (e:Env) (w:World):Prop :=
 ∀ w1,Ext w w1→F4 P S ((execOp (ev e) (An ops i)).run P w1) w1 (fun v w2=>GA P S n m L ops (i::l) (BL e (An ops i).dst v) w2)
theorem GE.one {i:Nat} (h:SR n m ops l i e=true) (H:GE P S n m L ops l i e w):GA P S n m L ops l e w:=GA.one h H
def UF (n m:Nat) (ops:Array Oper) (l:List Nat) (i j:Nat) (e:Env):Bool :=
 DU n m ops l i&&Ca n ops i e&&DU n m ops l j&&Ca n ops j e&&(match Jw ops l with | [a,b]=>Nat.beq a i&&Nat.beq b j | _=>false)
theorem GE.two {i j:Nat} (h:UF n m ops l i j e=true) (Hi:GE P S n m L ops l i e w) (Hj:GE P S n m L ops l j e w):GA P S n m L ops l e w:=by
 intro hB f a hf ha inv
 simp only [UF,AR] at h
 obtain ⟨⟨⟨⟨h1,h2⟩,h3⟩,h4⟩,h5⟩:=h
 have hready:Region.ready .any ops (lst ops.size l)=[i,j]:=by
  split at h5
  ·rename_i a b hj
   simp only [AR] at h5
   rw [← Ib,hj,Nat.eq_of_beq_eq_true h5.1,Nat.eq_of_beq_eq_true h5.2]
  ·cases h5
 have hlm:=(EJ h1).1
 obtain ⟨f,rfl⟩:∃ g,f=g+1:=⟨f - 1,by omega⟩
 have key:∀ k,DU n m ops l k=true→Ca n ops k e=true→GE P S n m L ops l k e w→∀ w1,Ext w w1→k< m∧gOp P S ops k (JP P S ops m (fun listed a' w'=>listed=fin ops m∧∃ e',Sees n a' e'∧L e' w') f ((lst ops.size l).setIfInBounds k true)) a w1:=by
  intro k hk1 hk2 HK w1 hx
  obtain ⟨_,him,hd,hi,hr⟩:=EJ hk1
  refine ⟨him,?_⟩
  simp only [Ca,AR] at hk2
  unfold gOp
  simp only [hi]
  rw [ha.want,hk2.2,if_pos rfl,ha.eval]
  refine EI (fun v w2 _ hq=>?_) (HK w1 hx)
  have:=hq hB f (a.put (An ops k).dst v) (by simp only [List.length_cons]; omega) (ha.Lb hd v) (by rw [DV]; exact inv.set hr him)
  rwa [DV] at this
 refine ⟨by rw [hready]; simp,fun w1 hx k hk=>?_⟩
 rw [hready] at hk
 rcases List.mem_cons.1 hk with rfl | hk
 ·exact key _ h1 h2 Hi w1 hx
 ·rcases List.mem_cons.1 hk with rfl | hk
  ·exact key _ h3 h4 Hj w1 hx
  ·cases hk
theorem GE.call {i:Nat} {f:FuncId} {args:List Value} {Q:World→Value→World→Prop} (hf:IY P n ops i e=some (f,args))
 (hc:∀ w1,Ext w w1→Calls P f args.toArray w1 (As (Q w1))) (H:∀ w1,Ext w w1→∀ v w2,Q w1 v w2→Chg S w1 w2∧GA P S n m L ops (i::l) (BL e (An ops i).dst v) w2):GE P S n m L ops l i e w:=fun w1 hx=>by
 rw [(Jy hf w1).2]
 exact ⟨Chg.refl S _,(hc w1 hx).mono fun x w2 ⟨u,hxu,hq⟩=>⟨u,hxu,H w1 hx u w2 hq⟩⟩
theorem GE.new {i:Nat} {v:Nat→Value} {t:TypeId} {cs:List Value} (hn:∀ b,DT P n ops i e b=some (v b,t,cs))
 (H:∀ w1,Ext w w1→∀ b w2,b=w1.heap.size→Ext w1 w2→Box w2 b t cs→w2.heap.size=b+1→GA P S n m L ops (i::l) (BL e (An ops i).dst (v b)) w2):GE P S n m L ops l i e w:=fun w1 hx=>by
 rw [(SV (hn _)).2]
 exact ⟨(Ext.alloc _ _).chg,H w1 hx _ _ rfl (Ext.alloc _ _) (Box.new _ _ _) (by show (w1.heap.push _).size=_; simp)⟩
theorem GE.append {i:Nat} {T ty:TypeId} {args:List Value} (hb:JF n ops i e=some (.append,[T,T],ty,args))
 (H:∀ w1,Ext w w1→∃ v w2,(Builtin.append_ #[T,T] ty args.toArray).run P w1=.ok v w2∧Chg S w1 w2∧GA P S n m L ops (i::l) (BL e (An ops i).dst v) w2):GE P S n m L ops l i e w:=fun w1 hx=>by
 obtain ⟨v,w2,h1,h2,h3⟩:=H w1 hx
 rw [SW hb h1]
 exact ⟨h2,h3⟩
theorem JH {i:Nat} {t:TypeId} {a:Addr} {v:Value} {w w':World} (h:storeAt n ops i e=some (t,a,v)) (hv:(storeVar t a v).run P w=.ok () w'):(execOp (ev e) (An ops i)).run P w=.ok .skip w':=by
 obtain ⟨hg,h⟩:=CW h
 split at h
 ·rename_i t' x v' hop
  split at h
  ·rename_i a' hx
   simp only [Option.some.injEq,Prod.mk.injEq] at h
   obtain ⟨rfl,rfl,rfl⟩:=h
   simp only [execOp,hop,hx]
   exact AW hv
  ·cases h
 ·cases h
theorem GE.CK {i:Nat} {t t':TypeId} {b o:Nat} {cs:List Value} {v:Value} (cs':List Value) (hb:Box w b t cs) (h:storeAt n ops i e=some (t',⟨b,o,none⟩,v))
 (hs:(GM P t' v.cells.size&&Nat.ble (o+v.cells.size) cs.length&&v.cells.toList.all EH)=true) (hc:BM cs o v.cells.toList=cs')
 (H:∀ w1,Ext w w1→∀ w2,Chg (Go.Proofs.YtganlmloonielaaGreat.one b) w1 w2→Box w2 b t cs'→w2.heap.size=w1.heap.size→Chg S w1 w2∧GA P S n m L ops (i::l) (BL e (An ops i).dst undef) w2):GE P S n m L ops l i e w:=fun w1 hx=>by
 simp only [AR] at hs
 obtain ⟨w',hr,hb',hx2,hsz⟩:=(hb.ext hx).store (P:=P) (t':=t') (o:=o) (v:=v) hs.1.1 (Nat.le_of_ble_eq_true hs.1.2) hs.2
 rw [hc] at hb'
 rw [JH h hr]
 obtain ⟨h1,h2⟩:=H w1 hx w' hx2 hb' hsz
 exact ⟨h1,h2⟩
end
theorem MP (s:ByteArray):∀ n i acc,n=s.size - i→ByteArray.toList.loop s i acc=acc.reverse++s.data.toList.drop i:=by
 intro n
 induction n with
 | zero =>
   intro i acc h
   unfold ByteArray.toList.loop
   have hs:s.size=s.data.toList.length:=rfl
   rw [if_neg AB,List.drop_of_length_le AB]
   simp
 | succ n ih =>
   intro i acc h
   unfold ByteArray.toList.loop
   have hs:s.size=s.data.toList.length:=rfl
   rw [if_pos AB,ih _ _ AB]
   rw [List.drop_eq_getElem_cons (by omega:i< s.data.toList.length)]
   have:s.get! i=s.data.toList[i]' AB:=by
    have hi:i< s.data.size:=by simpa using (by omega:i< s.data.toList.length)
    show s.data[i]! = _
    rw [getElem!_pos s.data i hi]
    simp
   rw [this]
   simp
theorem Ce (s:Str):(bs s).toList=s:=by
 unfold ByteArray.toList
 rw [MP _ _ 0 [] rfl]
 simp [bs]
theorem Gl (s:Str):(bs s).size=s.length:=by simp [bs,ByteArray.size]
theorem UG (s t:Str):bs s++bs t=bs (s++t):=by
 apply ByteArray.ext
 simp [bs]
theorem UH {s t:Str} (h:bs s=bs t):s=t:=by
 have:=congrArg (fun b:ByteArray=>b.data.toList) h
 simpa [bs] using this
theorem UI (s t:Str):(bs s==bs t)=(s==t):=by
 rw [Bool.eq_iff_iff,Go.MapKept.bytes_beq,beq_iff_eq]
 exact ⟨UH,fun h=>by rw [h]⟩
def Bq (s t:Str):Bool:=Op.bytesLess s t
def Ev (s t:Str):Bool:=Op.bytesLess s t || s==t
theorem SX (s t:Str):Value.bool ((bs s).toList==(bs t).toList)=.bool (s==t):=by rw [Ce,Ce]
theorem SY (s t:Str):Value.bool (!((bs s).toList==(bs t).toList))=.bool (!(s==t)):=by rw [Ce,Ce]
theorem UJ (s t:Str):Value.bool (Op.bytesLess (bs s).toList (bs t).toList)=.bool (Bq s t):=by rw [Ce,Ce]; rfl
theorem VN (s t:Str):Value.bool (Op.bytesLess (bs s).toList (bs t).toList || (bs s).toList==(bs t).toList)=.bool (Ev s t):=by rw [Ce,Ce]; rfl
theorem V7 (s t:Str):Value.bool (!(Op.bytesLess (bs s).toList (bs t).toList || (bs s).toList==(bs t).toList))=.bool (!Ev s t):=by rw [Ce,Ce]; rfl
theorem SZ (s t:Str):Value.bool (!(Op.bytesLess (bs s).toList (bs t).toList))=.bool (!Bq s t):=by rw [Ce,Ce]; rfl
theorem G7 (s:Str):Value.int .i64 ((bs s).size:Int)=.int .i64 (s.length:Int):=by rw [Gl]
def ltG (G:Nat→Prop) (s b:Nat):Prop:=G b∧b< s
class Nb (a b:Nat):Prop where ne:a≠b
def Gb (s b:Nat):Prop:=s≤b
class Cov (L:Nat→Prop) (w:World) (b:Nat):Prop where or:L b∨w.heap.size≤b
def OrB (r r0 s:Nat):Prop:=r=r0∨s≤r
theorem Dt {α:Type} {xs:List α} {i:Nat} {x:α} (h:xs[i]? = some x):0< xs.length:=by
 obtain ⟨h1,_⟩:=List.getElem?_eq_some_iff.1 h
 omega
theorem all_nil {p:Nat→Prop}:∀ b∈([]:List Nat),p b:=fun _ h=>by cases h
theorem all_cons {p:Nat→Prop} {a:Nat} {l:List Nat} (h:p a) (hl:∀ b∈l,p b):∀ b∈a::l,p b:=fun b hb=>by
 rcases List.mem_cons.1 hb with rfl | hb
 ·exact h
 ·exact hl b hb
section
variable {a b x r r0 r2 s sz:Nat} {w w' base:World} {L:Nat→Prop}
instance:CoeFun (Nb a b) (fun _=>a=b→False):=⟨fun h=>h.ne⟩
instance:Coe (Nb a b) (a≠b):=⟨fun h=>h.ne⟩
instance:Coe (a≠b) (Nb a b):=⟨Nb.mk⟩
instance:Coe (Cov (Go.Proofs.YtganlmloonielaaGreat.one a) w b) (OrB b a w.heap.size):=⟨fun h=>h.or⟩
theorem Nb.symm (h:Nb a b):Nb b a:=⟨Ne.symm h.ne⟩
theorem Nb.one (h:Nb a b):¬ one b a:=h.ne
theorem AS (hb:b=s) (hx:x< s):Nb b x:=⟨by omega⟩
theorem Ab (hb:s≤b) (hx:x< s):Nb b x:=⟨by omega⟩
theorem Ae (h:r2=r∨r2=s) (h1:Nb r x) (h2:x< s):Nb r2 x:=⟨by have:=h1.ne; omega⟩
theorem Aw (h:OrB r r0 s) (h1:Nb r0 x) (h2:x< s):Nb r x:=⟨by have:=h1.ne; unfold OrB at h; omega⟩
theorem Ad (hb:b=sz) (hs:s≤sz):Gb s b:=by unfold Gb; omega
theorem Bd (hb:sz≤b) (hs:s≤sz):Gb s b:=by unfold Gb; omega
theorem Bt (h:r2=r∨r2=sz) (h1:Gb s r) (h2:s≤sz):Gb s r2:=by unfold Gb at *; omega
theorem Bv (h:OrB r r0 sz) (h1:Gb s r0) (h2:s≤sz):Gb s r:=by unfold Gb OrB at *; omega
theorem Bc (hb:b=sz) (hs:base.heap.size≤sz):Cov L base b:=⟨.inr AB⟩
theorem BR (hb:sz≤b) (hs:base.heap.size≤sz):Cov L base b:=⟨.inr AB⟩
theorem Am (h:r2=r∨r2=sz) (h1:Cov L base r) (h2:base.heap.size≤sz):Cov L base r2:=by
 rcases h with rfl | rfl
 ·exact h1
 ·exact ⟨.inr h2⟩
theorem Ar (h:OrB r r0 sz) (h1:Cov L base r0) (h2:base.heap.size≤sz):Cov L base r:=by
 rcases h with rfl | h
 ·exact h1
 ·exact ⟨.inr (Nat.le_trans h2 h)⟩
theorem Bo (h:r2=r∨r2=sz) (h1:OrB r r0 s) (h2:s≤sz):OrB r2 r0 s:=by unfold OrB at *; omega
theorem OP (h:OrB r2 r sz) (h1:OrB r r0 s) (h2:s≤sz):OrB r2 r0 s:=by unfold OrB at *; omega
theorem BJ:OrB r r s:=.inl rfl
theorem Chg.Cc {c d:World} (h:Chg L base c) (h':Ext c d):Chg L base d:=Chg.step h h' (fun _ h _=>h.elim)
theorem Chg.Ew {c d:World} (h:Chg L base c) (h':Chg (Go.Proofs.YtganlmloonielaaGreat.one b) c d) (hc:Cov L base b):Chg L base d :=
 Chg.step h h' (fun k hk hlt=>by cases hk; exact hc.or.resolve_right AB)
theorem Chg.CY {K:List Nat} {c d:World} (h:Chg L base c) (h':Chg (ins K) c d) (hc:∀ b∈K,Cov L base b):Chg L base d :=
 Chg.step h h' (fun k hk hlt=>(hc k hk).or.resolve_right AB)
theorem Cov.toS {K:List Nat} (h:Cov (mtb K w.heap.size) w b):mtb K w.heap.size b:=h.or.elim id .inr
theorem Chg.toS {K:List Nat} (h:Chg (Go.Proofs.YtganlmloonielaaGreat.one b) w w') (hc:mtb K s b):Chg (mtb K s) w w':=h.CJ (fun k _ hk=>by cases hk; exact hc)
variable {M M' M2 A B:List Nat}
theorem Mv.ext (hx:Ext w w'):Mv M M w w':=Mv.mk hx (fun _ _ h=>⟨h,fun h=>h⟩)
theorem Mv.cons (hm:Mv M M' w w') (hs:w.heap.size≤b):Mv M (b::M') w w':=fun k hk hk'=>⟨by
 intro h
 rcases List.mem_cons.1 h with rfl | h
 ·omega
 ·exact (hm k hk hk').1 h,(hm k hk hk').2⟩
theorem Mv.on (hx:Chg (Go.Proofs.YtganlmloonielaaGreat.one b) w w') (hb:b∈M):Mv M M w w':=Mv.mk hx (fun k _ h=>⟨h,fun e=>h (by cases e; exact hb)⟩)
theorem Mv.app (A B:List Nat) (hx:Chg (Go.Proofs.YtganlmloonielaaGreat.one r) w w') (h:r2=r∨r2=w.heap.size):Mv (A++r::B) (A++r2::B) w w':=Mv.mk hx (fun k hk hm=>by
 simp only [List.mem_append,List.mem_cons,not_or] at hm ⊢
 exact ⟨⟨hm.1,by omega,hm.2.2⟩,hm.2.1⟩)
theorem Mv.inl {K:List Nat} (hx:Chg (ins K) w w') (hK:∀ b∈K,b∈M) (h2:∀ b∈M2,b∈M∨w.heap.size≤b):Mv M M2 w w':=Mv.mk hx (fun k hk hm =>
 ⟨fun h=>(h2 k h).elim hm (fun h=>by omega),fun h=>hm (hK k h)⟩)
theorem Mv.drop (A B:List Nat):Mv (A++r::B) (A++B) w w:=fun k _ hm=>⟨by
 simp only [List.mem_append,List.mem_cons,not_or] at hm ⊢
 exact ⟨hm.1,hm.2.2⟩,rfl⟩
theorem Mv.less (h:∀ b∈M',b∈M):Mv M M' w w:=fun k _ hm=>⟨fun h'=>hm (h k h'),rfl⟩
theorem BV (h:OrB r r0 s) (hm:r0∈M):r∈M∨s≤r:=by
 rcases h with rfl | h
 ·exact .inl hm
 ·exact .inr h
theorem FQ {G:Nat→Prop} (hr:r∈M) (h:nin G M b):nin G M b∧b≠r:=⟨h,fun e=>h.2 (e▸hr)⟩
theorem BG {G:Nat→Prop} (hg:G b) (hn:∀ x∈M,Nb b x) (hr:Nb b r):nin G M b∧b≠r:=⟨⟨hg,fun h=>(hn b h).ne rfl⟩,hr.ne⟩
theorem Ax {K:List Nat} (h1:∀ x∈K,Nb b x) (h2:b< s):¬ mtb K s b:=fun h=>h.elim (fun h=>(h1 b h).ne rfl) (fun h=>by omega)
section
variable {α:Type} [Rep α] {G:Nat→Prop} {o:Option Addr} {n c:Nat} {t:TypeId} {xs:List α}
theorem RepS.Aa {F:Nat→Prop} {s':Nat} (h:RepS w (fo (nin (fo F s') M) s) o n c xs) (hM:∀ b∈M,b< s) (hs:s'≤s):RepS w (nin (fo F s') M) o n c xs :=
 h.mixed (fun b hb=>⟨hM b hb,hb⟩) hs
theorem Own.Aa {F:Nat→Prop} {s':Nat} (h:Own w r t (fo (nin (fo F s') M) s) n c xs) (hM:∀ b∈M,b< s) (hs:s'≤s):Own w r t (nin (fo F s') M) n c xs :=
 h.CJ fun b _ hF=>by
  rcases hF with hF | hF
  ·exact hF
  ·exact ⟨.inr (Nat.le_trans hs hF),fun hm=>by have:=hM b hm; omega⟩
theorem RepS.nS {K:List Nat} (h:RepS w (nin (ltG G s) M) o n c xs) (hn:0< n) (hL:∀ x∈K,x∈M):¬ mtb K s (blk o):=fun hk =>
 have hF:=h.inF hn
 hk.elim (fun hb=>hF.2 (hL _ hb)) (fun hb=>by have:=hF.1.2; omega)
theorem RepS.JQ {K:List Nat} (h:RepS w (nin (ltG G s) M) o n c xs) (hx:Chg (mtb K s) w w') (hL:∀ x∈K,x∈M):RepS w' all o n c xs :=
 (h.chg hx (fun b hF hk=>hk.elim (fun hb=>hF.2 (hL _ hb)) (fun hb=>by have:=hF.1.2; omega))).CJ (fun _ _ _=>trivial)
theorem RepS.Ah (h:RepS w (nin G M) o n c xs):RepS w (nin (ltG G w.heap.size) M) o n c xs:=h.CJ (fun b hb hF=>⟨⟨hF.1,hb⟩,hF.2⟩)
theorem RepS.AU (h:RepS w (nin (ltG G s) M) o n c xs):RepS w (nin G M) o n c xs:=h.base (fun _ _ h=>h.1)
end
end
section
variable {α:Type} [Rep α] {w:World} {G F:Nat→Prop} {M M' rs:List Nat} {o:Option Addr} {n c r s s0 s':Nat} {t:TypeId} {xs ys:List α}
theorem RepS.eqx (h:RepS w F o n c xs) (e:xs=ys):RepS w F o n c ys:=e▸h
theorem Own.eqx (h:Own w r t F n c xs) (e:xs=ys):Own w r t F n c ys:=e▸h
theorem RepS.BI (h:RepS w (nin G M) o n c xs) (hs:∀ b∈M',b∈M):RepS w (nin G M') o n c xs:=h.CJ fun k _ hk=>⟨hk.1,fun e=>hk.2 (hs k e)⟩
theorem Own.BI (h:Own w r t (nin G M) n c xs) (hs:∀ b∈M',b∈M):Own w r t (nin G M') n c xs:=h.CJ fun k _ hk=>⟨hk.1,fun e=>hk.2 (hs k e)⟩
theorem MQ {k:Nat} (h:nin (ge s) rs k) (hM:∀ b∈M,b< s) (hs:s0≤s):nin (ge s0) (rs++M) k:=⟨Nat.le_trans hs h.1,fun hm=>by
 rcases List.mem_append.1 hm with hm | hm
 ·exact h.2 hm
 ·have h1:=hM k hm
  have h2:s≤k:=h.1
  omega⟩
theorem RepS.BC (h:RepS w (nin (ge s) rs) o n c xs) (hM:∀ b∈M,b< s) (hs:s0≤s):RepS w (nin (ge s0) (rs++M)) o n c xs:=h.CJ fun _ _ hk=>MQ hk hM hs
theorem Own.BC (h:Own w r t (nin (ge s) rs) n c xs) (hM:∀ b∈M,b< s) (hs:s0≤s):Own w r t (nin (ge s0) (rs++M)) n c xs:=h.CJ fun _ _ hk=>MQ hk hM hs
end
end Go.Proofs.YtganlmloonielaaGreat
namespace Go.Proofs.YtganlmloonielaaGreat
section
variable {α:Type} [Rep α] {w:World} {F:Nat→Prop} {a:Option Addr} {n c l h:Nat} {xs:List α}
theorem RepS.sub (hr:RepS w F a n c xs) (hlh:l≤h) (hh:h≤n):RepS w F (if c=l then a else a.map (·.add (l * Rep.sz α))) (h - l) (c - l) ((xs.take h).drop l):=by
 have hlen:=hr.len
 have hle:=hr.le
 by_cases he:h=l
 ·subst he
  rw [Nat.sub_self,List.drop_of_length_le (by rw [List.length_take]; omega)]
  exact RepS.Ag _ _ _ _ (by have:=hr.cap; omega)
 ·have hcl:c≠l:=by omega
  rw [if_neg hcl]
  have ha:=hr.addr AB
  have hsome:(a.map (·.add (l * Rep.sz α)))=some ⟨blk a,off a+l * Rep.sz α,none⟩:=by
   rw [ha]
   simp [add_lit,blk,off]
  rw [hsome]
  refine ⟨by rw [List.length_drop,List.length_take]; omega,by omega,by have:=hr.cap; omega,fun _=>rfl,fun _=>hr.inF AB,fun i x hx=>?_⟩
  rw [List.getElem?_drop,List.getElem?_take] at hx
  split at hx
  ·obtain ⟨cs,h1,h2⟩:=hr.elem (l+i) x hx
   refine ⟨cs,h1,?_⟩
   have:off (some (⟨blk a,off a+l * Rep.sz α,none⟩:Addr))+i * Rep.sz α=off a+(l+i) * Rep.sz α:=by
    simp only [off,Nat.add_mul]
    omega
   rw [this]
   exact h2
  ·cases hx
end
section
variable {P:Program}
def JR (P:Program) (t:TypeId):Bool:=match P.underlying t with | some .string=>true | _=>false
theorem Gm {t:TypeId} (h:JR P t=true):P.underlying t=some .string:=by
 unfold JR at h; split at h <;> simp_all
theorem MR {t:TypeId} {s:Str} {k:IntKind} {i:Int} {x:UInt8} (i':Nat) (ht:JR P t=true) (hi:i=(i':Int)) (hx:s[i']? = some x) (w:World) :
 (Instr.index t (.string (bs s)) (.int k i)).run P w=.ok (.int .u8 (x.toNat:Int)) w:=by
 subst hi
 have hu:=Gm ht
 have hs:(bs s)[i']? = some x:=by
  obtain ⟨h1,h2⟩:=List.getElem?_eq_some_iff.1 hx
  have h3:i'< (bs s).size:=by rw [Gl]; exact h1
  rw [getElem?_pos (bs s) i' h3]
  congr 1
 unfold Instr.index
 have h1:(asIntOf (.int k (i':Int))).run P w=.ok (k,(i':Int)) w:=rfl
 rw [AW h1]
 simp only []
 rw [AW (show (underlying t).run P w=.ok .string w by simp [underlying,hu,go_sem])]
 simp [hs,go_sem]
theorem OQ {t:TypeId} {x y:Operand} {s u:Str} (h:s.length+u.length≤9000000000000000000) (w:World) :
 (do eqGuard .add t x y (.string (bs s)) (.string (bs u)); binOp .add t (.string (bs s)) (.string (bs u))).run P w=.ok (.string (bs (s++u))) w:=by
 have h1:(eqGuard .add t x y (.string (bs s)) (.string (bs u))).run P w=.ok () w:=rfl
 rw [AW h1]
 have hle:¬ (((bs s).size+(bs u).size:Nat):Int) > IntKind.i64.max:=by
  rw [Gl,Gl]
  have:IntKind.i64.max=9223372036854775807:=by decide
  rw [this]
  omega
 simp only [binOp,Op.stringOp,if_neg hle]
 rw [UG]
 rfl
theorem OR {k:IntKind} {t:TypeId} {x y:Operand} {a b:Int} (hb:b≠0) (w:World) :
 (do eqGuard .rem t x y (.int k a) (.int k b); binOp .rem t (.int k a) (.int k b)).run P w=.ok (.int k (a.tmod b)) w:=by
 have h1:(eqGuard .rem t x y (.int k a) (.int k b)).run P w=.ok () w:=rfl
 rw [AW h1]
 simp [binOp,Op.intDiv,hb,go_sem]
theorem OS {t:TypeId} {x y:Operand} {a b:Int} (hb:b≠0) (hr:-9223372036854775808≤a.tdiv b∧a.tdiv b≤9223372036854775807) (w:World) :
 (do eqGuard .quo t x y (.int .i64 a) (.int .i64 b); binOp .quo t (.int .i64 a) (.int .i64 b)).run P w=.ok (.int .i64 (a.tdiv b)) w:=by
 have h1:(eqGuard .quo t x y (.int .i64 a) (.int .i64 b)).run P w=.ok () w:=rfl
 rw [AW h1]
 simp [binOp,Op.intDiv,hb,go_sem,IntWalk.i64_in _ hr]
def bnd (o:Option Value) (d l:Nat):Prop:=o=none∧l=d∨∃ k i,o=some (.int k i)∧i=(l:Int)
theorem EK {k:IntKind} {i:Int} {l y:Nat} {code:BoundsCode} (hi:i=(l:Int)) (hl:l≤y) (w:World):(Instr.sliceBound (.int k i) y code).run P w=.ok l w:=by
 subst hi
 unfold Instr.sliceBound
 have h1:(asIntOf (.int k (l:Int))).run P w=.ok (k,(l:Int)) w:=rfl
 rw [AW h1]
 have h2:(0:Int)≤(l:Int)∧(l:Int)≤(y:Int):=by omega
 simp only [h2,and_self,if_true]
 simp [go_sem]
theorem J0 {b:Bool} {len cap l h:Nat} {lo hi:Option Value} (hlo:bnd lo 0 l) (hhi:bnd hi len h) (hlh:l≤h) (hh:h≤cap) (w:World) :
 (Instr.sliceBounds b len cap lo hi none).run P w=.ok (l,h,cap) w:=by
 unfold Instr.sliceBounds
 rcases hlo with ⟨rfl,rfl⟩ | ⟨k,i,rfl,hi1⟩ <;> rcases hhi with ⟨rfl,rfl⟩ | ⟨k2,i2,rfl,hi2⟩
 ·simp [go_sem]
 ·simp only [pure_bind]
  rw [AW (EK hi2 hh w)]
  simp [go_sem]
 ·simp only [pure_bind]
  rw [AW (EK hi1 hlh w)]
  simp [go_sem]
 ·simp only [pure_bind]
  rw [AW (EK hi2 hh w),AW (EK hi1 hlh w)]
  simp [go_sem]
theorem MS {t:TypeId} {s:Str} {l h:Nat} {lo hi:Option Value} (ht:JR P t=true) (hlo:bnd lo 0 l) (hhi:bnd hi s.length h) (hlh:l≤h) (hh:h≤s.length) (w:World) :
 (Instr.sliceAt t (.string (bs s)) lo hi none).run P w=.ok (.string (bs ((s.take h).drop l))) w:=by
 have hu:=Gm ht
 have hun:(underlying t).run P w=.ok .string w:=by simp [underlying,hu,go_sem]
 unfold Instr.sliceAt
 rw [AW hun]
 unfold Instr.slice
 rw [AW hun]
 have hb:=J0 (P:=P) (b:=false) hlo (len:=(bs s).size) (cap:=(bs s).size) (by rw [Gl]; exact hhi) hlh (by rw [Gl]; exact hh) w
 simp only [Option.isSome_none,Bool.false_eq_true,if_false,pure_bind]
 rw [AW hb]
 have hx:(bs s).extract l h=bs ((s.take h).drop l):=by
  apply ByteArray.ext
  simp [bs,ByteArray.data_extract]
  exact List.drop_take.symm
 simp only []
 rw [hx]
 rfl
def Ki (P:Program) (t:TypeId) (sz:Nat):Bool:=match P.underlying t with | some (.slice e)=>(match P.info? e with | some i=>Nat.beq i.size sz | none=>false) | _=>false
theorem Gn {t:TypeId} {sz:Nat} {a:Option Addr} {len cap l h:Nat} {lo hi:Option Value} (ht:Ki P t sz=true) (hlo:bnd lo 0 l) (hhi:bnd hi len h) (hlh:l≤h) (hh:h≤cap) (w:World) :
 (Instr.sliceAt t (.slice a len cap) lo hi none).run P w=.ok (.slice (if cap=l then a else a.map (·.add (l * sz))) (h - l) (cap - l)) w:=by
 unfold Ki at ht
 split at ht
 ·rename_i e hu
  split at ht
  ·rename_i i hi'
   have hsz:=Nat.eq_of_beq_eq_true ht
   have hun:(underlying t).run P w=.ok (.slice e) w:=by simp [underlying,hu,go_sem]
   unfold Instr.sliceAt
   rw [AW hun]
   simp only []
   unfold Instr.slice
   rw [AW hun]
   simp only []
   rw [AW (J0 (P:=P) (b:=true) hlo hhi hlh hh w)]
   simp only []
   rw [AW (show (sizeOf e).run P w=.ok i.size w by simp [sizeOf,typeInfo,hi',go_sem])]
   rw [hsz]
   rfl
  ·cases ht
 ·cases ht
def Kj (P:Program) (t:TypeId):Bool :=
 (match P.underlying t with
  | some (.struct fs) => (match fs.toList with
    | [f,g]=>f.name != "_" && g.name != "_" && JR P f.type&&JR P g.type&&Nat.beq f.offset 0&&Nat.beq g.offset 1
    | _=>false)
  | _=>false) && !P.stoodInHeld t && !P.eqGuardType P.depth t
theorem G8 {d:Nat} {t:TypeId} {s u:Str} (ht:JR P t=true) (w:World):(Op.equalIn (d+1) t (.string (bs s)) (.string (bs u))).run P w=.ok (s==u) w:=by
 have hu:=Gm ht
 have hun:(underlying t).run P w=.ok .string w:=by simp [underlying,hu,go_sem]
 unfold Op.equalIn
 rw [AW hun]
 simp only []
 rw [UI]
 rfl
theorem Em {t:TypeId} {cs:Array Value} {o:Nat} {v:Value} (ht:JR P t=true) (hv:cs[o]? = some v) (w:World):(part t cs o).run P w=.ok v w:=by
 have hu:=Gm ht
 have hsc:Cn P t=true:=by unfold Cn; rw [hu]
 unfold part
 rw [AW (Dc hsc w)]
 simp [hv,go_sem]
theorem Fs {t:TypeId} {op:BinOp} {x y:Operand} {cs cs':Array Value} (ht:(!P.eqGuardType P.depth t)=true) (w:World):(eqGuard op t x y (.agg cs) (.agg cs')).run P w=.ok () w:=by
 simp only [Bool.not_eq_true'] at ht
 unfold eqGuard
 cases op <;> simp [ht,go_sem,run_program]
theorem G9 {t:TypeId} {k v k' v':Str} (ht:Kj P t=true) (w:World) :
 (Op.equal t (.agg #[.string (bs k),.string (bs v)]) (.agg #[.string (bs k'),.string (bs v')])).run P w=.ok (k==k'&&v==v') w:=by
 unfold Kj at ht
 simp only [AR,Bool.not_eq_true'] at ht
 obtain ⟨⟨h1,h2⟩,h3⟩:=ht
 split at h1
 ·rename_i fs hu
  split at h1
  ·rename_i f g hfg
   simp only [AR] at h1
   obtain ⟨⟨⟨⟨⟨a1,a2⟩,a3⟩,a4⟩,a5⟩,a6⟩:=h1
   have a5':=Nat.eq_of_beq_eq_true a5
   have a6':=Nat.eq_of_beq_eq_true a6
   have hun:(underlying t).run P w=.ok (.struct fs) w:=by simp [underlying,hu,go_sem]
   have hfs:fs = #[f,g]:=Array.toList_inj.1 (by simpa using hfg)
   subst hfs
   unfold Op.equal
   rw [show Op.maxDepth=9999+1 from rfl]
   unfold Op.equalIn
   rw [AW hun]
   simp only []
   have hp:(program:Sem Program).run P w=.ok P w:=run_program P w
   rw [AW hp]
   simp only [h2,Bool.false_eq_true,if_false]
   have e1:=fun (w:World)=>Em (P:=P) (t:=f.type) (cs:=#[.string (bs k),.string (bs v)]) (o:=f.offset) (v:=.string (bs k)) a3 (by rw [a5']; rfl) w
   have e2:=fun (w:World)=>Em (P:=P) (t:=f.type) (cs:=#[.string (bs k'),.string (bs v')]) (o:=f.offset) (v:=.string (bs k')) a3 (by rw [a5']; rfl) w
   have e3:=fun (w:World)=>Em (P:=P) (t:=g.type) (cs:=#[.string (bs k),.string (bs v)]) (o:=g.offset) (v:=.string (bs v)) a4 (by rw [a6']; rfl) w
   have e4:=fun (w:World)=>Em (P:=P) (t:=g.type) (cs:=#[.string (bs k'),.string (bs v')]) (o:=g.offset) (v:=.string (bs v')) a4 (by rw [a6']; rfl) w
   have e5:=G8 (P:=P) (d:=9998) (t:=f.type) (s:=k) (u:=k') a3
   have e6:=G8 (P:=P) (d:=9998) (t:=g.type) (s:=v) (u:=v') a4
   have c1:(f.name ≠ "_")=True:=by simpa using a1
   have c2:(g.name ≠ "_")=True:=by simpa using a2
   simp only [List.forIn_toArray,Array.forIn_toList,List.forIn_cons,List.forIn_nil,c1,c2,if_true,bind_assoc]
   rw [AW (e1 w),AW (e2 w),AW (e5 w)]
   cases hk:(k==k') with
   | false=>simp [go_sem]
   | true =>
     simp only [Bool.not_true,Bool.false_eq_true,if_false,pure_bind,bind_assoc]
     rw [AW (e3 w),AW (e4 w),AW (e6 w)]
     cases hv:(v==v') <;> simp [go_sem]
  ·cases h1
 ·cases h1
def NU (P:Program) (t:TypeId):Bool:=match P.underlying t with | some (.int _)=>true | _=>false
def Ln (P:Program) (t:TypeId):Bool :=
 (match P.underlying t with
  | some (.struct fs) => (match fs.toList with
    | [f,g]=>f.name != "_" && g.name != "_" && NU P f.type&&NU P g.type&&Nat.beq f.offset 0&&Nat.beq g.offset 1
    | _=>false)
  | _=>false) && !P.stoodInHeld t && !P.eqGuardType P.depth t
theorem FR {d:Nat} {t:TypeId} {s u:Int} (ht:NU P t=true) (w:World):(Op.equalIn (d+1) t (.int .i64 s) (.int .i64 u)).run P w=.ok (s==u) w:=by
 unfold NU at ht
 split at ht
 ·rename_i k hu
  have hun:(underlying t).run P w=.ok (.int k) w:=by simp [underlying,hu,go_sem]
  unfold Op.equalIn
  rw [AW hun]
  simp [go_sem]
 ·cases ht
theorem DN {t:TypeId} {cs:Array Value} {o:Nat} {v:Value} (ht:NU P t=true) (hv:cs[o]? = some v) (w:World):(part t cs o).run P w=.ok v w:=by
 unfold NU at ht
 split at ht
 ·rename_i k hu
  have hsc:Cn P t=true:=by unfold Cn; rw [hu]
  unfold part
  rw [AW (Dc hsc w)]
  simp [hv,go_sem]
 ·cases ht
theorem F6 {d:Nat} {t:TypeId} {k v k' v':Int} (ht:Ln P t=true) (w:World) :
 (Op.equalIn (d+2) t (.agg #[.int .i64 k,.int .i64 v]) (.agg #[.int .i64 k',.int .i64 v'])).run P w=.ok (k==k'&&v==v') w:=by
 unfold Ln at ht
 simp only [AR,Bool.not_eq_true'] at ht
 obtain ⟨⟨h1,h2⟩,h3⟩:=ht
 split at h1
 ·rename_i fs hu
  split at h1
  ·rename_i f g hfg
   simp only [AR] at h1
   obtain ⟨⟨⟨⟨⟨a1,a2⟩,a3⟩,a4⟩,a5⟩,a6⟩:=h1
   have a5':=Nat.eq_of_beq_eq_true a5
   have a6':=Nat.eq_of_beq_eq_true a6
   have hun:(underlying t).run P w=.ok (.struct fs) w:=by simp [underlying,hu,go_sem]
   have hfs:fs = #[f,g]:=Array.toList_inj.1 (by simpa using hfg)
   subst hfs
   unfold Op.equalIn
   rw [AW hun]
   simp only []
   have hp:(program:Sem Program).run P w=.ok P w:=run_program P w
   rw [AW hp]
   simp only [h2,Bool.false_eq_true,if_false]
   have e1:=fun (w:World)=>DN (P:=P) (t:=f.type) (cs:=#[.int .i64 k,.int .i64 v]) (o:=f.offset) (v:=.int .i64 k) a3 (by rw [a5']; rfl) w
   have e2:=fun (w:World)=>DN (P:=P) (t:=f.type) (cs:=#[.int .i64 k',.int .i64 v']) (o:=f.offset) (v:=.int .i64 k') a3 (by rw [a5']; rfl) w
   have e3:=fun (w:World)=>DN (P:=P) (t:=g.type) (cs:=#[.int .i64 k,.int .i64 v]) (o:=g.offset) (v:=.int .i64 v) a4 (by rw [a6']; rfl) w
   have e4:=fun (w:World)=>DN (P:=P) (t:=g.type) (cs:=#[.int .i64 k',.int .i64 v']) (o:=g.offset) (v:=.int .i64 v') a4 (by rw [a6']; rfl) w
   have e5:=FR (P:=P) (d:=d) (t:=f.type) (s:=k) (u:=k') a3
   have e6:=FR (P:=P) (d:=d) (t:=g.type) (s:=v) (u:=v') a4
   have c1:(f.name ≠ "_")=True:=by simpa using a1
   have c2:(g.name ≠ "_")=True:=by simpa using a2
   simp only [List.forIn_toArray,Array.forIn_toList,List.forIn_cons,List.forIn_nil,c1,c2,if_true,bind_assoc]
   rw [AW (e1 w),AW (e2 w),AW (e5 w)]
   cases hk:(k==k') with
   | false=>simp [go_sem]
   | true =>
     simp only [Bool.not_true,Bool.false_eq_true,if_false,pure_bind,bind_assoc]
     rw [AW (e3 w),AW (e4 w),AW (e6 w)]
     cases hv:(v==v') <;> simp [go_sem]
  ·cases h1
 ·cases h1
theorem Kk {t:TypeId} {k v k' v':Int} (ht:Ln P t=true) (w:World) :
 (Op.equal t (.agg #[.int .i64 k,.int .i64 v]) (.agg #[.int .i64 k',.int .i64 v'])).run P w=.ok (k==k'&&v==v') w:=F6 (d:=9998) ht w
theorem QH {t:TypeId} (h:Kj P t=true):(!P.eqGuardType P.depth t)=true:=by unfold Kj at h; simp only [AR] at h; exact h.2
theorem UL {t:TypeId} (h:Ln P t=true):(!P.eqGuardType P.depth t)=true:=by unfold Ln at h; simp only [AR] at h; exact h.2
theorem K1 {t:TypeId} {x y:Operand} {k v k' v':Str} (ht:Kj P t=true) (w:World) :
 (do eqGuard .eql t x y (.agg #[.string (bs k),.string (bs v)]) (.agg #[.string (bs k'),.string (bs v')]); binOp .eql t (.agg #[.string (bs k),.string (bs v)]) (.agg #[.string (bs k'),.string (bs v')])).run P w
  = .ok (.bool (k==k'&&v==v')) w:=by
 rw [AW (Fs (QH ht) w)]
 simp only [binOp]
 rw [AW (G9 ht w)]
 rfl
theorem K2 {t:TypeId} {x y:Operand} {k v k' v':Str} (ht:Kj P t=true) (w:World) :
 (do eqGuard .neq t x y (.agg #[.string (bs k),.string (bs v)]) (.agg #[.string (bs k'),.string (bs v')]); binOp .neq t (.agg #[.string (bs k),.string (bs v)]) (.agg #[.string (bs k'),.string (bs v')])).run P w
  = .ok (.bool (!(k==k'&&v==v'))) w:=by
 rw [AW (Fs (QH ht) w)]
 simp only [binOp]
 rw [AW (G9 ht w)]
 rfl
theorem K3 {t:TypeId} {x y:Operand} {k v k' v':Int} (ht:Ln P t=true) (w:World) :
 (do eqGuard .neq t x y (.agg #[.int .i64 k,.int .i64 v]) (.agg #[.int .i64 k',.int .i64 v']); binOp .neq t (.agg #[.int .i64 k,.int .i64 v]) (.agg #[.int .i64 k',.int .i64 v'])).run P w
  = .ok (.bool (!(k==k'&&v==v'))) w:=by
 rw [AW (Fs (UL ht) w)]
 simp only [binOp]
 rw [AW (Kk ht w)]
 rfl
theorem OU (x y:Row):(x==y)=(x.t==y.t&&x.v==y.v):=by
 rw [Bool.eq_iff_iff]
 simp only [beq_iff_eq,AR]
 constructor
 ·rintro rfl; exact ⟨rfl,rfl⟩
 ·rintro ⟨h1,h2⟩; cases x; cases y; simp_all
theorem Jk (x y:Tag):(x==y)=(x.key==y.key&&x.val==y.val):=by
 rw [Bool.eq_iff_iff]
 simp only [beq_iff_eq,AR]
 constructor
 ·rintro rfl; exact ⟨rfl,rfl⟩
 ·rintro ⟨h1,h2⟩; cases x; cases y; simp_all
def Eg (n:Nat) (ops:Array Oper) (j:Nat) (e:Env):Option (BinOp × TypeId × Value × Value) :=
 bif Ca n ops j e then
  match (An ops j).op with
  | .binOp op t x y _=>some (op,t,ev e x,ev e y)
  | _=>none
 else none
def NW (n:Nat) (ops:Array Oper) (j:Nat) (e:Env):Option (TypeId × Value × Value) :=
 bif Ca n ops j e then
  match (An ops j).op with
  | .index t x y=>some (t,ev e x,ev e y)
  | _=>none
 else none
def Hh (n:Nat) (ops:Array Oper) (j:Nat) (e:Env):Option (TypeId × Value × Option Value × Option Value) :=
 bif Ca n ops j e then
  match (An ops j).op with
  | .slice t x lo hi none=>some (t,ev e x,lo.map (ev e),hi.map (ev e))
  | _=>none
 else none
theorem Cy {n:Nat} {ops:Array Oper} {j:Nat} {e:Env} {op:BinOp} {t:TypeId} {a b v:Value} {w:World} (h:Eg n ops j e=some (op,t,a,b))
 (hr:∀ x y,(do eqGuard op t x y a b; binOp op t a b).run P w=.ok v w):Ca n ops j e=true∧(execOp (ev e) (An ops j)).run P w=.ok (.value v) w:=by
 obtain ⟨hg,h⟩:=CW h
 refine ⟨hg,?_⟩
 split at h
 ·rename_i op' t' x y z hop
  simp only [Option.some.injEq,Prod.mk.injEq] at h
  obtain ⟨rfl,rfl,rfl,rfl⟩:=h
  simp only [execOp,hop]
  exact AW (hr x y)
 ·cases h
theorem J1 {n:Nat} {ops:Array Oper} {j:Nat} {e:Env} {t:TypeId} {a b v:Value} {w:World} (h:NW n ops j e=some (t,a,b))
 (hr:(Instr.index t a b).run P w=.ok v w):Ca n ops j e=true∧(execOp (ev e) (An ops j)).run P w=.ok (.value v) w:=by
 obtain ⟨hg,h⟩:=CW h
 refine ⟨hg,?_⟩
 split at h
 ·rename_i t' x y hop
  simp only [Option.some.injEq,Prod.mk.injEq] at h
  obtain ⟨rfl,rfl,rfl⟩:=h
  simp only [execOp,hop]
  exact AW hr
 ·cases h
theorem Dk {n:Nat} {ops:Array Oper} {j:Nat} {e:Env} {t:TypeId} {a v:Value} {lo hi:Option Value} {w:World} (h:Hh n ops j e=some (t,a,lo,hi))
 (hr:(Instr.sliceAt t a lo hi none).run P w=.ok v w):Ca n ops j e=true∧(execOp (ev e) (An ops j)).run P w=.ok (.value v) w:=by
 obtain ⟨hg,h⟩:=CW h
 refine ⟨hg,?_⟩
 split at h
 ·rename_i t' x lo' hi' hop
  simp only [Option.some.injEq,Prod.mk.injEq] at h
  obtain ⟨rfl,rfl,rfl,rfl⟩:=h
  simp only [execOp,hop]
  exact AW hr
 ·cases h
end
section
variable {P:Program} {n:Nat} {K:Env→World→Prop} {ops:Array Oper} {j:Nat} {e:Env} {w:World}
theorem RG.cat {t:TypeId} {s u:Str} (h:Eg n ops j e=some (.add,t,.string (bs s),.string (bs u))) (hl:s.length+u.length≤9000000000000000000)
 (H:RG P n K ops (j+1) (BL e (An ops j).dst (.string (bs (s++u)))) w):RG P n K ops j e w :=
 have h1:=Cy (P:=P) (w:=w) h (fun _ _=>OQ hl w)
 RG.val h1.1 h1.2 H
theorem RG.MU {t:TypeId} {x y:Tag} (h:Eg n ops j e=some (.eql,t,.agg #[.string (bs x.key),.string (bs x.val)],.agg #[.string (bs y.key),.string (bs y.val)])) (ht:Kj P t=true)
 (H:RG P n K ops (j+1) (BL e (An ops j).dst (.bool (x==y))) w):RG P n K ops j e w :=
 have h1:=Cy (P:=P) (w:=w) h (fun _ _=>K1 ht w)
 RG.val h1.1 (by rw [Jk]; exact h1.2) H
theorem RG.OV {t:TypeId} {x y:Tag} (h:Eg n ops j e=some (.neq,t,.agg #[.string (bs x.key),.string (bs x.val)],.agg #[.string (bs y.key),.string (bs y.val)])) (ht:Kj P t=true)
 (H:RG P n K ops (j+1) (BL e (An ops j).dst (.bool (!(x==y)))) w):RG P n K ops j e w :=
 have h1:=Cy (P:=P) (w:=w) h (fun _ _=>K2 ht w)
 RG.val h1.1 (by rw [Jk]; exact h1.2) H
theorem RG.QI {t:TypeId} {x y:Row} (h:Eg n ops j e=some (.neq,t,.agg #[.int .i64 x.t,.int .i64 x.v],.agg #[.int .i64 y.t,.int .i64 y.v])) (ht:Ln P t=true)
 (H:RG P n K ops (j+1) (BL e (An ops j).dst (.bool (!(x==y)))) w):RG P n K ops j e w :=
 have h1:=Cy (P:=P) (w:=w) h (fun _ _=>K3 ht w)
 RG.val h1.1 (by rw [OU]; exact h1.2) H
theorem RG.rem {t:TypeId} {k:IntKind} {a b:Int} (h:Eg n ops j e=some (.rem,t,.int k a,.int k b)) (hb:b≠0)
 (H:RG P n K ops (j+1) (BL e (An ops j).dst (.int k (a.tmod b))) w):RG P n K ops j e w :=
 have h1:=Cy (P:=P) (w:=w) h (fun _ _=>OR hb w)
 RG.val h1.1 h1.2 H
theorem RG.quo {t:TypeId} {a b:Int} (h:Eg n ops j e=some (.quo,t,.int .i64 a,.int .i64 b)) (hb:b≠0) (hr:-9223372036854775808≤a.tdiv b∧a.tdiv b≤9223372036854775807)
 (H:RG P n K ops (j+1) (BL e (An ops j).dst (.int .i64 (a.tdiv b))) w):RG P n K ops j e w :=
 have h1:=Cy (P:=P) (w:=w) h (fun _ _=>OS hb hr w)
 RG.val h1.1 h1.2 H
theorem RG.Lo {t:TypeId} {s:Str} {k:IntKind} {i:Int} {x:UInt8} (i':Nat) (h:NW n ops j e=some (t,.string (bs s),.int k i)) (ht:JR P t=true) (hi:i=(i':Int)) (hx:s[i']? = some x)
 (H:RG P n K ops (j+1) (BL e (An ops j).dst (.int .u8 (x.toNat:Int))) w):RG P n K ops j e w :=
 have h1:=J1 h (MR i' ht hi hx w)
 RG.val h1.1 h1.2 H
theorem RG.Lp {t:TypeId} {s:Str} {lo hi:Option Value} (l h':Nat) (h:Hh n ops j e=some (t,.string (bs s),lo,hi)) (ht:JR P t=true) (hlo:bnd lo 0 l) (hhi:bnd hi s.length h') (hlh:l≤h') (hh:h'≤s.length)
 (H:RG P n K ops (j+1) (BL e (An ops j).dst (.string (bs ((s.take h').drop l)))) w):RG P n K ops j e w :=
 have h1:=Dk h (MS ht hlo hhi hlh hh w)
 RG.val h1.1 h1.2 H
theorem RG.sub {α:Type} [Rep α] {F:Nat→Prop} {xs:List α} {t:TypeId} {a:Option Addr} {len cap:Nat} {lo hi:Option Value} (hr:RepS w F a len cap xs) (l h':Nat) (h:Hh n ops j e=some (t,.slice a len cap,lo,hi)) (ht:Ki P t (Rep.sz α)=true) (hlo:bnd lo 0 l) (hhi:bnd hi len h') (hlh:l≤h') (hh:h'≤len)
 (H:∀ a' c',RepS w F a' (h' - l) c' ((xs.take h').drop l)→RG P n K ops (j+1) (BL e (An ops j).dst (.slice a' (h' - l) c')) w):RG P n K ops j e w :=
 have h1:=Dk h (Gn ht hlo hhi hlh (Nat.le_trans hh hr.le) w)
 RG.val h1.1 h1.2 (H _ _ (hr.sub hlh hh))
end
section
variable {P:Program} {S:Nat→Prop} {n m:Nat} {L:Env→World→Prop} {ops:Array Oper} {l:List Nat} {e:Env} {w:World}
def gB (n m:Nat) (ops:Array Oper) (l:List Nat) (i:Nat):Bool:=DU n m ops l i&&FE ops l i
theorem GA.JS {i:Nat} {v:Value} (hb:gB n m ops l i=true) (hy:∀ w1:World,Ca n ops i e=true∧(execOp (ev e) (An ops i)).run P w1=.ok (.value v) w1) (H:GA P S n m L ops (i::l) (BL e (An ops i).dst v) w):GA P S n m L ops l e w :=
 GA.det (by unfold gB at hb; rw [hb,(hy w).1]; rfl) (fun w1 _=>(hy w1).2) H
theorem GA.sub {α:Type} [Rep α] {F:Nat→Prop} {xs:List α} {i:Nat} {t:TypeId} {a:Option Addr} {len cap:Nat} {lo hi:Option Value} (hb:gB n m ops l i=true) (hr:RepS w F a len cap xs) (l' h':Nat) (h:Hh n ops i e=some (t,.slice a len cap,lo,hi)) (ht:Ki P t (Rep.sz α)=true) (hlo:bnd lo 0 l') (hhi:bnd hi len h') (hlh:l'≤h') (hh:h'≤len)
 (H:∀ a' c',RepS w F a' (h' - l') c' ((xs.take h').drop l')→GA P S n m L ops (i::l) (BL e (An ops i).dst (.slice a' (h' - l') c')) w):GA P S n m L ops l e w :=
 GA.JS hb (fun w=>Dk h (Gn ht hlo hhi hlh (Nat.le_trans hh hr.le) w)) (H _ _ (hr.sub hlh hh))
theorem GA.cat {i:Nat} {t:TypeId} {s u:Str} (hb:gB n m ops l i=true) (h:Eg n ops i e=some (.add,t,.string (bs s),.string (bs u))) (hl:s.length+u.length≤9000000000000000000)
 (H:GA P S n m L ops (i::l) (BL e (An ops i).dst (.string (bs (s++u)))) w):GA P S n m L ops l e w :=
 GA.JS hb (fun w=>Cy h (fun _ _=>OQ hl w)) H
theorem GA.MU {i:Nat} {t:TypeId} {x y:Tag} (hb:gB n m ops l i=true) (h:Eg n ops i e=some (.eql,t,.agg #[.string (bs x.key),.string (bs x.val)],.agg #[.string (bs y.key),.string (bs y.val)])) (ht:Kj P t=true)
 (H:GA P S n m L ops (i::l) (BL e (An ops i).dst (.bool (x==y))) w):GA P S n m L ops l e w :=
 GA.JS hb (fun w=>by rw [Jk]; exact Cy h (fun _ _=>K1 ht w)) H
theorem GA.OV {i:Nat} {t:TypeId} {x y:Tag} (hb:gB n m ops l i=true) (h:Eg n ops i e=some (.neq,t,.agg #[.string (bs x.key),.string (bs x.val)],.agg #[.string (bs y.key),.string (bs y.val)])) (ht:Kj P t=true)
 (H:GA P S n m L ops (i::l) (BL e (An ops i).dst (.bool (!(x==y)))) w):GA P S n m L ops l e w :=
 GA.JS hb (fun w=>by rw [Jk]; exact Cy h (fun _ _=>K2 ht w)) H
theorem GA.QI {i:Nat} {t:TypeId} {x y:Row} (hb:gB n m ops l i=true) (h:Eg n ops i e=some (.neq,t,.agg #[.int .i64 x.t,.int .i64 x.v],.agg #[.int .i64 y.t,.int .i64 y.v])) (ht:Ln P t=true)
 (H:GA P S n m L ops (i::l) (BL e (An ops i).dst (.bool (!(x==y)))) w):GA P S n m L ops l e w :=
 GA.JS hb (fun w=>by rw [OU]; exact Cy h (fun _ _=>K3 ht w)) H
theorem GA.rem {i:Nat} {t:TypeId} {k:IntKind} {a b:Int} (hb:gB n m ops l i=true) (h:Eg n ops i e=some (.rem,t,.int k a,.int k b)) (hb0:b≠0)
 (H:GA P S n m L ops (i::l) (BL e (An ops i).dst (.int k (a.tmod b))) w):GA P S n m L ops l e w :=
 GA.JS hb (fun w=>Cy h (fun _ _=>OR hb0 w)) H
theorem GA.Lo {i:Nat} {t:TypeId} {s:Str} {k:IntKind} {z:Int} {x:UInt8} (hb:gB n m ops l i=true) (i':Nat) (h:NW n ops i e=some (t,.string (bs s),.int k z)) (ht:JR P t=true) (hi:z=(i':Int)) (hx:s[i']? = some x)
 (H:GA P S n m L ops (i::l) (BL e (An ops i).dst (.int .u8 (x.toNat:Int))) w):GA P S n m L ops l e w :=
 GA.JS hb (fun w=>J1 h (MR i' ht hi hx w)) H
theorem GA.Lp {i:Nat} {t:TypeId} {s:Str} {lo hi:Option Value} (hb:gB n m ops l i=true) (l' h':Nat) (h:Hh n ops i e=some (t,.string (bs s),lo,hi)) (ht:JR P t=true) (hlo:bnd lo 0 l') (hhi:bnd hi s.length h') (hlh:l'≤h') (hh:h'≤s.length)
 (H:GA P S n m L ops (i::l) (BL e (An ops i).dst (.string (bs ((s.take h').drop l')))) w):GA P S n m L ops l e w :=
 GA.JS hb (fun w=>Dk h (MS ht hlo hhi hlh hh w)) H
end
end Go.Proofs.YtganlmloonielaaGreat
namespace Go.Proofs.YtganlmloonielaaGreat
@[reducible] def vS (b n c:Nat):Value:=.slice (some ⟨b,0,none⟩) n c
@[reducible] def vI (z:Int):Value:=.int .i64 z
@[reducible] def vT (s:Str):Value:=.string (bs s)
def ldT (o:Option (TypeId × Addr)):TypeId:=match o with | some (t,_)=>t | none=>0
def ldO (o:Option (TypeId × Addr)):Nat:=match o with | some (_,a)=>off (some a) | none=>0
def ldV (cs:List Value) (o:Option (TypeId × Addr)):Value:=(cs[ldO o]?).getD undef
def ldN (P:Program) (o:Option (TypeId × Addr)):Nat:=match P.info? (ldT o) with | some i=>i.size | none=>0
def ldL (P:Program) (cs:List Value) (o:Option (TypeId × Addr)):List Value:=(cs.drop (ldO o)).take (ldN P o)
def ldH (P:Program) (cs:List Value) (k:Nat) (o:Option (TypeId × Addr)):List Value:=(cs.drop k).take (ldN P o)
def stT (o:Option (TypeId × Addr × Value)):TypeId:=match o with | some (t,_)=>t | none=>0
def lbE (cs:List Value) (n:Nat) (ops:Array Oper) (j:Nat) (e:Env):Env:=BL e (An ops j).dst (ldV cs (loadAt n ops j e))
def lnE (P:Program) (cs:List Value) (n:Nat) (ops:Array Oper) (j:Nat) (e:Env):Env:=BL e (An ops j).dst (.agg (ldL P cs (loadAt n ops j e)).toArray)
def lgE (P:Program) (cs:List Value) (k n:Nat) (ops:Array Oper) (j:Nat) (e:Env):Env:=BL e (An ops j).dst (.agg (ldH P cs k (loadAt n ops j e)).toArray)
def lbG (cs:List Value) (n m:Nat) (ops:Array Oper) (l:List Nat) (i:Nat) (e:Env):Env:=BL e (An ops i).dst (ldV cs (CX n m ops l i e))
def lnG (P:Program) (cs:List Value) (n m:Nat) (ops:Array Oper) (l:List Nat) (i:Nat) (e:Env):Env:=BL e (An ops i).dst (.agg (ldL P cs (CX n m ops l i e)).toArray)
def lgG (P:Program) (cs:List Value) (k n m:Nat) (ops:Array Oper) (l:List Nat) (i:Nat) (e:Env):Env:=BL e (An ops i).dst (.agg (ldH P cs k (CX n m ops l i e)).toArray)
section
variable {P:Program} {n:Nat} {K:Env→World→Prop} {ops:Array Oper} {j:Nat} {e:Env} {w:World} {t t':TypeId} {b o:Nat} {cs:List Value} {v:Value}
theorem RG.r (m:Nat) (H:RG P n K ops (j+m) (UC P ops m j e) w) (h:OJ P n ops m j e=true:=by kernel_rfl):RG P n K ops j e w:=RG.run m h H
theorem RG.d (H:K e w) (h:Nat.beq ops.toList.length j=true:=by kernel_rfl):RG P n K ops j e w:=RG.done h H
theorem RG.lb (hb:Box w b t cs) (H:RG P n K ops (j+1) (lbE cs n ops j e) w)
 (h:loadAt n ops j e=some (ldT (loadAt n ops j e),⟨b,ldO (loadAt n ops j e),none⟩):=by kernel_rfl)
 (hs:Cn P (ldT (loadAt n ops j e))=true:=by kernel_rfl) (hv:cs[ldO (loadAt n ops j e)]? = some (ldV cs (loadAt n ops j e)):=by kernel_rfl):RG P n K ops j e w :=
 RG.QC hb h hs hv H
theorem RG.ln (hb:Box w b t cs) (H:RG P n K ops (j+1) (lnE P cs n ops j e) w)
 (h:loadAt n ops j e=some (ldT (loadAt n ops j e),⟨b,ldO (loadAt n ops j e),none⟩):=by kernel_rfl)
 (hs:GL P (ldT (loadAt n ops j e)) (ldL P cs (loadAt n ops j e)).length=true:=by kernel_rfl)
 (hv:(cs.drop (ldO (loadAt n ops j e))).take (ldL P cs (loadAt n ops j e)).length=ldL P cs (loadAt n ops j e):=by kernel_rfl):RG P n K ops j e w :=
 RG.NP _ hb h hs hv H
theorem RG.lh (k:Nat) (hc:Has w ⟨b,o,none⟩ cs) (H:RG P n K ops (j+1) (BL e (An ops j).dst ((cs[k]?).getD undef)) w)
 (h:loadAt n ops j e=some (ldT (loadAt n ops j e),⟨b,o+k,none⟩):=by kernel_rfl)
 (hs:Cn P (ldT (loadAt n ops j e))=true:=by kernel_rfl) (hv:cs[k]? = some ((cs[k]?).getD undef):=by kernel_rfl):RG P n K ops j e w :=
 RG.QD k hc h hs hv H
theorem RG.lg (k:Nat) (hc:Has w ⟨b,o,none⟩ cs) (H:RG P n K ops (j+1) (lgE P cs k n ops j e) w)
 (h:loadAt n ops j e=some (ldT (loadAt n ops j e),⟨b,o+k,none⟩):=by kernel_rfl)
 (hs:GL P (ldT (loadAt n ops j e)) (ldH P cs k (loadAt n ops j e)).length=true:=by kernel_rfl)
 (hv:(cs.drop k).take (ldH P cs k (loadAt n ops j e)).length=ldH P cs k (loadAt n ops j e):=by kernel_rfl):RG P n K ops j e w :=
 RG.GO k _ hc h hs hv H
theorem RG.sb (o:Nat) (v:Value) (cs':List Value) (hb:Box w b t cs)
 (H:∀ w',Chg (one b) w w'→Box w' b t cs'→w'.heap.size=w.heap.size→RG P n K ops (j+1) (BL e (An ops j).dst undef) w')
 (h:storeAt n ops j e=some (stT (storeAt n ops j e),⟨b,o,none⟩,v):=by kernel_rfl)
 (hs:(GM P (stT (storeAt n ops j e)) v.cells.size&&Nat.ble (o+v.cells.size) cs.length&&v.cells.toList.all EH)=true:=by kernel_rfl)
 (hc:BM cs o v.cells.toList=cs':=by kernel_rfl):RG P n K ops j e w :=
 RG.CK cs' hb h hs hc H
theorem RG.ss (o:Nat) (v:Value) (hb:Box w b t cs)
 (H:∀ w',Chg (one b) w w'→Box w' b t (cs.set o v)→w'.heap.size=w.heap.size→RG P n K ops (j+1) (BL e (An ops j).dst undef) w')
 (h:storeAt n ops j e=some (stT (storeAt n ops j e),⟨b,o,none⟩,v):=by kernel_rfl)
 (hs:(GM P (stT (storeAt n ops j e)) v.cells.size&&Nat.ble (o+v.cells.size) cs.length&&v.cells.toList.all EH)=true:=by kernel_rfl)
 (hc:BM cs o v.cells.toList=cs.set o v:=by kernel_rfl):RG P n K ops j e w:=RG.CK _ hb h hs hc H
theorem RG.sc (vs:List Value) (hb:Box w b t cs)
 (H:∀ w',Chg (one b) w w'→Box w' b t vs→w'.heap.size=w.heap.size→RG P n K ops (j+1) (BL e (An ops j).dst undef) w')
 (h:storeAt n ops j e=some (stT (storeAt n ops j e),⟨b,0,none⟩,.agg vs.toArray):=by kernel_rfl)
 (hs:(GM P (stT (storeAt n ops j e)) (Value.agg vs.toArray).cells.size&&Nat.ble (0+(Value.agg vs.toArray).cells.size) cs.length&&(Value.agg vs.toArray).cells.toList.all EH)=true:=by kernel_rfl)
 (hc:BM cs 0 (Value.agg vs.toArray).cells.toList=vs:=by kernel_rfl):RG P n K ops j e w:=RG.CK _ hb h hs hc H
theorem RG.ix {α:Type} [Rep α] {F:Nat→Prop} {a:Option Addr} {m c:Nat} {xs:List α} (i sz:Nat) (hr:RepS w F a m c xs) (hi:i< m)
 (H:RG P n K ops (j+1) (BL e (An ops j).dst (.pointer (some ⟨blk a,off a+i * sz,none⟩))) w) (h:OK P n ops j e=some (a,m,(i:Int),sz):=by kernel_rfl):RG P n K ops j e w :=
 RG.idx i h rfl hi (hr.addr (Nat.zero_lt_of_lt hi)) H
theorem RG.nw (v:Nat→Value) (t:TypeId) (cs:List Value)
 (H:∀ b w',b=w.heap.size→Ext w w'→Box w' b t cs→w'.heap.size=b+1→RG P n K ops (j+1) (BL e (An ops j).dst (v b)) w')
 (h:∀ b,DT P n ops j e b=some (v b,t,cs):=by intro _; kernel_rfl):RG P n K ops j e w:=RG.new h H
theorem RG.np (t:TypeId) (cs:List Value)
 (H:∀ b w',b=w.heap.size→Ext w w'→Box w' b t cs→w'.heap.size=b+1→RG P n K ops (j+1) (BL e (An ops j).dst (.pointer (some ⟨b,0,none⟩))) w')
 (h:∀ b,DT P n ops j e b=some (.pointer (some ⟨b,0,none⟩),t,cs):=by intro _; kernel_rfl):RG P n K ops j e w:=RG.new h H
theorem RG.ns (m:Nat) (t:TypeId) (cs:List Value)
 (H:∀ b w',b=w.heap.size→Ext w w'→Box w' b t cs→w'.heap.size=b+1→RG P n K ops (j+1) (BL e (An ops j).dst (.slice (some ⟨b,0,none⟩) m m)) w')
 (h:∀ b,DT P n ops j e b=some (.slice (some ⟨b,0,none⟩) m m,t,cs):=by intro _; kernel_rfl):RG P n K ops j e w:=RG.new h H
theorem RG.bp (p:Prop) [Decidable p] (ht:p→RG P n K ops (j+1) (BL e (An ops j).dst (.bool true)) w)
 (hf:¬ p→RG P n K ops (j+1) (BL e (An ops j).dst (.bool false)) w) (h:Ha P n ops j e=some (.bool (decide p)):=by kernel_rfl):RG P n K ops j e w:=RG.EE p h ht hf
theorem RG.eq (a b:Int) (ht:a=b→RG P n K ops (j+1) (BL e (An ops j).dst (.bool true)) w)
 (hf:a≠b→RG P n K ops (j+1) (BL e (An ops j).dst (.bool false)) w) (h:Ha P n ops j e=some (.bool (a==b)):=by kernel_rfl):RG P n K ops j e w:=RG.eqI h ht hf
theorem RG.ne (a b:Int) (ht:a≠b→RG P n K ops (j+1) (BL e (An ops j).dst (.bool true)) w)
 (hf:a=b→RG P n K ops (j+1) (BL e (An ops j).dst (.bool false)) w) (h:Ha P n ops j e=some (.bool (a != b)):=by kernel_rfl):RG P n K ops j e w:=RG.neI h ht hf
theorem RG.it (z:Int) (H:RG P n K ops (j+1) (BL e (An ops j).dst (.int .i64 z)) w) (h:Ha P n ops j e=some (.int .i64 (IntKind.i64.wrap z)):=by kernel_rfl)
 (hz:-9223372036854775808≤z∧z≤9223372036854775807:=by omega):RG P n K ops j e w:=RG.int z h hz H
theorem RG.cl {f:FuncId} {args:List Value} {Q:Value→World→Prop} (hc:Calls P f args.toArray w (As Q))
 (H:∀ v w',Q v w'→RG P n K ops (j+1) (BL e (An ops j).dst v) w') (h:IY P n ops j e=some (f,args):=by kernel_rfl):RG P n K ops j e w:=RG.call h hc H
end
section
variable {P:Program} {f:FuncId} {fn:Func} {R:Value→World→Prop} {c:Code} {k:List Item} {e:Env} {w:World} {v:Value}
theorem T.s (H:T P f fn R (.code (lft c) :: .code (rgt c)::k) e w) (h:P9 c=true:=by kernel_rfl):T P f fn R (.code c::k) e w:=T.seq h H
theorem T.sk (H:T P f fn R k e w) (h:NO c=true:=by kernel_rfl):T P f fn R (.code c::k) e w:=T.skip h H
theorem T.b (i:Nat) (H:T P f fn R (.code (bdy c) :: .inBlock i::k) e w) (h:Lc c i=true:=by kernel_rfl):T P f fn R (.code c::k) e w:=T.block i h H
theorem T.ib (i:Nat) (H:T P f fn R k e w):T P f fn R (.inBlock i::k) e w:=T.inBlock i H
theorem T.x (i:Nat) {k':List Item} (hk:exitTo i k=some k') (H:T P f fn R k' e w) (h:NN c i=true:=by kernel_rfl):T P f fn R (.code c::k) e w:=T.exit i h hk H
theorem T.ct (H:T P f fn R (.code (thn c)::k) e w) (h:Gk e c=.bool true:=by kernel_rfl):T P f fn R (.code c::k) e w:=T.VI h H
theorem T.cf (H:T P f fn R (.code (els c)::k) e w) (h:Gk e c=.bool false:=by kernel_rfl):T P f fn R (.code c::k) e w:=T.VJ h H
theorem T.g (H:RG P fn.ntmps (fun e' w'=>T P f fn R k e' w') (IZ c) 0 e w) (h:Jv c false=true:=by kernel_rfl):T P f fn R (.code c::k) e w:=T.region h H
theorem T.gd (S:Nat→Prop) (m:Nat)
 (H:∀ w1,Ext w w1→GA P S fn.ntmps m (fun e' w'=>RG P fn.ntmps (fun e'' w''=>T P f fn R k e'' w'') (IZ c) m e' w') (IZ c) [] e w1)
 (h:(Jv c true&&P.follows .mixedOrders&&Kz (IZ c) m)=true:=by kernel_rfl):T P f fn R (.code c::k) e w:=T.ON S m h H
theorem T.rt {t:Tmp} (hf:P.funcs[f]? = some fn) (hres:fn.results = #[.tmp t]) (v:Value) (hR:R v w) (h:F3 c=true:=by kernel_rfl) (h1:e t=v:=by kernel_rfl):T P f fn R (.code c::k) e w :=
 T.VK h hf hres (Bf.tmp h1) hR
theorem Bf.bx {x t u:Nat} {b:Nat} {cs:List Value} (hb:Box w b u cs) (h1:e x=.pointer (some ⟨b,0,none⟩):=by kernel_rfl) (h2:GL P t cs.length=true:=by kernel_rfl):Bf P w e (.cell x t) (.agg cs.toArray) :=
 Bf.cell h1 ((hb.has 0 cs (by simp)).EW h2)
theorem Bf.t {t:Tmp} (v:Value) (h:e t=v:=by kernel_rfl):Bf P w e (.tmp t) v:=h
theorem T.rb {x t u:Nat} {b:Nat} {cs:List Value} (hf:P.funcs[f]? = some fn) (hres:fn.results = #[.cell x t]) (hb:Box w b u cs) (hR:R (.agg cs.toArray) w) (h:F3 c=true:=by kernel_rfl)
 (h1:e x=.pointer (some ⟨b,0,none⟩):=by kernel_rfl) (h2:GL P t cs.length=true:=by kernel_rfl):T P f fn R (.code c::k) e w :=
 T.VK h hf hres (Bf.bx hb h1 h2) hR
theorem T.r2 {r r':ResultVar} {v v':Value} (hf:P.funcs[f]? = some fn) (hres:fn.results = #[r,r']) (h1:Bf P w e r v) (h2:Bf P w e r' v') (hR:R (.tuple #[v,v']) w) (h:F3 c=true:=by kernel_rfl):T P f fn R (.code c::k) e w :=
 T.V6 h hf hres h1 h2 hR
theorem T.r3 {r r' r'':ResultVar} {v v' v'':Value} (hf:P.funcs[f]? = some fn) (hres:fn.results = #[r,r',r'']) (h1:Bf P w e r v) (h2:Bf P w e r' v') (h3:Bf P w e r'' v'') (hR:R (.tuple #[v,v',v'']) w) (h:F3 c=true:=by kernel_rfl):T P f fn R (.code c::k) e w :=
 T.Hc h hf hres h1 h2 h3 hR
theorem goT {args:List Value} (hf:P.funcs[f]? = some fn) (H:T P f fn R [.code (QB fn)] (SN args) w) (hb:fn.body=some (QB fn):=by kernel_rfl) (hn:Nat.ble args.length fn.ntmps=true:=by kernel_rfl):Calls P f args.toArray w (As R) :=
 SO hf hb hn H
end
section
variable {P:Program} {S:Nat→Prop} {n m:Nat} {L:Env→World→Prop} {ops:Array Oper} {l:List Nat} {e:Env} {w:World} {t:TypeId} {b o:Nat} {cs:List Value}
theorem GA.r (is:List Nat) (H:GA P S n m L ops (is.reverse++l) (OM P ops is e) w) (h:Lm P n m ops is l e=true:=by kernel_rfl):GA P S n m L ops l e w:=GA.run is h H
theorem GA.d (H:∀ w1,Ext w w1→L e w1) (h:(Nat.beq l.length m&&Nat.beq (EX l) (EX (List.range m)))=true:=by kernel_rfl):GA P S n m L ops l e w:=GA.done h H
theorem GA.lb (i:Nat) (hb:Box w b t cs) (hS:¬ S b) (H:GA P S n m L ops (i::l) (lbG cs n m ops l i e) w)
 (h:CX n m ops l i e=some (ldT (CX n m ops l i e),⟨b,ldO (CX n m ops l i e),none⟩):=by kernel_rfl)
 (hs:Cn P (ldT (CX n m ops l i e))=true:=by kernel_rfl) (hv:cs[ldO (CX n m ops l i e)]? = some (ldV cs (CX n m ops l i e)):=by kernel_rfl):GA P S n m L ops l e w :=
 GA.QC hb hS h hs hv H
theorem GA.ln (i:Nat) (hb:Box w b t cs) (hS:¬ S b) (H:GA P S n m L ops (i::l) (lnG P cs n m ops l i e) w)
 (h:CX n m ops l i e=some (ldT (CX n m ops l i e),⟨b,ldO (CX n m ops l i e),none⟩):=by kernel_rfl)
 (hs:GL P (ldT (CX n m ops l i e)) (ldL P cs (CX n m ops l i e)).length=true:=by kernel_rfl)
 (hv:(cs.drop (ldO (CX n m ops l i e))).take (ldL P cs (CX n m ops l i e)).length=ldL P cs (CX n m ops l i e):=by kernel_rfl):GA P S n m L ops l e w :=
 GA.NP _ hb hS h hs hv H
theorem GA.lh (i k:Nat) (hc:Has w ⟨b,o,none⟩ cs) (hS:¬ S b) (H:GA P S n m L ops (i::l) (BL e (An ops i).dst ((cs[k]?).getD undef)) w)
 (h:CX n m ops l i e=some (ldT (CX n m ops l i e),⟨b,o+k,none⟩):=by kernel_rfl)
 (hs:Cn P (ldT (CX n m ops l i e))=true:=by kernel_rfl) (hv:cs[k]? = some ((cs[k]?).getD undef):=by kernel_rfl):GA P S n m L ops l e w :=
 GA.QD k hc hS h hs hv H
theorem GA.lg (i k:Nat) (hc:Has w ⟨b,o,none⟩ cs) (hS:¬ S b) (H:GA P S n m L ops (i::l) (lgG P cs k n m ops l i e) w)
 (h:CX n m ops l i e=some (ldT (CX n m ops l i e),⟨b,o+k,none⟩):=by kernel_rfl)
 (hs:GL P (ldT (CX n m ops l i e)) (ldH P cs k (CX n m ops l i e)).length=true:=by kernel_rfl)
 (hv:(cs.drop k).take (ldH P cs k (CX n m ops l i e)).length=ldH P cs k (CX n m ops l i e):=by kernel_rfl):GA P S n m L ops l e w :=
 GA.GO k _ hc hS h hs hv H
theorem GA.ix {α:Type} [Rep α] {F:Nat→Prop} {a:Option Addr} {N c:Nat} {xs:List α} (k i sz:Nat) (hr:RepS w F a N c xs) (hi:i< N)
 (H:GA P S n m L ops (k::l) (BL e (An ops k).dst (.pointer (some ⟨blk a,off a+i * sz,none⟩))) w) (h:UE P n m ops l k e=some (a,N,(i:Int),sz):=by kernel_rfl):GA P S n m L ops l e w :=
 GA.idx i h rfl hi (hr.addr (Nat.zero_lt_of_lt hi)) H
theorem GA.go (i:Nat) (H:GE P S n m L ops l i e w) (h:SR n m ops l i e=true:=by kernel_rfl):GA P S n m L ops l e w:=GE.one h H
theorem GA.tw (i j:Nat) (Hi:GE P S n m L ops l i e w) (Hj:GE P S n m L ops l j e w) (h:UF n m ops l i j e=true:=by kernel_rfl):GA P S n m L ops l e w:=GE.two h Hi Hj
theorem GE.nw {i:Nat} (v:Nat→Value) (t:TypeId) (cs:List Value)
 (H:∀ w1,Ext w w1→∀ b w2,b=w1.heap.size→Ext w1 w2→Box w2 b t cs→w2.heap.size=b+1→GA P S n m L ops (i::l) (BL e (An ops i).dst (v b)) w2)
 (hn:∀ b,DT P n ops i e b=some (v b,t,cs):=by intro _; kernel_rfl):GE P S n m L ops l i e w:=GE.new hn H
theorem GE.ns {i:Nat} (k:Nat) (t:TypeId) (cs:List Value)
 (H:∀ w1,Ext w w1→∀ b w2,b=w1.heap.size→Ext w1 w2→Box w2 b t cs→w2.heap.size=b+1→GA P S n m L ops (i::l) (BL e (An ops i).dst (.slice (some ⟨b,0,none⟩) k k)) w2)
 (hn:∀ b,DT P n ops i e b=some (.slice (some ⟨b,0,none⟩) k k,t,cs):=by intro _; kernel_rfl):GE P S n m L ops l i e w:=GE.new hn H
theorem GE.cl {i:Nat} {f:FuncId} {args:List Value} {Q:World→Value→World→Prop} (hc:∀ w1,Ext w w1→Calls P f args.toArray w1 (As (Q w1)))
 (H:∀ w1,Ext w w1→∀ v w2,Q w1 v w2→Chg S w1 w2∧GA P S n m L ops (i::l) (BL e (An ops i).dst v) w2) (hf:IY P n ops i e=some (f,args):=by kernel_rfl):GE P S n m L ops l i e w:=GE.call hf hc H
end
class MemL (b:Nat) (M:List Nat):Prop where m:b∈M
instance {b:Nat} {M:List Nat}:MemL b (b::M):=⟨.head _⟩
instance {a b:Nat} {M:List Nat} [h:MemL b M]:MemL b (a::M):=⟨.tail _ h.m⟩
class Rpl (M:List Nat) (r r2:Nat) (M':outParam (List Nat)):Prop where
 p:∀ k,k∉M→k≠r2→k∉M'
 q:r∈M
instance {r r2:Nat} {M:List Nat}:Rpl (r::M) r r2 (r2::M):=⟨fun k h h2 hk=>by
 rcases List.mem_cons.1 hk with rfl | hk
 ·exact h2 rfl
 ·exact h (.tail _ hk),.head _⟩
instance {a r r2:Nat} {M M':List Nat} [i:Rpl M r r2 M']:Rpl (a::M) r r2 (a::M'):=⟨fun k h h2 hk=>by
 rcases List.mem_cons.1 hk with rfl | hk
 ·exact h AD
 ·exact i.p k (fun hm=>h (.tail _ hm)) h2 hk,.tail _ i.q⟩
class Drp (M:List Nat) (r:Nat) (M':outParam (List Nat)):Prop where
 p:∀ k∈M',k∈M
 q:∀ k∈M,k∈M'∨k=r
instance {r:Nat} {M:List Nat}:Drp (r::M) r M:=⟨fun _ h=>.tail _ h,fun k h=>by
 rcases List.mem_cons.1 h with rfl | h
 ·exact .inr rfl
 ·exact .inl h⟩
instance {a r:Nat} {M M':List Nat} [i:Drp M r M']:Drp (a::M) r (a::M'):=⟨fun k h=>by
 rcases List.mem_cons.1 h with rfl | h
 ·exact .head _
 ·exact .tail _ (i.p k h),fun k h=>by
 rcases List.mem_cons.1 h with rfl | h
 ·exact .inl AD
 ·exact (i.q k h).imp (.tail _) id⟩
class NbA (b:Nat) (K:List Nat):Prop where a:∀ k∈K,b≠k
instance {b:Nat}:NbA b []:=⟨fun _ h=>by cases h⟩
instance {b k:Nat} {K:List Nat} [h:Nb b k] [i:NbA b K]:NbA b (k::K):=⟨fun x hx=>by
 rcases List.mem_cons.1 hx with rfl | hx
 ·exact h.ne
 ·exact i.a x hx⟩
instance {b k:Nat} {K:List Nat} [h:Nb k b] [i:NbA b K]:NbA b (k::K):=⟨fun x hx=>by
 rcases List.mem_cons.1 hx with rfl | hx
 ·exact h.ne.symm
 ·exact i.a x hx⟩
class CovA (L:Nat→Prop) (w:World) (K:List Nat):Prop where a:∀ k∈K,Cov L w k
instance {L:Nat→Prop} {w:World}:CovA L w []:=⟨fun _ h=>by cases h⟩
instance {L:Nat→Prop} {w:World} {k:Nat} {K:List Nat} [h:Cov L w k] [i:CovA L w K]:CovA L w (k::K):=⟨fun x hx=>by
 rcases List.mem_cons.1 hx with rfl | hx
 ·exact h
 ·exact i.a x hx⟩
structure Sp (M M':List Nat) (S:Nat→Prop) (w w':World):Prop where
 mv:Mv M M' w w'
 ch:Chg S w w'
class MT (M M':List Nat) (S:Nat→Prop) (w w':World) (A:Prop) (B:outParam Prop):Prop where go:Mv M M' w w'→Chg S w w'→A→B
section
variable {α:Type} [Rep α] {w w' base:World} {G S L:Nat→Prop} {M M' K:List Nat} {a:Option Addr} {n c r b k:Nat} {t:TypeId} {xs:List α} {cs:List Value}
instance:MT M M' S w w' (RepS w (nin G M) a n c xs) (RepS w' (nin G M') a n c xs):=⟨fun hm _ h=>h.mv hm⟩
instance:MT M M' nil w w' (Box w b t cs) (Box w' b t cs):=⟨fun _ hx h=>h.mv hx (fun h=>h)⟩
instance [h:Nb b k]:MT M M' (one k) w w' (Box w b t cs) (Box w' b t cs):=⟨fun _ hx g=>g.mv hx h.ne⟩
instance [h:Nb k b]:MT M M' (one k) w w' (Box w b t cs) (Box w' b t cs):=⟨fun _ hx g=>g.mv hx h.ne.symm⟩
instance [h:NbA b K]:MT M M' (ins K) w w' (Box w b t cs) (Box w' b t cs):=⟨fun _ hx g=>g.mv hx (fun hb=>h.a b hb rfl)⟩
instance:MT M M' nil w w' (Own w r t (nin G M) n c xs) (Own w' r t (nin G M') n c xs):=⟨fun hm hx h=>h.mv hm hx (fun h=>h)⟩
instance [h:Nb r k]:MT M M' (one k) w w' (Own w r t (nin G M) n c xs) (Own w' r t (nin G M') n c xs):=⟨fun hm hx g=>g.mv hm hx h.ne⟩
instance [h:Nb k r]:MT M M' (one k) w w' (Own w r t (nin G M) n c xs) (Own w' r t (nin G M') n c xs):=⟨fun hm hx g=>g.mv hm hx h.ne.symm⟩
instance [h:NbA r K]:MT M M' (ins K) w w' (Own w r t (nin G M) n c xs) (Own w' r t (nin G M') n c xs):=⟨fun hm hx g=>g.mv hm hx (fun hb=>h.a r hb rfl)⟩
instance:MT M M' nil w w' (Chg L base w) (Chg L base w'):=⟨fun _ hx h=>h.Cc hx⟩
instance [hc:Cov L base k]:MT M M' (one k) w w' (Chg L base w) (Chg L base w'):=⟨fun _ hx h=>h.Ew hx hc⟩
instance [hc:CovA L base K]:MT M M' (ins K) w w' (Chg L base w) (Chg L base w'):=⟨fun _ hx h=>h.CY hx hc.a⟩
theorem sp (hm:Mv M M' w w') (hx:Chg S w w'):Sp M M' S w w':=⟨hm,hx⟩
theorem sn (M:List Nat) (hx:Ext w w') (hb:b=w.heap.size):Sp M (b::M) nil w w':=⟨Mv.cons (Mv.ext hx) (Nat.le_of_eq hb.symm),hx⟩
theorem sz (M:List Nat) (hx:Ext w w') (hb:w.heap.size≤b):Sp M (b::M) nil w w':=⟨Mv.cons (Mv.ext hx) hb,hx⟩
theorem se (M:List Nat) (hx:Ext w w'):Sp M M nil w w':=⟨Mv.ext hx,hx⟩
theorem so (M:List Nat) (hx:Chg (one b) w w') [h:MemL b M]:Sp M M (one b) w w':=⟨Mv.on hx h.m,hx⟩
theorem s1 (hx:Chg (one b) w w'):Sp [b] [b] (one b) w w':=⟨Mv.on hx AD,hx⟩
theorem si (hx:Chg (ins K) w w'):Sp K K (ins K) w w':=⟨Mv.mk hx (fun _ _ h=>⟨h,h⟩),hx⟩
theorem sa (M:List Nat) {r2:Nat} (hx:Chg (one r) w w') (ho:r2=r∨r2=w.heap.size) [h:Rpl M r r2 M']:Sp M M' (one r) w w' :=
 ⟨Mv.mk hx (fun k hk hm=>⟨h.p k hm (fun e=>by
  subst e
  rcases ho with rfl | e
  ·exact hm h.q
  ·omega),fun e=>hm (by cases e; exact h.q)⟩),hx⟩
theorem sd (w:World) (M:List Nat) (r:Nat) [h:Drp M r M']:Sp M M' nil w w:=⟨Mv.less h.p,Chg.refl _ _⟩
theorem Own.rn {r2:Nat} (h:Own w r2 t (nin G M) n c xs) (r:Nat) [i:Rpl M r r2 M']:Own w r2 t (nin G M') n c xs :=
 h.Tl (fun k _ hm hr=>i.p k hm hr)
theorem Own.sl (h:Own w r t (nin G M) n c xs) (hg:G r) [i:Drp M r M'] [j:NbA r M']:RepS w (nin G M') (some ⟨r,0,none⟩) n c xs :=
 h.QF (fun _ _ hF=>⟨hF.1,fun hm=>hF.2 (i.p _ hm)⟩) ⟨hg,fun hm=>j.a r hm rfl⟩
theorem RepS.fr {s s0:Nat} (h:RepS w (ge s) a n c xs) (hM:∀ b∈M,b< s) (hs:Gb s0 s):RepS w (nin (ge s0) M) a n c xs :=
 h.fresh hM (fun _ h=>Nat.le_trans hs h)
theorem RepS.w1 (h:RepS w (nin G M) a n c xs):RepS w G a n c xs:=h.CJ (fun _ _ h=>h.1)
theorem RepS.oi [i:MemL r M] (h:RepS w (nin G M) a n c xs):RepS w (fun b=>nin G M b∧b≠r) a n c xs:=h.CJ (fun _ _ h=>FQ i.m h)
theorem RepS.ta (h:RepS w G a n c xs):RepS w all a n c xs:=h.CJ (fun _ _ _=>trivial)
theorem RepS.tp (h:RepS w G a n c xs):n=xs.length∧n≤9223372036854775807∧RepS w (nin (fo G w.heap.size) []) a n c xs:=⟨h.len,h.max,h.top⟩
theorem Chg.cn (h:Chg L base w) (hb:b=w.heap.size):Cov L base b:=Bc hb h.size
end
section
variable {M M1:List Nat} {S:Nat→Prop} {w w1:World}
theorem Sp.g1 {A0 B0:Prop} (s:Sp M M1 S w w1) (a0:A0) [i0:MT M M1 S w w1 A0 B0]:B0:=i0.go s.mv s.ch a0
theorem Sp.g2 {A0 A1 B0 B1:Prop} (s:Sp M M1 S w w1) (a0:A0) (a1:A1) [i0:MT M M1 S w w1 A0 B0] [i1:MT M M1 S w w1 A1 B1]:B0∧B1:=⟨i0.go s.mv s.ch a0,i1.go s.mv s.ch a1⟩
theorem Sp.g3 {A0 A1 A2 B0 B1 B2:Prop} (s:Sp M M1 S w w1) (a0:A0) (a1:A1) (a2:A2) [i0:MT M M1 S w w1 A0 B0] [i1:MT M M1 S w w1 A1 B1] [i2:MT M M1 S w w1 A2 B2]:B0∧B1∧B2:=⟨i0.go s.mv s.ch a0,i1.go s.mv s.ch a1,i2.go s.mv s.ch a2⟩
theorem Sp.g4 {A0 A1 A2 A3 B0 B1 B2 B3:Prop} (s:Sp M M1 S w w1) (a0:A0) (a1:A1) (a2:A2) (a3:A3) [i0:MT M M1 S w w1 A0 B0] [i1:MT M M1 S w w1 A1 B1] [i2:MT M M1 S w w1 A2 B2] [i3:MT M M1 S w w1 A3 B3]:B0∧B1∧B2∧B3:=⟨i0.go s.mv s.ch a0,i1.go s.mv s.ch a1,i2.go s.mv s.ch a2,i3.go s.mv s.ch a3⟩
theorem Sp.g5 {A0 A1 A2 A3 A4 B0 B1 B2 B3 B4:Prop} (s:Sp M M1 S w w1) (a0:A0) (a1:A1) (a2:A2) (a3:A3) (a4:A4) [i0:MT M M1 S w w1 A0 B0] [i1:MT M M1 S w w1 A1 B1] [i2:MT M M1 S w w1 A2 B2] [i3:MT M M1 S w w1 A3 B3] [i4:MT M M1 S w w1 A4 B4]:B0∧B1∧B2∧B3∧B4:=⟨i0.go s.mv s.ch a0,i1.go s.mv s.ch a1,i2.go s.mv s.ch a2,i3.go s.mv s.ch a3,i4.go s.mv s.ch a4⟩
theorem Sp.g6 {A0 A1 A2 A3 A4 A5 B0 B1 B2 B3 B4 B5:Prop} (s:Sp M M1 S w w1) (a0:A0) (a1:A1) (a2:A2) (a3:A3) (a4:A4) (a5:A5) [i0:MT M M1 S w w1 A0 B0] [i1:MT M M1 S w w1 A1 B1] [i2:MT M M1 S w w1 A2 B2] [i3:MT M M1 S w w1 A3 B3] [i4:MT M M1 S w w1 A4 B4] [i5:MT M M1 S w w1 A5 B5]:B0∧B1∧B2∧B3∧B4∧B5:=⟨i0.go s.mv s.ch a0,i1.go s.mv s.ch a1,i2.go s.mv s.ch a2,i3.go s.mv s.ch a3,i4.go s.mv s.ch a4,i5.go s.mv s.ch a5⟩
theorem Sp.g7 {A0 A1 A2 A3 A4 A5 A6 B0 B1 B2 B3 B4 B5 B6:Prop} (s:Sp M M1 S w w1) (a0:A0) (a1:A1) (a2:A2) (a3:A3) (a4:A4) (a5:A5) (a6:A6) [i0:MT M M1 S w w1 A0 B0] [i1:MT M M1 S w w1 A1 B1] [i2:MT M M1 S w w1 A2 B2] [i3:MT M M1 S w w1 A3 B3] [i4:MT M M1 S w w1 A4 B4] [i5:MT M M1 S w w1 A5 B5] [i6:MT M M1 S w w1 A6 B6]:B0∧B1∧B2∧B3∧B4∧B5∧B6:=⟨i0.go s.mv s.ch a0,i1.go s.mv s.ch a1,i2.go s.mv s.ch a2,i3.go s.mv s.ch a3,i4.go s.mv s.ch a4,i5.go s.mv s.ch a5,i6.go s.mv s.ch a6⟩
theorem Sp.g8 {A0 A1 A2 A3 A4 A5 A6 A7 B0 B1 B2 B3 B4 B5 B6 B7:Prop} (s:Sp M M1 S w w1) (a0:A0) (a1:A1) (a2:A2) (a3:A3) (a4:A4) (a5:A5) (a6:A6) (a7:A7) [i0:MT M M1 S w w1 A0 B0] [i1:MT M M1 S w w1 A1 B1] [i2:MT M M1 S w w1 A2 B2] [i3:MT M M1 S w w1 A3 B3] [i4:MT M M1 S w w1 A4 B4] [i5:MT M M1 S w w1 A5 B5] [i6:MT M M1 S w w1 A6 B6] [i7:MT M M1 S w w1 A7 B7]:B0∧B1∧B2∧B3∧B4∧B5∧B6∧B7:=⟨i0.go s.mv s.ch a0,i1.go s.mv s.ch a1,i2.go s.mv s.ch a2,i3.go s.mv s.ch a3,i4.go s.mv s.ch a4,i5.go s.mv s.ch a5,i6.go s.mv s.ch a6,i7.go s.mv s.ch a7⟩
theorem Sp.g9 {A0 A1 A2 A3 A4 A5 A6 A7 A8 B0 B1 B2 B3 B4 B5 B6 B7 B8:Prop} (s:Sp M M1 S w w1) (a0:A0) (a1:A1) (a2:A2) (a3:A3) (a4:A4) (a5:A5) (a6:A6) (a7:A7) (a8:A8) [i0:MT M M1 S w w1 A0 B0] [i1:MT M M1 S w w1 A1 B1] [i2:MT M M1 S w w1 A2 B2] [i3:MT M M1 S w w1 A3 B3] [i4:MT M M1 S w w1 A4 B4] [i5:MT M M1 S w w1 A5 B5] [i6:MT M M1 S w w1 A6 B6] [i7:MT M M1 S w w1 A7 B7] [i8:MT M M1 S w w1 A8 B8]:B0∧B1∧B2∧B3∧B4∧B5∧B6∧B7∧B8:=⟨i0.go s.mv s.ch a0,i1.go s.mv s.ch a1,i2.go s.mv s.ch a2,i3.go s.mv s.ch a3,i4.go s.mv s.ch a4,i5.go s.mv s.ch a5,i6.go s.mv s.ch a6,i7.go s.mv s.ch a7,i8.go s.mv s.ch a8⟩
theorem Sp.g10 {A0 A1 A2 A3 A4 A5 A6 A7 A8 A9 B0 B1 B2 B3 B4 B5 B6 B7 B8 B9:Prop} (s:Sp M M1 S w w1) (a0:A0) (a1:A1) (a2:A2) (a3:A3) (a4:A4) (a5:A5) (a6:A6) (a7:A7) (a8:A8) (a9:A9) [i0:MT M M1 S w w1 A0 B0] [i1:MT M M1 S w w1 A1 B1] [i2:MT M M1 S w w1 A2 B2] [i3:MT M M1 S w w1 A3 B3] [i4:MT M M1 S w w1 A4 B4] [i5:MT M M1 S w w1 A5 B5] [i6:MT M M1 S w w1 A6 B6] [i7:MT M M1 S w w1 A7 B7] [i8:MT M M1 S w w1 A8 B8] [i9:MT M M1 S w w1 A9 B9]:B0∧B1∧B2∧B3∧B4∧B5∧B6∧B7∧B8∧B9:=⟨i0.go s.mv s.ch a0,i1.go s.mv s.ch a1,i2.go s.mv s.ch a2,i3.go s.mv s.ch a3,i4.go s.mv s.ch a4,i5.go s.mv s.ch a5,i6.go s.mv s.ch a6,i7.go s.mv s.ch a7,i8.go s.mv s.ch a8,i9.go s.mv s.ch a9⟩
theorem Sp.g11 {A0 A1 A2 A3 A4 A5 A6 A7 A8 A9 A10 B0 B1 B2 B3 B4 B5 B6 B7 B8 B9 B10:Prop} (s:Sp M M1 S w w1) (a0:A0) (a1:A1) (a2:A2) (a3:A3) (a4:A4) (a5:A5) (a6:A6) (a7:A7) (a8:A8) (a9:A9) (a10:A10) [i0:MT M M1 S w w1 A0 B0] [i1:MT M M1 S w w1 A1 B1] [i2:MT M M1 S w w1 A2 B2] [i3:MT M M1 S w w1 A3 B3] [i4:MT M M1 S w w1 A4 B4] [i5:MT M M1 S w w1 A5 B5] [i6:MT M M1 S w w1 A6 B6] [i7:MT M M1 S w w1 A7 B7] [i8:MT M M1 S w w1 A8 B8] [i9:MT M M1 S w w1 A9 B9] [i10:MT M M1 S w w1 A10 B10]:B0∧B1∧B2∧B3∧B4∧B5∧B6∧B7∧B8∧B9∧B10:=⟨i0.go s.mv s.ch a0,i1.go s.mv s.ch a1,i2.go s.mv s.ch a2,i3.go s.mv s.ch a3,i4.go s.mv s.ch a4,i5.go s.mv s.ch a5,i6.go s.mv s.ch a6,i7.go s.mv s.ch a7,i8.go s.mv s.ch a8,i9.go s.mv s.ch a9,i10.go s.mv s.ch a10⟩
theorem Sp.g12 {A0 A1 A2 A3 A4 A5 A6 A7 A8 A9 A10 A11 B0 B1 B2 B3 B4 B5 B6 B7 B8 B9 B10 B11:Prop} (s:Sp M M1 S w w1) (a0:A0) (a1:A1) (a2:A2) (a3:A3) (a4:A4) (a5:A5) (a6:A6) (a7:A7) (a8:A8) (a9:A9) (a10:A10) (a11:A11) [i0:MT M M1 S w w1 A0 B0] [i1:MT M M1 S w w1 A1 B1] [i2:MT M M1 S w w1 A2 B2] [i3:MT M M1 S w w1 A3 B3] [i4:MT M M1 S w w1 A4 B4] [i5:MT M M1 S w w1 A5 B5] [i6:MT M M1 S w w1 A6 B6] [i7:MT M M1 S w w1 A7 B7] [i8:MT M M1 S w w1 A8 B8] [i9:MT M M1 S w w1 A9 B9] [i10:MT M M1 S w w1 A10 B10] [i11:MT M M1 S w w1 A11 B11]:B0∧B1∧B2∧B3∧B4∧B5∧B6∧B7∧B8∧B9∧B10∧B11:=⟨i0.go s.mv s.ch a0,i1.go s.mv s.ch a1,i2.go s.mv s.ch a2,i3.go s.mv s.ch a3,i4.go s.mv s.ch a4,i5.go s.mv s.ch a5,i6.go s.mv s.ch a6,i7.go s.mv s.ch a7,i8.go s.mv s.ch a8,i9.go s.mv s.ch a9,i10.go s.mv s.ch a10,i11.go s.mv s.ch a11⟩
end
theorem al1 {a0 s:Nat} (h0:a0< s):∀ b∈[a0],b< s:=all_cons h0 (all_nil)
theorem al2 {a0 a1 s:Nat} (h0:a0< s) (h1:a1< s):∀ b∈[a0,a1],b< s:=all_cons h0 (all_cons h1 (all_nil))
theorem al3 {a0 a1 a2 s:Nat} (h0:a0< s) (h1:a1< s) (h2:a2< s):∀ b∈[a0,a1,a2],b< s:=all_cons h0 (all_cons h1 (all_cons h2 (all_nil)))
theorem al4 {a0 a1 a2 a3 s:Nat} (h0:a0< s) (h1:a1< s) (h2:a2< s) (h3:a3< s):∀ b∈[a0,a1,a2,a3],b< s:=all_cons h0 (all_cons h1 (all_cons h2 (all_cons h3 (all_nil))))
theorem al5 {a0 a1 a2 a3 a4 s:Nat} (h0:a0< s) (h1:a1< s) (h2:a2< s) (h3:a3< s) (h4:a4< s):∀ b∈[a0,a1,a2,a3,a4],b< s:=all_cons h0 (all_cons h1 (all_cons h2 (all_cons h3 (all_cons h4 (all_nil)))))
theorem al6 {a0 a1 a2 a3 a4 a5 s:Nat} (h0:a0< s) (h1:a1< s) (h2:a2< s) (h3:a3< s) (h4:a4< s) (h5:a5< s):∀ b∈[a0,a1,a2,a3,a4,a5],b< s:=all_cons h0 (all_cons h1 (all_cons h2 (all_cons h3 (all_cons h4 (all_cons h5 (all_nil))))))
theorem al7 {a0 a1 a2 a3 a4 a5 a6 s:Nat} (h0:a0< s) (h1:a1< s) (h2:a2< s) (h3:a3< s) (h4:a4< s) (h5:a5< s) (h6:a6< s):∀ b∈[a0,a1,a2,a3,a4,a5,a6],b< s:=all_cons h0 (all_cons h1 (all_cons h2 (all_cons h3 (all_cons h4 (all_cons h5 (all_cons h6 (all_nil)))))))
end Go.Proofs.YtganlmloonielaaGreat
namespace Go.Proofs.YtganlmloonielaaGreat
def Lq:List Nat→Bool
 | []=>true
 | x::xs=>!(xs.any fun y=>Nat.beq x y)&&Lq xs
theorem PH:∀ {l:List Nat},Lq l=true→l.Nodup:=by
 intro l
 induction l with
 | nil=>intro _; simp
 | cons x xs ih =>
   intro h
   simp only [Lq,AR,Bool.not_eq_true',List.any_eq_false] at h
   refine List.nodup_cons.2 ⟨fun hm=>?_,ih h.2⟩
   have:=h.1 x hm
   simp at this
section
variable {P:Program} {S:Nat→Prop} {n m:Nat} {L:Env→World→Prop} {ops:Array Oper} {l:List Nat} {e:Env} {w:World}
theorem K4 {L L':Array Bool→Act→World→Prop} (h:∀ listed a w,L listed a w→L' listed a w):∀ (f:Nat) (listed:Array Bool) (a:Act) (w:World),JP P S ops m L f listed a w→JP P S ops m L' f listed a w
 | 0,listed,a,w,hh=>fun w1 hx=>h _ _ _ (hh w1 hx)
 | f+1,listed,a,w,hh=>⟨hh.1,fun w1 hx i hi=>⟨(hh.2 w1 hx i hi).1,MH (fun a' w' _ h'=>K4 h f _ a' w' h') (hh.2 w1 hx i hi).2⟩⟩
theorem GA.mono {L':Env→World→Prop} (h:∀ e w,L e w→L' e w) (hh:GA P S n m L ops l e w):GA P S n m L' ops l e w:=fun hB f a hf ha inv =>
 K4 (fun _ _ _ ⟨h1,e',h2,h3⟩=>⟨h1,e',h2,h _ _ h3⟩) f _ a w (hh hB f a hf ha inv)
def QJ (ops:Array Oper) (m:Nat) (l:List Nat) (e:Env):Env:=(List.range m).foldr (fun i e=>bif l.any (fun j=>Nat.beq i j) then e else BL e (An ops i).dst undef) e
def UM (ops:Array Oper) (m:Nat) (l:List Nat) (e:Env) (i:Nat):Bool :=
 match (An ops i).guard with
 | none=>false
 | some (j,_)=>bif l.any (fun k=>Nat.beq j k) then !(Ef ops (An ops i) e) else Nat.blt j m&&(An ops i).after.toList.any (fun g=>Nat.beq g.on j&&Region.binds .any g)
def Tn (n m:Nat) (ops:Array Oper) (l:List Nat) (e:Env):Bool :=
 Nat.ble m ops.toList.length&&l.all (fun i=>Nat.blt i m)&&Lq l&&(List.range m).all (fun i=>MF n ops i&&((An ops i).after.toList.all fun g=>Nat.blt g.on i)&&(l.any (fun j=>Nat.beq i j) || UM ops m l e i))
theorem QK {o:Oper} {e':Env} (h:Ef ops o e=false) (he:∀ t,e' t=e t∨e' t=undef):Ef ops o e'=false:=by
 unfold Ef at h ⊢
 cases hg:o.guard with
 | none=>rw [hg] at h; simp at h
 | some g =>
   obtain ⟨j,want⟩:=g
   rw [hg] at h
   simp only at h ⊢
   cases hd:(ops[j]?).bind (·.dst) with
   | none=>rfl
   | some t =>
     rw [hd] at h
     simp only at h ⊢
     rcases he t with h1 | h1
     ·rw [h1]; exact h
     ·rw [h1]; rfl
theorem Jl {i:Nat}:(l.any fun j=>Nat.beq i j)=true↔i∈l:=by
 rw [List.any_eq_true]
 constructor
 ·rintro ⟨j,hj,h⟩; rw [Nat.eq_of_beq_eq_true h]; exact hj
 ·intro h; exact ⟨i,h,by simp⟩
theorem Sa {l:List Nat} (h1:∀ i∈l,i< m) (h2:l.Nodup) (h3:m≤l.length):∀ i,i< m→i∈l:=by
 intro i hi
 by_cases hm:i∈l
 ·exact hm
 ·exfalso
  have key:∀ (m:Nat) (l:List Nat),(∀ i∈l,i< m)→l.Nodup→l.length≤m:=by
   intro m
   induction m with
   | zero=>intro l h _; cases l with | nil=>exact Nat.le_refl _ | cons x xs=>exact absurd (h x (by simp)) AB
   | succ m ih =>
     intro l h hn
     have:=ih (l.erase m) (fun i hi=>by
      have h1:=h i (List.mem_of_mem_erase hi)
      have h2:i≠m:=fun e=>by subst e; exact (List.Nodup.mem_erase_iff hn).1 hi |>.1 rfl
      omega) (hn.erase m)
     have:=List.length_erase (a:=m) (l:=l)
     split at this <;> omega
  have:=key m (i::l) (fun j hj=>by rcases List.mem_cons.1 hj with rfl | hj; exact hi; exact h1 j hj) (List.nodup_cons.2 ⟨hm,h2⟩)
  simp at this
  omega
theorem QL:∀ (m:Nat) (l:List Nat),(∀ i,i< m→i∈l)→m≤l.length:=by
 intro m
 induction m with
 | zero=>intro l _; omega
 | succ m ih =>
   intro l h
   have hm:=h m AB
   have:=ih (l.erase m) (fun i hi=>(List.mem_erase_of_ne AB).2 (h i AB))
   have h2:=List.length_erase_of_mem hm
   have:=List.length_pos_of_mem hm
   omega
theorem NX (l:List Nat) (e:Env):∀ (is:List Nat) (t:Nat),((∃ i∈is,i∉l∧(An ops i).dst=some t)→is.foldr (fun i e=>bif l.any (fun j=>Nat.beq i j) then e else BL e (An ops i).dst undef) e t=undef) ∧
 (¬ (∃ i∈is,i∉l∧(An ops i).dst=some t)→is.foldr (fun i e=>bif l.any (fun j=>Nat.beq i j) then e else BL e (An ops i).dst undef) e t=e t):=by
 intro is
 induction is with
 | nil=>intro t; exact ⟨fun ⟨i,hi,_⟩=>(by cases hi),fun _=>rfl⟩
 | cons i is ih =>
   intro t
   obtain ⟨h1,h2⟩:=ih t
   simp only [List.foldr_cons]
   cases hc:l.any (fun j=>Nat.beq i j) with
   | true =>
     have hm:=Jl.1 hc
     simp only [cond_true]
     refine ⟨fun ⟨j,hj,hn,hd⟩=>h1 ?_,fun hno=>h2 (fun ⟨j,hj,hn,hd⟩=>hno ⟨j,by simp [hj],hn,hd⟩)⟩
     rcases List.mem_cons.1 hj with rfl | hj
     ·exact absurd hm hn
     ·exact ⟨j,hj,hn,hd⟩
   | false =>
     have hm:i∉l:=fun h=>by rw [Jl.2 h] at hc; cases hc
     simp only [cond_false]
     cases hd:(An ops i).dst with
     | none =>
       simp only [BL]
       refine ⟨fun ⟨j,hj,hn,hdj⟩=>h1 ?_,fun hno=>h2 (fun ⟨j,hj,hn,hdj⟩=>hno ⟨j,by simp [hj],hn,hdj⟩)⟩
       rcases List.mem_cons.1 hj with rfl | hj
       ·rw [hd] at hdj; cases hdj
       ·exact ⟨j,hj,hn,hdj⟩
     | some d =>
       simp only [BL,upd]
       by_cases ht:t=d
       ·subst ht
        simp only [Nat.beq_refl,cond_true]
        exact ⟨fun _=>trivial,fun hno=>absurd ⟨i,by simp,hm,hd⟩ hno⟩
       ·have hb:Nat.beq t d=false:=by
         cases hb:Nat.beq t d with
         | false=>rfl
         | true=>exact absurd (Nat.eq_of_beq_eq_true hb) ht
        simp only [hb,cond_false]
        refine ⟨fun ⟨j,hj,hn,hdj⟩=>h1 ?_,fun hno=>h2 (fun ⟨j,hj,hn,hdj⟩=>hno ⟨j,by simp [hj],hn,hdj⟩)⟩
        rcases List.mem_cons.1 hj with rfl | hj
        ·rw [hd] at hdj; exact absurd (Option.some.inj hdj).symm ht
        ·exact ⟨j,hj,hn,hdj⟩
theorem GA.skip (h:Tn n m ops l e=true) (H:∀ w1,Ext w w1→L (QJ ops m l e) w1):GA P S n m L ops l e w:=by
 intro hB f a hf ha inv
 simp only [Tn,AR,List.all_eq_true,List.mem_range,Bool.or_eq_true] at h
 obtain ⟨⟨⟨hms,hl⟩,hnd⟩,hall⟩:=h
 have hms:=Nat.le_of_ble_eq_true hms
 have hsz:ops.toList.length=ops.size:=rfl
 have hl2:∀ i∈l,i< m:=fun i hi=>Nat.le_of_ble_eq_true (hl i hi)
 have key:∀ (f:Nat) (l':List Nat) (a:Act) (w:World) (e':Env),(∀ i∈l',i< m)→l'.Nodup→(∀ i∈l,i∈l')→f+l'.length=m→HeadInv .any ops m (lst ops.size l')→Sees n a e' →
  (∀ t,((∃ i∈l',i∉l∧(An ops i).dst=some t)→e' t=undef)∧(¬ (∃ i∈l',i∉l∧(An ops i).dst=some t)→e' t=e t))→(∀ w1,Ext w w1→L (QJ ops m l e) w1) →
  JP P S ops m (fun listed a' w'=>listed=fin ops m∧∃ e',Sees n a' e'∧L e' w') f (lst ops.size l') a w:=by
  intro f
  induction f with
  | zero =>
    intro l' a w e' h1 h2 h3 h4 hiv h5 h6 h7 w1 hx
    have hfull:=Sa h1 h2 AB
    refine ⟨?_,e',h5,?_⟩
    ·unfold fin
     refine Array.ext_getElem? (fun i=>?_)
     by_cases hi:i< ops.size
     ·rw [El _ hi,El _ hi]
      congr 1
      rw [decide_eq_decide]
      simp only [List.mem_reverse,List.mem_range]
      exact ⟨fun hm=>h1 i hm,fun hm=>hfull i hm⟩
     ·rw [Array.getElem?_eq_none (by rw [Fb]; omega),Array.getElem?_eq_none (by rw [Fb]; omega)]
    ·have:e'=QJ ops m l e:=by
      funext t
      obtain ⟨g1,g2⟩:=NX (ops:=ops) l e (List.range m) t
      obtain ⟨k1,k2⟩:=h6 t
      by_cases hc:∃ i∈l',i∉l∧(An ops i).dst=some t
      ·rw [k1 hc]
       obtain ⟨i,hi,hn,hd⟩:=hc
       exact (g1 ⟨i,List.mem_range.2 (h1 i hi),hn,hd⟩).symm
      ·rw [k2 hc]
       exact (g2 (fun ⟨i,hi,hn,hd⟩=>hc ⟨i,hfull i (List.mem_range.1 hi),hn,hd⟩)).symm
     rw [this]
     exact h7 w1 hx
  | succ f ih =>
    intro l' a w e' h1 h2 h3 h4 hiv h5 h6 h7
    have hex:∃ i,i< m∧i∉l'∧∀ j,j< i→j∈l':=by
     have:∃ i,i< m∧i∉l':=Classical.byContradiction (fun hno=>by
      have hall:∀ i,i< m→i∈l':=fun i hi=>Classical.byContradiction (fun hn=>hno ⟨i,hi,hn⟩)
      have:=QL m l' hall
      omega)
     obtain ⟨i,hi,hn⟩:=this
     induction i using Nat.strongRecOn with
     | ind i ihi =>
       by_cases hall:∀ j,j< i→j∈l'
       ·exact ⟨i,hi,hn,hall⟩
       ·obtain ⟨j,hj⟩:=Classical.not_forall.1 hall
        obtain ⟨hj1,hj2⟩:=Classical.not_imp.1 hj
        exact ihi j hj1 AB hj2
    obtain ⟨i0,hi0,hn0,hlow⟩:=hex
    have hat:∀ i,i< m→ops[i]? = some (An ops i):=fun i hi=>by
     have:i< ops.size:=by omega
     simp [An,this]
    refine ⟨fun hr=>?_,fun w1 hx i hi=>?_⟩
    ·have:i0∈Region.ready .any ops (lst ops.size l'):=by
      rw [mem_ready]
      refine ⟨?_,An ops i0,hat i0 hi0,fun g hg _=>?_⟩
      ·rw [Array.getD_eq_getD_getElem?,El _ AB]
       simp [hn0]
      ·have hlt:=(hall i0 hi0).1.2 g (by simpa using hg)
       have hlt:=Nat.le_of_ble_eq_true hlt
       rw [Array.getD_eq_getD_getElem?,El _ AB]
       simp [hlow g.on AB]
     rw [hr] at this
     cases this
    ·obtain ⟨hun,o,ho,_⟩:=mem_ready.1 hi
     have his:i< ops.size:=(Array.getElem?_eq_some_iff.1 ho).1
     rw [Array.getD_eq_getD_getElem?,El _ his] at hun
     have hni:i∉l':=by simpa using hun
     have him:i< m:=by
      rcases Nat.lt_or_ge i m with h | h
      ·exact h
      ·exfalso
       obtain ⟨_,_,htl,_⟩:=HM hB
       exact Jx htl (lst ops.size l') hiv (i:=i0) hi0 (by rw [Array.getD_eq_getD_getElem?,El _ AB]; simp [hn0]) i h hi
     refine ⟨him,?_⟩
     have hil:i∉l:=fun hm=>hni (h3 i hm)
     have hu:UM ops m l e i=true:=(hall i him).2.resolve_left (fun hc=>hil (Jl.1 hc))
     have hw:Ef ops (An ops i) e'=false:=by
      unfold UM at hu
      cases hg:(An ops i).guard with
      | none=>rw [hg] at hu; cases hu
      | some g =>
        obtain ⟨j,want⟩:=g
        rw [hg] at hu
        simp only at hu
        cases hj:l.any (fun k=>Nat.beq j k) with
        | true =>
          rw [hj] at hu
          simp only [cond_true,Bool.not_eq_true'] at hu
          refine QK hu (fun t=>?_)
          obtain ⟨k1,k2⟩:=h6 t
          by_cases hc:∃ i∈l',i∉l∧(An ops i).dst=some t
          ·exact .inr (k1 hc)
          ·exact .inl (k2 hc)
        | false =>
          rw [hj] at hu
          simp only [cond_false,AR,List.any_eq_true] at hu
          obtain ⟨hjm,gg,hgg,hgo,hgb⟩:=hu
          have hjm:=Nat.le_of_ble_eq_true hjm
          have hgo:=Nat.eq_of_beq_eq_true hgo
          have hjl:j∉l:=fun h=>by rw [Jl.2 h] at hj; cases hj
          obtain ⟨_,o2,ho2,hall2⟩:=mem_ready.1 hi
          have e1:=hat i him
          rw [e1] at ho2
          cases ho2
          have h8:=hall2 gg (by simpa using hgg) hgb
          rw [hgo,He _ AB] at h8
          have hjl':j∈l':=by simpa using h8
          unfold Ef
          rw [hg]
          simp only
          rw [hat j hjm]
          cases hd:(An ops j).dst with
          | none=>simp [hd]
          | some t =>
            simp only [Option.bind_some,hd]
            rw [(h6 t).1 ⟨j,hjl',hjl,hd⟩]
            rfl
     unfold gOp
     simp only [hat i him]
     rw [h5.want,hw]
     simp only [Bool.false_eq_true,if_false]
     rw [← DV]
     have hd:=(hall i him).1.1
     have hdk:okD n (An ops i).dst=true:=by simp only [MF,AR] at hd; exact hd.2
     refine ih (i::l') (a.put (An ops i).dst undef) w1 (BL e' (An ops i).dst undef) (fun j hj=>?_) (List.nodup_cons.2 ⟨hni,h2⟩) (fun j hj=>by simp [h3 j hj]) (by simp only [List.length_cons]; omega) (by rw [DV]; exact hiv.set hi him) (h5.Lb hdk undef) (fun t=>?_) (fun w2 hx2=>h7 w2 (hx.trans hx2))
     ·rcases List.mem_cons.1 hj with rfl | hj
      ·exact him
      ·exact h1 j hj
     ·obtain ⟨k1,k2⟩:=h6 t
      cases hdd:(An ops i).dst with
      | none =>
        simp only [BL]
        refine ⟨fun ⟨j,hj,hn,hdj⟩=>k1 ?_,fun hno=>k2 (fun ⟨j,hj,hn,hdj⟩=>hno ⟨j,by simp [hj],hn,hdj⟩)⟩
        rcases List.mem_cons.1 hj with rfl | hj
        ·rw [hdd] at hdj; cases hdj
        ·exact ⟨j,hj,hn,hdj⟩
      | some d =>
        simp only [BL,upd]
        by_cases ht:t=d
        ·subst ht
         simp only [Nat.beq_refl,cond_true]
         exact ⟨fun _=>trivial,fun hno=>absurd ⟨i,by simp,hil,hdd⟩ hno⟩
        ·have hb:Nat.beq t d=false:=by
          cases hb:Nat.beq t d with
          | false=>rfl
          | true=>exact absurd (Nat.eq_of_beq_eq_true hb) ht
         simp only [hb,cond_false]
         refine ⟨fun ⟨j,hj,hn,hdj⟩=>k1 ?_,fun hno=>k2 (fun ⟨j,hj,hn,hdj⟩=>hno ⟨j,by simp [hj],hn,hdj⟩)⟩
         rcases List.mem_cons.1 hj with rfl | hj
         ·rw [hdd] at hdj; exact absurd (Option.some.inj hdj).symm ht
         ·exact ⟨j,hj,hn,hdj⟩
 exact key f l a w e hl2 (PH hnd) (fun i hi=>hi) hf inv ha (fun t=>⟨fun ⟨i,hi,hn,_⟩=>absurd hi hn,fun _=>rfl⟩) H
end
section
variable {P:Program} {f:FuncId} {fn:Func} {R:Value→World→Prop} {c:Code} {k:List Item} {e:Env} {w:World}
theorem T.Du {X:Type} (S:Nat→Prop) (m:Nat) (V:X→List (Nat × Value)) (I:X→World→Prop) (h:(Jv c true&&P.follows .mixedOrders&&Kz (IZ c) m)=true)
 (H1:∀ w1,Ext w w1→GA P S fn.ntmps m (fun e' w'=>∃ x,HJ e' (V x)∧I x w') (IZ c) [] e w1)
 (H2:∀ x e' w',I x w'→RG P fn.ntmps (fun e'' w''=>T P f fn R k e'' w'') (IZ c) m (PF e' (V x)) w'):T P f fn R (.code c::k) e w :=
 T.ON S m h (fun w1 hx=>(H1 w1 hx).mono (fun e' w' ⟨x,ha,hi⟩=>by have:=H2 x e' w' hi; rwa [Ia ha] at this))
end
theorem Ac {w:World} {b:Nat} (h:Cov nil w b):w.heap.size≤b:=h.or.resolve_left (fun h=>h)
end Go.Proofs.YtganlmloonielaaGreat
namespace Go.Proofs.YtganlmloonielaaGreat
theorem CS {a a' b b':Value} (h:a=a') (h':b=b'):Value.tuple #[a,b]=Value.tuple #[a',b']:=by rw [h,h']
theorem Ic {a a' b b' c c':Value} (h:a=a') (h':b=b') (h2:c=c'):Value.tuple #[a,b,c]=Value.tuple #[a',b',c']:=by rw [h,h',h2]
def inR (n lo hi:Int):Bool:=decide (lo≤n)&&decide (n≤hi)
theorem CN {n lo hi:Int} (h:inR n lo hi=true):lo≤n∧n≤hi:=by simpa [inR] using h
theorem Ex {n lo hi:Int} (h:inR n lo hi=false):¬ (lo≤n∧n≤hi):=by intro h1; simp [inR] at h; omega
def Bw (r:Row):Bool:=inR r.t 0 99&&inR r.v (-99) 99
def CG:Option Row→List Row→Bool
 | _,[]=>true
 | o,r::rs=>Bw r&&(match o with | some q=>decide (q.t< r.t) | none=>true)&&CG (some r) rs
def BE (b:List Row):Bool:=CG none b&&decide (b.length≤24)
def Cm (out:List Row) (r:Row) (done:Bool):List Row→List Row
 | []=>if done then out else out++[r]
 | x :: xs =>
   if !done&&decide (x.t≥r.t) then
    (if x.t != r.t then Cm (out++[r]++[x]) r true xs else Cm (out++[r]) r true xs)
   else (if x.t != r.t then Cm (out++[x]) r done xs else Cm out r done xs)
def Di (b:List Row) (r:Row):List Row:=Cm [] r false b
def Bk (a b:List Row):List Row:=b.foldl Di a
def has (n:List Tag) (t:Tag):Bool:=n.any (fun x=>x==t)
def FC (t:Tag):Nat→List (List Tag)→List Int
 | _,[]=>[]
 | i,n::ns=>(if has n t then [(i:Int)+1] else [])++FC t (i+1) ns
def ids (names:List (List Tag)) (t:Tag):List Int:=FC t 0 names
def BY:Nat→List (List Row)→List Int × List (List Row)
 | _,[]=>([],[])
 | i,b::bs=>if b.length > 0 then (((i:Int)+1)::(BY (i+1) bs).1,b::(BY (i+1) bs).2) else BY (i+1) bs
def DI (blocks:List (List Row)):Prt:=⟨(BY 0 blocks).1,(BY 0 blocks).2⟩
def J2 (lo hi:Int) (s:Str):Bool:=match s with | [x]=>inR x.toNat lo hi | _=>false
def Bg (t:Tag):Bool:=J2 97 100 t.key&&J2 112 122 t.val
def Dl:Option Tag→List Tag→Bool
 | _,[]=>true
 | o,t::ts=>Bg t&&(match o with | some q=>Bq q.key t.key | none=>true)&&Dl (some t) ts
def BS (n:List Tag):Bool:=Dl none n&&inR n.length 1 3
theorem FT {s:Str} (h:(s.length:Int)=1):∃ x,s=[x]:=by
 match s,h with
 | [x],_=>exact ⟨x,rfl⟩
 | [],h=>simp at h
 | x::y::r,h=>simp only [List.length_cons] at h; omega
theorem OW {lo hi:Int} {s:Str} (h:(s.length:Int)≠1):J2 lo hi s=false:=by
 match s,h with
 | [x],h=>simp at h
 | [],_=>rfl
 | x::y::r,_=>rfl
theorem ES {t:Tag} (h:(t.key.length:Int)≠1):Bg t=false:=by simp [Bg,OW h]
theorem Dd {t:Tag} (h:(t.val.length:Int)≠1):Bg t=false:=by simp [Bg,OW h]
theorem QM {t:Tag} {x y:UInt8} (hk:t.key=[x]) (hv:t.val=[y]):Bg t=(inR x.toNat 97 100&&inR y.toNat 112 122):=by simp [Bg,J2,hk,hv]
theorem J3 (x y:UInt8):Bq [x] [y]=decide (x.toNat< y.toNat):=by
 unfold Bq Op.bytesLess Op.bytesLess
 by_cases h:x< y
 ·simp [h,UInt8.lt_iff_toNat_lt.1 h]
 ·have h2:¬ x.toNat< y.toNat:=fun h2=>h (UInt8.lt_iff_toNat_lt.2 h2)
  simp [h,h2]
theorem QN (x y:UInt8):Ev [x] [y]=decide (x.toNat≤y.toNat):=by
 have h:=J3 x y
 unfold Bq at h
 unfold Ev
 rw [h,Bool.eq_iff_iff]
 simp only [Bool.or_eq_true,decide_eq_true_eq,beq_iff_eq,List.cons.injEq,and_true]
 constructor
 ·rintro (h | rfl) <;> omega
 ·intro h1
  by_cases h2:x.toNat< y.toNat
  ·exact .inl h2
  ·exact .inr (UInt8.toNat_inj.1 AB)
theorem Dm {t:Tag} (hk:(t.key.length:Int)=1) (hv:(t.val.length:Int)=1):Bg t=(!(Bq t.key [97])&&Ev t.key [100] && !(Bq t.val [112])&&Ev t.val [122]):=by
 obtain ⟨x,hx⟩:=FT hk
 obtain ⟨y,hy⟩:=FT hv
 rw [QM hx hy,hx,hy,J3,QN,J3,QN]
 unfold inR
 rw [Bool.eq_iff_iff]
 simp
 omega
theorem Fe {t:Tag} (hk:(t.key.length:Int)=1) (h:Bq t.key [97]=true):Bg t=false:=by
 by_cases hv:(t.val.length:Int)=1
 ·rw [Dm hk hv,h]; simp
 ·exact Dd hv
theorem Ff {t:Tag} (hk:(t.key.length:Int)=1) (h:Ev t.key [100]=false):Bg t=false:=by
 by_cases hv:(t.val.length:Int)=1
 ·rw [Dm hk hv,h]; simp
 ·exact Dd hv
theorem at1 {s:Str} {y:UInt8} (h:(s.length:Int)=1) (hy:s[0]? = some y):s=[y]:=by
 obtain ⟨x,rfl⟩:=FT h
 simpa using hy
theorem Jm {lo hi:Int} {s:Str} {y:UInt8} (h:(s.length:Int)=1) (hy:s[0]? = some y):J2 lo hi s=inR y.toNat lo hi:=by
 rw [at1 h hy]; rfl
theorem Gp (t:Tag):Bg t=(J2 97 100 t.key&&J2 112 122 t.val):=rfl
theorem QO (r:Row):∀ (xs out:List Row) (d:Bool),(Cm out r d xs).length≤out.length+xs.length+1∧(d=true→(Cm out r d xs).length≤out.length+xs.length):=by
 intro xs
 induction xs with
 | nil=>intro out d; cases d <;> simp [Cm]
 | cons x xs ih =>
   intro out d
   have h1:=ih (out++[r]++[x]) true
   have h2:=ih (out++[r]) true
   have h3:=ih (out++[x]) d
   have h4:=ih out d
   simp only [List.length_append,List.length_cons,List.length_nil] at h1 h2 h3 h4
   unfold Cm
   cases d <;> simp only [Bool.not_true,Bool.not_false,Bool.false_and,Bool.true_and,List.length_cons] <;> split <;> (try split) <;> constructor <;> (try intro hd) <;> (try cases hd) <;> first | omega | simp_all <;> omega
theorem DJ (b:List Row) (r:Row):(Di b r).length≤b.length+1:=by
 have:=(QO r b [] false).1
 simpa [Di] using this
def Bp (id:Int):List Int→List (List Row)→List Row
 | i::is,b::bs=>if i==id then b else Bp id is bs
 | _,_=>[]
def partOf (p:Prt) (id:Int):List Row:=Bp id p.ids p.blocks
def prev {α:Type} (xs:List α) (k:Nat):Option α:=if k=0 then none else xs[k - 1]?
@[grind =] theorem PI {α:Type} (xs:List α) (k:Nat):prev xs (k+1)=xs[k]? := by simp [prev]
theorem MV {α:Type} (xs:List α) (k:Nat) (h:0< k):prev xs k=xs[k - 1]? := by simp [prev]; omega
def Bl:Option Int→List Int→List (List Row)→Bool
 | _,[],_=>true
 | o,i::is,b::bs=>inR i 1 6&&(match o with | some q=>decide (q< i) | none=>true)&&decide (0< b.length)&&BE b&&Bl (some i) is bs
 | _,_::_,[]=>false
def Au (p:Prt):Bool:=decide (p.ids.length=p.blocks.length)&&Bl none p.ids p.blocks
def Br (p:Prt) (n:Int):Bool:=Au p&&(match p.ids.getLast? with | some i=>decide (i≤n) | none=>false)
def Dr (v:Int):Nat→List Int→Int
 | _,[]=>-1
 | i,x::xs=>if x==v then (i:Int) else Dr v (i+1) xs
def Km:Int→List Int→Int
 | m,[]=>m
 | m,x::xs=>Km (if x > m then x else m) xs
def maxOf:List Int→Int
 | []=>0
 | x::xs=>Km x xs
def HA (t:Tag):Str:=t.key++[61]++t.val
def EY:Nat→List Tag→Str
 | _,[]=>[]
 | i,t::ts=>(if i > 0 then [44] else [])++HA t++EY (i+1) ts
def text (n:List Tag):Str:=EY 0 n
def DF (a b:Tag):Bool:=Bq a.key b.key || a.key==b.key&&Bq a.val b.val
def CZ (id:Int) (o:List Row) (p:Prt):List Row:=Bk o (partOf p id)
def Cg (id:Int) (o:List Row) (m:Smp):List Row:=if m.id==id then Di o m.row else o
def rowsOf (s:Sto) (id:Int):List Row:=s.mem.foldl (Cg id) (s.parts.foldl (CZ id) [])
def Be (a b:Prt) (n:Nat):List (List Row):=(List.range n).map (fun (i:Nat)=>Bk (partOf a ((i:Int)+1)) (partOf b ((i:Int)+1)))
def BT (a b:Prt):Prt:=DI (Be a b 6)
theorem Hk (a b:Prt) (n:Nat):Be a b (n+1)=Be a b n++[Bk (partOf a ((n:Int)+1)) (partOf b ((n:Int)+1))]:=by simp [Be,List.range_succ]
theorem Dn (a b:Prt) (n:Nat):(Be a b n).length=n:=by simp [Be]
def Fg (n:List Tag):Prop:=n.length≤1000∧∀ t∈n,t.key.length≤1000∧t.val.length≤1000
def Cw (p:Prt):Prop:=p.ids.length=p.blocks.length∧p.blocks.length≤1000∧∀ b∈p.blocks,b.length≤1000
theorem HN (a b:List Row):(Bk a b).length≤a.length+b.length:=by
 unfold Bk
 induction b generalizing a with
 | nil=>simp
 | cons x xs ih =>
   simp only [List.foldl_cons,List.length_cons]
   have h1:=ih (Di a x)
   have h2:=DJ a x
   omega
theorem Ie (id:Int):∀ (is:List Int) (bs:List (List Row)),Bp id is bs=[]∨Bp id is bs∈bs:=by
 intro is
 induction is with
 | nil=>intro bs; left; unfold Bp; rfl
 | cons i is ih =>
   intro bs
   cases bs with
   | nil=>left; unfold Bp; rfl
   | cons b bs =>
     unfold Bp
     split
     ·right; simp
     ·rcases ih bs with h | h
      ·left; exact h
      ·right; exact List.mem_cons_of_mem _ h
theorem Ck {p:Prt} (h:Cw p) (id:Int):(partOf p id).length≤1000:=by
 rcases Ie id p.ids p.blocks with h1 | h1
 ·unfold partOf; rw [h1]; simp
 ·exact h.2.2 _ h1
theorem MW {a b:Prt} (ha:Cw a) (hb:Cw b) (n:Nat):∀ x∈Be a b n,x.length≤2000:=by
 intro x hx
 simp only [Be,List.mem_map] at hx
 obtain ⟨i,_,rfl⟩:=hx
 have h1:=HN (partOf a ((i:Int)+1)) (partOf b ((i:Int)+1))
 have h2:=Ck ha ((i:Int)+1)
 have h3:=Ck hb ((i:Int)+1)
 omega
def DH (num:Int):Nat→List Fil→Int
 | _,[]=>-1
 | i,f::fs=>if f.num==num then (i:Int) else DH num (i+1) fs
def Ao (d:Dsk) (num:Int):Int:=DH num 0 d.files
def nmF (t:Str):Nat→List (List Tag)→Int
 | _,[]=>0
 | i,x::xs=>if text x==t then (i:Int)+1 else nmF t (i+1) xs
def GP (ix:Idx) (n:List Tag):Int:=nmF (text n) 0 ix.names
theorem Ey (a b:Pst):a=b↔a.tag=b.tag∧a.ids=b.ids:=by cases a; cases b; simp
end Go.Proofs.YtganlmloonielaaGreat
namespace Go.Proofs.YtganlmloonielaaGreat
set_option maxRecDepth 100000
set_option maxHeartbeats 4000000
theorem CM (n:Int) (low:Int) (high:Int) {w:World} {F:Nat→Prop}   : Calls Tryz.prog 69 [.int .i64 n,.int .i64 low,.int .i64 high].toArray w (As fun rv w'=>rv=.bool (inR n low high)∧Ext w w'):=by
 exact goT Tryz.func69<|.s<|.g<|.r 1<|.d<|.s<|.g<|.r 2<|.bp (n≥low) (fun C=>.r 6<|.d<|.rt Tryz.func69 Tryz.results69 (.bool (decide (n≤high))) ⟨(congrArg Value.bool (by simp [inR]; omega)),(Chg.refl _ _)⟩) fun C=>.r 6<|.d<|.rt Tryz.func69 Tryz.results69 (.bool false) ⟨(congrArg Value.bool (by simp [inR]; omega)),(Chg.refl _ _)⟩
theorem CO (n:Int) (low:Int) (high:Int) {w:World} {F:Nat→Prop}   : Calls Tryz.prog 64 [.int .i64 n,.int .i64 low,.int .i64 high].toArray w (As fun rv w'=>rv=.bool (inR n low high)∧Ext w w'):=by
 exact goT Tryz.func64<|.s<|.g<|.r 1<|.d<|.s<|.g<|.r 2<|.bp (n≥low) (fun C=>.r 6<|.d<|.rt Tryz.func64 Tryz.results64 (.bool (decide (n≤high))) ⟨(congrArg Value.bool (by simp [inR]; omega)),(Chg.refl _ _)⟩) fun C=>.r 6<|.d<|.rt Tryz.func64 Tryz.results64 (.bool false) ⟨(congrArg Value.bool (by simp [inR]; omega)),(Chg.refl _ _)⟩
theorem Hl (r:Row) {w:World} {F:Nat→Prop}   : Calls Tryz.prog 105 [.agg #[.int .i64 r.t,.int .i64 r.v]].toArray w (As fun rv w'=>rv=.bool (Bw r)∧Ext w w'):=by
 refine goT Tryz.func105<|.s<|.g<|.np 105 [vI r.t,vI r.v] fun ai ae ab J E ac=>?_
 have C:=J
 refine .r 1<|.d<|.s<|.g<|.r 1<|.lb E<|.cl (CM r.t 0 99 (w:=ae) (F:=all)) ?_
 rintro aj af ⟨rfl,O⟩
 replace ⟨E,C⟩:=(se [] O).g2 E C
 cases W:(inR r.t 0 99)
 ·have ag:=Ex W
  exact .r 6<|.d<|.rt Tryz.func105 Tryz.results105 (.bool false) ⟨(congrArg Value.bool (by simp_all [Bw])),C⟩
 have ah:=CN W
 refine .r 2<|.lb E<|.cl (CM r.v (-99) 99 (w:=af) (F:=all)) ?_
 rintro ak al ⟨rfl,aa⟩
 replace C:=(se [] aa).g1 C
 exact .r 2<|.d<|.rt Tryz.func105 Tryz.results105 (.bool (inR r.v (-99) 99)) ⟨(congrArg Value.bool (by simp_all [Bw])),C⟩
theorem Ft (r:Row) {w:World} {F:Nat→Prop}   : Calls Tryz.prog 115 [.agg #[.int .i64 r.t,.int .i64 r.v]].toArray w (As fun rv w'=>rv=.bool (Bw r)∧Ext w w'):=by
 refine goT Tryz.func115<|.s<|.g<|.np 105 [vI r.t,vI r.v] fun ai ae ab J E ac=>?_
 have C:=J
 refine .r 1<|.d<|.s<|.g<|.r 1<|.lb E<|.cl (CO r.t 0 99 (w:=ae) (F:=all)) ?_
 rintro aj af ⟨rfl,O⟩
 replace ⟨E,C⟩:=(se [] O).g2 E C
 cases W:(inR r.t 0 99)
 ·have ag:=Ex W
  exact .r 6<|.d<|.rt Tryz.func115 Tryz.results115 (.bool false) ⟨(congrArg Value.bool (by simp_all [Bw])),C⟩
 have ah:=CN W
 refine .r 2<|.lb E<|.cl (CO r.v (-99) 99 (w:=af) (F:=all)) ?_
 rintro ak al ⟨rfl,aa⟩
 replace C:=(se [] aa).g1 C
 exact .r 2<|.d<|.rt Tryz.func115 Tryz.results115 (.bool (inR r.v (-99) 99)) ⟨(congrArg Value.bool (by simp_all [Bw])),C⟩
theorem Cf (names:List (List Tag)) {w:World} {F:Nat→Prop} {a1:Option Addr} {n1 c1:Nat} (h1:RepS w F a1 n1 c1 names) (p0:names.length≤1000000) (p1:∀ n∈names,n.length≤1000000):Calls Tryz.prog 102 [.slice a1 n1 c1].toArray w (As fun rv w'=>VO 77 w.heap.size w' (names:List (List Tag)) rv∧Ext w w'):=by
 refine goT Tryz.func102 ?_
 obtain ⟨rfl,bk,h1⟩:=h1.tp
 refine .s<|.g<|.r 1<|.d<|.s<|.g<|.ns 0 77 [] fun aa ag af ah aD aE=>?_
 have aF:=Ad af (Nat.le_refl _)
 have aG:Cov nil w aa:=Bc af (Nat.le_refl _)
 replace h1:=(sn [] ah af).g1 h1
 have C:=ah
 have aH:Own (α:=List Tag) ag aa 77 (nin (ge w.heap.size) [aa]) 0 0 []:=Own.Ag aD
 refine .r 1<|.d<|.s<|.s<|.g<|.r 1<|.d<|.b 0<|T.loop (X:=(List (List Tag)) × Nat × Nat × Nat × Nat) (([]:List (List Tag)),aa,0,0,0) (fun (out,r_out,n_out,c_out,i)=>[(0,.slice a1 names.length c1),(3,vS r_out n_out c_out),(4,vI (i:Int))]) (fun (out,r_out,n_out,c_out,i) ao=>Chg (ins [aa]) ag ao∧Own ao r_out 77 (nin (ge w.heap.size) [r_out]) n_out c_out out∧OrB r_out aa ag.heap.size∧(i≤names.length)∧(out++names.drop i=names)) (fun (out,r_out,n_out,c_out,i)=>names.length - i) AA ⟨AA,AA,AA,trivial⟩ ⟨Chg.refl _ _,aH,BJ,AB,(by rfl)⟩ ?_
 rintro ⟨out,r_out,n_out,c_out,i⟩ bD ao ⟨J,E,ac,bm,bn⟩ ai
 have aI:=Bv ac aF C.size
 have bo:=Ar ac aG C.size
 have aJ:Cov (ins [aa]) ag aa:=⟨.inl AD⟩
 have bq:=Ar ac aJ (Nat.le_refl _)
 have av:Mv [aa] [r_out] ag ao:=Mv.inl J (all_cons AD all_nil) (all_cons (BV ac AD) all_nil)
 replace ⟨h1,C⟩:=(sp av J).g2 h1 C
 have br:=E.len; have bt:=E.max
 refine .s<|.s<|.g<|.r 3<|.bp ((i:Int)< (names.length:Int)) (fun aK=>?_) (fun aK=>.d<|.cf<|.x 0 rfl<|.s<|.g<|.r 2<|.d<|.rt Tryz.func102 Tryz.results102 (vS r_out n_out c_out) ⟨(VO.of E (by grind) aI),C⟩)
 refine .d<|.ct<|.sk<|.s<|.b 1<|.g<|.r 1<|.ns 0 120 [] fun aq aZ W aw aL aM=>?_
 have aN:=AS W E.lt
 have aO:=Ad W C.size
 have bu:=C.cn W
 have bv:=J.cn W
 replace ⟨h1,E,C,J⟩:=(sn [r_out] aw W).g4 h1 E C J
 have aP:Own (α:=Tag) aZ aq 120 (nin (ge w.heap.size) [aq,r_out]) 0 0 []:=Own.Ag aL
 refine .r 2 ?_
 have aQ:i< names.length:=AB
 refine .ix i 1 h1 aQ ?_
 obtain ⟨ar,aj⟩:∃ y,names[i]? = some y:=⟨_,AP AB⟩
 have bw:=AX aj; have aY:=AQ aj
 obtain ⟨_,⟨bE,bF,bG,rfl,aB⟩,aR⟩:=h1.elem i ar aj
 have aS:=aB.len
 subst aS
 have bz:=aB.max
 refine .lh 0 aR<|RG.Ay (T:=77) (ty:=77) Jz aP aB AA AA (fun b h e=>h.2 (e▸AD)) (by grind) fun au ba bH O ab ax=>?_
 have bA:=Ae ab aN E.lt
 have aT:=Bt ab aO C.size
 replace ⟨E,C,J⟩:=(sa [aq,r_out] ax ab).g3 E C J
 replace O:=O.rn aq
 have bB:=O.len; have bC:=O.max
 refine .ns 1 77 [vS au (0+ar.length) ba] fun aU bc ak ay aV aW=>?_
 have az:=AS ak E.lt
 have aX:=Ad ak C.size
 replace ⟨E,O,C,J⟩:=(se [au,r_out] ay).g4 E O C J
 have bd:=O.sl aT
 replace E:=(sd bc [au,r_out] au).g1 E
 have al:nin (ge w.heap.size) [r_out] aU∧aU≠r_out:=BG aX (all_cons az all_nil) az
 refine RG.Ap (T:=25) (ty:=25) (y:=([]++ar)) E aV AA AA ⟨_,_,_,rfl,bd.oi⟩ al (by grind) fun bg bh bI ae am aA=>?_
 have aC:=Bo am ac J.size
 replace ⟨C,J⟩:=(s1 aA).g2 C J
 replace ae:=ae.rn r_out
 have bi:=ae.len; have bj:=ae.max
 exact .r 1<|.d<|.ib 1<|.g<|.r 1<|.it ((i:Int)+1)<|.r 1<|.d<|ai ((out++[([]++ar)]),bg,n_out+1,bh,i+1) _ _ ⟨AA,AA,AA,trivial⟩ ⟨J,ae,aC,AB,(by grind)⟩ (by (simp only []; omega))
theorem Aj (names:List (List Tag)) {w:World} {F:Nat→Prop} {a1:Option Addr} {n1 c1:Nat} (h1:RepS w F a1 n1 c1 names) (p0:names.length≤1000000) (p1:∀ n∈names,n.length≤1000000):Calls Tryz.prog 54 [.slice a1 n1 c1].toArray w (As fun rv w'=>VO 77 w.heap.size w' (names:List (List Tag)) rv∧Ext w w'):=by
 refine goT Tryz.func54 ?_
 obtain ⟨rfl,bk,h1⟩:=h1.tp
 refine .s<|.g<|.r 1<|.d<|.s<|.g<|.ns 0 77 [] fun aa ag af ah aD aE=>?_
 have aF:=Ad af (Nat.le_refl _)
 have aG:Cov nil w aa:=Bc af (Nat.le_refl _)
 replace h1:=(sn [] ah af).g1 h1
 have C:=ah
 have aH:Own (α:=List Tag) ag aa 77 (nin (ge w.heap.size) [aa]) 0 0 []:=Own.Ag aD
 refine .r 1<|.d<|.s<|.s<|.g<|.r 3<|.d<|.b 0<|T.loop (X:=(List (List Tag)) × Nat × Nat × Nat × Nat) (([]:List (List Tag)),aa,0,0,0) (fun (out,r_out,n_out,c_out,k)=>[(3,vS r_out n_out c_out),(7,.slice a1 names.length c1),(8,vI (names.length:Int)),(9,vI (k:Int))]) (fun (out,r_out,n_out,c_out,k) aq=>Chg (ins [aa]) ag aq∧Own aq r_out 77 (nin (ge w.heap.size) [r_out]) n_out c_out out∧OrB r_out aa ag.heap.size∧(k≤names.length)∧(out++names.drop k=names)) (fun (out,r_out,n_out,c_out,k)=>names.length - k) AA ⟨AA,AA,AA,AA,trivial⟩ ⟨Chg.refl _ _,aH,BJ,AB,(by rfl)⟩ ?_
 rintro ⟨out,r_out,n_out,c_out,k⟩ bD aq ⟨J,E,ac,bm,bn⟩ ai
 have aI:=Bv ac aF C.size
 have bo:=Ar ac aG C.size
 have aJ:Cov (ins [aa]) ag aa:=⟨.inl AD⟩
 have bq:=Ar ac aJ (Nat.le_refl _)
 have aw:Mv [aa] [r_out] ag aq:=Mv.inl J (all_cons AD all_nil) (all_cons (BV ac AD) all_nil)
 replace ⟨h1,C⟩:=(sp aw J).g2 h1 C
 have br:=E.len; have bt:=E.max
 refine .s<|.g<|.bp ((k:Int)< (names.length:Int)) (fun aK=>?_) (fun aK=>.d<|.s<|.cf<|.x 0 rfl<|.s<|.g<|.r 2<|.d<|.rt Tryz.func54 Tryz.results54 (vS r_out n_out c_out) ⟨(VO.of E (by grind) aI),C⟩)
 refine .d<|.s<|.ct<|.sk<|.s<|.b 1<|.s<|.g ?_
 have aL:k< names.length:=AB
 refine .ix k 1 h1 aL ?_
 obtain ⟨ar,aj⟩:∃ y,names[k]? = some y:=⟨_,AP AB⟩
 have bu:=AX aj; have aY:=AQ aj
 obtain ⟨_,⟨bE,bF,bG,rfl,ak⟩,aM⟩:=h1.elem k ar aj
 have aN:=ak.len
 subst aN
 have bv:=ak.max
 refine .lh 0 aM<|.r 1<|.d<|.g<|.r 1<|.ns 0 120 [] fun au aZ W ax aO aP=>?_
 have aQ:=AS W E.lt
 have aR:=Ad W C.size
 have bw:=C.cn W
 have bz:=J.cn W
 replace ⟨E,ak,C,J⟩:=(sn [r_out] ax W).g4 E ak C J
 have aS:Own (α:=Tag) aZ au 120 (nin (ge w.heap.size) [au,r_out]) 0 0 []:=Own.Ag aO
 refine .r 1<|RG.Ay (T:=77) (ty:=77) Jz aS ak AA AA (fun b h e=>h.2 (e▸AD)) (by grind) fun av ba bH O ab ay=>?_
 have bA:=Ae ab aQ E.lt
 have aT:=Bt ab aR C.size
 replace ⟨E,C,J⟩:=(sa [au,r_out] ay ab).g3 E C J
 replace O:=O.rn au
 have bB:=O.len; have bC:=O.max
 refine .ns 1 77 [vS av (0+ar.length) ba] fun aU bc al az aV aW=>?_
 have aA:=AS al E.lt
 have aX:=Ad al C.size
 replace ⟨E,O,C,J⟩:=(se [av,r_out] az).g4 E O C J
 have bd:=O.sl aT
 replace E:=(sd bc [av,r_out] av).g1 E
 have am:nin (ge w.heap.size) [r_out] aU∧aU≠r_out:=BG aX (all_cons aA all_nil) aA
 refine RG.Ap (T:=25) (ty:=25) (y:=([]++ar)) E aV AA AA ⟨_,_,_,rfl,bd.oi⟩ am (by grind) fun bg bh bI ae ao aB=>?_
 have aC:=Bo ao ac J.size
 replace ⟨C,J⟩:=(s1 aB).g2 C J
 replace ae:=ae.rn r_out
 have bi:=ae.len; have bj:=ae.max
 exact .r 1<|.d<|.ib 1<|.g<|.it ((k:Int)+1)<|.r 1<|.d<|ai ((out++[([]++ar)]),bg,n_out+1,bh,k+1) _ _ ⟨AA,AA,AA,AA,trivial⟩ ⟨J,ae,aC,AB,(by grind)⟩ (by (simp only []; omega))
theorem Fu (b:List Row) (r:Row) {w:World} {F:Nat→Prop} {a1:Option Addr} {n1 c1:Nat} (h1:RepS w F a1 n1 c1 b) (p0:b.length≤1000000):Calls Tryz.prog 147 [.slice a1 n1 c1,.agg #[.int .i64 r.t,.int .i64 r.v]].toArray w (As fun rv w'=>VL (ge w.heap.size) w' (Di b r:List Row) rv∧Ext w w'):=by
 refine goT Tryz.func147 ?_
 obtain ⟨rfl,de,h1⟩:=h1.tp
 refine .s<|.g<|.np 105 [vI r.t,vI r.v] fun W dL bg aH C ci=>?_
 replace h1:=(sn [] aH bg).g1 h1
 have E:=aH
 refine .r 1<|.d<|.s<|.g<|.ns 0 105 [] fun ay aI az bh cj ck=>?_
 have cm:=AS az C.lt
 have co:=Ad az E.size
 have cp:=E.cn az
 replace ⟨h1,C,E⟩:=(sn [W] bh az).g3 h1 C E
 have cq:Own (α:=Row) aI ay 105 (nin (ge w.heap.size) [ay,W]) 0 0 []:=Own.Ag cj
 refine .r 1<|.d<|.s<|.g<|.r 1<|.d<|.s<|.s<|.g<|.r 1<|.d<|.b 0<|T.loop (X:=(List Row) × Nat × Nat × Nat × Bool × Nat) (([]:List Row),ay,0,0,false,0) (fun (out,r_out,n_out,c_out,put,i)=>[(0,.slice a1 b.length c1),(3,.pointer (some ⟨W,0,none⟩)),(5,vS r_out n_out c_out),(6,.bool put),(7,vI (i:Int))]) (fun (out,r_out,n_out,c_out,put,i) bd=>Chg (ins [ay]) aI bd∧Own bd r_out 105 (nin (ge w.heap.size) [r_out,W]) n_out c_out out∧OrB r_out ay aI.heap.size∧(i≤b.length)∧(out.length≤i+1)∧(put=false→out.length≤i)∧(Cm out r put (b.drop i)=Di b r)) (fun (out,r_out,n_out,c_out,put,i)=>b.length - i) AA ⟨AA,AA,AA,AA,AA,trivial⟩ ⟨Chg.refl _ _,cq,BJ,(by simp [Di]),(by simp [Di]),(by simp [Di]),(by simp [Di])⟩ ?_
 rintro ⟨out,r_out,n_out,c_out,put,i⟩ dM bd ⟨J,O,ae,df,dg,dh,dj⟩ aa
 have bi:=Aw ae cm C.lt
 have bj:=Bv ae co E.size
 have cr:=Ar ae cp E.size
 have cu:Cov (ins [ay]) aI ay:=⟨.inl AD⟩
 have cv:=Ar ae cu (Nat.le_refl _)
 have bk:Mv [ay,W] [r_out,W] aI bd:=Mv.inl J (all_cons AD all_nil) (all_cons (BV ae AD) (all_cons (.inl AE) all_nil))
 replace ⟨h1,C,E⟩:=(sp bk J).g3 h1 C E
 have dm:=O.len; have dp:=O.max
 refine .s<|.s<|.g<|.r 3<|.bp ((i:Int)< (b.length:Int)) (fun cw=>?_) (fun cw=>?_)
 ·refine .d<|.ct<|.sk<|.s<|.b 1<|.s<|.s<|.gd nil 10 fun dN bm=>?_
  replace ⟨h1,C,O,E,J⟩:=(se [r_out,W] bm).g5 h1 C O E J
  cases dq:put
  ·refine .r [0,1,2,3,4] ?_
   have cx:i< b.length:=AB
   refine .ix 5 i 2 h1 cx<|.r [6] ?_
   obtain ⟨ac,ag⟩:∃ y,b[i]? = some y:=⟨_,AP AB⟩
   have dr:=AX ag; have cS:=AQ ag
   obtain ⟨_,rfl,cy⟩:=h1.elem i ac ag
   refine .lh 7 0 cy id<|.r [8]<|.lb 9 C id<|.d fun dO bn=>?_
   replace ⟨h1,C,O,E,J⟩:=(se [r_out,W] bn).g5 h1 C O E J
   refine .bp (ac.t≥r.t) (fun cz=>?_) (fun cz=>?_)
   ·refine .r 1<|.d<|.ct<|.s<|.g<|.r 1<|.ln C<|.ns 1 105 [vI r.t,vI r.v] fun cA dP aB bo cB cC=>?_
    have cD:=AS aB C.lt
    have bq:=AS aB O.lt
    have cE:=Ad aB E.size
    replace ⟨h1,C,O,E,J⟩:=(se [r_out,W] bo).g5 h1 C O E J
    have aJ:nin (ge w.heap.size) [r_out,W] cA∧cA≠r_out:=BG cE (all_cons bq (all_cons cD all_nil)) bq
    refine RG.Ap (T:=91) (ty:=91) (y:=r) O cB AA AA rfl aJ AB fun aA cT dQ ab af br=>?_
    have dt:=Ae af bi C.lt
    have du:=Am af cr E.size
    have dv:=Am af cv J.size
    have bt:=Bo af ae J.size
    replace ⟨h1,C,E,J⟩:=(sa [r_out,W] br af).g4 h1 C E J
    replace ab:=ab.rn r_out
    have dw:=ab.len; have dx:=ab.max
    refine .r 1<|.d<|.g<|.r 1<|.d<|.s<|.gd nil 7 fun dR bu=>?_
    replace ⟨h1,C,ab,E,J⟩:=(se [aA,W] bu).g5 h1 C ab E J
    refine .r [0,1] ?_
    have cF:i< b.length:=AB
    refine .ix 2 i 2 h1 cF<|.r [3] ?_
    obtain ⟨_,rfl,cG⟩:=h1.elem i ac ag
    refine .lh 4 0 cG id<|.r [5]<|.lb 6 C id<|.d fun dS aK=>?_
    replace ⟨h1,C,ab,E,J⟩:=(se [aA,W] aK).g5 h1 C ab E J
    refine .ne ac.t r.t (fun bB=>?_) (fun bB=>.d<|.cf<|.sk<|.ib 1<|.g<|.r 1<|.it ((i:Int)+1)<|.r 1<|.d<|aa ((out++[r]),aA,n_out+1,cT,true,i+1) _ _ ⟨AA,AA,AA,AA,AA,trivial⟩ ⟨J,ab,bt,(by grind [Cm]),(by grind [Cm]),(by grind [Cm]),(by grind [Cm])⟩ (by (simp only []; omega)))
    refine .d<|.ct<|.g<|.r 3 ?_
    have bC:i< b.length:=AB
    refine .ix i 2 h1 bC ?_
    obtain ⟨_,rfl,bD⟩:=h1.elem i ac ag
    refine .lg 0 bD<|.ns 1 105 [vI ac.t,vI ac.v] fun bv dy am aL bE bF=>?_
    have bG:=AS am C.lt
    have aM:=AS am ab.lt
    have bH:=Ad am E.size
    replace ⟨h1,C,ab,E,J⟩:=(se [aA,W] aL).g5 h1 C ab E J
    have aD:nin (ge w.heap.size) [aA,W] bv∧bv≠aA:=BG bH (all_cons aM (all_cons bG all_nil)) aM
    refine RG.Ap (T:=91) (ty:=91) (y:=ac) ab bE AA AA rfl aD AB fun cH cI dz ah ao aN=>?_
    have bI:=Bo ao bt J.size
    replace ⟨h1,C,E,J⟩:=(sa [aA,W] aN ao).g4 h1 C E J
    replace ah:=ah.rn aA
    have cU:=ah.len; have cV:=ah.max
    exact .r 1<|.d<|.ib 1<|.g<|.r 1<|.it ((i:Int)+1)<|.r 1<|.d<|aa (((out++[r])++[ac]),cH,n_out+1+1,cI,true,i+1) _ _ ⟨AA,AA,AA,AA,AA,trivial⟩ ⟨J,ah,bI,(by grind [Cm]),(by grind [Cm]),(by grind [Cm]),(by grind [Cm])⟩ (by (simp only []; omega))
   refine .r 1<|.d<|.cf<|.sk<|.s<|.gd nil 7 fun dA aO=>?_
   replace ⟨h1,C,O,E,J⟩:=(se [r_out,W] aO).g5 h1 C O E J
   refine .r [0,1] ?_
   have bJ:i< b.length:=AB
   refine .ix 2 i 2 h1 bJ<|.r [3] ?_
   obtain ⟨_,rfl,bK⟩:=h1.elem i ac ag
   refine .lh 4 0 bK id<|.r [5]<|.lb 6 C id<|.d fun dB aP=>?_
   replace ⟨h1,C,O,E,J⟩:=(se [r_out,W] aP).g5 h1 C O E J
   refine .ne ac.t r.t (fun bL=>?_) (fun bL=>.d<|.cf<|.sk<|.ib 1<|.g<|.r 1<|.it ((i:Int)+1)<|.r 1<|.d<|aa (out,r_out,n_out,c_out,false,i+1) _ _ ⟨AA,AA,AA,AA,AA,trivial⟩ ⟨J,O,ae,(by grind [Cm]),(by grind [Cm]),(by grind [Cm]),(by grind [Cm])⟩ AB)
   refine .d<|.ct<|.g<|.r 3 ?_
   have bM:i< b.length:=AB
   refine .ix i 2 h1 bM ?_
   obtain ⟨_,rfl,bN⟩:=h1.elem i ac ag
   refine .lg 0 bN<|.ns 1 105 [vI ac.t,vI ac.v] fun bw dC aq aQ bO bP=>?_
   have bQ:=AS aq C.lt
   have aR:=AS aq O.lt
   have bR:=Ad aq E.size
   replace ⟨h1,C,O,E,J⟩:=(se [r_out,W] aQ).g5 h1 C O E J
   have aE:nin (ge w.heap.size) [r_out,W] bw∧bw≠r_out:=BG bR (all_cons aR (all_cons bQ all_nil)) aR
   refine RG.Ap (T:=91) (ty:=91) (y:=ac) O bO AA AA rfl aE AB fun cJ cK dD ai ar aS=>?_
   have bS:=Bo ar ae J.size
   replace ⟨h1,C,E,J⟩:=(sa [r_out,W] aS ar).g4 h1 C E J
   replace ai:=ai.rn r_out
   have cW:=ai.len; have cX:=ai.max
   exact .r 1<|.d<|.ib 1<|.g<|.r 1<|.it ((i:Int)+1)<|.r 1<|.d<|aa ((out++[ac]),cJ,n_out+1,cK,false,i+1) _ _ ⟨AA,AA,AA,AA,AA,trivial⟩ ⟨J,ai,bS,(by grind [Cm]),(by grind [Cm]),(by grind [Cm]),(by grind [Cm])⟩ (by (simp only []; omega))
  refine .r [0,1,2]<|GA.skip AA fun dE aT=>?_
  replace ⟨h1,C,O,E,J⟩:=(se [r_out,W] aT).g5 h1 C O E J
  refine .r 2<|.d<|.cf<|.sk<|.s<|.gd nil 7 fun dF aU=>?_
  replace ⟨h1,C,O,E,J⟩:=(se [r_out,W] aU).g5 h1 C O E J
  refine .r [0,1] ?_
  have bT:i< b.length:=AB
  refine .ix 2 i 2 h1 bT<|.r [3] ?_
  obtain ⟨aj,au⟩:∃ y,b[i]? = some y:=⟨_,AP AB⟩
  have cY:=AX au; have cL:=AQ au
  obtain ⟨_,rfl,bU⟩:=h1.elem i aj au
  refine .lh 4 0 bU id<|.r [5]<|.lb 6 C id<|.d fun dG aV=>?_
  replace ⟨h1,C,O,E,J⟩:=(se [r_out,W] aV).g5 h1 C O E J
  refine .ne aj.t r.t (fun bV=>?_) (fun bV=>.d<|.cf<|.sk<|.ib 1<|.g<|.r 1<|.it ((i:Int)+1)<|.r 1<|.d<|aa (out,r_out,n_out,c_out,true,i+1) _ _ ⟨AA,AA,AA,AA,AA,trivial⟩ ⟨J,O,ae,(by grind [Cm]),(by grind [Cm]),(by grind [Cm]),(by grind [Cm])⟩ (by (simp only []; omega)))
  refine .d<|.ct<|.g<|.r 3 ?_
  have bW:i< b.length:=AB
  refine .ix i 2 h1 bW ?_
  obtain ⟨_,rfl,bX⟩:=h1.elem i aj au
  refine .lg 0 bX<|.ns 1 105 [vI aj.t,vI aj.v] fun bz dH av aW bY bZ=>?_
  have b0:=AS av C.lt
  have aX:=AS av O.lt
  have b6:=Ad av E.size
  replace ⟨C,O,E,J⟩:=(se [r_out,W] aW).g4 C O E J
  have aF:nin (ge w.heap.size) [r_out,W] bz∧bz≠r_out:=BG b6 (all_cons aX (all_cons b0 all_nil)) aX
  refine RG.Ap (T:=91) (ty:=91) (y:=aj) O bY AA AA rfl aF AB fun cM cN dI ak aC aY=>?_
  have b7:=Bo aC ae J.size
  replace ⟨C,E,J⟩:=(s1 aY).g3 C E J
  replace ak:=ak.rn r_out
  have cZ:=ak.len; have c7:=ak.max
  exact .r 1<|.d<|.ib 1<|.g<|.r 1<|.it ((i:Int)+1)<|.r 1<|.d<|aa ((out++[aj]),cM,n_out+1,cN,true,i+1) _ _ ⟨AA,AA,AA,AA,AA,trivial⟩ ⟨J,ak,b7,(by grind [Cm]),(by grind [Cm]),(by grind [Cm]),(by grind [Cm])⟩ (by (simp only []; omega))
 refine .d<|.cf<|.x 0 rfl<|.s<|.s<|.g ?_
 cases c8:put
 ·refine .r 2<|.d<|.ct<|.g<|.r 1<|.ln C<|.ns 1 105 [vI r.t,vI r.v] fun bA dJ aw aZ b8 b9=>?_
  have cd:=AS aw C.lt
  have ba:=AS aw O.lt
  have ce:=Ad aw E.size
  replace ⟨C,O,E⟩:=(se [r_out,W] aZ).g3 C O E
  have aG:nin (ge w.heap.size) [r_out,W] bA∧bA≠r_out:=BG ce (all_cons ba (all_cons cd all_nil)) ba
  refine RG.Ap (T:=91) (ty:=91) (y:=r) O b8 AA AA rfl aG AB fun cO cP dK al ax bc=>?_
  have c9:=Ae ax bi C.lt
  have cg:=Bt ax bj E.size
  replace E:=(s1 bc).g1 E
  replace al:=al.rn r_out
  have da:=al.len; have db:=al.max
  refine .r 1<|.d<|.s<|.g<|.r 2<|.d ?_
  have cQ:=al.sl cg
  exact .rt Tryz.func147 Tryz.results147 (vS cO (n_out+1) cP) ⟨(cQ.vl (by grind [Cm]) (fun _ _ h=>h.1)),E⟩
 refine .r 2<|.d<|.cf<|.sk<|.s<|.g<|.r 2<|.d ?_
 have cR:=O.sl bj
 exact .rt Tryz.func147 Tryz.results147 (vS r_out n_out c_out) ⟨(cR.vl (by grind [Cm]) (fun _ _ h=>h.1)),E⟩
theorem En (t:Tag) {w:World} {F:Nat→Prop}   : Calls Tryz.prog 170 [.agg #[.string (bs t.key),.string (bs t.val)]].toArray w (As fun rv w'=>rv=.bool (Bg t)∧Ext w w'):=by
 refine goT Tryz.func170<|.s<|.g<|.np 120 [vT t.key,vT t.val] fun aw ak ag W E ah=>?_
 have C:=W
 refine .r 1<|.d<|.s<|.g<|.r 1<|.lb E<|RG.eqv (v:=vI (t.key.length:Int)) AA (G7 t.key)<|.eq (t.key.length:Int) 1 (fun ai=>?_) (fun ai=>.r 21<|.d<|.rt Tryz.func170 Tryz.results170 (.bool false) ⟨(congrArg Value.bool (by grind [ES,Dd,Gp,Jm])),C⟩)
 refine .r 2<|.lb E<|RG.eqv (v:=vI (t.val.length:Int)) AA (G7 t.val)<|.eq (t.val.length:Int) 1 (fun aj=>?_) (fun aj=>.r 16<|.d<|.rt Tryz.func170 Tryz.results170 (.bool false) ⟨(congrArg Value.bool (by grind [ES,Dd,Gp,Jm])),C⟩)
 refine .r 3<|.lb E ?_
 obtain ⟨J,aa⟩:∃ y,t.key[0]? = some y:=⟨_,AP AB⟩
 have am:=UInt8.toNat_lt J; have ao:=AX aa
 refine RG.Lo (t:=9) (s:=t.key) (k:=.i64) (i:=0) 0 AA AA AB aa<|.it ((J.toNat:Int))<|.cl (CO (J.toNat:Int) 97 100 (w:=ak) (F:=all)) ?_
 rintro ax al ⟨rfl,ab⟩
 replace ⟨E,C⟩:=(se [] ab).g2 E C
 cases ac:(inR (J.toNat:Int) 97 100)
 ·have aq:=Ex ac
  exact .r 9<|.d<|.rt Tryz.func170 Tryz.results170 (.bool false) ⟨(congrArg Value.bool (by grind [ES,Dd,Gp,Jm])),C⟩
 have ar:=CN ac
 refine .r 3<|.lb E ?_
 obtain ⟨O,ae⟩:∃ y,t.val[0]? = some y:=⟨_,AP AB⟩
 have au:=UInt8.toNat_lt O; have av:=AX ae
 refine RG.Lo (t:=9) (s:=t.val) (k:=.i64) (i:=0) 0 AA AA AB ae<|.it ((O.toNat:Int))<|.cl (CO (O.toNat:Int) 112 122 (w:=al) (F:=all)) ?_
 rintro ay az ⟨rfl,af⟩
 replace C:=(se [] af).g1 C
 exact .r 2<|.d<|.rt Tryz.func170 Tryz.results170 (.bool (inR (O.toNat:Int) 112 122)) ⟨(congrArg Value.bool (by grind [ES,Dd,Gp,Jm])),C⟩
theorem Hm (t:Tag) {w:World} {F:Nat→Prop}   : Calls Tryz.prog 183 [.agg #[.string (bs t.key),.string (bs t.val)]].toArray w (As fun rv w'=>rv=.bool (Bg t)∧Ext w w'):=by
 refine goT Tryz.func183<|.s<|.g<|.np 120 [vT t.key,vT t.val] fun ag ah O J C W=>?_
 have E:=J
 refine .r 1<|.d<|.s<|.g<|.r 1<|.lb C<|RG.eqv (v:=vI (t.key.length:Int)) AA (G7 t.key)<|.eq (t.key.length:Int) 1 (fun aa=>?_) (fun aa=>.r 27<|.d<|.rt Tryz.func183 Tryz.results183 (.bool false) ⟨(congrArg Value.bool (by grind [ES,Dd,Dm,Fe,Ff])),E⟩)
 refine .r 2<|.lb C<|RG.eqv (v:=.bool (!(Bq t.key [97]))) AA (SZ t.key [97]) ?_
 cases ac:(Bq t.key [97])
 ·refine .r 3<|.lb C<|RG.eqv (v:=.bool ((Ev t.key [100]))) AA (VN t.key [100]) ?_
  cases ae:(Ev t.key [100])
  ·exact .r 18<|.d<|.rt Tryz.func183 Tryz.results183 (.bool false) ⟨(congrArg Value.bool (by grind [ES,Dd,Dm,Fe,Ff])),E⟩
  refine .r 3<|.lb C<|RG.eqv (v:=vI (t.val.length:Int)) AA (G7 t.val)<|.eq (t.val.length:Int) 1 (fun ab=>?_) (fun ab=>.r 12<|.d<|.rt Tryz.func183 Tryz.results183 (.bool false) ⟨(congrArg Value.bool (by grind [ES,Dd,Dm,Fe,Ff])),E⟩)
  refine .r 3<|.lb C<|RG.eqv (v:=.bool (!(Bq t.val [112]))) AA (SZ t.val [112]) ?_
  cases af:(Bq t.val [112])
  ·exact .r 3<|.lb C<|RG.eqv (v:=.bool ((Ev t.val [122]))) AA (VN t.val [122])<|.r 2<|.d<|.rt Tryz.func183 Tryz.results183 (.bool (Ev t.val [122])) ⟨(congrArg Value.bool (by grind [ES,Dd,Dm,Fe,Ff])),E⟩
  exact .r 7<|.d<|.rt Tryz.func183 Tryz.results183 (.bool false) ⟨(congrArg Value.bool (by grind [ES,Dd,Dm,Fe,Ff])),E⟩
 exact .r 23<|.d<|.rt Tryz.func183 Tryz.results183 (.bool false) ⟨(congrArg Value.bool (by grind [ES,Dd,Dm,Fe,Ff])),E⟩
theorem Dv (a:List Int) (b:List Int) {w:World} {F:Nat→Prop} {a1:Option Addr} {n1 c1:Nat} (h1:RepS w F a1 n1 c1 a) {a2:Option Addr} {n2 c2:Nat} (h2:RepS w F a2 n2 c2 b)  : Calls Tryz.prog 142 [.slice a1 n1 c1,.slice a2 n2 c2].toArray w (As fun rv w'=>rv=.bool ((a==b))∧Ext w w'):=by
 refine goT Tryz.func142 ?_
 obtain ⟨rfl,au,h1⟩:=h1.tp
 obtain ⟨rfl,av,h2⟩:=h2.tp
 refine .s<|.g<|.r 1<|.d<|.s<|.s<|.g<|.r 4<|.ne (a.length:Int) (b.length:Int) (fun af=>.d<|.ct<|.s<|.g<|.r 1<|.d<|.rt Tryz.func142 Tryz.results142 (.bool false) ⟨(congrArg Value.bool (by grind [AY])),(Chg.refl _ _)⟩) fun af=>.d<|.cf<|.sk<|.s<|.s<|.g<|.r 3<|.d<|.b 0<|T.loop (X:=Nat) 0 (fun k=>[(0,.slice a1 a.length c1),(1,.slice a2 b.length c2),(12,vI (a.length:Int)),(13,vI (k:Int))]) (fun k aa=>Chg (ins []) w aa∧(k≤a.length)∧(a.drop k=b.drop k↔a=b)) (fun k=>a.length - k) AA ⟨AA,AA,AA,AA,trivial⟩ ⟨Chg.refl _ _,(by simp),(by simp)⟩ ?_
 rintro k aA aa ⟨C,aw,ax⟩ J
 have ab:Mv [] [] w aa:=Mv.inl C all_nil all_nil
 replace ⟨h1,h2⟩:=(sp ab C).g2 h1 h2
 have E:Chg nil w aa:=Chg.CY (Chg.refl nil w) C all_nil
 refine .s<|.g<|.bp ((k:Int)< (a.length:Int)) (fun ag=>?_) (fun ag=>.d<|.s<|.cf<|.x 0 rfl<|.s<|.g<|.r 1<|.d<|.rt Tryz.func142 Tryz.results142 (.bool true) ⟨(congrArg Value.bool (by grind [AY])),E⟩)
 refine .d<|.s<|.ct<|.sk<|.s<|.b 1<|.s<|.g<|.r 2<|.d<|.s<|.gd nil 8 fun aB ac=>?_
 replace ⟨h1,h2,E,C⟩:=(se [] ac).g4 h1 h2 E C
 refine .r [0,1] ?_
 have ah:k< a.length:=AB
 refine .ix 2 k 1 h1 ah ?_
 obtain ⟨ai,O⟩:∃ y,a[k]? = some y:=⟨_,AP AB⟩
 have ay:=AX O; have aq:=AQ O
 obtain ⟨_,rfl,aj⟩:=h1.elem k ai O
 refine .lh 3 0 aj id<|.r [4,5] ?_
 have ak:k< b.length:=AB
 refine .ix 6 k 1 h2 ak ?_
 obtain ⟨al,W⟩:∃ y,b[k]? = some y:=⟨_,AP AB⟩
 have az:=AX W; have ar:=AQ W
 obtain ⟨_,rfl,am⟩:=h2.elem k al W
 refine .lh 7 0 am id<|.d fun aC ae=>?_
 replace ⟨E,C⟩:=(se [] ae).g2 E C
 exact .ne ai al (fun ao=>.d<|.ct<|.s<|.g<|.r 1<|.d<|.rt Tryz.func142 Tryz.results142 (.bool false) ⟨(congrArg Value.bool (by grind [AY])),E⟩) fun ao=>.d<|.cf<|.sk<|.ib 1<|.g<|.it ((k:Int)+1)<|.r 1<|.d<|J (k+1) _ _ ⟨AA,AA,AA,AA,trivial⟩ ⟨C,AB,(by grind)⟩ AB
theorem J4 (a:List Int) (b:List Int) {w:World} {F:Nat→Prop} {a1:Option Addr} {n1 c1:Nat} (h1:RepS w F a1 n1 c1 a) {a2:Option Addr} {n2 c2:Nat} (h2:RepS w F a2 n2 c2 b)  : Calls Tryz.prog 159 [.slice a1 n1 c1,.slice a2 n2 c2].toArray w (As fun rv w'=>rv=.bool ((a==b))∧Ext w w'):=by
 refine goT Tryz.func159 ?_
 obtain ⟨rfl,au,h1⟩:=h1.tp
 obtain ⟨rfl,av,h2⟩:=h2.tp
 refine .s<|.g<|.r 1<|.d<|.s<|.s<|.g<|.r 4<|.ne (a.length:Int) (b.length:Int) (fun af=>.d<|.ct<|.s<|.g<|.r 1<|.d<|.rt Tryz.func159 Tryz.results159 (.bool false) ⟨(congrArg Value.bool (by grind [AY])),(Chg.refl _ _)⟩) fun af=>.d<|.cf<|.sk<|.s<|.s<|.g<|.r 1<|.d<|.b 0<|T.loop (X:=Nat) 0 (fun i=>[(0,.slice a1 a.length c1),(1,.slice a2 b.length c2),(5,vI (i:Int))]) (fun i aa=>Chg (ins []) w aa∧(i≤a.length)∧(a.drop i=b.drop i↔a=b)) (fun i=>a.length - i) AA ⟨AA,AA,AA,trivial⟩ ⟨Chg.refl _ _,(by simp),(by simp)⟩ ?_
 rintro i aA aa ⟨C,aw,ax⟩ J
 have ab:Mv [] [] w aa:=Mv.inl C all_nil all_nil
 replace ⟨h1,h2⟩:=(sp ab C).g2 h1 h2
 have E:Chg nil w aa:=Chg.CY (Chg.refl nil w) C all_nil
 refine .s<|.s<|.g<|.r 3<|.bp ((i:Int)< (a.length:Int)) (fun ag=>?_) (fun ag=>.d<|.cf<|.x 0 rfl<|.s<|.g<|.r 1<|.d<|.rt Tryz.func159 Tryz.results159 (.bool true) ⟨(congrArg Value.bool (by grind [AY])),E⟩)
 refine .d<|.ct<|.sk<|.s<|.b 1<|.s<|.gd nil 8 fun aB ac=>?_
 replace ⟨h1,h2,E,C⟩:=(se [] ac).g4 h1 h2 E C
 refine .r [0,1] ?_
 have ah:i< a.length:=AB
 refine .ix 2 i 1 h1 ah ?_
 obtain ⟨ai,O⟩:∃ y,a[i]? = some y:=⟨_,AP AB⟩
 have ay:=AX O; have aq:=AQ O
 obtain ⟨_,rfl,aj⟩:=h1.elem i ai O
 refine .lh 3 0 aj id<|.r [4,5] ?_
 have ak:i< b.length:=AB
 refine .ix 6 i 1 h2 ak ?_
 obtain ⟨al,W⟩:∃ y,b[i]? = some y:=⟨_,AP AB⟩
 have az:=AX W; have ar:=AQ W
 obtain ⟨_,rfl,am⟩:=h2.elem i al W
 refine .lh 7 0 am id<|.d fun aC ae=>?_
 replace ⟨E,C⟩:=(se [] ae).g2 E C
 exact .ne ai al (fun ao=>.d<|.ct<|.s<|.g<|.r 1<|.d<|.rt Tryz.func159 Tryz.results159 (.bool false) ⟨(congrArg Value.bool (by grind [AY])),E⟩) fun ao=>.d<|.cf<|.sk<|.ib 1<|.g<|.r 1<|.it ((i:Int)+1)<|.r 1<|.d<|J (i+1) _ _ ⟨AA,AA,AA,trivial⟩ ⟨C,AB,(by grind)⟩ AB
theorem C6 (a:List Int) (b:List Int) {w:World} {F:Nat→Prop} {a1:Option Addr} {n1 c1:Nat} (h1:RepS w F a1 n1 c1 a) {a2:Option Addr} {n2 c2:Nat} (h2:RepS w F a2 n2 c2 b)  : Calls Tryz.prog 21 [.slice a1 n1 c1,.slice a2 n2 c2].toArray w (As fun rv w'=>rv=.bool ((a==b))∧Ext w w'):=by
 refine goT Tryz.func21 ?_
 obtain ⟨rfl,au,h1⟩:=h1.tp
 obtain ⟨rfl,av,h2⟩:=h2.tp
 refine .s<|.g<|.r 1<|.d<|.s<|.s<|.g<|.r 4<|.ne (a.length:Int) (b.length:Int) (fun af=>.d<|.ct<|.s<|.g<|.r 1<|.d<|.rt Tryz.func21 Tryz.results21 (.bool false) ⟨(congrArg Value.bool (by grind [AY])),(Chg.refl _ _)⟩) fun af=>.d<|.cf<|.sk<|.s<|.s<|.g<|.r 1<|.d<|.b 0<|T.loop (X:=Nat) 0 (fun i=>[(0,.slice a1 a.length c1),(1,.slice a2 b.length c2),(5,vI (i:Int))]) (fun i aa=>Chg (ins []) w aa∧(i≤a.length)∧(a.drop i=b.drop i↔a=b)) (fun i=>a.length - i) AA ⟨AA,AA,AA,trivial⟩ ⟨Chg.refl _ _,(by simp),(by simp)⟩ ?_
 rintro i aA aa ⟨C,aw,ax⟩ J
 have ab:Mv [] [] w aa:=Mv.inl C all_nil all_nil
 replace ⟨h1,h2⟩:=(sp ab C).g2 h1 h2
 have E:Chg nil w aa:=Chg.CY (Chg.refl nil w) C all_nil
 refine .s<|.s<|.g<|.r 3<|.bp ((i:Int)< (a.length:Int)) (fun ag=>?_) (fun ag=>.d<|.cf<|.x 0 rfl<|.s<|.g<|.r 1<|.d<|.rt Tryz.func21 Tryz.results21 (.bool true) ⟨(congrArg Value.bool (by grind [AY])),E⟩)
 refine .d<|.ct<|.sk<|.s<|.b 1<|.s<|.gd nil 8 fun aB ac=>?_
 replace ⟨h1,h2,E,C⟩:=(se [] ac).g4 h1 h2 E C
 refine .r [0,1] ?_
 have ah:i< a.length:=AB
 refine .ix 2 i 1 h1 ah ?_
 obtain ⟨ai,O⟩:∃ y,a[i]? = some y:=⟨_,AP AB⟩
 have ay:=AX O; have aq:=AQ O
 obtain ⟨_,rfl,aj⟩:=h1.elem i ai O
 refine .lh 3 0 aj id<|.r [4,5] ?_
 have ak:i< b.length:=AB
 refine .ix 6 i 1 h2 ak ?_
 obtain ⟨al,W⟩:∃ y,b[i]? = some y:=⟨_,AP AB⟩
 have az:=AX W; have ar:=AQ W
 obtain ⟨_,rfl,am⟩:=h2.elem i al W
 refine .lh 7 0 am id<|.d fun aC ae=>?_
 replace ⟨E,C⟩:=(se [] ae).g2 E C
 exact .ne ai al (fun ao=>.d<|.ct<|.s<|.g<|.r 1<|.d<|.rt Tryz.func21 Tryz.results21 (.bool false) ⟨(congrArg Value.bool (by grind [AY])),E⟩) fun ao=>.d<|.cf<|.sk<|.ib 1<|.g<|.r 1<|.it ((i:Int)+1)<|.r 1<|.d<|J (i+1) _ _ ⟨AA,AA,AA,trivial⟩ ⟨C,AB,(by grind)⟩ AB
theorem Ch (a:List Tag) (b:List Tag) {w:World} {F:Nat→Prop} {a1:Option Addr} {n1 c1:Nat} (h1:RepS w F a1 n1 c1 a) {a2:Option Addr} {n2 c2:Nat} (h2:RepS w F a2 n2 c2 b)  : Calls Tryz.prog 96 [.slice a1 n1 c1,.slice a2 n2 c2].toArray w (As fun rv w'=>rv=.bool ((a==b))∧Ext w w'):=by
 refine goT Tryz.func96 ?_
 obtain ⟨rfl,ar,h1⟩:=h1.tp
 obtain ⟨rfl,au,h2⟩:=h2.tp
 refine .s<|.g<|.r 1<|.d<|.s<|.s<|.g<|.r 4<|.ne (a.length:Int) (b.length:Int) (fun ah=>.d<|.ct<|.s<|.g<|.r 1<|.d<|.rt Tryz.func96 Tryz.results96 (.bool false) ⟨(congrArg Value.bool (by grind [AY])),(Chg.refl _ _)⟩) fun ah=>.d<|.cf<|.sk<|.s<|.s<|.g<|.r 3<|.d<|.b 0<|T.loop (X:=Nat) 0 (fun k=>[(0,.slice a1 a.length c1),(1,.slice a2 b.length c2),(12,vI (a.length:Int)),(13,vI (k:Int))]) (fun k aa=>Chg (ins []) w aa∧(k≤a.length)∧(a.drop k=b.drop k↔a=b)) (fun k=>a.length - k) AA ⟨AA,AA,AA,AA,trivial⟩ ⟨Chg.refl _ _,(by simp),(by simp)⟩ ?_
 rintro k aA aa ⟨C,av,aw⟩ J
 have ab:Mv [] [] w aa:=Mv.inl C all_nil all_nil
 replace ⟨h1,h2⟩:=(sp ab C).g2 h1 h2
 have E:Chg nil w aa:=Chg.CY (Chg.refl nil w) C all_nil
 refine .s<|.g<|.bp ((k:Int)< (a.length:Int)) (fun ai=>?_) (fun ai=>.d<|.s<|.cf<|.x 0 rfl<|.s<|.g<|.r 1<|.d<|.rt Tryz.func96 Tryz.results96 (.bool true) ⟨(congrArg Value.bool (by grind [AY])),E⟩)
 refine .d<|.s<|.ct<|.sk<|.s<|.b 1<|.s<|.g<|.r 2<|.d<|.s<|.gd nil 8 fun aB ac=>?_
 replace ⟨h1,h2,E,C⟩:=(se [] ac).g4 h1 h2 E C
 refine .r [0,1] ?_
 have aj:k< a.length:=AB
 refine .ix 2 k 2 h1 aj ?_
 obtain ⟨af,O⟩:∃ y,a[k]? = some y:=⟨_,AP AB⟩
 have ax:=AX O; have ao:=AQ O
 obtain ⟨_,rfl,ak⟩:=h1.elem k af O
 refine .lg 3 0 ak id<|.r [4,5] ?_
 have al:k< b.length:=AB
 refine .ix 6 k 2 h2 al ?_
 obtain ⟨ag,W⟩:∃ y,b[k]? = some y:=⟨_,AP AB⟩
 have ay:=AX W; have aq:=AQ W
 obtain ⟨_,rfl,am⟩:=h2.elem k ag W
 refine .lg 7 0 am id<|.d fun aC ae=>?_
 replace ⟨E,C⟩:=(se [] ae).g2 E C
 refine RG.OV (t:=120) (x:=af) (y:=ag) AA AA ?_
 cases az:(af==ag)
 ·exact .d<|.ct<|.s<|.g<|.r 1<|.d<|.rt Tryz.func96 Tryz.results96 (.bool false) ⟨(congrArg Value.bool (by grind [AY])),E⟩
 exact .d<|.cf<|.sk<|.ib 1<|.g<|.it ((k:Int)+1)<|.r 1<|.d<|J (k+1) _ _ ⟨AA,AA,AA,AA,trivial⟩ ⟨C,AB,(by grind)⟩ AB
theorem FU (a:List Tag) (b:List Tag) {w:World} {F:Nat→Prop} {a1:Option Addr} {n1 c1:Nat} (h1:RepS w F a1 n1 c1 a) {a2:Option Addr} {n2 c2:Nat} (h2:RepS w F a2 n2 c2 b)  : Calls Tryz.prog 46 [.slice a1 n1 c1,.slice a2 n2 c2].toArray w (As fun rv w'=>rv=.bool ((a==b))∧Ext w w'):=by
 refine goT Tryz.func46 ?_
 obtain ⟨rfl,ar,h1⟩:=h1.tp
 obtain ⟨rfl,au,h2⟩:=h2.tp
 refine .s<|.g<|.r 1<|.d<|.s<|.s<|.g<|.r 4<|.ne (a.length:Int) (b.length:Int) (fun ah=>.d<|.ct<|.s<|.g<|.r 1<|.d<|.rt Tryz.func46 Tryz.results46 (.bool false) ⟨(congrArg Value.bool (by grind [AY])),(Chg.refl _ _)⟩) fun ah=>.d<|.cf<|.sk<|.s<|.s<|.g<|.r 1<|.d<|.b 0<|T.loop (X:=Nat) 0 (fun i=>[(0,.slice a1 a.length c1),(1,.slice a2 b.length c2),(5,vI (i:Int))]) (fun i aa=>Chg (ins []) w aa∧(i≤a.length)∧(a.drop i=b.drop i↔a=b)) (fun i=>a.length - i) AA ⟨AA,AA,AA,trivial⟩ ⟨Chg.refl _ _,(by simp),(by simp)⟩ ?_
 rintro i aA aa ⟨C,av,aw⟩ J
 have ab:Mv [] [] w aa:=Mv.inl C all_nil all_nil
 replace ⟨h1,h2⟩:=(sp ab C).g2 h1 h2
 have E:Chg nil w aa:=Chg.CY (Chg.refl nil w) C all_nil
 refine .s<|.s<|.g<|.r 3<|.bp ((i:Int)< (a.length:Int)) (fun ai=>?_) (fun ai=>.d<|.cf<|.x 0 rfl<|.s<|.g<|.r 1<|.d<|.rt Tryz.func46 Tryz.results46 (.bool true) ⟨(congrArg Value.bool (by grind [AY])),E⟩)
 refine .d<|.ct<|.sk<|.s<|.b 1<|.s<|.gd nil 8 fun aB ac=>?_
 replace ⟨h1,h2,E,C⟩:=(se [] ac).g4 h1 h2 E C
 refine .r [0,1] ?_
 have aj:i< a.length:=AB
 refine .ix 2 i 2 h1 aj ?_
 obtain ⟨af,O⟩:∃ y,a[i]? = some y:=⟨_,AP AB⟩
 have ax:=AX O; have ao:=AQ O
 obtain ⟨_,rfl,ak⟩:=h1.elem i af O
 refine .lg 3 0 ak id<|.r [4,5] ?_
 have al:i< b.length:=AB
 refine .ix 6 i 2 h2 al ?_
 obtain ⟨ag,W⟩:∃ y,b[i]? = some y:=⟨_,AP AB⟩
 have ay:=AX W; have aq:=AQ W
 obtain ⟨_,rfl,am⟩:=h2.elem i ag W
 refine .lg 7 0 am id<|.d fun aC ae=>?_
 replace ⟨E,C⟩:=(se [] ae).g2 E C
 refine RG.OV (t:=120) (x:=af) (y:=ag) AA AA ?_
 cases az:(af==ag)
 ·exact .d<|.ct<|.s<|.g<|.r 1<|.d<|.rt Tryz.func46 Tryz.results46 (.bool false) ⟨(congrArg Value.bool (by grind [AY])),E⟩
 exact .d<|.cf<|.sk<|.ib 1<|.g<|.r 1<|.it ((i:Int)+1)<|.r 1<|.d<|J (i+1) _ _ ⟨AA,AA,AA,trivial⟩ ⟨C,AB,(by grind)⟩ AB
theorem HB (a:List Row) (b:List Row) {w:World} {F:Nat→Prop} {a1:Option Addr} {n1 c1:Nat} (h1:RepS w F a1 n1 c1 a) {a2:Option Addr} {n2 c2:Nat} (h2:RepS w F a2 n2 c2 b)  : Calls Tryz.prog 59 [.slice a1 n1 c1,.slice a2 n2 c2].toArray w (As fun rv w'=>rv=.bool ((a==b))∧Ext w w'):=by
 refine goT Tryz.func59 ?_
 obtain ⟨rfl,ar,h1⟩:=h1.tp
 obtain ⟨rfl,au,h2⟩:=h2.tp
 refine .s<|.g<|.r 1<|.d<|.s<|.s<|.g<|.r 4<|.ne (a.length:Int) (b.length:Int) (fun ah=>.d<|.ct<|.s<|.g<|.r 1<|.d<|.rt Tryz.func59 Tryz.results59 (.bool false) ⟨(congrArg Value.bool (by grind [AY])),(Chg.refl _ _)⟩) fun ah=>.d<|.cf<|.sk<|.s<|.s<|.g<|.r 1<|.d<|.b 0<|T.loop (X:=Nat) 0 (fun i=>[(0,.slice a1 a.length c1),(1,.slice a2 b.length c2),(5,vI (i:Int))]) (fun i aa=>Chg (ins []) w aa∧(i≤a.length)∧(a.drop i=b.drop i↔a=b)) (fun i=>a.length - i) AA ⟨AA,AA,AA,trivial⟩ ⟨Chg.refl _ _,(by simp),(by simp)⟩ ?_
 rintro i aA aa ⟨C,av,aw⟩ J
 have ab:Mv [] [] w aa:=Mv.inl C all_nil all_nil
 replace ⟨h1,h2⟩:=(sp ab C).g2 h1 h2
 have E:Chg nil w aa:=Chg.CY (Chg.refl nil w) C all_nil
 refine .s<|.s<|.g<|.r 3<|.bp ((i:Int)< (a.length:Int)) (fun ai=>?_) (fun ai=>.d<|.cf<|.x 0 rfl<|.s<|.g<|.r 1<|.d<|.rt Tryz.func59 Tryz.results59 (.bool true) ⟨(congrArg Value.bool (by grind [AY])),E⟩)
 refine .d<|.ct<|.sk<|.s<|.b 1<|.s<|.gd nil 8 fun aB ac=>?_
 replace ⟨h1,h2,E,C⟩:=(se [] ac).g4 h1 h2 E C
 refine .r [0,1] ?_
 have aj:i< a.length:=AB
 refine .ix 2 i 2 h1 aj ?_
 obtain ⟨af,O⟩:∃ y,a[i]? = some y:=⟨_,AP AB⟩
 have ax:=AX O; have ao:=AQ O
 obtain ⟨_,rfl,ak⟩:=h1.elem i af O
 refine .lg 3 0 ak id<|.r [4,5] ?_
 have al:i< b.length:=AB
 refine .ix 6 i 2 h2 al ?_
 obtain ⟨ag,W⟩:∃ y,b[i]? = some y:=⟨_,AP AB⟩
 have ay:=AX W; have aq:=AQ W
 obtain ⟨_,rfl,am⟩:=h2.elem i ag W
 refine .lg 7 0 am id<|.d fun aC ae=>?_
 replace ⟨E,C⟩:=(se [] ae).g2 E C
 refine RG.QI (t:=105) (x:=af) (y:=ag) AA AA ?_
 cases az:(af==ag)
 ·exact .d<|.ct<|.s<|.g<|.r 1<|.d<|.rt Tryz.func59 Tryz.results59 (.bool false) ⟨(congrArg Value.bool (by grind [AY])),E⟩
 exact .d<|.cf<|.sk<|.ib 1<|.g<|.r 1<|.it ((i:Int)+1)<|.r 1<|.d<|J (i+1) _ _ ⟨AA,AA,AA,trivial⟩ ⟨C,AB,(by grind)⟩ AB
theorem Lr (n:List Tag) (t:Tag) {w:World} {F:Nat→Prop} {a1:Option Addr} {n1 c1:Nat} (h1:RepS w F a1 n1 c1 n)  : Calls Tryz.prog 178 [.slice a1 n1 c1,.agg #[.string (bs t.key),.string (bs t.val)]].toArray w (As fun rv w'=>rv=.bool (has n t)∧Ext w w'):=by
 refine goT Tryz.func178 ?_
 obtain ⟨rfl,ar,h1⟩:=h1.tp
 refine .s<|.g<|.np 120 [vT t.key,vT t.val] fun ab aj ac O J ak=>?_
 replace h1:=(sn [] O ac).g1 h1
 have C:=O
 refine .r 1<|.d<|.s<|.s<|.g<|.r 1<|.d<|.b 0<|T.loop (X:=Nat) 0 (fun i=>[(0,.slice a1 n.length c1),(3,.pointer (some ⟨ab,0,none⟩)),(5,vI (i:Int))]) (fun i ah=>Chg (ins []) aj ah∧(i≤n.length)∧(has (n.drop i) t=has n t)) (fun i=>n.length - i) AA ⟨AA,AA,AA,trivial⟩ ⟨Chg.refl _ _,(by simp),(by simp)⟩ ?_
 rintro i ay ah ⟨E,au,av⟩ W
 have ae:Mv [ab] [ab] aj ah:=Mv.inl E all_nil (all_cons (.inl AD) all_nil)
 replace ⟨h1,J,C⟩:=(sp ae E).g3 h1 J C
 refine .s<|.s<|.g<|.r 3<|.bp ((i:Int)< (n.length:Int)) (fun al=>?_) (fun al=>.d<|.cf<|.x 0 rfl<|.s<|.g<|.r 1<|.d<|.rt Tryz.func178 Tryz.results178 (.bool false) ⟨(congrArg Value.bool (by grind [has])),C⟩)
 refine .d<|.ct<|.sk<|.s<|.b 1<|.s<|.gd nil 5 fun az af=>?_
 replace ⟨h1,J,C,E⟩:=(se [ab] af).g4 h1 J C E
 refine .r [0,1] ?_
 have am:i< n.length:=AB
 refine .ix 2 i 2 h1 am ?_
 obtain ⟨ai,aa⟩:∃ y,n[i]? = some y:=⟨_,AP AB⟩
 have aw:=AX aa; have aq:=AQ aa
 obtain ⟨_,rfl,ao⟩:=h1.elem i ai aa
 refine .lg 3 0 ao id<|.ln 4 J id<|.d fun aA ag=>?_
 replace ⟨C,E⟩:=(se [] ag).g2 C E
 refine RG.MU (t:=120) (x:=ai) (y:=t) AA AA ?_
 cases ax:(ai==t)
 ·exact .d<|.cf<|.sk<|.ib 1<|.g<|.r 1<|.it ((i:Int)+1)<|.r 1<|.d<|W (i+1) _ _ ⟨AA,AA,AA,trivial⟩ ⟨E,AB,(by grind [has])⟩ AB
 exact .d<|.ct<|.s<|.g<|.r 1<|.d<|.rt Tryz.func178 Tryz.results178 (.bool true) ⟨(congrArg Value.bool (by grind [has])),C⟩
theorem HC (names:List (List Tag)) (t:Tag) {w:World} {F:Nat→Prop} {a1:Option Addr} {n1 c1:Nat} (h1:RepS w F a1 n1 c1 names) (p0:names.length≤1000000):Calls Tryz.prog 160 [.slice a1 n1 c1,.agg #[.string (bs t.key),.string (bs t.val)]].toArray w (As fun rv w'=>VL (ge w.heap.size) w' (ids names t:List Int) rv∧Ext w w'):=by
 refine goT Tryz.func160 ?_
 obtain ⟨rfl,bd,h1⟩:=h1.tp
 refine .s<|.g<|.np 120 [vT t.key,vT t.val] fun W bu aq ah J aC=>?_
 replace h1:=(sn [] ah aq).g1 h1
 have C:=ah
 refine .r 1<|.d<|.s<|.g<|.ns 0 3 [] fun ab ai ac ar aD aE=>?_
 have aF:=AS ac J.lt
 have aG:=Ad ac C.size
 have aH:=C.cn ac
 replace ⟨h1,J,C⟩:=(sn [W] ar ac).g3 h1 J C
 have aI:Own (α:=Int) ai ab 3 (nin (ge w.heap.size) [ab,W]) 0 0 []:=Own.Ag aD
 refine .r 1<|.d<|.s<|.s<|.g<|.r 1<|.d<|.b 0<|T.loop (X:=(List Int) × Nat × Nat × Nat × Nat) (([]:List Int),ab,0,0,0) (fun (out,r_out,n_out,c_out,i)=>[(0,.slice a1 names.length c1),(3,.pointer (some ⟨W,0,none⟩)),(5,vS r_out n_out c_out),(6,vI (i:Int))]) (fun (out,r_out,n_out,c_out,i) ao=>Chg (ins [ab]) ai ao∧Own ao r_out 3 (nin (ge w.heap.size) [r_out,W]) n_out c_out out∧OrB r_out ab ai.heap.size∧(i≤names.length)∧(out.length≤i)∧(out++FC t i (names.drop i)=ids names t)) (fun (out,r_out,n_out,c_out,i)=>names.length - i) AA ⟨AA,AA,AA,AA,trivial⟩ ⟨Chg.refl _ _,aI,BJ,(by simp [ids]),(by simp [ids]),(by simp [ids])⟩ ?_
 rintro ⟨out,r_out,n_out,c_out,i⟩ bv ao ⟨E,O,aa,bg,bh,bi⟩ ae
 have bj:=Aw aa aF J.lt
 have aJ:=Bv aa aG C.size
 have bk:=Ar aa aH C.size
 have aK:Cov (ins [ab]) ai ab:=⟨.inl AD⟩
 have bm:=Ar aa aK (Nat.le_refl _)
 have au:Mv [ab,W] [r_out,W] ai ao:=Mv.inl E (all_cons AD all_nil) (all_cons (BV aa AD) (all_cons (.inl AE) all_nil))
 replace ⟨h1,J,C⟩:=(sp au E).g3 h1 J C
 have bn:=O.len; have bo:=O.max
 refine .s<|.s<|.g<|.r 3<|.bp ((i:Int)< (names.length:Int)) (fun aL=>?_) (fun aL=>?_)
 ·refine .d<|.ct<|.sk<|.s<|.b 1<|.s<|.gd nil 5 fun bw av=>?_
  replace ⟨h1,J,O,C,E⟩:=(se [r_out,W] av).g5 h1 J O C E
  refine .r [0,1] ?_
  have aM:i< names.length:=AB
  refine .ix 2 i 1 h1 aM ?_
  obtain ⟨aB,aj⟩:∃ y,names[i]? = some y:=⟨_,AP AB⟩
  have bq:=AX aj; have aW:=AQ aj
  obtain ⟨_,⟨bz,bA,bB,rfl,ak⟩,aN⟩:=h1.elem i aB aj
  have aO:=ak.len
  subst aO
  have br:=ak.max
  refine .lh 3 0 aN id<|.ln 4 J id<|.d fun aX aw=>?_
  replace ⟨J,O,ak,C,E⟩:=(se [r_out,W] aw).g5 J O ak C E
  refine .cl (Lr aB t ak.ta (w:=aX) (F:=all)) ?_
  rintro bC bD ⟨rfl,ax⟩
  replace ⟨J,O,C,E⟩:=(se [r_out,W] ax).g4 J O C E
  cases bt:(has aB t)
  ·exact .d<|.cf<|.sk<|.ib 1<|.g<|.r 1<|.it ((i:Int)+1)<|.r 1<|.d<|ae (out,r_out,n_out,c_out,i+1) _ _ ⟨AA,AA,AA,AA,trivial⟩ ⟨E,O,aa,(by grind [FC]),(by grind [FC]),(by grind [FC])⟩ (by (simp only []; omega))
  refine .d<|.ct<|.g<|.r 2<|.it ((i:Int)+1)<|.ns 1 3 [vI ((i:Int)+1)] fun aP bE ag ay aQ aR=>?_
  have aS:=AS ag J.lt
  have az:=AS ag O.lt
  have aT:=Ad ag C.size
  replace ⟨O,C,E⟩:=(se [r_out,W] ay).g3 O C E
  have al:nin (ge w.heap.size) [r_out,W] aP∧aP≠r_out:=BG aT (all_cons az (all_cons aS all_nil)) az
  refine RG.Ap (T:=24) (ty:=24) (y:=(i:Int)+1) O aQ AA AA rfl al AB fun aY aZ bF af am aA=>?_
  have aU:=Bo am aa E.size
  replace ⟨C,E⟩:=(s1 aA).g2 C E
  replace af:=af.rn r_out
  have ba:=af.len; have bc:=af.max
  exact .r 1<|.d<|.ib 1<|.g<|.r 1<|.it ((i:Int)+1)<|.r 1<|.d<|ae ((out++[(i:Int)+1]),aY,n_out+1,aZ,i+1) _ _ ⟨AA,AA,AA,AA,trivial⟩ ⟨E,af,aU,(by grind [FC]),(by grind [FC]),(by grind [FC])⟩ (by (simp only []; omega))
 refine .d<|.cf<|.x 0 rfl<|.s<|.g<|.r 2<|.d ?_
 have aV:=O.sl aJ
 exact .rt Tryz.func160 Tryz.results160 (vS r_out n_out c_out) ⟨(aV.vl (by grind [FC]) (fun _ _ h=>h.1)),C⟩
theorem GQ (a:List Row) (b:List Row) {w:World} {F:Nat→Prop} {a1:Option Addr} {n1 c1:Nat} (h1:RepS w F a1 n1 c1 a) {a2:Option Addr} {n2 c2:Nat} (h2:RepS w F a2 n2 c2 b) (p0:a.length+b.length≤1000000):Calls Tryz.prog 158 [.slice a1 n1 c1,.slice a2 n2 c2].toArray w (As fun rv w'=>VL (ge w.heap.size) w' (Bk a b:List Row) rv∧Ext w w'):=by
 refine goT Tryz.func158 ?_
 obtain ⟨rfl,aI,h1⟩:=h1.tp
 obtain ⟨rfl,aJ,h2⟩:=h2.tp
 refine .s<|.g<|.r 1<|.d<|.s<|.g<|.ns 0 105 [] fun ac aD ab ae ar au=>?_
 have av:=Ad ab (Nat.le_refl _)
 have aK:Cov nil w ac:=Bc ab (Nat.le_refl _)
 replace ⟨h1,h2⟩:=(sn [] ae ab).g2 h1 h2
 have C:=ae
 have aw:Own (α:=Row) aD ac 105 (nin (ge w.heap.size) [ac]) 0 0 []:=Own.Ag ar
 refine .r 1<|RG.Ay (T:=91) (ty:=91) Bx aw h1 AA AA (fun b h e=>h.2 (e▸AD)) AB fun ao aE aq J W aj=>?_
 have ax:=Bt W av C.size
 replace ⟨h2,C⟩:=(sa [ac] aj W).g2 h2 C
 replace J:=J.rn ac
 have aL:=J.len; have aM:=J.max
 refine .r 1<|.d<|.s<|.s<|.g<|.r 1<|.d<|.b 0 ?_
 have aF:=J.sl ax
 replace h2:=(sd aq [ao] ao).g1 h2
 refine T.loop (X:=(List Row) × (Option Addr) × Nat × Nat × Nat) ((([]++a):List Row),some ⟨ao,0,none⟩,0+a.length,aE,0) (fun (out,a_out,n_out,c_out,i)=>[(1,.slice a2 b.length c2),(5,.slice a_out n_out c_out),(6,vI (i:Int))]) (fun (out,a_out,n_out,c_out,i) aa=>Chg (ins []) aq aa∧RepS aa (nin (ge w.heap.size) []) a_out n_out c_out out∧(i≤b.length)∧(out.length≤a.length+i)∧((b.drop i).foldl Di out=Bk a b)) (fun (out,a_out,n_out,c_out,i)=>b.length - i) AA ⟨AA,AA,AA,trivial⟩ ⟨Chg.refl _ _,aF,(by simp [Bk]),(by simp [Bk]),(by simp [Bk])⟩ ?_
 rintro ⟨out,a_out,n_out,c_out,i⟩ aU aa ⟨O,E,aN,aO,aP⟩ af
 have ak:Mv [] [] aq aa:=Mv.inl O all_nil all_nil
 replace ⟨h2,C⟩:=(sp ak O).g2 h2 C
 have aQ:=E.len; have aR:=E.max
 refine .s<|.s<|.g<|.r 3<|.bp ((i:Int)< (b.length:Int)) (fun ay=>?_) (fun ay=>.d<|.cf<|.x 0 rfl<|.s<|.g<|.r 2<|.d<|.rt Tryz.func158 Tryz.results158 (.slice a_out n_out c_out) ⟨(E.vl (by grind [AY]) (fun _ _ h=>h.1)),C⟩)
 refine .d<|.ct<|.sk<|.s<|.b 1<|.g<|.r 3 ?_
 have az:i< b.length:=AB
 refine .ix i 2 h2 az ?_
 obtain ⟨ah,ag⟩:∃ y,b[i]? = some y:=⟨_,AP AB⟩
 have aS:=AX ag; have aC:=AQ ag
 obtain ⟨_,rfl,aA⟩:=h2.elem i ah ag
 refine .lg 0 aA<|.cl (Fu out ah E.ta AB (w:=aa) (F:=all)) ?_
 rintro aV aW ⟨⟨aG,aH,rfl,ai⟩,al⟩
 have am:∀ q_∈([]:List Nat),q_< aa.heap.size:=all_nil
 have aB:Gb w.heap.size aa.heap.size:=C.size
 replace ⟨E,C,O⟩:=(se [] al).g3 E C O
 have ai:=ai.fr am aB
 have aT:=ai.max
 exact .r 1<|.d<|.ib 1<|.g<|.r 1<|.it ((i:Int)+1)<|.r 1<|.d<|af (Di out ah,aG,(Di out ah).length,aH,i+1) _ _ ⟨AA,AA,AA,trivial⟩ ⟨O,ai,(by grind [DJ]),(by grind [DJ]),(by grind [DJ])⟩ (by (simp only []; omega))
theorem Dw (p:Prt) (id:Int) {w:World} {F:Nat→Prop} {a1:Option Addr} {n1 c1:Nat} (h1:RepS w F a1 n1 c1 p.ids) {a2:Option Addr} {n2 c2:Nat} (h2:RepS w F a2 n2 c2 p.blocks) (p0:p.ids.length≤p.blocks.length):Calls Tryz.prog 100 [.agg #[.slice a1 n1 c1,.slice a2 n2 c2],.int .i64 id].toArray w (As fun rv w'=>VL (fo F w.heap.size) w' (partOf p id:List Row) rv∧Ext w w'):=by
 refine goT Tryz.func100 ?_
 obtain ⟨rfl,aK,h1⟩:=h1.tp
 obtain ⟨rfl,aL,h2⟩:=h2.tp
 refine .s<|.g<|.np 42 [.slice a1 p.ids.length c1,.slice a2 p.blocks.length c2] fun ae al af J E am=>?_
 replace ⟨h1,h2⟩:=(sn [] J af).g2 h1 h2
 have C:=J
 refine .r 1<|.d<|.s<|.s<|.g<|.r 1<|.d<|.b 0<|T.loop (X:=Nat) 0 (fun i=>[(1,vI id),(2,.pointer (some ⟨ae,0,none⟩)),(5,vI (i:Int))]) (fun i ai=>Chg (ins []) al ai∧(i≤p.ids.length)∧(Bp id (p.ids.drop i) (p.blocks.drop i)=partOf p id)) (fun i=>p.ids.length - i) AA ⟨AA,AA,AA,trivial⟩ ⟨Chg.refl _ _,(by simp [partOf]),(by simp [partOf])⟩ ?_
 rintro i aS ai ⟨O,aM,aN⟩ W
 have ag:Mv [ae] [ae] al ai:=Mv.inl O all_nil (all_cons (.inl AD) all_nil)
 replace ⟨h1,h2,E,C⟩:=(sp ag O).g4 h1 h2 E C
 refine .s<|.s<|.g<|.r 2<|.lb E<|.r 1<|.bp ((i:Int)< (p.ids.length:Int)) (fun ao=>?_) (fun ao=>?_)
 ·refine .d<|.ct<|.sk<|.s<|.b 1<|.s<|.g<|.r 1<|.lb E<|.r 1 ?_
  have aq:i< p.ids.length:=AB
  refine .ix i 1 h1 aq ?_
  obtain ⟨ar,aa⟩:∃ y,p.ids[i]? = some y:=⟨_,AP AB⟩
  have aO:=AX aa; have aE:=AQ aa
  obtain ⟨_,rfl,au⟩:=h1.elem i ar aa
  refine .lh 0 au<|.r 1<|.eq ar id (fun av=>?_) (fun av=>.d<|.cf<|.sk<|.ib 1<|.g<|.r 1<|.it ((i:Int)+1)<|.r 1<|.d<|W (i+1) _ _ ⟨AA,AA,AA,trivial⟩ ⟨O,(by have:=List.drop_eq_getElem_cons (l:=p.blocks) (i:=i) AB; grind [Bp]),(by have:=List.drop_eq_getElem_cons (l:=p.blocks) (i:=i) AB; grind [Bp])⟩ AB)
  refine .d<|.ct<|.s<|.g<|.r 1<|.lb E<|.r 1 ?_
  have aw:i< p.blocks.length:=AB
  refine .ix i 1 h2 aw ?_
  obtain ⟨ax,ab⟩:∃ y,p.blocks[i]? = some y:=⟨_,AP AB⟩
  have aP:=AX ab; have aF:=AQ ab
  obtain ⟨_,⟨aG,aT,aH,rfl,aj⟩,ay⟩:=h2.elem i ax ab
  have az:=aj.len
  subst az
  have aQ:=aj.max
  exact .lh 0 ay<|.r 1<|.d<|.rt Tryz.func100 Tryz.results100 (.slice aG ax.length aH) ⟨(aj.vl (by grind [Bp,AY]) (fun _ _ h=>h.1)),C⟩
 refine .d<|.cf<|.x 0 rfl<|.s<|.g<|.ns 0 105 [] fun ak aI ac ah aA aB=>?_
 have aR:=AS ac E.lt
 have aC:=Ad ac C.size
 replace C:=(se [] ah).g1 C
 have aD:Own (α:=Row) aI ak 105 (nin (fo F w.heap.size) [ak,ae]) 0 0 []:=Own.Ag aA
 refine .r 1<|.d ?_
 have aJ:=aD.sl (.inr aC)
 exact .rt Tryz.func100 Tryz.results100 (vS ak 0 0) ⟨(aJ.vl (by grind [Bp,AY]) (fun _ _ h=>h.1)),C⟩
theorem GR (blocks:List (List Row)) {w:World} {F:Nat→Prop} {a1:Option Addr} {n1 c1:Nat} (h1:RepS w F a1 n1 c1 blocks) (p0:blocks.length≤1000000) (p1:∀ b∈blocks,b.length≤1000000):Calls Tryz.prog 148 [.slice a1 n1 c1].toArray w (As fun rv w'=>VS (ge w.heap.size) w' (DI blocks:Prt) rv∧Ext w w'):=by
 refine goT Tryz.func148 ?_
 obtain ⟨rfl,dC,h1⟩:=h1.tp
 refine .s<|.g<|.np 42 [.slice none 0 0,.slice none 0 0] fun ac ed aU aV E cz=>?_
 have dD:Cov nil w ac:=Bc aU (Nat.le_refl _)
 replace h1:=(sn [] aV aU).g1 h1
 have C:=aV
 refine .d<|.s<|.g<|.ns 0 3 [] fun ak df aH bu cA cB=>?_
 have cC:=AS aH E.lt
 have cD:=Ad aH C.size
 have cE:=C.cn aH
 replace ⟨h1,E,C⟩:=(sn [ac] bu aH).g3 h1 E C
 have am:Own (α:=Int) df ak 3 (nin (ge w.heap.size) [ak,ac]) 0 0 []:=Own.Ag cA
 refine .ns 0 91 [] fun ar dg az bv cF cG=>?_
 have cH:=AS az E.lt
 have cI:=AS az am.lt
 have cJ:=Ad az C.size
 have cK:=C.cn az
 replace ⟨h1,E,am,C⟩:=(sn [ak,ac] bv az).g4 h1 E am C
 have aA:Own (α:=List Row) dg ar 91 (nin (ge w.heap.size) [ar,ak,ac]) 0 0 []:=Own.Ag cF
 refine .r 1<|.np 42 [.slice none 0 0,.slice none 0 0] fun ab ee aB bw cL cM=>?_
 have dE:=AS aB E.lt
 have cN:=AS aB am.lt
 have cO:=AS aB aA.lt
 have dF:=C.cn aB
 replace ⟨h1,E,am,aA,C⟩:=(sn [ar,ak,ac] bw aB).g5 h1 E am aA C
 refine .sc [vS ak 0 0,vS ar 0 0] cL fun aK bz aW cP=>?_
 replace ⟨h1,E,am,aA,C⟩:=(so [ab,ar,ak,ac] bz).g5 h1 E am aA C
 refine .d<|.s<|.s<|.g<|.r 1<|.d<|.b 0<|T.loop (X:=Nat × (List Int) × Nat × Nat × Nat × (List (List Row)) × Nat × Nat × Nat) (0,([]:List Int),ak,0,0,([]:List (List Row)),ar,0,0) (fun (i,aF,r_p_0,n_p_0,c_p_0,aG,r_p_1,n_p_1,c_p_1)=>[(0,.slice a1 blocks.length c1),(2,.pointer (some ⟨ac,0,none⟩)),(3,.pointer (some ⟨ab,0,none⟩)),(4,vI (i:Int))]) (fun (i,aF,r_p_0,n_p_0,c_p_0,aG,r_p_1,n_p_1,c_p_1) aR=>Chg (ins [ak,ar,ab]) aK aR∧Own aR r_p_0 3 (nin (ge w.heap.size) [ab,r_p_1,r_p_0,ac]) n_p_0 c_p_0 aF∧OrB r_p_0 ak aK.heap.size∧Own aR r_p_1 91 (nin (ge w.heap.size) [ab,r_p_1,r_p_0,ac]) n_p_1 c_p_1 aG∧OrB r_p_1 ar aK.heap.size∧Nb r_p_1 r_p_0∧Box aR ab 42 [vS r_p_0 n_p_0 c_p_0,vS r_p_1 n_p_1 c_p_1]∧(i≤blocks.length)∧(aF.length≤i)∧(aG.length≤i)∧(aF++(BY i (blocks.drop i)).1=(BY 0 blocks).1)∧(aG++(BY i (blocks.drop i)).2=(BY 0 blocks).2)) (fun (i,aF,r_p_0,n_p_0,c_p_0,aG,r_p_1,n_p_1,c_p_1)=>blocks.length - i) AA ⟨AA,AA,AA,AA,trivial⟩ ⟨Chg.refl _ _,am,BJ,aA,BJ,cI,aW,(by simp),(by simp),(by simp),(by simp),(by simp)⟩ ?_
 rintro ⟨i,aF,r_p_0,n_p_0,c_p_0,aG,r_p_1,n_p_1,c_p_1⟩ ef aR ⟨aa,ai,aw,O,ax,bA,aj,dG,dH,dI,dJ,dK⟩ aI
 have dL:=Aw aw cC E.lt
 have cQ:=Aw aw (Nb.symm cN) aW.lt
 have cR:=Bv aw cD C.size
 have dM:=Ar aw cE C.size
 have dN:=Aw ax cH E.lt
 have bB:=Aw ax (Nb.symm cO) aW.lt
 have cS:=Bv ax cJ C.size
 have dO:=Ar ax cK C.size
 have cT:Cov (ins [ak,ar,ab]) aK ak:=⟨.inl AD⟩
 have cU:Cov (ins [ak,ar,ab]) aK ar:=⟨.inl AE⟩
 have dP:Cov (ins [ak,ar,ab]) aK ab:=⟨.inl AF⟩
 have dQ:=Ar aw cT (Nat.le_refl _)
 have dR:=Ar ax cU (Nat.le_refl _)
 have bC:Mv [ab,ar,ak,ac] [ab,r_p_1,r_p_0,ac] aK aR:=Mv.inl aa (all_cons AF (all_cons AE (all_cons AD all_nil))) (all_cons (.inl AD) (all_cons (BV ax AE) (all_cons (BV aw AF) (all_cons (.inl AG) all_nil))))
 replace ⟨h1,E,C⟩:=(sp bC aa).g3 h1 E C
 have dS:=ai.len; have dT:=ai.max
 have dU:=O.len; have dV:=O.max
 refine .s<|.s<|.g<|.r 3<|.bp ((i:Int)< (blocks.length:Int)) (fun cV=>?_) (fun cV=>?_)
 ·refine .d<|.ct<|.sk<|.s<|.b 1<|.s<|.g<|.r 2 ?_
  have cW:i< blocks.length:=AB
  refine .ix i 1 h1 cW ?_
  obtain ⟨aL,aJ⟩:∃ y,blocks[i]? = some y:=⟨_,AP AB⟩
  have dh:=AX aJ; have cX:=AQ aJ
  obtain ⟨_,⟨dW,dX,dY,rfl,bD⟩,bJ⟩:=h1.elem i aL aJ
  have bK:=bD.len
  subst bK
  have dj:=bD.max
  refine .lh 0 bJ<|.r 1<|.bp ((aL.length:Int) > 0) (fun bL=>?_) (fun bL=>.d<|.cf<|.sk<|.ib 1<|.g<|.r 1<|.it ((i:Int)+1)<|.r 1<|.d<|aI (i+1,aF,r_p_0,n_p_0,c_p_0,aG,r_p_1,n_p_1,c_p_1) _ _ ⟨AA,AA,AA,AA,trivial⟩ ⟨aa,ai,aw,O,ax,bA,aj,(by grind [BY]),(by grind [BY]),(by grind [BY]),(by grind [BY]),(by grind [BY])⟩ (by (simp only []; omega)))
  refine .d<|.ct<|.s<|.g<|.r 1<|.lb aj<|.r 1<|.it ((i:Int)+1)<|.ns 1 3 [vI ((i:Int)+1)] fun bE dZ au aX bM bN=>?_
  have bO:=AS au E.lt
  have aY:=AS au ai.lt
  have bP:=AS au O.lt
  have bQ:=AS au aj.lt
  have bR:=Ad au C.size
  replace ⟨h1,E,ai,O,aj,C,aa⟩:=(se [ab,r_p_1,r_p_0,ac] aX).g7 h1 E ai O aj C aa
  have aS:nin (ge w.heap.size) [ab,r_p_1,r_p_0,ac] bE∧bE≠r_p_0:=BG bR (all_cons bQ (all_cons bP (all_cons aY (all_cons bO all_nil)))) aY
  refine RG.Ap (T:=24) (ty:=24) (y:=(i:Int)+1) ai bM AA AA rfl aS (by grind) fun ae bF d0 J ao aZ=>?_
  have bS:=Ae ao (Nb.symm bA) O.lt
  have bT:=Ae ao cQ aj.lt
  have bU:=Bo ao aw aa.size
  replace ⟨h1,E,O,aj,C,aa⟩:=(sa [ab,r_p_1,r_p_0,ac] aZ ao).g6 h1 E O aj C aa
  replace J:=J.rn r_p_0
  have dm:=J.len; have dp:=J.max
  refine .r 1<|.ss 0 (vS ae (n_p_0+1) bF) aj fun aC ba W bV=>?_
  replace ⟨h1,E,J,O,C,aa⟩:=(so [ab,r_p_1,ae,ac] ba).g6 h1 E J O C aa
  refine .d ?_
  replace h1:=h1.Ah
  have bW:Gb (ab+1) aC.heap.size:=W.lt
  refine .gd (mtb [ae,r_p_1] aC.heap.size) 9 fun cY aM=>?_
  replace ⟨h1,E,J,O,W,C,aa⟩:=(se [ab,r_p_1,ae,ac] aM).g7 h1 E J O W C aa
  have aN:Chg (mtb [ae,r_p_1] aC.heap.size) aC cY:=Chg.Cc (Chg.refl (mtb [ae,r_p_1] aC.heap.size) aC) aM
  refine .r [0]<|.lb 1 W (Ax (all_cons (Nb.symm bT) (all_cons (Nb.symm bB) all_nil)) bW)<|.r [3,4] ?_
  have bX:i< blocks.length:=AB
  refine .ix 5 i 1 h1 bX ?_
  obtain ⟨_,⟨cZ,d3,c7,rfl,ay⟩,bY⟩:=h1.elem i aL aJ
  have bZ:=ay.len
  subst bZ
  refine .lh 6 0 bY (h1.nS (Dt aJ) (all_cons AF (all_cons AE all_nil)))<|.go 2<|.ns 0 105 [] fun d4 bc=>?_
  replace ⟨E,J,O,W,ay,C,aa,aN⟩:=(se [ab,r_p_1,ae,ac] bc).g8 E J O W ay C aa aN
  intro aD c8 ag bd b0 b6
  have b7:=AS ag E.lt
  have b8:=AS ag J.lt
  have b9:=AS ag O.lt
  have cd:=AS ag W.lt
  have ce:=Ad ag C.size
  have dq:=C.cn ag
  have dr:=aa.cn ag
  have cg:=aN.cn ag
  replace ⟨E,J,O,W,ay,C,aa⟩:=(sn [ab,r_p_1,ae,ac] bd ag).g7 E J O W ay C aa
  have aO:Own (α:=Row) c8 aD 105 (nin (ge w.heap.size) [aD,ab,r_p_1,ae,ac]) 0 0 []:=Own.Ag b0
  refine .go 7<|GE.append (T:=91) (ty:=91) (args:=[vS aD 0 0,.slice cZ aL.length c7]) AA fun d5 bg=>?_
  replace ⟨E,J,O,W,ay,aO,C,aa⟩:=(se [aD,ab,r_p_1,ae,ac] bg).g8 E J O W ay aO C aa
  obtain ⟨aE,c9,d6,bh,af,ah,aP,ci⟩:=Own.Ay (P:=Tryz.prog) (T:=91) (ty:=91) Bx aO AA ay (fun b h e=>h.2 (e▸AD)) (by grind)
  refine ⟨_,_,bh,Chg.toS aP (Cov.toS cg),?_⟩
  have dt:=Ae ah b7 E.lt
  have du:=Ae ah b8 J.lt
  have dv:=Ae ah b9 O.lt
  have dw:=Ae ah cd W.lt
  have cj:=Bt ah ce C.size
  replace ⟨E,J,O,W,C,aa⟩:=(sa [aD,ab,r_p_1,ae,ac] aP ah).g6 E J O W C aa
  replace af:=af.rn aD
  have dx:=af.len; have dy:=af.max
  refine .go 8<|.ns 1 91 [vS aE (0+aL.length) c9] fun d7 bi=>?_
  replace ⟨E,J,O,W,af,C,aa⟩:=(se [aE,ab,r_p_1,ae,ac] bi).g7 E J O W af C aa
  intro bG d8 av bj aQ ck
  have cm:=AS av E.lt
  have co:=AS av J.lt
  have bk:=AS av O.lt
  have cp:=AS av W.lt
  have cq:=Ad av C.size
  replace ⟨E,J,O,W,af,C,aa⟩:=(se [aE,ab,r_p_1,ae,ac] bj).g7 E J O W af C aa
  refine .d fun da bm=>?_
  replace ⟨E,J,O,W,af,aQ,C,aa⟩:=(se [aE,ab,r_p_1,ae,ac] bm).g8 E J O W af aQ C aa
  have db:=af.sl cj
  replace ⟨J,O⟩:=(sd da [aE,ab,r_p_1,ae,ac] aE).g2 J O
  have aT:nin (ge w.heap.size) [ab,r_p_1,ae,ac] bG∧bG≠r_p_1:=BG cq (all_cons cp (all_cons bk (all_cons co (all_cons cm all_nil)))) bk
  refine RG.Ap (T:=40) (ty:=40) (y:=([]++aL)) O aQ AA AA ⟨_,_,_,rfl,db.oi⟩ aT (by grind) fun bn bH d9 al aq bo=>?_
  have cr:=Ae aq (Nb.symm bS) J.lt
  have dz:=Ae aq bB W.lt
  have cu:=Bo aq ax aa.size
  replace ⟨E,J,W,C,aa⟩:=(sa [ab,r_p_1,ae,ac] bo aq).g5 E J W C aa
  replace al:=al.rn r_p_1
  have dA:=al.len; have dB:=al.max
  refine .r 1<|.ss 1 (vS bn (n_p_1+1) bH) W fun ec bq cv cw=>?_
  replace ⟨E,J,al,C,aa⟩:=(so [ab,bn,ae,ac] bq).g5 E J al C aa
  exact .d<|.ib 1<|.g<|.r 1<|.it ((i:Int)+1)<|.r 1<|.d<|aI (i+1,(aF++[(i:Int)+1]),ae,n_p_0+1,bF,(aG++[([]++aL)]),bn,n_p_1+1,bH) _ _ ⟨AA,AA,AA,AA,trivial⟩ ⟨aa,J,bU,al,cu,cr,cv,(by grind [BY]),(by grind [BY]),(by grind [BY]),(by grind [BY]),(by grind [BY])⟩ (by (simp only []; omega))
 refine .d<|.cf<|.x 0 rfl<|.s<|.g<|.ln aj<|.sc [vS r_p_0 n_p_0 c_p_0,vS r_p_1 n_p_1 c_p_1] E fun bI br cx cy=>?_
 replace ⟨ai,O,C⟩:=(so [ab,r_p_1,r_p_0,ac] br).g3 ai O C
 refine .d ?_
 have bt:=ai.sl cR
 replace O:=(sd bI [ab,r_p_1,r_p_0,ac] r_p_0).g1 O
 have de:=O.sl cS
 replace bt:=(sd bI [ab,r_p_1,ac] r_p_1).g1 bt
 exact .rb Tryz.func148 Tryz.results148 cx ⟨(VS.of (y:=(⟨aF,aG⟩:Prt)) ⟨_,rfl,⟨_,_,_,_,_,_,rfl,bt.w1,de.w1⟩⟩ (by grind [BY,DI])),C⟩
end Go.Proofs.YtganlmloonielaaGreat
namespace Go.Proofs.YtganlmloonielaaGreat
set_option maxRecDepth 100000
set_option maxHeartbeats 4000000
theorem ET (n:List Tag) {w:World} {F:Nat→Prop} {a1:Option Addr} {n1 c1:Nat} (h1:RepS w F a1 n1 c1 n)  : Calls Tryz.prog 134 [.slice a1 n1 c1].toArray w (As fun rv w'=>rv=.bool (BS n)∧Ext w w'):=by
 refine goT Tryz.func134 ?_
 obtain ⟨rfl,ay,h1⟩:=h1.tp
 refine .s<|.g<|.r 1<|.d<|.s<|.s<|.g<|.r 1<|.d<|.b 0<|T.loop (X:=Nat) 0 (fun i=>[(0,.slice a1 n.length c1),(3,vI (i:Int))]) (fun i W=>Chg (ins []) w W∧(i≤n.length)∧(Dl (prev n i) (n.drop i)=Dl none n)) (fun i=>n.length - i) AA ⟨AA,AA,trivial⟩ ⟨Chg.refl _ _,(by simp [prev]),(by simp [prev])⟩ ?_
 rintro i aG W ⟨C,az,aA⟩ J
 have ae:Mv [] [] w W:=Mv.inl C all_nil all_nil
 replace h1:=(sp ae C).g1 h1
 have E:Chg nil w W:=Chg.CY (Chg.refl nil w) C all_nil
 refine .s<|.s<|.g<|.r 3<|.bp ((i:Int)< (n.length:Int)) (fun am=>?_) (fun am=>?_)
 ·refine .d<|.ct<|.sk<|.s<|.b 1<|.s<|.gd nil 21 fun aH af=>?_
  replace ⟨h1,E,C⟩:=(se [] af).g3 h1 E C
  refine .r [0,1] ?_
  have ao:i< n.length:=AB
  refine .ix 2 i 2 h1 ao ?_
  obtain ⟨O,aa⟩:∃ y,n[i]? = some y:=⟨_,AP AB⟩
  have aB:=AX aa; have av:=AQ aa
  obtain ⟨_,rfl,ag⟩:=h1.elem i O aa
  refine .lg 3 0 ag id<|GA.Bz (i:=4) AA (fun ax aC=>En O (w:=ax) (F:=all)) ?_
  cases aD:(Bg O)
  ·refine .r [5,6]<|GA.skip AA fun aI ah=>?_
   replace ⟨h1,E,C⟩:=(se [] ah).g3 h1 E C
   exact .r 3<|.d<|.ct<|.s<|.g<|.r 1<|.d<|.rt Tryz.func134 Tryz.results134 (.bool false) ⟨(congrArg Value.bool (by grind [Dl,BS,prev,AY])),E⟩
  refine .r [5,6,7]<|GA.EE (i:=8) ((i:Int) > 0) AA (fun aq=>?_) (fun aq=>?_)
  ·refine .r [9,10,11]<|GA.int (i:=12) ((i:Int) - 1) AA AB ?_
   have ai:i - 1< n.length:=AB
   refine GA.idx (i:=13) (i - 1) (len:=n.length) (z:=(i:Int) - 1) (sz:=2) AA AB ai (h1.addr (Nat.zero_lt_of_lt ai))<|.r [14] ?_
   obtain ⟨ac,ab⟩:∃ y,n[i - 1]? = some y:=⟨_,AP AB⟩
   have aE:=AX ab; have aw:=AQ ab
   obtain ⟨_,rfl,ar⟩:=h1.elem (i - 1) ac ab
   refine .lh 15 0 ar id<|.r [16,17] ?_
   have au:i< n.length:=AB
   refine .ix 18 i 2 h1 au<|.r [19]<|.lh 20 0 ag id<|.d fun aJ aj=>?_
   replace ⟨E,C⟩:=(se [] aj).g2 E C
   refine RG.eqv (v:=.bool (!(Bq ac.key O.key))) AA (SZ ac.key O.key) ?_
   cases aF:(Bq ac.key O.key)
   ·exact .r 2<|.d<|.ct<|.s<|.g<|.r 1<|.d<|.rt Tryz.func134 Tryz.results134 (.bool false) ⟨(congrArg Value.bool (by grind [Dl,BS,prev,AY])),E⟩
   exact .r 2<|.d<|.cf<|.sk<|.ib 1<|.g<|.r 1<|.it ((i:Int)+1)<|.r 1<|.d<|J (i+1) _ _ ⟨AA,AA,trivial⟩ ⟨C,AB,(by grind [Dl,prev])⟩ AB
  refine .r [9]<|GA.skip AA fun aK ak=>?_
  replace ⟨E,C⟩:=(se [] ak).g2 E C
  exact .r 3<|.d<|.cf<|.sk<|.ib 1<|.g<|.r 1<|.it ((i:Int)+1)<|.r 1<|.d<|J (i+1) _ _ ⟨AA,AA,trivial⟩ ⟨C,AB,(by grind [Dl,prev])⟩ AB
 refine .d<|.cf<|.x 0 rfl<|.s<|.g<|.r 2<|.cl (CO (n.length:Int) 1 3 (w:=W) (F:=all)) ?_
 rintro aL aM ⟨rfl,al⟩
 replace E:=(se [] al).g1 E
 exact .r 1<|.d<|.rt Tryz.func134 Tryz.results134 (.bool (inR (n.length:Int) 1 3)) ⟨(congrArg Value.bool (by grind [Dl,BS,prev,AY])),E⟩
theorem FV (n:List Tag) {w:World} {F:Nat→Prop} {a1:Option Addr} {n1 c1:Nat} (h1:RepS w F a1 n1 c1 n)  : Calls Tryz.prog 164 [.slice a1 n1 c1].toArray w (As fun rv w'=>rv=.bool (BS n)∧Ext w w'):=by
 refine goT Tryz.func164 ?_
 obtain ⟨rfl,aF,h1⟩:=h1.tp
 refine .s<|.g<|.r 1<|.d<|.s<|.s<|.g<|.r 3<|.d<|.b 0<|T.loop (X:=Nat) 0 (fun k=>[(0,.slice a1 n.length c1),(5,.slice a1 n.length c1),(6,vI (n.length:Int)),(7,vI (k:Int))]) (fun k ab=>Chg (ins []) w ab∧(k≤n.length)∧(Dl (prev n k) (n.drop k)=Dl none n)) (fun k=>n.length - k) AA ⟨AA,AA,AA,AA,trivial⟩ ⟨Chg.refl _ _,(by simp [prev]),(by simp [prev])⟩ ?_
 rintro k aP ab ⟨C,aG,aH⟩ O
 have ag:Mv [] [] w ab:=Mv.inl C all_nil all_nil
 replace h1:=(sp ag C).g1 h1
 have E:Chg nil w ab:=Chg.CY (Chg.refl nil w) C all_nil
 refine .s<|.g<|.bp ((k:Int)< (n.length:Int)) (fun au=>?_) (fun au=>?_)
 ·refine .d<|.s<|.ct<|.sk<|.s<|.b 1<|.s<|.g<|.r 1 ?_
  have av:k< n.length:=AB
  refine .ix k 2 h1 av ?_
  obtain ⟨W,ac⟩:∃ y,n[k]? = some y:=⟨_,AP AB⟩
  have aI:=AX ac; have aC:=AQ ac
  obtain ⟨_,rfl,aw⟩:=h1.elem k W ac
  refine .lg 0 aw<|.np 120 [.string (bs []),.string (bs [])] fun ar aQ aa ah ax ay=>?_
  have aJ:=E.cn aa
  have aK:=C.cn aa
  replace ⟨h1,E,C⟩:=(sn [] ah aa).g3 h1 E C
  refine .r 1<|.sc [vT W.key,vT W.val] ax fun aR ai J az=>?_
  replace ⟨h1,E,C⟩:=(so [ar] ai).g3 h1 E C
  refine .d<|.s<|.gd nil 15 fun aS aj=>?_
  replace ⟨h1,J,E,C⟩:=(se [ar] aj).g4 h1 J E C
  refine .ln 0 J id<|GA.Bz (i:=1) AA (fun aE aL=>Hm W (w:=aE) (F:=all)) ?_
  cases aM:(Bg W)
  ·refine .r [2,3]<|GA.skip AA fun aT ak=>?_
   replace ⟨h1,J,E,C⟩:=(se [ar] ak).g4 h1 J E C
   exact .r 3<|.d<|.ct<|.s<|.g<|.r 1<|.d<|.rt Tryz.func164 Tryz.results164 (.bool false) ⟨(congrArg Value.bool (by grind [Dl,BS,prev,AY])),E⟩
  refine .r [2,3,4]<|GA.EE (i:=5) ((k:Int) > 0) AA (fun aA=>?_) (fun aA=>?_)
  ·refine .r [6,7,8]<|GA.int (i:=9) ((k:Int) - 1) AA AB ?_
   have al:k - 1< n.length:=AB
   refine GA.idx (i:=10) (k - 1) (len:=n.length) (z:=(k:Int) - 1) (sz:=2) AA AB al (h1.addr (Nat.zero_lt_of_lt al))<|.r [11] ?_
   obtain ⟨af,ae⟩:∃ y,n[k - 1]? = some y:=⟨_,AP AB⟩
   have aN:=AX ae; have aD:=AQ ae
   obtain ⟨_,rfl,aB⟩:=h1.elem (k - 1) af ae
   refine .lh 12 0 aB id<|.r [13]<|.lb 14 J id<|.d fun aU am=>?_
   replace ⟨E,C⟩:=(se [] am).g2 E C
   refine RG.eqv (v:=.bool (!(Bq af.key W.key))) AA (SZ af.key W.key) ?_
   cases aO:(Bq af.key W.key)
   ·exact .r 2<|.d<|.ct<|.s<|.g<|.r 1<|.d<|.rt Tryz.func164 Tryz.results164 (.bool false) ⟨(congrArg Value.bool (by grind [Dl,BS,prev,AY])),E⟩
   exact .r 2<|.d<|.cf<|.sk<|.ib 1<|.g<|.it ((k:Int)+1)<|.r 1<|.d<|O (k+1) _ _ ⟨AA,AA,AA,AA,trivial⟩ ⟨C,AB,(by grind [Dl,prev])⟩ AB
  refine .r [6]<|GA.skip AA fun aV ao=>?_
  replace ⟨E,C⟩:=(se [] ao).g2 E C
  exact .r 3<|.d<|.cf<|.sk<|.ib 1<|.g<|.it ((k:Int)+1)<|.r 1<|.d<|O (k+1) _ _ ⟨AA,AA,AA,AA,trivial⟩ ⟨C,AB,(by grind [Dl,prev])⟩ AB
 refine .d<|.s<|.cf<|.x 0 rfl<|.s<|.g<|.r 2<|.cl (CM (n.length:Int) 1 3 (w:=ab) (F:=all)) ?_
 rintro aW aX ⟨rfl,aq⟩
 replace E:=(se [] aq).g1 E
 exact .r 1<|.d<|.rt Tryz.func164 Tryz.results164 (.bool (inR (n.length:Int) 1 3)) ⟨(congrArg Value.bool (by grind [Dl,BS,prev,AY])),E⟩
theorem Ez (b:List Row) {w:World} {F:Nat→Prop} {a1:Option Addr} {n1 c1:Nat} (h1:RepS w F a1 n1 c1 b)  : Calls Tryz.prog 112 [.slice a1 n1 c1].toArray w (As fun rv w'=>rv=.bool (BE b)∧Ext w w'):=by
 refine goT Tryz.func112 ?_
 obtain ⟨rfl,ay,h1⟩:=h1.tp
 refine .s<|.g<|.r 1<|.d<|.s<|.s<|.g<|.r 1<|.d<|.b 0<|T.loop (X:=Nat) 0 (fun i=>[(0,.slice a1 b.length c1),(3,vI (i:Int))]) (fun i aa=>Chg (ins []) w aa∧(i≤b.length)∧(CG (prev b i) (b.drop i)=CG none b)) (fun i=>b.length - i) AA ⟨AA,AA,trivial⟩ ⟨Chg.refl _ _,(by simp [prev]),(by simp [prev])⟩ ?_
 rintro i aF aa ⟨C,az,aA⟩ J
 have ac:Mv [] [] w aa:=Mv.inl C all_nil all_nil
 replace h1:=(sp ac C).g1 h1
 have E:Chg nil w aa:=Chg.CY (Chg.refl nil w) C all_nil
 refine .s<|.s<|.g<|.r 3<|.bp ((i:Int)< (b.length:Int)) (fun ak=>?_) (fun ak=>.d<|.cf<|.x 0 rfl<|.s<|.g<|.r 4<|.d<|.rt Tryz.func112 Tryz.results112 (.bool (decide ((b.length:Int)≤24))) ⟨(congrArg Value.bool (by grind [CG,BE,prev,AY])),E⟩)
 refine .d<|.ct<|.sk<|.s<|.b 1<|.s<|.gd nil 21 fun aG ae=>?_
 replace ⟨h1,E,C⟩:=(se [] ae).g3 h1 E C
 refine .r [0,1] ?_
 have al:i< b.length:=AB
 refine .ix 2 i 2 h1 al ?_
 obtain ⟨ab,O⟩:∃ y,b[i]? = some y:=⟨_,AP AB⟩
 have aB:=AX O; have av:=AQ O
 obtain ⟨_,rfl,af⟩:=h1.elem i ab O
 refine .lg 3 0 af id<|GA.Bz (i:=4) AA (fun ax aC=>Ft ab (w:=ax) (F:=all)) ?_
 cases aD:(Bw ab)
 ·refine .r [5,6]<|GA.skip AA fun aH ag=>?_
  replace ⟨h1,E,C⟩:=(se [] ag).g3 h1 E C
  exact .r 3<|.d<|.ct<|.s<|.g<|.r 1<|.d<|.rt Tryz.func112 Tryz.results112 (.bool false) ⟨(congrArg Value.bool (by grind [CG,BE,prev,AY])),E⟩
 refine .r [5,6,7]<|GA.EE (i:=8) ((i:Int) > 0) AA (fun am=>?_) (fun am=>?_)
 ·refine .r [9,10,11]<|GA.int (i:=12) ((i:Int) - 1) AA AB ?_
  have ah:i - 1< b.length:=AB
  refine GA.idx (i:=13) (i - 1) (len:=b.length) (z:=(i:Int) - 1) (sz:=2) AA AB ah (h1.addr (Nat.zero_lt_of_lt ah))<|.r [14] ?_
  obtain ⟨ao,W⟩:∃ y,b[i - 1]? = some y:=⟨_,AP AB⟩
  have aE:=AX W; have aw:=AQ W
  obtain ⟨_,rfl,aq⟩:=h1.elem (i - 1) ao W
  refine .lh 15 0 aq id<|.r [16,17] ?_
  have ar:i< b.length:=AB
  refine .ix 18 i 2 h1 ar<|.r [19]<|.lh 20 0 af id<|.d fun aI ai=>?_
  replace ⟨E,C⟩:=(se [] ai).g2 E C
  exact .bp (ao.t≥ab.t) (fun au=>.r 2<|.d<|.ct<|.s<|.g<|.r 1<|.d<|.rt Tryz.func112 Tryz.results112 (.bool false) ⟨(congrArg Value.bool (by grind [CG,BE,prev,AY])),E⟩) fun au=>.r 2<|.d<|.cf<|.sk<|.ib 1<|.g<|.r 1<|.it ((i:Int)+1)<|.r 1<|.d<|J (i+1) _ _ ⟨AA,AA,trivial⟩ ⟨C,AB,(by grind [CG,prev])⟩ AB
 refine .r [9]<|GA.skip AA fun aJ aj=>?_
 replace ⟨E,C⟩:=(se [] aj).g2 E C
 exact .r 3<|.d<|.cf<|.sk<|.ib 1<|.g<|.r 1<|.it ((i:Int)+1)<|.r 1<|.d<|J (i+1) _ _ ⟨AA,AA,trivial⟩ ⟨C,AB,(by grind [CG,prev])⟩ AB
theorem DK (b:List Row) {w:World} {F:Nat→Prop} {a1:Option Addr} {n1 c1:Nat} (h1:RepS w F a1 n1 c1 b)  : Calls Tryz.prog 118 [.slice a1 n1 c1].toArray w (As fun rv w'=>rv=.bool (BE b)∧Ext w w'):=by
 refine goT Tryz.func118 ?_
 obtain ⟨rfl,aF,h1⟩:=h1.tp
 refine .s<|.g<|.r 1<|.d<|.s<|.s<|.g<|.r 3<|.d<|.b 0<|T.loop (X:=Nat) 0 (fun k=>[(0,.slice a1 b.length c1),(5,.slice a1 b.length c1),(6,vI (b.length:Int)),(7,vI (k:Int))]) (fun k ae=>Chg (ins []) w ae∧(k≤b.length)∧(CG (prev b k) (b.drop k)=CG none b)) (fun k=>b.length - k) AA ⟨AA,AA,AA,AA,trivial⟩ ⟨Chg.refl _ _,(by simp [prev]),(by simp [prev])⟩ ?_
 rintro k aO ae ⟨C,aG,aH⟩ O
 have af:Mv [] [] w ae:=Mv.inl C all_nil all_nil
 replace h1:=(sp af C).g1 h1
 have E:Chg nil w ae:=Chg.CY (Chg.refl nil w) C all_nil
 refine .s<|.g<|.bp ((k:Int)< (b.length:Int)) (fun aq=>?_) (fun aq=>.d<|.s<|.cf<|.x 0 rfl<|.s<|.g<|.r 4<|.d<|.rt Tryz.func118 Tryz.results118 (.bool (decide ((b.length:Int)≤24))) ⟨(congrArg Value.bool (by grind [CG,BE,prev,AY])),E⟩)
 refine .d<|.s<|.ct<|.sk<|.s<|.b 1<|.s<|.g<|.r 1 ?_
 have ar:k< b.length:=AB
 refine .ix k 2 h1 ar ?_
 obtain ⟨aa,ab⟩:∃ y,b[k]? = some y:=⟨_,AP AB⟩
 have aI:=AX ab; have aC:=AQ ab
 obtain ⟨_,rfl,au⟩:=h1.elem k aa ab
 refine .lg 0 au<|.np 105 [vI 0,vI 0] fun ao aP W ag av aw=>?_
 have aJ:=E.cn W
 have aK:=C.cn W
 replace ⟨h1,E,C⟩:=(sn [] ag W).g3 h1 E C
 refine .r 1<|.sc [vI aa.t,vI aa.v] av fun aQ ah J ax=>?_
 replace ⟨h1,E,C⟩:=(so [ao] ah).g3 h1 E C
 refine .d<|.s<|.gd nil 15 fun aR ai=>?_
 replace ⟨h1,J,E,C⟩:=(se [ao] ai).g4 h1 J E C
 refine .ln 0 J id<|GA.Bz (i:=1) AA (fun aE aL=>Hl aa (w:=aE) (F:=all)) ?_
 cases aM:(Bw aa)
 ·refine .r [2,3]<|GA.skip AA fun aS aj=>?_
  replace ⟨h1,J,E,C⟩:=(se [ao] aj).g4 h1 J E C
  exact .r 3<|.d<|.ct<|.s<|.g<|.r 1<|.d<|.rt Tryz.func118 Tryz.results118 (.bool false) ⟨(congrArg Value.bool (by grind [CG,BE,prev,AY])),E⟩
 refine .r [2,3,4]<|GA.EE (i:=5) ((k:Int) > 0) AA (fun ay=>?_) (fun ay=>?_)
 ·refine .r [6,7,8]<|GA.int (i:=9) ((k:Int) - 1) AA AB ?_
  have ak:k - 1< b.length:=AB
  refine GA.idx (i:=10) (k - 1) (len:=b.length) (z:=(k:Int) - 1) (sz:=2) AA AB ak (h1.addr (Nat.zero_lt_of_lt ak))<|.r [11] ?_
  obtain ⟨az,ac⟩:∃ y,b[k - 1]? = some y:=⟨_,AP AB⟩
  have aN:=AX ac; have aD:=AQ ac
  obtain ⟨_,rfl,aA⟩:=h1.elem (k - 1) az ac
  refine .lh 12 0 aA id<|.r [13]<|.lb 14 J id<|.d fun aT al=>?_
  replace ⟨E,C⟩:=(se [] al).g2 E C
  exact .bp (az.t≥aa.t) (fun aB=>.r 2<|.d<|.ct<|.s<|.g<|.r 1<|.d<|.rt Tryz.func118 Tryz.results118 (.bool false) ⟨(congrArg Value.bool (by grind [CG,BE,prev,AY])),E⟩) fun aB=>.r 2<|.d<|.cf<|.sk<|.ib 1<|.g<|.it ((k:Int)+1)<|.r 1<|.d<|O (k+1) _ _ ⟨AA,AA,AA,AA,trivial⟩ ⟨C,AB,(by grind [CG,prev])⟩ AB
 refine .r [6]<|GA.skip AA fun aU am=>?_
 replace ⟨E,C⟩:=(se [] am).g2 E C
 exact .r 3<|.d<|.cf<|.sk<|.ib 1<|.g<|.it ((k:Int)+1)<|.r 1<|.d<|O (k+1) _ _ ⟨AA,AA,AA,AA,trivial⟩ ⟨C,AB,(by grind [CG,prev])⟩ AB
theorem FW (p:Prt) {w:World} {F:Nat→Prop} {a1:Option Addr} {n1 c1:Nat} (h1:RepS w F a1 n1 c1 p.ids) {a2:Option Addr} {n2 c2:Nat} (h2:RepS w F a2 n2 c2 p.blocks)  : Calls Tryz.prog 65 [.agg #[.slice a1 n1 c1,.slice a2 n2 c2]].toArray w (As fun rv w'=>rv=.bool (Au p)∧Ext w w'):=by
 refine goT Tryz.func65 ?_
 obtain ⟨rfl,bt,h1⟩:=h1.tp
 obtain ⟨rfl,bu,h2⟩:=h2.tp
 refine .s<|.g<|.np 42 [.slice a1 p.ids.length c1,.slice a2 p.blocks.length c2] fun O aJ am ac E aK=>?_
 replace ⟨h1,h2⟩:=(sn [] ac am).g2 h1 h2
 have C:=ac
 refine .r 1<|.d<|.s<|.s<|.g<|.r 1<|.lb E<|.r 2<|.lb E<|.r 1<|.ne (p.ids.length:Int) (p.blocks.length:Int) (fun aL=>.d<|.ct<|.s<|.g<|.r 1<|.d<|.rt Tryz.func65 Tryz.results65 (.bool false) ⟨(congrArg Value.bool (by grind [Bl,Au,prev,AY])),C⟩) fun aL=>.d<|.cf<|.sk<|.s<|.s<|.g<|.r 1<|.d<|.b 0<|T.loop (X:=Nat) 0 (fun i=>[(1,.pointer (some ⟨O,0,none⟩)),(3,vI (i:Int))]) (fun i aD=>Chg (ins []) aJ aD∧(i≤p.ids.length)∧(Bl (prev p.ids i) (p.ids.drop i) (p.blocks.drop i)=Bl none p.ids p.blocks)) (fun i=>p.ids.length - i) AA ⟨AA,AA,trivial⟩ ⟨Chg.refl _ _,(by simp [prev]),(by simp [prev])⟩ ?_
 rintro i bR aD ⟨J,bv,bw⟩ W
 have ao:Mv [O] [O] aJ aD:=Mv.inl J all_nil (all_cons (.inl AD) all_nil)
 replace ⟨h1,h2,E,C⟩:=(sp ao J).g4 h1 h2 E C
 refine .s<|.s<|.g<|.r 2<|.lb E<|.r 1<|.bp ((i:Int)< (p.ids.length:Int)) (fun aM=>?_) (fun aM=>.d<|.cf<|.x 0 rfl<|.s<|.g<|.r 1<|.d<|.rt Tryz.func65 Tryz.results65 (.bool true) ⟨(congrArg Value.bool (by grind [Bl,Au,prev,AY])),C⟩)
 refine .d<|.ct<|.sk<|.s<|.b 1<|.s<|.gd nil 38 fun bS aq=>?_
 replace ⟨h1,h2,E,C,J⟩:=(se [O] aq).g5 h1 h2 E C J
 refine .r [0]<|.lb 1 E id<|.r [2] ?_
 have aN:i< p.ids.length:=AB
 refine .ix 3 i 1 h1 aN ?_
 obtain ⟨al,ae⟩:∃ y,p.ids[i]? = some y:=⟨_,AP AB⟩
 have bz:=AX ae; have bi:=AQ ae
 obtain ⟨_,rfl,ar⟩:=h1.elem i al ae
 refine .lh 4 0 ar id<|GA.Bz (i:=5) AA (fun bn bA=>CO al 1 6 (w:=bn) (F:=all)) ?_
 cases au:(inR al 1 6)
 ·have bB:=Ex au
  refine .r [6,7,8,9,10,11,12,13,14,15,16,17,18,19,20,21,22,23,24,25,26,27,28,29,30,31,32,33,34,35,36,37]<|.d fun bT av=>?_
  replace ⟨h1,h2,E,C,J⟩:=(se [O] av).g5 h1 h2 E C J
  exact .r 5<|.d<|.ct<|.s<|.g<|.r 1<|.d<|.rt Tryz.func65 Tryz.results65 (.bool false) ⟨(congrArg Value.bool (by (have hdd:=List.drop_eq_getElem_cons (l:=p.blocks) (i:=i) AB; grind [Bl,Au,prev,AY]))),C⟩
 have bC:=CN au
 refine .r [6,7,8]<|GA.EE (i:=9) ((i:Int) > 0) AA (fun aO=>?_) (fun aO=>?_)
 ·refine .r [10,11]<|.lb 12 E id<|.r [13]<|GA.int (i:=14) ((i:Int) - 1) AA AB ?_
  have aw:i - 1< p.ids.length:=AB
  refine GA.idx (i:=15) (i - 1) (len:=p.ids.length) (z:=(i:Int) - 1) (sz:=1) AA AB aw (h1.addr (Nat.zero_lt_of_lt aw)) ?_
  obtain ⟨aP,af⟩:∃ y,p.ids[i - 1]? = some y:=⟨_,AP AB⟩
  have bD:=AX af; have bj:=AQ af
  obtain ⟨_,rfl,aQ⟩:=h1.elem (i - 1) aP af
  refine .lh 16 0 aQ id<|.r [17]<|.lb 18 E id<|.r [19] ?_
  have aR:i< p.ids.length:=AB
  refine .ix 20 i 1 h1 aR<|.lh 21 0 ar id<|GA.EE (i:=22) (aP≥al) AA (fun aS=>?_) (fun aS=>?_)
  ·refine .r [23,24,25,26,27,28,29,30,31,32,33,34,35,36,37]<|.d fun bU ax=>?_
   replace ⟨h2,E,C,J⟩:=(se [O] ax).g4 h2 E C J
   exact .r 5<|.d<|.ct<|.s<|.g<|.r 1<|.d<|.rt Tryz.func65 Tryz.results65 (.bool false) ⟨(congrArg Value.bool (by (have hdd:=List.drop_eq_getElem_cons (l:=p.blocks) (i:=i) AB; grind [Bl,Au,prev,AY]))),C⟩
  refine .r [23,24,25,26]<|.lb 27 E id<|.r [28] ?_
  have aT:i< p.blocks.length:=AB
  refine .ix 29 i 1 h2 aT ?_
  obtain ⟨ag,aa⟩:∃ y,p.blocks[i]? = some y:=⟨_,AP AB⟩
  have bE:=AX aa; have bk:=AQ aa
  obtain ⟨_,⟨bV,bW,bX,rfl,aU⟩,aV⟩:=h2.elem i ag aa
  have aW:=aU.len
  subst aW
  have bF:=aU.max
  refine .lh 30 0 aV id<|.r [31]<|GA.eqI (i:=32) (a:=(ag.length:Int)) (b:=0) AA (fun aX=>?_) (fun aX=>?_)
  ·refine .r [33,34,35,36,37]<|.d fun bY ay=>?_
   replace ⟨h2,E,C,J⟩:=(se [O] ay).g4 h2 E C J
   exact .r 5<|.d<|.ct<|.s<|.g<|.r 1<|.d<|.rt Tryz.func65 Tryz.results65 (.bool false) ⟨(congrArg Value.bool (by grind [Bl,Au,prev,AY])),C⟩
  refine .r [33,34,35]<|.lb 36 E id<|.r [37]<|.d fun bo az=>?_
  replace ⟨h2,E,C,J⟩:=(se [O] az).g4 h2 E C J
  have aY:i< p.blocks.length:=AB
  refine .ix i 1 h2 aY ?_
  obtain ⟨_,⟨bZ,b0,b6,rfl,aZ⟩,ba⟩:=h2.elem i ag aa
  have bc:=aZ.len
  subst bc
  refine .lh 0 ba<|.cl (Ez ag aZ.ta (w:=bo) (F:=all)) ?_
  rintro b7 b8 ⟨rfl,aA⟩
  replace ⟨h2,E,C,J⟩:=(se [O] aA).g4 h2 E C J
  cases bG:(BE ag)
  ·exact .r 2<|.d<|.ct<|.s<|.g<|.r 1<|.d<|.rt Tryz.func65 Tryz.results65 (.bool false) ⟨(congrArg Value.bool (by grind [Bl,Au,prev,AY])),C⟩
  exact .r 2<|.d<|.cf<|.sk<|.ib 1<|.g<|.r 1<|.it ((i:Int)+1)<|.r 1<|.d<|W (i+1) _ _ ⟨AA,AA,trivial⟩ ⟨J,AB,(by grind [Bl,prev])⟩ AB
 refine .r [10,11,12,13,14,15,16,17,18,19,20,21,22,23,24,25,26]<|.lb 27 E id<|.r [28] ?_
 have bd:i< p.blocks.length:=AB
 refine .ix 29 i 1 h2 bd ?_
 obtain ⟨ah,ab⟩:∃ y,p.blocks[i]? = some y:=⟨_,AP AB⟩
 have bH:=AX ab; have bm:=AQ ab
 obtain ⟨_,⟨bI,bJ,bK,rfl,aB⟩,bg⟩:=h2.elem i ah ab
 have aE:=aB.len
 subst aE
 have bq:=aB.max
 refine .lh 30 0 bg id<|.r [31]<|GA.eqI (i:=32) (a:=(ah.length:Int)) (b:=0) AA (fun aF=>?_) (fun aF=>?_)
 ·refine .r [33,34,35,36,37]<|.d fun bL ai=>?_
  replace ⟨h2,E,C,J⟩:=(se [O] ai).g4 h2 E C J
  exact .r 5<|.d<|.ct<|.s<|.g<|.r 1<|.d<|.rt Tryz.func65 Tryz.results65 (.bool false) ⟨(congrArg Value.bool (by grind [Bl,Au,prev,AY])),C⟩
 refine .r [33,34,35]<|.lb 36 E id<|.r [37]<|.d fun bh aj=>?_
 replace ⟨h2,C,J⟩:=(se [O] aj).g3 h2 C J
 have aG:i< p.blocks.length:=AB
 refine .ix i 1 h2 aG ?_
 obtain ⟨_,⟨bM,bN,bO,rfl,aC⟩,aH⟩:=h2.elem i ah ab
 have aI:=aC.len
 subst aI
 refine .lh 0 aH<|.cl (Ez ah aC.ta (w:=bh) (F:=all)) ?_
 rintro bP bQ ⟨rfl,ak⟩
 replace ⟨C,J⟩:=(se [] ak).g2 C J
 cases br:(BE ah)
 ·exact .r 2<|.d<|.ct<|.s<|.g<|.r 1<|.d<|.rt Tryz.func65 Tryz.results65 (.bool false) ⟨(congrArg Value.bool (by grind [Bl,Au,prev,AY])),C⟩
 exact .r 2<|.d<|.cf<|.sk<|.ib 1<|.g<|.r 1<|.it ((i:Int)+1)<|.r 1<|.d<|W (i+1) _ _ ⟨AA,AA,trivial⟩ ⟨J,AB,(by grind [Bl,prev])⟩ AB
theorem C7 (p:Prt) {w:World} {F:Nat→Prop} {a1:Option Addr} {n1 c1:Nat} (h1:RepS w F a1 n1 c1 p.ids) {a2:Option Addr} {n2 c2:Nat} (h2:RepS w F a2 n2 c2 p.blocks)  : Calls Tryz.prog 70 [.agg #[.slice a1 n1 c1,.slice a2 n2 c2]].toArray w (As fun rv w'=>rv=.bool (Au p)∧Ext w w'):=by
 refine goT Tryz.func70 ?_
 obtain ⟨rfl,bd,h1⟩:=h1.tp
 obtain ⟨rfl,bg,h2⟩:=h2.tp
 refine .s<|.g<|.np 42 [.slice a1 p.ids.length c1,.slice a2 p.blocks.length c2] fun ab az ak ac C aA=>?_
 replace ⟨h1,h2⟩:=(sn [] ac ak).g2 h1 h2
 have E:=ac
 refine .r 1<|.d<|.s<|.s<|.g<|.r 1<|.lb C<|.r 2<|.lb C<|.r 1<|.ne (p.ids.length:Int) (p.blocks.length:Int) (fun aB=>.d<|.ct<|.s<|.g<|.r 1<|.d<|.rt Tryz.func70 Tryz.results70 (.bool false) ⟨(congrArg Value.bool (by grind [Bl,Au,prev,AY])),E⟩) fun aB=>.d<|.cf<|.sk<|.s<|.s<|.g<|.r 1<|.lb C<|.r 2<|.d<|.b 0<|T.loop (X:=Nat) 0 (fun k=>[(1,.pointer (some ⟨ab,0,none⟩)),(13,.slice a1 p.ids.length c1),(14,vI (p.ids.length:Int)),(15,vI (k:Int))]) (fun k ai=>Chg (ins []) az ai∧(k≤p.ids.length)∧(Bl (prev p.ids k) (p.ids.drop k) (p.blocks.drop k)=Bl none p.ids p.blocks)) (fun k=>p.ids.length - k) AA ⟨AA,AA,AA,AA,trivial⟩ ⟨Chg.refl _ _,(by simp [prev]),(by simp [prev])⟩ ?_
 rintro k bA ai ⟨J,bh,bi⟩ O
 have al:Mv [ab] [ab] az ai:=Mv.inl J all_nil (all_cons (.inl AD) all_nil)
 replace ⟨h1,h2,C,E⟩:=(sp al J).g4 h1 h2 C E
 refine .s<|.g<|.bp ((k:Int)< (p.ids.length:Int)) (fun aC=>?_) (fun aC=>.d<|.s<|.cf<|.x 0 rfl<|.s<|.g<|.r 1<|.d<|.rt Tryz.func70 Tryz.results70 (.bool true) ⟨(congrArg Value.bool (by grind [Bl,Au,prev,AY])),E⟩)
 refine .d<|.s<|.ct<|.sk<|.s<|.b 1<|.s<|.g<|.r 1 ?_
 have aD:k< p.ids.length:=AB
 refine .ix k 1 h1 aD ?_
 obtain ⟨aj,ae⟩:∃ y,p.ids[k]? = some y:=⟨_,AP AB⟩
 have bj:=AX ae; have aX:=AQ ae
 obtain ⟨_,rfl,aE⟩:=h1.elem k aj ae
 refine .lh 0 aE<|.r 2<|.d<|.s<|.g<|.r 1<|.cl (CM aj 1 6 (w:=ai) (F:=all)) ?_
 rintro bB aF ⟨rfl,am⟩
 replace ⟨h1,h2,C,E,J⟩:=(se [ab] am).g5 h1 h2 C E J
 cases ao:(inR aj 1 6)
 ·have bk:=Ex ao
  exact .r 33<|.d<|.ct<|.s<|.g<|.r 1<|.d<|.rt Tryz.func70 Tryz.results70 (.bool false) ⟨(congrArg Value.bool (by (have hdd:=List.drop_eq_getElem_cons (l:=p.blocks) (i:=k) AB; grind [Bl,Au,prev,AY]))),E⟩
 have bm:=CN ao
 refine .r 3<|.bp ((k:Int) > 0) (fun aG=>?_) (fun aG=>?_)
 ·refine .r 2<|.lb C<|.r 1<|.it ((k:Int) - 1) ?_
  have aq:k - 1< p.ids.length:=AB
  refine RG.idx (k - 1) (len:=p.ids.length) (i:=(k:Int) - 1) (sz:=1) AA AB aq (h1.addr (Nat.zero_lt_of_lt aq)) ?_
  obtain ⟨aH,af⟩:∃ y,p.ids[k - 1]? = some y:=⟨_,AP AB⟩
  have bn:=AX af; have aY:=AQ af
  obtain ⟨_,rfl,aI⟩:=h1.elem (k - 1) aH af
  refine .lh 0 aI<|.r 1<|.bp (aH≥aj) (fun aJ=>.r 20<|.d<|.ct<|.s<|.g<|.r 1<|.d<|.rt Tryz.func70 Tryz.results70 (.bool false) ⟨(congrArg Value.bool (by (have hdd:=List.drop_eq_getElem_cons (l:=p.blocks) (i:=k) AB; grind [Bl,Au,prev,AY]))),E⟩) fun aJ=>.r 4<|.lb C<|.r 1 ?_
  have aK:k< p.blocks.length:=AB
  refine .ix k 1 h2 aK ?_
  obtain ⟨ag,W⟩:∃ y,p.blocks[k]? = some y:=⟨_,AP AB⟩
  have bo:=AX W; have aZ:=AQ W
  obtain ⟨_,⟨bC,bD,bE,rfl,av⟩,aL⟩:=h2.elem k ag W
  have aM:=av.len
  subst aM
  have bq:=av.max
  refine .lh 0 aL<|.cl (DK ag av.ta (w:=aF) (F:=all)) ?_
  rintro bF bG ⟨rfl,ar⟩
  replace ⟨h2,C,E,J⟩:=(se [ab] ar).g4 h2 C E J
  cases br:(BE ag)
  ·exact .r 11<|.d<|.ct<|.s<|.g<|.r 1<|.d<|.rt Tryz.func70 Tryz.results70 (.bool false) ⟨(congrArg Value.bool (by grind [Bl,Au,prev,AY])),E⟩
  refine .r 4<|.lb C<|.r 1 ?_
  have aN:k< p.blocks.length:=AB
  refine .ix k 1 h2 aN ?_
  obtain ⟨_,⟨bH,bI,bJ,rfl,bc⟩,aO⟩:=h2.elem k ag W
  have aP:=bc.len
  subst aP
  exact .lh 0 aO<|.r 1<|.eq (ag.length:Int) 0 (fun aQ=>.r 1<|.d<|.ct<|.s<|.g<|.r 1<|.d<|.rt Tryz.func70 Tryz.results70 (.bool false) ⟨(congrArg Value.bool (by grind [Bl,Au,prev,AY])),E⟩) fun aQ=>.r 1<|.d<|.cf<|.sk<|.ib 1<|.g<|.it ((k:Int)+1)<|.r 1<|.d<|O (k+1) _ _ ⟨AA,AA,AA,AA,trivial⟩ ⟨J,AB,(by grind [Bl,prev])⟩ AB
 refine .r 13<|.lb C<|.r 1 ?_
 have aR:k< p.blocks.length:=AB
 refine .ix k 1 h2 aR ?_
 obtain ⟨ah,aa⟩:∃ y,p.blocks[k]? = some y:=⟨_,AP AB⟩
 have bt:=AX aa; have ba:=AQ aa
 obtain ⟨_,⟨bK,bL,bM,rfl,aw⟩,aS⟩:=h2.elem k ah aa
 have aT:=aw.len
 subst aT
 have bu:=aw.max
 refine .lh 0 aS<|.cl (DK ah aw.ta (w:=aF) (F:=all)) ?_
 rintro bN bO ⟨rfl,au⟩
 replace ⟨h2,C,E,J⟩:=(se [ab] au).g4 h2 C E J
 cases bv:(BE ah)
 ·exact .r 11<|.d<|.ct<|.s<|.g<|.r 1<|.d<|.rt Tryz.func70 Tryz.results70 (.bool false) ⟨(congrArg Value.bool (by grind [Bl,Au,prev,AY])),E⟩
 refine .r 4<|.lb C<|.r 1 ?_
 have aU:k< p.blocks.length:=AB
 refine .ix k 1 h2 aU ?_
 obtain ⟨_,⟨bP,bw,bz,rfl,aV⟩,aW⟩:=h2.elem k ah aa
 have ax:=aV.len
 subst ax
 exact .lh 0 aW<|.r 1<|.eq (ah.length:Int) 0 (fun ay=>.r 1<|.d<|.ct<|.s<|.g<|.r 1<|.d<|.rt Tryz.func70 Tryz.results70 (.bool false) ⟨(congrArg Value.bool (by grind [Bl,Au,prev,AY])),E⟩) fun ay=>.r 1<|.d<|.cf<|.sk<|.ib 1<|.g<|.it ((k:Int)+1)<|.r 1<|.d<|O (k+1) _ _ ⟨AA,AA,AA,AA,trivial⟩ ⟨J,AB,(by grind [Bl,prev])⟩ AB
theorem J5 (p:Prt) (names:Int) {w:World} {F:Nat→Prop} {a1:Option Addr} {n1 c1:Nat} (h1:RepS w F a1 n1 c1 p.ids) {a2:Option Addr} {n2 c2:Nat} (h2:RepS w F a2 n2 c2 p.blocks)  : Calls Tryz.prog 114 [.agg #[.slice a1 n1 c1,.slice a2 n2 c2],.int .i64 names].toArray w (As fun rv w'=>rv=.bool (Br p names)∧Ext w w'):=by
 refine goT Tryz.func114 ?_
 obtain ⟨rfl,ak,h1⟩:=h1.tp
 obtain ⟨rfl,al,h2⟩:=h2.tp
 refine .s<|.g<|.np 42 [.slice a1 p.ids.length c1,.slice a2 p.blocks.length c2] fun ai aj W J C ac=>?_
 replace ⟨h1,h2⟩:=(sn [] J W).g2 h1 h2
 have E:=J
 refine .r 1<|.d<|.s<|.g<|.ln C<|.cl (FW p h1.ta h2.ta (w:=aj) (F:=all)) ?_
 rintro aq ar ⟨rfl,aa⟩
 replace ⟨h1,C,E⟩:=(se [ai] aa).g3 h1 C E
 cases am:(Au p)
 ·exact .r 19<|.d<|.rt Tryz.func114 Tryz.results114 (.bool false) ⟨(congrArg Value.bool (by grind [Br])),E⟩
 refine .r 2<|.lb C<|.r 1<|.bp ((p.ids.length:Int) > 0) (fun ae=>?_) (fun ae=>.r 14<|.d<|.rt Tryz.func114 Tryz.results114 (.bool false) ⟨(congrArg Value.bool (by grind [Br])),E⟩)
 refine .r 3<|.lb C<|.r 1<|.lb C<|.r 1<|.it ((p.ids.length:Int) - 1) ?_
 have ab:p.ids.length - 1< p.ids.length:=AB
 refine RG.idx (p.ids.length - 1) (len:=p.ids.length) (i:=(p.ids.length:Int) - 1) (sz:=1) AA AB ab (h1.addr (Nat.zero_lt_of_lt ab)) ?_
 obtain ⟨af,O⟩:∃ y,p.ids[p.ids.length - 1]? = some y:=⟨_,AP AB⟩
 have ao:=AX O; have ah:=AQ O
 obtain ⟨_,rfl,ag⟩:=h1.elem (p.ids.length - 1) af O
 exact .lh 0 ag<|.r 4<|.d<|.rt Tryz.func114 Tryz.results114 (.bool (decide (af≤names))) ⟨(congrArg Value.bool (by grind [Br])),E⟩
theorem Dx (s:List Int) (v:Int) {w:World} {F:Nat→Prop} {a1:Option Addr} {n1 c1:Nat} (h1:RepS w F a1 n1 c1 s)  : Calls Tryz.prog 121 [.slice a1 n1 c1,.int .i64 v].toArray w (As fun rv w'=>rv=.int .i64 (Dr v 0 s)∧Ext w w'):=by
 refine goT Tryz.func121 ?_
 obtain ⟨rfl,ai,h1⟩:=h1.tp
 refine .s<|.g<|.r 1<|.d<|.s<|.s<|.g<|.r 3<|.d<|.b 0<|T.loop (X:=Nat) 0 (fun k=>[(0,.slice a1 s.length c1),(1,vI v),(7,vI (s.length:Int)),(8,vI (k:Int))]) (fun k O=>Chg (ins []) w O∧(k≤s.length)∧(Dr v k (s.drop k)=Dr v 0 s)) (fun k=>s.length - k) AA ⟨AA,AA,AA,AA,trivial⟩ ⟨Chg.refl _ _,(by simp),(by simp)⟩ ?_
 rintro k am O ⟨C,aj,ak⟩ E
 have W:Mv [] [] w O:=Mv.inl C all_nil all_nil
 replace h1:=(sp W C).g1 h1
 have aa:Chg nil w O:=Chg.CY (Chg.refl nil w) C all_nil
 refine .s<|.g<|.bp ((k:Int)< (s.length:Int)) (fun ab=>?_) (fun ab=>.d<|.s<|.cf<|.x 0 rfl<|.s<|.g<|.r 1<|.d<|.rt Tryz.func121 Tryz.results121 (vI (-1)) ⟨(congrArg (Value.int .i64) (by grind [Dr,AY])),aa⟩)
 refine .d<|.s<|.ct<|.sk<|.s<|.b 1<|.s<|.g<|.r 2<|.d<|.s<|.g<|.r 3 ?_
 have ac:k< s.length:=AB
 refine .ix k 1 h1 ac ?_
 obtain ⟨ae,J⟩:∃ y,s[k]? = some y:=⟨_,AP AB⟩
 have al:=AX J; have ah:=AQ J
 obtain ⟨_,rfl,af⟩:=h1.elem k ae J
 exact .lh 0 af<|.eq v ae (fun ag=>.d<|.ct<|.s<|.g<|.r 2<|.d<|.rt Tryz.func121 Tryz.results121 (vI (k:Int)) ⟨(congrArg (Value.int .i64) (by grind [Dr,AY])),aa⟩) fun ag=>.d<|.cf<|.sk<|.ib 1<|.g<|.it ((k:Int)+1)<|.r 1<|.d<|E (k+1) _ _ ⟨AA,AA,AA,AA,trivial⟩ ⟨C,AB,(by grind [Dr])⟩ AB
theorem GS (x:List Int) {w:World} {F:Nat→Prop} {a1:Option Addr} {n1 c1:Nat} (h1:RepS w F a1 n1 c1 x) (p0:0< x.length):Calls Tryz.prog 104 [.slice a1 n1 c1].toArray w (As fun rv w'=>rv=.int .i64 (maxOf x)∧Ext w w'):=by
 refine goT Tryz.func104 ?_
 obtain ⟨rfl,ao,h1⟩:=h1.tp
 refine .s<|.g<|.r 1<|.d<|.s<|.s<|.g<|.r 2<|.bp ((x.length:Int)< 1) (fun ae=>.d<|.ct<|.g<|absurd (show False by omega) id) fun ae=>.d<|.cf<|.sk<|.s<|.g<|.r 1 ?_
 have aa:0< x.length:=AB
 refine RG.idx 0 (len:=x.length) (i:=0) (sz:=1) AA AB aa (h1.addr (Nat.zero_lt_of_lt aa)) ?_
 obtain ⟨af,E⟩:∃ y,x[0]? = some y:=⟨_,AP AB⟩
 have aq:=AX E; have al:=AQ E
 obtain ⟨_,rfl,ag⟩:=h1.elem 0 af E
 refine .lh 0 ag<|.r 1<|.d<|.s<|.s<|.g<|.r 1<|.d<|.b 0<|T.loop (X:=Int × Nat) (af,1) (fun (m,i)=>[(0,.slice a1 x.length c1),(3,vI m),(4,vI (i:Int))]) (fun (m,i) W=>Chg (ins []) w W∧(i≤x.length)∧(Km m (x.drop i)=maxOf x)) (fun (m,i)=>x.length - i) AA ⟨AA,AA,AA,trivial⟩ ⟨Chg.refl _ _,AB,(by grind [maxOf])⟩ ?_
 rintro ⟨m,i⟩ aw W ⟨C,ar,au⟩ J
 have ab:Mv [] [] w W:=Mv.inl C all_nil all_nil
 replace h1:=(sp ab C).g1 h1
 have ah:Chg nil w W:=Chg.CY (Chg.refl nil w) C all_nil
 refine .s<|.s<|.g<|.r 3<|.bp ((i:Int)< (x.length:Int)) (fun ai=>?_) (fun ai=>.d<|.cf<|.x 0 rfl<|.s<|.g<|.r 2<|.d<|.rt Tryz.func104 Tryz.results104 (vI m) ⟨(congrArg (Value.int .i64) (by grind [Km,AY])),ah⟩)
 refine .d<|.ct<|.sk<|.s<|.b 1<|.g<|.r 3 ?_
 have aj:i< x.length:=AB
 refine .ix i 1 h1 aj ?_
 obtain ⟨ac,O⟩:∃ y,x[i]? = some y:=⟨_,AP AB⟩
 have av:=AX O; have am:=AQ O
 obtain ⟨_,rfl,ak⟩:=h1.elem i ac O
 exact .lh 0 ak<|.r 2<|.d<|.ib 1<|.g<|.r 1<|.it ((i:Int)+1)<|.r 1<|.d<|J ((if ac > m then ac else m),i+1) _ _ ⟨AA,AA,AA,trivial⟩ ⟨C,AB,(by grind [Km])⟩ (by (simp only []; omega))
theorem C8 (n:List Tag) {w:World} {F:Nat→Prop} {a1:Option Addr} {n1 c1:Nat} (h1:RepS w F a1 n1 c1 n) (p0:n.length≤1000000) (p1:∀ t∈n,t.key.length≤1000000∧t.val.length≤1000000):Calls Tryz.prog 98 [.slice a1 n1 c1].toArray w (As fun rv w'=>rv=.string (bs (text n))∧Ext w w'):=by
 refine goT Tryz.func98 ?_
 obtain ⟨rfl,ax,h1⟩:=h1.tp
 refine .s<|.g<|.r 1<|.d<|.s<|.g<|.r 1<|.d<|.s<|.s<|.g<|.r 1<|.d<|.b 0<|T.loop (X:=Str × Nat) ([],0) (fun (out,i)=>[(0,.slice a1 n.length c1),(3,vT out),(4,vI (i:Int))]) (fun (out,i) ac=>Chg (ins []) w ac∧(i≤n.length)∧(out.length≤3000000 * i)∧(out++EY i (n.drop i)=text n)) (fun (out,i)=>n.length - i) AA ⟨AA,AA,AA,trivial⟩ ⟨Chg.refl _ _,(by simp [text]),(by simp [text]),(by simp [text])⟩ ?_
 rintro ⟨out,i⟩ aD ac ⟨C,ay,az,aA⟩ J
 have ae:Mv [] [] w ac:=Mv.inl C all_nil all_nil
 replace h1:=(sp ae C).g1 h1
 have E:Chg nil w ac:=Chg.CY (Chg.refl nil w) C all_nil
 refine .s<|.s<|.g<|.r 3<|.bp ((i:Int)< (n.length:Int)) (fun al=>?_) (fun al=>.d<|.cf<|.x 0 rfl<|.s<|.g<|.r 2<|.d<|.rt Tryz.func98 Tryz.results98 (vT out) ⟨(congrArg (fun s=>Value.string (bs s)) (by grind [EY,AY])),E⟩)
 refine .d<|.ct<|.sk<|.s<|.b 1<|.s<|.s<|.g<|.r 1<|.bp ((i:Int) > 0) (fun am=>?_) (fun am=>?_)
 ·refine .d<|.ct<|.g<|.r 1<|RG.cat (t:=9) (s:=out) (u:=[44]) AA (by grind)<|.r 1<|.d<|.gd nil 13 fun aE af=>?_
  replace ⟨h1,E,C⟩:=(se [] af).g3 h1 E C
  refine .r [0,1,2] ?_
  have ao:i< n.length:=AB
  refine .ix 3 i 2 h1 ao<|.r [4] ?_
  obtain ⟨O,aa⟩:∃ y,n[i]? = some y:=⟨_,AP AB⟩
  have aB:=AX aa; have av:=AQ aa
  obtain ⟨_,rfl,ag⟩:=h1.elem i O aa
  refine .lh 5 0 ag id<|GA.cat (i:=6) (t:=9) (s:=(out++[44])) (u:=O.key) AA AA (by grind)<|GA.cat (i:=7) (t:=9) (s:=((out++[44])++O.key)) (u:=[61]) AA AA (by grind)<|.r [8,9] ?_
  have aq:i< n.length:=AB
  refine .ix 10 i 2 h1 aq<|.r [11]<|.lh 12 1 ag id<|.d fun aF ah=>?_
  replace ⟨h1,E,C⟩:=(se [] ah).g3 h1 E C
  exact RG.cat (t:=9) (s:=(((out++[44])++O.key)++[61])) (u:=O.val) AA (by grind)<|.r 1<|.d<|.ib 1<|.g<|.r 1<|.it ((i:Int)+1)<|.r 1<|.d<|J (((((out++[44])++O.key)++[61])++O.val),i+1) _ _ ⟨AA,AA,AA,trivial⟩ ⟨C,AB,(by grind),(by grind [EY,HA])⟩ (by (simp only []; omega))
 refine .d<|.cf<|.sk<|.gd nil 13 fun aG ai=>?_
 replace ⟨h1,E,C⟩:=(se [] ai).g3 h1 E C
 refine .r [0,1,2] ?_
 have ar:i< n.length:=AB
 refine .ix 3 i 2 h1 ar<|.r [4] ?_
 obtain ⟨W,ab⟩:∃ y,n[i]? = some y:=⟨_,AP AB⟩
 have aC:=AX ab; have aw:=AQ ab
 obtain ⟨_,rfl,aj⟩:=h1.elem i W ab
 refine .lh 5 0 aj id<|GA.cat (i:=6) (t:=9) (s:=out) (u:=W.key) AA AA (by grind)<|GA.cat (i:=7) (t:=9) (s:=(out++W.key)) (u:=[61]) AA AA (by grind)<|.r [8,9] ?_
 have au:i< n.length:=AB
 refine .ix 10 i 2 h1 au<|.r [11]<|.lh 12 1 aj id<|.d fun aH ak=>?_
 replace ⟨E,C⟩:=(se [] ak).g2 E C
 exact RG.cat (t:=9) (s:=((out++W.key)++[61])) (u:=W.val) AA (by grind)<|.r 1<|.d<|.ib 1<|.g<|.r 1<|.it ((i:Int)+1)<|.r 1<|.d<|J ((((out++W.key)++[61])++W.val),i+1) _ _ ⟨AA,AA,AA,trivial⟩ ⟨C,AB,(by grind),(by grind [EY,HA])⟩ (by (simp only []; omega))
theorem J6 (a:Tag) (b:Tag) {w:World} {F:Nat→Prop}   : Calls Tryz.prog 161 [.agg #[.string (bs a.key),.string (bs a.val)],.agg #[.string (bs b.key),.string (bs b.val)]].toArray w (As fun rv w'=>rv=.bool (DF a b)∧Ext w w'):=by
 refine goT Tryz.func161<|.s<|.g<|.np 120 [vT a.key,vT a.val] fun ah ai aa O C ab=>?_
 have E:=O
 refine .np 120 [vT b.key,vT b.val] fun aj ak ac W J ae=>?_
 replace ⟨C,E⟩:=(se [] W).g2 C E
 refine .r 1<|.d<|.s<|.g<|.r 1<|.lb C<|.r 1<|.lb J<|RG.eqv (v:=.bool ((Bq a.key b.key))) AA (UJ a.key b.key) ?_
 cases af:(Bq a.key b.key)
 ·refine .r 2<|.lb C<|.r 1<|.lb J<|RG.eqv (v:=.bool ((a.key==b.key))) AA (SX a.key b.key) ?_
  cases ag:(a.key==b.key)
  ·exact .r 9<|.d<|.rt Tryz.func161 Tryz.results161 (.bool false) ⟨(congrArg Value.bool (by grind [DF])),E⟩
  exact .r 2<|.lb C<|.r 1<|.lb J<|RG.eqv (v:=.bool ((Bq a.val b.val))) AA (UJ a.val b.val)<|.r 3<|.d<|.rt Tryz.func161 Tryz.results161 (.bool (Bq a.val b.val)) ⟨(congrArg Value.bool (by grind [DF])),E⟩
 exact .r 15<|.d<|.rt Tryz.func161 Tryz.results161 (.bool true) ⟨(congrArg Value.bool (by grind [DF])),E⟩
end Go.Proofs.YtganlmloonielaaGreat
