/- Rules for memory that is shared with nothing, second part: rows of cells grow, results are handed on. No conditions. -/
import Derived.Test.YtcginoabkicdiaaGreatDzzDp
set_option linter.unusedVariables false
set_option linter.unusedSimpArgs false
namespace Go.Proofs.YtcginoabkicdiaaGreat
class Fl (α:Type) [Rep α] [Dp α]:Prop where
 dp:∀ {w w':World} {D F:Nat→Prop} {x:α} {cs},Rep.rep w F x cs→Dp.dp w' D x cs
instance:Fl Int:=⟨fun h=>h⟩
instance:Fl UInt8:=⟨fun h=>h⟩
instance:Fl Row:=⟨fun h=>h⟩
instance:Fl Tag:=⟨fun h=>h⟩
instance:Fl Smp:=⟨fun h=>h⟩
theorem Own.dps {α:Type}[Rep α] [Dp α] [Fl α] {w:World}{r t n c:Nat}{F D:Nat→Prop}{xs:List α}(h:Own w r t F n c xs) (hD:D r):DpS w D (some ⟨r,0,none⟩) n c xs :=
 ⟨h.len,h.le,h.cap,fun _=>rfl,fun _=>hD,fun _=>let ⟨cur,g,_⟩:=h.row; ⟨cur,t,g⟩,fun _ _=>False,fun _ _ _ h=>h.elim,fun _ _ h=>h.elim,fun i x hx=>by
  obtain ⟨cs,g1,g2⟩:=h.elem i x hx
  exact ⟨cs,Fl.dp g1,by simpa [blk,off] using g2⟩⟩
section
variable {α:Type} [Rep α] [Dp α] {k:Nat} {w:World} {D D':Nat→Prop} {xs:List α} {hs:List (Hd k)}
theorem ElS.nil:ElS w D ([]:List α) ([]:List (Hd k)):=⟨rfl,fun _ _=>False,fun _ _ _ h=>h.elim,fun _ _ h=>h.elim,fun i x h hx=>by simp at hx⟩
theorem ElS.app {y:α}{hd:Hd k}(h:ElS w D xs hs) (hy:Dp.dp w D' y hd.cs) (hd_:∀ b,D b→¬ D' b):ElS w (fun b=>D b∨D' b) (xs++[y]) (hs++[hd]):=by
 obtain ⟨hl,E,h1,h2,h3⟩:=h
 refine ⟨by simp [hl],fun i b=>(i< xs.length∧E i b)∨(i=xs.length∧D' b),?_,?_,fun i x h hx hh=>?_⟩
 ·rintro i j b (⟨p,q⟩ | ⟨p,q⟩) (⟨p',q'⟩ | ⟨p',q'⟩)
  ·exact h1 i j b q q'
  ·exact absurd q' (hd_ b (h2 i b q))
  ·exact absurd q (hd_ b (h2 j b q'))
  ·omega
 ·rintro i b (⟨p,q⟩ | ⟨p,q⟩)
  ·exact .inl (h2 i b q)
  ·exact .inr q
 ·rw [List.getElem?_append] at hx hh
  by_cases hi:i< xs.length
  ·rw [if_pos hi] at hx
   rw [if_pos AB] at hh
   exact Dp.fr (h3 i x h hx hh) fun b _ hb=>⟨.inl ⟨hi,hb⟩,rfl⟩
  ·rw [if_neg hi] at hx
   rw [if_neg AB] at hh
   have h0:i - xs.length=0:=by
    rcases hq:i - xs.length with _ | q
    ·rfl
    ·rw [hq] at hx; simp at hx
   rw [h0] at hx
   rw [show i - hs.length=0 by omega] at hh
   simp at hx hh
   subst hx; subst hh
   exact Dp.fr hy fun b _ hb=>⟨.inr ⟨by omega,hb⟩,rfl⟩
theorem ElS.set {y:α}{hd:Hd k}{d:Nat}(h:ElS w D xs hs) (hy:Dp.dp w D' y hd.cs) (hd_:∀ b,D b→¬ D' b):ElS w (fun b=>D b∨D' b) (xs.set d y) (hs.set d hd):=by
 obtain ⟨hl,E,h1,h2,h3⟩:=h
 refine ⟨by simp [hl],fun i b=>(i≠d∧E i b)∨(i=d∧D' b),?_,?_,fun i x h hx hh=>?_⟩
 ·rintro i j b (⟨p,q⟩ | ⟨p,q⟩) (⟨p',q'⟩ | ⟨p',q'⟩)
  ·exact h1 i j b q q'
  ·exact absurd q' (hd_ b (h2 i b q))
  ·exact absurd q (hd_ b (h2 j b q'))
  ·omega
 ·rintro i b (⟨p,q⟩ | ⟨p,q⟩)
  ·exact .inl (h2 i b q)
  ·exact .inr q
 ·rw [List.getElem?_set] at hx hh
  by_cases hi:d=i
  ·subst hi
   rw [if_pos rfl] at hx hh
   split at hx
   ·split at hh
    ·cases hx; cases hh
     exact Dp.fr hy fun b _ hb=>⟨.inr ⟨rfl,hb⟩,rfl⟩
    ·cases hh
   ·cases hx
  ·rw [if_neg hi] at hx hh
   exact Dp.fr (h3 i x h hx hh) fun b _ hb=>⟨.inl ⟨fun e=>hi e.symm,hb⟩,rfl⟩
theorem ElS.WC {r t c:Nat}{F:Nat→Prop}(h:ElS w D xs hs) (ho:Own w r t F xs.length c hs) (hr:¬ D r) (hk:Rep.sz α=k+1):DpS w (fun b=>D b∨b=r) (some ⟨r,0,none⟩) xs.length c xs:=by
 obtain ⟨hl,E,h1,h2,h3⟩:=h
 refine ⟨rfl,ho.le,ho.cap,fun _=>rfl,fun _=>.inr rfl,fun _=>let ⟨cur,g,_⟩:=ho.row; ⟨cur,t,g⟩,E,h1,fun i b hb=>⟨.inl (h2 i b hb),fun e=>?_⟩,fun i x hx=>?_⟩
 ·have:b=r:=e
  subst this
  exact hr (h2 i b hb)
 ·have hi:i< hs.length:=by rw [hl]; exact (List.getElem?_eq_some_iff.1 hx).1
  obtain ⟨cs,g1,g2⟩:=ho.elem i hs[i] (AU hi)
  have e:cs=hs[i].cs:=g1
  subst e
  refine ⟨_,h3 i x hs[i] hx (AU hi),?_⟩
  have g3:Has w ⟨r,i * (k+1),none⟩ hs[i].cs:=g2
  rw [hk]
  simpa [blk,off] using g3
end
section
variable {P:Program} {S:Nat→Prop} {n m:Nat} {K L:Env→World→Prop} {ops:Array Oper} {j:Nat} {l:List Nat} {e:Env}
variable {κ:Cx} {ρ:Option Rg} {Φ Φ':List Ob} {Ψ Ψ':List Fz} {Θ:List (Nat × Nat × List Value)} {w w':World} {α:Type} [Rep α] {xs ys:List α} {y:α} {o:Ob} {g i r k:Nat} {hs:List (Hd k)} {hd:Hd k}
def seI (Ψ:List Fz) (p:Nat):List It:=match Ψ[p]? with | some ⟨_,_,.sep its⟩=>its | _=>[]
def isS (Ψ:List Fz) (p g:Nat):Bool:=match Ψ[p]? with | some ⟨g',_,.sep _⟩=>Nat.beq g' g | _=>false
theorem St.sp (Z:St κ ρ Φ Ψ Θ w) (p g:Nat) (h:isS Ψ p g=true):BK w (nin (κ.g g) (bl Φ)) (seI Ψ p):=by
 unfold isS at h
 split at h
 ·rename_i g' l its hp
  have h1:BK w (nin (κ.d g' l) (bl Φ)) its:=Z.fz _ (AV hp)
  have e:=Nat.eq_of_beq_eq_true h
  subst e
  unfold seI
  rw [hp]
  exact CU h1 fun b _ hb=>⟨Cx.dg hb.1,hb.2⟩
 ·cases h
theorem St.s0 (Z:St κ ρ Φ Ψ Θ w) (g:Nat):St κ ρ Φ (⟨g,none,.sep []⟩ :: Ψ) Θ w:=Z.add (Ψ':=[_]) fun f hf=>by cases List.mem_singleton.1 hf; exact trivial
theorem St.sA (Z:St κ ρ Φ Ψ Θ w) (g:Nat){its:List It}(h:BK w (nin (κ.g g) (bl Φ)) its):St κ ρ Φ (⟨g,none,.sep its⟩ :: Ψ) Θ w:=Z.add (Ψ':=[_]) fun f hf=>by cases List.mem_singleton.1 hf; exact h
theorem FQ {X:Nat→Prop}{its l:List It}{js:List Nat}{n:Nat}(h:BK w X its) (e:(mvs its js).take n=l):BK w X (l++(mvs its js).drop n):=by
 have:=LM js h
 rw [← List.take_append_drop n (mvs its js),e] at this
 exact this
theorem St.eN (Z:St κ ρ Φ Ψ Θ w) (α:Type) [Rep α] [Dp α] (k p g:Nat) (h:isS Ψ p g=true:=by kernel_rfl):St κ ρ Φ (⟨g,none,.sep (.e ([]:List α) ([]:List (Hd k))::seI Ψ p)⟩ :: Ψ) Θ w :=
 Z.sA g ⟨fun _=>False,_,ElS.nil,Z.sp p g h,fun _ h=>h.elim,fun _ h=>h⟩
theorem St.eA [Shp α] [Dp α] [Lf α] (Z:St κ ρ Φ Ψ Θ w) (p g:Nat) (js:List Nat) (xs:List α) (hs:List (Hd k)) (hd:Hd k) (y:α) (q:List (Option Addr × Nat)) (h:isS Ψ p g=true:=by kernel_rfl)
 (hm:(mvs (seI Ψ p) js).take ((Lf.its y q).length+1)=Lf.its y q++[.e xs hs]:=by kernel_rfl) (hc:hd.cs=Shp.cells y q:=by kernel_rfl) (hl:q.length=Shp.k α:=by kernel_rfl) :
 St κ ρ Φ (⟨g,none,.sep (.e (xs++[y]) (hs++[hd])::(mvs (seI Ψ p) js).drop ((Lf.its y q).length+1))⟩ :: Ψ) Θ w:=by
 refine Z.sA g ?_
 obtain ⟨D,D',g1,⟨A,B,e1,e2,e3,e4⟩,g3,g4⟩:=Ll (l:=Lf.its y q) (r:=.e xs hs::(mvs (seI Ψ p) js).drop ((Lf.its y q).length+1)) (by have:=FQ (Z.sp p g h) hm; rwa [List.append_assoc] at this)
 have hy:Dp.dp w D y hd.cs:=by rw [hc]; exact Lf.mk_ q hl g1
 exact ⟨_,B,ElS.app e1 hy (fun b hb hD=>(g3 b hD).2 (e3 b hb).1),e2,fun b hb=>hb.elim (fun hA=>⟨g4 b (e3 b hA).1,(e3 b hA).2⟩) (fun hD=>⟨(g3 b hD).1,fun hB=>(g3 b hD).2 (e4 b hB)⟩),fun b hB=>g4 b (e4 b hB)⟩
theorem St.eS [Shp α] [Dp α] [Lf α] (Z:St κ ρ Φ Ψ Θ w) (p g:Nat) (js:List Nat) (d:Nat) (xs:List α) (hs:List (Hd k)) (hd:Hd k) (y:α) (q:List (Option Addr × Nat)) (h:isS Ψ p g=true:=by kernel_rfl)
 (hm:(mvs (seI Ψ p) js).take ((Lf.its y q).length+1)=Lf.its y q++[.e xs hs]:=by kernel_rfl) (hc:hd.cs=Shp.cells y q:=by kernel_rfl) (hl:q.length=Shp.k α:=by kernel_rfl) :
 St κ ρ Φ (⟨g,none,.sep (.e (xs.set d y) (hs.set d hd)::(mvs (seI Ψ p) js).drop ((Lf.its y q).length+1))⟩ :: Ψ) Θ w:=by
 refine Z.sA g ?_
 obtain ⟨D,D',g1,⟨A,B,e1,e2,e3,e4⟩,g3,g4⟩:=Ll (l:=Lf.its y q) (r:=.e xs hs::(mvs (seI Ψ p) js).drop ((Lf.its y q).length+1)) (by have:=FQ (Z.sp p g h) hm; rwa [List.append_assoc] at this)
 have hy:Dp.dp w D y hd.cs:=by rw [hc]; exact Lf.mk_ q hl g1
 exact ⟨_,B,ElS.set e1 hy (fun b hb hD=>(g3 b hD).2 (e3 b hb).1),e2,fun b hb=>hb.elim (fun hA=>⟨g4 b (e3 b hA).1,(e3 b hA).2⟩) (fun hD=>⟨(g3 b hD).1,fun hB=>(g3 b hD).2 (e4 b hB)⟩),fun b hB=>g4 b (e4 b hB)⟩
omit [Rep α] in
theorem St.rw (Z:St κ ρ Φ Ψ Θ w) (i:Nat){β:Type}[Rep β] (xs:List α) (hs:List β) (h:Φ[i]? = some (.raw (owG Φ i) (obB Φ i) (owT Φ i) (owC Φ i) xs hs)) :
 Own w (obB Φ i) (owT Φ i) (nin (κ.g (owG Φ i)) (bl Φ)) xs.length (owC Φ i) hs∧κ.w.heap.size≤obB Φ i :=
 Z.ob _ (AV h)
theorem St.eL [Dp α] (Z:St κ ρ Φ Ψ Θ w) (i p g:Nat) (js:List Nat) (xs:List α) (hs:List (Hd k)) (hi:Φ[i]? = some (.raw g (obB Φ i) (owT Φ i) (owC Φ i) xs hs):=by kernel_rfl) (h:isS Ψ p g=true:=by kernel_rfl)
 (hm:(mvs (seI Ψ p) js).take 1=[.e xs hs]:=by kernel_rfl) (hk:Nat.beq (Rep.sz α) (k+1)=true:=by kernel_rfl) :
 St κ ρ (Φ.eraseIdx i) (⟨g,none,.rep (some ⟨obB Φ i,0,none⟩) (owC Φ i) xs⟩ :: ⟨g,none,.sep (.s (some ⟨obB Φ i,0,none⟩) (owC Φ i) xs::(mvs (seI Ψ p) js).drop 1)⟩ :: Ψ) Θ w:=by
 obtain ⟨D,D',e1,e2,e3,e4⟩:=FQ (Z.sp p g h) hm
 have ho:Own w (obB Φ i) (owT Φ i) (nin (κ.g g) (bl Φ)) xs.length (owC Φ i) hs∧κ.w.heap.size≤obB Φ i:=Z.ob _ (AV hi)
 have hin:obB Φ i∈bl Φ:=Ck hi
 have hn:obB Φ i∉bl (Φ.eraseIdx i):=by rw [NX]; exact Jn Z.nd (D2 hi)
 have hsub:∀ b,b∈bl (Φ.eraseIdx i)→b∈bl Φ:=fun b hb=>((List.eraseIdx_sublist _ _).map Ob.b).subset hb
 have hd:DpS w (fun b=>D b∨b=obB Φ i) (some ⟨obB Φ i,0,none⟩) xs.length (owC Φ i) xs:=ElS.WC e1 ho.1 (fun hD=>(e3 _ hD).1.2 hin) (Nat.eq_of_beq_eq_true hk)
 have hX:∀ b,(D b∨b=obB Φ i)→nin (κ.g g) (bl (Φ.eraseIdx i)) b:=fun b hb=>hb.elim (fun hD=>⟨(e3 b hD).1.1,fun hm=>(e3 b hD).1.2 (hsub b hm)⟩) (fun e=>by subst e; exact ⟨Cx.nw ho.2,hn⟩)
 have Z1:=(Z.dr i).sA g (its:=.s (some ⟨obB Φ i,0,none⟩) (owC Φ i) xs::(mvs (seI Ψ p) js).drop 1) ⟨_,D',hd,e2,fun b hb=>⟨hX b hb,fun hD'=>hb.elim (fun hD=>(e3 b hD).2 hD') (fun e=>by subst e; exact (e4 _ hD').2 hin)⟩,fun b hb=>⟨(e4 b hb).1,fun hm=>(e4 b hb).2 (hsub b hm)⟩⟩
 exact Z1.add (Ψ':=[_]) fun f hf=>by cases List.mem_singleton.1 hf; exact hd.rep.Bj fun b _ hb=>hX b hb
theorem St.ra [Dp α] (Z:St κ ρ Φ Ψ Θ w) (i p:Nat) (js:List Nat) (xs:List α) (hs:List (Hd k)) (hi:Φ[i]? = some (.raw (owG Φ i) (obB Φ i) (owT Φ i) (owC Φ i) xs hs):=by kernel_rfl) (h:isS Ψ p (owG Φ i)=true:=by kernel_rfl)
 (hm:(mvs (seI Ψ p) js).take 1=[.e xs hs]:=by kernel_rfl) (hk:Nat.beq (Rep.sz α) (k+1)=true:=by kernel_rfl):RepS w all (some ⟨obB Φ i,0,none⟩) xs.length (owC Φ i) xs:=by
 obtain ⟨D,D',e1,_,e3,_⟩:=FQ (Z.sp p (owG Φ i) h) hm
 have ho:Own w (obB Φ i) (owT Φ i) (nin (κ.g (owG Φ i)) (bl Φ)) xs.length (owC Φ i) hs∧κ.w.heap.size≤obB Φ i:=Z.ob _ (AV hi)
 have hd:DpS w (fun b=>D b∨b=obB Φ i) (some ⟨obB Φ i,0,none⟩) xs.length (owC Φ i) xs:=ElS.WC e1 ho.1 (fun hD=>(e3 _ hD).1.2 (Ck hi)) (Nat.eq_of_beq_eq_true hk)
 exact hd.rep.Bj fun _ _ _=>trivial
theorem St.fL [Dp α] [Fl α] (Z:St κ ρ Φ Ψ Θ w) (i p g:Nat) (xs:List α) (hi:Φ[i]? = some (.own g (obB Φ i) (owT Φ i) (owC Φ i) xs):=by kernel_rfl) (h:isS Ψ p g=true:=by kernel_rfl) :
 St κ ρ (Φ.eraseIdx i) (⟨g,none,.rep (some ⟨obB Φ i,0,none⟩) (owC Φ i) xs⟩ :: ⟨g,none,.sep (.s (some ⟨obB Φ i,0,none⟩) (owC Φ i) xs::seI Ψ p)⟩ :: Ψ) Θ w:=by
 have e2:=Z.sp p g h
 have ho:Own w (obB Φ i) (owT Φ i) (nin (κ.g g) (bl Φ)) xs.length (owC Φ i) xs∧κ.w.heap.size≤obB Φ i:=Z.ob _ (AV hi)
 have hin:obB Φ i∈bl Φ:=Ck hi
 have hn:obB Φ i∉bl (Φ.eraseIdx i):=by rw [NX]; exact Jn Z.nd (D2 hi)
 have hsub:∀ b,b∈bl (Φ.eraseIdx i)→b∈bl Φ:=fun b hb=>((List.eraseIdx_sublist _ _).map Ob.b).subset hb
 have hd:DpS w (fun b=>b=obB Φ i) (some ⟨obB Φ i,0,none⟩) xs.length (owC Φ i) xs:=ho.1.dps rfl
 have hX:∀ b,b=obB Φ i→nin (κ.g g) (bl (Φ.eraseIdx i)) b:=fun b e=>by subst e; exact ⟨Cx.nw ho.2,hn⟩
 have Z1:=(Z.dr i).sA g (its:=.s (some ⟨obB Φ i,0,none⟩) (owC Φ i) xs::seI Ψ p) ⟨_,_,hd,e2,fun b hb=>⟨hX b hb,fun hD'=>by subst hb; exact hD'.2 hin⟩,fun b hb=>⟨hb.1,fun hm=>hb.2 (hsub b hm)⟩⟩
 exact Z1.add (Ψ':=[_]) fun f hf=>by cases List.mem_singleton.1 hf; exact hd.rep.Bj fun b _ hb=>hX b hb
omit [Rep α] in
theorem St.arC {T ty:TypeId}(Z:St κ ρ Φ Ψ Θ w) (i q:Nat) (xs:List α) (y:α) (hs:List (Hd k)) (hd:Hd k) (ps:List Nat)
 (hi:(Φ.eraseIdx q)[i]? = some (.raw (owG (Φ.eraseIdx q) i) (obB (Φ.eraseIdx q) i) (owT (Φ.eraseIdx q) i) (owC (Φ.eraseIdx q) i) xs hs))
 (hq:Φ[q]? = some (.box (obB Φ q) (bxT Φ q) hd.cs)) (hL:κ.L.map some=ps.map (fun j=>(Φ[j]?).map Ob.b)) (hp:ps.all (fun j=>!(Nat.beq j q))=true) (hT:E2 P T (owT (Φ.eraseIdx q) i) (k+1)=true) (hsz:xs.length+1≤100000000000) :
 ∃ r2 c2 w', (Builtin.append_ #[T, T] ty #[.slice (some ⟨obB (Φ.eraseIdx q) i, 0, none⟩) xs.length (owC (Φ.eraseIdx q) i), .slice (some ⟨obB Φ q, 0, none⟩) 1 1]).run P w = .ok (.slice (some ⟨r2, 0, none⟩) (xs ++ [y]).length c2) w' ∧
   St κ ρ ((Φ.eraseIdx q).set i (.raw (owG (Φ.eraseIdx q) i) r2 (owT (Φ.eraseIdx q) i) c2 (xs++[y]) (hs++[hd]))) Ψ [] w'∧Chg (one (obB (Φ.eraseIdx q) i)) w w':=by
 have Z1:=Z.dr q
 have hb:Box w (obB Φ q) (bxT Φ q) hd.cs:=Z.ob _ (AV hq)
 have hn:obB Φ q∉bl (Φ.eraseIdx q):=by rw [NX]; exact Jn Z.nd (D2 hq)
 have hnew:κ.w.heap.size≤obB Φ q:=Z.ZH hq ps hL hp
 obtain ⟨ho,hs0⟩:=Z1.rw i xs hs hi
 have hr:obB (Φ.eraseIdx q) i∈bl (Φ.eraseIdx q):=Ck hi
 have hrep:RepS w (fun b=>b=obB Φ q) (some ⟨obB Φ q,0,none⟩) 1 1 [hd]:=⟨rfl,Nat.le_refl _,by decide,fun _=>rfl,fun _=>rfl,fun u x hx=>by
  cases u with
  | zero =>
    simp only [List.getElem?_cons_zero,Option.some.injEq] at hx
    subst hx
    exact ⟨_,rfl,by simpa [blk,off] using hb.has 0 hd.cs AD⟩
  | succ u=>simp at hx⟩
 obtain ⟨r2,c2,w',hrun,ho',hor,hx,_⟩:=ho.append (P:=P) (T:=T) (ty:=ty) hT hrep (fun b _ hF=>by
  subst hF
  exact ⟨⟨Cx.nw hnew,hn⟩,fun e=>hn (by rw [e]; exact hr)⟩) hsz
 refine ⟨r2,c2,w',by rw [List.length_append]; exact hrun,Z1.put hi hx ?_ ho'.lt ⟨?_,?_⟩,hx⟩
 ·exact hor.imp id (fun e=>Nat.le_of_eq e.symm)
 ·rw [List.length_append,Jm]
  refine ho'.RI (fun b hb hm hne hm2=>?_)
  rcases Hs hm2 with rfl | ⟨u,_,hu⟩
  ·exact hne rfl
  ·exact hm (AV hu)
 ·rcases hor with rfl | rfl
  ·exact hs0
  ·exact Z1.ch.size
omit [Rep α] in
theorem RG.Ar (i q:Nat) (xs:List α) (y:α) (hs:List (Hd k)) (hd:Hd k) (Z:St κ ρ Φ Ψ Θ w)
 (H:∀ r2 c2 w',St κ ρ ((Φ.eraseIdx q).set i (.raw (owG (Φ.eraseIdx q) i) r2 (owT (Φ.eraseIdx q) i) c2 (xs++[y]) (hs++[hd]))) Ψ [] w'→RG P n K ops (j+1) (Ag e (Ad ops j).dst (.slice (some ⟨r2,0,none⟩) (xs++[y]).length c2)) w')
 (hsz:xs.length+1≤100000000000:=by first | omega | (simp <;> omega)) (ps:List Nat:=[])
 (hi:(Φ.eraseIdx q)[i]? = some (.raw (owG (Φ.eraseIdx q) i) (obB (Φ.eraseIdx q) i) (owT (Φ.eraseIdx q) i) (owC (Φ.eraseIdx q) i) xs hs):=by kernel_rfl)
 (hq:Φ[q]? = some (.box (obB Φ q) (bxT Φ q) hd.cs):=by kernel_rfl)
 (hL:κ.L.map some=ps.map (fun j=>(Φ[j]?).map Ob.b):=by kernel_rfl) (hp:ps.all (fun j=>!(Nat.beq j q))=true:=by kernel_rfl)
 (h:Bk n ops j e=some (.append,[apT (Bk n ops j e),apT (Bk n ops j e)],apY (Bk n ops j e),[.slice (some ⟨obB (Φ.eraseIdx q) i,0,none⟩) xs.length (owC (Φ.eraseIdx q) i),.slice (some ⟨obB Φ q,0,none⟩) 1 1]):=by kernel_rfl)
 (hT:E2 P (apT (Bk n ops j e)) (owT (Φ.eraseIdx q) i) (k+1)=true:=by kernel_rfl):RG P n K ops j e w :=
 let ⟨r2,c2,w',hr,hz,_⟩:=Z.arC (P:=P) i q xs y hs hd ps hi hq hL hp hT hsz
 RG.append h hr (H r2 c2 w' hz)
omit [Rep α] in
theorem GE.Ar {kk:Nat}(i q:Nat) (xs:List α) (y:α) (hs:List (Hd k)) (hd:Hd k) (js:List Nat) (Z:St κ ρ Φ Ψ Θ w)
 (H:∀ r2 c2 w',St κ ρ ((Φ.eraseIdx q).set i (.raw (owG (Φ.eraseIdx q) i) r2 (owT (Φ.eraseIdx q) i) c2 (xs++[y]) (hs++[hd]))) Ψ [] w'→GA P (rS ρ) n m L ops (kk::l) (Ag e (Ad ops kk).dst (.slice (some ⟨r2,0,none⟩) (xs++[y]).length c2)) w')
 (hsz:xs.length+1≤100000000000:=by first | omega | (simp <;> omega)) (ps:List Nat:=[])
 (hi:(Φ.eraseIdx q)[i]? = some (.raw (owG (Φ.eraseIdx q) i) (obB (Φ.eraseIdx q) i) (owT (Φ.eraseIdx q) i) (owC (Φ.eraseIdx q) i) xs hs):=by kernel_rfl)
 (hq:Φ[q]? = some (.box (obB Φ q) (bxT Φ q) hd.cs):=by kernel_rfl)
 (hL:κ.L.map some=ps.map (fun j=>(Φ[j]?).map Ob.b):=by kernel_rfl) (hp:ps.all (fun j=>!(Nat.beq j q))=true:=by kernel_rfl)
 (h:Bk n ops kk e=some (.append,[apT (Bk n ops kk e),apT (Bk n ops kk e)],apY (Bk n ops kk e),[.slice (some ⟨obB (Φ.eraseIdx q) i,0,none⟩) xs.length (owC (Φ.eraseIdx q) i),.slice (some ⟨obB Φ q,0,none⟩) 1 1]):=by kernel_rfl)
 (hT:E2 P (apT (Bk n ops kk e)) (owT (Φ.eraseIdx q) i) (k+1)=true:=by kernel_rfl)
 (h0:isR ρ=true:=by kernel_rfl) (h1:(roJ ρ).map some=js.map (fun j=>((Φ.eraseIdx q)[j]?).map Ob.b):=by kernel_rfl) (h2:js.all (fun j=>!(Nat.beq j i))=true:=by kernel_rfl):GE P (rS ρ) n m L ops l kk e w:=fun w1 hx=>by
 obtain ⟨r2,c2,w',hr,hz,hc⟩:=(Z.e hx).arC (P:=P) (ty:=apY (Bk n ops kk e)) i q xs y hs hd ps hi hq hL hp hT hsz
 rw [LF h hr]
 exact ⟨Ht ((Z.dr q).SJ hi js h0 h1 h2) hc,H r2 c2 w' hz⟩
def VD {α:Type}[Rep α] [Shp α] [Dp α] [Lf α] (s:Nat) (w:World) (y:α) (v:Value):Prop :=
 ∃ l:List (Option Addr × Nat),l.length=Shp.k α∧v=.agg (Shp.cells y l).toArray∧BK w (ge s) (Lf.its y l)
def VA {α:Type}[Rep α] [Dp α] (s:Nat) (w:World) (ys:List α) (v:Value):Prop :=
 ∃ a c,v=.slice a ys.length c∧BK w (ge s) [.s a c ys]
def VB {α:Type}[Rep α] [Dp α] (k t s:Nat) (w:World) (ys:List α) (v:Value):Prop :=
 ∃ (r c:Nat) (hs:List (Hd k)),v=.slice (some ⟨r,0,none⟩) ys.length c∧Own w r t (nin (ge s) [r]) ys.length c hs∧s≤r∧BK w (nin (ge s) [r]) [.e ys hs]
theorem OZ {κ:Cx}{X:Nat→Prop}{M:List Nat}{its:List It}(h:BK w X its) (hx:Ext w w'):BK w' (fun b=>X b∧b< w.heap.size) its:=Cj h fun b hb hX=>⟨⟨hX,hb⟩,hx.block hb⟩
theorem St.sN (Z:St κ ρ Φ Ψ Θ w) (hx:Ext w w') (p g:Nat){l:List It}(hl:BK w' (ge w.heap.size) l) (h:isS Ψ p g=true:=by kernel_rfl):BK w' (nin (κ.g g) (bl Φ)) (l++seI Ψ p):=by
 have h1:=OZ (κ:=κ) (M:=[]) (Z.sp p g h) hx
 refine Hr hl h1 (fun b hb h=>by have:w.heap.size≤b:=hb; omega) (fun b hb=>⟨Cx.nw (Nat.le_trans Z.ch.size hb),fun hm=>Nat.lt_irrefl _ (Nat.lt_of_lt_of_le (Z.lt b hm) hb)⟩) (fun b hb=>hb.1)
theorem St.vD [Shp α] [Dp α] [Lf α] (Z:St κ ρ Φ Ψ Θ w) (p g:Nat){v:Value}(h:VD w.heap.size w' y v) (hx:Ext w w'){Q:Value→Prop}
 (H:Fa (Shp.k α) fun l=>St κ ρ Φ (⟨g,none,.sep (Lf.its y l++seI Ψ p)⟩ :: (tg g none (Shp.facts y l)++Ψ)) Θ w'→Q (.agg (Shp.cells y l).toArray)) (hp:isS Ψ p g=true:=by kernel_rfl):Q v:=by
 obtain ⟨l,hl,rfl,hi⟩:=h
 refine Fe _ H hl ?_
 have h1:=Z.sN hx p g hi hp
 have Z2:St κ ρ Φ (tg g none (Shp.facts y l)++Ψ) Θ w':=(Z.e hx).add fun f hf=>by
  simp only [tg,List.mem_map] at hf
  obtain ⟨q,hq,rfl⟩:=hf
  exact Fr.fr (Lf.facts l hi q hq) (fun b _ hb=>⟨⟨Cx.nw (Nat.le_trans Z.ch.size hb),fun hm=>Nat.lt_irrefl _ (Nat.lt_of_lt_of_le (Z.lt b hm) hb)⟩,rfl⟩) (Nat.le_refl _)
 exact Z2.sA g h1
theorem St.vA [Dp α] (Z:St κ ρ Φ Ψ Θ w) (p g:Nat){v:Value}(h:VA w.heap.size w' ys v) (hx:Ext w w'){Q:Value→Prop}
 (H:∀ a c,St κ ρ Φ (⟨g,none,.sep (.s a c ys::seI Ψ p)⟩ :: ⟨g,none,.rep a c ys⟩ :: Ψ) Θ w'→Q (.slice a ys.length c)) (hp:isS Ψ p g=true:=by kernel_rfl):Q v:=by
 obtain ⟨a,c,rfl,hi⟩:=h
 refine H a c ?_
 have h1:=Z.sN hx p g hi hp
 have Z2:St κ ρ Φ (⟨g,none,.rep a c ys⟩ :: Ψ) Θ w':=(Z.e hx).add (Ψ':=[_]) fun f hf=>by
  cases List.mem_singleton.1 hf
  exact Fr.fr (J1 (Eu hi AI)) (fun b _ hb=>⟨⟨Cx.nw (Nat.le_trans Z.ch.size hb),fun hm=>Nat.lt_irrefl _ (Nat.lt_of_lt_of_le (Z.lt b hm) hb)⟩,rfl⟩) (Nat.le_refl _)
 exact Z2.sA g h1
theorem St.vB [Dp α] (Z:St κ ρ Φ Ψ Θ w) (p g:Nat){t:Nat}{v:Value}(h:VB k t w.heap.size w' ys v) (hx:Ext w w'){Q:Value→Prop}
 (H:∀ r c (hs:List (Hd k)),St κ ρ (.raw g r t c ys hs::Φ) (⟨g,none,.sep (.e ys hs::seI Ψ p)⟩ :: Ψ) Θ w'→Q (.slice (some ⟨r,0,none⟩) ys.length c)) (hp:isS Ψ p g=true:=by kernel_rfl):Q v:=by
 obtain ⟨r,c,hs,rfl,ho,hr,hi⟩:=h
 refine H r c hs ?_
 have hge:∀ b,ge w.heap.size b→nin (κ.g g) (bl Φ) b:=fun b hb=>⟨Cx.nw (Nat.le_trans Z.ch.size hb),fun hm=>Nat.lt_irrefl _ (Nat.lt_of_lt_of_le (Z.lt b hm) hb)⟩
 have Z2:St κ ρ (.raw g r t c ys hs::Φ) Ψ Θ w':=Z.push (o:=.raw g r t c ys hs) hx hr ho.lt ⟨ho.Bj fun b _ hb=>⟨(hge b hb.1).1,fun hm=>(List.mem_cons.1 hm).elim (fun e=>hb.2 (by rw [e]; exact .head _)) (hge b hb.1).2⟩,Nat.le_trans Z.ch.size hr⟩
 refine Z2.sA g ?_
 have h1:=OZ (κ:=κ) (M:=[]) (Z.sp p g hp) hx
 refine Hr (l:=[.e ys hs]) hi h1 (fun b hb h=>by have:w.heap.size≤b:=hb.1; omega) (fun b hb=>⟨(hge b hb.1).1,fun hm=>(List.mem_cons.1 hm).elim (fun e=>hb.2 (by rw [e]; exact .head _)) (hge b hb.1).2⟩) (fun b hb=>⟨hb.1.1,fun hm=>(List.mem_cons.1 hm).elim (fun e=>?_) hb.1.2⟩)
 have:b=r:=e
 have:=hb.2
 omega
theorem St.rD [Shp α] [Dp α] [Lf α] (Z:St κ ρ Φ Ψ Θ w) (p:Nat) (js:List Nat) (x:α) (q:List (Option Addr × Nat)) (h:x=y){v:Value}(hp:isS Ψ p 0=true:=by kernel_rfl) (hm:(mvs (seI Ψ p) js).take (Lf.its x q).length=Lf.its x q:=by kernel_rfl)
 (hl:q.length=Shp.k α:=by kernel_rfl) (hv:v=.agg (Shp.cells x q).toArray:=by kernel_rfl):VD κ.w.heap.size w y v:=by
 subst h
 exact ⟨q,hl,hv,CU (FJ (FQ (Z.sp p 0 hp) hm)) fun b _ hb=>hb.1⟩
theorem St.rA [Dp α] (Z:St κ ρ Φ Ψ Θ w) (p:Nat) (js:List Nat) (xs:List α) (a:Option Addr) (c:Nat) (h:xs=ys){v:Value}(hp:isS Ψ p 0=true:=by kernel_rfl) (hm:(mvs (seI Ψ p) js).take 1=[.s a c xs]:=by kernel_rfl)
 (hv:v=.slice a xs.length c:=by kernel_rfl):VA κ.w.heap.size w ys v:=by
 subst h
 exact ⟨a,c,hv,CU (FJ (FQ (Z.sp p 0 hp) hm)) fun b _ hb=>hb.1⟩
theorem St.rB [Dp α] {t:Nat}(Z:St κ ρ Φ Ψ Θ w) (i p:Nat) (js:List Nat) (xs:List α) (hs:List (Hd k)) (h:xs=ys){v:Value}(hi:Φ[i]? = some (.raw 0 (obB Φ i) t (owC Φ i) xs hs):=by kernel_rfl) (hp:isS Ψ p 0=true:=by kernel_rfl) (hm:(mvs (seI Ψ p) js).take 1=[.e xs hs]:=by kernel_rfl)
 (hv:v=.slice (some ⟨obB Φ i,0,none⟩) xs.length (owC Φ i):=by kernel_rfl):VB k t κ.w.heap.size w ys v:=by
 subst h
 have ho:Own w (obB Φ i) t (nin (κ.g 0) (bl Φ)) xs.length (owC Φ i) hs∧κ.w.heap.size≤obB Φ i:=Z.ob _ (AV hi)
 have hin:obB Φ i∈bl Φ:=Ck hi
 exact ⟨_,_,hs,hv,ho.1.Bj (fun b _ hb=>⟨hb.1,fun hm=>hb.2 (by cases List.mem_singleton.1 hm; exact hin)⟩),ho.2,CU (FJ (FQ (Z.sp p 0 hp) hm)) fun b _ hb=>⟨hb.1,fun hm=>hb.2 (by cases List.mem_singleton.1 hm; exact hin)⟩⟩
end
end Go.Proofs.YtcginoabkicdiaaGreat
