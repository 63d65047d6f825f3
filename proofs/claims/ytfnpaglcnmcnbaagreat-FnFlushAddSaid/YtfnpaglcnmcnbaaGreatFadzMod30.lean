/- What asking computes, as plain functions, and its laws. -/
import Derived.Test.YtfnpaglcnmcnbaaGreatFadzMod20
import Derived.Test.YtfnpaglcnmcnbaaGreatFadzMem
import Derived.Shelf.Lays
import Derived.Shelf.Strings.OnBuilder
import Derived.Test.YtfnpaglcnmcnbaaGreatProg
set_option linter.unusedVariables false
set_option linter.unusedSimpArgs false
namespace Go.Proofs.YtfnpaglcnmcnbaaGreat
section
variable {P : Program} {f : FuncId} {fn : Func} {R : Value → World → Prop} {c : Code} {e : Env} {w : World}
theorem mapM4 (f : ResultVar → Sem Value) (r r' r2 r3 : ResultVar) : (#[r, r', r2, r3]).mapM f = (do let v ← f r; let v' ← f r'; let v2 ← f r2; let v3 ← f r3; pure #[v, v', v2, v3]) := by
 simp
theorem run_results4 {a : Act} {r r' r'' r''' : ResultVar} {v v' v'' v''' : Value} (hs : Sees fn.ntmps a e) (hr : fn.results = #[r, r', r'', r''']) (h : Res1 P w e r v) (h' : Res1 P w e r' v') (h'' : Res1 P w e r'' v'') (h3 : Res1 P w e r''' v''') :
 (results fn a.tmps).run P w = .ok (.tuple #[v, v', v'', v''']) w := by
 rw [results_eq, hr, mapM4]
 refine run_bind_ok (a := #[v, v', v'', v''']) ?_
 rw [run_bind_ok (h.run hs), run_bind_ok (h'.run hs), run_bind_ok (h''.run hs), run_bind_ok (h3.run hs)]
 rfl
theorem T.ret4 {k} {r r' r'' r''' : ResultVar} {v v' v'' v''' : Value} (h : isRet c = true) (hf : P.funcs[f]? = some fn) (hres : fn.results = #[r, r', r'', r''']) (h1 : Res1 P w e r v) (h2 : Res1 P w e r' v') (h3 : Res1 P w e r'' v'') (h4 : Res1 P w e r''' v''')
 (hR : R (.tuple #[v, v', v'', v''']) w) : T P f fn R (.code c :: k) e w :=
 T.leave h (fun _ hs => run_results4 hs hres h1 h2 h3 h4) hf hR
theorem T.r4 {k} {r r' r'' r''' : ResultVar} {v v' v'' v''' : Value} (hf : P.funcs[f]? = some fn) (hres : fn.results = #[r, r', r'', r''']) (h1 : Res1 P w e r v) (h2 : Res1 P w e r' v') (h3 : Res1 P w e r'' v'') (h4 : Res1 P w e r''' v''') (hR : R (.tuple #[v, v', v'', v''']) w) (h : isRet c = true := by kernel_rfl) : T P f fn R (.code c :: k) e w :=
 T.ret4 h hf hres h1 h2 h3 h4 hR
end
def cutB (b : List Row) (lo hi : Int) : List Row := b.filter (fun r => inR r.t lo hi)
def cutI (b : List Row) (lo hi : Int) : List Row := if blockOk b then cutB b lo hi else []
def fits (f : List Cnd) (n : List Tag) : Bool := f.all (fun c => has n c.tag != c.no)
def filtOk (f : List Cnd) : Bool := f.all (fun c => tagOk c.tag) && decide (f.length ≤ 3)
def fitsI (f : List Cnd) (n : List Tag) : Bool := filtOk f && nameOk n && fits f n
def findP (p : List Tag → Bool) : Nat → List (List Tag) → List Int
 | _, [] => []
 | i, n :: ns => (if p n then [(i : Int) + 1] else []) ++ findP p (i + 1) ns
def hit1 (s : Sto) (lo hi : Int) (id : Int) : List Hit := if (cutB (rowsOf s id) lo hi).length > 0 then [⟨text (s.idx.names.getD (id - 1).toNat []), cutB (rowsOf s id) lo hi⟩] else []
def askP (p : List Tag → Bool) (s : Sto) (lo hi : Int) : List Hit := (findP p 0 s.idx.names).flatMap (hit1 s lo hi)
def askS (s : Sto) (f : List Cnd) (lo hi : Int) : List Hit := if storeOk s && filtOk f then askP (fits f) s lo hi else []
theorem findP_mem {p : List Tag → Bool} : ∀ (l : List (List Tag)) (i : Nat) (x : Int), x ∈ findP p i l → (i : Int) + 1 ≤ x ∧ x ≤ (i : Int) + l.length := by
 intro l
 induction l with
 | nil => intro i x h; simp [findP] at h
 | cons n ns ih =>
   intro i x h
   unfold findP at h
   rcases List.mem_append.1 h with h | h
   ·split at h
    ·simp at h; subst h; simp only [List.length_cons]; omega
    ·cases h
   ·have := ih (i + 1) x h
    simp only [List.length_cons]; omega
theorem findP_in {p : List Tag → Bool} {l : List (List Tag)} {x : Int} (h : x ∈ findP p 0 l) : 1 ≤ x ∧ x ≤ l.length := by have := findP_mem l 0 x h; omega
theorem findP_all {p : List Tag → Bool} : ∀ (l : List (List Tag)) (i : Nat), (∀ n ∈ l, p n = false) → findP p i l = [] := by
 intro l
 induction l with
 | nil => intro i _; rfl
 | cons n ns ih =>
   intro i h
   unfold findP
   rw [h n (by simp), ih (i + 1) (fun m hm => h m (by simp [hm]))]
   rfl
theorem findP_eq {p q : List Tag → Bool} : ∀ (l : List (List Tag)) (i : Nat), (∀ n ∈ l, p n = q n) → findP p i l = findP q i l := by
 intro l
 induction l with
 | nil => intro i _; rfl
 | cons n ns ih =>
   intro i h
   unfold findP
   rw [h n (by simp), ih (i + 1) (fun m hm => h m (by simp [hm]))]
theorem findP_fits {f : List Cnd} {x : Idx} (hx : NmI x.names) (hf : filtOk f = true) : findP (fitsI f) 0 x.names = findP (fits f) 0 x.names := findP_eq _ _ (fun n hn => by unfold fitsI; rw [hf, hx.ok n hn]; rfl)
theorem findP_no {f : List Cnd} {x : Idx} (hf : filtOk f = false) : findP (fitsI f) 0 x.names = [] := findP_all _ _ (fun n _ => by unfold fitsI; rw [hf]; rfl)
theorem rowsI_in {s : Sto} {i : Int} (hk : storeOk s = true) (h1 : 1 ≤ i) (h2 : i ≤ s.idx.names.length) : rowsI s i = rowsOf s i := rowsI_yes hk (by unfold inR; simp [h1, h2])
theorem blk_of {s : Sto} (h : SD s) (hk : storeOk s = true) (i : Int) : Blk (rowsOf s i) := by
 have hI := (StoK.of h hk).stoI
 have key : ∀ (mem : List Smp) (o : List Row), (∀ m ∈ mem, rowOk m.row = true) → Blk o → Blk (mem.foldl (rowsM i) o) := by
  intro mem
  induction mem with
  | nil => intro o _ ho; exact ho
  | cons m ms ih =>
    intro o hm ho
    refine ih _ (fun q hq => hm q (by simp [hq])) ?_
    unfold rowsM
    split
    ·exact ho.put (hm m (by simp))
    ·exact ho
 have key2 : ∀ (ps : List Prt) (o : List Row), (∀ p ∈ ps, PrtI p) → Blk o → Blk (ps.foldl (rowsP i) o) := by
  intro ps
  induction ps with
  | nil => intro o _ ho; exact ho
  | cons p ps ih => intro o hp ho; exact ih _ (fun q hq => hp q (by simp [hq])) (ho.merge ((hp p (by simp)).of i))
 exact key _ _ (fun m hm => (hI.mem m hm).2.2) (key2 _ _ hI.part Blk.nil)
theorem ok_24 {s : Sto} (hk : storeOk s = true) {i : Int} (h1 : 1 ≤ i) (h2 : i ≤ s.idx.names.length) : (rowsOf s i).length ≤ 24 := by
 unfold storeOk at hk
 simp only [Bool.and_eq_true, decide_eq_true_eq, List.all_eq_true, List.mem_range, cntOk] at hk
 have := hk.2 (i.toNat - 1) (by omega)
 rwa [show ((i.toNat - 1 : Nat) : Int) + 1 = i by omega] at this
theorem rows_bok {s : Sto} (h : SD s) (hk : storeOk s = true) {i : Int} (h1 : 1 ≤ i) (h2 : i ≤ s.idx.names.length) : blockOk (rowsOf s i) = true := by
 unfold blockOk
 have a1 : blockF none (rowsOf s i) = true := blk_of h hk i
 rw [a1, Bool.true_and, decide_eq_true_eq]
 exact ok_24 hk h1 h2
theorem cutI_rows {s : Sto} (h : SD s) (hk : storeOk s = true) {i : Int} (h1 : 1 ≤ i) (h2 : i ≤ s.idx.names.length) (lo hi : Int) : cutI (rowsOf s i) lo hi = cutB (rowsOf s i) lo hi := by
 unfold cutI; rw [if_pos (rows_bok h hk h1 h2)]
theorem askS_I {s : Sto} {f : List Cnd} {lo hi : Int} (hd : SD s) (h : storeOk s = true) : askS s f lo hi = askP (fitsI f) s lo hi := by
 unfold askS askP
 cases h2 : filtOk f with
 | true => rw [h, findP_fits hd.nm h2]; rfl
 | false => rw [findP_no h2]; simp
def textI (n : List Tag) : Str := if nameOk n then text n else []
theorem textI_ok {n : List Tag} (h : nameOk n = true) : textI n = text n := by unfold textI; rw [if_pos h]
end Go.Proofs.YtfnpaglcnmcnbaaGreat
namespace Go.Proofs.YtfnpaglcnmcnbaaGreat
set_option maxRecDepth 100000
set_option maxHeartbeats 4000000
theorem c_spec_StoreFlush (s : Sto) {w : World} {F : Nat → Prop} {a1 : Option Addr} {n1 c1 : Nat} (h1 : RepS w F a1 n1 c1 s.idx.names) {a2 : Option Addr} {n2 c2 : Nat} (h2 : RepS w F a2 n2 c2 s.idx.posts) {a3 : Option Addr} {n3 c3 : Nat} (h3 : RepS w F a3 n3 c3 s.parts) {a4 : Option Addr} {n4 c4 : Nat} (h4 : RepS w F a4 n4 c4 s.mem) (p0 : SD s) : Calls Tryz.prog 28 [.agg #[.slice a1 n1 c1, .slice a2 n2 c2, .slice a3 n3 c3, .slice a4 n4 c4]].toArray w (rets fun rv w' => (∃ v0, rv = .tuple #[v0, .bool ((flushP s).2)] ∧ VS (fo F w.heap.size) w' ((flushP s).1 : Sto) v0) ∧ Ext w w') := by
 refine goT Tryz.func28 ?_
 obtain ⟨rfl, bh, h1⟩ := h1.tp
 obtain ⟨rfl, bi, h2⟩ := h2.tp
 obtain ⟨rfl, bj, h3⟩ := h3.tp
 obtain ⟨rfl, bk, h4⟩ := h4.tp
 refine .s <| .g <| .np 30 [.slice a1 s.idx.names.length c1, .slice a2 s.idx.posts.length c2, .slice a3 s.parts.length c3, .slice a4 s.mem.length c4] fun J bD av ar E aH => ?_
 replace ⟨h1, h2, h3, h4⟩ := (sn [] ar av).g4 h1 h2 h3 h4
 have C := ar
 clear ar aH av
 refine .np 30 [.slice none 0 0, .slice none 0 0, .slice none 0 0, .slice none 0 0] fun O aT am aw V aI => ?_
 have bm := nb_new am E.lt
 have bn := C.cn am
 replace ⟨h1, h2, h3, h4, E, C⟩ := (sn [J] aw am).g6 h1 h2 h3 h4 E C
 clear aw aI am
 refine .r 1 <| .d <| .s <| .s <| .g <| .ln E <| .cl (c_spec_StoreOk s h1.ta h2.ta h3.ta h4.ta p0 (w := aT) (F := all)) ?_
 rintro bE aJ ⟨rfl, ax⟩
 replace ⟨h1, h2, h3, h4, E, V, C⟩ := (se [O, J] ax).g7 h1 h2 h3 h4 E V C
 clear ax
 cases bo : (storeOk s)
 ·refine .r 1 <| .d <| .ct <| .s <| .g <| .r 1 <| .sc [.slice none 0 0, .slice none 0 0, .slice none 0 0, .slice none 0 0] V fun bF ay aK aL => ?_
  replace ⟨h1, h2, h3, h4, E, C⟩ := (so [O, J] ay).g6 h1 h2 h3 h4 E C
  clear ay aL
  exact .r 1 <| .d <| .r2 Tryz.func28 Tryz.results28 (.bx aK) (.t (.bool false)) ⟨⟨_, (tup2 rfl (congrArg Value.bool (by rw [flushP_no (by assumption)]))), (VS.of (y := (⟨(⟨([] : List (List Tag)), ([] : List Pst)⟩ : Idx), ([] : List Prt), ([] : List Smp)⟩ : Sto)) ⟨_, rfl, ⟨_, _, _, _, _, _, _, _, _, _, _, _, rfl, (RepS.nil' _ _ none 0 (by decide)), (RepS.nil' _ _ none 0 (by decide)), (RepS.nil' _ _ none 0 (by decide)), (RepS.nil' _ _ none 0 (by decide))⟩⟩ (by rw [flushP_no (by assumption)]))⟩, C⟩
 refine .r 1 <| .d <| .cf <| .sk <| .s <| .g <| .ln E <| .cl (c_spec_l13Copy s h1.ta h2.ta h3.ta h4.ta p0.sz (w := aJ) (F := all)) ?_
 rintro bG ai ⟨⟨bH, bI, bJ, bK, bL, bM, bN, bO, bP, aj, bQ, bR, rfl, ac, ae, af, W, ao⟩, az⟩
 have ah := al2 V.lt E.lt
 have aq : Gb w.heap.size aJ.heap.size := C.size
 have bq := nb_ge ao E.lt
 have br := nb_ge ao V.lt
 have aM := gb_ge ao C.size
 replace ⟨E, V, C⟩ := (se [] az).g3 E V C
 clear az ao
 replace ac : RepS ai (nin (ge w.heap.size) [aj, O, J]) _ _ _ _ := RepS.takeM (s0 := w.heap.size) (M := [O, J]) ac ah aq
 replace ac := ac.base (G' := fo F w.heap.size) (fun _ _ h => .inr h)
 have bt := ac.max
 replace ae : RepS ai (nin (ge w.heap.size) [aj, O, J]) _ _ _ _ := RepS.takeM (s0 := w.heap.size) (M := [O, J]) ae ah aq
 replace ae := ae.base (G' := fo F w.heap.size) (fun _ _ h => .inr h)
 have bu := ae.max
 replace af : RepS ai (nin (ge w.heap.size) [aj, O, J]) _ _ _ _ := RepS.takeM (s0 := w.heap.size) (M := [O, J]) af ah aq
 replace af := af.base (G' := fo F w.heap.size) (fun _ _ h => .inr h)
 have bv := af.max
 replace W : Own ai aj 51 (nin (ge w.heap.size) [aj, O, J]) _ _ _ := Own.takeM (s0 := w.heap.size) (M := [O, J]) W ah aq
 replace W := W.base (G' := fo F w.heap.size) (fun _ _ h => .inr h)
 have bw := W.max
 have bz := W.len
 clear ah
 have aN := ac.len
 subst aN
 have aO := ae.len
 subst aO
 have aP := af.len
 subst aP
 have aU := W.sl (.inr aM)
 replace ⟨ac, ae, af⟩ := (sd ai [aj, O, J] aj).g3 ac ae af
 refine .cl (c_spec_l13Flush (⟨(⟨(((copyS s)).idx).names, (((copyS s)).idx).posts⟩ : Idx), ((copyS s)).parts, ((copyS s)).mem⟩ : Sto) ac ae af aU (by have q1 := p0.nm2; exact Nat.le_trans q1 (by omega)) (StoK.of p0 (by assumption)).stoI.mem6 (w := ai) (F := nin (fo F w.heap.size) [O, J])) ?_
 rintro bT bU ⟨⟨bA, rfl, ⟨_, rfl, ⟨aV, bV, aW, aX, bW, aY, aZ, bX, aQ, aR, bB, aS, rfl, ak, al, Z, aa⟩⟩⟩, aA⟩
 have ab := al2 V.lt E.lt
 have ag : Gb w.heap.size ai.heap.size := C.size
 replace ⟨V, C⟩ := (se [] aA).g2 V C
 clear aA
 replace ak := RepS.mixed' (M := [O, J]) ak ab ag
 have ba := ak.max
 replace al := RepS.mixed' (M := [O, J]) al ab ag
 have bc := al.max
 replace Z := RepS.mixed' (M := [O, J]) Z ab ag
 have bd := Z.max
 replace aa := RepS.mixed' (M := [O, J]) aa ab ag
 have bg := aa.max
 clear ab
 have aB := ak.len
 subst aB
 have aC := al.len
 subst aC
 have aD := Z.len
 subst aD
 have aE := aa.len
 subst aE
 refine .r 2 <| .sc [.slice aV (((((flushR (⟨(⟨(((copyS s)).idx).names, (((copyS s)).idx).posts⟩ : Idx), ((copyS s)).parts, ((copyS s)).mem⟩ : Sto)).1).idx).names).length) aW, .slice aX (((((flushR (⟨(⟨(((copyS s)).idx).names, (((copyS s)).idx).posts⟩ : Idx), ((copyS s)).parts, ((copyS s)).mem⟩ : Sto)).1).idx).posts).length) aY, .slice aZ ((((flushR (⟨(⟨(((copyS s)).idx).names, (((copyS s)).idx).posts⟩ : Idx), ((copyS s)).parts, ((copyS s)).mem⟩ : Sto)).1).parts).length) aQ, .slice aR ((((flushR (⟨(⟨(((copyS s)).idx).names, (((copyS s)).idx).posts⟩ : Idx), ((copyS s)).parts, ((copyS s)).mem⟩ : Sto)).1).mem).length) aS] V fun bC au aF aG => ?_
 replace ⟨ak, al, Z, aa, C⟩ := (so [O, J] au).g5 ak al Z aa C
 clear au aG
 exact .r 1 <| .d <| .r2 Tryz.func28 Tryz.results28 (.bx aF) (.t (.bool ((flushR (⟨(⟨(((copyS s)).idx).names, (((copyS s)).idx).posts⟩ : Idx), ((copyS s)).parts, ((copyS s)).mem⟩ : Sto)).2))) ⟨⟨_, (tup2 rfl (congrArg Value.bool (by rw [flushP_yes (by assumption)]))), (VS.of (y := (⟨(⟨(((flushR (⟨(⟨(((copyS s)).idx).names, (((copyS s)).idx).posts⟩ : Idx), ((copyS s)).parts, ((copyS s)).mem⟩ : Sto)).1).idx).names, (((flushR (⟨(⟨(((copyS s)).idx).names, (((copyS s)).idx).posts⟩ : Idx), ((copyS s)).parts, ((copyS s)).mem⟩ : Sto)).1).idx).posts⟩ : Idx), ((flushR (⟨(⟨(((copyS s)).idx).names, (((copyS s)).idx).posts⟩ : Idx), ((copyS s)).parts, ((copyS s)).mem⟩ : Sto)).1).parts, ((flushR (⟨(⟨(((copyS s)).idx).names, (((copyS s)).idx).posts⟩ : Idx), ((copyS s)).parts, ((copyS s)).mem⟩ : Sto)).1).mem⟩ : Sto)) ⟨_, rfl, ⟨_, _, _, _, _, _, _, _, _, _, _, _, rfl, ak.w1, al.w1, Z.w1, aa.w1⟩⟩ (by rw [flushP_yes (by assumption)]))⟩, C⟩
theorem c_impl_Store_flushed (s : Sto) {w : World} {F : Nat → Prop} {a1 : Option Addr} {n1 c1 : Nat} (h1 : RepS w F a1 n1 c1 s.idx.names) {a2 : Option Addr} {n2 c2 : Nat} (h2 : RepS w F a2 n2 c2 s.idx.posts) {a3 : Option Addr} {n3 c3 : Nat} (h3 : RepS w F a3 n3 c3 s.parts) {a4 : Option Addr} {n4 c4 : Nat} (h4 : RepS w F a4 n4 c4 s.mem) (p0 : ∀ m ∈ s.mem, rowOk m.row = true) (p1 : ∀ m ∈ s.mem, 1 ≤ m.id ∧ m.id ≤ 6) (p2 : s.mem.length ≤ 1000) : Calls Tryz.prog 81 [.agg #[.slice a1 n1 c1, .slice a2 n2 c2, .slice a3 n3 c3, .slice a4 n4 c4]].toArray w (rets fun rv w' => VS (ge w.heap.size) w' (memPart s.mem : Prt) rv ∧ Ext w w') := by
 refine goT Tryz.func81 ?_
 obtain ⟨rfl, cT, h1⟩ := h1.tp
 obtain ⟨rfl, cU, h2⟩ := h2.tp
 obtain ⟨rfl, cV, h3⟩ := h3.tp
 obtain ⟨rfl, cW, h4⟩ := h4.tp
 refine .s <| .g <| .np 30 [.slice a1 s.idx.names.length c1, .slice a2 s.idx.posts.length c2, .slice a3 s.parts.length c3, .slice a4 s.mem.length c4] fun Z dt aY aH J bY => ?_
 replace h4 := (sn [] aH aY).g1 h4
 have C := aH
 clear aH bY aY
 refine .np 75 [.slice none 0 0, .slice none 0 0] fun ab du aI aZ E bZ => ?_
 have cX := C.cn aI
 replace ⟨h4, J, C⟩ := (sn [Z] aZ aI).g3 h4 J C
 clear aZ bZ aI
 refine .d <| .s <| .g <| .ns 0 3 [] fun aj cz aA ba b0 b6 => ?_
 have b7 := nb_new aA J.lt
 have b8 := nb_new aA E.lt
 have b9 := gb_new aA C.size
 have cd := C.cn aA
 replace ⟨h4, J, E, C⟩ := (sn [ab, Z] ba aA).g4 h4 J E C
 clear ba b6 aA
 have ao : Own (α := Int) cz aj 3 (nin (ge w.heap.size) [aj, ab, Z]) 0 0 [] := Own.nil' b0
 refine .ns 0 42 [] fun aw cA ax bc ce cg => ?_
 have ci := nb_new ax J.lt
 have cj := nb_new ax E.lt
 have ck := nb_new ax ao.lt
 have cm := gb_new ax C.size
 have co := C.cn ax
 replace ⟨h4, J, E, ao, C⟩ := (sn [aj, ab, Z] bc ax).g5 h4 J E ao C
 clear bc cg ax
 have aB : Own (α := List Row) cA aw 42 (nin (ge w.heap.size) [aw, aj, ab, Z]) 0 0 [] := Own.nil' ce
 refine .r 1 <| .np 75 [.slice none 0 0, .slice none 0 0] fun aa dv ay bd cp cq => ?_
 have cY := nb_new ay J.lt
 have cZ := nb_new ay E.lt
 have cr := nb_new ay ao.lt
 have cu := nb_new ay aB.lt
 have c7 := C.cn ay
 replace ⟨h4, J, E, ao, aB, C⟩ := (sn [aw, aj, ab, Z] bd ay).g6 h4 J E ao aB C
 clear bd cq ay
 refine .sc [vS aj 0 0, vS aw 0 0] cp fun aE bg aJ cv => ?_
 replace ⟨h4, J, E, ao, aB, C⟩ := (so [aa, aw, aj, ab, Z] bg).g6 h4 J E ao aB C
 clear bg cv
 refine .d <| .s <| .s <| .g <| .r 1 <| .d <| .b 0 <| T.loop (X := Nat × (List Int) × Nat × Nat × Nat × (List (List Row)) × Nat × Nat × Nat) (1, ([] : List Int), aj, 0, 0, ([] : List (List Row)), aw, 0, 0) (fun (id, af, r_out_0, n_out_0, c_out_0, ag, r_out_1, n_out_1, c_out_1) => [(1, .pointer (some ⟨Z, 0, none⟩)), (2, .pointer (some ⟨ab, 0, none⟩)), (3, .pointer (some ⟨aa, 0, none⟩)), (4, vI (id : Int))]) (fun (id, af, r_out_0, n_out_0, c_out_0, ag, r_out_1, n_out_1, c_out_1) aC => Chg (ins [aj, aw, aa]) aE aC ∧ Own aC r_out_0 3 (nin (ge w.heap.size) [aa, r_out_1, r_out_0, ab, Z]) n_out_0 c_out_0 af ∧ OrB r_out_0 aj aE.heap.size ∧ Own aC r_out_1 42 (nin (ge w.heap.size) [aa, r_out_1, r_out_0, ab, Z]) n_out_1 c_out_1 ag ∧ OrB r_out_1 aw aE.heap.size ∧ Nb r_out_1 r_out_0 ∧ Box aC aa 75 [vS r_out_0 n_out_0 c_out_0, vS r_out_1 n_out_1 c_out_1] ∧ (1 ≤ id) ∧ (id ≤ 7) ∧ (af.length ≤ id) ∧ (ag.length ≤ id) ∧ (af = (makeF 0 (memL s.mem (id - 1))).1) ∧ (ag = (makeF 0 (memL s.mem (id - 1))).2)) (fun (id, af, r_out_0, n_out_0, c_out_0, ag, r_out_1, n_out_1, c_out_1) => 7 - id) (by kernel_rfl) ⟨by kernel_rfl, by kernel_rfl, by kernel_rfl, by kernel_rfl, trivial⟩ ⟨Chg.refl _ _, ao, orb_refl, aB, orb_refl, ck, aJ, (by omega), (by omega), (by (simp; done)), (by (simp; done)), (by rfl), (by rfl)⟩ ?_
 rintro ⟨id, af, r_out_0, n_out_0, c_out_0, ag, r_out_1, n_out_1, c_out_1⟩ dw aC ⟨W, ac, aq, O, ar, bh, ae, c8, c9, da, db, dd, de⟩ aD
 have df := nb_or' aq b7 J.lt
 have dg := nb_or' aq b8 E.lt
 have bo := nb_or' aq (Nb.symm cr) aJ.lt
 have bq := gb_or' aq b9 C.size
 have cB := cov_or' aq cd C.size
 have cC := nb_or' ar ci J.lt
 have cD := nb_or' ar cj E.lt
 have br := nb_or' ar (Nb.symm cu) aJ.lt
 have bt := gb_or' ar cm C.size
 have cE := cov_or' ar co C.size
 have bu : Cov (ins [aj, aw, aa]) aE aj := ⟨.inl (.head _)⟩
 have bv : Cov (ins [aj, aw, aa]) aE aw := ⟨.inl (.tail _ (.head _))⟩
 have cF : Cov (ins [aj, aw, aa]) aE aa := ⟨.inl (.tail _ (.tail _ (.head _)))⟩
 have cG := cov_or' aq bu (Nat.le_refl _)
 have cH := cov_or' ar bv (Nat.le_refl _)
 have aK : Mv [aa, aw, aj, ab, Z] [aa, r_out_1, r_out_0, ab, Z] aE aC := Mv.inl W (all_cons (.tail _ (.tail _ (.head _))) (all_cons (.tail _ (.head _)) (all_cons (.head _) all_nil))) (all_cons (.inl (.head _)) (all_cons (orb_mem ar (.tail _ (.head _))) (all_cons (orb_mem aq (.tail _ (.tail _ (.head _)))) (all_cons (.inl (.tail _ (.tail _ (.tail _ (.head _))))) (all_cons (.inl (.tail _ (.tail _ (.tail _ (.tail _ (.head _)))))) all_nil)))))
 replace ⟨h4, J, E, C⟩ := (sp aK W).g4 h4 J E C
 clear aK
 have cI := ac.len; have cJ := ac.max
 have cK := O.len; have cL := O.max
 refine .s <| .s <| .g <| .r 1 <| .bp ((id : Int) ≤ 6) (fun bw => ?_) (fun bw => ?_)
 ·refine .d <| .ct <| .sk <| .s <| .b 1 <| .s <| .g <| .r 1 <| .lb J <| .r 2 <| .cl (c_impl_Store_rows (⟨(⟨([] : List (List Tag)), ([] : List Pst)⟩ : Idx), ([] : List Prt), s.mem⟩ : Sto) (id : Int) (RepS.nil' _ all none 0 (by decide)) (RepS.nil' _ all none 0 (by decide)) (RepS.nil' _ all none 0 (by decide)) h4.ta (by simp) p0 (by simp) p2 (w := aC) (F := all)) ?_
  rintro dh di ⟨⟨cw, cx, rfl, ah⟩, aL⟩
  have aM := al5 ae.lt O.lt ac.lt E.lt J.lt
  have bz : Gb w.heap.size aC.heap.size := C.size
  replace ⟨J, E, ac, O, ae, C, W⟩ := (se [aa, r_out_1, r_out_0, ab, Z] aL).g7 J E ac O ae C W
  clear aL
  have ah := ah.fr aM bz
  have cM := ah.max
  clear aM
  refine .r 1 <| .d <| .s <| .g <| .r 2 <| .bp ((((rowsOf (⟨(⟨([] : List (List Tag)), ([] : List Pst)⟩ : Idx), ([] : List Prt), s.mem⟩ : Sto) (id : Int)).length) : Int) > 0) (fun bA => ?_) (fun bA => .d <| .cf <| .sk <| .ib 1 <| .g <| .r 1 <| .it ((id : Int) + 1) <| .r 1 <| .d <| aD (id + 1, af, r_out_0, n_out_0, c_out_0, ag, r_out_1, n_out_1, c_out_1) _ _ ⟨by kernel_rfl, by kernel_rfl, by kernel_rfl, by kernel_rfl, trivial⟩ ⟨W, ac, aq, O, ar, bh, ae, (by omega), (by omega), (by omega), (by omega), (by exact flSkip1 (by assumption) (by omega) (by assumption)), (by exact flSkip2 (by assumption) (by omega) (by assumption))⟩ (by (simp only []; omega)))
  refine .d <| .ct <| .s <| .g <| .r 1 <| .lb ae <| .r 1 <| .ns 1 3 [vI (id : Int)] fun bi dj ak aN bB bC => ?_
  have bD := nb_new ak J.lt
  have bE := nb_new ak E.lt
  have aO := nb_new ak ac.lt
  have bF := nb_new ak O.lt
  have bG := nb_new ak ae.lt
  have bH := gb_new ak C.size
  replace ⟨J, E, ac, O, ae, ah, C, W⟩ := (se [aa, r_out_1, r_out_0, ab, Z] aN).g8 J E ac O ae ah C W
  clear aN bC ak
  have aF : nin (ge w.heap.size) [aa, r_out_1, r_out_0, ab, Z] bi ∧ bi ≠ r_out_0 := hap_mk bH (all_cons bG (all_cons bF (all_cons aO (all_cons bE (all_cons bD all_nil))))) aO
  refine RG.append1 (T := 68) (ty := 68) (y := (id : Int)) ac bB (by kernel_rfl) (by kernel_rfl) rfl aF (by omega) fun az bj dk V au aP => ?_
  have bI := nb_or au (Nb.symm bh) O.lt
  have cN := nb_or au bo ae.lt
  have bJ := orb_or au aq W.size
  replace ⟨J, E, O, ae, ah, C, W⟩ := (sa [aa, r_out_1, r_out_0, ab, Z] aP au).g7 J E O ae ah C W
  clear aP
  replace V := V.rn r_out_0
  clear au
  have cO := V.len; have cP := V.max
  refine .r 1 <| .ss 0 (vS az (n_out_0 + 1) bj) ae fun dm aQ ai bK => ?_
  replace ⟨J, E, V, O, ah, C, W⟩ := (so [aa, r_out_1, az, ab, Z] aQ).g7 J E V O ah C W
  clear aQ bK
  refine .d <| .g <| .r 1 <| .lb ai <| .r 1 <| .ns 1 42 [.slice cw ((rowsOf (⟨(⟨([] : List (List Tag)), ([] : List Pst)⟩ : Idx), ([] : List Prt), s.mem⟩ : Sto) (id : Int)).length) cx] fun bk dp al aR bL bM => ?_
  have bN := nb_new al J.lt
  have bO := nb_new al E.lt
  have bP := nb_new al V.lt
  have aS := nb_new al O.lt
  have bQ := nb_new al ai.lt
  have bR := gb_new al C.size
  replace ⟨E, V, O, ai, ah, C, W⟩ := (se [aa, r_out_1, az, ab, Z] aR).g7 E V O ai ah C W
  clear aR bM al
  have aG : nin (ge w.heap.size) [aa, r_out_1, az, ab, Z] bk ∧ bk ≠ r_out_1 := hap_mk bR (all_cons bQ (all_cons aS (all_cons bP (all_cons bO (all_cons bN all_nil))))) aS
  refine RG.append1 (T := 73) (ty := 73) (y := rowsOf (⟨(⟨([] : List (List Tag)), ([] : List Pst)⟩ : Idx), ([] : List Prt), s.mem⟩ : Sto) (id : Int)) O bL (by kernel_rfl) (by kernel_rfl) ⟨_, _, _, rfl, ah.oi⟩ aG (by omega) fun aT bm dq am av aU => ?_
  have bS := nb_or av (Nb.symm bI) V.lt
  have cQ := nb_or av br ai.lt
  have bT := orb_or av ar W.size
  replace ⟨E, V, ai, C, W⟩ := (sa [aa, r_out_1, az, ab, Z] aU av).g5 E V ai C W
  clear aU
  replace am := am.rn r_out_1
  clear av
  have cR := am.len; have cS := am.max
  refine .r 1 <| .ss 1 (vS aT (n_out_1 + 1) bm) ai fun dr aV bU bV => ?_
  replace ⟨E, V, am, C, W⟩ := (so [aa, aT, az, ab, Z] aV).g5 E V am C W
  clear aV bV
  exact .d <| .ib 1 <| .g <| .r 1 <| .it ((id : Int) + 1) <| .r 1 <| .d <| aD (id + 1, (af ++ [(id : Int)]), az, n_out_0 + 1, bj, (ag ++ [rowsOf (⟨(⟨([] : List (List Tag)), ([] : List Pst)⟩ : Idx), ([] : List Prt), s.mem⟩ : Sto) (id : Int)]), aT, n_out_1 + 1, bm) _ _ ⟨by kernel_rfl, by kernel_rfl, by kernel_rfl, by kernel_rfl, trivial⟩ ⟨W, V, bJ, am, bT, bS, bU, (by omega), (by omega), (by omega), (by omega), (by exact flStep1 (by assumption) (by omega) (by assumption)), (by exact flStep2 (by assumption) (by omega) (by assumption))⟩ (by (simp only []; omega))
 refine .d <| .cf <| .x 0 rfl <| .s <| .g <| .ln ae <| .sc [vS r_out_0 n_out_0 c_out_0, vS r_out_1 n_out_1 c_out_1] E fun bn aW bW bX => ?_
 replace ⟨ac, O, C⟩ := (so [aa, r_out_1, r_out_0, ab, Z] aW).g3 ac O C
 clear aW bX
 refine .d ?_
 have aX := ac.sl bq
 replace O := (sd bn [aa, r_out_1, r_out_0, ab, Z] r_out_0).g1 O
 have cy := O.sl bt
 replace aX := (sd bn [aa, r_out_1, ab, Z] r_out_1).g1 aX
 exact .rb Tryz.func81 Tryz.results81 bW ⟨(VS.of (y := (⟨af, ag⟩ : Prt)) ⟨_, rfl, ⟨_, _, _, _, _, _, rfl, aX.w1, cy.w1⟩⟩ (by exact flEnd (k := id) p1 (by omega) (by assumption) (by assumption))), C⟩
theorem c_impl_cloneStore2 (s : Sto) {w : World} {F : Nat → Prop} {a1 : Option Addr} {n1 c1 : Nat} (h1 : RepS w F a1 n1 c1 s.idx.names) {a2 : Option Addr} {n2 c2 : Nat} (h2 : RepS w F a2 n2 c2 s.idx.posts) {a3 : Option Addr} {n3 c3 : Nat} (h3 : RepS w F a3 n3 c3 s.parts) {a4 : Option Addr} {n4 c4 : Nat} (h4 : RepS w F a4 n4 c4 s.mem) (p0 : NmI s.idx.names) (p1 : NsD s.idx.names) (p2 : StoSz s) : Calls Tryz.prog 62 [.agg #[.slice a1 n1 c1, .slice a2 n2 c2, .slice a3 n3 c3, .slice a4 n4 c4]].toArray w (rets fun rv w' => (∃ (a0 : Option Addr) (n0 c0 : Nat) (a1 : Option Addr) (n1 c1 : Nat) (r2 n2 c2 : Nat) (r3 n3 c3 : Nat), rv = .agg #[.slice a0 n0 c0, .slice a1 n1 c1, .slice (some ⟨r2, 0, none⟩) n2 c2, .slice (some ⟨r3, 0, none⟩) n3 c3] ∧ RepS w' (nin (ge w.heap.size) [r2, r3]) a0 n0 c0 ((((copyS s)).idx).names) ∧ RepS w' (nin (ge w.heap.size) [r2, r3]) a1 n1 c1 ((((copyS s)).idx).posts) ∧ Own w' r2 75 (nin (ge w.heap.size) [r2, r3]) n2 c2 (((copyS s)).parts) ∧ w.heap.size ≤ r2 ∧ Own w' r3 51 (nin (ge w.heap.size) [r2, r3]) n3 c3 (((copyS s)).mem) ∧ w.heap.size ≤ r3 ∧ Nb r3 r2) ∧ Ext w w') := by
 refine goT Tryz.func62 ?_
 obtain ⟨rfl, dp, h1⟩ := h1.tp
 obtain ⟨rfl, dq, h2⟩ := h2.tp
 obtain ⟨rfl, dr, h3⟩ := h3.tp
 obtain ⟨rfl, dt, h4⟩ := h4.tp
 refine .s <| .g <| .np 30 [.slice a1 s.idx.names.length c1, .slice a2 s.idx.posts.length c2, .slice a3 s.parts.length c3, .slice a4 s.mem.length c4] fun O dV bC aM J cE => ?_
 replace ⟨h1, h3, h4⟩ := (sn [] aM bC).g3 h1 h3 h4
 have C := aM
 clear aM cE bC
 refine .np 30 [.slice none 0 0, .slice none 0 0, .slice none 0 0, .slice none 0 0] fun Z cF aK bD E cG => ?_
 have du := nb_new aK J.lt
 have dv := C.cn aK
 replace ⟨h1, h3, h4, J, C⟩ := (sn [O] bD aK).g5 h1 h3 h4 J C
 clear bD cG aK
 refine .d <| .s ?_
 replace h1 := h1.into
 replace h3 := h3.into
 replace h4 := h4.into
 have aN : Gb (O + 1) cF.heap.size := J.lt
 refine .gd (mtb [] cF.heap.size) 10 fun dW bE => ?_
 replace ⟨h1, h3, h4, J, E, C⟩ := (se [Z, O] bE).g6 h1 h3 h4 J E C
 clear bE
 refine .r [0, 1] <| .lb 2 J (nS_of all_nil aN) <| .r [4] <| .lb 5 J (nS_of all_nil aN) <| .r [8] <| .lb 9 J (nS_of all_nil aN) <| .tw 3 7 ?_ ?_
 ·refine .cl (fun bU aO => c_impl_indexOf s.idx.names (h1.ta.ext aO) p0 p1 (w := bU) (F := all)) ?_
  intro bU aO
  replace ⟨h1, h3, h4, J, E, C⟩ := (se [Z, O] aO).g6 h1 h3 h4 J E C
  rintro dX dY ⟨⟨_, rfl, ⟨bw, dZ, bz, bA, d0, bB, rfl, V, W⟩⟩, aP⟩
  have aQ := al2 E.lt J.lt
  have bF : Gb w.heap.size bU.heap.size := C.size
  have hkeep_ := aP
  replace ⟨h1, h3, h4, J, E, C⟩ := (se [Z, O] aP).g6 h1 h3 h4 J E C
  clear aP
  refine ⟨Ext.chg hkeep_, ?_⟩
  have V := V.fr aQ bF
  have dw := V.max
  have W := W.fr aQ bF
  have dx := W.max
  clear aQ
  have cH := V.len
  subst cH
  have cI := W.len
  subst cI
  refine .tw 6 7 ?_ ?_
  ·refine .cl (fun bV aR => c_impl_cloneParts s.parts (h3.ta.ext aR) (by have := p2.2.1; omega) p2.2.2.1 (w := bV) (F := all)) ?_
   intro bV aR
   replace ⟨h1, h3, h4, J, E, V, W, C⟩ := (se [Z, O] aR).g8 h1 h3 h4 J E V W C
   rintro d3 d4 ⟨⟨az, cJ, cK, rfl, ab, aL⟩, aS⟩
   have bG := al2 E.lt J.lt
   have cL : Gb w.heap.size bV.heap.size := C.size
   have hkeep_ := aS
   have dy := nb_ge aL E.lt
   have cM := gb_ge aL C.size
   replace ⟨h1, h3, h4, J, E, V, W, C⟩ := (sz [Z, O] aS aL).g8 h1 h3 h4 J E V W C
   clear aS aL
   refine ⟨Ext.chg hkeep_, ?_⟩
   replace ab := Own.take (s0 := w.heap.size) (M := [Z, O]) ab bG cL
   have dz := ab.len; have dA := ab.max
   clear bG
   refine .go 7 <| .ns 0 51 [] fun d5 bH => ?_
   replace ⟨h1, h3, h4, J, E, V, W, ab, C⟩ := (se [az, Z, O] bH).g9 h1 h3 h4 J E V W ab C
   clear bH
   intro aT cS av bI cN cO
   have dB := nb_new av J.lt
   have cP := nb_new av E.lt
   have bW := nb_new av ab.lt
   have bX := gb_new av C.size
   have cT := C.cn av
   replace ⟨h1, h3, h4, J, E, V, W, ab, C⟩ := (sn [az, Z, O] bI av).g9 h1 h3 h4 J E V W ab C
   clear bI cO av
   have aC : Own (α := Smp) cS aT 51 (nin (ge w.heap.size) [aT, az, Z, O]) 0 0 [] := Own.nil' cN
   refine .d fun dC aU => ?_
   replace ⟨h1, h3, h4, J, E, V, W, ab, aC, C⟩ := (se [aT, az, Z, O] aU).g10 h1 h3 h4 J E V W ab aC C
   clear aU
   replace h1 := h1.outof
   replace h3 := h3.outof
   replace h4 := h4.outof
   refine RG.appendF (T := 28) (ty := 28) flat_smp aC h4 (by kernel_rfl) (by kernel_rfl) (fun b h e => h.2 (e ▸ (.head _))) (by have := p2.2.2.2; omega) fun aV bJ dD aj am aW => ?_
   have cU := nb_or am cP E.lt
   have bY := nb_or am bW ab.lt
   have bZ := gb_or am bX C.size
   replace ⟨h1, h3, h4, J, E, V, W, ab, C⟩ := (sa [aT, az, Z, O] aW am).g9 h1 h3 h4 J E V W ab C
   clear aW
   replace aj := aj.rn aT
   clear am
   have cV := aj.len; have cW := aj.max
   refine .r 1 <| .sc [.slice bw (((idxOf s.idx.names).names).length) bz, .slice bA (((idxOf s.idx.names).posts).length) bB, vS az cJ cK, vS aV (0 + s.mem.length) bJ] E fun dE aX b0 b6 => ?_
   replace ⟨h1, h3, h4, J, V, W, ab, aj, C⟩ := (so [aV, az, Z, O] aX).g9 h1 h3 h4 J V W ab aj C
   clear aX b6
   exact .d <| .rb Tryz.func62 Tryz.results62 b0 ⟨⟨bw, ((idxOf s.idx.names).names).length, bz, bA, ((idxOf s.idx.names).posts).length, bB, az, cJ, cK, aV, (0 + s.mem.length), bJ, rfl, ((RepS.lessM V (all_cons (.tail _ (.head _)) (all_cons (.head _) all_nil))).eqx (by rfl)), ((RepS.lessM W (all_cons (.tail _ (.head _)) (all_cons (.head _) all_nil))).eqx (by rfl)), ((Own.lessM ab (all_cons (.tail _ (.head _)) (all_cons (.head _) all_nil))).eqx (by rfl)), cM, ((Own.lessM aj (all_cons (.tail _ (.head _)) (all_cons (.head _) all_nil))).eqx (by rfl)), bZ, bY⟩, C⟩
  refine .ns 0 51 [] fun dF aY => ?_
  replace ⟨h1, h3, h4, J, E, V, W, C⟩ := (se [Z, O] aY).g8 h1 h3 h4 J E V W C
  clear aY
  intro au cQ ar aZ b7 b8
  have cX := nb_new ar J.lt
  have b9 := nb_new ar E.lt
  have cd := gb_new ar C.size
  have cY := C.cn ar
  replace ⟨h1, h3, h4, J, E, V, W, C⟩ := (sn [Z, O] aZ ar).g8 h1 h3 h4 J E V W C
  clear aZ b8 ar
  have ah : Own (α := Smp) cQ au 51 (nin (ge w.heap.size) [au, Z, O]) 0 0 [] := Own.nil' b7
  refine .go 6 <| .cl (fun ba aD => c_impl_cloneParts s.parts (h3.ta.ext aD) (by have := p2.2.1; omega) p2.2.2.1 (w := ba) (F := all)) ?_
  intro ba aD
  replace ⟨h1, h3, h4, J, E, V, W, ah, C⟩ := (se [au, Z, O] aD).g9 h1 h3 h4 J E V W ah C
  rintro dG dH ⟨⟨aA, bK, bL, rfl, ac, aw⟩, aE⟩
  have bc := al3 ah.lt E.lt J.lt
  have ce : Gb w.heap.size ba.heap.size := C.size
  have hkeep_ := aE
  have cZ := nb_ge aw E.lt
  have cg := nb_ge aw ah.lt
  have ci := gb_ge aw C.size
  replace ⟨h1, h3, h4, J, E, V, W, ah, C⟩ := (sz [au, Z, O] aE aw).g9 h1 h3 h4 J E V W ah C
  clear aE aw
  refine ⟨Ext.chg hkeep_, ?_⟩
  replace ac := Own.take (s0 := w.heap.size) (M := [au, Z, O]) ac bc ce
  have c7 := ac.len; have c8 := ac.max
  clear bc
  refine .d fun dI bd => ?_
  replace ⟨h1, h3, h4, J, E, V, W, ah, ac, C⟩ := (se [aA, au, Z, O] bd).g10 h1 h3 h4 J E V W ah ac C
  clear bd
  replace h1 := h1.outof
  replace h3 := h3.outof
  replace h4 := h4.outof
  refine RG.appendF (T := 28) (ty := 28) flat_smp ah h4 (by kernel_rfl) (by kernel_rfl) (fun b h e => h.2 (e ▸ (.tail _ (.head _)))) (by have := p2.2.2.2; omega) fun bg bM dJ ak ao bh => ?_
  have c9 := nb_or ao b9 E.lt
  have cj := nb_or ao (Nb.symm cg) ac.lt
  have ck := gb_or ao cd C.size
  replace ⟨h1, h3, h4, J, E, V, W, ac, C⟩ := (sa [aA, au, Z, O] bh ao).g9 h1 h3 h4 J E V W ac C
  clear bh
  replace ak := ak.rn au
  clear ao
  have da := ak.len; have db := ak.max
  refine .r 1 <| .sc [.slice bw (((idxOf s.idx.names).names).length) bz, .slice bA (((idxOf s.idx.names).posts).length) bB, vS aA bK bL, vS bg (0 + s.mem.length) bM] E fun dK bi cm co => ?_
  replace ⟨h1, h3, h4, J, V, W, ak, ac, C⟩ := (so [aA, bg, Z, O] bi).g9 h1 h3 h4 J V W ak ac C
  clear bi co
  exact .d <| .rb Tryz.func62 Tryz.results62 cm ⟨⟨bw, ((idxOf s.idx.names).names).length, bz, bA, ((idxOf s.idx.names).posts).length, bB, aA, bK, bL, bg, (0 + s.mem.length), bM, rfl, ((RepS.lessM V (all_cons (.head _) (all_cons (.tail _ (.head _)) all_nil))).eqx (by rfl)), ((RepS.lessM W (all_cons (.head _) (all_cons (.tail _ (.head _)) all_nil))).eqx (by rfl)), ((Own.lessM ac (all_cons (.head _) (all_cons (.tail _ (.head _)) all_nil))).eqx (by rfl)), ci, ((Own.lessM ak (all_cons (.head _) (all_cons (.tail _ (.head _)) all_nil))).eqx (by rfl)), ck, cj⟩, C⟩
 refine .ns 0 51 [] fun dL bj => ?_
 replace ⟨h1, h3, h4, J, E, C⟩ := (se [Z, O] bj).g6 h1 h3 h4 J E C
 clear bj
 intro ai cR ax bk cp cq
 have cr := nb_new ax E.lt
 have cu := gb_new ax C.size
 have dd := C.cn ax
 replace ⟨h1, h3, h4, J, E, C⟩ := (sn [Z, O] bk ax).g6 h1 h3 h4 J E C
 clear bk cq ax
 have aa : Own (α := Smp) cR ai 51 (nin (ge w.heap.size) [ai, Z, O]) 0 0 [] := Own.nil' cp
 refine .go 3 <| .cl (fun bm aF => c_impl_indexOf s.idx.names (h1.ta.ext aF) p0 p1 (w := bm) (F := all)) ?_
 intro bm aF
 replace ⟨h3, h4, J, E, aa, C⟩ := (se [ai, Z, O] aF).g6 h3 h4 J E aa C
 rintro dM dN ⟨⟨_, rfl, ⟨bN, dO, bO, bP, dP, bQ, rfl, af, ag⟩⟩, aG⟩
 have aH := al3 aa.lt E.lt J.lt
 have bn : Gb w.heap.size bm.heap.size := C.size
 have hkeep_ := aG
 replace ⟨h3, h4, J, E, aa, C⟩ := (se [ai, Z, O] aG).g6 h3 h4 J E aa C
 clear aG
 refine ⟨Ext.chg hkeep_, ?_⟩
 have af := af.fr aH bn
 have de := af.max
 have ag := ag.fr aH bn
 have df := ag.max
 clear aH
 have cv := af.len
 subst cv
 have cw := ag.len
 subst cw
 refine .go 6 <| .cl (fun bo aI => c_impl_cloneParts s.parts (h3.ta.ext aI) (by have := p2.2.1; omega) p2.2.2.1 (w := bo) (F := all)) ?_
 intro bo aI
 replace ⟨h4, J, E, aa, af, ag, C⟩ := (se [ai, Z, O] aI).g7 h4 J E aa af ag C
 rintro dQ dR ⟨⟨aB, bR, bS, rfl, ae, ay⟩, aJ⟩
 have bq := al3 aa.lt E.lt J.lt
 have cx : Gb w.heap.size bo.heap.size := C.size
 have hkeep_ := aJ
 have dg := nb_ge ay E.lt
 have cy := nb_ge ay aa.lt
 have cz := gb_ge ay C.size
 replace ⟨h4, E, aa, af, ag, C⟩ := (sz [ai, Z, O] aJ ay).g6 h4 E aa af ag C
 clear aJ ay
 refine ⟨Ext.chg hkeep_, ?_⟩
 replace ae := Own.take (s0 := w.heap.size) (M := [ai, Z, O]) ae bq cx
 have dh := ae.len; have di := ae.max
 clear bq
 refine .d fun dS br => ?_
 replace ⟨h4, E, aa, af, ag, ae, C⟩ := (se [aB, ai, Z, O] br).g7 h4 E aa af ag ae C
 clear br
 replace h4 := h4.outof
 refine RG.appendF (T := 28) (ty := 28) flat_smp aa h4 (by kernel_rfl) (by kernel_rfl) (fun b h e => h.2 (e ▸ (.tail _ (.head _)))) (by have := p2.2.2.2; omega) fun bt bT dT al aq bu => ?_
 have dj := nb_or aq cr E.lt
 have cA := nb_or aq (Nb.symm cy) ae.lt
 have cB := gb_or aq cu C.size
 replace ⟨E, af, ag, ae, C⟩ := (sa [aB, ai, Z, O] bu aq).g5 E af ag ae C
 clear bu
 replace al := al.rn ai
 clear aq
 have dk := al.len; have dm := al.max
 refine .r 1 <| .sc [.slice bN (((idxOf s.idx.names).names).length) bO, .slice bP (((idxOf s.idx.names).posts).length) bQ, vS aB bR bS, vS bt (0 + s.mem.length) bT] E fun dU bv cC cD => ?_
 replace ⟨al, af, ag, ae, C⟩ := (so [aB, bt, Z, O] bv).g5 al af ag ae C
 clear bv cD
 exact .d <| .rb Tryz.func62 Tryz.results62 cC ⟨⟨bN, ((idxOf s.idx.names).names).length, bO, bP, ((idxOf s.idx.names).posts).length, bQ, aB, bR, bS, bt, (0 + s.mem.length), bT, rfl, ((RepS.lessM af (all_cons (.head _) (all_cons (.tail _ (.head _)) all_nil))).eqx (by rfl)), ((RepS.lessM ag (all_cons (.head _) (all_cons (.tail _ (.head _)) all_nil))).eqx (by rfl)), ((Own.lessM ae (all_cons (.head _) (all_cons (.tail _ (.head _)) all_nil))).eqx (by rfl)), cz, ((Own.lessM al (all_cons (.head _) (all_cons (.tail _ (.head _)) all_nil))).eqx (by rfl)), cB, cA⟩, C⟩
theorem c_impl_StoreFlush (s : Sto) {w : World} {F : Nat → Prop} {a1 : Option Addr} {n1 c1 : Nat} (h1 : RepS w F a1 n1 c1 s.idx.names) {a2 : Option Addr} {n2 c2 : Nat} (h2 : RepS w F a2 n2 c2 s.idx.posts) {a3 : Option Addr} {n3 c3 : Nat} (h3 : RepS w F a3 n3 c3 s.parts) {a4 : Option Addr} {n4 c4 : Nat} (h4 : RepS w F a4 n4 c4 s.mem) (p0 : SD s) : Calls Tryz.prog 29 [.agg #[.slice a1 n1 c1, .slice a2 n2 c2, .slice a3 n3 c3, .slice a4 n4 c4]].toArray w (rets fun rv w' => (∃ v0, rv = .tuple #[v0, .bool ((flushP s).2)] ∧ VS (fo F w.heap.size) w' ((flushP s).1 : Sto) v0) ∧ Ext w w') := by
 refine goT Tryz.func29 ?_
 obtain ⟨rfl, cV, h1⟩ := h1.tp
 obtain ⟨rfl, cW, h2⟩ := h2.tp
 obtain ⟨rfl, cX, h3⟩ := h3.tp
 obtain ⟨rfl, cY, h4⟩ := h4.tp
 refine .s <| .g <| .np 30 [.slice a1 s.idx.names.length c1, .slice a2 s.idx.posts.length c2, .slice a3 s.parts.length c3, .slice a4 s.mem.length c4] fun ab dz bm aG E cj => ?_
 replace ⟨h1, h2, h3, h4⟩ := (sn [] aG bm).g4 h1 h2 h3 h4
 have C := aG
 clear aG cj bm
 refine .np 30 [.slice none 0 0, .slice none 0 0, .slice none 0 0, .slice none 0 0] fun ac cG aD bn O ck => ?_
 have cZ := nb_new aD E.lt
 have c7 := C.cn aD
 replace ⟨h1, h2, h3, h4, E, C⟩ := (sn [ab] bn aD).g6 h1 h2 h3 h4 E C
 clear bn ck aD
 refine .r 1 <| .d <| .s <| .s <| .g <| .ln E <| .cl (c_impl_StoreOk s h1.ta h2.ta h3.ta h4.ta p0 (w := cG) (F := all)) ?_
 rintro dA bE ⟨rfl, bo⟩
 replace ⟨h1, h2, h3, h4, E, O, C⟩ := (se [ac, ab] bo).g7 h1 h2 h3 h4 E O C
 clear bo
 cases c8 : (storeOk s)
 ·refine .r 1 <| .d <| .ct <| .s <| .g <| .r 1 <| .sc [.slice none 0 0, .slice none 0 0, .slice none 0 0, .slice none 0 0] O fun dB bq cm co => ?_
  replace ⟨h1, h2, h3, h4, E, C⟩ := (so [ac, ab] bq).g6 h1 h2 h3 h4 E C
  clear bq co
  exact .r 1 <| .d <| .r2 Tryz.func29 Tryz.results29 (.bx cm) (.t (.bool false)) ⟨⟨_, (tup2 rfl (congrArg Value.bool (by rw [flushP_no (by assumption)]))), (VS.of (y := (⟨(⟨([] : List (List Tag)), ([] : List Pst)⟩ : Idx), ([] : List Prt), ([] : List Smp)⟩ : Sto)) ⟨_, rfl, ⟨_, _, _, _, _, _, _, _, _, _, _, _, rfl, (RepS.nil' _ _ none 0 (by decide)), (RepS.nil' _ _ none 0 (by decide)), (RepS.nil' _ _ none 0 (by decide)), (RepS.nil' _ _ none 0 (by decide))⟩⟩ (by rw [flushP_no (by assumption)]))⟩, C⟩
 refine .r 1 <| .d <| .cf <| .sk <| .s <| .g <| .ln E <| .cl (c_impl_cloneStore2 s h1.ta h2.ta h3.ta h4.ta p0.nm p0.nd p0.sz (w := bE) (F := all)) ?_
 rintro dC aH ⟨⟨bh, dD, bi, bj, dE, bk, af, aI, bF, ae, bG, bH, rfl, V, W, aa, aw, J, ay, cp⟩, aJ⟩
 have az := al2 O.lt E.lt
 have aE : Gb w.heap.size bE.heap.size := C.size
 have br := nb_ge aw E.lt
 have cq := nb_ge aw O.lt
 have aK := gb_ge aw C.size
 have c9 : Cov nil w af := cov_ge aw C.size
 have cr := nb_ge ay E.lt
 have da := nb_ge ay O.lt
 have bt := gb_ge ay C.size
 have bu : Mv [ac, ab] [af, ae, ac, ab] bE aH := Mv.cons (Mv.cons (Mv.ext aJ) ay) aw
 replace ⟨h1, h2, h3, h4, E, O, C⟩ := (sp bu aJ).g7 h1 h2 h3 h4 E O C
 clear bu aJ aw ay
 replace V : RepS aH (nin (ge w.heap.size) [af, ae, ac, ab]) _ _ _ _ := RepS.takeM (s0 := w.heap.size) (M := [ac, ab]) V az aE
 replace V := V.base (G' := fo F w.heap.size) (fun _ _ h => .inr h)
 have db := V.max
 replace W : RepS aH (nin (ge w.heap.size) [af, ae, ac, ab]) _ _ _ _ := RepS.takeM (s0 := w.heap.size) (M := [ac, ab]) W az aE
 replace W := W.base (G' := fo F w.heap.size) (fun _ _ h => .inr h)
 have dd := W.max
 replace aa : Own aH af 75 (nin (ge w.heap.size) [af, ae, ac, ab]) _ _ _ := Own.takeM (s0 := w.heap.size) (M := [ac, ab]) aa az aE
 replace aa := aa.base (G' := fo F w.heap.size) (fun _ _ h => .inr h)
 have de := aa.max
 have df := aa.len
 replace J : Own aH ae 51 (nin (ge w.heap.size) [af, ae, ac, ab]) _ _ _ := Own.takeM (s0 := w.heap.size) (M := [ac, ab]) J az aE
 replace J := J.base (G' := fo F w.heap.size) (fun _ _ h => .inr h)
 have dg := J.max
 have dh := J.len
 clear az
 have cu := V.len
 subst cu
 have cv := W.len
 subst cv
 refine .np 30 [.slice none 0 0, .slice none 0 0, .slice none 0 0, .slice none 0 0] fun ah dF av bv cw cx => ?_
 have di := nb_new av E.lt
 have dj := nb_new av O.lt
 have bw := nb_new av aa.lt
 have bI := nb_new av J.lt
 have cH := C.cn av
 replace ⟨h1, h2, h3, h4, E, O, V, W, aa, J, C⟩ := (sn [af, ae, ac, ab] bv av).g11 h1 h2 h3 h4 E O V W aa J C
 clear bv cx av
 refine .sc [.slice bh (((((copyS s)).idx).names).length) bi, .slice bj (((((copyS s)).idx).posts).length) bk, vS af aI bF, vS ae bG bH] cw fun aL aM Z bJ => ?_
 replace ⟨h1, h2, h3, h4, E, O, V, W, aa, J, C⟩ := (so [ah, af, ae, ac, ab] aM).g11 h1 h2 h3 h4 E O V W aa J C
 clear aM bJ
 refine .d <| .s <| .s <| .g <| .r 1 <| .lb E <| .r 1 <| .eq (s.mem.length : Int) 0 (fun bK => ?_) (fun bK => ?_)
 ·refine .r 6 <| .d <| .ct <| .s <| .g <| .ln Z <| .sc [.slice bh (((((copyS s)).idx).names).length) bi, .slice bj (((((copyS s)).idx).posts).length) bk, vS af aI bF, vS ae bG bH] O fun bz aN bL bM => ?_
  replace ⟨h1, h2, h3, h4, E, V, W, aa, J, Z, C⟩ := (so [ah, af, ae, ac, ab] aN).g11 h1 h2 h3 h4 E V W aa J Z C
  clear aN bM
  refine .r 1 <| .d ?_
  have aO := aa.sl (.inr aK)
  replace ⟨h1, h2, h3, h4, V, W, J⟩ := (sd bz [ah, af, ae, ac, ab] af).g7 h1 h2 h3 h4 V W J
  have cy := J.sl (.inr bt)
  replace ⟨h1, h2, h3, h4, V, W, aO⟩ := (sd bz [ah, ae, ac, ab] ae).g7 h1 h2 h3 h4 V W aO
  exact .r2 Tryz.func29 Tryz.results29 (.bx bL) (.t (.bool false)) ⟨⟨_, (tup2 rfl (congrArg Value.bool (by rw [flushJ_1 p0 (by assumption) (.inl (by assumption))]))), (VS.of (y := (⟨(⟨(((copyS s)).idx).names, (((copyS s)).idx).posts⟩ : Idx), ((copyS s)).parts, ((copyS s)).mem⟩ : Sto)) ⟨_, rfl, ⟨_, _, _, _, _, _, _, _, _, _, _, _, rfl, V.w1, W.w1, aO.w1, cy.w1⟩⟩ (by rw [flushJ_1 p0 (by assumption) (.inl (by assumption))]))⟩, C⟩
 refine .r 2 <| .lb E <| .r 1 <| .eq (s.parts.length : Int) 6 (fun bN => ?_) (fun bN => ?_)
 ·refine .r 1 <| .d <| .ct <| .s <| .g <| .ln Z <| .sc [.slice bh (((((copyS s)).idx).names).length) bi, .slice bj (((((copyS s)).idx).posts).length) bk, vS af aI bF, vS ae bG bH] O fun bA aP bO bP => ?_
  replace ⟨h1, h2, h3, h4, E, V, W, aa, J, Z, C⟩ := (so [ah, af, ae, ac, ab] aP).g11 h1 h2 h3 h4 E V W aa J Z C
  clear aP bP
  refine .r 1 <| .d ?_
  have aQ := aa.sl (.inr aK)
  replace ⟨h1, h2, h3, h4, V, W, J⟩ := (sd bA [ah, af, ae, ac, ab] af).g7 h1 h2 h3 h4 V W J
  have cz := J.sl (.inr bt)
  replace ⟨h1, h2, h3, h4, V, W, aQ⟩ := (sd bA [ah, ae, ac, ab] ae).g7 h1 h2 h3 h4 V W aQ
  exact .r2 Tryz.func29 Tryz.results29 (.bx bO) (.t (.bool false)) ⟨⟨_, (tup2 rfl (congrArg Value.bool (by rw [flushJ_1 p0 (by assumption) (.inr (by assumption))]))), (VS.of (y := (⟨(⟨(((copyS s)).idx).names, (((copyS s)).idx).posts⟩ : Idx), ((copyS s)).parts, ((copyS s)).mem⟩ : Sto)) ⟨_, rfl, ⟨_, _, _, _, _, _, _, _, _, _, _, _, rfl, V.w1, W.w1, aQ.w1, cz.w1⟩⟩ (by rw [flushJ_1 p0 (by assumption) (.inr (by assumption))]))⟩, C⟩
 refine .r 1 <| .d <| .cf <| .sk <| .s ?_
 replace h1 := h1.into
 replace h2 := h2.into
 replace h3 := h3.into
 replace h4 := h4.into
 replace V := V.into
 replace W := W.into
 have bQ : Gb (ab + 1) aL.heap.size := E.lt
 have bR : Gb (ah + 1) aL.heap.size := Z.lt
 refine .gd (mtb [af, ae] aL.heap.size) 5 fun dk aR => ?_
 replace ⟨h1, h2, h3, h4, E, O, V, W, aa, J, Z, C⟩ := (se [ah, af, ae, ac, ab] aR).g12 h1 h2 h3 h4 E O V W aa J Z C
 clear aR
 refine .r [0] <| .lb 1 Z (nS_of (all_cons bw (all_cons bI all_nil)) bR) <| .ln 2 E (nS_of (all_cons (Nb.symm br) (all_cons (Nb.symm cr) all_nil)) bQ) <| .go 3 <| .cl (fun aS au => c_impl_Store_flushed s (h1.ta.ext au) (h2.ta.ext au) (h3.ta.ext au) (h4.ta.ext au) (StoK.of p0 (by assumption)).row (StoK.of p0 (by assumption)).stoI.mem6 (by have := p0.nm2; omega) (w := aS) (F := all)) ?_
 intro aS au
 replace ⟨E, O, V, W, aa, J, Z, C⟩ := (se [ah, af, ae, ac, ab] au).g8 E O V W aa J Z C
 rintro dm dp ⟨⟨_, rfl, ⟨cA, dq, cB, cC, dr, cD, rfl, ai, aj⟩⟩, aA⟩
 have aB := al5 Z.lt aa.lt J.lt O.lt E.lt
 have aT : Gb w.heap.size aS.heap.size := C.size
 have hkeep_ := aA
 replace ⟨E, O, V, W, aa, J, Z, C⟩ := (se [ah, af, ae, ac, ab] aA).g8 E O V W aa J Z C
 clear aA
 refine ⟨Ext.chg hkeep_, ?_⟩
 have ai := ai.fr aB aT
 replace ai := ai.base (G' := fo F w.heap.size) (fun _ _ h => .inr h)
 have cI := ai.max
 have aj := aj.fr aB aT
 replace aj := aj.base (G' := fo F w.heap.size) (fun _ _ h => .inr h)
 have cJ := aj.max
 clear aB
 have bS := ai.len
 subst bS
 have bT := aj.len
 subst bT
 refine .go 4 <| .ns 1 75 [.slice cA (((memPart s.mem).ids).length) cB, .slice cC (((memPart s.mem).blocks).length) cD] fun dt aU => ?_
 replace ⟨E, O, V, W, aa, J, Z, ai, aj, C⟩ := (se [ah, af, ae, ac, ab] aU).g10 E O V W aa J Z ai aj C
 clear aU
 intro bB du am aV aC bU
 have bV := nb_new am E.lt
 have bW := nb_new am O.lt
 have aW := nb_new am aa.lt
 have bX := nb_new am J.lt
 have bY := nb_new am Z.lt
 have bZ := gb_new am C.size
 replace ⟨E, O, V, W, aa, J, Z, ai, aj, C⟩ := (se [ah, af, ae, ac, ab] aV).g10 E O V W aa J Z ai aj C
 clear aV bU am
 refine .d fun dv aX => ?_
 replace ⟨E, O, V, W, aa, J, Z, ai, aj, aC, C⟩ := (se [ah, af, ae, ac, ab] aX).g11 E O V W aa J Z ai aj aC C
 clear aX
 replace V := V.outof
 replace W := W.outof
 have aF : nin (fo F w.heap.size) [ah, af, ae, ac, ab] bB ∧ bB ≠ af := hap_mk (.inr bZ) (all_cons bY (all_cons aW (all_cons bX (all_cons bW (all_cons bV all_nil))))) aW
 refine RG.append1 (T := 27) (ty := 27) (y := (memPart s.mem)) aa aC (by kernel_rfl) (by kernel_rfl) ⟨_, _, _, _, _, _, rfl, ai.oi, aj.oi⟩ aF (by have q1 := p0.np; have q2 : (copyS s).parts.length = s.parts.length := rfl; omega) fun aq bC dw ag ak aY => ?_
 have cK := nb_or ak br E.lt
 have cL := nb_or ak cq O.lt
 have cM := nb_or ak (Nb.symm cp) J.lt
 have cN := nb_or ak (Nb.symm bw) Z.lt
 have b0 := gb_or ak aK C.size
 replace ⟨E, O, V, W, J, Z, C⟩ := (sa [ah, af, ae, ac, ab] aY ak).g7 E O V W J Z C
 clear aY
 replace ag := ag.rn af
 clear ak
 have cO := ag.len; have cP := ag.max
 refine .r 1 <| .ss 2 (vS aq (aI + 1) bC) Z fun dx aZ ax b6 => ?_
 replace ⟨E, O, V, W, ag, J, C⟩ := (so [ah, aq, ae, ac, ab] aZ).g7 E O V W ag J C
 clear aZ b6
 refine .d <| .s <| .g <| .ns 0 51 [] fun ar cE al ba b7 b8 => ?_
 have cQ := nb_new al E.lt
 have cR := nb_new al O.lt
 have cS := nb_new al ag.lt
 have cT := nb_new al J.lt
 have cU := nb_new al ax.lt
 have b9 := gb_new al C.size
 replace ⟨O, V, W, ag, ax, C⟩ := (sn [ah, aq, ae, ac, ab] ba al).g6 O V W ag ax C
 clear ba b8 al
 have ao : Own (α := Smp) cE ar 51 (nin (fo F w.heap.size) [ar, ah, aq, ae, ac, ab]) 0 0 [] := Own.nil' b7
 refine .r 1 <| .ss 3 (vS ar 0 0) ax fun dy bc cd ce => ?_
 replace ⟨O, V, W, ag, ao, C⟩ := (so [ar, ah, aq, ae, ac, ab] bc).g6 O V W ag ao C
 clear bc ce
 refine .d <| .s <| .g <| .ln cd <| .sc [.slice bh (((((copyS s)).idx).names).length) bi, .slice bj (((((copyS s)).idx).posts).length) bk, vS aq (aI + 1) bC, vS ar 0 0] O fun bD bd cg ci => ?_
 replace ⟨V, W, ag, ao, C⟩ := (so [ar, ah, aq, ae, ac, ab] bd).g5 V W ag ao C
 clear bd ci
 refine .r 1 <| .d ?_
 have bg := ag.sl (.inr b0)
 replace ⟨V, W, ao⟩ := (sd bD [ar, ah, aq, ae, ac, ab] aq).g3 V W ao
 have cF := ao.sl (.inr b9)
 replace ⟨V, W, bg⟩ := (sd bD [ar, ah, ae, ac, ab] ar).g3 V W bg
 exact .r2 Tryz.func29 Tryz.results29 (.bx cg) (.t (.bool true)) ⟨⟨_, (tup2 rfl (congrArg Value.bool (by rw [flushJ_2 p0 (by assumption) (by assumption) (by assumption)]))), (VS.of (y := (⟨(⟨(((copyS s)).idx).names, (((copyS s)).idx).posts⟩ : Idx), (((copyS s)).parts ++ [(memPart s.mem)]), []⟩ : Sto)) ⟨_, rfl, ⟨_, _, _, _, _, _, _, _, _, _, _, _, rfl, V.w1, W.w1, bg.w1, cF.w1⟩⟩ (by rw [flushJ_2 p0 (by assumption) (by assumption) (by assumption)]))⟩, C⟩
theorem c_spec_DrawStoreFlush (code : List UInt8) {w : World} {F : Nat → Prop} {a1 : Option Addr} {n1 c1 : Nat} (h1 : RepS w F a1 n1 c1 code)  : Calls Tryz.prog 27 [.slice a1 n1 c1].toArray w (rets fun rv w' => (∃ (s : Sto), VS (fo F w.heap.size) w' (s : Sto) rv ∧ SD s) ∧ Ext w w') := by
 refine goT Tryz.func27 ?_
 obtain ⟨rfl, dz, h1⟩ := h1.tp
 refine .s <| .g <| .np 30 [.slice none 0 0, .slice none 0 0, .slice none 0 0, .slice none 0 0] fun E cg aX aY aa ci => ?_
 have dA : Cov nil w E := cov_new aX (Nat.le_refl _)
 replace h1 := (sn [] aY aX).g1 h1
 have W := aY
 clear aY ci aX
 refine .d <| .s <| .g <| .r 1 <| .cl (c_spec_l6Open code h1 (w := cg) (F := nin (fo F w.heap.size) [E])) ?_
 rintro d7 bI ⟨⟨cN, C, cO, cP, rfl, aZ, ba, ae⟩, bu⟩
 have bv := al1 aa.lt
 have cj : Gb w.heap.size cg.heap.size := W.size
 have dB := nb_ge aZ aa.lt
 have dC : Cov nil w C := cov_ge aZ W.size
 replace ⟨aa, W⟩ := (se [] bu).g2 aa W
 clear bu aZ
 replace ae := RepS.mixedR (b := C) (M := [E]) ae bv cj
 clear bv
 refine .r 1 <| .d <| .s <| .g <| .r 1 <| .cl (c_spec_l72World ba (ae.toAll (.head _)) (by omega) (w := bI) (F := all)) ?_
 rintro d8 aL ⟨⟨aE, ⟨ck, d9, cm, co, ea, cp, cq, eb, cr, ai, cu, cv, ec, ed, ee, ef, eg, eh, ei, ej, ek, rfl, ay, az, aA, aj, aF, aT, aU, aV⟩, dD⟩, cQ, dE, aB, bc⟩
 have aw := al2 ba.lt aa.lt
 have aC : Gb w.heap.size bI.heap.size := W.size
 have cw := nb_ge aF aa.lt
 have cx := nb_ge aF ba.lt
 have cy := gb_ge aF W.size
 have dF : Cov nil w ai := cov_ge aF W.size
 have bw : Mv [C, E] [ai, C, E] bI aL := Mv.cons (Mv.on bc (.head _)) aF
 replace ⟨aa, ae, W⟩ := (sp bw bc).g3 aa ae W
 clear bw bc aF
 replace ay : RepS aL (nin (ge w.heap.size) [ai, C, E]) _ _ _ _ := RepS.takeM (s0 := w.heap.size) (M := [C, E]) ay aw aC
 replace ay := ay.base (G' := fo F w.heap.size) (fun _ _ h => .inr h)
 have dG := ay.max
 replace az : RepS aL (nin (ge w.heap.size) [ai, C, E]) _ _ _ _ := RepS.takeM (s0 := w.heap.size) (M := [C, E]) az aw aC
 replace az := az.base (G' := fo F w.heap.size) (fun _ _ h => .inr h)
 have dH := az.max
 replace aA : RepS aL (nin (ge w.heap.size) [ai, C, E]) _ _ _ _ := RepS.takeM (s0 := w.heap.size) (M := [C, E]) aA aw aC
 replace aA := aA.base (G' := fo F w.heap.size) (fun _ _ h => .inr h)
 have dI := aA.max
 replace aj : Own aL ai 51 (nin (ge w.heap.size) [ai, C, E]) _ _ _ := Own.takeM (s0 := w.heap.size) (M := [C, E]) aj aw aC
 replace aj := aj.base (G' := fo F w.heap.size) (fun _ _ h => .inr h)
 have dJ := aj.max
 have dK := aj.len
 replace aT : RepS aL (nin (ge w.heap.size) [ai, C, E]) _ _ _ _ := RepS.takeM (s0 := w.heap.size) (M := [C, E]) aT aw aC
 replace aT := aT.base (G' := fo F w.heap.size) (fun _ _ h => .inr h)
 have dL := aT.max
 replace aU : RepS aL (nin (ge w.heap.size) [ai, C, E]) _ _ _ _ := RepS.takeM (s0 := w.heap.size) (M := [C, E]) aU aw aC
 replace aU := aU.base (G' := fo F w.heap.size) (fun _ _ h => .inr h)
 have dM := aU.max
 replace aV : RepS aL (nin (ge w.heap.size) [ai, C, E]) _ _ _ _ := RepS.takeM (s0 := w.heap.size) (M := [C, E]) aV aw aC
 replace aV := aV.base (G' := fo F w.heap.size) (fun _ _ h => .inr h)
 have dN := aV.max
 clear aw
 have cz := ay.len
 subst cz
 have cA := az.len
 subst cA
 have cB := aA.len
 subst cB
 have cC := aT.len
 subst cC
 have cD := aU.len
 subst cD
 have cE := aV.len
 subst cE
 refine .r 1 <| .np 30 [.slice none 0 0, .slice none 0 0, .slice none 0 0, .slice none 0 0] fun ab dO av bd bJ bK => ?_
 have cR := nb_new av aa.lt
 have cS := nb_new av aB.lt
 have bL := nb_new av aj.lt
 have cT := W.cn av
 replace ⟨aa, ae, aB, ay, az, aA, aj, W⟩ := (sn [ai, C, E] bd av).g8 aa ae aB ay az aA aj W
 clear bd bK av
 refine .sc [.slice ck aE.store.idx.names.length cm, .slice co aE.store.idx.posts.length cp, .slice cq aE.store.parts.length cr, vS ai cu cv] bJ fun aG bg bh bM => ?_
 replace ⟨aa, ae, aB, ay, az, aA, aj, W⟩ := (so [ab, ai, C, E] bg).g8 aa ae aB ay az aA aj W
 clear bg bM
 refine .d <| .s <| .s <| .g <| .r 1 <| .d <| .b 0 <| T.loop (X := Nat × Nat × (List (List Tag)) × (Option Addr) × Nat × Nat × (List Pst) × (Option Addr) × Nat × Nat × (List Prt) × (Option Addr) × Nat × Nat × (List Smp) × Nat × Nat × Nat) (0, cQ, (aE.store.idx.names : List (List Tag)), ck, aE.store.idx.names.length, cm, (aE.store.idx.posts : List Pst), co, aE.store.idx.posts.length, cp, (aE.store.parts : List Prt), cq, aE.store.parts.length, cr, (aE.store.mem : List Smp), ai, cu, cv) (fun (i, p_, aM, a_s_0, n_s_0, c_s_0, aN, a_s_1, n_s_1, c_s_1, aO, a_s_2, n_s_2, c_s_2, aP, r_s_3, n_s_3, c_s_3) => [(2, .pointer (some ⟨E, 0, none⟩)), (3, .pointer (some ⟨C, 0, none⟩)), (4, .pointer (some ⟨ab, 0, none⟩)), (5, vI (i : Int))]) (fun (i, p_, aM, a_s_0, n_s_0, c_s_0, aN, a_s_1, n_s_1, c_s_1, aO, a_s_2, n_s_2, c_s_2, aP, r_s_3, n_s_3, c_s_3) aq => Chg (ins [C, ai, ab]) aG aq ∧ Own aq r_s_3 51 (nin (fo F w.heap.size) [ab, r_s_3, C, E]) n_s_3 c_s_3 aP ∧ OrB r_s_3 ai aG.heap.size ∧ RepS aq (nin (fo F w.heap.size) [ab, r_s_3, C, E]) a_s_0 n_s_0 c_s_0 aM ∧ RepS aq (nin (fo F w.heap.size) [ab, r_s_3, C, E]) a_s_1 n_s_1 c_s_1 aN ∧ RepS aq (nin (fo F w.heap.size) [ab, r_s_3, C, E]) a_s_2 n_s_2 c_s_2 aO ∧ Box aq C 140 [.slice cO cN.length cP, vI (p_ : Int)] ∧ Box aq ab 30 [.slice a_s_0 n_s_0 c_s_0, .slice a_s_1 n_s_1 c_s_1, .slice a_s_2 n_s_2 c_s_2, vS r_s_3 n_s_3 c_s_3] ∧ (i ≤ 3) ∧ (p_ ≤ 3200 + 3200 * i) ∧ (SD (⟨⟨aM, aN⟩, aO, aP⟩ : Sto))) (fun (i, p_, aM, a_s_0, n_s_0, c_s_0, aN, a_s_1, n_s_1, c_s_1, aO, a_s_2, n_s_2, c_s_2, aP, r_s_3, n_s_3, c_s_3) => 3 - i) (by kernel_rfl) ⟨by kernel_rfl, by kernel_rfl, by kernel_rfl, by kernel_rfl, trivial⟩ ⟨Chg.refl _ _, aj, orb_refl, ay, az, aA, aB, bh, (by omega), (by omega), (by assumption)⟩ ?_
 rintro ⟨i, p_, aM, a_s_0, n_s_0, c_s_0, aN, a_s_1, n_s_1, c_s_1, aO, a_s_2, n_s_2, c_s_2, aP, r_s_3, n_s_3, c_s_3⟩ dP aq ⟨ah, Z, aD, J, O, V, bN, ac, cU, cV, cW⟩ aW
 have cX := nb_or' aD cw aa.lt
 have cY := nb_or' aD cx aB.lt
 have cZ := nb_or' aD (Nb.symm bL) bh.lt
 have aQ := gb_or' aD cy W.size
 have c7 : Cov (ins [C, ai, ab]) aG C := ⟨.inl (.head _)⟩
 have c8 : Cov (ins [C, ai, ab]) aG ab := ⟨.inl (.tail _ (.tail _ (.head _)))⟩
 have bi : Mv [ab, ai, C, E] [ab, r_s_3, C, E] aG aq := Mv.inl ah (all_cons (.tail _ (.tail _ (.head _))) (all_cons (.tail _ (.head _)) (all_cons (.head _) all_nil))) (all_cons (.inl (.head _)) (all_cons (orb_mem aD (.tail _ (.head _))) (all_cons (.inl (.tail _ (.tail _ (.head _)))) (all_cons (.inl (.tail _ (.tail _ (.tail _ (.head _))))) all_nil))))
 replace ⟨aa, ae, W⟩ := (sp bi ah).g3 aa ae W
 clear bi
 have c9 := Z.len; have da := Z.max
 have db := J.len; have dd := J.max
 have de := O.len; have df := O.max
 have dg := V.len; have dh := V.max
 refine .s <| .s <| .g <| .r 1 <| .bp ((i : Int) < 3) (fun bO => ?_) (fun bO => ?_)
 ·refine .r 2 <| .lb ac <| .r 1 <| .eq (n_s_3 : Int) 0 (fun bP => ?_) (fun bP => ?_)
  ·refine .r 3 <| .cl (c_spec_l6Rd_pick 8 bN (ae.toAll (.tail _ (.tail _ (.head _)))) (by omega) (w := aq) (F := all)) ?_
   rintro dQ bj ⟨⟨cF, rfl, di⟩, dR, dj, bk, bm⟩
   replace ⟨aa, ae, Z, ac, J, O, V, W, ah⟩ := (so [ab, r_s_3, C, E] bm).g9 aa ae Z ac J O V W ah
   clear bm
   refine .bp (cF > 0) (fun bQ => ?_) (fun bQ => ?_)
   ·refine .r 1 <| .d <| .ct <| .sk <| .s <| .b 1 <| .g <| .r 1 <| .cl (c_spec_l72World bk (ae.toAll (.tail _ (.tail _ (.head _)))) (by omega) (w := bj) (F := all)) ?_
    rintro dS ax ⟨⟨ar, ⟨bz, dT, bA, bB, dU, bC, bD, dV, bE, af, bF, bG, dW, dX, dY, dZ, d0, d3, d4, d5, d6, rfl, ak, al, am, ag, aK, aH, aI, aJ⟩, dk⟩, cG, dm, aR, aS⟩
    have ao := al4 ac.lt Z.lt bk.lt aa.lt
    have au : Gb w.heap.size bj.heap.size := W.size
    have dp := nb_ge aK ac.lt
    have bR : OrB af ai aG.heap.size := Or.inr (gb_ge aK ah.size)
    have bn : Mv [ab, r_s_3, C, E] [af, ab, r_s_3, C, E] bj ax := Mv.cons (Mv.on aS (.tail _ (.tail _ (.head _)))) aK
    replace ⟨aa, Z, ac, J, O, V, W, ah⟩ := (sp bn aS).g8 aa Z ac J O V W ah
    clear bn aS aK
    replace ak : RepS ax (nin (ge w.heap.size) [af, ab, r_s_3, C, E]) _ _ _ _ := RepS.takeM (s0 := w.heap.size) (M := [ab, r_s_3, C, E]) ak ao au
    replace ak := ak.base (G' := fo F w.heap.size) (fun _ _ h => .inr h)
    have dq := ak.max
    replace al : RepS ax (nin (ge w.heap.size) [af, ab, r_s_3, C, E]) _ _ _ _ := RepS.takeM (s0 := w.heap.size) (M := [ab, r_s_3, C, E]) al ao au
    replace al := al.base (G' := fo F w.heap.size) (fun _ _ h => .inr h)
    have dr := al.max
    replace am : RepS ax (nin (ge w.heap.size) [af, ab, r_s_3, C, E]) _ _ _ _ := RepS.takeM (s0 := w.heap.size) (M := [ab, r_s_3, C, E]) am ao au
    replace am := am.base (G' := fo F w.heap.size) (fun _ _ h => .inr h)
    have dt := am.max
    replace ag : Own ax af 51 (nin (ge w.heap.size) [af, ab, r_s_3, C, E]) _ _ _ := Own.takeM (s0 := w.heap.size) (M := [ab, r_s_3, C, E]) ag ao au
    replace ag := ag.base (G' := fo F w.heap.size) (fun _ _ h => .inr h)
    have du := ag.max
    have dv := ag.len
    replace aH : RepS ax (nin (ge w.heap.size) [af, ab, r_s_3, C, E]) _ _ _ _ := RepS.takeM (s0 := w.heap.size) (M := [ab, r_s_3, C, E]) aH ao au
    replace aH := aH.base (G' := fo F w.heap.size) (fun _ _ h => .inr h)
    have dw := aH.max
    replace aI : RepS ax (nin (ge w.heap.size) [af, ab, r_s_3, C, E]) _ _ _ _ := RepS.takeM (s0 := w.heap.size) (M := [ab, r_s_3, C, E]) aI ao au
    replace aI := aI.base (G' := fo F w.heap.size) (fun _ _ h => .inr h)
    have dx := aI.max
    replace aJ : RepS ax (nin (ge w.heap.size) [af, ab, r_s_3, C, E]) _ _ _ _ := RepS.takeM (s0 := w.heap.size) (M := [ab, r_s_3, C, E]) aJ ao au
    replace aJ := aJ.base (G' := fo F w.heap.size) (fun _ _ h => .inr h)
    have dy := aJ.max
    clear ao
    have bS := ak.len
    subst bS
    have bT := al.len
    subst bT
    have bU := am.len
    subst bU
    have bV := aH.len
    subst bV
    have bW := aI.len
    subst bW
    have bX := aJ.len
    subst bX
    refine .r 1 <| .sc [.slice bz ar.store.idx.names.length bA, .slice bB ar.store.idx.posts.length bC, .slice bD ar.store.parts.length bE, vS af bF bG] ac fun bH bo bY bZ => ?_
    replace ⟨aa, aR, Z, J, O, V, ak, al, am, ag, W, ah⟩ := (so [af, ab, r_s_3, C, E] bo).g12 aa aR Z J O V ak al am ag W ah
    clear bo bZ
    refine .d <| .ib 1 <| .g <| .r 1 <| .it ((i : Int) + 1) <| .r 1 <| .d ?_
    have b0 : Mv [af, ab, r_s_3, C, E] [ab, af, C, E] bH bH := Mv.less (all_cons (.tail _ (.head _)) (all_cons (.head _) (all_cons (.tail _ (.tail _ (.tail _ (.head _)))) (all_cons (.tail _ (.tail _ (.tail _ (.tail _ (.head _))))) all_nil))))
    replace ⟨Z, J, O, V, ak, al, am, ag⟩ := (sp b0 (Chg.refl nil _)).g8 Z J O V ak al am ag
    exact aW (i + 1, cG, ar.store.idx.names, bz, ar.store.idx.names.length, bA, ar.store.idx.posts, bB, ar.store.idx.posts.length, bC, ar.store.parts, bD, ar.store.parts.length, bE, ar.store.mem, af, bF, bG) _ _ ⟨by kernel_rfl, by kernel_rfl, by kernel_rfl, by kernel_rfl, trivial⟩ ⟨ah, ag, bR, ak, al, am, aR, bY, (by omega), (by omega), (by assumption)⟩ (by (simp only []; omega))
   refine .r 1 <| .d <| .cf <| .x 0 rfl <| .s <| .g <| .ln ac <| .sc [.slice a_s_0 n_s_0 c_s_0, .slice a_s_1 n_s_1 c_s_1, .slice a_s_2 n_s_2 c_s_2, vS r_s_3 n_s_3 c_s_3] aa fun cH bq b6 b7 => ?_
   replace ⟨Z, ac, J, O, V, W⟩ := (so [ab, r_s_3, C, E] bq).g6 Z ac J O V W
   clear bq b7
   refine .d ?_
   have cI := Z.sl (.inr aQ)
   replace ⟨J, O, V⟩ := (sd cH [ab, r_s_3, C, E] r_s_3).g3 J O V
   exact .rb Tryz.func27 Tryz.results27 b6 ⟨⟨((⟨(⟨aM, aN⟩ : Idx), aO, aP⟩ : Sto) : Sto), ⟨_, rfl, ⟨_, _, _, _, _, _, _, _, _, _, _, _, rfl, J.w1, O.w1, V.w1, cI.w1⟩⟩, (by assumption)⟩, W⟩
  refine .r 6 <| .d <| .cf <| .x 0 rfl <| .s <| .g <| .ln ac <| .sc [.slice a_s_0 n_s_0 c_s_0, .slice a_s_1 n_s_1 c_s_1, .slice a_s_2 n_s_2 c_s_2, vS r_s_3 n_s_3 c_s_3] aa fun cJ br b8 b9 => ?_
  replace ⟨Z, ac, J, O, V, W⟩ := (so [ab, r_s_3, C, E] br).g6 Z ac J O V W
  clear br b9
  refine .d ?_
  have cK := Z.sl (.inr aQ)
  replace ⟨J, O, V⟩ := (sd cJ [ab, r_s_3, C, E] r_s_3).g3 J O V
  exact .rb Tryz.func27 Tryz.results27 b8 ⟨⟨((⟨(⟨aM, aN⟩ : Idx), aO, aP⟩ : Sto) : Sto), ⟨_, rfl, ⟨_, _, _, _, _, _, _, _, _, _, _, _, rfl, J.w1, O.w1, V.w1, cK.w1⟩⟩, (by assumption)⟩, W⟩
 refine .r 11 <| .d <| .cf <| .x 0 rfl <| .s <| .g <| .ln ac <| .sc [.slice a_s_0 n_s_0 c_s_0, .slice a_s_1 n_s_1 c_s_1, .slice a_s_2 n_s_2 c_s_2, vS r_s_3 n_s_3 c_s_3] aa fun cL bt cd ce => ?_
 replace ⟨Z, J, O, V, W⟩ := (so [ab, r_s_3, C, E] bt).g5 Z J O V W
 clear bt ce
 refine .d ?_
 have cM := Z.sl (.inr aQ)
 replace ⟨J, O, V⟩ := (sd cL [ab, r_s_3, C, E] r_s_3).g3 J O V
 exact .rb Tryz.func27 Tryz.results27 cd ⟨⟨((⟨(⟨aM, aN⟩ : Idx), aO, aP⟩ : Sto) : Sto), ⟨_, rfl, ⟨_, _, _, _, _, _, _, _, _, _, _, _, rfl, J.w1, O.w1, V.w1, cM.w1⟩⟩, (by assumption)⟩, W⟩
end Go.Proofs.YtfnpaglcnmcnbaaGreat
