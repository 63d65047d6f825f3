/- What asking computes, as plain functions, and its laws. -/
import Derived.Test.YtganlmloonielaaGreatFlszMod20
import Derived.Test.YtganlmloonielaaGreatFlszMem
import Derived.Shelf.Lays
import Derived.Shelf.Strings.OnBuilder
import Derived.Test.YtganlmloonielaaGreatProg
set_option linter.unusedVariables false
set_option linter.unusedSimpArgs false
namespace Go.Proofs.YtganlmloonielaaGreat
section
variable {P : Program} {f : FuncId} {fn : Func} {R : Value → World → Prop} {c : Code} {e : Env} {w : World}
theorem mapM4 (f : ResultVar → Sem Value) (r r' r2 r3 : ResultVar) : (#[r, r', r2, r3]).mapM f = (do let v ← f r; let v' ← f r'; let v2 ← f r2; let v3 ← f r3; pure #[v, v', v2, v3]) := by
 simp
theorem run_results4 {a : Act} {r r' r'' r''' : ResultVar} {v v' v'' v''' : Value} (hs : Sees fn.ntmps a e) (hr : fn.results = #[r, r', r'', r''']) (h : Res1 P w e r v) (h' : Res1 P w e r' v') (h'' : Res1 P w e r'' v'') (h3 : Res1 P w e r''' v''') :
 (results fn a.tmps).run P w = .ok (.tuple #[v, v', v'', v''']) w := by
 rw [results_eq, hr, mapM4]
 refine run_bind_ok (a := #[v, v', v'', v''']) ?_
 rw [run_bind_ok (h.run hs), run_bind_ok (h'.run hs), run_bind_ok (h''.run hs), run_bind_ok (h3.run hs)]
 rfl
theorem T.ret4 {k} {r r' r'' r''' : ResultVar} {v v' v'' v''' : Value} (h : isRet c = true) (hf : P.funcs[f]? = some fn) (hres : fn.results = #[r, r', r'', r''']) (h1 : Res1 P w e r v) (h2 : Res1 P w e r' v') (h3 : Res1 P w e r'' v'') (h4 : Res1 P w e r''' v''')
 (hR : R (.tuple #[v, v', v'', v''']) w) : T P f fn R (.code c :: k) e w :=
 T.leave h (fun _ hs => run_results4 hs hres h1 h2 h3 h4) hf hR
theorem T.r4 {k} {r r' r'' r''' : ResultVar} {v v' v'' v''' : Value} (hf : P.funcs[f]? = some fn) (hres : fn.results = #[r, r', r'', r''']) (h1 : Res1 P w e r v) (h2 : Res1 P w e r' v') (h3 : Res1 P w e r'' v'') (h4 : Res1 P w e r''' v''') (hR : R (.tuple #[v, v', v'', v''']) w) (h : isRet c = true := by kernel_rfl) : T P f fn R (.code c :: k) e w :=
 T.ret4 h hf hres h1 h2 h3 h4 hR
end
def cutB (b : List Row) (lo hi : Int) : List Row := b.filter (fun r => inR r.t lo hi)
def cutI (b : List Row) (lo hi : Int) : List Row := if blockOk b then cutB b lo hi else []
def fits (f : List Cnd) (n : List Tag) : Bool := f.all (fun c => has n c.tag != c.no)
def filtOk (f : List Cnd) : Bool := f.all (fun c => tagOk c.tag) && decide (f.length ≤ 3)
def fitsI (f : List Cnd) (n : List Tag) : Bool := filtOk f && nameOk n && fits f n
def findP (p : List Tag → Bool) : Nat → List (List Tag) → List Int
 | _, [] => []
 | i, n :: ns => (if p n then [(i : Int) + 1] else []) ++ findP p (i + 1) ns
def hit1 (s : Sto) (lo hi : Int) (id : Int) : List Hit := if (cutB (rowsOf s id) lo hi).length > 0 then [⟨text (s.idx.names.getD (id - 1).toNat []), cutB (rowsOf s id) lo hi⟩] else []
def askP (p : List Tag → Bool) (s : Sto) (lo hi : Int) : List Hit := (findP p 0 s.idx.names).flatMap (hit1 s lo hi)
def askS (s : Sto) (f : List Cnd) (lo hi : Int) : List Hit := if storeOk s && filtOk f then askP (fits f) s lo hi else []
theorem findP_mem {p : List Tag → Bool} : ∀ (l : List (List Tag)) (i : Nat) (x : Int), x ∈ findP p i l → (i : Int) + 1 ≤ x ∧ x ≤ (i : Int) + l.length := by
 intro l
 induction l with
 | nil => intro i x h; simp [findP] at h
 | cons n ns ih =>
   intro i x h
   unfold findP at h
   rcases List.mem_append.1 h with h | h
   ·split at h
    ·simp at h; subst h; simp only [List.length_cons]; omega
    ·cases h
   ·have := ih (i + 1) x h
    simp only [List.length_cons]; omega
theorem findP_in {p : List Tag → Bool} {l : List (List Tag)} {x : Int} (h : x ∈ findP p 0 l) : 1 ≤ x ∧ x ≤ l.length := by have := findP_mem l 0 x h; omega
theorem findP_all {p : List Tag → Bool} : ∀ (l : List (List Tag)) (i : Nat), (∀ n ∈ l, p n = false) → findP p i l = [] := by
 intro l
 induction l with
 | nil => intro i _; rfl
 | cons n ns ih =>
   intro i h
   unfold findP
   rw [h n (by simp), ih (i + 1) (fun m hm => h m (by simp [hm]))]
   rfl
theorem findP_eq {p q : List Tag → Bool} : ∀ (l : List (List Tag)) (i : Nat), (∀ n ∈ l, p n = q n) → findP p i l = findP q i l := by
 intro l
 induction l with
 | nil => intro i _; rfl
 | cons n ns ih =>
   intro i h
   unfold findP
   rw [h n (by simp), ih (i + 1) (fun m hm => h m (by simp [hm]))]
theorem findP_fits {f : List Cnd} {x : Idx} (hx : NmI x.names) (hf : filtOk f = true) : findP (fitsI f) 0 x.names = findP (fits f) 0 x.names := findP_eq _ _ (fun n hn => by unfold fitsI; rw [hf, hx.ok n hn]; rfl)
theorem findP_no {f : List Cnd} {x : Idx} (hf : filtOk f = false) : findP (fitsI f) 0 x.names = [] := findP_all _ _ (fun n _ => by unfold fitsI; rw [hf]; rfl)
theorem rowsI_in {s : Sto} {i : Int} (hk : storeOk s = true) (h1 : 1 ≤ i) (h2 : i ≤ s.idx.names.length) : rowsI s i = rowsOf s i := rowsI_yes hk (by unfold inR; simp [h1, h2])
theorem blk_of {s : Sto} (h : SD s) (hk : storeOk s = true) (i : Int) : Blk (rowsOf s i) := by
 have hI := (StoK.of h hk).stoI
 have key : ∀ (mem : List Smp) (o : List Row), (∀ m ∈ mem, rowOk m.row = true) → Blk o → Blk (mem.foldl (rowsM i) o) := by
  intro mem
  induction mem with
  | nil => intro o _ ho; exact ho
  | cons m ms ih =>
    intro o hm ho
    refine ih _ (fun q hq => hm q (by simp [hq])) ?_
    unfold rowsM
    split
    ·exact ho.put (hm m (by simp))
    ·exact ho
 have key2 : ∀ (ps : List Prt) (o : List Row), (∀ p ∈ ps, PrtI p) → Blk o → Blk (ps.foldl (rowsP i) o) := by
  intro ps
  induction ps with
  | nil => intro o _ ho; exact ho
  | cons p ps ih => intro o hp ho; exact ih _ (fun q hq => hp q (by simp [hq])) (ho.merge ((hp p (by simp)).of i))
 exact key _ _ (fun m hm => (hI.mem m hm).2.2) (key2 _ _ hI.part Blk.nil)
theorem ok_24 {s : Sto} (hk : storeOk s = true) {i : Int} (h1 : 1 ≤ i) (h2 : i ≤ s.idx.names.length) : (rowsOf s i).length ≤ 24 := by
 unfold storeOk at hk
 simp only [Bool.and_eq_true, decide_eq_true_eq, List.all_eq_true, List.mem_range, cntOk] at hk
 have := hk.2 (i.toNat - 1) (by omega)
 rwa [show ((i.toNat - 1 : Nat) : Int) + 1 = i by omega] at this
theorem rows_bok {s : Sto} (h : SD s) (hk : storeOk s = true) {i : Int} (h1 : 1 ≤ i) (h2 : i ≤ s.idx.names.length) : blockOk (rowsOf s i) = true := by
 unfold blockOk
 have a1 : blockF none (rowsOf s i) = true := blk_of h hk i
 rw [a1, Bool.true_and, decide_eq_true_eq]
 exact ok_24 hk h1 h2
theorem cutI_rows {s : Sto} (h : SD s) (hk : storeOk s = true) {i : Int} (h1 : 1 ≤ i) (h2 : i ≤ s.idx.names.length) (lo hi : Int) : cutI (rowsOf s i) lo hi = cutB (rowsOf s i) lo hi := by
 unfold cutI; rw [if_pos (rows_bok h hk h1 h2)]
theorem askS_I {s : Sto} {f : List Cnd} {lo hi : Int} (hd : SD s) (h : storeOk s = true) : askS s f lo hi = askP (fitsI f) s lo hi := by
 unfold askS askP
 cases h2 : filtOk f with
 | true => rw [h, findP_fits hd.nm h2]; rfl
 | false => rw [findP_no h2]; simp
end Go.Proofs.YtganlmloonielaaGreat
namespace Go.Proofs.YtganlmloonielaaGreat
set_option maxRecDepth 100000
set_option maxHeartbeats 4000000
theorem c_impl_Store_flushed (s : Sto) {w : World} {F : Nat → Prop} {a1 : Option Addr} {n1 c1 : Nat} (h1 : RepS w F a1 n1 c1 s.idx.names) {a2 : Option Addr} {n2 c2 : Nat} (h2 : RepS w F a2 n2 c2 s.idx.posts) {a3 : Option Addr} {n3 c3 : Nat} (h3 : RepS w F a3 n3 c3 s.parts) {a4 : Option Addr} {n4 c4 : Nat} (h4 : RepS w F a4 n4 c4 s.mem) (p0 : ∀ m ∈ s.mem, rowOk m.row = true) (p1 : ∀ m ∈ s.mem, 1 ≤ m.id ∧ m.id ≤ 6) (p2 : s.mem.length ≤ 1000) : Calls Tryz.prog 53 [.agg #[.slice a1 n1 c1, .slice a2 n2 c2, .slice a3 n3 c3, .slice a4 n4 c4]].toArray w (rets fun rv w' => VS (ge w.heap.size) w' (memPart s.mem : Prt) rv ∧ Ext w w') := by
 refine goT Tryz.func53 ?_
 obtain ⟨rfl, cV, h1⟩ := h1.tp
 obtain ⟨rfl, cW, h2⟩ := h2.tp
 obtain ⟨rfl, cX, h3⟩ := h3.tp
 obtain ⟨rfl, cY, h4⟩ := h4.tp
 refine .s <| .g <| .np 34 [.slice a1 s.idx.names.length c1, .slice a2 s.idx.posts.length c2, .slice a3 s.parts.length c3, .slice a4 s.mem.length c4] fun ab dy ba aJ J b0 => ?_
 replace h4 := (sn [] aJ ba).g1 h4
 have C := aJ
 refine .np 42 [.slice none 0 0, .slice none 0 0] fun ae dz aK bc E b6 => ?_
 have cZ := C.cn aK
 replace ⟨h4, J, C⟩ := (sn [ab] bc aK).g3 h4 J C
 refine .d <| .s <| .g <| .ns 0 3 [] fun al cB aC bd b7 b8 => ?_
 have b9 := nb_new aC J.lt
 have cd := nb_new aC E.lt
 have ce := gb_new aC C.size
 have cg := C.cn aC
 replace ⟨h4, J, E, C⟩ := (sn [ae, ab] bd aC).g4 h4 J E C
 have ar : Own (α := Int) cB al 3 (nin (ge w.heap.size) [al, ae, ab]) 0 0 [] := Own.nil' b7
 refine .ns 0 91 [] fun ay cC az bg ci cj => ?_
 have ck := nb_new az J.lt
 have cm := nb_new az E.lt
 have co := nb_new az ar.lt
 have cp := gb_new az C.size
 have cq := C.cn az
 replace ⟨h4, J, E, ar, C⟩ := (sn [al, ae, ab] bg az).g5 h4 J E ar C
 have aD : Own (α := List Row) cC ay 91 (nin (ge w.heap.size) [ay, al, ae, ab]) 0 0 [] := Own.nil' ci
 refine .r 1 <| .np 42 [.slice none 0 0, .slice none 0 0] fun ac dA aA bh cr cu => ?_
 have c7 := nb_new aA J.lt
 have c8 := nb_new aA E.lt
 have cv := nb_new aA ar.lt
 have cw := nb_new aA aD.lt
 have c9 := C.cn aA
 replace ⟨h4, J, E, ar, aD, C⟩ := (sn [ay, al, ae, ab] bh aA).g6 h4 J E ar aD C
 refine .sc [vS al 0 0, vS ay 0 0] cr fun aG bi aL cx => ?_
 replace ⟨h4, J, E, ar, aD, C⟩ := (so [ac, ay, al, ae, ab] bi).g6 h4 J E ar aD C
 refine .d <| .s <| .s <| .g <| .r 1 <| .d <| .b 0 <| T.loop (X := Nat × (List Int) × Nat × Nat × Nat × (List (List Row)) × Nat × Nat × Nat) (1, ([] : List Int), al, 0, 0, ([] : List (List Row)), ay, 0, 0) (fun (id, ah, r_out_0, n_out_0, c_out_0, ai, r_out_1, n_out_1, c_out_1) => [(1, .pointer (some ⟨ab, 0, none⟩)), (2, .pointer (some ⟨ae, 0, none⟩)), (3, .pointer (some ⟨ac, 0, none⟩)), (4, vI (id : Int))]) (fun (id, ah, r_out_0, n_out_0, c_out_0, ai, r_out_1, n_out_1, c_out_1) aE => Chg (ins [al, ay, ac]) aG aE ∧ Own aE r_out_0 3 (nin (ge w.heap.size) [ac, r_out_1, r_out_0, ae, ab]) n_out_0 c_out_0 ah ∧ OrB r_out_0 al aG.heap.size ∧ Own aE r_out_1 91 (nin (ge w.heap.size) [ac, r_out_1, r_out_0, ae, ab]) n_out_1 c_out_1 ai ∧ OrB r_out_1 ay aG.heap.size ∧ Nb r_out_1 r_out_0 ∧ Box aE ac 42 [vS r_out_0 n_out_0 c_out_0, vS r_out_1 n_out_1 c_out_1] ∧ (1 ≤ id) ∧ (id ≤ 7) ∧ (ah.length ≤ id) ∧ (ai.length ≤ id) ∧ (ah = (makeF 0 (memL s.mem (id - 1))).1) ∧ (ai = (makeF 0 (memL s.mem (id - 1))).2)) (fun (id, ah, r_out_0, n_out_0, c_out_0, ai, r_out_1, n_out_1, c_out_1) => 7 - id) (by kernel_rfl) ⟨by kernel_rfl, by kernel_rfl, by kernel_rfl, by kernel_rfl, trivial⟩ ⟨Chg.refl _ _, ar, orb_refl, aD, orb_refl, co, aL, (by omega), (by omega), (by (simp; done)), (by (simp; done)), (by rfl), (by rfl)⟩ ?_
 rintro ⟨id, ah, r_out_0, n_out_0, c_out_0, ai, r_out_1, n_out_1, c_out_1⟩ dB aE ⟨aa, af, au, O, av, bj, ag, da, db, de, df, dg, dh⟩ aF
 have dj := nb_or' au b9 J.lt
 have dm := nb_or' au cd E.lt
 have br := nb_or' au (Nb.symm cv) aL.lt
 have bt := gb_or' au ce C.size
 have cD := cov_or' au cg C.size
 have cE := nb_or' av ck J.lt
 have cF := nb_or' av cm E.lt
 have bu := nb_or' av (Nb.symm cw) aL.lt
 have bv := gb_or' av cp C.size
 have cG := cov_or' av cq C.size
 have bw : Cov (ins [al, ay, ac]) aG al := ⟨.inl (.head _)⟩
 have bz : Cov (ins [al, ay, ac]) aG ay := ⟨.inl (.tail _ (.head _))⟩
 have cH : Cov (ins [al, ay, ac]) aG ac := ⟨.inl (.tail _ (.tail _ (.head _)))⟩
 have cI := cov_or' au bw (Nat.le_refl _)
 have cJ := cov_or' av bz (Nat.le_refl _)
 have aM : Mv [ac, ay, al, ae, ab] [ac, r_out_1, r_out_0, ae, ab] aG aE := Mv.inl aa (all_cons (.tail _ (.tail _ (.head _))) (all_cons (.tail _ (.head _)) (all_cons (.head _) all_nil))) (all_cons (.inl (.head _)) (all_cons (orb_mem av (.tail _ (.head _))) (all_cons (orb_mem au (.tail _ (.tail _ (.head _)))) (all_cons (.inl (.tail _ (.tail _ (.tail _ (.head _))))) (all_cons (.inl (.tail _ (.tail _ (.tail _ (.tail _ (.head _)))))) all_nil)))))
 replace ⟨h4, J, E, C⟩ := (sp aM aa).g4 h4 J E C
 have cK := af.len; have cL := af.max
 have cM := O.len; have cN := O.max
 refine .s <| .s <| .g <| .r 1 <| .bp ((id : Int) ≤ 6) (fun bA => ?_) (fun bA => ?_)
 ·refine .d <| .ct <| .sk <| .s <| .b 1 <| .s <| .g <| .r 1 <| .lb J <| .r 2 <| .cl (c_impl_Store_rows (⟨(⟨([] : List (List Tag)), ([] : List Pst)⟩ : Idx), ([] : List Prt), s.mem⟩ : Sto) (id : Int) (RepS.nil' _ all none 0 (by decide)) (RepS.nil' _ all none 0 (by decide)) (RepS.nil' _ all none 0 (by decide)) h4.ta (by simp) p0 (by simp) p2 (w := aE) (F := all)) ?_
  rintro dp dq ⟨⟨cy, cz, rfl, aj⟩, aN⟩
  have aO := al5 ag.lt O.lt af.lt E.lt J.lt
  have bB : Gb w.heap.size aE.heap.size := C.size
  replace ⟨J, E, af, O, ag, C, aa⟩ := (se [ac, r_out_1, r_out_0, ae, ab] aN).g7 J E af O ag C aa
  have aj := aj.fr aO bB
  have cO := aj.max
  refine .r 1 <| .d <| .s <| .g <| .r 2 <| .bp ((((rowsOf (⟨(⟨([] : List (List Tag)), ([] : List Pst)⟩ : Idx), ([] : List Prt), s.mem⟩ : Sto) (id : Int)).length) : Int) > 0) (fun bC => ?_) (fun bC => .d <| .cf <| .sk <| .ib 1 <| .g <| .r 1 <| .it ((id : Int) + 1) <| .r 1 <| .d <| aF (id + 1, ah, r_out_0, n_out_0, c_out_0, ai, r_out_1, n_out_1, c_out_1) _ _ ⟨by kernel_rfl, by kernel_rfl, by kernel_rfl, by kernel_rfl, trivial⟩ ⟨aa, af, au, O, av, bj, ag, (by omega), (by omega), (by omega), (by omega), (by exact flSkip1 ‹_› (by omega) ‹_›), (by exact flSkip2 ‹_› (by omega) ‹_›)⟩ (by (simp only []; omega)))
  refine .d <| .ct <| .s <| .g <| .r 1 <| .lb ag <| .r 1 <| .ns 1 3 [vI (id : Int)] fun bk dr am aP bD bE => ?_
  have bF := nb_new am J.lt
  have bG := nb_new am E.lt
  have aQ := nb_new am af.lt
  have bH := nb_new am O.lt
  have bI := nb_new am ag.lt
  have bJ := gb_new am C.size
  replace ⟨J, E, af, O, ag, aj, C, aa⟩ := (se [ac, r_out_1, r_out_0, ae, ab] aP).g8 J E af O ag aj C aa
  have aH : nin (ge w.heap.size) [ac, r_out_1, r_out_0, ae, ab] bk ∧ bk ≠ r_out_0 := hap_mk bJ (all_cons bI (all_cons bH (all_cons aQ (all_cons bG (all_cons bF all_nil))))) aQ
  refine RG.append1 (T := 24) (ty := 24) (y := (id : Int)) af bD (by kernel_rfl) (by kernel_rfl) rfl aH (by omega) fun aB bm dt W aw aR => ?_
  have bK := nb_or aw (Nb.symm bj) O.lt
  have cP := nb_or aw br ag.lt
  have bL := orb_or aw au aa.size
  replace ⟨J, E, O, ag, aj, C, aa⟩ := (sa [ac, r_out_1, r_out_0, ae, ab] aR aw).g7 J E O ag aj C aa
  replace W := W.rn r_out_0
  have cQ := W.len; have cR := W.max
  refine .r 1 <| .ss 0 (vS aB (n_out_0 + 1) bm) ag fun du aS ak bM => ?_
  replace ⟨J, E, W, O, aj, C, aa⟩ := (so [ac, r_out_1, aB, ae, ab] aS).g7 J E W O aj C aa
  refine .d <| .g <| .r 1 <| .lb ak <| .r 1 <| .ns 1 91 [.slice cy ((rowsOf (⟨(⟨([] : List (List Tag)), ([] : List Pst)⟩ : Idx), ([] : List Prt), s.mem⟩ : Sto) (id : Int)).length) cz] fun bn dv ao aT bN bO => ?_
  have bP := nb_new ao J.lt
  have bQ := nb_new ao E.lt
  have bR := nb_new ao W.lt
  have aU := nb_new ao O.lt
  have bS := nb_new ao ak.lt
  have bT := gb_new ao C.size
  replace ⟨E, W, O, ak, aj, C, aa⟩ := (se [ac, r_out_1, aB, ae, ab] aT).g7 E W O ak aj C aa
  have aI : nin (ge w.heap.size) [ac, r_out_1, aB, ae, ab] bn ∧ bn ≠ r_out_1 := hap_mk bT (all_cons bS (all_cons aU (all_cons bR (all_cons bQ (all_cons bP all_nil))))) aU
  refine RG.append1 (T := 40) (ty := 40) (y := rowsOf (⟨(⟨([] : List (List Tag)), ([] : List Pst)⟩ : Idx), ([] : List Prt), s.mem⟩ : Sto) (id : Int)) O bN (by kernel_rfl) (by kernel_rfl) ⟨_, _, _, rfl, aj.oi⟩ aI (by omega) fun aV bo dw aq ax aW => ?_
  have bU := nb_or ax (Nb.symm bK) W.lt
  have cS := nb_or ax bu ak.lt
  have bV := orb_or ax av aa.size
  replace ⟨E, W, ak, C, aa⟩ := (sa [ac, r_out_1, aB, ae, ab] aW ax).g5 E W ak C aa
  replace aq := aq.rn r_out_1
  have cT := aq.len; have cU := aq.max
  refine .r 1 <| .ss 1 (vS aV (n_out_1 + 1) bo) ak fun dx aX bW bX => ?_
  replace ⟨E, W, aq, C, aa⟩ := (so [ac, aV, aB, ae, ab] aX).g5 E W aq C aa
  exact .d <| .ib 1 <| .g <| .r 1 <| .it ((id : Int) + 1) <| .r 1 <| .d <| aF (id + 1, (ah ++ [(id : Int)]), aB, n_out_0 + 1, bm, (ai ++ [rowsOf (⟨(⟨([] : List (List Tag)), ([] : List Pst)⟩ : Idx), ([] : List Prt), s.mem⟩ : Sto) (id : Int)]), aV, n_out_1 + 1, bo) _ _ ⟨by kernel_rfl, by kernel_rfl, by kernel_rfl, by kernel_rfl, trivial⟩ ⟨aa, W, bL, aq, bV, bU, bW, (by omega), (by omega), (by omega), (by omega), (by exact flStep1 ‹_› (by omega) ‹_›), (by exact flStep2 ‹_› (by omega) ‹_›)⟩ (by (simp only []; omega))
 refine .d <| .cf <| .x 0 rfl <| .s <| .g <| .ln ag <| .sc [vS r_out_0 n_out_0 c_out_0, vS r_out_1 n_out_1 c_out_1] E fun bq aY bY bZ => ?_
 replace ⟨af, O, C⟩ := (so [ac, r_out_1, r_out_0, ae, ab] aY).g3 af O C
 refine .d ?_
 have aZ := af.sl bt
 replace O := (sd bq [ac, r_out_1, r_out_0, ae, ab] r_out_0).g1 O
 have cA := O.sl bv
 replace aZ := (sd bq [ac, r_out_1, ae, ab] r_out_1).g1 aZ
 exact .rb Tryz.func53 Tryz.results53 bY ⟨(VS.of (y := (⟨ah, ai⟩ : Prt)) ⟨_, rfl, ⟨_, _, _, _, _, _, rfl, aZ.w1, cA.w1⟩⟩ (by exact flEnd (k := id) p1 (by omega) ‹_› ‹_›)), C⟩
theorem c_impl_cloneStore2 (s : Sto) {w : World} {F : Nat → Prop} {a1 : Option Addr} {n1 c1 : Nat} (h1 : RepS w F a1 n1 c1 s.idx.names) {a2 : Option Addr} {n2 c2 : Nat} (h2 : RepS w F a2 n2 c2 s.idx.posts) {a3 : Option Addr} {n3 c3 : Nat} (h3 : RepS w F a3 n3 c3 s.parts) {a4 : Option Addr} {n4 c4 : Nat} (h4 : RepS w F a4 n4 c4 s.mem) (p0 : NmI s.idx.names) (p1 : NsD s.idx.names) (p2 : StoSz s) : Calls Tryz.prog 58 [.agg #[.slice a1 n1 c1, .slice a2 n2 c2, .slice a3 n3 c3, .slice a4 n4 c4]].toArray w (rets fun rv w' => (∃ (a0 : Option Addr) (n0 c0 : Nat) (a1 : Option Addr) (n1 c1 : Nat) (r2 n2 c2 : Nat) (r3 n3 c3 : Nat), rv = .agg #[.slice a0 n0 c0, .slice a1 n1 c1, .slice (some ⟨r2, 0, none⟩) n2 c2, .slice (some ⟨r3, 0, none⟩) n3 c3] ∧ RepS w' (nin (ge w.heap.size) [r2, r3]) a0 n0 c0 ((((copyS s)).idx).names) ∧ RepS w' (nin (ge w.heap.size) [r2, r3]) a1 n1 c1 ((((copyS s)).idx).posts) ∧ Own w' r2 42 (nin (ge w.heap.size) [r2, r3]) n2 c2 (((copyS s)).parts) ∧ w.heap.size ≤ r2 ∧ Own w' r3 107 (nin (ge w.heap.size) [r2, r3]) n3 c3 (((copyS s)).mem) ∧ w.heap.size ≤ r3 ∧ Nb r3 r2) ∧ Ext w w') := by
 refine goT Tryz.func58 ?_
 obtain ⟨rfl, dy, h1⟩ := h1.tp
 obtain ⟨rfl, dz, h2⟩ := h2.tp
 obtain ⟨rfl, dA, h3⟩ := h3.tp
 obtain ⟨rfl, dB, h4⟩ := h4.tp
 refine .s <| .g <| .np 34 [.slice a1 s.idx.names.length c1, .slice a2 s.idx.posts.length c2, .slice a3 s.parts.length c3, .slice a4 s.mem.length c4] fun ab d0 bR bk O cH => ?_
 replace ⟨h1, h3, h4⟩ := (sn [] bk bR).g3 h1 h3 h4
 have E := bk
 refine .np 34 [.slice none 0 0, .slice none 0 0, .slice none 0 0, .slice none 0 0] fun ac aC bm bS J cI => ?_
 have dC := E.cn bm
 replace ⟨h1, h3, h4, O, E⟩ := (sn [ab] bS bm).g5 h1 h3 h4 O E
 refine .d <| .s <| T.regionJ (X := (Option Addr) × Nat × (Option Addr) × Nat × Nat × Nat × Nat × Nat) (mtb [] aC.heap.size) 10 (fun (bc, bd, bg, bh, aj, bi, bj, ao) => [(2, .pointer (some ⟨ac, 0, none⟩)), (6, .agg #[.slice bc (((idxOf s.idx.names).names).length) bd, .slice bg (((idxOf s.idx.names).posts).length) bh]), (9, vS aj bi bj), (10, vS ao 0 0), (12, .slice a4 s.mem.length c4)]) (fun (bc, bd, bg, bh, aj, bi, bj, ao) aw => Ext aC aw ∧ aC.heap.size ≤ aj ∧ aC.heap.size ≤ ao ∧ Nb ao aj ∧ RepS aw (nin (ge w.heap.size) [aj, ao, ac, ab]) bc (((idxOf s.idx.names).names).length) bd ((idxOf s.idx.names).names : List (List Tag)) ∧ RepS aw (nin (ge w.heap.size) [aj, ao, ac, ab]) bg (((idxOf s.idx.names).posts).length) bh ((idxOf s.idx.names).posts : List Pst) ∧ Own aw aj 42 (nin (ge w.heap.size) [aj, ao, ac, ab]) bi bj (s.parts : List Prt) ∧ Own aw ao 107 (nin (ge w.heap.size) [aj, ao, ac, ab]) 0 0 ([] : List Smp)) (by kernel_rfl) (fun dD aI => ?_) ?_
 ·replace h1 := h1.into
  replace h3 := h3.into
  replace h4 := h4.into
  have aJ : Gb (ab + 1) aC.heap.size := O.lt
  replace ⟨h1, h3, h4, O, J, E⟩ := (se [ac, ab] aI).g6 h1 h3 h4 O J E
  have C := aI
  refine .r [0, 1] <| .lb 2 O (nS_of all_nil aJ) <| .r [4] <| .lb 5 O (nS_of all_nil aJ) <| .r [8] <| .lb 9 O (nS_of all_nil aJ) <| .tw 3 7 ?_ ?_
  ·refine .cl (fun bn aK => c_impl_indexOf s.idx.names (h1.ta.ext aK) p0 p1 (w := bn) (F := all)) ?_
   intro bn aK
   replace ⟨h1, h3, h4, O, J, E, C⟩ := (se [ac, ab] aK).g7 h1 h3 h4 O J E C
   rintro dE dF ⟨⟨_, rfl, ⟨bT, dG, bU, bV, dH, bW, rfl, W, aa⟩⟩, aL⟩
   have aM := al2 J.lt O.lt
   have bo : Gb w.heap.size bn.heap.size := E.size
   have hkeep_ := aL
   replace ⟨h1, h3, h4, O, J, E, C⟩ := (se [ac, ab] aL).g7 h1 h3 h4 O J E C
   refine ⟨Ext.chg hkeep_, ?_⟩
   have W := W.fr aM bo
   have cW := W.max
   have aa := aa.fr aM bo
   have cX := aa.max
   have bZ := W.len
   subst bZ
   have b0 := aa.len
   subst b0
   refine .tw 6 7 ?_ ?_
   ·refine .cl (fun bq aN => c_impl_cloneParts s.parts (h3.ta.ext aN) (by have := p2.2.1; omega) p2.2.2.1 (w := bq) (F := all)) ?_
    intro bq aN
    replace ⟨h1, h3, h4, O, J, W, aa, E, C⟩ := (se [ac, ab] aN).g9 h1 h3 h4 O J W aa E C
    rintro dI dJ ⟨⟨au, cJ, cK, rfl, af, aO⟩, aP⟩
    have br := al2 J.lt O.lt
    have b6 : Gb w.heap.size bq.heap.size := E.size
    have hkeep_ := aP
    have b7 : Cov nil aC au := cov_ge aO C.size
    replace ⟨h1, h3, h4, O, J, W, aa, E, C⟩ := (sz [ac, ab] aP aO).g9 h1 h3 h4 O J W aa E C
    refine ⟨Ext.chg hkeep_, ?_⟩
    replace af := Own.take (s0 := w.heap.size) (M := [ac, ab]) af br b6
    have cY := af.len; have cZ := af.max
    refine .go 7 <| .ns 0 107 [] fun dK bt => ?_
    replace ⟨h1, h3, h4, O, J, W, aa, af, E, C⟩ := (se [au, ac, ab] bt).g10 h1 h3 h4 O J W aa af E C
    intro aB cL aD bu b8 b9
    have cd := nb_new aD af.lt
    have ce := C.cn aD
    replace ⟨h1, h3, h4, O, J, W, aa, af, E, C⟩ := (sn [au, ac, ab] bu aD).g10 h1 h3 h4 O J W aa af E C
    have aQ : Own (α := Smp) cL aB 107 (nin (ge w.heap.size) [aB, au, ac, ab]) 0 0 [] := Own.nil' b8
    refine .d fun bX bv => ?_
    replace ⟨h1, h3, h4, O, J, W, aa, af, aQ, E, C⟩ := (se [aB, au, ac, ab] bv).g11 h1 h3 h4 O J W aa af aQ E C
    replace h1 := h1.outof
    replace h3 := h3.outof
    replace h4 := h4.outof
    have aE : Mv [aB, au, ac, ab] [au, aB, ac, ab] bX bX := Mv.less (all_cons (.tail _ (.head _)) (all_cons (.head _) (all_cons (.tail _ (.tail _ (.head _))) (all_cons (.tail _ (.tail _ (.tail _ (.head _)))) all_nil))))
    exact ⟨(bT, bU, bV, bW, au, cJ, cK, aB), ⟨by kernel_rfl, by kernel_rfl, by kernel_rfl, by kernel_rfl, by kernel_rfl, trivial⟩, ⟨C, (cov_ge0 b7), (cov_ge0 ce), cd, (RepS.mv W aE), (RepS.mv aa aE), (Own.mv af aE (Chg.refl nil _) (fun h => h)), (Own.mv aQ aE (Chg.refl nil _) (fun h => h))⟩⟩
   refine .ns 0 107 [] fun dL bw => ?_
   replace ⟨h1, h3, h4, O, J, W, aa, E, C⟩ := (se [ac, ab] bw).g9 h1 h3 h4 O J W aa E C
   intro ax cM aR bz cg ci
   have cj := C.cn aR
   replace ⟨h1, h3, h4, O, J, W, aa, E, C⟩ := (sn [ac, ab] bz aR).g9 h1 h3 h4 O J W aa E C
   have ag : Own (α := Smp) cM ax 107 (nin (ge w.heap.size) [ax, ac, ab]) 0 0 [] := Own.nil' cg
   refine .go 6 <| .cl (fun bA aS => c_impl_cloneParts s.parts (h3.ta.ext aS) (by have := p2.2.1; omega) p2.2.2.1 (w := bA) (F := all)) ?_
   intro bA aS
   replace ⟨h1, h3, h4, O, J, W, aa, ag, E, C⟩ := (se [ax, ac, ab] aS).g10 h1 h3 h4 O J W aa ag E C
   rintro dM dN ⟨⟨bB, cN, cO, rfl, ak, aF⟩, aT⟩
   have bC := al3 ag.lt J.lt O.lt
   have ck : Gb w.heap.size bA.heap.size := E.size
   have hkeep_ := aT
   have cm := nb_ge aF ag.lt
   have co : Cov nil aC bB := cov_ge aF C.size
   replace ⟨h1, h3, h4, O, J, W, aa, ag, E, C⟩ := (sz [ax, ac, ab] aT aF).g10 h1 h3 h4 O J W aa ag E C
   refine ⟨Ext.chg hkeep_, ?_⟩
   replace ak := Own.take (s0 := w.heap.size) (M := [ax, ac, ab]) ak bC ck
   have c7 := ak.len; have c8 := ak.max
   refine .d fun dO bD => ?_
   replace ⟨h1, h3, h4, O, J, W, aa, ag, ak, E, C⟩ := (se [bB, ax, ac, ab] bD).g11 h1 h3 h4 O J W aa ag ak E C
   replace h1 := h1.outof
   replace h3 := h3.outof
   replace h4 := h4.outof
   exact ⟨(bT, bU, bV, bW, bB, cN, cO, ax), ⟨by kernel_rfl, by kernel_rfl, by kernel_rfl, by kernel_rfl, by kernel_rfl, trivial⟩, ⟨C, (cov_ge0 co), (cov_ge0 cj), (Nb.symm cm), W, aa, ak, ag⟩⟩
  refine .ns 0 107 [] fun dP bE => ?_
  replace ⟨h1, h3, h4, O, J, E, C⟩ := (se [ac, ab] bE).g7 h1 h3 h4 O J E C
  intro aq cP aU bF cp cq
  have cr := C.cn aU
  replace ⟨h1, h3, h4, O, J, E, C⟩ := (sn [ac, ab] bF aU).g7 h1 h3 h4 O J E C
  have ae : Own (α := Smp) cP aq 107 (nin (ge w.heap.size) [aq, ac, ab]) 0 0 [] := Own.nil' cp
  refine .go 3 <| .cl (fun bG aV => c_impl_indexOf s.idx.names (h1.ta.ext aV) p0 p1 (w := bG) (F := all)) ?_
  intro bG aV
  replace ⟨h3, h4, O, J, ae, E, C⟩ := (se [aq, ac, ab] aV).g7 h3 h4 O J ae E C
  rintro dQ dR ⟨⟨_, rfl, ⟨cQ, dS, cR, cS, dT, cT, rfl, ah, ai⟩⟩, aW⟩
  have aX := al3 ae.lt J.lt O.lt
  have bH : Gb w.heap.size bG.heap.size := E.size
  have hkeep_ := aW
  replace ⟨h3, h4, O, J, ae, E, C⟩ := (se [aq, ac, ab] aW).g7 h3 h4 O J ae E C
  refine ⟨Ext.chg hkeep_, ?_⟩
  have ah := ah.fr aX bH
  have c9 := ah.max
  have ai := ai.fr aX bH
  have da := ai.max
  have cu := ah.len
  subst cu
  have cv := ai.len
  subst cv
  refine .go 6 <| .cl (fun bI aY => c_impl_cloneParts s.parts (h3.ta.ext aY) (by have := p2.2.1; omega) p2.2.2.1 (w := bI) (F := all)) ?_
  intro bI aY
  replace ⟨h4, O, J, ae, ah, ai, E, C⟩ := (se [aq, ac, ab] aY).g8 h4 O J ae ah ai E C
  rintro dU dV ⟨⟨bJ, cU, cV, rfl, al, aG⟩, aZ⟩
  have bK := al3 ae.lt J.lt O.lt
  have cw : Gb w.heap.size bI.heap.size := E.size
  have hkeep_ := aZ
  have cx := nb_ge aG ae.lt
  have cy : Cov nil aC bJ := cov_ge aG C.size
  replace ⟨h4, J, ae, ah, ai, E, C⟩ := (sz [aq, ac, ab] aZ aG).g7 h4 J ae ah ai E C
  refine ⟨Ext.chg hkeep_, ?_⟩
  replace al := Own.take (s0 := w.heap.size) (M := [aq, ac, ab]) al bK cw
  have db := al.len; have de := al.max
  refine .d fun dW bL => ?_
  replace ⟨h4, J, ae, ah, ai, al, E, C⟩ := (se [bJ, aq, ac, ab] bL).g8 h4 J ae ah ai al E C
  replace h4 := h4.outof
  exact ⟨(cQ, cR, cS, cT, bJ, cU, cV, aq), ⟨by kernel_rfl, by kernel_rfl, by kernel_rfl, by kernel_rfl, by kernel_rfl, trivial⟩, ⟨C, (cov_ge0 cy), (cov_ge0 cr), (Nb.symm cx), ah, ai, al, ae⟩⟩
 rintro ⟨bc, bd, bg, bh, aj, bi, bj, ao⟩ dX aw ⟨ba, aH, ay, cz, az, aA, av, bM⟩
 have df := nb_ge aH J.lt
 have cA := gb_ge aH E.size
 have cB := nb_ge ay J.lt
 have cC := gb_ge ay E.size
 have dg : Cov nil w ao := cov_ge ay E.size
 have bN : Mv [ac, ab] [aj, ao, ac, ab] aC aw := Mv.cons (Mv.cons (Mv.ext ba) ay) aH
 replace ⟨h4, J, E⟩ := (sp bN ba).g3 h4 J E
 have dh := az.len; have dj := az.max
 have dm := aA.len; have dp := aA.max
 have dq := av.len; have dr := av.max
 have dt := bM.len; have du := bM.max
 refine RG.appendF (T := 32) (ty := 32) flat_smp bM h4 (by kernel_rfl) (by kernel_rfl) (fun b h e => h.2 (e ▸ (.tail _ (.head _)))) (by have := p2.2.2.2; omega) fun bO bY dY am ar bP => ?_
 have dv := nb_or ar cB J.lt
 have cD := nb_or ar cz av.lt
 have cE := gb_or ar cC E.size
 replace ⟨J, az, aA, av, E⟩ := (sa [aj, ao, ac, ab] bP ar).g5 J az aA av E
 replace am := am.rn ao
 have dw := am.len; have dx := am.max
 refine .r 1 <| .sc [.slice bc (((idxOf s.idx.names).names).length) bd, .slice bg (((idxOf s.idx.names).posts).length) bh, vS aj bi bj, vS bO (0 + s.mem.length) bY] J fun dZ bQ cF cG => ?_
 replace ⟨az, aA, av, am, E⟩ := (so [aj, bO, ac, ab] bQ).g5 az aA av am E
 exact .d <| .rb Tryz.func58 Tryz.results58 cF ⟨⟨bc, ((idxOf s.idx.names).names).length, bd, bg, ((idxOf s.idx.names).posts).length, bh, aj, bi, bj, bO, (0 + s.mem.length), bY, rfl, ((RepS.lessM az (all_cons (.head _) (all_cons (.tail _ (.head _)) all_nil))).eqx (by rfl)), ((RepS.lessM aA (all_cons (.head _) (all_cons (.tail _ (.head _)) all_nil))).eqx (by rfl)), ((Own.lessM av (all_cons (.head _) (all_cons (.tail _ (.head _)) all_nil))).eqx (by rfl)), cA, ((Own.lessM am (all_cons (.head _) (all_cons (.tail _ (.head _)) all_nil))).eqx (by rfl)), cE, cD⟩, E⟩
theorem c_impl_StoreFlush (s : Sto) {w : World} {F : Nat → Prop} {a1 : Option Addr} {n1 c1 : Nat} (h1 : RepS w F a1 n1 c1 s.idx.names) {a2 : Option Addr} {n2 c2 : Nat} (h2 : RepS w F a2 n2 c2 s.idx.posts) {a3 : Option Addr} {n3 c3 : Nat} (h3 : RepS w F a3 n3 c3 s.parts) {a4 : Option Addr} {n4 c4 : Nat} (h4 : RepS w F a4 n4 c4 s.mem) (p0 : SD s) : Calls Tryz.prog 19 [.agg #[.slice a1 n1 c1, .slice a2 n2 c2, .slice a3 n3 c3, .slice a4 n4 c4]].toArray w (rets fun rv w' => (∃ v0, rv = .tuple #[v0, .bool ((flushP s).2)] ∧ VS (fo F w.heap.size) w' ((flushP s).1 : Sto) v0) ∧ Ext w w') := by
 refine goT Tryz.func19 ?_
 obtain ⟨rfl, cX, h1⟩ := h1.tp
 obtain ⟨rfl, cY, h2⟩ := h2.tp
 obtain ⟨rfl, cZ, h3⟩ := h3.tp
 obtain ⟨rfl, c7, h4⟩ := h4.tp
 refine .s <| .g <| .np 34 [.slice a1 s.idx.names.length c1, .slice a2 s.idx.posts.length c2, .slice a3 s.parts.length c3, .slice a4 s.mem.length c4] fun ae dE bo aI E cm => ?_
 replace ⟨h1, h2, h3, h4⟩ := (sn [] aI bo).g4 h1 h2 h3 h4
 have C := aI
 refine .np 34 [.slice none 0 0, .slice none 0 0, .slice none 0 0, .slice none 0 0] fun af cI aF bq O co => ?_
 have c8 := nb_new aF E.lt
 have c9 := C.cn aF
 replace ⟨h1, h2, h3, h4, E, C⟩ := (sn [ae] bq aF).g6 h1 h2 h3 h4 E C
 refine .r 1 <| .d <| .s <| .s <| .g <| .ln E <| .cl (c_impl_StoreOk s h1.ta h2.ta h3.ta h4.ta p0 (w := cI) (F := all)) ?_
 rintro dF bG ⟨rfl, br⟩
 replace ⟨h1, h2, h3, h4, E, O, C⟩ := (se [af, ae] br).g7 h1 h2 h3 h4 E O C
 cases da : (storeOk s)
 ·refine .r 1 <| .d <| .ct <| .s <| .g <| .r 1 <| .sc [.slice none 0 0, .slice none 0 0, .slice none 0 0, .slice none 0 0] O fun dG bt cp cq => ?_
  replace ⟨h1, h2, h3, h4, E, C⟩ := (so [af, ae] bt).g6 h1 h2 h3 h4 E C
  exact .r 1 <| .d <| .r2 Tryz.func19 Tryz.results19 (.bx cp) (.t (.bool false)) ⟨⟨_, (tup2 rfl (congrArg Value.bool (by rw [flushP_no ‹_›]))), (VS.of (y := (⟨(⟨([] : List (List Tag)), ([] : List Pst)⟩ : Idx), ([] : List Prt), ([] : List Smp)⟩ : Sto)) ⟨_, rfl, ⟨_, _, _, _, _, _, _, _, _, _, _, _, rfl, (RepS.nil' _ _ none 0 (by decide)), (RepS.nil' _ _ none 0 (by decide)), (RepS.nil' _ _ none 0 (by decide)), (RepS.nil' _ _ none 0 (by decide))⟩⟩ (by rw [flushP_no ‹_›]))⟩, C⟩
 refine .r 1 <| .d <| .cf <| .sk <| .s <| .g <| .ln E <| .cl (c_impl_cloneStore2 s h1.ta h2.ta h3.ta h4.ta p0.nm p0.nd p0.sz (w := bG) (F := all)) ?_
 rintro dH aJ ⟨⟨bj, dI, bk, bm, dJ, bn, ah, aK, bH, ag, bI, bJ, rfl, W, aa, ac, ay, J, aA, cr⟩, aL⟩
 have aB := al2 O.lt E.lt
 have aG : Gb w.heap.size bG.heap.size := C.size
 have bu := nb_ge ay E.lt
 have cu := nb_ge ay O.lt
 have aM := gb_ge ay C.size
 have db : Cov nil w ah := cov_ge ay C.size
 have cv := nb_ge aA E.lt
 have de := nb_ge aA O.lt
 have bv := gb_ge aA C.size
 have bw : Mv [af, ae] [ah, ag, af, ae] bG aJ := Mv.cons (Mv.cons (Mv.ext aL) aA) ay
 replace ⟨h1, h2, h3, h4, E, O, C⟩ := (sp bw aL).g7 h1 h2 h3 h4 E O C
 replace W : RepS aJ (nin (ge w.heap.size) [ah, ag, af, ae]) _ _ _ _ := RepS.takeM (s0 := w.heap.size) (M := [af, ae]) W aB aG
 replace W := W.base (G' := fo F w.heap.size) (fun _ _ h => .inr h)
 have df := W.max
 replace aa : RepS aJ (nin (ge w.heap.size) [ah, ag, af, ae]) _ _ _ _ := RepS.takeM (s0 := w.heap.size) (M := [af, ae]) aa aB aG
 replace aa := aa.base (G' := fo F w.heap.size) (fun _ _ h => .inr h)
 have dg := aa.max
 replace ac : Own aJ ah 42 (nin (ge w.heap.size) [ah, ag, af, ae]) _ _ _ := Own.takeM (s0 := w.heap.size) (M := [af, ae]) ac aB aG
 replace ac := ac.base (G' := fo F w.heap.size) (fun _ _ h => .inr h)
 have dh := ac.max
 have dj := ac.len
 replace J : Own aJ ag 107 (nin (ge w.heap.size) [ah, ag, af, ae]) _ _ _ := Own.takeM (s0 := w.heap.size) (M := [af, ae]) J aB aG
 replace J := J.base (G' := fo F w.heap.size) (fun _ _ h => .inr h)
 have dm := J.max
 have dp := J.len
 have cw := W.len
 subst cw
 have cx := aa.len
 subst cx
 refine .np 34 [.slice none 0 0, .slice none 0 0, .slice none 0 0, .slice none 0 0] fun aj dK ax bz cy cz => ?_
 have dq := nb_new ax E.lt
 have dr := nb_new ax O.lt
 have bA := nb_new ax ac.lt
 have bK := nb_new ax J.lt
 have cJ := C.cn ax
 replace ⟨h1, h2, h3, h4, E, O, W, aa, ac, J, C⟩ := (sn [ah, ag, af, ae] bz ax).g11 h1 h2 h3 h4 E O W aa ac J C
 refine .sc [.slice bj (((((copyS s)).idx).names).length) bk, .slice bm (((((copyS s)).idx).posts).length) bn, vS ah aK bH, vS ag bI bJ] cy fun aN aO ab bL => ?_
 replace ⟨h1, h2, h3, h4, E, O, W, aa, ac, J, C⟩ := (so [aj, ah, ag, af, ae] aO).g11 h1 h2 h3 h4 E O W aa ac J C
 refine .d <| .s <| .s <| .g <| .r 1 <| .lb E <| .r 1 <| .eq (s.mem.length : Int) 0 (fun bM => ?_) (fun bM => ?_)
 ·refine .r 6 <| .d <| .ct <| .s <| .g <| .ln ab <| .sc [.slice bj (((((copyS s)).idx).names).length) bk, .slice bm (((((copyS s)).idx).posts).length) bn, vS ah aK bH, vS ag bI bJ] O fun bB aP bN bO => ?_
  replace ⟨h1, h2, h3, h4, E, W, aa, ac, J, ab, C⟩ := (so [aj, ah, ag, af, ae] aP).g11 h1 h2 h3 h4 E W aa ac J ab C
  refine .r 1 <| .d ?_
  have aQ := ac.sl (.inr aM)
  replace ⟨h1, h2, h3, h4, W, aa, J⟩ := (sd bB [aj, ah, ag, af, ae] ah).g7 h1 h2 h3 h4 W aa J
  have cA := J.sl (.inr bv)
  replace ⟨h1, h2, h3, h4, W, aa, aQ⟩ := (sd bB [aj, ag, af, ae] ag).g7 h1 h2 h3 h4 W aa aQ
  exact .r2 Tryz.func19 Tryz.results19 (.bx bN) (.t (.bool false)) ⟨⟨_, (tup2 rfl (congrArg Value.bool (by rw [flushJ_1 p0 ‹_› (.inl ‹_›)]))), (VS.of (y := (⟨(⟨(((copyS s)).idx).names, (((copyS s)).idx).posts⟩ : Idx), ((copyS s)).parts, ((copyS s)).mem⟩ : Sto)) ⟨_, rfl, ⟨_, _, _, _, _, _, _, _, _, _, _, _, rfl, W.w1, aa.w1, aQ.w1, cA.w1⟩⟩ (by rw [flushJ_1 p0 ‹_› (.inl ‹_›)]))⟩, C⟩
 refine .r 2 <| .lb E <| .r 1 <| .eq (s.parts.length : Int) 6 (fun bP => ?_) (fun bP => ?_)
 ·refine .r 1 <| .d <| .ct <| .s <| .g <| .ln ab <| .sc [.slice bj (((((copyS s)).idx).names).length) bk, .slice bm (((((copyS s)).idx).posts).length) bn, vS ah aK bH, vS ag bI bJ] O fun bC aR bQ bR => ?_
  replace ⟨h1, h2, h3, h4, E, W, aa, ac, J, ab, C⟩ := (so [aj, ah, ag, af, ae] aR).g11 h1 h2 h3 h4 E W aa ac J ab C
  refine .r 1 <| .d ?_
  have aS := ac.sl (.inr aM)
  replace ⟨h1, h2, h3, h4, W, aa, J⟩ := (sd bC [aj, ah, ag, af, ae] ah).g7 h1 h2 h3 h4 W aa J
  have cB := J.sl (.inr bv)
  replace ⟨h1, h2, h3, h4, W, aa, aS⟩ := (sd bC [aj, ag, af, ae] ag).g7 h1 h2 h3 h4 W aa aS
  exact .r2 Tryz.func19 Tryz.results19 (.bx bQ) (.t (.bool false)) ⟨⟨_, (tup2 rfl (congrArg Value.bool (by rw [flushJ_1 p0 ‹_› (.inr ‹_›)]))), (VS.of (y := (⟨(⟨(((copyS s)).idx).names, (((copyS s)).idx).posts⟩ : Idx), ((copyS s)).parts, ((copyS s)).mem⟩ : Sto)) ⟨_, rfl, ⟨_, _, _, _, _, _, _, _, _, _, _, _, rfl, W.w1, aa.w1, aS.w1, cB.w1⟩⟩ (by rw [flushJ_1 p0 ‹_› (.inr ‹_›)]))⟩, C⟩
 refine .r 1 <| .d <| .cf <| .sk <| .s ?_
 replace h1 := h1.into
 replace h2 := h2.into
 replace h3 := h3.into
 replace h4 := h4.into
 replace W := W.into
 replace aa := aa.into
 have bS : Gb (ae + 1) aN.heap.size := E.lt
 have bT : Gb (aj + 1) aN.heap.size := ab.lt
 refine .gd (mtb [ah, ag] aN.heap.size) 5 fun dt aT => ?_
 replace ⟨h1, h2, h3, h4, E, O, W, aa, ac, J, ab, C⟩ := (se [aj, ah, ag, af, ae] aT).g12 h1 h2 h3 h4 E O W aa ac J ab C
 refine .r [0] <| .lb 1 ab (nS_of (all_cons bA (all_cons bK all_nil)) bT) <| .ln 2 E (nS_of (all_cons (Nb.symm bu) (all_cons (Nb.symm cv) all_nil)) bS) <| .go 3 <| .cl (fun aU aw => c_impl_Store_flushed s (h1.ta.ext aw) (h2.ta.ext aw) (h3.ta.ext aw) (h4.ta.ext aw) (StoK.of p0 ‹_›).row (StoK.of p0 ‹_›).stoI.mem6 (by have := p0.nm2; omega) (w := aU) (F := all)) ?_
 intro aU aw
 replace ⟨E, O, W, aa, ac, J, ab, C⟩ := (se [aj, ah, ag, af, ae] aw).g8 E O W aa ac J ab C
 rintro du dv ⟨⟨_, rfl, ⟨cC, dw, cD, cE, dx, cF, rfl, ak, al⟩⟩, aC⟩
 have aD := al5 ab.lt ac.lt J.lt O.lt E.lt
 have aV : Gb w.heap.size aU.heap.size := C.size
 have hkeep_ := aC
 replace ⟨E, O, W, aa, ac, J, ab, C⟩ := (se [aj, ah, ag, af, ae] aC).g8 E O W aa ac J ab C
 refine ⟨Ext.chg hkeep_, ?_⟩
 have ak := ak.fr aD aV
 replace ak := ak.base (G' := fo F w.heap.size) (fun _ _ h => .inr h)
 have cK := ak.max
 have al := al.fr aD aV
 replace al := al.base (G' := fo F w.heap.size) (fun _ _ h => .inr h)
 have cL := al.max
 have bU := ak.len
 subst bU
 have bV := al.len
 subst bV
 refine .go 4 <| .ns 1 42 [.slice cC (((memPart s.mem).ids).length) cD, .slice cE (((memPart s.mem).blocks).length) cF] fun dy aW => ?_
 replace ⟨E, O, W, aa, ac, J, ab, ak, al, C⟩ := (se [aj, ah, ag, af, ae] aW).g10 E O W aa ac J ab ak al C
 intro bD dz aq aX aE bW
 have bX := nb_new aq E.lt
 have bY := nb_new aq O.lt
 have aY := nb_new aq ac.lt
 have bZ := nb_new aq J.lt
 have b0 := nb_new aq ab.lt
 have b6 := gb_new aq C.size
 replace ⟨E, O, W, aa, ac, J, ab, ak, al, C⟩ := (se [aj, ah, ag, af, ae] aX).g10 E O W aa ac J ab ak al C
 refine .d fun dA aZ => ?_
 replace ⟨E, O, W, aa, ac, J, ab, ak, al, aE, C⟩ := (se [aj, ah, ag, af, ae] aZ).g11 E O W aa ac J ab ak al aE C
 replace W := W.outof
 replace aa := aa.outof
 have aH : nin (fo F w.heap.size) [aj, ah, ag, af, ae] bD ∧ bD ≠ ah := hap_mk (.inr b6) (all_cons b0 (all_cons aY (all_cons bZ (all_cons bY (all_cons bX all_nil))))) aY
 refine RG.append1 (T := 31) (ty := 31) (y := (memPart s.mem)) ac aE (by kernel_rfl) (by kernel_rfl) ⟨_, _, _, _, _, _, rfl, ak.oi, al.oi⟩ aH (by have q1 := p0.np; have q2 : (copyS s).parts.length = s.parts.length := rfl; omega) fun au bE dB ai am ba => ?_
 have cM := nb_or am bu E.lt
 have cN := nb_or am cu O.lt
 have cO := nb_or am (Nb.symm cr) J.lt
 have cP := nb_or am (Nb.symm bA) ab.lt
 have b7 := gb_or am aM C.size
 replace ⟨E, O, W, aa, J, ab, C⟩ := (sa [aj, ah, ag, af, ae] ba am).g7 E O W aa J ab C
 replace ai := ai.rn ah
 have cQ := ai.len; have cR := ai.max
 refine .r 1 <| .ss 2 (vS au (aK + 1) bE) ab fun dC bc az b8 => ?_
 replace ⟨E, O, W, aa, ai, J, C⟩ := (so [aj, au, ag, af, ae] bc).g7 E O W aa ai J C
 refine .d <| .s <| .g <| .ns 0 107 [] fun av cG ao bd b9 cd => ?_
 have cS := nb_new ao E.lt
 have cT := nb_new ao O.lt
 have cU := nb_new ao ai.lt
 have cV := nb_new ao J.lt
 have cW := nb_new ao az.lt
 have ce := gb_new ao C.size
 replace ⟨O, W, aa, ai, az, C⟩ := (sn [aj, au, ag, af, ae] bd ao).g6 O W aa ai az C
 have ar : Own (α := Smp) cG av 107 (nin (fo F w.heap.size) [av, aj, au, ag, af, ae]) 0 0 [] := Own.nil' b9
 refine .r 1 <| .ss 3 (vS av 0 0) az fun dD bg cg ci => ?_
 replace ⟨O, W, aa, ai, ar, C⟩ := (so [av, aj, au, ag, af, ae] bg).g6 O W aa ai ar C
 refine .d <| .s <| .g <| .ln cg <| .sc [.slice bj (((((copyS s)).idx).names).length) bk, .slice bm (((((copyS s)).idx).posts).length) bn, vS au (aK + 1) bE, vS av 0 0] O fun bF bh cj ck => ?_
 replace ⟨W, aa, ai, ar, C⟩ := (so [av, aj, au, ag, af, ae] bh).g5 W aa ai ar C
 refine .r 1 <| .d ?_
 have bi := ai.sl (.inr b7)
 replace ⟨W, aa, ar⟩ := (sd bF [av, aj, au, ag, af, ae] au).g3 W aa ar
 have cH := ar.sl (.inr ce)
 replace ⟨W, aa, bi⟩ := (sd bF [av, aj, ag, af, ae] av).g3 W aa bi
 exact .r2 Tryz.func19 Tryz.results19 (.bx cj) (.t (.bool true)) ⟨⟨_, (tup2 rfl (congrArg Value.bool (by rw [flushJ_2 p0 ‹_› ‹_› ‹_›]))), (VS.of (y := (⟨(⟨(((copyS s)).idx).names, (((copyS s)).idx).posts⟩ : Idx), (((copyS s)).parts ++ [(memPart s.mem)]), []⟩ : Sto)) ⟨_, rfl, ⟨_, _, _, _, _, _, _, _, _, _, _, _, rfl, W.w1, aa.w1, bi.w1, cH.w1⟩⟩ (by rw [flushJ_2 p0 ‹_› ‹_› ‹_›]))⟩, C⟩
end Go.Proofs.YtganlmloonielaaGreat
