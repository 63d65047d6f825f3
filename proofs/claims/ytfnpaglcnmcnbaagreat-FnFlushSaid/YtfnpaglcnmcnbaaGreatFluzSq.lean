/- Short forms of the rules: what the kernel evaluates is asked last and closed by itself, and the facts of one step are moved at once. No conditions. -/
import Derived.Test.YtfnpaglcnmcnbaaGreatFluzOps
set_option linter.unusedVariables false
set_option linter.unusedSimpArgs false
namespace Go.Proofs.YtfnpaglcnmcnbaaGreat
@[reducible] def vS (b n c : Nat) : Value := .slice (some ⟨b, 0, none⟩) n c
@[reducible] def vI (z : Int) : Value := .int .i64 z
@[reducible] def vT (s : Str) : Value := .string (bs s)
def ldT (o : Option (TypeId × Addr)) : TypeId := match o with | some (t, _) => t | none => 0
def ldO (o : Option (TypeId × Addr)) : Nat := match o with | some (_, a) => off (some a) | none => 0
def ldV (cs : List Value) (o : Option (TypeId × Addr)) : Value := (cs[ldO o]?).getD undef
def ldN (P : Program) (o : Option (TypeId × Addr)) : Nat := match P.info? (ldT o) with | some i => i.size | none => 0
def ldL (P : Program) (cs : List Value) (o : Option (TypeId × Addr)) : List Value := (cs.drop (ldO o)).take (ldN P o)
def ldH (P : Program) (cs : List Value) (k : Nat) (o : Option (TypeId × Addr)) : List Value := (cs.drop k).take (ldN P o)
def stT (o : Option (TypeId × Addr × Value)) : TypeId := match o with | some (t, _) => t | none => 0
def lbE (cs : List Value) (n : Nat) (ops : Array Oper) (j : Nat) (e : Env) : Env := putE e (opAt ops j).dst (ldV cs (loadAt n ops j e))
def lnE (P : Program) (cs : List Value) (n : Nat) (ops : Array Oper) (j : Nat) (e : Env) : Env := putE e (opAt ops j).dst (.agg (ldL P cs (loadAt n ops j e)).toArray)
def lgE (P : Program) (cs : List Value) (k n : Nat) (ops : Array Oper) (j : Nat) (e : Env) : Env := putE e (opAt ops j).dst (.agg (ldH P cs k (loadAt n ops j e)).toArray)
def lbG (cs : List Value) (n m : Nat) (ops : Array Oper) (l : List Nat) (i : Nat) (e : Env) : Env := putE e (opAt ops i).dst (ldV cs (gLoad n m ops l i e))
def lnG (P : Program) (cs : List Value) (n m : Nat) (ops : Array Oper) (l : List Nat) (i : Nat) (e : Env) : Env := putE e (opAt ops i).dst (.agg (ldL P cs (gLoad n m ops l i e)).toArray)
def lgG (P : Program) (cs : List Value) (k n m : Nat) (ops : Array Oper) (l : List Nat) (i : Nat) (e : Env) : Env := putE e (opAt ops i).dst (.agg (ldH P cs k (gLoad n m ops l i e)).toArray)
section
variable {P : Program} {n : Nat} {K : Env → World → Prop} {ops : Array Oper} {j : Nat} {e : Env} {w : World} {t t' : TypeId} {b o : Nat} {cs : List Value} {v : Value}
theorem RG.r (m : Nat) (H : RG P n K ops (j + m) (runE P ops m j e) w) (h : runOk P n ops m j e = true := by kernel_rfl) : RG P n K ops j e w := RG.run m h H
theorem RG.d (H : K e w) (h : Nat.beq ops.toList.length j = true := by kernel_rfl) : RG P n K ops j e w := RG.done h H
theorem RG.lb (hb : Box w b t cs) (H : RG P n K ops (j + 1) (lbE cs n ops j e) w)
    (h : loadAt n ops j e = some (ldT (loadAt n ops j e), ⟨b, ldO (loadAt n ops j e), none⟩) := by kernel_rfl)
    (hs : scalarB P (ldT (loadAt n ops j e)) = true := by kernel_rfl) (hv : cs[ldO (loadAt n ops j e)]? = some (ldV cs (loadAt n ops j e)) := by kernel_rfl) : RG P n K ops j e w :=
  RG.loadB hb h hs hv H
theorem RG.ln (hb : Box w b t cs) (H : RG P n K ops (j + 1) (lnE P cs n ops j e) w)
    (h : loadAt n ops j e = some (ldT (loadAt n ops j e), ⟨b, ldO (loadAt n ops j e), none⟩) := by kernel_rfl)
    (hs : aggB P (ldT (loadAt n ops j e)) (ldL P cs (loadAt n ops j e)).length = true := by kernel_rfl)
    (hv : (cs.drop (ldO (loadAt n ops j e))).take (ldL P cs (loadAt n ops j e)).length = ldL P cs (loadAt n ops j e) := by kernel_rfl) : RG P n K ops j e w :=
  RG.loadBN _ hb h hs hv H
theorem RG.lh (k : Nat) (hc : Has w ⟨b, o, none⟩ cs) (H : RG P n K ops (j + 1) (putE e (opAt ops j).dst ((cs[k]?).getD undef)) w)
    (h : loadAt n ops j e = some (ldT (loadAt n ops j e), ⟨b, o + k, none⟩) := by kernel_rfl)
    (hs : scalarB P (ldT (loadAt n ops j e)) = true := by kernel_rfl) (hv : cs[k]? = some ((cs[k]?).getD undef) := by kernel_rfl) : RG P n K ops j e w :=
  RG.loadH k hc h hs hv H
theorem RG.lg (k : Nat) (hc : Has w ⟨b, o, none⟩ cs) (H : RG P n K ops (j + 1) (lgE P cs k n ops j e) w)
    (h : loadAt n ops j e = some (ldT (loadAt n ops j e), ⟨b, o + k, none⟩) := by kernel_rfl)
    (hs : aggB P (ldT (loadAt n ops j e)) (ldH P cs k (loadAt n ops j e)).length = true := by kernel_rfl)
    (hv : (cs.drop k).take (ldH P cs k (loadAt n ops j e)).length = ldH P cs k (loadAt n ops j e) := by kernel_rfl) : RG P n K ops j e w :=
  RG.loadHN k _ hc h hs hv H
theorem RG.sb (o : Nat) (v : Value) (cs' : List Value) (hb : Box w b t cs)
    (H : ∀ w', Chg (one b) w w' → Box w' b t cs' → w'.heap.size = w.heap.size → RG P n K ops (j + 1) (putE e (opAt ops j).dst undef) w')
    (h : storeAt n ops j e = some (stT (storeAt n ops j e), ⟨b, o, none⟩, v) := by kernel_rfl)
    (hs : (sizeB P (stT (storeAt n ops j e)) v.cells.size && Nat.ble (o + v.cells.size) cs.length && v.cells.toList.all oneC) = true := by kernel_rfl)
    (hc : splice cs o v.cells.toList = cs' := by kernel_rfl) : RG P n K ops j e w :=
  RG.storeB cs' hb h hs hc H
theorem RG.ss (o : Nat) (v : Value) (hb : Box w b t cs)
    (H : ∀ w', Chg (one b) w w' → Box w' b t (cs.set o v) → w'.heap.size = w.heap.size → RG P n K ops (j + 1) (putE e (opAt ops j).dst undef) w')
    (h : storeAt n ops j e = some (stT (storeAt n ops j e), ⟨b, o, none⟩, v) := by kernel_rfl)
    (hs : (sizeB P (stT (storeAt n ops j e)) v.cells.size && Nat.ble (o + v.cells.size) cs.length && v.cells.toList.all oneC) = true := by kernel_rfl)
    (hc : splice cs o v.cells.toList = cs.set o v := by kernel_rfl) : RG P n K ops j e w := RG.storeB _ hb h hs hc H
theorem RG.sc (vs : List Value) (hb : Box w b t cs)
    (H : ∀ w', Chg (one b) w w' → Box w' b t vs → w'.heap.size = w.heap.size → RG P n K ops (j + 1) (putE e (opAt ops j).dst undef) w')
    (h : storeAt n ops j e = some (stT (storeAt n ops j e), ⟨b, 0, none⟩, .agg vs.toArray) := by kernel_rfl)
    (hs : (sizeB P (stT (storeAt n ops j e)) (Value.agg vs.toArray).cells.size && Nat.ble (0 + (Value.agg vs.toArray).cells.size) cs.length && (Value.agg vs.toArray).cells.toList.all oneC) = true := by kernel_rfl)
    (hc : splice cs 0 (Value.agg vs.toArray).cells.toList = vs := by kernel_rfl) : RG P n K ops j e w := RG.storeB _ hb h hs hc H
theorem RG.ix {α : Type} [Rep α] {F : Nat → Prop} {a : Option Addr} {m c : Nat} {xs : List α} (i sz : Nat) (hr : RepS w F a m c xs) (hi : i < m)
    (H : RG P n K ops (j + 1) (putE e (opAt ops j).dst (.pointer (some ⟨blk a, off a + i * sz, none⟩))) w) (h : idxAt P n ops j e = some (a, m, (i : Int), sz) := by kernel_rfl) : RG P n K ops j e w :=
  RG.idx i h rfl hi (hr.addr (Nat.zero_lt_of_lt hi)) H
theorem RG.nw (v : Nat → Value) (t : TypeId) (cs : List Value)
    (H : ∀ b w', b = w.heap.size → Ext w w' → Box w' b t cs → w'.heap.size = b + 1 → RG P n K ops (j + 1) (putE e (opAt ops j).dst (v b)) w')
    (h : ∀ b, newBoxAt P n ops j e b = some (v b, t, cs) := by intro _; kernel_rfl) : RG P n K ops j e w := RG.new h H
theorem RG.np (t : TypeId) (cs : List Value)
    (H : ∀ b w', b = w.heap.size → Ext w w' → Box w' b t cs → w'.heap.size = b + 1 → RG P n K ops (j + 1) (putE e (opAt ops j).dst (.pointer (some ⟨b, 0, none⟩))) w')
    (h : ∀ b, newBoxAt P n ops j e b = some (.pointer (some ⟨b, 0, none⟩), t, cs) := by intro _; kernel_rfl) : RG P n K ops j e w := RG.new h H
theorem RG.ns (m : Nat) (t : TypeId) (cs : List Value)
    (H : ∀ b w', b = w.heap.size → Ext w w' → Box w' b t cs → w'.heap.size = b + 1 → RG P n K ops (j + 1) (putE e (opAt ops j).dst (.slice (some ⟨b, 0, none⟩) m m)) w')
    (h : ∀ b, newBoxAt P n ops j e b = some (.slice (some ⟨b, 0, none⟩) m m, t, cs) := by intro _; kernel_rfl) : RG P n K ops j e w := RG.new h H
theorem RG.bp (p : Prop) [Decidable p] (ht : p → RG P n K ops (j + 1) (putE e (opAt ops j).dst (.bool true)) w)
    (hf : ¬ p → RG P n K ops (j + 1) (putE e (opAt ops j).dst (.bool false)) w) (h : pvAt P n ops j e = some (.bool (decide p)) := by kernel_rfl) : RG P n K ops j e w := RG.boolP p h ht hf
theorem RG.eq (a b : Int) (ht : a = b → RG P n K ops (j + 1) (putE e (opAt ops j).dst (.bool true)) w)
    (hf : a ≠ b → RG P n K ops (j + 1) (putE e (opAt ops j).dst (.bool false)) w) (h : pvAt P n ops j e = some (.bool (a == b)) := by kernel_rfl) : RG P n K ops j e w := RG.eqI h ht hf
theorem RG.ne (a b : Int) (ht : a ≠ b → RG P n K ops (j + 1) (putE e (opAt ops j).dst (.bool true)) w)
    (hf : a = b → RG P n K ops (j + 1) (putE e (opAt ops j).dst (.bool false)) w) (h : pvAt P n ops j e = some (.bool (a != b)) := by kernel_rfl) : RG P n K ops j e w := RG.neI h ht hf
theorem RG.it (z : Int) (H : RG P n K ops (j + 1) (putE e (opAt ops j).dst (.int .i64 z)) w) (h : pvAt P n ops j e = some (.int .i64 (IntKind.i64.wrap z)) := by kernel_rfl)
    (hz : -9223372036854775808 ≤ z ∧ z ≤ 9223372036854775807 := by omega) : RG P n K ops j e w := RG.int z h hz H
theorem RG.cl {f : FuncId} {args : List Value} {Q : Value → World → Prop} (hc : Calls P f args.toArray w (rets Q))
    (H : ∀ v w', Q v w' → RG P n K ops (j + 1) (putE e (opAt ops j).dst v) w') (h : callAt P n ops j e = some (f, args) := by kernel_rfl) : RG P n K ops j e w := RG.call h hc H
end
section
variable {P : Program} {f : FuncId} {fn : Func} {R : Value → World → Prop} {c : Code} {k : List Item} {e : Env} {w : World} {v : Value}
theorem T.s (H : T P f fn R (.code (lft c) :: .code (rgt c) :: k) e w) (h : isSeq c = true := by kernel_rfl) : T P f fn R (.code c :: k) e w := T.seq h H
theorem T.sk (H : T P f fn R k e w) (h : isSkip c = true := by kernel_rfl) : T P f fn R (.code c :: k) e w := T.skip h H
theorem T.b (i : Nat) (H : T P f fn R (.code (bdy c) :: .inBlock i :: k) e w) (h : isBlock c i = true := by kernel_rfl) : T P f fn R (.code c :: k) e w := T.block i h H
theorem T.ib (i : Nat) (H : T P f fn R k e w) : T P f fn R (.inBlock i :: k) e w := T.inBlock i H
theorem T.x (i : Nat) {k' : List Item} (hk : exitTo i k = some k') (H : T P f fn R k' e w) (h : isExit c i = true := by kernel_rfl) : T P f fn R (.code c :: k) e w := T.exit i h hk H
theorem T.ct (H : T P f fn R (.code (thn c) :: k) e w) (h : condVal e c = .bool true := by kernel_rfl) : T P f fn R (.code c :: k) e w := T.condT h H
theorem T.cf (H : T P f fn R (.code (els c) :: k) e w) (h : condVal e c = .bool false := by kernel_rfl) : T P f fn R (.code c :: k) e w := T.condF h H
theorem T.g (H : RG P fn.ntmps (fun e' w' => T P f fn R k e' w') (opsC c) 0 e w) (h : isReg c false = true := by kernel_rfl) : T P f fn R (.code c :: k) e w := T.region h H
theorem T.gd (S : Nat → Prop) (m : Nat)
    (H : ∀ w1, Ext w w1 → GA P S fn.ntmps m (fun e' w' => RG P fn.ntmps (fun e'' w'' => T P f fn R k e'' w'') (opsC c) m e' w') (opsC c) [] e w1)
    (h : (isReg c true && P.follows .mixedOrders && drawB (opsC c) m) = true := by kernel_rfl) : T P f fn R (.code c :: k) e w := T.regionD S m h H
theorem T.rt {t : Tmp} (hf : P.funcs[f]? = some fn) (hres : fn.results = #[.tmp t]) (v : Value) (hR : R v w) (h : isRet c = true := by kernel_rfl) (h1 : e t = v := by kernel_rfl) : T P f fn R (.code c :: k) e w :=
  T.ret1 h hf hres (Res1.tmp h1) hR
theorem Res1.bx {x t u : Nat} {b : Nat} {cs : List Value} (hb : Box w b u cs) (h1 : e x = .pointer (some ⟨b, 0, none⟩) := by kernel_rfl) (h2 : aggB P t cs.length = true := by kernel_rfl) : Res1 P w e (.cell x t) (.agg cs.toArray) :=
  Res1.cell h1 ((hb.has 0 cs (by simp)).loadN h2)
theorem Res1.t {t : Tmp} (v : Value) (h : e t = v := by kernel_rfl) : Res1 P w e (.tmp t) v := h
theorem T.rb {x t u : Nat} {b : Nat} {cs : List Value} (hf : P.funcs[f]? = some fn) (hres : fn.results = #[.cell x t]) (hb : Box w b u cs) (hR : R (.agg cs.toArray) w) (h : isRet c = true := by kernel_rfl)
    (h1 : e x = .pointer (some ⟨b, 0, none⟩) := by kernel_rfl) (h2 : aggB P t cs.length = true := by kernel_rfl) : T P f fn R (.code c :: k) e w :=
  T.ret1 h hf hres (Res1.bx hb h1 h2) hR
theorem T.r2 {r r' : ResultVar} {v v' : Value} (hf : P.funcs[f]? = some fn) (hres : fn.results = #[r, r']) (h1 : Res1 P w e r v) (h2 : Res1 P w e r' v') (hR : R (.tuple #[v, v']) w) (h : isRet c = true := by kernel_rfl) : T P f fn R (.code c :: k) e w :=
  T.ret2 h hf hres h1 h2 hR
theorem T.r3 {r r' r'' : ResultVar} {v v' v'' : Value} (hf : P.funcs[f]? = some fn) (hres : fn.results = #[r, r', r'']) (h1 : Res1 P w e r v) (h2 : Res1 P w e r' v') (h3 : Res1 P w e r'' v'') (hR : R (.tuple #[v, v', v'']) w) (h : isRet c = true := by kernel_rfl) : T P f fn R (.code c :: k) e w :=
  T.ret3 h hf hres h1 h2 h3 hR
theorem goT {args : List Value} (hf : P.funcs[f]? = some fn) (H : T P f fn R [.code (bodyOf fn)] (env0 args) w) (hb : fn.body = some (bodyOf fn) := by kernel_rfl) (hn : Nat.ble args.length fn.ntmps = true := by kernel_rfl) : Calls P f args.toArray w (rets R) :=
  calls_T hf hb hn H
end
section
variable {P : Program} {S : Nat → Prop} {n m : Nat} {L : Env → World → Prop} {ops : Array Oper} {l : List Nat} {e : Env} {w : World} {t : TypeId} {b o : Nat} {cs : List Value}
theorem GA.r (is : List Nat) (H : GA P S n m L ops (is.reverse ++ l) (gRunE P ops is e) w) (h : gRunOk P n m ops is l e = true := by kernel_rfl) : GA P S n m L ops l e w := GA.run is h H
theorem GA.d (H : ∀ w1, Ext w w1 → L e w1) (h : (Nat.beq l.length m && decide (lst ops.size l = fin ops m)) = true := by kernel_rfl) : GA P S n m L ops l e w := GA.done h H
theorem GA.lb (i : Nat) (hb : Box w b t cs) (hS : ¬ S b) (H : GA P S n m L ops (i :: l) (lbG cs n m ops l i e) w)
    (h : gLoad n m ops l i e = some (ldT (gLoad n m ops l i e), ⟨b, ldO (gLoad n m ops l i e), none⟩) := by kernel_rfl)
    (hs : scalarB P (ldT (gLoad n m ops l i e)) = true := by kernel_rfl) (hv : cs[ldO (gLoad n m ops l i e)]? = some (ldV cs (gLoad n m ops l i e)) := by kernel_rfl) : GA P S n m L ops l e w :=
  GA.loadB hb hS h hs hv H
theorem GA.ln (i : Nat) (hb : Box w b t cs) (hS : ¬ S b) (H : GA P S n m L ops (i :: l) (lnG P cs n m ops l i e) w)
    (h : gLoad n m ops l i e = some (ldT (gLoad n m ops l i e), ⟨b, ldO (gLoad n m ops l i e), none⟩) := by kernel_rfl)
    (hs : aggB P (ldT (gLoad n m ops l i e)) (ldL P cs (gLoad n m ops l i e)).length = true := by kernel_rfl)
    (hv : (cs.drop (ldO (gLoad n m ops l i e))).take (ldL P cs (gLoad n m ops l i e)).length = ldL P cs (gLoad n m ops l i e) := by kernel_rfl) : GA P S n m L ops l e w :=
  GA.loadBN _ hb hS h hs hv H
theorem GA.lh (i k : Nat) (hc : Has w ⟨b, o, none⟩ cs) (hS : ¬ S b) (H : GA P S n m L ops (i :: l) (putE e (opAt ops i).dst ((cs[k]?).getD undef)) w)
    (h : gLoad n m ops l i e = some (ldT (gLoad n m ops l i e), ⟨b, o + k, none⟩) := by kernel_rfl)
    (hs : scalarB P (ldT (gLoad n m ops l i e)) = true := by kernel_rfl) (hv : cs[k]? = some ((cs[k]?).getD undef) := by kernel_rfl) : GA P S n m L ops l e w :=
  GA.loadH k hc hS h hs hv H
theorem GA.lg (i k : Nat) (hc : Has w ⟨b, o, none⟩ cs) (hS : ¬ S b) (H : GA P S n m L ops (i :: l) (lgG P cs k n m ops l i e) w)
    (h : gLoad n m ops l i e = some (ldT (gLoad n m ops l i e), ⟨b, o + k, none⟩) := by kernel_rfl)
    (hs : aggB P (ldT (gLoad n m ops l i e)) (ldH P cs k (gLoad n m ops l i e)).length = true := by kernel_rfl)
    (hv : (cs.drop k).take (ldH P cs k (gLoad n m ops l i e)).length = ldH P cs k (gLoad n m ops l i e) := by kernel_rfl) : GA P S n m L ops l e w :=
  GA.loadHN k _ hc hS h hs hv H
theorem GA.ix {α : Type} [Rep α] {F : Nat → Prop} {a : Option Addr} {N c : Nat} {xs : List α} (k i sz : Nat) (hr : RepS w F a N c xs) (hi : i < N)
    (H : GA P S n m L ops (k :: l) (putE e (opAt ops k).dst (.pointer (some ⟨blk a, off a + i * sz, none⟩))) w) (h : gIdx P n m ops l k e = some (a, N, (i : Int), sz) := by kernel_rfl) : GA P S n m L ops l e w :=
  GA.idx i h rfl hi (hr.addr (Nat.zero_lt_of_lt hi)) H
theorem GA.go (i : Nat) (H : GE P S n m L ops l i e w) (h : oneB n m ops l i e = true := by kernel_rfl) : GA P S n m L ops l e w := GE.one h H
theorem GA.tw (i j : Nat) (Hi : GE P S n m L ops l i e w) (Hj : GE P S n m L ops l j e w) (h : twoB n m ops l i j e = true := by kernel_rfl) : GA P S n m L ops l e w := GE.two h Hi Hj
theorem GE.nw {i : Nat} (v : Nat → Value) (t : TypeId) (cs : List Value)
    (H : ∀ w1, Ext w w1 → ∀ b w2, b = w1.heap.size → Ext w1 w2 → Box w2 b t cs → w2.heap.size = b + 1 → GA P S n m L ops (i :: l) (putE e (opAt ops i).dst (v b)) w2)
    (hn : ∀ b, newBoxAt P n ops i e b = some (v b, t, cs) := by intro _; kernel_rfl) : GE P S n m L ops l i e w := GE.new hn H
theorem GE.ns {i : Nat} (k : Nat) (t : TypeId) (cs : List Value)
    (H : ∀ w1, Ext w w1 → ∀ b w2, b = w1.heap.size → Ext w1 w2 → Box w2 b t cs → w2.heap.size = b + 1 → GA P S n m L ops (i :: l) (putE e (opAt ops i).dst (.slice (some ⟨b, 0, none⟩) k k)) w2)
    (hn : ∀ b, newBoxAt P n ops i e b = some (.slice (some ⟨b, 0, none⟩) k k, t, cs) := by intro _; kernel_rfl) : GE P S n m L ops l i e w := GE.new hn H
theorem GE.cl {i : Nat} {f : FuncId} {args : List Value} {Q : World → Value → World → Prop} (hc : ∀ w1, Ext w w1 → Calls P f args.toArray w1 (rets (Q w1)))
    (H : ∀ w1, Ext w w1 → ∀ v w2, Q w1 v w2 → Chg S w1 w2 ∧ GA P S n m L ops (i :: l) (putE e (opAt ops i).dst v) w2) (hf : callAt P n ops i e = some (f, args) := by kernel_rfl) : GE P S n m L ops l i e w := GE.call hf hc H
end
class MemL (b : Nat) (M : List Nat) : Prop where m : b ∈ M
instance {b : Nat} {M : List Nat} : MemL b (b :: M) := ⟨.head _⟩
instance {a b : Nat} {M : List Nat} [h : MemL b M] : MemL b (a :: M) := ⟨.tail _ h.m⟩
class Rpl (M : List Nat) (r r2 : Nat) (M' : outParam (List Nat)) : Prop where
  p : ∀ k, k ∉ M → k ≠ r2 → k ∉ M'
  q : r ∈ M
instance {r r2 : Nat} {M : List Nat} : Rpl (r :: M) r r2 (r2 :: M) := ⟨fun k h h2 hk => by
  rcases List.mem_cons.1 hk with rfl | hk
  · exact h2 rfl
  · exact h (.tail _ hk), .head _⟩
instance {a r r2 : Nat} {M M' : List Nat} [i : Rpl M r r2 M'] : Rpl (a :: M) r r2 (a :: M') := ⟨fun k h h2 hk => by
  rcases List.mem_cons.1 hk with rfl | hk
  · exact h (.head _)
  · exact i.p k (fun hm => h (.tail _ hm)) h2 hk, .tail _ i.q⟩
class Drp (M : List Nat) (r : Nat) (M' : outParam (List Nat)) : Prop where
  p : ∀ k ∈ M', k ∈ M
  q : ∀ k ∈ M, k ∈ M' ∨ k = r
instance {r : Nat} {M : List Nat} : Drp (r :: M) r M := ⟨fun _ h => .tail _ h, fun k h => by
  rcases List.mem_cons.1 h with rfl | h
  · exact .inr rfl
  · exact .inl h⟩
instance {a r : Nat} {M M' : List Nat} [i : Drp M r M'] : Drp (a :: M) r (a :: M') := ⟨fun k h => by
  rcases List.mem_cons.1 h with rfl | h
  · exact .head _
  · exact .tail _ (i.p k h), fun k h => by
  rcases List.mem_cons.1 h with rfl | h
  · exact .inl (.head _)
  · exact (i.q k h).imp (.tail _) id⟩
class NbA (b : Nat) (K : List Nat) : Prop where a : ∀ k ∈ K, b ≠ k
instance {b : Nat} : NbA b [] := ⟨fun _ h => by cases h⟩
instance {b k : Nat} {K : List Nat} [h : Nb b k] [i : NbA b K] : NbA b (k :: K) := ⟨fun x hx => by
  rcases List.mem_cons.1 hx with rfl | hx
  · exact h.ne
  · exact i.a x hx⟩
instance {b k : Nat} {K : List Nat} [h : Nb k b] [i : NbA b K] : NbA b (k :: K) := ⟨fun x hx => by
  rcases List.mem_cons.1 hx with rfl | hx
  · exact h.ne.symm
  · exact i.a x hx⟩
class CovA (L : Nat → Prop) (w : World) (K : List Nat) : Prop where a : ∀ k ∈ K, Cov L w k
instance {L : Nat → Prop} {w : World} : CovA L w [] := ⟨fun _ h => by cases h⟩
instance {L : Nat → Prop} {w : World} {k : Nat} {K : List Nat} [h : Cov L w k] [i : CovA L w K] : CovA L w (k :: K) := ⟨fun x hx => by
  rcases List.mem_cons.1 hx with rfl | hx
  · exact h
  · exact i.a x hx⟩
structure Sp (M M' : List Nat) (S : Nat → Prop) (w w' : World) : Prop where
  mv : Mv M M' w w'
  ch : Chg S w w'
class MT (M M' : List Nat) (S : Nat → Prop) (w w' : World) (A : Prop) (B : outParam Prop) : Prop where go : Mv M M' w w' → Chg S w w' → A → B
section
variable {α : Type} [Rep α] {w w' base : World} {G S L : Nat → Prop} {M M' K : List Nat} {a : Option Addr} {n c r b k : Nat} {t : TypeId} {xs : List α} {cs : List Value}
instance : MT M M' S w w' (RepS w (nin G M) a n c xs) (RepS w' (nin G M') a n c xs) := ⟨fun hm _ h => h.mv hm⟩
instance : MT M M' nil w w' (Box w b t cs) (Box w' b t cs) := ⟨fun _ hx h => h.mv hx (fun h => h)⟩
instance [h : Nb b k] : MT M M' (one k) w w' (Box w b t cs) (Box w' b t cs) := ⟨fun _ hx g => g.mv hx h.ne⟩
instance [h : Nb k b] : MT M M' (one k) w w' (Box w b t cs) (Box w' b t cs) := ⟨fun _ hx g => g.mv hx h.ne.symm⟩
instance [h : NbA b K] : MT M M' (ins K) w w' (Box w b t cs) (Box w' b t cs) := ⟨fun _ hx g => g.mv hx (fun hb => h.a b hb rfl)⟩
instance : MT M M' nil w w' (Own w r t (nin G M) n c xs) (Own w' r t (nin G M') n c xs) := ⟨fun hm hx h => h.mv hm hx (fun h => h)⟩
instance [h : Nb r k] : MT M M' (one k) w w' (Own w r t (nin G M) n c xs) (Own w' r t (nin G M') n c xs) := ⟨fun hm hx g => g.mv hm hx h.ne⟩
instance [h : Nb k r] : MT M M' (one k) w w' (Own w r t (nin G M) n c xs) (Own w' r t (nin G M') n c xs) := ⟨fun hm hx g => g.mv hm hx h.ne.symm⟩
instance [h : NbA r K] : MT M M' (ins K) w w' (Own w r t (nin G M) n c xs) (Own w' r t (nin G M') n c xs) := ⟨fun hm hx g => g.mv hm hx (fun hb => h.a r hb rfl)⟩
instance : MT M M' nil w w' (Chg L base w) (Chg L base w') := ⟨fun _ hx h => h.stepN hx⟩
instance [hc : Cov L base k] : MT M M' (one k) w w' (Chg L base w) (Chg L base w') := ⟨fun _ hx h => h.stepO hx hc⟩
instance [hc : CovA L base K] : MT M M' (ins K) w w' (Chg L base w) (Chg L base w') := ⟨fun _ hx h => h.stepI hx hc.a⟩
theorem sp (hm : Mv M M' w w') (hx : Chg S w w') : Sp M M' S w w' := ⟨hm, hx⟩
theorem sn (M : List Nat) (hx : Ext w w') (hb : b = w.heap.size) : Sp M (b :: M) nil w w' := ⟨Mv.cons (Mv.ext hx) (Nat.le_of_eq hb.symm), hx⟩
theorem sz (M : List Nat) (hx : Ext w w') (hb : w.heap.size ≤ b) : Sp M (b :: M) nil w w' := ⟨Mv.cons (Mv.ext hx) hb, hx⟩
theorem se (M : List Nat) (hx : Ext w w') : Sp M M nil w w' := ⟨Mv.ext hx, hx⟩
theorem so (M : List Nat) (hx : Chg (one b) w w') [h : MemL b M] : Sp M M (one b) w w' := ⟨Mv.on hx h.m, hx⟩
theorem s1 (hx : Chg (one b) w w') : Sp [b] [b] (one b) w w' := ⟨Mv.on hx (.head _), hx⟩
theorem si (hx : Chg (ins K) w w') : Sp K K (ins K) w w' := ⟨Mv.mk hx (fun _ _ h => ⟨h, h⟩), hx⟩
theorem sa (M : List Nat) {r2 : Nat} (hx : Chg (one r) w w') (ho : r2 = r ∨ r2 = w.heap.size) [h : Rpl M r r2 M'] : Sp M M' (one r) w w' :=
  ⟨Mv.mk hx (fun k hk hm => ⟨h.p k hm (fun e => by
    subst e
    rcases ho with rfl | e
    · exact hm h.q
    · omega), fun e => hm (by cases e; exact h.q)⟩), hx⟩
theorem sd (w : World) (M : List Nat) (r : Nat) [h : Drp M r M'] : Sp M M' nil w w := ⟨Mv.less h.p, Chg.refl _ _⟩
theorem Own.rn {r2 : Nat} (h : Own w r2 t (nin G M) n c xs) (r : Nat) [i : Rpl M r r2 M'] : Own w r2 t (nin G M') n c xs :=
  h.renin (fun k _ hm hr => i.p k hm hr)
theorem Own.sl (h : Own w r t (nin G M) n c xs) (hg : G r) [i : Drp M r M'] [j : NbA r M'] : RepS w (nin G M') (some ⟨r, 0, none⟩) n c xs :=
  h.rep' (fun _ _ hF => ⟨hF.1, fun hm => hF.2 (i.p _ hm)⟩) ⟨hg, fun hm => j.a r hm rfl⟩
theorem RepS.fr {s s0 : Nat} (h : RepS w (ge s) a n c xs) (hM : ∀ b ∈ M, b < s) (hs : Gb s0 s) : RepS w (nin (ge s0) M) a n c xs :=
  h.fresh hM (fun _ h => Nat.le_trans hs h)
theorem RepS.w1 (h : RepS w (nin G M) a n c xs) : RepS w G a n c xs := h.weak (fun _ _ h => h.1)
theorem RepS.oi [i : MemL r M] (h : RepS w (nin G M) a n c xs) : RepS w (fun b => nin G M b ∧ b ≠ r) a n c xs := h.weak (fun _ _ h => own_in i.m h)
theorem RepS.ta (h : RepS w G a n c xs) : RepS w all a n c xs := h.weak (fun _ _ _ => trivial)
theorem RepS.tp (h : RepS w G a n c xs) : n = xs.length ∧ n ≤ 9223372036854775807 ∧ RepS w (nin (fo G w.heap.size) []) a n c xs := ⟨h.len, h.max, h.top⟩
theorem Chg.cn (h : Chg L base w) (hb : b = w.heap.size) : Cov L base b := cov_new hb h.size
end
section
variable {M M1 : List Nat} {S : Nat → Prop} {w w1 : World}
theorem Sp.g1 {A0 B0 : Prop} (s : Sp M M1 S w w1) (a0 : A0) [i0 : MT M M1 S w w1 A0 B0] : B0 := i0.go s.mv s.ch a0
theorem Sp.g2 {A0 A1 B0 B1 : Prop} (s : Sp M M1 S w w1) (a0 : A0) (a1 : A1) [i0 : MT M M1 S w w1 A0 B0] [i1 : MT M M1 S w w1 A1 B1] : B0 ∧ B1 := ⟨i0.go s.mv s.ch a0, i1.go s.mv s.ch a1⟩
theorem Sp.g3 {A0 A1 A2 B0 B1 B2 : Prop} (s : Sp M M1 S w w1) (a0 : A0) (a1 : A1) (a2 : A2) [i0 : MT M M1 S w w1 A0 B0] [i1 : MT M M1 S w w1 A1 B1] [i2 : MT M M1 S w w1 A2 B2] : B0 ∧ B1 ∧ B2 := ⟨i0.go s.mv s.ch a0, i1.go s.mv s.ch a1, i2.go s.mv s.ch a2⟩
theorem Sp.g4 {A0 A1 A2 A3 B0 B1 B2 B3 : Prop} (s : Sp M M1 S w w1) (a0 : A0) (a1 : A1) (a2 : A2) (a3 : A3) [i0 : MT M M1 S w w1 A0 B0] [i1 : MT M M1 S w w1 A1 B1] [i2 : MT M M1 S w w1 A2 B2] [i3 : MT M M1 S w w1 A3 B3] : B0 ∧ B1 ∧ B2 ∧ B3 := ⟨i0.go s.mv s.ch a0, i1.go s.mv s.ch a1, i2.go s.mv s.ch a2, i3.go s.mv s.ch a3⟩
theorem Sp.g5 {A0 A1 A2 A3 A4 B0 B1 B2 B3 B4 : Prop} (s : Sp M M1 S w w1) (a0 : A0) (a1 : A1) (a2 : A2) (a3 : A3) (a4 : A4) [i0 : MT M M1 S w w1 A0 B0] [i1 : MT M M1 S w w1 A1 B1] [i2 : MT M M1 S w w1 A2 B2] [i3 : MT M M1 S w w1 A3 B3] [i4 : MT M M1 S w w1 A4 B4] : B0 ∧ B1 ∧ B2 ∧ B3 ∧ B4 := ⟨i0.go s.mv s.ch a0, i1.go s.mv s.ch a1, i2.go s.mv s.ch a2, i3.go s.mv s.ch a3, i4.go s.mv s.ch a4⟩
theorem Sp.g6 {A0 A1 A2 A3 A4 A5 B0 B1 B2 B3 B4 B5 : Prop} (s : Sp M M1 S w w1) (a0 : A0) (a1 : A1) (a2 : A2) (a3 : A3) (a4 : A4) (a5 : A5) [i0 : MT M M1 S w w1 A0 B0] [i1 : MT M M1 S w w1 A1 B1] [i2 : MT M M1 S w w1 A2 B2] [i3 : MT M M1 S w w1 A3 B3] [i4 : MT M M1 S w w1 A4 B4] [i5 : MT M M1 S w w1 A5 B5] : B0 ∧ B1 ∧ B2 ∧ B3 ∧ B4 ∧ B5 := ⟨i0.go s.mv s.ch a0, i1.go s.mv s.ch a1, i2.go s.mv s.ch a2, i3.go s.mv s.ch a3, i4.go s.mv s.ch a4, i5.go s.mv s.ch a5⟩
theorem Sp.g7 {A0 A1 A2 A3 A4 A5 A6 B0 B1 B2 B3 B4 B5 B6 : Prop} (s : Sp M M1 S w w1) (a0 : A0) (a1 : A1) (a2 : A2) (a3 : A3) (a4 : A4) (a5 : A5) (a6 : A6) [i0 : MT M M1 S w w1 A0 B0] [i1 : MT M M1 S w w1 A1 B1] [i2 : MT M M1 S w w1 A2 B2] [i3 : MT M M1 S w w1 A3 B3] [i4 : MT M M1 S w w1 A4 B4] [i5 : MT M M1 S w w1 A5 B5] [i6 : MT M M1 S w w1 A6 B6] : B0 ∧ B1 ∧ B2 ∧ B3 ∧ B4 ∧ B5 ∧ B6 := ⟨i0.go s.mv s.ch a0, i1.go s.mv s.ch a1, i2.go s.mv s.ch a2, i3.go s.mv s.ch a3, i4.go s.mv s.ch a4, i5.go s.mv s.ch a5, i6.go s.mv s.ch a6⟩
theorem Sp.g8 {A0 A1 A2 A3 A4 A5 A6 A7 B0 B1 B2 B3 B4 B5 B6 B7 : Prop} (s : Sp M M1 S w w1) (a0 : A0) (a1 : A1) (a2 : A2) (a3 : A3) (a4 : A4) (a5 : A5) (a6 : A6) (a7 : A7) [i0 : MT M M1 S w w1 A0 B0] [i1 : MT M M1 S w w1 A1 B1] [i2 : MT M M1 S w w1 A2 B2] [i3 : MT M M1 S w w1 A3 B3] [i4 : MT M M1 S w w1 A4 B4] [i5 : MT M M1 S w w1 A5 B5] [i6 : MT M M1 S w w1 A6 B6] [i7 : MT M M1 S w w1 A7 B7] : B0 ∧ B1 ∧ B2 ∧ B3 ∧ B4 ∧ B5 ∧ B6 ∧ B7 := ⟨i0.go s.mv s.ch a0, i1.go s.mv s.ch a1, i2.go s.mv s.ch a2, i3.go s.mv s.ch a3, i4.go s.mv s.ch a4, i5.go s.mv s.ch a5, i6.go s.mv s.ch a6, i7.go s.mv s.ch a7⟩
theorem Sp.g9 {A0 A1 A2 A3 A4 A5 A6 A7 A8 B0 B1 B2 B3 B4 B5 B6 B7 B8 : Prop} (s : Sp M M1 S w w1) (a0 : A0) (a1 : A1) (a2 : A2) (a3 : A3) (a4 : A4) (a5 : A5) (a6 : A6) (a7 : A7) (a8 : A8) [i0 : MT M M1 S w w1 A0 B0] [i1 : MT M M1 S w w1 A1 B1] [i2 : MT M M1 S w w1 A2 B2] [i3 : MT M M1 S w w1 A3 B3] [i4 : MT M M1 S w w1 A4 B4] [i5 : MT M M1 S w w1 A5 B5] [i6 : MT M M1 S w w1 A6 B6] [i7 : MT M M1 S w w1 A7 B7] [i8 : MT M M1 S w w1 A8 B8] : B0 ∧ B1 ∧ B2 ∧ B3 ∧ B4 ∧ B5 ∧ B6 ∧ B7 ∧ B8 := ⟨i0.go s.mv s.ch a0, i1.go s.mv s.ch a1, i2.go s.mv s.ch a2, i3.go s.mv s.ch a3, i4.go s.mv s.ch a4, i5.go s.mv s.ch a5, i6.go s.mv s.ch a6, i7.go s.mv s.ch a7, i8.go s.mv s.ch a8⟩
theorem Sp.g10 {A0 A1 A2 A3 A4 A5 A6 A7 A8 A9 B0 B1 B2 B3 B4 B5 B6 B7 B8 B9 : Prop} (s : Sp M M1 S w w1) (a0 : A0) (a1 : A1) (a2 : A2) (a3 : A3) (a4 : A4) (a5 : A5) (a6 : A6) (a7 : A7) (a8 : A8) (a9 : A9) [i0 : MT M M1 S w w1 A0 B0] [i1 : MT M M1 S w w1 A1 B1] [i2 : MT M M1 S w w1 A2 B2] [i3 : MT M M1 S w w1 A3 B3] [i4 : MT M M1 S w w1 A4 B4] [i5 : MT M M1 S w w1 A5 B5] [i6 : MT M M1 S w w1 A6 B6] [i7 : MT M M1 S w w1 A7 B7] [i8 : MT M M1 S w w1 A8 B8] [i9 : MT M M1 S w w1 A9 B9] : B0 ∧ B1 ∧ B2 ∧ B3 ∧ B4 ∧ B5 ∧ B6 ∧ B7 ∧ B8 ∧ B9 := ⟨i0.go s.mv s.ch a0, i1.go s.mv s.ch a1, i2.go s.mv s.ch a2, i3.go s.mv s.ch a3, i4.go s.mv s.ch a4, i5.go s.mv s.ch a5, i6.go s.mv s.ch a6, i7.go s.mv s.ch a7, i8.go s.mv s.ch a8, i9.go s.mv s.ch a9⟩
theorem Sp.g11 {A0 A1 A2 A3 A4 A5 A6 A7 A8 A9 A10 B0 B1 B2 B3 B4 B5 B6 B7 B8 B9 B10 : Prop} (s : Sp M M1 S w w1) (a0 : A0) (a1 : A1) (a2 : A2) (a3 : A3) (a4 : A4) (a5 : A5) (a6 : A6) (a7 : A7) (a8 : A8) (a9 : A9) (a10 : A10) [i0 : MT M M1 S w w1 A0 B0] [i1 : MT M M1 S w w1 A1 B1] [i2 : MT M M1 S w w1 A2 B2] [i3 : MT M M1 S w w1 A3 B3] [i4 : MT M M1 S w w1 A4 B4] [i5 : MT M M1 S w w1 A5 B5] [i6 : MT M M1 S w w1 A6 B6] [i7 : MT M M1 S w w1 A7 B7] [i8 : MT M M1 S w w1 A8 B8] [i9 : MT M M1 S w w1 A9 B9] [i10 : MT M M1 S w w1 A10 B10] : B0 ∧ B1 ∧ B2 ∧ B3 ∧ B4 ∧ B5 ∧ B6 ∧ B7 ∧ B8 ∧ B9 ∧ B10 := ⟨i0.go s.mv s.ch a0, i1.go s.mv s.ch a1, i2.go s.mv s.ch a2, i3.go s.mv s.ch a3, i4.go s.mv s.ch a4, i5.go s.mv s.ch a5, i6.go s.mv s.ch a6, i7.go s.mv s.ch a7, i8.go s.mv s.ch a8, i9.go s.mv s.ch a9, i10.go s.mv s.ch a10⟩
theorem Sp.g12 {A0 A1 A2 A3 A4 A5 A6 A7 A8 A9 A10 A11 B0 B1 B2 B3 B4 B5 B6 B7 B8 B9 B10 B11 : Prop} (s : Sp M M1 S w w1) (a0 : A0) (a1 : A1) (a2 : A2) (a3 : A3) (a4 : A4) (a5 : A5) (a6 : A6) (a7 : A7) (a8 : A8) (a9 : A9) (a10 : A10) (a11 : A11) [i0 : MT M M1 S w w1 A0 B0] [i1 : MT M M1 S w w1 A1 B1] [i2 : MT M M1 S w w1 A2 B2] [i3 : MT M M1 S w w1 A3 B3] [i4 : MT M M1 S w w1 A4 B4] [i5 : MT M M1 S w w1 A5 B5] [i6 : MT M M1 S w w1 A6 B6] [i7 : MT M M1 S w w1 A7 B7] [i8 : MT M M1 S w w1 A8 B8] [i9 : MT M M1 S w w1 A9 B9] [i10 : MT M M1 S w w1 A10 B10] [i11 : MT M M1 S w w1 A11 B11] : B0 ∧ B1 ∧ B2 ∧ B3 ∧ B4 ∧ B5 ∧ B6 ∧ B7 ∧ B8 ∧ B9 ∧ B10 ∧ B11 := ⟨i0.go s.mv s.ch a0, i1.go s.mv s.ch a1, i2.go s.mv s.ch a2, i3.go s.mv s.ch a3, i4.go s.mv s.ch a4, i5.go s.mv s.ch a5, i6.go s.mv s.ch a6, i7.go s.mv s.ch a7, i8.go s.mv s.ch a8, i9.go s.mv s.ch a9, i10.go s.mv s.ch a10, i11.go s.mv s.ch a11⟩
end
theorem al1 {a0 s : Nat} (h0 : a0 < s) : ∀ b ∈ [a0], b < s := all_cons h0 (all_nil)
theorem al2 {a0 a1 s : Nat} (h0 : a0 < s) (h1 : a1 < s) : ∀ b ∈ [a0, a1], b < s := all_cons h0 (all_cons h1 (all_nil))
theorem al3 {a0 a1 a2 s : Nat} (h0 : a0 < s) (h1 : a1 < s) (h2 : a2 < s) : ∀ b ∈ [a0, a1, a2], b < s := all_cons h0 (all_cons h1 (all_cons h2 (all_nil)))
theorem al4 {a0 a1 a2 a3 s : Nat} (h0 : a0 < s) (h1 : a1 < s) (h2 : a2 < s) (h3 : a3 < s) : ∀ b ∈ [a0, a1, a2, a3], b < s := all_cons h0 (all_cons h1 (all_cons h2 (all_cons h3 (all_nil))))
theorem al5 {a0 a1 a2 a3 a4 s : Nat} (h0 : a0 < s) (h1 : a1 < s) (h2 : a2 < s) (h3 : a3 < s) (h4 : a4 < s) : ∀ b ∈ [a0, a1, a2, a3, a4], b < s := all_cons h0 (all_cons h1 (all_cons h2 (all_cons h3 (all_cons h4 (all_nil)))))
theorem al6 {a0 a1 a2 a3 a4 a5 s : Nat} (h0 : a0 < s) (h1 : a1 < s) (h2 : a2 < s) (h3 : a3 < s) (h4 : a4 < s) (h5 : a5 < s) : ∀ b ∈ [a0, a1, a2, a3, a4, a5], b < s := all_cons h0 (all_cons h1 (all_cons h2 (all_cons h3 (all_cons h4 (all_cons h5 (all_nil))))))
theorem al7 {a0 a1 a2 a3 a4 a5 a6 s : Nat} (h0 : a0 < s) (h1 : a1 < s) (h2 : a2 < s) (h3 : a3 < s) (h4 : a4 < s) (h5 : a5 < s) (h6 : a6 < s) : ∀ b ∈ [a0, a1, a2, a3, a4, a5, a6], b < s := all_cons h0 (all_cons h1 (all_cons h2 (all_cons h3 (all_cons h4 (all_cons h5 (all_cons h6 (all_nil)))))))
end Go.Proofs.YtfnpaglcnmcnbaaGreat
