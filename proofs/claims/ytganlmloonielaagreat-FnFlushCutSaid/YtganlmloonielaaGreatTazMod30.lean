/- What asking computes, as plain functions, and its laws. -/
import Derived.Test.YtganlmloonielaaGreatTazMod20
import Derived.Shelf.Lays
import Derived.Shelf.Strings.OnBuilder
set_option linter.unusedVariables false
set_option linter.unusedSimpArgs false
namespace Go.Proofs.YtganlmloonielaaGreat
section
variable {P:Program} {f:FuncId} {fn:Func} {R:Value→World→Prop} {c:Code} {e:Env} {w:World}
theorem Vh (f:ResultVar→Sem Value) (r r' r2 r3:ResultVar):(#[r,r',r2,r3]).mapM f=(do let v ← f r; let v' ← f r'; let v2 ← f r2; let v3 ← f r3; pure #[v,v',v2,v3]):=by
 simp
theorem L6 {a:Act} {r r' r'' r''':ResultVar} {v v' v'' v''':Value} (hs:Sees fn.ntmps a e) (hr:fn.results = #[r,r',r'',r''']) (h:Bf P w e r v) (h':Bf P w e r' v') (h'':Bf P w e r'' v'') (h3:Bf P w e r''' v''') :
 (results fn a.tmps).run P w=.ok (.tuple #[v,v',v'',v''']) w:=by
 rw [Fq,hr,Vh]
 refine AW (a:=#[v,v',v'',v''']) ?_
 rw [AW (h.run hs),AW (h'.run hs),AW (h''.run hs),AW (h3.run hs)]
 rfl
theorem T.WE {k} {r r' r'' r''':ResultVar} {v v' v'' v''':Value} (h:F3 c=true) (hf:P.funcs[f]? = some fn) (hres:fn.results = #[r,r',r'',r''']) (h1:Bf P w e r v) (h2:Bf P w e r' v') (h3:Bf P w e r'' v'') (h4:Bf P w e r''' v''')
 (hR:R (.tuple #[v,v',v'',v''']) w):T P f fn R (.code c::k) e w :=
 T.MG h (fun _ hs=>L6 hs hres h1 h2 h3 h4) hf hR
theorem T.r4 {k} {r r' r'' r''':ResultVar} {v v' v'' v''':Value} (hf:P.funcs[f]? = some fn) (hres:fn.results = #[r,r',r'',r''']) (h1:Bf P w e r v) (h2:Bf P w e r' v') (h3:Bf P w e r'' v'') (h4:Bf P w e r''' v''') (hR:R (.tuple #[v,v',v'',v''']) w) (h:F3 c=true:=by kernel_rfl):T P f fn R (.code c::k) e w :=
 T.WE h hf hres h1 h2 h3 h4 hR
end
def Ku (b:List Row) (lo hi:Int):List Row:=b.filter (fun r=>inR r.t lo hi)
def F1 (b:List Row) (lo hi:Int):List Row:=if BE b then Ku b lo hi else []
def fits (f:List Cnd) (n:List Tag):Bool:=f.all (fun c=>has n c.tag != c.no)
def D4 (f:List Cnd):Bool:=f.all (fun c=>Bg c.tag)&&decide (f.length≤3)
def CD (f:List Cnd) (n:List Tag):Bool:=D4 f&&BS n&&fits f n
def BW (p:List Tag→Bool):Nat→List (List Tag)→List Int
 | _,[]=>[]
 | i,n::ns=>(if p n then [(i:Int)+1] else [])++BW p (i+1) ns
def Ep (s:Sto) (lo hi:Int) (id:Int):List Hit:=if (Ku (rowsOf s id) lo hi).length > 0 then [⟨text (s.idx.names.getD (id - 1).toNat []),Ku (rowsOf s id) lo hi⟩] else []
def Pg (p:List Tag→Bool) (s:Sto) (lo hi:Int):List Hit:=(BW p 0 s.idx.names).flatMap (Ep s lo hi)
def DQ (s:Sto) (f:List Cnd) (lo hi:Int):List Hit:=if Ak s&&D4 f then Pg (fits f) s lo hi else []
theorem Ph {p:List Tag→Bool}:∀ (l:List (List Tag)) (i:Nat) (x:Int),x∈BW p i l→(i:Int)+1≤x∧x≤(i:Int)+l.length:=by
 intro l
 induction l with
 | nil=>intro i x h; simp [BW] at h
 | cons n ns ih =>
   intro i x h
   unfold BW at h
   rcases List.mem_append.1 h with h | h
   ·split at h
    ·simp at h; subst h; simp only [List.length_cons]; omega
    ·cases h
   ·have:=ih (i+1) x h
    simp only [List.length_cons]; omega
theorem Cj {p:List Tag→Bool} {l:List (List Tag)} {x:Int} (h:x∈BW p 0 l):1≤x∧x≤l.length:=by have:=Ph l 0 x h; omega
theorem Pk {p:List Tag→Bool}:∀ (l:List (List Tag)) (i:Nat),(∀ n∈l,p n=false)→BW p i l=[]:=by
 intro l
 induction l with
 | nil=>intro i _; rfl
 | cons n ns ih =>
   intro i h
   unfold BW
   rw [h n (by simp),ih (i+1) (fun m hm=>h m (by simp [hm]))]
   rfl
theorem RF {p q:List Tag→Bool}:∀ (l:List (List Tag)) (i:Nat),(∀ n∈l,p n=q n)→BW p i l=BW q i l:=by
 intro l
 induction l with
 | nil=>intro i _; rfl
 | cons n ns ih =>
   intro i h
   unfold BW
   rw [h n (by simp),ih (i+1) (fun m hm=>h m (by simp [hm]))]
theorem Ny {f:List Cnd} {x:Idx} (hx:NmI x.names) (hf:D4 f=true):BW (CD f) 0 x.names=BW (fits f) 0 x.names:=RF _ _ (fun n hn=>by unfold CD; rw [hf,hx.ok n hn]; rfl)
theorem RH {f:List Cnd} {x:Idx} (hf:D4 f=false):BW (CD f) 0 x.names=[]:=Pk _ _ (fun n _=>by unfold CD; rw [hf]; rfl)
theorem RI {s:Sto} {i:Int} (hk:Ak s=true) (h1:1≤i) (h2:i≤s.idx.names.length):HF s i=rowsOf s i:=Pb hk (by unfold inR; simp [h1,h2])
theorem RJ {s:Sto} (h:SD s) (hk:Ak s=true) (i:Int):Blk (rowsOf s i):=by
 have hI:=(StoK.of h hk).Ja
 have key:∀ (mem:List Smp) (o:List Row),(∀ m∈mem,Bw m.row=true)→Blk o→Blk (mem.foldl (Cg i) o):=by
  intro mem
  induction mem with
  | nil=>intro o _ ho; exact ho
  | cons m ms ih =>
    intro o hm ho
    refine ih _ (fun q hq=>hm q (by simp [hq])) ?_
    unfold Cg
    split
    ·exact ho.put (hm m (by simp))
    ·exact ho
 have key2:∀ (ps:List Prt) (o:List Row),(∀ p∈ps,PrtI p)→Blk o→Blk (ps.foldl (CZ i) o):=by
  intro ps
  induction ps with
  | nil=>intro o _ ho; exact ho
  | cons p ps ih=>intro o hp ho; exact ih _ (fun q hq=>hp q (by simp [hq])) (ho.merge ((hp p (by simp)).of i))
 exact key _ _ (fun m hm=>(hI.mem m hm).2.2) (key2 _ _ hI.part Blk.nil)
theorem Vi {s:Sto} (hk:Ak s=true) {i:Int} (h1:1≤i) (h2:i≤s.idx.names.length):(rowsOf s i).length≤24:=by
 unfold Ak at hk
 simp only [AR,decide_eq_true_eq,List.all_eq_true,List.mem_range,EZ] at hk
 have:=hk.2 (i.toNat - 1) AB
 rwa [show ((i.toNat - 1:Nat):Int)+1=i by omega] at this
theorem RK {s:Sto} (h:SD s) (hk:Ak s=true) {i:Int} (h1:1≤i) (h2:i≤s.idx.names.length):BE (rowsOf s i)=true:=by
 unfold BE
 have a1:CG none (rowsOf s i)=true:=RJ h hk i
 rw [a1,Bool.true_and,decide_eq_true_eq]
 exact Vi hk h1 h2
theorem Iz {s:Sto} (h:SD s) (hk:Ak s=true) {i:Int} (h1:1≤i) (h2:i≤s.idx.names.length) (lo hi:Int):F1 (rowsOf s i) lo hi=Ku (rowsOf s i) lo hi:=by
 unfold F1; rw [if_pos (RK h hk h1 h2)]
theorem RM {s:Sto} {f:List Cnd} {lo hi:Int} (hd:SD s) (h:Ak s=true):DQ s f lo hi=Pg (CD f) s lo hi:=by
 unfold DQ Pg
 cases h2:D4 f with
 | true=>rw [h,Ny hd.nm h2]; rfl
 | false=>rw [RH h2]; simp
end Go.Proofs.YtganlmloonielaaGreat
