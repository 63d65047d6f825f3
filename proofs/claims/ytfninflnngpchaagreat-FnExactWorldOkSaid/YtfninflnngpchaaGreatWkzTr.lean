/- What an argument of the laws' types reads as: plain data that stands in memory. No conditions. -/
import Derived.Test.YtfninflnngpchaaGreatWkzMod90
import Derived.ChangeArms
import Derived.DataReads
set_option linter.unusedVariables false
set_option linter.unusedSimpArgs false
namespace Go.Proofs.YtfninflnngpchaaGreat
def PL (P:Program) (t:TypeId):Array Field:=match P.underlying t with | some (.struct fs)=>fs | _=>#[]
def PM (P:Program) (t:TypeId):Bool:=match P.underlying t with | some (.struct _)=>true | _=>false
theorem L2 {P:Program}{t:TypeId}(h:PM P t=true):P.underlying t=some (.struct (PL P t)):=by
 unfold PM at h
 unfold PL
 split at h
 ·rename_i fs he; rw [he]
 ·cases h
section
variable {P:Program} {w:World}
def Rd {α:Type}[Rep α] (P:Program) (w:World) (t:TypeId) (B:α→Prop):Prop :=
 ∀ {H:Type} {enc:TypeId × Value→H} {base:Nat} {sp:Nat→Bool} {held:Bool} {fuel:Nat} {cs:List Value} {r:DataW H × List MemPlace},DataW.trod enc P w base sp held fuel t cs=some r→∃ x:α,Rep.rep w all x cs∧B x
theorem BU {H:Type}{enc:TypeId × Value→H}{base:Nat}{sp:Nat→Bool}{held:Bool}{fuel:Nat}{t:TypeId}{cs:List Value}{r:DataW H × List MemPlace}(h:DataW.trod enc P w base sp held fuel t cs=some r)
 (i:Nat) {ty of_ k:Nat} (hs:PM P t=true) (hf:((PL P t)[i]?).map (fun f=>(f.type,f.offset))=some (ty,of_)) (hc:P.cellsOf ty=k):∃ m y,DataW.trod enc P w base sp held m ty ((cs.drop of_).take k)=some y:=by
 obtain ⟨xs,n,_,_,_,hl,hx⟩:=DataW.trod_struct (L2 hs) h
 cases hfi:(PL P t)[i]? with
 | none=>rw [hfi] at hf; cases hf
 | some f =>
   rw [hfi] at hf
   simp only [Option.map_some,Option.some.injEq,Prod.mk.injEq] at hf
   obtain ⟨rfl,rfl⟩:=hf
   have hi:i< xs.length:=by rw [hl]; exact (Array.getElem?_eq_some_iff.1 hfi).1
   subst hc
   exact ⟨n,xs[i],by rw [hx i f hfi]; exact AU hi⟩
theorem DZ {H:Type}{enc:TypeId × Value→H}{base:Nat}{sp:Nat→Bool}{held:Bool}{fuel:Nat}{t:TypeId}{cs:List Value}{r:DataW H × List MemPlace}(h:DataW.trod enc P w base sp held fuel t cs=some r)
 {k:Nat} (hs:PM P t=true) (hc:P.cellsOf t=k):cs.length=k:=by
 obtain ⟨_,_,_,_,hl,_⟩:=DataW.trod_struct (L2 hs) h
 rw [hl,hc]
theorem Rd.int {t:TypeId}(ht:P.underlying t=some (.int .i64)):Rd P w t (fun _:Int=>True):=fun h=>by
 obtain ⟨n,rfl,_⟩:=DataW.trod_int ht h
 exact ⟨n,rfl,trivial⟩
theorem KZ {H:Type}{enc:TypeId × Value→H}{base:Nat}{sp:Nat→Bool}{held:Bool}{fuel:Nat}{t:TypeId}{cs:List Value}{r:DataW H × List MemPlace}(ht:P.underlying t=some .string) (h:DataW.trod enc P w base sp held fuel t cs=some r) :
 ∃ s:Str,cs=[.string (bs s)]∧s.length≤9223372036854775807:=by
 obtain ⟨s,rfl,_,hl⟩:=DataW.trod_string ht h
 have e:s.data.toList.length=s.size:=by rw [Array.length_toList]; rfl
 refine ⟨s.data.toList,?_,?_⟩
 ·cases s; simp [bs]
 ·rw [e]; exact hl
theorem Mo {x:Addr}{v:Value}(h:w.cell? x=some v):x=⟨x.block,x.off,none⟩:=by
 obtain ⟨b,o,s⟩:=x
 cases s with
 | none=>rfl
 | some q =>
   unfold World.cell? at h
   split at h
   ·simp at h
   ·cases h
theorem Rd.slice {α:Type}[Rep α] {B:α→Prop}{t e:TypeId}(ht:P.underlying t=some (.slice e)) (hc:P.cellsOf e=Rep.sz α) (he:Rd P w e B):Rd P w t (fun xs:List α=>∀ x∈xs,B x):=by
 intro H enc base sp held fuel cs r h
 rcases DataW.trod_slice ht h with ⟨rfl,_⟩ | ⟨a,len,cap,elems,rest,n,_,rfl,_,_,hl,hm,hlen,hel,_⟩
 ·exact ⟨[],⟨none,0,0,rfl,RepS.DI _ _ none 0 AE⟩,fun x hx=>by cases hx⟩
 ·have key:∀ i,i< len→∃ (cs:List Value) (x:α),w.cells? base (a.add (i * P.cellsOf e)) (P.cellsOf e)=some cs∧Rep.rep w all x cs∧B x:=fun i hi=>by
   have h1:=hel i hi
   rw [AU (by omega:i< elems.length)] at h1
   obtain ⟨cs,h2,h3⟩:=Option.bind_eq_some_iff.1 h1
   obtain ⟨x,h4,h5⟩:=he h3
   exact ⟨cs,x,h2,h4,h5⟩
  have hpos:=Rep.pos (α:=α)
  have haddr:0< len→a=⟨a.block,a.off,none⟩:=fun h0=>by
   obtain ⟨cs,x,h2,h4,_⟩:=key 0 h0
   obtain ⟨_,h6,h7⟩:=World.cells?_some h2
   have h8:=h7 0 (by rw [hc]; exact hpos)
   rw [Nat.zero_mul] at h8
   have hz:cs.length=Rep.sz α:=Rep.len h4
   rw [AU AB] at h8
   have h9:=Mo h8
   cases ha:a.spot with
   | none=>obtain ⟨b,o,s⟩:=a; simp only at ha; subst ha; rfl
   | some q =>
     obtain ⟨b,o,s⟩:=a
     simp only at ha
     subst ha
     simp [Addr.add] at h9
  obtain ⟨xs,hxs⟩:∃ xs:List α,xs.length=len∧∀ i x,xs[i]? = some x→∃ cs:List Value,w.cells? base (a.add (i * P.cellsOf e)) (P.cellsOf e)=some cs∧Rep.rep w all x cs∧B x:=by
   have key2:∀ m,m≤len→∃ xs:List α,xs.length=m∧∀ i x,xs[i]? = some x→∃ cs:List Value,w.cells? base (a.add (i * P.cellsOf e)) (P.cellsOf e)=some cs∧Rep.rep w all x cs∧B x:=by
    intro m
    induction m with
    | zero=>intro _; exact ⟨[],rfl,fun i x hx=>by simp at hx⟩
    | succ m ih =>
      intro hm
      obtain ⟨xs,h1,h2⟩:=ih AB
      obtain ⟨cs,x,h3,h4,h5⟩:=key m AB
      refine ⟨xs++[x],by simp [h1],fun i y hy=>?_⟩
      rw [List.getElem?_append] at hy
      by_cases hi:i< xs.length
      ·rw [if_pos hi] at hy; exact h2 i y hy
      ·rw [if_neg hi] at hy
       have h0:i - xs.length=0:=by
        rcases hq:i - xs.length with _ | q
        ·rfl
        ·rw [hq] at hy; simp at hy
       rw [h0] at hy
       simp only [List.getElem?_cons_zero,Option.some.injEq] at hy
       subst hy
       have:i=m:=by omega
       subst this
       exact ⟨cs,h3,h4,h5⟩
   exact key2 len (Nat.le_refl _)
  refine ⟨xs,⟨some a,len,cap,rfl,hxs.1.symm,hl,hm,fun h0=>?_,fun _=>trivial,fun i x hx=>?_⟩,fun x hx=>?_⟩
  ·have:=haddr h0
   show some a=some ⟨a.block,a.off,none⟩
   rw [← this]
  ·obtain ⟨cs,h2,h4,_⟩:=hxs.2 i x hx
   refine ⟨cs,h4,fun k u hu=>?_⟩
   obtain ⟨_,h6,h7⟩:=World.cells?_some h2
   have hi:i< len:=by rw [← hxs.1]; exact (List.getElem?_eq_some_iff.1 hx).1
   have h8:=h7 k (by rw [← h6]; exact (List.getElem?_eq_some_iff.1 hu).1)
   rw [hu,haddr AB,add_lit,hc] at h8
   exact h8
  ·obtain ⟨i,hi⟩:=List.mem_iff_getElem?.1 hx
   obtain ⟨_,_,_,h5⟩:=hxs.2 i x hi
   exact h5
theorem Rd.mono {α:Type}[Rep α] {t:TypeId}{B B':α→Prop}(h:Rd P w t B) (hb:∀ x,B x→B' x):Rd P w t B':=fun hx=>by
 obtain ⟨x,h1,h2⟩:=h hx
 exact ⟨x,h1,hb x h2⟩
end
section
variable (w:World)
theorem Gi:Rd Tryz.prog w 3 (fun _:Int=>True):=Rd.int Tryz.underlying3
theorem OQ:Rd Tryz.prog w 154 TgB:=fun h=>by
 have hn:=DZ h (k:=2) AA AA
 obtain ⟨m0,y0,h0⟩:=BU h 0 (ty:=9) (of_:=0) (k:=1) AA AA AA
 obtain ⟨m1,y1,h1⟩:=BU h 1 (ty:=9) (of_:=1) (k:=1) AA AA AA
 rename_i cs _
 obtain ⟨a,b,rfl⟩:∃ a b,cs=[a,b]:=match cs,hn with | [a,b],_=>⟨a,b,rfl⟩
 obtain ⟨s,e0,l0⟩:=KZ Tryz.underlying9 h0
 obtain ⟨t,e1,l1⟩:=KZ Tryz.underlying9 h1
 cases e0; cases e1
 exact ⟨⟨s,t⟩,rfl,l0,l1⟩
theorem OR:Rd Tryz.prog w 66 (fun _:Row=>True):=fun h=>by
 have hn:=DZ h (k:=2) AA AA
 obtain ⟨m0,y0,h0⟩:=BU h 0 (ty:=3) (of_:=0) (k:=1) AA AA AA
 obtain ⟨m1,y1,h1⟩:=BU h 1 (ty:=3) (of_:=1) (k:=1) AA AA AA
 rename_i cs _
 obtain ⟨a,b,rfl⟩:∃ a b,cs=[a,b]:=match cs,hn with | [a,b],_=>⟨a,b,rfl⟩
 obtain ⟨s,e0,_⟩:=Gi w h0
 obtain ⟨t,e1,_⟩:=Gi w h1
 cases e0; cases e1
 exact ⟨⟨s,t⟩,rfl,trivial⟩
theorem Jn:Rd Tryz.prog w 31 (fun xs:List Int=>∀ x∈xs,True):=Rd.slice Tryz.underlying31 AA (Gi w)
theorem RC:Rd Tryz.prog w 64 NmB:=Rd.slice Tryz.underlying64 AA (OQ w)
theorem OS:Rd Tryz.prog w 22 NsB:=Rd.slice Tryz.underlying22 AA (RC w)
theorem QY:Rd Tryz.prog w 251 (fun xs:List Row=>∀ x∈xs,True):=Rd.slice Tryz.underlying251 AA (OR w)
theorem PN:Rd Tryz.prog w 163 (fun xs:List (List Row)=>∀ x∈xs,∀ y∈x,True):=Rd.slice Tryz.underlying163 AA (QY w)
theorem QZ:Rd Tryz.prog w 222 (fun p:Pst=>TgB p.tag):=fun h=>by
 have hn:=DZ h (k:=3) AA AA
 obtain ⟨m0,y0,h0⟩:=BU h 0 (ty:=154) (of_:=0) (k:=2) AA AA AA
 obtain ⟨m1,y1,h1⟩:=BU h 1 (ty:=31) (of_:=2) (k:=1) AA AA AA
 rename_i cs _
 obtain ⟨a,b,c,rfl⟩:∃ a b c,cs=[a,b,c]:=match cs,hn with | [a,b,c],_=>⟨a,b,c,rfl⟩
 obtain ⟨x0,e0,b0⟩:=OQ w h0
 obtain ⟨x1,⟨g,n,q,e1,r1⟩,_⟩:=Jn w h1
 cases e0; cases e1
 exact ⟨⟨x0,x1⟩,⟨g,n,q,rfl,r1⟩,b0⟩
theorem PO:Rd Tryz.prog w 23 PoB:=Rd.slice Tryz.underlying23 AA (QZ w)
theorem Qa:Rd Tryz.prog w 25 IxB:=fun h=>by
 have hn:=DZ h (k:=2) AA AA
 obtain ⟨m0,y0,h0⟩:=BU h 0 (ty:=22) (of_:=0) (k:=1) AA AA AA
 obtain ⟨m1,y1,h1⟩:=BU h 1 (ty:=23) (of_:=1) (k:=1) AA AA AA
 rename_i cs _
 obtain ⟨a,b,rfl⟩:∃ a b,cs=[a,b]:=match cs,hn with | [a,b],_=>⟨a,b,rfl⟩
 obtain ⟨x0,⟨g0,n0,q0,e0,r0⟩,b0⟩:=OS w h0
 obtain ⟨x1,⟨g1,n1,q1,e1,r1⟩,b1⟩:=PO w h1
 cases e0; cases e1
 exact ⟨⟨x0,x1⟩,⟨g0,n0,q0,g1,n1,q1,rfl,r0,r1⟩,b0,b1⟩
theorem OT:Rd Tryz.prog w 165 (fun _:Prt=>True):=fun h=>by
 have hn:=DZ h (k:=2) AA AA
 obtain ⟨m0,y0,h0⟩:=BU h 0 (ty:=31) (of_:=0) (k:=1) AA AA AA
 obtain ⟨m1,y1,h1⟩:=BU h 1 (ty:=163) (of_:=1) (k:=1) AA AA AA
 rename_i cs _
 obtain ⟨a,b,rfl⟩:∃ a b,cs=[a,b]:=match cs,hn with | [a,b],_=>⟨a,b,rfl⟩
 obtain ⟨x0,⟨g0,n0,q0,e0,r0⟩,_⟩:=Jn w h0
 obtain ⟨x1,⟨g1,n1,q1,e1,r1⟩,_⟩:=PN w h1
 cases e0; cases e1
 exact ⟨⟨x0,x1⟩,⟨g0,n0,q0,g1,n1,q1,rfl,r0,r1⟩,trivial⟩
theorem PQ:Rd Tryz.prog w 26 (fun xs:List Prt=>∀ x∈xs,True):=Rd.slice Tryz.underlying26 AA (OT w)
theorem Qb:Rd Tryz.prog w 184 (fun _:Smp=>True):=fun h=>by
 have hn:=DZ h (k:=3) AA AA
 obtain ⟨m0,y0,h0⟩:=BU h 0 (ty:=3) (of_:=0) (k:=1) AA AA AA
 obtain ⟨m1,y1,h1⟩:=BU h 1 (ty:=66) (of_:=1) (k:=2) AA AA AA
 rename_i cs _
 obtain ⟨a,b,c,rfl⟩:∃ a b c,cs=[a,b,c]:=match cs,hn with | [a,b,c],_=>⟨a,b,c,rfl⟩
 obtain ⟨x0,e0,_⟩:=Gi w h0
 obtain ⟨x1,e1,_⟩:=OR w h1
 cases e0; cases e1
 exact ⟨⟨x0,x1⟩,rfl,trivial⟩
theorem PR:Rd Tryz.prog w 27 (fun xs:List Smp=>∀ x∈xs,True):=Rd.slice Tryz.underlying27 AA (Qb w)
theorem Qc:Rd Tryz.prog w 29 StB:=fun h=>by
 have hn:=DZ h (k:=4) AA AA
 obtain ⟨m0,y0,h0⟩:=BU h 0 (ty:=25) (of_:=0) (k:=2) AA AA AA
 obtain ⟨m1,y1,h1⟩:=BU h 1 (ty:=26) (of_:=2) (k:=1) AA AA AA
 obtain ⟨m2,y2,h2⟩:=BU h 2 (ty:=27) (of_:=3) (k:=1) AA AA AA
 rename_i cs _
 obtain ⟨a,b,c,d,rfl⟩:∃ a b c d,cs=[a,b,c,d]:=match cs,hn with | [a,b,c,d],_=>⟨a,b,c,d,rfl⟩
 obtain ⟨x0,⟨g0,n0,q0,g3,n3,q3,e0,r0,r3⟩,b0⟩:=Qa w h0
 obtain ⟨x1,⟨g1,n1,q1,e1,r1⟩,_⟩:=PQ w h1
 obtain ⟨x2,⟨g2,n2,q2,e2,r2⟩,_⟩:=PR w h2
 cases e0; cases e1; cases e2
 exact ⟨⟨x0,x1,x2⟩,⟨g0,n0,q0,g3,n3,q3,g1,n1,q1,g2,n2,q2,rfl,r0,r3,r1,r2⟩,b0⟩
theorem Qd:Rd Tryz.prog w 168 (fun _:Fil=>True):=fun h=>by
 have hn:=DZ h (k:=3) AA AA
 obtain ⟨m0,y0,h0⟩:=BU h 0 (ty:=3) (of_:=0) (k:=1) AA AA AA
 obtain ⟨m1,y1,h1⟩:=BU h 1 (ty:=165) (of_:=1) (k:=2) AA AA AA
 rename_i cs _
 obtain ⟨a,b,c,rfl⟩:∃ a b c,cs=[a,b,c]:=match cs,hn with | [a,b,c],_=>⟨a,b,c,rfl⟩
 obtain ⟨x0,e0,_⟩:=Gi w h0
 obtain ⟨x1,⟨g0,n0,q0,g1,n1,q1,e1,r0,r1⟩,_⟩:=OT w h1
 cases e0; cases e1
 exact ⟨⟨x0,x1⟩,⟨g0,n0,q0,g1,n1,q1,rfl,r0,r1⟩,trivial⟩
theorem PS:Rd Tryz.prog w 30 (fun xs:List Fil=>∀ x∈xs,True):=Rd.slice Tryz.underlying30 AA (Qd w)
theorem Qe:Rd Tryz.prog w 33 DkB:=fun h=>by
 have hn:=DZ h (k:=4) AA AA
 obtain ⟨m0,y0,h0⟩:=BU h 0 (ty:=30) (of_:=0) (k:=1) AA AA AA
 obtain ⟨m1,y1,h1⟩:=BU h 1 (ty:=31) (of_:=1) (k:=1) AA AA AA
 obtain ⟨m2,y2,h2⟩:=BU h 2 (ty:=22) (of_:=2) (k:=1) AA AA AA
 obtain ⟨m3,y3,h3⟩:=BU h 3 (ty:=3) (of_:=3) (k:=1) AA AA AA
 rename_i cs _
 obtain ⟨a,b,c,d,rfl⟩:∃ a b c d,cs=[a,b,c,d]:=match cs,hn with | [a,b,c,d],_=>⟨a,b,c,d,rfl⟩
 obtain ⟨x0,⟨g0,n0,q0,e0,r0⟩,_⟩:=PS w h0
 obtain ⟨x1,⟨g1,n1,q1,e1,r1⟩,_⟩:=Jn w h1
 obtain ⟨x2,⟨g2,n2,q2,e2,r2⟩,b2⟩:=OS w h2
 obtain ⟨x3,e3,_⟩:=Gi w h3
 cases e0; cases e1; cases e2; cases e3
 exact ⟨⟨x0,x1,x2,x3⟩,⟨g0,n0,q0,g1,n1,q1,g2,n2,q2,rfl,r0,r1,r2⟩,b2⟩
theorem Qf:Rd Tryz.prog w 35 WdB:=fun h=>by
 have hn:=DZ h (k:=8) AA AA
 obtain ⟨m0,y0,h0⟩:=BU h 0 (ty:=29) (of_:=0) (k:=4) AA AA AA
 obtain ⟨m1,y1,h1⟩:=BU h 1 (ty:=33) (of_:=4) (k:=4) AA AA AA
 rename_i cs _
 obtain ⟨a,b,c,d,e,f,g,i,rfl⟩:∃ a b c d e f g i,cs=[a,b,c,d,e,f,g,i]:=match cs,hn with | [a,b,c,d,e,f,g,i],_=>⟨a,b,c,d,e,f,g,i,rfl⟩
 obtain ⟨x0,⟨g0,n0,q0,g1,n1,q1,g2,n2,q2,g3,n3,q3,e0,r0,r1,r2,r3⟩,b0⟩:=Qc w h0
 obtain ⟨x1,⟨g4,n4,q4,g5,n5,q5,g6,n6,q6,e1,r4,r5,r6⟩,b1⟩:=Qe w h1
 cases e0; cases e1
 exact ⟨⟨x0,x1⟩,⟨g0,n0,q0,g1,n1,q1,g2,n2,q2,g3,n3,q3,g4,n4,q4,g5,n5,q5,g6,n6,q6,rfl,r0,r1,r2,r3,r4,r5,r6⟩,b0,b1⟩
end
end Go.Proofs.YtfninflnngpchaaGreat
