/- What an argument of the laws' types reads as: plain data that stands in memory. No conditions. -/
import Derived.Test.YtcginoabkicdiaaGreatDzzMod90
import Derived.ChangeArms
import Derived.DataReads
set_option linter.unusedVariables false
set_option linter.unusedSimpArgs false
namespace Go.Proofs.YtcginoabkicdiaaGreat
def W5 (P:Program) (t:TypeId):Array Field:=match P.underlying t with | some (.struct fs)=>fs | _=>#[]
def W6 (P:Program) (t:TypeId):Bool:=match P.underlying t with | some (.struct _)=>true | _=>false
theorem SA {P:Program}{t:TypeId}(h:W6 P t=true):P.underlying t=some (.struct (W5 P t)):=by
 unfold W6 at h
 unfold W5
 split at h
 ·rename_i fs he; rw [he]
 ·cases h
section
variable {P:Program} {w:World}
def Rd {α:Type}[Rep α] (P:Program) (w:World) (t:TypeId) (B:α→Prop):Prop :=
 ∀ {H:Type} {enc:TypeId × Value→H} {base:Nat} {sp:Nat→Bool} {held:Bool} {fuel:Nat} {cs:List Value} {r:DataW H × List MemPlace},DataW.trod enc P w base sp held fuel t cs=some r→∃ x:α,Rep.rep w all x cs∧B x
theorem Bz {H:Type}{enc:TypeId × Value→H}{base:Nat}{sp:Nat→Bool}{held:Bool}{fuel:Nat}{t:TypeId}{cs:List Value}{r:DataW H × List MemPlace}(h:DataW.trod enc P w base sp held fuel t cs=some r)
 (i:Nat) {ty of_ k:Nat} (hs:W6 P t=true) (hf:((W5 P t)[i]?).map (fun f=>(f.type,f.offset))=some (ty,of_)) (hc:P.cellsOf ty=k):∃ m y,DataW.trod enc P w base sp held m ty ((cs.drop of_).take k)=some y:=by
 obtain ⟨xs,n,_,_,_,hl,hx⟩:=DataW.trod_struct (SA hs) h
 cases hfi:(W5 P t)[i]? with
 | none=>rw [hfi] at hf; cases hf
 | some f =>
   rw [hfi] at hf
   simp only [Option.map_some,Option.some.injEq,Prod.mk.injEq] at hf
   obtain ⟨rfl,rfl⟩:=hf
   have hi:i< xs.length:=by rw [hl]; exact (Array.getElem?_eq_some_iff.1 hfi).1
   subst hc
   exact ⟨n,xs[i],by rw [hx i f hfi]; exact AU hi⟩
theorem FY {H:Type}{enc:TypeId × Value→H}{base:Nat}{sp:Nat→Bool}{held:Bool}{fuel:Nat}{t:TypeId}{cs:List Value}{r:DataW H × List MemPlace}(h:DataW.trod enc P w base sp held fuel t cs=some r)
 {k:Nat} (hs:W6 P t=true) (hc:P.cellsOf t=k):cs.length=k:=by
 obtain ⟨_,_,_,_,hl,_⟩:=DataW.trod_struct (SA hs) h
 rw [hl,hc]
theorem Rd.int {t:TypeId}(ht:P.underlying t=some (.int .i64)):Rd P w t (fun _:Int=>True):=fun h=>by
 obtain ⟨n,rfl,_⟩:=DataW.trod_int ht h
 exact ⟨n,rfl,trivial⟩
theorem QI {H:Type}{enc:TypeId × Value→H}{base:Nat}{sp:Nat→Bool}{held:Bool}{fuel:Nat}{t:TypeId}{cs:List Value}{r:DataW H × List MemPlace}(ht:P.underlying t=some .string) (h:DataW.trod enc P w base sp held fuel t cs=some r) :
 ∃ s:Str,cs=[.string (bs s)]∧s.length≤9223372036854775807:=by
 obtain ⟨s,rfl,_,hl⟩:=DataW.trod_string ht h
 have e:s.data.toList.length=s.size:=by rw [Array.length_toList]; rfl
 refine ⟨s.data.toList,?_,?_⟩
 ·cases s; simp [bs]
 ·rw [e]; exact hl
theorem S9 {x:Addr}{v:Value}(h:w.cell? x=some v):x=⟨x.block,x.off,none⟩:=by
 obtain ⟨b,o,s⟩:=x
 cases s with
 | none=>rfl
 | some q =>
   unfold World.cell? at h
   split at h
   ·simp at h
   ·cases h
theorem Rd.slice {α:Type}[Rep α] {B:α→Prop}{t e:TypeId}(ht:P.underlying t=some (.slice e)) (hc:P.cellsOf e=Rep.sz α) (he:Rd P w e B):Rd P w t (fun xs:List α=>∀ x∈xs,B x):=by
 intro H enc base sp held fuel cs r h
 rcases DataW.trod_slice ht h with ⟨rfl,_⟩ | ⟨a,len,cap,elems,rest,n,_,rfl,_,_,hl,hm,hlen,hel,_⟩
 ·exact ⟨[],⟨none,0,0,rfl,RepS.Bv _ _ none 0 AE⟩,fun x hx=>by cases hx⟩
 ·have key:∀ i,i< len→∃ (cs:List Value) (x:α),w.cells? base (a.add (i * P.cellsOf e)) (P.cellsOf e)=some cs∧Rep.rep w all x cs∧B x:=fun i hi=>by
   have h1:=hel i hi
   rw [AU (by omega:i< elems.length)] at h1
   obtain ⟨cs,h2,h3⟩:=Option.bind_eq_some_iff.1 h1
   obtain ⟨x,h4,h5⟩:=he h3
   exact ⟨cs,x,h2,h4,h5⟩
  have hpos:=Rep.pos (α:=α)
  have haddr:0< len→a=⟨a.block,a.off,none⟩:=fun h0=>by
   obtain ⟨cs,x,h2,h4,_⟩:=key 0 h0
   obtain ⟨_,h6,h7⟩:=World.cells?_some h2
   have h8:=h7 0 (by rw [hc]; exact hpos)
   rw [Nat.zero_mul] at h8
   have hz:cs.length=Rep.sz α:=Rep.len h4
   rw [AU AB] at h8
   have h9:=S9 h8
   cases ha:a.spot with
   | none=>obtain ⟨b,o,s⟩:=a; simp only at ha; subst ha; rfl
   | some q =>
     obtain ⟨b,o,s⟩:=a
     simp only at ha
     subst ha
     simp [Addr.add] at h9
  obtain ⟨xs,hxs⟩:∃ xs:List α,xs.length=len∧∀ i x,xs[i]? = some x→∃ cs:List Value,w.cells? base (a.add (i * P.cellsOf e)) (P.cellsOf e)=some cs∧Rep.rep w all x cs∧B x:=by
   have key2:∀ m,m≤len→∃ xs:List α,xs.length=m∧∀ i x,xs[i]? = some x→∃ cs:List Value,w.cells? base (a.add (i * P.cellsOf e)) (P.cellsOf e)=some cs∧Rep.rep w all x cs∧B x:=by
    intro m
    induction m with
    | zero=>intro _; exact ⟨[],rfl,fun i x hx=>by simp at hx⟩
    | succ m ih =>
      intro hm
      obtain ⟨xs,h1,h2⟩:=ih AB
      obtain ⟨cs,x,h3,h4,h5⟩:=key m AB
      refine ⟨xs++[x],by simp [h1],fun i y hy=>?_⟩
      rw [List.getElem?_append] at hy
      by_cases hi:i< xs.length
      ·rw [if_pos hi] at hy; exact h2 i y hy
      ·rw [if_neg hi] at hy
       have h0:i - xs.length=0:=by
        rcases hq:i - xs.length with _ | q
        ·rfl
        ·rw [hq] at hy; simp at hy
       rw [h0] at hy
       simp only [List.getElem?_cons_zero,Option.some.injEq] at hy
       subst hy
       have:i=m:=by omega
       subst this
       exact ⟨cs,h3,h4,h5⟩
   exact key2 len (Nat.le_refl _)
  refine ⟨xs,⟨some a,len,cap,rfl,hxs.1.symm,hl,hm,fun h0=>?_,fun _=>trivial,fun i x hx=>?_⟩,fun x hx=>?_⟩
  ·have:=haddr h0
   show some a=some ⟨a.block,a.off,none⟩
   rw [← this]
  ·obtain ⟨cs,h2,h4,_⟩:=hxs.2 i x hx
   refine ⟨cs,h4,fun k u hu=>?_⟩
   obtain ⟨_,h6,h7⟩:=World.cells?_some h2
   have hi:i< len:=by rw [← hxs.1]; exact (List.getElem?_eq_some_iff.1 hx).1
   have h8:=h7 k (by rw [← h6]; exact (List.getElem?_eq_some_iff.1 hu).1)
   rw [hu,haddr AB,add_lit,hc] at h8
   exact h8
  ·obtain ⟨i,hi⟩:=List.mem_iff_getElem?.1 hx
   obtain ⟨_,_,_,h5⟩:=hxs.2 i x hi
   exact h5
theorem Rd.mono {α:Type}[Rep α] {t:TypeId}{B B':α→Prop}(h:Rd P w t B) (hb:∀ x,B x→B' x):Rd P w t B':=fun hx=>by
 obtain ⟨x,h1,h2⟩:=h hx
 exact ⟨x,h1,hb x h2⟩
end
section
variable (w:World)
theorem Gj:Rd Tryz.prog w 3 (fun _:Int=>True):=Rd.int Tryz.underlying3
theorem VM:Rd Tryz.prog w 131 TgB:=fun h=>by
 have hn:=FY h (k:=2) AA AA
 obtain ⟨m0,y0,h0⟩:=Bz h 0 (ty:=9) (of_:=0) (k:=1) AA AA AA
 obtain ⟨m1,y1,h1⟩:=Bz h 1 (ty:=9) (of_:=1) (k:=1) AA AA AA
 rename_i cs _
 obtain ⟨a,b,rfl⟩:∃ a b,cs=[a,b]:=match cs,hn with | [a,b],_=>⟨a,b,rfl⟩
 obtain ⟨s,e0,l0⟩:=QI Tryz.underlying9 h0
 obtain ⟨t,e1,l1⟩:=QI Tryz.underlying9 h1
 cases e0; cases e1
 exact ⟨⟨s,t⟩,rfl,l0,l1⟩
theorem Q9:Rd Tryz.prog w 62 (fun _:Row=>True):=fun h=>by
 have hn:=FY h (k:=2) AA AA
 obtain ⟨m0,y0,h0⟩:=Bz h 0 (ty:=3) (of_:=0) (k:=1) AA AA AA
 obtain ⟨m1,y1,h1⟩:=Bz h 1 (ty:=3) (of_:=1) (k:=1) AA AA AA
 rename_i cs _
 obtain ⟨a,b,rfl⟩:∃ a b,cs=[a,b]:=match cs,hn with | [a,b],_=>⟨a,b,rfl⟩
 obtain ⟨s,e0,_⟩:=Gj w h0
 obtain ⟨t,e1,_⟩:=Gj w h1
 cases e0; cases e1
 exact ⟨⟨s,t⟩,rfl,trivial⟩
theorem Oq:Rd Tryz.prog w 33 (fun xs:List Int=>∀ x∈xs,True):=Rd.slice Tryz.underlying33 AA (Gj w)
theorem Xi:Rd Tryz.prog w 60 NmB:=Rd.slice Tryz.underlying60 AA (VM w)
theorem VN:Rd Tryz.prog w 47 NsB:=Rd.slice Tryz.underlying47 AA (Xi w)
theorem Yz:Rd Tryz.prog w 253 (fun xs:List Row=>∀ x∈xs,True):=Rd.slice Tryz.underlying253 AA (Q9 w)
theorem W7:Rd Tryz.prog w 185 (fun xs:List (List Row)=>∀ x∈xs,∀ y∈x,True):=Rd.slice Tryz.underlying185 AA (Yz w)
theorem Y0:Rd Tryz.prog w 64 EvB:=fun h=>by
 have hn:=FY h (k:=6) AA AA
 obtain ⟨m0,y0,h0⟩:=Bz h 0 (ty:=3) (of_:=0) (k:=1) AA AA AA
 obtain ⟨m1,y1,h1⟩:=Bz h 1 (ty:=3) (of_:=1) (k:=1) AA AA AA
 obtain ⟨m2,y2,h2⟩:=Bz h 2 (ty:=3) (of_:=2) (k:=1) AA AA AA
 obtain ⟨m3,y3,h3⟩:=Bz h 3 (ty:=60) (of_:=3) (k:=1) AA AA AA
 obtain ⟨m4,y4,h4⟩:=Bz h 4 (ty:=62) (of_:=4) (k:=2) AA AA AA
 rename_i cs _
 obtain ⟨a,b,c,d,e,f,rfl⟩:∃ a b c d e f,cs=[a,b,c,d,e,f]:=match cs,hn with | [a,b,c,d,e,f],_=>⟨a,b,c,d,e,f,rfl⟩
 obtain ⟨z0,e0,_⟩:=Gj w h0
 obtain ⟨z1,e1,_⟩:=Gj w h1
 obtain ⟨z2,e2,_⟩:=Gj w h2
 obtain ⟨x3,⟨g,n,q,e3,r3⟩,b3⟩:=Xi w h3
 obtain ⟨x4,e4,_⟩:=Q9 w h4
 cases e0; cases e1; cases e2; cases e3; cases e4
 exact ⟨⟨z0,z1,z2,x3,x4⟩,⟨g,n,q,rfl,r3⟩,b3⟩
theorem Y1:Rd Tryz.prog w 234 (fun p:Pst=>TgB p.tag):=fun h=>by
 have hn:=FY h (k:=3) AA AA
 obtain ⟨m0,y0,h0⟩:=Bz h 0 (ty:=131) (of_:=0) (k:=2) AA AA AA
 obtain ⟨m1,y1,h1⟩:=Bz h 1 (ty:=33) (of_:=2) (k:=1) AA AA AA
 rename_i cs _
 obtain ⟨a,b,c,rfl⟩:∃ a b c,cs=[a,b,c]:=match cs,hn with | [a,b,c],_=>⟨a,b,c,rfl⟩
 obtain ⟨x0,e0,b0⟩:=VM w h0
 obtain ⟨x1,⟨g,n,q,e1,r1⟩,_⟩:=Oq w h1
 cases e0; cases e1
 exact ⟨⟨x0,x1⟩,⟨g,n,q,rfl,r1⟩,b0⟩
theorem W8:Rd Tryz.prog w 48 PoB:=Rd.slice Tryz.underlying48 AA (Y1 w)
theorem Y2:Rd Tryz.prog w 50 IxB:=fun h=>by
 have hn:=FY h (k:=2) AA AA
 obtain ⟨m0,y0,h0⟩:=Bz h 0 (ty:=47) (of_:=0) (k:=1) AA AA AA
 obtain ⟨m1,y1,h1⟩:=Bz h 1 (ty:=48) (of_:=1) (k:=1) AA AA AA
 rename_i cs _
 obtain ⟨a,b,rfl⟩:∃ a b,cs=[a,b]:=match cs,hn with | [a,b],_=>⟨a,b,rfl⟩
 obtain ⟨x0,⟨g0,n0,q0,e0,r0⟩,b0⟩:=VN w h0
 obtain ⟨x1,⟨g1,n1,q1,e1,r1⟩,b1⟩:=W8 w h1
 cases e0; cases e1
 exact ⟨⟨x0,x1⟩,⟨g0,n0,q0,g1,n1,q1,rfl,r0,r1⟩,b0,b1⟩
theorem VP:Rd Tryz.prog w 187 (fun _:Prt=>True):=fun h=>by
 have hn:=FY h (k:=2) AA AA
 obtain ⟨m0,y0,h0⟩:=Bz h 0 (ty:=33) (of_:=0) (k:=1) AA AA AA
 obtain ⟨m1,y1,h1⟩:=Bz h 1 (ty:=185) (of_:=1) (k:=1) AA AA AA
 rename_i cs _
 obtain ⟨a,b,rfl⟩:∃ a b,cs=[a,b]:=match cs,hn with | [a,b],_=>⟨a,b,rfl⟩
 obtain ⟨x0,⟨g0,n0,q0,e0,r0⟩,_⟩:=Oq w h0
 obtain ⟨x1,⟨g1,n1,q1,e1,r1⟩,_⟩:=W7 w h1
 cases e0; cases e1
 exact ⟨⟨x0,x1⟩,⟨g0,n0,q0,g1,n1,q1,rfl,r0,r1⟩,trivial⟩
theorem W9:Rd Tryz.prog w 51 (fun xs:List Prt=>∀ x∈xs,True):=Rd.slice Tryz.underlying51 AA (VP w)
theorem Y3:Rd Tryz.prog w 198 (fun _:Smp=>True):=fun h=>by
 have hn:=FY h (k:=3) AA AA
 obtain ⟨m0,y0,h0⟩:=Bz h 0 (ty:=3) (of_:=0) (k:=1) AA AA AA
 obtain ⟨m1,y1,h1⟩:=Bz h 1 (ty:=62) (of_:=1) (k:=2) AA AA AA
 rename_i cs _
 obtain ⟨a,b,c,rfl⟩:∃ a b c,cs=[a,b,c]:=match cs,hn with | [a,b,c],_=>⟨a,b,c,rfl⟩
 obtain ⟨x0,e0,_⟩:=Gj w h0
 obtain ⟨x1,e1,_⟩:=Q9 w h1
 cases e0; cases e1
 exact ⟨⟨x0,x1⟩,rfl,trivial⟩
theorem XA:Rd Tryz.prog w 52 (fun xs:List Smp=>∀ x∈xs,True):=Rd.slice Tryz.underlying52 AA (Y3 w)
theorem Y4:Rd Tryz.prog w 54 StB:=fun h=>by
 have hn:=FY h (k:=4) AA AA
 obtain ⟨m0,y0,h0⟩:=Bz h 0 (ty:=50) (of_:=0) (k:=2) AA AA AA
 obtain ⟨m1,y1,h1⟩:=Bz h 1 (ty:=51) (of_:=2) (k:=1) AA AA AA
 obtain ⟨m2,y2,h2⟩:=Bz h 2 (ty:=52) (of_:=3) (k:=1) AA AA AA
 rename_i cs _
 obtain ⟨a,b,c,d,rfl⟩:∃ a b c d,cs=[a,b,c,d]:=match cs,hn with | [a,b,c,d],_=>⟨a,b,c,d,rfl⟩
 obtain ⟨x0,⟨g0,n0,q0,g3,n3,q3,e0,r0,r3⟩,b0⟩:=Y2 w h0
 obtain ⟨x1,⟨g1,n1,q1,e1,r1⟩,_⟩:=W9 w h1
 obtain ⟨x2,⟨g2,n2,q2,e2,r2⟩,_⟩:=XA w h2
 cases e0; cases e1; cases e2
 exact ⟨⟨x0,x1,x2⟩,⟨g0,n0,q0,g3,n3,q3,g1,n1,q1,g2,n2,q2,rfl,r0,r3,r1,r2⟩,b0⟩
theorem Y5:Rd Tryz.prog w 190 (fun _:Fil=>True):=fun h=>by
 have hn:=FY h (k:=3) AA AA
 obtain ⟨m0,y0,h0⟩:=Bz h 0 (ty:=3) (of_:=0) (k:=1) AA AA AA
 obtain ⟨m1,y1,h1⟩:=Bz h 1 (ty:=187) (of_:=1) (k:=2) AA AA AA
 rename_i cs _
 obtain ⟨a,b,c,rfl⟩:∃ a b c,cs=[a,b,c]:=match cs,hn with | [a,b,c],_=>⟨a,b,c,rfl⟩
 obtain ⟨x0,e0,_⟩:=Gj w h0
 obtain ⟨x1,⟨g0,n0,q0,g1,n1,q1,e1,r0,r1⟩,_⟩:=VP w h1
 cases e0; cases e1
 exact ⟨⟨x0,x1⟩,⟨g0,n0,q0,g1,n1,q1,rfl,r0,r1⟩,trivial⟩
theorem XB:Rd Tryz.prog w 55 (fun xs:List Fil=>∀ x∈xs,True):=Rd.slice Tryz.underlying55 AA (Y5 w)
theorem Y6:Rd Tryz.prog w 57 DkB:=fun h=>by
 have hn:=FY h (k:=4) AA AA
 obtain ⟨m0,y0,h0⟩:=Bz h 0 (ty:=55) (of_:=0) (k:=1) AA AA AA
 obtain ⟨m1,y1,h1⟩:=Bz h 1 (ty:=33) (of_:=1) (k:=1) AA AA AA
 obtain ⟨m2,y2,h2⟩:=Bz h 2 (ty:=47) (of_:=2) (k:=1) AA AA AA
 obtain ⟨m3,y3,h3⟩:=Bz h 3 (ty:=3) (of_:=3) (k:=1) AA AA AA
 rename_i cs _
 obtain ⟨a,b,c,d,rfl⟩:∃ a b c d,cs=[a,b,c,d]:=match cs,hn with | [a,b,c,d],_=>⟨a,b,c,d,rfl⟩
 obtain ⟨x0,⟨g0,n0,q0,e0,r0⟩,_⟩:=XB w h0
 obtain ⟨x1,⟨g1,n1,q1,e1,r1⟩,_⟩:=Oq w h1
 obtain ⟨x2,⟨g2,n2,q2,e2,r2⟩,b2⟩:=VN w h2
 obtain ⟨x3,e3,_⟩:=Gj w h3
 cases e0; cases e1; cases e2; cases e3
 exact ⟨⟨x0,x1,x2,x3⟩,⟨g0,n0,q0,g1,n1,q1,g2,n2,q2,rfl,r0,r1,r2⟩,b2⟩
theorem Y7:Rd Tryz.prog w 59 WdB:=fun h=>by
 have hn:=FY h (k:=8) AA AA
 obtain ⟨m0,y0,h0⟩:=Bz h 0 (ty:=54) (of_:=0) (k:=4) AA AA AA
 obtain ⟨m1,y1,h1⟩:=Bz h 1 (ty:=57) (of_:=4) (k:=4) AA AA AA
 rename_i cs _
 obtain ⟨a,b,c,d,e,f,g,i,rfl⟩:∃ a b c d e f g i,cs=[a,b,c,d,e,f,g,i]:=match cs,hn with | [a,b,c,d,e,f,g,i],_=>⟨a,b,c,d,e,f,g,i,rfl⟩
 obtain ⟨x0,⟨g0,n0,q0,g1,n1,q1,g2,n2,q2,g3,n3,q3,e0,r0,r1,r2,r3⟩,b0⟩:=Y4 w h0
 obtain ⟨x1,⟨g4,n4,q4,g5,n5,q5,g6,n6,q6,e1,r4,r5,r6⟩,b1⟩:=Y6 w h1
 cases e0; cases e1
 exact ⟨⟨x0,x1⟩,⟨g0,n0,q0,g1,n1,q1,g2,n2,q2,g3,n3,q3,g4,n4,q4,g5,n5,q5,g6,n6,q6,rfl,r0,r1,r2,r3,r4,r5,r6⟩,b0,b1⟩
end
end Go.Proofs.YtcginoabkicdiaaGreat
