/- walks; squeezed -/
import Derived.Test.YtganlmloonielaaGreatTazMemk18
import Derived.Test.YtganlmloonielaaGreatTazMod8k19
import Derived.Test.YtganlmloonielaaGreatTazMod40k22
set_option linter.unusedVariables false
set_option linter.unusedSimpArgs false
namespace Go.Proofs.YtganlmloonielaaGreat
set_option maxRecDepth 100000
set_option maxHeartbeats 4000000
theorem KP (ix:Idx) {w:World} {F:Nat→Prop} {a1:Option Addr} {n1 c1:Nat} (h1:RepS w F a1 n1 c1 ix.names) {a2:Option Addr} {n2 c2:Nat} (h2:RepS w F a2 n2 c2 ix.AV) (p0:IxI ix) (p1:NsD ix.names):Calls Tryz.prog 103 [.agg #[.slice a1 n1 c1,.slice a2 n2 c2]].toArray w (As fun rv w'=>rv=.bool (true)∧Ext w w'):=by
 refine (GF ix h1 h2 ⟨NmG.of p0.nm p1,fun _=>p0.eq⟩).mono ?_
 rintro e w' ⟨v,rfl,hv,hx⟩
 exact ⟨v,rfl,by rw [hv,D2.2 p0.nm],hx⟩
theorem Gc (s:Sto) {w:World} {F:Nat→Prop} {a1:Option Addr} {n1 c1:Nat} (h1:RepS w F a1 n1 c1 s.idx.names) {a2:Option Addr} {n2 c2:Nat} (h2:RepS w F a2 n2 c2 s.idx.AV) {a3:Option Addr} {n3 c3:Nat} (h3:RepS w F a3 n3 c3 s.parts) {a4:Option Addr} {n4 c4:Nat} (h4:RepS w F a4 n4 c4 s.mem) (p0:SD s):Calls Tryz.prog 57 [.agg #[.slice a1 n1 c1,.slice a2 n2 c2,.slice a3 n3 c3,.slice a4 n4 c4]].toArray w (As fun rv w'=>rv=.bool (Ak s)∧Ext w w'):=by
 refine (Ee s h1 h2 h3 h4 (SG.of p0)).mono ?_
 rintro e w' ⟨v,rfl,hv,hx⟩
 exact ⟨v,rfl,by rw [hv,D2.2 p0.nm,Bool.true_and],hx⟩
end Go.Proofs.YtganlmloonielaaGreat
namespace Go.Proofs.YtganlmloonielaaGreat
theorem Nw {mem:List Smp} (h:∀ m∈mem,1≤m.id∧m.id≤6) {id:Int} (h1:1≤id) (h2:id≤6):partOf (BK mem) id=rowsOf (ED mem) id:=by
 rw [HU h,Mx _ h1,List.getD_eq_getElem?_getD]
 unfold DS
 rw [List.getElem?_map,List.getElem?_range AB]
 simp only [Option.map_some,Option.getD_some]
 rw [show (((id - 1).toNat:Nat):Int)+1=id by omega]
def DB (s:Sto):Sto:=⟨s.idx,s.parts++[BK s.mem],[]⟩
theorem KR {s:Sto} (h:StoK s) {id:Int} (h1:1≤id) (h2:id≤6):rowsOf (DB s) id=rowsOf s id:=by
 unfold rowsOf DB
 simp only [List.foldl_append,List.foldl_cons,List.foldl_nil]
 have hb:Blk (s.parts.foldl (CZ id) []):=Fm h.sd.part Blk.nil
 rw [mem_merge h.row hb]
 unfold CZ
 rw [Nw h.Ja.Hs h1 h2]
theorem S7 {s:Sto} (h:StoK s) {id:Int} (h24:(rowsOf s id).length≤24):(rowsOf (ED s.mem) id).length≤24:=by
 have hb:Blk (s.parts.foldl (CZ id) []):=Fm h.sd.part Blk.nil
 have bb:Blk (rowsOf (ED s.mem) id):=(D3 0 id s.mem [] h.row Blk.nil).2
 have e:rowsOf s id=Bk (s.parts.foldl (CZ id) []) (rowsOf (ED s.mem) id):=mem_merge h.row hb
 refine Nat.le_trans (L3 bb (b:=rowsOf s id) ?_ (fun t ht=>Oo h id t (.inr ht))) h24
 rw [e]
 exact hb.merge bb
theorem RC {mem:List Smp} (h:∀ m∈mem,1≤m.id∧m.id≤6∧Bw m.row=true) (hm:mem≠[]):∃ b∈DS mem 6,0< b.length:=by
 obtain ⟨m,hl⟩:∃ m,m∈mem:=List.exists_mem_of_ne_nil mem hm
 have hid:=h m hl
 have hr:∀ m∈mem,Bw m.row=true:=fun m hm=>(h m hm).2.2
 refine ⟨rowsOf (ED mem) m.id,?_,?_⟩
 ·unfold DS
  refine List.mem_map.2 ⟨(m.id - 1).toNat,by simp; omega,?_⟩
  rw [show (((m.id - 1).toNat:Nat):Int)+1=m.id by omega]
 ·have h1:(look m.row.t (rowsOf (ED mem) m.id)).isSome=true:=by
   have e:look m.row.t (rowsOf (ED mem) m.id)=H6 m.row.t m.id mem none:=(D3 m.row.t m.id mem [] hr Blk.nil).1
   rw [e]
   have key:∀ (ms:List Smp) (x:Option Row),x.isSome=true∨m∈ms→(H6 m.row.t m.id ms x).isSome=true:=by
    intro ms
    induction ms with
    | nil=>intro x hx; rcases hx with hx | hx; exact hx; cases hx
    | cons c cs ih =>
      intro x hx
      unfold H6 at ih ⊢
      rw [List.foldl_cons]
      by_cases hc:c.id=m.id∧c.row.t=m.row.t
      ·rw [if_pos hc]; exact ih _ (.inl rfl)
      ·rw [if_neg hc]
       rcases hx with hx | hx
       ·exact ih _ (.inl hx)
       ·rcases List.mem_cons.1 hx with rfl | hx
        ·exact absurd ⟨rfl,rfl⟩ hc
        ·exact ih _ (.inr hx)
   exact key mem none (.inr hl)
  obtain ⟨q,hq⟩:=Option.isSome_iff_exists.1 h1
  exact List.length_pos_of_mem (Ix hq).2
theorem Oq {s:Sto} (h:StoK s) {id:Int} (hi:(s.idx.names.length:Int)< id):rowsOf (ED s.mem) id=[]:=by
 have key:∀ (mem:List Smp) (o:List Row),(∀ m∈mem,m.id≠id)→mem.foldl (Cg id) o=o:=by
  intro mem
  induction mem with
  | nil=>intro o _; rfl
  | cons m ms ih =>
    intro o h
    rw [List.foldl_cons,KJ (h m (by simp))]
    exact ih o (fun x hx=>h x (by simp [hx]))
 exact key s.mem [] (fun m hm=>by have:=(h.id m hm).2; omega)
theorem KS {s:Sto} (h:SD s) (hk:Ak s=true) (h1:s.mem≠[]) (h2:s.parts.length< 6):Ak (DB s)=true:=by
 have hK:=StoK.of h hk
 have hk2:=hk
 unfold Ak at hk2 ⊢
 simp only [AR,decide_eq_true_eq,List.all_eq_true,List.mem_range,EZ] at hk2 ⊢
 obtain ⟨⟨⟨⟨a1,a2⟩,a3⟩,a4⟩,a5⟩:=hk2
 have hn:=h.nm.len
 have h24:∀ i< s.idx.names.length,(rowsOf (ED s.mem) ((i:Int)+1)).length≤24:=fun i hi=>S7 hK (a5 i hi)
 have hpos:∀ k b,(DS s.mem 6)[k]? = some b→0< b.length→k< s.idx.names.length:=fun k b hb hl=>by
  unfold DS at hb
  rw [List.getElem?_map] at hb
  by_cases hk6:k< 6
  ·rw [List.getElem?_range hk6] at hb
   simp only [Option.map_some,Option.some.injEq] at hb
   subst hb
   by_cases hlt:k< s.idx.names.length
   ·exact hlt
   ·rw [Oq hK (id:=(k:Int)+1) AB] at hl
    cases hl
  ·rw [List.getElem?_eq_none (by simp; omega)] at hb
   cases hb
 refine ⟨⟨⟨⟨by simp [DB]; omega,by simp [DB]⟩,fun p hp=>?_⟩,by simp [DB]⟩,fun i hi=>?_⟩
 ·rcases List.mem_append.1 hp with hp | hp
  ·exact a3 p hp
  ·simp only [List.mem_cons,List.not_mem_nil,or_false] at hp
   subst hp
   rw [HU hK.Ja.Hs]
   refine Mz (fun b hb=>?_) (by rw [Gd]; omega) (RC (fun m hm=>⟨(hK.Ja.Hs m hm).1,(hK.Ja.Hs m hm).2,hK.row m hm⟩) h1) hpos
   unfold DS at hb
   obtain ⟨i,hi,rfl⟩:=List.mem_map.1 hb
   refine ⟨(D3 0 _ s.mem [] hK.row Blk.nil).2,?_⟩
   by_cases hlt:i< s.idx.names.length
   ·exact h24 i hlt
   ·rw [Oq hK (id:=(i:Int)+1) AB]
    simp
 ·have hi2:i< s.idx.names.length:=hi
  rw [KR hK AB AB]
  exact a5 i hi2
end Go.Proofs.YtganlmloonielaaGreat
