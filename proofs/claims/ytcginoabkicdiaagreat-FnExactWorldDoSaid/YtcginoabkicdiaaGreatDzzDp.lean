/- Rules for memory that is shared with nothing: rows of cells, results whose parts are apart. No conditions. -/
import Derived.Test.YtcginoabkicdiaaGreatDzzMem
set_option linter.unusedVariables false
set_option linter.unusedSimpArgs false
namespace Go.Proofs.YtcginoabkicdiaaGreat
instance {k:Nat}:Shp (Hd k):=⟨0,fun x _=>x.cs,fun _ _=>[],fun h=>⟨[],rfl,h,fun _ h=>by cases h⟩,fun _ _=>rfl⟩
instance:Dp Int:=⟨fun w D x cs=>Rep.rep w D x cs,id,fun h hf=>Rep.frame h hf⟩
instance:Dp UInt8:=⟨fun w D x cs=>Rep.rep w D x cs,id,fun h hf=>Rep.frame h hf⟩
instance:Dp Row:=⟨fun w D x cs=>Rep.rep w D x cs,id,fun h hf=>Rep.frame h hf⟩
instance:Dp Tag:=⟨fun w D x cs=>Rep.rep w D x cs,id,fun h hf=>Rep.frame h hf⟩
instance:Dp Smp:=⟨fun w D x cs=>Rep.rep w D x cs,id,fun h hf=>Rep.frame h hf⟩
theorem Eu {w:World}:∀ {its:List It}{X:Nat→Prop}{it:It},BK w X its→it∈its→it.ok w X
 | [],_,_,_,h=>by cases h
 | i :: r, X, it, ⟨D, D', g1, g2, g3, g4⟩, h => by
   rcases List.mem_cons.1 h with rfl | h
   ·exact It.fr g1 fun b _ hb=>⟨(g3 b hb).1,rfl⟩
   ·exact It.fr (Eu g2 h) fun b _ hb=>⟨g4 b hb,rfl⟩
class Lf (α:Type) [Rep α] [Shp α] [Dp α] where
 its:α→List (Option Addr × Nat)→List It
 facts:∀ {w D x} (l:List (Option Addr × Nat)),BK w D (its x l)→∀ f∈Shp.facts x l,f.ok w D
 mk_:∀ {w D x} (l:List (Option Addr × Nat)),l.length=Shp.k α→BK w D (its x l)→Dp.dp w D x (Shp.cells x l)
 un:∀ {w D x cs},Dp.dp w D x cs→∃ l:List (Option Addr × Nat),l.length=Shp.k α∧cs=Shp.cells x l∧BK w D (its x l)
def it_ {α:Type}[Rep α] [Dp α] (l:List (Option Addr × Nat)) (i:Nat) (xs:List α):It:=.s (ga l i) (gc l i) xs
instance:Lf Int:=⟨fun _ _=>[],fun _ _ _ h=>(by cases h),fun l hl _=>(by cases l with | nil=>rfl | cons _ _=>cases hl),fun h=>⟨[],rfl,h,trivial⟩⟩
instance:Lf UInt8:=⟨fun _ _=>[],fun _ _ _ h=>(by cases h),fun l hl _=>(by cases l with | nil=>rfl | cons _ _=>cases hl),fun h=>⟨[],rfl,h,trivial⟩⟩
instance:Lf Row:=⟨fun _ _=>[],fun _ _ _ h=>(by cases h),fun l hl _=>(by cases l with | nil=>rfl | cons _ _=>cases hl),fun h=>⟨[],rfl,h,trivial⟩⟩
instance:Lf Tag:=⟨fun _ _=>[],fun _ _ _ h=>(by cases h),fun l hl _=>(by cases l with | nil=>rfl | cons _ _=>cases hl),fun h=>⟨[],rfl,h,trivial⟩⟩
instance:Lf Smp:=⟨fun _ _=>[],fun _ _ _ h=>(by cases h),fun l hl _=>(by cases l with | nil=>rfl | cons _ _=>cases hl),fun h=>⟨[],rfl,h,trivial⟩⟩
theorem J1 {w:World}{D:Nat→Prop}{α:Type}[Rep α] [Dp α] {a:Option Addr}{c:Nat}{xs:List α}(h:It.ok w D (.s a c xs)):Fr.ok w D (.rep a c xs):=DpS.rep h
theorem Qm {w:World}{D:Nat→Prop}{it:It}(h:it.ok w D):BK w D [it]:=⟨D,fun _=>False,h,trivial,fun _ hb=>⟨hb,fun h=>h⟩,fun _ h=>h.elim⟩
instance {α:Type}[Rep α] [Dp α]:Lf (List α):=⟨fun x l=>[it_ l 0 x],
 fun l h f hf=>by cases List.mem_singleton.1 hf; exact J1 (Eu h AI),
 fun l _ h=>⟨_,_,rfl,Eu h AI⟩,
 fun {w D x cs} ⟨a,c,e,h⟩=>⟨[(a,c)],rfl,e,Qm h⟩⟩
def dpL {α:Type}[Rep α] [Shp α] (its:α→List (Option Addr × Nat)→List It) (w:World) (D:Nat→Prop) (x:α) (cs:List Value):Prop :=
 ∃ l:List (Option Addr × Nat),l.length=Shp.k α∧cs=Shp.cells x l∧BK w D (its x l)
def ZS (x:Pst) (l:List (Option Addr × Nat)):List It:=[it_ l 0 x.ids]
def ZT (x:Prt) (l:List (Option Addr × Nat)):List It:=[it_ l 0 x.ids,it_ l 1 x.blocks]
def ZU (x:Fil) (l:List (Option Addr × Nat)):List It:=[it_ l 0 x.part.ids,it_ l 1 x.part.blocks]
def ZV (x:Evt) (l:List (Option Addr × Nat)):List It:=[it_ l 0 x.name]
theorem fcI {w:World}{D:Nat→Prop}{its:List It}{α:Type}[Rep α] [Dp α] {a:Option Addr}{c:Nat}{xs:List α}{fs:List Fr}(h:BK w D its) (hm:It.s a c xs∈its) (hs:∀ f∈fs,f.ok w D):∀ f∈Fr.rep a c xs::fs,f.ok w D:=fc (J1 (Eu h hm)) hs
instance:Dp Pst:=⟨dpL ZS,fun {w D x cs} ⟨l,_,e,h⟩=>by subst e; exact Shp.un l (fcI h AI fn_),fun ⟨l,hl,e,h⟩ hf=>⟨l,hl,e,Cj h hf⟩⟩
instance:Dp Prt:=⟨dpL ZT,fun {w D x cs} ⟨l,_,e,h⟩=>by subst e; exact Shp.un l (fcI h AI (fcI h AJ fn_)),fun ⟨l,hl,e,h⟩ hf=>⟨l,hl,e,Cj h hf⟩⟩
instance:Dp Fil:=⟨dpL ZU,fun {w D x cs} ⟨l,_,e,h⟩=>by subst e; exact Shp.un l (fcI h AI (fcI h AJ fn_)),fun ⟨l,hl,e,h⟩ hf=>⟨l,hl,e,Cj h hf⟩⟩
instance:Dp Evt:=⟨dpL ZV,fun {w D x cs} ⟨l,_,e,h⟩=>by subst e; exact Shp.un l (fcI h AI fn_),fun ⟨l,hl,e,h⟩ hf=>⟨l,hl,e,Cj h hf⟩⟩
instance:Lf Pst:=⟨ZS,fun l h=>fcI h AI fn_,fun l hl h=>⟨l,hl,rfl,h⟩,id⟩
instance:Lf Prt:=⟨ZT,fun l h=>fcI h AI (fcI h AJ fn_),fun l hl h=>⟨l,hl,rfl,h⟩,id⟩
instance:Lf Fil:=⟨ZU,fun l h=>fcI h AI (fcI h AJ fn_),fun l hl h=>⟨l,hl,rfl,h⟩,id⟩
instance:Lf Evt:=⟨ZV,fun l h=>fcI h AI fn_,fun l hl h=>⟨l,hl,rfl,h⟩,id⟩
def ZW (x:Idx) (l:List (Option Addr × Nat)):List It:=[it_ l 0 x.names,it_ l 1 x.AX]
def J2 (x:Sto) (l:List (Option Addr × Nat)):List It:=[it_ l 0 x.idx.names,it_ l 1 x.idx.AX,it_ l 2 x.parts,it_ l 3 x.mem]
def ZX (x:Dsk) (l:List (Option Addr × Nat)):List It:=[it_ l 0 x.files,it_ l 1 x.list,it_ l 2 x.names]
def ZY (x:Wld) (l:List (Option Addr × Nat)):List It:=[it_ l 0 x.store.idx.names,it_ l 1 x.store.idx.AX,it_ l 2 x.store.parts,it_ l 3 x.store.mem,it_ l 4 x.disk.files,it_ l 5 x.disk.list,it_ l 6 x.disk.names]
theorem me0 {α:Type _}{a:α}{l:List α}:a∈a::l:=.head _
theorem me1 {α:Type _}{a b:α}{l:List α}:a∈b::a::l:=.tail _ AI
theorem me2 {α:Type _}{a b c:α}{l:List α}:a∈b::c::a::l:=.tail _ me1
theorem me3 {α:Type _}{a b c d:α}{l:List α}:a∈b::c::d::a::l:=.tail _ me2
theorem me4 {α:Type _}{a b c d e:α}{l:List α}:a∈b::c::d::e::a::l:=.tail _ me3
theorem me5 {α:Type _}{a b c d e f:α}{l:List α}:a∈b::c::d::e::f::a::l:=.tail _ me4
theorem me6 {α:Type _}{a b c d e f g:α}{l:List α}:a∈b::c::d::e::f::g::a::l:=.tail _ me5
instance:Dp Idx:=⟨dpL ZW,fun {w D x cs} ⟨l,_,e,h⟩=>by subst e; exact Shp.un l (fcI h me0 (fcI h me1 fn_)),fun ⟨l,hl,e,h⟩ hf=>⟨l,hl,e,Cj h hf⟩⟩
instance:Dp Sto:=⟨dpL J2,fun {w D x cs} ⟨l,_,e,h⟩=>by subst e; exact Shp.un l (fcI h me0 (fcI h me1 (fcI h me2 (fcI h me3 fn_)))),fun ⟨l,hl,e,h⟩ hf=>⟨l,hl,e,Cj h hf⟩⟩
instance:Dp Dsk:=⟨dpL ZX,fun {w D x cs} ⟨l,_,e,h⟩=>by subst e; exact Shp.un l (fcI h me0 (fcI h me1 (fcI h me2 fn_))),fun ⟨l,hl,e,h⟩ hf=>⟨l,hl,e,Cj h hf⟩⟩
instance:Dp Wld:=⟨dpL ZY,fun {w D x cs} ⟨l,_,e,h⟩=>by subst e; exact Shp.un l (fcI h me0 (fcI h me1 (fcI h me2 (fcI h me3 (fcI h me4 (fcI h me5 (fcI h me6 fn_))))))),fun ⟨l,hl,e,h⟩ hf=>⟨l,hl,e,Cj h hf⟩⟩
instance:Lf Idx:=⟨ZW,fun l h=>fcI h me0 (fcI h me1 fn_),fun l hl h=>⟨l,hl,rfl,h⟩,id⟩
instance:Lf Sto:=⟨J2,fun l h=>fcI h me0 (fcI h me1 (fcI h me2 (fcI h me3 fn_))),fun l hl h=>⟨l,hl,rfl,h⟩,id⟩
instance:Lf Dsk:=⟨ZX,fun l h=>fcI h me0 (fcI h me1 (fcI h me2 fn_)),fun l hl h=>⟨l,hl,rfl,h⟩,id⟩
instance:Lf Wld:=⟨ZY,fun l h=>fcI h me0 (fcI h me1 (fcI h me2 (fcI h me3 (fcI h me4 (fcI h me5 (fcI h me6 fn_)))))),fun l hl h=>⟨l,hl,rfl,h⟩,id⟩
end Go.Proofs.YtcginoabkicdiaaGreat
