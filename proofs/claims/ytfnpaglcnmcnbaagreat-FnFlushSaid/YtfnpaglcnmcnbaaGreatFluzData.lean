/- The program's data as plain Lean data, and how they stand in memory. No conditions. -/
import Derived.Test.YtfnpaglcnmcnbaaGreatFluzRep
set_option linter.unusedVariables false
set_option linter.unusedSimpArgs false
namespace Go.Proofs.YtfnpaglcnmcnbaaGreat
structure Row where
  t : Int
  v : Int
  deriving DecidableEq, Inhabited
structure Tag where
  key : Str
  val : Str
  deriving DecidableEq, Inhabited
structure Cnd where
  tag : Tag
  no : Bool
  deriving DecidableEq, Inhabited
structure Pst where
  tag : Tag
  ids : List Int
  deriving DecidableEq, Inhabited
structure Idx where
  names : List (List Tag)
  posts : List Pst
  deriving DecidableEq, Inhabited
structure Prt where
  ids : List Int
  blocks : List (List Row)
  deriving DecidableEq, Inhabited
structure Smp where
  id : Int
  row : Row
  deriving DecidableEq, Inhabited
structure Sto where
  idx : Idx
  parts : List Prt
  mem : List Smp
  deriving DecidableEq, Inhabited
structure Hit where
  name : Str
  rows : List Row
  deriving DecidableEq, Inhabited
structure Fil where
  num : Int
  part : Prt
  deriving DecidableEq, Inhabited
structure Dsk where
  files : List Fil
  list : List Int
  names : List (List Tag)
  next : Int
  deriving DecidableEq, Inhabited
structure Stp where
  kind : Int
  num : Int
  part : Prt
  list : List Int
  names : List (List Tag)
  deriving DecidableEq, Inhabited
structure Wld where
  store : Sto
  disk : Dsk
  deriving DecidableEq, Inhabited
structure Evt where
  kind : Int
  at_ : Int
  cut : Int
  name : List Tag
  row : Row
  deriving DecidableEq, Inhabited
instance : Rep Row where
  sz := 2
  rep _ _ x cs := cs = [.int .i64 x.t, .int .i64 x.v]
  len := by rintro w F x cs rfl; rfl
  pos := by decide
  flat := by rintro w F x cs rfl v hv; simp at hv; rcases hv with rfl | rfl <;> rfl
  frame := by rintro w w' F F' x cs rfl _; rfl
instance : Rep Tag where
  sz := 2
  rep _ _ x cs := cs = [.string (bs x.key), .string (bs x.val)]
  len := by rintro w F x cs rfl; rfl
  pos := by decide
  flat := by rintro w F x cs rfl v hv; simp at hv; rcases hv with rfl | rfl <;> rfl
  frame := by rintro w w' F F' x cs rfl _; rfl
instance : Rep Cnd where
  sz := 3
  rep _ _ x cs := cs = [.string (bs x.tag.key), .string (bs x.tag.val), .bool x.no]
  len := by rintro w F x cs rfl; rfl
  pos := by decide
  flat := by rintro w F x cs rfl v hv; simp at hv; rcases hv with rfl | rfl | rfl <;> rfl
  frame := by rintro w w' F F' x cs rfl _; rfl
instance : Rep Smp where
  sz := 3
  rep _ _ x cs := cs = [.int .i64 x.id, .int .i64 x.row.t, .int .i64 x.row.v]
  len := by rintro w F x cs rfl; rfl
  pos := by decide
  flat := by rintro w F x cs rfl v hv; simp at hv; rcases hv with rfl | rfl | rfl <;> rfl
  frame := by rintro w w' F F' x cs rfl _; rfl
instance : Rep Pst where
  sz := 3
  rep w F x cs := ∃ a n c, cs = [.string (bs x.tag.key), .string (bs x.tag.val), .slice a n c] ∧ RepS w F a n c x.ids
  len := by rintro w F x cs ⟨a, n, c, rfl, _⟩; rfl
  pos := by decide
  flat := by rintro w F x cs ⟨a, n, c, rfl, _⟩ v hv; simp at hv; rcases hv with rfl | rfl | rfl <;> rfl
  frame := by rintro w w' F F' x cs ⟨a, n, c, rfl, h⟩ hf; exact ⟨a, n, c, rfl, h.frame hf⟩
instance : Rep Prt where
  sz := 2
  rep w F x cs := ∃ a n c a' n' c', cs = [.slice a n c, .slice a' n' c'] ∧ RepS w F a n c x.ids ∧ RepS w F a' n' c' x.blocks
  len := by rintro w F x cs ⟨a, n, c, a', n', c', rfl, _⟩; rfl
  pos := by decide
  flat := by rintro w F x cs ⟨a, n, c, a', n', c', rfl, _⟩ v hv; simp at hv; rcases hv with rfl | rfl <;> rfl
  frame := by rintro w w' F F' x cs ⟨a, n, c, a', n', c', rfl, h, h'⟩ hf; exact ⟨a, n, c, a', n', c', rfl, h.frame hf, h'.frame hf⟩
instance : Rep Hit where
  sz := 2
  rep w F x cs := ∃ a n c, cs = [.string (bs x.name), .slice a n c] ∧ RepS w F a n c x.rows
  len := by rintro w F x cs ⟨a, n, c, rfl, _⟩; rfl
  pos := by decide
  flat := by rintro w F x cs ⟨a, n, c, rfl, _⟩ v hv; simp at hv; rcases hv with rfl | rfl <;> rfl
  frame := by rintro w w' F F' x cs ⟨a, n, c, rfl, h⟩ hf; exact ⟨a, n, c, rfl, h.frame hf⟩
instance : Rep Fil where
  sz := 3
  rep w F x cs := ∃ a n c a' n' c', cs = [.int .i64 x.num, .slice a n c, .slice a' n' c'] ∧ RepS w F a n c x.part.ids ∧ RepS w F a' n' c' x.part.blocks
  len := by rintro w F x cs ⟨a, n, c, a', n', c', rfl, _⟩; rfl
  pos := by decide
  flat := by rintro w F x cs ⟨a, n, c, a', n', c', rfl, _⟩ v hv; simp at hv; rcases hv with rfl | rfl | rfl <;> rfl
  frame := by rintro w w' F F' x cs ⟨a, n, c, a', n', c', rfl, h, h'⟩ hf; exact ⟨a, n, c, a', n', c', rfl, h.frame hf, h'.frame hf⟩
instance : Rep Stp where
  sz := 6
  rep w F x cs := ∃ a n c a' n' c' a2 n2 c2 a3 n3 c3, cs = [.int .i64 x.kind, .int .i64 x.num, .slice a n c, .slice a' n' c', .slice a2 n2 c2, .slice a3 n3 c3] ∧
    RepS w F a n c x.part.ids ∧ RepS w F a' n' c' x.part.blocks ∧ RepS w F a2 n2 c2 x.list ∧ RepS w F a3 n3 c3 x.names
  len := by rintro w F x cs ⟨a, n, c, a', n', c', a2, n2, c2, a3, n3, c3, rfl, _⟩; rfl
  pos := by decide
  flat := by rintro w F x cs ⟨a, n, c, a', n', c', a2, n2, c2, a3, n3, c3, rfl, _⟩ v hv; simp at hv; rcases hv with rfl | rfl | rfl | rfl | rfl | rfl <;> rfl
  frame := by
    rintro w w' F F' x cs ⟨a, n, c, a', n', c', a2, n2, c2, a3, n3, c3, rfl, h, h', h2, h3⟩ hf
    exact ⟨a, n, c, a', n', c', a2, n2, c2, a3, n3, c3, rfl, h.frame hf, h'.frame hf, h2.frame hf, h3.frame hf⟩
instance : Rep Evt where
  sz := 6
  rep w F x cs := ∃ a n c, cs = [.int .i64 x.kind, .int .i64 x.at_, .int .i64 x.cut, .slice a n c, .int .i64 x.row.t, .int .i64 x.row.v] ∧ RepS w F a n c x.name
  len := by rintro w F x cs ⟨a, n, c, rfl, _⟩; rfl
  pos := by decide
  flat := by rintro w F x cs ⟨a, n, c, rfl, _⟩ v hv; simp at hv; rcases hv with rfl | rfl | rfl | rfl | rfl | rfl <;> rfl
  frame := by rintro w w' F F' x cs ⟨a, n, c, rfl, h⟩ hf; exact ⟨a, n, c, rfl, h.frame hf⟩
instance : Rep Idx where
  sz := 2
  rep w F x cs := ∃ a0 n0 c0 a1 n1 c1, cs = [.slice a0 n0 c0, .slice a1 n1 c1] ∧ RepS w F a0 n0 c0 x.names ∧ RepS w F a1 n1 c1 x.posts
  len := by rintro w F x cs ⟨a0, n0, c0, a1, n1, c1, rfl, _⟩; rfl
  pos := by decide
  flat := by rintro w F x cs ⟨a0, n0, c0, a1, n1, c1, rfl, _⟩ v hv; simp at hv; rcases hv with rfl | rfl <;> rfl
  frame := by rintro w w' F F' x cs ⟨a0, n0, c0, a1, n1, c1, rfl, h0, h1⟩ hf; exact ⟨a0, n0, c0, a1, n1, c1, rfl, h0.frame hf, h1.frame hf⟩
instance : Rep Sto where
  sz := 4
  rep w F x cs := ∃ a0 n0 c0 a1 n1 c1 a2 n2 c2 a3 n3 c3, cs = [.slice a0 n0 c0, .slice a1 n1 c1, .slice a2 n2 c2, .slice a3 n3 c3] ∧ RepS w F a0 n0 c0 x.idx.names ∧ RepS w F a1 n1 c1 x.idx.posts ∧ RepS w F a2 n2 c2 x.parts ∧ RepS w F a3 n3 c3 x.mem
  len := by rintro w F x cs ⟨a0, n0, c0, a1, n1, c1, a2, n2, c2, a3, n3, c3, rfl, _⟩; rfl
  pos := by decide
  flat := by rintro w F x cs ⟨a0, n0, c0, a1, n1, c1, a2, n2, c2, a3, n3, c3, rfl, _⟩ v hv; simp at hv; rcases hv with rfl | rfl | rfl | rfl <;> rfl
  frame := by rintro w w' F F' x cs ⟨a0, n0, c0, a1, n1, c1, a2, n2, c2, a3, n3, c3, rfl, h0, h1, h2, h3⟩ hf; exact ⟨a0, n0, c0, a1, n1, c1, a2, n2, c2, a3, n3, c3, rfl, h0.frame hf, h1.frame hf, h2.frame hf, h3.frame hf⟩
instance : Rep Dsk where
  sz := 4
  rep w F x cs := ∃ a0 n0 c0 a1 n1 c1 a2 n2 c2, cs = [.slice a0 n0 c0, .slice a1 n1 c1, .slice a2 n2 c2, .int .i64 x.next] ∧ RepS w F a0 n0 c0 x.files ∧ RepS w F a1 n1 c1 x.list ∧ RepS w F a2 n2 c2 x.names
  len := by rintro w F x cs ⟨a0, n0, c0, a1, n1, c1, a2, n2, c2, rfl, _⟩; rfl
  pos := by decide
  flat := by rintro w F x cs ⟨a0, n0, c0, a1, n1, c1, a2, n2, c2, rfl, _⟩ v hv; simp at hv; rcases hv with rfl | rfl | rfl | rfl <;> rfl
  frame := by rintro w w' F F' x cs ⟨a0, n0, c0, a1, n1, c1, a2, n2, c2, rfl, h0, h1, h2⟩ hf; exact ⟨a0, n0, c0, a1, n1, c1, a2, n2, c2, rfl, h0.frame hf, h1.frame hf, h2.frame hf⟩
instance : Rep Wld where
  sz := 8
  rep w F x cs := ∃ a0 n0 c0 a1 n1 c1 a2 n2 c2 a3 n3 c3 a4 n4 c4 a5 n5 c5 a6 n6 c6, cs = [.slice a0 n0 c0, .slice a1 n1 c1, .slice a2 n2 c2, .slice a3 n3 c3, .slice a4 n4 c4, .slice a5 n5 c5, .slice a6 n6 c6, .int .i64 x.disk.next] ∧ RepS w F a0 n0 c0 x.store.idx.names ∧ RepS w F a1 n1 c1 x.store.idx.posts ∧ RepS w F a2 n2 c2 x.store.parts ∧ RepS w F a3 n3 c3 x.store.mem ∧ RepS w F a4 n4 c4 x.disk.files ∧ RepS w F a5 n5 c5 x.disk.list ∧ RepS w F a6 n6 c6 x.disk.names
  len := by rintro w F x cs ⟨a0, n0, c0, a1, n1, c1, a2, n2, c2, a3, n3, c3, a4, n4, c4, a5, n5, c5, a6, n6, c6, rfl, _⟩; rfl
  pos := by decide
  flat := by rintro w F x cs ⟨a0, n0, c0, a1, n1, c1, a2, n2, c2, a3, n3, c3, a4, n4, c4, a5, n5, c5, a6, n6, c6, rfl, _⟩ v hv; simp at hv; rcases hv with rfl | rfl | rfl | rfl | rfl | rfl | rfl | rfl <;> rfl
  frame := by rintro w w' F F' x cs ⟨a0, n0, c0, a1, n1, c1, a2, n2, c2, a3, n3, c3, a4, n4, c4, a5, n5, c5, a6, n6, c6, rfl, h0, h1, h2, h3, h4, h5, h6⟩ hf; exact ⟨a0, n0, c0, a1, n1, c1, a2, n2, c2, a3, n3, c3, a4, n4, c4, a5, n5, c5, a6, n6, c6, rfl, h0.frame hf, h1.frame hf, h2.frame hf, h3.frame hf, h4.frame hf, h5.frame hf, h6.frame hf⟩
end Go.Proofs.YtfnpaglcnmcnbaaGreat
