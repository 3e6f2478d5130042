/-
  Own text: plain: what is done to a disk.
-/
namespace Go.Plain
structure ActD where
  kind : Int
  a : Int
  n : Int
  b : List UInt8
  keep : List Int
instance : Inhabited ActD := ⟨⟨0, 0, 0, [], []⟩⟩
end Go.Plain
