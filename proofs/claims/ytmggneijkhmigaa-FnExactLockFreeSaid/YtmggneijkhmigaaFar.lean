/- Proved: a cell that was there lies in another block than one that was made later. No statement of the seat is proved here. -/
import Derived.Test.YtmggneijkhmigaaWWords
namespace Go.Proofs.Ytmggneijkhmigaa.Far
theorem far_ {w : World} {a : Addr} {v : Value} {g : Nat} (h : w.cell? a = some v) (hg : w.heap.size ≤ g) : a.block ≠ g :=
  Nat.ne_of_lt (Nat.lt_of_lt_of_le (World.block_lt_of_cell? _ _ h) hg)
end Go.Proofs.Ytmggneijkhmigaa.Far
