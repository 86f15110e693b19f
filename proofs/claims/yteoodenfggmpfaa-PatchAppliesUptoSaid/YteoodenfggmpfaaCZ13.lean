/- slices.Sort at []string, laid from the kit's shelf. -/
import Derived.Test.YteoodenfggmpfaaProg
import Derived.Ground.NamesProg
import Derived.WalkKit
import Derived.Shelf.Lay
import Derived.Shelf.Slices.In.SortAlone
import Derived.Sort.OwnSorted
import Derived.Sort.EveryDepth
import Derived.Sort.Grow
namespace Go.Proofs
open Go.RowKit Go.Shelf Go.Sort

shelf_lay Lays.n190 Nm 190 at Try as Try.laysSort

theorem Try.sort_c (blk off cap : Nat) (zs : List (List UInt8)) (w : World) (hH : Holds encStr w blk off zs.toArray) (hblk : blk < w.heap.size) (hsz : zs.length < 4611686018427387904) :
    Calls Try.prog 41 #[.slice (some ⟨blk, off, none⟩) zs.length cap] w fun e w' =>
      e = .returned (.tuple #[]) ∧ ∃ n os, w' = grow (putRow encStr (Sort.ahead w n) blk off (zs.mergeSort fun x y => decide (x ≤ y)).toArray) os :=
  calls_of_every_depth fun D => AnyS.slices_Sort_string_alone Try.laysSort D blk off cap zs w hH hblk hsz
end Go.Proofs
