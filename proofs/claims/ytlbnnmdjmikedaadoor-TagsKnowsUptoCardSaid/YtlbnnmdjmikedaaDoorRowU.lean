/- Structs that come in by value and of which the walks name no kind. -/
import Derived.Test.YtlbnnmdjmikedaaDoorPPx0
namespace Go.Proofs.YtlbnnmdjmikedaaDoor.PP
open Go.RowKit Go.Proofs.YtlbnnmdjmikedaaDoorW.PrintWords
structure S23 where
  f0 : ByteArray
  f1 : Int
  f2 : Int
def k23 : Kd S23 := Kd.iso (Kd.pair Kd.string (Kd.pair (Kd.int .i64) (Kd.int .i64))) (fun x : S23 => (x.f0, x.f1, x.f2))
theorem k23_open {w : World} {x : S23} {cs : List Value} (h : k23.K w x cs) : cs = [.string x.f0, .int .i64 x.f1, .int .i64 x.f2] := by
  obtain ⟨_, _, rfl, rfl, ⟨_, _, rfl, rfl, rfl⟩⟩ := h
  exact rfl
end Go.Proofs.YtlbnnmdjmikedaaDoor.PP
