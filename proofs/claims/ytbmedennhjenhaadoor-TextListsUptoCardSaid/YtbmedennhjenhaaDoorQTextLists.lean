/- The plain law of TextLists, for a text of at most 1048576 bytes. -/
import Derived.Test.YtbmedennhjenhaaDoorQLists
import Derived.Test.YtbmedennhjenhaaDoorPPx25
namespace Go.Proofs.YtbmedennhjenhaaDoor.Q
open Go.RowKit Go.Proofs.YtbmedennhjenhaaDoorW.PrintWords Go.Proofs.YtbmedennhjenhaaDoorW.PrintLast Go.Proofs.YtbmedennhjenhaaDoorW.PrintMore
open PP

theorem TextLists (s : ByteArray) (hs0 : s.data.size ≤ 1048576) : ∃ k, ostlerlaw01_TextLists.f k s = some true := by
  have hs : s.size ≤ 16777216 := by show s.data.size ≤ 16777216; omega
  have hl := G_length s s.data.toList false 0 0 []
  rw [sz] at hl
  simp only [List.length_nil] at hl
  refine ⟨5 * s.size + 100, ?_⟩
  unfold ostlerlaw01_TextLists.f
  rw [Ev_awake01 (by omega), Option.bind_some, if_pos rfl, text_List_is s hs (by omega), ref_List_is s hs (by omega), Option.bind_some, Option.bind_some, same_is _ (by omega) (by omega)]
  rfl
end Go.Proofs.YtbmedennhjenhaaDoor.Q
