/- The row's closed facts, joined. -/
import Derived.Test.YtfbnhkofcoaldaaGreatDoorNilFacts
namespace Go.Proofs.YtfbnhkofcoaldaaGreatDoor
set_option maxRecDepth 100000 in
theorem joined : joinedFacts Tryz.prog 3 Tryz.f3 Rows.casketNilsSpec Rows.casketNilsRow = true := by
  unfold joinedFacts
  repeat' (with_reducible refine band ?_ ?_)

  · exact j1
  · exact Tryz.laidOut
  · exact j3
  · exact j4
  · exact j5
  all_goals first | with_reducible exact j10 | with_reducible exact j11 | with_reducible exact j12 | with_reducible exact j13 | with_reducible exact j23 | with_reducible exact j24 | with_reducible exact j25 | (as_aux_lemma => kernel_rfl)
end Go.Proofs.YtfbnhkofcoaldaaGreatDoor
