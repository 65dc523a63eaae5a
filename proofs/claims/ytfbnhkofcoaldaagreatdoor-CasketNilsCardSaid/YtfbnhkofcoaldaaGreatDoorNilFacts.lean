/- The closed facts of the row CasketNils, each alone: of a great program the kernel does not bear them in one. -/
import Derived.Test.YtfbnhkofcoaldaaGreatDoorCards
import Derived.ProofKit
import Derived.JoinedOf
namespace Go.Proofs.YtfbnhkofcoaldaaGreatDoor
theorem band {a b : Bool} (ha : a = true) (hb : b = true) : (a && b) = true := by rw [ha, hb]; rfl
theorem j1 : Rows.casketNilsRow.wf (OpenSpec.ofChange Rows.casketNilsSpec) = true := by kernel_rfl
theorem Tryz.laidOut : laidOutB Tryz.prog = true := by kernel_rfl
theorem j3 : mapsRowed Tryz.prog = true := by kernel_rfl
theorem j4 : Tryz.f3.params.all (Tryz.prog.readableRec ·) = true := by kernel_rfl
theorem j5 : namedTie Tryz.prog Rows.casketNilsRow.named Rows.casketNilsSpec.vars = true := by kernel_rfl
theorem j10 : (Rows.casketNilsRow.inPlace == Tryz.prog.inPlace 3) = true := by kernel_rfl
theorem j11 : (Rows.casketNilsRow.unfollowed == Tryz.prog.unfollowed 3) = true := by kernel_rfl
theorem j12 : (Rows.casketNilsRow.recurses == Tryz.prog.recurses 3) = true := by kernel_rfl
theorem j13 : (Rows.casketNilsRow.named == Tryz.prog.varsNamed 3) = true := by kernel_rfl
theorem j23 : Tryz.prog.stopsHeard = true := by kernel_rfl
theorem j24 : Tryz.prog.mayEnter = true := by kernel_rfl
theorem j25 : (Rows.casketNilsRow.lifted == Tryz.prog.liftsFinal) = true := by kernel_rfl
end Go.Proofs.YtfbnhkofcoaldaaGreatDoor
