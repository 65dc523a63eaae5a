/- A start that fits: the listed variables laid, a zero act. -/
import Derived.Test.YtfbnhkofcoaldaaGreatDoorCards
import Derived.ProofKit
import Derived.Lay
import Derived.LaidLaws
namespace Go.Proofs.YtfbnhkofcoaldaaGreatDoor
abbrev actZero : Value := .agg #[.int .i64 0, .slice none 0 0, .int .i64 0, .int .i64 0, .int .i64 0, .int .i64 0, .int .i64 0, .string ⟨#[]⟩, .string ⟨#[]⟩]
theorem wit_shape (os : Os) : ((World.laidAll Tryz.prog os Rows.casketNilsRow.laid).forCall (fun _ _ => 0) ⟨#[], #[actZero], []⟩).Shaped Tryz.checked.prog :=
  World.shaped_of_ZipB (by kernel_rfl) (by kernel_rfl)
theorem wit_ok (os : Os) : Input.okWideB Tryz.checked.prog ((World.laidAll Tryz.prog os Rows.casketNilsRow.laid).forCall (fun _ _ => 0) ⟨#[], #[actZero], []⟩) 3 ⟨#[], #[actZero], []⟩ = true := by kernel_rfl
theorem wit_pre (os : Os) {H : Type} (enc : TypeId × Value → H) : Rows.casketNilsSpec.preB enc Tryz.checked.prog Tryz.f3 [] false ((World.laidAll Tryz.prog os Rows.casketNilsRow.laid).forCall (fun _ _ => 0) ⟨#[], #[actZero], []⟩).memory #[actZero] 8 = true := by kernel_rfl
theorem wit_sized (os : Os) {H : Type} (enc : TypeId × Value → H) : Rows.casketNilsSpec.sizedB enc Tryz.checked.prog Tryz.f3 false ((World.laidAll Tryz.prog os Rows.casketNilsRow.laid).forCall (fun _ _ => 0) ⟨#[], #[actZero], []⟩).memory #[actZero] 8 = true := by kernel_rfl
theorem wit_plain : (Rows.casketNilsRow.laid.filter fun x => x.2.handleName?.isSome) = [] := by kernel_rfl
theorem wit_laid (os : Os) : laidMet Tryz.prog Rows.casketNilsRow.laid ((World.laidAll Tryz.prog os Rows.casketNilsRow.laid).forCall (fun _ _ => 0) ⟨#[], #[actZero], []⟩).memory :=
  laidMet_laidAll _ (by kernel_rfl) (by kernel_rfl)
end Go.Proofs.YtfbnhkofcoaldaaGreatDoor
