/-
  THE WALKS of CasketNils: each method of a machine that is not there answers its zero values; New of a play with the zero configuration is refused.
-/
import Derived.Test.YtfbnhkofcoaldaaGreatDoorRows
import Derived.WalkKit
import Derived.WalkSpells
import Derived.WalkLawsBesides
namespace Go.Proofs.YtfbnhkofcoaldaaGreatDoor
open Go.RowKit

set_option maxHeartbeats 400000 in
theorem num_any (n : Int) (w : World) : Calls Tryz.prog 7 #[.int .i64 n] w fun e w' => e = .returned (.int .i64 n) ∧ w = w' := by
  go_enter Tryz.func7, Tryz.ntmps7
  go_wp2
  go_ret
  exact ⟨rfl, rfl⟩

set_option maxHeartbeats 400000 in
theorem do_nil (c0 c1 c2 c3 c4 c5 c6 c7 c8 : Value) (w : World) :
    Calls Tryz.prog 4 #[.pointer none, .agg #[c0, c1, c2, c3, c4, c5, c6, c7, c8]] w fun e w' => e = .returned (.agg #[.int .i64 2, .slice none 0 0]) ∧ Below w.heap.size w w' := by
  go_enter Tryz.func4, Tryz.ntmps4
  go_wp2
  refine bodyPost_ret (v := .agg #[.int .i64 2, .slice none 0 0]) (by simp [results, Tryz.results4, go_sem]) rfl ⟨rfl, ?_⟩
  repeat (first | exact Below.refl _ _ | refine Below.alloc ?_ (by simp) _ | refine Below.alloc ?_ (by simp; omega) _)

set_option maxHeartbeats 400000 in
theorem audit_nil (w : World) :
    Calls Tryz.prog 5 #[.pointer none] w fun e w' => e = .returned (.tuple #[.agg #[.int .i64 0, .int .i64 0, .int .i64 0, .int .i64 0, .int .i64 0, .int .i64 0, .int .i64 0, .int .i64 0, .slice none 0 0], .int .i64 2]) ∧ Below w.heap.size w w' := by
  go_enter Tryz.func5, Tryz.ntmps5
  go_wp2
  refine bodyPost_ret (v := .tuple #[.agg #[.int .i64 0, .int .i64 0, .int .i64 0, .int .i64 0, .int .i64 0, .int .i64 0, .int .i64 0, .int .i64 0, .slice none 0 0], .int .i64 2]) (by simp [results, Tryz.results5, go_sem]) rfl ⟨rfl, ?_⟩
  repeat (first | exact Below.refl _ _ | refine Below.alloc ?_ (by simp) _ | refine Below.alloc ?_ (by simp; omega) _)

set_option maxHeartbeats 400000 in
theorem look_nil (w : World) :
    Calls Tryz.prog 8 #[.pointer none] w fun e w' => e = .returned (.agg #[.bool false, .bool false, .int .i64 0, .int .i64 0, .int .i64 0]) ∧ Below w.heap.size w w' := by
  go_enter Tryz.func8, Tryz.ntmps8
  go_wp2
  refine bodyPost_ret (v := .agg #[.bool false, .bool false, .int .i64 0, .int .i64 0, .int .i64 0]) (by simp [results, Tryz.results8, go_sem]) rfl ⟨rfl, ?_⟩
  repeat (first | exact Below.refl _ _ | refine Below.alloc ?_ (by simp) _ | refine Below.alloc ?_ (by simp; omega) _)

set_option maxHeartbeats 400000 in
theorem trace_nil (w : World) : Calls Tryz.prog 9 #[.pointer none] w fun e w' => e = .returned (.slice none 0 0) ∧ w = w' := by
  go_enter Tryz.func9, Tryz.ntmps9
  go_wp2
  go_ret
  exact ⟨rfl, rfl⟩
set_option maxHeartbeats 400000 in
theorem store_nil (w : World) : Calls Tryz.prog 10 #[.pointer none] w fun e w' => e = .returned (.slice none 0 0) ∧ w = w' := by
  go_enter Tryz.func10, Tryz.ntmps10
  go_wp2
  go_ret
  exact ⟨rfl, rfl⟩
set_option maxHeartbeats 400000 in
theorem table_nil (w : World) : Calls Tryz.prog 12 #[.pointer none] w fun e w' => e = .returned (.slice none 0 0) ∧ w = w' := by
  go_enter Tryz.func12, Tryz.ntmps12
  go_wp2
  go_ret
  exact ⟨rfl, rfl⟩
set_option maxHeartbeats 400000 in
theorem register_nil (w : World) :
    Calls Tryz.prog 11 #[.pointer none] w fun e w' => e = .returned (.agg #[.string ⟨#[]⟩, .string ⟨#[]⟩, .bool false]) ∧ Below w.heap.size w w' := by
  go_enter Tryz.func11, Tryz.ntmps11
  go_wp2
  refine bodyPost_ret (v := .agg #[.string ⟨#[]⟩, .string ⟨#[]⟩, .bool false]) (by simp [results, Tryz.results11, go_sem]) rfl ⟨rfl, ?_⟩
  repeat (first | exact Below.refl _ _ | refine Below.alloc ?_ (by simp) _ | refine Below.alloc ?_ (by simp; omega) _)
set_option maxHeartbeats 400000 in
theorem between_zero (w : World) : Calls Tryz.prog 46 #[.int .i64 0, .int .i64 1, .int .i64 64] w fun e w' => e = .returned (.bool false) ∧ w = w' := by
  go_enter Tryz.func46, Tryz.ntmps46
  go_wp2
  go_ret
  exact ⟨rfl, rfl⟩
set_option maxHeartbeats 400000 in
theorem check_zero (w : World) : Calls Tryz.prog 29 #[.agg #[.int .i64 0, .int .i64 0, .int .i64 0, .int .i64 0, .int .i64 0, .int .i64 0]] w fun e w' => e = .returned (.int .i64 140) ∧ Below w.heap.size w w' := by
  go_enter Tryz.func29, Tryz.ntmps29
  go_wp2_with (go_at_call 46; refine (between_zero _).mono ?_; rintro e w' ⟨rfl, rfl⟩)
  go_ret
  refine ⟨rfl, ?_⟩
  repeat (first | exact Below.refl _ _ | refine Below.alloc ?_ (by simp) _ | refine Below.alloc ?_ (by simp; omega) _)

abbrev zeroPlay (b : Bool) : Value := .agg #[.int .i64 0, .int .i64 0, .int .i64 0, .int .i64 0, .int .i64 0, .int .i64 0, .bool b, .string ⟨#[]⟩, .string ⟨#[]⟩, .slice none 0 0]
set_option maxHeartbeats 400000 in
theorem load_zero (w : World) : Calls Tryz.prog 17 #[zeroPlay true, .slice none 0 0, .agg #[.string ⟨#[]⟩, .string ⟨#[]⟩, .bool false], .slice none 0 0] w fun e w' => e = .returned (.tuple #[.pointer none, .int .i64 140]) ∧ Below w.heap.size w w' := by
  unfold zeroPlay
  go_enter Tryz.func17, Tryz.ntmps17
  go_wp2_with (go_at_call 29; refine (check_zero _).mono ?_; rintro e w1 ⟨rfl, hb⟩)
  go_ret2
  refine ⟨rfl, ?_⟩
  refine Below.trans ?_ (hb.mono (by simp; try omega))
  repeat (first | exact Below.refl _ _ | refine Below.alloc ?_ (by simp) _ | refine Below.alloc ?_ (by simp; omega) _)
set_option maxHeartbeats 400000 in
theorem new_zero (w : World) : Calls Tryz.prog 6 #[zeroPlay true] w fun e w' => e = .returned (.tuple #[.pointer none, .int .i64 140]) ∧ Below w.heap.size w w' := by
  unfold zeroPlay
  go_enter Tryz.func6, Tryz.ntmps6
  go_wp2_with (go_at_call 17; refine (load_zero _).mono ?_; rintro e w1 ⟨rfl, hb⟩)
  go_ret2
  refine ⟨rfl, ?_⟩
  refine Below.trans ?_ (hb.mono (by simp; try omega))
  repeat (first | exact Below.refl _ _ | refine Below.alloc ?_ (by simp) _ | refine Below.alloc ?_ (by simp; omega) _)

theorem bcell {B : Nat} {W w1 : World} (hb : Below B W w1) : (∀ b o, b < B → w1.cell? ⟨b, o, none⟩ = W.cell? ⟨b, o, none⟩) ∧ (∀ b o, b < B → w1.frozen? ⟨b, o, none⟩ = W.frozen? ⟨b, o, none⟩) :=
  ⟨fun b o h => hb.cell (p := ⟨b, o, none⟩) h, fun b o h => hb.frozen (p := ⟨b, o, none⟩) h⟩

set_option maxHeartbeats 1000000 in
theorem nils_any (c0 c1 c2 c3 c4 c5 c6 c7 c8 : Value) (w : World) :
    Calls Tryz.prog 3 #[.agg #[c0, c1, c2, c3, c4, c5, c6, c7, c8]] w fun e w' => e = .returned (.bool true) ∧ Below w.heap.size w w' := by
  go_enter Tryz.func3, Tryz.ntmps3
  go_wp2_with fail
  refine (do_nil _ _ _ _ _ _ _ _ _ _).mono ?_; rintro e w1 ⟨rfl, hb1⟩
  go_wp2_with fail
  refine (audit_nil _).mono ?_; rintro e w2 ⟨rfl, hb2⟩
  obtain ⟨hc2, hf2⟩ := bcell hb2
  go_wp2_with fail
  refine (new_zero _).mono ?_; rintro e w3 ⟨rfl, hb3⟩
  obtain ⟨hc3, hf3⟩ := bcell hb3
  have hs2 : w1.heap.size + 1 ≤ w2.heap.size := by have := hb2.size; simpa using this
  have hx0 : w3.cell? ⟨w1.heap.size, 0, none⟩ = some (.int .i64 2) := by
    rw [hc3 _ _ (by simp; omega), World.cell?_alloc_lt _ _ _ (by show w1.heap.size < _; omega), hc2 _ _ (by simp)]
    go_simp
  have hx1 : w3.cell? ⟨w1.heap.size, 1, none⟩ = some (.slice none 0 0) := by
    rw [hc3 _ _ (by simp; omega), World.cell?_alloc_lt _ _ _ (by show w1.heap.size < _; omega), hc2 _ _ (by simp)]
    go_simp
  clear hc2 hf2 hc3 hf3
  go_wp2_with (first
    | (go_at_call 7; refine (num_any _ _).mono ?_; rintro e w' ⟨rfl, rfl⟩)
    | (go_at_call 9; refine (trace_nil _).mono ?_; rintro e w' ⟨rfl, rfl⟩)
    | (go_at_call 10; refine (store_nil _).mono ?_; rintro e w' ⟨rfl, rfl⟩)
    | (go_at_call 12; refine (table_nil _).mono ?_; rintro e w' ⟨rfl, rfl⟩)
    | (go_at_call 8; refine (look_nil _).mono ?_; rintro e w4 ⟨rfl, hb4⟩)
    | (go_at_call 11; refine (register_nil _).mono ?_; rintro e w5 ⟨rfl, hb5⟩))
  go_ret
  refine ⟨rfl, ?_⟩
  have g1 : w.heap.size + 1 ≤ w1.heap.size := by have := hb1.size; simpa using this
  have g3 : w2.heap.size + 1 ≤ w3.heap.size := by have := hb3.size; simpa using this
  have g4 : w3.heap.size ≤ w4.heap.size := hb4.size
  refine Below.trans ?_ (hb5.mono (by omega))
  refine Below.trans ?_ (hb4.mono (by omega))
  refine Below.trans ?_ (hb3.mono (by simp; omega))
  refine Below.alloc ?_ (by omega) _
  refine Below.trans ?_ (hb2.mono (by simp; omega))
  refine Below.alloc ?_ (by omega) _
  refine Below.trans ?_ (hb1.mono (by simp))
  exact (Below.refl _ _).alloc (Nat.le_refl _) _
end Go.Proofs.YtfbnhkofcoaldaaGreatDoor
