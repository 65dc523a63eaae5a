/-
  CasketNils: for every act, every call on a machine that is not there answers zero values (ErrNil where it has an error to answer), and New of a play without a configuration is refused: the law returns true, and its argument reads as it did.
  Conditions: those of the given row alone (the listed package-level variables start as the program's text lays them; the card ties them).
-/
import Derived.Test.YtfbnhkofcoaldaaGreatDoorCards
import Derived.Test.YtfbnhkofcoaldaaGreatDoorTie
import Derived.Test.YtfbnhkofcoaldaaGreatDoorNilWalks
import Derived.Test.YtfbnhkofcoaldaaGreatDoorNilJoined
import Derived.Test.YtfbnhkofcoaldaaGreatDoorNilWit
import Derived.ProofKit
import Derived.Conc.Holds
import Derived.SevenTiedAt
namespace Go.Proofs.YtfbnhkofcoaldaaGreatDoor
open Go.ChangeShapes Go.WideShapes Go.ChangeAt Go.RowKit

theorem Tryz.own : ownKnob Tryz.prog.godebug = none := by kernel_rfl
theorem Tryz.cells26 : Tryz.prog.cellsOf 26 = 9 := by kernel_rfl
theorem Tryz.noInit3 : Tryz.checked.prog.inits.idxOf? 3 = none := by kernel_rfl
theorem Tryz.read26 : Tryz.prog.readableRec 26 = true := by kernel_rfl
theorem Tryz.row26 : 26 < Tryz.prog.types.size := of_decide_eq_true (by kernel_rfl)

/-- Whoever is alone at the return is one who lets the others leave. -/
theorem leaving_of_alone {P : Program} {last : Machine} {w : World} {t : Trace} (h : aloneAtReturn P last w t) : leavingAtReturn P last w t := by
  obtain ⟨⟨hq, ht⟩, hh, he⟩ := h
  refine ⟨hh, ⟨fun g hg => ⟨0, ?_⟩, ht⟩, he⟩
  have := List.all_eq_true.1 hq g hg
  exact beq_iff_eq.1 this

theorem wit_laidH (os : Os) : laidMetH Tryz.prog Rows.casketNilsRow.laid ((World.laidAll Tryz.prog os Rows.casketNilsRow.laid).forCall (fun _ _ => 0) ⟨#[], #[actZero], []⟩).memory := by
  unfold laidMetH
  rw [wit_plain]
  exact wit_laid os

set_option maxRecDepth 100000 in
/-- WHAT THE WALK GIVES, for every argument and every world. -/
theorem nils_contract (H : Type) (enc : TypeId × Value → H) (W : World) (base : Nat) (args : Array Value) (ds gs : List (DataW H)) (before : List MemPlace)
    (hval : ∀ (j : Nat) t v, Tryz.f3.params[j]? = some t → args[j]? = some v → Value.okWide Tryz.prog W .any base t v)
    (hW : DataW.Whole enc Tryz.prog Tryz.f3.params.toList Rows.casketNilsSpec.vars false W args.toList ds gs before) :
    Calls Tryz.prog 3 args W fun e W' => ∃ v, e = .returned v ∧ Rows.casketNilsSpec.post enc Tryz.prog Tryz.f3 false true false false W args v W' := by
  have hW' := hW
  obtain ⟨p, q, hA0, hV, rfl, _, _⟩ := hW
  have hA : DataW.TrodAll enc Tryz.prog W 0 (fun _ => true) true Tryz.f3.params.toList args.toList ds p := hA0
  rw [Tryz.params3] at hA hval
  obtain ⟨v0, d0, rfl, rfl, h0⟩ := trodAll_one hA
  obtain ⟨rfl, rfl⟩ := trodVars_none hV
  obtain ⟨cs, rfl, hsz⟩ := okWide_struct Tryz.underlying26 (hval 0 26 v0 rfl rfl)
  clear hA0 hval
  simp only [List.append_nil] at hW'
  have hlt : ∀ x ∈ p, x.block < W.heap.size := fun x hx => by simpa using hW'.lt x hx
  rw [Tryz.cells26] at hsz
  obtain ⟨l⟩ := cs
  match l, hsz with
  | [c0, c1, c2, c3, c4, c5, c6, c7, c8], _ =>
    refine (nils_any c0 c1 c2 c3 c4 c5 c6 c7 c8 W).mono fun e W' ⟨he, hb⟩ => ?_
    subst he
    exact ⟨_, rfl, _, _, _, [], p, [], hW', trodAll_mk1 (shut_bool Tryz.underlying4 _), trodAll_mk1 (Below.trod Tryz.laidOut Tryz.read26 Tryz.row26 h0 hb hlt), rfl, hb.frame _, fun h => by cases h⟩

set_option maxRecDepth 100000 in
theorem nils_handed (os : Os) (started : os.Started) (H : Type) (enc : TypeId × Value → H) :
    ReturnsInHanded {} Tryz.checked os 3 .any (fun w args => (Rows.casketNilsSpec.pre enc Tryz.prog Tryz.f3 [] false w args ∧ laidMetH Tryz.prog Rows.casketNilsRow.laid w) ∧ sizedMet enc Tryz.prog Tryz.f3 (OpenSpec.ofChange Rows.casketNilsSpec) false w args)
      (Rows.casketNilsSpec.post enc Tryz.prog Tryz.f3 false true false false) := by
  refine returnsInHanded_of_change_and (C := Tryz.checked) (X := fun w _ => laidMetH Tryz.prog Rows.casketNilsRow.laid w) (fun _ _ _ hh h => h.of_heap hh) Tryz.own started Tryz.noInit3 Tryz.func3
    (ChangeSpec.witness_shaped (enc := enc) (C := Tryz.checked) (os := os) (X := fun w _ => laidMetH Tryz.prog Rows.casketNilsRow.laid w) false (World.laidAll Tryz.prog os Rows.casketNilsRow.laid) #[actZero] 8 (World.laidAll_os _ _ _)
      (wit_shape os) (wit_ok os) (wit_pre os enc) (wit_sized os enc) (wit_laidH os)) ?_
  intro W base args ds gs before hval0 hW _ _ _ _
  exact nils_contract H enc W base args ds gs before hval0 hW

theorem nils_holds : Rows.CasketNilsSaid :=
  OpenClaim.holds_of_wide_leaving 3 Tryz.f3 rfl rfl rfl rfl rfl rfl rfl ⟨rfl, rfl, rfl, rfl, rfl⟩ rfl rfl rfl rfl rfl (by as_aux_lemma => kernel_rfl) Tryz.func3 joined
    (of_decide_eq_true (by as_aux_lemma => kernel_rfl)) (by unfold Func.isWrapper; first | (rw [if_pos (by decide +kernel)]; kernel_rfl) | (rw [if_neg (by decide +kernel)]; exact ⟨rfl, rfl⟩))
    (fun os started H enc _ => fun enter => ReturnsInOpen.mono (fun _ _ _ h => leaving_of_alone h) (fun _ h => h) (nils_handed os started H enc enter))

/-- A tied card of a row that starts goroutines: 'Claim7.holds_tied_plain_at' with the cell 'goes'. -/
theorem tied_plain_goes (Lk : Looks) {p : Pinned} {s : OpenSpec} {c : OpenClaim} (kinds : List LaidKind) (tests : Bool) (har : Bool × String) (lk g : Bool)
    (hc : c.holds p s) (hw : c.wfByText s = true) (htie : c.laidByTextAt Lk p kinds tests)
    (hst : c.start = .entering) (hnb : c.noBlocks = false ∧ c.again = false) (hm : p.checked.prog.mainIs = some (har.1, har.2.toList)) (hn : (!har.1 && har.2.isEmpty && !lk) = false)
    (hl : ∀ f fn, p.checked.prog.funcNamed c.func = some f → p.checked.prog.funcs[f]? = some fn → lk = p.checked.prog.looks [] ∧ ∀ (j : Nat) t, fn.params[j]? = some t → p.checked.prog.wantsStandIn t = false)
    (hg : g = c.goesBy p.checked.prog) :
    Claim7.holds p (.plain s) { stood := { row := c, standIns := [], harness := har, looks := lk }, kinds := [], alts := [], goes := g, laidByText := true, laidKinds := kinds, laidTests := tests, laidLooks := Lk } := by
  have h6 : Claim7.isSixth { stood := { row := c, standIns := [], harness := har, looks := lk }, kinds := [] } = false := by simpa [Claim7.isSixth] using hn
  exact ⟨Claim7.tied_new_at Lk kinds tests (Claim7.new_of_sixth hc har lk hst hnb hm h6 hl) hw, (fun D hD => by cases hD), htie, (fun h => by cases h), hg⟩

theorem looks_true : true = Tryz.pinned.checked.prog.looks [] := by kernel_rfl
theorem named3 : Tryz.prog.funcNamed "casket/casketlaw23.CasketNils" = some 3 := by kernel_rfl
theorem stand26 : Tryz.prog.wantsStandIn 26 = false := by kernel_rfl
theorem nils_goes : true = Rows.casketNilsRow.goesBy Tryz.pinned.checked.prog := by kernel_rfl
theorem nils_wf : Rows.casketNilsRow.wfByText (OpenSpec.ofChange Rows.casketNilsSpec) = true := by kernel_rfl
theorem nils_main : Tryz.pinned.checked.prog.mainIs = some (true, "5e8b6af2ada48426a99a9653ca1a30c336da6c61fb5bfacd62877e1edbfcb11f".toList) := by kernel_rfl

theorem card_holds : Rows.CasketNilsCardSaid :=
  tied_plain_goes .later _ _ (true, "5e8b6af2ada48426a99a9653ca1a30c336da6c61fb5bfacd62877e1edbfcb11f") true true nils_holds nils_wf casketNils_row_tie rfl ⟨rfl, rfl⟩ nils_main rfl
    (fun f fn hf hfn => by
      obtain rfl : f = 3 := Option.some.inj (named3.symm.trans hf) |>.symm
      obtain rfl : fn = Tryz.f3 := (Option.some.inj (Tryz.func3.symm.trans hfn)).symm
      refine ⟨looks_true, fun j t ht => ?_⟩
      rw [Tryz.params3] at ht
      obtain rfl : t = 26 := by simpa using Array.mem_of_getElem? ht
      exact stand26)
    nils_goes
#print axioms card_holds
end Go.Proofs.YtfbnhkofcoaldaaGreatDoor
