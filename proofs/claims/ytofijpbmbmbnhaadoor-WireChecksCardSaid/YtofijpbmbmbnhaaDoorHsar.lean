/- Proved: for whatever two items, the law on checks (WireChecks) returns true, and both items read afterwards as they read before.
   Conditions: those of the card: when the call begins, the three listed package-level variables hold what the program's text lays (the card ties them to it). Nothing is asked of the items. -/
import Derived.Test.YtofijpbmbmbnhaaDoorHsaq
import Derived.Test.YtofijpbmbmbnhaaDoorTie
import Derived.Test.YtofijpbmbmbnhaaDoorCards
import Derived.SevenTiedAt
set_option linter.unusedSimpArgs false
set_option linter.unusedVariables false
set_option maxRecDepth 100000
namespace Go.Proofs.YtofijpbmbmbnhaaDoor
open Go
theorem wireChecks_card : Rows.WireChecksCardSaid :=
  Claim7.holds_tied_plain_at .later [] [.data, .data, .data] true (true, "dd39aefdd4fbebabeb528789cffc35ebda988315da12ef43dfd83f580aae36d8") false
    wireChecks_holds (fun _ h => by cases h) (by kernel_rfl) (fun _ h => by cases h) wireChecks_row_tie rfl ⟨rfl, rfl⟩ (by kernel_rfl) rfl
    (fun f fn hf hfn => by
      obtain rfl : f = 7 := Option.some.inj ((show Tryd.prog.funcNamed "hoarstone/hoarstonelaw02.WireChecks" = some 7 by kernel_rfl).symm.trans hf) |>.symm
      obtain rfl : fn = Tryd.f7 := (Option.some.inj (Tryd.func7.symm.trans hfn)).symm
      exact ⟨by kernel_rfl, fun j t ht => by
        rw [Tryd.params7] at ht
        have h3 : t = 25 := by
          rcases j with _ | _ | j
          · simpa using ht.symm
          · simpa using ht.symm
          · simp at ht
        subst h3
        exact (show Tryd.prog.wantsStandIn 25 = false by kernel_rfl)⟩)
    (by kernel_rfl)
#print axioms wireChecks_card
end Go.Proofs.YtofijpbmbmbnhaaDoor
