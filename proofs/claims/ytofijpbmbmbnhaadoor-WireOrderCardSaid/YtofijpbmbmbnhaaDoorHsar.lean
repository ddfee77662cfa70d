/- Proved: for whatever three slices of bytes, the law on the order (WireOrder) returns true, and all three read afterwards as they read before.
   Conditions: those of the card: when the call begins, the three listed package-level variables hold what the program's text lays (the card ties them to it). Nothing is asked of the bytes. -/
import Derived.Test.YtofijpbmbmbnhaaDoorHsaq
import Derived.Test.YtofijpbmbmbnhaaDoorTie
import Derived.Test.YtofijpbmbmbnhaaDoorCards
import Derived.SevenTiedAt
set_option linter.unusedSimpArgs false
set_option linter.unusedVariables false
set_option maxRecDepth 100000
namespace Go.Proofs.YtofijpbmbmbnhaaDoor
open Go
theorem wireOrder_card : Rows.WireOrderCardSaid :=
  Claim7.holds_tied_plain_at .later [] [.data, .data, .data] true (true, "dd39aefdd4fbebabeb528789cffc35ebda988315da12ef43dfd83f580aae36d8") false
    wireOrder_holds (fun _ h => by cases h) (by kernel_rfl) (fun _ h => by cases h) wireOrder_row_tie rfl ⟨rfl, rfl⟩ (by kernel_rfl) rfl
    (fun f fn hf hfn => by
      obtain rfl : f = 6 := Option.some.inj ((show Tryd.prog.funcNamed "hoarstone/hoarstonelaw02.WireOrder" = some 6 by kernel_rfl).symm.trans hf) |>.symm
      obtain rfl : fn = Tryd.f6 := (Option.some.inj (Tryd.func6.symm.trans hfn)).symm
      exact ⟨by kernel_rfl, fun j t ht => by
        rw [Tryd.params6] at ht
        have h3 : t = 31 := by
          rcases j with _ | _ | _ | j
          · simpa using ht.symm
          · simpa using ht.symm
          · simpa using ht.symm
          · simp at ht
        subst h3
        exact (show Tryd.prog.wantsStandIn 31 = false by kernel_rfl)⟩)
    (by kernel_rfl)
#print axioms wireOrder_card
end Go.Proofs.YtofijpbmbmbnhaaDoor
