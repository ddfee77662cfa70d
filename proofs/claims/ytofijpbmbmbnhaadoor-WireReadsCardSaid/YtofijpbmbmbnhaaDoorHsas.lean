/- Proved: for whatever slice of bytes, the law on reading bytes (WireReads) returns true, and it reads afterwards as it read before.
   Conditions: those of the card: when the call begins, the three listed package-level variables hold what the program's text lays (the card ties them to it). Nothing is asked of the bytes. -/
import Derived.Test.YtofijpbmbmbnhaaDoorHsar
import Derived.Test.YtofijpbmbmbnhaaDoorTie
import Derived.Test.YtofijpbmbmbnhaaDoorCards
import Derived.SevenTiedAt
set_option linter.unusedSimpArgs false
set_option linter.unusedVariables false
set_option maxRecDepth 100000
namespace Go.Proofs.YtofijpbmbmbnhaaDoor
open Go
theorem wireReads_card : Rows.WireReadsCardSaid :=
  Claim7.holds_tied_plain_at .later [] [.data, .data, .data] true (true, "dd39aefdd4fbebabeb528789cffc35ebda988315da12ef43dfd83f580aae36d8") false
    wireReads_holds (fun _ h => by cases h) (by kernel_rfl) (fun _ h => by cases h) wireReads_row_tie rfl ⟨rfl, rfl⟩ (by kernel_rfl) rfl
    (fun f fn hf hfn => by
      obtain rfl : f = 4 := Option.some.inj ((show Tryd.prog.funcNamed "hoarstone/hoarstonelaw02.WireReads" = some 4 by kernel_rfl).symm.trans hf) |>.symm
      obtain rfl : fn = Tryd.f4 := (Option.some.inj (Tryd.func4.symm.trans hfn)).symm
      exact ⟨by kernel_rfl, fun j t ht => by
        rw [Tryd.params4] at ht
        have h3 : t = 31 := by
          rcases j with _ | j
          · simpa using ht.symm
          · simp at ht
        subst h3
        exact (show Tryd.prog.wantsStandIn 31 = false by kernel_rfl)⟩)
    (by kernel_rfl)
#print axioms wireReads_card
end Go.Proofs.YtofijpbmbmbnhaaDoor
