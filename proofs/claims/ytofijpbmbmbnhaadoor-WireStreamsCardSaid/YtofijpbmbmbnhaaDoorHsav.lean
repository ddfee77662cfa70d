/- Proved: for whatever slice of bytes, and whatever two numbers (of 8 and of 16 bits), the law on streams (WireStreams) returns true, and the bytes read afterwards as they read before.
   Conditions: those of the card: when the call begins, the three listed package-level variables hold what the program's text lays (the card ties them to it). Nothing is asked of the bytes or the numbers. -/
import Derived.Test.YtofijpbmbmbnhaaDoorHsau
import Derived.Test.YtofijpbmbmbnhaaDoorTie
import Derived.Test.YtofijpbmbmbnhaaDoorCards
import Derived.SevenTiedAt
set_option linter.unusedSimpArgs false
set_option linter.unusedVariables false
set_option maxRecDepth 100000
namespace Go.Proofs.YtofijpbmbmbnhaaDoor
open Go
theorem wireStreams_card : Rows.WireStreamsCardSaid :=
  Claim7.holds_tied_plain_at .later [] [.data, .data, .data] true (true, "dd39aefdd4fbebabeb528789cffc35ebda988315da12ef43dfd83f580aae36d8") false
    wireStreams_holds (fun _ h => by cases h) (by kernel_rfl) (fun _ h => by cases h) wireStreams_row_tie rfl ⟨rfl, rfl⟩ (by kernel_rfl) rfl
    (fun f fn hf hfn => by
      obtain rfl : f = 8 := Option.some.inj ((show Tryd.prog.funcNamed "hoarstone/hoarstonelaw02.WireStreams" = some 8 by kernel_rfl).symm.trans hf) |>.symm
      obtain rfl : fn = Tryd.f8 := (Option.some.inj (Tryd.func8.symm.trans hfn)).symm
      exact ⟨by kernel_rfl, fun j t ht => by
        rw [Tryd.params8] at ht
        have h3 : t = 31 ∨ t = 5 ∨ t = 40 := by
          rcases j with _ | _ | _ | j
          · left; simpa using ht.symm
          · right; left; simpa using ht.symm
          · right; right; simpa using ht.symm
          · simp at ht
        rcases h3 with rfl | rfl | rfl
        · exact (show Tryd.prog.wantsStandIn 31 = false by kernel_rfl)
        · exact (show Tryd.prog.wantsStandIn 5 = false by kernel_rfl)
        · exact (show Tryd.prog.wantsStandIn 40 = false by kernel_rfl)⟩)
    (by kernel_rfl)
#print axioms wireStreams_card
end Go.Proofs.YtofijpbmbmbnhaaDoor
