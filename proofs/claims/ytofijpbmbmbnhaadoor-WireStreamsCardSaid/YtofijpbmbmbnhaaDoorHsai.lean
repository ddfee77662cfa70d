/- The examples of the chapter, reckoned by the kernel. -/
import Derived.Test.YtofijpbmbmbnhaaDoorHsah
set_option linter.unusedSimpArgs false
set_option linter.unusedVariables false
set_option maxRecDepth 100000
namespace Go.Proofs.YtofijpbmbmbnhaaDoor
open Go Go.Hs Go.Proofs
theorem awake_ev : ((ev tab E0 I0 3000).call 11 [] H.empty).map (·.1) = some (.bool true) := by kernel_rfl
theorem awake_sim {E : Env} (hE : ∀ b o v, E0 b o = some v → E b o = some v) {n0 : Nat} {φ : Ph} {h : H} {w : World} (R : Tie tab E n0 All φ h w) : Sim Tryd.prog tab E n0 (callFunc 11 (([] : List Value).map (ren φ)).toArray) φ h w (.bool true) h := by
  obtain ⟨⟨v, h0⟩, h1, h2⟩ := Option.map_eq_some_iff.1 awake_ev
  simp only at h2
  subst h2
  exact closed_sim tab_of noNum (fun n0 => known0 E0 n0) hE h1 rfl (by simp) R
end Go.Proofs.YtofijpbmbmbnhaaDoor
