/- FnExactRefusalsText: for every whole number, the program and the reference answer the same text and the same code. -/
import Derived.Test.YtlggajipoionjaaPFnExactRefusalsTextx1
namespace Go.Proofs.Ytlggajipoionjaa.Pure
open Go.RowKit Go.Proofs.Ytlggajipoionjaa.PFnExactRefusalsText Go.Proofs.YtlggajipoionjaaW.PrintWords Go.Proofs.YtlggajipoionjaaW.PrintLast
theorem refusals_few : ∀ n : Fin 32, laws_FnExactRefusalsText.f 60 (n.val : Int) = some true := by decide +kernel
theorem FnExactRefusalsText : laws_FnExactRefusalsText.Pure := by
  intro x hx
  refine ⟨60, ?_⟩
  by_cases h : 0 ≤ x ∧ x ≤ 31
  · obtain ⟨n, rfl⟩ : ∃ n : Fin 32, x = (n.val : Int) := ⟨⟨x.toNat, by omega⟩, by simp; omega⟩
    exact refusals_few n
  · have h1 : spec_l01In.f x 0 31 = some false := by
      unfold spec_l01In.f
      by_cases h0 : x ≥ 0
      · rw [if_pos h0]; simp; omega
      · rw [if_neg h0]
    have h2 : impl_within.f x 0 31 = some false := by
      unfold impl_within.f
      by_cases h0 : 0 ≤ x
      · rw [if_pos h0]; simp; omega
      · rw [if_neg h0]
    unfold laws_FnExactRefusalsText.f spec_RefusalsText.f impl_RefusalsText.f
    rw [h1, h2]
    simp
end Go.Proofs.Ytlggajipoionjaa.Pure
