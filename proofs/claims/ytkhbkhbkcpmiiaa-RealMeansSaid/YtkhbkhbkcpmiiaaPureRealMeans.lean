/- Means: for all rows of floats, real.Mean of the first sixty tells what the document's Mean tells. No condition. -/
import Derived.Test.YtkhbkhbkcpmiiaaMeanRef
import Derived.Test.YtkhbkhbkcpmiiaaLivesOk
import Derived.Test.YtkhbkhbkcpmiiaaPRealx8
namespace Go.Proofs.Ytkhbkhbkcpmiiaa.Pure
open Go.RowKit Go.Proofs.Ytkhbkhbkcpmiiaa.PReal Go.Proofs.YtkhbkhbkcpmiiaaW.PrintWords Go.Proofs.YtkhbkhbkcpmiiaaW.PrintLast Go.Proofs.YtkhbkhbkcpmiiaaW.PrintMore
set_option linter.unusedVariables false
set_option linter.unusedSimpArgs false

theorem wf_word {b : Int} (h : (Lit.int .u64 b).wf = true) : 0 ≤ b ∧ b < 18446744073709551616 := by
  simp [Lit.wf, IntKind.min, IntKind.max, IntKind.signed, IntKind.bits] at h
  omega
theorem means_row (l m : List Int) (hm : m.length ≤ 60) (wf : ∀ x ∈ m, (Lit.int .u64 x).wf = true) : ∃ k,
    ((some ([] : List Int)).bind fun y => (if y.length + m.length < 17592186044416 then ((real_Mean.f (y ++ m)).bind fun t420 => ((cadastreref02_Mean.f k m).bind fun t421 => (if t420 = t421 then ((cadastrelaw02_lives.f).bind fun t422 => (some t422)) else (some false)))) else none)) = some true := by
  obtain ⟨k, h⟩ := (ref_mean m (fun b hb => wf_word (wf b hb)) hm).rounds
  refine ⟨k, ?_⟩
  have hr : real_Mean.f m = some (real_Mean.last (real_Mean.sum m) (m.length : Int) : Int) := by
    unfold real_Mean.f
    rw [if_pos (by omega)]
  rw [Option.bind_some, List.nil_append, if_pos (by simp; omega), hr, Option.bind_some, h, Option.bind_some, if_pos rfl, lives_ok]
  rfl
theorem RealMeans : cadastrelaw02_RealMeans.Pure := by
  intro l hl hb wf
  by_cases c : 60 < l.length
  · obtain ⟨k, h⟩ := means_row l (l.take 60) (by rw [List.length_take]; omega) (fun x hx => wf x (List.mem_of_mem_take hx))
    refine ⟨k, ?_⟩
    unfold cadastrelaw02_RealMeans.f
    rw [if_pos (by omega), if_pos (by omega)]
    exact h
  · obtain ⟨k, h⟩ := means_row l l (by omega) wf
    refine ⟨k, ?_⟩
    unfold cadastrelaw02_RealMeans.f
    rw [if_neg (by omega)]
    exact h
end Go.Proofs.Ytkhbkhbkcpmiiaa.Pure
