/-
  The walks of the writer's small functions (layer 1): NewWriter, Len, Text, Put refused.
-/
import Derived.Test.YtaeppgooenbfiaaPut
namespace Go.Proofs.Ytaeppgooenbfiaa
open Go.RowKit
set_option linter.unusedVariables false
set_option linter.unusedSimpArgs false

theorem text_none (w : World) : (convert 57 9 (.slice none 0 0)).run Try.prog w = .ok (.string ⟨#[]⟩) w := by kernel_rfl
/-- 'string(b)' of an owned row of bytes. -/
theorem Row.text {w : World} {v : Value} {l : List UInt8} (h : Row w 5 v (u8s l)) : (convert 57 9 v).run Try.prog w = .ok (.string ⟨l.toArray⟩) w := by
  rcases h.2 with ⟨rfl, h2⟩ | ⟨g, cap, cur, rfl, hb, hg, hnc, hcm, hcs, ht⟩
  · have : l = [] := by simpa [u8s] using h2
    subst this
    exact text_none w
  · have hown : w.ownsRow 0 5 1 (.slice (some ⟨g, 0, none⟩) (u8s l).length cap) (u8s l).length (u8s l) := h
    have hl : (u8s l).length = l.length := by simp [u8s]
    rw [hl] at hown ⊢
    refine run_convert_bytes_back w _ _ _ ⟨g, 0, none⟩ cap l Try.underlying57 Try.underlying5 Try.underlying9 fun j hj => ?_
    rw [Addr.add_lit, Nat.zero_add, hown.cellAt j (by omega)]
    simp [u8s, hj]
end Go.Proofs.Ytaeppgooenbfiaa
