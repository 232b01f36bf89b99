/- The parts, one behind the other; for at most 2^47 parts and bytes. -/
import Derived.Test.YtlkgffeanjigjaaBase
import Derived.Test.YtlkgffeanjigjaaPx36
namespace Go.Proofs.Ytlkgffeanjigjaa.B
open Go.RowKit Go.Proofs.Ytlkgffeanjigjaa.P Go.Proofs.YtlkgffeanjigjaaW.PrintWords Go.Proofs.YtlkgffeanjigjaaW.PrintLast Go.Proofs.YtlkgffeanjigjaaW.PrintMore
theorem joined (ls : List (List Int)) (h1 : ls.flatten.length ≤ 140737488355328) (h2 : ls.length ≤ 140737488355328) : impl_joined.f ls = some ls.flatten := by
  unfold impl_joined.f bytes_Join.f
  rw [if_pos ⟨rfl, h1, h2⟩]; rfl
theorem joined2 (a b : List Int) (h : a.length + b.length ≤ 140737488355328) : impl_joined.f [a, b] = some (a ++ b) := by
  rw [joined _ (by simp; omega) (by simp)]; simp
theorem joined3 (a b c : List Int) (h : a.length + b.length + c.length ≤ 140737488355328) : impl_joined.f [a, b, c] = some (a ++ b ++ c) := by
  rw [joined _ (by simp; omega) (by simp)]; simp
theorem joined4 (a b c d : List Int) (h : a.length + b.length + c.length + d.length ≤ 140737488355328) : impl_joined.f [a, b, c, d] = some (a ++ b ++ c ++ d) := by
  rw [joined _ (by simp; omega) (by simp)]; simp
end Go.Proofs.Ytlkgffeanjigjaa.B
