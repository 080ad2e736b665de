/- Mn: parts of the proofs, laid together. -/
import Derived.Test.YteojjbhadgkfgaaDoorMs
import Derived.Test.YteojjbhadgkfgaaDoorMg
/- The reference's copied. -/
namespace Go.Proofs.YteojjbhadgkfgaaDoor
set_option linter.unusedSimpArgs false
set_option linter.unusedVariables false
set_option maxRecDepth 100000
open Go Go.RowKit Lb

theorem info_gtC : (Tryd.prog.info? 47).map (fun i => (i.zero, i.size, i.bytes)) = some (some (.agg #[.int .i64 0, .int .i64 0, .int .i64 0, .slice none 0 0, .int .i64 0, .slice none 0 0, .int .i64 0, .int .i64 0]), 8, 96) := by kernel_rfl
theorem gyc_ones {w : World} {ys : List Gy} (h : ∀ y ∈ ys, GyR w y) : ∀ u ∈ encs gyc ys, u.oneCell' = true := by
 intro u hu
 obtain ⟨y, hy, hx⟩ := List.mem_flatMap.1 hu
 obtain ⟨A, c, h1, -, -⟩ := (h y hy).1.form
 obtain ⟨A2, c2, h2, -, -⟩ := (h y hy).2.form
 simp [gyc, gta, h1, h2] at hx
 (rcases hx with rfl | rfl | rfl | rfl | rfl | rfl | rfl | rfl) <;> rfl
end Go.Proofs.YteojjbhadgkfgaaDoor
