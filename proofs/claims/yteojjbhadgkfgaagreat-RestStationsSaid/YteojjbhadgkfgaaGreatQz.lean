/- Qz: parts of the proofs, laid together. -/
import Derived.Test.YteojjbhadgkfgaaGreatQvc
import Derived.Test.YteojjbhadgkfgaaGreatQp
import Derived.Test.YteojjbhadgkfgaaGreatQy
import Derived.Test.YteojjbhadgkfgaaGreatQx
import Derived.Test.YteojjbhadgkfgaaGreatQya
import Derived.Test.YteojjbhadgkfgaaGreatQn
/- DeskTells: the walk. -/
set_option maxHeartbeats 64000000
namespace Go.Proofs.YteojjbhadgkfgaaGreat
set_option linter.unusedSimpArgs false
set_option linter.unusedVariables false
set_option maxRecDepth 100000
open Go Go.RowKit Lb

theorem isE {a : St} {e : Int} (h : e ≠ 0 -> a = st0) : a = if e ≠ 0 then st0 else a:=by
 by_cases h2 : e = 0
 ·rw [if_neg (by simpa using h2)]
 ·rw [if_pos h2];exact h h2
theorem doAll_ck {s : St} {a : Ac} (h : Z4 s ≠ 0) : JV s a = (st0,0,Z4 s):=by unfold JV;rw [if_pos h]
theorem doAll_err {s : St} {a : Ac} (h : (JV s a).2.2 ≠ 0) : (JV s a).1 = st0:=by
 unfold JV at h ⊢
 split
 ·rfl
 ·rename_i h1
  rw [if_neg h1] at h
  split
  ·rfl
  ·rename_i h2
   rw [if_neg h2] at h;exact absurd h h2
end Go.Proofs.YteojjbhadgkfgaaGreat
