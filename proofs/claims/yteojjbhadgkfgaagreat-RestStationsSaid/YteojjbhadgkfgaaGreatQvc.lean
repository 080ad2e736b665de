/- Qvc: parts of the proofs, laid together. -/
import Derived.Test.YteojjbhadgkfgaaGreatQva
import Derived.Test.YteojjbhadgkfgaaGreatQvb
/- The reference's DoOf. -/
set_option maxHeartbeats 64000000
namespace Go.Proofs.YteojjbhadgkfgaaGreat
set_option linter.unusedSimpArgs false
set_option linter.unusedVariables false
set_option maxRecDepth 100000
open Go Go.RowKit Lb

theorem kind_form {a : Ac} (hf : Jp a = 0) : 1 <= a.kind /\ a.kind <= 7:=by
 unfold Jp at hf
 split at hf
 ·cases hf
 ·rename_i h;omega
theorem ref_DoOf {P : Nat -> Prop} (s : St) (x : Sv) (a : Ac) (w : World) (hrp : JX P w x s) (hP : ∀ q,P q -> q < w.heap.size) (rs : JJ s) :
  Calls Tryz.prog 39 #[.agg (sta s x),.agg (acc a)] w fun e w'=>∃ x',e = .returned (.tuple #[.agg (sta (JV s a).1 x'),.int .i64 (JV s a).2.1,.int .i64 (JV s a).2.2]) /\ Ext w w' /\ JX (fun q=>P q \/ w.heap.size <= q) w' x' (JV s a).1:=by
 by_cases hf : Jp a = 0
 ·obtain h | h | h | h | h | h | h : a.kind = 1 \/ a.kind = 2 \/ a.kind = 3 \/ a.kind = 4 \/ a.kind = 5 \/ a.kind = 6 \/ a.kind = 7:=by have:=kind_form hf;omega
  ·exact doOf_1 s x a w hrp hP rs hf h
  ·exact doOf_2 s x a w hrp hP rs hf h
  ·exact doOf_3 s x a w hrp hP rs hf h
  ·exact doOf_4 s x a w hrp hP rs hf h
  ·exact doOf_5 s x a w hrp hP rs hf h
  ·exact doOf_6 s x a w hrp hP rs hf h
  ·exact doOf_7 s x a w hrp hP rs hf h
 ·exact doOf_bad s x a w hrp rs hf
end Go.Proofs.YteojjbhadgkfgaaGreat
