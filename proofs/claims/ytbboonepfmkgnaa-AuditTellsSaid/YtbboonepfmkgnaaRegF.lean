/- A walk goes on from a world of which only some blocks are known. -/
import Derived.Test.YtbboonepfmkgnaaRegE
namespace Go.Proofs.Ytbboonepfmkgnaa
open Go Go.RowKit
set_option linter.unusedSimpArgs false
set_option linter.unusedVariables false
set_option maxRecDepth 100000

section
variable {P : Program} {c : Code} {Q : Exit → Act → World → Prop} {a : Act} {w w0 : World} {g0 g1 g2 g3 g4 : Nat} {c0 c1 c2 c3 c4 : Array Value}
theorem wp_gen0 (hE : Ext w0 w) (k : ∀ W, Hid (Ext w0 W) → w0.heap.size ≤ W.heap.size → c.wp P Q a W) : c.wp P Q a w := k w hE hE.size
theorem wp_gen1 (h0 : Row w g0 c0) (hE : Ext w0 w) (k : ∀ W, Hid (Ext w0 W) → w0.heap.size ≤ W.heap.size → Hid (Row W g0 c0) → c.wp P Q a W) : c.wp P Q a w := k w hE hE.size h0
theorem wp_gen2 (h0 : Row w g0 c0) (h1 : Row w g1 c1) (hE : Ext w0 w) (k : ∀ W, Hid (Ext w0 W) → w0.heap.size ≤ W.heap.size → Hid (Row W g0 c0) → Hid (Row W g1 c1) → c.wp P Q a W) : c.wp P Q a w := k w hE hE.size h0 h1
theorem wp_gen3 (h0 : Row w g0 c0) (h1 : Row w g1 c1) (h2 : Row w g2 c2) (hE : Ext w0 w) (k : ∀ W, Hid (Ext w0 W) → w0.heap.size ≤ W.heap.size → Hid (Row W g0 c0) → Hid (Row W g1 c1) → Hid (Row W g2 c2) → c.wp P Q a W) : c.wp P Q a w := k w hE hE.size h0 h1 h2
theorem wp_gen4 (h0 : Row w g0 c0) (h1 : Row w g1 c1) (h2 : Row w g2 c2) (h3 : Row w g3 c3) (hE : Ext w0 w) (k : ∀ W, Hid (Ext w0 W) → w0.heap.size ≤ W.heap.size → Hid (Row W g0 c0) → Hid (Row W g1 c1) → Hid (Row W g2 c2) → Hid (Row W g3 c3) → c.wp P Q a W) : c.wp P Q a w := k w hE hE.size h0 h1 h2 h3
theorem wp_gen5 (h0 : Row w g0 c0) (h1 : Row w g1 c1) (h2 : Row w g2 c2) (h3 : Row w g3 c3) (h4 : Row w g4 c4) (hE : Ext w0 w) (k : ∀ W, Hid (Ext w0 W) → w0.heap.size ≤ W.heap.size → Hid (Row W g0 c0) → Hid (Row W g1 c1) → Hid (Row W g2 c2) → Hid (Row W g3 c3) → Hid (Row W g4 c4) → c.wp P Q a W) : c.wp P Q a w := k w hE hE.size h0 h1 h2 h3 h4
end
theorem Row.size {w : World} {g : Nat} {cs : Array Value} (h : Row w g cs) : g < w.heap.size := h.1
end Go.Proofs.Ytbboonepfmkgnaa
