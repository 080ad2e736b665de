/- Mf: parts of the proofs, laid together. -/
import Derived.Test.YteojjbhadgkfgaaGreatMa
import Derived.Test.YteojjbhadgkfgaaGreatMc
/- Slices that are read, and where their rows may lie: what a reference hands back is what came, or new. -/
namespace Go.Proofs.YteojjbhadgkfgaaGreat
set_option linter.unusedSimpArgs false
set_option linter.unusedVariables false
set_option maxRecDepth 100000
open Go Go.RowKit Lb

section
variable {α : Type} [Inhabited α] {k b n : Nat} {P Q : Nat → Prop} {enc : α → Array Value} {w w' w0 : World} {v : Value} {l : List α}
/-- its row lies where P says -/
def InP {α : Type} (P : Nat → Prop) (v : Value) (l : List α) : Prop := 0 < l.length → ∀ q, v.ownBlock = some q → P q
def RdP (P : Nat → Prop) (k : Nat) (enc : α → Array Value) (w : World) (v : Value) (l : List α) : Prop := RdL k enc w v l ∧ InP P v l
/-- its row lies ahead of b -/
abbrev InB {α : Type} (b : Nat) (v : Value) (l : List α) : Prop := InP (fun q => q < b) v l
/-- its row lies ahead of b, or from n on -/
abbrev RdO (b n : Nat) (k : Nat) (enc : α → Array Value) (w : World) (v : Value) (l : List α) : Prop := RdP (fun q => q < b ∨ n ≤ q) k enc w v l
theorem RdL.inB (h : RdL k enc w v l) (hb : w.heap.size ≤ b) : InB b v l := by
 intro h0 q hq
 obtain ⟨A, c, hv, -, -, h3⟩ := h
 obtain ⟨b', o, hA, hb', -⟩ := h3 h0
 rw [hv, hA] at hq
 simp [Value.ownBlock] at hq
 omega
omit [Inhabited α] in
theorem InP.nil : InP P (.slice none 0 0) ([] : List α) := fun h => by simp at h
theorem RdP.nil : RdP P k enc w (.slice none 0 0) ([] : List α) := ⟨RdL.nil, InP.nil⟩
theorem RdO.nil : RdO b n k enc w (.slice none 0 0) ([] : List α) := RdP.nil
theorem RdL.oldP (h : RdL k enc w v l) (hb : InP P v l) : RdP (fun q => P q ∨ n ≤ q) k enc w v l := ⟨h, fun h0 q hq => .inl (hb h0 q hq)⟩
theorem RdL.old (h : RdL k enc w v l) (hb : InB b v l) : RdO b n k enc w v l := h.oldP hb
theorem RdP.rd (h : RdP P k enc w v l) : RdL k enc w v l := h.1
theorem RdO.rd (h : RdO b n k enc w v l) : RdL k enc w v l := h.1
theorem RdP.form (h : RdP P k enc w v l) : ∃ A c, v = .slice A l.length c := by
 obtain ⟨A, c, hv, -⟩ := h.1
 exact ⟨A, c, hv⟩
theorem RdO.form (h : RdO b n k enc w v l) : ∃ A c, v = .slice A l.length c := RdP.form h
theorem RdP.ext (h : RdP P k enc w v l) (he : Ext w w') : RdP P k enc w' v l := ⟨h.1.ext he, h.2⟩
theorem RdO.ext (h : RdO b n k enc w v l) (he : Ext w w') : RdO b n k enc w' v l := RdP.ext h he
theorem RdP.alloc (h : RdP P k enc w v l) (o : Obj) : RdP P k enc (w.alloc o) v l := h.ext ((Ext.refl w).alloc o)
theorem RdO.alloc (h : RdO b n k enc w v l) (o : Obj) : RdO b n k enc (w.alloc o) v l := RdP.alloc h o
theorem RdP.drew (h : RdP P k enc w v l) : RdP P k enc w.drew v l := h
theorem RdO.drew (h : RdO b n k enc w v l) : RdO b n k enc w.drew v l := h
theorem RdP.drewN (h : RdP P k enc w v l) (m : Nat) : RdP P k enc (w.drewN m) v l := h
theorem RdO.drewN (h : RdO b n k enc w v l) (m : Nat) : RdO b n k enc (w.drewN m) v l := h
theorem RdL.kept {row : Option Nat} (h : RdL k enc w v l) (hg : w.grownBy w' row) (hne : 0 < l.length → ∀ q, row = some q → v.ownBlock ≠ some q) : RdL k enc w' v l := by
 obtain ⟨A, c, hv, h1, h2, h3⟩ := h
 refine ⟨A, c, hv, h1, h2, fun hp => ?_⟩
 obtain ⟨b', o, hA, hb', hc⟩ := h3 hp
 refine ⟨b', o, hA, Nat.lt_of_lt_of_le hb' hg.size, fun j hj i u' hu => ?_⟩
 have hob : v.ownBlock = some b' := by rw [hv, hA]; rfl
 rw [World.cell?_of_block (a := ⟨b', _, none⟩) (w := w) (hg.block b' hb' (fun e => hne hp b' e.symm hob))]
 exact hc j hj i u' hu
theorem RdP.kept {row : Option Nat} (h : RdP P k enc w v l) (hg : w.grownBy w' row) (hne : ∀ q, row = some q → ¬ P q) : RdP P k enc w' v l :=
 ⟨h.1.kept hg (fun h0 q hq ho => hne q hq (h.2 h0 q ho)), h.2⟩
theorem RdP.setC {a : Addr} {u : Value} (ha : ¬ P a.block) (h : RdP P k enc w v l) : RdP P k enc (w.setCell a u) v l :=
 h.kept (row := some a.block) ⟨rfl, rfl, rfl, by simp [World.setCell], fun k _ hk => Below.heap_setCell _ _ _ _ (fun e => hk (by rw [e]))⟩ (fun q e => by injection e with e; subst e; exact ha)
theorem RdO.setC {a : Addr} {u : Value} (ha : b ≤ a.block ∧ a.block < n) (h : RdO b n k enc w v l) : RdO b n k enc (w.setCell a u) v l := RdP.setC (by omega) h
end
end Go.Proofs.YteojjbhadgkfgaaGreat

/- Ledgers: beginnings; a ticket more: the plain side. -/
namespace Go.Proofs.YteojjbhadgkfgaaGreat
set_option linter.unusedSimpArgs false
set_option linter.unusedVariables false
set_option maxRecDepth 100000
open Go Go.RowKit Lb

theorem ckTickets_of : ∀ {l : List Tk} {prev : Option Int}, (∀ t ∈ l, ckTicket t = 0) → l.Pairwise (fun a b => a.id < b.id) → (∀ n, prev = some n → ∀ t ∈ l, n < t.id) → ckTickets prev l = 0
 | [], _, _, _, _ => rfl
 | x :: l, prev, h1, h2, h3 => by
  rw [ckTickets_cons, if_neg (by simpa using h1 x List.mem_cons_self)]
  have hr : noRise prev x.id = false := by
   unfold noRise
   cases prev with
   | none => rfl
   | some n =>
    have := h3 n rfl x List.mem_cons_self
    simp
    omega
  rw [hr]
  obtain ⟨h4, h5⟩ := List.pairwise_cons.1 h2
  simp only [Bool.false_eq_true, if_false]
  exact ckTickets_of (fun t ht => h1 t (List.mem_cons_of_mem _ ht)) h5 (fun n hn t ht => by injection hn with hn; subst hn; exact h4 t ht)
theorem insTk_mem {t x : Tk} : ∀ {l : List Tk}, x ∈ insTk t l ↔ x = t ∨ x ∈ l
 | [] => by simp [insTk]
 | y :: l => by
  unfold insTk
  split
  ·rw [List.mem_cons, insTk_mem, List.mem_cons]
   constructor
   ·rintro (h | h | h) <;> simp [h]
   ·rintro (h | h | h) <;> simp [h]
  ·simp
theorem insTk_len (t : Tk) : ∀ (l : List Tk), (insTk t l).length = l.length + 1
 | [] => rfl
 | y :: l => by
  unfold insTk
  split
  ·simp [insTk_len t l]
  ·simp
theorem insTk_sorted {t : Tk} : ∀ {l : List Tk}, l.Pairwise (fun a b => a.id < b.id) → (∀ x ∈ l, x.id ≠ t.id) → (insTk t l).Pairwise (fun a b => a.id < b.id)
 | [], _, _ => by simp [insTk]
 | y :: l, h, hn => by
  obtain ⟨h1, h2⟩ := List.pairwise_cons.1 h
  have hy := hn y List.mem_cons_self
  unfold insTk
  split
  ·rename_i hlt
   refine List.pairwise_cons.2 ⟨fun x hx => ?_, insTk_sorted h2 (fun x hx => hn x (List.mem_cons_of_mem _ hx))⟩
   rcases insTk_mem.1 hx with rfl | hx
   ·exact hlt
   ·exact h1 x hx
  ·rename_i hlt
   refine List.pairwise_cons.2 ⟨fun x hx => ?_, h⟩
   rcases List.mem_cons.1 hx with rfl | hx
   ·omega
   ·have := h1 x hx
    omega
theorem insTk_find {t x : Tk} {id : Int} (hne : id ≠ t.id) : ∀ {l : List Tk}, ticketOf (insTk t l) id = ticketOf l id
 | [] => by
  unfold ticketOf insTk
  simp
  exact fun h => hne h.symm
 | y :: l => by
  have ih := insTk_find (x := x) hne (l := l)
  unfold insTk
  split
  ·unfold ticketOf at ih ⊢
   rw [List.find?_cons, List.find?_cons, ih]
  ·unfold ticketOf
   rw [List.find?_cons, show (t.id == id) = false by rw [beq_eq_false_iff_ne]; exact fun h => hne h.symm]
theorem ckTapAt_more {tks : List Tk} {t : Tk} (hn : ∀ x ∈ tks, x.id ≠ t.id) {taps : List Tp} {vs : List Int} {p : Tp} {v : Int} (h : ckTapAt tks taps vs p v = 0) : ckTapAt (insTk t tks) taps vs p v = 0 := by
 unfold ckTapAt at h ⊢
 by_cases h1 : ckTap p = 0
 ·simp only [h1, ne_eq, not_true_eq_false, if_false] at h ⊢
  cases ht : ticketOf tks p.ticket with
  | none => rw [ht] at h; simp at h
  | some x =>
   rw [ht] at h
   obtain ⟨hm, hid⟩ := ticketOf_mem ht
   have hx := hn x hm
   rw [insTk_find (x := x) (by omega), ht]
   exact h
 ·simp [h1] at h
theorem ckTaps_more {tks : List Tk} {t : Tk} (hn : ∀ x ∈ tks, x.id ≠ t.id) : ∀ (l : List Tp) (vl : List Int) (pre : List Tp) (pv : List Int), ckTaps tks pre pv l vl = 0 → ckTaps (insTk t tks) pre pv l vl = 0
 | [], _, _, _, _ => by simp [ckTaps]
 | _ :: _, [], _, _, _ => by simp [ckTaps]
 | p :: l, v :: vl, pre, pv, h => by
  unfold ckTaps at h ⊢
  by_cases h1 : ckTapAt tks pre pv p v = 0
  ·rw [if_neg (by simpa using h1)] at h
   rw [if_neg (by simpa using ckTapAt_more hn h1)]
   exact ckTaps_more hn l vl _ _ h
  ·rw [if_pos h1] at h
   exact absurd h h1
/-- a ticket that is sold leaves the ledger right, and changes nothing of the taps -/
theorem sellAll_ok {l s : Ld} {t : Tk} (h : sellAll l t = (s, 0)) : ckLedger l = 0 ∧ ckLedger s = 0 ∧ s.taps = l.taps ∧ s.tickets.length = l.tickets.length + 1 := by
 unfold sellAll at h
 by_cases hc : ckLedger l = 0
 ·rw [if_neg (by simpa using hc)] at h
  unfold sellL at h
  by_cases h1 : ckTicket t = 0
  ·rw [if_neg (by simpa using h1)] at h
   cases h2 : l.tickets.any (fun x => x.id == t.id) with
   | true => simp [h2] at h
   | false =>
    simp only [h2, Bool.false_eq_true, if_false] at h
    by_cases h3 : l.tickets.length = 12
    ·simp [h3] at h
    ·rw [if_neg h3] at h
     simp only [Prod.mk.injEq, and_true] at h
     subst h
     have hn : ∀ x ∈ l.tickets, x.id ≠ t.id := by
      intro x hx
      have := List.any_eq_false.1 h2 x hx
      simpa using this
     obtain ⟨r1, r2, r3, r4, r5⟩ := right_iff.1 hc
     refine ⟨hc, right_iff.2 ⟨?_, r2, r3, ?_, ckTaps_more hn _ _ _ _ r5⟩, rfl, insTk_len t _⟩
     ·simp only
      rw [insTk_len]
      omega
     ·refine ckTickets_of (fun x hx => ?_) (insTk_sorted (tickets_sorted r4).1 hn) (fun n hn => by cases hn)
      rcases insTk_mem.1 hx with rfl | hx
      ·exact h1
      ·exact tickets_mem r4 x hx
  ·rw [if_pos h1] at h
   simp only [Prod.mk.injEq] at h
   exact absurd h.2 h1
 ·rw [if_pos hc] at h
  simp only [Prod.mk.injEq] at h
  exact absurd h.2 hc
end Go.Proofs.YteojjbhadgkfgaaGreat
