/- ticket.Bytes and the references' TicketBytes give the eight bytes of a small ticket. -/
import Derived.Test.YtglifpoiildpfaaTick
import Derived.Deep.LoopGhost
import Derived.Deep.DeepMust
namespace Go.Proofs.Ytglifpoiildpfaa
set_option linter.unusedSimpArgs false
set_option linter.unusedVariables false
open Go Go.RowKit Lb

theorem info_byte : (Try.prog.info? 5).map (fun i => (i.zero, i.size, i.bytes)) = some (some (.int .u8 0), 1, 1) := by kernel_rfl

def bytes2 (l : List Int) : List Int := l.flatMap fun n => [n / 256, n % 256]

theorem bytes2_snoc (l : List Int) (k : Nat) (h : k < l.length) : bytes2 (l.take (k + 1)) = bytes2 (l.take k) ++ [l.getD k 0 / 256, l.getD k 0 % 256] := by
  rw [List.take_succ_eq_append_getElem h]
  simp only [bytes2, List.getD, h, List.flatMap_append, List.getElem?_eq_getElem, Option.getD_some]
  rfl

set_option maxHeartbeats 400000 in
theorem ticket_Bytes1 (l : List Int) (b pb : Nat) (c : Nat) (w : World) (hl : l.length ≤ 1000) (hr : ∀ i, i < l.length → 0 ≤ l.getD i 0 ∧ l.getD i 0 < 65536) (hb : b < w.heap.size) (hpb : pb < w.heap.size) (hne : b ≠ pb)
    (hc : ∀ i, i < l.length → w.cell? ⟨b, i, none⟩ = some (.int .i64 (l.getD i 0))) (hp : w.cell? ⟨pb, 0, none⟩ = some (.slice none 0 0)) (hpf : w.frozen? ⟨pb, 0, none⟩ = false) :
    Calls Try.prog 52 #[.slice (some ⟨b, 0, none⟩) l.length c, .pointer (some ⟨pb, 0, none⟩)] w fun e w' =>
      e = .returned (.tuple #[]) ∧ Only w w' pb ∧ ∃ v, w'.cell? ⟨pb, 0, none⟩ = some v ∧ w'.frozen? ⟨pb, 0, none⟩ = false ∧ w'.ownsRow w.heap.size 5 1 v (2 * l.length) ((bytes2 l).map (Value.int .u8)) := by
  obtain ⟨i0, hi, hz0, hz1, hz2⟩ := info_parts info_byte
  have hcH := Lib.hid hc
  have hrH := Lib.hid hr
  have hpH := Lib.hid hp
  have hpfH := Lib.hid hpf
  clear hc hr hp hpf
  go_enter Try.func52, Try.ntmps52
  go_wp2
  go_loopg [7] l.length (fun gg s7 wr => ∃ k : Nat, k ≤ l.length ∧ l.length - k ≤ gg ∧ s7 = .int .i64 k ∧ Aside (Only w wr pb ∧ ∃ v, wr.cell? ⟨pb, 0, none⟩ = some v ∧ wr.frozen? ⟨pb, 0, none⟩ = false ∧ wr.ownsRow w.heap.size 5 1 v (2 * k) ((bytes2 (l.take k)).map (Value.int .u8))))
  case atStart => exact ⟨0, Nat.zero_le _, by omega, rfl, Only.refl _ _, _, hpH.out, hpfH.out, World.ownsRow_nil _ _ _ _⟩
  case round =>
    obtain ⟨k, hk, hg, rfl, BW⟩ := hrel
    by_cases hlt : k < l.length
    · obtain ⟨hgr, v, hv, hvf, hown⟩ := BW.out
      have hx : wr.cell? ⟨b, k, none⟩ = some (.int .i64 (l.getD k 0)) := by
        rw [hgr.cell hb hne]; exact hcH.out k hlt
      have hx0 := hrH.out k hlt
      generalize hX : l.getD k 0 = x at hx hx0
      obtain ⟨hx0, hx1⟩ := hx0
      have HX := Lib.hid hX
      have HG := Lib.hid hgr
      have HO := Lib.hid hown
      have hsz := hgr.size
      clear hgr BW hX hown
      go_wp2_with (at_builtin; refine wpList_append_own _ rfl _ _ 50 rfl w.heap.size 5 i0 (.int .u8 0) 1 1 Try.underlying50 hi hz0 hz1 hz2 rfl (by decide) v (2 * k) ((bytes2 (l.take k)).map (Value.int .u8)) rfl (HO.out.alloc _) ⟨wr.heap.size, 0, none⟩ 2 2 [.int .u8 (x / 256), .int .u8 (x % 256)] rfl rfl ?c1 ?c2 ?c3 ?c4 ?c5 ?_)
      case c1 => 
        intro j u hj
        match j, hj with
        | 0, hj => simp at hj; subst hj; simp [go_sem]
        | 1, hj => simp at hj; subst hj; simp [go_sem]
      case c2 => intro u hu; simp at hu; rcases hu with rfl | rfl <;> rfl
      case c3 => unfold maxLen; omega
      case c4 => omega
      case c5 => simp; omega
      intro v' w1 hown1 hgrow1 _
      obtain ⟨g, cap, hv', hgb, hgl⟩ := hown1.form (by omega)
      subst hv'
      have hne1 : some pb ≠ v.ownBlock := fun e => by have := HO.out.lt pb e.symm; omega
      have hb1 : w1.heap[pb]? = wr.heap[pb]? := (hgrow1.block pb (by simp; omega) hne1).trans (Below.heap_alloc _ _ _ (by omega))
      have hv1 : w1.cell? ⟨pb, 0, none⟩ = some v := (World.cell?_of_block hb1).trans hv
      have hvf1 : w1.frozen? ⟨pb, 0, none⟩ = false := (World.frozen?_of_block hb1).trans hvf
      have HN := Lib.hid hown1
      have HG1 := Lib.hid hgrow1
      clear hown1 hgrow1 hne1 hb1
      go_wp2
      go_roundg (l.length - (k + 1))
      case measure => omega
      case rel =>
        refine ⟨k + 1, by omega, by omega, by go_num, (HG.out.alloc _).own HG1.out (fun q e => (HO.out.lt q e).1) |>.setCell (.inl rfl) _, .slice (some ⟨g, 0, none⟩) (2 * k + 2) cap, ?_, ?_, ?_⟩
        · simp [go_sem, hv1]
        · simpa [go_sem] using hvf1
        · rw [bytes2_snoc l k hlt, HX.out, List.map_append]
          exact ownsRow_setCell HN.out (by simp [Value.ownBlock]; omega) _
    · have hk : k = l.length := by omega
      subst hk
      obtain ⟨hgr, v, hv, hvf, hown⟩ := BW.out
      clear BW
      have HG := Lib.hid hgr
      have HO := Lib.hid hown
      clear hgr hown
      go_wp2
      go_end0
      rw [List.take_length] at HO
      exact ⟨rfl, HG.out, v, hv, hvf, HO.out⟩

def tkBytes (t : Tk) : List Int := bytes2 [t.id, t.frm, t.til] ++ [t.kind * 16 + t.zones, t.rides]

def small (t : Tk) : Prop := 0 ≤ t.id ∧ t.id < 65536 ∧ 0 ≤ t.frm ∧ t.frm < 65536 ∧ 0 ≤ t.til ∧ t.til < 65536 ∧ 0 ≤ t.kind ∧ t.kind < 8 ∧ 0 ≤ t.zones ∧ t.zones < 16 ∧ 0 ≤ t.rides ∧ t.rides < 256

set_option maxHeartbeats 400000 in
theorem ticket_Bytes (t : Tk) (w : World) (hs : small t) :
    Calls Try.prog 35 #[.agg (tkc t)] w fun e w' => ∃ v, e = .returned v ∧ Ext w w' ∧ w'.ownsRow w.heap.size 5 1 v 8 ((tkBytes t).map (Value.int .u8)) := by
  obtain ⟨i0, hi, hz0, hz1, hz2⟩ := info_parts info_byte
  obtain ⟨a, b, c, d, e, f⟩ := t
  unfold tkc
  obtain ⟨h1, h1', h2, h2', h3, h3', h4, h4', h5, h5', h6, h6'⟩ := hs
  simp only at h1 h1' h2 h2' h3 h3' h4 h4' h5 h5' h6 h6'
  go_enter Try.func35, Try.ntmps35
  go_wp2_with (fail)
  refine (ticket_Bytes1 [a, c, d] (w.heap.size + 1 + 1) (w.heap.size + 1) 3 _ ?c1 ?c2 ?c3 ?c4 ?c5 ?c6 ?c7 ?c8).mono ?_
  case c1 => simp
  case c2 =>
    intro i hi
    match i, hi with
    | 0, _ => exact ⟨h1, h1'⟩
    | 1, _ => exact ⟨h2, h2'⟩
    | 2, _ => exact ⟨h3, h3'⟩
  case c3 => simp [go_sem]
  case c4 => simp [go_sem]
  case c5 => omega
  case c6 =>
    intro i hi
    match i, hi with
    | 0, _ => simp [go_sem]
    | 1, _ => simp [go_sem]
    | 2, _ => simp [go_sem]
  case c7 => simp [go_sem]
  case c8 => simp [go_sem]
  rintro e1 w1 ⟨rfl, ho, v, hv, hvf, hown⟩
  have hc0 : ∀ o, w1.cell? ⟨w.heap.size, o, none⟩ = #[Value.int IntKind.i64 a, .int .i64 b, .int .i64 c, .int .i64 d, .int .i64 e, .int .i64 f][o]? := fun o => by
    rw [ho.cell (by simp [go_sem]) (by omega)]
    simp [go_sem]
  have hE : Ext w w1 := Ext.only ((((Ext.refl _).alloc _).alloc _).alloc _) ho (by omega)
  have HO := Lib.hid (ownsRow_base (b2 := w.heap.size) hown (by simp; omega))
  have HE := Lib.hid hE
  have hsz := hE.size
  clear ho hown hE
  go_wp2_with (at_builtin; refine wpList_append_own _ rfl _ _ 50 rfl w.heap.size 5 i0 (.int .u8 0) 1 1 Try.underlying50 hi hz0 hz1 hz2 rfl (by decide) v (2 * [a, c, d].length) ((bytes2 [a, c, d]).map (Value.int .u8)) rfl (HO.out.alloc _) ⟨w1.heap.size, 0, none⟩ 2 2 [.int .u8 (b * 16 + e), .int .u8 f] rfl rfl ?c1 ?c2 ?c3 ?c4 ?c5 ?_)
  case c1 =>
    intro j u hj
    match j, hj with
    | 0, hj => simp at hj; subst hj; simp [go_sem]
    | 1, hj => simp at hj; subst hj; simp [go_sem]
  case c2 => intro u hu; simp at hu; rcases hu with rfl | rfl <;> rfl
  case c3 => unfold maxLen; simp
  case c4 => simp
  case c5 => simp; omega
  intro v' w2 hown2 hgrow2 _
  have HN := Lib.hid hown2
  have HG := Lib.hid hgrow2
  clear hown2 hgrow2
  go_wp2
  go_ret
  refine ⟨_, rfl, (HE.out.alloc _).grown HG.out (fun q e => (HO.out.lt q e).1), ?_⟩
  have := HN.out
  simpa [tkBytes] using this

set_option maxHeartbeats 400000 in
theorem ref_TicketBytes (t : Tk) (w : World) (hs : small t) :
    Calls Try.prog 16 #[.agg (tkc t)] w fun e w' => e = .returned (.string (strOfNums (tkBytes t))) ∧ Ext w w' := by
  obtain ⟨a, b, c, d, e, f⟩ := t
  unfold tkc
  obtain ⟨h1, h1', h2, h2', h3, h3', h4, h4', h5, h5', h6, h6'⟩ := hs
  simp only at h1 h1' h2 h2' h3 h3' h4 h4' h5 h5' h6 h6'
  go_enter Try.func16, Try.ntmps16
  go_wp2
  rw [conv_own (base := 0) (n := 8) (xs := [a / 256, a % 256, c / 256, c % 256, d / 256, d % 256, 16 * b + e, f])]
  · go_wp2
    go_ret
    refine ⟨ret_string ?_, ((Ext.refl _).alloc _).alloc _⟩
    simp [tkBytes, bytes2, Int.mul_comm]
  · exact ownsRow_new (by simp [go_sem]) rfl (Nat.zero_le _) (by unfold maxLen; omega) rfl
end Go.Proofs.Ytglifpoiildpfaa
