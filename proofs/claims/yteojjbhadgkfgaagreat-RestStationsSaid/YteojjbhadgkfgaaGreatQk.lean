/- Qk: parts of the proofs, laid together. -/
import Derived.Deep.RegionHeld3
import Derived.Shelf.Slices.SearchI
import Derived.Shelf.Slices.Empties
import Derived.Shelf.Spec.SlicesInsert
import Derived.Shelf.Spec.SlicesInsertGrow
import Derived.BigRegion
import Derived.Test.YteojjbhadgkfgaaGreatQa
/- Lists of denied tickets: the plain side: what is wrong with one, what comes of one more id, which one is newer; laws of these. -/
set_option maxHeartbeats 64000000
namespace Lb

def ckIds : Option Int -> List Int -> Int
 | _,[]=>0
 | prev,x :: l=>if within x 1 9999 = false then 3 else if ZC prev x = true then 4 else ckIds (some x) l
theorem ckIds_cons (prev : Option Int) (x : Int) (l : List Int) : ckIds prev (x :: l) = if within x 1 9999 = false then 3 else if ZC prev x = true then 4 else ckIds (some x) l:=rfl
def prevAt (l : List Int) (k : Nat) : Option Int:=if k = 0 then none else l[k - 1]?
theorem prevAt_succ (l : List Int) (k : Nat) (h : k < l.length) : prevAt l (k + 1) = some l[k]:=by simp [prevAt,h]
def Z9 (d : Dn) : Int :=
 if within d.Jk 0 999 = false then 3 else if 12 < d.ids.length then 2 else if ckIds none d.ids ≠ 0 then ckIds none d.ids else if d.Jk < d.ids.length then 4 else 0
def insI (n : Int) : List Int -> List Int
 | []=>[n]
 | x :: l=>if x < n then x :: insI n l else n :: x :: l
def Za (d : Dn) (id : Int) : Dn × Int :=
 if within id 1 9999 = false then (dn0,3)
 else if d.ids.contains id = true then (dn0,6)
 else if d.ids.length = 12 \/ d.Jk = 999 then (dn0,2)
 else (⟨d.Jk + 1,insI id d.ids⟩,0)
def pickD (a b : Dn) : Dn:=if a.Jk < b.Jk then b else a
theorem ckIds_ok (l : List Int) : ∀ prev,ckIds prev l = 0 ↔ (∀ x ∈ l,within x 1 9999 = true) /\ (∀ b,prev = some b -> ∀ x ∈ l,b < x) /\ l.Pairwise (· < ·):=by
 induction l with
 | nil=>intro prev;simp [ckIds]
 | cons x l ih =>
  intro prev;rw [ckIds_cons]
  cases hw : within x 1 9999 with
  | false=>simp [hw]
  | true =>
   simp only [Bool.true_eq_false,if_false]
   cases hn : ZC prev x with
   | true =>
    simp only [if_true]
    constructor
    ·intro h;simp at h
    ·rintro ⟨-,h,-⟩
     cases prev with
     | none=>simp [ZC] at hn
     | some b =>
      have:=h b rfl x (by simp)
      simp [ZC] at hn
      omega
   | false =>
    simp only [Bool.false_eq_true,if_false];rw [ih];simp only [List.mem_cons,forall_eq_or_imp,List.pairwise_cons,Option.some.injEq,forall_eq']
    constructor
    ·rintro ⟨h1,h2,h3⟩
     refine ⟨⟨hw,h1⟩,?_,h2,h3⟩;intro b hb;subst hb
     simp [ZC] at hn
     exact ⟨hn,fun y hy=>Int.lt_trans hn (h2 y hy)⟩
    ·rintro ⟨⟨-,h1⟩,-,h2,h3⟩
     exact ⟨h1,h2,h3⟩
theorem XM (d : Dn) : Z9 d = 0 ↔ within d.Jk 0 999 = true /\ d.ids.length <= 12 /\ (∀ x ∈ d.ids,within x 1 9999 = true) /\ d.ids.Pairwise (· < ·) /\ d.ids.length <= d.Jk:=by
 unfold Z9
 cases hw : within d.Jk 0 999 with
 | false=>simp
 | true =>
  simp only [Bool.true_eq_false,if_false]
  by_cases h12 : 12 < d.ids.length
  ·rw [if_pos h12]
   constructor
   ·intro h;simp at h
   ·rintro ⟨-,h,-⟩;omega
  ·rw [if_neg h12]
   by_cases hi : ckIds none d.ids = 0
   ·rw [if_neg (by simpa using hi)]
    have h2:=(ckIds_ok d.ids none).1 hi
    by_cases hv : d.Jk < d.ids.length
    ·rw [if_pos hv]
     constructor
     ·intro h;simp at h
     ·rintro ⟨-,-,-,-,h⟩;omega
    ·rw [if_neg hv]
     simp only [true_iff,true_and];exact ⟨by omega,h2.1,h2.2.2,by omega⟩
   ·rw [if_pos hi]
    constructor
    ·intro h;exact absurd h hi
    ·rintro ⟨-,-,h1,h2,-⟩
     exact absurd ((ckIds_ok d.ids none).2 ⟨h1,by simp,h2⟩) hi
theorem mem_insI (n x : Int) (l : List Int) : x ∈ insI n l ↔ x = n \/ x ∈ l:=by
 induction l with
 | nil=>simp [insI]
 | cons y l ih =>
  unfold insI
  split
  ·simp only [List.mem_cons,ih]
   constructor
   ·rintro (h | h | h) <;> simp [h]
   ·rintro (h | h | h) <;> simp [h]
  ·simp
theorem insI_len (n : Int) (l : List Int) : (insI n l).length = l.length + 1:=by
 induction l with
 | nil=>simp [insI]
 | cons y l ih=>unfold insI;split <;> simp [ih]
theorem insI_sorted (n : Int) (l : List Int) (h : l.Pairwise (· < ·)) (hn : n ∉ l) : (insI n l).Pairwise (· < ·):=by
 induction l with
 | nil=>simp [insI]
 | cons y l ih =>
  rw [List.pairwise_cons] at h;simp only [List.mem_cons,not_or] at hn;unfold insI
  split
  ·rename_i hy
   rw [List.pairwise_cons];refine ⟨fun x hx=>?_,ih h.2 hn.2⟩
   rcases (mem_insI _ _ _).1 hx with rfl | hx
   ·exact hy
   ·exact h.1 x hx
  ·rename_i hy
   have hlt : n < y:=by omega
   rw [List.pairwise_cons,List.pairwise_cons];refine ⟨fun x hx=>?_,h⟩
   rcases List.mem_cons.1 hx with rfl | hx
   ·exact hlt
   ·exact Int.lt_trans hlt (h.1 x hx)
theorem insI_at (n : Int) (l : List Int) (k : Nat) (h1 : ∀ x ∈ l.take k,x < n) (h2 : ∀ x ∈ l.drop k,¬ x < n) : insI n l = l.take k ++ n :: l.drop k:=by
 induction l generalizing k with
 | nil=>simp [insI]
 | cons y l ih =>
  cases k with
  | zero =>
   have:=h2 y (by simp)
   simp [insI,this]
  | succ k =>
   have:=h1 y (by simp);simp only [insI,this,if_true,List.take_succ_cons,List.drop_succ_cons,List.cons_append];rw [ih k (fun x hx=>h1 x (by simp [hx])) (fun x hx=>h2 x (by simpa using hx))]
theorem countP_split (n : Int) (l : List Int) (h : l.Pairwise (· < ·)) : (∀ x ∈ l.take (l.countP (· < n)),x < n) /\ (∀ x ∈ l.drop (l.countP (· < n)),¬ x < n):=by
 induction l with
 | nil=>simp
 | cons y l ih =>
  rw [List.pairwise_cons] at h
  by_cases hy : y < n
  ·rw [List.countP_cons_of_pos (by simpa using hy)]
   obtain ⟨a,b⟩:=ih h.2;refine ⟨fun x hx=>?_,fun x hx=>b x (by simpa using hx)⟩;rw [List.take_succ_cons,List.mem_cons] at hx
   rcases hx with rfl | hx
   ·exact hy
   ·exact a x hx
  ·have h0 : l.countP (· < n) = 0:=by
    rw [List.countP_eq_zero];intro x hx;have:=h.1 x hx
    simp
    omega
   rw [List.countP_cons_of_neg (by simpa using hy),h0];refine ⟨by simp,fun x hx=>?_⟩;rw [List.drop_zero,List.mem_cons] at hx
   rcases hx with rfl | hx
   ·exact hy
   ·have:=h.1 x hx
    omega
theorem insI_countP (n : Int) (l : List Int) (h : l.Pairwise (· < ·)) : insI n l = l.take (l.countP (· < n)) ++ n :: l.drop (l.countP (· < n)) :=
 insI_at n l _ (countP_split n l h).1 (countP_split n l h).2

theorem denyD_ok {d : Dn} {id : Int} (h : (Za d id).2 = 0) : within id 1 9999 = true /\ id ∉ d.ids /\ d.ids.length ≠ 12 /\ d.Jk ≠ 999 /\ Za d id = (⟨d.Jk + 1,insI id d.ids⟩,0):=by
 unfold Za at h ⊢
 cases hw : within id 1 9999 with
 | false=>simp [hw] at h
 | true =>
  simp only [hw,Bool.true_eq_false,if_false] at h ⊢
  by_cases hc : d.ids.contains id = true
  ·rw [if_pos hc] at h;simp at h
  ·rw [if_neg hc] at h ⊢
   by_cases hm : d.ids.length = 12 \/ d.Jk = 999
   ·rw [if_pos hm] at h;simp at h
   ·rw [if_neg hm]
    have : id ∉ d.ids:=by simpa using hc
    exact ⟨trivial,this,by omega,by omega,rfl⟩
theorem denyD_eq {d : Dn} {id : Int} (h : within id 1 9999 = true) : Za d id = if d.ids.contains id = true then (dn0,6) else if d.ids.length = 12 \/ d.Jk = 999 then (dn0,2) else (⟨d.Jk + 1,insI id d.ids⟩,0):=by
 unfold Za;rw [if_neg (by rw [h];decide)]
theorem denyD_err {d : Dn} {id : Int} (h : (Za d id).2 ≠ 0) : (Za d id).1 = dn0:=by
 unfold Za at h ⊢
 split
 ·rfl
 ·split
  ·rfl
  ·split
   ·rfl
   ·rename_i h1 h2 h3
    rw [if_neg h1,if_neg h2,if_neg h3] at h
    simp at h
theorem denyD_right {d : Dn} {id : Int} (hd : Z9 d = 0) (h : (Za d id).2 = 0) : Z9 (Za d id).1 = 0:=by
 obtain ⟨h1,h2,h3,h4,h5⟩:=denyD_ok h;obtain ⟨g1,g2,g3,g4,g5⟩:=(XM d).1 hd;rw [h5];refine (XM _).2 ⟨?_,?_,?_,insI_sorted _ _ g4 h2,?_⟩
 ·simp [within] at g1 ⊢;omega
 ·simp only [insI_len];omega
 ·intro x hx
  rcases (mem_insI _ _ _).1 hx with rfl | hx
  ·exact h1
  ·exact g3 x hx
 ·simp only [insI_len];omega
end Lb

namespace Go.Proofs.YteojjbhadgkfgaaGreat
set_option linter.unusedSimpArgs false
set_option linter.unusedVariables false
set_option maxRecDepth 100000
open Go Go.RowKit Lb

theorem denied_within (n a b : Int) (w : World) :
  Calls Tryz.prog 87 #[.int .i64 n,.int .i64 a,.int .i64 b] w fun e w'=>e = .returned (.bool (within n a b)) /\ w = w':=by
 go_enter Tryz.func87,Tryz.ntmps87
 go_wp2
 all_goals
  go_ret;exact ⟨Jq (by simp [within, *] <;> omega),rfl⟩

theorem RdL.int_at {w : World} {v : Value} {l : List Int} (h : RdL 1 inc w v l) {A : Option Addr} {n c : Nat} (hv : v = .slice A n c) {j : Nat} (hj : j < l.length) : ∃ b o,A = some ⟨b,o,none⟩ /\ b < w.heap.size /\ w.cell? ⟨b,o + j,none⟩ = some (.int .i64 l[j]):=by
 subst hv;obtain ⟨b,o,c',hv,hb,hc⟩:=h.at_ hj
 injection hv with hA
 have:=hc 0 (.int .i64 l[j]) (by simp [inc]);rw [Nat.mul_one,Nat.add_zero] at this;exact ⟨b,o,hA,hb,this⟩

theorem denied_Check (d : Dn) (s : Value) (w : World) (hr : RdL 1 inc w s d.ids) :
  Calls Tryz.prog 70 #[.agg #[.int .i64 d.Jk,s]] w fun e w'=>e = .returned (.int .i64 (Z9 d)) /\ Ext w w':=by
 obtain ⟨ver,l⟩:=d;simp only at hr ⊢;obtain ⟨A,c,rfl,hmc,hmm⟩:=hr.form
 have hm : l.length <= 9223372036854775807:=by unfold maxLen at hmm;omega
 unfold Z9
 simp only
 have HRd:=hH hr;have hW1:=fun w=>denied_within ver 0 999 w;clear hr hmm hmc
 cases hv : within ver 0 999 with
 | false =>
  rw [hv] at hW1;have HW:=hH hW1;clear hW1 HRd hv;go_enter Tryz.func70,Tryz.ntmps70
  go_wp2_with (go_at_call 87;refine gB (HW.out _) ?_)
  go_ret;refine ⟨Jo (by simp),?_⟩;exact Je
 | true =>
  rw [hv] at hW1;have HW:=hH hW1;clear hW1 hv
  by_cases h12 : 12 < l.length
  ·have h12' : (12 : Int) < (l.length : Int):=by omega
   rw [if_neg (by simp),if_pos h12];clear HRd h12;go_enter Tryz.func70,Tryz.ntmps70
   go_wp2_with (go_at_call 87;refine gB (HW.out _) ?_)
   go_ret;refine ⟨Jo (by simp),?_⟩;exact Je
  ·have h12' : ¬ (12 : Int) < (l.length : Int):=by omega
   rw [if_neg (by simp),if_neg h12];generalize hR : ckIds none l = r;have HR:=hH hR;generalize hS : (if r ≠ 0 then r else if ver < l.length then (4 : Int) else 0) = res;have HS:=hH hS;clear hS;have HV:=hH h12;clear hR h12;go_enter Tryz.func70,Tryz.ntmps70
   go_wp2_with (go_at_call 87;refine gB (HW.out _) ?_)
   go_loopg [2,3,4,18] l.length (fun gg _ _ _ s18 wr=>∃ k : Nat,k <= l.length /\ l.length - k <= gg /\ s18 = .int .i64 k /\ Aside (Ext w wr /\ Row wr w.heap.size #[.int .i64 ver,.slice A l.length c]) /\ Aside (ckIds (prevAt l k) (l.drop k) = r))
   case atStart=>exact ⟨0,by omega,by omega,rfl,⟨(Ext.refl _).alloc _,Row.new⟩,HR.out⟩
   case round =>
    obtain ⟨k,hk,hg,rfl,HE,HA⟩:=hrel
    by_cases hlt : k < l.length
    ·have hlt' : (k : Int) < (l.length : Int):=by omega
     obtain ⟨b,o,rfl,hb,hcell⟩:=(HRd.out.ext HE.out.1).int_at rfl hlt
     have hprev : 0 < k -> wr.cell? ⟨b,o + (k - 1),none⟩ = some (.int .i64 (l[k - 1]!)):=by
      intro h0;obtain ⟨b',o',hA,_,hc'⟩:=(HRd.out.ext HE.out.1).int_at rfl (show k - 1 < l.length by omega)
      injection hA with hA
      injection hA with h1 h2
      subst h1 h2;rw [hc',getElem!_pos l (k - 1) (by omega)]
     have hA:=HA.out;rw [List.drop_eq_getElem_cons hlt,ckIds_cons] at hA
     have hp : prevAt l k = if k = 0 then none else some l[k - 1]!:=by
      unfold prevAt
      split
      ·rfl
      ·rw [getElem!_pos l (k - 1) (by omega),List.getElem?_eq_getElem]
     have hn:=prevAt_succ l k hlt;rw [<- hn] at hA;have hW2:=fun w=>denied_within l[k] 1 9999 w;generalize l[k] = x at *;generalize l[k - 1]! = y at *;obtain ⟨HE1,HRow⟩:=HE;have hq:=HRow.2.1;have hfz:=HRow.2.2;have hlt2:=HRow.1;have HE2:=hH HE1;have HR2:=hH HRow;clear HE1 HRow HA hn
     cases hwx : within x 1 9999 with
     | false =>
      rw [hwx] at hW2;rw [if_pos hwx] at hA;have HW2:=hH hW2;have hres:=HS.out;rw [<- hA,if_pos (by decide)] at hres;have HA2:=hH hres;clear hW2 hA hwx hp hprev hres
      go_wp2_with (go_at_call 87;refine gB (HW2.out _) ?_)
      go_ret;exact ⟨Jo HA2.out,HE2.out⟩
     | true =>
      rw [hwx] at hW2;rw [if_neg (by rw [hwx];decide),hp] at hA;have HW2:=hH hW2;clear hW2 hwx hp
      by_cases hk0 : k = 0
      ·subst hk0
       rw [if_pos rfl] at hA;simp only [ZC,Bool.false_eq_true,if_false] at hA;have HA2:=hH hA;rw [Nat.add_zero] at hcell;clear hA hprev
       go_wp2_with (go_at_call 87;refine gB (HW2.out _) ?_)
       go_roundg (l.length - (0 + 1))
       case measure=>omega
       case rel=>exact ⟨0 + 1,by omega,by omega,by go_num,⟨HE2.out,HR2.out⟩,HA2.out⟩
      ·have hkp : (0 : Int) < (k : Int):=by omega
       have hw1 : IntKind.i64.wrap ((k : Int) - 1) = ((k - 1 : Nat) : Int):=by
        rw [IntWalk.i64_in _ (by omega)];omega
       have hk1 : ((k - 1 : Nat) : Int) < (l.length : Int):=by omega
       have hk2 : k - 1 < l.length:=by omega
       have hcp:=hprev (by omega);rw [if_neg hk0] at hA;simp only [ZC] at hA;clear hprev
       by_cases hy : x <= y
       ·replace hA : (4 : Int) = r:=by simpa [hy] using hA
        have hres:=HS.out;rw [<- hA,if_pos (by decide)] at hres;have HA2:=hH hres;clear hA hres
        go_wp2_with (go_at_call 87;refine gB (HW2.out _) ?_)
        go_ret;exact ⟨Jo HA2.out,HE2.out⟩
       ·replace hA : ckIds (prevAt l (k + 1)) (l.drop (k + 1)) = r:=by simpa [hy] using hA
        have HA2:=hH hA;clear hA
        go_wp2_with (go_at_call 87;refine gB (HW2.out _) ?_)
        go_roundg (l.length - (k + 1))
        case measure=>omega
        case rel=>exact ⟨k + 1,by omega,by omega,by go_num,⟨HE2.out,HR2.out⟩,HA2.out⟩
    ·have hkl : k = l.length:=by omega
     have hge : ¬ (k : Int) < (l.length : Int):=by omega
     have hA:=HA.out;subst hkl;rw [List.drop_length] at hA;simp only [ckIds] at hA;obtain ⟨HE1,HRow⟩:=HE;have hq:=HRow.2.1;have hfz:=HRow.2.2;have hlt2:=HRow.1;have HE2:=hH HE1;have HR2:=hH HRow;have hres:=HS.out;rw [<- hA,if_neg (by decide)] at hres;clear HE1 HRow HA hA HS
     by_cases hvl : ver < l.length
     ·rw [if_pos hvl] at hres
      have HA2:=hH hres;clear hres;go_wp2_with fail;go_ret;exact ⟨Jo HA2.out,HE2.out⟩
     ·rw [if_neg hvl] at hres
      have HA2:=hH hres;clear hres;go_wp2_with fail;go_ret;exact ⟨Jo HA2.out,HE2.out⟩
theorem ref_CheckDenied (d : Dn) (s : Value) (w : World) (hr : RdL 1 inc w s d.ids) :
  Calls Tryz.prog 54 #[.agg #[.int .i64 d.Jk,s]] w fun e w'=>e = .returned (.int .i64 (Z9 d)) /\ Ext w w':=by
 obtain ⟨ver,l⟩:=d;simp only at hr ⊢;obtain ⟨A,c,rfl,hmc,hmm⟩:=hr.form
 have hm : l.length <= 9223372036854775807:=by unfold maxLen at hmm;omega
 unfold Z9
 simp only
 have HRd:=hH hr;have hW1:=fun w=>JA ver 0 999 w;clear hr hmm hmc
 cases hv : within ver 0 999 with
 | false =>
  rw [hv] at hW1;have HW:=hH hW1;clear hW1 HRd hv;go_enter Tryz.func54,Tryz.ntmps54
  go_wp2_with (go_at_call 60;refine gB (HW.out _) ?_)
  go_ret;refine ⟨Jo (by simp),?_⟩;exact Je
 | true =>
  rw [hv] at hW1;have HW:=hH hW1;clear hW1 hv
  by_cases h12 : 12 < l.length
  ·have h12' : (12 : Int) < (l.length : Int):=by omega
   rw [if_neg (by simp),if_pos h12];clear HRd h12;go_enter Tryz.func54,Tryz.ntmps54
   go_wp2_with (go_at_call 60;refine gB (HW.out _) ?_)
   go_ret;refine ⟨Jo (by simp),?_⟩;exact Je
  ·have h12' : ¬ (12 : Int) < (l.length : Int):=by omega
   rw [if_neg (by simp),if_neg h12];generalize hR : ckIds none l = r;have HR:=hH hR;generalize hS : (if r ≠ 0 then r else if ver < l.length then (4 : Int) else 0) = res;have HS:=hH hS;clear hS;have HV:=hH h12;clear hR h12;go_enter Tryz.func54,Tryz.ntmps54
   go_wp2_with (go_at_call 60;refine gB (HW.out _) ?_)
   go_loopg [2,3] l.length (fun gg _ s18 wr=>∃ k : Nat,k <= l.length /\ l.length - k <= gg /\ s18 = .int .i64 k /\ Aside (Ext w wr /\ Row wr w.heap.size #[.int .i64 ver,.slice A l.length c]) /\ Aside (ckIds (prevAt l k) (l.drop k) = r))
   case atStart=>exact ⟨0,by omega,by omega,rfl,⟨(Ext.refl _).alloc _,Row.new⟩,HR.out⟩
   case round =>
    obtain ⟨k,hk,hg,rfl,HE,HA⟩:=hrel
    by_cases hlt : k < l.length
    ·have hlt' : (k : Int) < (l.length : Int):=by omega
     obtain ⟨b,o,rfl,hb,hcell⟩:=(HRd.out.ext HE.out.1).int_at rfl hlt
     have hprev : 0 < k -> wr.cell? ⟨b,o + (k - 1),none⟩ = some (.int .i64 (l[k - 1]!)):=by
      intro h0;obtain ⟨b',o',hA,_,hc'⟩:=(HRd.out.ext HE.out.1).int_at rfl (show k - 1 < l.length by omega)
      injection hA with hA
      injection hA with h1 h2
      subst h1 h2;rw [hc',getElem!_pos l (k - 1) (by omega)]
     have hA:=HA.out;rw [List.drop_eq_getElem_cons hlt,ckIds_cons] at hA
     have hp : prevAt l k = if k = 0 then none else some l[k - 1]!:=by
      unfold prevAt
      split
      ·rfl
      ·rw [getElem!_pos l (k - 1) (by omega),List.getElem?_eq_getElem]
     have hn:=prevAt_succ l k hlt;rw [<- hn] at hA;have hW2:=fun w=>JA l[k] 1 9999 w;generalize l[k] = x at *;generalize l[k - 1]! = y at *;obtain ⟨HE1,HRow⟩:=HE;have hq:=HRow.2.1;have hfz:=HRow.2.2;have hlt2:=HRow.1;have HE2:=hH HE1;have HR2:=hH HRow;clear HE1 HRow HA hn
     cases hwx : within x 1 9999 with
     | false =>
      rw [hwx] at hW2;rw [if_pos hwx] at hA;have HW2:=hH hW2;have hres:=HS.out;rw [<- hA,if_pos (by decide)] at hres;have HA2:=hH hres;clear hW2 hA hwx hp hprev hres
      go_wp2_with (go_at_call 60;refine gB (HW2.out _) ?_)
      go_ret;exact ⟨Jo HA2.out,HE2.out⟩
     | true =>
      rw [hwx] at hW2;rw [if_neg (by rw [hwx];decide),hp] at hA;have HW2:=hH hW2;clear hW2 hwx hp
      by_cases hk0 : k = 0
      ·subst hk0
       rw [if_pos rfl] at hA;simp only [ZC,Bool.false_eq_true,if_false] at hA;have HA2:=hH hA;rw [Nat.add_zero] at hcell;clear hA hprev
       go_wp2_with (go_at_call 60;refine gB (HW2.out _) ?_)
       go_quiet (fail);go_wp2_with fail;go_roundg (l.length - (0 + 1))
       case measure=>omega
       case rel=>exact ⟨0 + 1,by omega,by omega,by go_num,⟨HE2.out.drewN _,HR2.out.drewN⟩,HA2.out⟩
      ·have hkp : (0 : Int) < (k : Int):=by omega
       have hkn : 0 < k:=by omega
       have hkd : decide (0 < k) = true:=by simpa using hkn
       have hw1 : IntKind.i64.wrap ((k : Int) - 1) = ((k - 1 : Nat) : Int):=by
        rw [IntWalk.i64_in _ (by omega)];omega
       have hk1 : ((k - 1 : Nat) : Int) < (l.length : Int):=by omega
       have hk2 : k - 1 < l.length:=by omega
       have hcp:=hprev (by omega);rw [if_neg hk0] at hA;simp only [ZC] at hA;clear hprev
       by_cases hy : x <= y
       ·have hyd : decide (x <= y) = true:=by simpa using hy
        replace hA : (4 : Int) = r:=by simpa [hy] using hA
        have hres:=HS.out;rw [<- hA,if_pos (by decide)] at hres;have HA2:=hH hres;clear hA hres
        go_wp2_with (go_at_call 60;refine gB (HW2.out _) ?_)
        go_quiet (fail);go_wp2_with fail;go_ret;exact ⟨Jo HA2.out,HE2.out.drewN _⟩
       ·have hyd : decide (x <= y) = false:=by simpa using hy
        replace hA : ckIds (prevAt l (k + 1)) (l.drop (k + 1)) = r:=by simpa [hy] using hA
        have HA2:=hH hA;clear hA
        go_wp2_with (go_at_call 60;refine gB (HW2.out _) ?_)
        go_quiet (fail);go_wp2_with fail;go_roundg (l.length - (k + 1))
        case measure=>omega
        case rel=>exact ⟨k + 1,by omega,by omega,by go_num,⟨HE2.out.drewN _,HR2.out.drewN⟩,HA2.out⟩
    ·have hkl : k = l.length:=by omega
     have hge : ¬ (k : Int) < (l.length : Int):=by omega
     have hA:=HA.out;subst hkl;rw [List.drop_length] at hA;simp only [ckIds] at hA;obtain ⟨HE1,HRow⟩:=HE;have hq:=HRow.2.1;have hfz:=HRow.2.2;have hlt2:=HRow.1;have HE2:=hH HE1;have HR2:=hH HRow;have hres:=HS.out;rw [<- hA,if_neg (by decide)] at hres;clear HE1 HRow HA hA HS
     by_cases hvl : ver < l.length
     ·rw [if_pos hvl] at hres
      have HA2:=hH hres;clear hres;go_wp2_with fail;go_ret;exact ⟨Jo HA2.out,HE2.out⟩
     ·rw [if_neg hvl] at hres
      have HA2:=hH hres;clear hres;go_wp2_with fail;go_ret;exact ⟨Jo HA2.out,HE2.out⟩

theorem denied_Own (d : Dn) (s : Value) (w : World) (hr : RdL 1 inc w s d.ids) (hb : d.ids.length * 8 <= 140737488355328) :
  Calls Tryz.prog 144 #[.agg #[.int .i64 d.Jk,s]] w fun e w'=>∃ s',e = .returned (.agg #[.int .i64 d.Jk,s']) /\ Ext w w' /\ Jh 3 1 inc w.heap.size w' s' d.ids:=by
 obtain ⟨ver,l⟩:=d;simp only at hr hb ⊢;have HC:=hH (fun w' (h : Ext w w')=>Clone_it l s w' (hr.ext h) hb)
 have hsf : ∃ A c,s = .slice A l.length c:=by obtain ⟨A,c,h,-,-⟩:=hr.form;exact ⟨A,c,h⟩
 clear hr hb;obtain ⟨A,c,rfl⟩:=hsf;go_enter Tryz.func144,Tryz.ntmps144;go_wp2_with fail
 go_region_with (go_at_call 173;refine (HC.out _ Je).mono ?_;rintro e w1 ⟨v',rfl,h1,ho⟩;obtain ⟨A',c',rfl⟩:=ho.form;have hz1:=h1.size;have H1:=hH h1;have HO:=hH ho;clear h1 ho;(try simp only [lSz] at hz1);(refine Ji w1 w.heap.size fun q1_0 f1_0 l1_0 R1_0=>?_;refine Ji w1 (w.heap.size + 1) fun q1_1 f1_1 l1_1 R1_1=>?_))
 all_goals
  have ho:=HO.out;simp only [World.size_alloc,size_set,World.heap_drewN,size_drew] at ho;go_wp2_with fail;refine bodyPost_ret (v:=.agg #[.int .i64 ver,.slice A' l.length c']) (by simp [results,Tryz.results144,go_sem, *]) rfl ⟨_,rfl,?_,?_⟩
  ·exact Je
  ·exact ownA (w.heap.size + 1 + 1)

theorem ref_HasInt (l : List Int) (n : Int) (v : Value) (w : World) (hr : RdL 1 inc w v l) :
  Calls Tryz.prog 32 #[v,.int .i64 n] w fun e w'=>e = .returned (.bool (l.contains n)) /\ w = w':=by
 obtain ⟨A,c,rfl,hmc,hmm⟩:=hr.form
 have hm : l.length <= 9223372036854775807:=by unfold maxLen at hmm;omega
 have HRd:=hH hr;generalize hR : l.contains n = r;have HR:=hH hR;clear hr hmm hmc hR;go_enter Tryz.func32,Tryz.ntmps32;go_wp2_with fail
 go_loopg [4,5] l.length (fun gg _ s5 wr=>∃ k : Nat,k <= l.length /\ l.length - k <= gg /\ s5 = .int .i64 k /\ wr = w /\ Aside ((l.drop k).contains n = r))
 case atStart=>exact ⟨0,by omega,by omega,rfl,rfl,HR.out⟩
 case round =>
  obtain ⟨k,hk,hg,rfl,rfl,HA⟩:=hrel
  by_cases hlt : k < l.length
  ·have hlt' : (k : Int) < (l.length : Int):=by omega
   obtain ⟨b,o,rfl,hb,hcell⟩:=HRd.out.int_at rfl hlt;have hA:=HA.out;rw [List.drop_eq_getElem_cons hlt,List.contains_cons] at hA;generalize l[k] = x at *
   by_cases hx : x = n
   ·have hxb : (x == n) = true:=by simpa using hx
    have hA2 : r = true:=by rw [<- hA];simp [hx]
    have HA2:=hH hA2;clear hA hA2 HA hx;go_wp2_with fail;go_ret;exact ⟨Jq (by rw [HA2.out]),rfl⟩
   ·have hxb : (x == n) = false:=by simpa using hx
    have hA2 : (l.drop (k + 1)).contains n = r:=by rw [<- hA];simp [Ne.symm hx]
    have HA2:=hH hA2;clear hA hA2 HA hx;go_wp2_with fail;go_roundg (l.length - (k + 1))
    case measure=>omega
    case rel=>exact ⟨k + 1,by omega,by omega,by go_num,rfl,HA2.out⟩
  ·have hkl : k = l.length:=by omega
   have hge : ¬ (k : Int) < (l.length : Int):=by omega
   have hA:=HA.out;rw [hkl,List.drop_length] at hA;have HA2:=hH hA;clear hA HA hkl;go_wp2_with fail;go_ret;exact ⟨Jq (by rw [<- HA2.out];rfl),rfl⟩

theorem ref_SameInts (l m : List Int) (v u : Value) (w : World) (hr : RdL 1 inc w v l) (hs : RdL 1 inc w u m) :
  Calls Tryz.prog 77 #[v,u] w fun e w'=>e = .returned (.bool (l == m)) /\ Ext w w':=by
 obtain ⟨A,c,rfl,hmc,hmm⟩:=hr.form;obtain ⟨A2,c2,rfl,-,-⟩:=hs.form
 have hm : l.length <= 9223372036854775807:=by unfold maxLen at hmm;omega
 have HRd:=hH hr;have HSd:=hH hs;clear hr hmm hmc hs
 by_cases hl : l.length = m.length
 ·rw [<- hl] at HSd ⊢
  have HL:=hH hl;generalize hR : (l == m) = r;have HR:=hH hR;clear hR hl;go_enter Tryz.func77,Tryz.ntmps77;go_wp2_with fail
  go_loopg [4,5] l.length (fun gg _ s5 wr=>∃ k : Nat,k <= l.length /\ l.length - k <= gg /\ s5 = .int .i64 k /\ Aside (Ext w wr) /\ Aside ((l.drop k == m.drop k) = r))
  case atStart=>exact ⟨0,by omega,by omega,rfl,Ext.refl _,HR.out⟩
  case round =>
   obtain ⟨k,hk,hg,rfl,HE,HA⟩:=hrel
   by_cases hlt : k < l.length
   ·have hlt' : (k : Int) < (l.length : Int):=by omega
    have hltm : k < m.length:=by have:=HL.out;omega
    obtain ⟨b,o,rfl,hb,hcell⟩:=(HRd.out.ext HE.out).int_at rfl hlt;obtain ⟨b2,o2,rfl,hb2,hcell2⟩:=(HSd.out.ext HE.out).int_at rfl hltm;have hA:=HA.out;rw [List.drop_eq_getElem_cons hlt,List.drop_eq_getElem_cons hltm,List.cons_beq_cons] at hA;generalize l[k] = x at *;generalize m[k] = y at *
    by_cases hx : x = y
    ·have hxb : (x != y) = false:=by simpa using hx
     have hA2 : (l.drop (k + 1) == m.drop (k + 1)) = r:=by rw [<- hA];simp [hx]
     have HA2:=hH hA2;clear hA hA2 HA hx;go_wp2_with fail;go_quiet (fail);go_wp2_with fail;go_roundg (l.length - (k + 1))
     case measure=>omega
     case rel=>exact ⟨k + 1,by omega,by omega,by go_num,HE.out.drewN _,HA2.out⟩
    ·have hxb : (x != y) = true:=by simpa using hx
     have hA2 : r = false:=by rw [<- hA];simp [hx]
     have HA2:=hH hA2;clear hA hA2 HA hx;go_wp2_with fail;go_quiet (fail);go_wp2_with fail;go_ret;exact ⟨Jq (by rw [HA2.out]),HE.out.drewN _⟩
   ·have hkl : k = l.length:=by omega
    have hge : ¬ (k : Int) < (l.length : Int):=by omega
    have hA:=HA.out;rw [hkl,List.drop_length,HL.out,List.drop_length] at hA;have HA2:=hH hA;clear hA HA hkl;go_wp2_with fail;go_ret;exact ⟨Jq (by rw [<- HA2.out];rfl),HE.out⟩
 ·have hl1 : ((l.length : Int) != (m.length : Int)) = true:=by
   have : (l.length : Int) ≠ (m.length : Int):=by omega
   simpa using this
  have hl2 : (l == m) = false:=by
   rw [beq_eq_false_iff_ne];rintro rfl;exact hl rfl
  rw [hl2];clear hl HRd HSd;go_enter Tryz.func77,Tryz.ntmps77;go_wp2_with fail;go_ret;exact ⟨Jq rfl,Ext.refl _⟩
end Go.Proofs.YteojjbhadgkfgaaGreat

namespace Go.Proofs.YteojjbhadgkfgaaGreat
set_option linter.unusedSimpArgs false
set_option linter.unusedVariables false
set_option maxRecDepth 100000
open Go Go.RowKit Go.Shelf Lb

def inRen : Go.Shelf.Ren:=⟨fun | 21=>194 | 27=>207 | 28=>208 | 35=>212 | 39=>214 | 25=>193 | 31=>205 | 32=>206 | 37=>211 | n=>n,fun | 0=>0 | 3=>3 | 4=>4 | 22=>24 | 40=>182 | n=>n,fun | n=>n⟩
theorem inLays : Go.Proofs.Lays2.n21 Tryz.prog inRen:={
 mixed:=by kernel_rfl
 f21:=Tryz.func194.trans (congrArg some (by kernel_rfl))
 f27:=Tryz.func207.trans (congrArg some (by kernel_rfl))
 f28:=Tryz.func208.trans (congrArg some (by kernel_rfl))
 f35:=Tryz.func212.trans (congrArg some (by kernel_rfl))
 f39:=Tryz.func214.trans (congrArg some (by kernel_rfl))
 t0:=Tryz.underlying0
 a0:=Tryz.isAgg0
 z0:=Tryz.sizeOf0
 v0:=Tryz.zeroValue0
 t3:=Tryz.underlying3
 a3:=Tryz.isAgg3
 z3:=Tryz.sizeOf3
 v3:=Tryz.zeroValue3
 t4:=Tryz.underlying4
 a4:=Tryz.isAgg4
 z4:=Tryz.sizeOf4
 v4:=Tryz.zeroValue4
 t22:=Tryz.underlying24
 a22:=Tryz.isAgg24
 z22:=Tryz.sizeOf24
 v22:=Tryz.zeroValue24
 i3:=info_it }
theorem bsLays : Go.Proofs.Lays2.n25 Tryz.prog inRen:={
 mixed:=by kernel_rfl
 f25:=Tryz.func193.trans (congrArg some (by kernel_rfl))
 f31:=Tryz.func205.trans (congrArg some (by kernel_rfl))
 f32:=Tryz.func206.trans (congrArg some (by kernel_rfl))
 f37:=Tryz.func211.trans (congrArg some (by kernel_rfl))
 t0:=Tryz.underlying0
 a0:=Tryz.isAgg0
 z0:=Tryz.sizeOf0
 v0:=Tryz.zeroValue0
 t3:=Tryz.underlying3
 a3:=Tryz.isAgg3
 z3:=Tryz.sizeOf3
 v3:=Tryz.zeroValue3
 t4:=Tryz.underlying4
 a4:=Tryz.isAgg4
 z4:=Tryz.sizeOf4
 v4:=Tryz.zeroValue4
 t22:=Tryz.underlying24
 a22:=Tryz.isAgg24
 z22:=Tryz.sizeOf24
 v22:=Tryz.zeroValue24
 t40:=Tryz.underlying182
 a40:=Tryz.isAgg182
 z40:=Tryz.sizeOf182
 v40:=Tryz.zeroValue182 }

theorem Search_it (l : List Int) (x : Int) (v : Value) (w : World) (hr : RdL 1 inc w v l) (hs : l.Pairwise (· < ·)) (hl : l.length <= 1000) :
  Calls Tryz.prog 193 #[v,.int .i64 x] w fun e w'=>e = .returned (.tuple #[.int .i64 ((l.countP (· < x) : Nat) : Int),.bool (l.contains x)]) /\ Ext w w':=by
 obtain ⟨A,c,rfl,h1,h2,h3⟩:=hr
 by_cases hn : l = []
 ·subst hn
  refine Calls.mono (Any.slices_BinarySearch_int_empty bsLays A c x w) ?_;rintro e w' ⟨rfl,rfl⟩;exact ⟨rfl,Ext.refl _⟩
 ·have hp : 0 < l.length:=List.length_pos_iff.2 hn
  obtain ⟨b,o,rfl,hb,hc⟩:=h3 hp;refine Calls.mono (Any.slices_BinarySearch_int bsLays b o l.length c l x w (Nat.le_refl _) (by omega) ?_ ?_) ?_
  ·intro j hj
   have:=hc j hj 0 (.int .i64 l[j]!) (by simp [inc]);rw [Nat.mul_one,Nat.add_zero] at this;rw [this]
   simp [hj,List.getD]
  ·rw [List.take_length]
   exact hs.imp (fun h=>Int.le_of_lt h)
  ·rintro e w' ⟨rfl,q,rfl⟩
   rw [List.take_length];exact ⟨rfl,(Ext.refl _).drewN _⟩

theorem ints_take (l : List Int) (i : Nat) : (encs inc l).take i = encs inc (l.take i):=by rw [Xc,Xc,List.map_take]
theorem ints_drop (l : List Int) (i : Nat) : (encs inc l).drop i = encs inc (l.drop i):=by rw [Xc,Xc,List.map_drop]
theorem ints_one (l : List Int) : ∀ u ∈ encs inc l,u.oneCell' = true:=by
 intro u hu;rw [Xc,List.mem_map] at hu;obtain ⟨y,-,rfl⟩:=hu
 rfl

theorem list_grow {α : Type} (cs zs : List α) (i : Nat) (x : α) (hi : i < cs.length) (hz : zs.length = cs.length + 1 - i) :
  ((cs.take i ++ zs).take i ++ [x] ++ (cs.take i ++ zs).drop (i + [x].length)).take (i + 1) ++ cs.drop i ++ ((cs.take i ++ zs).take i ++ [x] ++ (cs.take i ++ zs).drop (i + [x].length)).drop (i + 1 + (cs.drop i).length) = cs.take i ++ [x] ++ cs.drop i:=by
 have h1 : (cs.take i).length = i:=by rw [List.length_take];omega
 rw [List.take_left' h1]
 have h2 : (cs.take i ++ [x]).length = i + 1:=by simp [h1]
 rw [List.take_left' h2];rw [List.drop_of_length_le (l:=cs.take i ++ [x] ++ _) (by simp only [List.length_append,List.length_drop,h2,h1,hz,List.length_singleton];omega),List.append_nil]

theorem own_grown (W : World) (base : Nat) (hbW : base <= W.heap.size) (cs : List Value) (n G : Nat) (hn : cs.length = n) (hG : n <= G) (hm : G <= maxLen) :
  (W.alloc (.cells (cs.toArray ++ Builtin.zeroCells (Value.int .i64 0).cells (G - n)) 3)).ownsRow base 3 1 (.slice (some ⟨W.heap.size,0,none⟩) n G) n cs:=by
 subst hn;have h:=own_alloc (w:=W) (base:=base) (e:=3) (size:=1) (n:=cs.length) (cap:=G) (cur:=cs.toArray ++ Builtin.zeroCells (Value.int .i64 0).cells (G - cs.length)) hbW hG hm (by simp [Builtin.zeroCells,Value.cells];omega);rw [show (cs.toArray ++ Builtin.zeroCells (Value.int .i64 0).cells (G - cs.length)).toList.take (cs.length * 1) = cs from by simp] at h;exact h

theorem Insert_it (l : List Int) (i : Nat) (hi : i <= l.length) (x : Int) (v : Value) (base : Nat) (w : World) (ho : Jh 3 1 inc base w v l) (hbw : base <= w.heap.size) (hl : l.length <= 1000) :
  Calls Tryz.prog 194 #[v,.int .i64 i,.slice (some ⟨w.heap.size,0,none⟩) 1 1] (w.alloc (.cells #[.int .i64 x] 3)) fun e w'=>∃ v',e = .returned v' /\ Jh 3 1 inc base w' v' (l.take i ++ x :: l.drop i) /\ w.grownBy w' v.ownBlock /\ (v'.ownBlock = v.ownBlock \/ ∀ k,v'.ownBlock = some k -> w.heap.size <= k):=by
 have hoA:=ho.alloc (.cells #[.int .i64 x] 3);have hgA : w.grownBy (w.alloc (.cells #[.int .i64 x] 3)) v.ownBlock:=World.grownBy_alloc _ _ _;have hcx : (w.alloc (.cells #[.int .i64 x] 3)).cell? ⟨w.heap.size,0,none⟩ = some (.int .i64 x):=Row.new.2.1 0;have hfx : ∀ o,(w.alloc (.cells #[.int .i64 x] 3)).frozen? ⟨w.heap.size,o,none⟩ = false:=Row.new.2.2
 have hvs : ∀ j u,([.int .i64 x] : List Value)[j]? = some u -> (w.alloc (.cells #[.int .i64 x] 3)).cell? ⟨w.heap.size,0 + j,none⟩ = some u:=by
  intro j u hj
  cases j with
  | zero=>simp at hj;subst hj;exact hcx
  | succ j=>simp at hj
 have h1v : ∀ u ∈ ([.int .i64 x] : List Value),u.oneCell' = true:=by intro u hu;simp at hu;subst hu;rfl
 have hsh : (w.alloc (.cells #[.int .i64 x] 3)).shape? w.heap.size = some (3,1):=by
  have h:=heap_alloc_new w (.cells #[.int .i64 x] 3);unfold World.shape?;simp only [h]
  rfl
 have hsz : w.heap.size < (w.alloc (.cells #[.int .i64 x] 3)).heap.size:=by simp
 generalize w.alloc (.cells #[.int .i64 x] 3) = W at *
 have hlen : (encs inc l).length = l.length:=by rw [Xc,List.length_map]
 have hfin : encs inc (l.take i) ++ [.int .i64 x] ++ encs inc (l.drop i) = encs inc (l.take i ++ x :: l.drop i):=by simp [Xc]
 have hfl : (l.take i ++ x :: l.drop i).length = l.length + 1:=by simp;omega
 unfold Jh at hoA ⊢;rw [hfl,<- hfin]
 have hbW : base <= W.heap.size:=by omega
 rcases hoA.2 with ⟨rfl,h0⟩ | ⟨b,cap,cur,rfl,hb,hg,hnc,hcm,hcs,htake⟩
 ·have hn : l = []:=List.eq_nil_of_length_eq_zero h0
  subst hn
  have hi0 : i = 0:=by simpa using hi
  subst hi0;refine Calls.mono (Any2.slices_Insert_int_end_grow inLays none 0 0 w.heap.size 0 1 1 [] [.int .i64 x] W (by omega) (by omega) (by omega) (by omega) rfl rfl (fun _=>rfl) (fun a h=>by cases h) hvs h1v) ?_;rintro e w' ⟨rfl,rfl⟩;refine ⟨_,rfl,?_,?_⟩
  ·exact own_grown W.drew base hbW [.int .i64 x] 1 _ rfl (grownCap_ge _ _ _ _) (grownCap_le_maxLen _ _ _ _ (by unfold maxLen;omega))
  ·exact ⟨(hgA.trans (Xx _ _)).trans (World.grownBy_alloc _ _ _),.inr (fun k hk=>by simp [Value.ownBlock] at hk;omega)⟩
 ·have hco : ∀ o,W.cell? ⟨b,o,none⟩ = cur[o]?:=fun o=>cell_of_row W b o cur _ (0,0) hg
  have hfo : ∀ o,W.frozen? ⟨b,o,none⟩ = false:=by
   intro o;unfold World.frozen?;simp only [hg]
   simp
  have hcap : cap <= 9223372036854775807:=by unfold maxLen at hcm;omega
  have hbw2 : b < w.heap.size:=by
   have:=(ho.lt b (by simp [Value.ownBlock])).2;exact this
  have hne : w.heap.size ≠ b:=by omega
  have hxs : ∀ j u,(encs inc l)[j]? = some u -> W.cell? ⟨b,0 + j,none⟩ = some u:=by
   intro j u hu;rw [Nat.zero_add,hco,<- Array.getElem?_toList];rw [<- htake,List.getElem?_take] at hu
   split at hu
   ·exact hu
   ·cases hu
  have hblk : (Value.slice (some ⟨b,0,none⟩) l.length cap).ownBlock = some b:=rfl;rw [hblk] at hgA ⊢;have hgd : w.grownBy W.drew (some b):=hgA.trans (Xx _ _)
  by_cases hroom : l.length + 1 <= cap
  ·obtain ⟨ys,hys,hL⟩:=own_longer hoA hroom
   have hsp : ∀ j,j < l.length + 1 -> (W.cell? ⟨b,0 + j,none⟩).isSome = true:=by
    intro j hj;rw [hco,Array.getElem?_eq_getElem (by omega)]
    rfl
   by_cases hin : i = l.length
   ·subst hin
    refine Calls.mono (Any2.slices_Insert_int_end_room inLays b 0 l.length cap w.heap.size 0 1 1 [.int .i64 x] W (by omega) hroom hcap rfl (fun j hj=>by rw [Nat.add_assoc];exact hsp _ (by omega)) (fun j hj=>hfo _) hvs h1v) ?_;rintro e w' ⟨rfl,rfl⟩;refine ⟨_,rfl,?_,hgA.trans (Zj _ _ _ _),.inl rfl⟩;have h:=Zt [.int .i64 x] (0 + l.length) W _ hL (by simp [hlen,hys])
    rw [show (encs inc l ++ ys).take (0 + l.length) ++ [Value.int .i64 x] ++ (encs inc l ++ ys).drop (0 + l.length + [Value.int .i64 x].length) = encs inc (l.take l.length) ++ [Value.int .i64 x] ++ encs inc (l.drop l.length) from by
     rw [Nat.zero_add,List.take_append_of_le_length (by omega),<- hlen,List.take_length,List.drop_of_length_le (by simp [hys]),hlen,List.take_length,List.drop_length]
     simp [encs]] at h
    exact h
   ·have hilt : i < l.length:=by omega
    refine Calls.mono (Any2.slices_Insert_int_shift inLays b 0 l.length cap i w.heap.size 0 1 1 (encs inc l) [.int .i64 x] W hilt (by omega) hroom hcap hne hlen rfl hxs hsp (fun j hj=>hfo _) hvs (ints_one l) h1v 3 3 1 cur.size hsh (by simp [World.shape?,hg]) (by omega) (hfx 0) (hfx 1)) ?_;rintro e w' ⟨rfl,rfl⟩;refine ⟨_,rfl,?_,(hgd.trans (Zj _ _ _ _)).trans (Zj _ _ _ _),.inl rfl⟩;have hL2 : W.drew.ownsRow base 3 1 (.slice (some ⟨b,0,none⟩) (l.length + 1) cap) (l.length + 1) (encs inc l ++ ys):=hL;have h1:=Zt ((encs inc l).drop i) (0 + (i + 1)) W.drew _ hL2 (by simp [hlen,hys];omega);have h2:=Zt [.int .i64 x] (0 + i) _ _ h1 (by simp [hlen,hys];omega);refine Eq.mp (congrArg (fun z=>World.ownsRow _ base _ 1 _ _ z) ?_) h2;simp only [Nat.zero_add,List.length_drop,hlen];rw [List.drop_of_length_le (l:=encs inc l ++ ys) (by simp [hlen,hys];omega),List.append_nil,ints_drop];rw [show (encs inc l ++ ys).take (i + 1) = (encs inc l).take (i + 1) from List.take_append_of_le_length (by omega),ints_take];rw [List.take_append_of_le_length (by rw [<- ints_take,List.length_take];omega),ints_take,List.take_take,Nat.min_eq_left (by omega)]
    congr 1
    rw [List.drop_append,List.drop_of_length_le (by rw [<- ints_take,List.length_take];exact Nat.min_le_left _ _),List.nil_append];rw [<- ints_take,List.length_take,hlen,Nat.min_eq_left (by omega)]
    simp
  ·have hcn : cap < l.length + 1:=by omega
   by_cases hin : i = l.length
   ·subst hin
    refine Calls.mono (Any2.slices_Insert_int_end_grow inLays (some ⟨b,0,none⟩) l.length cap w.heap.size 0 1 1 (encs inc l) [.int .i64 x] W (by omega) hnc hcn (by omega) hlen rfl (fun h=>by cases h) (fun a ha j u hu=>by
     injection ha with ha
     subst ha;rw [show (⟨b,0,none⟩ : Addr).add j = ⟨b,0 + j,none⟩ from by unfold Addr.add;split <;> simp_all]
     exact hxs j u hu) hvs h1v) ?_
    rintro e w' ⟨rfl,rfl⟩;refine ⟨_,rfl,?_,hgd.trans (World.grownBy_alloc _ _ _),.inr (fun k hk=>by simp [Value.ownBlock] at hk;omega)⟩;have h:=own_grown W.drew base hbW (encs inc l ++ [.int .i64 x]) (l.length + 1) _ (by simp [hlen]) (grownCap_ge W (l.length + 1) cap 3) (grownCap_le_maxLen _ _ _ _ (by unfold maxLen;omega));rw [List.take_length,List.drop_length,encs_nil,List.append_nil];exact h
   ·have hilt : i < l.length:=by omega
    refine Calls.mono (Any2.slices_Insert_int_grow inLays b 0 l.length cap i w.heap.size 0 1 1 (encs inc l) [.int .i64 x] W hilt (by omega) hnc hcn (by omega) hlen rfl hxs hvs (ints_one l) h1v) ?_;rintro e w' ⟨rfl,rfl⟩;have hg1:=grownCap_ge W (l.length + 1) cap 3;have hg2 : grownCap W (l.length + 1) cap 3 <= maxLen:=grownCap_le_maxLen _ _ _ _ (by unfold maxLen;omega);refine ⟨_,rfl,?_,?_,.inr (fun k hk=>by simp [Value.ownBlock] at hk;omega)⟩
    ·change World.ownsRow _ base 3 1 (.slice (some ⟨W.heap.size,0,none⟩) (l.length + 1) (grownCap W (l.length + 1) cap 3)) (l.length + 1) _
     change World.ownsRow ((((W.alloc (.cells (((encs inc l).take i).toArray ++ Builtin.zeroCells (Value.int .i64 0).cells (l.length + 1 - i) ++ Builtin.zeroCells (Value.int .i64 0).cells (grownCap W (l.length + 1) cap 3 - (l.length + 1))) 3)).drew.setCells W.heap.size i [.int .i64 x]).drew).setCells W.heap.size (i + 1) ((encs inc l).drop i)) base 3 1 _ _ _
     generalize grownCap W (l.length + 1) cap 3 = G at hg1 hg2 ⊢
     have htl : ((encs inc l).take i).length = i:=by rw [List.length_take,hlen];omega
     have h0:=own_alloc (w:=W) (base:=base) (e:=3) (size:=1) (n:=l.length + 1) (cap:=G) (cur:=((encs inc l).take i).toArray ++ Builtin.zeroCells (Value.int .i64 0).cells (l.length + 1 - i) ++ Builtin.zeroCells (Value.int .i64 0).cells (G - (l.length + 1))) hbW hg1 hg2 (by simp [Builtin.zeroCells,Value.cells,hlen];omega)
     have hz : (((encs inc l).take i).toArray ++ Builtin.zeroCells (Value.int .i64 0).cells (l.length + 1 - i) ++ Builtin.zeroCells (Value.int .i64 0).cells (G - (l.length + 1))).toList.take ((l.length + 1) * 1) = (encs inc l).take i ++ (Builtin.zeroCells (Value.int .i64 0).cells (l.length + 1 - i)).toList:=by
      rw [Array.toList_append,Array.toList_append,List.take_left']
      simp [Builtin.zeroCells,Value.cells]
      omega
     rw [hz] at h0;have h1:=Zt [.int .i64 x] i _ _ (show World.ownsRow (W.alloc _).drew base 3 1 _ _ _ from h0) (by simp [hlen,Builtin.zeroCells,Value.cells];omega);have h2:=Zt ((encs inc l).drop i) (i + 1) _ _ (show World.ownsRow (World.setCells (W.alloc _).drew W.heap.size i [.int .i64 x]).drew base 3 1 _ _ _ from h1) (by simp [hlen,Builtin.zeroCells,Value.cells];omega);rw [list_grow (encs inc l) _ i _ (by omega) (by simp [hlen,Builtin.zeroCells,Value.cells])] at h2;rw [<- ints_take,<- ints_drop];exact h2
    ·have ha : W.grownBy (W.alloc (.cells (((encs inc l).take i).toArray ++ Builtin.zeroCells (Value.int .i64 0).cells (l.length + 1 - i) ++ Builtin.zeroCells (Value.int .i64 0).cells (grownCap W (l.length + 1) cap 3 - (l.length + 1))) 3)).drew (some b):=(World.grownBy_alloc _ _ _).trans (Xx _ _)
     have hlt : w.heap.size <= W.heap.size:=by omega
     exact hgA.trans ((ha.andThen ((Zj W.heap.size _ _ _).trans (Xx _ _)) (fun j hj=>by injection hj with hj;subst hj;exact .inl (Nat.le_refl _))).andThen (Zj W.heap.size _ _ _) (fun j hj=>by injection hj with hj;subst hj;exact .inl (Nat.le_refl _)))
end Go.Proofs.YteojjbhadgkfgaaGreat

namespace Go.Proofs.YteojjbhadgkfgaaGreat
set_option linter.unusedSimpArgs false
set_option linter.unusedVariables false
set_option maxRecDepth 100000
open Go Go.RowKit Lb

theorem keeper_add (d : Dn) (s : Value) (g base : Nat) (w : World) (id : Int) (hr : Row w g #[.int .i64 d.Jk,s]) (ho : Jh 3 1 inc base w s d.ids) (hg : s.ownBlock ≠ some g) (hbg : base <= g) (hd : Z9 d = 0) (hid : within id 1 9999 = true) :
  Calls Tryz.prog 172 #[.pointer (some ⟨g,0,none⟩),.int .i64 id] w fun e w'=>e = .returned (.int .i64 (Za d id).2) /\ Below base w w' /\ ((Za d id).2 = 0 -> ∃ s',Row w' g #[.int .i64 (d.Jk + 1),s'] /\ Jh 3 1 inc base w' s' (insI id d.ids) /\ s'.ownBlock ≠ some g):=by
 obtain ⟨g1,g2,g3,g4,g5⟩:=(XM d).1 hd;obtain ⟨ver,l⟩:=d;simp only at *;obtain ⟨A,c,rfl⟩:=ho.form;have hge:=ho.lt;have hbw : base <= w.heap.size:=Nat.le_trans hbg (Nat.le_of_lt hr.1);have hq:=hr.2.1;have hlt:=hr.1;have HR:=hH hr;have HO:=hH ho;have HG4:=hH g4;have HD:=hH (denyD_eq (d:=⟨ver,l⟩) hid);generalize Za ⟨ver,l⟩ id = res at HD ⊢
 have hm : l.length <= 9223372036854775807:=by omega
 clear hr ho g4 hd hid g3;go_enter Tryz.func172,Tryz.ntmps172;go_wp2_with fail;refine (Search_it l id _ _ (HO.out.rd JD) HG4.out (by omega)).mono ?_;rintro e w1 ⟨rfl,h1⟩;have HO1:=hH (HO.out.ext h1);have HR1:=hH (Row.ext h1 HR.out);have H1:=hH h1;have hq1:=HR1.out.2.1;have hf1:=HR1.out.2.2;have hlt1:=HR1.out.1;clear h1 hq
 cases hc : l.contains id with
 | true =>
  have HD2:=hH (show res = (dn0,6) by rw [HD.out,if_pos hc]);clear HD hc;go_wp2_with fail;go_ret;refine ⟨Jo (by rw [HD2.out]),Below.mono H1.out hbw,?_⟩;intro h;rw [HD2.out] at h
  simp at h
 | false =>
  have hcn : ¬ l.contains id = true:=by rw [hc];decide
  by_cases h12 : l.length = 12
  ·have HD2:=hH (show res = (dn0,2) by rw [HD.out,if_neg hcn,if_pos (.inl h12)])
   have hli : ((l.length : Int) == 12) = true:=by rw [h12];rfl
   clear HD hc hcn;go_wp2_with fail;go_ret;refine ⟨Jo (by rw [HD2.out]),Below.mono H1.out hbw,?_⟩;intro h;rw [HD2.out] at h
   simp at h
  ·have hli : ((l.length : Int) == 12) = false:=by
    rw [beq_eq_false_iff_ne];omega
   by_cases h999 : ver = 999
   ·have HD2:=hH (show res = (dn0,2) by rw [HD.out,if_neg hcn,if_pos (.inr h999)])
    have hvi : (ver == 999) = true:=by rw [h999];rfl
    clear HD hc hcn;go_wp2_with fail;go_ret;refine ⟨Jo (by rw [HD2.out]),Below.mono H1.out hbw,?_⟩;intro h;rw [HD2.out] at h
    simp at h
   ·have HD2:=hH (show res = (⟨ver + 1,insI id l⟩,0) by rw [HD.out,if_neg hcn,if_neg (by omega)])
    have hvi : (ver == 999) = false:=by rw [beq_eq_false_iff_ne];omega
    have hv0 : 0 <= ver /\ ver <= 999:=by simp [within] at g1;exact g1
    clear HD hc hcn;go_wp2_with fail;refine (Insert_it l (l.countP (· < id)) List.countP_le_length id _ base w1 HO1.out (Nat.le_trans hbw H1.out.size) (by omega)).mono ?_;rintro e w2 ⟨s2,rfl,ho2,hg2,hn2⟩;rw [<- insI_countP id l HG4.out] at ho2
    have hown2 : s2.ownBlock ≠ some g:=by
     rcases hn2 with h | h
     ·rw [h];exact hg
     ·intro he
      have:=h g he;have:=H1.out.size
      omega
    obtain ⟨A2,c2,rfl⟩:=ho2.form;have hR2:=HR1.out.grown hg2 (fun h=>hg h.symm);have hB2:=(Below.mono H1.out hbw).grown hg2 (Nat.le_trans hbw H1.out.size) (fun k hk=>(HO1.out.lt k hk).1);have HO2:=hH ho2;have HR2:=hH hR2;have HB2:=hH hB2;have HN2:=hH hown2;have hq2:=hR2.2.1;have hf2:=hR2.2.2;have hlt2:=hR2.1;clear ho2 hR2 hB2 hown2 hg2 hn2 hq1 hf1;go_wp2_with fail;go_ret;refine ⟨Jo (by rw [HD2.out]),(HB2.out.setCell hbg _).setCell hbg _,fun _=>?_⟩;refine ⟨_,?_,(HO2.out.put HN2.out _).put HN2.out _,HN2.out⟩;have h:=(HR2.out.J4 (i:=1) (u:=.slice A2 (insI id l).length c2)).J4 (i:=0) (u:=.int .i64 (ver + 1))
    simpa using h

theorem denied_Raw (d : Dn) (s : Value) (id : Int) (w : World) (hr : RdL 1 inc w s d.ids) (hd : Z9 d = 0) :
  Calls Tryz.prog 134 #[.agg #[.int .i64 d.Jk,s],.int .i64 id] w fun e w'=>∃ s',e = .returned (.tuple #[.agg #[.int .i64 (Za d id).1.Jk,s'],.int .i64 (Za d id).2]) /\ Ext w w' /\ Jh 3 1 inc w.heap.size w' s' (Za d id).1.ids:=by
 have h12:=((XM d).1 hd).2.1;obtain ⟨ver,l⟩:=d;simp only at *;obtain ⟨A,c,rfl,-,-⟩:=hr.form;have HOwn:=hH (fun w' (h : Ext w w')=>denied_Own ⟨ver,l⟩ _ w' (hr.ext h) (show l.length * 8 <= 140737488355328 by omega));simp only at HOwn;have HD:=hH hd;clear hr hd h12
 cases hid : within id 1 9999 with
 | false =>
  have HW:=hH (fun w=>(hid ▸ denied_within id 1 9999 w : Calls Tryz.prog 87 #[.int .i64 id,.int .i64 1,.int .i64 9999] w fun e w'=>e = .returned (.bool false) /\ w = w'))
  have hres : Za ⟨ver,l⟩ id = (dn0,3):=by unfold Za;rw [if_pos hid]
  rw [hres];clear hid hres;go_enter Tryz.func134,Tryz.ntmps134;go_wp2_with fail;refine (HOwn.out _ Je).mono ?_;rintro e w1 ⟨s1,rfl,h1,ho1⟩;obtain ⟨A1,c1,rfl⟩:=ho1.form;have hz1:=h1.size;have H1:=hH h1;clear h1 ho1;(try simp only [lSz] at hz1);(refine Ji w1 w.heap.size fun q1_0 f1_0 l1_0 R1_0=>?_;refine Ji w1 (w.heap.size + 1) fun q1_1 f1_1 l1_1 R1_1=>?_)
  go_wp2_with (go_at_call 87;refine gB (HW.out _) ?_)
  refine bodyPost_ret (v:=.tuple #[.agg #[.int .i64 0,.slice none 0 0],.int .i64 3]) (by simp [results,Tryz.results134,go_sem, *]) rfl ⟨_,rfl,?_,Jh.nil⟩;exact Je
 | true =>
  have HW:=hH (fun w=>(hid ▸ denied_within id 1 9999 w : Calls Tryz.prog 87 #[.int .i64 id,.int .i64 1,.int .i64 9999] w fun e w'=>e = .returned (.bool true) /\ w = w'));have HI:=hH hid;generalize hres : Za ⟨ver,l⟩ id = res;have HRES:=hH hres;clear hid hres;go_enter Tryz.func134,Tryz.ntmps134;go_wp2_with fail;refine (HOwn.out _ Je).mono ?_;rintro e w1 ⟨s1,rfl,h1,ho1⟩;obtain ⟨A1,c1,rfl⟩:=ho1.form;have hz1:=h1.size;have H1:=hH h1;have HO1:=hH ho1;clear h1 ho1;(try simp only [lSz] at hz1);(refine Ji w1 w.heap.size fun q1_0 f1_0 l1_0 R1_0=>?_;refine Ji w1 (w.heap.size + 1) fun q1_1 f1_1 l1_1 R1_1=>?_)
  go_wp2_with (go_at_call 87;refine gB (HW.out _) ?_)
  have ho1:=HO1.out;(try simp only [lSz] at ho1)
  have hne : (Value.slice A1 l.length c1).ownBlock ≠ some w1.heap.size:=fun h=>by have:=(ho1.lt _ h).2;omega
  refine (keeper_add ⟨ver,l⟩ _ w1.heap.size (w.heap.size + 1 + 1) _ id (Row.newAt rfl) (ho1.alloc _) hne hz1 HD.out HI.out).mono ?_;rw [HRES.out];rintro e w3 ⟨rfl,hB,hP⟩;have hr0 : Row w3 w.heap.size _:=(Row.alloc R1_0.out).below hB (by omega);have hr1 : Row w3 (w.heap.size + 1) _:=(Row.alloc R1_1.out).below hB (by omega)
  have hB2 : Ext w w3:=by
   have : Ext w w1:=by exact Je
   exact Below.trans (this.alloc _) (Below.mono hB (by omega))
  have HE3:=hH hB2;have hq0:=hr0.2.1;have hq1:=hr1.2.1;have hf1:=hr1.2.2;have hlt3:=hr1.1;clear hB hB2 hr0
  by_cases h0 : res.2 = 0
  ·obtain ⟨s3,hrow3,ho3,hn3⟩:=hP h0
   have hv:=(denyD_ok (d:=⟨ver,l⟩) (id:=id) (by rw [HRES.out];exact h0)).2.2.2.2;rw [HRES.out] at hv;subst hv;obtain ⟨A3,c3,rfl⟩:=ho3.form;have HO3:=hH ho3;have hqk:=hrow3.2.1;have hltk:=hrow3.1;clear hP hrow3 ho3 h0 hn3;go_wp2_with fail;refine bodyPost_ret (v:=.tuple #[.agg #[.int .i64 (ver + 1),.slice A3 (insI id l).length c3],.int .i64 0]) (by simp [results,Tryz.results134,go_sem, *]) rfl ⟨_,rfl,?_,?_⟩
   ·exact Je
   ·exact ownA (w.heap.size + 1 + 1)
  ·have hv:=denyD_err (d:=⟨ver,l⟩) (id:=id) (by rw [HRES.out];exact h0)
   rw [HRES.out] at hv;obtain ⟨rd,re⟩:=res;simp only at hv h0 ⊢;subst hv
   have hb0 : (re != 0) = true:=by simpa using h0
   clear hP;go_wp2_with fail;refine bodyPost_ret (v:=.tuple #[.agg #[.int .i64 0,.slice none 0 0],.int .i64 re]) (by simp [results,Tryz.results134,go_sem, *]) rfl ⟨_,rfl,?_,Jh.nil⟩;exact Je


theorem denied_Pick (a b : Dn) (s u : Value) (w : World) (hr : RdL 1 inc w s a.ids) (hs : RdL 1 inc w u b.ids) (ha : a.ids.length <= 100) (hb : b.ids.length <= 100) :
  Calls Tryz.prog 136 #[.agg #[.int .i64 a.Jk,s],.agg #[.int .i64 b.Jk,u]] w fun e w'=>∃ s',e = .returned (.agg #[.int .i64 (pickD a b).Jk,s']) /\ Ext w w' /\ Jh 3 1 inc w.heap.size w' s' (pickD a b).ids:=by
 obtain ⟨va,la⟩:=a;obtain ⟨vb,lb⟩:=b;simp only at *;obtain ⟨A,c,rfl,-,-⟩:=hr.form;obtain ⟨A2,c2,rfl,-,-⟩:=hs.form;have HA:=hH (fun w' (h : Ext w w')=>denied_Own ⟨va,la⟩ _ w' (hr.ext h) (show la.length * 8 <= 140737488355328 by omega));have HB:=hH (fun w' (h : Ext w w')=>denied_Own ⟨vb,lb⟩ _ w' (hs.ext h) (show lb.length * 8 <= 140737488355328 by omega));simp only at HA HB;unfold pickD
 simp only
 clear hr hs ha hb
 by_cases hlt : va < vb
 ·rw [if_pos hlt]
  go_enter Tryz.func136,Tryz.ntmps136;go_wp2_with fail;refine (HB.out _ Je).mono ?_;rintro e w1 ⟨s1,rfl,h1,ho1⟩;obtain ⟨A1,c1,rfl⟩:=ho1.form;have hz1:=h1.size;have H1:=hH h1;have HO1:=hH ho1;clear h1 ho1;(try simp only [lSz] at hz1);(refine Ji w1 (w.heap.size + 1 + 1) fun q1_0 f1_0 l1_0 R1_0=>?_);go_wp2_with fail;refine bodyPost_ret (v:=.agg #[.int .i64 vb,.slice A1 lb.length c1]) (by simp [results,Tryz.results136,go_sem, *]) rfl ⟨_,rfl,?_,?_⟩
  ·exact Je
  ·have ho1:=HO1.out
   (try simp only [lSz] at ho1);exact ownA (w.heap.size + 1 + 1 + 1)
 ·rw [if_neg hlt]
  go_enter Tryz.func136,Tryz.ntmps136;go_wp2_with fail;refine (HA.out _ Je).mono ?_;rintro e w1 ⟨s1,rfl,h1,ho1⟩;obtain ⟨A1,c1,rfl⟩:=ho1.form;have hz1:=h1.size;have H1:=hH h1;have HO1:=hH ho1;clear h1 ho1;(try simp only [lSz] at hz1);(refine Ji w1 (w.heap.size + 1 + 1) fun q1_0 f1_0 l1_0 R1_0=>?_);go_wp2_with fail;refine bodyPost_ret (v:=.agg #[.int .i64 va,.slice A1 la.length c1]) (by simp [results,Tryz.results136,go_sem, *]) rfl ⟨_,rfl,?_,?_⟩
  ·exact Je
  ·have ho1:=HO1.out
   (try simp only [lSz] at ho1);exact ownA (w.heap.size + 1 + 1 + 1)


theorem swap_list {α : Type} (l : List α) (x y : α) (k : Nat) (hk : 0 < k) (hkl : k <= l.length) (hy : l[k - 1]? = some y) :
  ((l.take k ++ x :: l.drop k).set k y).set (k - 1) x = l.take (k - 1) ++ x :: l.drop (k - 1):=by
 obtain ⟨h1,h2⟩:=List.getElem?_eq_some_iff.1 hy;obtain ⟨j,rfl⟩ : ∃ j,k = j + 1:=⟨k - 1,by omega⟩;simp only [Nat.add_sub_cancel] at *
 have hj : (l.take (j + 1)).length = j + 1:=by rw [List.length_take];omega
 rw [List.set_append_right _ _ (by omega),hj,Nat.sub_self,List.set_cons_zero,List.set_append_left _ _ (by omega)];rw [List.take_succ_eq_append_getElem (by omega),h2,List.set_append_right _ _ (by rw [List.length_take];omega)];rw [List.length_take,Nat.min_eq_left (by omega),Nat.sub_self,List.set_cons_zero,List.drop_eq_getElem_cons (i:=j) (by omega),h2]
 simp
theorem Jh.int_cell {base g n c : Nat} {w : World} {l : List Int} (h : Jh 3 1 inc base w (.slice (some ⟨g,0,none⟩) n c) l) (j : Nat) (x : Int) (hj : l[j]? = some x) :
  w.cell? ⟨g,j,none⟩ = some (.int .i64 x) /\ w.frozen? ⟨g,j,none⟩ = false:=by
 have hx : (encs inc l)[j]? = some (.int .i64 x):=by rw [Xc,List.getElem?_map,hj];rfl
 have h1:=h.cells (g:=g) rfl j _ hx;rw [show (⟨g,0,none⟩ : Addr).add j = ⟨g,j,none⟩ from by unfold Addr.add;split <;> simp_all] at h1;refine ⟨h1,?_⟩
 rcases h.2 with ⟨h',_⟩ | ⟨g',cap',cur,h',hb,hg,-⟩
 ·simp at h'
 ·simp only [Value.slice.injEq,Option.some.injEq,Addr.mk.injEq,and_true,true_and] at h'
  obtain ⟨rfl,-⟩:=h';unfold World.frozen?;simp only [hg]
  simp
theorem Jh.int_set {base g n c : Nat} {w : World} {l : List Int} (h : Jh 3 1 inc base w (.slice (some ⟨g,0,none⟩) n c) l) (j : Nat) (x : Int) :
  Jh 3 1 inc base (w.setCell ⟨g,j,none⟩ (.int .i64 x)) (.slice (some ⟨g,0,none⟩) n c) (l.set j x):=by
 obtain ⟨A,c',hv⟩:=h.form
 injection hv with _ hn hc
 subst hn hc;unfold Jh at h ⊢;rw [List.length_set];have h1:=(h.stored j (.int .i64 x)).1
 rwa [show (encs inc l).set j (Value.int .i64 x) = encs inc (l.set j x) from by rw [Xc,Xc,List.map_set]] at h1

theorem ref_NewerOf (a b : Dn) (s u : Value) (w : World) (hr : ∃ A n c,s = .slice A n c) (hs : ∃ A n c,u = .slice A n c) :
  Calls Tryz.prog 111 #[.agg #[.int .i64 a.Jk,s],.agg #[.int .i64 b.Jk,u]] w fun e w'=>e = .returned (.agg #[.int .i64 (pickD a b).Jk,if a.Jk < b.Jk then u else s]) /\ Ext w w':=by
 obtain ⟨va,la⟩:=a;obtain ⟨vb,lb⟩:=b;obtain ⟨A,n,c,rfl⟩:=hr;obtain ⟨A2,n2,c2,rfl⟩:=hs;unfold pickD
 simp only
 by_cases h : va < vb
 ·rw [if_pos h,if_pos h]
  have h' : ¬ vb <= va:=by omega
  go_enter Tryz.func111,Tryz.ntmps111;go_wp2_with fail;refine bodyPost_ret (v:=.agg #[.int .i64 vb,.slice A2 n2 c2]) (by simp [results,Tryz.results111,go_sem, *]) rfl ⟨rfl,?_⟩;exact Je
 ·rw [if_neg h,if_neg h]
  have h' : vb <= va:=by omega
  go_enter Tryz.func111,Tryz.ntmps111;go_wp2_with fail;refine bodyPost_ret (v:=.agg #[.int .i64 va,.slice A n c]) (by simp [results,Tryz.results111,go_sem, *]) rfl ⟨rfl,?_⟩;exact Je

def sameDn (a b : Dn) : Bool:=a.Jk == b.Jk && a.ids == b.ids
theorem sameDn_iff {a b : Dn} : sameDn a b = true ↔ a = b:=by
 obtain ⟨va,la⟩:=a;obtain ⟨vb,lb⟩:=b
 simp [sameDn]
theorem ref_SameDenied (a b : Dn) (s u : Value) (w : World) (hr : RdL 1 inc w s a.ids) (hs : RdL 1 inc w u b.ids) :
  Calls Tryz.prog 26 #[.agg #[.int .i64 a.Jk,s],.agg #[.int .i64 b.Jk,u]] w fun e w'=>e = .returned (.bool (sameDn a b)) /\ Ext w w':=by
 have HS:=hH (fun w' (h : Ext w w')=>ref_SameInts a.ids b.ids s u w' (hr.ext h) (hs.ext h));obtain ⟨va,la⟩:=a;obtain ⟨vb,lb⟩:=b;obtain ⟨A,c,rfl,-,-⟩:=hr.form;obtain ⟨A2,c2,rfl,-,-⟩:=hs.form;unfold sameDn;simp only at HS ⊢;generalize (la == lb) = z at HS ⊢;clear hr hs
 by_cases h : va = vb
 ·have hv : (va == vb) = true:=by simpa using h
  rw [hv,Bool.true_and];go_enter Tryz.func26,Tryz.ntmps26;go_wp2_with fail;refine (HS.out _ Je).mono ?_;rintro e w1 ⟨rfl,h1⟩;have H1:=hH h1;clear h1;go_wp2_with fail;go_ret;refine ⟨Jq rfl,?_⟩;exact Je
 ·have hv : (va == vb) = false:=by simpa using h
  rw [hv,Bool.false_and];clear h;go_enter Tryz.func26,Tryz.ntmps26;go_wp2_with fail;go_ret;refine ⟨Jq rfl,?_⟩;exact Je
end Go.Proofs.YteojjbhadgkfgaaGreat
