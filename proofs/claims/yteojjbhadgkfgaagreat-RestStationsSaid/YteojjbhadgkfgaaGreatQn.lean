/- Qn: parts of the proofs, laid together. -/
import Derived.Test.YteojjbhadgkfgaaGreatQk
import Derived.Test.YteojjbhadgkfgaaGreatQa
import Derived.Test.YteojjbhadgkfgaaGreatQs
import Derived.Test.YteojjbhadgkfgaaGreatQf
import Derived.Test.YteojjbhadgkfgaaGreatQya
import Derived.Test.YteojjbhadgkfgaaGreatQg
import Derived.Test.YteojjbhadgkfgaaGreatQe
import Derived.Test.YteojjbhadgkfgaaGreatQt
import Derived.Test.YteojjbhadgkfgaaGreatQla
import Derived.Test.YteojjbhadgkfgaaGreatQu
/- The references' DenyOf. -/
set_option maxHeartbeats 64000000
namespace Go.Proofs.YteojjbhadgkfgaaGreat
set_option linter.unusedSimpArgs false
set_option linter.unusedVariables false
set_option maxRecDepth 100000
open Go Go.RowKit Lb

set_option maxRecDepth 100000 in
theorem ref_DenyOf (d : Dn) (s : Value) (id : Int) (w : World) (hr : RdL 1 inc w s d.ids) (hd : Z9 d = 0) :
  Calls Tryz.prog 66 #[.agg #[.int .i64 d.Jk,s],.int .i64 id] w fun e w'=>∃ s',e = .returned (.tuple #[.agg #[.int .i64 (Za d id).1.Jk,s'],.int .i64 (Za d id).2]) /\ Ext w w' /\ Jh 3 1 inc w.heap.size w' s' (Za d id).1.ids:=by
 obtain ⟨g1,g2,g3,g4,g5⟩:=(XM d).1 hd;obtain ⟨ver,l⟩:=d;simp only at *;obtain ⟨A,c,rfl,-,-⟩:=hr.form;have HW:=hH (fun w=>JA id 1 9999 w);have HH:=hH (fun w' (h : Ext w w')=>ref_HasInt l id _ w' (hr.ext h))
 have hm : l.length <= 9223372036854775807:=by omega
 have hv0 : 0 <= ver /\ ver <= 999:=by simp [within] at g1;exact g1
 have HR:=hH hr;clear hr hd g3 g1
 cases hid : within id 1 9999 with
 | false =>
  have hres : Za ⟨ver,l⟩ id = (dn0,3):=by unfold Za;rw [if_pos hid]
  rw [hres];rw [hid] at HW;clear hid hres g4;go_enter Tryz.func66,Tryz.ntmps66
  go_wp2_with (go_at_call 60;refine gB (HW.out _) ?_)
  refine bodyPost_ret (v:=.tuple #[.agg #[.int .i64 0,.slice none 0 0],.int .i64 3]) (by simp [results,Tryz.results66,go_sem, *]) rfl ⟨_,rfl,?_,Jh.nil⟩;exact Je
 | true =>
  rw [hid] at HW;have hres:=denyD_eq (d:=⟨ver,l⟩) hid;simp only at hres;clear hid
  cases hc : l.contains id with
  | true =>
   rw [hc] at HH;rw [hres,if_pos hc];clear hres hc g4;go_enter Tryz.func66,Tryz.ntmps66
   go_wp2_with (first | (go_at_call 60;refine gB (HW.out _) ?_) | (go_at_call 32;refine gB (HH.out _ Je) ?_))
   refine bodyPost_ret (v:=.tuple #[.agg #[.int .i64 0,.slice none 0 0],.int .i64 6]) (by simp [results,Tryz.results66,go_sem, *]) rfl ⟨_,rfl,?_,Jh.nil⟩;exact Je
  | false =>
   rw [hc] at HH
   have hcn : ¬ l.contains id = true:=by rw [hc];decide
   rw [if_neg hcn] at hres
   by_cases h12 : l.length = 12 \/ ver = 999
   ·rw [hres,if_pos h12]
    have hbb : ((l.length : Int) == 12) = true \/ ((l.length : Int) == 12) = false /\ (ver == 999) = true:=by
     by_cases h : l.length = 12
     ·left;rw [h];rfl
     ·right
      refine ⟨by rw [beq_eq_false_iff_ne];omega,?_⟩
      have : ver = 999:=by omega
      rw [this];rfl
    clear hres hc g4 hcn h12
    rcases hbb with hb1 | ⟨hb1,hb2⟩
    ·go_enter Tryz.func66,Tryz.ntmps66
     go_wp2_with (first | (go_at_call 60;refine gB (HW.out _) ?_) | (go_at_call 32;refine gB (HH.out _ Je) ?_))
     refine bodyPost_ret (v:=.tuple #[.agg #[.int .i64 0,.slice none 0 0],.int .i64 2]) (by simp [results,Tryz.results66,go_sem, *]) rfl ⟨_,rfl,?_,Jh.nil⟩;exact Je
    ·go_enter Tryz.func66,Tryz.ntmps66
     go_wp2_with (first | (go_at_call 60;refine gB (HW.out _) ?_) | (go_at_call 32;refine gB (HH.out _ Je) ?_))
     refine bodyPost_ret (v:=.tuple #[.agg #[.int .i64 0,.slice none 0 0],.int .i64 2]) (by simp [results,Tryz.results66,go_sem, *]) rfl ⟨_,rfl,?_,Jh.nil⟩;exact Je
   ·rw [hres,if_neg h12]
    have hb1 : ((l.length : Int) == 12) = false:=by rw [beq_eq_false_iff_ne];omega
    have hb2 : (ver == 999) = false:=by rw [beq_eq_false_iff_ne];omega
    have hnl : id ∉ l:=by simpa using hcn
    obtain ⟨i0,hi,hz0,hz1,hz2⟩:=info_parts info_it
    have hlen : (encs inc l).length = l.length * 1:=by rw [Xc,List.length_map];omega
    have HG4:=hH g4;have HNL:=hH hnl;have HLEN:=hH hlen
    have hg12 : l.length < 12:=by omega
    clear hres hc hcn h12 g4 hnl hlen g5 g2;go_enter Tryz.func66,Tryz.ntmps66
    go_wp2_with (first | (go_at_call 60;refine gB (HW.out _) ?_) | (go_at_call 32;refine gB (HH.out _ Je) ?_) | (at_builtin;go_loud (refine JC (enc:=inc) (k:=1) _ rfl _ _ 24 rfl (w.heap.size + 1 + 1) 3 i0 (.int .i64 0) 8 Tryz.underlying24 hi hz0 hz1 hz2 rfl (by decide) JD _ [] rfl (Jh.made ?qc7 ?qc6) _ l rfl ?qc1 ?qc2 ?qc3 ?qc4 ?qc5 ?_)))
    case qc1=>exact HR.out.ext Je
    case qc2=>exact ints_one l
    case qc3=>unfold maxLen;simp;omega
    case qc4=>simp;omega
    case qc5=>simp only [World.size_alloc];omega
    case qc6=>simp only [World.size_alloc];omega
    case qc7=>simp only [World.size_alloc]
    intro v1 w1 ho1 hg1 hn1;obtain ⟨A1,c1,rfl⟩:=ho1.form;have HO1:=hH ho1;have hE1 : Ext w w1:=Ext.grown Je hg1 (fun k hk=>by simp [Value.ownBlock] at hk;omega)
    have hlt1 : w.heap.size + 1 + 1 < w1.heap.size:=by
     have:=hg1.size;simp only [World.size_alloc] at this
     omega
    have hr1 : Row w1 (w.heap.size + 1) #[.int .i64 0,.slice none 0 0]:=by
     refine Row.grown ?_ hg1 (by simp [Value.ownBlock]);apply Row.alloc;exact Row.newAt (by simp)
    have hr0 : Row w1 w.heap.size #[.int .i64 ver,.slice A l.length c]:=by
     refine Row.grown ?_ hg1 (by simp [Value.ownBlock];omega);apply Row.alloc;apply Row.alloc;exact Row.newAt rfl
    have HE1:=hH hE1;have HR1:=hH hr1;have HR0:=hH hr0;clear hg1 hE1 hr1 hr0 hn1 ho1
    go_wp2_with (at_builtin;refine JC (enc:=inc) (k:=1) _ rfl _ _ 24 rfl (w.heap.size + 1 + 1) 3 i0 (.int .i64 0) 8 Tryz.underlying24 hi hz0 hz1 hz2 rfl (by decide) JD _ l rfl (HO1.out.alloc _) _ [id] rfl (RdL.lit id rfl rfl) ?qd2 ?qd3 ?qd4 ?qd5 ?_)
    case qd2=>exact ints_one [id]
    case qd3=>unfold maxLen;simp;omega
    case qd4=>simp;omega
    case qd5=>simp only [World.size_alloc];omega
    intro v2 w2 ho2 hg2 hn2
    have hform : ∃ g cap,v2 = .slice (some ⟨g,0,none⟩) (l.length + 1) cap /\ w.heap.size + 1 + 1 <= g /\ g < w2.heap.size:=by
     rcases ho2.2 with ⟨rfl,h0⟩ | ⟨g,cap,cur,rfl,hb,hg,-⟩
     ·simp at h0
     ·exact ⟨g,cap,by simp,hb,(Array.getElem?_eq_some_iff.1 hg).1⟩
    obtain ⟨g,cap,rfl,hg,hgs⟩:=hform
    have hE2 : Ext w w2:=by
     have : Ext w (w1.alloc (.cells #[.int .i64 id] 3)):=HE1.out.alloc _;exact this.grown hg2 (fun k hk=>by have:=(HO1.out.lt k hk).1;omega)
    have hr2 : Row w2 (w.heap.size + 1) #[.int .i64 0,.slice none 0 0]:=by
     refine Row.grown HR1.out.alloc hg2 ?_;intro h;have:=(HO1.out.lt _ h.symm).1
     omega
    have hr20 : Row w2 w.heap.size #[.int .i64 ver,.slice A l.length c]:=by
     refine Row.grown HR0.out.alloc hg2 ?_;intro h;have:=(HO1.out.lt _ h.symm).1
     omega
    have HE2:=hH hE2;have HR2:=hH hr2;have HR20:=hH hr20;have HO2:=hH ho2
    have hwl : IntKind.i64.wrap ((l.length : Int) + 1 - 1) = (l.length : Int):=by rw [IntWalk.i64_in _ (by omega)];omega
    have hwl2 : IntKind.i64.wrap (((l.length + 1 : Nat) : Int) - 1) = (l.length : Int):=by rw [IntWalk.i64_in _ (by omega)];omega
    clear hg2 hn2 ho2 hE2 hr2 hr20;clear HO1 HE1 HR1 HR0 HH hlt1;go_wp2_with fail
    go_loopg [7] (l.length + 1) (fun gg s7 wr=>∃ k : Nat,k <= l.length /\ k <= gg /\ s7 = .int .i64 k /\ Aside (Ext w wr /\ Row wr (w.heap.size + 1) #[.int .i64 0,.slice none 0 0] /\ Row wr w.heap.size #[.int .i64 ver,.slice A l.length c]) /\ Aside (Jh 3 1 inc (w.heap.size + 1 + 1) wr (.slice (some ⟨g,0,none⟩) (l.length + 1) cap) (l.take k ++ id :: l.drop k)) /\ Aside (∀ x ∈ l.drop k,¬ x < id))
    case atStart=>exact ⟨l.length,by omega,by omega,by go_num,⟨HE2.out,HR2.out,HR20.out⟩,(show Jh 3 1 inc (w.heap.size + 1 + 1) w2 (.slice (some ⟨g,0,none⟩) (l.length + 1) cap) (l.take l.length ++ id :: l.drop l.length) by simpa using HO2.out),fun x hx=>by simp at hx⟩
    case round =>
     obtain ⟨k,hk,hgk,rfl,HA,HB,HC⟩:=hrel
     have hlt : k < l.length + 1:=by omega
     have hL : (l.take k ++ id :: l.drop k)[k]? = some id:=by
      rw [List.getElem?_append_right (by rw [List.length_take];omega),List.length_take,Nat.min_eq_left hk,Nat.sub_self]
      rfl
     obtain ⟨ck,fk⟩:=HB.out.int_cell k id hL
     have hkl' : (k : Int) < (l.length : Int) + 1:=by omega
     have hkl2 : (k : Int) < ((l.length + 1 : Nat) : Int):=by omega
     have hrr:=HA.out.2.1;have hq:=hrr.2.1;have hfz:=hrr.2.2;have hltr:=hrr.1;have hq0:=HA.out.2.2.2.1;have HA2:=hH HA.out;have HB2:=hH HB.out;have HC2:=hH HC.out;clear HA HB HC hL hrr
     by_cases hk0 : k = 0
     ·subst hk0
      have hfin : insI id l = l.take 0 ++ id :: l.drop 0:=insI_at id l 0 (by simp) HC2.out;go_wp2_with fail;go_quiet (fail);go_wp2_with fail;refine bodyPost_ret (v:=.tuple #[.agg #[.int .i64 (ver + 1),.slice (some ⟨g,0,none⟩) (l.length + 1) cap],.int .i64 0]) (by simp [results,Tryz.results66,go_sem, *]) rfl ⟨_,rfl,?_,?_⟩
      ·exact (((HA2.out.1.drewN _).setCell (by simp) _).setCell (by simp) _)
      ·have ho : Jh 3 1 inc (w.heap.size + 1 + 1) wr (.slice (some ⟨g,0,none⟩) (l.length + 1) cap) (insI id l):=by rw [hfin];exact HB2.out
       exact (((ho.drewN _).set (by simp) _).set (by simp) _).lower (by omega)
     ·have hkn : 0 < k:=by omega
      have hkd : decide (0 < k) = true:=by simpa using hkn
      have hw1 : IntKind.i64.wrap ((k : Int) - 1) = ((k - 1 : Nat) : Int):=by rw [IntWalk.i64_in _ (by omega)];omega
      have hk1 : ((k - 1 : Nat) : Int) < (l.length : Int) + 1:=by omega
      have hk2 : k - 1 < l.length + 1:=by omega
      have hk3 : ((k - 1 : Nat) : Int) < ((l.length + 1 : Nat) : Int):=by omega
      have hkl1 : k - 1 < l.length:=by omega
      have hly : l[k - 1]? = some l[k - 1]:=List.getElem?_eq_getElem hkl1
      have hL1 : (l.take k ++ id :: l.drop k)[k - 1]? = some l[k - 1]:=by
       rw [List.getElem?_append_left (by rw [List.length_take];omega),List.getElem?_take_of_lt (by omega)];exact hly
      obtain ⟨ck1,fk1⟩:=HB2.out.int_cell (k - 1) _ hL1;have hsw:=swap_list l id l[k - 1] k hkn hk hly
      have hdr : l.drop (k - 1) = l[k - 1] :: l.drop k:=by
       rw [List.drop_eq_getElem_cons hkl1,show k - 1 + 1 = k from by omega]
      have hpw:=HG4.out;have hmem : l[k - 1] ∈ l:=List.getElem_mem hkl1
      have htk : ∀ x ∈ l.take k,x <= l[k - 1]:=by
       intro x hx;obtain ⟨j,hj,rfl⟩:=List.mem_iff_getElem.1 hx;rw [List.length_take] at hj;rw [List.getElem_take]
       by_cases hjk : j = k - 1
       ·subst hjk;exact Int.le_refl _
       ·exact Int.le_of_lt (List.pairwise_iff_getElem.1 hpw j (k - 1) (by omega) hkl1 (by omega))
      generalize l[k - 1] = y at *
      by_cases hy : id < y
      ·have hyd : decide (id < y) = true:=by simpa using hy
       have HSW:=hH hsw;have HDR:=hH hdr;clear hsw hdr hpw hmem htk hL1 hly;go_wp2_with fail;go_quiet (fail);go_wp2_with fail
       go_region
       go_wp2_with fail;go_roundg (k - 1)
       case measure=>omega
       case rel =>
        refine ⟨k - 1,by omega,by omega,by go_num,⟨?_,?_,?_⟩,?_,?_⟩
        ·exact ((((HA2.out.1.drewN _).drew).setCell (by simp;omega) _).setCell (by simp;omega) _)
        ·exact Row.far (by simp;omega) (Row.far (by simp;omega) HA2.out.2.1.drewN.drew)
        ·exact Row.far (by simp;omega) (Row.far (by simp;omega) HA2.out.2.2.drewN.drew)
        ·rw [<- HSW.out]
         exact (((HB2.out.drewN _).drew).int_set k y).int_set (k - 1) id
        ·rw [HDR.out]
         intro x hx
         rcases List.mem_cons.1 hx with rfl | hx
         ·omega
         ·exact HC2.out x hx
      ·have hyd : decide (id < y) = false:=by simpa using hy
       have hne : id ≠ y:=fun h=>HNL.out (h ▸ hmem);have hfin : insI id l = l.take k ++ id :: l.drop k:=insI_at id l k (fun x hx=>by have:=htk x hx;omega) HC2.out;clear hsw hdr hpw hmem htk hL1 hly;go_wp2_with fail;go_quiet (fail);go_wp2_with fail;refine bodyPost_ret (v:=.tuple #[.agg #[.int .i64 (ver + 1),.slice (some ⟨g,0,none⟩) (l.length + 1) cap],.int .i64 0]) (by simp [results,Tryz.results66,go_sem, *]) rfl ⟨_,rfl,?_,?_⟩
       ·exact (((HA2.out.1.drewN _).setCell (by simp) _).setCell (by simp) _)
       ·have ho : Jh 3 1 inc (w.heap.size + 1 + 1) wr (.slice (some ⟨g,0,none⟩) (l.length + 1) cap) (insI id l):=by rw [hfin];exact HB2.out
        exact (((ho.drewN _).set (by simp) _).set (by simp) _).lower (by omega)

section
variable {α : Type} [Inhabited α] {k b n base : Nat} {P Q own : Nat -> Prop} {enc : α -> Array Value} {w w' w0 : World} {v : Value} {l : List α} {e : TypeId} {gl : List Gt} {x : Sv} {s : St} {y : Gy}
theorem RdP.fr (h : RdP P k enc w v l) (hf : Fr own w w') (hn : ∀ q,own q -> ¬ P q) : RdP P k enc w' v l:=by
 refine ⟨?_,h.2⟩
 by_cases h0 : 0 < l.length
 ·exact hf.rd h.1 (fun q hq ho=>hn q ho (h.2 h0 q hq))
 ·obtain ⟨A,c,hv,h1,h2,-⟩:=h.1
  exact ⟨A,c,hv,h1,h2,fun hp=>absurd hp h0⟩
abbrev RdQ (P : Nat -> Prop) (n : Nat) (k : Nat) (enc : α -> Array Value) (w : World) (v : Value) (l : List α) : Prop:=RdP (fun q=>P q \/ n <= q) k enc w v l
theorem RdQ.Jl {a : Addr} {u : Value} (hP : ∀ q,P q -> q < b) (ha : b <= a.block /\ a.block < n) (h : RdQ P n k enc w v l) : RdQ P n k enc (w.setCell a u) v l :=
 RdP.Jl (fun h2=>h2.elim (fun h2=>by have:=hP _ h2;omega) (fun h2=>by omega)) h
theorem RdQ.fr (hP : ∀ q,P q -> q < b) (hn : ∀ q,own q -> b <= q /\ q < n) (hf : Fr own w w') (h : RdQ P n k enc w v l) : RdQ P n k enc w' v l :=
 RdP.fr h hf (fun q ho h2=>h2.elim (fun h2=>by have:=hP _ h2;have:=hn q ho;omega) (fun h2=>by have:=hn q ho;omega))
theorem RdP.inl (h : RdP P k enc w v l) : RdQ P n k enc w v l:=h.weak (fun q hq=>.inl hq)
theorem RdQ.down {m : Nat} (h : RdQ P n k enc w v l) (hm : m <= n) : RdQ P m k enc w v l:=RdP.weak h (fun q hq=>hq.elim .inl (fun hq=>.inr (by omega)))
theorem RdL.inP (h : RdL k enc w v l) (hP : ∀ q,q < w.heap.size -> P q) : RdP P k enc w v l:=⟨h,fun h0 q hq=>hP q (by have:=RdL.inB h (Nat.le_refl _) h0 q hq;omega)⟩
theorem Jh.rdq (h : Jh e k enc base w v l) (hk : ∀ x,(enc x).size = k) (hn : n <= base) : RdQ P n k enc w v l:=⟨h.rd hk,fun _ q hq=>.inr (by have:=(h.lt q hq).1;omega)⟩
def GyP (P : Nat -> Prop) (w : World) (y : Gy) : Prop:=RdP P 5 tpc w y.sa y.g.Jn /\ RdP P 1 inc w y.si y.g.Jb.ids
def RdGP (P : Nat -> Prop) (w : World) (v : Value) (gl : List Gt) : Prop:=∃ ys : List Gy,gl = ys.map (·.g) /\ RdP P 8 gyc w v ys /\ ∀ y ∈ ys,GyP P w y
structure JX (P : Nat -> Prop) (w : World) (x : Sv) (s : St) : Prop where
 tk : RdP P 6 tkc w x.s0 s.Ja.Jc
 tp : RdP P 5 tpc w x.s1 s.Ja.Jf
 vd : RdP P 1 inc w x.s2 s.Ja.Jd
 dn : RdP P 1 inc w x.si s.Jb.ids
 gt : RdGP P w x.sg s.Jg
 vw : RdP P 3 vwc w x.sv s.Jj
omit [Inhabited α] in
theorem GyP.rd (h : GyP P w y) : GyR w y:=⟨h.1.rd,h.2.rd⟩
omit [Inhabited α] in
theorem GyP.weak (h : GyP P w y) (hPQ : ∀ q,P q -> Q q) : GyP Q w y:=⟨h.1.weak hPQ,h.2.weak hPQ⟩
omit [Inhabited α] in
theorem GyP.ext (h : GyP P w y) (he : Ext w w') : GyP P w' y:=⟨h.1.ext he,h.2.ext he⟩
omit [Inhabited α] in
theorem RdGP.rd (h : RdGP P w v gl) : RdG w v gl:=by
 obtain ⟨ys,h1,h2,h3⟩:=h;exact ⟨ys,h1,h2.rd,fun y hy=>(h3 y hy).rd⟩
omit [Inhabited α] in
theorem RdGP.weak (h : RdGP P w v gl) (hPQ : ∀ q,P q -> Q q) : RdGP Q w v gl:=by
 obtain ⟨ys,h1,h2,h3⟩:=h;exact ⟨ys,h1,h2.weak hPQ,fun y hy=>(h3 y hy).weak hPQ⟩
omit [Inhabited α] in
theorem RdGP.ext (h : RdGP P w v gl) (he : Ext w w') : RdGP P w' v gl:=by
 obtain ⟨ys,h1,h2,h3⟩:=h;exact ⟨ys,h1,h2.ext he,fun y hy=>(h3 y hy).ext he⟩
omit [Inhabited α] in
theorem RdGP.fr (h : RdGP P w v gl) (hf : Fr own w w') (hn : ∀ q,own q -> ¬ P q) : RdGP P w' v gl:=by
 obtain ⟨ys,h1,h2,h3⟩:=h;exact ⟨ys,h1,h2.fr hf hn,fun y hy=>⟨(h3 y hy).1.fr hf hn,(h3 y hy).2.fr hf hn⟩⟩
omit [Inhabited α] in
theorem RdGP.at_ (h : RdGP P w v gl) {A : Option Addr} {n c : Nat} (hv : v = .slice A n c) {k : Nat} (hk : k < gl.length) : ∃ b o sa si,A = some ⟨b,o,none⟩ /\ b < w.heap.size /\
  RdP P 5 tpc w sa gl[k].Jn /\ RdP P 1 inc w si gl[k].Jb.ids /\
  w.cell? ⟨b,o + k * 8,none⟩ = some (.int .i64 gl[k].id) /\ w.cell? ⟨b,o + k * 8 + 1,none⟩ = some (.int .i64 gl[k].zone) /\ w.cell? ⟨b,o + k * 8 + 2,none⟩ = some (.int .i64 gl[k].seq) /\ w.cell? ⟨b,o + k * 8 + 3,none⟩ = some sa /\
  w.cell? ⟨b,o + k * 8 + 4,none⟩ = some (.int .i64 gl[k].Jb.Jk) /\ w.cell? ⟨b,o + k * 8 + 5,none⟩ = some si /\ w.cell? ⟨b,o + k * 8 + 6,none⟩ = some (.int .i64 gl[k].left) /\ w.cell? ⟨b,o + k * 8 + 7,none⟩ = some (.int .i64 gl[k].JP):=by
 subst hv;obtain ⟨ys,rfl,h2,h3⟩:=h
 have hk' : k < ys.length:=by simpa using hk
 obtain ⟨b,o,c',hv,hb,hc⟩:=h2.rd.at_ hk'
 injection hv with hA
 have hy:=h3 ys[k] (List.getElem_mem hk');simp only [List.getElem_map];exact ⟨b,o,ys[k].sa,ys[k].si,hA,hb,hy.1,hy.2,hc 0 _ rfl,hc 1 _ rfl,hc 2 _ rfl,hc 3 _ rfl,hc 4 _ rfl,hc 5 _ rfl,hc 6 _ rfl,hc 7 _ rfl⟩
omit [Inhabited α] in
theorem RdGP.nil : RdGP P w (.slice none 0 0) []:=⟨[],rfl,RdP.nil,fun y h=>by cases h⟩
omit [Inhabited α] in
theorem JX.rd (h : JX P w x s) : RdS w x s:=⟨h.tk.rd,h.tp.rd,h.vd.rd,h.dn.rd,h.gt.rd,h.vw.rd⟩
omit [Inhabited α] in
theorem JX.ext (h : JX P w x s) (he : Ext w w') : JX P w' x s:=⟨h.tk.ext he,h.tp.ext he,h.vd.ext he,h.dn.ext he,h.gt.ext he,h.vw.ext he⟩
omit [Inhabited α] in
theorem JX.weak (h : JX P w x s) (hPQ : ∀ q,P q -> Q q) : JX Q w x s:=⟨h.tk.weak hPQ,h.tp.weak hPQ,h.vd.weak hPQ,h.dn.weak hPQ,h.gt.weak hPQ,h.vw.weak hPQ⟩
omit [Inhabited α] in
theorem JX.inl (h : JX P w x s) : JX (fun q=>P q \/ n <= q) w x s:=h.weak (fun q hq=>.inl hq)
omit [Inhabited α] in
theorem JX.fr (h : JX P w x s) (hf : Fr own w w') (hn : ∀ q,own q -> ¬ P q) : JX P w' x s:=⟨h.tk.fr hf hn,h.tp.fr hf hn,h.vd.fr hf hn,h.dn.fr hf hn,h.gt.fr hf hn,h.vw.fr hf hn⟩
omit [Inhabited α] in
theorem JX.Jl {a : Addr} {u : Value} (ha : ¬ P a.block) (h : JX P w x s) : JX P (w.setCell a u) x s :=
 h.fr (own:=fun q=>q = a.block) (Fr.Jl rfl (Fr.refl _ _)) (by rintro q rfl;exact ha)
omit [Inhabited α] in
theorem JX.nil : JX P w sv0 st0:=⟨RdP.nil,RdP.nil,RdP.nil,RdP.nil,RdGP.nil,RdP.nil⟩
omit [Inhabited α] in
theorem RdS.inP (h : RdS w x s) (hP : ∀ q,q < w.heap.size -> P q) : JX P w x s:=by
 obtain ⟨ys,h1,h2,h3⟩:=h.gt;exact ⟨h.tk.inP hP,h.tp.inP hP,h.vd.inP hP,h.dn.inP hP,⟨ys,h1,h2.inP hP,fun y hy=>⟨(h3 y hy).1.inP hP,(h3 y hy).2.inP hP⟩⟩,h.vw.inP hP⟩
end

theorem info_gtC : (Tryz.prog.info? 52).map (fun i=>(i.zero,i.size,i.bytes)) = some (some (.agg #[.int .i64 0,.int .i64 0,.int .i64 0,.slice none 0 0,.int .i64 0,.slice none 0 0,.int .i64 0,.int .i64 0]),8,96):=by kernel_rfl
theorem gyc_ones {w : World} {ys : List Gy} (h : ∀ y ∈ ys,GyR w y) : ∀ u ∈ encs gyc ys,u.oneCell' = true:=by
 intro u hu;obtain ⟨y,hy,hx⟩:=List.mem_flatMap.1 hu;obtain ⟨A,c,h1,-,-⟩:=(h y hy).1.form;obtain ⟨A2,c2,h2,-,-⟩:=(h y hy).2.form
 simp [gyc,gta,h1,h2] at hx
 (rcases hx with rfl | rfl | rfl | rfl | rfl | rfl | rfl | rfl) <;> rfl
theorem ref_copied (s : St) (x : Sv) (w : World) (hr : RdS w x s) (ys : List Gy) (hys : s.Jg = ys.map (·.g)) (hrow : RdL 8 gyc w x.sg ys) (hin : ∀ y ∈ ys,GyR w y) (hg : s.Jg.length <= 100) :
  Calls Tryz.prog 61 #[.agg (sta s x)] w fun e w'=>∃ sg',e = .returned (.agg (sta s ⟨x.s0,x.s1,x.s2,x.si,sg',x.sv⟩)) /\ Ext w w' /\ Jh 52 8 gyc w.heap.size w' sg' ys:=by
 have hyl : ys.length <= 100:=by rw [hys] at hg;simpa using hg
 have HROW:=hH hrow;have HYS:=hH (And.intro hys (And.intro hin hyl));obtain ⟨i0,ji,ji0,ji1,ji2⟩:=info_parts info_gtC;obtain ⟨A0,c0,e0,-,-⟩:=hr.tk.form;obtain ⟨A1,c1,e1,-,-⟩:=hr.tp.form;obtain ⟨A2,c2,e2,-,-⟩:=hr.vd.form;obtain ⟨A3,c3,e3,-,-⟩:=hr.dn.form;obtain ⟨A4,c4,e4,-,-⟩:=hrow.form;obtain ⟨A5,c5,e5,-,-⟩:=hr.vw.form;obtain ⟨s0,s1,s2,si,sg,sv⟩:=x;simp only at e0 e1 e2 e3 e4 e5;subst e0 e1 e2 e3 e4 e5;clear hr hys hrow hin hyl hg;unfold sta;simp only at HROW ⊢;go_enter Tryz.func61,Tryz.ntmps61
 go_wp2_with (at_builtin;go_loud (refine JC (enc:=gyc) (k:=8) _ rfl _ _ 29 rfl (w.heap.size + 1 + 1) 52 i0 (.agg #[.int .i64 0,.int .i64 0,.int .i64 0,.slice none 0 0,.int .i64 0,.slice none 0 0,.int .i64 0,.int .i64 0]) 96 Tryz.underlying29 ji ji0 ji1 ji2 rfl (by decide) Jz _ ([] : List Gy) rfl (Jh.made (base:=w.heap.size + 1 + 1) (by simp) (by simp)) _ ys rfl (HROW.out.ext ((((Ext.refl _).alloc _).alloc _).alloc _)) (gyc_ones HYS.out.2.1) ?g1 ?g2 (by simp) ?_))
 case g1=>have:=HYS.out.2.2;unfold maxLen;simp;omega
 case g2=>have:=HYS.out.2.2;simp;omega
 intro v8 w8 ho8 hg8 hn8;obtain ⟨B8,d8,rfl⟩:=ho8.form;(try simp only [List.nil_append] at ho8);have HO8:=hH ho8;have HE8:=hH (Ext.grown ((((Ext.refl w).alloc (.cells #[.slice A0 s.Ja.Jc.length c0,.slice A1 s.Ja.Jf.length c1,.slice A2 s.Ja.Jd.length c2,.int .i64 s.Jb.Jk,.slice A3 s.Jb.ids.length c3,.slice A4 ys.length c4,.slice A5 s.Jj.length c5] 32)).alloc (.cells #[.slice none 0 0,.slice none 0 0,.slice none 0 0,.int .i64 0,.slice none 0 0,.slice none 0 0,.slice none 0 0] 32)).alloc (.cells #[] 52)) hg8 (fun q hq=>by simp [Value.ownBlock] at hq;omega));have HR0:=hH (show Row w8 w.heap.size #[.slice A0 s.Ja.Jc.length c0,.slice A1 s.Ja.Jf.length c1,.slice A2 s.Ja.Jd.length c2,.int .i64 s.Jb.Jk,.slice A3 s.Jb.ids.length c3,.slice A4 ys.length c4,.slice A5 s.Jj.length c5] from Row.grown (Row.alloc (Row.alloc (Row.newAt rfl))) hg8 (fun h=>by simp [Value.ownBlock] at h;omega));have HR1:=hH (show Row w8 (w.heap.size + 1) #[.slice none 0 0,.slice none 0 0,.slice none 0 0,.int .i64 0,.slice none 0 0,.slice none 0 0,.slice none 0 0] from Row.grown (Row.alloc (Row.newAt (by simp))) hg8 (fun h=>by simp [Value.ownBlock] at h));have hz8:=HR1.out.1;clear ho8 hg8 hn8;(refine Ji w8 w.heap.size fun q8_0 f8_0 l8_0 R8_0=>?_;refine Ji w8 (w.heap.size + 1) fun q8_1 f8_1 l8_1 R8_1=>?_);go_wp2_with fail;refine bodyPost_ret (v:=.agg #[.slice A0 s.Ja.Jc.length c0,.slice A1 s.Ja.Jf.length c1,.slice A2 s.Ja.Jd.length c2,.int .i64 s.Jb.Jk,.slice A3 s.Jb.ids.length c3,.slice B8 ys.length d8,.slice A5 s.Jj.length c5]) (by simp [results,Tryz.results61,go_sem, *]) rfl ⟨.slice B8 ys.length d8,rfl,(Je : Ext w _),?_⟩;refine Jh.lower (base:=w.heap.size + 1 + 1) ?_ (by omega)
 repeat (refine Jh.Jl (by simp <;> omega) ?_)
 exact HO8.out

theorem bs0_tk {d : Option Tmp} {ps : String} {af : Array Edge} {ty : TypeId} {Q : Exit -> Act -> World -> Prop} (a : Act) (w : World) (K : Act -> World -> Prop) (h : K (a.put d (.slice (some ⟨w.heap.size,0,none⟩) 0 0)) (w.alloc (.cells #[] 34))) :
  Oper.wp Tryz.prog { dst:=d,op:=.buildSlice 22 0 #[],type:=ty,pos:=ps,after:=af,guard:=none } a w K Q:=by
 go_simp;exact h
theorem bs1_tk {d : Option Tmp} {ps : String} {af : Array Edge} {ty : TypeId} {px : Nat} {Q : Exit -> Act -> World -> Prop} (p : Tk) (a : Act) (w : World) (K : Act -> World -> Prop) (hp : a.eval (.tmp px) = .agg (tkc p)) (h : K (a.put d (.slice (some ⟨w.heap.size,0,none⟩) 1 1)) (w.alloc (.cells (tkc p) 34))) :
  Oper.wp Tryz.prog { dst:=d,op:=.buildSlice 22 1 #[(0,.tmp px)],type:=ty,pos:=ps,after:=af,guard:=none } a w K Q:=by
 unfold tkc at hp h;simp only [Act.eval,Array.getD_eq_getD_getElem?] at hp;go_simp;exact h
theorem ref_SellOf (l : Ld) (s0 s1 s2 : Value) (t : Tk) (w : World) (hck : Js l = 0) (hr0 : RdL 6 tkc w s0 l.Jc) (hr1 : RdL 5 tpc w s1 l.Jf) (hr2 : RdL 1 inc w s2 l.Jd) (PB : Nat -> Prop) (hb1 : InP PB s1 l.Jf) (hb2 : InP PB s2 l.Jd) :
  Calls Tryz.prog 59 #[.agg #[s0,s1,s2],.agg (tkc t)] w fun e w'=>∃ t0 t1 t2,e = .returned (.tuple #[.agg #[t0,t1,t2],.int .i64 (ZZ l t).2]) /\ Ext w w' /\ RdP (fun q=>PB q \/ w.heap.size <= q) 6 tkc w' t0 (ZZ l t).1.Jc /\ RdP (fun q=>PB q \/ w.heap.size <= q) 5 tpc w' t1 (ZZ l t).1.Jf /\ RdP (fun q=>PB q \/ w.heap.size <= q) 1 inc w' t2 (ZZ l t).1.Jd:=by
 have h12:=(J6.1 hck).1;have hsorted:=(XK (J6.1 hck).2.2.2.1).1;have HCT:=hH (fun (w' : World)=>ref_CheckTicket t w');have HTA:=hH (fun w' (h : Ext w w')=>ref_TicketAt l.Jc t.id s0 w' (hr0.ext h));have HTR:=hH hr0;have HT1:=hH hr1;have HB1:=hH hb1;have HB2:=hH hb2;clear hb1 hb2;have HT2:=hH hr2;obtain ⟨A0,c0,rfl,-,-⟩:=hr0.form;obtain ⟨A,c,rfl,-,-⟩:=hr1.form;obtain ⟨A2,c2,rfl,-,-⟩:=hr2.form;clear hr0 hr1 hr2
 have hX : ZZ l t = if JB t ≠ 0 then (ld0,JB t) else if l.Jc.any (fun x=>x.id == t.id) = true then (ld0,6) else if l.Jc.length = 12 then (ld0,2) else (⟨ZK t l.Jc,l.Jf,l.Jd⟩,0):=rfl
 have hix:=XA l.Jc t.id;generalize ZZ l t = X at *;generalize XI (fun x=>x.id == t.id) l.Jc = ix at *;have htk : tkc t = #[.int .i64 t.id,.int .i64 t.kind,.int .i64 t.frm,.int .i64 t.til,.int .i64 t.JS,.int .i64 t.rides]:=rfl;rw [htk] at HCT ⊢
 by_cases hc : JB t = 0
 case neg =>
  rw [if_pos hc] at hX;subst hX
  have hcb : (JB t != 0) = true:=by simpa using hc
  clear hix hsorted;generalize JB t = q at *;clear hc;go_enter Tryz.func59,Tryz.ntmps59;go_wp2_with fail;(refine gA (HCT.out _) fun w1 H1 hz1=>?_;refine Ji w1 w.heap.size fun q1_0 f1_0 l1_0 R1_0=>?_;refine Ji w1 (w.heap.size + 1) fun q1_1 f1_1 l1_1 R1_1=>?_;refine Ji w1 (w.heap.size + 1 + 1) fun q1_2 f1_2 l1_2 R1_2=>?_);go_wp2_with fail;refine bodyPost_ret (v:=.tuple #[.agg #[.slice none 0 0,.slice none 0 0,.slice none 0 0],.int .i64 q]) (by simp [results,Tryz.results59,go_sem, *]) rfl ⟨_,_,_,rfl,(Je : Ext w _),RdP.nil,RdP.nil,RdP.nil⟩
 rw [if_neg (by simpa using hc)] at hX;rw [hc] at HCT
 rcases hix with ⟨rfl,hno⟩ | ⟨k,hkl,rfl,hsome⟩
 case inr =>
  obtain ⟨hm,hid⟩:=ticketOf_mem hsome;rw [if_pos (List.any_eq_true.2 ⟨_,hm,by simpa using hid⟩)] at hX;subst hX
  have hk0 : (0 : Int) <= (k : Int):=by omega
  have hk0d : decide ((0 : Int) <= (k : Int)) = true:=decide_eq_true hk0;clear hsome hsorted hm hid;go_enter Tryz.func59,Tryz.ntmps59;go_wp2_with fail;(refine gA (HCT.out _) fun w1 H1 hz1=>?_;refine Ji w1 w.heap.size fun q1_0 f1_0 l1_0 R1_0=>?_;refine Ji w1 (w.heap.size + 1) fun q1_1 f1_1 l1_1 R1_1=>?_;refine Ji w1 (w.heap.size + 1 + 1) fun q1_2 f1_2 l1_2 R1_2=>?_);go_wp2_with fail;(refine gA (HTA.out _ Je) fun w2 H2 hz2=>?_;refine Ji w2 w.heap.size fun q2_0 f2_0 l2_0 R2_0=>?_;refine Ji w2 (w.heap.size + 1) fun q2_1 f2_1 l2_1 R2_1=>?_;refine Ji w2 (w.heap.size + 1 + 1) fun q2_2 f2_2 l2_2 R2_2=>?_);go_wp2_with fail;refine bodyPost_ret (v:=.tuple #[.agg #[.slice none 0 0,.slice none 0 0,.slice none 0 0],.int .i64 6]) (by simp [results,Tryz.results59,go_sem, *]) rfl ⟨_,_,_,rfl,(Je : Ext w _),RdP.nil,RdP.nil,RdP.nil⟩
 have hn : ∀ x ∈ l.Jc,x.id ≠ t.id:=by
  intro x hx hh;unfold JU at hno;have:=List.find?_eq_none.1 hno x hx
  simp [hh] at this
 rw [if_neg (by
  rw [List.any_eq_true];rintro ⟨x,hx,hh⟩
  exact hn x hx (by simpa using hh))] at hX
 clear hno
 by_cases h2 : l.Jc.length = 12
 case pos =>
  rw [if_pos h2] at hX;subst hX
  have h2b : ((l.Jc.length : Int) == 12) = true:=by rw [beq_iff_eq];omega
  clear h2 hn hsorted h12;go_enter Tryz.func59,Tryz.ntmps59;go_wp2_with fail;(refine gA (HCT.out _) fun w1 H1 hz1=>?_;refine Ji w1 w.heap.size fun q1_0 f1_0 l1_0 R1_0=>?_;refine Ji w1 (w.heap.size + 1) fun q1_1 f1_1 l1_1 R1_1=>?_;refine Ji w1 (w.heap.size + 1 + 1) fun q1_2 f1_2 l1_2 R1_2=>?_);go_wp2_with fail;(refine gA (HTA.out _ Je) fun w2 H2 hz2=>?_;refine Ji w2 w.heap.size fun q2_0 f2_0 l2_0 R2_0=>?_;refine Ji w2 (w.heap.size + 1) fun q2_1 f2_1 l2_1 R2_1=>?_;refine Ji w2 (w.heap.size + 1 + 1) fun q2_2 f2_2 l2_2 R2_2=>?_);go_wp2_with fail;refine bodyPost_ret (v:=.tuple #[.agg #[.slice none 0 0,.slice none 0 0,.slice none 0 0],.int .i64 2]) (by simp [results,Tryz.results59,go_sem, *]) rfl ⟨_,_,_,rfl,(Je : Ext w _),RdP.nil,RdP.nil,RdP.nil⟩
 rw [if_neg h2] at hX;subst hX
 have h2b : ((l.Jc.length : Int) == 12) = false:=by rw [beq_eq_false_iff_ne];omega
 have HSO:=hH (fun (k : Nat) (hk : k <= l.Jc.length) (hb : ∀ (i : Nat) (hi : i < l.Jc.length),k <= i -> t.id < l.Jc[i].id) (ha : k = 0 \/ ∃ h : k - 1 < l.Jc.length,l.Jc[k - 1].id <= t.id)=>insAt_end hsorted hn hk hb ha);clear h2 hn hsorted hc;obtain ⟨i0,ji,ji0,ji1,ji2⟩:=info_parts info_tk;go_enter Tryz.func59,Tryz.ntmps59;go_wp2_with fail;(refine gA (HCT.out _) fun w1 H1 hz1=>?_;refine Ji w1 w.heap.size fun q1_0 f1_0 l1_0 R1_0=>?_;refine Ji w1 (w.heap.size + 1) fun q1_1 f1_1 l1_1 R1_1=>?_;refine Ji w1 (w.heap.size + 1 + 1) fun q1_2 f1_2 l1_2 R1_2=>?_);go_wp2_with fail;(refine gA (HTA.out _ Je) fun w2 H2 hz2=>?_;refine Ji w2 w.heap.size fun q2_0 f2_0 l2_0 R2_0=>?_;refine Ji w2 (w.heap.size + 1) fun q2_1 f2_1 l2_1 R2_1=>?_;refine Ji w2 (w.heap.size + 1 + 1) fun q2_2 f2_2 l2_2 R2_2=>?_);go_upto_region 9 with fail;(apply wp_gen4 (w0:=w2) (g0:=w.heap.size) (g1:=w.heap.size + 1) (g2:=w.heap.size + 1 + 1) (g3:=w2.heap.size);(focus (exact rowA));(focus (exact rowA));(focus (exact rowA));(focus (exact rowA));(focus (exact Je));intro Y HY hzY Ra_0 Ra_1 Ra_2 Ra_3;(try simp only [Jm,World.size_alloc,size_set,World.heap_drewN,size_drew] at hzY Ra_0 Ra_1 Ra_2 Ra_3);have la_0:=Ra_0.out.size;have la_1:=Ra_1.out.size;have la_2:=Ra_2.out.size;have la_3:=Ra_3.out.size);have HK:=hH (fun w' (h : Ext Y w')=>And.intro (Row.ext h Ra_0.out).2.1 ((Row.ext h Ra_1.out).2.1));(refine Jw (fun w'=>Ext Y w') 6 (by kernel_rfl) ((Ext.refl _).drew) (fun hS=>?_);simp only [List.length_cons,List.length_nil]);(refine tkR 1 HK hS ?_;refine tkR 2 HK hS ?_;refine tkR 4 HK hS ?_)
 have hwy : Ext w Y:=by exact Je
 refine T_jobs' 4 (fun _=>False) 0 [⟨0,28,none,none,34,6,([] : List Tk).length,encs tkc []⟩,⟨5,33,none,none,34,6,[t].length,encs tkc [t]⟩,⟨3,31,some 0,none,34,6,([] ++ l.Jc).length,encs tkc ([] ++ l.Jc)⟩,⟨6,34,some 2,some 1,34,6,(([] ++ l.Jc) ++ [t]).length,encs tkc (([] ++ l.Jc) ++ [t])⟩] [false,false,false,false]
  (fun _=>none) rfl rfl (by kernel_rfl) (by kernel_rfl) (by kernel_rfl) (by kernel_rfl) ?hd ?hb ?hI ?hg ?hS ?hj ?hf
 case hd=>intro q J hq;rcases q with _ | _ | _ | _ | q <;> simp only [List.getElem?_cons_zero,List.getElem?_cons_succ,List.getElem?_nil,Option.some.injEq,reduceCtorEq] at hq <;> subst hq <;> simp
 case hb=>exact Nat.zero_le _
 case hI=>exact Inv.none
 case hg=>intro q J hq hb;rcases q with _ | _ | _ | _ | q <;> simp only [List.getElem?_cons_zero,List.getElem?_cons_succ,List.getElem?_nil,Option.some.injEq,reduceCtorEq] at hq hb <;> simp at hb
 case hS=>exact fun W h=>hS.trans h.ext
 case hj =>
  intro q J hq hb
  rcases q with _ | _ | _ | _ | q <;> simp only [List.getElem?_cons_zero,List.getElem?_cons_succ,List.getElem?_nil,Option.some.injEq,reduceCtorEq] at hq hb <;> subst hq
  ·refine Zu (enc:=tkc) [] JH rfl rfl rfl rfl rfl (by simp [maxLen]) rfl (fun a _=>Jt rfl) (fun a W K hag hK=>bs0_tk a W K ?_)
   simpa [encs] using hK
  ·refine Zu (enc:=tkc) [t] JH rfl rfl rfl rfl rfl (by simp [maxLen]) rfl (fun a _=>Jt rfl) (fun a W K hag hK=>bs1_tk t a W K ?_ ?_)
   ·rw [hag.eval (by rfl)];rfl
   ·simpa [encs] using hK
  ·exact ZF (enc:=tkc) (px:=0) (yt:=30) [] l.Jc Tryz.underlying22 ji ji0 ji1 ji2 rfl (by decide) JH rfl rfl ⟨rfl,rfl,rfl,rfl⟩ ⟨rfl,rfl,rfl,rfl⟩ _ (by rfl) rfl (fun W h=>HTR.out.ext (hwy.trans (hS.trans h.ext))) rfl (fun a _=>Jt rfl) rfl rfl (tk_one _) (by unfold maxLen;simp;omega) (by simp;omega)
  ·exact owes_app (enc:=tkc) (px:=2) (py:=1) ([] ++ l.Jc) [t] Tryz.underlying22 ji ji0 ji1 ji2 rfl (by decide) JH rfl rfl rfl rfl ⟨rfl,rfl,rfl,rfl⟩ ⟨rfl,rfl,rfl,rfl⟩ ⟨rfl,rfl,rfl,rfl⟩ rfl (fun a _=>Jt rfl) rfl rfl (tk_one [t]) (by unfold maxLen;simp;omega) (by simp;omega)
 case hf =>
  intro f Z rows hinv hrows;have h3:=hrows 3 _ rfl (by intro q K hq;rcases q with _ | _ | _ | _ | q <;> simp only [List.getElem?_cons_zero,List.getElem?_cons_succ,List.getElem?_nil,Option.some.injEq,reduceCtorEq] at hq <;> subst hq <;> simp);have o3 : Jh 34 6 tkc 0 Z (f 3) (([] ++ l.Jc) ++ [t]):=hinv.ok 3 _ h3;have HZ:=hH (hS.trans hinv.fr.ext)
  have hm3 : ∀ q,(f 3).ownBlock = some q -> Y.heap.size <= q:=fun q h=>by
   rcases hinv.home 3 _ _ h3 h with h | h
   ·simpa using h
   ·exact absurd h id
  clear hinv hrows h3 hS;simp only [XQ,if_true,if_false,Bool.false_eq_true,Act.put,Jm,Nat.zero_add,Nat.reduceAdd];generalize f 3 = v3 at *;obtain ⟨g,d3,rfl,-,hgZ,hd3⟩:=o3.slot (by simp);have hgY:=hm3 g rfl;clear hm3;rw [List.nil_append] at o3;rw [show (([] ++ l.Jc) ++ [t] : List Tk).length = l.Jc.length + 1 by simp] at hd3 ⊢;rw [show (l.Jc ++ [t]).length = l.Jc.length + 1 by simp] at o3;have HO3:=hH o3;clear o3;(refine Ji Z w2.heap.size fun qn_0 fn_0 ln_0 Rn_0=>?_);((refine oA 7 fun K hK=>?_;go_simp;refine hK.out _ _ (.inl (by kernel_rfl)) ?_;clear hK;(try simp only [Act.put,Jm])));(refine oA 8 fun K hK=>?_;go_simp;refine hK.out _ _ (.inl (by kernel_rfl)) ?_;clear hK;(try simp only [Act.put,Jm]);refine Ju (by kernel_rfl) ?_ _);obtain ⟨V,hV⟩ : ∃ V : World,V = Z.setCell ⟨w2.heap.size,0,none⟩ (.slice (some ⟨g,0,none⟩) (l.Jc.length + 1) d3):=⟨_,rfl⟩;rw [<- hV]
  have HV : Hid (Ext w V):=hH (by
   rw [hV]
   exact Je)
  have HR0 : Hid (Row V w.heap.size #[.slice A0 l.Jc.length c0,.slice A l.Jf.length c,.slice A2 l.Jd.length c2]):=hH (by
   rw [hV]
   exact Row.far (p:=⟨w2.heap.size,0,none⟩) (show w.heap.size ≠ w2.heap.size by omega) (Row.ext HZ.out Ra_0.out))
  have HR2 : Hid (Row V (w.heap.size + 1 + 1) #[.slice none 0 0,.slice none 0 0,.slice none 0 0]):=hH (by
   rw [hV]
   exact Row.far (p:=⟨w2.heap.size,0,none⟩) (show w.heap.size + 1 + 1 ≠ w2.heap.size by omega) (Row.ext HZ.out Ra_2.out))
  have HR3 : Hid (Row V w2.heap.size #[.slice (some ⟨g,0,none⟩) (l.Jc.length + 1) d3,.slice A l.Jf.length c,.slice A2 l.Jd.length c2]):=hH (by
   rw [hV];have:=Rn_0.out.J4 (i:=0) (u:=.slice (some ⟨g,0,none⟩) (l.Jc.length + 1) d3)
   simpa using this)
  have HOV : Hid (Jh 34 6 tkc 0 V (.slice (some ⟨g,0,none⟩) (l.Jc.length + 1) d3) (insAt t l.Jc l.Jc.length)):=hH (by
   rw [hV,insAt_all]
   exact HO3.out.put (by simp [Value.ownBlock];omega) _)
  clear hV HO3 HK;(refine Ji V w.heap.size fun qv_0 fv_0 lv_0 Rv_0=>?_;refine Ji V (w.heap.size + 1 + 1) fun qv_1 fv_1 lv_1 Rv_1=>?_;refine Ji V w2.heap.size fun qv_2 fv_2 lv_2 Rv_2=>?_)
  have hgw : w2.heap.size < g:=by omega
  have HGQ:=hH (show ∀ q,(Value.slice (some ⟨g,0,none⟩) (l.Jc.length + 1) d3).ownBlock = some q -> w.heap.size <= q from fun q hq=>by simp [Value.ownBlock] at hq;omega)
  have hgv : w.heap.size + 1 + 1 < w2.heap.size:=by omega
  clear HZ hgZ hgY HTA;go_wp2_with fail
  go_loopg [8] l.Jc.length (fun gg s8 wr=>∃ k : Nat,k <= l.Jc.length /\ k <= gg /\ s8 = .int .i64 k /\ Aside (Ext w wr /\ Row wr w2.heap.size #[.slice (some ⟨g,0,none⟩) (l.Jc.length + 1) d3,.slice A l.Jf.length c,.slice A2 l.Jd.length c2] /\ Row wr (w.heap.size + 1 + 1) #[.slice none 0 0,.slice none 0 0,.slice none 0 0] /\ Jh 34 6 tkc 0 wr (.slice (some ⟨g,0,none⟩) (l.Jc.length + 1) d3) (insAt t l.Jc k)) /\ Aside (∀ (i : Nat) (hi : i < l.Jc.length),k <= i -> t.id < l.Jc[i].id))
  case atStart=>exact ⟨l.Jc.length,Nat.le_refl _,Nat.le_refl _,by go_num,⟨HV.out,HR3.out,HR2.out,HOV.out⟩,fun i hi hk=>absurd hk (by omega)⟩
  case round =>
   obtain ⟨k,hk,hg,rfl,HW,HA⟩:=hrel;have HE:=hH HW.out.1;have HQ3:=hH HW.out.2.1;have HQ2:=hH HW.out.2.2.1;have HOW:=hH HW.out.2.2.2;clear HW HR0 HR2 HR3 HOV HV;clear qv_0 fv_0 qv_1 fv_1 qv_2 fv_2;(refine Ji wr (w.heap.size + 1 + 1) fun qr_0 fr_0 lr_0 Rr_0=>?_;refine Ji wr w2.heap.size fun qr_1 fr_1 lr_1 Rr_1=>?_);have HNE:=hH (show (Value.slice (some ⟨g,0,none⟩) (l.Jc.length + 1) d3).ownBlock ≠ some (w.heap.size + 1 + 1) by simp [Value.ownBlock];omega)
   by_cases h0 : k = 0
   ·subst h0
    have HF:=hH (HSO.out 0 (Nat.zero_le _) HA.out (.inl rfl));have hk0 : decide ((0 : Int) < ((0 : Nat) : Int)) = false:=rfl;go_wp2_with fail;(try (go_quiet (fail);go_wp2_with fail));refine bodyPost_ret (v:=.tuple #[.agg #[.slice (some ⟨g,0,none⟩) (l.Jc.length + 1) d3,.slice A l.Jf.length c,.slice A2 l.Jd.length c2],.int .i64 0]) (by simp [results,Tryz.results59,go_sem, *]) rfl ⟨_,_,_,rfl,(Je : Ext w _),?_,(HT1.out.ext (Je : Ext w _)).oldP HB1.out,(HT2.out.ext (Je : Ext w _)).oldP HB2.out⟩;rw [<- HF.out];exact (((((HOW.out.drewN _).put HNE.out _).put HNE.out _).put HNE.out _).rd JH).freshP HGQ.out
   ·have hkd : decide (0 < k) = true:=decide_eq_true (by omega)
    have hkd2 : decide ((0 : Int) < (k : Int)) = true:=decide_eq_true (by omega);obtain ⟨m,hkm⟩ : ∃ m,k = m + 1:=⟨k - 1,by omega⟩
    have hwm : IntKind.i64.wrap ((k : Int) - 1) = (m : Int):=by rw [IntWalk.i64_in _ (by omega)];omega
    have hm0 : 0 <= (m : Int):=by omega
    have hk0 : 0 <= (k : Int):=by omega
    have hki : (k : Int) < (l.Jc.length : Int) + 1:=by omega
    have hmi : (m : Int) < (l.Jc.length : Int) + 1:=by omega
    have hml : m < l.Jc.length:=by omega
    have hmle : m <= l.Jc.length:=by omega
    have hkle : (k : Int) <= (l.Jc.length : Int):=by omega
    have hmle2 : (m : Int) <= (l.Jc.length : Int):=by omega
    have hgb : g < wr.heap.size:=by
     obtain ⟨g',c',hh,-,hg',-⟩:=HOW.out.slot (by rw [ZO _ _ _ hk];omega)
     injection hh with hh
     injection hh with hh
     injection hh with hh
     omega
    obtain ⟨b,o,hA1,hb,a0,a1,a2,a3,a4,a5⟩:=(HOW.out.rd JH).XC rfl (show k < (insAt t l.Jc k).length by rw [ZO _ _ _ hk];omega)
    injection hA1 with hA1
    injection hA1 with e1 e2 e3
    subst e1 e2;obtain ⟨b,o,hA1,hb,b0,b1,b2,b3,b4,b5⟩:=(HOW.out.rd JH).XC rfl (show k - 1 < (insAt t l.Jc k).length by rw [ZO _ _ _ hk];omega)
    injection hA1 with hA1
    injection hA1 with e1 e2 e3
    subst e1 e2;rw [insAt_here t l.Jc k hk] at a0 a1 a2 a3 a4 a5;rw [insAt_ahead t l.Jc k hk (by omega)] at b0 b1 b2 b3 b4 b5;have hSW:=insAt_swap t l.Jc k hk (by omega);have hend:=HSO.out k hk HA.out;simp only [show k - 1 = m by omega] at b0 b1 b2 b3 b4 b5 hSW hend;simp only [Nat.zero_add] at a0 a1 a2 a3 a4 a5 b0 b1 b2 b3 b4 b5;have hmono : ∀ (i : Nat) (hi : i < l.Jc.length),k <= i -> t.id < l.Jc[i].id:=HA.out;generalize hy : l.Jc[m] = y at *;have HKM:=hH hkm
    by_cases hlt : t.id < y.id
    ·have hlb : decide (t.id < y.id) = true:=decide_eq_true hlt
     have HSW:=hH hSW
     have HM2:=hH (show ∀ (i : Nat) (hi : i < l.Jc.length),m <= i -> t.id < l.Jc[i].id from by
      intro i hi hmi
      by_cases e : i = m
      ·subst e;rw [hy];exact hlt
      ·exact hmono i hi (by have:=HKM.out;omega))
     clear hSW hend hmono hlt hy hkm;go_wp2_with fail;(try (go_quiet (fail);go_wp2_with fail))
     have hfz : ∀ o,wr.frozen? ⟨g,o,none⟩ = false:=fun o=>by
      rcases HOW.out.2 with ⟨h',_⟩ | ⟨g',cap',cur,h',hb,hg,-⟩
      ·simp at h'
      ·simp only [Value.slice.injEq,Option.some.injEq,Addr.mk.injEq,and_true,true_and] at h'
       obtain ⟨rfl,-⟩:=h';unfold World.frozen?;simp only [hg]
       simp
     have hng : ¬ (w2.heap.size = g):=by omega
     have HK:=hH (fun (w' : World) (h : Fr (fun q=>q = g) wr w')=>(h.row hng Rr_1.out).2.1);(refine Jw (fun w'=>Fr (fun q=>q = g) wr w') 21 (by kernel_rfl) (Fr.mk rfl rfl rfl (Nat.le_refl _) (fun _ _ _=>rfl)) (fun hS=>?_);simp only [List.length_cons,List.length_nil]);(refine tkR 0 HK hS ?_;refine tkR 1 HK hS ?_);(refine tkP 2 ?_);(refine tkR 3 HK hS ?_;refine tkR 4 HK hS ?_);(refine tkP 5 ?_;refine tkP 6 ?_);(refine tkR 7 HK hS ?_;refine tkR 8 HK hS ?_);(refine tkP 9 ?_;refine tkP 10 ?_);(refine tkR 11 HK hS ?_);(refine tkR 13 HK hS ?_;refine tkR 14 HK hS ?_);(refine tkP 15 ?_;refine tkP 16 ?_);refine XD (i:=12) (j:=17) rfl rfl (by kernel_rfl) rfl rfl (fun K hK=>?_) (fun K hK=>?_)
     ·go_simp
      refine hK.out _ _ (.inr hS) ?_;clear hK;(try simp only [Act.put,Jm]);((refine oA 17 fun K hK=>?_;go_simp;refine hK.out _ _ (.inr hS) ?_;clear hK;(try simp only [Act.put,Jm])));((refine oA 18 fun K hK=>?_;go_simp;refine hK.out _ _ (.inr hS) ?_;clear hK;(try simp only [Act.put,Jm])));(refine oA 19 fun K hK=>?_;go_simp)
      have HFU0 : Fr (fun q=>q = g) wr ((((((( wr.drewN (nq + 1)).setCell ⟨g,k * 6,none⟩ (.int .i64 y.id)).setCell ⟨g,k * 6 + 1,none⟩ (.int .i64 y.kind)).setCell ⟨g,k * 6 + 2,none⟩ (.int .i64 y.frm)).setCell ⟨g,k * 6 + 3,none⟩ (.int .i64 y.til)).setCell ⟨g,k * 6 + 4,none⟩ (.int .i64 y.JS)).setCell ⟨g,k * 6 + 5,none⟩ (.int .i64 y.rides)):=by
       repeat (refine Fr.Jl rfl ?_)
       exact Fr.mk rfl rfl rfl (Nat.le_refl _) (fun _ _ _=>rfl)
      have HOU0:=(HOW.out.drewN (nq + 1)).put_tk k (by rw [ZO _ _ _ hk];omega) y;refine hK.out _ _ (.inr HFU0) ?_;clear hK;(try simp only [Act.put,Jm]);generalize hU : (((((( wr.drewN (nq + 1)).setCell ⟨g,k * 6,none⟩ (.int .i64 y.id)).setCell ⟨g,k * 6 + 1,none⟩ (.int .i64 y.kind)).setCell ⟨g,k * 6 + 2,none⟩ (.int .i64 y.frm)).setCell ⟨g,k * 6 + 3,none⟩ (.int .i64 y.til)).setCell ⟨g,k * 6 + 4,none⟩ (.int .i64 y.JS)).setCell ⟨g,k * 6 + 5,none⟩ (.int .i64 y.rides) = U at HFU0 HOU0 ⊢;clear hU;clear hS;have hS : Fr (fun q=>q = g) wr U:=HFU0;have HEU:=hH (show Ext w U from Below.trans HE.out (Below.mono (HFU0.below (base:=w.heap.size) (by omega) (fun q hq=>by omega)) (Nat.le_refl _)));have HRU3:=hH (HFU0.row hng HQ3.out);have HRU2:=hH (HFU0.row (show ¬ (w.heap.size + 1 + 1 = g) by omega) HQ2.out);obtain ⟨bU,oU,hAU,hbU,u0,u1,u2,u3,u4,u5⟩:=(HOU0.rd JH).XC rfl (show m < ((insAt t l.Jc k).set k y).length by rw [List.length_set,ZO _ _ _ hk];omega)
      injection hAU with hAU
      injection hAU with e1 e2 e3
      subst e1 e2;simp only [Nat.zero_add] at u0 u1 u2 u3 u4 u5;have hfu:=HOU0.unfrozen;have HOU:=hH HOU0;clear HFU0 HOU0 a0 a1 a2 a3 a4 a5 b0 b1 b2 b3 b4 b5 hfz;((refine oA 20 fun K hK=>?_;go_simp;refine hK.out _ _ (.inr hS) ?_;clear hK;(try simp only [Act.put,Jm])));(refine oA 21 fun K hK=>?_;go_simp;refine hK.out _ _ (.inl (by kernel_rfl)) ?_;clear hK;(try simp only [Act.put,Jm]);refine Ju (by kernel_rfl) ?_ _);go_wp2_with fail;go_roundg m
      case measure=>have:=HKM.out;omega
      case rel =>
       refine ⟨m,hmle,by have:=HKM.out;omega,by go_num,⟨?_,?_,?_,?_⟩,HM2.out⟩
       ·exact Below.trans HEU.out (Below.mono (Fr.below (own:=fun q=>q = g) (base:=w.heap.size) (by
         repeat (refine Fr.Jl rfl ?_)
         exact Fr.mk rfl rfl rfl (Nat.le_refl _) (fun _ _ _=>rfl)) (by have:=HEU.out.size;omega) (fun q hq=>by omega)) (Nat.le_refl _))
       ·exact Fr.row (own:=fun q=>q = g) (by
         repeat (refine Fr.Jl rfl ?_)
         exact Fr.mk rfl rfl rfl (Nat.le_refl _) (fun _ _ _=>rfl)) hng HRU3.out
       ·exact Fr.row (own:=fun q=>q = g) (by
         repeat (refine Fr.Jl rfl ?_)
         exact Fr.mk rfl rfl rfl (Nat.le_refl _) (fun _ _ _=>rfl)) (by omega) HRU2.out
       ·rw [<- HSW.out]
        exact HOU.out.put_tk m (by rw [List.length_set,ZO _ _ _ hk];omega) t
     ·go_simp
      refine hK.out _ _ (.inr hS) ?_;clear hK;(try simp only [Act.put,Jm]);((refine oA 12 fun K hK=>?_;go_simp;refine hK.out _ _ (.inr hS) ?_;clear hK;(try simp only [Act.put,Jm])));((refine oA 18 fun K hK=>?_;go_simp;refine hK.out _ _ (.inr hS) ?_;clear hK;(try simp only [Act.put,Jm])));(refine oA 19 fun K hK=>?_;go_simp)
      have HFU0 : Fr (fun q=>q = g) wr ((((((( wr.drewN (nq + 1)).setCell ⟨g,k * 6,none⟩ (.int .i64 y.id)).setCell ⟨g,k * 6 + 1,none⟩ (.int .i64 y.kind)).setCell ⟨g,k * 6 + 2,none⟩ (.int .i64 y.frm)).setCell ⟨g,k * 6 + 3,none⟩ (.int .i64 y.til)).setCell ⟨g,k * 6 + 4,none⟩ (.int .i64 y.JS)).setCell ⟨g,k * 6 + 5,none⟩ (.int .i64 y.rides)):=by
       repeat (refine Fr.Jl rfl ?_)
       exact Fr.mk rfl rfl rfl (Nat.le_refl _) (fun _ _ _=>rfl)
      have HOU0:=(HOW.out.drewN (nq + 1)).put_tk k (by rw [ZO _ _ _ hk];omega) y;refine hK.out _ _ (.inr HFU0) ?_;clear hK;(try simp only [Act.put,Jm]);generalize hU : (((((( wr.drewN (nq + 1)).setCell ⟨g,k * 6,none⟩ (.int .i64 y.id)).setCell ⟨g,k * 6 + 1,none⟩ (.int .i64 y.kind)).setCell ⟨g,k * 6 + 2,none⟩ (.int .i64 y.frm)).setCell ⟨g,k * 6 + 3,none⟩ (.int .i64 y.til)).setCell ⟨g,k * 6 + 4,none⟩ (.int .i64 y.JS)).setCell ⟨g,k * 6 + 5,none⟩ (.int .i64 y.rides) = U at HFU0 HOU0 ⊢;clear hU;clear hS;have hS : Fr (fun q=>q = g) wr U:=HFU0;have HEU:=hH (show Ext w U from Below.trans HE.out (Below.mono (HFU0.below (base:=w.heap.size) (by omega) (fun q hq=>by omega)) (Nat.le_refl _)));have HRU3:=hH (HFU0.row hng HQ3.out);have HRU2:=hH (HFU0.row (show ¬ (w.heap.size + 1 + 1 = g) by omega) HQ2.out);obtain ⟨bU,oU,hAU,hbU,u0,u1,u2,u3,u4,u5⟩:=(HOU0.rd JH).XC rfl (show m < ((insAt t l.Jc k).set k y).length by rw [List.length_set,ZO _ _ _ hk];omega)
      injection hAU with hAU
      injection hAU with e1 e2 e3
      subst e1 e2;simp only [Nat.zero_add] at u0 u1 u2 u3 u4 u5;have hfu:=HOU0.unfrozen;have HOU:=hH HOU0;clear HFU0 HOU0 a0 a1 a2 a3 a4 a5 b0 b1 b2 b3 b4 b5 hfz;((refine oA 20 fun K hK=>?_;go_simp;refine hK.out _ _ (.inr hS) ?_;clear hK;(try simp only [Act.put,Jm])));(refine oA 21 fun K hK=>?_;go_simp;refine hK.out _ _ (.inl (by kernel_rfl)) ?_;clear hK;(try simp only [Act.put,Jm]);refine Ju (by kernel_rfl) ?_ _);go_wp2_with fail;go_roundg m
      case measure=>have:=HKM.out;omega
      case rel =>
       refine ⟨m,hmle,by have:=HKM.out;omega,by go_num,⟨?_,?_,?_,?_⟩,HM2.out⟩
       ·exact Below.trans HEU.out (Below.mono (Fr.below (own:=fun q=>q = g) (base:=w.heap.size) (by
         repeat (refine Fr.Jl rfl ?_)
         exact Fr.mk rfl rfl rfl (Nat.le_refl _) (fun _ _ _=>rfl)) (by have:=HEU.out.size;omega) (fun q hq=>by omega)) (Nat.le_refl _))
       ·exact Fr.row (own:=fun q=>q = g) (by
         repeat (refine Fr.Jl rfl ?_)
         exact Fr.mk rfl rfl rfl (Nat.le_refl _) (fun _ _ _=>rfl)) hng HRU3.out
       ·exact Fr.row (own:=fun q=>q = g) (by
         repeat (refine Fr.Jl rfl ?_)
         exact Fr.mk rfl rfl rfl (Nat.le_refl _) (fun _ _ _=>rfl)) (by omega) HRU2.out
       ·rw [<- HSW.out]
        exact HOU.out.put_tk m (by rw [List.length_set,ZO _ _ _ hk];omega) t
    ·have hlb : decide (t.id < y.id) = false:=decide_eq_false hlt
     have HF:=hH (hend (.inr ⟨hml,by rw [hy];omega⟩));clear hSW hend hmono hlt hy hkm;go_wp2_with fail;(try (go_quiet (fail);go_wp2_with fail));refine bodyPost_ret (v:=.tuple #[.agg #[.slice (some ⟨g,0,none⟩) (l.Jc.length + 1) d3,.slice A l.Jf.length c,.slice A2 l.Jd.length c2],.int .i64 0]) (by simp [results,Tryz.results59,go_sem, *]) rfl ⟨_,_,_,rfl,(Je : Ext w _),?_,(HT1.out.ext (Je : Ext w _)).oldP HB1.out,(HT2.out.ext (Je : Ext w _)).oldP HB2.out⟩;rw [<- HF.out];exact (((((HOW.out.drewN _).put HNE.out _).put HNE.out _).put HNE.out _).rd JH).freshP HGQ.out

theorem ref_SellAt {P : Nat -> Prop} (s : St) (x : Sv) (t : Tk) (w : World) (hrp : JX P w x s) (hP : ∀ q,P q -> q < w.heap.size) (rs : JJ s) :
  Calls Tryz.prog 15 #[.agg (sta s x),.agg (tkc t)] w fun e w'=>∃ x',e = .returned (.tuple #[.agg (sta (Zd s t).1 x'),.int .i64 (Zd s t).2]) /\ Ext w w' /\ JX (fun q=>P q \/ w.heap.size <= q) w' x' (Zd s t).1:=by
 have hr:=hrp.rd;have KW:=hH (fun w' (h : Ext w w')=>ref_WhoOf s.Jj x.sv w' (hr.vw.ext h) rs.Jj);have KS:=hH (fun w' (h : Ext w w')=>ref_SellOf s.Ja x.s0 x.s1 x.s2 t w' rs.Ja (hr.tk.ext h) (hr.tp.ext h) (hr.vd.ext h) P hrp.tp.2 hrp.vd.2)
 have hres : Zd s t = if led s = true then (if (ZZ s.Ja t).2 ≠ 0 then (st0,(ZZ s.Ja t).2) else (⟨(ZZ s.Ja t).1,s.Jb,s.Jg,s.Jj⟩,0)) else (st0,4):=by
  unfold Zd sellS
  cases led s with
  | false=>simp
  | true =>
   simp only [Bool.true_eq_false,if_false,if_true]
   by_cases h : (ZZ s.Ja t).2 = 0 <;> simp [h]
 have HV:=hH hrp;clear hrp;generalize Zd s t = R at *;have HRES:=hH hres;unfold led at HRES;clear hres;obtain ⟨A0,c0,e0,-,-⟩:=hr.tk.form;obtain ⟨A1,c1,e1,-,-⟩:=hr.tp.form;obtain ⟨A2,c2,e2,-,-⟩:=hr.vd.form;obtain ⟨A3,c3,e3,-,-⟩:=hr.dn.form;obtain ⟨A4,c4,e4,-,-⟩:=hr.gt.form;obtain ⟨A5,c5,e5,-,-⟩:=hr.vw.form;obtain ⟨s0,s1,s2,si,sg,sv⟩:=x;simp only at e0 e1 e2 e3 e4 e5;subst e0 e1 e2 e3 e4 e5;clear hr rs;rw [show tkc t = #[.int .i64 t.id,.int .i64 t.kind,.int .i64 t.frm,.int .i64 t.til,.int .i64 t.JS,.int .i64 t.rides] from rfl] at KS ⊢;unfold sta;simp only at KW KS ⊢;generalize whoV s.Jj = Q at *;obtain ⟨Q1,Q2⟩:=Q;generalize ZZ s.Ja t = E at *;obtain ⟨⟨E0,E1,E2⟩,E3⟩:=E;simp only at KW KS HRES;go_enter Tryz.func15,Tryz.ntmps15;go_wp2_with fail;(refine gA (KW.out _ Je) fun w1 H1 hz1=>?_;refine Ji w1 w.heap.size fun q1_0 f1_0 l1_0 R1_0=>?_;refine Ji w1 (w.heap.size + 1) fun q1_1 f1_1 l1_1 R1_1=>?_;refine Ji w1 (w.heap.size + 1 + 1) fun q1_2 f1_2 l1_2 R1_2=>?_)
 cases Q2
 ·have HQ:=hH (show R = (st0,4) by rw [HRES.out];simp)
  go_wp2_with fail;rw [HQ.out];exact bodyPost_ret (v:=.tuple #[.agg #[.slice none 0 0,.slice none 0 0,.slice none 0 0,.int .i64 0,.slice none 0 0,.slice none 0 0,.slice none 0 0],.int .i64 4]) (by simp [results,Tryz.results15,go_sem, *]) rfl ⟨sv0,rfl,(Je : Ext w _),JX.nil⟩
 have HE1:=hH (And.intro trivial (Je : Ext w w1));go_wp2_with fail;refine (KS.out _ Je).mono ?_;rintro e w2 ⟨u0,u1,u2,rfl,h2,o0,o1,o2⟩;obtain ⟨U0,x0,rfl⟩:=RdP.form o0;obtain ⟨U1,x1,rfl⟩:=RdP.form o1;obtain ⟨U2,x2,rfl⟩:=RdP.form o2;have H2:=hH h2;have hz2:=h2.size;have HU0:=hH o0;have HU1:=hH o1;have HU2:=hH o2;clear h2 o0 o1 o2;(refine Ji w2 w.heap.size fun q2_0 f2_0 l2_0 R2_0=>?_;refine Ji w2 (w.heap.size + 1 + 1) fun q2_1 f2_1 l2_1 R2_1=>?_)
 by_cases h0 : E3 = 0
 ·subst h0
  have HQ:=hH (show R = (⟨⟨E0,E1,E2⟩,s.Jb,s.Jg,s.Jj⟩,0) by rw [HRES.out];simp);go_wp2_with fail;rw [HQ.out];refine bodyPost_ret (v:=.tuple #[.agg #[.slice U0 E0.length x0,.slice U1 E1.length x1,.slice U2 E2.length x2,.int .i64 s.Jb.Jk,.slice A3 s.Jb.ids.length c3,.slice A4 s.Jg.length c4,.slice A5 s.Jj.length c5],.int .i64 0]) (by simp [results,Tryz.results15,go_sem, *]) rfl ⟨⟨.slice U0 E0.length x0,.slice U1 E1.length x1,.slice U2 E2.length x2,.slice A3 s.Jb.ids.length c3,.slice A4 s.Jg.length c4,.slice A5 s.Jj.length c5⟩,rfl,(Je : Ext w _),⟨?_,?_,?_,HV.out.dn.inl.ext Je,(HV.out.gt.weak (fun q hq=>.inl hq)).ext Je,HV.out.vw.inl.ext Je⟩⟩
  ·(refine RdQ.down (n:=w1.heap.size) ?_ (by omega);repeat (first | (with_reducible exact Hid.out ‹Hid (RdP _ _ _ _ _ _)›) | (with_reducible refine RdQ.Jl (b:=w.heap.size) (by assumption) (by simp <;> omega) ?_) | (with_reducible refine RdP.drew ?_) | (with_reducible refine RdP.alloc ?_ _) | (with_reducible refine RdP.ext ?_ (Hid.out ‹Hid (Ext _ _)›))))
  ·(refine RdQ.down (n:=w1.heap.size) ?_ (by omega);repeat (first | (with_reducible exact Hid.out ‹Hid (RdP _ _ _ _ _ _)›) | (with_reducible refine RdQ.Jl (b:=w.heap.size) (by assumption) (by simp <;> omega) ?_) | (with_reducible refine RdP.drew ?_) | (with_reducible refine RdP.alloc ?_ _) | (with_reducible refine RdP.ext ?_ (Hid.out ‹Hid (Ext _ _)›))))
  ·(refine RdQ.down (n:=w1.heap.size) ?_ (by omega);repeat (first | (with_reducible exact Hid.out ‹Hid (RdP _ _ _ _ _ _)›) | (with_reducible refine RdQ.Jl (b:=w.heap.size) (by assumption) (by simp <;> omega) ?_) | (with_reducible refine RdP.drew ?_) | (with_reducible refine RdP.alloc ?_ _) | (with_reducible refine RdP.ext ?_ (Hid.out ‹Hid (Ext _ _)›))))
 ·have HQ:=hH (show R = (st0,E3) by rw [HRES.out];simp [h0])
  have h0b : (E3 == 0) = false:=by simpa using h0
  go_wp2_with fail;rw [HQ.out];exact bodyPost_ret (v:=.tuple #[.agg #[.slice none 0 0,.slice none 0 0,.slice none 0 0,.int .i64 0,.slice none 0 0,.slice none 0 0,.slice none 0 0],.int .i64 E3]) (by simp [results,Tryz.results15,go_sem, *]) rfl ⟨sv0,rfl,(Je : Ext w _),JX.nil⟩

theorem tapRaw_range {s : St} {id g time : Int} (h : within g 0 2 = false) : Zf s id g time = (st0,0,3):=by
 have : Xy s id g time = (s,0,3):=by unfold Xy;rw [if_pos h]
 unfold Zf;rw [this];rfl
theorem tapRaw_none {s : St} {id g time : Int} (hw : within g 0 2 = true) (h : JU s.Ja.Jc id = none) : Zf s id g time = (st0,0,5):=by
 have : Xy s id g time = (s,0,5):=by unfold Xy;rw [if_neg (by simp [hw]),h]
 unfold Zf;rw [this];rfl
theorem tapRaw_alone {s : St} {id time : Int} {m : Nat} {t : Tk} (hw : within (m : Int) 0 2 = true) (h : JU s.Ja.Jc id = some t) (hlt : m < s.Jg.length) (h2 : led s = false \/ s.Jg[m].Jn.length ≠ 0) :
  Zf s id (m : Int) time = if (Xh s.Jg[m] t time).2.2 ≠ 0 then (st0,0,(Xh s.Jg[m] t time).2.2) else (⟨s.Ja,s.Jb,s.Jg.set m (Xh s.Jg[m] t time).1,s.Jj⟩,0,0):=by
 have : Xy s id (m : Int) time = aloneS s t s.Jg[m] m time:=by
  unfold Xy;rw [if_neg (by simp [hw]),h];simp only [Int.toNat_natCast];rw [bang_get hlt,if_neg];rintro ⟨a,b⟩
  rcases h2 with h2 | h2
  ·rw [h2] at a;cases a
  ·exact h2 b
 unfold Zf;rw [this];unfold aloneS
 by_cases h0 : (Xh s.Jg[m] t time).2.2 = 0 <;> simp [h0]
theorem tapRaw_online {s : St} {id time : Int} {m : Nat} {t : Tk} (hw : within (m : Int) 0 2 = true) (h : JU s.Ja.Jc id = some t) (hlt : m < s.Jg.length) (h1 : led s = true) (h2 : s.Jg[m].Jn.length = 0) :
  Zf s id (m : Int) time = if s.Jb.ids.contains t.id = true then (st0,0,11) else if within time 0 9999 = false then (st0,0,3) else if s.Jg[m].seq = 99 then (st0,0,2)
   else if (Jy s.Ja (Zp s.Jg[m] t time)).2.2 ≠ 0 then (st0,(Jy s.Ja (Zp s.Jg[m] t time)).2.1,(Jy s.Ja (Zp s.Jg[m] t time)).2.2)
   else (⟨(Jy s.Ja (Zp s.Jg[m] t time)).1,s.Jb,s.Jg.set m ⟨s.Jg[m].id,s.Jg[m].zone,s.Jg[m].seq + 1,s.Jg[m].Jn,s.Jg[m].Jb,s.Jg[m].left,s.Jg[m].JP⟩,s.Jj⟩,(Jy s.Ja (Zp s.Jg[m] t time)).2.1,0):=by
 have : Xy s id (m : Int) time = Xt s t s.Jg[m] m time:=by
  unfold Xy;rw [if_neg (by simp [hw]),h];simp only [Int.toNat_natCast];rw [bang_get hlt,if_pos ⟨h1,h2⟩]
 unfold Zf;rw [this];unfold Xt
 by_cases a : s.Jb.ids.contains t.id = true
 ·simp only [a,if_true];rfl
 ·by_cases b : within time 0 9999 = false
  ·simp only [a,b,if_true,if_false,Bool.false_eq_true,Bool.true_eq_false];rfl
  ·by_cases c : s.Jg[m].seq = 99
   ·simp only [a,b,c,if_true,if_false,Bool.false_eq_true,Bool.true_eq_false];rfl
   ·by_cases d : (Jy s.Ja (Zp s.Jg[m] t time)).2.2 = 0 <;> simp only [a,b,c,d,if_true,if_false,Bool.false_eq_true,Bool.true_eq_false,ne_eq,not_true_eq_false,not_false_eq_true]
theorem Z5 {P : Program} {l : Array Oper} {Q : Exit -> Act -> World -> Prop} {md : Region.Mode} {S : World -> Prop} {n fuel : Nat} {l1 l2 : Array Bool} {a : Act} {w : World} (h : l1 = l2) (k : JF P md l (NoPanic Q) S n fuel l2 a w) : JF P md l (NoPanic Q) S n fuel l1 a w:=h ▸ k
theorem split7a {G : World -> Nat -> Nat -> Option Addr -> Nat -> Option Addr -> Nat -> Prop} {goal : Prop} (main : (∀ a b c d e f g,G a b c d e f g) -> goal) (pf : ∀ a b c d e f g,G a b c d e f g) : goal:=main pf
theorem tapOf_w {P : Nat -> Prop} (gs : Gt) (sa si : Value) (t : Tk) (time : Int) (w w' : World) (h : Ext w w') (hgr : J7 gs = 0) (htk : JB t = 0) (hr : RdL 5 tpc w sa gs.Jn) (hs : RdP P 1 inc w si gs.Jb.ids) :
  Calls Tryz.prog 62 #[.agg (gta gs sa si),.agg (tkc t),.int .i64 time] w' fun e w''=>∃ sa' si',e = .returned (.tuple #[.agg (gta (Xh gs t time).1 sa' si'),.agg (tpc (Xh gs t time).2.1),.int .i64 (Xh gs t time).2.2]) /\ Ext w' w'' /\
   Jh 57 5 tpc w'.heap.size w'' sa' (Xh gs t time).1.Jn /\ RdP P 1 inc w si' (Xh gs t time).1.Jb.ids:=by
 refine (ref_TapOf gs sa si t time w' hgr htk (hr.ext h) (hs.rd.ext h)).mono ?_;rintro e w'' ⟨sa',si',h1,h2,h3,h4⟩;refine ⟨sa',si',h1,h2,h3,?_⟩
 rcases h4 with ⟨rfl,h4⟩ | ⟨rfl,h4⟩
 ·rw [h4];exact RdP.nil
 ·rw [h4];exact hs
theorem ref_TapAt {P : Nat -> Prop} (s : St) (x : Sv) (id g time : Int) (w : World) (hrp : JX P w x s) (hP : ∀ q,P q -> q < w.heap.size) (rs : JJ s) :
  Calls Tryz.prog 16 #[.agg (sta s x),.int .i64 id,.int .i64 g,.int .i64 time] w fun e w'=>∃ x',e = .returned (.tuple #[.agg (sta (Zf s id g time).1 x'),.int .i64 (Zf s id g time).2.1,.int .i64 (Zf s id g time).2.2]) /\ Ext w w' /\ JX (fun q=>P q \/ w.heap.size <= q) w' x' (Zf s id g time).1:=by
 have hr:=hrp.rd;have HVP:=hH hrp;have HP:=hH hP;clear hP;have KB:=hH (fun (w' : World)=>JA g 0 2 w')
 by_cases hw : within g 0 2 = true
 case neg =>
  have hwf : within g 0 2 = false:=by simpa using hw
  rw [tapRaw_range hwf];rw [hwf] at KB;obtain ⟨A0,c0,e0,-,-⟩:=hr.tk.form;obtain ⟨A1,c1,e1,-,-⟩:=hr.tp.form;obtain ⟨A2,c2,e2,-,-⟩:=hr.vd.form;obtain ⟨A3,c3,e3,-,-⟩:=hr.dn.form;obtain ⟨A4,c4,e4,hc4,-⟩:=hr.gt.form;obtain ⟨A5,c5,e5,-,-⟩:=hr.vw.form;obtain ⟨s0,s1,s2,si,sg,sv⟩:=x;simp only at e0 e1 e2 e3 e4 e5;subst e0 e1 e2 e3 e4 e5;clear hr hrp hc4 rs hw hwf;unfold sta
  simp only
  go_enter Tryz.func16,Tryz.ntmps16;go_wp2_with fail;refine gB (KB.out _) ?_;go_wp2_with fail;exact bodyPost_ret (v:=.tuple #[.agg #[.slice none 0 0,.slice none 0 0,.slice none 0 0,.int .i64 0,.slice none 0 0,.slice none 0 0,.slice none 0 0],.int .i64 0,.int .i64 3]) (by simp [results,Tryz.results16,go_sem, *]) rfl ⟨sv0,rfl,(Je : Ext w _),JX.nil⟩
 rw [hw] at KB;obtain ⟨hg0,hg2,hgm⟩:=within_nat (a:=0) hw;obtain ⟨m,rfl⟩ : ∃ m : Nat,g = m:=⟨g.toNat,hgm.symm⟩
 have hm3 : m < 3:=by omega
 have hlt : m < s.Jg.length:=by rw [rs.len];exact hm3
 have hmi : (m : Int) < (3 : Int):=by omega
 have hm0 : ¬ (m : Int) < 0:=by omega
 have hmg : ¬ (m : Int) ≥ (3 : Int):=by omega
 have hmN : decide (3 <= m) = false:=by simp;omega
 have hmF : decide ((3 : Int) <= (m : Int)) = false:=by simp;omega
 have hmG : decide ((m : Int) ≥ (3 : Int)) = false:=by simp;omega
 have KA:=hH (fun w' (h : Ext w w')=>ref_TicketAt s.Ja.Jc id x.s0 w' (hr.tk.ext h));have KW:=hH (fun w' (h : Ext w w')=>ref_WhoOf s.Jj x.sv w' (hr.vw.ext h) rs.Jj);obtain ⟨ys,hys,hyrow,hyin⟩:=hrp.gt;have KC:=hH (fun w' (h : Ext w w')=>ref_copied s x w' (hr.ext h) ys hys (hyrow.rd.ext h) (fun y hy=>⟨(hyin y hy).1.rd.ext h,(hyin y hy).2.rd.ext h⟩) (by rw [rs.len];decide))
 have hy3 : ys.length = 3:=by have:=rs.len;rw [hys] at this;simpa using this
 have HYS:=hH (And.intro hys (And.intro hyin hy3));clear hyrow hyin hys;have KHI:=hH (fun w' (h : Ext w w')=>ref_HasInt s.Jb.ids id x.si w' (hr.dn.ext h));have KBT:=hH (fun (w' : World)=>JA time 0 9999 w');have KE:=hH (fun (p : Tp) (w' : World) (h : Ext w w')=>ref_EnterOf s.Ja x.s0 x.s1 x.s2 p w' rs.Ja (hr.tk.ext h) (hr.tp.ext h) (hr.vd.ext h) P hrp.tk.2);have HNO:=hH (fun (h : JU s.Ja.Jc id = none)=>tapRaw_none (time:=time) hw h);have HAL:=hH (fun (t : Tk) (h : JU s.Ja.Jc id = some t) (h2 : led s = false \/ s.Jg[m].Jn.length ≠ 0)=>tapRaw_alone (time:=time) hw h hlt h2);have HON:=hH (fun (t : Tk) (h : JU s.Ja.Jc id = some t) (h1 : led s = true) (h2 : s.Jg[m].Jn.length = 0)=>tapRaw_online (time:=time) hw h hlt h1 h2);have hrl:=rs.len;have hgr:=(rs.Jg m hlt).1;have hgid:=(rs.Jg m hlt).2.1;have htr:=ZH (J6.1 rs.Ja).2.2.2.1
 have hsq9 : (s.Jg[m]).seq <= 99:=by have:=(Zh.1 hgr).seq;simp [within] at this;omega
 have hsq0 : 0 <= (s.Jg[m]).seq:=by have:=(Zh.1 hgr).seq;simp [within] at this;omega
 have hwr : IntKind.i64.wrap ((s.Jg[m]).seq + 1) = (s.Jg[m]).seq + 1:=IntWalk.i64_in _ (by omega);have HV:=hH hr;obtain ⟨A0,c0,e0,-,-⟩:=hr.tk.form;obtain ⟨A1,c1,e1,-,-⟩:=hr.tp.form;obtain ⟨A2,c2,e2,-,-⟩:=hr.vd.form;obtain ⟨A3,c3,e3,-,-⟩:=hr.dn.form;obtain ⟨A4,c4,e4,hc4,-⟩:=hr.gt.form;obtain ⟨A5,c5,e5,-,-⟩:=hr.vw.form;have hat:=hrp.gt.at_ e4 hlt;rw [hrl] at e4 hc4
 have hcap : (3 : Int) <= (c4 : Int):=by omega
 obtain ⟨bs,os,sa1,si1,hA4,hbs,ra1,rd1,g0,g1,g2,g3,g4,g5,g6,g7⟩:=hat;subst hA4;obtain ⟨s0,s1,s2,si,sg,sv⟩:=x;simp only at e0 e1 e2 e3 e4 e5;subst e0 e1 e2 e3 e4 e5;clear hr hrp hc4 rs;unfold sta at KC ⊢;simp only at KA KW KC KHI KE HV ⊢;generalize hgs : s.Jg[m] = gs at *
 rcases XA s.Ja.Jc id with ⟨hix,htn⟩ | ⟨n,hn,hix,htn⟩
 ·rw [hix] at KA
  rw [HNO.out htn];clear KC KW KHI KE HAL HON HNO g0 g1 g2 g3 g4 g5 g6 g7 ra1 rd1;go_enter Tryz.func16,Tryz.ntmps16;go_wp2_with fail;refine gB (KB.out _) ?_;go_wp2_with fail;(refine gA (KA.out _ Je) fun w1 H1 hz1=>?_;refine Ji w1 w.heap.size fun q1_0 f1_0 l1_0 R1_0=>?_;refine Ji w1 (w.heap.size + 1) fun q1_1 f1_1 l1_1 R1_1=>?_);go_wp2_with fail;exact bodyPost_ret (v:=.tuple #[.agg #[.slice none 0 0,.slice none 0 0,.slice none 0 0,.int .i64 0,.slice none 0 0,.slice none 0 0,.slice none 0 0],.int .i64 0,.int .i64 5]) (by simp [results,Tryz.results16,go_sem, *]) rfl ⟨sv0,rfl,(Je : Ext w _),JX.nil⟩
 rw [hix] at KA;obtain ⟨bk,ok,ck,hA0,hbk,hck⟩:=HV.out.tk.at_ hn
 injection hA0 with hA0 hA01 hA02
 subst hA0;clear hA01
 have hnc : (n : Int) < (c0 : Int):=by
  obtain ⟨A,c,h,h2,-⟩:=HV.out.tk.form
  injection h with _ _ h3
  omega
 have hn' : (n : Int) < (s.Ja.Jc.length : Int):=by omega
 have htkr:=htr _ (List.getElem_mem hn)
 have htid : (s.Ja.Jc[n]).id = id:=by
  have:=htn;unfold JU at this;have:=List.find?_some this
  simpa using this
 replace HAL:=hH (fun (h2 : led s = false \/ gs.Jn.length ≠ 0)=>HAL.out _ htn h2);replace HON:=hH (fun (h1 : led s = true) (h2 : gs.Jn.length = 0)=>HON.out _ htn h1 h2);generalize htk : s.Ja.Jc[n] = tk at *;have z0 : w.cell? ⟨bk,ok + n * 6,none⟩ = some (.int .i64 tk.id):=hck 0 _ rfl;have z1 : w.cell? ⟨bk,ok + n * 6 + 1,none⟩ = some (.int .i64 tk.kind):=hck 1 _ rfl;have z2 : w.cell? ⟨bk,ok + n * 6 + 2,none⟩ = some (.int .i64 tk.frm):=hck 2 _ rfl;have z3 : w.cell? ⟨bk,ok + n * 6 + 3,none⟩ = some (.int .i64 tk.til):=hck 3 _ rfl;have z4 : w.cell? ⟨bk,ok + n * 6 + 4,none⟩ = some (.int .i64 tk.JS):=hck 4 _ rfl;have z5 : w.cell? ⟨bk,ok + n * 6 + 5,none⟩ = some (.int .i64 tk.rides):=hck 5 _ rfl;have KTap:=hH (fun w' (h : Ext w w')=>tapOf_w gs sa1 si1 tk time w w' h hgr htkr ra1.rd rd1);have HGS:=hH (And.intro hgs (And.intro htk (And.intro htid hgid)));clear hck hix htn htr hgr htkr hgs htk htid hgid hA02 HNO hw hg0 hg2 hgm;obtain ⟨A8,c8,rfl⟩:=ra1.form;obtain ⟨A9,c9,rfl⟩:=rd1.form;clear ra1 rd1;unfold gta at KTap;rw [show tkc tk = #[.int .i64 tk.id,.int .i64 tk.kind,.int .i64 tk.frm,.int .i64 tk.til,.int .i64 tk.JS,.int .i64 tk.rides] from rfl] at KTap;generalize hR : Zf s id (m : Int) time = R at *;clear hR;generalize hq : whoV s.Jj = Q at *;obtain ⟨Q1,Q2⟩:=Q
 have hq2 : led s = Q2:=by unfold led;rw [hq]
 rw [hq2] at HAL HON;clear hq hq2;go_enter Tryz.func16,Tryz.ntmps16;go_wp2_with fail;refine gB (KB.out _) ?_;go_wp2_with fail;(refine gA (KA.out _ Je) fun w1 H1 hz1=>?_;refine Ji w1 w.heap.size fun q1_0 f1_0 l1_0 R1_0=>?_;refine Ji w1 (w.heap.size + 1) fun q1_1 f1_1 l1_1 R1_1=>?_);go_wp2_with fail;refine (KC.out _ Je).mono ?_;rintro e w2 ⟨sg',rfl,h2,ho2⟩;obtain ⟨gb,cg,hsg,hgl,hgb,h3c⟩:=ho2.slot (by omega);rw [hy3] at hsg h3c;subst hsg
 have hcg : (3 : Int) <= (cg : Int):=by omega
 have H2:=hH h2;have hz2:=h2.size;have HO2:=hH ho2;have HE2:=hH (And.intro trivial (Je : Ext w w2));clear h2 ho2 hy3 h3c;(refine Ji w2 w.heap.size fun q2_0 f2_0 l2_0 R2_0=>?_;refine Ji w2 (w.heap.size + 1) fun q2_1 f2_1 l2_1 R2_1=>?_)
 have hbs2 : bs < w2.heap.size:=by have:=HE2.out.2.size;omega
 have k0:=(HE2.out.2.cells bs _ hbs).trans g0;have k1:=(HE2.out.2.cells bs _ hbs).trans g1;have k2:=(HE2.out.2.cells bs _ hbs).trans g2;have k3:=(HE2.out.2.cells bs _ hbs).trans g3;have k4:=(HE2.out.2.cells bs _ hbs).trans g4;have k5:=(HE2.out.2.cells bs _ hbs).trans g5;have k6:=(HE2.out.2.cells bs _ hbs).trans g6;have k7:=(HE2.out.2.cells bs _ hbs).trans g7;clear q1_0 f1_0 l1_0 R1_0 q1_1 f1_1 l1_1 R1_1;go_wp2_with fail;refine gA (KW.out _ Je) fun w3 H3 hz3=>?_;have HE3:=hH (And.intro trivial (Je : Ext w w3));(try simp only [lSz] at hz3);(refine Ji w3 w.heap.size fun q3_0 f3_0 l3_0 R3_0=>?_;refine Ji w3 (w.heap.size + 1) fun q3_1 f3_1 l3_1 R3_1=>?_;refine Ji w3 w2.heap.size fun q3_2 f3_2 l3_2 R3_2=>?_;refine Ji w3 (w2.heap.size + 1) fun q3_3 f3_3 l3_3 R3_3=>?_);have hzz : ∃ z : Bool,z = (!Q2 || decide (0 < gs.Jn.length)):=⟨_,rfl⟩;obtain ⟨z,hz⟩:=hzz;have HZ:=hH hz;clear hz;go_upto_region 9 with fail
 go_cut [54] (fun s54 wx=>s54 = .bool z /\ Aside (Ext w3 wx))
 case first =>
  cases Q2
  ·have hzv:=HZ.out
   simp at hzv
   subst hzv;go_wp2_with fail;go_meet
   case rel=>exact ⟨rfl,(Je : Ext w3 _)⟩
  ·by_cases hl : gs.Jn.length = 0
   ·have hzv:=HZ.out
    rw [hl] at hzv
    simp at hzv
    subst hzv;rw [hl] at R3_3 q3_3;go_wp2_with fail;go_meet
    case rel=>exact ⟨rfl,(Je : Ext w3 _)⟩
   ·have hl2 : 0 < gs.Jn.length:=by omega
    have hzv:=HZ.out;rw [decide_eq_true hl2] at hzv
    simp at hzv
    subst hzv
    have hl3 : decide ((gs.Jn.length : Int) > 0) = true:=by simp;omega
    have hl4 : decide ((0 : Int) < (gs.Jn.length : Int)) = true:=by simp;omega
    go_wp2_with fail;go_meet
    case rel=>exact ⟨rfl,(Je : Ext w3 _)⟩
 case rest =>
  obtain ⟨rfl,HX⟩:=hcut;have HC:=hH HX.out;have hzc:=HX.out.size;clear HX;have HEC:=hH (And.intro trivial (HE3.out.2.trans HC.out));(refine Ji wc w.heap.size fun qc_0 fc_0 lc_0 Rc_0=>?_;refine Ji wc (w.heap.size + 1) fun qc_1 fc_1 lc_1 Rc_1=>?_;refine Ji wc w2.heap.size fun qc_2 fc_2 lc_2 Rc_2=>?_;refine Ji wc (w2.heap.size + 1) fun qc_3 fc_3 lc_3 Rc_3=>?_);clear q2_0 f2_0 l2_0 R2_0 q2_1 f2_1 l2_1 R2_1 q3_0 f3_0 l3_0 R3_0 q3_1 f3_1 l3_1 R3_1 q3_2 f3_2 l3_2 R3_2 q3_3 f3_3 l3_3 R3_3 g0 g1 g2 g3 g4 g5 g6 g7 k0 k1 k2 k3 k4 k5 k6 k7
  cases z
  case true =>
   have HRES:=hH (HAL.out (by have h:=HZ.out;cases Q2 with | false=>exact .inl rfl | true=>right;simp only [Bool.not_true,Bool.false_or] at h;have:=of_decide_eq_true h.symm;omega));clear HAL HON KHI KBT KE;generalize Xh gs tk time = TG at *;obtain ⟨⟨G0,G1,G2,G3,⟨G4,G5⟩,G6,G7⟩,⟨P0,P1,P2,P3,P4⟩,TE⟩:=TG;simp only [show tpc ⟨P0,P1,P2,P3,P4⟩ = #[.int .i64 P0,.int .i64 P1,.int .i64 P2,.int .i64 P3,.int .i64 P4] from rfl] at KTap;simp only at KTap HRES;go_upto_region 10 with fail;(apply wp_gen4 (w0:=wc) (g0:=w.heap.size) (g1:=w.heap.size + 1) (g2:=w2.heap.size) (g3:=w2.heap.size + 1);(focus (exact rowA));(focus (exact rowA));(focus (exact rowA));(focus (exact rowA));(focus (exact Je));intro W HW hzW Rz_0 Rz_1 Rz_2 Rz_3;(try simp only [Jm,World.size_alloc,size_set,World.heap_drewN,size_drew] at hzW Rz_0 Rz_1 Rz_2 Rz_3);have lz_0:=Rz_0.out.size;have lz_1:=Rz_1.out.size;have lz_2:=Rz_2.out.size;have lz_3:=Rz_3.out.size);have HWW:=hH (And.intro trivial (HEC.out.2.trans HW.out));have HWK:=hH (HEC.out.2.trans HW.out);have HK:=hH (fun w' (h : Ext W w')=>And.intro (Row.ext h Rz_0.out).2.1 (And.intro (Row.ext h Rz_1.out).2.1 (And.intro (Row.ext h Rz_2.out).2.1 (And.intro (Row.ext h Rz_3.out).2.1 (And.intro (((HWK.out.trans h).cells _ _ hbk).trans z0) (And.intro (((HWK.out.trans h).cells _ _ hbk).trans z1) (And.intro (((HWK.out.trans h).cells _ _ hbk).trans z2) (And.intro (((HWK.out.trans h).cells _ _ hbk).trans z3) (And.intro (((HWK.out.trans h).cells _ _ hbk).trans z4) ((((HWK.out.trans h).cells _ _ hbk).trans z5)))))))))));clear HWK z0 z1 z2 z3 z4 z5;(refine Jw (fun w'=>Ext W w') 17 (by kernel_rfl) ((Ext.refl _).drew) (fun hS=>?_);simp only [List.length_cons,List.length_nil]);(refine tkA 0 HK hS ?_;refine tkA 1 HK hS ?_;refine tkA 2 HK hS ?_;refine tkA 3 HK hS ?_;refine tkA 4 HK hS ?_;refine tkA 5 HK hS ?_;refine tkA 6 HK hS ?_;refine tkA 7 HK hS ?_);have HS0:=hH hS;clear hS;apply split7a
   ·intro key
    refine J3 (S2:=fun X=>Ext W X) HS0.out ?_;intro X1 hX;have hXX1:=hX.out;have HX1:=hH hXX1;have hzX1:=hXX1.size;clear hX hXX1;refine T_three (i:=8) (j:=13) (k:=14) rfl rfl rfl (by kernel_rfl) rfl rfl rfl (fun K hK=>?_) (fun K hK=>?_) (fun K hK=>?_)
    ·go_simp
     refine (KTap.out _ (HWW.out.2.trans (Je : Ext W _))).mono ?_;rintro e y2 ⟨sa6,si6,rfl,h1,o1,o2⟩;obtain ⟨C8,f8,rfl⟩:=o1.form;obtain ⟨C9,f9,rfl⟩:=o2.form;have HI:=hH o2;have Hy2:=hH h1;have HWy2:=hH (And.intro trivial (HX1.out.trans h1));have HNoA:=hH (show Jh 57 5 tpc W.heap.size y2 (.slice C8 G3.length f8) G3 from o1.lower (by omega));clear h1;have HO1:=hH o1;clear o1 o2;go_simp;refine hK.out _ _ (.inr HWy2.out.2) ?_;clear hK;(try simp only [Act.put,Jm]);refine J3 (S2:=fun X=>Ext W X /\ Jh 57 5 tpc W.heap.size X (.slice C8 G3.length f8) G3) ⟨HWy2.out.2,HNoA.out⟩ ?_;intro X2 hX;obtain ⟨hx,hfoA⟩:=hX.out;have HX2:=hH hx;have hzX2:=hx.size;have HFoA:=hH hfoA;clear hfoA;have hS : Ext W X2:=hx;clear hX hx;(refine tkP 9 ?_;refine tkP 10 ?_;refine tkP 11 ?_;refine tkP 12 ?_);clear hS;refine XD (i:=13) (j:=14) rfl rfl (by kernel_rfl) rfl rfl (fun K hK=>?_) (fun K hK=>?_)
     ·go_simp
      refine hK.out _ _ (.inr (Je : Ext W _)) ?_;clear hK;(try simp only [Act.put,Jm]);obtain ⟨ga,hgga⟩ : ∃ g,g = X2.heap.size:=⟨_,rfl⟩;rw [<- hgga]
      have hwga : W.heap.size <= ga:=by omega
      refine J3 (S2:=fun X=>Ext W X /\ Jh 57 5 tpc W.heap.size X (.slice C8 G3.length f8) G3 /\ Bx X ga 52 #[.int .i64 0,.int .i64 0,.int .i64 0,.slice none 0 0,.int .i64 0,.slice none 0 0,.int .i64 0,.int .i64 0]) ⟨Je,(HFoA.out.ext ((Ext.refl _).alloc _)),(Bx.newAt hgga)⟩ ?_;intro X3 hX;clear HFoA;obtain ⟨hx,hfoA,hfbga⟩:=hX.out;have HX3:=hH hx;have hzX3:=hx.size;have HFoA:=hH hfoA;clear hfoA;have HFbga:=hH hfbga;have qbga:=hfbga.row.2.1;have fbga:=hfbga.row.2.2;have lbga:=hfbga.lt;clear hfbga;clear hX hx;refine oA 14 fun K hK=>?_;go_simp;refine hK.out _ _ (.inr (Je : Ext W _)) ?_;clear hK;(try simp only [Act.put,Jm]);obtain ⟨gc,hggc⟩ : ∃ g,g = X3.heap.size:=⟨_,rfl⟩;rw [<- hggc]
      have hwgc : W.heap.size <= gc:=by omega
      have hnegagc : ga ≠ gc:=by have:=HFbga.out.lt;omega
      have hnegcga : gc ≠ ga:=fun h=>hnegagc h.symm
      have hsep : ∀ q,(Value.slice C8 G3.length f8).ownBlock = some q -> q ≠ gc:=fun q hq h=>by have:=(HFoA.out.lt q hq).2;omega
      refine J3 (S2:=fun X=>Ext W X /\ Jh 57 5 tpc W.heap.size X (.slice C8 G3.length f8) G3 /\ Bx X ga 52 #[.int .i64 0,.int .i64 0,.int .i64 0,.slice none 0 0,.int .i64 0,.slice none 0 0,.int .i64 0,.int .i64 0] /\ Bx X gc 57 #[.int .i64 0,.int .i64 0,.int .i64 0,.int .i64 0,.int .i64 0]) ⟨Je,(HFoA.out.ext ((Ext.refl _).alloc _)),(HFbga.out.ext ((Ext.refl _).alloc _)),(Bx.newAt hggc)⟩ ?_;intro X4 hX;clear HFoA HFbga;clear qbga fbga lbga;obtain ⟨hx,hfoA,hfbga,hfbgc⟩:=hX.out;have HX4:=hH hx;have hzX4:=hx.size;have HFoA:=hH hfoA;clear hfoA;have HFbga:=hH hfbga;have qbga:=hfbga.row.2.1;have fbga:=hfbga.row.2.2;have lbga:=hfbga.lt;clear hfbga;have HFbgc:=hH hfbgc;have qbgc:=hfbgc.row.2.1;have fbgc:=hfbgc.row.2.2;have lbgc:=hfbgc.lt;clear hfbgc;clear hX hx;have HALL:=hH (show Ext W X4 /\ W.heap.size <= ga /\ W.heap.size <= gc /\ ga ≠ gc /\ (∀ q,(Value.slice C8 G3.length f8).ownBlock = some q -> q ≠ gc) /\ Bx X4 ga 52 #[.int .i64 0,.int .i64 0,.int .i64 0,.slice none 0 0,.int .i64 0,.slice none 0 0,.int .i64 0,.int .i64 0] /\ Bx X4 gc 57 #[.int .i64 0,.int .i64 0,.int .i64 0,.int .i64 0,.int .i64 0] /\ Jh 57 5 tpc W.heap.size X4 (.slice C8 G3.length f8) G3 /\ RdP P 1 inc w (.slice C9 G5.length f9) G5 from ⟨HX4.out,hwga,hwgc,hnegagc,hsep,HFbga.out,HFbgc.out,HFoA.out,HI.out⟩)
      try rw [<- hgga]
      try rw [<- hggc]
      refine Z5 (l2:=#[true,true,true,true,true,true,true,true,true,true,true,true,true,true,true,false,false,false]) (by kernel_rfl) ?_
      revert HALL
      exact key X4 ga gc C8 f8 C9 f9
     ·go_simp
      refine hK.out _ _ (.inr (Je : Ext W _)) ?_;clear hK;(try simp only [Act.put,Jm]);obtain ⟨gc,hggc⟩ : ∃ g,g = X2.heap.size:=⟨_,rfl⟩;rw [<- hggc]
      have hwgc : W.heap.size <= gc:=by omega
      have hsep : ∀ q,(Value.slice C8 G3.length f8).ownBlock = some q -> q ≠ gc:=fun q hq h=>by have:=(HFoA.out.lt q hq).2;omega
      refine J3 (S2:=fun X=>Ext W X /\ Jh 57 5 tpc W.heap.size X (.slice C8 G3.length f8) G3 /\ Bx X gc 57 #[.int .i64 0,.int .i64 0,.int .i64 0,.int .i64 0,.int .i64 0]) ⟨Je,(HFoA.out.ext ((Ext.refl _).alloc _)),(Bx.newAt hggc)⟩ ?_;intro X5 hX;clear HFoA;obtain ⟨hx,hfoA,hfbgc⟩:=hX.out;have HX5:=hH hx;have hzX5:=hx.size;have HFoA:=hH hfoA;clear hfoA;have HFbgc:=hH hfbgc;have qbgc:=hfbgc.row.2.1;have fbgc:=hfbgc.row.2.2;have lbgc:=hfbgc.lt;clear hfbgc;clear hX hx;refine oA 13 fun K hK=>?_;go_simp;refine hK.out _ _ (.inr (Je : Ext W _)) ?_;clear hK;(try simp only [Act.put,Jm]);obtain ⟨ga,hgga⟩ : ∃ g,g = X5.heap.size:=⟨_,rfl⟩;rw [<- hgga]
      have hwga : W.heap.size <= ga:=by omega
      have hnegcga : gc ≠ ga:=by have:=HFbgc.out.lt;omega
      have hnegagc : ga ≠ gc:=fun h=>hnegcga h.symm;refine J3 (S2:=fun X=>Ext W X /\ Jh 57 5 tpc W.heap.size X (.slice C8 G3.length f8) G3 /\ Bx X gc 57 #[.int .i64 0,.int .i64 0,.int .i64 0,.int .i64 0,.int .i64 0] /\ Bx X ga 52 #[.int .i64 0,.int .i64 0,.int .i64 0,.slice none 0 0,.int .i64 0,.slice none 0 0,.int .i64 0,.int .i64 0]) ⟨Je,(HFoA.out.ext ((Ext.refl _).alloc _)),(HFbgc.out.ext ((Ext.refl _).alloc _)),(Bx.newAt hgga)⟩ ?_;intro X6 hX;clear HFoA HFbgc;clear qbgc fbgc lbgc;obtain ⟨hx,hfoA,hfbgc,hfbga⟩:=hX.out;have HX6:=hH hx;have hzX6:=hx.size;have HFoA:=hH hfoA;clear hfoA;have HFbgc:=hH hfbgc;have qbgc:=hfbgc.row.2.1;have fbgc:=hfbgc.row.2.2;have lbgc:=hfbgc.lt;clear hfbgc;have HFbga:=hH hfbga;have qbga:=hfbga.row.2.1;have fbga:=hfbga.row.2.2;have lbga:=hfbga.lt;clear hfbga;clear hX hx;have HALL:=hH (show Ext W X6 /\ W.heap.size <= ga /\ W.heap.size <= gc /\ ga ≠ gc /\ (∀ q,(Value.slice C8 G3.length f8).ownBlock = some q -> q ≠ gc) /\ Bx X6 ga 52 #[.int .i64 0,.int .i64 0,.int .i64 0,.slice none 0 0,.int .i64 0,.slice none 0 0,.int .i64 0,.int .i64 0] /\ Bx X6 gc 57 #[.int .i64 0,.int .i64 0,.int .i64 0,.int .i64 0,.int .i64 0] /\ Jh 57 5 tpc W.heap.size X6 (.slice C8 G3.length f8) G3 /\ RdP P 1 inc w (.slice C9 G5.length f9) G5 from ⟨HX6.out,hwga,hwgc,hnegagc,hsep,HFbga.out,HFbgc.out,HFoA.out,HI.out⟩)
      try rw [<- hgga]
      try rw [<- hggc]
      refine Z5 (l2:=#[true,true,true,true,true,true,true,true,true,true,true,true,true,true,true,false,false,false]) (by kernel_rfl) ?_
      revert HALL
      exact key X6 ga gc C8 f8 C9 f9
    ·go_simp
     refine hK.out _ _ (.inr (Je : Ext W _)) ?_;clear hK;(try simp only [Act.put,Jm]);obtain ⟨ga,hgga⟩ : ∃ g,g = X1.heap.size:=⟨_,rfl⟩;rw [<- hgga]
     have hwga : W.heap.size <= ga:=by omega
     refine J3 (S2:=fun X=>Ext W X /\ Bx X ga 52 #[.int .i64 0,.int .i64 0,.int .i64 0,.slice none 0 0,.int .i64 0,.slice none 0 0,.int .i64 0,.int .i64 0]) ⟨Je,(Bx.newAt hgga)⟩ ?_;intro X7 hX;obtain ⟨hx,hfbga⟩:=hX.out;have HX7:=hH hx;have hzX7:=hx.size;have HFbga:=hH hfbga;have qbga:=hfbga.row.2.1;have fbga:=hfbga.row.2.2;have lbga:=hfbga.lt;clear hfbga;clear hX hx;refine XD (i:=8) (j:=14) rfl rfl (by kernel_rfl) rfl rfl (fun K hK=>?_) (fun K hK=>?_)
     ·go_simp
      refine (KTap.out _ (HWW.out.2.trans (Je : Ext W _))).mono ?_;rintro e y8 ⟨sa6,si6,rfl,h1,o1,o2⟩;obtain ⟨C8,f8,rfl⟩:=o1.form;obtain ⟨C9,f9,rfl⟩:=o2.form;have HI:=hH o2;have Hy8:=hH h1;have HWy8:=hH (And.intro trivial (HX7.out.trans h1));have HNoA:=hH (show Jh 57 5 tpc W.heap.size y8 (.slice C8 G3.length f8) G3 from o1.lower (by omega));clear h1;have HO1:=hH o1;clear o1 o2;go_simp;refine hK.out _ _ (.inr HWy8.out.2) ?_;clear hK;(try simp only [Act.put,Jm]);refine J3 (S2:=fun X=>Ext W X /\ Bx X ga 52 #[.int .i64 0,.int .i64 0,.int .i64 0,.slice none 0 0,.int .i64 0,.slice none 0 0,.int .i64 0,.int .i64 0] /\ Jh 57 5 tpc W.heap.size X (.slice C8 G3.length f8) G3) ⟨HWy8.out.2,(HFbga.out.ext Hy8.out),HNoA.out⟩ ?_;intro X8 hX;clear HFbga;clear qbga fbga lbga;obtain ⟨hx,hfbga,hfoA⟩:=hX.out;have HX8:=hH hx;have hzX8:=hx.size;have HFbga:=hH hfbga;have qbga:=hfbga.row.2.1;have fbga:=hfbga.row.2.2;have lbga:=hfbga.lt;clear hfbga;have HFoA:=hH hfoA;clear hfoA;have hS : Ext W X8:=hx;clear hX hx;(refine tkP 9 ?_;refine tkP 10 ?_;refine tkP 11 ?_;refine tkP 12 ?_);clear hS;refine oA 14 fun K hK=>?_;go_simp;refine hK.out _ _ (.inr (Je : Ext W _)) ?_;clear hK;(try simp only [Act.put,Jm]);obtain ⟨gc,hggc⟩ : ∃ g,g = X8.heap.size:=⟨_,rfl⟩;rw [<- hggc]
      have hwgc : W.heap.size <= gc:=by omega
      have hnegagc : ga ≠ gc:=by have:=HFbga.out.lt;omega
      have hnegcga : gc ≠ ga:=fun h=>hnegagc h.symm
      have hsep : ∀ q,(Value.slice C8 G3.length f8).ownBlock = some q -> q ≠ gc:=fun q hq h=>by have:=(HFoA.out.lt q hq).2;omega
      refine J3 (S2:=fun X=>Ext W X /\ Bx X ga 52 #[.int .i64 0,.int .i64 0,.int .i64 0,.slice none 0 0,.int .i64 0,.slice none 0 0,.int .i64 0,.int .i64 0] /\ Jh 57 5 tpc W.heap.size X (.slice C8 G3.length f8) G3 /\ Bx X gc 57 #[.int .i64 0,.int .i64 0,.int .i64 0,.int .i64 0,.int .i64 0]) ⟨Je,(HFbga.out.ext ((Ext.refl _).alloc _)),(HFoA.out.ext ((Ext.refl _).alloc _)),(Bx.newAt hggc)⟩ ?_;intro X9 hX;clear HFbga HFoA;clear qbga fbga lbga;obtain ⟨hx,hfbga,hfoA,hfbgc⟩:=hX.out;have HX9:=hH hx;have hzX9:=hx.size;have HFbga:=hH hfbga;have qbga:=hfbga.row.2.1;have fbga:=hfbga.row.2.2;have lbga:=hfbga.lt;clear hfbga;have HFoA:=hH hfoA;clear hfoA;have HFbgc:=hH hfbgc;have qbgc:=hfbgc.row.2.1;have fbgc:=hfbgc.row.2.2;have lbgc:=hfbgc.lt;clear hfbgc;clear hX hx;have HALL:=hH (show Ext W X9 /\ W.heap.size <= ga /\ W.heap.size <= gc /\ ga ≠ gc /\ (∀ q,(Value.slice C8 G3.length f8).ownBlock = some q -> q ≠ gc) /\ Bx X9 ga 52 #[.int .i64 0,.int .i64 0,.int .i64 0,.slice none 0 0,.int .i64 0,.slice none 0 0,.int .i64 0,.int .i64 0] /\ Bx X9 gc 57 #[.int .i64 0,.int .i64 0,.int .i64 0,.int .i64 0,.int .i64 0] /\ Jh 57 5 tpc W.heap.size X9 (.slice C8 G3.length f8) G3 /\ RdP P 1 inc w (.slice C9 G5.length f9) G5 from ⟨HX9.out,hwga,hwgc,hnegagc,hsep,HFbga.out,HFbgc.out,HFoA.out,HI.out⟩)
      try rw [<- hgga]
      try rw [<- hggc]
      refine Z5 (l2:=#[true,true,true,true,true,true,true,true,true,true,true,true,true,true,true,false,false,false]) (by kernel_rfl) ?_
      revert HALL
      exact key X9 ga gc C8 f8 C9 f9
     ·go_simp
      refine hK.out _ _ (.inr (Je : Ext W _)) ?_;clear hK;(try simp only [Act.put,Jm]);obtain ⟨gc,hggc⟩ : ∃ g,g = X7.heap.size:=⟨_,rfl⟩;rw [<- hggc]
      have hwgc : W.heap.size <= gc:=by omega
      have hnegagc : ga ≠ gc:=by have:=HFbga.out.lt;omega
      have hnegcga : gc ≠ ga:=fun h=>hnegagc h.symm;refine J3 (S2:=fun X=>Ext W X /\ Bx X ga 52 #[.int .i64 0,.int .i64 0,.int .i64 0,.slice none 0 0,.int .i64 0,.slice none 0 0,.int .i64 0,.int .i64 0] /\ Bx X gc 57 #[.int .i64 0,.int .i64 0,.int .i64 0,.int .i64 0,.int .i64 0]) ⟨Je,(HFbga.out.ext ((Ext.refl _).alloc _)),(Bx.newAt hggc)⟩ ?_;intro X10 hX;clear HFbga;clear qbga fbga lbga;obtain ⟨hx,hfbga,hfbgc⟩:=hX.out;have HX10:=hH hx;have hzX10:=hx.size;have HFbga:=hH hfbga;have qbga:=hfbga.row.2.1;have fbga:=hfbga.row.2.2;have lbga:=hfbga.lt;clear hfbga;have HFbgc:=hH hfbgc;have qbgc:=hfbgc.row.2.1;have fbgc:=hfbgc.row.2.2;have lbgc:=hfbgc.lt;clear hfbgc;clear hX hx;refine oA 8 fun K hK=>?_;go_simp;refine (KTap.out _ (HWW.out.2.trans (Je : Ext W _))).mono ?_;rintro e y11 ⟨sa6,si6,rfl,h1,o1,o2⟩;obtain ⟨C8,f8,rfl⟩:=o1.form;obtain ⟨C9,f9,rfl⟩:=o2.form;have HI:=hH o2;have Hy11:=hH h1;have HWy11:=hH (And.intro trivial (HX10.out.trans h1));have HNoA:=hH (show Jh 57 5 tpc W.heap.size y11 (.slice C8 G3.length f8) G3 from o1.lower (by omega));clear h1
      have hsep : ∀ q,(Value.slice C8 G3.length f8).ownBlock = some q -> q ≠ gc:=fun q hq h=>by have:=(o1.lt q hq).1;have:=HFbgc.out.lt;omega
      clear o1 o2;go_simp;refine hK.out _ _ (.inr HWy11.out.2) ?_;clear hK;(try simp only [Act.put,Jm]);refine J3 (S2:=fun X=>Ext W X /\ Bx X ga 52 #[.int .i64 0,.int .i64 0,.int .i64 0,.slice none 0 0,.int .i64 0,.slice none 0 0,.int .i64 0,.int .i64 0] /\ Bx X gc 57 #[.int .i64 0,.int .i64 0,.int .i64 0,.int .i64 0,.int .i64 0] /\ Jh 57 5 tpc W.heap.size X (.slice C8 G3.length f8) G3) ⟨HWy11.out.2,(HFbga.out.ext Hy11.out),(HFbgc.out.ext Hy11.out),HNoA.out⟩ ?_;intro X11 hX;clear HFbga HFbgc;clear qbga fbga lbga qbgc fbgc lbgc;obtain ⟨hx,hfbga,hfbgc,hfoA⟩:=hX.out;have HX11:=hH hx;have hzX11:=hx.size;have HFbga:=hH hfbga;have qbga:=hfbga.row.2.1;have fbga:=hfbga.row.2.2;have lbga:=hfbga.lt;clear hfbga;have HFbgc:=hH hfbgc;have qbgc:=hfbgc.row.2.1;have fbgc:=hfbgc.row.2.2;have lbgc:=hfbgc.lt;clear hfbgc;have HFoA:=hH hfoA;clear hfoA;have hS : Ext W X11:=hx;clear hX hx;(refine tkP 9 ?_;refine tkP 10 ?_;refine tkP 11 ?_;refine tkP 12 ?_);clear hS;have HALL:=hH (show Ext W X11 /\ W.heap.size <= ga /\ W.heap.size <= gc /\ ga ≠ gc /\ (∀ q,(Value.slice C8 G3.length f8).ownBlock = some q -> q ≠ gc) /\ Bx X11 ga 52 #[.int .i64 0,.int .i64 0,.int .i64 0,.slice none 0 0,.int .i64 0,.slice none 0 0,.int .i64 0,.int .i64 0] /\ Bx X11 gc 57 #[.int .i64 0,.int .i64 0,.int .i64 0,.int .i64 0,.int .i64 0] /\ Jh 57 5 tpc W.heap.size X11 (.slice C8 G3.length f8) G3 /\ RdP P 1 inc w (.slice C9 G5.length f9) G5 from ⟨HX11.out,hwga,hwgc,hnegagc,hsep,HFbga.out,HFbgc.out,HFoA.out,HI.out⟩)
      try rw [<- hgga]
      try rw [<- hggc]
      refine Z5 (l2:=#[true,true,true,true,true,true,true,true,true,true,true,true,true,true,true,false,false,false]) (by kernel_rfl) ?_
      revert HALL
      exact key X11 ga gc C8 f8 C9 f9
    ·go_simp
     refine hK.out _ _ (.inr (Je : Ext W _)) ?_;clear hK;(try simp only [Act.put,Jm]);obtain ⟨gc,hggc⟩ : ∃ g,g = X1.heap.size:=⟨_,rfl⟩;rw [<- hggc]
     have hwgc : W.heap.size <= gc:=by omega
     refine J3 (S2:=fun X=>Ext W X /\ Bx X gc 57 #[.int .i64 0,.int .i64 0,.int .i64 0,.int .i64 0,.int .i64 0]) ⟨Je,(Bx.newAt hggc)⟩ ?_;intro X12 hX;obtain ⟨hx,hfbgc⟩:=hX.out;have HX12:=hH hx;have hzX12:=hx.size;have HFbgc:=hH hfbgc;have qbgc:=hfbgc.row.2.1;have fbgc:=hfbgc.row.2.2;have lbgc:=hfbgc.lt;clear hfbgc;clear hX hx;refine XD (i:=8) (j:=13) rfl rfl (by kernel_rfl) rfl rfl (fun K hK=>?_) (fun K hK=>?_)
     ·go_simp
      refine (KTap.out _ (HWW.out.2.trans (Je : Ext W _))).mono ?_;rintro e y13 ⟨sa6,si6,rfl,h1,o1,o2⟩;obtain ⟨C8,f8,rfl⟩:=o1.form;obtain ⟨C9,f9,rfl⟩:=o2.form;have HI:=hH o2;have Hy13:=hH h1;have HWy13:=hH (And.intro trivial (HX12.out.trans h1));have HNoA:=hH (show Jh 57 5 tpc W.heap.size y13 (.slice C8 G3.length f8) G3 from o1.lower (by omega));clear h1
      have hsep : ∀ q,(Value.slice C8 G3.length f8).ownBlock = some q -> q ≠ gc:=fun q hq h=>by have:=(o1.lt q hq).1;have:=HFbgc.out.lt;omega
      clear o1 o2;go_simp;refine hK.out _ _ (.inr HWy13.out.2) ?_;clear hK;(try simp only [Act.put,Jm]);refine J3 (S2:=fun X=>Ext W X /\ Bx X gc 57 #[.int .i64 0,.int .i64 0,.int .i64 0,.int .i64 0,.int .i64 0] /\ Jh 57 5 tpc W.heap.size X (.slice C8 G3.length f8) G3) ⟨HWy13.out.2,(HFbgc.out.ext Hy13.out),HNoA.out⟩ ?_;intro X13 hX;clear HFbgc;clear qbgc fbgc lbgc;obtain ⟨hx,hfbgc,hfoA⟩:=hX.out;have HX13:=hH hx;have hzX13:=hx.size;have HFbgc:=hH hfbgc;have qbgc:=hfbgc.row.2.1;have fbgc:=hfbgc.row.2.2;have lbgc:=hfbgc.lt;clear hfbgc;have HFoA:=hH hfoA;clear hfoA;have hS : Ext W X13:=hx;clear hX hx;(refine tkP 9 ?_;refine tkP 10 ?_;refine tkP 11 ?_;refine tkP 12 ?_);clear hS;refine oA 13 fun K hK=>?_;go_simp;refine hK.out _ _ (.inr (Je : Ext W _)) ?_;clear hK;(try simp only [Act.put,Jm]);obtain ⟨ga,hgga⟩ : ∃ g,g = X13.heap.size:=⟨_,rfl⟩;rw [<- hgga]
      have hwga : W.heap.size <= ga:=by omega
      have hnegcga : gc ≠ ga:=by have:=HFbgc.out.lt;omega
      have hnegagc : ga ≠ gc:=fun h=>hnegcga h.symm;refine J3 (S2:=fun X=>Ext W X /\ Bx X gc 57 #[.int .i64 0,.int .i64 0,.int .i64 0,.int .i64 0,.int .i64 0] /\ Jh 57 5 tpc W.heap.size X (.slice C8 G3.length f8) G3 /\ Bx X ga 52 #[.int .i64 0,.int .i64 0,.int .i64 0,.slice none 0 0,.int .i64 0,.slice none 0 0,.int .i64 0,.int .i64 0]) ⟨Je,(HFbgc.out.ext ((Ext.refl _).alloc _)),(HFoA.out.ext ((Ext.refl _).alloc _)),(Bx.newAt hgga)⟩ ?_;intro X14 hX;clear HFbgc HFoA;clear qbgc fbgc lbgc;obtain ⟨hx,hfbgc,hfoA,hfbga⟩:=hX.out;have HX14:=hH hx;have hzX14:=hx.size;have HFbgc:=hH hfbgc;have qbgc:=hfbgc.row.2.1;have fbgc:=hfbgc.row.2.2;have lbgc:=hfbgc.lt;clear hfbgc;have HFoA:=hH hfoA;clear hfoA;have HFbga:=hH hfbga;have qbga:=hfbga.row.2.1;have fbga:=hfbga.row.2.2;have lbga:=hfbga.lt;clear hfbga;clear hX hx;have HALL:=hH (show Ext W X14 /\ W.heap.size <= ga /\ W.heap.size <= gc /\ ga ≠ gc /\ (∀ q,(Value.slice C8 G3.length f8).ownBlock = some q -> q ≠ gc) /\ Bx X14 ga 52 #[.int .i64 0,.int .i64 0,.int .i64 0,.slice none 0 0,.int .i64 0,.slice none 0 0,.int .i64 0,.int .i64 0] /\ Bx X14 gc 57 #[.int .i64 0,.int .i64 0,.int .i64 0,.int .i64 0,.int .i64 0] /\ Jh 57 5 tpc W.heap.size X14 (.slice C8 G3.length f8) G3 /\ RdP P 1 inc w (.slice C9 G5.length f9) G5 from ⟨HX14.out,hwga,hwgc,hnegagc,hsep,HFbga.out,HFbgc.out,HFoA.out,HI.out⟩)
      try rw [<- hgga]
      try rw [<- hggc]
      refine Z5 (l2:=#[true,true,true,true,true,true,true,true,true,true,true,true,true,true,true,false,false,false]) (by kernel_rfl) ?_
      revert HALL
      exact key X14 ga gc C8 f8 C9 f9
     ·go_simp
      refine hK.out _ _ (.inr (Je : Ext W _)) ?_;clear hK;(try simp only [Act.put,Jm]);obtain ⟨ga,hgga⟩ : ∃ g,g = X12.heap.size:=⟨_,rfl⟩;rw [<- hgga]
      have hwga : W.heap.size <= ga:=by omega
      have hnegcga : gc ≠ ga:=by have:=HFbgc.out.lt;omega
      have hnegagc : ga ≠ gc:=fun h=>hnegcga h.symm;refine J3 (S2:=fun X=>Ext W X /\ Bx X gc 57 #[.int .i64 0,.int .i64 0,.int .i64 0,.int .i64 0,.int .i64 0] /\ Bx X ga 52 #[.int .i64 0,.int .i64 0,.int .i64 0,.slice none 0 0,.int .i64 0,.slice none 0 0,.int .i64 0,.int .i64 0]) ⟨Je,(HFbgc.out.ext ((Ext.refl _).alloc _)),(Bx.newAt hgga)⟩ ?_;intro X15 hX;clear HFbgc;clear qbgc fbgc lbgc;obtain ⟨hx,hfbgc,hfbga⟩:=hX.out;have HX15:=hH hx;have hzX15:=hx.size;have HFbgc:=hH hfbgc;have qbgc:=hfbgc.row.2.1;have fbgc:=hfbgc.row.2.2;have lbgc:=hfbgc.lt;clear hfbgc;have HFbga:=hH hfbga;have qbga:=hfbga.row.2.1;have fbga:=hfbga.row.2.2;have lbga:=hfbga.lt;clear hfbga;clear hX hx;refine oA 8 fun K hK=>?_;go_simp;refine (KTap.out _ (HWW.out.2.trans (Je : Ext W _))).mono ?_;rintro e y16 ⟨sa6,si6,rfl,h1,o1,o2⟩;obtain ⟨C8,f8,rfl⟩:=o1.form;obtain ⟨C9,f9,rfl⟩:=o2.form;have HI:=hH o2;have Hy16:=hH h1;have HWy16:=hH (And.intro trivial (HX15.out.trans h1));have HNoA:=hH (show Jh 57 5 tpc W.heap.size y16 (.slice C8 G3.length f8) G3 from o1.lower (by omega));clear h1
      have hsep : ∀ q,(Value.slice C8 G3.length f8).ownBlock = some q -> q ≠ gc:=fun q hq h=>by have:=(o1.lt q hq).1;have:=HFbgc.out.lt;omega
      clear o1 o2;go_simp;refine hK.out _ _ (.inr HWy16.out.2) ?_;clear hK;(try simp only [Act.put,Jm]);refine J3 (S2:=fun X=>Ext W X /\ Bx X gc 57 #[.int .i64 0,.int .i64 0,.int .i64 0,.int .i64 0,.int .i64 0] /\ Bx X ga 52 #[.int .i64 0,.int .i64 0,.int .i64 0,.slice none 0 0,.int .i64 0,.slice none 0 0,.int .i64 0,.int .i64 0] /\ Jh 57 5 tpc W.heap.size X (.slice C8 G3.length f8) G3) ⟨HWy16.out.2,(HFbgc.out.ext Hy16.out),(HFbga.out.ext Hy16.out),HNoA.out⟩ ?_;intro X16 hX;clear HFbgc HFbga;clear qbgc fbgc lbgc qbga fbga lbga;obtain ⟨hx,hfbgc,hfbga,hfoA⟩:=hX.out;have HX16:=hH hx;have hzX16:=hx.size;have HFbgc:=hH hfbgc;have qbgc:=hfbgc.row.2.1;have fbgc:=hfbgc.row.2.2;have lbgc:=hfbgc.lt;clear hfbgc;have HFbga:=hH hfbga;have qbga:=hfbga.row.2.1;have fbga:=hfbga.row.2.2;have lbga:=hfbga.lt;clear hfbga;have HFoA:=hH hfoA;clear hfoA;have hS : Ext W X16:=hx;clear hX hx;(refine tkP 9 ?_;refine tkP 10 ?_;refine tkP 11 ?_;refine tkP 12 ?_);clear hS;have HALL:=hH (show Ext W X16 /\ W.heap.size <= ga /\ W.heap.size <= gc /\ ga ≠ gc /\ (∀ q,(Value.slice C8 G3.length f8).ownBlock = some q -> q ≠ gc) /\ Bx X16 ga 52 #[.int .i64 0,.int .i64 0,.int .i64 0,.slice none 0 0,.int .i64 0,.slice none 0 0,.int .i64 0,.int .i64 0] /\ Bx X16 gc 57 #[.int .i64 0,.int .i64 0,.int .i64 0,.int .i64 0,.int .i64 0] /\ Jh 57 5 tpc W.heap.size X16 (.slice C8 G3.length f8) G3 /\ RdP P 1 inc w (.slice C9 G5.length f9) G5 from ⟨HX16.out,hwga,hwgc,hnegagc,hsep,HFbga.out,HFbgc.out,HFoA.out,HI.out⟩)
      try rw [<- hgga]
      try rw [<- hggc]
      refine Z5 (l2:=#[true,true,true,true,true,true,true,true,true,true,true,true,true,true,true,false,false,false]) (by kernel_rfl) ?_
      revert HALL
      exact key X16 ga gc C8 f8 C9 f9
   ·intro X ga gc C8 f8 C9 f9 HALL
    obtain ⟨hx,hwga,hwgc,hnegagc,hsep,hb1,hb2,ho1,hi1⟩:=HALL.out;have hnegcga : gc ≠ ga:=fun h=>hnegagc h.symm;have HX:=hH hx;have HFbga:=hH hb1;have HFbgc:=hH hb2;have HFoA:=hH ho1;have HI:=hH hi1;clear HALL hx hb1 hb2 ho1 hi1;have qbga:=HFbga.out.row.2.1;have fbga:=HFbga.out.row.2.2;have lbga:=HFbga.out.lt;have qbgc:=HFbgc.out.row.2.1;have fbgc:=HFbgc.out.row.2.2;have lbgc:=HFbgc.out.lt;have hzX:=HX.out.size;refine oA 15 fun K hK=>?_;go_simp;refine hK.out _ _ (.inr (Je : Ext W _)) ?_;clear hK;(try simp only [Act.put,Jm]);refine oA 16 fun K hK=>?_;go_simp;refine hK.out _ _ (.inr (Je : Ext W _)) ?_;clear hK;(try simp only [Act.put,Jm]);(refine oA 17 fun K hK=>?_;go_simp;refine hK.out _ _ (.inl (by kernel_rfl)) ?_;clear hK;(try simp only [Act.put,Jm]);refine Ju (by kernel_rfl) ?_ _)
    by_cases hTE : TE = 0
    case neg =>
     have hteb : (TE == 0) = false:=by simpa using hTE
     have htec : (TE != 0) = true:=by simpa using hTE
     (refine Ji X w.heap.size fun qx_0 fx_0 lx_0 Rx_0=>?_;refine Ji X (w.heap.size + 1) fun qx_1 fx_1 lx_1 Rx_1=>?_;refine Ji X w2.heap.size fun qx_2 fx_2 lx_2 Rx_2=>?_;refine Ji X (w2.heap.size + 1) fun qx_3 fx_3 lx_3 Rx_3=>?_);have HQ:=hH (show R = (st0,0,TE) from by rw [HRES.out];simp [hTE]);go_wp2_with fail;rw [HQ.out];exact bodyPost_ret (v:=.tuple #[.agg #[.slice none 0 0,.slice none 0 0,.slice none 0 0,.int .i64 0,.slice none 0 0,.slice none 0 0,.slice none 0 0],.int .i64 0,.int .i64 TE]) (by simp [results,Tryz.results16,go_sem, *]) rfl ⟨sv0,rfl,(Je : Ext w _),JX.nil⟩
    subst hTE;go_upto_region 13 with fail;have hfa : Fr (fun q=>q = ga) X ((((((((X.setCell ⟨ga,0,none⟩ (.int .i64 G0)).setCell ⟨ga,1,none⟩ (.int .i64 G1)).setCell ⟨ga,2,none⟩ (.int .i64 G2)).setCell ⟨ga,3,none⟩ (.slice C8 G3.length f8)).setCell ⟨ga,4,none⟩ (.int .i64 G4)).setCell ⟨ga,5,none⟩ (.slice C9 G5.length f9)).setCell ⟨ga,6,none⟩ (.int .i64 G6)).setCell ⟨ga,7,none⟩ (.int .i64 G7)):=Fr.Jl rfl (Fr.Jl rfl (Fr.Jl rfl (Fr.Jl rfl (Fr.Jl rfl (Fr.Jl rfl (Fr.Jl rfl (Fr.Jl rfl (Fr.refl _ _))))))));have hfb : Fr (fun q=>q = gc) ((((((((X.setCell ⟨ga,0,none⟩ (.int .i64 G0)).setCell ⟨ga,1,none⟩ (.int .i64 G1)).setCell ⟨ga,2,none⟩ (.int .i64 G2)).setCell ⟨ga,3,none⟩ (.slice C8 G3.length f8)).setCell ⟨ga,4,none⟩ (.int .i64 G4)).setCell ⟨ga,5,none⟩ (.slice C9 G5.length f9)).setCell ⟨ga,6,none⟩ (.int .i64 G6)).setCell ⟨ga,7,none⟩ (.int .i64 G7)) (((((((((((((X.setCell ⟨ga,0,none⟩ (.int .i64 G0)).setCell ⟨ga,1,none⟩ (.int .i64 G1)).setCell ⟨ga,2,none⟩ (.int .i64 G2)).setCell ⟨ga,3,none⟩ (.slice C8 G3.length f8)).setCell ⟨ga,4,none⟩ (.int .i64 G4)).setCell ⟨ga,5,none⟩ (.slice C9 G5.length f9)).setCell ⟨ga,6,none⟩ (.int .i64 G6)).setCell ⟨ga,7,none⟩ (.int .i64 G7)).setCell ⟨gc,0,none⟩ (.int .i64 P0)).setCell ⟨gc,1,none⟩ (.int .i64 P1)).setCell ⟨gc,2,none⟩ (.int .i64 P2)).setCell ⟨gc,3,none⟩ (.int .i64 P3)).setCell ⟨gc,4,none⟩ (.int .i64 P4)):=Fr.Jl rfl (Fr.Jl rfl (Fr.Jl rfl (Fr.Jl rfl (Fr.Jl rfl (Fr.refl _ _)))))
    have hba : ∀ q,(fun q=>q = ga) q -> ∃ e2 cs,Bx X q e2 cs /\ e2 ∉ spK:=by rintro q rfl;exact ⟨_,_,HFbga.out,by decide⟩
    have o3:=(HFoA.out.Zy hfa (offK hba (by decide)));have o5:=hfb.own o3 (fun q hq ho=>hsep q hq ho)
    have hgbx : ∀ q,(Value.slice (some ⟨gb,0,none⟩) 3 cg).ownBlock = some q -> q < W.heap.size:=fun q hq=>by simp [Value.ownBlock] at hq;omega
    have o7:=hfb.own (hfa.own (HO2.out.ext (Je : Ext w2 X)) (fun q hq ho=>by have:=hgbx q hq;have : q = ga:=ho;omega)) (fun q hq ho=>by have:=hgbx q hq;have : q = gc:=ho;omega);have HRga:=hH (show Row (((((((((((((X.setCell ⟨ga,0,none⟩ (.int .i64 G0)).setCell ⟨ga,1,none⟩ (.int .i64 G1)).setCell ⟨ga,2,none⟩ (.int .i64 G2)).setCell ⟨ga,3,none⟩ (.slice C8 G3.length f8)).setCell ⟨ga,4,none⟩ (.int .i64 G4)).setCell ⟨ga,5,none⟩ (.slice C9 G5.length f9)).setCell ⟨ga,6,none⟩ (.int .i64 G6)).setCell ⟨ga,7,none⟩ (.int .i64 G7)).setCell ⟨gc,0,none⟩ (.int .i64 P0)).setCell ⟨gc,1,none⟩ (.int .i64 P1)).setCell ⟨gc,2,none⟩ (.int .i64 P2)).setCell ⟨gc,3,none⟩ (.int .i64 P3)).setCell ⟨gc,4,none⟩ (.int .i64 P4)) ga #[.int .i64 G0,.int .i64 G1,.int .i64 G2,.slice C8 G3.length f8,.int .i64 G4,.slice C9 G5.length f9,.int .i64 G6,.int .i64 G7] from Bx.row (bxC (Bx.far (a:=⟨gc,4,none⟩) (show ga ≠ gc by omega) (Bx.far (a:=⟨gc,3,none⟩) (show ga ≠ gc by omega) (Bx.far (a:=⟨gc,2,none⟩) (show ga ≠ gc by omega) (Bx.far (a:=⟨gc,1,none⟩) (show ga ≠ gc by omega) (Bx.far (a:=⟨gc,0,none⟩) (show ga ≠ gc by omega) (Bx.set (i:=7) (Bx.set (i:=6) (Bx.set (i:=5) (Bx.set (i:=4) (Bx.set (i:=3) (Bx.set (i:=2) (Bx.set (i:=1) (Bx.set (i:=0) HFbga.out))))))))))))) (by simp only [Jm])));(refine Ji X w.heap.size fun qx_0 fx_0 lx_0 Rx_0=>?_;refine Ji X (w.heap.size + 1) fun qx_1 fx_1 lx_1 Rx_1=>?_;refine Ji X w2.heap.size fun qx_2 fx_2 lx_2 Rx_2=>?_;refine Ji X (w2.heap.size + 1) fun qx_3 fx_3 lx_3 Rx_3=>?_);refine Xk (S:=fun Y=>Ext w1 Y /\ Ext w Y /\ W.heap.size <= Y.heap.size /\ ga < Y.heap.size /\ Row Y ga #[.int .i64 G0,.int .i64 G1,.int .i64 G2,.slice C8 G3.length f8,.int .i64 G4,.slice C9 G5.length f9,.int .i64 G6,.int .i64 G7] /\ Row Y (w.heap.size + 1) #[.slice none 0 0,.slice none 0 0,.slice none 0 0,.int .i64 0,.slice none 0 0,.slice none 0 0,.slice none 0 0] /\ Row Y w2.heap.size #[.slice (some ⟨bk,ok,none⟩) s.Ja.Jc.length c0,.slice A1 s.Ja.Jf.length c1,.slice A2 s.Ja.Jd.length c2,.int .i64 s.Jb.Jk,.slice A3 s.Jb.ids.length c3,.slice (some ⟨gb,0,none⟩) 3 cg,.slice A5 s.Jj.length c5] /\ Jh 52 8 gyc w1.heap.size Y (.slice (some ⟨gb,0,none⟩) 3 cg) ys /\ Jh 57 5 tpc W.heap.size Y (.slice C8 G3.length f8) G3) ⟨(Je : Ext w1 _),(Je : Ext w _),by simp;omega,by simp;omega,HRga.out,by exact rowA,by exact rowA,o7,o5⟩ ?_;intro Y hY;obtain ⟨y0,y1,y2,y2b,y3,y4,y5,y6,y7⟩:=hY.out;have HY:=hH y1;have HY1:=hH (And.intro trivial y0);clear y0;have HY3:=hH y3;have HY4:=hH y4;have HY5:=hH y5;have HO6:=hH y6;have HO7:=hH y7;have hzY:=y1.size;clear hY y1 y3 y4 y5 y6 y7 hfa hfb hba o3 o5 o7 HRga qbga fbga lbga qbgc fbgc lbgc qx_0 fx_0 lx_0 Rx_0 qx_1 fx_1 lx_1 Rx_1 qx_2 fx_2 lx_2 Rx_2 qx_3 fx_3 lx_3 Rx_3 HX HW H3 HC H2 H1;(refine Ji Y ga fun qy_0 fy_0 ly_0 Ry_0=>?_;refine Ji Y (w.heap.size + 1) fun qy_1 fy_1 ly_1 Ry_1=>?_;refine Ji Y w2.heap.size fun qy_2 fy_2 ly_2 Ry_2=>?_)
    have hmy : m < ys.length:=by rw [HYS.out.2.2];exact hm3
    have HBG:=hH (show ∀ i,i < 8 -> Y.frozen? ⟨gb,m * 8 + i,none⟩ = false /\ ∃ v,Y.cell? ⟨gb,m * 8 + i,none⟩ = some v from fun i hi=>by
     have hx:=Jh.field Jz HO6.out m i hmy hi _ (Array.getElem?_eq_getElem (show i < (gyc ys[m]).size from hi))
     exact ⟨hx.2,_,hx.1⟩)
    have z0 : Y.frozen? ⟨gb,m * 8,none⟩ = false:=(HBG.out 0 (by decide)).1;have z1 : Y.frozen? ⟨gb,m * 8 + 1,none⟩ = false:=(HBG.out 1 (by decide)).1;have z2 : Y.frozen? ⟨gb,m * 8 + 2,none⟩ = false:=(HBG.out 2 (by decide)).1;have z3 : Y.frozen? ⟨gb,m * 8 + 3,none⟩ = false:=(HBG.out 3 (by decide)).1;have z4 : Y.frozen? ⟨gb,m * 8 + 4,none⟩ = false:=(HBG.out 4 (by decide)).1;have z5 : Y.frozen? ⟨gb,m * 8 + 5,none⟩ = false:=(HBG.out 5 (by decide)).1;have z6 : Y.frozen? ⟨gb,m * 8 + 6,none⟩ = false:=(HBG.out 6 (by decide)).1;have z7 : Y.frozen? ⟨gb,m * 8 + 7,none⟩ = false:=(HBG.out 7 (by decide)).1;obtain ⟨r0,y0⟩ : ∃ v,Y.cell? ⟨gb,m * 8,none⟩ = some v:=(HBG.out 0 (by decide)).2;obtain ⟨r1,y1⟩:=(HBG.out 1 (by decide)).2;obtain ⟨r2,y2⟩:=(HBG.out 2 (by decide)).2;obtain ⟨r3,y3⟩:=(HBG.out 3 (by decide)).2;obtain ⟨r4,y4⟩:=(HBG.out 4 (by decide)).2;obtain ⟨r5,y5⟩:=(HBG.out 5 (by decide)).2;obtain ⟨r6,y6⟩:=(HBG.out 6 (by decide)).2;obtain ⟨r7,y7⟩:=(HBG.out 7 (by decide)).2
    have hgbY : gb < Y.heap.size:=by omega
    go_wp2_with fail;have HQ:=hH (show R = (⟨s.Ja,s.Jb,s.Jg.set m ⟨G0,G1,G2,G3,⟨G4,G5⟩,G6,G7⟩,s.Jj⟩,0,0) from by rw [HRES.out];simp);rw [HQ.out];refine bodyPost_ret (v:=.tuple #[.agg #[.slice (some ⟨bk,ok,none⟩) s.Ja.Jc.length c0,.slice A1 s.Ja.Jf.length c1,.slice A2 s.Ja.Jd.length c2,.int .i64 s.Jb.Jk,.slice A3 s.Jb.ids.length c3,.slice (some ⟨gb,0,none⟩) 3 cg,.slice A5 s.Jj.length c5],.int .i64 0,.int .i64 0]) (by simp [results,Tryz.results16,go_sem, *]) rfl ⟨⟨.slice (some ⟨bk,ok,none⟩) s.Ja.Jc.length c0,.slice A1 s.Ja.Jf.length c1,.slice A2 s.Ja.Jd.length c2,.slice A3 s.Jb.ids.length c3,.slice (some ⟨gb,0,none⟩) 3 cg,.slice A5 s.Jj.length c5⟩,rfl,(Je : Ext w _),⟨HVP.out.tk.inl.ext Je,HVP.out.tp.inl.ext Je,HVP.out.vd.inl.ext Je,HVP.out.dn.inl.ext Je,⟨ys.set m ⟨⟨G0,G1,G2,G3,⟨G4,G5⟩,G6,G7⟩,.slice C8 G3.length f8,.slice C9 G5.length f9⟩,by rw [List.map_set,<- HYS.out.1],?_,fun y hy=>?_⟩,HVP.out.vw.inl.ext Je⟩⟩
    ·refine Jh.rdq (e:=52) (base:=w1.heap.size) ?_ Jz (by omega)
     repeat (first | (with_reducible apply Jh.Jl;focus (simp;omega)) | (with_reducible apply Jh.drew))
     exact own_put8 HO6.out hmy ⟨G0,G1,G2,G3,⟨G4,G5⟩,G6,G7⟩ (.slice C8 G3.length f8) (.slice C9 G5.length f9)
    ·rcases List.mem_or_eq_of_mem_set hy with hy | rfl
     ·exact ((HYS.out.2.1 y hy).weak (fun q hq=>.inl hq)).ext Je
     ·refine ⟨Jh.rdq (e:=57) (base:=W.heap.size) ?_ Jr (by omega),HI.out.inl.ext Je⟩
      repeat (first | (with_reducible apply Jh.Jl;focus (simp;omega)) | (with_reducible apply Jh.drew))
      exact HO7.out
  case false =>
   have hq : Q2 = true /\ gs.Jn.length = 0:=by
    have h:=HZ.out
    cases Q2 with
    | false=>cases h
    | true =>
     simp only [Bool.not_true,Bool.false_or] at h;have:=of_decide_eq_false h.symm;exact ⟨rfl,by omega⟩
   obtain ⟨rfl,hl0⟩:=hq;have hres:=HON.out rfl hl0
   have htap : Zp gs tk time = ⟨id,(m : Int),gs.seq + 1,time,gs.zone⟩:=by unfold Zp;rw [HGS.out.2.2.1,HGS.out.2.2.2]
   rw [htap,HGS.out.2.2.1] at hres;have KE2:=hH (fun w' (h : Ext w w')=>KE.out ⟨id,(m : Int),gs.seq + 1,time,gs.zone⟩ w' h);simp only [show tpc ⟨id,(m : Int),gs.seq + 1,time,gs.zone⟩ = #[.int .i64 id,.int .i64 (m : Int),.int .i64 (gs.seq + 1),.int .i64 time,.int .i64 gs.zone] from rfl] at KE2;clear HAL HON KE htap KTap hl0;generalize Jy s.Ja ⟨id,(m : Int),gs.seq + 1,time,gs.zone⟩ = EN at *;obtain ⟨⟨E0,E1,E2⟩,EV,EE⟩:=EN;generalize s.Jb.ids.contains id = ci at *;generalize within time 0 9999 = wt at *;simp only at hres KE2;have HRES:=hH hres;clear hres;go_wp2_with fail;refine gB (KHI.out _ Je) ?_
   cases ci
   case true =>
    have HQ:=hH (show R = (st0,0,11) from by rw [HRES.out];simp);go_wp2_with fail;rw [HQ.out];exact bodyPost_ret (v:=.tuple #[.agg #[.slice none 0 0,.slice none 0 0,.slice none 0 0,.int .i64 0,.slice none 0 0,.slice none 0 0,.slice none 0 0],.int .i64 0,.int .i64 11]) (by simp [results,Tryz.results16,go_sem, *]) rfl ⟨sv0,rfl,(Je : Ext w _),JX.nil⟩
   go_wp2_with fail;refine gB (KBT.out _) ?_
   cases wt
   case false =>
    have HQ:=hH (show R = (st0,0,3) from by rw [HRES.out];simp);go_wp2_with fail;rw [HQ.out];exact bodyPost_ret (v:=.tuple #[.agg #[.slice none 0 0,.slice none 0 0,.slice none 0 0,.int .i64 0,.slice none 0 0,.slice none 0 0,.slice none 0 0],.int .i64 0,.int .i64 3]) (by simp [results,Tryz.results16,go_sem, *]) rfl ⟨sv0,rfl,(Je : Ext w _),JX.nil⟩
   by_cases h99 : gs.seq = 99
   ·have h99b : (gs.seq == 99) = true:=by simpa using h99
    have HQ:=hH (show R = (st0,0,2) from by rw [HRES.out];simp [h99]);go_wp2_with fail;rw [HQ.out];exact bodyPost_ret (v:=.tuple #[.agg #[.slice none 0 0,.slice none 0 0,.slice none 0 0,.int .i64 0,.slice none 0 0,.slice none 0 0,.slice none 0 0],.int .i64 0,.int .i64 2]) (by simp [results,Tryz.results16,go_sem, *]) rfl ⟨sv0,rfl,(Je : Ext w _),JX.nil⟩
   have h99b : (gs.seq == 99) = false:=by simpa using h99
   go_wp2_with fail;refine (KE2.out _ Je).mono ?_;rintro e w5 ⟨u0,u1,u2,rfl,h5,o0,o1,o2⟩;(try simp only [lSz] at o0 o1 o2);obtain ⟨U0,x0,rfl⟩:=RdP.form o0;obtain ⟨U1,x1,rfl⟩:=RdP.form o1;obtain ⟨U2,x2,rfl⟩:=RdP.form o2;have H5:=hH h5;have hz5:=h5.size;have HU0:=hH o0;have HU1:=hH o1;have HU2:=hH o2;clear h5 o0 o1 o2;(try simp only [lSz] at hz5);(refine Ji w5 w.heap.size fun q5_0 f5_0 l5_0 R5_0=>?_;refine Ji w5 (w.heap.size + 1) fun q5_1 f5_1 l5_1 R5_1=>?_;refine Ji w5 w2.heap.size fun q5_2 f5_2 l5_2 R5_2=>?_;refine Ji w5 (w2.heap.size + 1) fun q5_3 f5_3 l5_3 R5_3=>?_)
   by_cases hEE : EE = 0
   case neg =>
    have hb : (EE == 0) = false:=by simpa using hEE
    have hc : (EE != 0) = true:=by simpa using hEE
    have HQ:=hH (show R = (st0,EV,EE) from by rw [HRES.out];simp [hEE,h99]);go_wp2_with fail;rw [HQ.out];exact bodyPost_ret (v:=.tuple #[.agg #[.slice none 0 0,.slice none 0 0,.slice none 0 0,.int .i64 0,.slice none 0 0,.slice none 0 0,.slice none 0 0],.int .i64 EV,.int .i64 EE]) (by simp [results,Tryz.results16,go_sem, *]) rfl ⟨sv0,rfl,(Je : Ext w _),JX.nil⟩
   subst hEE;have HQ:=hH (show R = (⟨⟨E0,E1,E2⟩,s.Jb,s.Jg.set m ⟨gs.id,gs.zone,gs.seq + 1,gs.Jn,gs.Jb,gs.left,gs.JP⟩,s.Jj⟩,EV,0) from by rw [HRES.out];simp [h99]);go_upto_region 25 with fail
   have HRx:=hH (show Row (((w5.setCell ⟨w2.heap.size,0,none⟩ (.slice U0 E0.length x0)).setCell ⟨w2.heap.size,1,none⟩ (.slice U1 E1.length x1)).setCell ⟨w2.heap.size,2,none⟩ (.slice U2 E2.length x2)) w2.heap.size #[.slice U0 E0.length x0,.slice U1 E1.length x1,.slice U2 E2.length x2,.int .i64 s.Jb.Jk,.slice A3 s.Jb.ids.length c3,.slice (some ⟨gb,0,none⟩) 3 cg,.slice A5 s.Jj.length c5] from by
    have h:=Row.J4 (i:=2) (u:=.slice U2 E2.length x2) (Row.J4 (i:=1) (u:=.slice U1 E1.length x1) (Row.J4 (i:=0) (u:=.slice U0 E0.length x0) R5_2.out))
    simpa only [List.setIfInBounds_toArray,List.set_cons_zero,List.set_cons_succ] using h)
   refine Xk (S:=fun Y=>Ext w1 Y /\ Ext w Y /\ wc.heap.size <= Y.heap.size /\ Row Y (w.heap.size + 1) #[.slice none 0 0,.slice none 0 0,.slice none 0 0,.int .i64 0,.slice none 0 0,.slice none 0 0,.slice none 0 0] /\ Row Y w2.heap.size #[.slice U0 E0.length x0,.slice U1 E1.length x1,.slice U2 E2.length x2,.int .i64 s.Jb.Jk,.slice A3 s.Jb.ids.length c3,.slice (some ⟨gb,0,none⟩) 3 cg,.slice A5 s.Jj.length c5] /\ Jh 52 8 gyc w1.heap.size Y (.slice (some ⟨gb,0,none⟩) 3 cg) ys /\ RdQ P wc.heap.size 6 tkc Y (.slice U0 E0.length x0) E0 /\ RdQ P wc.heap.size 5 tpc Y (.slice U1 E1.length x1) E1 /\ RdQ P wc.heap.size 1 inc Y (.slice U2 E2.length x2) E2) ⟨(Je : Ext w1 _),(Je : Ext w _),by simp;omega,by exact rowA,by exact rowA,?_,(by repeat (first | (with_reducible exact Hid.out ‹Hid (RdP _ _ _ _ _ _)›) | (with_reducible refine RdQ.Jl (b:=w.heap.size) HP.out (by simp <;> omega) ?_) | (with_reducible refine RdP.drew ?_) | (with_reducible refine RdP.alloc ?_ _) | (with_reducible refine RdP.ext ?_ (Hid.out ‹Hid (Ext _ _)›)))),(by repeat (first | (with_reducible exact Hid.out ‹Hid (RdP _ _ _ _ _ _)›) | (with_reducible refine RdQ.Jl (b:=w.heap.size) HP.out (by simp <;> omega) ?_) | (with_reducible refine RdP.drew ?_) | (with_reducible refine RdP.alloc ?_ _) | (with_reducible refine RdP.ext ?_ (Hid.out ‹Hid (Ext _ _)›)))),(by repeat (first | (with_reducible exact Hid.out ‹Hid (RdP _ _ _ _ _ _)›) | (with_reducible refine RdQ.Jl (b:=w.heap.size) HP.out (by simp <;> omega) ?_) | (with_reducible refine RdP.drew ?_) | (with_reducible refine RdP.alloc ?_ _) | (with_reducible refine RdP.ext ?_ (Hid.out ‹Hid (Ext _ _)›))))⟩ ?_
   ·repeat (first | exact HO2.out | (with_reducible apply Jh.alloc) | (with_reducible apply Jh.drew) | (refine Jh.put ?_ (by simp [Value.ownBlock];omega) _) | (with_reducible refine Jh.ext ?_ (Hid.out ‹Hid (Ext _ _)›)))
   intro Y hY;obtain ⟨y0,y1,y2,y3,y4,y5,y6,y7,y8⟩:=hY.out;have HY:=hH y1;have HY1:=hH (And.intro trivial y0);have HY3:=hH y3;have HY4:=hH y4;have HO6:=hH y5;have HT0:=hH y6;have HT1:=hH y7;have HT2:=hH y8;have hzY:=y1.size;clear hY y0 y1 y3 y4 y5 y6 y7 y8 q5_0 f5_0 l5_0 R5_0 q5_1 f5_1 l5_1 R5_1 q5_2 f5_2 l5_2 R5_2 q5_3 f5_3 l5_3 R5_3 HU0 HU1 HU2 H5 H3 HC H2 H1;(refine Ji Y (w.heap.size + 1) fun qy_0 fy_0 ly_0 Ry_0=>?_;refine Ji Y w2.heap.size fun qy_1 fy_1 ly_1 Ry_1=>?_)
   have hmy : m < ys.length:=by rw [HYS.out.2.2];exact hm3
   have hym : ys[m].g = gs:=by rw [<- HGS.out.1];simp [HYS.out.1]
   have hx2:=Jh.field Jz HO6.out m 2 hmy (by decide) (.int .i64 gs.seq) (by rw [<- hym];rfl);have z2:=hx2.2;have y2':=hx2.1
   have hgbY : gb < Y.heap.size:=by omega
   have hgn : gb ≠ w2.heap.size:=by omega
   have hgn2 : gb ≠ w.heap.size + 1:=by omega
   clear hx2;go_wp2_with fail;rw [HQ.out];refine bodyPost_ret (v:=.tuple #[.agg #[.slice U0 E0.length x0,.slice U1 E1.length x1,.slice U2 E2.length x2,.int .i64 s.Jb.Jk,.slice A3 s.Jb.ids.length c3,.slice (some ⟨gb,0,none⟩) 3 cg,.slice A5 s.Jj.length c5],.int .i64 EV,.int .i64 0]) (by simp [results,Tryz.results16,go_sem, *]) rfl ⟨⟨.slice U0 E0.length x0,.slice U1 E1.length x1,.slice U2 E2.length x2,.slice A3 s.Jb.ids.length c3,.slice (some ⟨gb,0,none⟩) 3 cg,.slice A5 s.Jj.length c5⟩,rfl,(Je : Ext w _),⟨?_,?_,?_,HVP.out.dn.inl.ext Je,⟨ys.set m ⟨⟨gs.id,gs.zone,gs.seq + 1,gs.Jn,gs.Jb,gs.left,gs.JP⟩,ys[m].sa,ys[m].si⟩,by rw [List.map_set,<- HYS.out.1],?_,fun y hy=>?_⟩,HVP.out.vw.inl.ext Je⟩⟩
   ·(refine RdQ.down (n:=wc.heap.size) ?_ (by omega);repeat (first | (with_reducible exact Hid.out ‹Hid (RdP _ _ _ _ _ _)›) | (with_reducible refine RdQ.Jl (b:=w.heap.size) HP.out (by simp <;> omega) ?_) | (with_reducible refine RdP.drew ?_) | (with_reducible refine RdP.alloc ?_ _) | (with_reducible refine RdP.ext ?_ (Hid.out ‹Hid (Ext _ _)›))))
   ·(refine RdQ.down (n:=wc.heap.size) ?_ (by omega);repeat (first | (with_reducible exact Hid.out ‹Hid (RdP _ _ _ _ _ _)›) | (with_reducible refine RdQ.Jl (b:=w.heap.size) HP.out (by simp <;> omega) ?_) | (with_reducible refine RdP.drew ?_) | (with_reducible refine RdP.alloc ?_ _) | (with_reducible refine RdP.ext ?_ (Hid.out ‹Hid (Ext _ _)›))))
   ·(refine RdQ.down (n:=wc.heap.size) ?_ (by omega);repeat (first | (with_reducible exact Hid.out ‹Hid (RdP _ _ _ _ _ _)›) | (with_reducible refine RdQ.Jl (b:=w.heap.size) HP.out (by simp <;> omega) ?_) | (with_reducible refine RdP.drew ?_) | (with_reducible refine RdP.alloc ?_ _) | (with_reducible refine RdP.ext ?_ (Hid.out ‹Hid (Ext _ _)›))))
   ·refine Jh.rdq (e:=52) (base:=w1.heap.size) ?_ Jz (by omega)
    repeat (first | (with_reducible apply Jh.Jl;focus (simp;omega)) | (with_reducible apply Jh.drew))
    exact Jh.JW Jz HO6.out m 2 hmy (by decide) _ _ (by rw [<- hym];rfl)
   ·rcases List.mem_or_eq_of_mem_set hy with hy | rfl
    ·exact ((HYS.out.2.1 y hy).weak (fun q hq=>.inl hq)).ext Je
    ·have hgy:=HYS.out.2.1 ys[m] (List.getElem_mem hmy)
     unfold GyP at hgy ⊢;rw [hym] at hgy;exact ⟨hgy.1.inl.ext Je,hgy.2.inl.ext Je⟩
end Go.Proofs.YteojjbhadgkfgaaGreat
