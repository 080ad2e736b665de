/- Qc: parts of the proofs, laid together. -/
import Derived.Shelf.Spec.SlicesInsert
import Derived.Shelf.Spec.SlicesInsertGrow
import Derived.Test.YteojjbhadgkfgaaGreatQb
import Derived.Test.YteojjbhadgkfgaaGreatQa
/- ledger's keeper.enter. -/
set_option maxHeartbeats 64000000
namespace Go.Proofs.YteojjbhadgkfgaaGreat
set_option linter.unusedSimpArgs false
set_option linter.unusedVariables false
set_option maxRecDepth 100000
open Go Go.RowKit Lb

theorem tapAt_all (l : Ld) (p : Tp) (hlen : l.Jf.length = l.Jd.length) : tapAt l.Jc l.Jf l.Jd l.Jf.length p = Xw l.Jc l.Jf l.Jd p:=by
 unfold tapAt Xw judgeIn;rw [ridesTo_all _ _ _ _ (Nat.le_refl _) (by omega),List.take_length];simp only [show ¬ (l.Jf.length < l.Jd.length) by omega,false_and,if_false]
 rfl
theorem right_zones {l : Ld} (h : Js l = 0) : ∀ t ∈ l.Jc,0 <= t.JS /\ t.JS < 16:=fun t ht=>zones_in (ZH (J6.1 h).2.2.2.1 t ht)
theorem ckTaps_times (tks : List Tk) : ∀ (l : List Tp) (vl : List Int) (pre : List Tp) (pv : List Int),l.length = vl.length -> ZE tks pre pv l vl = 0 -> ∀ x ∈ l,0 <= x.time /\ x.time <= 9999
 | [],[],_,_,_,_=>by simp
 | p :: l,v :: vl,pre,pv,hl,h=>by
  unfold ZE at h
  by_cases hc : Zl tks pre pv p v = 0
  ·rw [if_neg (by simpa using hc)] at h
   intro x hx
   rcases List.mem_cons.1 hx with rfl | hx
   ·exact time_ok (ckTapAt_tap hc)
   ·exact ckTaps_times tks l vl _ _ (by simpa using hl) h x hx
  ·rw [if_pos hc] at h;exact absurd h hc
 | [],_ :: _,_,_,hl,_=>by simp at hl
 | _ :: _,[],_,_,hl,_=>by simp at hl
theorem right_times {l : Ld} (h : Js l = 0) : ∀ x ∈ l.Jf,0 <= x.time /\ x.time <= 9999:=ckTaps_times _ _ _ _ _ (right_len h) (J6.1 h).2.2.2.2

theorem keeper_enter (l : Ld) (t0 t1 t2 : Value) (p : Tp) (b0 base : Nat) (w : World) (hck : Js l = 0) (ho : JL base w t0 t1 t2 l) (n0 : t0.ownBlock ≠ some b0) (n1 : t1.ownBlock ≠ some b0) (n2 : t2.ownBlock ≠ some b0) (hb : base <= b0) (hg : Row w b0 #[t0,t1,t2]) :
  Calls Tryz.prog 197 #[.pointer (some ⟨b0,0,none⟩),.agg (tpc p)] w fun e w'=>e = .returned (.tuple #[.int .i64 (Jy l p).2.1,.int .i64 (Jy l p).2.2]) /\ Below base w w' /\
   ((Jy l p).2.2 = 0 -> ∃ t1' t2',Row w' b0 #[t0,t1',t2'] /\ JL base w' t0 t1' t2' (Jy l p).1):=by
 have HTP:=hH (fun w' (h : Ext w w')=>ledger_tap l.Jc l.Jf l.Jd t0 t1 t2 l.Jf.length p w' (Nat.le_refl _) (right_len hck) (right_zones hck) (by rw [List.take_length];exact right_times hck) ((ho.tk.rd JH).ext h) ((ho.tp.rd Jr).ext h) ((ho.vd.rd JD).ext h));rw [tapAt_all l p (right_len hck)] at HTP
 have hres : Jy l p = if (Xw l.Jc l.Jf l.Jd p).2 ≠ 0 then (ld0,(Xw l.Jc l.Jf l.Jd p).1,(Xw l.Jc l.Jf l.Jd p).2)
  else if l.Jf.length = 60 then (ld0,0,2)
  else (⟨l.Jc,l.Jf ++ [p],l.Jd ++ [(Xw l.Jc l.Jf l.Jd p).1]⟩,(Xw l.Jc l.Jf l.Jd p).1,0):=rfl
 have hl60:=(J6.1 hck).2.1;have hlen:=right_len hck;generalize Jy l p = res at *;generalize Xw l.Jc l.Jf l.Jd p = V at *;obtain ⟨V1,V2⟩:=V;obtain ⟨tks,Jf,vs⟩:=l;simp only at HTP hres hl60 hlen;have hbw : base <= w.heap.size:=Nat.le_trans hb (Nat.le_of_lt hg.1);have HG:=hH hg;have HO:=hH ho;obtain ⟨A0,c0,rfl⟩:=ho.tk.form;obtain ⟨A1,c1,rfl⟩:=ho.tp.form;obtain ⟨A2,c2,rfl⟩:=ho.vd.form;have hb0:=hg.1;simp only at HTP hg;have N0:=hH n0;have N1:=hH n1;have N2:=hH n2;have HRES:=hH hres;have HLEN:=hH hlen;have HL60:=hH hl60;clear hck ho hg n0 n1 n2 hres hlen hl60;unfold tpc at HTP ⊢;go_enter Tryz.func197,Tryz.ntmps197;go_upto_region 1 with fail;(apply ZL (w0:=w) (g0:=b0) (g1:=w.heap.size);(focus (exact rowA));(focus (exact rowA));(focus (exact Je));intro W HW hzW Ra_0 Ra_1;(try simp only [Jm,World.size_alloc,size_set,World.heap_drewN,size_drew] at hzW Ra_0 Ra_1);have la_0:=Ra_0.out.size;have la_1:=Ra_1.out.size);have HK:=hH (fun w' (h : Ext W w')=>And.intro (Row.ext h Ra_0.out).2.1 ((Row.ext h Ra_1.out).2.1));(refine Jw (fun w'=>Ext W w') 16 (by kernel_rfl) ((Ext.refl _).drew) (fun hS=>?_);simp only [List.length_cons,List.length_nil]);(refine tkA 0 HK hS ?_;refine tkA 1 HK hS ?_;refine tkA 2 HK hS ?_;refine tkA 3 HK hS ?_;refine tkA 4 HK hS ?_;refine tkA 5 HK hS ?_;refine tkA 6 HK hS ?_;refine tkA 7 HK hS ?_;refine tkA 8 HK hS ?_;refine tkA 9 HK hS ?_;refine tkA 10 HK hS ?_);(refine oA 11 fun K hK=>?_;go_simp);refine (HTP.out _ Je).mono ?_;rintro e w1 ⟨rfl,h1⟩;have H1:=hH h1;clear h1 hS
 (go_wp2_with fail;have hS : Ext W w1:=by exact Je);(refine hK.out _ _ (.inr hS) ?_;clear hK;(try simp only [Act.put,Jm]))
 ((refine oA 12 fun K hK=>?_;go_simp;refine hK.out _ _ (.inr hS) ?_;clear hK;(try simp only [Act.put,Jm])));(refine tkA 13 HK hS ?_;refine tkA 14 HK hS ?_);(refine tkA 15 HK hS ?_);(refine oA 16 fun K hK=>?_;go_simp;refine hK.out _ _ (.inl (by kernel_rfl)) ?_;clear hK;(try simp only [Act.put,Jm]);refine Ju (by kernel_rfl) ?_ _);clear hS;(refine Ji w1 b0 fun q1_0 f1_0 l1_0 R1_0=>?_;refine Ji w1 w.heap.size fun q1_1 f1_1 l1_1 R1_1=>?_);have hz1:=H1.out.size;have hres:=HRES.out
 by_cases hV : V2 = 0
 ·subst hV
  rw [if_neg (by simp)] at hres
  by_cases h6 : Jf.length = 60
  ·have h6b : ((Jf.length : Int) == 60) = true:=by rw [h6];rfl
   rw [if_pos h6] at hres;subst hres;clear h6;go_wp2_with fail;go_ret2;exact ⟨rfl,Below.mono (Je : Ext w _) hbw⟩
  ·have h6b : ((Jf.length : Int) == 60) = false:=by rw [beq_eq_false_iff_ne];omega
   rw [if_neg h6] at hres;subst hres;clear h6;go_upto_region 5 with fail;obtain ⟨own,hown⟩ : ∃ own : Nat -> Prop,own = fun k=>(Value.slice A1 Jf.length c1).ownBlock = some k \/ (Value.slice A2 vs.length c2).ownBlock = some k:=⟨_,rfl⟩
   have hw1 : Ext w w1:=by exact Je
   have O1:=HO.out.ext hw1
   have hnb : ¬ own b0:=by rw [hown];rintro (h | h);exact N1.out h;exact N2.out h
   have hnt : ¬ own w.heap.size:=by
    rw [hown];rintro (h | h)
    ·have:=(HO.out.tp.lt _ h).2;omega
    ·have:=(HO.out.vd.lt _ h).2;omega
   have HK:=hH (fun (w' : World) (h : Fr own w1 w')=>And.intro (h.row hnb R1_0.out).2.1 (h.row hnt R1_1.out).2.1);(refine Jw (fun w'=>Fr own w1 w') 18 (by kernel_rfl) (Fr.mk rfl rfl rfl (Nat.le_refl _) (fun _ _ _=>rfl)) (fun hS=>?_);simp only [List.length_cons,List.length_nil]);(refine tkR 0 HK hS ?_;refine tkR 2 HK hS ?_;refine tkR 3 HK hS ?_;refine tkR 4 HK hS ?_;refine tkR 5 HK hS ?_;refine tkR 6 HK hS ?_;refine tkR 7 HK hS ?_;refine tkR 10 HK hS ?_;refine tkR 11 HK hS ?_;refine tkR 12 HK hS ?_;refine tkR 13 HK hS ?_;refine tkR 14 HK hS ?_;refine tkR 15 HK hS ?_);(refine tkP 1 ?_);obtain ⟨i0,ji,ji0,ji1,ji2⟩:=info_parts Xi;obtain ⟨k0,kj,kj0,kj1,kj2⟩:=info_parts info_it;refine T_jobs' 4 own base [⟨6,42,none,none,57,5,Jf.length,encs tpc Jf⟩,⟨14,50,none,none,3,1,vs.length,encs inc vs⟩,⟨8,44,none,none,57,5,[p].length,encs tpc [p]⟩,⟨9,45,some 0,some 2,57,5,(Jf ++ [p]).length,encs tpc (Jf ++ [p])⟩,⟨16,52,none,none,3,1,[V1].length,encs inc [V1]⟩,⟨17,53,some 1,some 4,3,1,(vs ++ [V1]).length,encs inc (vs ++ [V1])⟩] [true,true,false,false,false,false]
    (fun | 0=>some ⟨.slice A1 Jf.length c1,57,5,Jf.length,encs tpc Jf⟩ | 1=>some ⟨.slice A2 vs.length c2,3,1,vs.length,encs inc vs⟩ | _=>none) rfl rfl (by kernel_rfl) (by kernel_rfl) (by kernel_rfl) (by kernel_rfl) ?hd ?hb ?hI ?hg ?hS ?hj ?hf
   case hd=>intro q J hq;rcases q with _ | _ | _ | _ | _ | _ | q <;> simp only [List.getElem?_cons_zero,List.getElem?_cons_succ,List.getElem?_nil,Option.some.injEq,reduceCtorEq] at hq <;> subst hq <;> simp
   case hb=>exact Nat.le_trans hbw (by simpa using hw1.size)
   case hI =>
    refine ⟨fun q r hq=>?_,fun q1 q2 r s hne h1 h2 b hb1 hb2=>?_,fun q r b hq hbb=>?_,Fr.refl _ _⟩
    ·rcases q with _ | _ | q <;> simp at hq <;> subst hq
     ·exact O1.tp
     ·exact O1.vd
    ·rcases q1 with _ | _ | q1 <;> simp at h1 <;> subst h1 <;> rcases q2 with _ | _ | q2 <;> simp at h2 <;> subst h2
     ·exact absurd rfl hne
     ·exact O1.d12 b hb1 hb2
     ·exact O1.d12 b hb2 hb1
     ·exact absurd rfl hne
    ·right
     rw [hown]
     rcases q with _ | _ | q <;> simp at hq <;> subst hq
     ·exact .inl hbb
     ·exact .inr hbb
   case hg=>intro q J hq hb;rcases q with _ | _ | _ | _ | _ | _ | q <;> simp only [List.getElem?_cons_zero,List.getElem?_cons_succ,List.getElem?_nil,Option.some.injEq,reduceCtorEq] at hq hb <;> subst hq <;> rfl
   case hS=>exact fun W h=>⟨h.os,h.tape,h.output,h.size,h.block⟩
   case hj =>
    intro q J hq hb
    rcases q with _ | _ | _ | _ | _ | _ | q <;> simp only [List.getElem?_cons_zero,List.getElem?_cons_succ,List.getElem?_nil,Option.some.injEq,reduceCtorEq] at hq hb <;> subst hq
    ·refine Zu (enc:=tpc) [p] Jr rfl rfl rfl rfl rfl (by simp [maxLen]) rfl (fun a _=>Jt rfl) (fun a W K hag hK=>bs1_tp p a W K ?_ ?_)
     ·rw [hag.eval (by rfl)];rfl
     ·simpa [encs] using hK
    ·exact owes_app (enc:=tpc) (px:=0) (py:=2) Jf [p] Tryz.underlying23 ji ji0 ji1 ji2 rfl (by decide) Jr rfl rfl rfl rfl ⟨rfl,rfl,rfl,rfl⟩ ⟨rfl,rfl,rfl,rfl⟩ ⟨rfl,rfl,rfl,rfl⟩ rfl (fun a _=>Jt rfl) rfl rfl (Xn [p]) (by have:=HL60.out;unfold maxLen;simp;omega) (by have:=HL60.out;simp;omega)
    ·refine Zu (enc:=inc) [V1] JD rfl rfl rfl rfl rfl (by simp [maxLen]) rfl (fun a _=>Jt rfl) (fun a W K hag hK=>?_)
     have he : a.tmps[51]? = some (.int .i64 V1):=hag.tmp (by rfl);go_simp
     simpa [encs,inc,Act.put] using hK
    ·exact owes_app (enc:=inc) (px:=1) (py:=4) vs [V1] Tryz.underlying24 kj kj0 kj1 kj2 rfl (by decide) JD rfl rfl rfl rfl ⟨rfl,rfl,rfl,rfl⟩ ⟨rfl,rfl,rfl,rfl⟩ ⟨rfl,rfl,rfl,rfl⟩ rfl (fun a _=>Jt rfl) rfl rfl (in_one [V1]) (by have:=HL60.out;have:=HLEN.out;unfold maxLen;simp;omega) (by have:=HL60.out;have:=HLEN.out;simp;omega)
   case hf =>
    intro f W rows hinv hrows;have h3:=hrows 3 _ rfl (by intro q K hq;rcases q with _ | _ | _ | _ | _ | _ | q <;> simp only [List.getElem?_cons_zero,List.getElem?_cons_succ,List.getElem?_nil,Option.some.injEq,reduceCtorEq] at hq <;> subst hq <;> simp);have h5:=hrows 5 _ rfl (by intro q K hq;rcases q with _ | _ | _ | _ | _ | _ | q <;> simp only [List.getElem?_cons_zero,List.getElem?_cons_succ,List.getElem?_nil,Option.some.injEq,reduceCtorEq] at hq <;> subst hq <;> simp);have o3 : Jh 57 5 tpc base W (f 3) (Jf ++ [p]):=hinv.ok 3 _ h3;have o5 : Jh 3 1 inc base W (f 5) (vs ++ [V1]):=hinv.ok 5 _ h5;have d35 : ∀ q,(f 3).ownBlock = some q -> (f 5).ownBlock ≠ some q:=hinv.apart 3 5 _ _ (by decide) h3 h5;have hm3 : ∀ q,(f 3).ownBlock = some q -> w1.heap.size <= q \/ own q:=fun q=>hinv.home 3 _ q h3;have hm5 : ∀ q,(f 5).ownBlock = some q -> w1.heap.size <= q \/ own q:=fun q=>hinv.home 5 _ q h5;have hfr : Fr own w1 W:=⟨hinv.fr.os,hinv.fr.tape,hinv.fr.output,hinv.fr.size,hinv.fr.block⟩;clear hinv hrows h3 h5;simp only [XQ,if_true,if_false,Bool.false_eq_true,Act.put,Jm,Nat.zero_add,Nat.reduceAdd];generalize f 2 = v2;generalize f 4 = v4;generalize f 3 = v3 at *;generalize f 5 = v5 at *;obtain ⟨B3,d3,rfl⟩:=o3.form;obtain ⟨B5,d5,rfl⟩:=o5.form
    have k0 : Jh 34 6 tkc base W (.slice A0 tks.length c0) tks:=hfr.own O1.tk (by
     rw [hown];rintro q h1 (h2 | h2)
     ·exact O1.d01 q h1 h2
     ·exact O1.d02 q h1 h2)
    have e01 : ∀ q,(Value.slice A0 tks.length c0).ownBlock = some q -> q < w1.heap.size /\ ¬ own q:=fun q h=>⟨(O1.tk.lt q h).2,by
     rw [hown];rintro (h2 | h2)
     ·exact O1.d01 q h h2
     ·exact O1.d02 q h h2⟩
    have n3 : (Value.slice B3 (Jf ++ [p]).length d3).ownBlock ≠ some b0:=fun h=>by
     rcases hm3 _ h with h | h
     ·have:=R1_0.out.1;omega
     ·exact hnb h
    have n5 : (Value.slice B5 (vs ++ [V1]).length d5).ownBlock ≠ some b0:=fun h=>by
     rcases hm5 _ h with h | h
     ·have:=R1_0.out.1;omega
     ·exact hnb h
    have hBW : Below base w W:=Below.trans (Below.mono hw1 hbw) (hfr.below (by have:=hw1.size;omega) (fun k hk=>by
     rw [hown] at hk
     rcases hk with h | h
     ·exact (O1.tp.lt k h).1
     ·exact (O1.vd.lt k h).1))
    have kk : JL base W (.slice A0 tks.length c0) (.slice B3 (Jf ++ [p]).length d3) (.slice B5 (vs ++ [V1]).length d5) ⟨tks,Jf ++ [p],vs ++ [V1]⟩:=by
     refine ⟨k0,o3,o5,fun q h1 h2=>?_,fun q h1 h2=>?_,d35⟩
     ·have:=e01 q h1
      rcases hm3 q h2 with h | h
      ·omega
      ·exact this.2 h
     ·have:=e01 q h1
      rcases hm5 q h2 with h | h
      ·omega
      ·exact this.2 h
    have HKK:=hH kk;have HN3:=hH n3;have HN5:=hH n5;have HBW:=hH hBW;clear kk k0 e01 hm3 hm5 d35 o3 o5 n3 n5 hBW;have hS:=hfr;have RB:=hfr.row hnb R1_0.out;have hqB:=RB.2.1;have hfB:=RB.2.2;have hlB:=RB.1;have HRB:=hH RB;clear RB;((refine oA 18 fun K hK=>?_;go_simp;refine hK.out _ _ (.inr hS) ?_;clear hK;(try simp only [Act.put,Jm])));(refine tkP 19 ?_;refine tkP 20 ?_);((refine oA 21 fun K hK=>?_;go_simp;refine hK.out _ _ (.inl (by kernel_rfl)) ?_;clear hK;(try simp only [Act.put,Jm])));(refine tkP 22 ?_;refine tkP 23 ?_;refine tkP 24 ?_);((refine oA 25 fun K hK=>?_;go_simp;refine hK.out _ _ (.inl (by kernel_rfl)) ?_;clear hK;(try simp only [Act.put,Jm])));refine Ju (by kernel_rfl) ?_ _;clear hqB hfB hS hfr hnb hnt hown;go_wp2_with fail;go_ret2;refine ⟨rfl,(HBW.out.setCell hb _).setCell hb _,_,_,?_,(HKK.out.put N0.out HN3.out HN5.out _).put N0.out HN3.out HN5.out _⟩;have:=(HRB.out.J4 (i:=1) (u:=.slice B3 (Jf ++ [p]).length d3)).J4 (i:=2) (u:=.slice B5 (vs ++ [V1]).length d5)
    simpa using this
 ·have hVb : (V2 == 0) = false:=by simpa using hV
  rw [if_pos hV] at hres;subst hres;have HV:=hH hV;clear hV;go_wp2_with fail;go_ret2;exact ⟨rfl,Below.mono (Je : Ext w _) hbw,fun h=>absurd h HV.out⟩

theorem enterL_err {l : Ld} {p : Tp} (h : (Jy l p).2.2 ≠ 0) : (Jy l p).1 = ld0:=by
 unfold Jy at h ⊢
 split
 ·rfl
 ·rename_i h1
  rw [if_neg h1] at h
  split
  ·rfl
  ·rename_i h2
   rw [if_neg h2] at h
   simp at h
theorem JL.forms {base : Nat} {w : World} {t0 t1 t2 : Value} {l : Ld} (h : JL base w t0 t1 t2 l) : ∃ A0 c0 A1 c1 A2 c2,t0 = .slice A0 l.Jc.length c0 /\ t1 = .slice A1 l.Jf.length c1 /\ t2 = .slice A2 l.Jd.length c2:=by
 obtain ⟨A0,c0,h0⟩:=h.tk.form;obtain ⟨A1,c1,h1⟩:=h.tp.form;obtain ⟨A2,c2,h2⟩:=h.vd.form;exact ⟨A0,c0,A1,c1,A2,c2,h0,h1,h2⟩
theorem JL.far {base g : Nat} {w : World} {t0 t1 t2 : Value} {l : Ld} (h : JL base w t0 t1 t2 l) (hg : w.heap.size <= g) : t0.ownBlock ≠ some g /\ t1.ownBlock ≠ some g /\ t2.ownBlock ≠ some g :=
 ⟨fun e=>by have:=(h.tk.lt g e).2;omega,fun e=>by have:=(h.tp.lt g e).2;omega,fun e=>by have:=(h.vd.lt g e).2;omega⟩

theorem ledger_Raw (l : Ld) (s0 s1 s2 : Value) (p : Tp) (w : World) (hck : Js l = 0) (hr0 : RdL 6 tkc w s0 l.Jc) (hr1 : RdL 5 tpc w s1 l.Jf) (hr2 : RdL 1 inc w s2 l.Jd) :
  Calls Tryz.prog 179 #[.agg #[s0,s1,s2],.agg (tpc p)] w fun e w'=>∃ t0 t1 t2,e = .returned (.tuple #[.agg #[t0,t1,t2],.int .i64 (Jy l p).2.1,.int .i64 (Jy l p).2.2]) /\ Ext w w' /\ JL w.heap.size w' t0 t1 t2 (Jy l p).1:=by
 have hb:=J6.1 hck;have HOwn:=hH (fun w' (h : Ext w w')=>ledger_Own l s0 s1 s2 w' (hr0.ext h) (hr1.ext h) (hr2.ext h) ⟨by omega,by omega,by omega⟩);have HT:=hH (fun (t0 t1 t2 : Value) (b0 base : Nat) (w' : World)=>keeper_enter l t0 t1 t2 p b0 base w' hck);have HER:=hH (@enterL_err l p);obtain ⟨A0,c0,rfl,-,-⟩:=hr0.form;obtain ⟨A,c,rfl,-,-⟩:=hr1.form;obtain ⟨A2,c2,rfl,-,-⟩:=hr2.form;generalize Jy l p = res at *;obtain ⟨G,v,e⟩:=res;simp only at HT HER;clear hr0 hr1 hr2 hb hck;rw [show tpc p = #[.int .i64 p.ticket,.int .i64 p.gate,.int .i64 p.seq,.int .i64 p.time,.int .i64 p.zone] from rfl] at HT ⊢;go_enter Tryz.func179,Tryz.ntmps179;go_wp2_with fail;refine (HOwn.out _ Je).mono ?_;rintro e1 w1 ⟨t0,t1,t2,rfl,h1,ho⟩;obtain ⟨B0,d0,B1,d1,B2,d2,rfl,rfl,rfl⟩:=ho.forms;have hz1:=h1.size;have H1:=hH h1;(try simp only [lSz] at hz1 ho);have hf:=ho.far (Nat.le_refl w1.heap.size);have HO:=hH ho;have HF:=hH hf;clear h1 ho hf;(refine Ji w1 w.heap.size fun q1_0 f1_0 l1_0 R1_0=>?_;refine Ji w1 (w.heap.size + 1) fun q1_1 f1_1 l1_1 R1_1=>?_;refine Ji w1 (w.heap.size + 1 + 1) fun q1_2 f1_2 l1_2 R1_2=>?_);go_wp2_with fail;refine (HT.out (.slice B0 l.Jc.length d0) (.slice B1 l.Jf.length d1) (.slice B2 l.Jd.length d2) w1.heap.size (w.heap.size + 1 + 1 + 1) _ (HO.out.alloc _) HF.out.1 HF.out.2.1 HF.out.2.2 (by omega) (Row.newAt rfl)).mono ?_;rintro e2 w2 ⟨rfl,hB,hP⟩;have hr0 : Row w2 w.heap.size _:=(Row.alloc R1_0.out).below hB (by omega);have hr1 : Row w2 (w.heap.size + 1) _:=(Row.alloc R1_1.out).below hB (by omega);have hr2 : Row w2 (w.heap.size + 1 + 1) _:=(Row.alloc R1_2.out).below hB (by omega)
 have hB2 : Ext w w2:=by
  have : Ext w w1:=by exact Je
  exact Below.trans (this.alloc _) (Below.mono hB (by omega))
 have HE2:=hH hB2;have hq2:=hr2.2.1;have hf2:=hr2.2.2;have HR2:=hH hr2;clear hB hB2 hr0 hr1 hr2
 by_cases h0 : e = 0
 ·subst h0
  obtain ⟨t1',t2',hrow,hown⟩:=hP rfl;have hqb:=hrow.2.1;have hlb:=hrow.1;have HOW:=hH hown;obtain ⟨C0,e0,C1,e1,C2,e2,h1,rfl,rfl⟩:=hown.forms;have HRB:=hH hrow;clear hP hrow hown h1;go_wp2_with fail;refine bodyPost_ret (v:=.tuple #[.agg #[.slice B0 l.Jc.length d0,.slice C1 G.Jf.length e1,.slice C2 G.Jd.length e2],.int .i64 v,.int .i64 0]) (by simp [results,Tryz.results179,go_sem, *]) rfl ⟨_,_,_,rfl,(Je : Ext w _),?_⟩;refine JL.lower (base:=w.heap.size + 1 + 1 + 1) ?_ (by omega)
  repeat (first | exact HOW.out | (apply JL.Jl;focus (simp <;> omega)))
 ·have hb0 : (e != 0) = true:=by simpa using h0
  have hG:=HER.out h0;subst hG;clear hP h0 HER;go_wp2_with fail;refine bodyPost_ret (v:=.tuple #[.agg #[.slice none 0 0,.slice none 0 0,.slice none 0 0],.int .i64 v,.int .i64 e]) (by simp [results,Tryz.results179,go_sem, *]) rfl ⟨_,_,_,rfl,(Je : Ext w _),JL.nil⟩

end Go.Proofs.YteojjbhadgkfgaaGreat

namespace Go.Proofs.YteojjbhadgkfgaaGreat
set_option linter.unusedSimpArgs false
set_option linter.unusedVariables false
set_option maxRecDepth 100000
open Go Go.RowKit Go.Lib Lb

theorem Xu {P : Program} (k : Nat) (w : World) (dT sT ty elem : TypeId) (b o dLen dCap : Nat) (a : Addr) (sLen sCap : Nat) (cs : List Value)
  (hu : P.underlying dT = some (.slice elem)) (hs : (P.info? elem).map (·.size) = some k) (hn : cs.length = Nat.min sLen dLen * k)
  (hsrc : ∀ j v,cs[j]? = some v -> w.cell? (a.add j) = some v) (hc : ∀ j,j < cs.length -> (w.cell? ⟨b,o + j,none⟩).isSome = true) (hf : ∀ j,j < cs.length -> w.frozen? ⟨b,o + j,none⟩ = false) (h1 : ∀ v ∈ cs,v.oneCell' = true) :
  (Builtin.copy_ #[dT,sT] ty #[.slice (some ⟨b,o,none⟩) dLen dCap,.slice (some a) sLen sCap]).run P w = .ok (goInt (Nat.min sLen dLen)) (w.setCells b o cs):=by
 have hl:=run_loadCells_list (P:=P) w a cs hsrc;have hst:=run_storeCells_cells (P:=P) b o cs 0 w (by simpa using hc) (by simpa using hf) h1
 cases hq : P.info? elem with
 | none=>simp [hq] at hs
 | some i =>
  have hi : i.size = k:=by simpa [hq] using hs
  have hn' : min sLen dLen * k = cs.length:=hn.symm
  simp [Builtin.copy_,run_underlying hu,Builtin.lenOf,Builtin.firstCells,sizeOf,typeInfo,hq,hi,hn',hl,hst]

theorem tks_one (l : List Tk) : ∀ u ∈ encs tkc l,u.oneCell' = true:=by
 intro u hu;obtain ⟨x,-,hx⟩:=List.mem_flatMap.1 hu
 simp [tkc] at hx
 (rcases hx with rfl | rfl | rfl | rfl | rfl | rfl) <;> rfl

theorem Insert_tk_shift (b n c i g : Nat) (cs vs : List Value) (w : World) (hi : i < n) (hroom : n + 1 <= c) (hc63 : c <= 9223372036854775807) (hvb : g ≠ b)
  (hcl : cs.length = n * 6) (hvl : vs.length = 6)
  (hcs : ∀ j v,cs[j]? = some v -> w.cell? ⟨b,j,none⟩ = some v) (hsp : ∀ j,j < (n + 1) * 6 -> (w.cell? ⟨b,j,none⟩).isSome = true) (hfz : ∀ j,w.frozen? ⟨b,j,none⟩ = false)
  (hvs : ∀ j v,vs[j]? = some v -> w.cell? ⟨g,j,none⟩ = some v) (h1c : ∀ v ∈ cs,v.oneCell' = true) (h1v : ∀ v ∈ vs,v.oneCell' = true)
  (tA tB : TypeId) (kA kB : Nat) (hsa : w.shape? g = some (tA,kA)) (hsb : w.shape? b = some (tB,kB)) (hkB : kB ≠ 0) (hfa : w.frozen? ⟨g,0,none⟩ = false) (hfe : w.frozen? ⟨g,kA,none⟩ = false) :
  Calls Tryz.prog 176 #[.slice (some ⟨b,0,none⟩) n c,.int .i64 i,.slice (some ⟨g,0,none⟩) 1 1] w fun e w' =>
   e = .returned (.slice (some ⟨b,0,none⟩) (n + 1) c) /\ w' = (w.drew.setCells b ((i + 1) * 6) (cs.drop (i * 6))).setCells b (i * 6) vs:=by
 obtain ⟨i0,ji,jz0,jz1,jz2⟩:=info_parts info_tk
 have hsz : (Tryz.prog.info? 34).map (·.size) = some 6:=by rw [ji];simp [jz1]
 have hov : ∀ lb cb,(callFunc 195 #[.slice (some ⟨g,0,none⟩) 1 1,.slice (some ⟨b,(i + 1) * 6,none⟩) lb cb]).run Tryz.prog w = .ok (.value (.bool false)) w:=fun lb cb=>by
  rw [run_callFunc_extern Tryz.func195 (by kernel_rfl) (by kernel_rfl) (by kernel_rfl) (e:=Extern.SlicesOverlaps.overlaps #[22,22] #[4]) (by kernel_rfl),
   Lib.run_overlaps_apart w 22 4 34 Tryz.underlying22 6 (fun w=>by simp [go_sem]) ⟨g,0,none⟩ ⟨b,(i + 1) * 6,none⟩ 1 1 lb cb hvb tA tB kA kB hsa hsb hkB hfa hfe]
  rfl
 have hz2 : ¬ ((i : Int) = (n : Int)):=by omega
 have hz2b : ((i : Int) == (n : Int)) = false:=by simpa using hz2
 have hw1 : IntKind.i64.wrap ((i : Int) + 1) = ((i + 1 : Nat) : Int):=by rw [IntWalk.i64_in _ (by omega)];omega
 have hw2 : IntKind.i64.wrap ((n : Int) + 1) = ((n + 1 : Nat) : Int):=by rw [IntWalk.i64_in _ (by omega)];omega
 have hb2 : ¬ (c = i + 1):=by omega
 have hb4 : ¬ (c = i):=by omega
 have hin : (i : Int) <= (n : Int):=by omega
 have hcd : ¬ ((c : Int) < ((n + 1 : Nat) : Int)):=by omega
 have hcdd : decide ((c : Int) < ((n + 1 : Nat) : Int)) = false:=decide_eq_false hcd
 have hnc : ((n + 1 : Nat) : Int) <= (c : Int):=by omega
 have hi1 : ((i + 1 : Nat) : Int) <= ((n + 1 : Nat) : Int):=by omega
 have hi2 : (i : Int) <= ((n + 1 : Nat) : Int):=by omega
 have hdl : (cs.drop (i * 6)).length = (n - i) * 6:=by rw [List.length_drop,hcl,Nat.sub_mul]
 have hcp1 : ∀ ty dc sc,(Builtin.copy_ #[22,22] ty #[.slice (some ⟨b,(i + 1) * 6,none⟩) (n - i) dc,.slice (some ⟨b,i * 6,none⟩) (n + 1 - i) sc]).run Tryz.prog w.drew = .ok (goInt (Nat.min (n + 1 - i) (n - i))) (w.drew.setCells b ((i + 1) * 6) (cs.drop (i * 6))):=fun ty dc sc =>
  Xu 6 w.drew _ _ ty 34 b ((i + 1) * 6) (n - i) dc ⟨b,i * 6,none⟩ (n + 1 - i) sc (cs.drop (i * 6)) Tryz.underlying22 hsz (by rw [hdl,show Nat.min (n + 1 - i) (n - i) = n - i from Nat.min_eq_right (by omega)])
   (fun j v hj=>by rw [Addr.add_lit];exact hcs (i * 6 + j) v (by rwa [List.getElem?_drop] at hj))
   (fun j hj=>hsp _ (by rw [hdl] at hj;omega)) (fun j hj=>hfz _) (fun v hv=>h1c v (List.mem_of_mem_drop hv))
 obtain ⟨W1,hW1⟩ : ∃ W1,W1 = w.drew.setCells b ((i + 1) * 6) (cs.drop (i * 6)):=⟨_,rfl⟩
 have hsp1 : ∀ k,k < (n + 1) * 6 -> (W1.cell? ⟨b,k,none⟩).isSome = true:=fun k hk=>by
  rw [hW1];exact Go.Proofs.isSome_setCells b _ _ w.drew (fun j hj=>hsp ((i + 1) * 6 + j) (by rw [hdl] at hj;omega)) _ (hsp k hk)
 have hcp2 : ∀ (W : World),(∀ x,W.cell? x = W1.cell? x) -> (∀ x,W.frozen? x = W1.frozen? x) -> ∀ ty dc,(Builtin.copy_ #[22,22] ty #[.slice (some ⟨b,i * 6,none⟩) (n + 1 - i) dc,.slice (some ⟨g,0,none⟩) 1 1]).run Tryz.prog W = .ok (goInt (Nat.min 1 (n + 1 - i))) (W.setCells b (i * 6) vs):=fun W hWc hWf ty dc =>
  Xu 6 W _ _ ty 34 b (i * 6) (n + 1 - i) dc ⟨g,0,none⟩ 1 1 vs Tryz.underlying22 hsz (by rw [hvl,show Nat.min 1 (n + 1 - i) = 1 from Nat.min_eq_left (by omega)])
   (fun j v hj=>by
    rw [Addr.add_lit,hWc,hW1,World.cell?_setCells_out b _ _ _ _ (fun h _=>absurd h hvb),Nat.zero_add]
    exact hvs j v hj)
   (fun j hj=>by rw [hWc];exact hsp1 _ (by rw [hvl] at hj;omega)) (fun j hj=>by rw [hWf,hW1,World.frozen?_setCells];exact hfz _) h1v
 rw [<- hW1] at hcp1
 have mixed : Tryz.prog.follows .mixedOrders = true:=by kernel_rfl
 have hb1 : (0 : Int) <= (i : Int) + 1:=by omega
 have hb3 : (i : Int) <= (n : Int) + 1:=by omega
 go_enter Tryz.func176,Tryz.ntmps176
 go_wp2_with (simp only [hov])
 go_region_law_o (refine Go.Proofs.step_copy_runI rfl _ _ 22 22 rfl _ _ (by simp [Act.eval,Act.put]) (by simp [Act.eval,Act.put]) (hcp1 _ _ _) ?_)
 go_wp2_with (at_builtin;refine Go.Proofs.wpList_copy_runI _ rfl _ _ 22 22 rfl _ _ rfl rfl (hcp2 _ (fun _=>rfl) (fun _=>rfl) _ _) ?_)
 go_ret
 first | exact ⟨rfl,rfl⟩ | exact ⟨rfl,by rw [hW1]⟩

def tkz : Value:=.agg #[.int .i64 0,.int .i64 0,.int .i64 0,.int .i64 0,.int .i64 0,.int .i64 0]
theorem Insert_tk_grow (b n c i g : Nat) (cs vs : List Value) (w : World) (hi : i < n) (hnc : n <= c) (hroom : c < n + 1) (hbig : (n + 1) * 48 <= 140737488355328)
  (hcl : cs.length = n * 6) (hvl : vs.length = 6)
  (hcs : ∀ j v,cs[j]? = some v -> w.cell? ⟨b,j,none⟩ = some v)
  (hvs : ∀ j v,vs[j]? = some v -> w.cell? ⟨g,j,none⟩ = some v) (h1c : ∀ v ∈ cs,v.oneCell' = true) (h1v : ∀ v ∈ vs,v.oneCell' = true) :
  Calls Tryz.prog 176 #[.slice (some ⟨b,0,none⟩) n c,.int .i64 i,.slice (some ⟨g,0,none⟩) 1 1] w fun e w' =>
   e = .returned (.slice (some ⟨w.heap.size,0,none⟩) (n + 1) (grownCap w (n + 1) c 34)) /\
   w' = (((w.alloc (.cells ((cs.take (i * 6)).toArray ++ Builtin.zeroCells tkz.cells (n + 1 - i) ++ Builtin.zeroCells tkz.cells (grownCap w (n + 1) c 34 - (n + 1))) 34)).drew.setCells w.heap.size (i * 6) vs).drew).setCells w.heap.size ((i + 1) * 6) (cs.drop (i * 6)):=by
 obtain ⟨i0,hi0,hz0,hzs,hzb⟩:=info_parts info_tk
 have hsz : (Tryz.prog.info? 34).map (·.size) = some 6:=by rw [hi0];simp [hzs]
 have hz2 : ¬ ((i : Int) = (n : Int)):=by omega
 have hz2b : ((i : Int) == (n : Int)) = false:=by simpa using hz2
 have hz3 : (c : Int) < (n : Int) + 1:=by omega
 have hbw : b < w.heap.size:=block_lt_of_cell (hcs 0 _ (List.getElem?_eq_getElem (by omega)));have hvw : g < w.heap.size:=block_lt_of_cell (hvs 0 _ (List.getElem?_eq_getElem (by omega)))
 have hkk : (n : Int) + 1 - (i : Int) = ((n + 1 - i : Nat) : Int):=by omega
 have hik : i + (n + 1 - i) = n + 1:=by omega
 have hold : (Builtin.firstCells i0.size i (.slice (some ⟨b,0,none⟩) i c)).run Tryz.prog w.drew = .ok (cs.take (i * 6)).toArray w.drew:=by
  rw [hzs]
  exact run_firstCells_some w.drew 6 i ⟨b,0,none⟩ i c (cs.take (i * 6)) (by rw [List.length_take];omega) (fun j v hj=>by
   rw [Addr.add_lit,Nat.zero_add];rw [List.getElem?_take] at hj
   split at hj
   ·exact hcs j v hj
   ·cases hj)
 have hrz : ∀ ty,(Builtin.append_ #[22,3] ty #[.slice (some ⟨b,0,none⟩) i c,.int .i64 ((n : Int) + 1 - (i : Int))]).run Tryz.prog w =
   .ok (.slice (some ⟨w.heap.size,0,none⟩) (n + 1) (grownCap w (n + 1) c 34)) (w.drew.alloc (.cells ((cs.take (i * 6)).toArray ++ Builtin.zeroCells tkz.cells (n + 1 - i) ++ Builtin.zeroCells tkz.cells (grownCap w (n + 1) c 34 - (n + 1))) 34)):=fun ty=>by
  have h:=Lib.run_append_grow_zeros w 22 3 ty 34 i0 _ .i64 .i64 Tryz.underlying22 Tryz.underlying3 hi0 hz0 (some ⟨b,0,none⟩) i c (cs.take (i * 6)) hold (n + 1 - i) (by omega) (by omega) (by omega) (by omega) (by rw [hzb];omega) (by rw [hzb,hik];exact growslice_fits hroom hbig);rw [hik] at h;rw [hkk];exact h
 obtain ⟨G,hG⟩ : ∃ G,G = grownCap w (n + 1) c 34:=⟨_,rfl⟩;obtain ⟨ROW,hROW⟩ : ∃ ROW : Array Value,ROW = (cs.take (i * 6)).toArray ++ Builtin.zeroCells tkz.cells (n + 1 - i) ++ Builtin.zeroCells tkz.cells (G - (n + 1)):=⟨_,rfl⟩;rw [<- hG] at hrz ⊢;rw [<- hROW] at hrz ⊢
 have hRl : (n + 1) * 6 <= ROW.size:=by
  rw [hROW]
  simp [Builtin.zeroCells,tkz,Value.cells]
  omega
 obtain ⟨W1,hW1⟩ : ∃ W1,W1 = w.drew.alloc (.cells ROW 34):=⟨_,rfl⟩;rw [<- hW1] at hrz
 have hN : ∀ j,j < (n + 1) * 6 -> (W1.cell? ⟨w.heap.size,j,none⟩).isSome = true:=fun j hj=>by
  rw [hW1,World.cell?_alloc_at (w:=w.drew) ROW _ w.heap.size j rfl,Array.getElem?_eq_getElem (by omega)];rfl
 have hNf : ∀ j,W1.frozen? ⟨w.heap.size,j,none⟩ = false:=fun j=>by rw [hW1];exact World.frozen?_alloc_at (w:=w.drew) ROW _ w.heap.size j rfl
 have hOb : ∀ j v,w.cell? ⟨b,j,none⟩ = some v -> W1.cell? ⟨b,j,none⟩ = some v:=fun j v h=>by rw [hW1,World.cell?_alloc_past (w:=w.drew) _ b j hbw];exact h
 have hOv : ∀ j v,w.cell? ⟨g,j,none⟩ = some v -> W1.cell? ⟨g,j,none⟩ = some v:=fun j v h=>by rw [hW1,World.cell?_alloc_past (w:=w.drew) _ g j hvw];exact h
 have hcpA : ∀ (W : World),(∀ x,W.cell? x = W1.cell? x) -> (∀ x,W.frozen? x = W1.frozen? x) -> ∀ ty dc,(Builtin.copy_ #[22,22] ty #[.slice (some ⟨w.heap.size,i * 6,none⟩) (n + 1 - i) dc,.slice (some ⟨g,0,none⟩) 1 1]).run Tryz.prog W = .ok (goInt (Nat.min 1 (n + 1 - i))) (W.setCells w.heap.size (i * 6) vs):=fun W hWc hWf ty dc =>
  Xu 6 W _ _ ty 34 w.heap.size (i * 6) (n + 1 - i) dc ⟨g,0,none⟩ 1 1 vs Tryz.underlying22 hsz (by rw [hvl,show Nat.min 1 (n + 1 - i) = 1 from Nat.min_eq_left (by omega)])
   (fun j v hj=>by rw [Addr.add_lit,hWc,Nat.zero_add];exact hOv _ v (hvs j v hj))
   (fun j hj=>by rw [hWc];exact hN _ (by omega)) (fun j hj=>by rw [hWf];exact hNf _) h1v
 have hGn : n + 1 <= G:=by rw [hG];exact grownCap_ge w _ _ _
 have hG63 : G <= 9223372036854775807:=by
  have:=grownCap_le_maxLen w (n + 1) c 34 (by unfold maxLen;omega);rw [<- hG] at this;unfold maxLen at this
  omega
 have hGi : ¬ (G = i):=by omega
 have hGim : ¬ (G = i + 1):=by omega
 have hci : ¬ (c = i):=by omega
 have hbN : b ≠ w.heap.size:=by omega
 have hdl : (cs.drop (i * 6)).length = (n - i) * 6:=by rw [List.length_drop,hcl,Nat.sub_mul]
 have hcpB : ∀ (W : World),(∀ x,W.cell? x = (W1.setCells w.heap.size (i * 6) vs).cell? x) -> (∀ x,W.frozen? x = (W1.setCells w.heap.size (i * 6) vs).frozen? x) -> ∀ ty dc sc,(Builtin.copy_ #[22,22] ty #[.slice (some ⟨w.heap.size,(i + 1) * 6,none⟩) (n - i) dc,.slice (some ⟨b,i * 6,none⟩) (n - i) sc]).run Tryz.prog W = .ok (goInt (Nat.min (n - i) (n - i))) (W.setCells w.heap.size ((i + 1) * 6) (cs.drop (i * 6))):=fun W hWc hWf ty dc sc =>
  Xu 6 W _ _ ty 34 w.heap.size ((i + 1) * 6) (n - i) dc ⟨b,i * 6,none⟩ (n - i) sc (cs.drop (i * 6)) Tryz.underlying22 hsz (by rw [hdl,show Nat.min (n - i) (n - i) = n - i from Nat.min_self _])
   (fun j v hj=>by
    rw [Addr.add_lit,hWc,World.cell?_setCells_out _ _ _ _ _ (fun h _=>absurd h hbN)]
    exact hOb _ v (hcs (i * 6 + j) v (by rwa [List.getElem?_drop] at hj)))
   (fun j hj=>by rw [hWc];exact Go.Proofs.isSome_setCells _ _ _ W1 (fun t ht=>hN (i * 6 + t) (by omega)) _ (hN _ (by omega)))
   (fun j hj=>by rw [hWf,World.frozen?_setCells];exact hNf _) (fun v hv=>h1c v (List.mem_of_mem_drop hv))
 subst hW1;have hE1 : ∀ x,((w.alloc (.cells ROW 34)).drew).cell? x = (w.drew.alloc (.cells ROW 34)).cell? x:=fun x=>rfl;have hE2 : ∀ x,((w.alloc (.cells ROW 34)).drew).frozen? x = (w.drew.alloc (.cells ROW 34)).frozen? x:=fun x=>rfl;have hF1 : ∀ x,(((w.alloc (.cells ROW 34)).drew.setCells w.heap.size (i * 6) vs).drew).cell? x = ((w.drew.alloc (.cells ROW 34)).setCells w.heap.size (i * 6) vs).cell? x:=fun x=>rfl;have hF2 : ∀ x,(((w.alloc (.cells ROW 34)).drew.setCells w.heap.size (i * 6) vs).drew).frozen? x = ((w.drew.alloc (.cells ROW 34)).setCells w.heap.size (i * 6) vs).frozen? x:=fun x=>rfl;have hw1 : IntKind.i64.wrap ((i : Int) + 1) = (i : Int) + 1:=IntWalk.i64_in _ (by omega);have hw2 : IntKind.i64.wrap ((n : Int) + 1) = (n : Int) + 1:=IntWalk.i64_in _ (by omega);have hw3 : IntKind.i64.wrap ((n : Int) + 1 - (i : Int)) = (n : Int) + 1 - (i : Int):=IntWalk.i64_in _ (by omega)
 have hb1 : (0 : Int) <= (i : Int) + 1:=by omega
 have hin : (i : Int) <= (n : Int):=by omega
 have hin2 : i <= n:=by omega
 have htn : ((i : Int) + 1).toNat = i + 1:=by omega
 have hic : (i : Int) <= (c : Int):=by omega
 have hi11 : (i : Int) <= (n : Int) + 1:=by omega
 have mixed : Tryz.prog.follows .mixedOrders = true:=by kernel_rfl
 clear hkk hik hold hROW hG hRl;go_enter Tryz.func176,Tryz.ntmps176
 go_wp2_with (first
  | (at_builtin;refine Lib.wpList_append_run _ rfl _ _ _ _ rfl _ _ rfl rfl _ _ (hrz _) ?_)
  | (at_builtin;refine Go.Proofs.wpList_copy_runI _ rfl _ _ 22 22 rfl _ _ rfl rfl (hcpA _ hE1 hE2 _ _) ?_)
  | (at_builtin;refine Go.Proofs.wpList_copy_runI _ rfl _ _ 22 22 rfl _ _ rfl rfl (hcpB _ (fun _=>rfl) (fun _=>rfl) _ _ _) ?_))
 go_region_law_o (refine Go.Proofs.step_copy_runI rfl _ _ 22 22 rfl (.slice (some ⟨w.heap.size,(i + 1) * 6,none⟩) (n - i) (G - (i + 1))) (.slice (some ⟨b,i * 6,none⟩) (n - i) (c - i)) (by simp [Act.eval,Act.put]) (by simp [Act.eval,Act.put]) (hcpB _ hF1 hF2 3 (G - (i + 1)) (c - i)) ?_)
 go_wp2
 go_ret;exact ⟨rfl,rfl⟩
end Go.Proofs.YteojjbhadgkfgaaGreat

namespace Go.Proofs.YteojjbhadgkfgaaGreat
set_option linter.unusedSimpArgs false
set_option linter.unusedVariables false
set_option maxRecDepth 100000
open Go Go.RowKit Go.Lib Lb

theorem ownsRow_drew {w : World} {base : Nat} {e : TypeId} {size : Nat} {v : Value} {n : Nat} {xs : List Value} (h : w.ownsRow base e size v n xs) : w.drew.ownsRow base e size v n xs:=h
theorem tk_take (l : List Tk) (i : Nat) : (encs tkc l).take (i * 6) = encs tkc (l.take i):=encs_take JH l i
theorem tk_drop (l : List Tk) (i : Nat) : (encs tkc l).drop (i * 6) = encs tkc (l.drop i):=encs_drop JH l i

theorem list_grow6 {α : Type} (cs zs vs : List α) (i n : Nat) (hi : i < n) (hc : cs.length = n * 6) (hv : vs.length = 6) (hz : zs.length = (n + 1 - i) * 6) :
  ((cs.take (i * 6) ++ zs).take (i * 6) ++ vs ++ (cs.take (i * 6) ++ zs).drop (i * 6 + vs.length)).take ((i + 1) * 6) ++ cs.drop (i * 6) ++ ((cs.take (i * 6) ++ zs).take (i * 6) ++ vs ++ (cs.take (i * 6) ++ zs).drop (i * 6 + vs.length)).drop ((i + 1) * 6 + (cs.drop (i * 6)).length) = cs.take (i * 6) ++ vs ++ cs.drop (i * 6):=by
 have h1 : (cs.take (i * 6)).length = i * 6:=by rw [List.length_take];omega
 rw [List.take_left' h1]
 have h2 : (cs.take (i * 6) ++ vs).length = (i + 1) * 6:=by rw [List.length_append,h1,hv];omega
 rw [List.take_left' h2];rw [List.drop_of_length_le (l:=cs.take (i * 6) ++ vs ++ _) (by simp only [List.length_append,List.length_drop,h1,hv,hz,hc];omega),List.append_nil]

theorem Insert_tk (l : List Tk) (i : Nat) (hi : i <= l.length) (x : Tk) (v : Value) (base : Nat) (w : World) (ho : Jh 34 6 tkc base w v l) (hbw : base <= w.heap.size) (hl : l.length <= 1000) :
  Calls Tryz.prog 176 #[v,.int .i64 i,.slice (some ⟨w.heap.size,0,none⟩) 1 1] (w.alloc (.cells (tkc x) 34)) fun e w'=>∃ v',e = .returned v' /\ Jh 34 6 tkc base w' v' (l.take i ++ x :: l.drop i) /\ w.grownBy w' v.ownBlock /\ (v'.ownBlock = v.ownBlock \/ ∀ k,v'.ownBlock = some k -> w.heap.size <= k):=by
 have hoA:=ho.alloc (.cells (tkc x) 34);have hgA : w.grownBy (w.alloc (.cells (tkc x) 34)) v.ownBlock:=World.grownBy_alloc _ _ _;have hcx : ∀ o,(w.alloc (.cells (tkc x) 34)).cell? ⟨w.heap.size,o,none⟩ = (tkc x)[o]?:=Row.new.2.1;have hfx : ∀ o,(w.alloc (.cells (tkc x) 34)).frozen? ⟨w.heap.size,o,none⟩ = false:=Row.new.2.2
 have hvs : ∀ j u,(encs tkc [x])[j]? = some u -> (w.alloc (.cells (tkc x) 34)).cell? ⟨w.heap.size,j,none⟩ = some u:=by
  intro j u hj;rw [hcx,<- hj,show encs tkc [x] = (tkc x).toList from by simp [encs],Array.getElem?_toList]
 have h1v:=tks_one [x]
 have hsh : (w.alloc (.cells (tkc x) 34)).shape? w.heap.size = some (34,6):=by
  have h:=heap_alloc_new w (.cells (tkc x) 34);unfold World.shape?;simp only [h]
  rfl
 have hrd : RdL 6 tkc (w.alloc (.cells (tkc x) 34)) (.slice (some ⟨w.heap.size,0,none⟩) 1 1) [x]:=RdL.lit x rfl rfl
 have hsz : w.heap.size < (w.alloc (.cells (tkc x) 34)).heap.size:=by simp
 generalize w.alloc (.cells (tkc x) 34) = W at *;have hlen : (encs tkc l).length = l.length * 6:=Zv JH l;have hvl : (encs tkc [x]).length = 6:=Zv JH [x]
 have hfin : encs tkc (l.take i) ++ encs tkc [x] ++ encs tkc (l.drop i) = encs tkc (l.take i ++ x :: l.drop i):=by simp [encs]
 have hfl : (l.take i ++ x :: l.drop i).length = l.length + 1:=by simp;omega
 have hbW : base <= W.heap.size:=by omega
 by_cases hin : i = l.length
 ·subst hin
  obtain ⟨i0,ji,jz0,jz1,jz2⟩:=info_parts info_tk;have hW:=hH hoA;have HRd:=hH hrd
  have hdv : l.take l.length ++ x :: l.drop l.length = l ++ [x]:=by simp
  rw [hdv];obtain ⟨A,c,rfl⟩:=hoA.form
  have hnn : ((l.length : Int) == (l.length : Int)) = true:=by simp
  have HG:=hH hgA;have hcle : (l.length : Int) <= (l.length : Int):=Int.le_refl _
  have hob : ∀ c',(Value.slice A l.length c').ownBlock = (Value.slice A l.length c).ownBlock:=fun _=>by cases A <;> rfl
  clear hgA ho hoA hcx hfx hvs h1v hsh hrd;go_enter Tryz.func176,Tryz.ntmps176
  go_wp2_with (at_builtin;refine JC (enc:=tkc) (k:=6) _ rfl _ _ 22 rfl base 34 i0 tkz 48 Tryz.underlying22 ji jz0 jz1 jz2 rfl (by decide) JH (.slice A l.length c) l rfl hW.out (.slice (some ⟨w.heap.size,0,none⟩) 1 1) [x] rfl HRd.out (tks_one _) (by unfold maxLen;simp;omega) (by simp;omega) hbW ?_;intro v' w' h1 h2 h3;obtain ⟨A',c',hv'⟩:=h1.form;rw [show (l ++ [x]).length = l.length + 1 from by simp] at hv';subst hv';have K1:=hH h1;have K2:=hH h2;have K3:=hH h3;clear h1 h2 h3)
  all_goals
   go_ret;refine ⟨.slice A' (l.length + 1) c',rfl,K1.out,?_,?_⟩
   ·first | exact HG.out.trans K2.out | (rw [hob l.length];exact HG.out.trans K2.out)
   ·rcases K3.out with h | h
    ·first | exact .inl h | (rw [hob l.length];exact .inl h)
    ·exact .inr (fun k hk=>by rw [h] at hk;injection hk with hk;omega)
 ·have hilt : i < l.length:=by omega
  unfold Jh at hoA ⊢;rw [hfl,<- hfin]
  rcases hoA.2 with ⟨rfl,h0⟩ | ⟨b,cap,cur,rfl,hb,hg,hnc,hcm,hcs,htake⟩
  ·omega
  ·have hco : ∀ o,W.cell? ⟨b,o,none⟩ = cur[o]?:=fun o=>cell_of_row W b o cur _ (0,0) hg
   have hfo : ∀ o,W.frozen? ⟨b,o,none⟩ = false:=by
    intro o;unfold World.frozen?;simp only [hg]
    simp
   have hcap : cap <= 9223372036854775807:=by unfold maxLen at hcm;omega
   have hbw2 : b < w.heap.size:=(ho.lt b (by simp [Value.ownBlock])).2
   have hne : w.heap.size ≠ b:=by omega
   have hxs : ∀ j u,(encs tkc l)[j]? = some u -> W.cell? ⟨b,j,none⟩ = some u:=by
    intro j u hu;rw [hco,<- Array.getElem?_toList];rw [<- htake,List.getElem?_take] at hu
    split at hu
    ·exact hu
    ·cases hu
   have hblk : (Value.slice (some ⟨b,0,none⟩) l.length cap).ownBlock = some b:=rfl;rw [hblk] at hgA ⊢;have hgd : w.grownBy W.drew (some b):=hgA.trans (Xx _ _)
   by_cases hroom : l.length + 1 <= cap
   ·obtain ⟨ys,hys,hL⟩:=own_longer hoA hroom
    have hsp : ∀ j,j < (l.length + 1) * 6 -> (W.cell? ⟨b,j,none⟩).isSome = true:=by
     intro j hj;have hle : (l.length + 1) * 6 <= cap * 6:=Nat.mul_le_mul_right _ hroom;rw [hco,Array.getElem?_eq_getElem (by omega)]
     rfl
    refine Calls.mono (Insert_tk_shift b l.length cap i w.heap.size (encs tkc l) (encs tkc [x]) W hilt hroom hcap hne hlen hvl hxs hsp hfo hvs (tks_one l) h1v 34 34 6 cur.size hsh (by simp [World.shape?,hg]) (by omega) (hfx 0) (hfx 6)) ?_;rintro e w' ⟨rfl,rfl⟩;refine ⟨_,rfl,?_,(hgd.trans (Zj _ _ _ _)).trans (Zj _ _ _ _),.inl rfl⟩;have hL2 : W.drew.ownsRow base 34 6 (.slice (some ⟨b,0,none⟩) (l.length + 1) cap) (l.length + 1) (encs tkc l ++ ys):=hL
    have hdl : ((encs tkc l).drop (i * 6)).length = (l.length - i) * 6:=by rw [List.length_drop,hlen,Nat.sub_mul]
    have h1:=Zt ((encs tkc l).drop (i * 6)) ((i + 1) * 6) W.drew _ hL2 (by rw [List.length_append,hdl,hlen,hys];omega);have h2:=Zt (encs tkc [x]) (i * 6) _ _ h1 (by simp only [List.length_append,List.length_take,List.length_drop,hlen,hys,hvl];omega);refine Eq.mp (congrArg (fun z=>World.ownsRow _ base _ 6 _ _ z) ?_) h2;rw [hdl,hvl];rw [List.drop_of_length_le (l:=encs tkc l ++ ys) (by simp only [List.length_append,hlen,hys];omega),List.append_nil];rw [show (encs tkc l ++ ys).take ((i + 1) * 6) = (encs tkc l).take ((i + 1) * 6) from List.take_append_of_le_length (by omega)]
    have ht : ((encs tkc l).take ((i + 1) * 6)).length = (i + 1) * 6:=by rw [List.length_take];omega
    rw [List.take_append_of_le_length (by omega),List.take_take,Nat.min_eq_left (by omega),tk_take]
    congr 1
    rw [List.drop_append,List.drop_of_length_le (by omega),List.nil_append,ht,show i * 6 + 6 - (i + 1) * 6 = 0 from by omega,List.drop_zero,tk_drop]
   ·have hcn : cap < l.length + 1:=by omega
    refine Calls.mono (Insert_tk_grow b l.length cap i w.heap.size (encs tkc l) (encs tkc [x]) W hilt hnc hcn (by omega) hlen hvl hxs hvs (tks_one l) h1v) ?_;rintro e w' ⟨rfl,rfl⟩;have hg1:=grownCap_ge W (l.length + 1) cap 34;have hg2 : grownCap W (l.length + 1) cap 34 <= maxLen:=grownCap_le_maxLen _ _ _ _ (by unfold maxLen;omega);refine ⟨_,rfl,?_,?_,.inr (fun k hk=>by simp [Value.ownBlock] at hk;omega)⟩
    ·generalize grownCap W (l.length + 1) cap 34 = G at hg1 hg2 ⊢
     have h0:=own_alloc (w:=W) (base:=base) (e:=34) (size:=6) (n:=l.length + 1) (cap:=G) (cur:=((encs tkc l).take (i * 6)).toArray ++ Builtin.zeroCells tkz.cells (l.length + 1 - i) ++ Builtin.zeroCells tkz.cells (G - (l.length + 1))) hbW hg1 hg2 (by simp [Builtin.zeroCells,tkz,Value.cells,hlen];omega)
     have hz : (((encs tkc l).take (i * 6)).toArray ++ Builtin.zeroCells tkz.cells (l.length + 1 - i) ++ Builtin.zeroCells tkz.cells (G - (l.length + 1))).toList.take ((l.length + 1) * 6) = (encs tkc l).take (i * 6) ++ (Builtin.zeroCells tkz.cells (l.length + 1 - i)).toList:=by
      rw [Array.toList_append,Array.toList_append,List.take_left']
      simp [Builtin.zeroCells,tkz,Value.cells]
      omega
     rw [hz] at h0
     have hZl : (Builtin.zeroCells tkz.cells (l.length + 1 - i)).toList.length = (l.length + 1 - i) * 6:=by simp [Builtin.zeroCells,tkz,Value.cells]
     generalize (Builtin.zeroCells tkz.cells (l.length + 1 - i)).toList = Z at h0 hZl;generalize ((encs tkc l).take (i * 6)).toArray ++ Builtin.zeroCells tkz.cells (l.length + 1 - i) ++ Builtin.zeroCells tkz.cells (G - (l.length + 1)) = ROW at h0 ⊢;have h1:=Zt (encs tkc [x]) (i * 6) (W.alloc (.cells ROW 34)).drew ((encs tkc l).take (i * 6) ++ Z) (ownsRow_drew h0) (by rw [List.length_append,List.length_take,hlen,hvl,hZl];omega);have h2:=Zt ((encs tkc l).drop (i * 6)) ((i + 1) * 6) ((W.alloc (.cells ROW 34)).drew.setCells W.heap.size (i * 6) (encs tkc [x])).drew _ (ownsRow_drew h1) (by simp only [List.length_append,List.length_take,List.length_drop,hlen,hvl,hZl];omega);rw [list_grow6 (encs tkc l) Z _ i l.length hilt hlen hvl hZl] at h2;rw [<- tk_take,<- tk_drop];exact h2
    ·generalize ((encs tkc l).take (i * 6)).toArray ++ Builtin.zeroCells tkz.cells (l.length + 1 - i) ++ Builtin.zeroCells tkz.cells (grownCap W (l.length + 1) cap 34 - (l.length + 1)) = ROW
     generalize (encs tkc l).drop (i * 6) = C2;generalize encs tkc [x] = C1;have ha : W.grownBy (W.alloc (.cells ROW 34)).drew (some b):=(World.grownBy_alloc _ _ _).trans (Xx _ _);have hb1 : (W.alloc (.cells ROW 34)).drew.grownBy ((W.alloc (.cells ROW 34)).drew.setCells W.heap.size (i * 6) C1).drew (some W.heap.size):=(Zj W.heap.size _ _ _).trans (Xx _ _);have hc1:=Zj W.heap.size C2 ((i + 1) * 6) ((W.alloc (.cells ROW 34)).drew.setCells W.heap.size (i * 6) C1).drew
     have hf : ∀ j,some W.heap.size = some j -> W.heap.size <= j \/ some b = some j:=fun j hj=>by injection hj with hj;subst hj;exact .inl (Nat.le_refl _)
     exact hgA.trans ((ha.andThen hb1 hf).andThen hc1 hf)
end Go.Proofs.YteojjbhadgkfgaaGreat

namespace Go.Proofs.YteojjbhadgkfgaaGreat
set_option linter.unusedSimpArgs false
set_option linter.unusedVariables false
set_option maxRecDepth 100000
open Go Go.RowKit Lb

theorem sell_one (x : Tk) (id : Int) (w : World) (hx : 1 <= x.id /\ x.id <= 9999) (hi : 1 <= id /\ id <= 9999) :
  Calls Tryz.prog 175 #[.agg (tkc x),.int .i64 id] w fun e w'=>e = .returned (.int .i64 (x.id - id)) /\ Ext w w':=by
 obtain ⟨x0,x1,x2,x3,x4,x5⟩:=x;unfold tkc;simp only at hx ⊢;have hws : IntKind.i64.wrap (x0 - id) = x0 - id:=IntWalk.i64_in _ (by omega);go_enter Tryz.func175,Tryz.ntmps175;go_wp2_with fail;go_ret;exact ⟨rfl,(Je : Ext w _)⟩

theorem count_sorted (l : List Tk) (id : Int) (lo : Nat) (hlo : lo <= l.length) (h1 : ∀ k (hk : k < l.length),k < lo -> l[k].id < id) (h2 : ∀ k (hk : k < l.length),lo <= k -> id <= l[k].id) : l.countP (fun t=>decide (t.id < id)) = lo:=by
 have e : l = l.take lo ++ l.drop lo:=(List.take_append_drop lo l).symm;rw [e,List.countP_append]
 have a : (l.take lo).countP (fun t=>decide (t.id < id)) = lo:=by
  rw [List.countP_eq_length.2]
  ·rw [List.length_take];omega
  ·intro x hx
   obtain ⟨k,hk,rfl⟩:=List.mem_take_iff_getElem.1 hx
   simpa using h1 k (by omega) (by omega)
 have b : (l.drop lo).countP (fun t=>decide (t.id < id)) = 0:=by
  rw [List.countP_eq_zero];intro x hx;obtain ⟨k,hk,rfl⟩:=List.mem_drop_iff_getElem.1 hx;have:=h2 (lo + k) (by omega) (by omega)
  simp
  omega
 rw [a,b]
 rfl

theorem Search_tk (l : List Tk) (id : Int) (v : Value) (w : World) (hr : RdL 6 tkc w v l) (hs : ∀ j k (hj : j < l.length) (hk : k < l.length),j < k -> l[j].id < l[k].id) (hx : ∀ x ∈ l,1 <= x.id /\ x.id <= 9999) (hi : 1 <= id /\ id <= 9999) (hl : l.length <= 1000) :
  Calls Tryz.prog 174 #[v,.int .i64 id,.func (.func 175) #[] #[]] w fun e w'=>e = .returned (.tuple #[.int .i64 ((l.countP (fun t=>decide (t.id < id)) : Nat) : Int),.bool (l.any (fun t=>t.id == id))]) /\ Ext w w':=by
 obtain ⟨A,c,rfl,hmc,hmm⟩:=hr.form;have HRd:=hH hr;have HS:=hH hs;have HX:=hH hx;have HO:=hH (fun (k : Nat) (hk : k < l.length) (w' : World)=>sell_one l[k] id w' (hx _ (List.getElem_mem hk)) hi);generalize hcnq : l.countP (fun t=>decide (t.id < id)) = N;generalize hanq : l.any (fun t=>t.id == id) = Z;have HCN:=hH hcnq;have HAN:=hH hanq;clear hr hmc hmm hs hx hcnq hanq;go_enter Tryz.func174,Tryz.ntmps174;go_wp2_with fail
 go_loopg [9,10,11] l.length (fun gg s9 s10 _ wr=>∃ lo hi : Nat,lo <= hi /\ hi <= l.length /\ hi - lo <= gg /\ s9 = .int .i64 lo /\ s10 = .int .i64 hi /\ Aside (Ext w wr) /\ Aside ((∀ k (hk : k < l.length),k < lo -> l[k].id < id) /\ (∀ k (hk : k < l.length),hi <= k -> id <= l[k].id)))
 case atStart=>exact ⟨0,l.length,by omega,by omega,by omega,rfl,rfl,Ext.refl _,fun k hk h=>by omega,fun k hk h=>by omega⟩
 case round =>
  obtain ⟨lo,hi2,hlh,hhl,hg,rfl,rfl,HE,HA⟩:=hrel;have HE2:=hH HE.out;have HA2:=hH HA.out;clear HE HA
  by_cases hlt : lo < hi2
  ·have hlt' : (lo : Int) < (hi2 : Int):=by omega
   obtain ⟨m,hm⟩ : ∃ m : Nat,m = (lo + hi2) / 2:=⟨_,rfl⟩
   have hmi : ((lo : Int) + (hi2 : Int)) / 2 = (m : Int):=by omega
   have hmn : m < l.length:=by omega
   have hmn' : (m : Int) < (l.length : Int):=by omega
   obtain ⟨b,o,rfl,hb,d0,d1,d2,d3,d4,d5⟩:=(HRd.out.ext HE2.out).XC rfl hmn;have HO2:=hH (fun (w' : World)=>HO.out m hmn w')
   have hup : l[m].id < id -> ∀ k (hk : k < l.length),k < m + 1 -> l[k].id < id:=by
    intro h k hk hkm
    by_cases e : k = m
    ·subst e;exact h
    ·have:=HS.out k m hk hmn (by omega);omega
   have hdn : id <= l[m].id -> ∀ k (hk : k < l.length),m <= k -> id <= l[k].id:=by
    intro h k hk hkm
    by_cases e : k = m
    ·subst e;exact h
    ·have:=HS.out m k hmn hk (by omega);omega
   have HUP:=hH hup;have HDN:=hH hdn;clear hup hdn;unfold tkc at HO2;generalize l[m].id = x0 at *;generalize l[m].kind = x1 at *;generalize l[m].frm = x2 at *;generalize l[m].til = x3 at *;generalize l[m].JS = x4 at *;generalize l[m].rides = x5 at *
   have hml : lo <= m:=by omega
   have hmh : m < hi2:=by omega
   clear hm
   have hw1 : IntKind.i64.wrap ((m : Int) + 1) = ((m + 1 : Nat) : Int):=by rw [IntWalk.i64_in _ (by omega)];omega
   by_cases hc : x0 < id
   ·have hcd : decide (x0 - id < 0) = true:=decide_eq_true (by omega)
    go_wp2_with fail;refine (HO2.out _).mono ?_;rintro e w1 ⟨rfl,h1⟩;have H1:=hH h1;clear h1;go_wp2_with fail;go_roundg (hi2 - (m + 1))
    case measure=>omega
    case rel=>exact ⟨m + 1,hi2,by omega,by omega,by omega,by go_num,rfl,(Je : Ext w _),HUP.out hc,HA2.out.2⟩
   ·have hcd : decide (x0 - id < 0) = false:=decide_eq_false (by omega)
    go_wp2_with fail;refine (HO2.out _).mono ?_;rintro e w1 ⟨rfl,h1⟩;have H1:=hH h1;clear h1;go_wp2_with fail;go_roundg (m - lo)
    case measure=>omega
    case rel=>exact ⟨lo,m,by omega,by omega,by omega,rfl,rfl,(Je : Ext w _),HA2.out.1,HDN.out (by omega)⟩
  ·have hge : ¬ (lo : Int) < (hi2 : Int):=by omega
   have he : lo = hi2:=by omega
   subst he;have hcnt:=count_sorted l id lo hhl HA2.out.1 HA2.out.2;have hN:=hcnt.symm.trans HCN.out;subst hN;clear hcnt HCN
   by_cases hln : lo < l.length
   ·have hln' : (lo : Int) < (l.length : Int):=by omega
    have hlnd : decide ((lo : Int) < (l.length : Int)) = true:=decide_eq_true hln';obtain ⟨b,o,rfl,hb,d0,d1,d2,d3,d4,d5⟩:=(HRd.out.ext HE2.out).XC rfl hln;have HO2:=hH (fun (w' : World)=>HO.out lo hln w')
    have hany : l.any (fun t=>t.id == id) = (l[lo].id - id == 0):=by
     rw [Bool.eq_iff_iff,List.any_eq_true]
     constructor
     ·rintro ⟨x,hx,he⟩
      obtain ⟨k,hk,rfl⟩:=List.mem_iff_getElem.1 hx
      have hke : l[k].id = id:=by simpa using he
      have hkl : ¬ k < lo:=fun h=>by have:=HA2.out.1 k hk h;omega
      by_cases hkl2 : k = lo
      ·subst hkl2;simp;omega
      ·have h1:=HS.out lo k hln hk (by omega)
       have h2:=HA2.out.2 lo hln (Nat.le_refl _)
       omega
     ·intro h
      exact ⟨l[lo],List.getElem_mem hln,by simp at h ⊢;omega⟩
    have HZ:=hH (HAN.out.symm.trans hany);clear hany HAN;unfold tkc at HO2;generalize l[lo].id = x0 at *;generalize l[lo].kind = x1 at *;generalize l[lo].frm = x2 at *;generalize l[lo].til = x3 at *;generalize l[lo].JS = x4 at *;generalize l[lo].rides = x5 at *;go_wp2_with fail;refine (HO2.out _).mono ?_;rintro e w1 ⟨rfl,h1⟩;have H1:=hH h1;clear h1;go_wp2_with fail;go_ret2;exact ⟨by rw [HZ.out];rfl,(Je : Ext w _)⟩
   ·have hln' : ¬ (lo : Int) < (l.length : Int):=by omega
    have hlnd : decide ((lo : Int) < (l.length : Int)) = false:=decide_eq_false hln'
    have hany : l.any (fun t=>t.id == id) = false:=by
     rw [List.any_eq_false];intro x hx;obtain ⟨k,hk,rfl⟩:=List.mem_iff_getElem.1 hx;have:=HA2.out.1 k hk (by omega)
     simp
     omega
    have hZ:=HAN.out.symm.trans hany;subst hZ;go_wp2_with fail;go_ret2;exact ⟨rfl,HE2.out⟩

theorem XK : ∀ {l : List Tk} {prev : Option Int},J5 prev l = 0 -> l.Pairwise (fun a b=>a.id < b.id) /\ ∀ n,prev = some n -> ∀ t ∈ l,n < t.id
 | [],_,_=>by simp
 | x :: l,prev,h=>by
  rw [Xb] at h
  by_cases h1 : JB x = 0
  ·rw [if_neg (by simpa using h1)] at h
   by_cases h2 : ZC prev x.id = true
   ·rw [if_pos h2] at h;simp at h
   ·rw [if_neg h2] at h
    obtain ⟨h3,h4⟩:=XK h;refine ⟨List.pairwise_cons.2 ⟨h4 x.id rfl,h3⟩,fun n hn t ht=>?_⟩;subst hn
    have hx : n < x.id:=by simp [ZC] at h2;omega
    rcases List.mem_cons.1 ht with rfl | ht
    ·exact hx
    ·have:=h4 x.id rfl t ht;omega
  ·rw [if_pos h1] at h;exact absurd h h1
theorem insTk_at (t : Tk) : ∀ (l : List Tk),l.Pairwise (fun a b=>a.id < b.id) -> ZK t l = l.take (l.countP (fun x=>decide (x.id < t.id))) ++ t :: l.drop (l.countP (fun x=>decide (x.id < t.id)))
 | [],_=>by simp [ZK]
 | x :: l,h=>by
  obtain ⟨h1,h2⟩:=List.pairwise_cons.1 h;unfold ZK
  by_cases hx : x.id < t.id
  ·rw [if_pos hx,insTk_at t l h2,List.countP_cons,if_pos (by simpa using hx)]
   rfl
  ·rw [if_neg hx]
   have hc : (x :: l).countP (fun x=>decide (x.id < t.id)) = 0:=by
    rw [List.countP_eq_zero];intro y hy
    rcases List.mem_cons.1 hy with rfl | hy
    ·simpa using hx
    ·have:=h1 y hy
     simp
     omega
   rw [hc]
   rfl
theorem id_in {t : Tk} (h : JB t = 0) : 1 <= t.id /\ t.id <= 9999:=by
 unfold JB at h
 cases hw : within t.id 1 9999 with
 | true=>simpa [within] using hw
 | false=>simp [hw] at h
def sellE (l : Ld) (t : Tk) : Int:=if l.Jc.any (fun x=>x.id == t.id) then 6 else if l.Jc.length = 12 then 2 else 0

theorem keeper_sell (l : Ld) (t0 t1 t2 : Value) (t : Tk) (b0 base : Nat) (w : World) (hck : Js l = 0) (htk : JB t = 0) (ho : JL base w t0 t1 t2 l) (n0 : t0.ownBlock ≠ some b0) (n1 : t1.ownBlock ≠ some b0) (n2 : t2.ownBlock ≠ some b0) (hb : base <= b0) (hg : Row w b0 #[t0,t1,t2]) :
  Calls Tryz.prog 152 #[.pointer (some ⟨b0,0,none⟩),.agg (tkc t)] w fun e w'=>e = .returned (.int .i64 (sellE l t)) /\ Below base w w' /\
   (sellE l t = 0 -> ∃ t0',Row w' b0 #[t0',t1,t2] /\ JL base w' t0' t1 t2 ⟨ZK t l.Jc,l.Jf,l.Jd⟩):=by
 have hok:=J6.1 hck;have hsorted:=(XK hok.2.2.2.1).1;have hids : ∀ x ∈ l.Jc,1 <= x.id /\ x.id <= 9999:=fun x hx=>id_in (ZH hok.2.2.2.1 x hx);have HSE:=hH (fun w' (h : Ext w w')=>Search_tk l.Jc t.id t0 w' ((ho.tk.rd JH).ext h) (fun j k hj hk hjk=>List.pairwise_iff_getElem.1 hsorted j k hj hk hjk) hids (id_in htk) (by omega));have hins:=insTk_at t l.Jc hsorted;have hle : l.Jc.countP (fun x=>decide (x.id < t.id)) <= l.Jc.length:=List.countP_le_length;have h12:=hok.1
 have hres : sellE l t = if l.Jc.any (fun x=>x.id == t.id) then 6 else if l.Jc.length = 12 then 2 else 0:=rfl
 generalize l.Jc.countP (fun x=>decide (x.id < t.id)) = i at *;generalize l.Jc.any (fun x=>x.id == t.id) = z at *;generalize sellE l t = res at *;obtain ⟨tks,Jf,vs⟩:=l;simp only at HSE hins hle hres h12;have hbw : base <= w.heap.size:=Nat.le_trans hb (Nat.le_of_lt hg.1);have HIN:=hH (fun (v : Value) (w' : World) (h1 : Jh 34 6 tkc base w' v tks) (h2 : base <= w'.heap.size)=>Insert_tk tks i hle t v base w' h1 h2 (by omega));rw [<- hins] at HIN;have HG:=hH hg;have HO:=hH ho;have N0:=hH n0;have N1:=hH n1;have N2:=hH n2;have HRES:=hH hres;have HLE:=hH hle;have H12:=hH h12;obtain ⟨A0,c0,rfl⟩:=ho.tk.form;obtain ⟨A1,c1,rfl⟩:=ho.tp.form;obtain ⟨A2,c2,rfl⟩:=ho.vd.form;have hb0:=hg.1;simp only at HSE hg HIN;clear hck ho hg n0 n1 n2 hres hle h12 hok hsorted hids hins htk;rw [show tkc t = #[.int .i64 t.id,.int .i64 t.kind,.int .i64 t.frm,.int .i64 t.til,.int .i64 t.JS,.int .i64 t.rides] from rfl] at HIN ⊢;go_enter Tryz.func152,Tryz.ntmps152;go_upto_region 1 with fail;(apply ZL (w0:=w) (g0:=b0) (g1:=w.heap.size);(focus (exact rowA));(focus (exact rowA));(focus (exact Je));intro W HW hzW Ra_0 Ra_1;(try simp only [Jm,World.size_alloc,size_set,World.heap_drewN,size_drew] at hzW Ra_0 Ra_1);have la_0:=Ra_0.out.size;have la_1:=Ra_1.out.size);have HK:=hH (fun w' (h : Ext W w')=>And.intro (Row.ext h Ra_0.out).2.1 ((Row.ext h Ra_1.out).2.1));(refine Jw (fun w'=>Ext W w') 12 (by kernel_rfl) ((Ext.refl _).drew) (fun hS=>?_);simp only [List.length_cons,List.length_nil]);(refine tkA 0 HK hS ?_;refine tkA 1 HK hS ?_;refine tkA 2 HK hS ?_;refine tkA 3 HK hS ?_;refine tkA 4 HK hS ?_;refine tkA 5 HK hS ?_;refine tkA 6 HK hS ?_);(refine oA 7 fun K hK=>?_;go_simp);refine (HSE.out _ Je).mono ?_;rintro e w1 ⟨rfl,h1⟩;have H1:=hH h1;clear h1 hS
 (go_wp2_with fail;have hS : Ext W w1:=by exact Je);(refine hK.out _ _ (.inr hS) ?_;clear hK;(try simp only [Act.put,Jm]))
 ((refine oA 8 fun K hK=>?_;go_simp;refine hK.out _ _ (.inr hS) ?_;clear hK;(try simp only [Act.put,Jm])));(refine tkA 9 HK hS ?_;refine tkA 10 HK hS ?_);(refine tkA 11 HK hS ?_);(refine oA 12 fun K hK=>?_;go_simp;refine hK.out _ _ (.inl (by kernel_rfl)) ?_;clear hK;(try simp only [Act.put,Jm]);refine Ju (by kernel_rfl) ?_ _);clear hS;(refine Ji w1 b0 fun q1_0 f1_0 l1_0 R1_0=>?_;refine Ji w1 w.heap.size fun q1_1 f1_1 l1_1 R1_1=>?_);have hz1:=H1.out.size
 cases z
 ·have hres:=HRES.out
  rw [if_neg (by simp)] at hres
  by_cases h6 : tks.length = 12
  ·have h6b : ((tks.length : Int) == 12) = true:=by rw [h6];rfl
   rw [if_pos h6] at hres;subst hres;clear h6;go_wp2_with fail;go_ret;exact ⟨rfl,Below.mono (Je : Ext w _) hbw,fun h=>by simp at h⟩
  ·have h6b : ((tks.length : Int) == 12) = false:=by rw [beq_eq_false_iff_ne];omega
   rw [if_neg h6] at hres;subst hres;clear h6;go_upto_region 6 with fail;obtain ⟨own,hown⟩ : ∃ own : Nat -> Prop,own = fun k=>(Value.slice A0 tks.length c0).ownBlock = some k:=⟨_,rfl⟩
   have hw1 : Ext w w1:=by exact Je
   have O1:=HO.out.ext hw1
   have hnb : ¬ own b0:=by rw [hown];exact N0.out
   have hnt : ¬ own w.heap.size:=by
    rw [hown];intro h;have:=(HO.out.tk.lt _ h).2
    omega
   have HK:=hH (fun (w' : World) (h : Fr own w1 w')=>And.intro (h.row hnb R1_0.out).2.1 (h.row hnt R1_1.out).2.1)
   have hb1 : base <= w1.heap.size:=by have:=hw1.size;omega
   (refine Jw (fun w'=>Fr own w1 w') 10 (by kernel_rfl) (Fr.mk rfl rfl rfl (Nat.le_refl _) (fun _ _ _=>rfl)) (fun hS=>?_);simp only [List.length_cons,List.length_nil]);(refine tkR 0 HK hS ?_;refine tkR 1 HK hS ?_;refine tkR 2 HK hS ?_;refine tkR 3 HK hS ?_;refine tkR 4 HK hS ?_;refine tkR 5 HK hS ?_;refine tkR 6 HK hS ?_;refine tkR 7 HK hS ?_);refine oA 8 fun K hK=>?_;go_simp;refine hK.out _ _ (.inr (Fr.alloc hS _)) ?_;clear hK hS;(try simp only [Act.put,Jm]);(refine oA 9 fun K hK=>?_;go_simp);refine (HIN.out (.slice A0 tks.length c0) w1.drew (Jh.drew O1.tk) hb1).mono ?_;rintro e w2 ⟨v2,rfl,h2,hg2,hv2⟩;obtain ⟨B,d,rfl⟩:=h2.form;have hfr : Fr own w1 w2:=Fr.grown (w:=w1.drew) ⟨rfl,rfl,rfl,Nat.le_refl _,fun _ _ _=>rfl⟩ hg2 (fun q hq=>.inr (by rw [hown];exact hq))
   have kk : JL base w2 (.slice B (ZK t tks).length d) (.slice A1 Jf.length c1) (.slice A2 vs.length c2) ⟨ZK t tks,Jf,vs⟩:=by
    refine ⟨h2,hfr.own O1.tp (fun q a=>by rw [hown];exact fun h=>O1.d01 q h a),hfr.own O1.vd (fun q a=>by rw [hown];exact fun h=>O1.d02 q h a),fun q a b=>?_,fun q a b=>?_,O1.d12⟩
    ·rcases hv2 with h | h
     ·exact O1.d01 q (h ▸ a) b
     ·have:=h q a
      have:=(O1.tp.lt q b).2;have : w1.drew.heap.size = w1.heap.size:=rfl
      omega
    ·rcases hv2 with h | h
     ·exact O1.d02 q (h ▸ a) b
     ·have:=h q a
      have:=(O1.vd.lt q b).2;have : w1.drew.heap.size = w1.heap.size:=rfl
      omega
   have nB : (Value.slice B (ZK t tks).length d).ownBlock ≠ some b0:=fun h=>by
    rcases hv2 with h' | h'
    ·exact N0.out (h' ▸ h)
    ·have:=h' _ h
     have:=R1_0.out.1;have : w1.drew.heap.size = w1.heap.size:=rfl
     omega
   have hBW : Below base w w2:=Below.trans (Below.mono hw1 hbw) (hfr.below hb1 (fun k hk=>by
    rw [hown] at hk
    exact (O1.tk.lt k hk).1))
   have RB:=hfr.row hnb R1_0.out;have hqB:=RB.2.1;have hfB:=RB.2.2;have hlB:=RB.1;have HRB:=hH RB;have HKK:=hH kk;have HNB:=hH nB;have HBW:=hH hBW;clear RB kk nB hBW hv2 h2;go_wp2_with fail;have hS:=hfr;refine hK.out _ _ (.inr hS) ?_;clear hK;(try simp only [Act.put,Jm]);((refine oA 10 fun K hK=>?_;go_simp;refine hK.out _ _ (.inr hS) ?_;clear hK;(try simp only [Act.put,Jm])));(refine tkP 11 ?_;refine tkP 12 ?_);((refine oA 13 fun K hK=>?_;go_simp;refine hK.out _ _ (.inl (by kernel_rfl)) ?_;clear hK;(try simp only [Act.put,Jm])));refine Ju (by kernel_rfl) ?_ _;clear hqB hfB hS hfr hnb hnt hown hg2;go_wp2_with fail;go_ret;refine ⟨rfl,HBW.out.setCell hb _,_,?_,HKK.out.put HNB.out N1.out N2.out _⟩;have:=HRB.out.J4 (i:=0) (u:=.slice B (ZK t tks).length d)
   simpa using this
 ·have hres:=HRES.out
  rw [if_pos rfl] at hres;subst hres;go_wp2_with fail;go_ret;exact ⟨rfl,Below.mono (Je : Ext w _) hbw⟩

theorem sellAll_eq (l : Ld) (t : Tk) : sellAll l t = if Js l ≠ 0 then (ld0,Js l) else if JB t ≠ 0 then (ld0,JB t) else if sellE l t ≠ 0 then (ld0,sellE l t) else (⟨ZK t l.Jc,l.Jf,l.Jd⟩,0):=by
 unfold sellAll ZZ sellE
 by_cases h1 : Js l = 0
 ·by_cases h2 : JB t = 0
  ·simp only [h1,h2,ne_eq,not_true_eq_false,if_false]
   cases l.Jc.any (fun x=>x.id == t.id)
   ·by_cases h3 : l.Jc.length = 12 <;> simp [h3]
   ·simp
  ·simp [h1,h2]
 ·simp [h1]

theorem ledger_Sell (l : Ld) (s0 s1 s2 : Value) (t : Tk) (w : World) (hr0 : RdL 6 tkc w s0 l.Jc) (hr1 : RdL 5 tpc w s1 l.Jf) (hr2 : RdL 1 inc w s2 l.Jd) (hz : fitsL l) :
  Calls Tryz.prog 101 #[.agg #[s0,s1,s2],.agg (tkc t)] w fun e w'=>∃ t0 t1 t2,e = .returned (.tuple #[.agg #[t0,t1,t2],.int .i64 (sellAll l t).2]) /\ Ext w w' /\ JL w.heap.size w' t0 t1 t2 (sellAll l t).1:=by
 have HCK:=hH (fun w' (h : Ext w w')=>ledger_Check l.Jc l.Jf l.Jd s0 s1 s2 w' (hr0.ext h) (hr1.ext h) (hr2.ext h));rw [show (⟨l.Jc,l.Jf,l.Jd⟩ : Ld) = l from rfl] at HCK;have HCT:=hH (fun (w' : World)=>ticket_Check t w');have HOwn:=hH (fun w' (h : Ext w w')=>ledger_Own l s0 s1 s2 w' (hr0.ext h) (hr1.ext h) (hr2.ext h) hz);have HT:=hH (fun (t0 t1 t2 : Value) (b0 base : Nat) (w' : World) (h1 : Js l = 0) (h2 : JB t = 0)=>keeper_sell l t0 t1 t2 t b0 base w' h1 h2);rw [sellAll_eq];obtain ⟨A0,c0,rfl,-,-⟩:=hr0.form;obtain ⟨A,c,rfl,-,-⟩:=hr1.form;obtain ⟨A2,c2,rfl,-,-⟩:=hr2.form;generalize Js l = q at *;generalize JB t = r at *;generalize sellE l t = E at *;clear hr0 hr1 hr2 hz;rw [show tkc t = #[.int .i64 t.id,.int .i64 t.kind,.int .i64 t.frm,.int .i64 t.til,.int .i64 t.JS,.int .i64 t.rides] from rfl] at HT HCT ⊢;generalize hres : (if q ≠ 0 then (ld0,q) else if r ≠ 0 then (ld0,r) else if E ≠ 0 then (ld0,E) else ((⟨ZK t l.Jc,l.Jf,l.Jd⟩ : Ld),0)) = res;obtain ⟨G,eo⟩:=res;have HRES:=hH hres;clear hres
 obtain ⟨f,hf⟩ : ∃ f : Int,f = if q ≠ 0 then q else r:=⟨_,rfl⟩
 have HF:=hH hf;clear hf;go_enter Tryz.func101,Tryz.ntmps101;go_wp2_with fail;(refine gA (HCK.out _ Je) fun w1 H1 hz1=>?_;refine Ji w1 w.heap.size fun q1_0 f1_0 l1_0 R1_0=>?_;refine Ji w1 (w.heap.size + 1) fun q1_1 f1_1 l1_1 R1_1=>?_;refine Ji w1 (w.heap.size + 1 + 1) fun q1_2 f1_2 l1_2 R1_2=>?_);go_upto_if 11 with fail
 go_cut [6] (fun s6 wx=>s6 = .int .i64 f /\ Aside (Ext w1 wx))
 case first =>
  have hf:=HF.out
  by_cases hq : q = 0
  ·subst hq
   rw [if_neg (by simp)] at hf;subst hf;go_wp2_with fail;(refine gA (HCT.out _) fun w2 H2 hz2=>?_);go_wp2_with fail;go_meet
   case rel=>exact ⟨rfl,(Je : Ext w1 _)⟩
  ·have hqb : (q == 0) = false:=by simpa using hq
   rw [if_pos hq] at hf;subst hf;clear hq;go_wp2_with fail;go_meet
   case rel=>exact ⟨rfl,(Je : Ext w1 _)⟩
 case rest =>
  obtain ⟨rfl,HW⟩:=hcut;obtain ⟨w2,rfl⟩ : ∃ w2 : World,w2 = wc:=⟨_,rfl⟩;have H2:=hH HW.out;have hz2:=HW.out.size;clear HW;(refine Ji w2 w.heap.size fun q2_0 f2_0 l2_0 R2_0=>?_;refine Ji w2 (w.heap.size + 1) fun q2_1 f2_1 l2_1 R2_1=>?_;refine Ji w2 (w.heap.size + 1 + 1) fun q2_2 f2_2 l2_2 R2_2=>?_);go_wp2_with fail;refine (HOwn.out _ Je).mono ?_;rintro e1 w3 ⟨t0,t1,t2,rfl,h3,ho⟩;obtain ⟨B0,d0,B1,d1,B2,d2,rfl,rfl,rfl⟩:=ho.forms;have hz3:=h3.size;have H3:=hH h3;have hf:=ho.far (Nat.le_refl w3.heap.size);have HO:=hH ho;have HFR:=hH hf;clear h3 ho hf;(refine Ji w3 w.heap.size fun q3_0 f3_0 l3_0 R3_0=>?_;refine Ji w3 (w.heap.size + 1) fun q3_1 f3_1 l3_1 R3_1=>?_;refine Ji w3 (w.heap.size + 1 + 1) fun q3_2 f3_2 l3_2 R3_2=>?_)
  by_cases h0 : f = 0
  ·have hf:=HF.out
   have hq : q = 0:=by
    by_cases hq : q = 0
    ·exact hq
    ·rw [if_pos hq] at hf;omega
   subst hq;rw [if_neg (by simp),h0] at hf;subst h0;subst hf;go_wp2_with fail;refine (HT.out (.slice B0 l.Jc.length d0) (.slice B1 l.Jf.length d1) (.slice B2 l.Jd.length d2) w3.heap.size w2.heap.size _ (by simp) (by simp) (HO.out.alloc _) HFR.out.1 HFR.out.2.1 HFR.out.2.2 (by omega) (Row.newAt rfl)).mono ?_;rintro e2 w4 ⟨rfl,hB,hP⟩;have hr2 : Row w4 (w.heap.size + 1 + 1) _:=(Row.alloc R3_2.out).below hB (by omega)
   have hB2 : Ext w w4:=by
    have : Ext w w3:=by exact Je
    exact Below.trans (this.alloc _) (Below.mono hB (by omega))
   have HE4:=hH hB2;have hq2:=hr2.2.1;have hf2:=hr2.2.2;have HR2:=hH hr2;clear hB hB2 hr2
   by_cases hE : E = 0
   ·subst hE
    obtain ⟨t0',hrow,hown⟩:=hP rfl;have hqb:=hrow.2.1;have hlb:=hrow.1;have HOW:=hH hown;obtain ⟨C0,e0,C1,e1,C2,e2,rfl,h1,h2⟩:=hown.forms;have HRB:=hH hrow;clear hP hrow hown h1 h2;have hres:=HRES.out;simp only [ne_eq,not_true_eq_false,if_false,Prod.mk.injEq] at hres;obtain ⟨rfl,rfl⟩:=hres;go_wp2_with fail;refine bodyPost_ret (v:=.tuple #[.agg #[.slice C0 (ZK t l.Jc).length e0,.slice B1 l.Jf.length d1,.slice B2 l.Jd.length d2],.int .i64 0]) (by simp [results,Tryz.results101,go_sem, *]) rfl ⟨_,_,_,rfl,(Je : Ext w _),?_⟩;refine JL.lower (base:=w2.heap.size) ?_ (by omega)
    repeat (first | exact HOW.out | (apply JL.Jl;focus (simp <;> omega)))
   ·have hEb : (E != 0) = true:=by simpa using hE
    have hres:=HRES.out;simp only [ne_eq,not_true_eq_false,if_false,hE,not_false_eq_true,if_true,Prod.mk.injEq] at hres;obtain ⟨rfl,rfl⟩:=hres;clear hP hE;go_wp2_with fail;refine bodyPost_ret (v:=.tuple #[.agg #[.slice none 0 0,.slice none 0 0,.slice none 0 0],.int .i64 E]) (by simp [results,Tryz.results101,go_sem, *]) rfl ⟨_,_,_,rfl,(Je : Ext w _),JL.nil⟩
  ·have hfb : (f == 0) = false:=by simpa using h0
   have hfb2 : (f != 0) = true:=by simpa using h0
   have hres : (G,eo) = (ld0,f):=by
    have hf:=HF.out;rw [<- HRES.out]
    by_cases hq : q = 0
    ·subst hq
     rw [if_neg (by simp)] at hf ⊢;subst hf;rw [if_pos h0]
    ·rw [if_pos hq] at hf ⊢
     rw [hf]
   simp only [Prod.mk.injEq] at hres;obtain ⟨rfl,rfl⟩:=hres;clear h0;go_wp2_with fail;refine bodyPost_ret (v:=.tuple #[.agg #[.slice none 0 0,.slice none 0 0,.slice none 0 0],.int .i64 eo]) (by simp [results,Tryz.results101,go_sem, *]) rfl ⟨_,_,_,rfl,(Je : Ext w _),JL.nil⟩

def single (id : Int) : Tk:=⟨id,1,10,500,15,0⟩

theorem law_single (id : Int) (w : World) :
  Calls Tryz.prog 68 #[.int .i64 id] w fun e w'=>e = .returned (.agg (tkc (single id))) /\ Ext w w':=by
 go_enter Tryz.func68,Tryz.ntmps68;go_wp2_with fail;refine bodyPost_ret (v:=.agg (tkc (single id))) (by simp [results,Tryz.results68,go_sem,tkc,single]) rfl ⟨rfl,?_⟩;exact Je

theorem RdL.rows {α : Type} [Inhabited α] {enc : α -> Array Value} {k : Nat} {W : World} (l : List α) {cs : Array Value} {g n : Nat} (h : Row W g cs) (hcs : cs.toList = encs enc l) (hk : ∀ x,(enc x).size = k) (hl : l.length <= maxLen) (hn : n = l.length) : RdL k enc W (.slice (some ⟨g,0,none⟩) n n) l:=by
 subst hn;refine ⟨_,l.length,rfl,Nat.le_refl _,hl,fun _=>⟨g,0,rfl,h.1,fun j hj i u hu=>?_⟩⟩
 have hi : i < k:=by
  rw [<- hk l[j]!];exact (Array.getElem?_eq_some_iff.1 hu).1
 rw [getElem!_pos l j hj,<- XV hk l j i hj hi,<- hcs,Array.getElem?_toList] at hu;rw [Nat.zero_add,h.2.1];exact hu

def bookTk : List Tk:=[single 1,⟨4,3,0,900,3,2⟩]
def bookTp : List Tp:=[⟨1,0,1,20,1⟩,⟨1,1,1,60,1⟩]
def bookL : Ld:=⟨bookTk,bookTp,[1,2]⟩


def bookA : Ld:=⟨bookTk,[⟨1,0,1,20,1⟩,⟨1,1,1,60,1⟩,⟨4,0,2,60,1⟩],[1,2,1]⟩
theorem lb_1 : enterAll bookL ⟨4,0,2,60,1⟩ = (bookA,1,0):=by decide +kernel
theorem lb_2 : enterAll bookL ⟨1,0,2,90,1⟩ = (ld0,3,10):=by decide +kernel
section
variable (s0 s1 s2 : Value) (w : World) (hr0 : RdL 6 tkc w s0 bookTk) (hr1 : RdL 5 tpc w s1 bookTp) (hr2 : RdL 1 inc w s2 [1,2])
end


theorem ticketOf_mem {l : List Tk} {id : Int} {t : Tk} (h : JU l id = some t) : t ∈ l /\ t.id = id:=by
 unfold JU at h;exact ⟨List.mem_of_find?_eq_some h,by simpa using List.find?_some h⟩
end Go.Proofs.YteojjbhadgkfgaaGreat
