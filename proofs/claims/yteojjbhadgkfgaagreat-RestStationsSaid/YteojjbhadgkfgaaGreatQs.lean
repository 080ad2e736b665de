/- Qs: parts of the proofs, laid together. -/
import Derived.Test.YteojjbhadgkfgaaGreatQl
import Derived.Test.YteojjbhadgkfgaaGreatQw
import Derived.Test.YteojjbhadgkfgaaGreatQg
import Derived.Test.YteojjbhadgkfgaaGreatQf
import Derived.Test.YteojjbhadgkfgaaGreatQc
import Derived.Test.YteojjbhadgkfgaaGreatQr
import Derived.Test.YteojjbhadgkfgaaGreatQo
import Derived.Test.YteojjbhadgkfgaaGreatQa
import Derived.Test.YteojjbhadgkfgaaGreatQb
import Derived.Test.YteojjbhadgkfgaaGreatQk
/- Stations: the plain side: what is wrong with one, what comes of a sale, of a tap, of a gate's telling, of an act. -/
set_option maxHeartbeats 64000000
namespace Go.Proofs.YteojjbhadgkfgaaGreat
open Lb
set_option linter.unusedVariables false
set_option maxRecDepth 100000
set_option linter.unusedSimpArgs false

def newG (i : Int) (z : Int) : Gt:=⟨i,z,0,[],dn0,9,100⟩
def newS : St:=⟨ld0,dn0,[newG 0 1,newG 1 2,newG 2 4],[⟨0,0,true⟩,⟨0,0,true⟩,⟨0,0,true⟩]⟩
def knownP (i : Int) (g : Gt) (p : Tp) : Bool:=p.gate == i && decide (g.seq - g.Jn.length < p.seq)
def atG (Jf : List Tp) (ver i : Int) (g : Gt) : Int :=
 if J7 g ≠ 0 then J7 g else if g.id ≠ i \/ ver < g.Jb.Jk then 4 else if Jf.any (knownP i g) = true then 6 else 0
def ZG (Jf : List Tp) (ver : Int) : Nat -> List Gt -> Int
 | _,[]=>0
 | i,g :: l=>if atG Jf ver i g ≠ 0 then atG Jf ver i g else ZG Jf ver (i + 1) l
theorem ckGates_cons (Jf : List Tp) (ver : Int) (i : Nat) (g : Gt) (l : List Gt) : ZG Jf ver i (g :: l) = if atG Jf ver i g ≠ 0 then atG Jf ver i g else ZG Jf ver (i + 1) l:=rfl
theorem ckGates_ok {Jf : List Tp} {ver : Int} : ∀ {l : List Gt} {i : Nat},ZG Jf ver i l = 0 ↔ ∀ k (h : k < l.length),atG Jf ver ((i + k : Nat) : Int) l[k] = 0
 | [],i=>by simp [ZG]
 | g :: l,i=>by
  rw [ckGates_cons]
  by_cases h : atG Jf ver i g = 0
  ·rw [if_neg (by simpa using h),ckGates_ok]
   constructor
   ·intro hk k hl
    cases k with
    | zero=>exact h
    | succ k=>have:=hk k (by simpa using hl);simpa [Nat.add_assoc,Nat.add_comm 1 k] using this
   ·intro hk k hl
    have:=hk (k + 1) (by simpa using hl)
    simpa [Nat.add_assoc,Nat.add_comm 1 k] using this
  ·rw [if_pos h]
   constructor
   ·intro h2;exact absurd h2 h
   ·intro hk;exact absurd (hk 0 (by simp)) h
def Z4 (s : St) : Int :=
 if Js s.Ja ≠ 0 then Js s.Ja
 else if Z9 s.Jb ≠ 0 then Z9 s.Jb
 else if s.Jg.length ≠ 3 then 1
 else if ZG s.Ja.Jf s.Jb.Jk 0 s.Jg ≠ 0 then ZG s.Ja.Jf s.Jb.Jk 0 s.Jg
 else JI s.Jj
theorem ckSt_ok {s : St} : Z4 s = 0 ↔ Js s.Ja = 0 /\ Z9 s.Jb = 0 /\ s.Jg.length = 3 /\ ZG s.Ja.Jf s.Jb.Jk 0 s.Jg = 0 /\ JI s.Jj = 0:=by
 unfold Z4
 by_cases h1 : Js s.Ja = 0
 ·rw [if_neg (by simpa using h1)]
  by_cases h2 : Z9 s.Jb = 0
  ·rw [if_neg (by simpa using h2)]
   by_cases h3 : s.Jg.length = 3
   ·rw [if_neg (by simpa using h3)]
    by_cases h4 : ZG s.Ja.Jf s.Jb.Jk 0 s.Jg = 0
    ·rw [if_neg (by simpa using h4)];simp [h1,h2,h3,h4]
    ·rw [if_pos h4];simp [h4]
   ·rw [if_pos h3];simp [h3]
  ·rw [if_pos h2];simp [h2]
 ·rw [if_pos h1];simp [h1]
def led (s : St) : Bool:=(whoV s.Jj).2
def Xt (s : St) (t : Tk) (g : Gt) (n : Nat) (time : Int) : St × Int × Int :=
 if s.Jb.ids.contains t.id = true then (s,0,11)
 else if within time 0 9999 = false then (s,0,3)
 else if g.seq = 99 then (s,0,2)
 else if (Jy s.Ja (Zp g t time)).2.2 ≠ 0 then (s,(Jy s.Ja (Zp g t time)).2.1,(Jy s.Ja (Zp g t time)).2.2)
 else (⟨(Jy s.Ja (Zp g t time)).1,s.Jb,s.Jg.set n ⟨g.id,g.zone,g.seq + 1,g.Jn,g.Jb,g.left,g.JP⟩,s.Jj⟩,(Jy s.Ja (Zp g t time)).2.1,0)
def aloneS (s : St) (t : Tk) (g : Gt) (n : Nat) (time : Int) : St × Int × Int :=
 if (Xh g t time).2.2 ≠ 0 then (s,0,(Xh g t time).2.2) else (⟨s.Ja,s.Jb,s.Jg.set n (Xh g t time).1,s.Jj⟩,0,0)
def Xy (s : St) (id n time : Int) : St × Int × Int :=
 if within n 0 2 = false then (s,0,3)
 else match JU s.Ja.Jc id with
  | none=>(s,0,5)
  | some t=>if led s = true /\ (s.Jg[n.toNat]!).Jn.length = 0 then Xt s t (s.Jg[n.toNat]!) n.toNat time else aloneS s t (s.Jg[n.toNat]!) n.toNat time
def Zq (d : Dn) : List Tp -> Dn
 | []=>d
 | p :: l=>Zq (if (Za d p.ticket).2 = 0 then (Za d p.ticket).1 else d) l
theorem denyS_cons (d : Dn) (p : Tp) (l : List Tp) : Zq d (p :: l) = Zq (if (Za d p.ticket).2 = 0 then (Za d p.ticket).1 else d) l:=rfl
def toldG (g : Gt) (d : Dn) (time : Int) : Gt:=⟨g.id,g.zone,g.seq,[],d,9,time + 100⟩
def ZU (s : St) (n time : Int) : St × List Tp × Int :=
 if within n 0 2 = false then (s,[],3)
 else if led s = false then (s,[],4)
 else if within time 0 9999 = false then (s,[],3)
 else if (ZA s.Ja (s.Jg[n.toNat]!).Jn).2.2 ≠ 0 then (s,[],(ZA s.Ja (s.Jg[n.toNat]!).Jn).2.2)
 else (⟨(ZA s.Ja (s.Jg[n.toNat]!).Jn).1,Zq s.Jb (ZA s.Ja (s.Jg[n.toNat]!).Jn).2.1,s.Jg.set n.toNat (toldG (s.Jg[n.toNat]!) (Zq s.Jb (ZA s.Ja (s.Jg[n.toNat]!).Jn).2.1) time),s.Jj⟩,(ZA s.Ja (s.Jg[n.toNat]!).Jn).2.1,0)
def sellS (s : St) (t : Tk) : St × Int :=
 if led s = false then (s,4) else if (ZZ s.Ja t).2 ≠ 0 then (s,(ZZ s.Ja t).2) else (⟨(ZZ s.Ja t).1,s.Jb,s.Jg,s.Jj⟩,0)
def Zd (s : St) (t : Tk) : St × Int:=if (sellS s t).2 ≠ 0 then (st0,(sellS s t).2) else sellS s t
def Zf (s : St) (id n time : Int) : St × Int × Int:=if (Xy s id n time).2.2 ≠ 0 then (st0,(Xy s id n time).2) else Xy s id n time
def JZ (s : St) (n time : Int) : St × List Tp × Int:=if (ZU s n time).2.2 ≠ 0 then (st0,(ZU s n time).2) else ZU s n time
def sellSt (s : St) (t : Tk) : St × Int:=if Z4 s ≠ 0 then (st0,Z4 s) else Zd s t
def tapSt (s : St) (id n time : Int) : St × Int × Int:=if Z4 s ≠ 0 then (st0,0,Z4 s) else Zf s id n time
def syncSt (s : St) (n time : Int) : St × List Tp × Int:=if Z4 s ≠ 0 then (st0,[],Z4 s) else JZ s n time

def Jp (a : Ac) : Int :=
 if a.kind < 1 \/ 7 < a.kind then 7
 else if (a.kind ≠ 1 /\ a.ticket ≠ tk0) \/ (a.kind ≠ 2 /\ a.kind ≠ 3 /\ a.id ≠ 0) \/ ((a.kind = 1 \/ a.kind = 3) /\ a.of ≠ 0) \/ (a.kind ≠ 2 /\ a.kind ≠ 4 /\ a.time ≠ 0) then 1 else 0
def ZT (r : St × Int × Int) (s : St) : St × Int × Int:=if r.2.2 = 0 then r else (s,r.2)
def Zg (s : St) (n : Int) (a : Ac) : St × Int × Int :=
 if a.kind = 1 then ((Zd s a.ticket).1,n,(Zd s a.ticket).2)
 else if a.kind = 2 then Zf s a.id a.of a.time
 else if a.kind = 4 then ((JZ s a.of a.time).1,((JZ s a.of a.time).2.1.length : Int),(JZ s a.of a.time).2.2)
 else if a.kind = 3 then (if led s = false then (st0,n,4) else (⟨s.Ja,(Za s.Jb a.id).1,s.Jg,s.Jj⟩,n,(Za s.Jb a.id).2))
 else if a.kind = 7 then (⟨s.Ja,s.Jb,s.Jg,(Zw s.Jj a.of).1⟩,(if (Zw s.Jj a.of).2.1 = true then 1 else n),(Zw s.Jj a.of).2.2)
 else (⟨s.Ja,s.Jb,s.Jg,(Zz s.Jj a.of (a.kind == 5)).1⟩,n,(Zz s.Jj a.of (a.kind == 5)).2)
def doS (s : St) (n : Int) (a : Ac) : St × Int × Int:=if Jp a ≠ 0 then (s,n,Jp a) else ZT (Zg s n a) s
def JV (s : St) (a : Ac) : St × Int × Int:=if Z4 s ≠ 0 then (st0,0,Z4 s) else if (doS s 0 a).2.2 ≠ 0 then (st0,(doS s 0 a).2) else doS s 0 a
def runS : St -> List Ac -> St × List Int
 | s,[]=>(s,[])
 | s,a :: l=>((runS (doS s 0 a).1 l).1,(doS s 0 a).2.2 :: (runS (doS s 0 a).1 l).2)
end Go.Proofs.YteojjbhadgkfgaaGreat

namespace Go.Proofs.YteojjbhadgkfgaaGreat
open Lb
set_option linter.unusedVariables false
set_option maxRecDepth 100000
set_option linter.unusedSimpArgs false

theorem lastOk_snoc (l : List Tp) (p : Tp) (s : Int) : ZQ (l ++ [p]) s = (p.seq == s):=by simp [ZQ]
theorem alone_seqs {id zone : Int} : ∀ (n : Nat) {l : List Tp} {s : Int},l.length = n -> Zn id zone none l = 0 -> ZQ l s = true -> ∀ q,(∃ x ∈ l,x.seq = q) ↔ s - l.length < q /\ q <= s
 | 0,l,s,hn,_,_,q=>by
  obtain rfl:=List.length_eq_zero_iff.1 hn
  simp <;> omega
 | n + 1,l,s,hn,h,hl,q=>by
  have hne : l ≠ []:=by rintro rfl;simp at hn
  obtain ⟨m,p,rfl⟩ : ∃ m p,l = m ++ [p]:=⟨l.dropLast,l.getLast hne,(List.dropLast_concat_getLast hne).symm⟩;rw [lastOk_snoc] at hl
  have hp : p.seq = s:=by simpa using hl
  rw [ckAlone_snoc] at h
  by_cases h1 : Zn id zone none m = 0
  ·rw [if_neg (by simpa using h1)] at h
   by_cases h2 : Jv p = 0
   ·rw [if_neg (by simpa using h2)] at h
    by_cases h3 : p.gate ≠ id \/ p.zone ≠ zone \/ follows (m.getLast?.or none) p = false
    ·rw [if_pos h3] at h;simp at h
    ·have hf : follows (m.getLast?.or none) p = true:=by
      cases hc : follows (m.getLast?.or none) p with
      | true=>rfl
      | false=>exact absurd (.inr (.inr hc)) h3
     have hm : ZQ m (s - 1) = true:=by
      unfold ZQ
      cases hg : m.getLast? with
      | none=>rfl
      | some x =>
       rw [hg] at hf
       simp [follows] at hf
       simp;omega
     have ih:=alone_seqs n (by simpa using hn) h1 hm q;simp only [List.mem_append,List.mem_singleton,List.length_append,List.length_singleton]
     constructor
     ·rintro ⟨x,hx | rfl,hq⟩
      ·have:=ih.1 ⟨x,hx,hq⟩;omega
      ·omega
     ·rintro ⟨ha,hb⟩
      by_cases hq : q = s
      ·exact ⟨p,.inr rfl,by omega⟩
      ·obtain ⟨x,hx,he⟩:=ih.2 (by omega)
       exact ⟨x,.inl hx,he⟩
   ·rw [if_pos h2] at h;exact absurd h h2
  ·rw [if_pos h1] at h;exact absurd h h1
theorem known_eq {g : Gt} {i : Int} (hg : J7 g = 0) (hi : g.id = i) (p : Tp) : (p.gate == i && (decide (g.seq < p.seq) || g.Jn.any (JM p))) = knownP i g p:=by
 have r:=Zh.1 hg;unfold knownP
 by_cases hp : p.gate = i
 ·have h1 : (p.gate == i) = true:=by simpa using hp
  rw [h1,Bool.true_and,Bool.true_and];have hs:=alone_seqs _ rfl r.Jn r.last p.seq;rw [Bool.eq_iff_iff];simp only [Bool.or_eq_true,decide_eq_true_eq,List.any_eq_true,sameNo_iff]
  constructor
  ·rintro (h | ⟨x,hx,hxg,hxs⟩)
   ·have:=g.Jn.length.zero_le;omega
   ·exact (hs.1 ⟨x,hx,hxs⟩).1
  ·intro h
   by_cases hb : p.seq <= g.seq
   ·obtain ⟨x,hx,he⟩:=hs.2 ⟨h,hb⟩
    exact .inr ⟨x,hx,by rw [(alone_mem r.Jn x hx).2.1,hi,hp],he⟩
   ·exact .inl (by omega)
 ·have h1 : (p.gate == i) = false:=by simpa using hp
  rw [h1,Bool.false_and,Bool.false_and]
theorem atG_ok {Jf : List Tp} {ver i : Int} {g : Gt} : atG Jf ver i g = 0 ↔ J7 g = 0 /\ g.id = i /\ g.Jb.Jk <= ver /\ ∀ p ∈ Jf,p.gate = i -> p.seq <= g.seq - g.Jn.length:=by
 unfold atG
 by_cases h1 : J7 g = 0
 ·rw [if_neg (by simpa using h1)]
  by_cases h2 : g.id ≠ i \/ ver < g.Jb.Jk
  ·rw [if_pos h2]
   constructor
   ·intro h;simp at h
   ·rintro ⟨-,a,b,-⟩
    rcases h2 with h2 | h2
    ·exact absurd a h2
    ·omega
  ·rw [if_neg h2]
   have h2a : g.id = i:=Classical.byContradiction fun e=>h2 (.inl e);have h2b : ¬ ver < g.Jb.Jk:=fun e=>h2 (.inr e)
   by_cases h3 : Jf.any (knownP i g) = true
   ·rw [if_pos h3]
    constructor
    ·intro h;simp at h
    ·rintro ⟨-,-,-,h⟩
     obtain ⟨p,hp,hk⟩:=List.any_eq_true.1 h3
     simp [knownP] at hk
     have:=h p hp hk.1
     omega
   ·rw [if_neg h3]
    refine ⟨fun _=>⟨h1,h2a,by omega,fun p hp hpi=>?_⟩,fun _=>rfl⟩;apply Classical.byContradiction;intro hc;exact h3 (List.any_eq_true.2 ⟨p,hp,by simp [knownP,hpi];omega⟩)
 ·rw [if_pos h1]
  exact ⟨fun h=>absurd h h1,fun h=>absurd h.1 h1⟩
structure JJ (s : St) : Prop where
 Ja : Js s.Ja = 0
 Jb : Z9 s.Jb = 0
 len : s.Jg.length = 3
 Jg : ∀ k (h : k < s.Jg.length),J7 s.Jg[k] = 0 /\ s.Jg[k].id = k /\ s.Jg[k].Jb.Jk <= s.Jb.Jk /\ ∀ p ∈ s.Ja.Jf,p.gate = k -> p.seq <= s.Jg[k].seq - s.Jg[k].Jn.length
 Jj : JI s.Jj = 0
theorem Xd {s : St} : Z4 s = 0 ↔ JJ s:=by
 rw [ckSt_ok,ckGates_ok]
 constructor
 ·rintro ⟨a,b,c,d,e⟩
  exact ⟨a,b,c,fun k h=>by have:=atG_ok.1 (d k h);simpa using this,e⟩
 ·rintro ⟨a,b,c,d,e⟩
  exact ⟨a,b,c,fun k h=>atG_ok.2 (by have:=d k h;simpa using this),e⟩
theorem bang_get {l : List Gt} {k : Nat} (h : k < l.length) : l[k]! = l[k]:=by simp [h]
theorem JJ.set {s : St} (r : JJ s) {l : Ld} {d : Dn} {n : Nat} {g : Gt} {vs : List Vw} (hl : Js l = 0) (hd : Z9 d = 0) (hv : JI vs = 0) (hn : n < s.Jg.length) (hg : J7 g = 0) (hi : g.id = n) (hgv : g.Jb.Jk <= d.Jk) (hdv : s.Jb.Jk <= d.Jk)
  (hgt : ∀ p ∈ l.Jf,p.gate = (n : Int) -> p.seq <= g.seq - g.Jn.length) (ho : ∀ p ∈ l.Jf,p.gate ≠ (n : Int) -> p ∈ s.Ja.Jf) : JJ ⟨l,d,s.Jg.set n g,vs⟩:=by
 refine ⟨hl,hd,by simpa using r.len,fun k hk=>?_,hv⟩
 have hk' : k < s.Jg.length:=by simpa using hk
 by_cases hkn : n = k
 ·subst hkn
  simp only [List.getElem_set_self];exact ⟨hg,hi,hgv,hgt⟩
 ·simp only [List.getElem_set_ne hkn]
  obtain ⟨a,b,c,e⟩:=r.Jg k hk';refine ⟨a,b,Int.le_trans c hdv,fun p hp hpk=>e p (ho p hp ?_) hpk⟩;rw [hpk];exact fun h=>hkn (by omega)
theorem JJ.with {s : St} (r : JJ s) {l : Ld} {d : Dn} {vs : List Vw} (hl : Js l = 0) (ht : l.Jf = s.Ja.Jf) (hd : Z9 d = 0) (hdv : s.Jb.Jk <= d.Jk) (hv : JI vs = 0) : JJ ⟨l,d,s.Jg,vs⟩:=by
 refine ⟨hl,hd,r.len,fun k hk=>?_,hv⟩;obtain ⟨a,b,c,e⟩:=r.Jg k hk;exact ⟨a,b,Int.le_trans c hdv,by simpa [ht] using e⟩
theorem sellS_right {s : St} {t : Tk} (r : JJ s) : JJ (sellS s t).1:=by
 unfold sellS
 split
 ·exact r
 ·split
  ·exact r
  ·rename_i h
   have h0 : (ZZ s.Ja t).2 = 0:=by simpa using h
   have h1 : sellAll s.Ja t = ((ZZ s.Ja t).1,0):=by
    unfold sellAll;rw [if_neg (by simpa using r.Ja),<- h0]
   obtain ⟨-,h2,h3,-⟩:=sellAll_ok h1;exact r.with h2 h3 r.Jb (Int.le_refl _) r.Jj
theorem within_nat {n a : Int} (h : within n 0 2 = true) : 0 <= n /\ n <= 2 /\ ((n.toNat : Nat) : Int) = n:=by
 simp [within] at h;omega
theorem tapS_right {s : St} {id n time : Int} (r : JJ s) : JJ (Xy s id n time).1:=by
 unfold Xy
 split
 ·exact r
 ·rename_i hn
  have hw : within n 0 2 = true:=by simpa using hn
  obtain ⟨hn0,hn2,hnn⟩:=within_nat (a:=0) hw
  have hlt : n.toNat < s.Jg.length:=by rw [r.len];omega
  cases htk : JU s.Ja.Jc id with
  | none=>exact r
  | some t =>
   simp only
   rw [bang_get hlt];obtain ⟨ga,gb,gc,gd⟩:=r.Jg n.toNat hlt;have rg:=Zh.1 ga;have htm:=ticketOf_mem htk
   split
   ·rename_i hc
    unfold Xt
    split;· exact r
    split;· exact r
    split;· exact r
    split;· exact r
    rename_i h1 h2 h3 h4
    have h40 : (Jy s.Ja (Zp s.Jg[n.toNat] t time)).2.2 = 0:=by simpa using h4
    obtain ⟨e1,e2,e3⟩:=enterL_ok r.Ja h40;have hal : s.Jg[n.toNat].Jn = []:=List.length_eq_zero_iff.1 hc.2;refine r.set e1 r.Jb r.Jj hlt (Zh.2 ⟨rg.id,?_,rg.zone,rg.len,rg.Jn,?_,rg.Jb,rg.left,rg.JP⟩) gb gc (Int.le_refl _) ?_ ?_
    ·have:=rg.seq
     simp [within] at this ⊢
     omega
    ·simp only;rw [hal];rfl
    ·intro p hp hpg
     rw [e2] at hp
     simp only
     rw [hal]
     rcases List.mem_append.1 hp with hp | hp
     ·have:=gd p hp hpg
      rw [hal] at this
      simp at this ⊢
      omega
     ·obtain rfl:=List.mem_singleton.1 hp
      simp [Zp]
    ·intro p hp hpg
     rw [e2] at hp
     rcases List.mem_append.1 hp with hp | hp
     ·exact hp
     ·obtain rfl:=List.mem_singleton.1 hp
      exact absurd gb hpg
   ·unfold aloneS
    split
    ·exact r
    ·rename_i h
     have h0 : (Xh s.Jg[n.toNat] t time).2.2 = 0:=by simpa using h
     have h1 : tapE s.Jg[n.toNat] t time = 0:=by
      apply Classical.byContradiction;intro he;unfold Xh at h0;rw [if_pos he] at h0;exact he h0
     have h2 : Xh s.Jg[n.toNat] t time = (ZJ s.Jg[n.toNat] t time,Zp s.Jg[n.toNat] t time,0):=by
      unfold Xh;rw [if_neg (by simpa using h1)]
     rw [h2];have htr : JB t = 0:=ZH (J6.1 r.Ja).2.2.2.1 t htm.1;refine r.set r.Ja r.Jb r.Jj hlt (tapped_right ga htr h1).1 gb gc (Int.le_refl _) ?_ (fun p hp _=>hp);intro p hp hpg;have:=gd p hp hpg
     simp [ZJ] at this ⊢
     omega
theorem denyS_ok : ∀ (l : List Tp) {d : Dn},Z9 d = 0 -> Z9 (Zq d l) = 0 /\ d.Jk <= (Zq d l).Jk /\ ∀ x ∈ d.ids,x ∈ (Zq d l).ids
 | [],d,h=>⟨h,Int.le_refl _,fun x hx=>hx⟩
 | p :: l,d,h=>by
  rw [denyS_cons]
  by_cases h0 : (Za d p.ticket).2 = 0
  ·rw [if_pos h0]
   obtain ⟨a,b,c⟩:=denyS_ok l (denyD_right h h0);obtain ⟨-,-,-,-,e⟩:=denyD_ok h0;rw [e] at a b c ⊢;simp only at a b c ⊢;exact ⟨a,by omega,fun x hx=>c x ((mem_insI _ _ _).2 (.inr hx))⟩
  ·rw [if_neg h0]
   exact denyS_ok l h
theorem syncS_right {s : St} {n time : Int} (r : JJ s) : JJ (ZU s n time).1:=by
 unfold ZU
 split;· exact r
 split;· exact r
 split;· exact r
 split;· exact r
 rename_i h1 h2 h3 h4
 have hw : within n 0 2 = true:=by simpa using h1
 obtain ⟨hn0,hn2,hnn⟩:=within_nat (a:=0) hw
 have hlt : n.toNat < s.Jg.length:=by rw [r.len];omega
 rw [bang_get hlt] at h4 ⊢;obtain ⟨ga,gb,gc,gd⟩:=r.Jg n.toNat hlt;have rg:=Zh.1 ga
 have h40 : (ZA s.Ja s.Jg[n.toNat].Jn).2.2 = 0:=by simpa using h4
 obtain ⟨-,e1,e2,e3⟩:=rawM_ok r.Ja h40;generalize ZA s.Ja s.Jg[n.toNat].Jn = R at *;obtain ⟨d1,d2,d3⟩:=denyS_ok R.2.1 r.Jb;have hmem : ∀ p ∈ R.1.Jf,p ∈ s.Ja.Jf \/ p ∈ s.Jg[n.toNat].Jn:=fun p hp=>List.mem_append.1 (e3.mem_iff.1 (List.mem_append.2 (.inl hp)))
 have ht : within time 0 9999 = true:=by simpa using h3
 have hsq:=fun q=>alone_seqs _ rfl rg.Jn rg.last q;refine r.set e1 d1 r.Jj hlt (Zh.2 ⟨rg.id,rg.seq,rg.zone,by simp [toldG],rfl,rfl,d1,by simp [toldG,within],?_⟩) gb (Int.le_refl _) d2 ?_ ?_
 ·simp [within] at ht
  show within (time + 100) 0 10099 = true
  simp only [within,Bool.and_eq_true,decide_eq_true_eq];omega
 ·intro p hp hpg
  show p.seq <= s.Jg[n.toNat].seq - (0 : Nat)
  rcases hmem p hp with hp | hp
  ·have:=gd p hp hpg;omega
  ·have:=((hsq p.seq).1 ⟨p,hp,rfl⟩).2;omega
 ·intro p hp hpg
  rcases hmem p hp with hp | hp
  ·exact hp
  ·exact absurd ((alone_mem rg.Jn p hp).2.1.trans gb) hpg
theorem setV_right {l : List Vw} {i : Int} {up : Bool} (h : JI l = 0) (h0 : (Zz l i up).2 = 0) : JI (Zz l i up).1 = 0:=by
 obtain ⟨-,he⟩:=setV_ok h0;rw [he];exact (Zr _).2 ((modify_alike l i.toNat up).right ((Zr _).1 h))
theorem winV_right {l : List Vw} {who : Int} (h : JI l = 0) (h0 : (Zw l who).2.2 = 0) : JI (Zw l who).1 = 0:=by
 unfold Zw at h0 ⊢
 split at h0
 ·simp at h0
 rename_i hw
 rw [if_neg hw]
 split
 ·exact h
 rename_i hc
 rw [if_neg hc] at h0
 split at h0
 ·simp at h0
 rename_i h99
 rw [if_neg h99];have hr:=(Zr l).1 h;obtain ⟨a,b⟩:=top_lt hr h99;exact (Zr _).2 (raise_right hr (by simpa using hw) a b)
theorem newS_right : JJ newS:=Xd.1 (by decide)
theorem actS_right {s : St} {n : Int} {a : Ac} (r : JJ s) (h0 : (Zg s n a).2.2 = 0) : JJ (Zg s n a).1:=by
 unfold Zg at h0 ⊢
 split at h0
 ·rename_i hk
  rw [if_pos hk];unfold Zd at h0 ⊢
  split at h0
  ·rename_i h;exact absurd h0 h
  ·rename_i h;rw [if_neg h];exact sellS_right r
 ·rename_i hk1
  rw [if_neg hk1]
  split at h0
  ·rename_i hk
   rw [if_pos hk];unfold Zf at h0 ⊢
   split at h0
   ·rename_i h;exact absurd h0 h
   ·rename_i h;rw [if_neg h];exact tapS_right r
  ·rename_i hk2
   rw [if_neg hk2]
   split at h0
   ·rename_i hk
    rw [if_pos hk];unfold JZ at h0 ⊢
    split at h0
    ·rename_i h;exact absurd h0 h
    ·rename_i h;rw [if_neg h];exact syncS_right r
   ·rename_i hk4
    rw [if_neg hk4]
    split at h0
    ·rename_i hk
     rw [if_pos hk]
     split at h0
     ·simp at h0
     ·rename_i hl
      rw [if_neg hl];have h:=denyD_right r.Jb h0;obtain ⟨-,-,-,-,e⟩:=denyD_ok h0;refine r.with r.Ja rfl h ?_ r.Jj
      rw [e];simp only;omega
    ·rename_i hk3
     rw [if_neg hk3]
     split at h0
     ·rename_i hk
      rw [if_pos hk];exact r.with r.Ja rfl r.Jb (Int.le_refl _) (winV_right r.Jj h0)
     ·rename_i hk7
      rw [if_neg hk7];exact r.with r.Ja rfl r.Jb (Int.le_refl _) (setV_right r.Jj h0)
theorem doS_right {s : St} {n : Int} {a : Ac} (r : JJ s) : JJ (doS s n a).1:=by
 unfold doS
 split
 ·exact r
 ·unfold ZT
  split
  ·rename_i h;exact actS_right r h
  ·exact r
end Go.Proofs.YteojjbhadgkfgaaGreat

namespace Go.Proofs.YteojjbhadgkfgaaGreat
open Lb
set_option linter.unusedVariables false
set_option maxRecDepth 100000
set_option linter.unusedSimpArgs false

end Go.Proofs.YteojjbhadgkfgaaGreat

namespace Go.Proofs.YteojjbhadgkfgaaGreat
open Lb
set_option linter.unusedVariables false
set_option maxRecDepth 100000
set_option linter.unusedSimpArgs false

end Go.Proofs.YteojjbhadgkfgaaGreat

namespace Go.Proofs.YteojjbhadgkfgaaGreat
open Lb
set_option linter.unusedVariables false
set_option maxRecDepth 100000
set_option linter.unusedSimpArgs false

end Go.Proofs.YteojjbhadgkfgaaGreat

namespace Go.Proofs.YteojjbhadgkfgaaGreat
open Lb
set_option linter.unusedVariables false
set_option maxRecDepth 100000
set_option linter.unusedSimpArgs false

end Go.Proofs.YteojjbhadgkfgaaGreat

namespace Go.Proofs.YteojjbhadgkfgaaGreat
open Lb
set_option linter.unusedVariables false
set_option maxRecDepth 100000
set_option linter.unusedSimpArgs false

theorem actS_n (s : St) (n m : Int) (a : Ac) : (Zg s n a).1 = (Zg s m a).1 /\ (Zg s n a).2.2 = (Zg s m a).2.2:=by
 unfold Zg
 split;· exact ⟨rfl,rfl⟩
 split;· exact ⟨rfl,rfl⟩
 split;· exact ⟨rfl,rfl⟩
 split
 ·split <;> exact ⟨rfl,rfl⟩
 split
 ·exact ⟨rfl,rfl⟩
 ·exact ⟨rfl,rfl⟩
theorem doS_n (s : St) (n m : Int) (a : Ac) : (doS s n a).1 = (doS s m a).1 /\ (doS s n a).2.2 = (doS s m a).2.2:=by
 obtain ⟨h1,h2⟩:=actS_n s n m a;unfold doS
 split
 ·exact ⟨rfl,rfl⟩
 ·unfold ZT
  rw [h2]
  split
  ·exact ⟨h1,h2⟩
  ·exact ⟨rfl,h2⟩
end Go.Proofs.YteojjbhadgkfgaaGreat

namespace Go.Proofs.YteojjbhadgkfgaaGreat
set_option linter.unusedSimpArgs false
set_option linter.unusedVariables false
set_option maxRecDepth 100000
open Go Go.RowKit Lb

structure Gy where
 g : Gt
 sa : Value
 si : Value
instance : Inhabited Gy:=⟨⟨gt0,.slice none 0 0,.slice none 0 0⟩⟩
def gyc (y : Gy) : Array Value:=gta y.g y.sa y.si
theorem Jz (y : Gy) : (gyc y).size = 8:=rfl
structure Sv where
 s0 : Value
 s1 : Value
 s2 : Value
 si : Value
 sg : Value
 sv : Value
def sta (s : St) (x : Sv) : Array Value:=#[x.s0,x.s1,x.s2,.int .i64 s.Jb.Jk,x.si,x.sg,x.sv]
def GyR (w : World) (y : Gy) : Prop:=RdL 5 tpc w y.sa y.g.Jn /\ RdL 1 inc w y.si y.g.Jb.ids
def GyO (base : Nat) (w : World) (y : Gy) : Prop:=Jh 57 5 tpc base w y.sa y.g.Jn /\ Jh 3 1 inc base w y.si y.g.Jb.ids
def RdG (w : World) (v : Value) (gl : List Gt) : Prop:=∃ ys : List Gy,gl = ys.map (·.g) /\ RdL 8 gyc w v ys /\ ∀ y ∈ ys,GyR w y
def XW (base : Nat) (w : World) (v : Value) (gl : List Gt) : Prop:=∃ ys : List Gy,gl = ys.map (·.g) /\ Jh 52 8 gyc base w v ys /\ ∀ y ∈ ys,GyO base w y
theorem RdG.ext {w w' : World} {v : Value} {gl : List Gt} (h : RdG w v gl) (he : Ext w w') : RdG w' v gl:=by
 obtain ⟨ys,h1,h2,h3⟩:=h;exact ⟨ys,h1,h2.ext he,fun y hy=>⟨(h3 y hy).1.ext he,(h3 y hy).2.ext he⟩⟩
theorem RdG.form {w : World} {v : Value} {gl : List Gt} (h : RdG w v gl) : ∃ A c,v = .slice A gl.length c /\ gl.length <= c /\ c <= maxLen:=by
 obtain ⟨ys,rfl,h2,-⟩:=h;obtain ⟨A,c,a,b,d⟩:=h2.form;exact ⟨A,c,by simpa using a,by simpa using b,d⟩
theorem RdG.nil {w : World} : RdG w (.slice none 0 0) []:=⟨[],rfl,RdL.nil,fun y h=>by cases h⟩
theorem RdG.at_ {w : World} {v : Value} {gl : List Gt} (h : RdG w v gl) {A : Option Addr} {n c : Nat} (hv : v = .slice A n c) {k : Nat} (hk : k < gl.length) : ∃ b o sa si,A = some ⟨b,o,none⟩ /\ b < w.heap.size /\
  RdL 5 tpc w sa gl[k].Jn /\ RdL 1 inc w si gl[k].Jb.ids /\
  w.cell? ⟨b,o + k * 8,none⟩ = some (.int .i64 gl[k].id) /\ w.cell? ⟨b,o + k * 8 + 1,none⟩ = some (.int .i64 gl[k].zone) /\ w.cell? ⟨b,o + k * 8 + 2,none⟩ = some (.int .i64 gl[k].seq) /\ w.cell? ⟨b,o + k * 8 + 3,none⟩ = some sa /\
  w.cell? ⟨b,o + k * 8 + 4,none⟩ = some (.int .i64 gl[k].Jb.Jk) /\ w.cell? ⟨b,o + k * 8 + 5,none⟩ = some si /\ w.cell? ⟨b,o + k * 8 + 6,none⟩ = some (.int .i64 gl[k].left) /\ w.cell? ⟨b,o + k * 8 + 7,none⟩ = some (.int .i64 gl[k].JP):=by
 subst hv;obtain ⟨ys,rfl,h2,h3⟩:=h
 have hk' : k < ys.length:=by simpa using hk
 obtain ⟨b,o,c',hv,hb,hc⟩:=h2.at_ hk'
 injection hv with hA
 have hy:=h3 ys[k] (List.getElem_mem hk');simp only [List.getElem_map];exact ⟨b,o,ys[k].sa,ys[k].si,hA,hb,hy.1,hy.2,hc 0 _ rfl,hc 1 _ rfl,hc 2 _ rfl,hc 3 _ rfl,hc 4 _ rfl,hc 5 _ rfl,hc 6 _ rfl,hc 7 _ rfl⟩
theorem XW.rd {base : Nat} {w : World} {v : Value} {gl : List Gt} (h : XW base w v gl) : RdG w v gl:=by
 obtain ⟨ys,h1,h2,h3⟩:=h;exact ⟨ys,h1,h2.rd Jz,fun y hy=>⟨(h3 y hy).1.rd Jr,(h3 y hy).2.rd JD⟩⟩
theorem XW.ext {base : Nat} {w w' : World} {v : Value} {gl : List Gt} (h : XW base w v gl) (he : Ext w w') : XW base w' v gl:=by
 obtain ⟨ys,h1,h2,h3⟩:=h;exact ⟨ys,h1,h2.ext he,fun y hy=>⟨(h3 y hy).1.ext he,(h3 y hy).2.ext he⟩⟩
theorem XW.lower {base b2 : Nat} {w : World} {v : Value} {gl : List Gt} (h : XW base w v gl) (hb : b2 <= base) : XW b2 w v gl:=by
 obtain ⟨ys,h1,h2,h3⟩:=h;exact ⟨ys,h1,h2.lower hb,fun y hy=>⟨(h3 y hy).1.lower hb,(h3 y hy).2.lower hb⟩⟩
theorem XW.nil {base : Nat} {w : World} : XW base w (.slice none 0 0) []:=⟨[],rfl,Jh.nil,fun y h=>by cases h⟩
theorem XW.form {base : Nat} {w : World} {v : Value} {gl : List Gt} (h : XW base w v gl) : ∃ A c,v = .slice A gl.length c:=by
 obtain ⟨ys,rfl,h2,-⟩:=h;obtain ⟨A,c,a⟩:=h2.form;exact ⟨A,c,by simpa using a⟩
theorem XW.XH {base : Nat} {w : World} {v : Value} {gl : List Gt} (h : XW base w v gl) : ZI base 52 8 w v:=by
 obtain ⟨ys,-,h2,-⟩:=h;exact h2.XH
structure RdS (w : World) (x : Sv) (s : St) : Prop where
 tk : RdL 6 tkc w x.s0 s.Ja.Jc
 tp : RdL 5 tpc w x.s1 s.Ja.Jf
 vd : RdL 1 inc w x.s2 s.Ja.Jd
 dn : RdL 1 inc w x.si s.Jb.ids
 gt : RdG w x.sg s.Jg
 vw : RdL 3 vwc w x.sv s.Jj
theorem RdS.ext {w w' : World} {x : Sv} {s : St} (h : RdS w x s) (he : Ext w w') : RdS w' x s:=⟨h.tk.ext he,h.tp.ext he,h.vd.ext he,h.dn.ext he,h.gt.ext he,h.vw.ext he⟩
structure JR (base : Nat) (w : World) (x : Sv) (s : St) : Prop where
 tk : Jh 34 6 tkc base w x.s0 s.Ja.Jc
 tp : Jh 57 5 tpc base w x.s1 s.Ja.Jf
 vd : Jh 3 1 inc base w x.s2 s.Ja.Jd
 dn : Jh 3 1 inc base w x.si s.Jb.ids
 gt : XW base w x.sg s.Jg
 vw : Jh 110 3 vwc base w x.sv s.Jj
theorem JR.ext {base : Nat} {w w' : World} {x : Sv} {s : St} (h : JR base w x s) (he : Ext w w') : JR base w' x s:=⟨h.tk.ext he,h.tp.ext he,h.vd.ext he,h.dn.ext he,h.gt.ext he,h.vw.ext he⟩
theorem JR.lower {base b2 : Nat} {w : World} {x : Sv} {s : St} (h : JR base w x s) (hb : b2 <= base) : JR b2 w x s:=⟨h.tk.lower hb,h.tp.lower hb,h.vd.lower hb,h.dn.lower hb,h.gt.lower hb,h.vw.lower hb⟩
theorem JR.rd {base : Nat} {w : World} {x : Sv} {s : St} (h : JR base w x s) : RdS w x s:=⟨h.tk.rd JH,h.tp.rd Jr,h.vd.rd JD,h.dn.rd JD,h.gt.rd,h.vw.rd JY⟩
def sv0 : Sv:=⟨.slice none 0 0,.slice none 0 0,.slice none 0 0,.slice none 0 0,.slice none 0 0,.slice none 0 0⟩
theorem JR.nil {base : Nat} {w : World} : JR base w sv0 st0:=⟨Jh.nil,Jh.nil,Jh.nil,Jh.nil,XW.nil,Jh.nil⟩

def spK : List TypeId:=[34,57,3,110]
section
variable {α : Type} {enc : α -> Array Value} {e : TypeId} {k base : Nat} {w w' : World} {v : Value} {l : List α} {own : Nat -> Prop} {x : Sv} {s : St} {y : Gy} {gl : List Gt}
theorem Jh.bx (h : Jh e k enc base w v l) : ∀ q,v.ownBlock = some q -> ∃ cs,Bx w q e cs:=by
 intro q hq
 rcases h.2 with ⟨rfl,h0⟩ | ⟨g,cap,cur,rfl,hb,hg,-⟩
 ·cases hq
 ·cases hq;exact ⟨cur,hg⟩
theorem Jh.Zy (h : Jh e k enc base w v l) (hf : Fr own w w') (ht : ∀ q,own q -> ∃ e2 cs,Bx w q e2 cs /\ e2 ≠ e) : Jh e k enc base w' v l :=
 hf.own h (fun q hq ho=>by obtain ⟨e2,cs,hb,hn⟩:=ht q ho;exact h.XH.box hb (fun he=>hn he.symm) hq)
theorem offK {e0 : TypeId} (h : ∀ q,own q -> ∃ e2 cs,Bx w q e2 cs /\ e2 ∉ spK) (he : e0 ∈ spK) : ∀ q,own q -> ∃ e2 cs,Bx w q e2 cs /\ e2 ≠ e0:=by
 intro q hq;obtain ⟨e2,cs,hb,hn⟩:=h q hq;exact ⟨e2,cs,hb,fun hx=>hn (hx ▸ he)⟩
theorem GyO.keep (h : GyO base w y) (hf : Fr own w w') (hn : ∀ q,own q -> ∃ e2 cs,Bx w q e2 cs /\ e2 ∉ spK) : GyO base w' y:=⟨h.1.Zy hf (offK hn (by decide)),h.2.Zy hf (offK hn (by decide))⟩
theorem GyO.ext (h : GyO base w y) (he : Ext w w') : GyO base w' y:=⟨h.1.ext he,h.2.ext he⟩
theorem JR.keepG {sg' : Value} {gl' : List Gt} (h : JR base w x s) (hf : Fr own w w') (hn : ∀ q,own q -> ∃ e2 cs,Bx w q e2 cs /\ e2 ∉ spK) (hg : XW base w' sg' gl') : JR base w' ⟨x.s0,x.s1,x.s2,x.si,sg',x.sv⟩ ⟨s.Ja,s.Jb,gl',s.Jj⟩ :=
 ⟨h.tk.Zy hf (offK hn (by decide)),h.tp.Zy hf (offK hn (by decide)),h.vd.Zy hf (offK hn (by decide)),h.dn.Zy hf (offK hn (by decide)),hg,h.vw.Zy hf (offK hn (by decide))⟩
theorem XW.keep (h : XW base w v gl) (hf : Fr own w w') (hn : ∀ q,own q -> ∃ e2 cs,Bx w q e2 cs /\ e2 ∉ spK) (hg : ∀ q,own q -> ∃ e2 cs,Bx w q e2 cs /\ e2 ≠ 52) : XW base w' v gl:=by
 obtain ⟨ys,h1,h2,h3⟩:=h;exact ⟨ys,h1,h2.Zy hf hg,fun y hy=>(h3 y hy).keep hf hn⟩
theorem JR.keep (h : JR base w x s) (hf : Fr own w w') (hn : ∀ q,own q -> ∃ e2 cs,Bx w q e2 cs /\ e2 ∉ spT) : JR base w' x s:=by
 have h1 : ∀ q,own q -> ∃ e2 cs,Bx w q e2 cs /\ e2 ∉ spK:=fun q hq=>by
  obtain ⟨e2,cs,hb,hx⟩:=hn q hq;exact ⟨e2,cs,hb,fun hy=>hx (by simp only [spK,List.mem_cons,List.not_mem_nil,or_false] at hy;rcases hy with rfl | rfl | rfl | rfl <;> decide)⟩
 have h2 : ∀ q,own q -> ∃ e2 cs,Bx w q e2 cs /\ e2 ≠ 52:=fun q hq=>by
  obtain ⟨e2,cs,hb,hx⟩:=hn q hq;exact ⟨e2,cs,hb,fun hy=>hx (by rw [hy];decide)⟩
 exact h.keepG hf h1 (h.gt.keep hf h1 h2)
theorem XW.of {v' : Value} {ys : List Gy} (hr : Jh 52 8 gyc base w' v' ys) (hy : ∀ y ∈ ys,GyO base w' y) : XW base w' v' (ys.map (·.g)):=⟨ys,rfl,hr,hy⟩
theorem XW.Jl {a : Addr} {u : Value} (ha : a.block < base) (h : XW base w v gl) : XW base (w.setCell a u) v gl:=by
 obtain ⟨ys,h1,h2,h3⟩:=h;exact ⟨ys,h1,h2.Jl ha,fun y hy=>⟨(h3 y hy).1.Jl ha,(h3 y hy).2.Jl ha⟩⟩
theorem JR.Jl {a : Addr} {u : Value} (ha : a.block < base) (h : JR base w x s) : JR base (w.setCell a u) x s:=⟨h.tk.Jl ha,h.tp.Jl ha,h.vd.Jl ha,h.dn.Jl ha,h.gt.Jl ha,h.vw.Jl ha⟩
theorem row_fr {A : Option Addr} {n c : Nat} (hg : w.grownBy w' (Value.slice A n c).ownBlock) : Fr (fun q=>(Value.slice A n c).ownBlock = some q) w w':=(Fr.refl _ _).grown hg (fun q e=>.inr e)
end
theorem gate_oneC (g : Gt) (A1 A2 : Option Addr) (n1 c1 n2 c2 : Nat) : ∀ u ∈ encs gyc [⟨g,.slice A1 n1 c1,.slice A2 n2 c2⟩],u.oneCell' = true:=by
 intro u hu
 simp [encs,gyc,gta] at hu
 (rcases hu with rfl | rfl | rfl | rfl | rfl | rfl | rfl | rfl) <;> rfl

def newY : List Gy:=[⟨newG 0 1,.slice none 0 0,.slice none 0 0⟩,⟨newG 1 2,.slice none 0 0,.slice none 0 0⟩,⟨newG 2 4,.slice none 0 0,.slice none 0 0⟩]
theorem own_lit {α : Type} {e : TypeId} {k base g n : Nat} {enc : α -> Array Value} {w : World} {l : List α} {cs : Array Value} (hg : g = w.heap.size) (hb : base <= w.heap.size) (hn : n = l.length) (hm : n <= maxLen) (hc : cs.toList = encs enc l) (hk : cs.size = n * k) : Jh e k enc base (w.alloc (.cells cs e)) (.slice (some ⟨g,0,none⟩) n n) l:=by
 subst hg hn;refine ⟨by rw [<- hc];simpa using hk,.inr ⟨w.heap.size,l.length,cs,rfl,hb,heap_alloc_new w _,Nat.le_refl _,hm,hk,?_⟩⟩;rw [<- hc,<- hk];exact List.take_of_length_le (by simp)
theorem newY_own {base : Nat} {w : World} : ∀ y ∈ newY,GyO base w y:=by
 intro y hy;simp only [newY,List.mem_cons,List.not_mem_nil,or_false] at hy
 rcases hy with rfl | rfl | rfl <;> exact ⟨Jh.nil,Jh.nil⟩

theorem ref_NewStation (w : World) :
  Calls Tryz.prog 21 #[] w fun e w'=>∃ x,e = .returned (.agg (sta newS x)) /\ Ext w w' /\ JR w.heap.size w' x newS:=by
 go_enter Tryz.func21,Tryz.ntmps21;go_wp2_with fail;refine bodyPost_ret (v:=.agg #[.slice none 0 0,.slice none 0 0,.slice none 0 0,.int .i64 0,.slice none 0 0,.slice (some ⟨w.heap.size + 1 + 1,0,none⟩) 3 3,.slice (some ⟨w.heap.size + 1 + 1 + 1,0,none⟩) 3 3]) (by simp [results,Tryz.results21,go_sem, *]) rfl ⟨⟨.slice none 0 0,.slice none 0 0,.slice none 0 0,.slice none 0 0,.slice (some ⟨w.heap.size + 1 + 1,0,none⟩) 3 3,.slice (some ⟨w.heap.size + 1 + 1 + 1,0,none⟩) 3 3⟩,rfl,(Je : Ext w _),⟨Jh.nil,Jh.nil,Jh.nil,Jh.nil,⟨newY,rfl,Jh.alloc _ (own_lit (by simp) (by simp;omega) rfl (by unfold maxLen;omega) rfl rfl),newY_own⟩,own_lit (by simp) (by simp;omega) rfl (by unfold maxLen;omega) rfl rfl⟩⟩
theorem new_encs : encs gvc Zm = encs gyc newY:=rfl
theorem station_New_own (w : World) :
  Calls Tryz.prog 20 #[] w fun e w'=>∃ x,e = .returned (.agg (sta newS x)) /\ Ext w w' /\ JR w.heap.size w' x newS:=by
 refine (station_New w).mono ?_;rintro e w' ⟨gs,vs,rfl,h,og,ov⟩
 have hg : Jh 52 8 gyc w.heap.size w' gs newY:=by
  unfold Jh at og ⊢;rw [new_encs] at og;exact og
 exact ⟨⟨.slice none 0 0,.slice none 0 0,.slice none 0 0,.slice none 0 0,gs,vs⟩,rfl,h,⟨Jh.nil,Jh.nil,Jh.nil,Jh.nil,⟨newY,rfl,hg,newY_own⟩,ov⟩⟩
set_option linter.unusedSimpArgs false
set_option linter.unusedVariables false
set_option maxRecDepth 100000

section
variable {P : Program} {l : List Oper} {Q : Exit -> Act -> World -> Prop} {md : Region.Mode} {S : World -> Prop}
theorem T_three {n i j k : Nat} {oi oj ok : Oper} {fuel : Nat} {listed : Array Bool} {a : Act} {w : World} (hi : l[i]? = some oi) (hj : l[j]? = some oj) (hk : l[k]? = some ok) (hr : Region.ready md l.toArray listed = [i,j,k]) (hwi : oi.guard = none) (hwj : oj.guard = none) (hwk : ok.guard = none)
  (h1 : ∀ K : Act -> World -> Prop,Hid (∀ a w,((listed.setIfInBounds i true).getD n false = true \/ S w) -> JF P md l.toArray (NoPanic Q) S n fuel (listed.setIfInBounds i true) a w -> K a w) -> Oper.wp P oi a w K (NoPanic Q))
  (h2 : ∀ K : Act -> World -> Prop,Hid (∀ a w,((listed.setIfInBounds j true).getD n false = true \/ S w) -> JF P md l.toArray (NoPanic Q) S n fuel (listed.setIfInBounds j true) a w -> K a w) -> Oper.wp P oj a w K (NoPanic Q))
  (h3 : ∀ K : Act -> World -> Prop,Hid (∀ a w,((listed.setIfInBounds k true).getD n false = true \/ S w) -> JF P md l.toArray (NoPanic Q) S n fuel (listed.setIfInBounds k true) a w -> K a w) -> Oper.wp P ok a w K (NoPanic Q)) :
  JF P md l.toArray (NoPanic Q) S n (fuel + 1) listed a w:=by
 refine ⟨fun h0=>(by rw [hr] at h0;cases h0),fun z hz=>?_⟩;rw [hr] at hz
 rcases List.mem_cons.1 hz with rfl | hz
 ·have hi' : l.toArray[z]? = some oi:=by simpa using hi
  refine wpOp_step hi' fun K hK=>?_;rw [if_pos (by simp [Region.wanted,hwi])];exact h1 K (hH fun a w h1 h2=>hK a w ⟨h1,h2⟩)
 ·rcases List.mem_cons.1 hz with rfl | hz
  ·have hj' : l.toArray[z]? = some oj:=by simpa using hj
   refine wpOp_step hj' fun K hK=>?_;rw [if_pos (by simp [Region.wanted,hwj])];exact h2 K (hH fun a w h1 h2=>hK a w ⟨h1,h2⟩)
  ·rw [List.mem_singleton] at hz
   subst hz
   have hk' : l.toArray[z]? = some ok:=by simpa using hk
   refine wpOp_step hk' fun K hK=>?_;rw [if_pos (by simp [Region.wanted,hwk])];exact h3 K (hH fun a w h1 h2=>hK a w ⟨h1,h2⟩)
end
theorem rowC {w : World} {g : Nat} {cs cs' : Array Value} (r : Row w g cs') (e : cs' = cs) : Row w g cs:=e ▸ r

theorem at_one (x : Tp) (i : Int) (g : Gt) (sa si : Value) (pi pg : Nat) (w : World) (hr : J7 g = 0) (ha : ∃ A c,sa = .slice A g.Jn.length c) (h1 : Row w pi #[.int .i64 i]) (h2 : Row w pg (gta g sa si)) :
  Calls Tryz.prog 115 #[.agg (tpc x),.pointer (some ⟨pi,0,none⟩),.pointer (some ⟨pg,0,none⟩)] w fun e w'=>e = .returned (.bool (knownP i g x)) /\ Ext w w':=by
 obtain ⟨A,c,rfl⟩:=ha;have r:=Zh.1 hr;have hb:=r.seq;have hl:=r.len
 simp [within] at hb
 clear r hr;obtain ⟨g0,g1,g2,al,g4,g5,g6⟩:=g;obtain ⟨x0,x1,x2,x3,x4⟩:=x;simp only at hb hl;have hw : IntKind.i64.wrap (g2 - (al.length : Int)) = g2 - (al.length : Int):=IntWalk.i64_in _ (by omega);unfold gta at h2;unfold tpc knownP
 simp only
 apply Row.use h1;intro q1 f1 l1 R1
 apply Row.use h2;intro q2 f2 l2 R2
 clear h1 h2 hl
 by_cases h : x1 = i
 ·have hb2 : (x1 == i) = true:=by simpa using h
  rw [hb2,Bool.true_and];generalize hd : decide (g2 - (al.length : Int) < x2) = d;have HD:=hH hd;clear hd;go_enter Tryz.func115,Tryz.ntmps115
  go_wp2
  all_goals
   go_ret;exact ⟨Jq (by rw [<- HD.out] <;> simp_all),(Je : Ext w _)⟩
 ·have hb2 : (x1 == i) = false:=by simpa using h
  rw [hb2,Bool.false_and];go_enter Tryz.func115,Tryz.ntmps115
  go_wp2
  all_goals
   go_ret;exact ⟨Jq (by simp_all),(Je : Ext w _)⟩

theorem station_at (s : St) (x : Sv) (i : Nat) (w : World) (hr : RdS w x s) (hi : i < s.Jg.length) :
  Calls Tryz.prog 71 #[.agg (sta s x),.int .i64 i] w fun e w'=>e = .returned (.int .i64 (atG s.Ja.Jf s.Jb.Jk i s.Jg[i])) /\ Ext w w':=by
 obtain ⟨⟨tks,Jf,vs⟩,⟨ver,ids⟩,gts,vws⟩:=s;obtain ⟨s0,s1,s2,si,sg,sv⟩:=x;obtain ⟨h0,h1,h2,h3,h4,h5⟩:=hr;simp only at h0 h1 h2 h3 h4 h5 hi;obtain ⟨A,c,rfl,hc,hm⟩:=h4.form
 have hic : (i : Int) < (c : Int):=by omega
 have hil : (i : Int) < (gts.length : Int):=by omega
 obtain ⟨b,o,sa,sd,rfl,hb,ra,rd,c0,c1,c2,c3,c4,c5,c6,c7⟩:=h4.at_ rfl hi;obtain ⟨A1,n1,rfl,-,-⟩:=h1.form;have HT:=hH h1
 simp only
 generalize gts[i] = g at *;have HG:=hH (fun w' (h : Ext w w')=>gate_Check g sa sd w' (ra.ext h) (rd.ext h));have HC:=hH (fun (hk : J7 g = 0) (pi pg : Nat) (w' : World) (h : Ext w w') (hp : Row w' pi #[.int .i64 i]) (hg : Row w' pg (gta g sa sd))=>Xl (knownP i g) 115 #[.pointer (some ⟨pi,0,none⟩),.pointer (some ⟨pg,0,none⟩)] (fun args w=>by simp [go_sem]) Jf _ w' (h1.ext h) (fun W x hE=>at_one x i g sa sd pi pg W hk (by obtain ⟨A,c,e,-,-⟩:=ra.form;exact ⟨A,c,e⟩) (hp.ext hE) (hg.ext hE)));obtain ⟨A2,n2,rfl,-,-⟩:=ra.form;obtain ⟨A3,n3,rfl,-,-⟩:=rd.form;unfold atG;generalize hck : J7 g = ck at *;have HCK:=hH hck;generalize hkn : Jf.any (knownP i g) = z at *;clear h0 h1 h2 h3 h4 h5 ra rd hck hkn hc hm hi;obtain ⟨g0,g1,g2,al,⟨gv,gi⟩,g6,g7⟩:=g;simp only at c0 c1 c2 c3 c4 c5 c6 c7;generalize hr : (if ck ≠ 0 then ck else if g0 ≠ (i : Int) \/ ver < gv then 4 else if z = true then 6 else 0) = r;have HR:=hH hr;clear hr;unfold gta at HG HC;unfold sta;simp only at HG HC ⊢;go_enter Tryz.func71,Tryz.ntmps71;go_wp2_with fail;(refine gA (HG.out _ Je) fun w1 H1 hz1=>?_;refine Ji w1 w.heap.size fun q1_0 f1_0 l1_0 R1_0=>?_;refine Ji w1 (w.heap.size + 1) fun q1_1 f1_1 l1_1 R1_1=>?_;refine Ji w1 (w.heap.size + 1 + 1) fun q1_2 f1_2 l1_2 R1_2=>?_)
 by_cases h0 : ck = 0
 ·subst h0
  by_cases hid : g0 = (i : Int)
  ·subst hid
   by_cases hv : ver < gv
   ·have HQ:=hH (show 4 = r by rw [<- HR.out];simp [hv])
    go_wp2_with fail;go_ret;exact ⟨Jo HQ.out,(Je : Ext w _)⟩
   ·have HQ:=hH (show (if z = true then (6 : Int) else 0) = r by rw [<- HR.out];simp [hv])
    go_wp2_with fail;refine (HC.out (by trivial) _ _ _ Je (by exact rowA) (by exact rowA)).mono ?_;(rintro e w2 ⟨rfl,h2⟩;have H2:=hH h2;have hz2:=h2.size;clear h2;(try simp only [lSz] at hz2);refine Ji w2 w.heap.size fun q2_0 f2_0 l2_0 R2_0=>?_)
    cases z
    ·go_wp2_with fail
     go_ret;exact ⟨Jo HQ.out,(Je : Ext w _)⟩
    ·go_wp2_with fail
     go_ret;exact ⟨Jo HQ.out,(Je : Ext w _)⟩
  ·have HQ:=hH (show 4 = r by rw [<- HR.out];simp [hid])
   have hid' : (g0 == (i : Int)) = false:=by simpa using hid
   go_wp2_with fail;go_ret;exact ⟨Jo HQ.out,(Je : Ext w _)⟩
 ·have HQ:=hH (show ck = r by rw [<- HR.out,if_pos h0])
  have h0' : (ck == 0) = false:=by simpa using h0
  go_wp2_with fail;go_ret;exact ⟨Jo HQ.out,(Je : Ext w _)⟩

theorem Xq (s : St) (x : Sv) (w : World) (hr : RdS w x s) :
  Calls Tryz.prog 22 #[.agg (sta s x)] w fun e w'=>e = .returned (.int .i64 (Z4 s)) /\ Ext w w':=by
 have K1:=hH (fun w' (h : Ext w w')=>ledger_Check s.Ja.Jc s.Ja.Jf s.Ja.Jd x.s0 x.s1 x.s2 w' (hr.tk.ext h) (hr.tp.ext h) (hr.vd.ext h));have K2:=hH (fun w' (h : Ext w w')=>denied_Check s.Jb x.si w' (hr.dn.ext h));have KA:=hH (fun (i : Nat) (g : Gt) (hg : s.Jg[i]? = some g) (w' : World) (h : Ext w w')=>(List.getElem?_eq_some_iff.1 hg).2 ▸ station_at s x i w' (hr.ext h) (List.getElem?_eq_some_iff.1 hg).1);have KV:=hH (fun w' (h : Ext w w')=>lead_Check s.Jj x.sv w' (hr.vw.ext h));obtain ⟨⟨tks,Jf,vs⟩,⟨ver,ids⟩,gts,vws⟩:=s;obtain ⟨s0,s1,s2,si,sg,sv⟩:=x;obtain ⟨h0,h1,h2,h3,h4,h5⟩:=hr;simp only at h0 h1 h2 h3 h4 h5 K1 K2 KA KV;obtain ⟨A0,c0,rfl,-,-⟩:=h0.form;obtain ⟨A1,c1,rfl,-,-⟩:=h1.form;obtain ⟨A2,c2,rfl,-,-⟩:=h2.form;obtain ⟨A3,c3,rfl,-,-⟩:=h3.form;obtain ⟨A4,c4,rfl,-,-⟩:=h4.form;obtain ⟨A5,c5,rfl,-,-⟩:=h5.form;clear h0 h1 h2 h3 h4 h5;unfold Z4
 simp only
 generalize Js ⟨tks,Jf,vs⟩ = e1 at *;generalize Z9 ⟨ver,ids⟩ = e2 at *;generalize JI vws = e3 at *;generalize hg : ZG Jf ver 0 gts = e4;have HG:=hH hg;clear hg;generalize hm : gts.length = m at *;have HM:=hH hm;clear hm;generalize hr : (if e1 ≠ 0 then e1 else if e2 ≠ 0 then e2 else if m ≠ 3 then 1 else if e4 ≠ 0 then e4 else e3) = r;have HR:=hH hr;clear hr;unfold sta at KA ⊢;simp only at KA ⊢;go_enter Tryz.func22,Tryz.ntmps22;go_wp2_with fail;(refine gA (K1.out _ Je) fun w1 H1 hz1=>?_;refine Ji w1 w.heap.size fun q1_0 f1_0 l1_0 R1_0=>?_)
 by_cases n1 : e1 = 0
 ·subst n1
  go_wp2_with fail;(refine gA (K2.out _ Je) fun w2 H2 hz2=>?_;refine Ji w2 w.heap.size fun q2_0 f2_0 l2_0 R2_0=>?_)
  by_cases n2 : e2 = 0
  ·subst n2
   by_cases n3 : m = 3
   ·have HQ:=hH (show (if e4 ≠ 0 then e4 else e3) = r by rw [<- HR.out];simp [n3])
    subst n3;have HW:=hH (And.intro trivial ((Je : Ext w w2)));clear q1_0 f1_0 l1_0 R1_0 H1 hz1;go_wp2_with fail
    go_loopg [5,6,26] 3 (fun gg _ _ s26 wr=>∃ k : Nat,k <= 3 /\ 3 - k <= gg /\ s26 = .int .i64 k /\ Aside (Ext w2 wr /\ ZG Jf ver k (gts.drop k) = e4))
    case atStart=>exact ⟨0,by omega,by omega,rfl,Ext.refl _,HG.out⟩
    case round =>
     obtain ⟨k,hk,hg,rfl,HA⟩:=hrel;have HE:=hH HA.out.1;have HC:=hH HA.out.2;clear HA;(refine Ji wr w.heap.size fun qr_0 fr_0 lr_0 Rr_0=>?_)
     by_cases hlt : k < 3
     ·have hkl : k < gts.length:=by rw [HM.out];exact hlt
      have hlt' : (k : Int) < 3:=by omega
      have hc:=HC.out;rw [List.drop_eq_getElem_cons hkl,ckGates_cons] at hc;have HK:=hH (KA.out k _ (List.getElem?_eq_getElem hkl) wr (HW.out.2.trans HE.out));generalize atG Jf ver k gts[k] = a at *;have HH:=hH hc;clear hc hkl
      by_cases ha : a = 0
      ·subst ha
       have HD:=hH (show ZG Jf ver (k + 1) (gts.drop (k + 1)) = e4 by simpa using HH.out);go_wp2_with fail;refine HK.out.mono ?_;(rintro e w3 ⟨rfl,h3⟩;have H3:=hH h3;have hz3:=h3.size;clear h3;(try simp only [lSz] at hz3);refine Ji w3 w.heap.size fun q3_0 f3_0 l3_0 R3_0=>?_);go_wp2_with fail;go_roundg (3 - (k + 1))
       case measure=>omega
       case rel=>exact ⟨k + 1,by omega,by omega,by go_num,(Je : Ext w2 _),HD.out⟩
      ·have ha' : (a == 0) = false:=by simpa using ha
       have HF:=hH (show a = r by have:=HH.out;rw [if_pos ha] at this;rw [<- HQ.out,<- this,if_pos ha]);go_wp2_with fail;refine HK.out.mono ?_;(rintro e w3 ⟨rfl,h3⟩;have H3:=hH h3;have hz3:=h3.size;clear h3;(try simp only [lSz] at hz3);refine Ji w3 w.heap.size fun q3_0 f3_0 l3_0 R3_0=>?_);go_wp2_with fail;go_ret;exact ⟨Jo HF.out,HW.out.2.trans (Je : Ext w2 _)⟩
     ·have hge : ¬ (k : Int) < 3:=by omega
      have HF:=hH (show e3 = r by
       have hd : gts.drop k = []:=List.drop_eq_nil_of_le (by rw [HM.out];omega);have:=HC.out;rw [hd] at this;rw [<- HQ.out,<- this]
       simp [ZG])
      go_wp2_with fail;refine (KV.out _ (HW.out.2.trans HE.out)).mono ?_;(rintro e w3 ⟨rfl,h3⟩;have H3:=hH h3;have hz3:=h3.size;clear h3;(try simp only [lSz] at hz3);refine Ji w3 w.heap.size fun q3_0 f3_0 l3_0 R3_0=>?_);go_wp2_with fail;go_ret;exact ⟨Jo HF.out,HW.out.2.trans (Je : Ext w2 _)⟩
   ·have HQ:=hH (show 1 = r by rw [<- HR.out];simp [n3])
    have n3' : ((m : Int) == 3) = false:=by simpa using (by omega : ¬ (m : Int) = 3)
    go_wp2_with fail;go_ret;exact ⟨Jo HQ.out,(Je : Ext w _)⟩
  ·have HQ:=hH (show e2 = r by rw [<- HR.out];simp [n2])
   have n2' : (e2 == 0) = false:=by simpa using n2
   go_wp2_with fail;go_ret;exact ⟨Jo HQ.out,(Je : Ext w _)⟩
 ·have HQ:=hH (show e1 = r by rw [<- HR.out];simp [n1])
  have n1' : (e1 == 0) = false:=by simpa using n1
  go_wp2_with fail;go_ret;exact ⟨Jo HQ.out,(Je : Ext w _)⟩

def zSt : Array Value:=#[.slice none 0 0,.slice none 0 0,.slice none 0 0,.int .i64 0,.slice none 0 0,.slice none 0 0,.slice none 0 0]
def bldSt : Value -> Value -> Value -> Value
 | .agg ⟨[a,b,c]⟩,.agg ⟨[d,e]⟩,v=>.agg #[a,b,c,d,e,.slice none 0 0,v]
 | _,_,_=>undef
def JO (l : Ld) (d : Dn) (vws : List Vw) (Y : World) (a0 : Act) (bs : List Bool) (a : Act) (w : World) : Prop :=
 ∃ v1 v2 v3 v4 b,a = ((((a0.put (some 8) v1).put (some 11) v2).put (some 14) v3).put (some 15) v4).put (some 3) b /\ Ext Y w /\
  (bs[0]? = some true -> ∃ t0 t1 t2,v1 = .agg #[t0,t1,t2] /\ Jh 34 6 tkc Y.heap.size w t0 l.Jc /\ Jh 57 5 tpc Y.heap.size w t1 l.Jf /\ Jh 3 1 inc Y.heap.size w t2 l.Jd) /\
  (bs[1]? = some true -> ∃ t,v2 = .agg #[.int .i64 d.Jk,t] /\ Jh 3 1 inc Y.heap.size w t d.ids) /\
  (bs[2]? = some true -> Jh 110 3 vwc Y.heap.size w v3 vws) /\
  (bs[3]? = some true -> v4 = bldSt v1 v2 v3 /\ bs[0]? = some true /\ bs[1]? = some true /\ bs[2]? = some true) /\
  (bs[4]? = some true -> ∃ p,b = .pointer (some ⟨p,0,none⟩) /\ Y.heap.size <= p /\ Bx w p 32 zSt)

theorem ckTks_len {l : Ld} (h : Js l = 0) : l.Jc.length <= 12 /\ l.Jf.length <= 60 /\ l.Jf.length = l.Jd.length:=by
 unfold Js at h
 by_cases hc : 12 < l.Jc.length \/ 60 < l.Jf.length \/ l.Jf.length ≠ l.Jd.length
 ·rw [if_pos hc] at h;simp at h
 ·omega
theorem right_fits {l : Ld} (h : Js l = 0) : fitsL l:=by
 obtain ⟨a,b,c⟩:=ckTks_len h;exact ⟨by omega,by omega,by omega⟩

theorem station_Own (s : St) (x : Sv) (w : World) (hr : RdS w x s) (rs : JJ s) :
  Calls Tryz.prog 90 #[.agg (sta s x)] w fun e w'=>∃ x',e = .returned (.agg (sta s x')) /\ Ext w w' /\ JR w.heap.size w' x' s:=by
 have hv3 : s.Jj.length = 3:=((Zr _).1 rs.Jj).1;have K1:=hH (fun w' (h : Ext w w')=>ledger_Own s.Ja x.s0 x.s1 x.s2 w' (hr.tk.ext h) (hr.tp.ext h) (hr.vd.ext h) (right_fits rs.Ja));have K2:=hH (fun w' (h : Ext w w')=>denied_Own s.Jb x.si w' (hr.dn.ext h) (by have:=((XM _).1 rs.Jb).2.1;omega));have K3:=hH (fun w' (h : Ext w w')=>Clone_vw s.Jj x.sv w' (hr.vw.ext h) (by omega))
 have KG:=hH (fun (k : Nat) (g : Gt) (hg : s.Jg[k]? = some g)=>(by
  obtain ⟨hk,rfl⟩:=List.getElem?_eq_some_iff.1 hg;have r:=Zh.1 (rs.Jg k hk).1
  exact ⟨by have:=r.len;omega,by have:=((XM _).1 r.Jb).2.1;omega⟩ : g.Jn.length <= 100 /\ g.Jb.ids.length <= 100))
 have HN:=hH rs.len;have HG:=hH hr.gt;obtain ⟨⟨tks,Jf,vs⟩,⟨ver,ids⟩,gts,vws⟩:=s;obtain ⟨s0,s1,s2,si,sg,sv⟩:=x;obtain ⟨h0,h1,h2,h3,h4,h5⟩:=hr;simp only at h0 h1 h2 h3 h4 h5 K1 K2 K3 KG HN HG hv3;obtain ⟨A0,c0,rfl,-,-⟩:=h0.form;obtain ⟨A1,c1,rfl,-,-⟩:=h1.form;obtain ⟨A2,c2,rfl,-,-⟩:=h2.form;obtain ⟨A3,c3,rfl,-,-⟩:=h3.form;obtain ⟨A4,c4,rfl,hc4,hm4⟩:=h4.form;obtain ⟨A5,c5,rfl,-,-⟩:=h5.form;have HV3:=hH hv3;have HC4:=hH hc4;clear h0 h1 h2 h3 h4 h5 rs hv3 hc4 hm4;unfold sta;go_enter Tryz.func90,Tryz.ntmps90;go_upto_region 1 with fail;(apply ZL (w0:=w) (g0:=w.heap.size) (g1:=w.heap.size + 1);(focus (exact rowA));(focus (exact rowA));(focus (exact Je));intro Y HY hzY Ra_0 Ra_1;(try simp only [Jm,World.size_alloc,size_set,World.heap_drewN,size_drew] at hzY Ra_0 Ra_1);have la_0:=Ra_0.out.size;have la_1:=Ra_1.out.size)
 have hwy : Ext w Y:=by exact Je
 have HWY:=hH (And.intro trivial hwy);have HK:=hH (fun w' (h : Ext Y w')=>(Row.ext h Ra_0.out).2.1);(refine Jw (fun w'=>Ext Y w') 11 (by kernel_rfl) ((Ext.refl _).drew) (fun hS=>?_);simp only [List.length_cons,List.length_nil]);(refine tkA 0 HK hS ?_;refine tkA 1 HK hS ?_;refine tkA 3 HK hS ?_;refine tkA 4 HK hS ?_;refine tkA 6 HK hS ?_;refine tkA 7 HK hS ?_);refine T_phaseA 5 [2,5,8,9,10] (fun p bs=>p != 3 || (bs[0]? == some true && bs[1]? == some true && bs[2]? == some true)) rfl (by kernel_rfl) (by kernel_rfl) (JO ⟨tks,Jf,vs⟩ ⟨ver,ids⟩ vws Y) ?hq0 ?hS ?hj ?hf
 case hq0=>exact ⟨undef,undef,undef,undef,undef,rfl,hS,fun h=>by simp at h,fun h=>by simp at h,fun h=>by simp at h,fun h=>by simp at h,fun h=>by simp at h⟩
 case hS=>rintro bs a w' - ⟨_,_,_,_,_,-,h,-⟩;exact h
 case hj =>
  intro p i bs a W o hnum hbl hbp hdep hJ ho K hK;obtain ⟨v1,v2,v3,v4,b,rfl,hE,h1,h2,h3,h4,h5⟩:=hJ;have hEs:=hE.size
  rcases p with _ | _ | _ | _ | _ | p
  ·have e1:=Option.some.inj hnum
   subst e1;have e2:=Option.some.inj ho;subst e2;simp only [Act.put,Jm];go_simp;refine (K1.out _ (hwy.trans hE)).mono ?_;rintro e w5 ⟨t0,t1,t2,rfl,hx,o⟩;have HX:=hH (hK.out _ _ ⟨.agg #[t0,t1,t2],v2,v3,v4,b,rfl,hE.trans hx,fun _=>⟨t0,t1,t2,rfl,o.tk.lower hEs,o.tp.lower hEs,o.vd.lower hEs⟩,fun h=>(by obtain ⟨t,e,ot⟩:=h2 (by rwa [List.getElem?_set_ne (by decide)] at h);exact ⟨t,e,ot.ext hx⟩),fun h=>(h3 (by rwa [List.getElem?_set_ne (by decide)] at h)).ext hx,fun h=>absurd ((h4 (by rwa [List.getElem?_set_ne (by decide)] at h)).2.1) (by rw [hbp];simp),fun h=>(by obtain ⟨p,e,hp,ob⟩:=h5 (by rwa [List.getElem?_set_ne (by decide)] at h);exact ⟨p,e,hp,ob.ext hx⟩)⟩);clear hx o h1 h2 h3 h4 h5 hK;go_wp2_with fail;exact HX.out
  ·have e1:=Option.some.inj hnum
   subst e1;have e2:=Option.some.inj ho;subst e2;simp only [Act.put,Jm];go_simp;refine (K2.out _ (hwy.trans hE)).mono ?_;rintro e w5 ⟨t,rfl,hx,o⟩;have HX:=hH (hK.out _ _ ⟨v1,.agg #[.int .i64 ver,t],v3,v4,b,rfl,hE.trans hx,fun h=>(by obtain ⟨t0,t1,t2,e,p0,p1,p2⟩:=h1 (by rwa [List.getElem?_set_ne (by decide)] at h);exact ⟨t0,t1,t2,e,p0.ext hx,p1.ext hx,p2.ext hx⟩),fun _=>⟨t,rfl,o.lower hEs⟩,fun h=>(h3 (by rwa [List.getElem?_set_ne (by decide)] at h)).ext hx,fun h=>absurd ((h4 (by rwa [List.getElem?_set_ne (by decide)] at h)).2.2.1) (by rw [hbp];simp),fun h=>(by obtain ⟨p,e,hp,ob⟩:=h5 (by rwa [List.getElem?_set_ne (by decide)] at h);exact ⟨p,e,hp,ob.ext hx⟩)⟩);clear hx o h1 h2 h3 h4 h5 hK;go_wp2_with fail;exact HX.out
  ·have e1:=Option.some.inj hnum
   subst e1;have e2:=Option.some.inj ho;subst e2;simp only [Act.put,Jm];go_simp;refine (K3.out _ (hwy.trans hE)).mono ?_;rintro e w5 ⟨t,rfl,hx,o⟩;have HX:=hH (hK.out _ _ ⟨v1,v2,t,v4,b,rfl,hE.trans hx,fun h=>(by obtain ⟨t0,t1,t2,e,p0,p1,p2⟩:=h1 (by rwa [List.getElem?_set_ne (by decide)] at h);exact ⟨t0,t1,t2,e,p0.ext hx,p1.ext hx,p2.ext hx⟩),fun h=>(by obtain ⟨t,e,ot⟩:=h2 (by rwa [List.getElem?_set_ne (by decide)] at h);exact ⟨t,e,ot.ext hx⟩),fun _=>o.lower hEs,fun h=>absurd ((h4 (by rwa [List.getElem?_set_ne (by decide)] at h)).2.2.2) (by rw [hbp];simp),fun h=>(by obtain ⟨p,e,hp,ob⟩:=h5 (by rwa [List.getElem?_set_ne (by decide)] at h);exact ⟨p,e,hp,ob.ext hx⟩)⟩);clear hx o h1 h2 h3 h4 h5 hK;go_wp2_with fail;exact HX.out
  ·have e1:=Option.some.inj hnum
   subst e1;have e2:=Option.some.inj ho;subst e2
   have hd : bs[0]? = some true /\ bs[1]? = some true /\ bs[2]? = some true:=by simpa [and_assoc] using hdep
   obtain ⟨t0,t1,t2,rfl,o0,o1,o2⟩:=h1 hd.1;obtain ⟨t,rfl,o3⟩:=h2 hd.2.1;have o5:=h3 hd.2.2;obtain ⟨B5,d5,rfl⟩:=o5.form;simp only [Act.put,Jm];go_simp;exact hK.out _ _ ⟨.agg #[t0,t1,t2],.agg #[.int .i64 ver,t],.slice B5 vws.length d5,.agg #[t0,t1,t2,.int .i64 ver,t,.slice none 0 0,.slice B5 vws.length d5],b,rfl,hE,fun _=>⟨t0,t1,t2,rfl,o0,o1,o2⟩,fun _=>⟨t,rfl,o3⟩,fun _=>o5,fun _=>⟨rfl,by rw [List.getElem?_set_ne (by decide)];exact hd.1,by rw [List.getElem?_set_ne (by decide)];exact hd.2.1,by rw [List.getElem?_set_ne (by decide)];exact hd.2.2⟩,fun h=>h5 (by rwa [List.getElem?_set_ne (by decide)] at h)⟩
  ·have e1:=Option.some.inj hnum
   subst e1;have e2:=Option.some.inj ho;subst e2;simp only [Act.put,Jm];go_simp;have hx:=(Ext.refl W).alloc (.cells zSt 32);exact hK.out _ _ ⟨v1,v2,v3,v4,.pointer (some ⟨W.heap.size,0,none⟩),rfl,hE.alloc _,fun h=>(by obtain ⟨t0,t1,t2,e,p0,p1,p2⟩:=h1 (by rwa [List.getElem?_set_ne (by decide)] at h);exact ⟨t0,t1,t2,e,p0.ext hx,p1.ext hx,p2.ext hx⟩),fun h=>(by obtain ⟨t,e,ot⟩:=h2 (by rwa [List.getElem?_set_ne (by decide)] at h);exact ⟨t,e,ot.ext hx⟩),fun h=>(h3 (by rwa [List.getElem?_set_ne (by decide)] at h)).ext hx,fun h=>(by obtain ⟨e,k0,k1,k2⟩:=h4 (by rwa [List.getElem?_set_ne (by decide)] at h);exact ⟨e,by rwa [List.getElem?_set_ne (by decide)],by rwa [List.getElem?_set_ne (by decide)],by rwa [List.getElem?_set_ne (by decide)]⟩),fun _=>⟨W.heap.size,rfl,hEs,Bx.new⟩⟩
  ·cases hnum
 case hf =>
  rintro a Z ⟨v1,v2,v3,v4,b,rfl,hE,h1,h2,h3,h4,h5⟩;obtain ⟨t0,t1,t2,rfl,o0,o1,o2⟩:=h1 rfl;obtain ⟨ti,rfl,o3⟩:=h2 rfl;have o5:=h3 rfl;obtain ⟨p,rfl,hp,xp⟩:=h5 rfl;obtain ⟨rfl,-⟩:=h4 rfl;clear h1 h2 h3 h4 h5;simp only [bldSt];simp only [Act.put,Jm];obtain ⟨B0,d0,rfl⟩:=o0.form;obtain ⟨B1,d1,rfl⟩:=o1.form;obtain ⟨B2,d2,rfl⟩:=o2.form;obtain ⟨B3,d3,rfl⟩:=o3.form;obtain ⟨B5,d5,rfl⟩:=o5.form;have HXP:=hH xp;have r1:=hH xp.row;have HE:=hH hE;have hEs:=hE.size;have hS:=hE;unfold zSt at r1;have q1:=r1.out.2.1;have f1:=r1.out.2.2;have l1:=r1.out.1;clear xp hE;((refine oA 11 fun K hK=>?_;go_simp;refine hK.out _ _ (.inl (by kernel_rfl)) ?_;clear hK;(try simp only [Act.put,Jm])));refine Ju (by kernel_rfl) ?_ _;obtain ⟨V,hV⟩ : ∃ V : World,V = (((((((Z.setCell ⟨p,0,none⟩ (.slice B0 tks.length d0)).setCell ⟨p,1,none⟩ (.slice B1 Jf.length d1)).setCell ⟨p,2,none⟩ (.slice B2 vs.length d2)).setCell ⟨p,3,none⟩ (.int .i64 ver)).setCell ⟨p,4,none⟩ (.slice B3 ids.length d3)).setCell ⟨p,5,none⟩ (.slice none 0 0)).setCell ⟨p,6,none⟩ (.slice B5 vws.length d5)):=⟨_,rfl⟩;rw [<- hV]
  have hfr : Fr (fun q=>q = p) Z V:=by
   rw [hV];exact Fr.Jl rfl (Fr.Jl rfl (Fr.Jl rfl (Fr.Jl rfl (Fr.Jl rfl (Fr.Jl rfl (Fr.Jl rfl (Fr.refl _ _)))))))
  have y1 : Bx V p 32 #[.slice B0 tks.length d0,.slice B1 Jf.length d1,.slice B2 vs.length d2,.int .i64 ver,.slice B3 ids.length d3,.slice none 0 0,.slice B5 vws.length d5]:=by
   rw [hV];exact ((((((HXP.out.set (i:=0)).set (i:=1)).set (i:=2)).set (i:=3)).set (i:=4)).set (i:=5)).set (i:=6)
  have hap : ∀ {α : Type} {e : TypeId} {k : Nat} {enc : α -> Array Value} {v : Value} {m : List α},Jh e k enc Y.heap.size Z v m -> e ≠ 32 -> Jh e k enc Y.heap.size V v m:=by
   intro α e k enc v m h a;refine hfr.own h ?_;rintro q hq rfl;exact h.XH.box HXP.out a hq
  have hYV : Ext Y V:=HE.out.fr hfr (by rintro q rfl;exact hp)
  have hb2 : w.heap.size + 1 + 1 <= Y.heap.size:=by have:=hzY;omega
  have HS:=hH (show JR (w.heap.size + 1 + 1) V ⟨.slice B0 tks.length d0,.slice B1 Jf.length d1,.slice B2 vs.length d2,.slice B3 ids.length d3,.slice none 0 0,.slice B5 vws.length d5⟩ ⟨⟨tks,Jf,vs⟩,⟨ver,ids⟩,gts.take 0,vws⟩ from
   ⟨(hap o0 (by decide)).lower hb2,(hap o1 (by decide)).lower hb2,(hap o2 (by decide)).lower hb2,(hap o3 (by decide)).lower hb2,XW.nil,(hap o5 (by decide)).lower hb2⟩)
  have HP:=hH y1;have HYV:=hH hYV;have lp:=y1.lt;have Ry:=hH y1.row;clear hap y1 hfr o0 o1 o2 o3 o5 hV hYV HXP r1 q1 f1 l1 HE hS hEs HK;(refine Ji V w.heap.size fun qv_0 fv_0 lv_0 Rv_0=>?_;refine Ji V (w.heap.size + 1) fun qv_1 fv_1 lv_1 Rv_1=>?_;refine Ji V p fun qv_2 fv_2 lv_2 Rv_2=>?_);clear Ry;have HWV:=hH (HWY.out.2.trans HYV.out);have R1V:=hH (Row.ext HYV.out Ra_1.out)
  have hne1 : w.heap.size + 1 < p:=by have:=hzY;omega
  clear HYV HWY hwy hzY hb2;obtain ⟨i0,ji,ji0,ji1,ji2⟩:=info_parts info_gt;obtain ⟨sz,hsz⟩ : ∃ z : Array Value,z = zSt:=⟨_,rfl⟩;go_wp2_with fail
  go_loopg [5,19] gts.length (fun gg _ s19 wr=>∃ (k : Nat) (A : Option Addr) (c : Nat),k <= gts.length /\ gts.length - k <= gg /\ s19 = .int .i64 k /\ Aside (Ext w wr /\ Row wr (w.heap.size + 1) zSt /\ Bx wr p 32 #[.slice B0 tks.length d0,.slice B1 Jf.length d1,.slice B2 vs.length d2,.int .i64 ver,.slice B3 ids.length d3,.slice A k c,.slice B5 vws.length d5] /\
   JR (w.heap.size + 1 + 1) wr ⟨.slice B0 tks.length d0,.slice B1 Jf.length d1,.slice B2 vs.length d2,.slice B3 ids.length d3,.slice A k c,.slice B5 vws.length d5⟩ ⟨⟨tks,Jf,vs⟩,⟨ver,ids⟩,gts.take k,vws⟩))
  case atStart=>exact ⟨0,none,0,Nat.zero_le _,by omega,rfl,HWV.out,R1V.out,HP.out,HS.out⟩
  case round =>
   obtain ⟨k,A,c,hk,hg,rfl,HA⟩:=hrel;obtain ⟨he,h1,h2,h3⟩:=HA.out;have HE:=hH he;have R1:=hH h1;have HB:=hH h2;have R2:=hH h2.row;have HS:=hH h3;have hsr:=he.size;clear HA he h1 h2 h3;unfold zSt at R1;(refine Ji wr (w.heap.size + 1) fun qr_0 fr_0 lr_0 Rr_0=>?_;refine Ji wr p fun qr_1 fr_1 lr_1 Rr_1=>?_)
   by_cases hlt : k < gts.length
   ·have hlt' : (k : Int) < (gts.length : Int):=by omega
    have hk3 : k <= 2:=by have:=HN.out;omega
    have hcc:=HC4.out
    have hkc : (k : Int) < (c4 : Int):=by omega
    obtain ⟨b,o,sa,sd,rfl,hb,ra,rd,g0,g1,g2,g3,g4,g5,g6,g7⟩:=(HG.out.ext HE.out).at_ rfl hlt;have HL:=hH (KG.out k _ (List.getElem?_eq_getElem hlt));have HT:=hH (show gts.take (k + 1) = gts.take k ++ [gts[k]] by rw [List.take_add_one,List.getElem?_eq_getElem hlt];rfl);generalize gts[k] = g at *;have HO:=hH (fun w' (h : Ext wr w')=>gate_Own g sa sd w' (ra.ext h) (rd.ext h) HL.out.1 HL.out.2);obtain ⟨A8,c8,rfl,-,-⟩:=ra.form;obtain ⟨A9,c9,rfl,-,-⟩:=rd.form;obtain ⟨x0,x1,x2,al,⟨gv,gi⟩,x6,x7⟩:=g;simp only at g0 g1 g2 g3 g4 g5 g6 g7;unfold gta at HO;simp only at HO;clear ra rd HL hcc;go_upto_region 5 with fail;(apply ZL (w0:=wr) (g0:=wr.heap.size) (g1:=p);(focus (exact rowA));(focus (exact rowA));(focus (exact Je));intro X HX hzX Rx_0 Rx_1;(try simp only [Jm,World.size_alloc,size_set,World.heap_drewN,size_drew] at hzX Rx_0 Rx_1);have lx_0:=Rx_0.out.size;have lx_1:=Rx_1.out.size);have HK:=hH (fun w' (h : Ext X w')=>And.intro (Row.ext h Rx_0.out).2.1 ((Row.ext h Rx_1.out).2.1));(refine Jw (fun w'=>Ext X w') 5 (by kernel_rfl) ((Ext.refl _).drew) (fun hS=>?_);simp only [List.length_cons,List.length_nil]);(refine tkA 0 HK hS ?_;refine tkA 1 HK hS ?_;refine tkA 2 HK hS ?_);(refine oA 3 fun K hK=>?_;go_simp);refine (HO.out _ Je).mono ?_;rintro e w6 ⟨sa',si',rfl,hx,o1,o2,-⟩;obtain ⟨B8,e8,rfl⟩:=o1.form;obtain ⟨B9,e9,rfl⟩:=o2.form;have H6:=hH hx;have hz6:=hx.size;have O1:=hH o1;have O2:=hH o2;clear hx o1 o2 hS;(try simp only [size_drew] at hz6);go_wp2_with fail
    have hS : Ext X w6:=by exact Je
    refine hK.out _ _ (.inr hS) ?_;clear hK;(try simp only [Act.put,Jm]);refine oA 4 fun K hK=>?_;go_simp;refine hK.out _ _ (.inr (hS.alloc _)) ?_;clear hK;(try simp only [Act.put,Jm]);refine oA 5 fun K hK=>?_;obtain ⟨ys,hys,hrow,hin⟩:=HS.out.gt;obtain ⟨A',c',hkl⟩:=hrow.form
    injection hkl with _ hkl _
    have h6 : Ext wr (w6.alloc (.cells #[.int .i64 x0,.int .i64 x1,.int .i64 x2,.slice B8 al.length e8,.int .i64 gv,.slice B9 gi.length e9,.int .i64 x6,.int .i64 x7] 52)):=by exact Je
    have hrow6:=hrow.ext h6;have hlen : k < gts.length:=hlt;have hgl:=HN.out;refine Zc (enc:=gyc) (k:=8) _ (.tmp 24) (.tmp 27) 29 rfl (w.heap.size + 1 + 1) 52 i0 (.agg #[.int .i64 0,.int .i64 0,.int .i64 0,.slice none 0 0,.int .i64 0,.slice none 0 0,.int .i64 0,.int .i64 0]) 96 Tryz.underlying29 ji ji0 ji1 ji2 rfl (by decide) Jz (.slice A k c) ys rfl hrow6 (.slice (some ⟨w6.heap.size,0,none⟩) 1 1) [⟨⟨x0,x1,x2,al,⟨gv,gi⟩,x6,x7⟩,.slice B8 al.length e8,.slice B9 gi.length e9⟩] rfl (RdL.lit (enc:=gyc) ⟨⟨x0,x1,x2,al,⟨gv,gi⟩,x6,x7⟩,.slice B8 al.length e8,.slice B9 gi.length e9⟩ rfl rfl) (gate_oneC _ _ _ _ _ _ _) (by unfold maxLen;simp only [List.length_singleton];omega) (by simp only [List.length_singleton];omega) (by have:=h6.size;have:=HE.out.size;have:=R1.out.1;omega) ?_;intro v' w7 ho hg7 hn7;have hfr:=row_fr hg7
    have hoff : ∀ q,(Value.slice A k c).ownBlock = some q -> ∃ e2 cs,Bx (w6.alloc (.cells #[.int .i64 x0,.int .i64 x1,.int .i64 x2,.slice B8 al.length e8,.int .i64 gv,.slice B9 gi.length e9,.int .i64 x6,.int .i64 x7] 52)) q e2 cs /\ e2 ∉ spK:=fun q hq=>by
     obtain ⟨cs,hb⟩:=hrow6.bx q hq;exact ⟨_,cs,hb,by decide⟩
    have hlow:=fun q hq=>(hrow6.lt q hq).1;obtain ⟨A7,c7,rfl⟩:=ho.form
    have hl7 : (ys ++ [(⟨⟨x0,x1,x2,al,⟨gv,gi⟩,x6,x7⟩,.slice B8 al.length e8,.slice B9 gi.length e9⟩ : Gy)]).length = k + 1:=by rw [List.length_append,<- hkl];rfl
    rw [hl7] at ho ⊢
    have hin7 : ∀ y ∈ ys ++ [(⟨⟨x0,x1,x2,al,⟨gv,gi⟩,x6,x7⟩,.slice B8 al.length e8,.slice B9 gi.length e9⟩ : Gy)],GyO (w.heap.size + 1 + 1) w7 y:=by
     intro y hy
     rcases List.mem_append.1 hy with hy | hy
     ·exact ((hin y hy).ext h6).keep hfr hoff
     ·obtain rfl:=List.mem_singleton.1 hy
      refine GyO.keep (w:=w6.alloc _) ⟨(O1.out.alloc _).lower ?_,(O2.out.alloc _).lower ?_⟩ hfr hoff
      all_goals (have h1:=hsr;have h2:=R1.out.1;(try simp only [size_drew]);have h3:=lx_0;omega)
    have hS7:=(HS.out.ext h6).keepG hfr hoff (XW.of ho hin7)
    have hgs : (ys ++ [(⟨⟨x0,x1,x2,al,⟨gv,gi⟩,x6,x7⟩,.slice B8 al.length e8,.slice B9 gi.length e9⟩ : Gy)]).map (·.g) = gts.take (k + 1):=by
     rw [HT.out,List.map_append,<- hys];rfl
    rw [hgs] at hS7;have hE7 : Ext wr w7 \/ True:=.inr trivial;have hW7 : Ext w w7:=Ext.grown (HE.out.trans h6) hg7 (fun q hq=>by have:=hlow q hq;omega);have hB7:=(HB.out.ext h6).fr hfr (fun hq=>by obtain ⟨e2,cs,hb,hn⟩:=hoff p hq;have h:=HB.out.ext h6;unfold Bx at h hb;rw [h] at hb;obtain ⟨h1,h2⟩:=hrow6.bx p hq;unfold Bx at h2;rw [h] at h2;simp at h2);have hR7:=hfr.row (fun hq=>by have:=hlow _ hq;omega) (Row.ext h6 R1.out);have HS7:=hH hS7;have HW7:=hH hW7;have HB7:=hH hB7;have HR7:=hH hR7;have Rp7:=hH hB7.row;have qp:=hB7.row.2.1;have fp:=hB7.row.2.2;have lp7:=hB7.lt;clear hS7 hW7 hB7 hR7 hgs hin7 hl7 hlow hoff hfr hE7 ho hg7 hn7 h6 hrow6 hrow hin hys hkl hS hgl hlen;refine hK.out _ _ (.inl (by kernel_rfl)) ?_;clear hK;(try simp only [Act.put,Jm]);((refine oA 6 fun K hK=>?_;go_simp;refine hK.out _ _ (.inl (by kernel_rfl)) ?_;clear hK;(try simp only [Act.put,Jm])));(refine oA 7 fun K hK=>?_;go_simp;refine hK.out _ _ (.inl (by kernel_rfl)) ?_;clear hK;(try simp only [Act.put,Jm]);refine Ju (by kernel_rfl) ?_ _);go_wp2_with fail;go_roundg (gts.length - (k + 1))
    case measure=>omega
    case rel =>
     refine ⟨k + 1,A7,c7,by omega,by omega,by go_num,HW7.out.setCell (show w.heap.size <= p by omega) _,Row.far (p:=⟨p,5,none⟩) (show w.heap.size + 1 ≠ p by omega) HR7.out,HB7.out.set (i:=5),?_⟩;exact HS7.out.keep (Fr.Jl (a:=⟨p,5,none⟩) (own:=fun q=>q = p) rfl (Fr.refl _ _)) (by rintro q rfl;exact ⟨_,_,HB7.out,by decide⟩)
   ·have hge : ¬ (k : Int) < (gts.length : Int):=by omega
    obtain rfl : k = gts.length:=by omega
    have HQ:=hH (show JR (w.heap.size + 1 + 1) wr ⟨.slice B0 tks.length d0,.slice B1 Jf.length d1,.slice B2 vs.length d2,.slice B3 ids.length d3,.slice A gts.length c,.slice B5 vws.length d5⟩ ⟨⟨tks,Jf,vs⟩,⟨ver,ids⟩,gts,vws⟩ from by have:=HS.out;rwa [List.take_length] at this);go_wp2_with fail;refine bodyPost_ret (v:=.agg #[.slice B0 tks.length d0,.slice B1 Jf.length d1,.slice B2 vs.length d2,.int .i64 ver,.slice B3 ids.length d3,.slice A gts.length c,.slice B5 vws.length d5]) (by simp [results,Tryz.results90,go_sem, *]) rfl ⟨⟨.slice B0 tks.length d0,.slice B1 Jf.length d1,.slice B2 vs.length d2,.slice B3 ids.length d3,.slice A gts.length c,.slice B5 vws.length d5⟩,rfl,?_,?_⟩
    ·repeat (refine Ext.setCell ?_ (by simp) _)
     exact HE.out
    ·refine JR.lower (base:=w.heap.size + 1 + 1) ?_ (by omega)
     repeat (refine JR.Jl (by simp) ?_)
     exact HQ.out

structure Kp (base : Nat) (w : World) (p : Nat) (y : Sv) (s : St) : Prop where
 box : Bx w p 133 (sta s y)
 ge : base <= p
 own : JR base w y s
theorem Kp.ext {base p : Nat} {w w' : World} {y : Sv} {s : St} (h : Kp base w p y s) (he : Ext w w') : Kp base w' p y s:=⟨h.box.ext he,h.ge,h.own.ext he⟩
theorem any_has (l : List Int) (n : Int) : l.any (fun x=>n == x) = l.contains n:=by rw [List.contains_eq_any_beq]

theorem keeper_led (s : St) (y : Sv) (p : Nat) (w : World) (hp : Row w p (sta s y)) (hr : RdL 3 vwc w y.sv s.Jj) (hv : JI s.Jj = 0) :
  Calls Tryz.prog 100 #[.pointer (some ⟨p,0,none⟩)] w fun e w'=>e = .returned (.bool (led s)) /\ Ext w w':=by
 have K1:=hH (fun w' (h : Ext w w')=>lead_Who s.Jj y.sv w' (hr.ext h) hv);obtain ⟨A,c,hA,-,-⟩:=hr.form;unfold led;generalize whoV s.Jj = r at *;obtain ⟨r1,r2⟩:=r;unfold sta at hp
 apply Row.use hp;intro q f l R
 rw [hA] at K1 q R;clear hp hr hv hA;go_enter Tryz.func100,Tryz.ntmps100;go_wp2_with fail;(refine gA (K1.out _ Je) fun w1 H1 hz1=>?_);go_wp2_with fail;go_ret;exact ⟨rfl,(Je : Ext w _)⟩
theorem Kp.Ja {base p b2 : Nat} {w : World} {y : Sv} {s : St} {D0 D1 D2 : Value} {L : Ld} (hk : Kp base w p y s) (ho : JL b2 w D0 D1 D2 L) (hb : base <= b2) :
  Kp base (((w.setCell ⟨p,0,none⟩ D0).setCell ⟨p,1,none⟩ D1).setCell ⟨p,2,none⟩ D2) p ⟨D0,D1,D2,y.si,y.sg,y.sv⟩ ⟨L,s.Jb,s.Jg,s.Jj⟩:=by
 have hf : Fr (fun q=>q = p) w (((w.setCell ⟨p,0,none⟩ D0).setCell ⟨p,1,none⟩ D1).setCell ⟨p,2,none⟩ D2):=Fr.Jl rfl (Fr.Jl rfl (Fr.Jl rfl (Fr.refl _ _)))
 have hp : ∀ q,(fun q=>q = p) q -> ∃ e2 cs,Bx w q e2 cs /\ e2 ∉ spT:=by rintro q rfl;exact ⟨_,_,hk.box,by decide⟩
 have hk2 : ∀ q,(fun q=>q = p) q -> ∃ e2 cs,Bx w q e2 cs /\ e2 ∉ spK:=by rintro q rfl;exact ⟨_,_,hk.box,by decide⟩
 have h:=hk.own.keep hf hp;exact ⟨((hk.box.set (i:=0)).set (i:=1)).set (i:=2),hk.ge,⟨(ho.tk.Zy hf (offK hk2 (by decide))).lower hb,(ho.tp.Zy hf (offK hk2 (by decide))).lower hb,(ho.vd.Zy hf (offK hk2 (by decide))).lower hb,h.dn,h.gt,h.vw⟩⟩
theorem Kp.Jb {base p b2 : Nat} {w : World} {y : Sv} {s : St} {D : Value} {d : Dn} (hk : Kp base w p y s) (ho : Jh 3 1 inc b2 w D d.ids) (hb : base <= b2) :
  Kp base ((w.setCell ⟨p,3,none⟩ (.int .i64 d.Jk)).setCell ⟨p,4,none⟩ D) p ⟨y.s0,y.s1,y.s2,D,y.sg,y.sv⟩ ⟨s.Ja,d,s.Jg,s.Jj⟩:=by
 have hf : Fr (fun q=>q = p) w ((w.setCell ⟨p,3,none⟩ (.int .i64 d.Jk)).setCell ⟨p,4,none⟩ D):=Fr.Jl rfl (Fr.Jl rfl (Fr.refl _ _))
 have hp : ∀ q,(fun q=>q = p) q -> ∃ e2 cs,Bx w q e2 cs /\ e2 ∉ spT:=by rintro q rfl;exact ⟨_,_,hk.box,by decide⟩
 have hk2 : ∀ q,(fun q=>q = p) q -> ∃ e2 cs,Bx w q e2 cs /\ e2 ∉ spK:=by rintro q rfl;exact ⟨_,_,hk.box,by decide⟩
 have h:=hk.own.keep hf hp;exact ⟨(hk.box.set (i:=3)).set (i:=4),hk.ge,⟨h.tk,h.tp,h.vd,(ho.Zy hf (offK hk2 (by decide))).lower hb,h.gt,h.vw⟩⟩
theorem Kp.Jg {base p gb m c n : Nat} {w w' : World} {y : Sv} {s : St} (f : Gy -> Gy) (hk : Kp base w p y s) (hsg : y.sg = .slice (some ⟨gb,0,none⟩) m c) (hn : n < s.Jg.length) (hf : Fr (fun q=>q = gb) w w')
  (hput : ∀ ys : List Gy,Jh 52 8 gyc base w (.slice (some ⟨gb,0,none⟩) m c) ys -> ∀ h : n < ys.length,Jh 52 8 gyc base w' (.slice (some ⟨gb,0,none⟩) m c) (ys.set n (f ys[n])))
  (hgy : ∀ x,x.g = s.Jg[n] -> GyO base w x -> GyO base w' (f x)) (g : Gt) (hg : ∀ x,x.g = s.Jg[n] -> (f x).g = g) : Kp base w' p y ⟨s.Ja,s.Jb,s.Jg.set n g,s.Jj⟩:=by
 obtain ⟨ys,hys,hrow,hin⟩:=hk.own.gt;rw [hsg] at hrow
 have hn' : n < ys.length:=by rw [hys] at hn;simpa using hn
 have hgg : ys[n].g = s.Jg[n]:=by simp [hys]
 obtain ⟨cs,hbx⟩:=hrow.bx gb rfl
 have hk2 : ∀ q,(fun q=>q = gb) q -> ∃ e2 cs,Bx w q e2 cs /\ e2 ∉ spK:=by rintro q rfl;exact ⟨_,_,hbx,by decide⟩
 have hne : ¬ (fun q=>q = gb) p:=by
  intro h;have h2:=hk.box;have h3 : p = gb:=h;rw [h3] at h2;unfold Bx at h2 hbx;rw [h2] at hbx
  simp at hbx
 have hset : (ys.set n (f ys[n])).map (·.g) = s.Jg.set n g:=by rw [List.map_set,hg _ hgg,<- hys]
 have hG : XW base w' y.sg (s.Jg.set n g):=by
  rw [hsg,<- hset];refine XW.of (hput ys hrow hn') (fun x hx=>?_)
  rcases List.mem_or_eq_of_mem_set hx with hx | rfl
  ·exact (hin x hx).keep hf hk2
  ·exact hgy _ hgg (hin _ (List.getElem_mem hn'))
 exact ⟨hk.box.fr hf hne,hk.ge,hk.own.keepG hf hk2 hG⟩
theorem Kp.seq {base p gb m c n : Nat} {w : World} {y : Sv} {s : St} (hk : Kp base w p y s) (hsg : y.sg = .slice (some ⟨gb,0,none⟩) m c) (hn : n < s.Jg.length) (z : Int) :
  Kp base (w.setCell ⟨gb,n * 8 + 2,none⟩ (.int .i64 z)) p y ⟨s.Ja,s.Jb,s.Jg.set n ⟨s.Jg[n].id,s.Jg[n].zone,z,s.Jg[n].Jn,s.Jg[n].Jb,s.Jg[n].left,s.Jg[n].JP⟩,s.Jj⟩:=by
 have hrb:=hk.own.gt;refine hk.Jg (fun x=>⟨⟨x.g.id,x.g.zone,z,x.g.Jn,x.g.Jb,x.g.left,x.g.JP⟩,x.sa,x.si⟩) hsg hn (Fr.Jl (a:=⟨gb,n * 8 + 2,none⟩) rfl (Fr.refl _ _)) (fun ys h hl=>Jh.JW Jz h n 2 hl (by decide) _ _ rfl) (fun x hx h=>?_) _ (fun x hx=>by rw [hx]);obtain ⟨ys,-,hrow,-⟩:=hk.own.gt;rw [hsg] at hrow;obtain ⟨cs,hbx⟩:=hrow.bx gb rfl;exact h.keep (y:=x) (Fr.Jl (a:=⟨gb,n * 8 + 2,none⟩) (own:=fun q=>q = gb) rfl (Fr.refl _ _)) (by rintro q rfl;exact ⟨_,_,hbx,by decide⟩)

theorem Bx.newAt {w : World} {p : Nat} {e : TypeId} {cs : Array Value} (hg : p = w.heap.size) : Bx (w.alloc (.cells cs e)) p e cs:=by subst hg;exact Bx.new
theorem station_with (fg : Nat) (lb : Array Value) (eg : ∀ args w,(callFunc fg args).run Tryz.prog w = .ok (.enter fg args) w) (s : St) (x : Sv) (w : World) (hr : RdS w x s) (rs : JJ s) (s' : St) (ec : Int) (vb : Nat -> Prop) (hvb : ∀ q,vb q -> q < w.heap.size) (P : World -> Prop)
  (hP : ∀ W W' q cs,Bx W q 32 cs -> w.heap.size <= q -> Fr (fun z=>z = q) W W' -> P W -> P W')
  (hdo : ∀ (b : Nat) (W : World) (p : Nat) (y : Sv),Ext w W -> w.heap.size + 1 < b -> Kp b W p y s -> Calls Tryz.prog fg (#[.pointer (some ⟨p,0,none⟩)] ++ lb) W fun e W'=>e = .returned (.int .i64 ec) /\ Fr (fun q=>b <= q \/ vb q) W W' /\ P W' /\ ∃ y',Kp b W' p y' s') :
  Calls Tryz.prog 98 #[.agg (sta s x),.func (.func fg) #[] lb] w fun e w'=>∃ x',e = .returned (.tuple #[.agg (sta (if ec ≠ 0 then st0 else s') x'),.int .i64 ec]) /\ Fr (fun q=>w.heap.size <= q \/ vb q) w w' /\ P w' /\ JR w.heap.size w' x' (if ec ≠ 0 then st0 else s'):=by
 have KO:=hH (fun w' (h : Ext w w')=>station_Own s x w' (hr.ext h) rs);have HD:=hH hdo;have HPP:=hH hP;have HVB:=hH hvb;obtain ⟨A0,c0,e0,-,-⟩:=hr.tk.form;obtain ⟨A1,c1,e1,-,-⟩:=hr.tp.form;obtain ⟨A2,c2,e2,-,-⟩:=hr.vd.form;obtain ⟨A3,c3,e3,-,-⟩:=hr.dn.form;obtain ⟨A4,c4,e4,-,-⟩:=hr.gt.form;obtain ⟨A5,c5,e5,-,-⟩:=hr.vw.form;obtain ⟨s0,s1,s2,si,sg,sv⟩:=x;simp only at e0 e1 e2 e3 e4 e5;subst e0 e1 e2 e3 e4 e5;clear hr rs hdo hP hvb;obtain ⟨rs',hrs⟩ : ∃ z,z = (if ec ≠ 0 then st0 else s'):=⟨_,rfl⟩;rw [<- hrs];have HRS:=hH hrs;clear hrs;unfold sta at KO ⊢;simp only at KO ⊢;go_enter Tryz.func98,Tryz.ntmps98;go_wp2_with fail;refine (KO.out _ Je).mono ?_;rintro e w1 ⟨⟨t0,t1,t2,ti,tg,tv⟩,rfl,h1,ho⟩;(try simp only [World.size_alloc] at ho);obtain ⟨B0,d0,e0⟩:=ho.tk.form;obtain ⟨B1,d1,e1⟩:=ho.tp.form;obtain ⟨B2,d2,e2⟩:=ho.vd.form;obtain ⟨B3,d3,e3⟩:=ho.dn.form;obtain ⟨B4,d4,e4⟩:=ho.gt.form;obtain ⟨B5,d5,e5⟩:=ho.vw.form;simp only at e0 e1 e2 e3 e4 e5;subst e0 e1 e2 e3 e4 e5;have H1:=hH h1;have hz1:=h1.size;have HO:=hH ho;clear h1 ho;(try simp only [World.size_alloc] at hz1);(refine Ji w1 (w.heap.size + 1) fun q1_0 f1_0 l1_0 R1_0=>?_)
 have hE1 : Ext w w1:=by exact Je
 have HE1:=hH (And.intro trivial hE1);have HB1:=hH (show Bx w1 (w.heap.size + 1) 32 #[.slice none 0 0,.slice none 0 0,.slice none 0 0,.int .i64 0,.slice none 0 0,.slice none 0 0,.slice none 0 0] from Bx.ext (Bx.newAt (by simp)) H1.out);clear hE1;have HKP:=hH (show Kp (w.heap.size + 1 + 1) (w1.alloc (.cells #[.slice B0 s.Ja.Jc.length d0,.slice B1 s.Ja.Jf.length d1,.slice B2 s.Ja.Jd.length d2,.int .i64 s.Jb.Jk,.slice B3 s.Jb.ids.length d3,.slice B4 s.Jg.length d4,.slice B5 s.Jj.length d5] 133)) w1.heap.size ⟨.slice B0 s.Ja.Jc.length d0,.slice B1 s.Ja.Jf.length d1,.slice B2 s.Ja.Jd.length d2,.slice B3 s.Jb.ids.length d3,.slice B4 s.Jg.length d4,.slice B5 s.Jj.length d5⟩ s from ⟨Bx.new,hz1,HO.out.ext ((Ext.refl _).alloc _)⟩);have HPL:=hH (hH trivial)
 by_cases h4 : ec = 0
 ·subst h4
  have hrs:=HRS.out;rw [if_neg (by simp)] at hrs;subst hrs
  go_wp2_with (go_at_fn fg;refine (HD.out _ _ _ _ (HE1.out.2.alloc _) (by omega) HKP.out).mono ?_;rintro e w2 ⟨rfl,hf2,hp2,y',hk2⟩;have hb2:=(HB1.out.alloc (.cells #[.slice B0 s.Ja.Jc.length d0,.slice B1 s.Ja.Jf.length d1,.slice B2 s.Ja.Jd.length d2,.int .i64 s.Jb.Jk,.slice B3 s.Jb.ids.length d3,.slice B4 s.Jg.length d4,.slice B5 s.Jj.length d5] 133)).fr hf2 (by rintro (h | h);omega;have:=HVB.out _ h;omega);have hrq:=hb2.row.2.1;have hrf:=hb2.row.2.2;have hrl:=hb2.lt;have HB2:=hH hb2;have HF2:=hH hf2;have HP2:=hH hp2;have HK2:=hH hk2;clear hb2 hf2 hp2;obtain ⟨C0,j0,e0⟩:=hk2.own.tk.form;obtain ⟨C1,j1,e1⟩:=hk2.own.tp.form;obtain ⟨C2,j2,e2⟩:=hk2.own.vd.form;obtain ⟨C3,j3,e3⟩:=hk2.own.dn.form;obtain ⟨C4,j4,e4⟩:=hk2.own.gt.form;obtain ⟨C5,j5,e5⟩:=hk2.own.vw.form;obtain ⟨y0,y1,y2,yi,yg,yv⟩:=y';simp only at e0 e1 e2 e3 e4 e5;subst e0 e1 e2 e3 e4 e5;have RK:=hH hk2.box.row;unfold sta at RK;simp only at RK;have qk:=RK.out.2.1;have fk:=RK.out.2.2;have lk:=RK.out.1;clear hk2)
  refine bodyPost_ret (v:=.tuple #[.agg #[.slice C0 rs'.Ja.Jc.length j0,.slice C1 rs'.Ja.Jf.length j1,.slice C2 rs'.Ja.Jd.length j2,.int .i64 rs'.Jb.Jk,.slice C3 rs'.Jb.ids.length j3,.slice C4 rs'.Jg.length j4,.slice C5 rs'.Jj.length j5],.int .i64 0]) (by simp [results,Tryz.results98,go_sem, *]) rfl ⟨⟨.slice C0 rs'.Ja.Jc.length j0,.slice C1 rs'.Ja.Jf.length j1,.slice C2 rs'.Ja.Jd.length j2,.slice C3 rs'.Jb.ids.length j3,.slice C4 rs'.Jg.length j4,.slice C5 rs'.Jj.length j5⟩,rfl,?_,?_,?_⟩
  ·exact Fr.Jl (.inl (by simp)) (Fr.Jl (.inl (by simp)) (Fr.Jl (.inl (by simp)) (Fr.Jl (.inl (by simp)) (Fr.Jl (.inl (by simp)) (Fr.Jl (.inl (by simp)) (Fr.Jl (.inl (by simp)) (Fr.trans (Fr.ZY (HE1.out.2.alloc _)) (HF2.out.weaken (fun q h=>h.imp (fun h=>by omega) id)))))))))
  ·exact HPP.out w2 _ (w.heap.size + 1) _ HB2.out (by omega) (Fr.Jl rfl (Fr.Jl rfl (Fr.Jl rfl (Fr.Jl rfl (Fr.Jl rfl (Fr.Jl rfl (Fr.Jl rfl (Fr.refl _ _)))))))) HP2.out
  ·exact (HK2.out.own.keep (own:=fun z=>z = w.heap.size + 1) (Fr.Jl rfl (Fr.Jl rfl (Fr.Jl rfl (Fr.Jl rfl (Fr.Jl rfl (Fr.Jl rfl (Fr.Jl rfl (Fr.refl _ _)))))))) (by rintro q rfl;exact ⟨_,_,HB2.out,by decide⟩)).lower (by omega)
 ·have hrs:=HRS.out
  rw [if_pos h4] at hrs;subst hrs
  have h4b : (ec == 0) = false:=by simpa using h4
  clear HRS
  go_wp2_with (go_at_fn fg;refine (HD.out _ _ _ _ (HE1.out.2.alloc _) (by omega) HKP.out).mono ?_;rintro e w2 ⟨rfl,hf2,hp2,y',hk2⟩;have hb2:=(HB1.out.alloc (.cells #[.slice B0 s.Ja.Jc.length d0,.slice B1 s.Ja.Jf.length d1,.slice B2 s.Ja.Jd.length d2,.int .i64 s.Jb.Jk,.slice B3 s.Jb.ids.length d3,.slice B4 s.Jg.length d4,.slice B5 s.Jj.length d5] 133)).fr hf2 (by rintro (h | h);omega;have:=HVB.out _ h;omega);have hrq:=hb2.row.2.1;have hrf:=hb2.row.2.2;have hrl:=hb2.lt;have HB2:=hH hb2;have HF2:=hH hf2;have HP2:=hH hp2;have HK2:=hH hk2;clear hb2 hf2 hp2;clear hk2)
  refine bodyPost_ret (v:=.tuple #[.agg #[.slice none 0 0,.slice none 0 0,.slice none 0 0,.int .i64 0,.slice none 0 0,.slice none 0 0,.slice none 0 0],.int .i64 ec]) (by simp [results,Tryz.results98,go_sem, *]) rfl ⟨sv0,rfl,?_,?_,JR.nil⟩
  ·exact Fr.Jl (.inl (by simp)) (Fr.Jl (.inl (by simp)) (Fr.Jl (.inl (by simp)) (Fr.Jl (.inl (by simp)) (Fr.Jl (.inl (by simp)) (Fr.Jl (.inl (by simp)) (Fr.Jl (.inl (by simp)) (Fr.trans (Fr.ZY (HE1.out.2.alloc _)) (HF2.out.weaken (fun q h=>h.imp (fun h=>by omega) id)))))))))
  ·exact HPP.out w2 _ (w.heap.size + 1) _ HB2.out (by omega) (Fr.Jl rfl (Fr.Jl rfl (Fr.Jl rfl (Fr.Jl rfl (Fr.Jl rfl (Fr.Jl rfl (Fr.Jl rfl (Fr.refl _ _)))))))) HP2.out

def hallV : List Vw:=[⟨1,0,true⟩,⟨1,0,true⟩,⟨1,0,true⟩]
def hallS : St:=⟨⟨[single 1],[],[]⟩,dn0,[newG 0 1,newG 1 2,newG 2 4],hallV⟩
theorem law_hall (w : World) :
  Calls Tryz.prog 67 #[] w fun e w'=>∃ x,e = .returned (.agg (sta hallS x)) /\ Ext w w' /\ JR w.heap.size w' x hallS:=by
 go_enter Tryz.func67,Tryz.ntmps67;go_wp2_with fail;refine (ref_NewStation _).mono ?_;rintro e w1 ⟨⟨t0,t1,t2,ti,tg,tv⟩,rfl,h1,ho⟩;obtain ⟨B0,d0,e0⟩:=ho.tk.form;obtain ⟨B1,d1,e1⟩:=ho.tp.form;obtain ⟨B2,d2,e2⟩:=ho.vd.form;obtain ⟨B3,d3,e3⟩:=ho.dn.form;obtain ⟨B4,d4,e4⟩:=ho.gt.form;obtain ⟨B5,d5,e5⟩:=ho.vw.form;simp only at e0 e1 e2 e3 e4 e5;subst e0 e1 e2 e3 e4 e5;have H1:=hH h1;have hz1:=h1.size;have HO:=hH ho;clear h1 ho;(try simp only [World.size_alloc] at hz1 HO);unfold sta;simp only [newS,ld0,dn0,List.length_cons,List.length_nil];simp only [newS,ld0,dn0,List.length_cons,List.length_nil] at HO;(refine Ji w1 w.heap.size fun q1_0 f1_0 l1_0 R1_0=>?_);have HB0:=hH (show Bx w1 w.heap.size 32 #[.slice none 0 0,.slice none 0 0,.slice none 0 0,.int .i64 0,.slice none 0 0,.slice none 0 0,.slice none 0 0] from Bx.ext (Bx.newAt rfl) H1.out);go_wp2_with fail;refine (law_single 1 _).mono ?_;rintro e w2 ⟨rfl,h2⟩
 have HV2:=hH (show Jh 110 3 vwc (w.heap.size + 1) w2 (.slice (some ⟨w1.heap.size + 1,0,none⟩) 3 3) hallV by
  refine Jh.ext (w:=_) ?_ h2
  exact own_lit (by simp) (by simp;omega) rfl (by unfold maxLen;omega) rfl rfl)
 have HB1:=hH (show Bx w2 w1.heap.size 32 _ from Bx.ext (Bx.alloc (Bx.newAt rfl) _) h2);have H2:=hH h2;have hz2:=h2.size;have HE:=hH (And.intro trivial (show Ext w1 w2 from (((Ext.refl _).alloc _).alloc _).trans h2));clear h2;(try simp only [World.size_alloc] at hz2);rw [show tkc (single 1) = #[.int .i64 1,.int .i64 1,.int .i64 10,.int .i64 500,.int .i64 15,.int .i64 0] from rfl];(refine Ji w2 w.heap.size fun q2_0 f2_0 l2_0 R2_0=>?_;refine Ji w2 w1.heap.size fun q2_1 f2_1 l2_1 R2_1=>?_);go_wp2_with fail
 have HF:=hH (show JR (w.heap.size + 1) w2 ⟨.slice none 0 0,.slice B1 0 d1,.slice B2 0 d2,.slice B3 0 d3,.slice B4 3 d4,.slice (some ⟨w1.heap.size + 1,0,none⟩) 3 3⟩ ⟨⟨[],[],[]⟩,dn0,[newG 0 1,newG 1 2,newG 2 4],hallV⟩ from
  ⟨Jh.nil,HO.out.tp.ext HE.out.2,HO.out.vd.ext HE.out.2,HO.out.dn.ext HE.out.2,HO.out.gt.ext HE.out.2,HV2.out⟩)
 have hk:=HF.out.keep (own:=fun q=>q = w.heap.size \/ q = w1.heap.size) (w':=((((((((w2.setCell ⟨w1.heap.size,0,none⟩ (.slice (some ⟨w2.heap.size,0,none⟩) 1 1)).setCell ⟨w.heap.size,0,none⟩ (.slice (some ⟨w2.heap.size,0,none⟩) 1 1)).setCell ⟨w.heap.size,1,none⟩ (.slice B1 0 d1)).setCell ⟨w.heap.size,2,none⟩ (.slice B2 0 d2)).setCell ⟨w.heap.size,3,none⟩ (.int .i64 0)).setCell ⟨w.heap.size,4,none⟩ (.slice B3 0 d3)).setCell ⟨w.heap.size,5,none⟩ (.slice B4 3 d4)).setCell ⟨w.heap.size,6,none⟩ (.slice (some ⟨w1.heap.size + 1,0,none⟩) 3 3))) (by
   repeat (refine Fr.Jl (by first | exact .inl rfl | exact .inr rfl) ?_)
   exact Fr.refl _ _) (by
  rintro q (rfl | rfl)
  ·exact ⟨_,_,(HB0.out.ext HE.out.2),by decide⟩
  ·exact ⟨_,_,HB1.out,by decide⟩)
 have hlit : Jh 34 6 tkc (w.heap.size + 1) (((((((((w2.setCell ⟨w1.heap.size,0,none⟩ (.slice (some ⟨w2.heap.size,0,none⟩) 1 1)).setCell ⟨w.heap.size,0,none⟩ (.slice (some ⟨w2.heap.size,0,none⟩) 1 1)).setCell ⟨w.heap.size,1,none⟩ (.slice B1 0 d1)).setCell ⟨w.heap.size,2,none⟩ (.slice B2 0 d2)).setCell ⟨w.heap.size,3,none⟩ (.int .i64 0)).setCell ⟨w.heap.size,4,none⟩ (.slice B3 0 d3)).setCell ⟨w.heap.size,5,none⟩ (.slice B4 3 d4)).setCell ⟨w.heap.size,6,none⟩ (.slice (some ⟨w1.heap.size + 1,0,none⟩) 3 3)).alloc (.cells #[.int .i64 1,.int .i64 1,.int .i64 10,.int .i64 500,.int .i64 15,.int .i64 0] 34)) (.slice (some ⟨w2.heap.size,0,none⟩) 1 1) [single 1]:=own_lit (by simp only [size_set]) (by simp only [size_set];omega) rfl (by unfold maxLen;omega) rfl rfl;have hfin : JR (w.heap.size + 1) (((((((((w2.setCell ⟨w1.heap.size,0,none⟩ (.slice (some ⟨w2.heap.size,0,none⟩) 1 1)).setCell ⟨w.heap.size,0,none⟩ (.slice (some ⟨w2.heap.size,0,none⟩) 1 1)).setCell ⟨w.heap.size,1,none⟩ (.slice B1 0 d1)).setCell ⟨w.heap.size,2,none⟩ (.slice B2 0 d2)).setCell ⟨w.heap.size,3,none⟩ (.int .i64 0)).setCell ⟨w.heap.size,4,none⟩ (.slice B3 0 d3)).setCell ⟨w.heap.size,5,none⟩ (.slice B4 3 d4)).setCell ⟨w.heap.size,6,none⟩ (.slice (some ⟨w1.heap.size + 1,0,none⟩) 3 3)).alloc (.cells #[.int .i64 1,.int .i64 1,.int .i64 10,.int .i64 500,.int .i64 15,.int .i64 0] 34)) ⟨.slice (some ⟨w2.heap.size,0,none⟩) 1 1,.slice B1 0 d1,.slice B2 0 d2,.slice B3 0 d3,.slice B4 3 d4,.slice (some ⟨w1.heap.size + 1,0,none⟩) 3 3⟩ hallS:=⟨hlit,hk.tp.alloc _,hk.vd.alloc _,hk.dn.alloc _,hk.gt.ext ((Ext.refl _).alloc _),hk.vw.alloc _⟩;exact bodyPost_ret (v:=.agg #[.slice (some ⟨w2.heap.size,0,none⟩) 1 1,.slice B1 0 d1,.slice B2 0 d2,.int .i64 0,.slice B3 0 d3,.slice B4 3 d4,.slice (some ⟨w1.heap.size + 1,0,none⟩) 3 3]) (by simp [results,Tryz.results67,go_sem, *]) rfl ⟨⟨.slice (some ⟨w2.heap.size,0,none⟩) 1 1,.slice B1 0 d1,.slice B2 0 d2,.slice B3 0 d3,.slice B4 3 d4,.slice (some ⟨w1.heap.size + 1,0,none⟩) 3 3⟩,rfl,(Je : Ext w _),hfin.lower (Nat.le_succ _)⟩
end Go.Proofs.YteojjbhadgkfgaaGreat

namespace Go.Proofs.YteojjbhadgkfgaaGreat
set_option linter.unusedSimpArgs false
set_option linter.unusedVariables false
set_option maxRecDepth 100000
open Go Go.RowKit Go.Joins Go.ChangeShapes Go.WideShapes Go.Deep Lb

def acc (a : Ac) : Array Value:=#[.int .i64 a.kind,.int .i64 a.id,.int .i64 a.of,.int .i64 a.time,.int .i64 a.ticket.id,.int .i64 a.ticket.kind,.int .i64 a.ticket.frm,.int .i64 a.ticket.til,.int .i64 a.ticket.JS,.int .i64 a.ticket.rides]
theorem acc_size (a : Ac) : (acc a).size = 10:=rfl
section
theorem rdl_ofP {α : Type} [Inhabited α] {en : α -> Array Value} {k : Nat} {Q : α -> Prop} {w : World} {a : Addr} {vl vc : Nat} (hk : ∀ x,(en x).size = k) (hk0 : 0 < k) (hl : vl <= vc) (hm : vc <= maxLen)
  (hcell : ∀ i,i < vl -> ∃ x : α,Q x /\ ∀ j u,(en x)[j]? = some u -> w.cell? (a.add (i * k + j)) = some u) : ∃ l : List α,RdL k en w (.slice (some a) vl vc) l /\ ∀ x ∈ l,Q x:=by
 let g : Nat -> α:=fun i=>if h : i < vl then (hcell i h).choose else default
 have hg : ∀ i,i < vl -> Q (g i) /\ ∀ j u,(en (g i))[j]? = some u -> w.cell? (a.add (i * k + j)) = some u:=by
  intro i h;have:=(hcell i h).choose_spec
  simpa [g,h] using this
 refine ⟨(List.range vl).map g,⟨some a,vc,by simp,by simpa using hl,hm,fun hn=>?_⟩,fun x hx=>?_⟩
 ·simp only [List.length_map,List.length_range] at hn ⊢
  have hz : 0 < (en (g 0)).size:=by rw [hk];exact hk0
  have h00:=(hg 0 hn).2 0 _ (Array.getElem?_eq_getElem hz);have hsp:=World.cell?_spot h00;have hlt:=World.block_lt_of_cell? w _ h00;obtain ⟨b,o,sp⟩:=a
  simp [Addr.add] at hsp hlt
  subst hsp;refine ⟨b,o,rfl,hlt,fun j hj i u hu=>?_⟩
  have hgj : ((List.range vl).map g)[j]! = g j:=by simp [hj]
  rw [hgj] at hu;have:=(hg j hj).2 i u hu;simp only [Addr.add] at this
  split at this
  ·rename_i h0
   rw [show o + j * k + i = o by omega];exact this
  ·rw [show o + j * k + i = o + (j * k + i) by omega];exact this
 ·obtain ⟨i,hi,rfl⟩:=List.mem_map.1 hx
  exact (hg i (List.mem_range.1 hi)).1
end

section
variable {H : Type} {enc : TypeId × Value -> H} {w : World} {b0 base : Nat} {spare : Nat -> Bool} {held : Bool} {r : Reach}
theorem trod_ld {n : Nat} {v0 v1 v2 : Value} {y : DataW H × List MemPlace} (h : DataW.trod enc Tryz.prog w base spare held n 26 [v0,v1,v2] = some y) : ∃ l : Ld,RdL 6 tkc w v0 l.Jc /\ RdL 5 tpc w v1 l.Jf /\ RdL 1 inc w v2 l.Jd:=by
 obtain ⟨n,-,hf⟩:=XG Tryz.underlying26 h;obtain ⟨y0,h0⟩:=hf 0 _ rfl;obtain ⟨y1,h1⟩:=hf 1 _ rfl;obtain ⟨y2,h2⟩:=hf 2 _ rfl
 change DataW.trod enc Tryz.prog w base spare held n 22 (([v0,v1,v2].drop 0).take (Tryz.prog.cellsOf 22)) = some y0 at h0
 change DataW.trod enc Tryz.prog w base spare held n 23 (([v0,v1,v2].drop 1).take (Tryz.prog.cellsOf 23)) = some y1 at h1
 change DataW.trod enc Tryz.prog w base spare held n 24 (([v0,v1,v2].drop 2).take (Tryz.prog.cellsOf 24)) = some y2 at h2
 rw [show Tryz.prog.cellsOf 22 = 1 from by kernel_rfl] at h0;rw [show Tryz.prog.cellsOf 23 = 1 from by kernel_rfl] at h1;rw [show Tryz.prog.cellsOf 24 = 1 from by kernel_rfl] at h2;obtain ⟨l0,e0⟩:=trod_tks (v:=v0) h0;obtain ⟨l1,e1⟩:=trod_taps (v:=v1) h1;obtain ⟨l2,e2⟩:=trod_ints (v:=v2) h2;exact ⟨⟨l0,l1,l2⟩,e0,e1,e2⟩
theorem trod_tk {n : Nat} {v0 v1 v2 v3 v4 v5 : Value} {y : DataW H × List MemPlace} (h : DataW.trod enc Tryz.prog w base spare held n 34 [v0,v1,v2,v3,v4,v5] = some y) : ∃ t : Tk,[v0,v1,v2,v3,v4,v5].toArray = tkc t:=by
 obtain ⟨n,-,hf⟩:=XG Tryz.underlying34 h;obtain ⟨y0,h0⟩:=hf 0 _ rfl;obtain ⟨y1,h1⟩:=hf 1 _ rfl;obtain ⟨y2,h2⟩:=hf 2 _ rfl;obtain ⟨y3,h3⟩:=hf 3 _ rfl;obtain ⟨y4,h4⟩:=hf 4 _ rfl;obtain ⟨y5,h5⟩:=hf 5 _ rfl
 change DataW.trod enc Tryz.prog w base spare held n 3 (([v0,v1,v2,v3,v4,v5].drop 0).take (Tryz.prog.cellsOf 3)) = some y0 at h0
 change DataW.trod enc Tryz.prog w base spare held n 3 (([v0,v1,v2,v3,v4,v5].drop 1).take (Tryz.prog.cellsOf 3)) = some y1 at h1
 change DataW.trod enc Tryz.prog w base spare held n 3 (([v0,v1,v2,v3,v4,v5].drop 2).take (Tryz.prog.cellsOf 3)) = some y2 at h2
 change DataW.trod enc Tryz.prog w base spare held n 3 (([v0,v1,v2,v3,v4,v5].drop 3).take (Tryz.prog.cellsOf 3)) = some y3 at h3
 change DataW.trod enc Tryz.prog w base spare held n 3 (([v0,v1,v2,v3,v4,v5].drop 4).take (Tryz.prog.cellsOf 3)) = some y4 at h4
 change DataW.trod enc Tryz.prog w base spare held n 3 (([v0,v1,v2,v3,v4,v5].drop 5).take (Tryz.prog.cellsOf 3)) = some y5 at h5
 rw [show Tryz.prog.cellsOf 3 = 1 from by kernel_rfl] at h0 h1 h2 h3 h4 h5;obtain ⟨a0,rfl⟩:=J8 (v:=v0) h0;obtain ⟨a1,rfl⟩:=J8 (v:=v1) h1;obtain ⟨a2,rfl⟩:=J8 (v:=v2) h2;obtain ⟨a3,rfl⟩:=J8 (v:=v3) h3;obtain ⟨a4,rfl⟩:=J8 (v:=v4) h4;obtain ⟨a5,rfl⟩:=J8 (v:=v5) h5;exact ⟨⟨a0,a1,a2,a3,a4,a5⟩,rfl⟩
theorem trod_ac {n : Nat} {v0 v1 v2 v3 v4 v5 v6 v7 v8 v9 : Value} {y : DataW H × List MemPlace} (h : DataW.trod enc Tryz.prog w base spare held n 71 [v0,v1,v2,v3,v4,v5,v6,v7,v8,v9] = some y) : ∃ a : Ac,[v0,v1,v2,v3,v4,v5,v6,v7,v8,v9].toArray = acc a:=by
 obtain ⟨n,-,hf⟩:=XG Tryz.underlying71 h;obtain ⟨y0,h0⟩:=hf 0 _ rfl;obtain ⟨y1,h1⟩:=hf 1 _ rfl;obtain ⟨y2,h2⟩:=hf 2 _ rfl;obtain ⟨y3,h3⟩:=hf 3 _ rfl;obtain ⟨y4,h4⟩:=hf 4 _ rfl
 change DataW.trod enc Tryz.prog w base spare held n 3 (([v0,v1,v2,v3,v4,v5,v6,v7,v8,v9].drop 0).take (Tryz.prog.cellsOf 3)) = some y0 at h0
 change DataW.trod enc Tryz.prog w base spare held n 3 (([v0,v1,v2,v3,v4,v5,v6,v7,v8,v9].drop 1).take (Tryz.prog.cellsOf 3)) = some y1 at h1
 change DataW.trod enc Tryz.prog w base spare held n 3 (([v0,v1,v2,v3,v4,v5,v6,v7,v8,v9].drop 2).take (Tryz.prog.cellsOf 3)) = some y2 at h2
 change DataW.trod enc Tryz.prog w base spare held n 3 (([v0,v1,v2,v3,v4,v5,v6,v7,v8,v9].drop 3).take (Tryz.prog.cellsOf 3)) = some y3 at h3
 change DataW.trod enc Tryz.prog w base spare held n 34 (([v0,v1,v2,v3,v4,v5,v6,v7,v8,v9].drop 4).take (Tryz.prog.cellsOf 34)) = some y4 at h4
 rw [show Tryz.prog.cellsOf 3 = 1 from by kernel_rfl] at h0 h1 h2 h3;rw [show Tryz.prog.cellsOf 34 = 6 from by kernel_rfl] at h4;obtain ⟨a0,rfl⟩:=J8 (v:=v0) h0;obtain ⟨a1,rfl⟩:=J8 (v:=v1) h1;obtain ⟨a2,rfl⟩:=J8 (v:=v2) h2;obtain ⟨a3,rfl⟩:=J8 (v:=v3) h3;obtain ⟨t,ht⟩:=trod_tk (v0:=v4) (v1:=v5) (v2:=v6) (v3:=v7) (v4:=v8) (v5:=v9) h4;have ht2 : [v4,v5,v6,v7,v8,v9] = [.int .i64 t.id,.int .i64 t.kind,.int .i64 t.frm,.int .i64 t.til,.int .i64 t.JS,.int .i64 t.rides]:=congrArg Array.toList ht;simp only [List.cons.injEq,and_true] at ht2;obtain ⟨rfl,rfl,rfl,rfl,rfl,rfl⟩:=ht2;exact ⟨⟨a0,a1,a2,a3,t⟩,rfl⟩
theorem open_ac {v : Value} {d : DataW H} {p : List MemPlace} (hv : Value.okWide Tryz.prog w r b0 71 v) (h : DataW.Trod enc Tryz.prog w base spare held 71 v d p) : ∃ a : Ac,v = .agg (acc a):=by
 obtain ⟨cs,rfl,hsz⟩:=okWide_struct Tryz.underlying71 hv;obtain ⟨l⟩:=cs
 match l,hsz.trans (show Tryz.prog.cellsOf 71 = 10 from by kernel_rfl) with
 | [c0,c1,c2,c3,c4,c5,c6,c7,c8,c9],_ =>
  obtain ⟨fuel,hf⟩:=h;obtain ⟨a,ha⟩:=trod_ac (v0:=c0) (v1:=c1) (v2:=c2) (v3:=c3) (v4:=c4) (v5:=c5) (v6:=c6) (v7:=c7) (v8:=c8) (v9:=c9) hf;exact ⟨a,congrArg Value.agg ha⟩
end
end Go.Proofs.YteojjbhadgkfgaaGreat
