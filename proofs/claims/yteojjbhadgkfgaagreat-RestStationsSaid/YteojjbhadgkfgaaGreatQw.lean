/- Qw: parts of the proofs, laid together. -/
import Derived.Lib.SliceRun
import Derived.Lib.Walk
import Derived.BigRegion
import Derived.Test.YteojjbhadgkfgaaGreatQa
import Derived.Test.YteojjbhadgkfgaaGreatQo
/- Views of who leads: the plain side: what is right, who leads, who wins, who is up; laws of these. -/
set_option maxHeartbeats 64000000
namespace Lb
set_option linter.unusedVariables false
set_option maxRecDepth 100000
set_option linter.unusedSimpArgs false

def Xp (v : Vw) : Int :=
 if within v.JK 0 99 = false \/ within v.JE 0 1 = false then 3 else if v.JK = 0 /\ v.JE ≠ 0 then 4 else 0
def clash (v x : Vw) : Bool:=x.JK == v.JK && x.JE != v.JE
def ZM : List Vw -> List Vw -> Bool
 | _,[]=>false
 | pre,v :: l=>pre.any (clash v) || ZM (pre ++ [v]) l
theorem clashes_cons (pre : List Vw) (v : Vw) (l : List Vw) : ZM pre (v :: l) = (pre.any (clash v) || ZM (pre ++ [v]) l):=rfl
def JI (l : List Vw) : Int :=
 if l.length ≠ 3 then 1 else if eachE Xp l ≠ 0 then eachE Xp l else if ZM [] l = true then 4 else 0
def J9 (p : Vw -> Bool) : List Vw -> Int
 | []=>0
 | v :: l=>(if p v = true then 1 else 0) + J9 p l
theorem XF (p : Vw -> Bool) (v : Vw) (l : List Vw) : J9 p (v :: l) = (if p v = true then 1 else 0) + J9 p l:=rfl
def Zb : Int -> List Vw -> Int
 | m,[]=>m
 | m,v :: l=>Zb (max m v.JK) l
def XB (top : Int) (v : Vw) : Bool:=v.JK == top
def upTop (top : Int) (v : Vw) : Bool:=v.JK == top && v.up
def Xm (v : Vw) : Bool:=v.up
def whoTop (l : List Vw) : Int:=match l.find? (XB (Zb 0 l)) with
 | some v=>v.JE
 | none=>0
def isUp (l : List Vw) (i : Int) : Bool:=match l[i.toNat]? with
 | some v=>v.up
 | none=>false
def leads (l : List Vw) : Bool:=decide (0 < Zb 0 l) && decide (3 < 2 * J9 (upTop (Zb 0 l)) l) && isUp l (whoTop l)
def whoV (l : List Vw) : Int × Bool:=if leads l = true then (whoTop l,true) else (0,false)
def raise (t who : Int) (l : List Vw) : List Vw:=l.map fun v=>if v.up = true then ⟨t,who,true⟩ else v
def Zw (l : List Vw) (who : Int) : List Vw × Bool × Int :=
 if within who 0 1 = false then ([],false,3)
 else if isUp l who = false \/ 2 * J9 Xm l <= 3 then (l,false,0)
 else if Zb 0 l = 99 then ([],false,2)
 else (raise (Zb 0 l + 1) who l,true,0)
def Zz (l : List Vw) (who : Int) (up : Bool) : List Vw × Int :=
 if within who 0 2 = false then ([],3) else (l.modify who.toNat (fun v=>⟨v.JK,v.JE,up⟩),0)
def nowAll (l : List Vw) : Int × Bool × Int:=if JI l ≠ 0 then (0,false,JI l) else ((whoV l).1,(whoV l).2,0)
def winAll (l : List Vw) (who : Int) : List Vw × Bool × Int:=if JI l ≠ 0 then ([],false,JI l) else Zw l who
def setAll (l : List Vw) (who : Int) (up : Bool) : List Vw × Int:=if JI l ≠ 0 then ([],JI l) else Zz l who up

def stepE (e : Int) : Bool × Int × Int -> List Vw -> Bool × Int × Int
 | s,[]=>s
 | s,v :: l=>stepE e (if v.JK = e then (true,if v.up = true then s.2.1 + 1 else s.2.1,v.JE) else s) l
theorem stepE_cons (e : Int) (s : Bool × Int × Int) (v : Vw) (l : List Vw) : stepE e s (v :: l) = stepE e (if v.JK = e then (true,if v.up = true then s.2.1 + 1 else s.2.1,v.JE) else s) l:=rfl
def whoR (l : List Vw) : Nat -> Int × Bool
 | 0=>(0,false)
 | e + 1=>if (stepE ((e : Int) + 1) (false,0,0) l).1 = true then (if 2 <= (stepE ((e : Int) + 1) (false,0,0) l).2.1 /\ isUp l (stepE ((e : Int) + 1) (false,0,0) l).2.2 = true then ((stepE ((e : Int) + 1) (false,0,0) l).2.2,true) else (0,false)) else whoR l e

theorem Z8 (v : Vw) : Xp v = 0 ↔ 0 <= v.JK /\ v.JK <= 99 /\ 0 <= v.JE /\ v.JE <= 1 /\ (v.JK = 0 -> v.JE = 0):=by
 unfold Xp
 by_cases h : within v.JK 0 99 = false \/ within v.JE 0 1 = false
 ·rw [if_pos h]
  simp [within] at h
  constructor
  ·intro h;simp at h
  ·omega
 ·rw [if_neg h]
  simp [within] at h
  by_cases h2 : v.JK = 0 /\ v.JE ≠ 0
  ·rw [if_pos h2]
   constructor
   ·intro h;simp at h
   ·rintro ⟨-,-,-,-,h3⟩;exact absurd (h3 h2.1) h2.2
  ·rw [if_neg h2]
   simp only [true_iff];refine ⟨by omega,by omega,by omega,by omega,fun h3=>?_⟩;apply Classical.byContradiction;intro h4;exact h2 ⟨h3,h4⟩
theorem clashes_ok (l pre : List Vw) (hp : ∀ v ∈ pre,∀ x ∈ pre,x.JK = v.JK -> x.JE = v.JE) : ZM pre l = false ↔ ∀ v ∈ pre ++ l,∀ x ∈ pre ++ l,x.JK = v.JK -> x.JE = v.JE:=by
 induction l generalizing pre with
 | nil=>simpa [ZM] using hp
 | cons v l ih =>
  rw [clashes_cons,Bool.or_eq_false_iff,List.any_eq_false]
  have hcl : ∀ x,clash v x = true ↔ x.JK = v.JK /\ x.JE ≠ v.JE:=by intro x;simp [clash]
  constructor
  ·rintro ⟨h1,h2⟩
   have hp2 : ∀ a ∈ pre ++ [v],∀ x ∈ pre ++ [v],x.JK = a.JK -> x.JE = a.JE:=by
    intro a ha x hx hxa;simp only [List.mem_append,List.mem_singleton] at ha hx
    rcases ha with ha | rfl <;> rcases hx with hx | rfl
    ·exact hp a ha x hx hxa
    ·have:=h1 a ha
     rw [hcl] at this;apply Classical.byContradiction;intro h;exact this ⟨hxa.symm,fun e=>h e.symm⟩
    ·have:=h1 x hx
     rw [hcl] at this;apply Classical.byContradiction;intro h;exact this ⟨hxa,h⟩
    ·rfl
   have:=(ih (pre ++ [v]) hp2).1 h2
   simpa using this
  ·intro h
   have h' : ∀ a ∈ (pre ++ [v]) ++ l,∀ x ∈ (pre ++ [v]) ++ l,x.JK = a.JK -> x.JE = a.JE:=by simpa using h
   refine ⟨fun x hx=>?_,(ih (pre ++ [v]) (fun a ha x hx=>h' a (by simp only [List.mem_append] at ha ⊢;exact .inl ha) x (by simp only [List.mem_append] at hx ⊢;exact .inl hx))).2 h'⟩;rw [hcl];rintro ⟨e1,e2⟩;exact e2 (h v (by simp) x (by simp [hx]) e1)
def RightV (l : List Vw) : Prop:=l.length = 3 /\ (∀ v ∈ l,Xp v = 0) /\ (∀ v ∈ l,∀ x ∈ l,x.JK = v.JK -> x.JE = v.JE)
theorem Zr (l : List Vw) : JI l = 0 ↔ RightV l:=by
 unfold JI RightV;have hc:=clashes_ok l [] (by simp);simp only [List.nil_append] at hc
 by_cases h3 : l.length = 3
 ·rw [if_neg (by simpa using h3)]
  by_cases he : eachE Xp l = 0
  ·rw [if_neg (by simpa using he)]
   have he2:=eachE_ok.1 he
   cases hcl : ZM [] l with
   | true =>
    simp only [if_true]
    constructor
    ·intro h;simp at h
    ·rintro ⟨-,-,h⟩
     rw [hc.2 h] at hcl
     cases hcl
   | false=>exact ⟨fun _=>⟨h3,he2,hc.1 hcl⟩,fun _=>rfl⟩
  ·rw [if_pos he]
   constructor
   ·intro h;exact absurd h he
   ·rintro ⟨-,h,-⟩;exact absurd (eachE_ok.2 h) he
 ·rw [if_pos h3]
  constructor
  ·intro h;simp at h
  ·rintro ⟨h,-,-⟩;exact absurd h h3

theorem topV_ge (m : Int) (l : List Vw) : m <= Zb m l:=by
 induction l generalizing m with
 | nil=>exact Int.le_refl _
 | cons v l ih=>have:=ih (max m v.JK);unfold Zb;omega
theorem le_topV (m : Int) (l : List Vw) : ∀ v ∈ l,v.JK <= Zb m l:=by
 induction l generalizing m with
 | nil=>simp
 | cons x l ih =>
  intro v hv;unfold Zb
  rcases List.mem_cons.1 hv with rfl | hv
  ·have:=topV_ge (max m v.JK) l;omega
  ·exact ih _ v hv
theorem topV_le (m M : Int) (l : List Vw) (hm : m <= M) (h : ∀ v ∈ l,v.JK <= M) : Zb m l <= M:=by
 induction l generalizing m with
 | nil=>exact hm
 | cons x l ih =>
  unfold Zb;have:=h x (by simp);exact ih _ (by omega) (fun v hv=>h v (by simp [hv]))
theorem topV_eq {l : List Vw} {T : Int} (h0 : 0 <= T) (h : ∀ v ∈ l,v.JK <= T) (he : ∃ v ∈ l,v.JK = T) : Zb 0 l = T:=by
 obtain ⟨v,hv,rfl⟩:=he;have:=le_topV 0 l v hv;have:=topV_le 0 _ l h0 h
 omega
theorem topV_mem (m : Int) (l : List Vw) : Zb m l = m \/ ∃ v ∈ l,v.JK = Zb m l:=by
 induction l generalizing m with
 | nil=>exact .inl rfl
 | cons x l ih =>
  unfold Zb
  rcases ih (max m x.JK) with h | ⟨v,hv,h⟩
  ·rw [h]
   by_cases hx : m <= x.JK
   ·exact .inr ⟨x,by simp,by omega⟩
   ·exact .inl (by omega)
  ·exact .inr ⟨v,by simp [hv],h⟩
theorem whoTop_eq {l : List Vw} {L : Int} (he : ∃ v ∈ l,v.JK = Zb 0 l) (hL : ∀ v ∈ l,v.JK = Zb 0 l -> v.JE = L) : whoTop l = L:=by
 unfold whoTop
 cases hf : l.find? (XB (Zb 0 l)) with
 | none =>
  obtain ⟨v,hv,h⟩:=he;rw [List.find?_eq_none] at hf;have:=hf v hv
  simp [XB,h] at this
 | some v =>
  have h1:=List.find?_some hf;have h2:=List.mem_of_find?_eq_some hf;simp only [XB,beq_iff_eq] at h1;exact hL v h2 h1
theorem stepE_fst (e : Int) (s : Bool × Int × Int) (l : List Vw) : (stepE e s l).1 = (s.1 || l.any (XB e)):=by
 induction l generalizing s with
 | nil=>simp [stepE]
 | cons v l ih =>
  rw [stepE_cons,ih]
  by_cases h : v.JK = e
  ·simp [h,XB]
  ·have hb : (v.JK == e) = false:=by simpa using h
   simp [h,XB,hb]
theorem stepE_n (e : Int) (s : Bool × Int × Int) (l : List Vw) : (stepE e s l).2.1 = s.2.1 + J9 (upTop e) l:=by
 induction l generalizing s with
 | nil=>simp [stepE,J9]
 | cons v l ih =>
  rw [stepE_cons,ih,XF]
  by_cases h : v.JK = e
  ·cases hu : v.up <;> simp [h,upTop,hu] <;> omega
  ·simp [h,upTop]
theorem stepE_who (e L : Int) (s : Bool × Int × Int) (l : List Vw) (hL : ∀ v ∈ l,v.JK = e -> v.JE = L) : (stepE e s l).2.2 = if l.any (XB e) = true then L else s.2.2:=by
 induction l generalizing s with
 | nil=>simp [stepE]
 | cons v l ih =>
  rw [stepE_cons,ih _ (fun x hx=>hL x (by simp [hx]))]
  by_cases h : v.JK = e
  ·have:=hL v (by simp) h
   simp [h,XB,this]
  ·simp [h,XB]
theorem whoR_eq {l : List Vw} (hr : RightV l) : ∀ E : Nat,(∀ v ∈ l,v.JK <= (E : Int)) -> whoR l E = whoV l
 | 0,h=>by
  have ht : Zb 0 l = 0:=by
   have:=topV_le 0 0 l (Int.le_refl _) (by simpa using h);have:=topV_ge 0 l
   omega
  simp [whoR,whoV,leads,ht]
 | E + 1,h=>by
  unfold whoR;rw [stepE_fst,Bool.false_or]
  by_cases ha : l.any (XB ((E : Int) + 1)) = true
  ·rw [if_pos ha]
   obtain ⟨v,hv,hve⟩:=List.any_eq_true.1 ha;simp only [XB,beq_iff_eq] at hve;have ht : Zb 0 l = (E : Int) + 1:=topV_eq (by omega) (fun x hx=>by have:=h x hx;push_cast at this;omega) ⟨v,hv,hve⟩;have hw : whoTop l = v.JE:=whoTop_eq ⟨v,hv,by rw [ht];exact hve⟩ (fun x hx hxe=>hr.2.2 v hv x hx (by rw [hxe,ht,hve]));rw [stepE_n,stepE_who _ v.JE _ _ (fun x hx hxe=>hr.2.2 v hv x hx (by rw [hxe,hve])),if_pos ha];unfold whoV leads;rw [ht,hw]
   by_cases hc : 2 <= 0 + J9 (upTop ((E : Int) + 1)) l /\ isUp l v.JE = true
   ·rw [if_pos hc,if_pos]
    rw [Bool.and_eq_true,Bool.and_eq_true,decide_eq_true_eq,decide_eq_true_eq];exact ⟨⟨by omega,by omega⟩,hc.2⟩
   ·rw [if_neg hc,if_neg]
    rw [Bool.and_eq_true,Bool.and_eq_true,decide_eq_true_eq,decide_eq_true_eq];rintro ⟨⟨-,h2⟩,h3⟩;exact hc ⟨by omega,h3⟩
  ·rw [if_neg ha]
   refine whoR_eq hr E (fun x hx=>?_);have h1:=h x hx
   have h2 : ¬ x.JK = (E : Int) + 1:=by
    intro e;exact ha (List.any_eq_true.2 ⟨x,hx,by simp [XB,e]⟩)
   push_cast at h1
   omega
theorem who_eq {l : List Vw} (h : JI l = 0) : whoR l 99 = whoV l:=by
 have hr:=(Zr l).1 h;exact whoR_eq hr 99 (fun v hv=>((Z8 v).1 (hr.2.1 v hv)).2.1)
end Lb

namespace Lb
set_option linter.unusedVariables false
set_option maxRecDepth 100000
set_option linter.unusedSimpArgs false

theorem countV_nonneg (p : Vw -> Bool) (l : List Vw) : 0 <= J9 p l:=by
 induction l with
 | nil=>exact Int.le_refl _
 | cons x l ih=>rw [XF];split <;> omega
theorem raise_length (t who : Int) (l : List Vw) : (raise t who l).length = l.length:=by simp [raise]
theorem mem_raise {t who : Int} {l : List Vw} {x : Vw} (h : x ∈ raise t who l) : (x = ⟨t,who,true⟩ /\ ∃ v ∈ l,v.up = true) \/ (x ∈ l /\ x.up = false):=by
 unfold raise at h;rw [List.mem_map] at h;obtain ⟨v,hv,rfl⟩:=h
 by_cases hu : v.up = true
 ·rw [if_pos hu];exact .inl ⟨rfl,v,hv,hu⟩
 ·rw [if_neg hu];exact .inr ⟨hv,by simpa using hu⟩
theorem raise_get {t who : Int} {l : List Vw} {i : Nat} {v : Vw} (h : l[i]? = some v) : (raise t who l)[i]? = some (if v.up = true then ⟨t,who,true⟩ else v):=by
 unfold raise;rw [List.getElem?_map,h]
 rfl
theorem top_lt {l : List Vw} (hr : RightV l) (h : Zb 0 l ≠ 99) : Zb 0 l <= 98 /\ 0 <= Zb 0 l:=by
 have h1:=topV_le 0 99 l (by omega) (fun v hv=>((Z8 v).1 (hr.2.1 v hv)).2.1);have h2:=topV_ge 0 l
 omega
theorem raise_right {l : List Vw} {who : Int} (hr : RightV l) (hw : within who 0 1 = true) (h98 : Zb 0 l <= 98) (h0 : 0 <= Zb 0 l) : RightV (raise (Zb 0 l + 1) who l):=by
 have hw' : 0 <= who /\ who <= 1:=by simpa [within] using hw
 refine ⟨by rw [raise_length];exact hr.1,fun v hv=>?_,fun v hv x hx hxe=>?_⟩
 ·rcases mem_raise hv with ⟨rfl,-⟩ | ⟨hv,-⟩
  ·rw [Z8];simp only;omega
  ·exact hr.2.1 v hv
 ·rcases mem_raise hv with ⟨rfl,-⟩ | ⟨hv,-⟩ <;> rcases mem_raise hx with ⟨rfl,-⟩ | ⟨hx,-⟩
  ·rfl
  ·have:=le_topV 0 l x hx
   simp only at hxe
   omega
  ·have:=le_topV 0 l v hv
   simp only at hxe
   omega
  ·exact hr.2.2 v hv x hx hxe
theorem setV_ok {l : List Vw} {i : Int} {up : Bool} (h : (Zz l i up).2 = 0) : within i 0 2 = true /\ Zz l i up = (l.modify i.toNat (fun v=>⟨v.JK,v.JE,up⟩),0):=by
 unfold Zz at h ⊢
 cases hw : within i 0 2 with
 | false=>simp [hw] at h
 | true=>exact ⟨rfl,by simp⟩
def Alike (l m : List Vw) : Prop:=l.length = m.length /\ ∀ i (h1 : i < l.length) (h2 : i < m.length),l[i].JK = m[i].JK /\ l[i].JE = m[i].JE
theorem modify_alike (l : List Vw) (i : Nat) (up : Bool) : Alike (l.modify i (fun v=>⟨v.JK,v.JE,up⟩)) l:=by
 refine ⟨by simp,fun j h1 h2=>?_⟩;rw [List.getElem_modify]
 split <;> exact ⟨rfl,rfl⟩
theorem Alike.mem {l m : List Vw} (h : Alike l m) {v : Vw} (hv : v ∈ l) : ∃ x ∈ m,v.JK = x.JK /\ v.JE = x.JE:=by
 obtain ⟨i,hi,rfl⟩:=List.mem_iff_getElem.1 hv
 have hi2 : i < m.length:=by rw [<- h.1];exact hi
 exact ⟨m[i],List.getElem_mem hi2,h.2 i hi hi2⟩
theorem Alike.symm {l m : List Vw} (h : Alike l m) : Alike m l:=⟨h.1.symm,fun i h1 h2=>⟨(h.2 i h2 h1).1.symm,(h.2 i h2 h1).2.symm⟩⟩
theorem Alike.right {l m : List Vw} (h : Alike l m) (hr : RightV m) : RightV l:=by
 refine ⟨h.1.trans hr.1,fun v hv=>?_,fun v hv x hx hxe=>?_⟩
 ·obtain ⟨y,hy,e1,e2⟩:=h.mem hv
  have:=(Z8 y).1 (hr.2.1 y hy);rw [Z8,e1,e2];exact this
 ·obtain ⟨y,hy,e1,e2⟩:=h.mem hv
  obtain ⟨z,hz,e3,e4⟩:=h.mem hx;rw [e2,e4];exact hr.2.2 y hy z hz (by rw [<- e1,<- e3];exact hxe)
theorem Alike.top {l m : List Vw} (h : Alike l m) : Zb 0 l = Zb 0 m:=by
 have h1:=topV_le 0 (Zb 0 m) l (topV_ge 0 m) (fun v hv=>by
  obtain ⟨y,hy,e1,-⟩:=h.mem hv
  rw [e1];exact le_topV 0 m y hy)
 have h2:=topV_le 0 (Zb 0 l) m (topV_ge 0 l) (fun v hv=>by
  obtain ⟨y,hy,e1,-⟩:=h.symm.mem hv
  rw [e1];exact le_topV 0 l y hy)
 omega
theorem Alike.who {l m : List Vw} {L : Int} (h : Alike l m) (he : ∃ v ∈ m,v.JK = Zb 0 m) (hL : ∀ v ∈ m,v.JK = Zb 0 m -> v.JE = L) : whoTop l = L:=by
 obtain ⟨v,hv,hve⟩:=he;obtain ⟨x,hx,e1,e2⟩:=h.symm.mem hv;refine whoTop_eq ⟨x,hx,by rw [h.top,<- e1];exact hve⟩ (fun y hy hye=>?_);obtain ⟨z,hz,e3,e4⟩:=h.mem hy;rw [e4];exact hL z hz (by rw [<- e3,<- h.top];exact hye)
end Lb

namespace Go.Proofs.YteojjbhadgkfgaaGreat
set_option linter.unusedSimpArgs false
set_option linter.unusedVariables false
set_option maxRecDepth 100000
open Go Go.RowKit Lb

theorem lead_within (n a b : Int) (w : World) :
  Calls Tryz.prog 117 #[.int .i64 n,.int .i64 a,.int .i64 b] w fun e w'=>e = .returned (.bool (within n a b)) /\ w = w':=by
 go_enter Tryz.func117,Tryz.ntmps117
 go_wp2
 all_goals
  go_ret;exact ⟨Jq (by simp [within, *] <;> omega),rfl⟩

theorem lead_Check1 (x v : Vw) (g : Nat) (w : World) (hr : Row w g (vwc v)) :
  Calls Tryz.prog 119 #[.agg (vwc x),.pointer (some ⟨g,0,none⟩)] w fun e w'=>e = .returned (.bool (clash v x)) /\ Ext w w':=by
 obtain ⟨x0,x1,x2⟩:=x;obtain ⟨v0,v1,v2⟩:=v;unfold vwc at hr ⊢
 apply Row.use hr;intro q f l R
 clear hr;go_enter Tryz.func119,Tryz.ntmps119
 go_wp2
 all_goals
  go_ret;refine ⟨Jq ?_,?_⟩
  ·simp_all [clash]
  ·exact Je
theorem lead_Who1 (x : Vw) (top : Int) (g : Nat) (w : World) (hr : Row w g #[.int .i64 top]) :
  Calls Tryz.prog 140 #[.agg (vwc x),.pointer (some ⟨g,0,none⟩)] w fun e w'=>e = .returned (.bool (XB top x)) /\ Ext w w':=by
 obtain ⟨x0,x1,x2⟩:=x;unfold vwc
 apply Row.use hr;intro q f l R
 clear hr;go_enter Tryz.func140,Tryz.ntmps140
 go_wp2
 all_goals
  go_ret;refine ⟨Jq ?_,?_⟩
  ·simp_all [XB]
  ·exact Je
theorem lead_Who2 (x : Vw) (top : Int) (g : Nat) (w : World) (hr : Row w g #[.int .i64 top]) :
  Calls Tryz.prog 142 #[.agg (vwc x),.pointer (some ⟨g,0,none⟩)] w fun e w'=>e = .returned (.bool (upTop top x)) /\ Ext w w':=by
 obtain ⟨x0,x1,x2⟩:=x;unfold vwc
 apply Row.use hr;intro q f l R
 clear hr;go_enter Tryz.func142,Tryz.ntmps142
 go_wp2
 all_goals
  go_ret;refine ⟨Jq ?_,?_⟩
  ·simp_all [upTop]
  ·exact Je
theorem lead_Raw1 (x : Vw) (w : World) :
  Calls Tryz.prog 151 #[.agg (vwc x)] w fun e w'=>e = .returned (.bool x.up) /\ Ext w w':=by
 obtain ⟨x0,x1,x2⟩:=x;unfold vwc;go_enter Tryz.func151,Tryz.ntmps151
 go_wp2
 all_goals
  go_ret;refine ⟨rfl,?_⟩;exact Je

theorem IndexFunc_view (p : Vw -> Bool) (g : Nat) (lb : Array Value) (eg : ∀ args w,(callFunc g args).run Tryz.prog w = .ok (.enter g args) w) (l : List Vw) (v : Value) (w : World) (hr : RdL 3 vwc w v l)
  (hp : ∀ W x,Ext w W -> Calls Tryz.prog g (#[.agg (vwc x)] ++ lb) W fun e w'=>e = .returned (.bool (p x)) /\ Ext W w') :
  Calls Tryz.prog 139 #[v,.func (.func g) #[] lb] w fun e w'=>e = .returned (.int .i64 (XI p l)) /\ Ext w w':=by
 obtain ⟨A,c,rfl,h1,h2,h3⟩:=hr
 have hm : l.length <= 9223372036854775807:=by unfold maxLen at h2;omega
 have H3:=hH h3;have HP:=hH hp;clear h3 h1 h2 hp;go_enter Tryz.func139,Tryz.ntmps139
 go_wp2
 go_loopg [4,5,8] l.length (fun gg _ _ s8 wr=>∃ k : Nat,k <= l.length /\ l.length - k <= gg /\ s8 = .int .i64 k /\ Aside (Ext w wr) /\ Aside (∀ j (hj : j < k),(h : j < l.length) -> p l[j] = false))
 case atStart=>exact ⟨0,Nat.zero_le _,by omega,rfl,Ext.refl _,fun j hj=>by omega⟩
 case round =>
  obtain ⟨k,hk,hg,rfl,HE,HA⟩:=hrel
  by_cases hlt : k < l.length
  ·obtain ⟨b,o,rfl,hb,hc⟩:=H3.out (by omega)
   have hbr : b < wr.heap.size:=Nat.lt_of_lt_of_le hb HE.out.size;have hcr : ∀ i u,(vwc l[k]!)[i]? = some u -> wr.cell? ⟨b,o + k * 3 + i,none⟩ = some u:=fun i u hu=>(HE.out.cells b _ hb).trans (hc k hlt i u hu);clear hc
   have hkk : l[k]! = l[k]:=by simp [hlt]
   rw [hkk] at hcr;have HL:=hH hlt
   have hlt' : (k : Int) < (l.length : Int):=by omega
   generalize hX : l[k] = x at hcr;have HX:=hH hX;clear hX hkk;have hcall:=HP.out wr x HE.out;obtain ⟨x0,x1,x2⟩:=x;have c0:=hcr 0 _ rfl;have c1:=hcr 1 _ rfl;have c2:=hcr 2 _ rfl;simp only [Nat.add_zero] at c0;clear hcr;unfold vwc at hcall
   cases hq : p ⟨x0,x1,x2⟩ with
   | true =>
    rw [hq] at hcall;have HC:=hH hcall;have HQ:=hH hq;clear hcall hq
    go_wp2_with (go_at_fn g;refine (HC.out).mono ?_;rintro e w1 ⟨rfl,h1⟩)
    go_ret;refine ⟨Jo ?_,HE.out.trans h1⟩;unfold XI;rw [XP HL.out (fun j hj=>HA.out j hj (by omega)) (by have:=HQ.out;rw [<- HX.out] at this;exact this)]
   | false =>
    rw [hq] at hcall;have HC:=hH hcall;have HQ:=hH hq;clear hcall hq
    go_wp2_with (go_at_fn g;refine (HC.out).mono ?_;rintro e w1 ⟨rfl,h1⟩)
    go_roundg (l.length - (k + 1))
    case measure=>omega
    case rel =>
     refine ⟨k + 1,by omega,by omega,by go_num,HE.out.trans h1,fun j hj h=>?_⟩
     by_cases e : j = k
     ·subst e;have:=HQ.out;rw [<- HX.out] at this;exact this
     ·exact HA.out j (by omega) h
  ·have hkl : k = l.length:=by omega
   have hge : ¬ (k : Int) < (l.length : Int):=by omega
   have HK:=hH hkl;clear hkl
   go_wp2
   go_ret;refine ⟨Jo ?_,HE.out⟩;unfold XI;rw [findIdx_none (fun j hj=>HA.out j (by have:=HK.out;omega) hj)]

theorem ContainsFunc_view (p : Vw -> Bool) (g : Nat) (lb : Array Value) (eg : ∀ args w,(callFunc g args).run Tryz.prog w = .ok (.enter g args) w) (l : List Vw) (v : Value) (w : World) (hr : RdL 3 vwc w v l)
  (hp : ∀ W x,Ext w W -> Calls Tryz.prog g (#[.agg (vwc x)] ++ lb) W fun e w'=>e = .returned (.bool (p x)) /\ Ext W w') :
  Calls Tryz.prog 118 #[v,.func (.func g) #[] lb] w fun e w'=>e = .returned (.bool (l.any p)) /\ Ext w w':=by
 have hi:=IndexFunc_view p g lb eg l v w hr hp;rw [<- ixBy_any];generalize XI p l = r at hi;have HI:=hH hi;clear hi hp hr eg;go_enter Tryz.func118,Tryz.ntmps118;go_wp2_with fail;refine (HI.out).mono ?_;rintro e w1 ⟨rfl,h1⟩;have H1:=hH h1;clear h1;go_wp2_with fail
 all_goals
  go_ret;exact ⟨Jq (by simp_all),H1.out⟩

theorem RdL.vw_at {w : World} {v : Value} {l : List Vw} (h : RdL 3 vwc w v l) {A : Option Addr} {n c : Nat} (hv : v = .slice A n c) {k : Nat} (hk : k < l.length) : ∃ b o,A = some ⟨b,o,none⟩ /\ b < w.heap.size /\
  w.cell? ⟨b,o + k * 3,none⟩ = some (.int .i64 l[k].JK) /\ w.cell? ⟨b,o + k * 3 + 1,none⟩ = some (.int .i64 l[k].JE) /\ w.cell? ⟨b,o + k * 3 + 2,none⟩ = some (.bool l[k].up):=by
 subst hv;obtain ⟨b,o,c',hv,hb,hc⟩:=h.at_ hk
 injection hv with hA
 exact ⟨b,o,hA,hb,hc 0 _ rfl,hc 1 _ rfl,hc 2 _ rfl⟩
theorem any_clash (w : World) (v : Vw) (g : Nat) (l : List Vw) (s : Value) (hr : RdL 3 vwc w s l) (hg : Row w g (vwc v)) :
  Calls Tryz.prog 118 #[s,.func (.func 119) #[] #[.pointer (some ⟨g,0,none⟩)]] w fun e w'=>e = .returned (.bool (l.any (clash v))) /\ Ext w w' :=
 ContainsFunc_view (clash v) 119 #[.pointer (some ⟨g,0,none⟩)] (fun args w=>by simp [go_sem]) l s w hr (fun W x h=>lead_Check1 x v g W (hg.ext h))

set_option maxRecDepth 100000 in
theorem lead_Check (l : List Vw) (v : Value) (w : World) (hr : RdL 3 vwc w v l) :
  Calls Tryz.prog 72 #[v] w fun e w'=>e = .returned (.int .i64 (JI l)) /\ Ext w w':=by
 obtain ⟨A,c,rfl,hmc,hm0⟩:=hr.form
 have hm : l.length <= 9223372036854775807:=by unfold maxLen at hm0;omega
 unfold JI
 by_cases h3 : l.length = 3
 ·rw [if_neg (by simpa using h3),h3]
  rw [h3] at hr;have HRd:=hH hr;have HL:=hH h3
  have h3c : 3 <= c:=by omega
  generalize hR1 : eachE Xp l = r1;generalize hR2 : ZM [] l = r2;generalize hR3 : (if r1 ≠ 0 then r1 else if r2 = true then (4 : Int) else 0) = res;have HR1:=hH hR1;have HR2:=hH hR2;have HR3:=hH hR3;clear hr h3 hR1 hR2 hR3 hm hm0 hmc;go_enter Tryz.func72,Tryz.ntmps72;go_wp2_with fail
  go_loopg [2,4,12] 3 (fun gg _ _ s12 wr=>∃ k : Nat,k <= 3 /\ 3 - k <= gg /\ s12 = .int .i64 k /\ Aside (Ext w wr) /\ Aside (eachE Xp (l.drop k) = r1))
  case atStart=>exact ⟨0,by omega,by omega,rfl,Ext.refl _,HR1.out⟩
  case round =>
   obtain ⟨k,hk,hg,rfl,HE,HA⟩:=hrel
   by_cases hlt : k < 3
   ·have hkl : k < l.length:=by rw [HL.out];exact hlt
    have hlt' : (k : Int) < 3:=by omega
    obtain ⟨b,o,rfl,hb,c0,c1,c2⟩:=(HRd.out.ext HE.out).vw_at rfl hkl;have hA:=HA.out;rw [List.drop_eq_getElem_cons hkl,eachE_cons] at hA
    have hck : Xp l[k] = if within l[k].JK 0 99 = false \/ within l[k].JE 0 1 = false then 3 else if l[k].JK = 0 /\ l[k].JE ≠ 0 then 4 else 0:=rfl
    have hW0:=fun w=>lead_within l[k].JK 0 99 w;have hW1:=fun w=>lead_within l[k].JE 0 1 w;generalize Xp l[k] = q at hA hck;generalize l[k].JK = x0 at *;generalize l[k].JE = x1 at *;generalize l[k].up = x2 at *;generalize within x0 0 99 = z0 at *;generalize within x1 0 1 = z1 at *;have HW0:=hH hW0;have HW1:=hH hW1;have HE2:=hH HE.out;clear hW0 hW1 HE HA hkl
    by_cases hq : q = 0
    ·have hA2 : eachE Xp (l.drop (k + 1)) = r1:=by rw [if_neg (by simpa using hq)] at hA;exact hA
     have HA2:=hH hA2
     have hz : z0 = true /\ z1 = true /\ ¬ (x0 = 0 /\ x1 ≠ 0):=by
      rw [hq] at hck
      cases z0 <;> cases z1 <;> simp at hck ⊢
      exact hck
     obtain ⟨rfl,rfl,hz2⟩:=hz;clear hA hA2 hck hq
     by_cases hx0 : x0 = 0
     ·have hx1 : x1 = 0:=by
       apply Classical.byContradiction;intro h;exact hz2 ⟨hx0,h⟩
      subst hx0 hx1;clear hz2;go_wp2_with fail;refine gB (HW0.out _) ?_;go_wp2_with fail;refine gB (HW1.out _) ?_;go_wp2_with fail;go_roundg (3 - (k + 1))
      case measure=>omega
      case rel=>exact ⟨k + 1,by omega,by omega,by go_num,(Je : Ext w _),HA2.out⟩
     ·have hx0b : (x0 == 0) = false:=by simpa using hx0
      clear hz2;go_wp2_with fail;refine gB (HW0.out _) ?_;go_wp2_with fail;refine gB (HW1.out _) ?_;go_wp2_with fail;go_roundg (3 - (k + 1))
      case measure=>omega
      case rel=>exact ⟨k + 1,by omega,by omega,by go_num,(Je : Ext w _),HA2.out⟩
    ·have hA2 : res = q:=by rw [if_pos hq] at hA;rw [<- HR3.out,<- hA,if_pos hq]
     clear hA HR3
     cases z0
     ·have hq3 : res = 3:=by rw [hA2,hck];simp
      have HQ:=hH hq3;clear hA2 hck hq hq3;go_wp2_with fail;refine gB (HW0.out _) ?_;go_wp2_with fail;go_ret;refine ⟨Jo (by rw [HQ.out]),?_⟩;exact Je
     ·cases z1
      ·have hq3 : res = 3:=by rw [hA2,hck];simp
       have HQ:=hH hq3;clear hA2 hck hq hq3;go_wp2_with fail;refine gB (HW0.out _) ?_;go_wp2_with fail;refine gB (HW1.out _) ?_;go_wp2_with fail;go_ret;refine ⟨Jo (by rw [HQ.out]),?_⟩;exact Je
      ·have hz : x0 = 0 /\ x1 ≠ 0:=by
        apply Classical.byContradiction;intro h;rw [if_neg (by simp),if_neg h] at hck;exact hq hck
       have hq3 : res = 4:=by rw [hA2,hck,if_neg (by simp),if_pos hz]
       have HQ:=hH hq3;obtain ⟨hx0,hx1⟩:=hz
       have hx1b : (x1 != 0) = true:=by simpa using hx1
       subst hx0;clear hA2 hck hq hq3 hx1;go_wp2_with fail;refine gB (HW0.out _) ?_;go_wp2_with fail;refine gB (HW1.out _) ?_;go_wp2_with fail;go_ret;refine ⟨Jo (by rw [HQ.out]),?_⟩;exact Je
   ·have hk3 : k = 3:=by omega
    subst hk3
    have hr0 : r1 = 0:=by
     have:=HA.out;rw [List.drop_of_length_le (by rw [HL.out];exact Nat.le_refl _)] at this;exact this.symm
    have HZ:=hH (show (if r2 = true then (4 : Int) else 0) = res by rw [<- HR3.out,hr0];simp);have HE2:=hH HE.out;clear HA HE HR3 hr0 HR1;go_wp2_with fail
    go_loopg [2,5,6,39] 3 (fun gg _ _ _ s39 wq=>∃ k : Nat,k <= 3 /\ 3 - k <= gg /\ s39 = .int .i64 k /\ Aside (Ext w wq) /\ Aside (ZM (l.take k) (l.drop k) = r2))
    case atStart=>exact ⟨0,by omega,by omega,rfl,HE2.out,HR2.out⟩
    case round =>
     obtain ⟨k,hk,hg,rfl,HE,HA⟩:=hrel
     by_cases hlt : k < 3
     ·have hkl : k < l.length:=by rw [HL.out];exact hlt
      have hlt' : (k : Int) < 3:=by omega
      have hle' : (k : Int) <= (c : Int):=by omega
      obtain ⟨b,o,rfl,hb,c0,c1,c2⟩:=(HRd.out.ext HE.out).vw_at rfl hkl;have hA:=HA.out;rw [List.drop_eq_getElem_cons hkl,clashes_cons,<- take_snoc_get l k hkl] at hA;have hRT:=(HRd.out).take k (by omega);have HAN:=hH (fun (W : World) (g : Nat) (h : Ext w W) (hg : Row W g (vwc l[k]))=>any_clash W l[k] g (l.take k) _ (hRT.ext h) hg);generalize l[k] = x at *;generalize (l.take k).any (clash x) = q at *;obtain ⟨x0,x1,x2⟩:=x;simp only at c0 c1 c2;unfold vwc at HAN;have HE3:=hH HE.out
      have hlk : (l.take k).length = k:=by rw [List.length_take,HL.out];omega
      clear HE HA hRT hkl hlk
      cases q
      ·rw [Bool.false_or] at hA
       have HA2:=hH hA;clear hA;go_wp2_with fail;refine (HAN.out _ _ Je (Row.newAt rfl)).mono ?_;rintro e w1 ⟨rfl,h1⟩;have H1:=hH h1;clear h1;go_wp2_with fail;go_roundg (3 - (k + 1))
       case measure=>omega
       case rel=>exact ⟨k + 1,by omega,by omega,by go_num,(Je : Ext w _),HA2.out⟩
      ·rw [Bool.true_or] at hA
       have HQ:=hH (show res = 4 by rw [<- HZ.out,<- hA];simp);clear hA;go_wp2_with fail;refine (HAN.out _ _ Je (Row.newAt rfl)).mono ?_;rintro e w1 ⟨rfl,h1⟩;have H1:=hH h1;clear h1;go_wp2_with fail;go_ret;refine ⟨Jo (by rw [HQ.out]),?_⟩;exact Je
     ·have hk3 : k = 3:=by omega
      subst hk3
      have HQ:=hH (show res = 0 by
       have:=HA.out;rw [List.drop_of_length_le (by rw [HL.out];exact Nat.le_refl _)] at this;rw [<- HZ.out,<- this]
       simp [ZM])
      have HE3:=hH HE.out;clear HA HE;go_wp2_with fail;go_ret;exact ⟨Jo (by rw [HQ.out]),HE3.out⟩
 ·rw [if_pos h3]
  have h3b : ((l.length : Int) != 3) = true:=by
   have : (l.length : Int) ≠ 3:=by omega
   simpa using this
  clear hr h3;go_enter Tryz.func72,Tryz.ntmps72;go_wp2_with fail;go_ret;exact ⟨Jo rfl,Ext.refl _⟩

theorem lead_many (p : Vw -> Bool) (g : Nat) (lb : Array Value) (eg : ∀ args w,(callFunc g args).run Tryz.prog w = .ok (.enter g args) w) (l : List Vw) (v : Value) (w : World) (hr : RdL 3 vwc w v l) (h3 : l.length = 3)
  (hp : ∀ W x,Ext w W -> Calls Tryz.prog g (#[.agg (vwc x)] ++ lb) W fun e w'=>e = .returned (.bool (p x)) /\ Ext W w') :
  Calls Tryz.prog 141 #[v,.func (.func g) #[] lb] w fun e w'=>e = .returned (.int .i64 (J9 p l)) /\ Ext w w':=by
 obtain ⟨A,c,rfl,hmc,hm0⟩:=hr.form;rw [h3] at hr ⊢;have HRd:=hH hr;have HL:=hH h3;have HP:=hH hp;generalize hR : J9 p l = r;have HR:=hH hR;clear hr h3 hp hmc hm0 hR;go_enter Tryz.func141,Tryz.ntmps141;go_wp2_with fail
 go_loopg [5,7,10] 3 (fun gg s5 _ s10 wr=>∃ (k : Nat) (n : Int),k <= 3 /\ 3 - k <= gg /\ s5 = .int .i64 n /\ s10 = .int .i64 k /\ 0 <= n /\ n <= k /\ Aside (Ext w wr) /\ Aside (n + J9 p (l.drop k) = r))
 case atStart=>exact ⟨0,0,by omega,by omega,rfl,rfl,by omega,by omega,Ext.refl _,by rw [Int.zero_add];exact HR.out⟩
 case round =>
  obtain ⟨k,n,hk,hg,rfl,rfl,hn0,hnk,HE,HA⟩:=hrel
  by_cases hlt : k < 3
  ·have hkl : k < l.length:=by rw [HL.out];exact hlt
   have hlt' : (k : Int) < 3:=by omega
   obtain ⟨b,o,rfl,hb,c0,c1,c2⟩:=(HRd.out.ext HE.out).vw_at rfl hkl;have hA:=HA.out;rw [List.drop_eq_getElem_cons hkl,XF] at hA;have hcall:=HP.out;generalize l[k] = x at *;have hcx:=fun W h=>hcall W x h;generalize p x = q at *;obtain ⟨x0,x1,x2⟩:=x;simp only at c0 c1 c2;unfold vwc at hcx;have HC:=hH hcx;have HE2:=hH HE.out;have hw1 : IntKind.i64.wrap (n + 1) = n + 1:=IntWalk.i64_in _ (by omega);clear hcall hcx HE HA hkl
   cases q
   ·have HA2:=hH (show n + J9 p (l.drop (k + 1)) = r by simpa using hA)
    clear hA
    go_wp2_with (go_at_fn g;refine (HC.out _ Je).mono ?_;rintro e w1 ⟨rfl,h1⟩;have H1:=hH h1;clear h1)
    go_roundg (3 - (k + 1))
    case measure=>omega
    case rel=>exact ⟨k + 1,n,by omega,by omega,rfl,by go_num,by omega,by push_cast;omega,(Je : Ext w _),HA2.out⟩
   ·have HA2:=hH (show n + 1 + J9 p (l.drop (k + 1)) = r by simp at hA;omega)
    clear hA
    go_wp2_with (go_at_fn g;refine (HC.out _ Je).mono ?_;rintro e w1 ⟨rfl,h1⟩;have H1:=hH h1;clear h1)
    go_roundg (3 - (k + 1))
    case measure=>omega
    case rel=>exact ⟨k + 1,n + 1,by omega,by omega,by go_num,by go_num,by omega,by push_cast;omega,(Je : Ext w _),HA2.out⟩
  ·have hk3 : k = 3:=by omega
   subst hk3
   have HQ:=hH (show n = r by
    have:=HA.out;rw [List.drop_of_length_le (by rw [HL.out];exact Nat.le_refl _)] at this
    simpa [J9] using this)
   have HE3:=hH HE.out;clear HA HE;go_wp2_with fail;go_ret;exact ⟨Jo (by rw [HQ.out]),HE3.out⟩

theorem lead_greatest (l : List Vw) (v : Value) (w : World) (hr : RdL 3 vwc w v l) (h3 : l.length = 3) :
  Calls Tryz.prog 138 #[v] w fun e w'=>e = .returned (.int .i64 (Zb 0 l)) /\ Ext w w':=by
 obtain ⟨A,c,rfl,hmc,hm0⟩:=hr.form;rw [h3] at hr ⊢;have HRd:=hH hr;have HL:=hH h3;generalize hR : Zb 0 l = r;have HR:=hH hR;clear hr h3 hmc hm0 hR;go_enter Tryz.func138,Tryz.ntmps138;go_wp2_with fail
 go_loopg [3,5,8] 3 (fun gg s3 _ s8 wr=>∃ (k : Nat) (n : Int),k <= 3 /\ 3 - k <= gg /\ s3 = .int .i64 n /\ s8 = .int .i64 k /\ Aside (Ext w wr) /\ Aside (Zb n (l.drop k) = r))
 case atStart=>exact ⟨0,0,by omega,by omega,rfl,rfl,Ext.refl _,HR.out⟩
 case round =>
  obtain ⟨k,n,hk,hg,rfl,rfl,HE,HA⟩:=hrel
  by_cases hlt : k < 3
  ·have hkl : k < l.length:=by rw [HL.out];exact hlt
   have hlt' : (k : Int) < 3:=by omega
   obtain ⟨b,o,rfl,hb,c0,c1,c2⟩:=(HRd.out.ext HE.out).vw_at rfl hkl;have hA:=HA.out;rw [List.drop_eq_getElem_cons hkl] at hA;unfold Zb at hA;generalize l[k] = x at *;obtain ⟨x0,x1,x2⟩:=x;simp only at c0 c1 c2 hA;have HE2:=hH HE.out;have HA2:=hH hA;clear HE HA hkl hA;go_wp2_with fail
   all_goals
    go_roundg (3 - (k + 1))
    case measure=>omega
    case rel =>
     refine ⟨k + 1,_,by omega,by omega,rfl,by go_num,(Je : Ext w _),?_⟩;have hA:=HA2.out
     first
      | exact hA
      | (rw [show max n x0 = x0 by omega] at hA;exact hA)
      | (rw [show max n x0 = n by omega] at hA;exact hA)
  ·have hk3 : k = 3:=by omega
   subst hk3
   have HQ:=hH (show n = r by
    have:=HA.out;rw [List.drop_of_length_le (by rw [HL.out];exact Nat.le_refl _)] at this
    exact this)
   have HE3:=hH HE.out;clear HA HE;go_wp2_with fail;go_ret;exact ⟨Jo (by rw [HQ.out]),HE3.out⟩

theorem ixBy_find {α : Type} (p : α -> Bool) (l : List α) {x : α} (h : l.find? p = some x) : ∃ i : Nat,XI p l = i /\ ∃ hi : i < l.length,l[i] = x:=by
 rw [List.find?_eq_some_iff_getElem] at h;obtain ⟨hp,i,hi,hx,hj⟩:=h;refine ⟨i,?_,hi,hx⟩;unfold XI;rw [XP hi (fun j hj'=>by simpa using hj j hj') (by rw [hx];exact hp)]
theorem top_find {l : List Vw} (hr : RightV l) : ∃ v,l.find? (XB (Zb 0 l)) = some v:=by
 cases hf : l.find? (XB (Zb 0 l)) with
 | some v=>exact ⟨v,rfl⟩
 | none =>
  exfalso
  rw [List.find?_eq_none] at hf
  rcases topV_mem 0 l with h | ⟨v,hv,h⟩
  ·have hp : 0 < l.length:=by rw [hr.1];omega
   have hm:=List.getElem_mem hp;have h1:=le_topV 0 l _ hm;have h2:=(Z8 _).1 (hr.2.1 _ hm);have h3:=hf _ hm;simp only [XB,beq_iff_eq] at h3
   omega
  ·have h3:=hf _ hv
   simp [XB,h] at h3

theorem lead_Who (l : List Vw) (v : Value) (w : World) (hr : RdL 3 vwc w v l) (hd : JI l = 0) :
  Calls Tryz.prog 89 #[v] w fun e w'=>e = .returned (.tuple #[.int .i64 (whoV l).1,.bool (whoV l).2]) /\ Ext w w':=by
 have hR:=(Zr l).1 hd;obtain ⟨x,hx⟩:=top_find hR;obtain ⟨i,hi,hil,hlx⟩:=ixBy_find _ _ hx
 have hwt : whoTop l = x.JE:=by unfold whoTop;rw [hx]
 have hxr:=(Z8 x).1 (hR.2.1 x (by rw [<- hlx];exact List.getElem_mem hil));obtain ⟨n,hn⟩ : ∃ n : Nat,x.JE = n:=⟨x.JE.toNat,by omega⟩
 have hn3 : n < l.length:=by rw [hR.1];omega
 have hup : isUp l x.JE = l[n].up:=by
  unfold isUp;rw [hn,Int.toNat_natCast,List.getElem?_eq_getElem hn3]
 have HG:=hH (fun w' (h : Ext w w')=>lead_greatest l v w' (hr.ext h) hR.1);have HI:=hH (fun (w' : World) (g : Nat) (h : Ext w w') (hg : Row w' g #[.int .i64 (Zb 0 l)])=>IndexFunc_view (XB (Zb 0 l)) 140 #[.pointer (some ⟨g,0,none⟩)] (fun args w=>by simp [go_sem]) l v w' (hr.ext h) (fun W x h=>lead_Who1 x (Zb 0 l) g W (hg.ext h)));have HM:=hH (fun (w' : World) (g : Nat) (h : Ext w w') (hg : Row w' g #[.int .i64 (Zb 0 l)])=>lead_many (upTop (Zb 0 l)) 142 #[.pointer (some ⟨g,0,none⟩)] (fun args w=>by simp [go_sem]) l v w' (hr.ext h) hR.1 (fun W x h=>lead_Who2 x (Zb 0 l) g W (hg.ext h)));have hcnt:=countV_nonneg (upTop (Zb 0 l)) l
 have hcl : J9 (upTop (Zb 0 l)) l <= 3:=by
  have : ∀ m : List Vw,J9 (upTop (Zb 0 l)) m <= m.length:=by
   intro m
   induction m with
   | nil=>simp [J9]
   | cons a m ih=>rw [XF,List.length_cons];push_cast;split <;> omega
  have:=this l;rw [hR.1] at this;exact this
 unfold whoV leads;rw [hwt,hup];rw [hi] at HI
 have hli : l[i].JE = n:=by rw [hlx];exact hn
 obtain ⟨A,c,rfl,-,-⟩:=hr.form;obtain ⟨b,o,rfl,hb,c0,c1,c2⟩:=hr.vw_at rfl hil;obtain ⟨b',o',hA,-,d0,d1,d2⟩:=hr.vw_at rfl hn3
 injection hA with hA
 injection hA with h1 h2
 subst h1 h2;rw [hli] at c1;rw [hn]
 have hi3 : i < 3:=by rw [<- hR.1];exact hil
 have hn3' : n < 3:=by rw [<- hR.1];exact hn3
 rw [hR.1] at HG HI HM ⊢;generalize l[n].up = u at *;generalize Zb 0 l = top at *;generalize J9 (upTop top) l = m at *;generalize hres : (if (decide (0 < top) && decide (3 < 2 * m) && u) = true then ((n : Int),true) else (0,false)) = res;have HRES:=hH hres;have hw2 : IntKind.i64.wrap (2 * m) = 2 * m:=IntWalk.i64_in _ (by omega)
 have hii : (i : Int) < 3:=by omega
 have hni : (n : Int) < 3:=by omega
 clear hres hr hd hR hx hlx hwt hxr hn hup hli hi hil hn3 c0 c2 d0 d1 hcnt;go_enter Tryz.func89,Tryz.ntmps89;go_wp2_with fail;(refine gA (HG.out _ Je) fun w1 H1 hz1=>?_);go_wp2_with fail
 have hc1 : (w1.alloc (.cells #[.int .i64 top] 3)).cell? ⟨b,o + i * 3 + 1,none⟩ = some (.int .i64 n):=by
  have hE : Ext w (w1.alloc (.cells #[.int .i64 top] 3)):=by exact Je
  exact (hE.cells b _ hb).trans c1
 refine gA (HI.out _ _ Je (Row.newAt rfl)) fun w2 H2 hz2=>?_;(refine Ji w2 w1.heap.size fun q2_0 f2_0 l2_0 R2_0=>?_)
 have hE2 : Ext w w2:=by exact Je
 have e1:=(hE2.cells b (o + i * 3 + 1) hb).trans c1;go_wp2_with fail;refine (HM.out _ _ hE2 R2_0.out).mono ?_;rintro e w3 ⟨rfl,h3⟩;have H3:=hH h3;clear h3;(refine Ji w3 w1.heap.size fun q3_0 f3_0 l3_0 R3_0=>?_)
 have hE3 : Ext w w3:=by exact Je
 have e2:=(hE3.cells b (o + n * 3 + 2) hb).trans d2;have HE3:=hH hE3;clear hE2 hE3
 by_cases ht : 0 < top
 ·have htd : decide (0 < top) = true:=by simpa using ht
  by_cases hm : 3 < 2 * m
  ·have hmd : decide (3 < 2 * m) = true:=by simpa using hm
   cases u
   ·have HQ:=hH (show res = (0,false) by rw [<- HRES.out];simp)
    clear HRES;go_wp2_with fail;go_ret2;exact ⟨by rw [HQ.out];rfl,HE3.out⟩
   ·have HQ:=hH (show res = ((n : Int),true) by rw [<- HRES.out];simp [ht,hm])
    clear HRES;go_wp2_with fail;go_ret2;exact ⟨by rw [HQ.out];rfl,HE3.out⟩
  ·have hmd : decide (3 < 2 * m) = false:=by simpa using hm
   have HQ:=hH (show res = (0,false) by rw [<- HRES.out];simp [hm]);clear HRES;go_wp2_with fail;go_ret2;exact ⟨by rw [HQ.out];rfl,HE3.out⟩
 ·have htd : decide (0 < top) = false:=by simpa using ht
  have HQ:=hH (show res = (0,false) by rw [<- HRES.out];simp [ht]);clear HRES;go_wp2_with fail;go_ret2;exact ⟨by rw [HQ.out];rfl,HE3.out⟩

theorem lead_Now (l : List Vw) (v : Value) (w : World) (hr : RdL 3 vwc w v l) :
  Calls Tryz.prog 37 #[v] w fun e w'=>e = .returned (.tuple #[.int .i64 (nowAll l).1,.bool (nowAll l).2.1,.int .i64 (nowAll l).2.2]) /\ Ext w w':=by
 have HC:=hH (fun w' (h : Ext w w')=>lead_Check l v w' (hr.ext h));obtain ⟨A,c,rfl,-,-⟩:=hr.form
 by_cases hd : JI l = 0
 ·have HW:=hH (fun w' (h : Ext w w')=>lead_Who l _ w' (hr.ext h) hd)
  have hn : nowAll l = ((whoV l).1,(whoV l).2,0):=by unfold nowAll;rw [if_neg (by rw [hd];decide)]
  rw [hn];rw [hd] at HC;clear hn hd hr;generalize whoV l = X at *;obtain ⟨x1,x2⟩:=X;simp only at HW ⊢;go_enter Tryz.func37,Tryz.ntmps37;go_wp2_with fail;(refine gA (HC.out _ Je) fun w1 H1 hz1=>?_);go_wp2_with fail;(refine gA (HW.out _ Je) fun w2 H2 hz2=>?_);go_wp2_with fail;refine bodyPost_ret (v:=.tuple #[.int .i64 x1,.bool x2,.int .i64 0]) (by simp [results,Tryz.results37,go_sem, *]) rfl ⟨rfl,?_⟩;exact Je
 ·have hn : nowAll l = (0,false,JI l):=by unfold nowAll;rw [if_pos hd]
  rw [hn]
  have hb : (JI l != 0) = true:=by simpa using hd
  generalize JI l = r at *;clear hn hd hr;go_enter Tryz.func37,Tryz.ntmps37;go_wp2_with fail;(refine gA (HC.out _ Je) fun w1 H1 hz1=>?_);go_wp2_with fail;refine bodyPost_ret (v:=.tuple #[.int .i64 0,.bool false,.int .i64 r]) (by simp [results,Tryz.results37,go_sem, *]) rfl ⟨rfl,?_⟩;exact Je

theorem info_vw : (Tryz.prog.info? 110).map (fun i=>(i.zero,i.size,i.bytes)) = some (some (.agg #[.int .i64 0,.int .i64 0,.bool false]),3,24):=by kernel_rfl

set_option maxRecDepth 100000 in
theorem Clone_vw (l : List Vw) (v : Value) (w : World) (hr : RdL 3 vwc w v l) (hb : l.length * 24 <= 140737488355328) :
  Calls Tryz.prog 145 #[v] w fun e w'=>∃ v',e = .returned v' /\ Ext w w' /\ Jh 110 3 vwc w.heap.size w' v' l:=by
 obtain ⟨i0,hi,hz0,hz1,hz2⟩:=info_parts info_vw;obtain ⟨A,c,rfl,h1,h2,h3⟩:=hr;have hlen:=Zv (enc:=vwc) (k:=3) (fun _=>rfl) l;have hm : l.length <= maxLen:=Nat.le_trans h1 h2
 cases A with
 | none =>
  have hl : l = []:=by
   cases l with
   | nil=>rfl
   | cons x l =>
    obtain ⟨b,o,h,_⟩:=h3 (by simp)
    cases h
  subst hl;clear h3 h1 h2 hlen;have hq : ∀ (w : World) (a : Option Addr) (n c n' c' : Nat),(binOp .eql 30 (.slice a n c) (.slice none n' c')).run Tryz.prog w = .ok (.bool a.isNone) w:=fun w a n c n' c'=>Lib.run_eql_slice_nil w _ _ a n c n' c' Tryz.underlying30;go_enter Tryz.func145,Tryz.ntmps145;go_wp2_with fail;go_ret;exact ⟨_,rfl,Ext.refl _,Jh.nil⟩
 | some ad =>
  have hnews : ∀ j u,(encs vwc l)[j]? = some u -> w.cell? (ad.add j) = some u:=by
   intro j u hu;have hj : j < (encs vwc l).length:=(List.getElem?_eq_some_iff.1 hu).1
   have hj2 : j / 3 < l.length:=by omega
   obtain ⟨b,o,hA,hb,hc⟩:=h3 (by omega)
   injection hA with hA
   subst hA;have hg:=XV (enc:=vwc) (k:=3) (fun _=>rfl) l (j / 3) (j % 3) hj2 (by omega);rw [show j / 3 * 3 + j % 3 = j from by omega,hu] at hg;have:=hc (j / 3) hj2 (j % 3) u (by rw [show l[j / 3]! = l[j / 3] from getElem!_pos l (j / 3) hj2];exact hg.symm);rw [show o + j / 3 * 3 + j % 3 = o + j from by omega] at this
   rwa [show (⟨b,o,none⟩ : Addr).add j = ⟨b,o + j,none⟩ from by unfold Addr.add;split <;> simp_all]
  have hone : ∀ u ∈ encs vwc l,u.oneCell' = true:=by
   intro u hu;obtain ⟨x,-,hx⟩:=List.mem_flatMap.1 hu
   simp [vwc] at hx
   (rcases hx with rfl | rfl | rfl) <;> rfl
  have hq : ∀ (w : World) (a : Option Addr) (n c n' c' : Nat),(binOp .eql 30 (.slice a n c) (.slice none n' c')).run Tryz.prog w = .ok (.bool a.isNone) w:=fun w a n c n' c'=>Lib.run_eql_slice_nil w _ _ a n c n' c' Tryz.underlying30;have HN:=hH hnews;have HL:=hH hlen;clear h3 hnews hlen;go_enter Tryz.func145,Tryz.ntmps145
  go_wp2_with (at_builtin;refine wpList_append_own _ rfl _ _ 30 rfl w.heap.size 110 i0 (.agg #[.int .i64 0,.int .i64 0,.bool false]) 3 24 Tryz.underlying30 hi hz0 hz1 hz2 rfl (by decide) _ _ _ rfl (World.ownsRow_made w #[] 0 (Nat.le_refl _) (Nat.zero_le _) (by simp)) ad l.length c (encs vwc l) rfl ?qc1 ?qc2 ?qc3 ?qc4 ?qc5 ?qc6 ?_)
  case qc1=>exact HL.out
  case qc2 =>
   intro j u hj;exact Lib.cell?_alloc_some _ (HN.out j u hj)
  case qc3=>exact hone
  case qc4=>rw [Nat.zero_add];exact hm
  case qc5=>rw [Nat.zero_add];exact hb
  case qc6=>simp
  intro v' w1 hown hgrow hnil
  go_wp2
  go_ret;refine ⟨v',rfl,?_,?_⟩
  ·exact ((Ext.refl w).alloc _).grown hgrow (by intro k hk;simp [Value.ownBlock] at hk;omega)
  ·unfold Jh;simpa using hown


structure Gv where
 id : Int
 zone : Int
 seq : Int
 Jn : Value
 ver : Int
 ids : Value
 left : Int
 JP : Int
instance : Inhabited Gv:=⟨⟨0,0,0,.slice none 0 0,0,.slice none 0 0,0,0⟩⟩
def gvc (g : Gv) : Array Value:=#[.int .i64 g.id,.int .i64 g.zone,.int .i64 g.seq,g.Jn,.int .i64 g.ver,g.ids,.int .i64 g.left,.int .i64 g.JP]
theorem gvc_size (g : Gv) : (gvc g).size = 8:=rfl
theorem info_gt : (Tryz.prog.info? 52).map (fun i=>(i.zero,i.size,i.bytes)) = some (some (.agg #[.int .i64 0,.int .i64 0,.int .i64 0,.slice none 0 0,.int .i64 0,.slice none 0 0,.int .i64 0,.int .i64 0]),8,96):=by kernel_rfl
theorem info_vw0 : (Tryz.prog.info? 110).map (fun i=>(i.zero,i.size,i.bytes)) = some (some (.agg #[.int .i64 0,.int .i64 0,.bool false]),3,24):=by kernel_rfl
def XN (i z : Int) : Gv:=⟨i,z,0,.slice none 0 0,0,.slice none 0 0,9,100⟩
def Zm : List Gv:=[XN 0 1,XN 1 2,XN 2 4]
def Xe : List Vw:=[⟨0,0,true⟩,⟨0,0,true⟩,⟨0,0,true⟩]
theorem newgate_one (i z : Int) : ∀ u ∈ encs gvc [XN i z],u.oneCell' = true:=by
 intro u hu
 simp [encs,gvc,XN] at hu
 (rcases hu with rfl | rfl | rfl | rfl | rfl | rfl | rfl | rfl) <;> rfl
theorem view_one : ∀ u ∈ encs vwc [⟨0,0,true⟩],u.oneCell' = true:=by
 intro u hu
 simp [encs,vwc] at hu
 (rcases hu with rfl | rfl | rfl) <;> rfl

set_option maxRecDepth 100000 in
theorem station_New (w : World) :
  Calls Tryz.prog 20 #[] w fun e w'=>∃ gs vs,e = .returned (.agg #[.slice none 0 0,.slice none 0 0,.slice none 0 0,.int .i64 0,.slice none 0 0,gs,vs]) /\ Ext w w' /\ Jh 52 8 gvc w.heap.size w' gs Zm /\ Jh 110 3 vwc w.heap.size w' vs Xe:=by
 obtain ⟨i0,hi,hz0,hz1,hz2⟩:=info_parts info_gt;obtain ⟨j0,ji,jz0,jz1,jz2⟩:=info_parts info_vw0;go_enter Tryz.func20,Tryz.ntmps20;go_wp2_with fail
 go_loopg [2,3] 3 (fun gg _ s3 wr=>∃ (k : Nat) (A : Option Addr) (c : Nat),k <= 3 /\ 3 - k <= gg /\ s3 = .int .i64 k /\ Aside (Ext w wr /\ Row wr (w.heap.size + 1) #[.slice none 0 0,.slice none 0 0,.slice none 0 0,.int .i64 0,.slice none 0 0,.slice A k c,.slice none 0 0] /\ (∃ cs,Row wr w.heap.size cs /\ cs.size = 7)) /\ Aside (Jh 52 8 gvc (w.heap.size + 1 + 1) wr (.slice A k c) (Zm.take k)))
 case atStart=>exact ⟨0,none,0,by omega,by omega,rfl,⟨((Ext.refl _).alloc _).alloc _,Row.newAt (by simp),⟨_,(Row.newAt rfl).alloc,rfl⟩⟩,Jh.nil⟩
 case round =>
  obtain ⟨k,A,c,hk,hg,rfl,HA,HB⟩:=hrel
  have h4 : k = 0 \/ k = 1 \/ k = 2 \/ k = 3:=by omega
  have hq:=HA.out.2.1.2.1;have hf:=HA.out.2.1.2.2;have hlt:=HA.out.2.1.1;have HA2:=hH HA.out;have HB2:=hH HB.out;clear HA HB
  rcases h4 with rfl | rfl | rfl | rfl
  ·go_wp2_with fail
   go_region_law (refine step_append_rd (enc:=gvc) (k:=8) _ rfl (.tmp 7) (.tmp 13) 29 rfl (w.heap.size + 1 + 1) 52 i0 (.agg #[.int .i64 0,.int .i64 0,.int .i64 0,.slice none 0 0,.int .i64 0,.slice none 0 0,.int .i64 0,.int .i64 0]) 96 Tryz.underlying29 hi hz0 hz1 hz2 rfl (by decide) gvc_size (.slice A 0 c) (Zm.take 0) (by simp [Act.eval,Act.put]) (HB2.out.drew.alloc _) (.slice (some ⟨wr.heap.size,0,none⟩) 1 1) [XN 0 1] (by simp [Act.eval,Act.put]) (RdL.lit (enc:=gvc) (XN 0 1) rfl rfl) (newgate_one 0 1) (by unfold maxLen;simp [Zm]) (by simp [Zm]) (by simp;omega) ?_;intro v' w' ho' hg' hn';obtain ⟨A',c',rfl⟩:=ho'.form;have hr':=Row.grown (g:=w.heap.size + 1) (HA2.out.2.1.drew.alloc) hg' (fun h=>by have:=(HB2.out.lt _ h.symm).1;omega);have HE':=hH (Ext.grown (HA2.out.1.drew.alloc _) hg' (fun j hj=>by have:=(HB2.out.lt j hj).1;omega));have HC':=hH (HA2.out.2.2.imp (fun cs h=>And.intro (Row.grown (g:=w.heap.size) (h.1.drew.alloc) hg' (fun h=>by have:=(HB2.out.lt _ h.symm).1;omega)) h.2));have HR':=hH hr';have HO':=hH ho';have hq':=hr'.2.1;have hf':=hr'.2.2;have hlt':=hr'.1;clear hr' hg' hn' ho')
   all_goals
    go_wp2_with fail;go_roundg (3 - 1)
    case measure=>omega
    case rel =>
     obtain ⟨cs,hcs,hcz⟩:=HC'.out;refine ⟨1,A',c',by omega,by omega,by go_num,⟨HE'.out.setCell (by simp) _,?_,⟨cs,Row.far (by simp) hcs,hcz⟩⟩,Jh.Jl (by simp) HO'.out⟩;have:=HR'.out.J4 (i:=5) (u:=.slice A' 1 c')
     simpa [Zm] using this
  ·go_wp2_with fail
   go_region_law (refine step_append_rd (enc:=gvc) (k:=8) _ rfl (.tmp 7) (.tmp 13) 29 rfl (w.heap.size + 1 + 1) 52 i0 (.agg #[.int .i64 0,.int .i64 0,.int .i64 0,.slice none 0 0,.int .i64 0,.slice none 0 0,.int .i64 0,.int .i64 0]) 96 Tryz.underlying29 hi hz0 hz1 hz2 rfl (by decide) gvc_size (.slice A 1 c) (Zm.take 1) (by simp [Act.eval,Act.put]) (HB2.out.drew.alloc _) (.slice (some ⟨wr.heap.size,0,none⟩) 1 1) [XN 1 2] (by simp [Act.eval,Act.put]) (RdL.lit (enc:=gvc) (XN 1 2) rfl rfl) (newgate_one 1 2) (by unfold maxLen;simp [Zm]) (by simp [Zm]) (by simp;omega) ?_;intro v' w' ho' hg' hn';obtain ⟨A',c',rfl⟩:=ho'.form;have hr':=Row.grown (g:=w.heap.size + 1) (HA2.out.2.1.drew.alloc) hg' (fun h=>by have:=(HB2.out.lt _ h.symm).1;omega);have HE':=hH (Ext.grown (HA2.out.1.drew.alloc _) hg' (fun j hj=>by have:=(HB2.out.lt j hj).1;omega));have HC':=hH (HA2.out.2.2.imp (fun cs h=>And.intro (Row.grown (g:=w.heap.size) (h.1.drew.alloc) hg' (fun h=>by have:=(HB2.out.lt _ h.symm).1;omega)) h.2));have HR':=hH hr';have HO':=hH ho';have hq':=hr'.2.1;have hf':=hr'.2.2;have hlt':=hr'.1;clear hr' hg' hn' ho')
   all_goals
    go_wp2_with fail;go_roundg (3 - 2)
    case measure=>omega
    case rel =>
     obtain ⟨cs,hcs,hcz⟩:=HC'.out;refine ⟨2,A',c',by omega,by omega,by go_num,⟨HE'.out.setCell (by simp) _,?_,⟨cs,Row.far (by simp) hcs,hcz⟩⟩,Jh.Jl (by simp) HO'.out⟩;have:=HR'.out.J4 (i:=5) (u:=.slice A' 2 c')
     simpa [Zm] using this
  ·go_wp2_with fail
   go_region_law (refine step_append_rd (enc:=gvc) (k:=8) _ rfl (.tmp 7) (.tmp 13) 29 rfl (w.heap.size + 1 + 1) 52 i0 (.agg #[.int .i64 0,.int .i64 0,.int .i64 0,.slice none 0 0,.int .i64 0,.slice none 0 0,.int .i64 0,.int .i64 0]) 96 Tryz.underlying29 hi hz0 hz1 hz2 rfl (by decide) gvc_size (.slice A 2 c) (Zm.take 2) (by simp [Act.eval,Act.put]) (HB2.out.drew.alloc _) (.slice (some ⟨wr.heap.size,0,none⟩) 1 1) [XN 2 4] (by simp [Act.eval,Act.put]) (RdL.lit (enc:=gvc) (XN 2 4) rfl rfl) (newgate_one 2 4) (by unfold maxLen;simp [Zm]) (by simp [Zm]) (by simp;omega) ?_;intro v' w' ho' hg' hn';obtain ⟨A',c',rfl⟩:=ho'.form;have hr':=Row.grown (g:=w.heap.size + 1) (HA2.out.2.1.drew.alloc) hg' (fun h=>by have:=(HB2.out.lt _ h.symm).1;omega);have HE':=hH (Ext.grown (HA2.out.1.drew.alloc _) hg' (fun j hj=>by have:=(HB2.out.lt j hj).1;omega));have HC':=hH (HA2.out.2.2.imp (fun cs h=>And.intro (Row.grown (g:=w.heap.size) (h.1.drew.alloc) hg' (fun h=>by have:=(HB2.out.lt _ h.symm).1;omega)) h.2));have HR':=hH hr';have HO':=hH ho';have hq':=hr'.2.1;have hf':=hr'.2.2;have hlt':=hr'.1;clear hr' hg' hn' ho')
   all_goals
    go_wp2_with fail;go_roundg (3 - 3)
    case measure=>omega
    case rel =>
     obtain ⟨cs,hcs,hcz⟩:=HC'.out;refine ⟨3,A',c',by omega,by omega,by go_num,⟨HE'.out.setCell (by simp) _,?_,⟨cs,Row.far (by simp) hcs,hcz⟩⟩,Jh.Jl (by simp) HO'.out⟩;have:=HR'.out.J4 (i:=5) (u:=.slice A' 3 c')
     simpa [Zm] using this
  ·obtain ⟨cs0,hc0,hz0'⟩:=HA2.out.2.2
   have HC0:=hH hc0;go_wp2_with fail
   go_loopg [17] 3 (fun gg s17 wq=>∃ (k : Nat) (A2 : Option Addr) (c2 : Nat),k <= 3 /\ 3 - k <= gg /\ s17 = .int .i64 k /\ Aside (Ext w wq /\ Row wq (w.heap.size + 1) #[.slice none 0 0,.slice none 0 0,.slice none 0 0,.int .i64 0,.slice none 0 0,.slice A 3 c,.slice A2 k c2] /\ Row wq w.heap.size cs0) /\ Aside (Jh 52 8 gvc (w.heap.size + 1 + 1) wq (.slice A 3 c) Zm /\ Jh 110 3 vwc (w.heap.size + 1 + 1) wq (.slice A2 k c2) (Xe.take k) /\ (∀ q,(Value.slice A2 k c2).ownBlock = some q -> (Value.slice A 3 c).ownBlock ≠ some q)))
   case atStart=>exact ⟨0,none,0,by omega,by omega,rfl,⟨HA2.out.1,HA2.out.2.1,HC0.out⟩,HB2.out,Jh.nil,fun q h=>by cases h⟩
   case round =>
    obtain ⟨k,A2,c2,hk,hg,rfl,HA,HB⟩:=hrel;have hq:=HA.out.2.1.2.1;have hf:=HA.out.2.1.2.2;have hlt:=HA.out.2.1.1;have hq0:=HA.out.2.2.2.1;have hf0:=HA.out.2.2.2.2;have hlt0:=HA.out.2.2.1;have HA3:=hH HA.out;have HB3:=hH HB.out;clear HA HB HA2 HB2
    by_cases hlt3 : k < 3
    ·have hlt' : (k : Int) < 3:=by omega
     have hw2:=HA3.out.1.size
     go_wp2_with (at_builtin;refine JC (enc:=vwc) (k:=3) _ rfl _ _ 30 rfl (w.heap.size + 1 + 1) 110 j0 (.agg #[.int .i64 0,.int .i64 0,.bool false]) 24 Tryz.underlying30 ji jz0 jz1 jz2 rfl (by decide) JY _ (Xe.take k) rfl (HB3.out.2.1.alloc _) _ [⟨0,0,true⟩] rfl (RdL.lit (enc:=vwc) ⟨0,0,true⟩ ?qa0 ?qa1) view_one ?qa3 ?qa4 ?qa5 ?_)
     case qa0=>rfl
     case qa1=>rfl
     case qa3=>unfold maxLen;simp;omega
     case qa4=>simp;omega
     case qa5=>simp only [World.size_alloc];omega
     intro v' w' ho' hg' hn'
     have ht : Xe.take k ++ [⟨0,0,true⟩] = Xe.take (k + 1):=by
      have h3 : k = 0 \/ k = 1 \/ k = 2:=by omega
      rcases h3 with rfl | rfl | rfl <;> rfl
     have hl : (Xe.take (k + 1)).length = k + 1:=by rw [List.length_take];simp [Xe];omega
     rw [ht] at ho';obtain ⟨A',c',rfl⟩:=ho'.form;rw [hl] at ho' hn' ⊢
     have hfar : ∀ b,b < w.heap.size + 1 + 1 -> some b ≠ (Value.slice A2 k c2).ownBlock:=fun b hb h=>by
      have:=(HB3.out.2.1.lt _ h.symm).1
      omega
     have hE' : Ext w w':=Ext.grown (HA3.out.1.alloc _) hg' (fun j hj=>by have:=(HB3.out.2.1.lt j hj).1;omega);have hr':=Row.grown (g:=w.heap.size + 1) (HA3.out.2.1.alloc) hg' (hfar _ (by omega));have hr0:=Row.grown (g:=w.heap.size) (HA3.out.2.2.alloc) hg' (hfar _ (by omega))
     have hgk : Jh 52 8 gvc (w.heap.size + 1 + 1) w' (.slice A 3 c) Zm:=(HB3.out.1.alloc _).kept hg' (.inr (fun h=>by
      cases hA2 : (Value.slice A2 k c2).ownBlock with
      | none =>
       rw [hA2] at h;have hz:=HB3.out.1.2
       rcases hz with ⟨hz,hz0⟩ | ⟨gg,cap,cur,hz,-⟩
       ·simp [Zm] at hz0
       ·rw [hz] at h;cases h
      | some q=>exact HB3.out.2.2 q hA2 (h.trans hA2)))
     have hne : ∀ q,(Value.slice A' (k + 1) c').ownBlock = some q -> (Value.slice A 3 c).ownBlock ≠ some q:=by
      intro q hq2 hq3
      rcases hn' with h | h
      ·exact HB3.out.2.2 q (by rw [<- h];exact hq2) hq3
      ·rw [h] at hq2
       injection hq2 with hq2
       have:=(HB3.out.1.lt _ hq3).2;(try simp only [World.size_alloc] at hq2);(try simp only [World.size_alloc] at this)
       omega
     have HE':=hH hE';have HR':=hH hr';have HR0:=hH hr0;have HO':=hH (And.intro hgk (And.intro ho' hne));have hq':=hr'.2.1;have hf':=hr'.2.2;have hlt2:=hr'.1;have hlt0':=hr0.1;clear hE' hr' hr0 hgk hne hg' hn' ho' ht hl hfar;go_wp2_with fail;go_roundg (3 - (k + 1))
     case measure=>omega
     case rel =>
      refine ⟨k + 1,A',c',by omega,by omega,by go_num,⟨HE'.out.setCell (by simp) _,?_,Row.far (by simp) HR0.out⟩,Jh.Jl (by simp) HO'.out.1,Jh.Jl (by simp) HO'.out.2.1,HO'.out.2.2⟩;have:=HR'.out.J4 (i:=6) (u:=.slice A' (k + 1) c')
      simpa using this
    ·have hk3 : k = 3:=by omega
     subst hk3
     match cs0,hz0' with
     | ⟨[z0,z1,z2,z3,z4,z5,z6]⟩,_ =>
      go_wp2_with fail;refine bodyPost_ret (v:=.agg #[.slice none 0 0,.slice none 0 0,.slice none 0 0,.int .i64 0,.slice none 0 0,.slice A 3 c,.slice A2 3 c2]) (by simp [results,Tryz.results20,go_sem, *]) rfl ⟨_,_,rfl,?_,?_,?_⟩
      ·repeat (refine Ext.setCell ?_ (Nat.le_refl _) _)
       exact HA3.out.1
      ·refine Jh.lower (base:=w.heap.size + 1 + 1) ?_ (by omega)
       repeat (refine Jh.Jl (by simp <;> omega) ?_)
       exact HB3.out.1
      ·refine Jh.lower (base:=w.heap.size + 1 + 1) ?_ (by omega)
       repeat (refine Jh.Jl (by simp <;> omega) ?_)
       exact HB3.out.2.1

theorem part_step {α : Type} {m l : List α} {k : Nat} (h : m.length = l.length) (hk : k < l.length) : (m.take k ++ l.drop k).set k (m[k]'(by omega)) = m.take (k + 1) ++ l.drop (k + 1):=by
 have h1 : (m.take k).length = k:=by rw [List.length_take];omega
 rw [List.set_append_right _ _ (by omega),h1,Nat.sub_self,List.drop_eq_getElem_cons hk,List.set_cons_zero,List.take_succ_eq_append_getElem (by omega),List.append_assoc]
 rfl
theorem part_same {α : Type} {m l : List α} {k : Nat} (h : m.length = l.length) (hk : k < l.length) (he : m[k]'(by omega) = l[k]) : m.take k ++ l.drop k = m.take (k + 1) ++ l.drop (k + 1):=by
 rw [<- part_step h hk,he,List.set_append_right _ _ (by rw [List.length_take];omega),List.length_take,Nat.min_eq_left (by omega),Nat.sub_self,List.drop_eq_getElem_cons hk,List.set_cons_zero]
theorem part_get {α : Type} {m l : List α} {k : Nat} (h : m.length = l.length) (hk : k < l.length) : (m.take k ++ l.drop k)[k]? = some l[k]:=by
 rw [List.getElem?_append_right (by rw [List.length_take];omega),List.length_take,Nat.min_eq_left (by omega),Nat.sub_self,List.drop_eq_getElem_cons hk]
 rfl
theorem modify_set {α : Type} (l : List α) (n : Nat) (hn : n < l.length) (f : α -> α) : l.modify n f = l.set n (f l[n]):=by
 apply List.ext_getElem?;intro i;rw [List.getElem?_modify,List.getElem?_set]
 by_cases h : n = i
 ·subst h
  simp [hn]
 ·cases l[i]? <;> simp [h]

theorem lead_Raw (l : List Vw) (v : Value) (who : Int) (w : World) (hr : RdL 3 vwc w v l) (hd : JI l = 0) :
  Calls Tryz.prog 95 #[v,.int .i64 who] w fun e w'=>∃ s',e = .returned (.tuple #[s',.bool (Zw l who).2.1,.int .i64 (Zw l who).2.2]) /\ Ext w w' /\ Jh 110 3 vwc w.heap.size w' s' (Zw l who).1:=by
 have hR:=(Zr l).1 hd;have h3:=hR.1;have HW:=hH (fun w=>lead_within who 0 1 w);have HCl:=hH (fun w' (h : Ext w w')=>Clone_vw l v w' (hr.ext h) (by omega))
 have HM:=hH (fun w' (h : Ext w w')=>lead_many Xm 151 #[] (fun args w=>by simp [go_sem]) l v w' (hr.ext h) h3 (fun W x h=>by
  rw [show (#[.agg (vwc x)] ++ #[] : Array Value) = #[.agg (vwc x)] from rfl]
  exact lead_Raw1 x W))
 have HG:=hH (fun w' (h : Ext w w')=>lead_greatest l v w' (hr.ext h) h3)
 cases hwi : within who 0 1 with
 | false =>
  have hres : Zw l who = ([],false,3):=by unfold Zw;rw [if_pos hwi]
  rw [hres];rw [hwi] at HW;clear hres hwi hd hR h3;go_enter Tryz.func95,Tryz.ntmps95
  go_wp2_with (go_at_call 117;refine gB (HW.out _) ?_)
  refine bodyPost_ret (v:=.tuple #[.slice none 0 0,.bool false,.int .i64 3]) (by simp [results,Tryz.results95,go_sem, *]) rfl ⟨_,rfl,Ext.refl _,Jh.nil⟩
 | true =>
  rw [hwi] at HW
  have hwi2 : 0 <= who /\ who <= 1:=by simpa [within] using hwi
  obtain ⟨n,rfl⟩ : ∃ n : Nat,who = n:=⟨who.toNat,by omega⟩
  have hn3 : n < l.length:=by omega
  have hup : isUp l n = l[n].up:=by
   unfold isUp;rw [Int.toNat_natCast,List.getElem?_eq_getElem hn3]
  obtain ⟨A,c,rfl,-,-⟩:=hr.form;obtain ⟨b,o,rfl,hb,-,-,d2⟩:=hr.vw_at rfl hn3;have hcnt:=countV_nonneg Xm l
  have hcl : J9 Xm l <= 3:=by
   have : ∀ m : List Vw,J9 Xm m <= m.length:=by
    intro m
    induction m with
    | nil=>simp [J9]
    | cons a m ih=>rw [XF,List.length_cons];push_cast;split <;> omega
   have:=this l;rw [h3] at this;exact this
  have hw2 : IntKind.i64.wrap (2 * J9 Xm l) = 2 * J9 Xm l:=IntWalk.i64_in _ (by omega)
  have hni : (n : Int) < 3:=by omega
  have hn3' : n < 3:=by omega
  rw [h3] at HCl HM HG ⊢;have HU:=hH hup;have HL:=hH h3
  by_cases hc : l[n].up = false \/ 2 * J9 Xm l <= 3
  ·have hres : Zw l n = (l,false,0):=by unfold Zw;rw [if_neg (by rw [hwi];decide),if_pos (by rw [hup];exact hc)]
   rw [hres]
   have hcb : l[n].up = false \/ (l[n].up = true /\ decide (2 * J9 Xm l <= 3) = true):=by
    cases hu : l[n].up with
    | false=>exact .inl rfl
    | true=>right;refine ⟨rfl,decide_eq_true ?_⟩;rcases hc with h | h;(rw [hu] at h;cases h);exact h
   generalize J9 Xm l = m at *;generalize l[n].up = u at *;clear hres hc hup hd hR h3 hwi hwi2
   rcases hcb with rfl | ⟨rfl,hmd⟩
   ·go_enter Tryz.func95,Tryz.ntmps95
    go_wp2_with (go_at_call 117;refine gB (HW.out _) ?_)
    refine (HCl.out _ Je).mono ?_;rintro e w1 ⟨s1,rfl,h1,ho1⟩;obtain ⟨A1,c1,rfl⟩:=ho1.form;have H1:=hH h1;have HO1:=hH ho1;clear h1 ho1;go_wp2_with fail;refine (HM.out _ Je).mono ?_;rintro e w2 ⟨rfl,h2⟩;have H2:=hH h2;clear h2
    have hE2 : Ext w w2:=by exact Je
    have e2:=(hE2.cells b (o + n * 3 + 2) hb).trans d2;go_wp2_with fail;refine bodyPost_ret (v:=.tuple #[.slice A1 l.length c1,.bool false,.int .i64 0]) (by simp [results,Tryz.results95,go_sem, *]) rfl ⟨_,rfl,?_,?_⟩
    ·exact Je
    ·repeat (first | (with_reducible assumption) | (with_reducible exact Hid.out ‹Hid (Jh _ _ _ _ _ _ _)›) | (with_reducible apply Jh.Jl;focus (simp <;> omega)) | (with_reducible refine Jh.put ?_ (by assumption) _) | (with_reducible apply Jh.alloc) | (with_reducible apply Jh.drew) | (with_reducible apply Jh.drewN) | (with_reducible refine Jh.ext ?_ (Hid.out ‹Hid (Ext _ _)›)))
   ·go_enter Tryz.func95,Tryz.ntmps95
    go_wp2_with (go_at_call 117;refine gB (HW.out _) ?_)
    refine (HCl.out _ Je).mono ?_;rintro e w1 ⟨s1,rfl,h1,ho1⟩;obtain ⟨A1,c1,rfl⟩:=ho1.form;have H1:=hH h1;have HO1:=hH ho1;clear h1 ho1;go_wp2_with fail;refine (HM.out _ Je).mono ?_;rintro e w2 ⟨rfl,h2⟩;have H2:=hH h2;clear h2
    have hE2 : Ext w w2:=by exact Je
    have e2:=(hE2.cells b (o + n * 3 + 2) hb).trans d2;go_wp2_with fail;refine bodyPost_ret (v:=.tuple #[.slice A1 l.length c1,.bool false,.int .i64 0]) (by simp [results,Tryz.results95,go_sem, *]) rfl ⟨_,rfl,?_,?_⟩
    ·exact Je
    ·repeat (first | (with_reducible assumption) | (with_reducible exact Hid.out ‹Hid (Jh _ _ _ _ _ _ _)›) | (with_reducible apply Jh.Jl;focus (simp <;> omega)) | (with_reducible refine Jh.put ?_ (by assumption) _) | (with_reducible apply Jh.alloc) | (with_reducible apply Jh.drew) | (with_reducible apply Jh.drewN) | (with_reducible refine Jh.ext ?_ (Hid.out ‹Hid (Ext _ _)›)))
  ·have hut : l[n].up = true:=by
    cases hu : l[n].up with
    | true=>rfl
    | false=>exact absurd (.inl hu) hc
   have hmd : decide (2 * J9 Xm l <= 3) = false:=decide_eq_false (fun h=>hc (.inr h));rw [hut] at d2
   have hres : Zw l n = if Zb 0 l = 99 then ([],false,2) else (raise (Zb 0 l + 1) n l,true,0):=by
    unfold Zw;rw [if_neg (by rw [hwi];decide),if_neg (by rw [hup];exact hc)]
   rw [hres];have hT0:=topV_ge 0 l;generalize J9 Xm l = m at *
   by_cases h99 : Zb 0 l = 99
   ·rw [if_pos h99]
    rw [h99] at HG;clear hres hc hup hut hd hR h3 hwi hwi2 hT0 h99;go_enter Tryz.func95,Tryz.ntmps95
    go_wp2_with (go_at_call 117;refine gB (HW.out _) ?_)
    refine (HCl.out _ Je).mono ?_;rintro e w1 ⟨s1,rfl,h1,ho1⟩;obtain ⟨A1,c1,rfl⟩:=ho1.form;have H1:=hH h1;clear h1 ho1;go_wp2_with fail;refine (HM.out _ Je).mono ?_;rintro e w2 ⟨rfl,h2⟩;have H2:=hH h2;clear h2
    have hE2 : Ext w w2:=by exact Je
    have e2:=(hE2.cells b (o + n * 3 + 2) hb).trans d2;go_wp2_with fail;refine (HG.out _ hE2).mono ?_;rintro e w3 ⟨rfl,h4⟩;have H3:=hH h4;clear h4;go_wp2_with fail;refine bodyPost_ret (v:=.tuple #[.slice none 0 0,.bool false,.int .i64 2]) (by simp [results,Tryz.results95,go_sem, *]) rfl ⟨_,rfl,?_,Jh.nil⟩;exact Je
   ·rw [if_neg h99]
    have hlt:=top_lt hR h99
    have h99b : (Zb 0 l == 99) = false:=by simpa using h99
    have hrl : (raise (Zb 0 l + 1) n l).length = l.length:=raise_length _ _ _
    have hrg : ∀ k (hk : k < l.length) (hk2 : k < (raise (Zb 0 l + 1) n l).length),(raise (Zb 0 l + 1) n l)[k] = if l[k].up = true then ⟨Zb 0 l + 1,n,true⟩ else l[k]:=by
     intro k hk hk2;have:=raise_get (t:=Zb 0 l + 1) (who:=n) (List.getElem?_eq_getElem hk);rw [List.getElem?_eq_getElem hk2] at this
     injection this
    generalize Zb 0 l = top at *;have hwt : IntKind.i64.wrap (top + 1) = top + 1:=IntWalk.i64_in _ (by omega);generalize hRS : raise (top + 1) n l = rs at *;have HRL:=hH hrl;have HRG:=hH hrg;clear hres hc hup hut hd hR h3 hwi hwi2 hT0 h99 hrl hrg hRS;go_enter Tryz.func95,Tryz.ntmps95
    go_wp2_with (go_at_call 117;refine gB (HW.out _) ?_)
    refine (HCl.out _ Je).mono ?_;rintro e w1 ⟨s1,rfl,h1,ho1⟩;obtain ⟨g,c1,rfl,hg1,hg2,hg3⟩:=ho1.slot (by rw [HL.out];omega);have H1:=hH h1;have HO1:=hH ho1;clear h1 ho1;go_wp2_with fail;refine (HM.out _ Je).mono ?_;rintro e w2 ⟨rfl,h2⟩;have H2:=hH h2;clear h2
    have hE2 : Ext w w2:=by exact Je
    have e2:=(hE2.cells b (o + n * 3 + 2) hb).trans d2;go_wp2_with fail;refine (HG.out _ hE2).mono ?_;rintro e w3 ⟨rfl,h4⟩;have H3:=hH h4;clear h4
    have hE3 : Ext w w3:=by exact Je
    have hO3 : Jh 110 3 vwc w.heap.size w3 (.slice (some ⟨g,0,none⟩) l.length c1) l:=by repeat (first | (with_reducible assumption) | (with_reducible exact Hid.out ‹Hid (Jh _ _ _ _ _ _ _)›) | (with_reducible apply Jh.Jl;focus (simp <;> omega)) | (with_reducible refine Jh.put ?_ (by assumption) _) | (with_reducible apply Jh.alloc) | (with_reducible apply Jh.drew) | (with_reducible apply Jh.drewN) | (with_reducible refine Jh.ext ?_ (Hid.out ‹Hid (Ext _ _)›)))
    have HE3:=hH hE3;have HO3:=hH hO3;rw [HL.out] at HO3 ⊢;clear hE2 hE3 hO3 HO1 H1 H2 H3 HM HG HCl HW e2;go_wp2_with fail
    go_loopg [10,11,37] 3 (fun gg _ _ s37 wr=>∃ k : Nat,k <= 3 /\ 3 - k <= gg /\ s37 = .int .i64 k /\ Aside (Ext w wr) /\ Aside (Jh 110 3 vwc w.heap.size wr (.slice (some ⟨g,0,none⟩) 3 c1) (rs.take k ++ l.drop k)))
    case atStart=>exact ⟨0,by omega,by omega,rfl,HE3.out,HO3.out⟩
    case round =>
     obtain ⟨k,hk,hgk,rfl,HE,HB⟩:=hrel
     by_cases hlt : k < 3
     ·have hkl : k < l.length:=by rw [HL.out];exact hlt
      have hlt' : (k : Int) < 3:=by omega
      have hpg:=part_get HRL.out hkl;have hps:=part_step HRL.out hkl;have hpe:=part_same HRL.out hkl;have hgk2:=HRG.out k hkl (by rw [HRL.out];exact hkl);have hpl : k < (rs.take k ++ l.drop k).length:=(List.getElem?_eq_some_iff.1 hpg).1;have hpx : (rs.take k ++ l.drop k)[k] = l[k]:=(List.getElem?_eq_some_iff.1 hpg).2;have f0:=HB.out.field JY k 0 hpl (by omega) (.int .i64 l[k].JK) (by rw [hpx];rfl);have f1:=HB.out.field JY k 1 hpl (by omega) (.int .i64 l[k].JE) (by rw [hpx];rfl);have f2:=HB.out.field JY k 2 hpl (by omega) (.bool l[k].up) (by rw [hpx];rfl);simp only [Nat.add_zero] at f0
      cases hu : l[k].up with
      | false =>
       rw [hu] at f2;rw [if_neg (by rw [hu];decide)] at hgk2;have HN:=hH (hpe hgk2);have HE2:=hH HE.out;have HB2:=hH HB.out;obtain ⟨e0,z0⟩:=f0;obtain ⟨e1,z1⟩:=f1;obtain ⟨e2,z2⟩:=f2;clear hpg hps hpe hgk2 hpx HE HB hu hpl;go_wp2_with fail;go_roundg (3 - (k + 1))
       case measure=>omega
       case rel=>exact ⟨k + 1,by omega,by omega,by go_num,HE2.out,by rw [<- HN.out];exact HB2.out⟩
      | true =>
       rw [hu] at f2;rw [if_pos hu] at hgk2;rw [hgk2] at hps;have hp1:=HB.out.JW JY k 0 hpl (by omega) ⟨top + 1,l[k].JE,l[k].up⟩ (.int .i64 (top + 1)) (by rw [hpx];rfl);have hp2:=hp1.JW JY k 1 (by rw [List.length_set];exact hpl) (by omega) ⟨top + 1,n,true⟩ (.int .i64 n) (by rw [List.getElem_set_self];simp [vwc,hu]);rw [List.set_set,hps,Nat.add_zero] at hp2;have HE2:=hH HE.out;have HB2:=hH hp2;obtain ⟨e0,z0⟩:=f0;obtain ⟨e1,z1⟩:=f1;obtain ⟨e2,z2⟩:=f2;clear hpg hps hpe hgk2 hpx HE HB hu hpl hp1 hp2;go_wp2_with fail;go_roundg (3 - (k + 1))
       case measure=>omega
       case rel=>exact ⟨k + 1,by omega,by omega,by go_num,(HE2.out.setCell hg1 _).setCell hg1 _,HB2.out⟩
     ·have hk3 : k = 3:=by omega
      subst hk3
      have HB2:=hH (show Jh 110 3 vwc w.heap.size wr (.slice (some ⟨g,0,none⟩) 3 c1) rs by
       have:=HB.out
       rwa [List.take_of_length_le (by rw [HRL.out,HL.out];exact Nat.le_refl _),List.drop_of_length_le (by rw [HL.out];exact Nat.le_refl _),List.append_nil] at this)
      have HE2:=hH HE.out;clear HE HB;go_wp2_with fail;refine bodyPost_ret (v:=.tuple #[.slice (some ⟨g,0,none⟩) 3 c1,.bool true,.int .i64 0]) (by simp [results,Tryz.results95,go_sem, *]) rfl ⟨_,rfl,HE2.out,HB2.out⟩

theorem lead_Turn (l : List Vw) (v : Value) (who : Int) (up : Bool) (w : World) (hr : RdL 3 vwc w v l) (hd : JI l = 0) :
  Calls Tryz.prog 96 #[v,.int .i64 who,.bool up] w fun e w'=>∃ s',e = .returned (.tuple #[s',.int .i64 (Zz l who up).2]) /\ Ext w w' /\ Jh 110 3 vwc w.heap.size w' s' (Zz l who up).1:=by
 have hR:=(Zr l).1 hd;have h3:=hR.1;have HW:=hH (fun w=>lead_within who 0 2 w);have HCl:=hH (fun w' (h : Ext w w')=>Clone_vw l v w' (hr.ext h) (by omega));obtain ⟨A,c,rfl,-,-⟩:=hr.form
 cases hwi : within who 0 2 with
 | false =>
  have hres : Zz l who up = ([],3):=by unfold Zz;rw [if_pos hwi]
  rw [hres];rw [hwi] at HW;clear hres hwi hd hR h3;go_enter Tryz.func96,Tryz.ntmps96
  go_wp2_with (go_at_call 117;refine gB (HW.out _) ?_)
  refine bodyPost_ret (v:=.tuple #[.slice none 0 0,.int .i64 3]) (by simp [results,Tryz.results96,go_sem, *]) rfl ⟨_,rfl,Ext.refl _,Jh.nil⟩
 | true =>
  rw [hwi] at HW
  have hwi2 : 0 <= who /\ who <= 2:=by simpa [within] using hwi
  obtain ⟨n,rfl⟩ : ∃ n : Nat,who = n:=⟨who.toNat,by omega⟩
  have hn3 : n < l.length:=by omega
  have hres : Zz l n up = (l.set n ⟨l[n].JK,l[n].JE,up⟩,0):=by
   unfold Zz;rw [if_neg (by rw [hwi];decide),Int.toNat_natCast,modify_set l n hn3]
  rw [hres]
  have hni : (n : Int) < 3:=by omega
  have hn3' : n < 3:=by omega
  have HL:=hH h3;have HN:=hH hn3;clear hres hwi hd hR hwi2;rw [h3] at HCl ⊢;clear h3;go_enter Tryz.func96,Tryz.ntmps96
  go_wp2_with (go_at_call 117;refine gB (HW.out _) ?_)
  refine (HCl.out _ Je).mono ?_;rintro e w1 ⟨s1,rfl,h1,ho1⟩;obtain ⟨g,c1,rfl,hg1,hg2,hg3⟩:=ho1.slot (by rw [HL.out];omega);have f2:=ho1.field JY n 2 HN.out (by omega) (.bool l[n].up) rfl;have hp2:=ho1.JW JY n 2 HN.out (by omega) ⟨l[n].JK,l[n].JE,up⟩ (.bool up) rfl;obtain ⟨e2,z2⟩:=f2;have H1:=hH h1;have HP:=hH hp2;rw [HL.out] at HP ⊢;clear h1 ho1 hp2;go_wp2_with fail;refine bodyPost_ret (v:=.tuple #[.slice (some ⟨g,0,none⟩) 3 c1,.int .i64 0]) (by simp [results,Tryz.results96,go_sem, *]) rfl ⟨_,rfl,?_,HP.out⟩;exact Ext.setCell H1.out hg1 _

theorem lead_Win (l : List Vw) (v : Value) (who : Int) (w : World) (hr : RdL 3 vwc w v l) :
  Calls Tryz.prog 46 #[v,.int .i64 who] w fun e w'=>∃ s',e = .returned (.tuple #[s',.bool (winAll l who).2.1,.int .i64 (winAll l who).2.2]) /\ Ext w w' /\ Jh 110 3 vwc w.heap.size w' s' (winAll l who).1:=by
 have HC:=hH (fun w' (h : Ext w w')=>lead_Check l v w' (hr.ext h));obtain ⟨A,c,rfl,-,-⟩:=hr.form
 by_cases hd : JI l = 0
 ·have HW:=hH (fun w' (h : Ext w w')=>lead_Raw l _ who w' (hr.ext h) hd)
  have hn : winAll l who = Zw l who:=by unfold winAll;rw [if_neg (by rw [hd];decide)]
  rw [hn];rw [hd] at HC;clear hn hd hr;generalize Zw l who = X at *;obtain ⟨x1,x2,x3⟩:=X;simp only at HW ⊢;go_enter Tryz.func46,Tryz.ntmps46;go_wp2_with fail;(refine gA (HC.out _ Je) fun w1 H1 hz1=>?_);go_wp2_with fail;refine (HW.out _ Je).mono ?_;rintro e w2 ⟨s2,rfl,h2,ho2⟩;obtain ⟨A2,c2,rfl⟩:=ho2.form;have H2:=hH h2;have HO2:=hH ho2;have hz:=H1.out.size;clear h2 ho2;go_wp2_with fail;refine bodyPost_ret (v:=.tuple #[.slice A2 x1.length c2,.bool x2,.int .i64 x3]) (by simp [results,Tryz.results46,go_sem, *]) rfl ⟨_,rfl,?_,?_⟩
  ·exact Je
  ·exact ownA (w1.heap.size)
 ·have hn : winAll l who = ([],false,JI l):=by unfold winAll;rw [if_pos hd]
  rw [hn]
  have hb : (JI l != 0) = true:=by simpa using hd
  generalize JI l = r at *;clear hn hd hr;go_enter Tryz.func46,Tryz.ntmps46;go_wp2_with fail;(refine gA (HC.out _ Je) fun w1 H1 hz1=>?_);go_wp2_with fail;refine bodyPost_ret (v:=.tuple #[.slice none 0 0,.bool false,.int .i64 r]) (by simp [results,Tryz.results46,go_sem, *]) rfl ⟨_,rfl,?_,Jh.nil⟩;exact Je
theorem lead_Set (l : List Vw) (v : Value) (who : Int) (up : Bool) (w : World) (hr : RdL 3 vwc w v l) :
  Calls Tryz.prog 47 #[v,.int .i64 who,.bool up] w fun e w'=>∃ s',e = .returned (.tuple #[s',.int .i64 (setAll l who up).2]) /\ Ext w w' /\ Jh 110 3 vwc w.heap.size w' s' (setAll l who up).1:=by
 have HC:=hH (fun w' (h : Ext w w')=>lead_Check l v w' (hr.ext h));obtain ⟨A,c,rfl,-,-⟩:=hr.form
 by_cases hd : JI l = 0
 ·have HW:=hH (fun w' (h : Ext w w')=>lead_Turn l _ who up w' (hr.ext h) hd)
  have hn : setAll l who up = Zz l who up:=by unfold setAll;rw [if_neg (by rw [hd];decide)]
  rw [hn];rw [hd] at HC;clear hn hd hr;generalize Zz l who up = X at *;obtain ⟨x1,x3⟩:=X;simp only at HW ⊢;go_enter Tryz.func47,Tryz.ntmps47;go_wp2_with fail;(refine gA (HC.out _ Je) fun w1 H1 hz1=>?_);go_wp2_with fail;refine (HW.out _ Je).mono ?_;rintro e w2 ⟨s2,rfl,h2,ho2⟩;obtain ⟨A2,c2,rfl⟩:=ho2.form;have H2:=hH h2;have HO2:=hH ho2;have hz:=H1.out.size;clear h2 ho2;go_wp2_with fail;refine bodyPost_ret (v:=.tuple #[.slice A2 x1.length c2,.int .i64 x3]) (by simp [results,Tryz.results47,go_sem, *]) rfl ⟨_,rfl,?_,?_⟩
  ·exact Je
  ·exact ownA (w1.heap.size)
 ·have hn : setAll l who up = ([],JI l):=by unfold setAll;rw [if_pos hd]
  rw [hn]
  have hb : (JI l != 0) = true:=by simpa using hd
  generalize JI l = r at *;clear hn hd hr;go_enter Tryz.func47,Tryz.ntmps47;go_wp2_with fail;(refine gA (HC.out _ Je) fun w1 H1 hz1=>?_);go_wp2_with fail;refine bodyPost_ret (v:=.tuple #[.slice none 0 0,.int .i64 r]) (by simp [results,Tryz.results47,go_sem, *]) rfl ⟨_,rfl,?_,Jh.nil⟩;exact Je

theorem neq_vw (a b : Int) (u : Bool) (a' b' : Int) (u' : Bool) (W : World) :
  (binOp .neq 110 (.agg #[.int .i64 a,.int .i64 b,.bool u]) (.agg #[.int .i64 a',.int .i64 b',.bool u'])).run Tryz.prog W = .ok (.bool (!decide ((⟨a,b,u⟩ : Vw) = ⟨a',b',u'⟩))) W:=by
 have hst : Tryz.prog.stoodInHeld 110 = false:=by kernel_rfl
 simp [go_sem,hst]
 repeat' split
 all_goals simp_all

theorem ref_SameViews (l m : List Vw) (v u : Value) (w : World) (hr : RdL 3 vwc w v l) (hs : RdL 3 vwc w u m) :
  Calls Tryz.prog 27 #[v,u] w fun e w'=>e = .returned (.bool (l == m)) /\ Ext w w':=by
 obtain ⟨A,c,rfl,hmc,hmm⟩:=hr.form;obtain ⟨A2,c2,rfl,-,-⟩:=hs.form
 have hm : l.length <= 9223372036854775807:=by unfold maxLen at hmm;omega
 have HRd:=hH hr;have HSd:=hH hs;clear hr hmm hmc hs
 by_cases hl : l.length = m.length
 ·rw [<- hl] at HSd ⊢
  have HL:=hH hl;generalize hR : (l == m) = r;have HR:=hH hR;clear hR hl;go_enter Tryz.func27,Tryz.ntmps27;go_wp2_with fail
  go_loopg [4,5] l.length (fun gg _ s5 wr=>∃ k : Nat,k <= l.length /\ l.length - k <= gg /\ s5 = .int .i64 k /\ Aside (Ext w wr) /\ Aside ((l.drop k == m.drop k) = r))
  case atStart=>exact ⟨0,by omega,by omega,rfl,Ext.refl _,HR.out⟩
  case round =>
   obtain ⟨k,hk,hg,rfl,HE,HA⟩:=hrel
   by_cases hlt : k < l.length
   ·have hlt' : (k : Int) < (l.length : Int):=by omega
    have hltm : k < m.length:=by have:=HL.out;omega
    obtain ⟨b,o,rfl,hb,c0,c1,c2'⟩:=(HRd.out.ext HE.out).vw_at rfl hlt;obtain ⟨b2,o2,rfl,hb2,d0,d1,d2⟩:=(HSd.out.ext HE.out).vw_at rfl hltm;have hA:=HA.out;rw [List.drop_eq_getElem_cons hlt,List.drop_eq_getElem_cons hltm,List.cons_beq_cons] at hA;generalize l[k] = x at *;generalize m[k] = y at *;obtain ⟨x0,x1,x2⟩:=x;obtain ⟨y0,y1,y2⟩:=y;simp only at c0 c1 c2' d0 d1 d2;have hn:=neq_vw x0 x1 x2 y0 y1 y2
    by_cases hx : (⟨x0,x1,x2⟩ : Vw) = ⟨y0,y1,y2⟩
    ·rw [decide_eq_true hx] at hn
     have hA2 : (l.drop (k + 1) == m.drop (k + 1)) = r:=by rw [<- hA];simp [hx]
     have HA2:=hH hA2;clear hA hA2 HA hx;go_wp2_with fail;go_quiet (fail);go_wp2_with fail;go_roundg (l.length - (k + 1))
     case measure=>omega
     case rel=>exact ⟨k + 1,by omega,by omega,by go_num,HE.out.drewN _,HA2.out⟩
    ·rw [decide_eq_false hx] at hn
     have hA2 : r = false:=by rw [<- hA,beq_eq_false_iff_ne.2 hx];rfl
     have HA2:=hH hA2;clear hA hA2 HA hx;go_wp2_with fail;go_quiet (fail);go_wp2_with fail;go_ret;exact ⟨Jq (by rw [HA2.out]),HE.out.drewN _⟩
   ·have hkl : k = l.length:=by omega
    have hge : ¬ (k : Int) < (l.length : Int):=by omega
    have hA:=HA.out;rw [hkl,List.drop_length,HL.out,List.drop_length] at hA;have HA2:=hH hA;clear hA HA hkl;go_wp2_with fail;go_ret;exact ⟨Jq (by rw [<- HA2.out];rfl),HE.out⟩
 ·have hl1 : ((l.length : Int) != (m.length : Int)) = true:=by
   have : (l.length : Int) ≠ (m.length : Int):=by omega
   simpa using this
  have hl2 : (l == m) = false:=by
   rw [beq_eq_false_iff_ne];rintro rfl;exact hl rfl
  rw [hl2];clear hl HRd HSd;go_enter Tryz.func27,Tryz.ntmps27;go_wp2_with fail;go_ret;exact ⟨Jq rfl,Ext.refl _⟩

theorem ref_WhoOf (l : List Vw) (v : Value) (w : World) (hr : RdL 3 vwc w v l) (hd : JI l = 0) :
  Calls Tryz.prog 58 #[v] w fun e w'=>e = .returned (.tuple #[.int .i64 (whoV l).1,.bool (whoV l).2]) /\ Ext w w':=by
 have hR:=(Zr l).1 hd;obtain ⟨A,c,rfl,-,-⟩:=hr.form;rw [hR.1] at hr ⊢;have HL:=hH hR.1;have HRd:=hH hr;have HCK:=hH (fun x (hx : x ∈ l)=>(Z8 x).1 (hR.2.1 x hx));generalize hres : whoV l = res;have HRES:=hH (show whoR l 99 = res by rw [who_eq hd];exact hres);clear hr hd hR hres;go_enter Tryz.func58,Tryz.ntmps58;go_wp2_with fail
 go_loopg [2,3,4,5,6,7,8] 99 (fun gg _ _ s4 _ _ _ _ wr=>∃ e : Nat,e <= 99 /\ e <= gg /\ s4 = .int .i64 e /\ Aside (Ext w wr) /\ Aside (whoR l e = res))
 case atStart=>exact ⟨99,by omega,by omega,by go_num,Ext.refl _,HRES.out⟩
 case round =>
  obtain ⟨e,he,hg,rfl,HE,HA⟩:=hrel
  cases e with
  | zero =>
   have HQ:=hH (show res = (0,false) from HA.out.symm);have HE2:=hH HE.out;clear HA HE;go_wp2_with fail;go_ret2;exact ⟨by rw [HQ.out];rfl,HE2.out⟩
  | succ e =>
   have hA:=HA.out;unfold whoR at hA;rw [show ((e + 1 : Nat) : Int) = (e : Int) + 1 from by push_cast;rfl]
   have hpos : (0 : Int) < (e : Int) + 1:=by omega
   have hew : IntKind.i64.wrap ((e : Int) + 1 - 1) = (e : Int):=by rw [IntWalk.i64_in _ (by omega)];omega
   generalize hS : stepE ((e : Int) + 1) (false,0,0) l = s at hA;have HS:=hH hS;have HA2:=hH hA;have HE2:=hH HE.out;clear hA hS HA HE;go_wp2_with fail
   go_loopg [5,6,7,8] 3 (fun gg s5 s6 s7 s8 wq=>∃ (k : Nat) (t : Bool) (n q : Int),k <= 3 /\ 3 - k <= gg /\ s5 = .bool t /\ s6 = .int .i64 n /\ s7 = .int .i64 q /\ s8 = .int .i64 k /\ 0 <= n /\ n <= k /\ 0 <= q /\ q <= 1 /\ Aside (Ext w wq) /\ Aside (stepE ((e : Int) + 1) (t,n,q) (l.drop k) = s))
   case atStart=>exact ⟨0,false,0,0,by omega,by omega,rfl,rfl,rfl,rfl,by omega,by omega,by omega,by omega,HE2.out,HS.out⟩
   case round =>
    obtain ⟨k,t,n,q,hk,hg,rfl,rfl,rfl,rfl,hn0,hnk,hq0,hq1,HE,HA⟩:=hrel
    by_cases hlt : k < 3
    ·have hkl : k < l.length:=by rw [HL.out];exact hlt
     have hlt' : (k : Int) < 3:=by omega
     obtain ⟨b,o,rfl,hb,c0,c1,c2⟩:=(HRd.out.ext HE.out).vw_at rfl hkl;have hA:=HA.out;rw [List.drop_eq_getElem_cons hkl,stepE_cons] at hA;have hck:=HCK.out l[k] (List.getElem_mem hkl);generalize l[k] = x at *;obtain ⟨x0,x1,x2⟩:=x;simp only at c0 c1 c2 hA hck;have hw1 : IntKind.i64.wrap (n + 1) = n + 1:=IntWalk.i64_in _ (by omega);have HE3:=hH HE.out;clear HE HA hkl
     by_cases hx : x0 = (e : Int) + 1
     ·have hxb : (x0 == (e : Int) + 1) = true:=by simpa using hx
      rw [if_pos hx] at hA;clear hx
      cases x2
      ·have HA3:=hH hA
       clear hA;go_wp2_with fail
       go_region
       go_wp2_with fail;go_roundg (3 - (k + 1))
       case measure=>omega
       case rel=>exact ⟨k + 1,true,n,x1,by omega,by omega,rfl,rfl,rfl,by go_num,by omega,by push_cast;omega,by omega,by omega,HE3.out.drew,HA3.out⟩
      ·have HA3:=hH hA
       clear hA;go_wp2_with fail
       go_region
       go_wp2_with fail;go_roundg (3 - (k + 1))
       case measure=>omega
       case rel=>exact ⟨k + 1,true,n + 1,x1,by omega,by omega,rfl,by go_num,rfl,by go_num,by omega,by push_cast;omega,by omega,by omega,HE3.out.drew,HA3.out⟩
     ·have hxb : (x0 == (e : Int) + 1) = false:=by simpa using hx
      rw [if_neg hx] at hA;have HA3:=hH hA;clear hx hA;go_wp2_with fail;go_roundg (3 - (k + 1))
      case measure=>omega
      case rel=>exact ⟨k + 1,t,n,q,by omega,by omega,rfl,rfl,rfl,by go_num,by omega,by push_cast;omega,by omega,by omega,HE3.out,HA3.out⟩
    ·have hk3 : k = 3:=by omega
     subst hk3
     have hs : s = (t,n,q):=by
      have:=HA.out;rw [List.drop_of_length_le (by rw [HL.out];exact Nat.le_refl _)] at this;exact this.symm
     have hA:=HA2.out;rw [hs] at hA;simp only at hA;have HE3:=hH HE.out;clear HA HE hs
     cases t
     ·have HA3:=hH (show whoR l e = res by simpa using hA)
      clear hA;go_wp2_with fail;go_roundg e
      case measure=>omega
      case rel=>exact ⟨e,by omega,by omega,by go_num,HE3.out,HA3.out⟩
     ·rw [if_pos rfl] at hA
      by_cases hn2 : 2 <= n
      ·have hnd : decide (2 <= n) = true:=by simpa using hn2
       obtain ⟨m,rfl⟩ : ∃ m : Nat,q = m:=⟨q.toNat,by omega⟩
       have hml : m < l.length:=by rw [HL.out];omega
       obtain ⟨b,o,rfl,hb,-,-,c2⟩:=(HRd.out.ext HE3.out).vw_at rfl hml
       have hmi : (m : Int) < 3:=by omega
       have hm3 : m < 3:=by omega
       rw [show isUp l m = l[m].up from by unfold isUp;rw [Int.toNat_natCast,List.getElem?_eq_getElem hml]] at hA;generalize l[m].up = u at *
       cases u
       ·have HQ:=hH (show res = (0,false) by rw [<- hA];simp)
        clear hA;go_wp2_with fail;go_ret2;exact ⟨by rw [HQ.out];rfl,HE3.out⟩
       ·have HQ:=hH (show res = ((m : Int),true) by rw [<- hA];simp [hn2])
        clear hA;go_wp2_with fail;go_ret2;exact ⟨by rw [HQ.out];rfl,HE3.out⟩
      ·have hnd : decide (2 <= n) = false:=by simpa using hn2
       have HQ:=hH (show res = (0,false) by rw [<- hA];simp [hn2]);clear hA;go_wp2_with fail;go_ret2;exact ⟨by rw [HQ.out];rfl,HE3.out⟩


set_option maxRecDepth 100000 in
theorem ref_CheckViews (l : List Vw) (v : Value) (w : World) (hr : RdL 3 vwc w v l) :
  Calls Tryz.prog 57 #[v] w fun e w'=>e = .returned (.int .i64 (JI l)) /\ Ext w w':=by
 obtain ⟨A,c,rfl,hmc,hm0⟩:=hr.form
 have hm : l.length <= 9223372036854775807:=by unfold maxLen at hm0;omega
 unfold JI
 by_cases h3 : l.length = 3
 ·rw [if_neg (by simpa using h3),h3]
  rw [h3] at hr;have HRd:=hH hr;have HL:=hH h3
  have h3c : 3 <= c:=by omega
  generalize hR1 : eachE Xp l = r1;generalize hR2 : ZM [] l = r2;generalize hR3 : (if r1 ≠ 0 then r1 else if r2 = true then (4 : Int) else 0) = res;have HR1:=hH hR1;have HR2:=hH hR2;have HR3:=hH hR3;have HCK:=hH (fun (h : r1 = 0) x (hx : x ∈ l)=>(Z8 x).1 (eachE_ok.1 (hR1.trans h) x hx));clear hr h3 hR1 hR2 hR3 hm hm0 hmc;go_enter Tryz.func57,Tryz.ntmps57;go_wp2_with fail
  go_loopg [2,3] 3 (fun gg _ s3 wr=>∃ k : Nat,k <= 3 /\ 3 - k <= gg /\ s3 = .int .i64 k /\ Aside (Ext w wr) /\ Aside (eachE Xp (l.drop k) = r1))
  case atStart=>exact ⟨0,by omega,by omega,rfl,Ext.refl _,HR1.out⟩
  case round =>
   obtain ⟨k,hk,hg,rfl,HE,HA⟩:=hrel
   by_cases hlt : k < 3
   ·have hkl : k < l.length:=by rw [HL.out];exact hlt
    have hlt' : (k : Int) < 3:=by omega
    obtain ⟨b,o,rfl,hb,c0,c1,c2⟩:=(HRd.out.ext HE.out).vw_at rfl hkl;have hA:=HA.out;rw [List.drop_eq_getElem_cons hkl,eachE_cons] at hA
    have hck : Xp l[k] = if within l[k].JK 0 99 = false \/ within l[k].JE 0 1 = false then 3 else if l[k].JK = 0 /\ l[k].JE ≠ 0 then 4 else 0:=rfl
    have hW0:=fun w=>JA l[k].JK 0 99 w;have hW1:=fun w=>JA l[k].JE 0 1 w;generalize Xp l[k] = q at hA hck;generalize l[k].JK = x0 at *;generalize l[k].JE = x1 at *;generalize l[k].up = x2 at *;generalize hz0 : within x0 0 99 = z0 at *;generalize hz1 : within x1 0 1 = z1 at *;have HW0:=hH hW0;have HW1:=hH hW1;have HE2:=hH HE.out;clear hW0 hW1 HE HA hkl
    by_cases hq : q = 0
    ·have hA2 : eachE Xp (l.drop (k + 1)) = r1:=by rw [if_neg (by simpa using hq)] at hA;exact hA
     have HA2:=hH hA2
     have hz : z0 = true /\ z1 = true /\ ¬ (x0 = 0 /\ x1 ≠ 0):=by
      rw [hq] at hck
      cases z0 <;> cases z1 <;> simp at hck ⊢
      exact hck
     obtain ⟨rfl,rfl,hz2⟩:=hz;clear hA hA2 hck hq hz0 hz1
     by_cases hx0 : x0 = 0
     ·have hx1 : x1 = 0:=by
       apply Classical.byContradiction;intro h;exact hz2 ⟨hx0,h⟩
      subst hx0 hx1;clear hz2;go_wp2_with fail;refine gB (HW0.out _) ?_;go_wp2_with fail;refine gB (HW1.out _) ?_;go_wp2_with fail;go_roundg (3 - (k + 1))
      case measure=>omega
      case rel=>exact ⟨k + 1,by omega,by omega,by go_num,(Je : Ext w _),HA2.out⟩
     ·have hx0b : (x0 == 0) = false:=by simpa using hx0
      clear hz2;go_wp2_with fail;refine gB (HW0.out _) ?_;go_wp2_with fail;refine gB (HW1.out _) ?_;go_wp2_with fail;go_roundg (3 - (k + 1))
      case measure=>omega
      case rel=>exact ⟨k + 1,by omega,by omega,by go_num,(Je : Ext w _),HA2.out⟩
    ·have hA2 : res = q:=by rw [if_pos hq] at hA;rw [<- HR3.out,<- hA,if_pos hq]
     clear hA HR3 HCK
     cases z0
     ·have hq3 : res = 3:=by rw [hA2,hck];simp
      have HQ:=hH hq3;clear hA2 hck hq hq3 hz0 hz1;go_wp2_with fail;refine gB (HW0.out _) ?_;go_wp2_with fail;go_ret;refine ⟨Jo (by rw [HQ.out]),?_⟩;exact Je
     ·cases z1
      ·have hq3 : res = 3:=by rw [hA2,hck];simp
       have HQ:=hH hq3;clear hA2 hck hq hq3 hz0 hz1;go_wp2_with fail;refine gB (HW0.out _) ?_;go_wp2_with fail;refine gB (HW1.out _) ?_;go_wp2_with fail;go_ret;refine ⟨Jo (by rw [HQ.out]),?_⟩;exact Je
      ·have hz : x0 = 0 /\ x1 ≠ 0:=by
        apply Classical.byContradiction;intro h;rw [if_neg (by simp),if_neg h] at hck;exact hq hck
       have hq3 : res = 4:=by rw [hA2,hck,if_neg (by simp),if_pos hz]
       have HQ:=hH hq3;obtain ⟨hx0,hx1⟩:=hz
       have hx11 : x1 = 1:=by simp [within] at hz1;omega
       subst hx0 hx11;clear hA2 hck hq hq3 hx1 hz0 hz1;go_wp2_with fail;refine gB (HW0.out _) ?_;go_wp2_with fail;refine gB (HW1.out _) ?_;go_wp2_with fail;go_ret;refine ⟨Jo (by rw [HQ.out]),?_⟩;exact Je
   ·have hk3 : k = 3:=by omega
    subst hk3
    have hr0 : r1 = 0:=by
     have:=HA.out;rw [List.drop_of_length_le (by rw [HL.out];exact Nat.le_refl _)] at this;exact this.symm
    have HZ:=hH (show (if r2 = true then (4 : Int) else 0) = res by rw [<- HR3.out,hr0];simp);have HE2:=hH HE.out;clear HA HE HR3 hr0 HR1 HCK;go_wp2_with fail
    go_loopg [2,4,5] 3 (fun gg _ s4 _ wq=>∃ k : Nat,k <= 3 /\ 3 - k <= gg /\ s4 = .int .i64 k /\ Aside (Ext w wq) /\ Aside (ZM (l.take k) (l.drop k) = r2))
    case atStart=>exact ⟨0,by omega,by omega,rfl,HE2.out,HR2.out⟩
    case round =>
     obtain ⟨k,hk,hg,rfl,HE,HA⟩:=hrel
     by_cases hlt : k < 3
     ·have hkl : k < l.length:=by rw [HL.out];exact hlt
      have hlt' : (k : Int) < 3:=by omega
      have hA:=HA.out;rw [List.drop_eq_getElem_cons hkl,clashes_cons,<- take_snoc_get l k hkl] at hA;have HA2:=hH hA;have HE3:=hH HE.out;clear hA HA HE;go_wp2_with fail
      go_loopg [2,5] 3 (fun gg _ s5 wp=>∃ j : Nat,j <= k /\ k - j <= gg /\ s5 = .int .i64 j /\ Aside (Ext w wp) /\ Aside ((((l.take k).drop j).any (clash l[k]) || ZM (l.take (k + 1)) (l.drop (k + 1))) = r2))
      case atStart=>exact ⟨0,by omega,by omega,rfl,HE3.out,HA2.out⟩
      case round =>
       obtain ⟨j,hj,hgj,rfl,HE,HA⟩:=hrel
       by_cases hjk : j < k
       ·have hjl : j < l.length:=by omega
        have hjt : j < (l.take k).length:=by rw [List.length_take];omega
        have hjk' : (j : Int) < (k : Int):=by omega
        have hj3 : (j : Int) < 3:=by omega
        obtain ⟨b,o,rfl,hb,c0,c1,c2⟩:=(HRd.out.ext HE.out).vw_at rfl hkl;obtain ⟨b',o',hAA,-,d0,d1,d2⟩:=(HRd.out.ext HE.out).vw_at rfl hjl
        injection hAA with hAA
        injection hAA with e1 e2
        subst e1 e2;have hA:=HA.out;rw [List.drop_eq_getElem_cons hjt,List.any_cons,Bool.or_assoc,List.getElem_take] at hA;have hcl : clash l[k] l[j] = (l[j].JK == l[k].JK && l[j].JE != l[k].JE):=rfl;rw [hcl] at hA;have HX:=hH hA;have HE4:=hH HE.out;clear hA HA HE hcl;generalize l[k].JK = x0 at *;generalize l[k].JE = x1 at *;generalize l[j].JK = y0 at *;generalize l[j].JE = y1 at *;have hA:=HX.out;clear HX c2 d2
        by_cases he : x0 = y0
        ·have heb : (x0 == y0) = true:=by simpa using he
         have heb2 : (y0 == x0) = true:=by simpa using he.symm
         rw [heb2,Bool.true_and] at hA
         by_cases hld : x1 = y1
         ·have hlb : (x1 != y1) = false:=by simpa using hld
          have HN:=hH (show (((l.take k).drop (j + 1)).any (clash l[k]) || ZM (l.take (k + 1)) (l.drop (k + 1))) = r2 by rw [<- hA];simp [hld]);clear hA he hld;go_wp2_with fail;go_quiet (fail);go_wp2_with fail;go_roundg (k - (j + 1))
          case measure=>omega
          case rel=>exact ⟨j + 1,by omega,by omega,by go_num,HE4.out.drewN _,HN.out⟩
         ·have hlb : (x1 != y1) = true:=by simpa using hld
          have hlb2 : (y1 != x1) = true:=by simpa using (Ne.symm hld)
          rw [hlb2,Bool.true_or] at hA;have HQ:=hH (show res = 4 by rw [<- HZ.out,<- hA];simp);clear hA he hld;go_wp2_with fail;go_quiet (fail);go_wp2_with fail;go_ret;exact ⟨Jo (by rw [HQ.out]),HE4.out.drewN _⟩
        ·have heb : (x0 == y0) = false:=by simpa using he
         have heb2 : (y0 == x0) = false:=by simpa using (Ne.symm he)
         rw [heb2,Bool.false_and,Bool.false_or] at hA;have HN:=hH hA;clear hA he;go_wp2_with fail;go_quiet (fail);go_wp2_with fail;go_roundg (k - (j + 1))
         case measure=>omega
         case rel=>exact ⟨j + 1,by omega,by omega,by go_num,HE4.out.drewN _,HN.out⟩
       ·have hjk2 : j = k:=by omega
        have HN:=hH (show ZM (l.take (k + 1)) (l.drop (k + 1)) = r2 by
         have:=HA.out;rw [hjk2,List.drop_of_length_le (by rw [List.length_take];exact Nat.min_le_left _ _)] at this
         simpa using this)
        have hge : ¬ (j : Int) < (k : Int):=by omega
        have HE4:=hH HE.out;clear HA HE hjk2;go_wp2_with fail;go_roundg (3 - (k + 1))
        case measure=>omega
        case rel=>exact ⟨k + 1,by omega,by omega,by go_num,HE4.out,HN.out⟩
     ·have hk3 : k = 3:=by omega
      subst hk3
      have HQ:=hH (show res = 0 by
       have:=HA.out;rw [List.drop_of_length_le (by rw [HL.out];exact Nat.le_refl _)] at this;rw [<- HZ.out,<- this]
       simp [ZM])
      have HE3:=hH HE.out;clear HA HE;go_wp2_with fail;go_ret;exact ⟨Jo (by rw [HQ.out]),HE3.out⟩
 ·rw [if_pos h3]
  have h3b : ((l.length : Int) != 3) = true:=by
   have : (l.length : Int) ≠ 3:=by omega
   simpa using this
  clear hr h3;go_enter Tryz.func57,Tryz.ntmps57;go_wp2_with fail;go_ret;exact ⟨Jo rfl,Ext.refl _⟩

theorem views_one (l : List Vw) : ∀ u ∈ encs vwc l,u.oneCell' = true:=by
 intro u hu;obtain ⟨x,-,hx⟩:=List.mem_flatMap.1 hu
 simp [vwc] at hx
 (rcases hx with rfl | rfl | rfl) <;> rfl

set_option maxRecDepth 100000 in
theorem ref_SetOf (l : List Vw) (v : Value) (who : Int) (up : Bool) (w : World) (hr : RdL 3 vwc w v l) (hd : JI l = 0) :
  Calls Tryz.prog 92 #[v,.int .i64 who,.bool up] w fun e w'=>∃ s',e = .returned (.tuple #[s',.int .i64 (Zz l who up).2]) /\ Ext w w' /\ Jh 110 3 vwc w.heap.size w' s' (Zz l who up).1:=by
 have hR:=(Zr l).1 hd;have h3:=hR.1;have HW:=hH (fun w=>JA who 0 2 w);have HR:=hH hr;obtain ⟨A,c,rfl,-,-⟩:=hr.form
 cases hwi : within who 0 2 with
 | false =>
  have hres : Zz l who up = ([],3):=by unfold Zz;rw [if_pos hwi]
  rw [hres];rw [hwi] at HW;clear hres hwi hd hR h3;go_enter Tryz.func92,Tryz.ntmps92
  go_wp2_with (go_at_call 60;refine gB (HW.out _) ?_)
  refine bodyPost_ret (v:=.tuple #[.slice none 0 0,.int .i64 3]) (by simp [results,Tryz.results92,go_sem, *]) rfl ⟨_,rfl,Ext.refl _,Jh.nil⟩
 | true =>
  rw [hwi] at HW
  have hwi2 : 0 <= who /\ who <= 2:=by simpa [within] using hwi
  obtain ⟨n,rfl⟩ : ∃ n : Nat,who = n:=⟨who.toNat,by omega⟩
  have hn3 : n < l.length:=by omega
  have hres : Zz l n up = (l.set n ⟨l[n].JK,l[n].JE,up⟩,0):=by
   unfold Zz;rw [if_neg (by rw [hwi];decide),Int.toNat_natCast,modify_set l n hn3]
  rw [hres];obtain ⟨i0,hi,hz0,hz1,hz2⟩:=info_parts info_vw
  have hni : (n : Int) < 3:=by omega
  have hn3' : n < 3:=by omega
  have HL:=hH h3;have HN:=hH hn3;clear hres hwi hd hR hwi2 hr;rw [h3] at HR ⊢;clear h3;go_enter Tryz.func92,Tryz.ntmps92
  go_wp2_with (first | (go_at_call 60;refine gB (HW.out _) ?_) | (at_builtin;refine JC (enc:=vwc) (k:=3) _ rfl _ _ 30 rfl w.heap.size 110 i0 (.agg #[.int .i64 0,.int .i64 0,.bool false]) 24 Tryz.underlying30 hi hz0 hz1 hz2 rfl (by decide) JY _ [] rfl (Jh.made ?qc7 ?qc6) _ l rfl ?qc1 ?qc2 ?qc3 ?qc4 ?qc5 ?_))
  case qc1=>exact HR.out.ext Je
  case qc2=>exact views_one l
  case qc3=>unfold maxLen;simp [HL.out]
  case qc4=>simp [HL.out]
  case qc5=>(try simp only [World.size_alloc]);omega
  case qc6=>exact Nat.le_refl _
  case qc7=>rfl
  intro v1 w1 ho1 hg1 hn1;have hE1 : Ext w w1:=Ext.grown Je hg1 (fun k hk=>by simp [Value.ownBlock] at hk;omega);obtain ⟨g,c1,rfl,hgb,hgs,hgc⟩:=ho1.slot (show 0 < ([] ++ l).length by rw [List.nil_append,HL.out];omega)
  change Jh _ 3 vwc _ _ _ l at ho1
  have hll : ([] ++ l : List Vw).length = 3:=by rw [List.nil_append];exact HL.out
  simp only [List.nil_append,HL.out] at ho1 ⊢;have f2:=ho1.field JY n 2 HN.out (by omega) (.bool l[n].up) rfl;have hp2:=ho1.JW JY n 2 HN.out (by omega) ⟨l[n].JK,l[n].JE,up⟩ (.bool up) rfl;obtain ⟨e2,z2⟩:=f2;have HE1:=hH hE1;have HP:=hH hp2;clear ho1 hp2 hE1 hg1 hn1 hll;go_wp2_with fail;refine bodyPost_ret (v:=.tuple #[.slice (some ⟨g,0,none⟩) 3 c1,.int .i64 0]) (by simp [results,Tryz.results92,go_sem, *]) rfl ⟨_,rfl,?_,HP.out⟩;exact Ext.setCell HE1.out hgb _

set_option maxRecDepth 100000 in
theorem ref_WinOfO (l : List Vw) (v : Value) (who : Int) (w : World) (hr : RdL 3 vwc w v l) (hd : JI l = 0) :
  Calls Tryz.prog 93 #[v,.int .i64 who] w fun e w'=>∃ s',e = .returned (.tuple #[s',.bool (Zw l who).2.1,.int .i64 (Zw l who).2.2]) /\ Ext w w' /\ RdL 3 vwc w' s' (Zw l who).1 /\ (s' = v \/ Jh 110 3 vwc w.heap.size w' s' (Zw l who).1):=by
 have hR:=(Zr l).1 hd;have h3:=hR.1;have HW:=hH (fun w=>JA who 0 1 w);have HRd:=hH hr
 cases hwi : within who 0 1 with
 | false =>
  have hres : Zw l who = ([],false,3):=by unfold Zw;rw [if_pos hwi]
  rw [hres];rw [hwi] at HW;obtain ⟨A,c,rfl,-,-⟩:=hr.form;clear hres hwi hd hR h3;go_enter Tryz.func93,Tryz.ntmps93
  go_wp2_with (go_at_call 60;refine gB (HW.out _) ?_)
  refine bodyPost_ret (v:=.tuple #[.slice none 0 0,.bool false,.int .i64 3]) (by simp [results,Tryz.results93,go_sem, *]) rfl ⟨_,rfl,Ext.refl _,RdL.nil,.inr Jh.nil⟩
 | true =>
  rw [hwi] at HW
  have hwi2 : 0 <= who /\ who <= 1:=by simpa [within] using hwi
  obtain ⟨n,rfl⟩ : ∃ n : Nat,who = n:=⟨who.toNat,by omega⟩
  have hn3 : n < l.length:=by omega
  have hup : isUp l n = l[n].up:=by
   unfold isUp;rw [Int.toNat_natCast,List.getElem?_eq_getElem hn3]
  obtain ⟨A,c,rfl,-,-⟩:=hr.form;obtain ⟨b,o,rfl,hb,-,-,d2⟩:=hr.vw_at rfl hn3
  have hni : (n : Int) < 3:=by omega
  have hn3' : n < 3:=by omega
  have hT0:=topV_ge 0 l;have hT99:=topV_le 0 99 l (by omega) (fun v hv=>((Z8 v).1 (hR.2.1 v hv)).2.1);have HL:=hH h3;have hrl : (raise (Zb 0 l + 1) n l).length = l.length:=raise_length _ _ _
  have hrg : ∀ k (hk : k < l.length) (hk2 : k < (raise (Zb 0 l + 1) n l).length),(raise (Zb 0 l + 1) n l)[k] = if l[k].up = true then ⟨Zb 0 l + 1,n,true⟩ else l[k]:=by
   intro k hk hk2;have:=raise_get (t:=Zb 0 l + 1) (who:=n) (List.getElem?_eq_getElem hk);rw [List.getElem?_eq_getElem hk2] at this
   injection this
  have hwin : Zw l n = if l[n].up = false \/ 2 * J9 Xm l <= 3 then (l,false,0) else if Zb 0 l = 99 then ([],false,2) else (raise (Zb 0 l + 1) n l,true,0):=by
   unfold Zw;rw [if_neg (by rw [hwi];decide),hup]
  rw [h3] at HRd ⊢;generalize hM : J9 Xm l = m at *;generalize hTT : Zb 0 l = top at *;generalize hRS : raise (top + 1) n l = rs at *;generalize Zw l n = res at *;have HWN:=hH hwin;have HRL:=hH hrl;have HRG:=hH hrg;have HM:=hH hM;have HTT:=hH hTT;obtain ⟨i0,hi,hz0,hz1,hz2⟩:=info_parts info_vw;clear hwin hrl hrg hM hTT hRS hup hd hR h3 hwi hwi2 hr;go_enter Tryz.func93,Tryz.ntmps93
  go_wp2_with (go_at_call 60;refine gB (HW.out _) ?_)
  go_loopg [7,8,9] 3 (fun gg s7 s8 s9 wr=>∃ (k : Nat) (x t : Int),k <= 3 /\ 3 - k <= gg /\ s7 = .int .i64 x /\ s8 = .int .i64 t /\ s9 = .int .i64 k /\ 0 <= x /\ x <= k /\ Aside (Ext w wr) /\ Aside (x + J9 Xm (l.drop k) = m /\ Zb t (l.drop k) = top))
  case atStart=>exact ⟨0,0,0,by omega,by omega,rfl,rfl,rfl,by omega,by omega,Ext.refl _,by rw [Int.zero_add];exact ⟨HM.out,HTT.out⟩⟩
  case round =>
   obtain ⟨k,x,t,hk,hg,rfl,rfl,rfl,hx0,hxk,HE,HA⟩:=hrel
   by_cases hlt : k < 3
   ·have hkl : k < l.length:=by rw [HL.out];exact hlt
    have hlt' : (k : Int) < 3:=by omega
    obtain ⟨b',o',hAA,hb',c0,c1,c2⟩:=(HRd.out.ext HE.out).vw_at rfl hkl
    injection hAA with hAA
    injection hAA with e1 e2
    subst e1 e2;have hA:=HA.out;rw [List.drop_eq_getElem_cons hkl,XF] at hA;unfold Zb at hA;generalize l[k] = y at *;obtain ⟨y0,y1,y2⟩:=y;simp only [Xm] at c0 c1 c2 hA;have HE2:=hH HE.out;have hw1 : IntKind.i64.wrap (x + 1) = x + 1:=IntWalk.i64_in _ (by omega);clear HE HA hkl
    cases y2 <;> by_cases hgt : t < y0
    ·have HA2:=hH (show x + J9 Xm (l.drop (k + 1)) = m /\ Zb y0 (l.drop (k + 1)) = top by
      rw [show max t y0 = y0 by omega] at hA;simpa [Xm] using hA)
     clear hA;go_wp2_with fail;go_roundg (3 - (k + 1))
     case measure=>omega
     case rel=>exact ⟨k + 1,x,y0,by omega,by omega,rfl,rfl,by go_num,by omega,by push_cast;omega,(Je : Ext w _),HA2.out⟩
    ·have HA2:=hH (show x + J9 Xm (l.drop (k + 1)) = m /\ Zb t (l.drop (k + 1)) = top by
      rw [show max t y0 = t by omega] at hA;simpa [Xm] using hA)
     clear hA;go_wp2_with fail;go_roundg (3 - (k + 1))
     case measure=>omega
     case rel=>exact ⟨k + 1,x,t,by omega,by omega,rfl,rfl,by go_num,by omega,by push_cast;omega,(Je : Ext w _),HA2.out⟩
    ·have HA2:=hH (show x + 1 + J9 Xm (l.drop (k + 1)) = m /\ Zb y0 (l.drop (k + 1)) = top by
      rw [show max t y0 = y0 by omega] at hA;simp at hA;omega)
     clear hA;go_wp2_with fail;go_roundg (3 - (k + 1))
     case measure=>omega
     case rel=>exact ⟨k + 1,x + 1,y0,by omega,by omega,by go_num,rfl,by go_num,by omega,by push_cast;omega,(Je : Ext w _),HA2.out⟩
    ·have HA2:=hH (show x + 1 + J9 Xm (l.drop (k + 1)) = m /\ Zb t (l.drop (k + 1)) = top by
      rw [show max t y0 = t by omega] at hA;simp at hA;omega)
     clear hA;go_wp2_with fail;go_roundg (3 - (k + 1))
     case measure=>omega
     case rel=>exact ⟨k + 1,x + 1,t,by omega,by omega,by go_num,rfl,by go_num,by omega,by push_cast;omega,(Je : Ext w _),HA2.out⟩
   ·have hk3 : k = 3:=by omega
    subst hk3;have hA:=HA.out;rw [List.drop_of_length_le (by rw [HL.out];exact Nat.le_refl _)] at hA;obtain ⟨hA1,hA2⟩:=hA;simp only [J9,Int.add_zero] at hA1
    change t = top at hA2
    subst hA1 hA2;have HE2:=hH HE.out;have e2:=(HE2.out.cells b (o + n * 3 + 2) hb).trans d2;clear HE HA HM HTT;generalize l[n].up = u at *
    by_cases hx2 : x < 2
    ·have hxd : decide (x < 2) = true:=by simpa using hx2
     have HQ:=hH (show res = (l,false,0) by rw [HWN.out,if_pos (.inr (by omega))]);clear HWN;go_wp2_with fail;refine bodyPost_ret (v:=.tuple #[.slice (some ⟨b,o,none⟩) 3 c,.bool false,.int .i64 0]) (by simp [results,Tryz.results93,go_sem, *]) rfl ⟨_,by rw [HQ.out],HE2.out,?_,.inl rfl⟩;rw [HQ.out];exact HRd.out.ext HE2.out
    ·have hxd : decide (x < 2) = false:=by simpa using hx2
     cases u
     ·have HQ:=hH (show res = (l,false,0) by rw [HWN.out,if_pos (.inl rfl)])
      clear HWN;go_wp2_with fail;refine bodyPost_ret (v:=.tuple #[.slice (some ⟨b,o,none⟩) 3 c,.bool false,.int .i64 0]) (by simp [results,Tryz.results93,go_sem, *]) rfl ⟨_,by rw [HQ.out],HE2.out,?_,.inl rfl⟩;rw [HQ.out];exact HRd.out.ext HE2.out
     ·have hwn:=HWN.out
      rw [if_neg (fun hz=>hz.elim (fun h=>by cases h) (fun h=>by omega))] at hwn
      by_cases h99 : t = 99
      ·have HQ:=hH (show res = ([],false,2) by rw [hwn,if_pos h99])
       subst h99;clear HWN hwn;go_wp2_with fail;refine bodyPost_ret (v:=.tuple #[.slice none 0 0,.bool false,.int .i64 2]) (by simp [results,Tryz.results93,go_sem, *]) rfl ⟨_,by rw [HQ.out],HE2.out,?_,.inr ?_⟩
       ·rw [HQ.out]
        exact RdL.nil
       ·rw [HQ.out]
        exact Jh.nil
      ·have HQ:=hH (show res = (rs,true,0) by rw [hwn,if_neg h99])
       have h99b : (t == 99) = false:=by simpa using h99
       have hwt : IntKind.i64.wrap (t + 1) = t + 1:=IntWalk.i64_in _ (by omega);clear HWN hwn h99;go_wp2_with fail
       go_loopg [10,11,12] 3 (fun gg s10 s11 _ wq=>∃ k : Nat,k <= 3 /\ 3 - k <= gg /\ (∃ A' c',s10 = .slice A' k c') /\ s11 = .int .i64 k /\ Aside (Ext w wq) /\ Aside (Jh 110 3 vwc w.heap.size wq s10 (rs.take k)))
       case atStart=>exact ⟨0,by omega,by omega,⟨none,0,rfl⟩,rfl,HE2.out,Jh.nil⟩
       case round =>
        obtain ⟨k,hk,hg,⟨A',c',rfl⟩,rfl,HE,HB⟩:=hrel
        by_cases hlt : k < 3
        ·have hkl : k < l.length:=by rw [HL.out];exact hlt
         have hlt' : (k : Int) < 3:=by omega
         obtain ⟨b',o',hAA,hb',c0,c1,c2⟩:=(HRd.out.ext HE.out).vw_at rfl hkl
         injection hAA with hAA
         injection hAA with e1 e2
         subst e1 e2
         have hkr : k < rs.length:=by rw [HRL.out];exact hkl
         have hrk:=HRG.out k hkl hkr;have hts:=take_snoc_get rs k hkr;have hlt2:=HE.out.size;have HE3:=hH HE.out;have HB3:=hH HB.out;have HTS:=hH hts
         have htl : (rs.take k).length <= 3:=by rw [List.length_take];omega
         clear HE HB;generalize rs[k] = z at *;generalize l[k] = y at *;obtain ⟨y0,y1,y2⟩:=y;simp only at c0 c1 c2 hrk
         cases y2
         ·rw [if_neg (by decide)] at hrk
          subst hrk
          go_wp2_with (at_builtin;refine JC (enc:=vwc) (k:=3) _ rfl _ _ 30 rfl w.heap.size 110 i0 (.agg #[.int .i64 0,.int .i64 0,.bool false]) 24 Tryz.underlying30 hi hz0 hz1 hz2 rfl (by decide) JY _ (rs.take k) rfl ((HB3.out.alloc _).alloc _) _ [⟨y0,y1,false⟩] rfl (RdL.lit (enc:=vwc) ⟨y0,y1,false⟩ ?qa0 ?qa1) ?qa2 ?qa3 ?qa4 ?qa5 ?_)
          case qa1=>rfl
          case qa2=>exact views_one _
          case qa3=>unfold maxLen;(try simp only [List.length_singleton]);omega
          case qa4=>(try simp only [List.length_singleton]);omega
          case qa5=>(try simp only [World.size_alloc,size_set]);omega
          intro v2 w2 ho2 hg2 hn2;rw [<- HTS.out] at ho2;obtain ⟨A2,c2',rfl⟩:=ho2.form
          have hlk : (rs.take (k + 1)).length = k + 1:=by rw [List.length_take,HRL.out,HL.out];omega
          rw [hlk] at ho2;have hE4 : Ext w w2:=Ext.grown Je hg2 (fun j hj=>by have:=(HB3.out.lt j hj).1;omega);have HO2:=hH ho2;have HE4:=hH hE4;clear ho2 hg2 hn2 hE4;rw [hlk];go_wp2_with fail;go_roundg (3 - (k + 1))
          case measure=>omega
          case rel=>exact ⟨k + 1,by omega,by omega,⟨_,_,by go_num⟩,by go_num,HE4.out,HO2.out⟩
         ·rw [if_pos rfl] at hrk
          subst hrk
          go_wp2_with (at_builtin;refine JC (enc:=vwc) (k:=3) _ rfl _ _ 30 rfl w.heap.size 110 i0 (.agg #[.int .i64 0,.int .i64 0,.bool false]) 24 Tryz.underlying30 hi hz0 hz1 hz2 rfl (by decide) JY _ (rs.take k) rfl ?qzo _ [⟨t + 1,n,true⟩] rfl (RdL.lit (enc:=vwc) ⟨t + 1,n,true⟩ ?qz0 ?qz1) ?qz2 ?qz3 ?qz4 ?qz5 ?_)
          case qz1=>rfl
          case qz2=>exact views_one _
          case qz3=>unfold maxLen;(try simp only [List.length_singleton]);omega
          case qz4=>(try simp only [List.length_singleton]);omega
          case qz5=>(try simp only [World.size_alloc,size_set]);omega
          case qzo =>
           refine Jh.alloc _ ?_
           repeat (refine Jh.put ?_ (fun h=>by have:=(HB3.out.lt _ h).2;simp at this) _)
           exact HB3.out.alloc _
          intro v2 w2 ho2 hg2 hn2;rw [<- HTS.out] at ho2;obtain ⟨A2,c2',rfl⟩:=ho2.form
          have hlk : (rs.take (k + 1)).length = k + 1:=by rw [List.length_take,HRL.out,HL.out];omega
          rw [hlk] at ho2;have hE4 : Ext w w2:=Ext.grown Je hg2 (fun j hj=>by have:=(HB3.out.lt j hj).1;omega);have HO2:=hH ho2;have HE4:=hH hE4;clear ho2 hg2 hn2 hE4;rw [hlk];go_wp2_with fail;go_roundg (3 - (k + 1))
          case measure=>omega
          case rel=>exact ⟨k + 1,by omega,by omega,⟨_,_,by go_num⟩,by go_num,HE4.out,HO2.out⟩
        ·have hk3 : k = 3:=by omega
         subst hk3
         have HB2:=hH (show Jh 110 3 vwc w.heap.size wr (.slice A' 3 c') rs by
          have:=HB.out
          rwa [List.take_of_length_le (by rw [HRL.out,HL.out];exact Nat.le_refl _)] at this)
         have HE3:=hH HE.out;clear HE HB;go_wp2_with fail;refine bodyPost_ret (v:=.tuple #[.slice A' 3 c',.bool true,.int .i64 0]) (by simp [results,Tryz.results93,go_sem, *]) rfl ⟨_,by rw [HQ.out],HE3.out,?_,.inr ?_⟩
         ·rw [HQ.out]
          exact HB2.out.rd JY
         ·rw [HQ.out]
          exact HB2.out

def Xf : List Vw:=[⟨1,1,true⟩,⟨1,1,true⟩,⟨1,1,true⟩]
def downViews : List Vw:=[⟨1,1,true⟩,⟨1,1,false⟩,⟨1,1,true⟩]
theorem vb_win (s : Value) (w : World) (hr : RdL 3 vwc w s Xe) :
  Calls Tryz.prog 46 #[s,.int .i64 1] w fun e w'=>∃ s',e = .returned (.tuple #[s',.bool true,.int .i64 0]) /\ Ext w w' /\ Jh 110 3 vwc w.heap.size w' s' Xf:=by
 have h:=lead_Win Xe s 1 w hr;rw [show winAll Xe 1 = (Xf,true,0) from by decide +kernel] at h;exact h
theorem vb_now (s : Value) (w : World) (hr : RdL 3 vwc w s Xf) :
  Calls Tryz.prog 37 #[s] w fun e w'=>e = .returned (.tuple #[.int .i64 1,.bool true,.int .i64 0]) /\ Ext w w':=by
 have h:=lead_Now Xf s w hr;rw [show nowAll Xf = (1,true,0) from by decide +kernel] at h;exact h
theorem vb_set (s : Value) (w : World) (hr : RdL 3 vwc w s Xf) :
  Calls Tryz.prog 47 #[s,.int .i64 1,.bool false] w fun e w'=>∃ s',e = .returned (.tuple #[s',.int .i64 0]) /\ Ext w w' /\ Jh 110 3 vwc w.heap.size w' s' downViews:=by
 have h:=lead_Set Xf s 1 false w hr;rw [show setAll Xf 1 false = (downViews,0) from by decide +kernel] at h;exact h
theorem vb_now2 (s : Value) (w : World) (hr : RdL 3 vwc w s downViews) :
  Calls Tryz.prog 37 #[s] w fun e w'=>e = .returned (.tuple #[.int .i64 0,.bool false,.int .i64 0]) /\ Ext w w':=by
 have h:=lead_Now downViews s w hr;rw [show nowAll downViews = (0,false,0) from by decide +kernel] at h;exact h
theorem vb_check (s : Value) (w : World) (hr : RdL 3 vwc w s Xf) :
  Calls Tryz.prog 72 #[s] w fun e w'=>e = .returned (.int .i64 0) /\ Ext w w':=by
 have h:=lead_Check Xf s w hr;rw [show JI Xf = 0 from by decide +kernel] at h;exact h

theorem views_of (a b c : Value) (d : Int) (e gs vs : Value) (w : World) : (Instr.field 32 (.agg #[a,b,c,.int .i64 d,e,gs,vs]) 3).run Tryz.prog w = .ok vs w:=by
 simp [go_sem,Instr.field,asAgg]

theorem law_leadBegun (w : World) :
  Calls Tryz.prog 36 #[] w fun e w'=>e = .returned (.bool true) /\ Ext w w':=by
 go_enter Tryz.func36,Tryz.ntmps36;go_wp2_with fail;refine (station_New _).mono ?_;rintro e w0 ⟨gs,vs,rfl,h0,hog,hov⟩;obtain ⟨Ag,cg,rfl⟩:=hog.form;obtain ⟨Av,cv,rfl⟩:=hov.form;have hvo:=views_of (.slice none 0 0) (.slice none 0 0) (.slice none 0 0) 0 (.slice none 0 0) (.slice Ag Zm.length cg) (.slice Av Xe.length cv);have H0:=hH h0;have HV:=hH (hov.rd JY);clear h0 hog hov;go_wp2_with fail;(refine (vb_win _ _ (HV.out.ext Je)).mono ?_;rintro e w1 ⟨s1,rfl,h1,ho1⟩;obtain ⟨A1,c1,rfl⟩:=ho1.form;have H1:=hH h1;have HO1:=hH (Jh.rd ho1 JY);clear h1 ho1);go_wp2_with fail;(refine gA (vb_now _ _ (HO1.out.ext Je)) fun w2 H2 hz2=>?_);go_wp2_with fail;(refine (vb_set _ _ (HO1.out.ext Je)).mono ?_;rintro e w3 ⟨s3,rfl,h3,ho3⟩;obtain ⟨A3,c3,rfl⟩:=ho3.form;have H3:=hH h3;have HO3:=hH (Jh.rd ho3 JY);clear h3 ho3);go_wp2_with fail;(refine gA (vb_now2 _ _ (HO3.out.ext Je)) fun w4 H4 hz4=>?_);go_wp2_with fail;(refine gA (vb_check _ _ (HO1.out.ext Je)) fun w5 H5 hz5=>?_);go_wp2_with fail;go_ret;refine ⟨Jq rfl,?_⟩;exact Je
end Go.Proofs.YteojjbhadgkfgaaGreat
