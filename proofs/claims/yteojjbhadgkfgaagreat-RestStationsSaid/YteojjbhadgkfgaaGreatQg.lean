/- Qg: parts of the proofs, laid together. -/
import Derived.Shelf.SlSortCmp.NoneTotal
import Derived.Test.YteojjbhadgkfgaaGreatQc
import Derived.Test.YteojjbhadgkfgaaGreatQf
import Derived.Test.YteojjbhadgkfgaaGreatQa
/- The taps of a right ledger are right, and of its tickets: the plain side. -/
set_option maxHeartbeats 64000000
namespace Go.Proofs.YteojjbhadgkfgaaGreat
set_option linter.unusedSimpArgs false
set_option linter.unusedVariables false
set_option maxRecDepth 100000
open Lb

end Go.Proofs.YteojjbhadgkfgaaGreat

namespace Go.Proofs.YteojjbhadgkfgaaGreat
set_option linter.unusedSimpArgs false
set_option linter.unusedVariables false
set_option maxRecDepth 100000
open Lb

def XL (a b : Tp) : Bool:=decide (a.time < b.time) || (a.time == b.time && (decide (a.gate < b.gate) || (a.gate == b.gate && decide (a.seq < b.seq))))
theorem ltTp_iff (a b : Tp) : XL a b = true ↔ a.time < b.time \/ (a.time = b.time /\ (a.gate < b.gate \/ (a.gate = b.gate /\ a.seq < b.seq))):=by
 unfold XL
 simp [Bool.or_eq_true,Bool.and_eq_true]
theorem ltTp_trans {a b c : Tp} (h1 : XL a b = true) (h2 : XL b c = true) : XL a c = true:=by
 rw [ltTp_iff] at *
 omega
theorem ltTp_asymm {a b : Tp} (h1 : XL a b = true) : XL b a = false:=by
 cases h : XL b a with
 | false=>rfl
 | true =>
  rw [ltTp_iff] at *
  omega
theorem sameNo_iff (p x : Tp) : JM p x = true ↔ x.gate = p.gate /\ x.seq = p.seq:=by simp [JM]
theorem sameNo_comm (p x : Tp) : JM p x = JM x p:=by
 rw [Bool.eq_iff_iff,sameNo_iff,sameNo_iff]
 omega
theorem ltTp_total {a b : Tp} (h : JM a b = false) (h1 : XL a b = false) : XL b a = true:=by
 have h1' : ¬ (XL a b = true):=by simp [h1]
 have h' : ¬ (JM a b = true):=by simp [h]
 rw [ltTp_iff] at *;rw [sameNo_iff] at h'
 omega
def ZR (l : List Tp) : Prop:=l.Pairwise (fun a b=>JM a b = false)
def ZP : List Tp -> List Tp -> Bool
 | _,[]=>false
 | pre,p :: l=>pre.any (JM p) || ZP (pre ++ [p]) l
theorem twiceF_iff : ∀ (l pre : List Tp),ZR pre -> (ZP pre l = false ↔ ZR (pre ++ l))
 | [],pre,h=>by simp [ZP,h]
 | p :: l,pre,h=>by
  unfold ZP
  have hmid : ZR (pre ++ [p]) ↔ pre.any (JM p) = false:=by
   unfold ZR at h ⊢;rw [List.pairwise_append]
   constructor
   ·intro ⟨_,_,h3⟩
    rw [List.any_eq_false];intro x hx;have:=h3 x hx p (by simp);rw [sameNo_comm] at this
    simp [this]
   ·intro h3
    refine ⟨h,by simp,fun x hx y hy=>?_⟩;simp only [List.mem_singleton] at hy;subst hy;have:=List.any_eq_false.1 h3 x hx;rw [sameNo_comm]
    simpa using this
  rw [Bool.or_eq_false_iff,<- hmid]
  constructor
  ·intro ⟨h1,h2⟩
   have:=(twiceF_iff l (pre ++ [p]) h1).1 h2
   simpa using this
  ·intro h1
   have h2 : ZR ((pre ++ [p]) ++ l):=by simpa using h1
   have h3 : ZR (pre ++ [p]):=(List.pairwise_append.1 h2).1;exact ⟨h3,(twiceF_iff l (pre ++ [p]) h3).2 h2⟩
theorem twice_iff (l : List Tp) : ZP [] l = false ↔ ZR l:=twiceF_iff l [] (by simp [ZR])
theorem apartT_perm {a b : List Tp} (h : a.Perm b) (ha : ZR a) : ZR b :=
 List.Perm.pairwise h ha (fun h=>by rw [sameNo_comm];exact h)

def insTp (p : Tp) : List Tp -> List Tp
 | []=>[p]
 | x :: l=>if XL p x then p :: x :: l else x :: insTp p l
theorem insTp_perm (p : Tp) : ∀ (l : List Tp),(insTp p l).Perm (p :: l)
 | []=>.refl _
 | x :: l=>by
  unfold insTp
  split
  ·exact .refl _
  ·exact ((insTp_perm p l).cons x).trans (.swap _ _ _)
def sortT : List Tp -> List Tp
 | []=>[]
 | p :: l=>insTp p (sortT l)
theorem sortT_perm : ∀ (l : List Tp),(sortT l).Perm l
 | []=>.refl _
 | p :: l=>(insTp_perm p _).trans ((sortT_perm l).cons p)
theorem sortT_len (l : List Tp) : (sortT l).length = l.length:=(sortT_perm l).length_eq
def risesT (l : List Tp) : Prop:=l.Pairwise (fun a b=>XL a b = true)
theorem insTp_rises {p : Tp} : ∀ {l : List Tp},risesT l -> (∀ x ∈ l,JM p x = false) -> risesT (insTp p l)
 | [],_,_=>by simp [insTp,risesT]
 | x :: l,h,hn=>by
  unfold insTp;obtain ⟨h1,h2⟩:=List.pairwise_cons.1 h
  split
  ·rename_i hp
   refine List.pairwise_cons.2 ⟨fun y hy=>?_,h⟩
   rcases List.mem_cons.1 hy with rfl | hy
   ·exact hp
   ·exact ltTp_trans hp (h1 y hy)
  ·rename_i hp
   refine List.pairwise_cons.2 ⟨fun y hy=>?_,insTp_rises h2 (fun y hy=>hn y (List.mem_cons_of_mem _ hy))⟩
   rcases List.mem_cons.1 ((insTp_perm p l).mem_iff.1 hy) with rfl | hy
   ·exact ltTp_total (hn x (by simp)) (by simpa using hp)
   ·exact h1 y hy
theorem sortT_rises : ∀ {l : List Tp},ZR l -> risesT (sortT l)
 | [],_=>List.Pairwise.nil
 | p :: l,h=>by
  obtain ⟨h1,h2⟩:=List.pairwise_cons.1 h;exact insTp_rises (sortT_rises h2) (fun x hx=>h1 x ((sortT_perm l).mem_iff.1 hx))
theorem rises_unique {a b : List Tp} (h : a.Perm b) (ha : risesT a) (hb : risesT b) : a = b :=
 List.Perm.eq_of_pairwise (le:=fun a b=>XL a b = true) (fun x y _ _ h1 h2=>by rw [ltTp_asymm h1] at h2;cases h2) ha hb h
theorem sortT_is {a l : List Tp} (h : a.Perm l) (ha : risesT a) (hl : ZR l) : a = sortT l :=
 rises_unique (h.trans (sortT_perm l).symm) ha (sortT_rises hl)
def Ze (l : List Tp) : List Tp × Int :=
 if 72 < l.length then ([],2) else if Zo Jv l ≠ 0 then ([],Zo Jv l) else if ZP [] l = true then ([],6) else (sortT l,0)
theorem eachTap_ok {l : List Tp} : Zo Jv l = 0 ↔ ∀ x ∈ l,Jv x = 0:=by
 induction l with
 | nil=>simp [Zo]
 | cons a l ih =>
  unfold Zo
  by_cases ha : Jv a = 0
  ·rw [if_neg (by simpa using ha),ih]
   simp [ha]
  ·rw [if_pos ha]
   simp [ha]
theorem orderL_ok {l : List Tp} : (Ze l).2 = 0 ↔ l.length <= 72 /\ (∀ x ∈ l,Jv x = 0) /\ ZR l:=by
 unfold Ze;rw [<- eachTap_ok,<- twice_iff]
 by_cases h1 : 72 < l.length
 ·rw [if_pos h1]
  constructor
  ·intro h;simp at h
  ·intro h;omega
 ·rw [if_neg h1]
  by_cases h2 : Zo Jv l = 0
  ·rw [if_neg (by simpa using h2)]
   by_cases h3 : ZP [] l = true
   ·rw [if_pos h3]
    simp [h3]
   ·rw [if_neg h3]
    simp only [true_iff];exact ⟨by omega,h2,by simpa using h3⟩
  ·rw [if_pos h2]
   simp [h2]
theorem orderL_fst {l : List Tp} (h : (Ze l).2 = 0) : Ze l = (sortT l,0):=by
 obtain ⟨h1,h2,h3⟩:=orderL_ok.1 h;unfold Ze;rw [if_neg (by omega),if_neg (by simpa using eachTap_ok.2 h2),if_neg (by rw [(twice_iff l).2 h3];simp)]
theorem orderL_bad {l : List Tp} (h : (Ze l).2 ≠ 0) : (Ze l).1 = []:=by
 unfold Ze at h ⊢
 split
 ·rfl
 ·rename_i h1
  split
  ·rfl
  ·rename_i h2
   split
   ·rfl
   ·rename_i h3
    rw [if_neg h1,if_neg h2,if_neg h3] at h;exact absurd rfl h
def Zx : Ld -> List Tp -> List Tp -> Ld × List Tp × Int
 | x,out,[]=>(x,out,0)
 | x,out,p :: l=>if (Jy x p).2.2 = 2 then (ld0,[],2) else if (Jy x p).2.2 = 0 then Zx (Jy x p).1 out l else Zx x (out ++ [p]) l
def ZA (l : Ld) (more : List Tp) : Ld × List Tp × Int :=
 if (Ze (l.Jf ++ more)).2 ≠ 0 then (ld0,[],(Ze (l.Jf ++ more)).2) else Zx ⟨l.Jc,[],[]⟩ [] (Ze (l.Jf ++ more)).1
def intoL (l : Ld) (more : List Tp) : Ld × List Tp × Int:=if 12 < more.length then (ld0,[],2) else ZA l more
theorem right_bare {l : Ld} (h : Js l = 0) : Js ⟨l.Jc,[],[]⟩ = 0:=by
 have h1:=J6.1 h;exact J6.2 ⟨h1.1,by simp,rfl,h1.2.2.2.1,rfl⟩
theorem enterL_ok {l : Ld} {p : Tp} (h : Js l = 0) (he : (Jy l p).2.2 = 0) : Js (Jy l p).1 = 0 /\ (Jy l p).1.Jf = l.Jf ++ [p] /\ (Jy l p).1.Jc = l.Jc:=by
 obtain ⟨h1,h2,-⟩:=enter_right (l:=l) (a:=(Jy l p).1) (p:=p) (v:=(Jy l p).2.1) h (by rw [<- he])
 refine ⟨h1,?_,?_⟩ <;> rw [h2]
theorem intoF_ok : ∀ (l : List Tp) (x : Ld) (out : List Tp),Js x = 0 -> (Zx x out l).2.2 = 0 ->
  Js (Zx x out l).1 = 0 /\ (Zx x out l).1.Jc = x.Jc /\ ((Zx x out l).1.Jf ++ (Zx x out l).2.1).Perm (x.Jf ++ (out ++ l))
 | [],x,out,h,_=>⟨h,rfl,by simp [Zx]⟩
 | p :: l,x,out,h,he=>by
  unfold Zx at he ⊢
  by_cases h1 : (Jy x p).2.2 = 2
  ·rw [if_pos h1] at he
   simp at he
  ·rw [if_neg h1] at he ⊢
   by_cases h2 : (Jy x p).2.2 = 0
   ·rw [if_pos h2] at he ⊢
    obtain ⟨a,b,c⟩:=enterL_ok h h2;obtain ⟨i,j,k⟩:=intoF_ok l _ out a he;refine ⟨i,j.trans c,k.trans ?_⟩;rw [b];simp only [List.append_assoc,List.singleton_append];exact List.Perm.append_left _ (List.perm_middle).symm
   ·rw [if_neg h2] at he ⊢
    obtain ⟨i,j,k⟩:=intoF_ok l x (out ++ [p]) h he;exact ⟨i,j,k.trans (by simp)⟩
theorem intoF_bad : ∀ (l : List Tp) (x : Ld) (out : List Tp),(Zx x out l).2.2 ≠ 0 -> (Zx x out l).1 = ld0 /\ (Zx x out l).2.1 = []
 | [],x,out,h=>by simp [Zx] at h
 | p :: l,x,out,h=>by
  unfold Zx at h ⊢
  split
  ·exact ⟨rfl,rfl⟩
  ·rename_i h1
   rw [if_neg h1] at h
   split
   ·rename_i h2
    rw [if_pos h2] at h;exact intoF_bad l _ out h
   ·rename_i h2
    rw [if_neg h2] at h;exact intoF_bad l x _ h
theorem rawM_ok {l : Ld} {more : List Tp} (h : Js l = 0) (he : (ZA l more).2.2 = 0) :
  (Ze (l.Jf ++ more)).2 = 0 /\ Js (ZA l more).1 = 0 /\ (ZA l more).1.Jc = l.Jc /\ ((ZA l more).1.Jf ++ (ZA l more).2.1).Perm (l.Jf ++ more):=by
 unfold ZA at he ⊢
 by_cases h1 : (Ze (l.Jf ++ more)).2 = 0
 ·rw [if_neg (by simpa using h1)] at he ⊢
  obtain ⟨a,b,c⟩:=intoF_ok _ _ _ (right_bare h) he;refine ⟨h1,a,b,c.trans ?_⟩;rw [orderL_fst h1]
  simpa using sortT_perm (l.Jf ++ more)
 ·rw [if_pos h1] at he
  exact absurd he h1
end Go.Proofs.YteojjbhadgkfgaaGreat

namespace Go.Proofs.YteojjbhadgkfgaaGreat
set_option linter.unusedSimpArgs false
set_option linter.unusedVariables false
set_option maxRecDepth 100000
open Go Go.RowKit Lb

theorem Jh.unfrozen {α : Type} {e : TypeId} {k base g n c : Nat} {enc : α -> Array Value} {w : World} {l : List α} (h : Jh e k enc base w (.slice (some ⟨g,0,none⟩) n c) l) (o : Nat) : w.frozen? ⟨g,o,none⟩ = false:=by
 rcases h.2 with ⟨h',_⟩ | ⟨g',cap',cur,h',hb,hg,-⟩
 ·simp at h'
 ·simp only [Value.slice.injEq,Option.some.injEq,Addr.mk.injEq,and_true,true_and] at h'
  obtain ⟨rfl,-⟩:=h';unfold World.frozen?;simp only [hg]
  simp
theorem setCell_grown (w : World) (a : Addr) (u : Value) : w.grownBy (w.setCell a u) (some a.block):=⟨rfl,rfl,rfl,by simp [World.setCell],fun k _ hk=>Below.heap_setCell _ _ _ _ (fun e=>hk (by rw [e]))⟩
theorem Fr.Jl {own : Nat -> Prop} {w0 w : World} {a : Addr} {u : Value} (ha : own a.block) (h : Fr own w0 w) : Fr own w0 (w.setCell a u):=h.grown (setCell_grown w a u) (fun q e=>Or.inr (by rw [Option.some.inj e] at ha;exact ha))
theorem Fr.drew {own : Nat -> Prop} {w0 w : World} (h : Fr own w0 w) : Fr own w0 w.drew:=⟨h.os,h.tape,h.output,h.size,h.block⟩
theorem Fr.drewN {own : Nat -> Prop} {w0 w : World} (h : Fr own w0 w) (n : Nat) : Fr own w0 (w.drewN n):=⟨h.os,h.tape,h.output,h.size,h.block⟩
end Go.Proofs.YteojjbhadgkfgaaGreat

namespace Go.Proofs.YteojjbhadgkfgaaGreat
set_option linter.unusedSimpArgs false
set_option linter.unusedVariables false
set_option maxRecDepth 100000
open Go Go.RowKit Go.Shelf Lb

def srtRen : Go.Shelf.Ren:=⟨fun | 6=>131 | 14=>167 | 15=>168 | 20=>182 | 21=>183 | 22=>184 | 23=>185 | 24=>186 | 25=>187 | 26=>188 | 27=>189 | 28=>190 | 29=>191 | 46=>200 | 47=>201 | 48=>202 | 49=>203 | 50=>204 | 57=>210 | n=>n,fun | 0=>0 | 3=>3 | 4=>4 | 5=>5 | 9=>9 | 22=>23 | 24=>57 | 25=>158 | 39=>182 | 45=>203 | 46=>204 | 50=>94 | 53=>210 | 55=>212 | 66=>218 | 70=>222 | 76=>226 | 77=>139 | n=>n,fun | n=>n⟩
theorem srtLays : Go.Proofs.SlLaysF0.n6 Tryz.prog srtRen:={
 mixed:=by kernel_rfl
 f6:=⟨(Tryz.f131).name,by kernel_rfl,Tryz.func131.trans (congrArg some (by kernel_rfl))⟩
 f14:=⟨(Tryz.f167).name,by kernel_rfl,Tryz.func167.trans (congrArg some (by kernel_rfl))⟩
 f15:=Tryz.func168.trans (congrArg some (by kernel_rfl))
 f20:=⟨(Tryz.f182).name,by kernel_rfl,Tryz.func182.trans (congrArg some (by kernel_rfl))⟩
 f21:=⟨(Tryz.f183).name,by kernel_rfl,Tryz.func183.trans (congrArg some (by kernel_rfl))⟩
 f22:=⟨(Tryz.f184).name,by kernel_rfl,Tryz.func184.trans (congrArg some (by kernel_rfl))⟩
 f23:=⟨(Tryz.f185).name,by kernel_rfl,Tryz.func185.trans (congrArg some (by kernel_rfl))⟩
 f24:=⟨(Tryz.f186).name,by kernel_rfl,Tryz.func186.trans (congrArg some (by kernel_rfl))⟩
 f25:=⟨(Tryz.f187).name,by kernel_rfl,Tryz.func187.trans (congrArg some (by kernel_rfl))⟩
 f26:=⟨(Tryz.f188).name,by kernel_rfl,Tryz.func188.trans (congrArg some (by kernel_rfl))⟩
 f27:=⟨(Tryz.f189).name,by kernel_rfl,Tryz.func189.trans (congrArg some (by kernel_rfl))⟩
 f28:=Tryz.func190.trans (congrArg some (by kernel_rfl))
 f29:=Tryz.func191.trans (congrArg some (by kernel_rfl))
 f46:=⟨(Tryz.f200).name,by kernel_rfl,Tryz.func200.trans (congrArg some (by kernel_rfl))⟩
 f47:=Tryz.func201.trans (congrArg some (by kernel_rfl))
 f48:=Tryz.func202.trans (congrArg some (by kernel_rfl))
 f49:=⟨(Tryz.f203).name,by kernel_rfl,Tryz.func203.trans (congrArg some (by kernel_rfl))⟩
 f50:=⟨(Tryz.f204).name,by kernel_rfl,Tryz.func204.trans (congrArg some (by kernel_rfl))⟩
 f57:=⟨(Tryz.f210).name,by kernel_rfl,Tryz.func210.trans (congrArg some (by kernel_rfl))⟩
 t0:=Tryz.underlying0
 a0:=Tryz.isAgg0
 z0:=Tryz.sizeOf0
 v0:=Tryz.zeroValue0
 t3:=Tryz.underlying3
 a3:=Tryz.isAgg3
 z3:=Tryz.sizeOf3
 v3:=Tryz.zeroValue3
 t4:=Tryz.underlying4
 a4:=Tryz.isAgg4
 z4:=Tryz.sizeOf4
 v4:=Tryz.zeroValue4
 t5:=Tryz.underlying5
 a5:=Tryz.isAgg5
 z5:=Tryz.sizeOf5
 v5:=Tryz.zeroValue5
 t9:=Tryz.underlying9
 a9:=Tryz.isAgg9
 z9:=Tryz.sizeOf9
 v9:=Tryz.zeroValue9
 t22:=Tryz.underlying23
 a22:=Tryz.isAgg23
 z22:=Tryz.sizeOf23
 v22:=Tryz.zeroValue23
 t25:=Tryz.underlying158
 a25:=Tryz.isAgg158
 z25:=Tryz.sizeOf158
 v25:=Tryz.zeroValue158
 t39:=Tryz.underlying182
 a39:=Tryz.isAgg182
 z39:=Tryz.sizeOf182
 v39:=Tryz.zeroValue182
 t45:=Tryz.underlying203
 a45:=Tryz.isAgg203
 z45:=Tryz.sizeOf203
 v45:=Tryz.zeroValue203
 t46:=Tryz.underlying204
 a46:=Tryz.isAgg204
 z46:=Tryz.sizeOf204
 v46:=Tryz.zeroValue204
 t50:=Tryz.underlying94
 a50:=Tryz.isAgg94
 z50:=Tryz.sizeOf94
 v50:=Tryz.zeroValue94
 t53:=Tryz.underlying210
 a53:=Tryz.isAgg210
 z53:=Tryz.sizeOf210
 v53:=Tryz.zeroValue210
 t55:=Tryz.underlying212
 a55:=Tryz.isAgg212
 z55:=Tryz.sizeOf212
 v55:=Tryz.zeroValue212
 t66:=Tryz.underlying218
 a66:=Tryz.isAgg218
 z66:=Tryz.sizeOf218
 v66:=Tryz.zeroValue218
 t70:=Tryz.underlying222
 a70:=Tryz.isAgg222
 z70:=Tryz.sizeOf222
 v70:=Tryz.zeroValue222
 t76:=Tryz.underlying226
 a76:=Tryz.isAgg226
 z76:=Tryz.sizeOf226
 v76:=Tryz.zeroValue226
 t77:=Tryz.underlying139
 a77:=Tryz.isAgg139
 z77:=Tryz.sizeOf139
 v77:=Tryz.zeroValue139 }
end Go.Proofs.YteojjbhadgkfgaaGreat

namespace Go.Proofs.YteojjbhadgkfgaaGreat
set_option linter.unusedSimpArgs false
set_option linter.unusedVariables false
set_option maxRecDepth 100000
open Go Go.RowKit Go.Shelf Go.Sort Lb

def cmpT (x y : Tp) : Int:=if x.time = y.time then (if x.gate = y.gate then x.seq - y.seq else x.gate - y.gate) else x.time - y.time
theorem cmpT_lt (x y : Tp) : decide (cmpT x y < 0) = XL x y:=by
 rw [Bool.eq_iff_iff,decide_eq_true_eq,ltTp_iff];unfold cmpT
 split
 ·split <;> omega
 ·omega
theorem tap_in {p : Tp} (h : Jv p = 0) : (0 <= p.gate /\ p.gate <= 2) /\ (1 <= p.seq /\ p.seq <= 99) /\ (0 <= p.time /\ p.time <= 9999):=by
 unfold Jv at h
 split at h
 ·cases h
 ·rename_i h1
  simp only [within,Bool.not_eq_true',Bool.not_eq_false,Bool.and_eq_true,decide_eq_true_eq] at h1
  omega

theorem merge_before (x y : Tp) (hx : Jv x = 0) (hy : Jv y = 0) (W : World) :
  Calls Tryz.prog 132 #[.agg (tpc x),.agg (tpc y)] W fun e w'=>e = .returned (.int .i64 (cmpT x y)) /\ ∃ q os',w' = grow (W.drewN q) os':=by
 obtain ⟨a1,a2,a3⟩:=tap_in hx;obtain ⟨b1,b2,b3⟩:=tap_in hy;have w1 : IntKind.i64.wrap (x.time - y.time) = x.time - y.time:=IntWalk.i64_in _ (by omega);have w2 : IntKind.i64.wrap (x.gate - y.gate) = x.gate - y.gate:=IntWalk.i64_in _ (by omega);have w3 : IntKind.i64.wrap (x.seq - y.seq) = x.seq - y.seq:=IntWalk.i64_in _ (by omega);rw [show tpc x = #[.int .i64 x.ticket,.int .i64 x.gate,.int .i64 x.seq,.int .i64 x.time,.int .i64 x.zone] from rfl,show tpc y = #[.int .i64 y.ticket,.int .i64 y.gate,.int .i64 y.seq,.int .i64 y.time,.int .i64 y.zone] from rfl];unfold cmpT
 by_cases h1 : x.time = y.time
 ·have h1b : (x.time != y.time) = false:=by simpa using h1
  rw [if_pos h1]
  by_cases h2 : x.gate = y.gate
  ·have h2b : (x.gate != y.gate) = false:=by simpa using h2
   rw [if_pos h2];clear a1 a2 a3 b1 b2 b3 h1 h2 w1 w2;go_enter Tryz.func132,Tryz.ntmps132;go_wp2_with fail;go_ret;exact ⟨rfl,0,_,by rw [alloc_eq_grow,alloc_eq_grow,grow_grow];rfl⟩
  ·have h2b : (x.gate != y.gate) = true:=by simpa using h2
   rw [if_neg h2];clear a1 a2 a3 b1 b2 b3 h1 h2 w1 w3;go_enter Tryz.func132,Tryz.ntmps132;go_wp2_with fail;go_ret;exact ⟨rfl,0,_,by rw [alloc_eq_grow,alloc_eq_grow,grow_grow];rfl⟩
 ·have h1b : (x.time != y.time) = true:=by simpa using h1
  rw [if_neg h1];clear a1 a2 a3 b1 b2 b3 h1 w2 w3;go_enter Tryz.func132,Tryz.ntmps132;go_wp2_with fail;go_ret;exact ⟨rfl,0,_,by rw [alloc_eq_grow,alloc_eq_grow,grow_grow];rfl⟩

abbrev TpR:={p : Tp // Jv p = 0}
instance : Inhabited TpR:=⟨⟨⟨1,0,1,0,1⟩,by decide⟩⟩
def encR (x : TpR) : List Value:=(tpc x.1).toList
def cfR (x y : TpR) : Int:=cmpT x.1 y.1
theorem cfR_lt (x y : TpR) : ltOf cfR x y = XL x.1 y.1:=cmpT_lt x.1 y.1
theorem cfR_swo : SWO (ltOf cfR) where
 irrefl x:=by
  rw [cfR_lt]
  cases h : XL x.1 x.1 with
  | false=>rfl
  | true=>rw [ltTp_iff] at h;omega
 trans x y z h1 h2:=by
  rw [cfR_lt] at *;exact ltTp_trans h1 h2
 ntrans x y z h1 h2:=by
  rw [cfR_lt] at *
  have h1' : ¬ (XL x.1 y.1 = true):=by simp [h1]
  have h2' : ¬ (XL y.1 z.1 = true):=by simp [h2]
  cases h : XL x.1 z.1 with
  | false=>rfl
  | true=>rw [ltTp_iff] at *;omega
theorem cfR_lays (blk off size : Nat) (w : World) : CmpLays Tryz.prog 132 #[] encR 5 cfR blk off size w :=
 fun _ _ _ _ x y=>merge_before x.1 y.1 x.2 y.2 _
theorem encR_at (x : TpR) (i : Nat) (hi : i < 5) : some ((encR x)[i]!) = (tpc x.1)[i]?:=by
 rcases i with _ | _ | _ | _ | _ | i
 ·rfl
 ·rfl
 ·rfl
 ·rfl
 ·rfl
 ·omega
theorem flat_is (d : Array TpR) : (flatK encR 5 d).toList = encs tpc (d.toList.map (·.1)):=by
 apply List.ext_getElem?;intro t
 by_cases ht : t < d.size * 5
 ·have h1:=get_flatK encR 5 d t ht
  have hz : t < (flatK encR 5 d).size:=by simpa using ht
  rw [getElem!_pos _ t hz] at h1;rw [Array.getElem?_toList,Array.getElem?_eq_getElem hz,h1]
  have h5 : t / 5 < d.size:=by omega
  have h2:=XV (enc:=tpc) (k:=5) (fun _=>rfl) (d.toList.map (·.1)) (t / 5) (t % 5) (by simpa using h5) (by omega);rw [show t / 5 * 5 + t % 5 = t from by omega] at h2;rw [h2,getElem!_pos d _ h5];simp only [List.getElem_map,Array.getElem_toList];exact encR_at _ _ (by omega)
 ·have hl:=Zv (enc:=tpc) (k:=5) (fun _=>rfl) (d.toList.map (·.1))
  rw [List.getElem?_eq_none (by rw [Array.length_toList,size_flatK];omega),List.getElem?_eq_none (by rw [hl];simp;omega)]

theorem ownRow_sort {w : World} {base g cap n : Nat} {e : TypeId} {l : List Tp} (d' : Array TpR) (m : Nat) (os : Array Obj) (h : Jh e 5 tpc base w (.slice (some ⟨g,0,none⟩) n cap) l) (hd : d'.size = l.length) :
  Jh e 5 tpc base (sortWorldK encR 5 w g 0 m d' os) (.slice (some ⟨g,0,none⟩) n cap) (d'.toList.map (·.1)) /\ w.grownBy (sortWorldK encR 5 w g 0 m d' os) (some g):=by
 have hlen:=Zv (enc:=tpc) (k:=5) (fun _=>rfl) (d'.toList.map (·.1))
 have hml : (d'.toList.map (·.1)).length = l.length:=by simpa using hd
 refine ⟨?_,?_⟩
 ·obtain ⟨h1,h2⟩:=h
  refine ⟨hlen,?_⟩;rw [hml]
  rcases h2 with ⟨hv,_⟩ | ⟨g',cap',cur,hv,hb,hg,hnc,hm,hcs,htk⟩
  ·cases hv
  ·simp only [Value.slice.injEq,Option.some.injEq,Addr.mk.injEq,and_true,true_and] at hv
   obtain ⟨rfl,rfl,rfl⟩:=hv;refine .inr ⟨g,cap,putCells id 0 (flatK encR 5 d') cur,rfl,hb,?_,hnc,hm,?_,?_⟩
   ·have hsz : g < w.heap.size:=(Array.getElem?_eq_some_iff.1 hg).1
    show ((w.heap.modify g (onCells (putCells id 0 (flatK encR 5 d')))) ++ os)[g]? = _
    rw [Array.getElem?_append_left (by rw [Array.size_modify];exact hsz),Array.getElem?_modify,if_pos rfl,hg]
    rfl
   ·simp [putCells,hcs]
   ·rw [<- flat_is]
    apply List.ext_getElem?;intro t
    have hF : (flatK encR 5 d').size = l.length * 5:=by rw [size_flatK,hd]
    have hc5 : l.length * 5 <= cur.size:=by rw [hcs];exact Nat.mul_le_mul_right 5 hnc
    by_cases ht : t < l.length * 5
    ·rw [List.getElem?_take_of_lt ht]
     simp only [putCells,Array.toList_mapIdx,List.getElem?_mapIdx,Array.getElem?_toList];rw [Array.getElem?_eq_getElem (show t < cur.size by omega),Array.getElem?_eq_getElem (show t < (flatK encR 5 d').size by omega)];simp only [Option.map_some];rw [if_pos ⟨Nat.zero_le _,by omega⟩,Nat.sub_zero,getElem!_pos _ t (by omega)]
     rfl
    ·rw [List.getElem?_eq_none (by simp;omega),List.getElem?_eq_none (by simp;omega)]
 ·refine ⟨rfl,rfl,rfl,?_,fun k hk hne=>?_⟩
  ·show w.heap.size <= ((w.heap.modify g _) ++ os).size
   simp
  ·show ((w.heap.modify g _) ++ os)[k]? = _
   rw [Array.getElem?_append_left (by rw [Array.size_modify];exact hk),Array.getElem?_modify,if_neg (fun e=>hne (by rw [e]))]

theorem holds_own {w : World} {base g cap n : Nat} {e : TypeId} {l : List Tp} (d : Array TpR) (h : Jh e 5 tpc base w (.slice (some ⟨g,0,none⟩) n cap) l) (hd : d.toList.map (·.1) = l) : HoldsK encR 5 w g 0 d /\ g < w.heap.size:=by
 obtain ⟨h1,h2⟩:=h
 rcases h2 with ⟨hv,_⟩ | ⟨g',cap',cur,hv,hb,hg,hnc,hm,hcs,htk⟩
 ·cases hv
 ·simp only [Value.slice.injEq,Option.some.injEq,Addr.mk.injEq,and_true,true_and] at hv
  obtain ⟨rfl,rfl,rfl⟩:=hv
  have hds : d.size = l.length:=by rw [<- hd];simp
  have hF : (flatK encR 5 d).size = l.length * 5:=by rw [size_flatK,hds]
  have hc5 : l.length * 5 <= cur.size:=by rw [hcs];exact Nat.mul_le_mul_right 5 hnc
  refine ⟨fun j hj=>?_,(Array.getElem?_eq_some_iff.1 hg).1⟩;rw [hF] at hj
  have ht : (flatK encR 5 d)[j]? = cur[j]?:=by
   rw [<- Array.getElem?_toList,flat_is,hd,<- htk,List.getElem?_take_of_lt hj,Array.getElem?_toList]
  refine ⟨?_,?_⟩
  ·rw [Nat.zero_add,cell_of_row w g j cur _ (0,0) hg,<- ht,Array.getElem?_eq_getElem (by omega),getElem!_pos _ j (by omega)]
   rfl
  ·unfold World.frozen?
   simp only [hg]
   simp

theorem subs_of {l : List Tp} (h : ∀ x ∈ l,Jv x = 0) : ∃ d : List TpR,d.map (·.1) = l:=⟨l.attachWith (fun x=>Jv x = 0) h,by simp⟩
theorem sorted_is {l : List Tp} {d d' : Array TpR} (hd : d.toList.map (·.1) = l) (ha : ZR l) (hp : PermIn 0 d.size d d') (hs : SortedIn (ltOf cfR) 0 d.size d') : d'.toList.map (·.1) = sortT l:=by
 obtain ⟨hsz,-,hperm⟩:=hp
 have e1 : d'.extract 0 d.size = d':=by rw [<- hsz];simp
 have e2 : d.extract 0 d.size = d:=by simp
 rw [e1,e2] at hperm
 have hp2 : (d'.toList.map (·.1)).Perm l:=by rw [<- hd];exact hperm.map _
 have ha2 : ZR (d'.toList.map (·.1)):=apartT_perm hp2.symm ha;refine sortT_is hp2 ?_ ha;refine List.pairwise_iff_getElem.2 fun i j hi hj hij=>?_;simp only [List.length_map,Array.length_toList] at hi hj;have h1:=hs i j (Nat.zero_le _) hij (by omega);rw [cfR_lt,getElem!_pos d' j hj,getElem!_pos d' i hi] at h1;have h2:=List.pairwise_iff_getElem.1 ha2 i j (by simpa using hi) (by simpa using hj) hij;simp only [List.getElem_map,Array.getElem_toList] at h2 ⊢;exact ltTp_total (by rw [sameNo_comm];exact h2) h1

theorem Sort_tp (l : List Tp) (v : Value) (base : Nat) (w : World) (ho : Jh 57 5 tpc base w v l) (hok : ∀ x ∈ l,Jv x = 0) (ha : ZR l) (hlen : l.length <= 1000) :
  Calls Tryz.prog 131 #[v,.func (.func 132) #[] #[]] w fun e w'=>e = .returned (.tuple #[]) /\ Jh 57 5 tpc base w' v (sortT l) /\ w.grownBy w' v.ownBlock:=by
 by_cases h0 : l = []
 ·subst h0
  obtain ⟨A,c,rfl⟩:=ho.form;have h:=AnyF.slices_SortFunc_none (P:=Tryz.prog) (ρ:=srtRen) srtLays A c (.func (.func 132) #[] #[]) w;refine h.mono ?_;rintro e w' ⟨rfl,rfl⟩;exact ⟨rfl,ho,World.grownBy.refl _ _⟩
 ·have hpos : 0 < l.length:=List.length_pos_iff.2 h0
  obtain ⟨g,c,rfl,hb,hg,hc⟩:=ho.slot hpos;obtain ⟨dl,hdl⟩:=subs_of hok
  have hd : (dl.toArray).toList.map (·.1) = l:=by simpa using hdl
  have hds : dl.toArray.size = l.length:=by rw [<- hd];simp
  obtain ⟨hH,hgw⟩:=holds_own dl.toArray ho hd
  have h:=AnyQ.slices_SortFunc (P:=Tryz.prog) (ρ:=srtRen) srtLays 5 Tryz.isAgg57 Tryz.sizeOf57 encR (fun _=>rfl) (fun x v hv=>by
   simp [encR,tpc] at hv
   (rcases hv with rfl | rfl | rfl | rfl | rfl) <;> rfl) cfR cfR_swo 132 #[] g 0 c dl.toArray w (enters_of Tryz.func132 (by kernel_rfl) rfl) (cfR_lays _ _ _ _) hH hgw (by omega)
  rw [hds] at h;refine h.mono ?_;rintro e w' ⟨rfl,d',m,os,hp,hs,rfl⟩
  have hd' : d'.size = l.length:=by rw [hp.1,hds]
  obtain ⟨k1,k2⟩:=ownRow_sort d' m os ho hd';rw [<- hds] at hs hp;rw [sorted_is hd ha hp hs] at k1;exact ⟨rfl,k1,k2⟩
end Go.Proofs.YteojjbhadgkfgaaGreat

namespace Go.Proofs.YteojjbhadgkfgaaGreat
set_option linter.unusedSimpArgs false
set_option linter.unusedVariables false
set_option maxRecDepth 100000
open Go Go.RowKit Lb

theorem zeros_size (z : Array Value) (n : Nat) : (Builtin.zeroCells z n).size = n * z.size:=by simp [Builtin.zeroCells]
theorem Grow_tp (n : Nat) (w : World) (hn : n <= 1000) :
  Calls Tryz.prog 192 #[.slice none 0 0,.int .i64 n] w fun e w'=>∃ v',e = .returned v' /\ Ext w w' /\ Jh 57 5 tpc w.heap.size w' v' ([] : List Tp):=by
 obtain ⟨i0,hi,hz0,hz1,hz2⟩:=info_parts Xi
 by_cases h0 : n = 0
 ·subst h0
  go_enter Tryz.func192,Tryz.ntmps192;go_wp2_with fail;go_ret;exact ⟨_,rfl,Ext.refl _,Jh.nil⟩
 ·have hpos : (0 : Int) < (n : Int):=by omega
  have hnn : ¬ ((n : Int) < 0):=by omega
  have hw1 : IntKind.i64.wrap (n : Int) = n:=IntWalk.i64_in _ (by omega);go_enter Tryz.func192,Tryz.ntmps192
  go_wp2_with (at_builtin;refine Lib.wpList_append_run _ rfl _ _ _ _ rfl _ _ rfl rfl _ _ (Lib.run_append_nil_zeros _ _ _ _ 57 i0 _ .i64 .i64 Tryz.underlying23 Tryz.underlying3 hi hz0 n (by omega) (by rw [hz1];decide) (by omega) (by rw [hz2];omega)) ?_)
  go_ret;have hge:=grownCap_ge w n 0 57;refine ⟨_,rfl,((Ext.refl w).alloc _).drew,?_⟩;refine ⟨by simp [encs],.inr ⟨w.heap.size,grownCap w n 0 57,_,rfl,Nat.le_refl _,(show (w.heap.push _)[w.heap.size]? = some _ from Array.getElem?_push_size),Nat.zero_le _,grownCap_le_maxLen w n 0 _ (by unfold maxLen;omega),?_,by simp [encs]⟩⟩;rw [Array.size_append,zeros_size,zeros_size]
  simp
  omega

theorem Concat_tp (l1 l2 : List Tp) (v1 v2 : Value) (b : Nat) (w : World) (hr1 : RdL 5 tpc w v1 l1) (hr2 : RdL 5 tpc w v2 l2) (hb : Row w b #[v1,v2]) (hlen : l1.length + l2.length <= 1000) :
  Calls Tryz.prog 169 #[.slice (some ⟨b,0,none⟩) 2 2] w fun e w'=>∃ v',e = .returned v' /\ Ext w w' /\ Jh 57 5 tpc w.heap.size w' v' (l1 ++ l2):=by
 obtain ⟨i0,hi,hz0,hz1,hz2⟩:=info_parts Xi;have HR1:=hH hr1;have HR2:=hH hr2;have HB:=hH hb;have HL:=hH hlen;have hbs:=hb.1;obtain ⟨A1,c1,rfl,-,-⟩:=hr1.form;obtain ⟨A2,c2,rfl,-,-⟩:=hr2.form;have HG:=hH (fun (w' : World)=>Grow_tp (l1.length + l2.length) w' hlen);have hw1 : IntKind.i64.wrap (l1.length : Int) = l1.length:=IntWalk.i64_in _ (by omega)
 have hw2 : IntKind.i64.wrap ((l1.length : Int) + (l2.length : Int)) = ((l1.length + l2.length : Nat) : Int):=by rw [IntWalk.i64_in _ (by omega)];omega
 have hp1 : ¬ ((l1.length : Int) < 0):=by omega
 have hp2 : ¬ (((l1.length + l2.length : Nat) : Int) < 0):=by omega
 clear hr1 hr2 hlen;(refine Ji w b fun q0_0 f0_0 l0_0 R0_0=>?_);clear hb;go_enter Tryz.func169,Tryz.ntmps169;go_wp2_with fail
 go_loopg [3,5,11] 2 (fun gg s3 _ s11 wr=>wr = w /\ ((s3 = .int .i64 0 /\ s11 = .int .i64 0 /\ 2 <= gg) \/ (s3 = .int .i64 l1.length /\ s11 = .int .i64 1 /\ 1 <= gg) \/ (s3 = .int .i64 ((l1.length + l2.length : Nat) : Int) /\ s11 = .int .i64 2)))
 case atStart=>exact ⟨rfl,.inl ⟨rfl,rfl,Nat.le_refl _⟩⟩
 case round =>
  obtain ⟨hwr,h⟩:=hrel;subst hwr;obtain ⟨wo,rfl⟩ : ∃ wo : World,wo = wr:=⟨_,rfl⟩
  rcases h with h | h | h
  ·obtain ⟨rfl,rfl,hgg⟩:=h
   go_wp2_with fail;go_roundg 1
   case measure=>omega
   case rel=>exact ⟨rfl,.inr (.inl ⟨by go_num,by go_num,Nat.le_refl _⟩)⟩
  ·obtain ⟨rfl,rfl,hgg⟩:=h
   go_wp2_with fail;go_roundg 0
   case measure=>omega
   case rel=>exact ⟨rfl,.inr (.inr ⟨by go_num,by go_num⟩)⟩
  ·obtain ⟨rfl,rfl⟩:=h
   go_wp2_with fail;refine (HG.out _).mono ?_;rintro e w1 ⟨v0,rfl,h1,ho1⟩;obtain ⟨A0,c0,rfl⟩:=ho1.form;have H1:=hH h1;have HO1:=hH ho1;clear h1 ho1;go_wp2_with fail
   go_loopg [6,8,27] 2 (fun gg s6 _ s27 wx=>∃ (A : Option Addr) (c : Nat) (m : List Tp),s6 = .slice A m.length c /\ Aside (Ext wo wx /\ Jh 57 5 tpc wo.heap.size wx (.slice A m.length c) m) /\ ((m = [] /\ s27 = .int .i64 0 /\ 2 <= gg) \/ (m = l1 /\ s27 = .int .i64 1 /\ 1 <= gg) \/ (m = l1 ++ l2 /\ s27 = .int .i64 2)))
   case atStart=>exact ⟨A0,c0,[],rfl,⟨H1.out,HO1.out⟩,.inl ⟨rfl,rfl,Nat.le_refl _⟩⟩
   case round =>
    obtain ⟨A,c,m,rfl,HA,h⟩:=hrel;have HE:=hH HA.out.1;have HO:=hH HA.out.2;clear HA;have hze:=HE.out.size;(refine Ji wr b fun q2_0 f2_0 l2_0 R2_0=>?_)
    rcases h with ⟨rfl,rfl,hgg⟩ | ⟨hm,rfl,hgg⟩ | ⟨hm,rfl⟩
    ·go_wp2_with (at_builtin;go_loud (refine JC (enc:=tpc) (k:=5) _ rfl _ _ 23 rfl wo.heap.size 57 i0 (.agg #[.int .i64 0,.int .i64 0,.int .i64 0,.int .i64 0,.int .i64 0]) 40 Tryz.underlying23 hi hz0 hz1 hz2 rfl (by decide) Jr _ ([] : List Tp) rfl HO.out _ l1 rfl (HR1.out.ext HE.out) (Xn _) ?qd3 ?qd4 hze ?_))
     case qd3=>have:=HL.out;unfold maxLen;simp;omega
     case qd4=>have:=HL.out;simp;omega
     intro v' w2 ho2 hg2 hn2;obtain ⟨A',c',rfl⟩:=ho2.form;have HF:=hH (rfl : Value.slice A' (([] : List Tp) ++ l1).length c' = Value.slice A' (([] : List Tp) ++ l1).length c');have HN:=hH ho2;have HW:=hH (HE.out.grown hg2 (fun k hk=>(HO.out.lt k hk).1));clear ho2 hg2 hn2
     go_wp2
     go_roundg 1
     case measure=>omega
     case rel=>exact ⟨A',c',l1,rfl,⟨HW.out,HN.out⟩,.inr (.inl ⟨rfl,by go_num,Nat.le_refl _⟩)⟩
    ·obtain rfl:=hm.symm
     go_wp2_with (at_builtin;go_loud (refine JC (enc:=tpc) (k:=5) _ rfl _ _ 23 rfl wo.heap.size 57 i0 (.agg #[.int .i64 0,.int .i64 0,.int .i64 0,.int .i64 0,.int .i64 0]) 40 Tryz.underlying23 hi hz0 hz1 hz2 rfl (by decide) Jr _ l1 rfl HO.out _ l2 rfl (HR2.out.ext HE.out) (Xn _) ?qe3 ?qe4 hze ?_))
     case qe3=>have:=HL.out;unfold maxLen;simp;omega
     case qe4=>have:=HL.out;simp;omega
     intro v' w2 ho2 hg2 hn2;obtain ⟨A',c',rfl⟩:=ho2.form;have HF:=hH (rfl : Value.slice A' (l1 ++ l2).length c' = Value.slice A' (l1 ++ l2).length c');have HN:=hH ho2;have HW:=hH (HE.out.grown hg2 (fun k hk=>(HO.out.lt k hk).1));clear ho2 hg2 hn2
     go_wp2
     go_roundg 0
     case measure=>omega
     case rel=>exact ⟨A',c',l1 ++ l2,by rw [List.length_append],⟨HW.out,HN.out⟩,.inr (.inr ⟨rfl,by go_num⟩)⟩
    ·obtain rfl:=hm.symm
     go_wp2_with fail;go_ret;have hfin:=HO.out;rw [List.length_append] at hfin;exact ⟨_,rfl,HE.out,hfin⟩

theorem twice_one (x p : Tp) (g : Nat) (w : World) (hr : Row w g (tpc p)) :
  Calls Tryz.prog 166 #[.agg (tpc x),.pointer (some ⟨g,0,none⟩)] w fun e w'=>e = .returned (.bool (JM p x)) /\ Ext w w':=by
 obtain ⟨x0,x1,x2,x3,x4⟩:=x;obtain ⟨p0,p1,p2,p3,p4⟩:=p;unfold tpc at hr;unfold tpc JM
 apply Row.use hr;intro q f l R
 clear hr
 simp only
 by_cases h : x1 = p1
 ·have hb : (x1 == p1) = true:=by simpa using h
  rw [hb,Bool.true_and];clear h;go_enter Tryz.func166,Tryz.ntmps166
  go_wp2
  all_goals
   go_ret;exact ⟨Jq (by simp_all),(Je : Ext w _)⟩
 ·have hb : (x1 == p1) = false:=by simpa using h
  rw [hb,Bool.false_and];clear h;go_enter Tryz.func166,Tryz.ntmps166
  go_wp2
  all_goals
   go_ret;exact ⟨Jq (by simp_all),(Je : Ext w _)⟩

theorem twiceF_at : ∀ (l pre : List Tp) (k : Nat) (hk : k < l.length),(∀ j (hj : j < l.length),j < k -> (pre ++ l.take j).any (JM l[j]) = false) -> (pre ++ l.take k).any (JM l[k]) = true -> ZP pre l = true
 | p :: l,pre,0,_,_,h=>by
  unfold ZP
  simp at h
  simp [h]
 | p :: l,pre,k + 1,hk,h1,h=>by
  unfold ZP;have:=twiceF_at l (pre ++ [p]) k (by simpa using hk) (fun j hj hjk=>by have:=h1 (j + 1) (by simpa using hj) (by omega);simpa using this) (by simpa using h);rw [this,Bool.or_true]
theorem twiceF_no : ∀ (l pre : List Tp),(∀ j (hj : j < l.length),(pre ++ l.take j).any (JM l[j]) = false) -> ZP pre l = false
 | [],_,_=>rfl
 | p :: l,pre,h=>by
  unfold ZP;have h0:=h 0 (by simp);simp only [List.take_zero,List.append_nil,List.getElem_cons_zero] at h0;rw [h0,Bool.false_or];exact twiceF_no l (pre ++ [p]) (fun j hj=>by have:=h (j + 1) (by simpa using hj);simpa using this)

theorem merge_twice (l : List Tp) (v : Value) (w : World) (hr : RdL 5 tpc w v l) :
  Calls Tryz.prog 129 #[v] w fun e w'=>e = .returned (.bool (ZP [] l)) /\ Ext w w':=by
 have hm : l.length <= 9223372036854775807:=by
  obtain ⟨A,c,-,h1,h2⟩:=hr.form;unfold maxLen at h2
  omega
 have HRd:=hH hr;obtain ⟨A,c,rfl,hlc,-⟩:=hr.form;have HC:=hH (fun (k : Nat) (hk : k <= l.length) (p : Tp) (w' : World) (b : Nat) (h : Ext w w') (hb : Row w' b (tpc p))=>Xl (JM p) 166 #[.pointer (some ⟨b,0,none⟩)] (fun args w=>by simp [go_sem]) (l.take k) (.slice A k c) w' ((hr.ext h).take k hk) (fun W x hE=>twice_one x p b W (hb.ext hE)));have HNO:=hH (twiceF_no l []);have HAT:=hH (twiceF_at l []);generalize ZP [] l = z at *;clear hr;go_enter Tryz.func129,Tryz.ntmps129;go_wp2_with fail
 go_loopg [2,3,4,7] l.length (fun gg _ _ _ s7 wr=>∃ k : Nat,k <= l.length /\ l.length - k <= gg /\ s7 = .int .i64 k /\ Aside (Ext w wr) /\ Aside (∀ j (hj : j < l.length),j < k -> ([] ++ l.take j).any (JM l[j]) = false))
 case atStart=>exact ⟨0,Nat.zero_le _,by omega,rfl,Ext.refl _,fun j hj h=>by omega⟩
 case round =>
  obtain ⟨k,hk,hg,rfl,HE,HA⟩:=hrel;have HE2:=hH HE.out;have HA2:=hH HA.out;clear HE HA
  by_cases hlt : k < l.length
  ·have hlt' : (k : Int) < (l.length : Int):=by omega
   have hk0 : (0 : Int) <= (k : Int):=by omega
   have hkc : (k : Int) <= (c : Int):=by omega
   obtain ⟨b,o,rfl,hb,c0,c1,c2,c3,c4⟩:=(HRd.out.ext HE2.out).ZX rfl hlt;have HAK:=hH (HAT.out k hlt HA2.out);have HCK:=hH (HC.out k hk l[k]);have HAN:=hH (show (([] : List Tp) ++ l.take k).any (JM l[k]) = (l.take k).any (JM l[k]) by simp);have HLT:=hH hlt;have HEQ:=hH (show ∀ j (hj : j < l.length),j = k -> l[j] = l[k] from fun j hj e=>by subst e;rfl);generalize l[k] = x at *;obtain ⟨x0,x1,x2,x3,x4⟩:=x;unfold tpc at HCK;simp only at c0 c1 c2 c3 c4;generalize hq : (l.take k).any (JM ⟨x0,x1,x2,x3,x4⟩) = q at *;have HQ:=hH hq;clear hq HC;go_wp2_with fail;refine (HCK.out _ wr.heap.size Je (by exact rowA)).mono ?_;(rintro e w1 ⟨rfl,h1⟩;have H1:=hH h1;have hz1:=h1.size;clear h1;(try simp only [lSz] at hz1))
   cases q
   ·go_wp2_with fail
    go_roundg (l.length - (k + 1))
    case measure=>omega
    case rel =>
     refine ⟨k + 1,by omega,by omega,by go_num,(Je : Ext w _),fun j hj h=>?_⟩
     by_cases e : j = k
     ·rw [HEQ.out j hj e]
      subst e;rw [HAN.out]
     ·exact HA2.out j hj (by omega)
   ·have hz : z = true:=HAK.out HAN.out
    subst hz;go_wp2_with fail;go_ret;exact ⟨rfl,(Je : Ext w _)⟩
  ·have hge : ¬ (k : Int) < (l.length : Int):=by omega
   have hz : z = false:=HNO.out (fun j hj=>HA2.out j hj (by omega));subst hz;go_wp2_with fail;go_ret;exact ⟨rfl,(Je : Ext w _)⟩

theorem eachTap_hit {f : Tp -> Int} : ∀ {l : List Tp} {k : Nat} (hk : k < l.length),(∀ j (hj : j < k),f (l[j]'(by omega)) = 0) -> f l[k] ≠ 0 -> Zo f l = f l[k]
 | [],k,hk,_,_=>by simp at hk
 | x :: l,0,hk,_,h=>by simp [Zo] at h ⊢;intro h2;exact absurd h2 h
 | x :: l,k + 1,hk,h0,h=>by
  have hx : f x = 0:=h0 0 (by omega);simp only [Zo,hx,ne_eq,not_true_eq_false,if_false];exact eachTap_hit (by simpa using hk) (fun j hj=>h0 (j + 1) (by omega)) h
theorem eachTap_zero {f : Tp -> Int} : ∀ {l : List Tp},(∀ j (hj : j < l.length),f l[j] = 0) -> Zo f l = 0
 | [],_=>rfl
 | x :: l,h=>by
  have hx : f x = 0:=h 0 (by simp);simp only [Zo,hx,ne_eq,not_true_eq_false,if_false];exact eachTap_zero (fun j hj=>h (j + 1) (by simpa using hj))

theorem rule_Each_Check (l : List Tp) (v : Value) (w : World) (hr : RdL 5 tpc w v l) :
  Calls Tryz.prog 127 #[v,.func (.func 128) #[] #[]] w fun e w'=>e = .returned (.int .i64 (Zo Jv l)) /\ Ext w w':=by
 obtain ⟨A,c,rfl,h1,h2,h3⟩:=hr
 have hm : l.length <= 9223372036854775807:=by unfold maxLen at h2;omega
 have H3:=hH h3;clear h3 h1 h2;go_enter Tryz.func127,Tryz.ntmps127
 go_wp2
 go_loopg [4,6,7,10] l.length (fun gg _ _ _ s10 wr=>∃ k : Nat,k <= l.length /\ l.length - k <= gg /\ s10 = .int .i64 k /\ Aside (Ext w wr) /\ Aside (∀ j (hj : j < k),(h : j < l.length) -> Jv l[j] = 0))
 case atStart=>exact ⟨0,Nat.zero_le _,by omega,rfl,Ext.refl _,fun j hj=>by omega⟩
 case round =>
  obtain ⟨k,hk,hg,rfl,HE,HA⟩:=hrel
  by_cases hlt : k < l.length
  ·obtain ⟨b,o,rfl,hb,hc⟩:=H3.out (by omega)
   have hbr : b < wr.heap.size:=Nat.lt_of_lt_of_le hb HE.out.size;have hcr : ∀ i u,(tpc l[k]!)[i]? = some u -> wr.cell? ⟨b,o + k * 5 + i,none⟩ = some u:=fun i u hu=>(HE.out.cells b _ hb).trans (hc k hlt i u hu);clear hc
   have hkk : l[k]! = l[k]:=by simp [hlt]
   rw [hkk] at hcr;have HL:=hH hlt
   have hlt' : (k : Int) < (l.length : Int):=by omega
   generalize hX : l[k] = x at hcr;have HX:=hH hX;clear hX hkk;have hcall:=fun w=>rule_Check x w;obtain ⟨x0,x1,x2,x3,x4⟩:=x;have c0 : wr.cell? ⟨b,o + k * 5,none⟩ = some (.int .i64 x0):=hcr 0 _ rfl;have c1 : wr.cell? ⟨b,o + k * 5 + 1,none⟩ = some (.int .i64 x1):=hcr 1 _ rfl;have c2 : wr.cell? ⟨b,o + k * 5 + 2,none⟩ = some (.int .i64 x2):=hcr 2 _ rfl;have c3 : wr.cell? ⟨b,o + k * 5 + 3,none⟩ = some (.int .i64 x3):=hcr 3 _ rfl;have c4 : wr.cell? ⟨b,o + k * 5 + 4,none⟩ = some (.int .i64 x4):=hcr 4 _ rfl;clear hcr;unfold tpc at hcall;generalize hq : Jv ⟨x0,x1,x2,x3,x4⟩ = q at hcall;have HC:=hH hcall;have HQ:=hH hq;clear hcall hq
   by_cases hq0 : q = 0
   ·have hqb : (q != 0) = false:=by simpa using hq0
    have HQ0:=hH hq0;clear hq0
    go_wp2_with (go_at_call 128;refine (HC.out _).mono ?_;rintro e w1 ⟨rfl,h1⟩;have H1:=hH h1;clear h1)
    go_roundg (l.length - (k + 1))
    case measure=>omega
    case rel =>
     refine ⟨k + 1,by omega,by omega,by go_num,?_,fun j hj h=>?_⟩
     ·exact (HE.out.alloc _).trans H1.out
     ·by_cases e : j = k
      ·subst e;have:=HQ.out;rw [<- HX.out] at this;exact this.trans HQ0.out
      ·exact HA.out j (by omega) h
   ·have hqb : (q != 0) = true:=by simpa using hq0
    have HQ0:=hH hq0;clear hq0
    go_wp2_with (go_at_call 128;refine (HC.out _).mono ?_;rintro e w1 ⟨rfl,h1⟩;have H1:=hH h1;clear h1)
    go_ret;refine ⟨Jo ?_,(HE.out.alloc _).trans H1.out⟩;have hh:=HQ.out;rw [<- HX.out] at hh;exact ((eachTap_hit (f:=Jv) HL.out (fun j hj=>HA.out j hj (by have:=HL.out;omega)) (fun e=>HQ0.out (hh.symm.trans e))).trans hh).symm
  ·have hkl : k = l.length:=by omega
   have hge : ¬ (k : Int) < (l.length : Int):=by omega
   have HK:=hH hkl;clear hkl
   go_wp2
   go_ret;refine ⟨Jo ?_,HE.out⟩;rw [eachTap_zero (fun j hj=>HA.out j (by have:=HK.out;omega) hj)]


theorem merge_Order (l : List Tp) (v : Value) (w : World) (hr : RdL 5 tpc w v l) :
  Calls Tryz.prog 81 #[v] w fun e w'=>∃ s,e = .returned (.tuple #[s,.int .i64 (Ze l).2]) /\ Ext w w' /\ Jh 57 5 tpc w.heap.size w' s (Ze l).1:=by
 have HEA:=hH (fun w' (h : Ext w w')=>rule_Each_Check l v w' (hr.ext h));have HTW:=hH (fun w' (h : Ext w w')=>merge_twice l v w' (hr.ext h));have HCL:=hH (fun w' (h : Ext w w') (h72 : l.length <= 72)=>Clone_tp l v w' (hr.ext h) (by omega));have HSO:=hH (fun (s : Value) (base : Nat) (w' : World) (h72 : l.length <= 72) (h1 : Zo Jv l = 0) (h2 : ZP [] l = false) (ho : Jh 57 5 tpc base w' s l)=>Sort_tp l s base w' ho (eachTap_ok.1 h1) ((twice_iff l).1 h2) (by omega))
 have hres : Ze l = if 72 < l.length then ([],2) else if Zo Jv l ≠ 0 then ([],Zo Jv l) else if ZP [] l = true then ([],6) else (sortT l,0):=rfl
 have hsl:=sortT_len l;generalize Ze l = res at *;generalize sortT l = so at *;generalize Zo Jv l = q at *;generalize ZP [] l = z at *;obtain ⟨A,c,rfl,-,-⟩:=hr.form;clear hr
 by_cases h72 : 72 < l.length
 ·rw [if_pos h72] at hres
  subst hres
  have h72i : (72 : Int) < (l.length : Int):=by omega
  go_enter Tryz.func81,Tryz.ntmps81;go_wp2_with fail;refine bodyPost_ret (v:=.tuple #[.slice none 0 0,.int .i64 2]) (by simp [results,Tryz.results81,go_sem, *]) rfl ⟨_,rfl,(Je : Ext w _),Jh.nil⟩
 rw [if_neg h72] at hres
 have h72i : ¬ ((72 : Int) < (l.length : Int)):=by omega
 have h72l : l.length <= 72:=by omega
 by_cases hq : q = 0
 case neg =>
  rw [if_pos hq] at hres;subst hres
  have hqb : (q != 0) = true:=by simpa using hq
  clear hq;go_enter Tryz.func81,Tryz.ntmps81;go_wp2_with fail;(refine gA (HEA.out _ Je) fun w1 H1 hz1=>?_);go_wp2_with fail;refine bodyPost_ret (v:=.tuple #[.slice none 0 0,.int .i64 q]) (by simp [results,Tryz.results81,go_sem, *]) rfl ⟨_,rfl,(Je : Ext w _),Jh.nil⟩
 subst hq;rw [if_neg (by simp)] at hres
 cases z
 ·rw [if_neg (by simp)] at hres
  subst hres;go_enter Tryz.func81,Tryz.ntmps81;go_wp2_with fail;(refine gA (HEA.out _ Je) fun w1 H1 hz1=>?_);go_wp2_with fail;(refine gA (HTW.out _ Je) fun w2 H2 hz2=>?_);go_wp2_with fail;refine (HCL.out _ Je h72l).mono ?_;rintro e w3 ⟨s,rfl,h3,ho3⟩;obtain ⟨B,d,rfl⟩:=ho3.form;have H3:=hH h3;have HO3:=hH ho3;clear h3 ho3;go_wp2_with fail;refine (HSO.out _ _ _ h72l trivial trivial HO3.out).mono ?_;rintro e w4 ⟨rfl,ho4,hg4⟩;have HO4:=hH ho4
  have hw3 : Ext w w3:=by exact Je
  have hw2 : w.heap.size <= w2.heap.size:=Ext.size (Je : Ext w _);have H4:=hH (hw3.grown hg4 (fun k hk=>by have:=(HO3.out.lt k hk).1;(try simp only [lSz] at this);omega));clear ho4 hg4 hw3;go_wp2_with fail;refine bodyPost_ret (v:=.tuple #[.slice B l.length d,.int .i64 0]) (by simp [results,Tryz.results81,go_sem, *]) rfl ⟨_,rfl,(Je : Ext w _),?_⟩;have:=HO4.out.lower (b2:=w.heap.size) (by (try simp only [World.size_alloc,size_set,World.heap_drewN,size_drew]);omega);exact this
 ·rw [if_pos rfl] at hres
  subst hres;go_enter Tryz.func81,Tryz.ntmps81;go_wp2_with fail;(refine gA (HEA.out _ Je) fun w1 H1 hz1=>?_);go_wp2_with fail;(refine gA (HTW.out _ Je) fun w2 H2 hz2=>?_);go_wp2_with fail;refine bodyPost_ret (v:=.tuple #[.slice none 0 0,.int .i64 6]) (by simp [results,Tryz.results81,go_sem, *]) rfl ⟨_,rfl,(Je : Ext w _),Jh.nil⟩

structure BuOk (n1 : Nat) (w : World) (g : Nat) (x : Ld) (out : List Tp) (t0 t1 t2 so : Value) : Prop where
 low : n1 <= g
 row : Row w g #[t0,t1,t2,so]
 ld : JL n1 w t0 t1 t2 x
 out : Jh 57 5 tpc n1 w so out
 n0 : t0.ownBlock ≠ some g
 n1 : t1.ownBlock ≠ some g
 n2 : t2.ownBlock ≠ some g
 n3 : so.ownBlock ≠ some g
 d0 : ∀ q,so.ownBlock = some q -> t0.ownBlock ≠ some q
 d1 : ∀ q,so.ownBlock = some q -> t1.ownBlock ≠ some q
 d2 : ∀ q,so.ownBlock = some q -> t2.ownBlock ≠ some q
theorem BuOk.ext {n1 : Nat} {w w' : World} {g : Nat} {x : Ld} {out : List Tp} {t0 t1 t2 so : Value} (h : BuOk n1 w g x out t0 t1 t2 so) (he : Ext w w') : BuOk n1 w' g x out t0 t1 t2 so :=
 ⟨h.low,h.row.ext he,h.ld.ext he,h.out.ext he,h.n0,h.n1,h.n2,h.n3,h.d0,h.d1,h.d2⟩
def stepM (x : Ld) (out : List Tp) (p : Tp) : Ld × List Tp:=if (Jy x p).2.2 = 0 then ((Jy x p).1,out) else (x,out ++ [p])

theorem builder_enter (x : Ld) (out : List Tp) (t0 t1 t2 so : Value) (p : Tp) (g n1 : Nat) (w : World) (hck : Js x = 0) (hB : BuOk n1 w g x out t0 t1 t2 so) (hlen : out.length <= 100) :
  Calls Tryz.prog 171 #[.pointer (some ⟨g,0,none⟩),.agg (tpc p)] w fun e w'=>e = .returned (.int .i64 (if (Jy x p).2.2 = 2 then 2 else 0)) /\ Below n1 w w' /\
   ((Jy x p).2.2 ≠ 2 -> ∃ t0' t1' t2' so',BuOk n1 w' g (stepM x out p).1 (stepM x out p).2 t0' t1' t2' so'):=by
 have HRW:=hH (fun w' (h : Ext w w')=>ledger_Raw x t0 t1 t2 p w' hck ((hB.ld.tk.rd JH).ext h) ((hB.ld.tp.rd Jr).ext h) ((hB.ld.vd.rd JD).ext h))
 have hst : stepM x out p = if (Jy x p).2.2 = 0 then ((Jy x p).1,out) else (x,out ++ [p]):=rfl
 generalize stepM x out p = T at *;generalize Jy x p = E at *;obtain ⟨E1,E2,E3⟩:=E;simp only at HRW hst ⊢;generalize hr : (if E3 = 2 then (2 : Int) else 0) = r;generalize hQ : (E3 ≠ 2) = Q;have HQ:=hH hQ;have HR:=hH hr;clear hQ hr;have hbw : n1 <= w.heap.size:=Nat.le_trans hB.low (Nat.le_of_lt hB.row.1);have HB:=hH hB;have HG:=hH hB.row;have hg0:=hB.row.1;obtain ⟨A0,c0,A1,c1,A2,c2,rfl,rfl,rfl⟩:=hB.ld.forms;obtain ⟨A3,c3,rfl⟩:=hB.out.form;have HLN:=hH hlen;clear hck hB hlen;rw [show tpc p = #[.int .i64 p.ticket,.int .i64 p.gate,.int .i64 p.seq,.int .i64 p.time,.int .i64 p.zone] from rfl] at HRW ⊢;go_enter Tryz.func171,Tryz.ntmps171;go_upto_region 1 with fail
 go_cut [5,6,7] (fun s5 s6 s7 wx=>∃ g5 u0 u1 u2,s5 = .pointer (some ⟨g5,0,none⟩) /\ s6 = .int .i64 E2 /\ s7 = .int .i64 E3 /\ Aside (Ext w wx /\ w.heap.size < g5 /\ Row wx g5 #[u0,u1,u2] /\ JL w.heap.size wx u0 u1 u2 E1 /\ Row wx w.heap.size #[.int .i64 p.ticket,.int .i64 p.gate,.int .i64 p.seq,.int .i64 p.time,.int .i64 p.zone]))
 case first =>
  (apply ZL (w0:=w) (g0:=g) (g1:=w.heap.size);(focus (exact rowA));(focus (exact rowA));(focus (exact Je));intro W HW hzW Ra_0 Ra_1;(try simp only [Jm,World.size_alloc,size_set,World.heap_drewN,size_drew] at hzW Ra_0 Ra_1);have la_0:=Ra_0.out.size;have la_1:=Ra_1.out.size);have HK:=hH (fun w' (h : Ext W w')=>And.intro (Row.ext h Ra_0.out).2.1 ((Row.ext h Ra_1.out).2.1));(refine Jw (fun w'=>Ext W w') 13 (by kernel_rfl) ((Ext.refl _).drew) (fun hS=>?_);simp only [List.length_cons,List.length_nil]);(refine tkA 0 HK hS ?_;refine tkA 1 HK hS ?_;refine tkA 2 HK hS ?_;refine tkA 3 HK hS ?_;refine tkA 4 HK hS ?_);refine XD (i:=5) (j:=10) rfl rfl (by kernel_rfl) rfl rfl (fun K hK=>?_) (fun K hK=>?_)
  ·go_simp
   refine (HRW.out _ Je).mono ?_;rintro e w6 ⟨u0,u1,u2,rfl,h1,ho⟩;obtain ⟨A6a,c6a,A6b,c6b,A6c,c6c,rfl,rfl,rfl⟩:=ho.forms;have H6:=hH h1;have hz6:=h1.size;clear h1;(try simp only [lSz] at hz6);have HO:=hH ho;clear ho;clear hS
   have hS : Ext W w6:=by exact Je
   go_wp2_with fail;(refine hK.out _ _ (.inr hS) ?_;clear hK);(try simp only [Act.put,Jm]);(refine tkP 6 ?_;refine tkP 7 ?_;refine tkP 8 ?_;refine tkP 9 ?_);clear hS;(refine Ji w6 g fun qn_0 fn_0 ln_0 Rn_0=>?_;refine Ji w6 w.heap.size fun qn_1 fn_1 ln_1 Rn_1=>?_);refine oA 10 fun K hK=>?_;go_simp;refine hK.out _ _ (.inr (Je : Ext W _)) ?_;clear hK;(try simp only [Act.put,Jm]);refine oA 11 fun K hK=>?_;go_simp;refine hK.out _ _ (.inr (Je : Ext W _)) ?_;clear hK;(try simp only [Act.put,Jm]);refine oA 12 fun K hK=>?_;go_simp;refine hK.out _ _ (.inr (Je : Ext W _)) ?_;clear hK;(try simp only [Act.put,Jm]);(refine oA 13 fun K hK=>?_;go_simp;refine hK.out _ _ (.inl (by kernel_rfl)) ?_;clear hK;(try simp only [Act.put,Jm]);refine Ju (by kernel_rfl) ?_ _);go_wp2_with fail;go_meet
   case rel =>
    refine ⟨_,.slice A6a E1.Jc.length c6a,.slice A6b E1.Jf.length c6b,.slice A6c E1.Jd.length c6c,rfl,rfl,rfl,(Je : Ext w _),by omega,Row.newAt rfl,(HO.out.alloc _).lower (by simp;omega),?_⟩;exact Rn_1.out.alloc
  ·go_simp
   refine hK.out _ _ (.inr (Je : Ext W _)) ?_;clear hK;(try simp only [Act.put,Jm]);(refine oA 5 fun K hK=>?_;go_simp);refine (HRW.out _ Je).mono ?_;rintro e w6 ⟨u0,u1,u2,rfl,h1,ho⟩;obtain ⟨A6a,c6a,A6b,c6b,A6c,c6c,rfl,rfl,rfl⟩:=ho.forms;have H6:=hH h1;have hz6:=h1.size;clear h1;(try simp only [lSz] at hz6);have HO:=hH ho;clear ho;clear hS
   have hS : Ext W w6:=by exact Je
   go_wp2_with fail;(refine hK.out _ _ (.inr hS) ?_;clear hK);(try simp only [Act.put,Jm]);(refine tkP 6 ?_;refine tkP 7 ?_;refine tkP 8 ?_;refine tkP 9 ?_);clear hS;(refine Ji w6 W.heap.size fun qn_0 fn_0 ln_0 Rn_0=>?_;refine Ji w6 w.heap.size fun qn_1 fn_1 ln_1 Rn_1=>?_);refine oA 11 fun K hK=>?_;go_simp;refine hK.out _ _ (.inr (Je : Ext W _)) ?_;clear hK;(try simp only [Act.put,Jm]);refine oA 12 fun K hK=>?_;go_simp;refine hK.out _ _ (.inr (Je : Ext W _)) ?_;clear hK;(try simp only [Act.put,Jm]);(refine oA 13 fun K hK=>?_;go_simp;refine hK.out _ _ (.inl (by kernel_rfl)) ?_;clear hK;(try simp only [Act.put,Jm]);refine Ju (by kernel_rfl) ?_ _);go_wp2_with fail;go_meet
   case rel =>
    refine ⟨_,.slice A6a E1.Jc.length c6a,.slice A6b E1.Jf.length c6b,.slice A6c E1.Jd.length c6c,rfl,rfl,rfl,(Je : Ext w _),by omega,?_,?_,?_⟩
    ·have:=(((Rn_0.out).J4 (i:=0) (u:=.slice A6a E1.Jc.length c6a)).J4 (i:=1) (u:=.slice A6b E1.Jf.length c6b)).J4 (i:=2) (u:=.slice A6c E1.Jd.length c6c)
     simpa using this
    ·have hsz3 : W.heap.size < (W.drew.alloc (.cells #[.slice none 0 0,.slice none 0 0,.slice none 0 0] 26)).heap.size:=by simp
     exact (JL.Jl hsz3 (JL.Jl hsz3 (JL.Jl hsz3 HO.out))).lower (by simp;omega)
    ·exact Row.far (p:=⟨W.heap.size,2,none⟩) (by simp;omega) (Row.far (p:=⟨W.heap.size,1,none⟩) (by simp;omega) (Row.far (p:=⟨W.heap.size,0,none⟩) (by simp;omega) Rn_1.out))
 case rest =>
  obtain ⟨g5,u0,u1,u2,rfl,rfl,rfl,HW⟩:=hcut;obtain ⟨w1,rfl⟩ : ∃ w1 : World,w1 = wc:=⟨_,rfl⟩;have H1:=hH HW.out.1;have hg5:=HW.out.2.1;have R5:=hH HW.out.2.2.1;have HO:=hH HW.out.2.2.2.1;have RP:=hH HW.out.2.2.2.2;clear HW HRW;have hz1:=H1.out.size;have hl5:=R5.out.1;obtain ⟨B0,d0,B1,d1,B2,d2,rfl,rfl,rfl⟩:=HO.out.forms;(refine Ji w1 g fun q1_0 f1_0 l1_0 R1_0=>?_;refine Ji w1 g5 fun q1_1 f1_1 l1_1 R1_1=>?_;refine Ji w1 w.heap.size fun q1_2 f1_2 l1_2 R1_2=>?_)
  by_cases h0 : E3 = 0
  ·subst h0
   rw [if_pos rfl] at hst;subst hst
   obtain rfl : r = 0:=by rw [<- HR.out];rfl
   go_wp2_with fail;go_ret;have hgb : g < w.heap.size:=hg0
   have hown : ∀ (v : Value) (q : Nat),(∀ q,v.ownBlock = some q -> w.heap.size <= q) -> v.ownBlock = some q -> q ≠ g:=fun v q h hq=>by have:=h q hq;omega
   have k0:=fun q h=>(HO.out.tk.lt q h).1;have k1:=fun q h=>(HO.out.tp.lt q h).1;have k2:=fun q h=>(HO.out.vd.lt q h).1;have ks:=fun q h=>(HB.out.out.lt q h).2;refine ⟨rfl,?_,fun _=>⟨.slice B0 E1.Jc.length d0,.slice B1 E1.Jf.length d1,.slice B2 E1.Jd.length d2,.slice A3 out.length c3,HB.out.low,?_,?_,?_,?_,?_,?_,HB.out.n3,?_,?_,?_⟩⟩
   ·exact (((Below.mono H1.out hbw).setCell HB.out.low _).setCell HB.out.low _).setCell HB.out.low _
   ·have:=(((R1_0.out).J4 (i:=0) (u:=.slice B0 E1.Jc.length d0)).J4 (i:=1) (u:=.slice B1 E1.Jf.length d1)).J4 (i:=2) (u:=.slice B2 E1.Jd.length d2)
    simpa using this
   ·exact (JL.Jl hgb (JL.Jl hgb (JL.Jl hgb HO.out))).lower hbw
   ·exact (((HB.out.out.ext H1.out).put HB.out.n3 _).put HB.out.n3 _).put HB.out.n3 _
   ·intro h;have:=k0 _ h;omega
   ·intro h;have:=k1 _ h;omega
   ·intro h;have:=k2 _ h;omega
   ·intro q h h2;have:=k0 _ h2;have:=ks q h;omega
   ·intro q h h2;have:=k1 _ h2;have:=ks q h;omega
   ·intro q h h2;have:=k2 _ h2;have:=ks q h;omega
  ·have h0b : (E3 == 0) = false:=by simpa using h0
   rw [if_neg h0] at hst;subst hst
   by_cases h2 : E3 = 2
   ·subst h2
    obtain rfl : r = 2:=by rw [<- HR.out];rfl
    go_wp2_with fail;go_ret;exact ⟨rfl,Below.mono (Je : Ext w _) hbw,fun h=>absurd rfl (HQ.out.symm ▸ h : (2 : Int) ≠ 2)⟩
   ·have h2b : (E3 == 2) = false:=by simpa using h2
    obtain rfl : r = 0:=by rw [<- HR.out,if_neg h2]
    go_upto_region 3 with fail;clear HO R5 R1_1 q1_1 f1_1 l1_1;obtain ⟨own,hown⟩ : ∃ own : Nat -> Prop,own = fun k=>(Value.slice A3 out.length c3).ownBlock = some k:=⟨_,rfl⟩;have hw1 : Ext w w1:=H1.out;have O1:=HB.out.out.ext hw1
    have hnb : ¬ own g:=by rw [hown];exact HB.out.n3
    have hnt : ¬ own w.heap.size:=by
     rw [hown];intro h
     have:=(HB.out.out.lt _ h).2;omega
    have HK:=hH (fun (w' : World) (h : Fr own w1 w')=>And.intro (h.row hnb R1_0.out).2.1 (h.row hnt R1_2.out).2.1);(refine Jw (fun w'=>Fr own w1 w') 8 (by kernel_rfl) (Fr.mk rfl rfl rfl (Nat.le_refl _) (fun _ _ _=>rfl)) (fun hS=>?_);simp only [List.length_cons,List.length_nil]);(refine tkP 0 ?_);(refine tkR 1 HK hS ?_;refine tkR 2 HK hS ?_;refine tkR 3 HK hS ?_;refine tkR 4 HK hS ?_;refine tkR 5 HK hS ?_);obtain ⟨i0,ji,ji0,ji1,ji2⟩:=info_parts Xi;refine T_jobs' 2 own n1 [⟨4,23,none,none,57,5,out.length,encs tpc out⟩,⟨6,25,none,none,57,5,[p].length,encs tpc [p]⟩,⟨7,26,some 0,some 1,57,5,(out ++ [p]).length,encs tpc (out ++ [p])⟩] [true,false,false]
     (fun | 0=>some ⟨.slice A3 out.length c3,57,5,out.length,encs tpc out⟩ | _=>none) rfl rfl (by kernel_rfl) (by kernel_rfl) (by kernel_rfl) (by kernel_rfl) ?hd ?hb ?hI ?hg ?hS ?hj ?hf
    case hd=>intro q J hq;rcases q with _ | _ | _ | q <;> simp only [List.getElem?_cons_zero,List.getElem?_cons_succ,List.getElem?_nil,Option.some.injEq,reduceCtorEq] at hq <;> subst hq <;> simp
    case hb=>exact Nat.le_trans hbw (by simpa using hw1.size)
    case hI =>
     refine ⟨fun q r hq=>?_,fun q1 q2 r s hne h1 h2 b hb1 hb2=>?_,fun q r b hq hbb=>?_,Fr.refl _ _⟩
     ·rcases q with _ | q <;> simp at hq
      subst hq;exact O1
     ·rcases q1 with _ | q1 <;> simp at h1
      rcases q2 with _ | q2 <;> simp at h2
      exact absurd rfl hne
     ·right
      rw [hown]
      rcases q with _ | q <;> simp at hq
      subst hq;exact hbb
    case hg=>intro q J hq hb;rcases q with _ | _ | _ | q <;> simp only [List.getElem?_cons_zero,List.getElem?_cons_succ,List.getElem?_nil,Option.some.injEq,reduceCtorEq] at hq hb <;> subst hq <;> rfl
    case hS=>exact fun W h=>⟨h.os,h.tape,h.output,h.size,h.block⟩
    case hj =>
     intro q J hq hb
     rcases q with _ | _ | _ | q <;> simp only [List.getElem?_cons_zero,List.getElem?_cons_succ,List.getElem?_nil,Option.some.injEq,reduceCtorEq] at hq hb <;> subst hq
     ·refine Zu (enc:=tpc) [p] Jr rfl rfl rfl rfl rfl (by simp [maxLen]) rfl (fun a _=>Jt rfl) (fun a W K hag hK=>bs1_tp p a W K ?_ ?_)
      ·rw [hag.eval (by rfl)];rfl
      ·simpa [encs] using hK
     ·exact owes_app (enc:=tpc) (px:=0) (py:=1) out [p] Tryz.underlying23 ji ji0 ji1 ji2 rfl (by decide) Jr rfl rfl rfl rfl ⟨rfl,rfl,rfl,rfl⟩ ⟨rfl,rfl,rfl,rfl⟩ ⟨rfl,rfl,rfl,rfl⟩ rfl (fun a _=>Jt rfl) rfl rfl (Xn [p]) (by have:=HLN.out;unfold maxLen;simp;omega) (by have:=HLN.out;simp;omega)
    case hf =>
     intro f W rows hinv hrows;have h3:=hrows 2 _ rfl (by intro q K hq;rcases q with _ | _ | _ | q <;> simp only [List.getElem?_cons_zero,List.getElem?_cons_succ,List.getElem?_nil,Option.some.injEq,reduceCtorEq] at hq <;> subst hq <;> simp);have o3 : Jh 57 5 tpc n1 W (f 2) (out ++ [p]):=hinv.ok 2 _ h3;have hm3 : ∀ q,(f 2).ownBlock = some q -> w1.heap.size <= q \/ own q:=fun q=>hinv.home 2 _ q h3;have hfr : Fr own w1 W:=⟨hinv.fr.os,hinv.fr.tape,hinv.fr.output,hinv.fr.size,hinv.fr.block⟩;clear hinv hrows h3;simp only [XQ,if_true,if_false,Bool.false_eq_true,Act.put,Jm,Nat.zero_add,Nat.reduceAdd];generalize f 1 = v2;generalize f 2 = v3 at *;obtain ⟨B3,d3,rfl⟩:=o3.form;have O2:=HB.out.ld.ext hw1
     have kk : JL n1 W (.slice A0 x.Jc.length c0) (.slice A1 x.Jf.length c1) (.slice A2 x.Jd.length c2) x:=by
      refine O2.rest (hfr.own O2.tk ?_) (hfr.own O2.tp ?_) (hfr.own O2.vd ?_)
      ·rw [hown];exact fun q h1 h2=>HB.out.d0 q h2 h1
      ·rw [hown];exact fun q h1 h2=>HB.out.d1 q h2 h1
      ·rw [hown];exact fun q h1 h2=>HB.out.d2 q h2 h1
     have n3 : (Value.slice B3 (out ++ [p]).length d3).ownBlock ≠ some g:=fun h=>by
      rcases hm3 _ h with h | h
      ·have:=R1_0.out.1;omega
      ·exact hnb h
     have hlt0 : ∀ q,(Value.slice A0 x.Jc.length c0).ownBlock = some q -> q < w1.heap.size:=fun q h=>(O2.tk.lt q h).2;have hlt1 : ∀ q,(Value.slice A1 x.Jf.length c1).ownBlock = some q -> q < w1.heap.size:=fun q h=>(O2.tp.lt q h).2;have hlt2 : ∀ q,(Value.slice A2 x.Jd.length c2).ownBlock = some q -> q < w1.heap.size:=fun q h=>(O2.vd.lt q h).2
     have e0 : ∀ q,(Value.slice B3 (out ++ [p]).length d3).ownBlock = some q -> (Value.slice A0 x.Jc.length c0).ownBlock ≠ some q:=fun q h1 h2=>by
      rcases hm3 q h1 with h | h
      ·have:=hlt0 q h2;omega
      ·rw [hown] at h;exact HB.out.d0 q h h2
     have e1 : ∀ q,(Value.slice B3 (out ++ [p]).length d3).ownBlock = some q -> (Value.slice A1 x.Jf.length c1).ownBlock ≠ some q:=fun q h1 h2=>by
      rcases hm3 q h1 with h | h
      ·have:=hlt1 q h2;omega
      ·rw [hown] at h;exact HB.out.d1 q h h2
     have e2 : ∀ q,(Value.slice B3 (out ++ [p]).length d3).ownBlock = some q -> (Value.slice A2 x.Jd.length c2).ownBlock ≠ some q:=fun q h1 h2=>by
      rcases hm3 q h1 with h | h
      ·have:=hlt2 q h2;omega
      ·rw [hown] at h;exact HB.out.d2 q h h2
     have hBW : Below n1 w W:=Below.trans (Below.mono hw1 hbw) (hfr.below (by have:=hw1.size;omega) (fun k hk=>by
      rw [hown] at hk
      exact (O1.lt k hk).1))
     have HKK:=hH kk;have HN3:=hH n3;have HE0:=hH e0;have HE1:=hH e1;have HE2:=hH e2;have HO3:=hH o3;have HBW:=hH hBW;clear kk hm3 o3 n3 e0 e1 e2 hBW O2 hlt0 hlt1 hlt2;have hS:=hfr;have RB:=hfr.row hnb R1_0.out;have hqB:=RB.2.1;have hfB:=RB.2.2;have hlB:=RB.1;have HRB:=hH RB;clear RB;((refine oA 8 fun K hK=>?_;go_simp;refine hK.out _ _ (.inr hS) ?_;clear hK;(try simp only [Act.put,Jm])));((refine oA 9 fun K hK=>?_;go_simp;refine hK.out _ _ (.inl (by kernel_rfl)) ?_;clear hK;(try simp only [Act.put,Jm])));(refine oA 10 fun K hK=>?_;go_simp;refine hK.out _ _ (.inl (by kernel_rfl)) ?_;clear hK;(try simp only [Act.put,Jm]);refine Ju (by kernel_rfl) ?_ _);clear hqB hfB hS hfr hnb hnt hown;go_wp2_with fail;go_ret;refine ⟨rfl,HBW.out.setCell HB.out.low _,fun _=>⟨.slice A0 x.Jc.length c0,.slice A1 x.Jf.length c1,.slice A2 x.Jd.length c2,.slice B3 (out ++ [p]).length d3,HB.out.low,?_,HKK.out.put HB.out.n0 HB.out.n1 HB.out.n2 _,HO3.out.put HN3.out _,HB.out.n0,HB.out.n1,HB.out.n2,HN3.out,HE0.out,HE1.out,HE2.out⟩⟩;have:=HRB.out.J4 (i:=3) (u:=.slice B3 (out ++ [p]).length d3)
     simpa using this

theorem RdL.below {α : Type} [Inhabited α] {k n1 : Nat} {enc : α -> Array Value} {w w' : World} {v : Value} {l : List α} (h : RdL k enc w v l) (hi : InB n1 v l) (hb : Below n1 w w') : RdL k enc w' v l:=by
 obtain ⟨A,c,hv,h1,h2,h3⟩:=h;refine ⟨A,c,hv,h1,h2,fun hp=>?_⟩;obtain ⟨b,o,hA,hb',hc⟩:=h3 hp;have hbn : b < n1:=hi hp b (by rw [hv,hA];rfl);refine ⟨b,o,hA,Nat.lt_of_lt_of_le hb' hb.size,fun j hj i u hu=>?_⟩;rw [Below.cell (p:=⟨b,_,none⟩) hb hbn];exact hc j hj i u hu
theorem BuOk.forms {n1 : Nat} {w : World} {g : Nat} {x : Ld} {out : List Tp} {t0 t1 t2 so : Value} (h : BuOk n1 w g x out t0 t1 t2 so) : g < w.heap.size:=h.row.1
theorem intoF_cons (x : Ld) (out : List Tp) (p : Tp) (l : List Tp) : Zx x out (p :: l) = if (Jy x p).2.2 = 2 then (ld0,[],2) else Zx (stepM x out p).1 (stepM x out p).2 l:=by
 unfold stepM;rw [Zx]
 split
 ·rfl
 ·split <;> rfl
theorem stepM_right {x : Ld} {out : List Tp} {p : Tp} (h : Js x = 0) : Js (stepM x out p).1 = 0 /\ (stepM x out p).2.length <= out.length + 1:=by
 unfold stepM
 split
 ·rename_i h0
  exact ⟨(enterL_ok h h0).1,Nat.le_succ _⟩
 ·exact ⟨h,by simp⟩

theorem rule_Each_enter (l : List Tp) (v : Value) (x : Ld) (out : List Tp) (t0 t1 t2 so : Value) (g n1 : Nat) (w : World) (hr : RdL 5 tpc w v l) (hi : InB n1 v l) (hck : Js x = 0) (hB : BuOk n1 w g x out t0 t1 t2 so) (hlen : out.length + l.length <= 100) :
  Calls Tryz.prog 127 #[v,.func (.func 171) #[.pointer (some ⟨g,0,none⟩)] #[]] w fun e w'=>e = .returned (.int .i64 (Zx x out l).2.2) /\ Below n1 w w' /\
   ((Zx x out l).2.2 = 0 -> ∃ t0' t1' t2' so',BuOk n1 w' g (Zx x out l).1 (Zx x out l).2.1 t0' t1' t2' so'):=by
 have hm : l.length <= 9223372036854775807:=by omega
 have hn1 : n1 <= w.heap.size:=Nat.le_trans hB.low (Nat.le_of_lt hB.row.1);have HRd:=hH (fun (w' : World) (h : Below n1 w w')=>hr.below hi h);obtain ⟨A,c,rfl,hlc,-⟩:=hr.form;have HL:=hH hlen;generalize hres : Zx x out l = R;generalize hQ : (R.2.2 = 0) = Q;have HQ:=hH hQ;clear hQ;have HS:=hH (show ∃ (xk : Ld) (ok : List Tp),Zx xk ok (l.drop 0) = R /\ Js xk = 0 /\ ok.length + (l.length - 0) <= 100 /\ ∃ a0 a1 a2 a3,BuOk n1 w g xk ok a0 a1 a2 a3 from ⟨x,out,by simpa using hres,hck,by omega,t0,t1,t2,so,hB⟩);have hg0:=hB.low;clear hr hi hB hck hres hlen hlc;go_enter Tryz.func127,Tryz.ntmps127;go_wp2_with fail
 go_loopg [4,6,7,10] l.length (fun gg _ _ _ s10 wr=>∃ k : Nat,k <= l.length /\ l.length - k <= gg /\ s10 = .int .i64 k /\ Aside (Below n1 w wr) /\ Aside (∃ (xk : Ld) (ok : List Tp),Zx xk ok (l.drop k) = R /\ Js xk = 0 /\ ok.length + (l.length - k) <= 100 /\ ∃ a0 a1 a2 a3,BuOk n1 wr g xk ok a0 a1 a2 a3))
 case atStart=>exact ⟨0,Nat.zero_le _,by omega,rfl,Below.mono (Ext.refl _) hn1,HS.out⟩
 case round =>
  obtain ⟨k,hk,hg,rfl,HE,HA⟩:=hrel;have HE2:=hH HE.out;obtain ⟨xk,ok,hR,hck,hln,a0,a1,a2,a3,hB⟩:=HA.out;have HB:=hH hB;have HR:=hH hR;have HCK:=hH hck;have HLN:=hH hln;clear HE HA hB hR hck hln HS
  by_cases hlt : k < l.length
  ·have hlt' : (k : Int) < (l.length : Int):=by omega
   have hrw:=HR.out;rw [List.drop_eq_getElem_cons hlt,intoF_cons] at hrw;obtain ⟨b,o,rfl,hb,c0,c1,c2,c3,c4⟩:=(HRd.out _ HE2.out).ZX rfl hlt;generalize l[k] = p at *;have HC:=hH (fun w' (h : Ext wr w')=>builder_enter xk ok a0 a1 a2 a3 p g n1 w' HCK.out (HB.out.ext h) (by have:=HLN.out;omega));have HST:=hH (stepM_right (x:=xk) (out:=ok) (p:=p) HCK.out);generalize stepM xk ok p = T at *;generalize (Jy xk p).2.2 = e3 at *;obtain ⟨p0,p1,p2,p3,p4⟩:=p;unfold tpc at HC;simp only at c0 c1 c2 c3 c4;have HRW:=hH hrw;clear hrw;have hnr : n1 <= wr.heap.size:=Nat.le_trans HB.out.low (Nat.le_of_lt HB.out.row.1);go_wp2_with fail;refine (HC.out _ Je).mono ?_;rintro e w1 ⟨rfl,h1,h2⟩;have hB1 : Below n1 w w1:=Below.trans (Below.trans HE2.out (Below.mono (Je : Ext wr _) hnr)) h1;have HB1:=hH hB1;have HP:=hH h2;clear h1 h2 hB1
   by_cases h2 : e3 = 2
   ·subst h2
    have hR2 : R = (ld0,[],2):=by rw [<- HRW.out];rfl
    subst hR2
    have HNQ:=hH (show ¬ Q by
     rw [<- HQ.out]
     decide)
    rw [if_pos rfl];go_wp2_with fail;go_ret;exact ⟨rfl,HB1.out,fun h=>absurd h HNQ.out⟩
   ·have hR2:=HRW.out
    rw [if_neg h2] at hR2;have HR2:=hH hR2;obtain ⟨b0,b1,b2,b3,hB2⟩:=HP.out h2;have HB2:=hH hB2;clear hR2 hB2 HP;have hi2 : (if e3 = 2 then (2 : Int) else 0) = 0:=if_neg h2;rw [hi2];go_wp2_with fail;go_roundg (l.length - (k + 1))
    case measure=>omega
    case rel =>
     refine ⟨k + 1,by omega,by omega,by go_num,HB1.out,T.1,T.2,HR2.out,HST.out.1,?_,b0,b1,b2,b3,HB2.out⟩;have:=HST.out.2;have:=HLN.out
     omega
  ·have hge : ¬ (k : Int) < (l.length : Int):=by omega
   have hR2 : R = (xk,ok,0):=by
    rw [<- HR.out,List.drop_of_length_le (by omega)]
    rfl
   subst hR2;go_wp2_with fail;go_ret;exact ⟨rfl,HE2.out,fun _=>⟨a0,a1,a2,a3,HB.out⟩⟩

theorem intoF_code : ∀ (l : List Tp) (x : Ld) (out : List Tp),(Zx x out l).2.2 = 0 \/ (Zx x out l).2.2 = 2
 | [],_,_=>.inl rfl
 | p :: l,x,out=>by
  unfold Zx
  split
  ·exact .inr rfl
  ·split
   ·exact intoF_code l _ _
   ·exact intoF_code l _ _
theorem merge_Raw (l : Ld) (more : List Tp) (s0 s1 s2 v : Value) (w : World) (hck : Js l = 0) (hm : more.length <= 12) (hr0 : RdL 6 tkc w s0 l.Jc) (hr1 : RdL 5 tpc w s1 l.Jf) (hr2 : RdL 1 inc w s2 l.Jd) (hr : RdL 5 tpc w v more) :
  Calls Tryz.prog 133 #[.agg #[s0,s1,s2],v] w fun e w'=>∃ t0 t1 t2 so,e = .returned (.tuple #[.agg #[t0,t1,t2],so,.int .i64 (ZA l more).2.2]) /\ Ext w w' /\ JL w.heap.size w' t0 t1 t2 (ZA l more).1 /\ Jh 57 5 tpc w.heap.size w' so (ZA l more).2.1 /\ (∀ q,so.ownBlock = some q -> t0.ownBlock ≠ some q /\ t1.ownBlock ≠ some q /\ t2.ownBlock ≠ some q):=by
 have hb:=J6.1 hck;have HCC:=hH (fun (w' : World) (b : Nat) (h : Ext w w') (hb2 : Row w' b #[s1,v])=>Concat_tp l.Jf more s1 v b w' (hr1.ext h) (hr.ext h) hb2 (by omega));have HOR:=hH (fun (s : Value) (w' : World) (h : RdL 5 tpc w' s (l.Jf ++ more))=>merge_Order (l.Jf ++ more) s w' h);have HCK:=hH (fun w' (h : Ext w w')=>Clone_tk l.Jc s0 w' (hr0.ext h) (by omega));have HRB:=hH (right_bare hck)
 have hres : ZA l more = if (Ze (l.Jf ++ more)).2 ≠ 0 then (ld0,[],(Ze (l.Jf ++ more)).2) else Zx ⟨l.Jc,[],[]⟩ [] (Ze (l.Jf ++ more)).1:=rfl
 have hol : (Ze (l.Jf ++ more)).1.length <= 72:=by
  by_cases h : (Ze (l.Jf ++ more)).2 = 0
  ·rw [orderL_fst h,sortT_len]
   exact (orderL_ok.1 h).1
  ·rw [orderL_bad h]
   simp
 generalize ZA l more = R at *;generalize hall : l.Jf ++ more = all at *;have HALL:=hH hall;clear hall;generalize Ze all = O at *;obtain ⟨ol,oe⟩:=O;simp only at HOR hres hol;obtain ⟨A0,c0,rfl,-,-⟩:=hr0.form;obtain ⟨A1,c1,rfl,-,-⟩:=hr1.form;obtain ⟨A2,c2,rfl,-,-⟩:=hr2.form;obtain ⟨A3,c3,rfl,-,-⟩:=hr.form;have HOL:=hH hol;clear hr0 hr1 hr2 hr hb hm hck hol
 by_cases hq : oe = 0
 case neg =>
  rw [if_pos hq] at hres;subst hres
  have hqb : (oe != 0) = true:=by simpa using hq
  have hqb2 : (oe == 0) = false:=by simpa using hq
  have HQ:=hH hq;clear hq;go_enter Tryz.func133,Tryz.ntmps133;go_wp2_with fail;refine (HCC.out _ (w.heap.size + 1 + 1) Je (by exact rowA)).mono ?_;rintro e w1 ⟨sc,rfl,h1,ho1⟩;obtain ⟨B1,d1,rfl⟩:=ho1.form;have hz1:=h1.size;(try simp only [lSz] at hz1);have H1:=hH h1;have HO1:=hH (ho1.rd Jr);clear h1 ho1;(refine Ji w1 w.heap.size fun q1_0 f1_0 l1_0 R1_0=>?_;refine Ji w1 (w.heap.size + 1) fun q1_1 f1_1 l1_1 R1_1=>?_);go_wp2_with fail;refine (HOR.out _ _ HO1.out).mono ?_;rintro e w2 ⟨so,rfl,h2,ho2⟩;obtain ⟨B2,d2,rfl⟩:=ho2.form;have hz2:=h2.size;(try simp only [lSz] at hz2);have H2:=hH h2;have HO2:=hH ho2;clear h2 ho2;(refine Ji w2 w.heap.size fun q2_0 f2_0 l2_0 R2_0=>?_;refine Ji w2 (w.heap.size + 1) fun q2_1 f2_1 l2_1 R2_1=>?_);go_wp2_with fail;refine (HCK.out _ Je).mono ?_;rintro e w3 ⟨s3,rfl,h3,ho3⟩;obtain ⟨B3,d3,rfl⟩:=ho3.form;have hz3:=h3.size;(try simp only [lSz] at hz3);have H3:=hH h3;have HO3:=hH ho3;clear h3 ho3;(refine Ji w3 w.heap.size fun q3_0 f3_0 l3_0 R3_0=>?_;refine Ji w3 (w.heap.size + 1) fun q3_1 f3_1 l3_1 R3_1=>?_);go_wp2_with fail;refine bodyPost_ret (v:=.tuple #[.agg #[.slice none 0 0,.slice none 0 0,.slice none 0 0],.slice none 0 0,.int .i64 oe]) (by simp [results,Tryz.results133,go_sem, *]) rfl ⟨_,_,_,_,rfl,(Je : Ext w _),JL.nil,Jh.nil,fun q h=>by simp [Value.ownBlock] at h⟩
 subst hq;rw [if_neg (by simp)] at hres;have hcode:=intoF_code ol ⟨l.Jc,[],[]⟩ [];have hbad:=intoF_bad ol ⟨l.Jc,[],[]⟩ [];rw [<- hres] at hcode hbad;go_enter Tryz.func133,Tryz.ntmps133;go_wp2_with fail;refine (HCC.out _ (w.heap.size + 1 + 1) Je (by exact rowA)).mono ?_;rintro e w1 ⟨sc,rfl,h1,ho1⟩;obtain ⟨B1,d1,rfl⟩:=ho1.form;have hz1:=h1.size;(try simp only [lSz] at hz1);have H1:=hH h1;have HO1:=hH (ho1.rd Jr);clear h1 ho1;(refine Ji w1 w.heap.size fun q1_0 f1_0 l1_0 R1_0=>?_;refine Ji w1 (w.heap.size + 1) fun q1_1 f1_1 l1_1 R1_1=>?_);go_wp2_with fail;refine (HOR.out _ _ HO1.out).mono ?_;rintro e w2 ⟨so,rfl,h2,ho2⟩;obtain ⟨B2,d2,rfl⟩:=ho2.form;have hz2:=h2.size;(try simp only [lSz] at hz2);have H2:=hH h2;have HO2:=hH ho2;clear h2 ho2;(refine Ji w2 w.heap.size fun q2_0 f2_0 l2_0 R2_0=>?_;refine Ji w2 (w.heap.size + 1) fun q2_1 f2_1 l2_1 R2_1=>?_);go_wp2_with fail;refine (HCK.out _ Je).mono ?_;rintro e w3 ⟨s3,rfl,h3,ho3⟩;obtain ⟨B3,d3,rfl⟩:=ho3.form;have hz3:=h3.size;(try simp only [lSz] at hz3);have H3:=hH h3;have HO3:=hH ho3;clear h3 ho3;(refine Ji w3 w.heap.size fun q3_0 f3_0 l3_0 R3_0=>?_;refine Ji w3 (w.heap.size + 1) fun q3_1 f3_1 l3_1 R3_1=>?_);have HEA:=hH (fun (w' : World) (g : Nat) (hr : Ext w2 w') (hB : BuOk w2.heap.size w' g ⟨l.Jc,[],[]⟩ [] (.slice B3 l.Jc.length d3) (.slice none 0 0) (.slice none 0 0) (.slice none 0 0))=>rule_Each_enter ol (.slice B2 ol.length d2) ⟨l.Jc,[],[]⟩ [] _ _ _ _ g w2.heap.size w' ((HO2.out.rd Jr).ext hr) ((HO2.out.rd Jr).inB (Nat.le_refl _)) HRB.out hB (by have:=HOL.out;simp;omega));rw [<- hres] at HEA;clear hres;obtain ⟨R1,R2,R3⟩:=R;simp only at HEA hcode hbad;have HBAD:=hH hbad;clear hbad;go_wp2_with fail
 have hBu : BuOk w2.heap.size (w3.alloc (.cells #[.slice B3 l.Jc.length d3,.slice none 0 0,.slice none 0 0,.slice none 0 0] 187)) w3.heap.size ⟨l.Jc,[],[]⟩ [] (.slice B3 l.Jc.length d3) (.slice none 0 0) (.slice none 0 0) (.slice none 0 0):=by
  have ho:=HO3.out.alloc (.cells #[.slice B3 l.Jc.length d3,.slice none 0 0,.slice none 0 0,.slice none 0 0] 187);refine ⟨hz3,Row.newAt rfl,⟨ho.lower (Nat.le_refl _),Jh.nil,Jh.nil,fun q h h2=>?_,fun q h h2=>?_,fun q h h2=>?_⟩,Jh.nil,fun h=>?_,fun h=>?_,fun h=>?_,fun h=>?_,fun q h h2=>?_,fun q h h2=>?_,fun q h h2=>?_⟩
  ·simp [Value.ownBlock] at h2
  ·simp [Value.ownBlock] at h2
  ·simp [Value.ownBlock] at h2
  ·have:=(HO3.out.lt _ h).2;omega
  ·simp [Value.ownBlock] at h
  ·simp [Value.ownBlock] at h
  ·simp [Value.ownBlock] at h
  ·simp [Value.ownBlock] at h
  ·simp [Value.ownBlock] at h
  ·simp [Value.ownBlock] at h
 have HBU:=hH hBu;clear hBu;refine (HEA.out _ _ Je HBU.out).mono ?_;rintro e w4 ⟨rfl,hb4,hB4⟩;have hE4 : Ext w w4:=Below.trans (show Ext w (w3.alloc (.cells #[.slice B3 l.Jc.length d3,.slice none 0 0,.slice none 0 0,.slice none 0 0] 187)) by exact Je) (Below.mono hb4 (by omega));have H4:=hH hE4;have HB4:=hH hB4;have R4:=hH ((R3_1.out.alloc (o:=.cells #[.slice B3 l.Jc.length d3,.slice none 0 0,.slice none 0 0,.slice none 0 0] 187)).below hb4 (by omega));clear hb4 hB4 hE4 HBU HEA;(refine Ji w4 (w.heap.size + 1) fun q4_0 f4_0 l4_0 R4_0=>?_)
 rcases hcode with rfl | rfl
 ·obtain ⟨t0,t1,t2,so,hB⟩:=HB4.out rfl
  obtain ⟨C0,e0,C1,e1,C2,e2,rfl,rfl,rfl⟩:=hB.ld.forms;obtain ⟨C3,e3,rfl⟩:=hB.out.form;have RB:=hH hB.row;have HBB:=hH hB;clear hB HB4;go_upto_region 7 with fail
  have hng : ¬ (w3.heap.size = w.heap.size + 1):=by omega
  have HK:=hH (fun (w' : World) (h : Fr (fun q=>q = w.heap.size + 1) w4 w')=>(h.row hng RB.out).2.1);(refine Jw (fun w'=>Fr (fun q=>q = w.heap.size + 1) w4 w') 10 (by kernel_rfl) (Fr.mk rfl rfl rfl (Nat.le_refl _) (fun _ _ _=>rfl)) (fun hS=>?_);simp only [List.length_cons,List.length_nil]);(refine tkR 0 HK hS ?_;refine tkR 1 HK hS ?_;refine tkR 2 HK hS ?_;refine tkR 3 HK hS ?_;refine tkR 4 HK hS ?_;refine tkR 5 HK hS ?_;refine tkR 6 HK hS ?_;refine tkR 7 HK hS ?_);(refine oA 8 fun K hK=>?_;go_simp);clear hS;have hS : Fr (fun q=>q = w.heap.size + 1) w4 ((((w4.setCell ⟨w.heap.size + 1,0,none⟩ (.slice C0 R1.Jc.length e0)).setCell ⟨w.heap.size + 1,1,none⟩ (.slice C1 R1.Jf.length e1)).setCell ⟨w.heap.size + 1,2,none⟩ (.slice C2 R1.Jd.length e2)).drew):=Fr.drew (Fr.Jl rfl (Fr.Jl rfl (Fr.Jl rfl (Fr.refl _ _))));refine hK.out _ _ (.inr hS) ?_;clear hK;(try simp only [Act.put,Jm]);((refine oA 9 fun K hK=>?_;go_simp;refine hK.out _ _ (.inr hS) ?_;clear hK;(try simp only [Act.put,Jm])));(refine oA 10 fun K hK=>?_;go_simp;refine hK.out _ _ (.inl (by kernel_rfl)) ?_;clear hK;(try simp only [Act.put,Jm]);refine Ju (by kernel_rfl) ?_ _);clear hS;go_wp2_with fail;refine bodyPost_ret (v:=.tuple #[.agg #[.slice C0 R1.Jc.length e0,.slice C1 R1.Jf.length e1,.slice C2 R1.Jd.length e2],.slice C3 R2.length e3,.int .i64 0]) (by simp [results,Tryz.results133,go_sem, *]) rfl ⟨_,_,_,_,rfl,(Je : Ext w _),?_,?_,fun q h=>⟨HBB.out.d0 q h,HBB.out.d1 q h,HBB.out.d2 q h⟩⟩
  ·refine JL.lower (base:=w2.heap.size) ?_ (by omega)
   have hlt : w.heap.size + 1 < w2.heap.size:=by omega
   refine JL.ext ?_ ((Ext.refl _).drew);exact JL.Jl hlt (JL.Jl hlt (JL.Jl hlt HBB.out.ld))
  ·refine Jh.lower (base:=w2.heap.size) ?_ (by omega)
   have hlt : w.heap.size + 1 < w2.heap.size:=by omega
   refine Jh.drew ?_;exact Jh.Jl hlt (Jh.Jl hlt (Jh.Jl hlt HBB.out.out))
 ·clear HB4
  obtain ⟨rfl,rfl⟩:=HBAD.out (by decide);go_wp2_with fail;refine bodyPost_ret (v:=.tuple #[.agg #[.slice none 0 0,.slice none 0 0,.slice none 0 0],.slice none 0 0,.int .i64 2]) (by simp [results,Tryz.results133,go_sem, *]) rfl ⟨_,_,_,_,rfl,(Je : Ext w _),JL.nil,Jh.nil,fun q h=>by simp [Value.ownBlock] at h⟩

end Go.Proofs.YteojjbhadgkfgaaGreat
