/- Qo: parts of the proofs, laid together. -/
import Derived.ProofKit
import Derived.OpenShut
import Derived.ShutString
import Derived.ChangeOld
import Derived.Below
import Derived.Lib.SmallJoins
import Derived.Carry
import Derived.Deep.Slices
import Derived.Deep.Fields
import Derived.ChangeSame
import Derived.DataReads
import Derived.SizedLaws
import Derived.Test.YteojjbhadgkfgaaGreatQa
import Derived.Test.YteojjbhadgkfgaaGreatQl
import Derived.Test.YteojjbhadgkfgaaGreatQb
/- How the arguments of the statements read: tickets, taps, strings, numbers. -/
set_option maxHeartbeats 64000000
namespace Go.Proofs.YteojjbhadgkfgaaGreat
set_option linter.unusedSimpArgs false
set_option linter.unusedVariables false
set_option maxRecDepth 100000
open Go Go.RowKit Go.Joins Go.ChangeShapes Go.WideShapes Go.Deep Lb

section
variable {H : Type} {enc : TypeId × Value -> H} {P : Program} {w : World} {base : Nat} {spare : Nat -> Bool} {held : Bool}
end

theorem own : ownKnob Tryz.prog.godebug = none:=by kernel_rfl
theorem laidOut : laidOutB Tryz.prog = true:=by kernel_rfl

section
variable {H : Type} {enc : TypeId × Value -> H} {w : World} {b0 base : Nat} {spare : Nat -> Bool} {held : Bool} {r : Reach}
theorem J8 {n : Nat} {v : Value} {y : DataW H × List MemPlace} (h : DataW.trod enc Tryz.prog w base spare held n 3 [v] = some y) : ∃ a : Int,v = .int .i64 a:=by
 obtain ⟨a,e0,_⟩:=DataW.trod_int Tryz.underlying3 h
 simp at e0
 exact ⟨a,e0⟩
end
end Go.Proofs.YteojjbhadgkfgaaGreat

namespace Go.Proofs.YteojjbhadgkfgaaGreat
set_option linter.unusedSimpArgs false
set_option linter.unusedVariables false
set_option maxRecDepth 100000
open Go Go.RowKit Go.Joins Go.ChangeShapes Go.WideShapes Go.Deep Lb

section
variable {H : Type} {enc : TypeId × Value -> H} {P : Program} {w : World} {base : Nat} {spare : Nat -> Bool} {held : Bool}
theorem XO {t e : TypeId} {fs : Array Field} {fuel : Nat} {cs : List Value} {x : DataW H × List MemPlace} (ht : P.underlying t = some (.slice e)) (he : P.underlying e = some (.struct fs))
  (hone : oneCellFields P fs = true) (hC : P.cellsOf e = fs.size) (h : DataW.trod enc P w base spare held fuel t cs = some x) :
  (cs = [.slice none 0 0] /\ x = (.nil,[])) \/
  ∃ (a : Addr) (len cap m : Nat) (D : Nat -> DataW H) (Pl : Nat -> List MemPlace),cs = [.slice (some a) len cap] /\ base <= a.block /\ len <= cap /\ cap <= maxLen /\ m = (if spare a.block then cap else len) /\
   x = (.slice ((List.range len).map D) ((List.range (m - len)).map fun j=>D (len + j)),MemPlace.row a (m * fs.size) ++ (List.range m).flatMap Pl) /\
   ∀ i,i < m -> ∃ (ys : List (DataW H × List MemPlace)) (n : Nat),D i = .agg (ys.map (·.1)) /\ Pl i = ys.flatMap (·.2) /\ ys.length = fs.size /\
    ∀ (j : Nat) (f : Field),fs[j]? = some f -> ∃ (v : Value) (y : DataW H × List MemPlace),w.cell? (a.add (i * fs.size + j)) = some v /\ ys[j]? = some y /\ DataW.trod enc P w base spare held n f.type [v] = some y:=by
 rcases open_slice ht h with h0 | ⟨a,len,cap,m,n,D,Pl,hcs,hb,hl,hm,hmm,hx,hi⟩
 ·exact .inl h0
 ·refine .inr ⟨a,len,cap,m,D,Pl,hcs,hb,hl,hm,hmm,by rw [hC] at hx;exact hx,fun i him=>?_⟩
  obtain ⟨cs',hc,ht'⟩:=hi i him;rw [hC] at hc;obtain ⟨ys,n',hn',hy,hlen,hyl,hf⟩:=DataW.trod_struct he ht';obtain ⟨_,hcl,hat⟩:=World.cells?_some hc;simp only [Prod.mk.injEq] at hy;refine ⟨ys,n',hy.1,hy.2,hyl,fun j f hj=>?_⟩;obtain ⟨ho,hk⟩:=hone_of hone j f hj;have hjl : j < fs.size:=(Array.getElem?_eq_some_iff.1 hj).1;have hcell:=hat j hjl;have hv : cs'[j]? = some (cs'[j]'(by omega)):=List.getElem?_eq_getElem (by omega);have h1:=hf j f hj;rw [ho,hk] at h1
  have hone' : (cs'.drop j).take 1 = [cs'[j]'(by omega)]:=by
   rw [List.drop_eq_getElem_cons (by omega)]
   rfl
  rw [hone'] at h1;have hys : ys[j]? = some (ys[j]'(by omega)):=List.getElem?_eq_getElem (by omega);refine ⟨_,_,?_,hys,h1.trans hys⟩;rw [<- Go.Deep.add_add,hcell,hv]
end

section
variable {H : Type} {enc : TypeId × Value -> H} {w : World} {b0 base : Nat} {spare : Nat -> Bool} {held : Bool} {r : Reach}
end
end Go.Proofs.YteojjbhadgkfgaaGreat

namespace Go.Proofs.YteojjbhadgkfgaaGreat
open Go Go.RowKit Lb
def vwc (v : Vw) : Array Value:=#[.int .i64 v.JK,.int .i64 v.JE,.bool v.up]
theorem JY (v : Vw) : (vwc v).size = 3:=rfl
end Go.Proofs.YteojjbhadgkfgaaGreat

namespace Go.Proofs.YteojjbhadgkfgaaGreat
set_option linter.unusedSimpArgs false
set_option linter.unusedVariables false
set_option maxRecDepth 100000
open Go Go.RowKit Go.Joins Go.ChangeShapes Go.WideShapes Go.Deep Lb

section
variable {H : Type} {enc : TypeId × Value -> H} {P : Program} {w : World} {base : Nat} {spare : Nat -> Bool} {held : Bool}
theorem XG {t : TypeId} {fs : Array Field} {fuel : Nat} {cs : List Value} {x : DataW H × List MemPlace} (ht : P.underlying t = some (.struct fs)) (h : DataW.trod enc P w base spare held fuel t cs = some x) :
  ∃ n,cs.length = P.cellsOf t /\ ∀ (i : Nat) (f : Field),fs[i]? = some f -> ∃ y,DataW.trod enc P w base spare held n f.type ((cs.drop f.offset).take (P.cellsOf f.type)) = some y:=by
 obtain ⟨xs,n,-,-,h1,h2,h3⟩:=DataW.trod_struct ht h;refine ⟨n,h1,fun i f hf=>?_⟩
 have hi : i < xs.length:=by rw [h2];exact (Array.getElem?_eq_some_iff.1 hf).1
 exact ⟨xs[i],by rw [h3 i f hf,List.getElem?_eq_getElem hi]⟩
theorem rdl_of {α : Type} [Inhabited α] {en : α -> Array Value} {k : Nat} {a : Addr} {vl vc : Nat} (hk : ∀ x,(en x).size = k) (hk0 : 0 < k) (hl : vl <= vc) (hm : vc <= maxLen)
  (hcell : ∀ i,i < vl -> ∃ x : α,∀ j u,(en x)[j]? = some u -> w.cell? (a.add (i * k + j)) = some u) : ∃ l : List α,RdL k en w (.slice (some a) vl vc) l:=by
 let g : Nat -> α:=fun i=>if h : i < vl then (hcell i h).choose else default
 have hg : ∀ i,i < vl -> ∀ j u,(en (g i))[j]? = some u -> w.cell? (a.add (i * k + j)) = some u:=by
  intro i h;have:=(hcell i h).choose_spec
  simpa [g,h] using this
 refine ⟨(List.range vl).map g,some a,vc,by simp,by simpa using hl,hm,fun hn=>?_⟩;simp only [List.length_map,List.length_range] at hn ⊢
 have hz : 0 < (en (g 0)).size:=by rw [hk];exact hk0
 have h00:=hg 0 hn 0 _ (Array.getElem?_eq_getElem hz);have hsp:=World.cell?_spot h00;have hlt:=World.block_lt_of_cell? w _ h00;obtain ⟨b,o,sp⟩:=a
 simp [Addr.add] at hsp hlt
 subst hsp;refine ⟨b,o,rfl,hlt,fun j hj i u hu=>?_⟩
 have hgj : ((List.range vl).map g)[j]! = g j:=by simp [hj]
 rw [hgj] at hu;have:=hg j hj i u hu;simp only [Addr.add] at this
 split at this
 ·rename_i h0
  rw [show o + j * k + i = o by omega];exact this
 ·rw [show o + j * k + i = o + (j * k + i) by omega];exact this
end

section
variable {H : Type} {enc : TypeId × Value -> H} {w : World} {b0 base : Nat} {spare : Nat -> Bool} {held : Bool} {r : Reach}
theorem trod_ints {n : Nat} {v : Value} {y : DataW H × List MemPlace} (h : DataW.trod enc Tryz.prog w base spare held n 24 [v] = some y) : ∃ l : List Int,RdL 1 inc w v l:=by
 rcases open_slice Tryz.underlying24 h with ⟨h0,-⟩ | ⟨a,len,cap,m,n',D,Pl,hcs,hb,hl,hm,hmm,-,hi⟩
 ·injection h0 with h0 _
  subst h0;exact ⟨[],RdL.nil⟩
 ·injection hcs with hcs _
  subst hcs
  have hlm : len <= m:=by rw [hmm];split <;> omega
  have h1 : Tryz.prog.cellsOf 3 = 1:=by kernel_rfl
  refine rdl_of JD (by decide) hl hm (fun i hil=>?_);obtain ⟨cs',hc,ht'⟩:=hi i (by omega);rw [h1] at hc;obtain ⟨_,hcl,hat⟩:=World.cells?_some hc
  match cs',hcl with
  | [c0],_ =>
   obtain ⟨x,rfl⟩:=J8 ht';refine ⟨x,fun j u hu=>?_⟩
   match j,hu with
   | 0,hu =>
    simp [inc] at hu
    subst hu;have:=hat 0 (by decide)
    simpa [Addr.add] using this
   | j + 1,hu=>simp [inc] at hu
theorem trod_taps {n : Nat} {v : Value} {y : DataW H × List MemPlace} (h : DataW.trod enc Tryz.prog w base spare held n 23 [v] = some y) : ∃ l : List Tp,RdL 5 tpc w v l:=by
 rcases XO Tryz.underlying23 Tryz.underlying57 (by kernel_rfl) (by kernel_rfl) h with ⟨h0,-⟩ | ⟨a,len,cap,m,D,Pl,hcs,hb,hl,hm,hmm,-,hi⟩
 ·injection h0 with h0 _
  subst h0;exact ⟨[],RdL.nil⟩
 ·injection hcs with hcs _
  subst hcs
  have hlm : len <= m:=by rw [hmm];split <;> omega
  refine rdl_of Jr (by decide) hl hm (fun i hil=>?_);obtain ⟨ys,n,-,-,-,hf'⟩:=hi i (by omega);obtain ⟨u0,y0,c0,-,t0⟩:=hf' 0 _ rfl;obtain ⟨u1,y1,c1,-,t1⟩:=hf' 1 _ rfl;obtain ⟨u2,y2,c2,-,t2⟩:=hf' 2 _ rfl;obtain ⟨u3,y3,c3,-,t3⟩:=hf' 3 _ rfl;obtain ⟨u4,y4,c4,-,t4⟩:=hf' 4 _ rfl;obtain ⟨a0,rfl⟩:=J8 t0;obtain ⟨a1,rfl⟩:=J8 t1;obtain ⟨a2,rfl⟩:=J8 t2;obtain ⟨a3,rfl⟩:=J8 t3;obtain ⟨a4,rfl⟩:=J8 t4;refine ⟨⟨a0,a1,a2,a3,a4⟩,fun j u hu=>?_⟩
  match j,hu with
  | 0,hu=>simp [tpc] at hu;subst hu;exact c0
  | 1,hu=>simp [tpc] at hu;subst hu;exact c1
  | 2,hu=>simp [tpc] at hu;subst hu;exact c2
  | 3,hu=>simp [tpc] at hu;subst hu;exact c3
  | 4,hu=>simp [tpc] at hu;subst hu;exact c4
  | n + 5,hu=>simp [tpc] at hu
theorem trod_tks {n : Nat} {v : Value} {y : DataW H × List MemPlace} (h : DataW.trod enc Tryz.prog w base spare held n 22 [v] = some y) : ∃ l : List Tk,RdL 6 tkc w v l:=by
 rcases XO Tryz.underlying22 Tryz.underlying34 (by kernel_rfl) (by kernel_rfl) h with ⟨h0,-⟩ | ⟨a,len,cap,m,D,Pl,hcs,hb,hl,hm,hmm,-,hi⟩
 ·injection h0 with h0 _
  subst h0;exact ⟨[],RdL.nil⟩
 ·injection hcs with hcs _
  subst hcs
  have hlm : len <= m:=by rw [hmm];split <;> omega
  refine rdl_of JH (by decide) hl hm (fun i hil=>?_);obtain ⟨ys,n,-,-,-,hf'⟩:=hi i (by omega);obtain ⟨u0,y0,c0,-,t0⟩:=hf' 0 _ rfl;obtain ⟨u1,y1,c1,-,t1⟩:=hf' 1 _ rfl;obtain ⟨u2,y2,c2,-,t2⟩:=hf' 2 _ rfl;obtain ⟨u3,y3,c3,-,t3⟩:=hf' 3 _ rfl;obtain ⟨u4,y4,c4,-,t4⟩:=hf' 4 _ rfl;obtain ⟨u5,y5,c5,-,t5⟩:=hf' 5 _ rfl;obtain ⟨a0,rfl⟩:=J8 t0;obtain ⟨a1,rfl⟩:=J8 t1;obtain ⟨a2,rfl⟩:=J8 t2;obtain ⟨a3,rfl⟩:=J8 t3;obtain ⟨a4,rfl⟩:=J8 t4;obtain ⟨a5,rfl⟩:=J8 t5;refine ⟨⟨a0,a1,a2,a3,a4,a5⟩,fun j u hu=>?_⟩
  match j,hu with
  | 0,hu=>simp [tkc] at hu;subst hu;exact c0
  | 1,hu=>simp [tkc] at hu;subst hu;exact c1
  | 2,hu=>simp [tkc] at hu;subst hu;exact c2
  | 3,hu=>simp [tkc] at hu;subst hu;exact c3
  | 4,hu=>simp [tkc] at hu;subst hu;exact c4
  | 5,hu=>simp [tkc] at hu;subst hu;exact c5
  | n + 6,hu=>simp [tkc] at hu
theorem one_bool {n : Nat} {v : Value} {y : DataW H × List MemPlace} (h : DataW.trod enc Tryz.prog w base spare held n 4 [v] = some y) : ∃ a : Bool,v = .bool a:=by
 obtain ⟨a,e0,_⟩:=DataW.trod_bool Tryz.underlying4 h
 simp at e0
 exact ⟨a,e0⟩
theorem trod_views {n : Nat} {v : Value} {y : DataW H × List MemPlace} (h : DataW.trod enc Tryz.prog w base spare held n 30 [v] = some y) : ∃ l : List Vw,RdL 3 vwc w v l:=by
 rcases XO Tryz.underlying30 Tryz.underlying110 (by kernel_rfl) (by kernel_rfl) h with ⟨h0,-⟩ | ⟨a,len,cap,m,D,Pl,hcs,hb,hl,hm,hmm,-,hi⟩
 ·injection h0 with h0 _
  subst h0;exact ⟨[],RdL.nil⟩
 ·injection hcs with hcs _
  subst hcs
  have hlm : len <= m:=by rw [hmm];split <;> omega
  refine rdl_of JY (by decide) hl hm (fun i hil=>?_);obtain ⟨ys,n,-,-,-,hf'⟩:=hi i (by omega);obtain ⟨u0,y0,c0,-,t0⟩:=hf' 0 _ rfl;obtain ⟨u1,y1,c1,-,t1⟩:=hf' 1 _ rfl;obtain ⟨u2,y2,c2,-,t2⟩:=hf' 2 _ rfl;obtain ⟨a0,rfl⟩:=J8 t0;obtain ⟨a1,rfl⟩:=J8 t1;obtain ⟨a2,rfl⟩:=one_bool t2;refine ⟨⟨a0,a1,a2⟩,fun j u hu=>?_⟩
  match j,hu with
  | 0,hu=>simp [vwc] at hu;subst hu;exact c0
  | 1,hu=>simp [vwc] at hu;subst hu;exact c1
  | 2,hu=>simp [vwc] at hu;subst hu;exact c2
  | n + 3,hu=>simp [vwc] at hu
theorem trod_dn {n : Nat} {v0 v1 : Value} {y : DataW H × List MemPlace} (h : DataW.trod enc Tryz.prog w base spare held n 28 [v0,v1] = some y) : ∃ d : Dn,v0 = .int .i64 d.Jk /\ RdL 1 inc w v1 d.ids:=by
 obtain ⟨n,-,hf⟩:=XG Tryz.underlying28 h;obtain ⟨y0,h0⟩:=hf 0 _ rfl;obtain ⟨y1,h1⟩:=hf 1 _ rfl
 change DataW.trod enc Tryz.prog w base spare held n 3 (([v0,v1].drop 0).take (Tryz.prog.cellsOf 3)) = some y0 at h0
 change DataW.trod enc Tryz.prog w base spare held n 24 (([v0,v1].drop 1).take (Tryz.prog.cellsOf 24)) = some y1 at h1
 rw [show Tryz.prog.cellsOf 3 = 1 from by kernel_rfl] at h0;rw [show Tryz.prog.cellsOf 24 = 1 from by kernel_rfl] at h1;obtain ⟨a,rfl⟩:=J8 (v:=v0) h0;obtain ⟨l,hl⟩:=trod_ints (v:=v1) h1;exact ⟨⟨a,l⟩,rfl,hl⟩
end
end Go.Proofs.YteojjbhadgkfgaaGreat

namespace Go.Proofs.YteojjbhadgkfgaaGreat
set_option linter.unusedSimpArgs false
set_option linter.unusedVariables false
set_option maxRecDepth 100000
open Go Go.RowKit Go.Joins Go.ChangeShapes Go.WideShapes Go.Deep Lb

section
variable {H : Type} {enc : TypeId × Value -> H} {w : World} {b0 base : Nat} {spare : Nat -> Bool} {held : Bool} {r : Reach}
theorem trod_bd {n : Nat} {v0 v1 : Value} {y : DataW H × List MemPlace} (h : DataW.trod enc Tryz.prog w base spare held n 50 [v0,v1] = some y) : ∃ a b : Int,v0 = .int .i64 a /\ v1 = .int .i64 b:=by
 obtain ⟨n,-,hf⟩:=XG Tryz.underlying50 h;obtain ⟨y0,h0⟩:=hf 0 _ rfl;obtain ⟨y1,h1⟩:=hf 1 _ rfl
 change DataW.trod enc Tryz.prog w base spare held n 3 (([v0,v1].drop 0).take (Tryz.prog.cellsOf 3)) = some y0 at h0
 change DataW.trod enc Tryz.prog w base spare held n 3 (([v0,v1].drop 1).take (Tryz.prog.cellsOf 3)) = some y1 at h1
 rw [show Tryz.prog.cellsOf 3 = 1 from by kernel_rfl] at h0 h1;obtain ⟨a,rfl⟩:=J8 (v:=v0) h0;obtain ⟨b,rfl⟩:=J8 (v:=v1) h1;exact ⟨a,b,rfl,rfl⟩
theorem trod_gt {n : Nat} {v0 v1 v2 v3 v4 v5 v6 v7 : Value} {y : DataW H × List MemPlace} (h : DataW.trod enc Tryz.prog w base spare held n 52 [v0,v1,v2,v3,v4,v5,v6,v7] = some y) : ∃ g : Gt,[v0,v1,v2,v3,v4,v5,v6,v7].toArray = gta g v3 v5 /\ RdL 5 tpc w v3 g.Jn /\ RdL 1 inc w v5 g.Jb.ids:=by
 obtain ⟨n,-,hf⟩:=XG Tryz.underlying52 h;obtain ⟨y0,h0⟩:=hf 0 _ rfl;obtain ⟨y1,h1⟩:=hf 1 _ rfl;obtain ⟨y2,h2⟩:=hf 2 _ rfl;obtain ⟨y3,h3⟩:=hf 3 _ rfl;obtain ⟨y4,h4⟩:=hf 4 _ rfl;obtain ⟨y5,h5⟩:=hf 5 _ rfl
 change DataW.trod enc Tryz.prog w base spare held n 3 (([v0,v1,v2,v3,v4,v5,v6,v7].drop 0).take (Tryz.prog.cellsOf 3)) = some y0 at h0
 change DataW.trod enc Tryz.prog w base spare held n 3 (([v0,v1,v2,v3,v4,v5,v6,v7].drop 1).take (Tryz.prog.cellsOf 3)) = some y1 at h1
 change DataW.trod enc Tryz.prog w base spare held n 3 (([v0,v1,v2,v3,v4,v5,v6,v7].drop 2).take (Tryz.prog.cellsOf 3)) = some y2 at h2
 change DataW.trod enc Tryz.prog w base spare held n 23 (([v0,v1,v2,v3,v4,v5,v6,v7].drop 3).take (Tryz.prog.cellsOf 23)) = some y3 at h3
 change DataW.trod enc Tryz.prog w base spare held n 28 (([v0,v1,v2,v3,v4,v5,v6,v7].drop 4).take (Tryz.prog.cellsOf 28)) = some y4 at h4
 change DataW.trod enc Tryz.prog w base spare held n 50 (([v0,v1,v2,v3,v4,v5,v6,v7].drop 6).take (Tryz.prog.cellsOf 50)) = some y5 at h5
 rw [show Tryz.prog.cellsOf 3 = 1 from by kernel_rfl] at h0 h1 h2;rw [show Tryz.prog.cellsOf 23 = 1 from by kernel_rfl] at h3;rw [show Tryz.prog.cellsOf 28 = 2 from by kernel_rfl] at h4;rw [show Tryz.prog.cellsOf 50 = 2 from by kernel_rfl] at h5;obtain ⟨a0,rfl⟩:=J8 (v:=v0) h0;obtain ⟨a1,rfl⟩:=J8 (v:=v1) h1;obtain ⟨a2,rfl⟩:=J8 (v:=v2) h2;obtain ⟨l,hl⟩:=trod_taps (v:=v3) h3;obtain ⟨d,rfl,hd⟩:=trod_dn (v0:=v4) (v1:=v5) h4;obtain ⟨a6,a7,rfl,rfl⟩:=trod_bd (v0:=v6) (v1:=v7) h5;exact ⟨⟨a0,a1,a2,l,d,a6,a7⟩,rfl,hl,hd⟩
end
end Go.Proofs.YteojjbhadgkfgaaGreat

namespace Go.Proofs.YteojjbhadgkfgaaGreat
set_option linter.unusedSimpArgs false
set_option linter.unusedVariables false
set_option maxRecDepth 100000
open Go Go.RowKit Go.Joins Go.ChangeShapes Go.WideShapes Go.Deep Lb

section
variable {H : Type} {enc : TypeId × Value -> H} {w : World} {b0 base : Nat} {spare : Nat -> Bool} {held : Bool} {r : Reach}
theorem Xz {P : Program} {t e : TypeId} {n c fuel : Nat} {A : Option Addr} {x : DataW H × List MemPlace} (ht : P.underlying t = some (.slice e)) (h : DataW.trod enc P w base spare held fuel t [.slice A n c] = some x) (hx : ∀ m ∈ x.1.weights P t,m <= reachBytes) : n * P.bytesOf e <= reachBytes:=by
 rcases open_slice ht h with ⟨hc,rfl⟩ | ⟨a,len,cap,m,n',D,Pl,hc,-,-,-,-,rfl,-⟩
 ·have h0 : n = 0:=by
   injection hc with hc
   injection hc
  subst h0;rw [Nat.zero_mul];exact Nat.zero_le _
 ·have hn : n = len:=by
   injection hc with hc
   injection hc
  subst hn;have h1:=hx (((List.range n).map D).length + ((List.range (m - n)).map fun j=>D (n + j)).length |> (· * P.bytesOf e)) (by simp [DataW.weights,ht]);simp only [List.length_map,List.length_range] at h1;refine Nat.le_trans (Nat.mul_le_mul_right _ ?_) h1
  omega
end
end Go.Proofs.YteojjbhadgkfgaaGreat

namespace Go.Proofs.YteojjbhadgkfgaaGreat
set_option linter.unusedSimpArgs false
set_option linter.unusedVariables false
set_option maxRecDepth 100000
open Go Go.RowKit Go.Joins Go.ChangeShapes Go.WideShapes Go.Deep Lb

section
variable {H : Type} {enc : TypeId × Value -> H} {w : World} {b0 base : Nat} {spare : Nat -> Bool} {held : Bool} {r : Reach}
theorem fits_dn {n k c : Nat} {v0 : Value} {A : Option Addr} {x : DataW H × List MemPlace} (h : DataW.trod enc Tryz.prog w base spare held n 28 [v0,.slice A k c] = some x) (hz : ∀ m ∈ x.1.weights Tryz.prog 28,m <= reachBytes) : k * 8 <= 140737488355328:=by
 obtain ⟨d,p⟩:=x;obtain ⟨xs,n,-,hx,-,hxl,hf⟩:=DataW.trod_struct Tryz.underlying28 h
 injection hx with hx hx2
 subst hx;have h1:=hf 1 _ rfl
 match xs,hxl with
 | [y0,y1],_ =>
 change DataW.trod enc Tryz.prog w base spare held n 24 (([v0,.slice A k c].drop 1).take (Tryz.prog.cellsOf 24)) = some y1 at h1
 rw [show Tryz.prog.cellsOf 24 = 1 from by kernel_rfl] at h1
 have hw : (DataW.agg ([y0,y1].map (·.1))).weights Tryz.prog 28 = y0.1.weights Tryz.prog 3 ++ (y1.1.weights Tryz.prog 24 ++ []):=by
  simp only [DataW.weights,Tryz.underlying28]
  rfl
 rw [hw] at hz;have z1:=Xz Tryz.underlying24 h1 (fun m hm=>hz m (List.mem_append.2 (.inr (List.mem_append.2 (.inl hm)))));rw [show Tryz.prog.bytesOf 3 = 8 from by kernel_rfl] at z1;have hr:=reachBytes_lt
 omega
end
end Go.Proofs.YteojjbhadgkfgaaGreat
