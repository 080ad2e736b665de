/- RestStations: for every input the law returns true, and each argument reads afterwards as it read before. No condition. -/
import Derived.SizedLaws
import Derived.Test.YteojjbhadgkfgaaGreatRows
import Derived.Test.YteojjbhadgkfgaaGreatQo
import Derived.Test.YteojjbhadgkfgaaGreatQs
import Derived.Test.YteojjbhadgkfgaaGreatQbb
/- How the arguments of the statements read, VIII: the bytes of a station's slices. -/
set_option maxHeartbeats 64000000
namespace Go.Proofs.YteojjbhadgkfgaaGreat
set_option linter.unusedSimpArgs false
set_option linter.unusedVariables false
set_option maxRecDepth 100000
open Go Go.RowKit Go.Joins Go.ChangeShapes Go.WideShapes Go.Deep Lb

section
variable {H : Type} {enc : TypeId × Value -> H} {w : World} {b0 base : Nat} {spare : Nat -> Bool} {held : Bool} {r : Reach}
theorem weights_all {P : Program} {e : TypeId} {d : DataW H} {m : Nat} (hm : m ∈ d.weights P e) : ∀ {ds : List (DataW H)},d ∈ ds -> m ∈ DataW.weightsAll P e ds
 | [],hd=>by cases hd
 | x :: l,hd=>by
  unfold DataW.weightsAll
  rcases List.mem_cons.1 hd with rfl | hd
  ·exact List.mem_append.2 (.inl hm)
  ·exact List.mem_append.2 (.inr (weights_all hm hd))
theorem fits_ld {n k0 k1 k2 c0 c1 c2 : Nat} {A0 A1 A2 : Option Addr} {x : DataW H × List MemPlace} (h : DataW.trod enc Tryz.prog w base spare held n 26 [.slice A0 k0 c0,.slice A1 k1 c1,.slice A2 k2 c2] = some x) (hz : ∀ m ∈ x.1.weights Tryz.prog 26,m <= reachBytes) :
  k0 * 48 <= 140737488355328 /\ k1 * 40 <= 140737488355328 /\ k2 * 8 <= 140737488355328:=by
 obtain ⟨d,p⟩:=x;obtain ⟨xs,n,-,hx,-,hxl,hf⟩:=DataW.trod_struct Tryz.underlying26 h
 injection hx with hx hx2
 subst hx;have h0:=hf 0 _ rfl;have h1:=hf 1 _ rfl;have h2:=hf 2 _ rfl
 match xs,hxl with
 | [y0,y1,y2],_ =>
 change DataW.trod enc Tryz.prog w base spare held n 22 (([.slice A0 k0 c0,.slice A1 k1 c1,.slice A2 k2 c2].drop 0).take (Tryz.prog.cellsOf 22)) = some y0 at h0
 change DataW.trod enc Tryz.prog w base spare held n 23 (([.slice A0 k0 c0,.slice A1 k1 c1,.slice A2 k2 c2].drop 1).take (Tryz.prog.cellsOf 23)) = some y1 at h1
 change DataW.trod enc Tryz.prog w base spare held n 24 (([.slice A0 k0 c0,.slice A1 k1 c1,.slice A2 k2 c2].drop 2).take (Tryz.prog.cellsOf 24)) = some y2 at h2
 rw [show Tryz.prog.cellsOf 22 = 1 from by kernel_rfl] at h0;rw [show Tryz.prog.cellsOf 23 = 1 from by kernel_rfl] at h1;rw [show Tryz.prog.cellsOf 24 = 1 from by kernel_rfl] at h2
 have hw : (DataW.agg ([y0,y1,y2].map (·.1))).weights Tryz.prog 26 = y0.1.weights Tryz.prog 22 ++ (y1.1.weights Tryz.prog 23 ++ (y2.1.weights Tryz.prog 24 ++ [])):=by
  simp only [DataW.weights,Tryz.underlying26]
  rfl
 rw [hw] at hz;have z0:=Xz Tryz.underlying22 h0 (fun m hm=>hz m (List.mem_append.2 (.inl hm)));have z1:=Xz Tryz.underlying23 h1 (fun m hm=>hz m (List.mem_append.2 (.inr (List.mem_append.2 (.inl hm)))));have z2:=Xz Tryz.underlying24 h2 (fun m hm=>hz m (List.mem_append.2 (.inr (List.mem_append.2 (.inr (List.mem_append.2 (.inl hm)))))));rw [show Tryz.prog.bytesOf 34 = 48 from by kernel_rfl] at z0;rw [show Tryz.prog.bytesOf 57 = 40 from by kernel_rfl] at z1;rw [show Tryz.prog.bytesOf 3 = 8 from by kernel_rfl] at z2;have hr:=reachBytes_lt
 omega
theorem trod_gtz {n : Nat} {v0 v1 v2 v3 v4 v5 v6 v7 : Value} {y : DataW H × List MemPlace} (h : DataW.trod enc Tryz.prog w base spare held n 52 [v0,v1,v2,v3,v4,v5,v6,v7] = some y) (hz : ∀ m ∈ y.1.weights Tryz.prog 52,m <= reachBytes) :
  ∃ g : Gt,[v0,v1,v2,v3,v4,v5,v6,v7].toArray = gta g v3 v5 /\ RdL 5 tpc w v3 g.Jn /\ RdL 1 inc w v5 g.Jb.ids /\ g.Jn.length * 40 <= 140737488355328 /\ g.Jb.ids.length * 8 <= 140737488355328:=by
 obtain ⟨g,hg,e,f⟩:=trod_gt h;have e':=e;have f':=f;obtain ⟨A,c,rfl,-,-⟩:=e.form;obtain ⟨A2,c2,rfl,-,-⟩:=f.form;obtain ⟨d,p⟩:=y;obtain ⟨xs,n,-,hx,-,hxl,hf⟩:=DataW.trod_struct Tryz.underlying52 h
 injection hx with hx hx2
 subst hx;have h3:=hf 3 _ rfl;have h4:=hf 4 _ rfl
 match xs,hxl with
 | [y0,y1,y2,y3,y4,y5],_ =>
 change DataW.trod enc Tryz.prog w base spare held n 23 (([v0,v1,v2,.slice A g.Jn.length c,v4,.slice A2 g.Jb.ids.length c2,v6,v7].drop 3).take (Tryz.prog.cellsOf 23)) = some y3 at h3
 change DataW.trod enc Tryz.prog w base spare held n 28 (([v0,v1,v2,.slice A g.Jn.length c,v4,.slice A2 g.Jb.ids.length c2,v6,v7].drop 4).take (Tryz.prog.cellsOf 28)) = some y4 at h4
 rw [show Tryz.prog.cellsOf 23 = 1 from by kernel_rfl] at h3;rw [show Tryz.prog.cellsOf 28 = 2 from by kernel_rfl] at h4
 have hw : (DataW.agg ([y0,y1,y2,y3,y4,y5].map (·.1))).weights Tryz.prog 52 = y0.1.weights Tryz.prog 3 ++ (y1.1.weights Tryz.prog 3 ++ (y2.1.weights Tryz.prog 3 ++ (y3.1.weights Tryz.prog 23 ++ (y4.1.weights Tryz.prog 28 ++ (y5.1.weights Tryz.prog 50 ++ []))))):=by
  simp only [DataW.weights,Tryz.underlying52]
  rfl
 rw [hw] at hz;have z3:=Xz Tryz.underlying23 h3 (fun m hm=>hz m (by simp only [List.mem_append];exact .inr (.inr (.inr (.inl hm)))));have z4:=fits_dn h4 (fun m hm=>hz m (by simp only [List.mem_append];exact .inr (.inr (.inr (.inr (.inl hm))))));rw [show Tryz.prog.bytesOf 57 = 40 from by kernel_rfl] at z3;have hr:=reachBytes_lt;exact ⟨g,hg,e',f',by omega,z4⟩
theorem trod_gtsz {n : Nat} {v : Value} {y : DataW H × List MemPlace} (h : DataW.trod enc Tryz.prog w base spare held n 29 [v] = some y) (hz : ∀ m ∈ y.1.weights Tryz.prog 29,m <= reachBytes) :
  ∃ gl : List Gt,RdG w v gl /\ gl.length * 96 <= 140737488355328 /\ ∀ g ∈ gl,g.Jn.length * 40 <= 140737488355328 /\ g.Jb.ids.length * 8 <= 140737488355328:=by
 have h':=h
 rcases open_slice Tryz.underlying29 h with ⟨h0,-⟩ | ⟨a,len,cap,m,n',D,Pl,hcs,hb,hl,hm,hmm,rfl,hi⟩
 ·injection h0 with h0 _
  subst h0;exact ⟨[],RdG.nil,by simp,fun g hg=>by cases hg⟩
 ·injection hcs with hcs _
  subst hcs;have hlen:=Xz Tryz.underlying29 h' hz;rw [show Tryz.prog.bytesOf 52 = 96 from by kernel_rfl] at hlen
  have hlm : len <= m:=by rw [hmm];split <;> omega
  have h1 : Tryz.prog.cellsOf 52 = 8:=by kernel_rfl
  have hD : ∀ i,i < len -> ∀ u ∈ (D i).weights Tryz.prog 52,u <= reachBytes:=fun i hil u hu=>hz u (by
   simp only [DataW.weights,Tryz.underlying29]
   exact List.mem_cons_of_mem _ (List.mem_append.2 (.inl (weights_all hu (List.mem_map.2 ⟨i,List.mem_range.2 hil,rfl⟩)))))
  obtain ⟨ys,hys,hq⟩:=rdl_ofP (w:=w) (a:=a) (en:=gyc) (Q:=fun y=>GyR w y /\ y.g.Jn.length * 40 <= 140737488355328 /\ y.g.Jb.ids.length * 8 <= 140737488355328) Jz (by decide) hl hm (fun i hil=>by
   obtain ⟨cs',hc,ht'⟩:=hi i (by omega);rw [h1] at hc;obtain ⟨_,hcl,hat⟩:=World.cells?_some hc
   match cs',hcl with
   | [c0,c1,c2,c3,c4,c5,c6,c7],_ =>
    obtain ⟨g,hg,r1,r2,z1,z2⟩:=trod_gtz (v0:=c0) (v1:=c1) (v2:=c2) (v3:=c3) (v4:=c4) (v5:=c5) (v6:=c6) (v7:=c7) ht' (hD i hil);refine ⟨⟨g,c3,c5⟩,⟨⟨r1,r2⟩,z1,z2⟩,fun j u hu=>?_⟩
    have hj : j < 8:=by
     have:=(Array.getElem?_eq_some_iff.1 hu).1
     simpa [Jz] using this
    have hat:=hat j hj
    have hu2 : [c0,c1,c2,c3,c4,c5,c6,c7][j]? = some u:=by
     have : gyc ⟨g,c3,c5⟩ = [c0,c1,c2,c3,c4,c5,c6,c7].toArray:=hg.symm;rw [this] at hu
     simpa using hu
    rw [hu2] at hat;rw [<- Go.Deep.add_add]
    exact hat)
  have hyl : ys.length = len:=by
   obtain ⟨A,c,h2,-⟩:=hys.form
   injection h2 with _ h3 _
   exact h3.symm
  have hr:=reachBytes_lt;refine ⟨ys.map (·.g),⟨ys,rfl,hys,fun y hy=>(hq y hy).1⟩,?_,fun g hg=>?_⟩
  ·rw [List.length_map,hyl];omega
  ·obtain ⟨y,hy,rfl⟩:=List.mem_map.1 hg
   exact (hq y hy).2
theorem open_stz {v : Value} {d : DataW H} {p : List MemPlace} (hv : Value.okWide Tryz.prog w r b0 32 v) (h : DataW.Trod enc Tryz.prog w base spare held 32 v d p) (hz : ∀ m ∈ d.weights Tryz.prog 32,m <= reachBytes) :
  ∃ (s : St) (x : Sv),v = .agg (sta s x) /\ RdS w x s /\ fitsL s.Ja /\ s.Jb.ids.length * 8 <= 140737488355328 /\ s.Jj.length * 24 <= 140737488355328 /\ s.Jg.length * 96 <= 140737488355328 /\ ∀ g ∈ s.Jg,g.Jn.length * 40 <= 140737488355328 /\ g.Jb.ids.length * 8 <= 140737488355328:=by
 obtain ⟨cs,rfl,hsz⟩:=okWide_struct Tryz.underlying32 hv;obtain ⟨l⟩:=cs
 match l,hsz.trans (show Tryz.prog.cellsOf 32 = 7 from by kernel_rfl) with
 | [v0,v1,v2,v3,v4,v5,v6],_ =>
  obtain ⟨fuel,hf0⟩:=h;obtain ⟨xs,n,-,hx,-,hxl,hf⟩:=DataW.trod_struct Tryz.underlying32 hf0
  injection hx with hx hx2
  subst hx;have h0:=hf 0 _ rfl;have h1:=hf 1 _ rfl;have h2:=hf 2 _ rfl;have h3:=hf 3 _ rfl
  match xs,hxl with
  | [y0,y1,y2,y3],_ =>
  change DataW.trod enc Tryz.prog w base spare held n 26 (([v0,v1,v2,v3,v4,v5,v6].drop 0).take (Tryz.prog.cellsOf 26)) = some y0 at h0
  change DataW.trod enc Tryz.prog w base spare held n 28 (([v0,v1,v2,v3,v4,v5,v6].drop 3).take (Tryz.prog.cellsOf 28)) = some y1 at h1
  change DataW.trod enc Tryz.prog w base spare held n 29 (([v0,v1,v2,v3,v4,v5,v6].drop 5).take (Tryz.prog.cellsOf 29)) = some y2 at h2
  change DataW.trod enc Tryz.prog w base spare held n 30 (([v0,v1,v2,v3,v4,v5,v6].drop 6).take (Tryz.prog.cellsOf 30)) = some y3 at h3
  rw [show Tryz.prog.cellsOf 26 = 3 from by kernel_rfl] at h0;rw [show Tryz.prog.cellsOf 28 = 2 from by kernel_rfl] at h1;rw [show Tryz.prog.cellsOf 29 = 1 from by kernel_rfl] at h2;rw [show Tryz.prog.cellsOf 30 = 1 from by kernel_rfl] at h3
  have hw : (DataW.agg ([y0,y1,y2,y3].map (·.1))).weights Tryz.prog 32 = y0.1.weights Tryz.prog 26 ++ (y1.1.weights Tryz.prog 28 ++ (y2.1.weights Tryz.prog 29 ++ (y3.1.weights Tryz.prog 30 ++ []))):=by
   simp only [DataW.weights,Tryz.underlying32]
   rfl
  rw [hw] at hz;obtain ⟨L,a0,a1,a2⟩:=trod_ld (v0:=v0) (v1:=v1) (v2:=v2) h0;obtain ⟨dd,rfl,hd⟩:=trod_dn (v0:=v3) (v1:=v4) h1;obtain ⟨gl,hg,zg,zgs⟩:=trod_gtsz (v:=v5) h2 (fun m hm=>hz m (List.mem_append.2 (.inr (List.mem_append.2 (.inr (List.mem_append.2 (.inl hm)))))));obtain ⟨vl,hvw⟩:=trod_views (v:=v6) h3;have a0':=a0;have a1':=a1;have a2':=a2;have hd':=hd;have hvw':=hvw;obtain ⟨A0,c0,rfl,-,-⟩:=a0.form;obtain ⟨A1,c1,rfl,-,-⟩:=a1.form;obtain ⟨A2,c2,rfl,-,-⟩:=a2.form;obtain ⟨A3,c3,rfl,-,-⟩:=hd.form;obtain ⟨A4,c4,rfl,-,-⟩:=hvw.form;have z0:=fits_ld h0 (fun m hm=>hz m (List.mem_append.2 (.inl hm)));have z1:=fits_dn h1 (fun m hm=>hz m (List.mem_append.2 (.inr (List.mem_append.2 (.inl hm)))));have z3:=Xz Tryz.underlying30 h3 (fun m hm=>hz m (List.mem_append.2 (.inr (List.mem_append.2 (.inr (List.mem_append.2 (.inr (List.mem_append.2 (.inl hm)))))))));rw [show Tryz.prog.bytesOf 110 = 24 from by kernel_rfl] at z3;have hr:=reachBytes_lt;exact ⟨⟨L,dd,gl,vl⟩,⟨_,_,_,_,v5,_⟩,rfl,⟨a0',a1',a2',hd',hg,hvw'⟩,z0,z1,(show vl.length * 24 <= 140737488355328 by omega),zg,zgs⟩
end
end Go.Proofs.YteojjbhadgkfgaaGreat

namespace Go.Proofs.YteojjbhadgkfgaaGreat
set_option linter.unusedSimpArgs false
set_option linter.unusedVariables false
open Go.ChangeShapes Go.WideShapes Go.ChangeAt Go.RowKit
open Go.ChangeMaps (open_string shut_string)

set_option maxRecDepth 100000 in
theorem restStations_lifted (os : Os) (started : os.Started) (H : Type) (enc : TypeId × Value -> H) :
  ReturnsInHanded {} Tryz.checked os 10 .any (Rows.restStationsSpec.pre6 enc Tryz.prog Tryz.f10 Rows.restStationsRow.domain false) (Rows.restStationsSpec.post enc Tryz.prog Tryz.f10 false true false false):=by
 refine returnsInHanded_of_change_sized (C:=Tryz.checked) own started (by kernel_rfl) Tryz.func10
  (ChangeSpec.witness6 (enc:=enc) (C:=Tryz.checked) false ⟨#[],#[.agg #[.slice none 0 0,.slice none 0 0,.slice none 0 0,.int .i64 0,.slice none 0 0,.slice none 0 0,.slice none 0 0],.agg #[.int .i64 0,.int .i64 0,.int .i64 0,.int .i64 0,.int .i64 0,.int .i64 0,.int .i64 0,.int .i64 0,.int .i64 0,.int .i64 0]],[]⟩ 8 (by kernel_rfl) (by kernel_rfl) (by kernel_rfl) (by kernel_rfl)) ?_
 intro W base args ds gs before hval0 hW hcnd hsized _;have hval : ∀ (j : Nat) t v,Tryz.f10.params[j]? = some t -> args[j]? = some v -> Value.okWide Tryz.prog W .any base t v:=hval0;have hW':=hW;obtain ⟨p,q,hA0,hV,rfl,hfz,hnd⟩:=hW;have hA : DataW.TrodAll enc Tryz.prog W 0 (fun _=>true) true Tryz.f10.params.toList args.toList ds p:=hA0;rw [Tryz.params10] at hA hval;obtain ⟨v0,vs0,d0,ds0,p0,q0,hargs,rfl,rfl,h0,r0⟩:=trodAll_cons hA;obtain ⟨v1,vs1,d1,ds1,p1,q1,rfl,rfl,rfl,h1,r1⟩:=trodAll_cons r0;obtain ⟨rfl,rfl,rfl⟩:=trodAll_nil r1
 obtain rfl : args = #[v0,v1]:=by cases args;simp_all
 obtain ⟨rfl,rfl⟩:=trodVars_none hV;have k0:=h0
 have lt0 : ∀ x ∈ p0,x.block < W.heap.size:=by obtain ⟨m,hm⟩:=k0;exact DataW.trod_lt m _ _ _ hm
 have k1:=h1
 have lt1 : ∀ x ∈ p1,x.block < W.heap.size:=by obtain ⟨m,hm⟩:=k1;exact DataW.trod_lt m _ _ _ hm
 have z0 : ∀ m ∈ d0.weights Tryz.prog 32,m <= reachBytes:=fun m hm=>by
  have:=List.all_eq_true.1 hsized m (DataW.weights_mem_each (j:=0) (by rw [Tryz.params10];rfl) rfl m hm)
  simpa using this
 obtain ⟨t0,x0,rfl,e0,ya0,yb0,yc0,yd0,ye0⟩:=open_stz (hval 0 32 v0 rfl rfl) h0 z0;obtain ⟨t1,rfl⟩:=open_ac (hval 1 71 v1 rfl rfl) h1;clear hA0 hval0;refine (law_RestStations t0 x0 t1 W e0 ya0 yb0 (by unfold maxLen;omega) yc0 yd0 ye0).mono fun e W' ⟨he,bel⟩=>?_;subst he;exact ⟨_,rfl,_,_,_,[],_,[],hW',trodAll_mk1 (shut_bool Tryz.underlying4 _),(trodAll_cons_mk (Below.trod laidOut (by kernel_rfl) (of_decide_eq_true (by kernel_rfl)) k0 bel lt0) (trodAll_cons_mk (Below.trod laidOut (by kernel_rfl) (of_decide_eq_true (by kernel_rfl)) k1 bel lt1) trodAll_mk0)),rfl,bel.frame _,fun h=>by cases h⟩

theorem restStations_holds : Rows.RestStationsSaid :=
 OpenClaim.holds_of_wide 10 Tryz.f10 rfl rfl rfl rfl rfl rfl rfl ⟨rfl,rfl,rfl,rfl,rfl⟩ rfl rfl rfl rfl rfl (by kernel_rfl) Tryz.func10 (by kernel_rfl)
  (of_decide_eq_true (by kernel_rfl)) (by unfold Func.isWrapper;first | (rw [if_pos (by decide +kernel)];kernel_rfl) | (rw [if_neg (by decide +kernel)];exact ⟨rfl,rfl⟩))
  (fun os started H enc _=>restStations_lifted os started H enc)

end Go.Proofs.YteojjbhadgkfgaaGreat
