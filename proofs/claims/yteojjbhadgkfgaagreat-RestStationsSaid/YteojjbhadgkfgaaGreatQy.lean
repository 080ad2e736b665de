/- Qy: parts of the proofs, laid together. -/
import Derived.Test.YteojjbhadgkfgaaGreatQx
import Derived.Test.YteojjbhadgkfgaaGreatQs
import Derived.Test.YteojjbhadgkfgaaGreatQg
import Derived.Test.YteojjbhadgkfgaaGreatQc
import Derived.Test.YteojjbhadgkfgaaGreatQk
/- desk.Run. -/
set_option maxHeartbeats 64000000
namespace Go.Proofs.YteojjbhadgkfgaaGreat
set_option linter.unusedSimpArgs false
set_option linter.unusedVariables false
set_option maxRecDepth 100000
open Go Go.RowKit Lb

def Xv (l : List Ac) : St × List Int × Int:=if 40 < l.length then (st0,[],2) else ((runS newS l).1,(runS newS l).2,0)
theorem info_er : (Tryz.prog.info? 35).map (fun i=>(i.zero,i.size,i.bytes)) = some (some (.int .i64 0),1,8):=by kernel_rfl
theorem er_one (l : List Int) : ∀ u ∈ encs inc l,u.oneCell' = true:=by
 intro u hu;obtain ⟨x,-,hx⟩:=List.mem_flatMap.1 hu
 simp [inc] at hx
 subst hx
 rfl
theorem Ck.fr {own : Nat -> Prop} {base p : Nat} {w w' : World} {y : Sv} {s : St} {n : Int} (hk : Ck base w p y s n) (hf : Fr own w w') (hp : ¬ own p) (hn : ∀ q,own q -> ∃ e2 cs,Bx w q e2 cs /\ e2 ∉ spT) : Ck base w' p y s n:=⟨hk.box.fr hf hp,hk.ge,hk.own.keep hf hn⟩
theorem desk_Run (l : List Ac) (v : Value) (w : World) (hr : RdL 10 acc w v l) :
  Calls Tryz.prog 41 #[v] w fun e w'=>∃ x' u,e = .returned (.tuple #[.agg (sta (Xv l).1 x'),u,.int .i64 (Xv l).2.2]) /\ Ext w w' /\ JR w.heap.size w' x' (Xv l).1 /\ Jh 35 1 inc w.heap.size w' u (Xv l).2.1:=by
 obtain ⟨A,c,rfl,hlc,hmc⟩:=hr.form
 have hres : Xv l = if 40 < l.length then (st0,[],2) else ((runS newS l).1,(runS newS l).2,0):=rfl
 generalize Xv l = R at *;have HRL:=hH hr
 have hl9 : l.length <= 9223372036854775807:=by unfold maxLen at hmc;omega
 have HLC:=hH hlc;clear hr hlc hmc
 by_cases h40 : 40 < l.length
 case pos =>
  rw [if_pos h40] at hres;subst hres
  have h4i : (40 : Int) < (l.length : Int):=by omega
  clear h40;go_enter Tryz.func41,Tryz.ntmps41;go_wp2_with fail;exact bodyPost_ret (v:=.tuple #[.agg #[.slice none 0 0,.slice none 0 0,.slice none 0 0,.int .i64 0,.slice none 0 0,.slice none 0 0,.slice none 0 0],.slice none 0 0,.int .i64 2]) (by simp [results,Tryz.results41,go_sem, *]) rfl ⟨sv0,_,rfl,(Je : Ext w _),JR.nil,Jh.nil⟩
 rw [if_neg h40] at hres;have H40:=hH h40
 have h4i : ¬ (40 : Int) < (l.length : Int):=by omega
 obtain ⟨RS,hRS⟩ : ∃ r,r = runS newS l:=⟨_,rfl⟩;rw [<- hRS] at hres;have HRS:=hH hRS;subst hres
 simp only
 clear hRS h40;obtain ⟨i0,ji,ji0,ji1,ji2⟩:=info_parts info_er;go_enter Tryz.func41,Tryz.ntmps41;go_wp2_with fail;refine (station_New_own _).mono ?_;rintro e w1 ⟨⟨t0,t1,t2,ti,tg,tv⟩,rfl,h1,ho⟩;obtain ⟨B0,kB0,rfl⟩ : ∃ B d,t0 = .slice B 0 d:=ho.tk.form;obtain ⟨B1,kB1,rfl⟩ : ∃ B d,t1 = .slice B 0 d:=ho.tp.form;obtain ⟨B2,kB2,rfl⟩ : ∃ B d,t2 = .slice B 0 d:=ho.vd.form;obtain ⟨B3,kB3,rfl⟩ : ∃ B d,ti = .slice B 0 d:=ho.dn.form;obtain ⟨B4,kB4,rfl⟩ : ∃ B d,tg = .slice B 3 d:=ho.gt.form;obtain ⟨B5,kB5,rfl⟩ : ∃ B d,tv = .slice B 3 d:=ho.vw.form;rw [show sta newS ⟨.slice B0 0 kB0,.slice B1 0 kB1,.slice B2 0 kB2,.slice B3 0 kB3,.slice B4 3 kB4,.slice B5 3 kB5⟩ = #[.slice B0 0 kB0,.slice B1 0 kB1,.slice B2 0 kB2,.int .i64 0,.slice B3 0 kB3,.slice B4 3 kB4,.slice B5 3 kB5] from rfl];have H1:=hH h1;have hz1:=h1.size;have HO:=hH ho;(try simp only [World.size_alloc] at hz1 HO);have HW1:=hH (And.intro trivial (Je : Ext w w1));have HR1:=hH (show Row (w1.alloc (.cells #[.slice B0 0 kB0,.slice B1 0 kB1,.slice B2 0 kB2,.int .i64 0,.slice B3 0 kB3,.slice B4 3 kB4,.slice B5 3 kB5,.int .i64 0] 126)) w.heap.size #[.slice none 0 0,.slice none 0 0,.slice none 0 0,.int .i64 0,.slice none 0 0,.slice none 0 0,.slice none 0 0] from Row.alloc (Row.ext h1 (Row.newAt rfl)));have HCK:=hH (show Ck (w.heap.size + 1) (w1.alloc (.cells #[.slice B0 0 kB0,.slice B1 0 kB1,.slice B2 0 kB2,.int .i64 0,.slice B3 0 kB3,.slice B4 3 kB4,.slice B5 3 kB5,.int .i64 0] 126)) w1.heap.size ⟨.slice B0 0 kB0,.slice B1 0 kB1,.slice B2 0 kB2,.slice B3 0 kB3,.slice B4 3 kB4,.slice B5 3 kB5⟩ newS 0 from ⟨Bx.new,by omega,HO.out.ext ((Ext.refl _).alloc _)⟩);obtain ⟨p,hp⟩ : ∃ p,p = w1.heap.size:=⟨_,rfl⟩
 have hpw : w.heap.size + 1 <= p:=by omega
 clear h1 ho HO;go_wp2_with fail
 go_loopg [6,8,18] l.length (fun gg s6 _ s18 wr=>∃ (k : Nat) (sk : St) (nk : Int) (y : Sv) (dn : List Int) (D : Option Addr) (d : Nat),k <= l.length /\ l.length - k <= gg /\ s6 = .slice D dn.length d /\ s18 = .int .i64 k /\ Aside (Ext w wr /\ Row wr w.heap.size #[.slice none 0 0,.slice none 0 0,.slice none 0 0,.int .i64 0,.slice none 0 0,.slice none 0 0,.slice none 0 0] /\ Ck (w.heap.size + 1) wr w1.heap.size y sk nk /\ JJ sk /\ Jh 35 1 inc (w.heap.size + 1) wr (.slice D dn.length d) dn /\ dn.length = k /\ RS.1 = (runS sk (l.drop k)).1 /\ RS.2 = dn ++ (runS sk (l.drop k)).2))
 case atStart=>exact ⟨0,newS,0,_,[],none,0,Nat.zero_le _,by omega,rfl,rfl,HW1.out.2.alloc _,HR1.out,HCK.out,newS_right,Jh.nil,rfl,by rw [HRS.out];rfl,by rw [HRS.out];rfl⟩
 case round =>
  obtain ⟨k,sk,nk,y,dn,D,d,hk,hg,rfl,rfl,HA⟩:=hrel;obtain ⟨hx,hrw,hck,hrs,hod,hdk,hr1,hr2⟩:=HA.out;have HX:=hH hx;have HRW:=hH hrw;have HK:=hH hck;have HRT:=hH hrs;have HOD:=hH hod;have HDK:=hH hdk;have HR1':=hH hr1;have HR2':=hH hr2;have hxs:=hx.size;have hpr:=hck.box.lt;have hwr:=hrw.1;clear HA hx hrw hck hrs hod hdk hr1 hr2 HCK HR1
  by_cases hlt : k < l.length
  ·have hli : (k : Int) < (l.length : Int):=by omega
   obtain ⟨b,o,c',hv,hb,hc⟩:=(HRL.out.ext HX.out).at_ hlt
   injection hv with hA hA2 hA3
   subst hA hA3;clear hA2
   have hkc : (k : Int) < (c : Int):=by have:=HLC.out;omega
   have HS1:=hH (show RS.1 = (runS (doS sk nk l[k]).1 (l.drop (k + 1))).1 by
    rw [HR1'.out,List.drop_eq_getElem_cons hlt]
    show (runS (doS sk 0 l[k]).1 (l.drop (k + 1))).1 = _
    rw [(doS_n sk nk 0 l[k]).1])
   have HS2:=hH (show RS.2 = (dn ++ [(doS sk nk l[k]).2.2]) ++ (runS (doS sk nk l[k]).1 (l.drop (k + 1))).2 by
    rw [HR2'.out,List.drop_eq_getElem_cons hlt]
    show dn ++ ((doS sk 0 l[k]).2.2 :: (runS (doS sk 0 l[k]).1 (l.drop (k + 1))).2) = _
    rw [(doS_n sk nk 0 l[k]).1,(doS_n sk nk 0 l[k]).2]
    simp)
   have HRT2:=hH (doS_right (n:=nk) (a:=l[k]) HRT.out);have c0 : wr.cell? ⟨b,o + k * 10,none⟩ = some (.int .i64 l[k].kind):=hc 0 _ rfl;have c1 : wr.cell? ⟨b,o + k * 10 + 1,none⟩ = some (.int .i64 l[k].id):=hc 1 _ rfl;have c2 : wr.cell? ⟨b,o + k * 10 + 2,none⟩ = some (.int .i64 l[k].of):=hc 2 _ rfl;have c3 : wr.cell? ⟨b,o + k * 10 + 3,none⟩ = some (.int .i64 l[k].time):=hc 3 _ rfl;have c4 : wr.cell? ⟨b,o + k * 10 + 4,none⟩ = some (.int .i64 l[k].ticket.id):=hc 4 _ rfl;have c5 : wr.cell? ⟨b,o + k * 10 + 5,none⟩ = some (.int .i64 l[k].ticket.kind):=hc 5 _ rfl;have c6 : wr.cell? ⟨b,o + k * 10 + 6,none⟩ = some (.int .i64 l[k].ticket.frm):=hc 6 _ rfl;have c7 : wr.cell? ⟨b,o + k * 10 + 7,none⟩ = some (.int .i64 l[k].ticket.til):=hc 7 _ rfl;have c8 : wr.cell? ⟨b,o + k * 10 + 8,none⟩ = some (.int .i64 l[k].ticket.JS):=hc 8 _ rfl;have c9 : wr.cell? ⟨b,o + k * 10 + 9,none⟩ = some (.int .i64 l[k].ticket.rides):=hc 9 _ rfl;have KD:=hH (fun (W : World) (h : Ck (w.heap.size + 1) W w1.heap.size y sk nk)=>clerk_do sk y nk l[k] w1.heap.size (w.heap.size + 1) W h HRT.out);generalize doS sk nk l[k] = Q at *;generalize l[k] = x at *;obtain ⟨xk,xi,xo,xt,⟨t0,t1,t2,t3,t4,t5⟩⟩:=x;obtain ⟨Q1,Q2,Q3⟩:=Q;unfold acc at KD;simp only at KD HS1 HS2 HRT2 c0 c1 c2 c3 c4 c5 c6 c7 c8 c9;clear hc HR1' HR2';go_wp2_with fail;refine (KD.out _ (by exact HK.out.ext ((Ext.refl _).alloc _))).mono ?_;rintro e w4 ⟨rfl,hf,y4,hk4⟩;have hfx : Fr (fun q=>q = w1.heap.size) wr w4:=(Fr.ZY ((Ext.refl wr).alloc (.cells #[.int .i64 xk,.int .i64 xi,.int .i64 xo,.int .i64 xt,.int .i64 t0,.int .i64 t1,.int .i64 t2,.int .i64 t3,.int .i64 t4,.int .i64 t5] 71))).trans hf;have HX4:=hH (Ext.fr HX.out hfx (fun q h=>by have h2 : q = w1.heap.size:=h;omega));have HRW4:=hH (hfx.row (g:=w.heap.size) (fun h=>by have h2 : w.heap.size = w1.heap.size:=h;omega) HRW.out);have HK4:=hH hk4;have HO4:=hH (HOD.out.Zy hfx (by rintro q rfl;exact ⟨_,_,HK.out.box,by decide⟩));have hz4:=HX4.out.size;clear hf hfx hk4 KD c0 c1 c2 c3 c4 c5 c6 c7 c8 c9
   go_wp2_with (at_builtin;go_loud (refine JC (enc:=inc) (k:=1) _ rfl _ _ 75 rfl (w.heap.size + 1) 35 i0 (.int .i64 0) 8 Tryz.underlying75 ji ji0 ji1 ji2 rfl (by decide) JD _ dn rfl (HO4.out.alloc _) _ [Q3] rfl (RdL.lit (enc:=inc) Q3 rfl rfl) (er_one _) ?g1 ?g2 (by simp;omega) ?_))
   case g1=>have:=HDK.out;have:=H40.out;unfold maxLen;simp;omega
   case g2=>have:=HDK.out;have:=H40.out;simp;omega
   intro v8 w8 ho8 hg8 hn8;obtain ⟨B8,d8,rfl⟩:=ho8.form;have hf8:=row_fr hg8;have hbx8 : ∀ q,(fun q=>(Value.slice D dn.length d).ownBlock = some q) q -> ∃ cs,Bx (w4.alloc (.cells #[.int .i64 Q3] 35)) q 35 cs:=fun q hq=>Jh.bx (HO4.out.alloc _) q hq
   have hnp : ¬ (fun q=>(Value.slice D dn.length d).ownBlock = some q) w1.heap.size:=by
    intro h;obtain ⟨cs,hb8⟩:=hbx8 _ h;have h2:=(HK4.out.ext ((Ext.refl _).alloc (.cells #[.int .i64 Q3] 35))).box;unfold Bx at hb8 h2;rw [hb8] at h2
    simp at h2
   have HK8:=hH ((HK4.out.ext ((Ext.refl _).alloc (.cells #[.int .i64 Q3] 35))).fr hf8 hnp (fun q hq=>by obtain ⟨cs,h⟩:=hbx8 q hq;exact ⟨_,_,h,by decide⟩));have hlo : ∀ q,(fun q=>(Value.slice D dn.length d).ownBlock = some q) q -> w.heap.size + 1 <= q:=fun q hq=>(HO4.out.lt q hq).1;have HX8:=hH (Ext.fr (HX4.out.alloc (.cells #[.int .i64 Q3] 35)) hf8 (fun q h=>by have:=hlo q h;omega));have HRW8:=hH (hf8.row (g:=w.heap.size) (fun h=>by have:=hlo _ h;omega) (Row.alloc HRW4.out));have HO8:=hH ho8;clear ho8 hg8 hn8 hf8 hbx8 hnp hlo;go_wp2_with fail;go_roundg (l.length - (k + 1))
   case measure=>omega
   case rel=>exact ⟨k + 1,Q1,Q2,y4,dn ++ [Q3],B8,d8,by omega,by omega,rfl,by go_num,HX8.out,HRW8.out,HK8.out,HRT2.out,HO8.out,by have:=HDK.out;simp;omega,HS1.out,HS2.out⟩
  ·have hli : ¬ (k : Int) < (l.length : Int):=by omega
   have hnil : l.drop k = []:=List.drop_eq_nil_of_le (by omega);have hr1:=HR1'.out;have hr2:=HR2'.out;rw [hnil] at hr1 hr2;have HQ1:=hH (show RS.1 = sk from hr1);have HQ2:=hH (show RS.2 = dn by rw [hr2];simp [runS]);clear hnil hr1 hr2 HR1' HR2';obtain ⟨u0,u1,u2,ui,ug,uv⟩:=y;obtain ⟨C0,k0,rfl⟩ : ∃ B d,u0 = .slice B sk.Ja.Jc.length d:=HK.out.own.tk.form;obtain ⟨C1,k1,rfl⟩ : ∃ B d,u1 = .slice B sk.Ja.Jf.length d:=HK.out.own.tp.form;obtain ⟨C2,k2,rfl⟩ : ∃ B d,u2 = .slice B sk.Ja.Jd.length d:=HK.out.own.vd.form;obtain ⟨C3,k3,rfl⟩ : ∃ B d,ui = .slice B sk.Jb.ids.length d:=HK.out.own.dn.form;obtain ⟨C4,k4,rfl⟩ : ∃ B d,ug = .slice B sk.Jg.length d:=HK.out.own.gt.form;obtain ⟨C5,k5,rfl⟩ : ∃ B d,uv = .slice B sk.Jj.length d:=HK.out.own.vw.form;have RB:=hH HK.out.box.row;unfold cka at RB;simp only at RB;have qp:=RB.out.2.1;have fp:=RB.out.2.2;have q2:=HRW.out.2.1;have f2:=HRW.out.2.2;go_wp2_with fail;rw [HQ1.out,HQ2.out];refine bodyPost_ret (v:=.tuple #[.agg #[.slice C0 sk.Ja.Jc.length k0,.slice C1 sk.Ja.Jf.length k1,.slice C2 sk.Ja.Jd.length k2,.int .i64 sk.Jb.Jk,.slice C3 sk.Jb.ids.length k3,.slice C4 sk.Jg.length k4,.slice C5 sk.Jj.length k5],.slice D dn.length d,.int .i64 0]) (by simp [results,Tryz.results41,go_sem, *]) rfl ⟨⟨.slice C0 sk.Ja.Jc.length k0,.slice C1 sk.Ja.Jf.length k1,.slice C2 sk.Ja.Jd.length k2,.slice C3 sk.Jb.ids.length k3,.slice C4 sk.Jg.length k4,.slice C5 sk.Jj.length k5⟩,.slice D dn.length d,rfl,ext7 (Nat.le_refl _) HX.out,(own7 (g:=w.heap.size) (base:=w.heap.size + 1) (by omega) HK.out.own).lower (by omega),?_⟩;exact ((((((((HOD.out.Jl (a:=⟨w.heap.size,0,none⟩) (by simp)).Jl (a:=⟨w.heap.size,1,none⟩) (by simp)).Jl (a:=⟨w.heap.size,2,none⟩) (by simp)).Jl (a:=⟨w.heap.size,3,none⟩) (by simp)).Jl (a:=⟨w.heap.size,4,none⟩) (by simp)).Jl (a:=⟨w.heap.size,5,none⟩) (by simp)).Jl (a:=⟨w.heap.size,6,none⟩) (by simp))).lower (by omega)

def XJ : List Ac:=[⟨7,0,0,0,tk0⟩,⟨1,0,0,0,single 1⟩,⟨6,0,0,0,tk0⟩,⟨2,1,0,20,tk0⟩,⟨2,1,1,90,tk0⟩,⟨5,0,0,0,tk0⟩,⟨4,0,0,95,tk0⟩,⟨4,0,1,96,tk0⟩,⟨2,1,2,97,tk0⟩]
theorem scr_a : (Xv XJ).2 = ([0,0,0,0,0,0,0,0,11],0):=by decide
theorem scr_b : (Xv XJ).1.Jg.length = 3:=by decide
theorem scr_c : (Xv XJ).1.Ja.Jf.length = 1:=by decide
theorem scr_d : (Xv XJ).1.Jb.ids.contains 1 = true:=by decide
theorem scr_e : (JV (Xv XJ).1 ⟨7,0,1,0,tk0⟩).2 = (1,0):=by decide
theorem law_script (w : World) : Calls Tryz.prog 94 #[] w fun e w'=>∃ g,e = .returned (.slice (some ⟨g,0,none⟩) 9 9) /\ Ext w w' /\ RdL 10 acc w' (.slice (some ⟨g,0,none⟩) 9 9) XJ:=by
 go_enter Tryz.func94,Tryz.ntmps94;go_wp2_with fail;refine (law_single 1 _).mono ?_;rintro e w1 ⟨rfl,h1⟩;have H1:=hH h1;clear h1;rw [show tkc (single 1) = #[.int .i64 1,.int .i64 1,.int .i64 10,.int .i64 500,.int .i64 15,.int .i64 0] from rfl];go_wp2_with fail;refine bodyPost_ret (v:=.slice (some ⟨w1.heap.size,0,none⟩) 9 9) (by simp [results,Tryz.results94,go_sem, *]) rfl ⟨w1.heap.size,rfl,(Je : Ext w _),?_⟩;exact Jh.rd (own_lit (base:=0) (e:=71) rfl (Nat.zero_le _) rfl (by unfold maxLen;omega) rfl rfl) acc_size
theorem law_deskBegun (w : World) : Calls Tryz.prog 40 #[] w fun e w'=>e = .returned (.bool true) /\ Ext w w':=by
 have hA:=scr_a;have hB:=scr_b;have hC:=scr_c;have hD:=scr_d;have hE:=scr_e;have KR:=hH (fun (g : Nat) (w' : World) (h : RdL 10 acc w' (.slice (some ⟨g,0,none⟩) 9 9) XJ)=>desk_Run XJ _ w' h);have KD:=hH (fun (x : Sv) (w' : World) (h : RdS w' x (Xv XJ).1)=>desk_Do (Xv XJ).1 x ⟨7,0,1,0,tk0⟩ w' h);generalize Xv XJ = R at *;obtain ⟨S,R2⟩:=R;simp only at hA hB hC hD hE KR KD;subst hA;have KH:=hH (fun (v : Value) (w' : World) (h : RdL 1 inc w' v S.Jb.ids)=>(hD ▸ ref_HasInt S.Jb.ids 1 v w' h : Calls Tryz.prog 32 #[v,.int .i64 1] w' fun e w''=>e = .returned (.bool true) /\ w' = w''));generalize JV S ⟨7,0,1,0,tk0⟩ = Q at *;obtain ⟨Q1,Q2⟩:=Q;simp only at hE KD KR;subst hE;have HB:=hH hB;have HC:=hH hC;clear hB hC hD;unfold acc tk0 at KD;simp only at KD;go_enter Tryz.func40,Tryz.ntmps40;go_wp2_with fail;refine (law_script _).mono ?_;rintro e w1 ⟨g1,rfl,h1,hr1⟩;have H1:=hH h1;have HR1:=hH hr1;clear h1 hr1;go_wp2_with fail;refine (KR.out _ _ (by exact HR1.out.ext Je)).mono ?_;rintro e w2 ⟨⟨t0,t1,t2,ti,tg,tv⟩,u,rfl,h2,ho,hu⟩;obtain ⟨B0,kB0,rfl⟩ : ∃ B d,t0 = .slice B S.Ja.Jc.length d:=ho.tk.form
 obtain ⟨B1,kB1,rfl⟩ : ∃ B d,t1 = .slice B 1 d:=by have:=ho.tp.form;rw [HC.out] at this;exact this
 obtain ⟨B2,kB2,rfl⟩ : ∃ B d,t2 = .slice B S.Ja.Jd.length d:=ho.vd.form;obtain ⟨B3,kB3,rfl⟩ : ∃ B d,ti = .slice B S.Jb.ids.length d:=ho.dn.form
 obtain ⟨B4,kB4,rfl⟩ : ∃ B d,tg = .slice B 3 d:=by have:=ho.gt.form;rw [HB.out] at this;exact this
 obtain ⟨B5,kB5,rfl⟩ : ∃ B d,tv = .slice B S.Jj.length d:=ho.vw.form;obtain ⟨g6,c6,hu6,-,hg6,h9c⟩:=hu.slot (by decide);have hu6' : u = .slice (some ⟨g6,0,none⟩) 9 c6:=hu6;subst hu6';clear hu6;rw [show sta S ⟨.slice B0 S.Ja.Jc.length kB0,.slice B1 1 kB1,.slice B2 S.Ja.Jd.length kB2,.slice B3 S.Jb.ids.length kB3,.slice B4 3 kB4,.slice B5 S.Jj.length kB5⟩ = #[.slice B0 S.Ja.Jc.length kB0,.slice B1 1 kB1,.slice B2 S.Ja.Jd.length kB2,.int .i64 S.Jb.Jk,.slice B3 S.Jb.ids.length kB3,.slice B4 3 kB4,.slice B5 S.Jj.length kB5] from rfl]
 have HU:=hH (fun (k : Nat) (hk : k < 9)=>show w2.cell? ⟨g6,k,none⟩ = some (.int .i64 (if k = 8 then 11 else 0)) by
  have h:=(Jh.field JD hu k 0 hk (by decide) (.int .i64 ([0,0,0,0,0,0,0,0,11] : List Int)[k]) rfl).1
  have e1 : k * 1 + 0 = k:=by omega
  rw [e1] at h;rw [h]
  have : ([0,0,0,0,0,0,0,0,11] : List Int)[k] = (if k = 8 then 11 else 0):=by
   obtain rfl | rfl | rfl | rfl | rfl | rfl | rfl | rfl | rfl : k = 0 \/ k = 1 \/ k = 2 \/ k = 3 \/ k = 4 \/ k = 5 \/ k = 6 \/ k = 7 \/ k = 8:=by omega
   all_goals rfl
  rw [this])
 have H2:=hH h2;have HO:=hH ho.rd
 have h9i : (9 : Int) <= (c6 : Int):=by have : 9 <= c6:=h9c;omega
 clear h2 ho hu KR h9c;go_wp2_with fail
 go_loopg [4] 8 (fun gg s4 wr=>∃ k : Nat,k <= 8 /\ 8 - k <= gg /\ s4 = .int .i64 k /\ Aside (Ext (w2.alloc (.cells #[.slice B0 S.Ja.Jc.length kB0,.slice B1 1 kB1,.slice B2 S.Ja.Jd.length kB2,.int .i64 S.Jb.Jk,.slice B3 S.Jb.ids.length kB3,.slice B4 3 kB4,.slice B5 S.Jj.length kB5] 32)) wr))
 case atStart=>exact ⟨0,by omega,by omega,rfl,Ext.refl _⟩
 case round =>
  obtain ⟨k,hk,hg,rfl,HA⟩:=hrel;have HE:=hH HA.out;have HW:=hH (And.intro trivial (((Ext.refl w2).alloc _).trans HA.out));have HR:=hH (show Row wr w2.heap.size #[.slice B0 S.Ja.Jc.length kB0,.slice B1 1 kB1,.slice B2 S.Ja.Jd.length kB2,.int .i64 S.Jb.Jk,.slice B3 S.Jb.ids.length kB3,.slice B4 3 kB4,.slice B5 S.Jj.length kB5] from Row.ext HA.out (Row.newAt rfl));have q1:=HR.out.2.1;have l1:=HR.out.1;clear HA
  by_cases hlt : k < 8
  ·have hki : (k : Int) < (8 : Int):=by omega
   have hk9 : (k : Int) < (9 : Int):=by omega
   have hcl : wr.cell? ⟨g6,k,none⟩ = some (.int .i64 0):=by
    rw [HW.out.2.cells g6 _ hg6,HU.out k (by omega),if_neg (by omega)]
   go_wp2_with fail;go_roundg (8 - (k + 1))
   case measure=>omega
   case rel=>exact ⟨k + 1,by omega,by omega,by go_num,HE.out.trans (Je : Ext wr _)⟩
  ·have hki : ¬ (k : Int) < (8 : Int):=by omega
   go_wp2_with fail;refine (KD.out ⟨.slice B0 S.Ja.Jc.length kB0,.slice B1 1 kB1,.slice B2 S.Ja.Jd.length kB2,.slice B3 S.Jb.ids.length kB3,.slice B4 3 kB4,.slice B5 S.Jj.length kB5⟩ _ (by exact HO.out.ext (HW.out.2.trans Je))).mono ?_;rintro e w3 ⟨⟨t0,t1,t2,ti,tg,tv⟩,rfl,h3,ho⟩;obtain ⟨D0,kD0,rfl⟩ : ∃ B d,t0 = .slice B Q1.Ja.Jc.length d:=ho.tk.form;obtain ⟨D1,kD1,rfl⟩ : ∃ B d,t1 = .slice B Q1.Ja.Jf.length d:=ho.tp.form;obtain ⟨D2,kD2,rfl⟩ : ∃ B d,t2 = .slice B Q1.Ja.Jd.length d:=ho.vd.form;obtain ⟨D3,kD3,rfl⟩ : ∃ B d,ti = .slice B Q1.Jb.ids.length d:=ho.dn.form;obtain ⟨D4,kD4,rfl⟩ : ∃ B d,tg = .slice B Q1.Jg.length d:=ho.gt.form;obtain ⟨D5,kD5,rfl⟩ : ∃ B d,tv = .slice B Q1.Jj.length d:=ho.vw.form;rw [show sta Q1 ⟨.slice D0 Q1.Ja.Jc.length kD0,.slice D1 Q1.Ja.Jf.length kD1,.slice D2 Q1.Ja.Jd.length kD2,.slice D3 Q1.Jb.ids.length kD3,.slice D4 Q1.Jg.length kD4,.slice D5 Q1.Jj.length kD5⟩ = #[.slice D0 Q1.Ja.Jc.length kD0,.slice D1 Q1.Ja.Jf.length kD1,.slice D2 Q1.Ja.Jd.length kD2,.int .i64 Q1.Jb.Jk,.slice D3 Q1.Jb.ids.length kD3,.slice D4 Q1.Jg.length kD4,.slice D5 Q1.Jj.length kD5] from rfl]
   have hc8 : w3.cell? ⟨g6,8,none⟩ = some (.int .i64 11):=by
    rw [(HW.out.2.trans (Ext.trans (Je : Ext wr _) h3)).cells g6 _ hg6,HU.out 8 (by decide),if_pos rfl]
   have H3:=hH h3;have HW3:=hH (And.intro trivial (HW.out.2.trans (Ext.trans (Je : Ext wr _) h3)))
   have hg63 : g6 < w3.heap.size:=by have:=HW3.out.2.size;omega
   clear h3 ho KD;(refine Ji w3 w2.heap.size fun qz_0 fz_0 lz_0 Rz_0=>?_);go_wp2_with fail;refine gB (KH.out (.slice B3 S.Jb.ids.length kB3) _ (by exact HO.out.dn.ext (HW3.out.2.trans Je))) ?_;go_wp2_with fail;go_ret;exact ⟨rfl,(Je : Ext w w2).trans (HW3.out.2.trans (Je : Ext w3 _))⟩
end Go.Proofs.YteojjbhadgkfgaaGreat
