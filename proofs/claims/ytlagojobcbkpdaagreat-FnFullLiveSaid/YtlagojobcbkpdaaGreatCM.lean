/- A part of the proof of the given row: the walk of the law and of all that it calls. Conditions: none. -/
import Derived.Test.YtlagojobcbkpdaaGreatCL
set_option linter.unusedVariables false
set_option linter.unusedSimpArgs false
section
namespace Go.Lf
open Go Sm
set_option maxHeartbeats 4000000 in
theorem Tp {R:RM} {s s' : Sm.B7} {wv tv mv thv ov pv:Value} (h:StC R s wv tv mv thv ov pv) (hw:s.AB.length≤1000) (ht0:2≤s.A0.length) (ht1:s.A0.length≤12) (hth:s.AA.length < 1000000) (hrl:∀t∈s.AA,t.AD.length < 1000000)
  (hpl:s.AO.length < 1000000) (hp:∀a∈s.AO,AS a≤9223372036854775807) (hS:HA s = some s') :
  Fn P LJ [.agg (eSt s wv tv mv thv ov pv).toArray] R [] (λv R' A=>∃bw wsp cw bt tsp ct bm thv' pv',s'.AB.length = s.AB.length∧s'.A0.length = s.A0.length∧s'.AR.length = s.AB.length∧s'.AB.length≤cw∧s'.A0.length≤ct∧Ths R' thv' s'.AA∧BC R' pv' s'.AO∧
   A = [(bw,C Ac (s'.AB.map I ++ wsp)),(bt,C AI (Ab eRg s'.A0 ++ tsp)),(bm,C BK (s'.AR.map Value.bool))]∧
   v = .agg (eSt s' (S0 bw s'.AB.length cw) (S0 bt s'.A0.length ct) (S0 bm s'.AR.length s'.AR.length) thv' (.slice none 0 0) pv').toArray):=by
 refine RP λF=>?_
 unfold Ky;unfold HA at hS;obtain⟨live0,hreach,hS⟩:=AE hS;obtain⟨⟨w1,t1⟩,hstay,hS⟩:=AE hS;obtain⟨⟨t2,to_⟩,hslide,hS⟩:=AE hS;obtain⟨w2,hmove,hS⟩:=AE hS;obtain⟨ths,hths,hS⟩:=AE hS;obtain⟨Bf,hful,hS⟩:=AE hS;simp only[Yr] at hS;refine ja λb1=>?_
 rw[show cl (.agg (eSt s wv tv mv thv ov pv).toArray) = eSt s wv tv mv thv ov pv from rfl];refine ja λb2=>?_
 refine jla (l:=eSt s wv tv mv thv ov pv) (by exact z_n 13) rfl ?_;refine jc (A:=[]) (HI h (by omega) (by omega)) ?_;rintro v R1 _ hR1 ⟨rfl,hq⟩;have hl0:∃lv ok,v = .tuple #[lv,.bool ok]∧Tgs R1 lv ((BE s).getD []):=by
  cases hst:BE s with
  | none=>rw[hst] at hq;exact⟨_,_,hq,[],Rw.nil,.inl ⟨rfl,rfl,rfl⟩⟩
  | some l=>rw[hst] at hq;obtain⟨lv,h1,h2⟩:=hq;exact⟨lv,true,h2,h1⟩
 have htb:TB ((BE s).getD [])∧((BE s).getD []).length≤16 * s.A0.length:=by
  cases hst:BE s with
  | none=>exact⟨λt ht=>(by cases ht),by simp⟩
  | some l=>
   unfold BE at hst;have:=Ko (by omega) hst;rw[Zy] at this;exact⟨this.1,by simp;omega⟩
 generalize (BE s).getD [] = l at hl0 htb hreach hstay hslide hmove hths;obtain⟨lv,okb,rfl,hlv⟩:=hl0;obtain⟨htb,hll⟩:=htb;have hlen0:=Jc hreach;refine jex rfl (jex rfl ?_);refine jla (l:=eSt s wv tv mv thv ov pv) (by exact z_n 13) rfl ?_;have h1:=h.le hR1;refine jc (A:=[]) (KA h1 hlv (by omega) hreach hth (λt ht=>by have:=hrl t ht;omega) hpl (λt ht=>by have:=(htb t ht).2.2.1;omega)) ?_;rintro v8 R2 A8 hR2 so8;refine E7 so8 λR3 hR3 hi8=>?_
 refine jc (A:=[]) (LY hi8 (by omega)) ?_;rintro v9 R4 A9 hR4 ⟨hRR,so9⟩;subst hRR;refine E7 so9 λR5 hR5 hi9=>?_
 have hR35:=(hR2.trans hR3).trans hR5;have h5:=h1.le hR35;have hlv5:=hlv.le hR35;have hslen:(Ak live0).length = live0.length:=by have:=FQ live0 [];simpa [Ak] using this
 generalize hlive:Ak live0 = AQ at hslide hmove hths hi9 hslen;refine jl (v:=tv) rfl (CN h5.t.sl ?_);refine jmk (M7 (s.A0.length:Int)) ?_;intro v13 N hq13;unfold W7 at hq13;have htn:(AU (s.A0.length:Int)).length = s.A0.length:=by
  unfold AU;rw[if_neg (by omega)];simp;omega
 rw[if_neg (by intro hn;rw[hn] at htn;simp at htn;omega)] at hq13;obtain⟨sv,⟨bt,ct,tsp,hct,rfl,rfl⟩,rfl⟩:=hq13;refine jex rfl (jex rfl ?_);refine jl (v:=wv) rfl (CN h5.w.sl ?_);refine jms (by omega) (by omega) (by omega) λbw=>?_
 rw[Yj];have htk:(List.replicate s.AB.length (cl z3)).flatten = (List.replicate s.AB.length (0:Int)).map I ++ []:=by
  rw[show cl z3 = [I 0] from rfl];simp[aH]
 rw[htk];refine jla (l:=eSt s wv tv mv thv ov pv) (by exact z_n 13) rfl ?_;have hstay':=Ts (cw:=s.AB.length) (ct:=ct) (bw:=bw) (bt:=bt) (wsp:=[]) (tsp:=tsp) h5 hlv5 htb (by omega) hp hpl hstay;rw[Z9] at hstay';refine jc (A:=[(bw,C Ac ((List.replicate s.AB.length (0:Int)).map I ++ [])),(bt,C AI (Ab eRg (AU (s.A0.length:Int)) ++ tsp))]) hstay' ?_;rintro _ R6 _ hR6 ⟨hRR6,hwl,htl,rfl⟩;subst hRR6;rw[htn] at htl ⊢;generalize hE:(b2,C AK (cl z28)) :: (b1,C AK (eSt s wv tv mv thv ov pv)) :: ([] ++ F) = E;have ea1:At E b1 (C AK (eSt s wv tv mv thv ov pv)):=by rw[← hE];exact inferInstance
 have slen:∀{r t0 to0},slide s.AO l [] t0 r to0 = some (t2,to_)→t0 = t2∧to0 = to_:=λh=>by
  unfold slide at h;simpa using h
 refine BH (D':=[] ++ ((bw,C Ac (w1.map I ++ [])) :: (bt,C AI (Ab eRg t1 ++ tsp)) :: E)) (by rw[← hE];exact ZP _) ?_;refine AJ (λvs R' D'=>R' = R6∧t2.length = s.A0.length∧to_.length = AQ.length∧∃(v:Value) (A:Chs),SO to_ v A∧D' = A ++ ((bw,C Ac (w1.map I ++ [])) :: (bt,C AI (Ab eRg t2 ++ tsp)) :: E)∧vs = [Pt b1,Pt b2,lv,v9,S0 bt s.A0.length ct,S0 bw s.AB.length s.AB.length,v]) (λK hK=>?_) ?_
 ·refine AJ (λvs R' D'=>R' = R6∧t2.length = s.A0.length∧to_.length = AQ.length∧∃(v:Value) (A:Chs),SO to_ v A∧D' = A ++ ((bw,C Ac (w1.map I ++ [])) :: (bt,C AI (Ab eRg t2 ++ tsp)) :: E)∧vs = [Pt b1,Pt b2,lv,v9,S0 bt s.A0.length ct,S0 bw s.AB.length s.AB.length,v]) (λK2 hK2=>?_) ?_;rotate_left
  ·rintro e R7 D7 ⟨hR,ht2,hto,v,A,so,hD,he⟩;rw[hD];clear hD;simp only[List.map,zc,zl,zj,z_t] at he;simp only[he];exact hK _ _ _ ⟨hR,ht2,hto,v,A,so,rfl,rfl⟩
  refine jlp (λm vs R' D'=>R' = R6∧∃(i:Nat) (r:Int) (t0:List Rg) (to0:List Int) (v:Value) (A:Chs),i≤AQ.length∧1≤r∧r≤12∧t0.length = s.A0.length∧to0.length = i∧slide s.AO l (AQ.drop i) t0 r to0 = some (t2,to_)∧SO to0 v A∧D' = A ++ ((bw,C Ac (w1.map I ++ [])) :: (bt,C AI (Ab eRg t0 ++ tsp)) :: E)∧vs = [Pt b1,Pt b2,lv,v9,S0 bt s.A0.length ct,S0 bw s.AB.length s.AB.length,v,I r,I i]∧m = AQ.length - i)
   (n:=AQ.length) ⟨rfl,0,1,t1,[],.slice none 0 0,[],by omega,by omega,by omega,htl,rfl,hslide,.inl ⟨rfl,rfl,rfl⟩,rfl,rfl,by omega⟩ ?_
  rintro m e R7 D7 K3 ⟨hR,i,r,t0,to0,v,A,hi,hr1,hr2,ht0l,htol,hsl,so,hD,he,hm⟩ hK3;subst hR;rw[hD];clear hD;simp only[List.map,zc,zl,zj,z_t] at he;simp only[he];refine CN hi9.sl (jlt (jif (λhc=>?_) (λhc=>?_)));rotate_left
  ·have hc:=z_g hc;rw[Z2 (by omega)] at hsl;obtain⟨rfl,rfl⟩:=slen hsl;exact hK2 _ _ _ ⟨rfl,ht0l,by omega,v,A,so,rfl,rfl⟩
  have hc:i < AQ.length:=by have:=z_f hc;omega
  rw[Yu hc] at hsl;unfold slide at hsl;obtain⟨x,hx,hsl⟩:=AE hsl;obtain⟨k,hk,hkp,rfl⟩:=EE hx;have hat:(l[k]).at_ = AQ[i]:=by
   have:=List.find?_some hx;exact eq_of_beq this
  obtain⟨a0,a1,-,-⟩:=htb _ (Yv hk);have hreg:AS AQ[i]≤9223372036854775807:=by unfold AS;split<;>omega
  refine AJ (λvs R' D'=>R' = R7∧∃(r:Int) (t0:List Rg) (to0:List Int) (v:Value) (A:Chs),1≤r∧r≤12∧t0.length = s.A0.length∧to0.length = i + 1∧slide s.AO l (AQ.drop (i + 1)) t0 r to0 = some (t2,to_)∧SO to0 v A∧D' = A ++ ((bw,C Ac (w1.map I ++ [])) :: (bt,C AI (Ab eRg t0 ++ tsp)) :: E)∧vs = [Pt b1,Pt b2,lv,v9,S0 bt s.A0.length ct,S0 bw s.AB.length s.AB.length,v,I r,I i]) (λK4 hK4=>?_) ?_;rotate_left
  ·rintro e R8 D8 ⟨hR,r,t0,to0,v,A,q1,q2,q3,q4,q5,so,hD,he⟩;subst hR;rw[hD];clear hD;simp only[List.map,zc,zl,zj,z_t] at he;simp only[he];refine jad ?_;exact hK3 (AQ.length - (i + 1)) _ _ _ (by omega) ⟨rfl,i + 1,r,t0,to0,v,A,by omega,q1,q2,q3,q4,q5,so,rfl,rfl,rfl⟩
  refine AJ (λvs R' D'=>R' = R7∧∃(r:Int) (t0:List Rg) (to0:List Int) (v:Value) (A:Chs),1≤r∧r≤12∧t0.length = s.A0.length∧to0.length = i + 1∧slide s.AO l (AQ.drop (i + 1)) t0 r to0 = some (t2,to_)∧SO to0 v A∧D' = A ++ ((bw,C Ac (w1.map I ++ [])) :: (bt,C AI (Ab eRg t0 ++ tsp)) :: E)∧vs = [Pt b1,Pt b2,lv,v9,S0 bt s.A0.length ct,S0 bw s.AB.length s.AB.length,v,I r,I i]) (λK5 hK5=>?_) ?_;rotate_left
  ·rintro e R8 D8 ⟨hR,r,t0,to0,v,A,q1,q2,q3,q4,q5,so,hD,he⟩;rw[hD];clear hD;simp only[List.map,zc,zl,zj,z_t] at he;simp only[he];exact hK4 _ _ _ ⟨hR,r,t0,to0,v,A,q1,q2,q3,q4,q5,so,rfl,rfl⟩
  refine Bv hi9 (by omega) (by omega) ?_;rw[getElem_congr_idx (Yj i)];refine jro (Dj _ hlv5 (by omega)) ?_;rw[hkp];refine jtg hlv5 hk λb3 o3 ty3 cs3 rv nv hrv hnv hb3 ho3 hrow3=>?_
  have g2:(cs3.drop (o3 + 2)).take 2 = [I (l[k]).sh.refs,I (l[k]).sh.nums]:=by
   have:=congrArg (λx=>(x.drop 2).take 2) hrow3;simp only[aO,ad,aV] at this;simpa [eTh] using this
  refine jfo (HL hb3 (by omega) g2 (jp (CC (l[k]).sh) ?_));obtain⟨sz0,sz1⟩:=IK (l[k]).sh;generalize AF (l[k]).sh = size at hsl sz0 sz1 ⊢;refine jla (t:=AK) (cs:=eSt s wv tv mv thv ov pv) (l:=eSt s wv tv mv thv ov pv) (by exact z_n 13) rfl ?_;refine Bv hi9 (by omega) (by omega) ?_;rw[getElem_congr_idx (Yj i)];refine jp (CJ _ hreg) (Ae (jla (t:=AK) (cs:=eSt s wv tv mv thv ov pv) (l:=eSt s wv tv mv thv ov pv) (by exact z_n 13) rfl jev) ?_);refine jro (Kd (AS AQ[i]) h5 hp hpl) (jif (λhh=>?_) (λhh=>?_))
  ·rw[if_pos hh] at hsl;refine Bv hi9 (by omega) (by omega) ?_;rw[getElem_congr_idx (Yj i)];refine jbs (cs:=[I AQ[i]]) rfl rfl λb4=>?_
   refine Hr (A:=A) so (by omega) λv' A' so'=>?_
   exact hK5 _ _ _ ⟨rfl,r,t0,_,v',A',hr1,hr2,ht0l,by rw[Yn,htol];rfl,hsl,so',rfl,rfl⟩
  rw[if_neg (by rw[hh];decide)] at hsl;obtain⟨r2,hnx,hsl⟩:=AE hsl;refine AJ (λvs R' D'=>R' = R7∧D' = A ++ ((bw,C Ac (w1.map I ++ [])) :: (bt,C AI (Ab eRg t0 ++ tsp)) :: E)∧vs = [Pt b1,Pt b2,lv,v9,S0 bt s.A0.length ct,S0 bw s.AB.length s.AB.length,v,I r2,I i,I size]) (λK6 hK6=>?_) ?_
  ·refine AJ (λvs R' D'=>R' = R7∧D' = A ++ ((bw,C Ac (w1.map I ++ [])) :: (bt,C AI (Ab eRg t0 ++ tsp)) :: E)∧vs = [Pt b1,Pt b2,lv,v9,S0 bt s.A0.length ct,S0 bw s.AB.length s.AB.length,v,I r2,I i,I size]) (λK7 hK7=>?_) ?_;rotate_left
   ·rintro e R8 D8 ⟨hR,hD,he⟩;rw[hD];clear hD;simp only[List.map,zc,zl,zj,z_t] at he;simp only[he];exact hK6 _ _ _ ⟨hR,rfl,rfl⟩
   refine jlp (λm vs R' D'=>R' = R7∧∃r:Int,1≤r∧r + m≤30∧Gy s.AO t0 size m r = some r2∧D' = A ++ ((bw,C Ac (w1.map I ++ [])) :: (bt,C AI (Ab eRg t0 ++ tsp)) :: E)∧vs = [Pt b1,Pt b2,lv,v9,S0 bt s.A0.length ct,S0 bw s.AB.length s.AB.length,v,I r,I i,I size])
    (n:=t0.length + 2) ⟨rfl,r,hr1,by omega,hnx,rfl,rfl⟩ ?_
   clear hnx;rintro m2 e R8 D8 K8 ⟨hR,r,hr1,hrm,hnx,hD,he⟩ hK8;subst hR;rw[hD];clear hD;simp only[List.map,zc,zl,zj,z_t] at he;simp only[he];cases m2 with
   | zero=>cases hnx
   | succ m2=>
   unfold Gy at hnx;refine AJ (λvs R' D'=>R' = R8∧D' = A ++ ((bw,C Ac (w1.map I ++ [])) :: (bt,C AI (Ab eRg t0 ++ tsp)) :: E)∧∃bn:Bool,(bn = true→Gy s.AO t0 size m2 (r + 1) = some r2)∧(bn = false→r = r2)∧vs = [Pt b1,Pt b2,lv,v9,S0 bt s.A0.length ct,S0 bw s.AB.length s.AB.length,v,I r,I i,I size,.bool bn]) (λK9 hK9=>?_) ?_;rotate_left
   ·rintro e R9 D9 ⟨hR,hD,bn,hb1,hb2,he⟩;subst hR;rw[hD];clear hD;simp only[List.map,zc,zl,zj,z_t] at he;simp only[he];cases bn with
    | true=>
     refine DO (jad ?_);exact hK8 m2 _ _ _ (by omega) ⟨rfl,r + 1,by omega,by omega,hb1 rfl,rfl,rfl⟩
    | false=>
     have:=hb2 rfl;subst this;exact Cn (hK7 _ _ _ ⟨rfl,rfl,rfl⟩)
   refine jla (t:=AK) (cs:=eSt s wv tv mv thv ov pv) (l:=eSt s wv tv mv thv ov pv) (by exact z_n 13) rfl (jro (Kd r h5 hp hpl) ?_);cases hhr:CB s.AO r with
   | true=>
    rw[if_pos hhr] at hnx;refine Ct (jtf (CH λe he=>?_));simp only[List.map,zc,zl,zj,z_t] at he;simp only[he];refine jtf (ED (Ae jev ?_));exact hK9 _ _ _ ⟨rfl,rfl,true,λ_=>hnx,(λh=>by cases h),rfl⟩
   | false=>
    rw[if_neg (by rw[hhr];decide)] at hnx;obtain⟨row,hrow,hnx⟩:=AE hnx;obtain⟨sum,hsum,hnx⟩:=AE hnx;obtain⟨rfl,hin⟩:=Aw hsum;obtain⟨y0,y1,y2,y3⟩:=Ap hrow;obtain⟨k2,rfl⟩:∃k2:Nat,r = k2:=⟨r.toNat,by omega⟩;have hk2:k2 < t0.length:=by omega
    have ey:t0[k2] = row:=by rw[← y3];exact getElem_congr_idx (by omega)
    have brr:0≤AM k2∧AM k2≤176:=by unfold AM;split<;>omega
    refine Ct (jff (Cs (by omega) (jfo (jl (v:=I row.top) (by rw[Z6];exact Bu (f:=2) hk2 (by rw[ey];rfl)) (Cd hin (CH λe he=>?_))))));simp only[List.map,zc,zl,zj,z_t] at he;simp only[he];refine jff (jp (BV k2) (jad (jgr (EC (Ae (jl (v:=I row.top) (by rw[Z6];exact Bu (f:=2) hk2 (by rw[ey];rfl)) jev) ?_)))));refine hK9 _ _ _ ⟨rfl,rfl,decide (row.top + size > AM k2 + 16),λhb=>?_,λhb=>?_,rfl⟩
    ·rw[if_pos (by have:=z_f hb;omega)] at hnx;exact hnx
    ·rw[if_neg (by have:=z_g hb;omega)] at hnx;simpa using hnx
  rintro e R8 D8 ⟨hR,hD,he⟩;subst hR;rw[hD];clear hD;simp only[List.map,zc,zl,zj,z_t] at he;simp only[he];obtain⟨row,hrow,hsl⟩:=AE hsl;obtain⟨sum,hsum,hsl⟩:=AE hsl;obtain⟨rfl,hin⟩:=Aw hsum;obtain⟨y0,y1,y2,y3⟩:=Ap hrow;have hr2k:1≤r2:=by
   have:∀(n:Nat) (r:Int),1≤r→Gy s.AO t0 size n r = some r2→1≤r2:=by
    intro n;induction n with
    | zero=>intro r _ h;cases h
    | succ n ih=>
     intro r hr h;unfold Gy at h;split at h
     ·exact ih _ (by omega) h
     ·obtain⟨_,_,h⟩:=AE h;obtain⟨_,_,h⟩:=AE h;split at h
      ·exact ih _ (by omega) h
      ·cases h;exact hr
   exact this _ _ hr1 hnx
  obtain⟨k2,rfl⟩:∃k2:Nat,r2 = k2:=⟨r2.toNat,by omega⟩;have hk2:k2 < t0.length:=by omega
  have ey:t0[k2] = row:=by rw[← y3];exact getElem_congr_idx (by omega)
  refine Cs (by omega) (N7 hk2 ?_);rw[ey];refine ja λb5=>?_
  refine js (cs':=eRg row) rfl rfl (by simp) rfl ?_;refine jfo (jl (v:=I row.top) rfl ?_);refine jbs (cs:=[I row.top]) rfl rfl λb4=>?_
  refine Hr (A:=A) so (by omega) λv' A' so'=>?_
  refine js (cs':=eRg { row with kind:=3 }) rfl rfl (by simp) rfl ?_;refine jfo (jl (v:=I row.top) rfl (Cd hin ?_));refine jfo (js (cs':=eRg { row with kind:=3,top:=row.top + size }) rfl rfl (by simp) rfl ?_);refine jfo (jl (v:=I (row.top + size)) rfl ?_);refine jfo (js (cs':=eRg { row with kind:=3,top:=row.top + size,Az:=row.top + size }) rfl rfl (by simp) rfl ?_);refine jla (l:=eRg { row with kind:=3,top:=row.top + size,Az:=row.top + size }) (by simp) rfl ?_;refine Cs (by omega) (Ha (t:=t0) (x:={ row with kind:=3,top:=row.top + size,Az:=row.top + size }) hk2 ?_);refine Ai A' (G:=(bw,C Ac (w1.map I ++ [])) :: (bt,C AI (Ab eRg (t0.set k2 { row with kind:=3,top:=row.top + size,Az:=row.top + size }) ++ tsp)) :: E) ?_;exact hK5 _ _ _ ⟨rfl,k2,t0.set k2 { row with kind:=3,top:=row.top + size,Az:=row.top + size },_,v',A',by omega,by omega,by rw[ZX];exact ht0l,by rw[Yn,htol];rfl,by simpa [AW] using hsl,so',rfl,rfl⟩
 clear hslide slen;rintro e R7 D7 ⟨hR,ht2,hto,v,A,so,hD,he⟩;subst hR;rw[hD];clear hD;simp only[List.map,zc,zl,zj,z_t] at he;simp only[he];refine E7 so λR8 hR8 hito=>?_
 have h8:=h5.le hR8;have hlv8:=hlv5.le hR8;have hi98:=hi9.le hR8;refine AJ (λvs R' D'=>R' = R8∧w2.length = s.AB.length∧D' = (bw,C Ac (w2.map I ++ [])) :: (bt,C AI (Ab eRg t2 ++ tsp)) :: E∧vs = [Pt b1,Pt b2,lv,v9,S0 bt s.A0.length ct,S0 bw s.AB.length s.AB.length,v]) (λK hK=>?_) ?_
 ·refine AJ (λvs R' D'=>R' = R8∧w2.length = s.AB.length∧D' = (bw,C Ac (w2.map I ++ [])) :: (bt,C AI (Ab eRg t2 ++ tsp)) :: E∧vs = [Pt b1,Pt b2,lv,v9,S0 bt s.A0.length ct,S0 bw s.AB.length s.AB.length,v]) (λK2 hK2=>?_) ?_;rotate_left
  ·rintro e R9 D9 ⟨hR,hl2,hD,he⟩;rw[hD];clear hD;simp only[List.map,zc,zl,zj,z_t] at he;simp only[he];exact hK _ _ _ ⟨hR,hl2,rfl,rfl⟩
  refine jlp (λm vs R' D'=>R' = R8∧∃(i:Nat) (w:List Int),i≤AQ.length∧w.length = s.AB.length∧GE l AQ to_ (AQ.drop i) (to_.drop i) w = some w2∧D' = (bw,C Ac (w.map I ++ [])) :: (bt,C AI (Ab eRg t2 ++ tsp)) :: E∧vs = [Pt b1,Pt b2,lv,v9,S0 bt s.A0.length ct,S0 bw s.AB.length s.AB.length,v,I i]∧m = AQ.length - i)
   (n:=AQ.length) ⟨rfl,0,w1,by omega,hwl,hmove,rfl,rfl,by omega⟩ ?_
  rintro m e R9 D9 K3 ⟨hR,i,w,hi,hwl1,hmv,hD,he,hm⟩ hK3;subst hR;rw[hD];clear hD;simp only[List.map,zc,zl,zj,z_t] at he;simp only[he];refine CN hi98.sl (jlt (jif (λhc=>?_) (λhc=>?_)));rotate_left
  ·have hc:=z_g hc;rw[Z2 (by omega)] at hmv;have:w = w2:=by unfold GE at hmv;simpa using hmv
   subst this;exact hK2 _ _ _ ⟨rfl,hwl1,rfl,rfl⟩
  have hc:i < AQ.length:=by have:=z_f hc;omega
  rw[Yu hc,Yu (show i < to_.length by omega)] at hmv;unfold GE at hmv;obtain⟨x,hx,hmv⟩:=AE hmv;obtain⟨k,hk,hkp,rfl⟩:=EE hx;obtain⟨wa,hwa,hmv⟩:=AE hmv;obtain⟨wb,hwb,hmv⟩:=AE hmv;obtain⟨wc,hwc,hmv⟩:=AE hmv;obtain⟨wd,hwd,hmv⟩:=AE hmv;refine AJ (λvs R' D'=>R' = R9∧wd.length = s.AB.length∧D' = (bw,C Ac (wd.map I ++ [])) :: (bt,C AI (Ab eRg t2 ++ tsp)) :: E∧vs = [Pt b1,Pt b2,lv,v9,S0 bt s.A0.length ct,S0 bw s.AB.length s.AB.length,v,I i]) (λK4 hK4=>?_) ?_;rotate_left
  ·rintro e R8 D8 ⟨hR,hld,hD,he⟩;subst hR;rw[hD];clear hD;simp only[List.map,zc,zl,zj,z_t] at he;simp only[he];refine jad ?_;exact hK3 (AQ.length - (i + 1)) _ _ _ (by omega) ⟨rfl,i + 1,wd,by omega,hld,hmv,rfl,rfl,rfl⟩
  refine AJ (λvs R' D'=>R' = R9∧wd.length = s.AB.length∧D' = (bw,C Ac (wd.map I ++ [])) :: (bt,C AI (Ab eRg t2 ++ tsp)) :: E∧vs = [Pt b1,Pt b2,lv,v9,S0 bt s.A0.length ct,S0 bw s.AB.length s.AB.length,v,I i]) (λK5 hK5=>?_) ?_;rotate_left
  ·rintro e R8 D8 ⟨hR,hld,hD,he⟩;rw[hD];clear hD;simp only[List.map,zc,zl,zj,z_t] at he;simp only[he];exact hK4 _ _ _ ⟨hR,hld,rfl,rfl⟩
  obtain⟨y,hy⟩:∃y,to_[i]'(by omega) = y:=⟨_,rfl⟩;rw[hy] at hwa hwb hwc hwd;obtain⟨q1,q2,q3⟩:=FT hwa;obtain⟨q4,q5,q6⟩:=FT hwb;obtain⟨-,-,tr,tn⟩:=htb _ (Yv hk);have hla:wa.length = w.length:=by rw[q3,ZX]
  have hlb:wb.length = wa.length:=by rw[q6,ZX]
  have ty:to_[((i:Nat):Int).toNat]'(by omega) = y:=by rw[← hy];exact getElem_congr_idx (Yj i)
  refine Bv hi98 (by omega) (by omega) ?_;rw[getElem_congr_idx (Yj i)];refine jro (Dj _ hlv8 (by omega)) ?_;rw[hkp];refine jtg hlv8 hk λb3 o3 ty3 cs3 rv nv hrv hnv hb3 ho3 hrow3=>?_
  obtain⟨ra,rc,rfl⟩:=hrv.sl;obtain⟨na,nc,rfl⟩:=hnv.sl;refine HL hb3 ho3 hrow3 (ja λb15=>?_);refine js (cs':=eTh l[k] (.slice ra l[k].refs.length rc) (.slice na l[k].nums.length nc)) rfl rfl (by exact z_n 6) rfl ?_;refine Bv hito (by omega) (by omega) (Bv hito (by omega) (by omega) ?_);rw[ty];refine jia q1 (by omega) (jsi (l:=w) (sp:=[]) (by omega) ?_);rw[← q3];refine Vr hito (by omega) (by omega) λq hq=>hq _ _ ?_
  rw[ty] at hq ⊢;refine jad (jfo (jla (t:=As) (cs:=eTh l[k] (.slice ra l[k].refs.length rc) (.slice na l[k].nums.length nc)) (l:=[I l[k].sh.refs,I l[k].sh.nums]) (by exact (by decide:4≤6)) rfl (jp (E2 l[k].sh) ?_)));refine jia q4 (by omega) (Ae (hq _ _ jev) (jsi (l:=wa) (sp:=[]) (by omega) ?_));rw[← q6];refine AJ (λvs R' D'=>R' = R9∧wc.length = s.AB.length∧D' = (b15,C As (eTh l[k] (.slice ra l[k].refs.length rc) (.slice na l[k].nums.length nc))) :: (bw,C Ac (wc.map I ++ [])) :: (bt,C AI (Ab eRg t2 ++ tsp)) :: E∧vs = [Pt b1,Pt b2,lv,v9,S0 bt s.A0.length ct,S0 bw s.AB.length s.AB.length,v,I i,Pt b15]) (λK6 hK6=>?_) ?_
  ·refine AJ (λvs R' D'=>R' = R9∧wc.length = s.AB.length∧D' = (b15,C As (eTh l[k] (.slice ra l[k].refs.length rc) (.slice na l[k].nums.length nc))) :: (bw,C Ac (wc.map I ++ [])) :: (bt,C AI (Ab eRg t2 ++ tsp)) :: E∧vs = [Pt b1,Pt b2,lv,v9,S0 bt s.A0.length ct,S0 bw s.AB.length s.AB.length,v,I i,Pt b15]) (λK7 hK7=>?_) ?_;rotate_left
   ·rintro e R8 D8 ⟨hR,hlc,hD,he⟩;rw[hD];clear hD;simp only[List.map,zc,zl,zj,z_t] at he;simp only[he];exact hK6 _ _ _ ⟨hR,hlc,rfl,rfl⟩
   refine jlp (λm vs R' D'=>R' = R9∧∃(j:Nat) (w5:List Int),j≤l[k].refs.length∧w5.length = s.AB.length∧Gu l AQ to_ w5 (y + 2 + j) (l[k].refs.drop j) = some wc∧D' = (b15,C As (eTh l[k] (.slice ra l[k].refs.length rc) (.slice na l[k].nums.length nc))) :: (bw,C Ac (w5.map I ++ [])) :: (bt,C AI (Ab eRg t2 ++ tsp)) :: E∧vs = [Pt b1,Pt b2,lv,v9,S0 bt s.A0.length ct,S0 bw s.AB.length s.AB.length,v,I i,Pt b15,I j]∧m = l[k].refs.length - j)
    (n:=l[k].refs.length) ⟨rfl,0,wb,by omega,by omega,by simpa using hwc,rfl,rfl,by omega⟩ ?_
   rintro m5 e R8 D8 K8 ⟨hR,j,w5,hj,hl5,hrw5,hD,he,hm5⟩ hK8;subst hR;rw[hD];clear hD;simp only[List.map,zc,zl,zj,z_t] at he;simp only[he];refine jl (v:=.slice ra l[k].refs.length rc) rfl (jln (jlt (jif (λhd=>?_) (λhd=>?_))));rotate_left
   ·have hd:=z_g hd;rw[Z2 (by omega)] at hrw5;have:w5 = wc:=by unfold Gu at hrw5;simpa using hrw5
    subst this;exact hK7 _ _ _ ⟨rfl,hl5,rfl,rfl⟩
   have hd:j < l[k].refs.length:=by have:=z_f hd;omega
   rw[Yu hd] at hrw5;unfold Gu at hrw5;obtain⟨z,hz,hrw5⟩:=AE hrw5;obtain⟨w6,hw6,hrw5⟩:=AE hrw5;refine AJ (λvs R' D'=>R' = R8∧w6.length = s.AB.length∧D' = (b15,C As (eTh l[k] (.slice ra l[k].refs.length rc) (.slice na l[k].nums.length nc))) :: (bw,C Ac (w6.map I ++ [])) :: (bt,C AI (Ab eRg t2 ++ tsp)) :: E∧vs = [Pt b1,Pt b2,lv,v9,S0 bt s.A0.length ct,S0 bw s.AB.length s.AB.length,v,I i,Pt b15,I j]) (λK9 hK9=>?_) ?_;rotate_left
   ·rintro e Rx D9 ⟨hR,hl6,hD,he⟩;subst hR;rw[hD];clear hD;simp only[List.map,zc,zl,zj,z_t] at he;simp only[he];refine jad ?_;exact hK8 (l[k].refs.length - (j + 1)) _ _ _ (by omega) ⟨rfl,j + 1,w6,by omega,hl6,by rw[← hrw5];congr 1;omega,rfl,rfl,rfl⟩
   refine AJ (λvs R' D'=>R' = R8∧w6.length = s.AB.length∧D' = (b15,C As (eTh l[k] (.slice ra l[k].refs.length rc) (.slice na l[k].nums.length nc))) :: (bw,C Ac (w6.map I ++ [])) :: (bt,C AI (Ab eRg t2 ++ tsp)) :: E∧vs = [Pt b1,Pt b2,lv,v9,S0 bt s.A0.length ct,S0 bw s.AB.length s.AB.length,v,I i,Pt b15,I j]) (λK10 hK10=>?_) ?_;rotate_left
   ·rintro e Rx D9 ⟨hR,hl6,hD,he⟩;rw[hD];clear hD;simp only[List.map,zc,zl,zj,z_t] at he;simp only[he];exact hK9 _ _ _ ⟨hR,hl6,rfl,rfl⟩
   refine jl (v:=.slice ra l[k].refs.length rc) rfl (Bv hrv (by omega) (by omega) ?_);rw[getElem_congr_idx (Yj j)];refine jro (GV hlv8 (by omega) hz) (jro (HQ z (BC.rd hi98) (by omega)) (jge (jif (λh0=>?_) (λh0=>?_))))
   ·have h0:=z_f h0;rw[if_pos (by omega)] at hw6;obtain⟨u,hu,hw6⟩:=AE hw6;obtain⟨u0,u1,u2,u3⟩:=Ap hu;obtain⟨p1,p2,p3⟩:=FT hw6;refine Bv hito (by omega) (by omega) ?_;rw[ty];refine jad (jad (Bv hito u0 u1 ?_));rw[u3];refine jia p1 (by omega) (jsi (l:=w5) (sp:=[]) (by omega) ?_);rw[← p3];exact hK10 _ _ _ ⟨rfl,by rw[p3,ZX];exact hl5,rfl,rfl⟩
   ·have h0:=z_g h0;rw[if_neg (by omega)] at hw6;have:w5 = w6:=by simpa using hw6
    subst this;exact hK10 _ _ _ ⟨rfl,hl5,rfl,rfl⟩
  rintro e R8 D8 ⟨hR,hlc,hD,he⟩;subst hR;rw[hD];clear hD;simp only[List.map,zc,zl,zj,z_t] at he;simp only[he];refine AJ (λvs R' D'=>R' = R8∧wd.length = s.AB.length∧D' = (bw,C Ac (wd.map I ++ [])) :: (bt,C AI (Ab eRg t2 ++ tsp)) :: E∧vs = [Pt b1,Pt b2,lv,v9,S0 bt s.A0.length ct,S0 bw s.AB.length s.AB.length,v,I i]) (λK7 hK7=>?_) ?_;rotate_left
  ·rintro e Rx D9 ⟨hR,hl6,hD,he⟩;rw[hD];clear hD;simp only[List.map,zc,zl,zj,z_t] at he;simp only[he];exact hK5 _ _ _ ⟨hR,hl6,rfl,rfl⟩
  refine jlp (λm vs R' D'=>R' = R8∧∃(j:Nat) (w5:List Int),j≤l[k].nums.length∧w5.length = s.AB.length∧wrs w5 (y + 2 + l[k].refs.length + j) (l[k].nums.drop j) = some wd∧D' = (b15,C As (eTh l[k] (.slice ra l[k].refs.length rc) (.slice na l[k].nums.length nc))) :: (bw,C Ac (w5.map I ++ [])) :: (bt,C AI (Ab eRg t2 ++ tsp)) :: E∧vs = [Pt b1,Pt b2,lv,v9,S0 bt s.A0.length ct,S0 bw s.AB.length s.AB.length,v,I i,Pt b15,I j]∧m = l[k].nums.length - j)
   (n:=l[k].nums.length) ⟨rfl,0,wc,by omega,by omega,by simpa using hwd,rfl,rfl,by omega⟩ ?_
  rintro m5 e Rx D9 K8 ⟨hR,j,w5,hj,hl5,hrw5,hD,he,hm5⟩ hK8;subst hR;rw[hD];clear hD;simp only[List.map,zc,zl,zj,z_t] at he;simp only[he];refine jfo (jl (v:=.slice na l[k].nums.length nc) rfl (jln (jlt (jif (λhd=>?_) (λhd=>?_)))));rotate_left
  ·have hd:=z_g hd;rw[Z2 (by omega)] at hrw5;have:w5 = wd:=by unfold wrs at hrw5;simpa using hrw5
   subst this;exact C4 (hK7 _ _ _ ⟨rfl,hl5,rfl,rfl⟩)
  have hd:j < l[k].nums.length:=by have:=z_f hd;omega
  rw[Yu hd] at hrw5;unfold wrs at hrw5;obtain⟨w6,hw6,hrw5⟩:=AE hrw5;obtain⟨p1,p2,p3⟩:=FT hw6;refine Bv hito (by omega) (by omega) ?_;rw[ty];refine jad (jfo (jl (v:=.slice ra l[k].refs.length rc) rfl (jln (jad (jad ?_)))));refine jfo (jl (v:=.slice na l[k].nums.length nc) rfl (Bv hnv (by omega) (by omega) ?_));rw[getElem_congr_idx (Yj j)];refine jia p1 (by omega) (jsi (l:=w5) (sp:=[]) (by omega) (jad ?_));rw[← p3];exact hK8 (l[k].nums.length - (j + 1)) _ _ _ (by omega) ⟨rfl,j + 1,w6,by omega,by rw[p3,ZX];exact hl5,by rw[← hrw5];congr 1;omega,rfl,rfl,rfl⟩
 rintro e Rw D9 ⟨hRw,hl2,hD,he⟩;subst hRw;rw[hD];clear hD;simp only[List.map,zc,zl,zj,z_t] at he;simp only[he];obtain⟨rfl,hfin⟩:=Aw hful;refine AJ (λvs R' D'=>Rw.le R'∧∃bm b19 pv',BC R' pv' s.AO∧D' = (b19,C AK (eSt s' (S0 bw s.AB.length s.AB.length) (S0 bt s.A0.length ct) (S0 bm s.AB.length s.AB.length) (.slice none 0 0) (.slice none 0 0) (pv'))) :: (bm,C BK ((List.replicate s.AB.length [Value.bool false]).flatten)) :: (bw,C Ac (w2.map I ++ [])) :: (bt,C AI (Ab eRg t2 ++ tsp)) :: E∧vs = [Pt b1,Pt b2,lv,v9,v,Pt b19]) (λK hK=>?_) ?_
 ·refine jln (jl (v:=.bool s.Ag) rfl (jl (v:=pv) rfl (jl (v:=I s.B8) rfl (jl (v:=I s.Bf) rfl (Cd hfin ?_)))));refine E6 ?_ (E6 ?_ (DT ?_))
  ·refine jms (by omega) (by omega) (by omega) λbm=>?_
   rw[Yj];refine Ae (jl (v:=.bool s.Ag) rfl jev) (Ae (jl (v:=pv) rfl jev) (Ae (jl (v:=I s.B8) rfl jev) (Ae (jl (v:=I s.Bf) rfl jev) ?_)));refine E6 ?_ (DT ?_)
   ·refine jc (A:=[]) (C9 h8.p hpl) ?_;rintro _ Ry _ hRy ⟨bp,cp,spp,hcp,hspp,rfl,rfl⟩;refine Bh (b:=bp) λRz hRz hbp=>OH ?_
    have hpv:=C7 (c:=cp) hbp hcp;refine jbd (cs:=(eSt s' (S0 bw s.AB.length s.AB.length) (S0 bt s.A0.length ct) (S0 bm s.AB.length s.AB.length) (.slice none 0 0) (.slice none 0 0) (S0 bp s.AO.length cp))) rfl (by rw[← hS];rfl) ?_;refine Ae (jl (v:=.bool s.Ag) rfl jev) (Ae (jl (v:=I s.B8) rfl jev) (Ae (jl (v:=I s.Bf) rfl jev) ?_));refine ja λb19=>?_
    refine Ae (jl (v:=.bool s.Ag) rfl jev) (Ae (jl (v:=I s.B8) rfl jev) (Ae (jl (v:=I s.Bf) rfl jev) ?_));refine js (cs':=(eSt s' (S0 bw s.AB.length s.AB.length) (S0 bt s.A0.length ct) (S0 bm s.AB.length s.AB.length) (.slice none 0 0) (.slice none 0 0) (S0 bp s.AO.length cp))) rfl rfl (by exact z_n 13) rfl ?_;refine Ai [(b19,C AK (eSt s' (S0 bw s.AB.length s.AB.length) (S0 bt s.A0.length ct) (S0 bm s.AB.length s.AB.length) (.slice none 0 0) (.slice none 0 0) (S0 bp s.AO.length cp))),(bm,C BK ((List.replicate s.AB.length [Value.bool false]).flatten))] (G:=(bw,C Ac (w2.map I ++ [])) :: (bt,C AI (Ab eRg t2 ++ tsp)) :: E) ?_;exact hK _ _ _ ⟨hRy.trans hRz,bm,b19,_,hpv,rfl,rfl⟩
   ·refine ja λb19=>?_
    refine Ae (jl (v:=.bool s.Ag) rfl jev) (Ae (jl (v:=pv) rfl jev) (Ae (jl (v:=I s.B8) rfl jev) (Ae (jl (v:=I s.Bf) rfl jev) ?_)));refine jc (A:=[]) (C9 h8.p hpl) ?_;rintro _ Ry _ hRy ⟨bp,cp,spp,hcp,hspp,rfl,rfl⟩;refine Bh (b:=bp) λRz hRz hbp=>OH ?_
    have hpv:=C7 (c:=cp) hbp hcp;refine jbd (cs:=(eSt s' (S0 bw s.AB.length s.AB.length) (S0 bt s.A0.length ct) (S0 bm s.AB.length s.AB.length) (.slice none 0 0) (.slice none 0 0) (S0 bp s.AO.length cp))) rfl (by rw[← hS];rfl) ?_;refine Ae (jl (v:=.bool s.Ag) rfl jev) (Ae (jl (v:=I s.B8) rfl jev) (Ae (jl (v:=I s.Bf) rfl jev) ?_));refine js (cs':=(eSt s' (S0 bw s.AB.length s.AB.length) (S0 bt s.A0.length ct) (S0 bm s.AB.length s.AB.length) (.slice none 0 0) (.slice none 0 0) (S0 bp s.AO.length cp))) rfl rfl (by exact z_n 13) rfl ?_;refine Ai [(b19,C AK (eSt s' (S0 bw s.AB.length s.AB.length) (S0 bt s.A0.length ct) (S0 bm s.AB.length s.AB.length) (.slice none 0 0) (.slice none 0 0) (S0 bp s.AO.length cp))),(bm,C BK ((List.replicate s.AB.length [Value.bool false]).flatten))] (G:=(bw,C Ac (w2.map I ++ [])) :: (bt,C AI (Ab eRg t2 ++ tsp)) :: E) ?_;exact hK _ _ _ ⟨hRy.trans hRz,bm,b19,_,hpv,rfl,rfl⟩
  ·refine jc (A:=[]) (C9 h8.p hpl) ?_;rintro _ Ry _ hRy ⟨bp,cp,spp,hcp,hspp,rfl,rfl⟩;refine Bh (b:=bp) λRz hRz hbp=>OH ?_
   have hpv:=C7 (c:=cp) hbp hcp;refine Ae (jl (v:=.bool s.Ag) rfl jev) (Ae (jl (v:=I s.B8) rfl jev) (Ae (jl (v:=I s.Bf) rfl jev) ?_));refine E6 ?_ (DT ?_)
   ·refine jms (by omega) (by omega) (by omega) λbm=>?_
    rw[Yj];refine jbd (cs:=(eSt s' (S0 bw s.AB.length s.AB.length) (S0 bt s.A0.length ct) (S0 bm s.AB.length s.AB.length) (.slice none 0 0) (.slice none 0 0) (S0 bp s.AO.length cp))) rfl (by rw[← hS];rfl) ?_;refine Ae (jl (v:=.bool s.Ag) rfl jev) (Ae (jl (v:=I s.B8) rfl jev) (Ae (jl (v:=I s.Bf) rfl jev) ?_));refine ja λb19=>?_
    refine Ae (jl (v:=.bool s.Ag) rfl jev) (Ae (jl (v:=I s.B8) rfl jev) (Ae (jl (v:=I s.Bf) rfl jev) ?_));refine js (cs':=(eSt s' (S0 bw s.AB.length s.AB.length) (S0 bt s.A0.length ct) (S0 bm s.AB.length s.AB.length) (.slice none 0 0) (.slice none 0 0) (S0 bp s.AO.length cp))) rfl rfl (by exact z_n 13) rfl ?_;refine Ai [(b19,C AK (eSt s' (S0 bw s.AB.length s.AB.length) (S0 bt s.A0.length ct) (S0 bm s.AB.length s.AB.length) (.slice none 0 0) (.slice none 0 0) (S0 bp s.AO.length cp))),(bm,C BK ((List.replicate s.AB.length [Value.bool false]).flatten))] (G:=(bw,C Ac (w2.map I ++ [])) :: (bt,C AI (Ab eRg t2 ++ tsp)) :: E) ?_;exact hK _ _ _ ⟨hRy.trans hRz,bm,b19,_,hpv,rfl,rfl⟩
   ·refine ja λb19=>?_
    refine Ae (jl (v:=.bool s.Ag) rfl jev) (Ae (jl (v:=I s.B8) rfl jev) (Ae (jl (v:=I s.Bf) rfl jev) ?_));refine jms (by omega) (by omega) (by omega) λbm=>?_
    rw[Yj];refine jbd (cs:=(eSt s' (S0 bw s.AB.length s.AB.length) (S0 bt s.A0.length ct) (S0 bm s.AB.length s.AB.length) (.slice none 0 0) (.slice none 0 0) (S0 bp s.AO.length cp))) rfl (by rw[← hS];rfl) ?_;refine Ae (jl (v:=.bool s.Ag) rfl jev) (Ae (jl (v:=I s.B8) rfl jev) (Ae (jl (v:=I s.Bf) rfl jev) ?_));refine js (cs':=(eSt s' (S0 bw s.AB.length s.AB.length) (S0 bt s.A0.length ct) (S0 bm s.AB.length s.AB.length) (.slice none 0 0) (.slice none 0 0) (S0 bp s.AO.length cp))) rfl rfl (by exact z_n 13) rfl ?_;refine Ai [(b19,C AK (eSt s' (S0 bw s.AB.length s.AB.length) (S0 bt s.A0.length ct) (S0 bm s.AB.length s.AB.length) (.slice none 0 0) (.slice none 0 0) (S0 bp s.AO.length cp))),(bm,C BK ((List.replicate s.AB.length [Value.bool false]).flatten))] (G:=(bw,C Ac (w2.map I ++ [])) :: (bt,C AI (Ab eRg t2 ++ tsp)) :: E) ?_;exact hK _ _ _ ⟨hRy.trans hRz,bm,b19,_,hpv,rfl,rfl⟩
  ·refine ja λb19=>?_
   refine Ae (jl (v:=.bool s.Ag) rfl jev) (Ae (jl (v:=pv) rfl jev) (Ae (jl (v:=I s.B8) rfl jev) (Ae (jl (v:=I s.Bf) rfl jev) ?_)));refine E6 ?_ (DT ?_)
   ·refine jms (by omega) (by omega) (by omega) λbm=>?_
    rw[Yj];refine Ae (jl (v:=.bool s.Ag) rfl jev) (Ae (jl (v:=pv) rfl jev) (Ae (jl (v:=I s.B8) rfl jev) (Ae (jl (v:=I s.Bf) rfl jev) ?_)));refine jc (A:=[]) (C9 h8.p hpl) ?_;rintro _ Ry _ hRy ⟨bp,cp,spp,hcp,hspp,rfl,rfl⟩;refine Bh (b:=bp) λRz hRz hbp=>OH ?_
    have hpv:=C7 (c:=cp) hbp hcp;refine jbd (cs:=(eSt s' (S0 bw s.AB.length s.AB.length) (S0 bt s.A0.length ct) (S0 bm s.AB.length s.AB.length) (.slice none 0 0) (.slice none 0 0) (S0 bp s.AO.length cp))) rfl (by rw[← hS];rfl) ?_;refine Ae (jl (v:=.bool s.Ag) rfl jev) (Ae (jl (v:=I s.B8) rfl jev) (Ae (jl (v:=I s.Bf) rfl jev) ?_));refine js (cs':=(eSt s' (S0 bw s.AB.length s.AB.length) (S0 bt s.A0.length ct) (S0 bm s.AB.length s.AB.length) (.slice none 0 0) (.slice none 0 0) (S0 bp s.AO.length cp))) rfl rfl (by exact z_n 13) rfl ?_;refine Ai [(b19,C AK (eSt s' (S0 bw s.AB.length s.AB.length) (S0 bt s.A0.length ct) (S0 bm s.AB.length s.AB.length) (.slice none 0 0) (.slice none 0 0) (S0 bp s.AO.length cp))),(bm,C BK ((List.replicate s.AB.length [Value.bool false]).flatten))] (G:=(bw,C Ac (w2.map I ++ [])) :: (bt,C AI (Ab eRg t2 ++ tsp)) :: E) ?_;exact hK _ _ _ ⟨hRy.trans hRz,bm,b19,_,hpv,rfl,rfl⟩
   ·refine jc (A:=[]) (C9 h8.p hpl) ?_;rintro _ Ry _ hRy ⟨bp,cp,spp,hcp,hspp,rfl,rfl⟩;refine Bh (b:=bp) λRz hRz hbp=>OH ?_
    have hpv:=C7 (c:=cp) hbp hcp;refine Ae (jl (v:=.bool s.Ag) rfl jev) (Ae (jl (v:=I s.B8) rfl jev) (Ae (jl (v:=I s.Bf) rfl jev) ?_));refine jms (by omega) (by omega) (by omega) λbm=>?_
    rw[Yj];refine jbd (cs:=(eSt s' (S0 bw s.AB.length s.AB.length) (S0 bt s.A0.length ct) (S0 bm s.AB.length s.AB.length) (.slice none 0 0) (.slice none 0 0) (S0 bp s.AO.length cp))) rfl (by rw[← hS];rfl) ?_;refine Ae (jl (v:=.bool s.Ag) rfl jev) (Ae (jl (v:=I s.B8) rfl jev) (Ae (jl (v:=I s.Bf) rfl jev) ?_));refine js (cs':=(eSt s' (S0 bw s.AB.length s.AB.length) (S0 bt s.A0.length ct) (S0 bm s.AB.length s.AB.length) (.slice none 0 0) (.slice none 0 0) (S0 bp s.AO.length cp))) rfl rfl (by exact z_n 13) rfl ?_;refine Ai [(b19,C AK (eSt s' (S0 bw s.AB.length s.AB.length) (S0 bt s.A0.length ct) (S0 bm s.AB.length s.AB.length) (.slice none 0 0) (.slice none 0 0) (S0 bp s.AO.length cp))),(bm,C BK ((List.replicate s.AB.length [Value.bool false]).flatten))] (G:=(bw,C Ac (w2.map I ++ [])) :: (bt,C AI (Ab eRg t2 ++ tsp)) :: E) ?_;exact hK _ _ _ ⟨hRy.trans hRz,bm,b19,_,hpv,rfl,rfl⟩
 rintro e Ry D9 ⟨hRy,bm,b19,pv',hpv',hD,he⟩;rw[hD];clear hD;have es1:s'.AB = w2:=by rw[← hS]
 have es2:s'.A0 = t2:=by rw[← hS]
 have es3:s'.AO = s.AO:=by rw[← hS]
 have es4:s'.AA = ths:=by rw[← hS]
 have es5:s'.AR = List.replicate w2.length false:=by rw[← hS]
 have hths8:Da l AQ to_ s.AA = some s'.AA:=by rw[es4];exact hths
 rw[← hE];have ew:s.AB.length = s'.AB.length:=by rw[es1];exact hl2.symm
 have et:s.A0.length = s'.A0.length:=by rw[es2];exact ht2.symm
 have em:(List.replicate s.AB.length [Value.bool false]).flatten = s'.AR.map Value.bool:=by rw[es5,hl2];simp
 have el:s'.AR.length = s'.AB.length:=by rw[es5,es1,Z9]
 rw[em,← es1,← es2,ew,et];refine Ai [(b19,C AK (eSt s' (S0 bw s'.AB.length s'.AB.length) (S0 bt s'.A0.length ct) (S0 bm s'.AB.length s'.AB.length) (.slice none 0 0) (.slice none 0 0) pv')),(b2,C AK (cl z28)),(b1,C AK (eSt s wv tv mv thv ov pv)),(bw,C Ac (s'.AB.map I ++ [])),(bt,C AI (Ab eRg s'.A0 ++ tsp)),(bm,C BK (s'.AR.map Value.bool))] (G:=F) ?_;have hRR:=hR1.trans (hR2.trans (hR3.trans (hR5.trans (hR8.trans hRy))));have hpf:=Fz.flat hpv';change J Ry _ (l7d e _);refine X1 (E:=(b1,C AK (eSt s wv tv mv thv ov pv)) :: (bw,C Ac (s'.AB.map I ++ [])) :: (bt,C AI (Ab eRg s'.A0 ++ tsp)) :: (bm,C BK (s'.AR.map Value.bool)) :: F) (h8.le hRy) (hlv8.le hRy) (by omega) (hi98.le hRy) (by omega) (hito.le hRy) hths8 hth hrl inferInstance he (λx hx=>?_) (λR' x hR' hx=>?_)
 ·show (true && (true && (true && (true && (true && (true && (true && (true && (flat x && (true && (flat pv' && (true && (true && true))))))))))))) = true;rw[hx,hpf];rfl
 ·refine BA (A:=[(bw,C Ac (s'.AB.map I ++ [])),(bt,C AI (Ab eRg s'.A0 ++ tsp)),(bm,C BK (s'.AR.map Value.bool))]) (hRR.trans hR') ⟨bw,[],s'.AB.length,bt,tsp,ct,bm,x,pv',by omega,by omega,by omega,by omega,by omega,hx,?_,rfl,?_⟩
  ·rw[es3];exact hpv'.le hR'
  ·rw[el]
theorem Tz {R:RM} {b c:Nat} {l:List Rg} {sp:List Value} (h:R b = some (C AI (Ab eRg l ++ sp))) (hc:l.length≤c):Rgs R (S0 b l.length c) l:=by
 have e:=Ds (f:=eRg) (w:=5) (λ_=>rfl) l;exact .inr ⟨b,0,c,AI,_,rfl,h,by rw[Yn,e];omega,by rw[aD,← e,List.take_left],hc⟩
theorem VH {R:RM} {b c:Nat} {l:List Bool} {sp:List Value} (h:R b = some (C BK (l.map Value.bool ++ sp))) (hc:l.length≤c):Bls R (S0 b l.length c) l:=by
 have e:(l.map Value.bool).length = l.length * 1:=by simp
 exact .inr ⟨b,0,c,BK,_,rfl,h,by rw[Yn,e];omega,by rw[aD,← e,List.take_left],hc⟩
theorem MO {l:List AZ} {AQ to_:List Int}:∀{ts r:List Th},Da l AQ to_ ts = some r→r.length = ts.length
 | [],r,h=>by unfold Da at h;cases h;rfl
 | t :: ts,r,h=>by
  obtain⟨AD,rest,_,h2,rfl⟩:=L3 h;rw[Z8,Z8,MO h2]
theorem Sq {s s' : Sm.B7} (h:HA s = some s'):s'.AA.length = s.AA.length∧s'.old = []:=by
 unfold HA at h;obtain⟨_,_,h⟩:=AE h;obtain⟨⟨_,_⟩,_,h⟩:=AE h;obtain⟨⟨_,_⟩,_,h⟩:=AE h;obtain⟨_,_,h⟩:=AE h;obtain⟨_,hths,h⟩:=AE h;obtain⟨_,_,h⟩:=AE h;simp only[Yr] at h;subst h;exact⟨MO hths,rfl⟩
theorem TO {p n:Nat} {S S' : Sim} {g:Img} {R:RM} (hok:Ok R S g) (hp:Pr S) (hT:TOk S.A0) (hf:S.full = true) (hS:S.pause n = some S') :
  Fn P DI [Pt p] R (AY p S g) (Ci p S' λ_=>True):=by
 refine Jb λF=>?_
 unfold GD;unfold Sim.pause at hS;split at hS
 ·cases hS
 rename_i hz;have hz:S.sz = true:=by simpa using hz
 obtain⟨s,hs,hS⟩:=AE hS;simp only[Yr] at hS;have hze:=Fa hz;have hhl:=hok.hl;refine jl (v:=.bool S.full) rfl ?_;rw[hf];refine DO ?_;refine jc (A:=AY p S g) (XZ hok hz) ?_;rintro _ R1 _ hR1 ⟨-,rfl,thv,hths,rfl⟩;have ok1:=hok.le hR1;unfold AY;refine Bh (b:=g.wb) λR2 hR2 hbw=>Bh (b:=g.tb) λR3 hR3 hbt=>Bh (b:=g.mb) λR4 hR4 hbm=>?_
 have hR14:=(hR2.trans hR3).trans hR4;have ok4:=ok1.le hR14;have hst:StC R4 S.view (wS S g) (tS S g) (mS S g) thv g.old g.AO:=⟨C7 (hR4 _ _ (hR3 _ _ hbw)) hok.wk,Tz (hR4 _ _ hbt) hok.tk,VH hbm hok.mk_,hths.le hR14,ok4.old,ok4.AO⟩;have hvl:S.view.AA.length = S.th.length:=by simp[Sim.view]
 obtain⟨hsl,hold⟩:=Sq hs;refine jc (A:=[]) (Tp hst hok.wl hT.n0 hT.n1 (by omega) (λt ht=>?_) hze.2.2.2.1 hp.2 hs) ?_
 ·obtain⟨t',ht',rfl⟩:=ZU.1 ht;exact hze.2.2.2.2 _ ht'
 rintro _ R5 _ hR5 ⟨bw,wsp,cw,bt,tsp,ct,bm,thv',pv',w1,w2,w3,w4,w5,hths',hpv',rfl,rfl⟩;have ok5:=ok4.le hR5;obtain⟨ta,tc,htv⟩:=hths'.sl;have hpf:=Fz.flat hpv';have w1:s.AB.length = S.AB.length:=w1;have w2:s.A0.length = S.A0.length:=w2;have w3:s.AR.length = S.AB.length:=w3;have hwl:=hok.wl;have htl:=hok.tl;refine js (cs':=Br { S with AB:=s.AB,A0:=s.A0,AR:=s.AR,Aa:=s.Aa,stop:=s.stop,full:=s.full,old:=s.old,AO:=s.AO,B8:=s.B8,Bf:=s.Bf } { g with wb:=bw,wc:=cw,wsp:=wsp,tb:=bt,tc:=ct,tsp:=tsp,mb:=bm,mc:=s.AR.length,msp:=[],Ag:=.bool s.Ag,want:=I s.want,AA:=thv',old:=.slice none 0 0,AO:=pv' }) rfl ?_ (by show 4 + 13≤35;omega) rfl ?_
 ·subst htv;show (true && (true && (true && (true && (true && (true && (true && (true && (true && (true && (flat pv' && (true && (true && true))))))))))))) = true;rw[hpf];rfl
 refine jl (v:=.bool s.Ag) rfl ?_;refine jbd (cs:=Ah (CR s.Ag 0) (.slice none 0 0)) rfl rfl ?_;generalize hS3:({ S with AB:=s.AB,A0:=s.A0,AR:=s.AR,Aa:=s.Aa,stop:=s.stop,full:=s.full,old:=s.old,AO:=s.AO,B8:=s.B8,Bf:=s.Bf,col:=CR s.Ag 0 }:Sim) = S3;generalize hg3:({ g with wb:=bw,wc:=cw,wsp:=wsp,tb:=bt,tc:=ct,tsp:=tsp,mb:=bm,mc:=s.AR.length,msp:=[],Ag:=.bool s.Ag,want:=I s.want,AA:=thv',old:=.slice none 0 0,AO:=pv',AG:=.slice none 0 0 }:Img) = g3;have eth:S3.th = S.th:=by rw[← hS3]
 have ethv:g3.AA = thv':=by rw[← hg3]
 have ok3:Ok R5 S3 g3:=by
  subst hS3 hg3 htv;exact { ok5 with old:=.inl ⟨rfl,by rw[hold];rfl,by rw[hold];rfl⟩,AO:=hpv',AG:=.inl ⟨rfl,rfl,rfl⟩,wl:=by show s.AB.length≤1000;omega,tl:=by show s.A0.length≤1000;omega,ml:=by show s.AR.length≤1000;omega,fl:=⟨rfl,rfl,rfl⟩,wk:=w4,tk:=w5,mk_:=z_n _ }
 refine js (cs':=Br S3 g3) rfl rfl (by exact Yp rfl) (by rw[← hS3,← hg3];rfl) ?_;refine BH (D':=AY p S3 g3 ++ F) (by
  have e:AY p S3 g3 = (p,C BZ (Br S3 g3)) :: (bw,C Ac (s.AB.map I ++ wsp)) :: (bt,C AI (Ab eRg s.A0 ++ tsp)) :: (bm,C BK (s.AR.map Value.bool ++ [])) :: (g.hb,C AV (Dh S.th g.rv ++ g.hsp)) :: evD S g:=by rw[← hS3,← hg3];rfl
  rw[e,ZV]
  exact ZG (l₁:=[(bw,C Ac (s.AB.map I ++ wsp)),(bt,C AI (Ab eRg s.A0 ++ tsp)),(bm,C BK (s.AR.map Value.bool))])) ?_
 have hSe:S' = { S3 with th:=s.AA.map λt=>thr0 t.AD t.next t.Au }:=by rw[← hS3,← hS]
 clear hS hS3 hg3 hst;generalize hT' : (s.AA.map λt=>thr0 t.AD t.next t.Au) = T' at hSe;have hTl:T'.length = S.th.length:=by rw[← hT',ZF];omega
 have hTg:∀k (h:k < T'.length) (h' : k < s.AA.length),T'[k] = thr0 (s.AA[k]).AD (s.AA[k]).next (s.AA[k]).Au:=λk h h'=>by simp only[← hT',List.getElem_map]
 rw[← eth] at hTl hhl hvl;rw[hvl] at hsl;subst hSe;refine jlp (λm vs R' D'=>R' = R5∧∃(k:Nat) (g4:Img),k≤S3.th.length∧g4.AA = thv'∧Ok R5 { S3 with th:=T'.take k ++ S3.th.drop k } g4∧D' = AY p { S3 with th:=T'.take k ++ S3.th.drop k } g4 ++ F∧vs = [Pt p,I k]∧m = S3.th.length - k)
  (n:=S3.th.length) ⟨rfl,0,g3,by omega,ethv,ok3,rfl,rfl,by omega⟩ ?_
 rintro m e R6 D6 K ⟨hR,k,g4,hk,e4,ok4,hD,he,hm⟩ hK;subst hR;rw[hD];clear hD;simp only[List.map,zc,zl,zj,z_t] at he;simp only[he];have hul:=Ew (k:=k) hTl;refine jl (v:=.slice (some ⟨g4.hb,0,none⟩) (T'.take k ++ S3.th.drop k).length g4.hc) rfl (jln (jlt (jif (λhc=>?_) (λhc=>?_))));rotate_left
 ·have hc:S3.th.length≤k:=by have:=z_g hc;omega
  have ee:T'.take k ++ S3.th.drop k = T':=by rw[Yz (by omega),Z2 (by omega),ZV]
  rw[ee] at ok4 ⊢;exact Ar (hR1.trans (hR14.trans hR5)) trivial rfl ok4
 have hc:k < S3.th.length:=by have:=z_f hc;omega
 have hcs:k < s.AA.length:=by omega
 refine jl (v:=g4.AA) rfl ?_;rw[e4];refine jtr hths' hcs λb3 o3 ty cs rv hrv hb3 ho3 hrow3=>?_
 refine HL hb3 ho3 hrow3 ?_;obtain⟨ra,rc,hrve⟩:=hrv.sl;subst hrve;refine ja λb30=>?_
 refine js (cs':=[.slice ra (s.AA[k]).AD.length rc,I (s.AA[k]).next,.bool (s.AA[k]).busy,I (s.AA[k]).Au]) rfl rfl (by exact z_n 4) rfl ?_;refine jl (v:=.slice (some ⟨g4.hb,0,none⟩) (T'.take k ++ S3.th.drop k).length g4.hc) rfl ?_;refine jl (v:=.slice ra (s.AA[k]).AD.length rc) rfl (jl (v:=I (s.AA[k]).next) rfl (jl (v:=I (s.AA[k]).Au) rfl ?_));refine jbd (cs:=Ad (thr0 (s.AA[k]).AD (s.AA[k]).next (s.AA[k]).Au) (.slice ra (s.AA[k]).AD.length rc)) rfl rfl ?_;refine Cs (by omega) ?_;refine jst (p:=p) (S:={ S3 with th:=T'.take k ++ S3.th.drop k }) (g:=g4) _ _ (by show k < (T'.take k ++ S3.th.drop k).length;omega) ok4.rvl (Fz.flat hrv) rfl rfl ?_;refine jad ?_;have Fq:(T'.take k ++ S3.th.drop k).set k (thr0 (s.AA[k]).AD (s.AA[k]).next (s.AA[k]).Au) = T'.take (k + 1) ++ S3.th.drop (k + 1):=by
  rw[← hTg k (by omega) hcs];exact M9 hTl hc
 have ok5':=ok4.setT (i:=k) (t:=thr0 (s.AA[k]).AD (s.AA[k]).next (s.AA[k]).Au) (v:=.slice ra (s.AA[k]).AD.length rc) hrv;dsimp only at ok5' ⊢;rw[Fq] at ok5' ⊢;refine Ai (AY p { S3 with th:=T'.take (k + 1) ++ S3.th.drop (k + 1) } { g4 with rv:=g4.rv.set k (.slice ra (s.AA[k]).AD.length rc) }) (G:=F) ?_;exact hK (S3.th.length - (k + 1)) _ _ _ (by omega) ⟨rfl,k + 1,{ g4 with rv:=g4.rv.set k (.slice ra (s.AA[k]).AD.length rc) },by omega,e4,ok5',rfl,rfl,rfl⟩
theorem Rj {p n:Nat} {S S' : Sim} {g:Img} {R:RM} (hok:Ok R S g) (hp:Pr S) (hT:TOk S.A0) (hS:S.pause n = some S') :
  Fn P DI [Pt p] R (AY p S g) (Ci p S' λ_=>True):=by
 cases hf:S.full with
 | true=>exact TO hok hp hT hf hS
 | false=>exact RF hok hp hT hf hS
end Go.Lf
end
section
namespace Go.Lf
open Go Sm
theorem XJ (x:Int) (w:World):(Go.convert 5 3 (.int .u8 x):Sem Value).run P w = .ok (.int .i64 (IntKind.i64.wrap x)) w:=by
 kernel_rfl
def Bsl (R:RM) (v:Value) (n:Nat):Prop:=∃a cap,v = .slice a n cap∧n≤cap∧(n = 0∨∃b o,a = some ⟨b,o,none⟩∧∀i,i < n→∃t cs fz x,R b = some (.cells cs t fz)∧cs[o + i]? = some (.int .u8 x)∧0≤x∧x < 256)
theorem Bsl.le {R R' : RM} {v:Value} {n:Nat} (h:R.le R') (H:Bsl R v n):Bsl R' v n:=by
 obtain⟨a,cap,h1,h2,h3 | ⟨b,o,h3,h4⟩⟩:=H
 ·exact⟨a,cap,h1,h2,.inl h3⟩
 ·exact⟨a,cap,h1,h2,.inr ⟨b,o,h3,λi hi=>by obtain⟨t,cs,fz,x,q1,q2⟩:=h4 i hi;exact⟨t,cs,fz,x,h _ _ q1,q2⟩⟩⟩
section rules
variable {R:RM} {D:Chs} {k:Value→M}
theorem jcv {x:Int} (h:inR x) (H:J R D (k (I x))):J R D (X P (Go.convert 5 3 (.int .u8 x)) k):=by
 intro h' hs w hw;rw[XJ,EM h];subst hw;exact⟨BF.refl _,H _ hs⟩
theorem YS {x y:Int} (hx:0≤x∧x < 4611686018427387904) (hy:0≤y∧y < 4611686018427387904) (H:∀z:Int,0≤z→z < 4611686018427387904→J R D (k (I z))):J R D (BO .xor (I x) (I y) k):=by
 have e:BO .xor (I x) (I y) k = k (.int .i64 (IntKind.i64.wrap (BitVec.ofInt 64 x ^^^ BitVec.ofInt 64 y).toNat)):=rfl;have h1:(BitVec.ofInt 64 x ^^^ BitVec.ofInt 64 y).toNat < 2 ^ 62:=by
  rw[BitVec.toNat_xor];have hb:∀z:Int,0≤z∧z < 4611686018427387904→(BitVec.ofInt 64 z).toNat < 2 ^ 62:=λz hz=>by
   rw[BitVec.toNat_ofInt];omega
  exact Nat.xor_lt_two_pow (hb x hx) (hb y hy)
 rw[e,EM ⟨by omega,by omega⟩];exact H _ (by omega) (by omega)
theorem U5 {v:Value} {n:Nat} {i:Int} (h:Bsl R v n) (h0:0≤i) (h1:i < n)
  (H:∀(q:Value) (x:Int),0≤x→x < 256→(∀(D' : Chs) (k' : Value→M),J R D' (k' (.int .u8 x))→J R D' (L1 q k'))→J R D (k q)):J R D (IA 1 v (I i) k):=by
 obtain⟨a,cap,rfl,hn,h2 | ⟨b,o,rfl,hc⟩⟩:=h
 ·omega
 ·obtain⟨t,cs,fz,x,hb,hx,x0,x1⟩:=hc i.toNat (by omega);refine jia h0 (by omega) (H _ x x0 x1 λD' k' hk=>?_);rw[Zt];intro h hs;exact⟨.int .u8 x,by simp only[Go.Lf.hc,hs.rd b _ hb];exact hx,hk h hs⟩
end rules
def Byt (R:RM) (v:Value):Prop:=∃a n cap,v = .slice a n cap∧Bsl R v n∧n≤1000000
theorem Byt.le {R R' : RM} {v:Value} (h:R.le R') (H:Byt R v):Byt R' v:=by
 obtain⟨a,n,cap,h1,h2,h3⟩:=H;exact⟨a,n,cap,h1,h2.le h,h3⟩
@[reducible] def rdO (v:Value) (m:Int):Obj:=C 118 [v,I m]
theorem Wc {R:RM} {rb:Nat} {v:Value} {n m:Int} (hb:Byt R v) (hm:0≤m∧m < 1000000000) :
  Fn P Ek [Pt rb,I n] R [(rb,rdO v m)] (λv' R' A=>R' = R∧A = [(rb,rdO v (m + 1))]∧∃x,v' = I x∧0≤x∧(x < n∨x = 0)):=by
 refine Mt λF=>?_
 unfold Gr;obtain⟨a,l,cap,rfl,hf,hl⟩:=hb;refine jl (v:=I m) rfl (jad (js (cs':=[.slice a l cap,I (m + 1)]) rfl rfl (by simp) rfl ?_));refine jor [Pt rb,I n] (decide (n < 1) || ((l:Int) == 0)) (λK' hK'=>?_) (λe c u ho he=>?_)
 ·refine jlt (BM (λh1=>?_) (λh1=>?_))
  ·refine jl (v:=.slice a l cap) rfl (jln (jeq (hK' _ _ _ (h1▸Aj) (by rw[h1,Yk]))))
  ·exact hK' _ _ _ (h1▸Al) (by rw[h1,Ym])
 simp only[List.map,zc,zl,zj,z_t] at he;simp only[he];rw[ho];have fin:∀x:Int,0≤x→(x < n∨x = 0)→J R ((rb,C 118 [.slice a l cap,I (m + 1)]) :: F) (Er R F (λv' R' A=>R' = R∧A = [(rb,rdO (.slice a l cap) (m + 1))]∧∃x,v' = I x∧0≤x∧(x < n∨x = 0)) (I x)):=λx x0 x1=>
  BA (A:=[(rb,rdO (.slice a l cap) (m + 1))]) (RM.le.refl R) ⟨rfl,rfl,x,rfl,x0,x1⟩
 refine jif (λh0=>fin 0 (by omega) (.inr rfl)) (λh0=>?_);simp only[Z1,decide_eq_false_iff_not,beq_eq_false_iff_ne] at h0;obtain⟨n1,l1⟩:=h0;have tm:∀x y:Int,0≤x→0 < y→0≤x.tmod y∧x.tmod y < y:=λx y hx hy=>⟨Int.tmod_nonneg y hx,Int.tmod_lt_of_pos x hy⟩
 refine jl (v:=I (m + 1)) rfl (jsu ?_);rw[show m + 1 - 1 = m from by omega];refine jl (v:=.slice a l cap) rfl (jln (jlt (jif (λh1=>?_) (λh1=>?_))))
 ·have h1:=z_f h1;refine jl (v:=.slice a l cap) rfl (U5 hf hm.1 h1 λq x x0 x1 hq=>?_);refine hq _ _ ?_;refine @jcv _ _ _ _ ⟨by omega,by omega⟩ (Pg (by omega) ?_);obtain⟨t0,t1⟩:=tm x n x0 (by omega);exact fin _ t0 (.inl t1)
 ·refine AJ (λvs R' D'=>R' = R∧D' = (rb,C 118 [.slice a l cap,I (m + 1)]) :: F∧∃x:Int,0≤x∧x < 1000000000000∧vs = [I n,I x]) (λK hK=>?_) ?_
  ·obtain⟨k0,k1⟩:=tm m l hm.1 (by omega);obtain⟨k2,k3⟩:=tm (m * 7 + 3) l (by omega) (by omega);have q0:0≤m.tdiv l:=Int.tdiv_nonneg hm.1 (by omega);have q1:m.tdiv l≤m:=by
    rw[Ze hm.1];exact Int.ediv_le_self _ hm.1
   refine jl (v:=.slice a l cap) rfl ?_;refine jl (v:=.slice a l cap) rfl (jln ?_);refine Pg (by omega) ?_;refine U5 hf k0 k1 λqa x x0 x1 hqa=>?_
   refine hqa _ _ ?_;refine jl (v:=.slice a l cap) rfl (GX ⟨by omega,by omega⟩ (jad (jl (v:=.slice a l cap) rfl (jln (Pg (by omega) (U5 hf k2 k3 λqb y y0 y1 hqb=>?_))))));refine hqb _ _ ?_;refine GX ⟨by omega,by omega⟩ (jl (v:=.slice a l cap) rfl (jln (OL (by omega) ⟨by omega,by omega⟩ (GX ⟨by omega,by omega⟩ ?_))));refine E6 ?_ (DT ?_)
   ·refine @jcv _ _ _ _ ⟨by omega,by omega⟩ (GX ⟨by omega,by omega⟩ ?_);refine Ae (jl (v:=.slice a l cap) rfl jev) (Ae (jl (v:=.slice a l cap) rfl jev) (Ae (hqb _ _ jev) (Ae (jl (v:=.slice a l cap) rfl jev) ?_)));refine @jcv _ _ _ _ ⟨by omega,by omega⟩ (GX ⟨by omega,by omega⟩ (jad (jad (jad ?_))));refine Ae (jl (v:=.slice a l cap) rfl jev) ?_;exact hK _ _ _ ⟨rfl,rfl,_,by omega,by omega,rfl⟩
   ·refine @jcv _ _ _ _ ⟨by omega,by omega⟩ (GX ⟨by omega,by omega⟩ ?_);refine Ae (jl (v:=.slice a l cap) rfl jev) (Ae (jl (v:=.slice a l cap) rfl jev) (Ae (hqa _ _ jev) (Ae (jl (v:=.slice a l cap) rfl jev) ?_)));refine @jcv _ _ _ _ ⟨by omega,by omega⟩ (GX ⟨by omega,by omega⟩ (jad (jad (jad ?_))));refine Ae (jl (v:=.slice a l cap) rfl jev) ?_;exact hK _ _ _ ⟨rfl,rfl,_,by omega,by omega,rfl⟩
  rintro e R1 D1 ⟨hR,hD,x,x0,x1,he⟩;subst hR;rw[hD];clear hD;simp only[List.map,zc,zl,zj,z_t] at he;simp only[he];have e1:x.tdiv 64 = x / 64:=Ze x0;refine OL (by decide) (by rw[e1];constructor<;>omega) ?_;rw[e1];refine YS ⟨x0,by omega⟩ ⟨by omega,by omega⟩ λz z0 z1=>Pg (by omega) ?_
  obtain⟨t0,t1⟩:=tm z n z0 (by omega);exact fin _ t0 (.inl t1)
theorem jpk {R:RM} {D E:Chs} {rb:Nat} {v:Value} {n m:Int} {k:Value→M} (hb:Byt R v) (hm:0≤m∧m < 1000000000) [t:Tk D rb (rdO v m) E] (H:∀x,0≤x→(x < n∨x = 0)→J R ((rb,rdO v (m + 1)) :: E) (k (I x))) :
  J R D (CA P Ek [Pt rb,I n] k):=by
 refine jc (A:=[(rb,rdO v m)]) (F:=E) (s:=⟨t.p⟩) (Wc hb hm) ?_;rintro _ _ _ _ ⟨rfl,rfl,x,rfl,x0,x1⟩;exact H x x0 x1
end Go.Lf
end
section
namespace Sm
variable {P:List (List Op)}
def thg (w:List Int) (a:Int):AZ:=⟨a,wv w a,shp w a,seg w (a + 2) (shp w a).refs,seg w (a + 2 + (shp w a).refs) (shp w a).nums⟩
theorem Ja {n:Nat} {k:Nat} (h:n = 16 * k) (h0:2≤k) (h1:k≤12):BJ n = true:=by
 subst h;simp only[BJ,z_b,beq_iff_eq,z_d];omega
theorem Geo.wok {w:List Int} {t:List Rg} {B:Int→Prop} (G:Geo w t B):BJ w.length = true:=by
 have h1:=G.len;exact Ja (k:=t.length) (by omega) G.ok.n0 G.ok.n1
theorem Geo.fits {w:List Int} {t:List Rg} {B:Int→Prop} (G:Geo w t B) {a s:Int} (h:B a) (s0:1≤s) (s1:s≤sz w a):Sm.fits w.length a s = true:=by
 obtain⟨g1,g2,g3,g4,g5,g6,g7,g8⟩:=G.inn h;unfold Sm.fits;rw[G.wok,Ck (by omega),Ck (by omega)];simp only[Yx,z_b,z_d,beq_iff_eq];omega
theorem Geo.thing {w:List Int} {t:List Rg} {B:Int→Prop} (G:Geo w t B) {a:Int} (h:B a):BB w a = (thg w a,true):=by
 obtain⟨g1,g2,g3,g4,g5,g6,g7,g8⟩:=G.inn h;have e:w.getD (a.toNat + 1) 0 = wv w (a + 1):=by unfold wv gv;rw[show (a + 1).toNat = a.toNat + 1 from by omega]
 unfold BB;rw[if_pos (G.fits h (by omega) (by omega)),e];dsimp only;rw[show AF (AH (wv w (a + 1))).1 = sz w a from rfl,(G.at_ a h).2.2,G.fits h (by omega) (ZM _)];rfl
theorem KM {w:List Int} {t:List Rg} {B:Int→Prop} (G:Geo w t B) {r:Int} (r0:1≤r) (r1:r < t.length):∀(n:Nat) (a:Int),(a = (rv t r).top∨(B a∧a / 16 = r))→(rv t r).top - a≤2 * n→
  ∃l,Ay w n a (rv t r).top = some l∧(∀x∈l,B x.at_∧x = thg w x.at_)∧∀b,B b→b / 16 = r→a≤b→thg w b∈l:=by
 have T1:=(G.ok.row r r0 r1).t1;have T0:=(G.ok.row r r0 r1).t0;have below:∀b,B b→b / 16 = r→b < (rv t r).top:=λb hb hr=>by
  have g:=G.inn hb;rw[hr] at g;omega
 intro n;induction n with
 | zero=>
  intro a ha hn;have:¬ a < (rv t r).top:=by omega
  unfold Ay;rw[if_neg this];exact⟨[],rfl,λx h=>(by cases h),λb hb hr hab=>by have:=below b hb hr;omega⟩
 | succ n ih=>
  intro a ha hn;unfold Ay;by_cases c:a < (rv t r).top
  ·have hB:B a∧a / 16 = r:=by rcases ha with h | h;omega;exact h
   obtain⟨g1,g2,g3,g4,g5,g6,g7,g8⟩:=G.inn hB.1;rw[hB.2] at g4;rw[if_pos c,G.thing hB.1];dsimp only;have es:AF (thg w a).sh = sz w a:=rfl;rw[es];rw[if_pos (by simpa using g4)];have nx:a + sz w a = (rv t r).top∨(B (a + sz w a)∧(a + sz w a) / 16 = r):=by
    by_cases h:a + sz w a = (rv t r).top
    ·exact .inl h
    ·right;rcases G.nx a hB.1 with h2 | h2
     ·rw[hB.2] at h2;exact absurd h2 h
     ·exact⟨h2,by omega⟩
   obtain⟨l,e,h1,h2⟩:=ih (a + sz w a) nx (by omega);rw[e];refine⟨thg w a :: l,rfl,λx hx=>?_,λb hb hr hab=>?_⟩
   ·rcases Yw.1 hx with h | h
    ·subst h;exact⟨hB.1,rfl⟩
    ·exact h1 x h
   ·by_cases d:b = a
    ·subst d;simp
    ·have:=G.dj a b hB.1 hb (by omega);exact Zc _ (h2 b hb hr this)
  ·rw[if_neg c];exact⟨[],rfl,λx h=>(by cases h),λb hb hr hab=>by have:=below b hb hr;omega⟩
theorem KZ {w:List Int} {t:List Rg} {B:Int→Prop} (G:Geo w t B):∀(l:List Rg) (r:Nat),1≤r→r + l.length = t.length→(∀k (h:k < l.length),l[k] = rv t (r + k:Nat))→
  ∃out,Bg w r l = some out∧(∀x∈out,B x.at_∧x = thg w x.at_)∧∀b,B b→(r:Int)≤b / 16→thg w b∈out:=by
 have n1:=G.ok.n1;have len:=G.len;intro l;induction l with
 | nil=>
  intro r r0 hl _;refine⟨[],rfl,λx h=>(by cases h),λb hb hr=>?_⟩;have g:=G.inn hb;simp only[Zj] at hl;omega
 | cons x l ih=>
  intro r r0 hl hk;simp only[Z8] at hl;have hx:x = rv t r:=by have:=hk 0 (by simp);simpa using this
  have R:=G.ok.row r (by omega) (by omega);have R0:=R.t0;have R1:=R.t1;have hb:=Cx (r:=r) (by omega) (by omega);obtain⟨a,e1,h1,h2⟩:=KM G (r:=r) (by omega) (by omega) 16 (16 * (r:Int)) (by
   rcases G.bs r (by omega) (by omega) with h | h
   ·exact .inl h.symm
   ·exact .inr ⟨h,by omega⟩) (by omega)
  obtain⟨b,e2,h3,h4⟩:=ih (r + 1) (by omega) (by omega) λk h=>by
   have:=hk (k + 1) (by simpa using h);rw[show r + 1 + k = r + (k + 1) from by omega];exact this
  have e3:BL w r x.top = some a:=by
   unfold BL;rw[G.wok,hx,hb,if_pos (by simp only[Yx,z_b,z_d];omega)];exact e1
  refine⟨a ++ b,?_,λy hy=>?_,λy hy hr=>?_⟩
  ·unfold Bg;rw[e3];simp only[];rw[e2]
  ·rcases ZD.1 hy with h | h
   ·exact h1 y h
   ·exact h3 y h
  ·by_cases d:y / 16 = r
   ·exact ZS _ (h2 y hy d (by omega))
   ·exact ZZ _ (h4 y hy (by omega))
structure Thn (w:List Int) (B:Int→Prop) (l:List AZ):Prop where
 all:∀x∈l,B x.at_∧x = thg w x.at_
 has:∀a,B a→thg w a∈l
theorem Sc {s:B7} {B:Int→Prop} (G:Geo s.AB s.A0 B):∃l,BE s = some l∧Thn s.AB B l:=by
 have n0:=G.ok.n0;obtain⟨l,e,h1,h2⟩:=KZ G s.A0.tail 1 (z_n 1) (by simp;omega) λk h=>KQ h
 exact⟨l,e,h1,λa ha=>h2 a ha (by have:=G.inn ha;omega)⟩
theorem Thn.find {w:List Int} {B:Int→Prop} {l:List AZ} (T:Thn w B l) {a:Int} (h:B a):BW l a = some (thg w a):=by
 unfold BW;cases hf:l.find? λt=>t.at_ == a with
 | none=>
  have:=List.find?_eq_none.1 hf _ (T.has a h);simp[thg] at this
 | some x=>
  have h1:=List.find?_some hf;have h2:=aX hf;have h3:x.at_ = a:=by simpa using h1
  rw[(T.all x h2).2,h3]
theorem Thn.now {w:List Int} {B:Int→Prop} {l:List AZ} (T:Thn w B l) {a:Int} (h:a≠0→B a):now l a = some (if a = 0 then 0 else wv w a):=by
 unfold Sm.now;by_cases c:a = 0
 ·rw[if_pos c,if_pos c]
 ·rw[if_neg c,if_neg c,T.find (h c)];rfl
theorem Gf {α:Type} [DecidableEq α]:∀{xs ys:List α},xs.Nodup→(∀x∈xs,x∈ys)→xs.length≤ys.length:=by
 intro xs;induction xs with
 | nil=>intro ys _ _;simp
 | cons x r ih=>
  intro ys hn h;rw[Zi] at hn;have hx:=h x (by simp);have:=ih (ys:=ys.erase x) hn.2 λy hy=>by
   have hne:y≠x:=λc=>by subst c;exact hn.1 hy
   exact (List.mem_erase_of_ne hne).2 (h y (by simp[hy]))
  rw[List.length_erase_of_mem hx] at this;have:=List.length_pos_of_mem hx;simp;omega
section
variable {w:List Int} {B L:Int→Prop} {l:List AZ}
structure Cur (w:List Int) (L:Int→Prop) (out:List Int):Prop where
 nd:out.Nodup
 cu:∀a∈out,L a∧wv w a = a
 nz:∀a∈out,a≠0
theorem Cur.put {out:List Int} (C:Cur w L out) {a:Int} (h:a≠0→L a∧wv w a = a):Cur w L (CQ out a)∧(∀b∈out,b∈CQ out a)∧(a≠0→a∈CQ out a)∧∃e,CQ out a = out ++ e:=by
 unfold CQ;by_cases c:a = 0∨a∈out
 ·rw[if_pos c];exact⟨C,λ_ h=>h,λh0=>by rcases c with c | c;exact absurd c h0;exact c,[],by simp⟩
 ·rw[if_neg c];rw[not_or] at c;refine⟨⟨?_,λb hb=>?_,λb hb=>?_⟩,λb hb=>ZS _ hb,λ_=>by simp,[a],rfl⟩
  ·rw[List.nodup_append];exact⟨C.nd,by simp,λx hx y hy=>by simp only[Z3] at hy;subst hy;intro e;subst e;exact c.2 hx⟩
  ·rcases ZD.1 hb with hb | hb
   ·exact C.cu b hb
   ·simp only[Z3] at hb;subst hb;exact h c.1
  ·rcases ZD.1 hb with hb | hb
   ·exact C.nz b hb
   ·simp only[Z3] at hb;subst hb;exact c.1
theorem JJ (T:Thn w B l) (lb:∀a,L a→B a) (hL:∀a,L a→L (wv w a)∧wv w (wv w a) = wv w a):∀(xs out:List Int),(∀a∈xs,a≠0→L a)→Cur w L out→∃out',Ao l xs out = some out'∧Cur w L out'∧(∀b∈out,b∈out')∧(∀a∈xs,a≠0→wv w a≠0→wv w a∈out')∧∃e,out' = out ++ e:=by
 intro xs;induction xs with
 | nil=>intro out _ C;exact⟨out,rfl,C,λ_ h=>h,λa h=>(by cases h),[],by simp⟩
 | cons x r ih=>
  intro out h C;unfold Ao;rw[T.now λh0=>lb x (h x (by simp) h0)];simp only[Yo,z_o];obtain⟨C1,s1,m1,e1,he1⟩:=C.put (a:=if x = 0 then 0 else wv w x) λh0=>by
   by_cases c:x = 0
   ·rw[if_pos c] at h0;exact absurd rfl h0
   ·rw[if_neg c];exact hL x (h x (by simp) c)
  obtain⟨out',e2,C2,s2,m2,e3,he3⟩:=ih _ (λa ha=>h a (by simp[ha])) C1;refine⟨out',e2,C2,λb hb=>s2 b (s1 b hb),λa ha h0 hw=>?_,e1 ++ e3,by rw[he3,he1,Ys]⟩;rcases Yw.1 ha with ha | ha
  ·subst ha;rw[if_neg h0] at m1;exact s2 _ (by have:=m1 hw;rw[if_neg h0];exact this)
  ·exact m2 a ha h0 hw
theorem Mb (T:Thn w B l) (lb:∀a,L a→B a) (hL:∀a,L a→L (wv w a)∧wv w (wv w a) = wv w a):∀(ts:List Th) (out:List Int),(∀t∈ts,∀a∈t.AD,a≠0→L a)→Cur w L out→∃out',DU l ts out = some out'∧Cur w L out'∧(∀b∈out,b∈out')∧(∀t∈ts,∀a∈t.AD,a≠0→wv w a≠0→wv w a∈out'):=by
 intro ts;induction ts with
 | nil=>intro out _ C;exact⟨out,rfl,C,λ_ h=>h,λt h=>(by cases h)⟩
 | cons t r ih=>
  intro out h C;unfold DU;obtain⟨o1,e1,C1,s1,m1,_⟩:=JJ T lb hL t.AD out (h t (by simp)) C;rw[e1];simp only[Yo,z_o];obtain⟨o2,e2,C2,s2,m2⟩:=ih o1 (λu hu=>h u (by simp[hu])) C1;refine⟨o2,e2,C2,λb hb=>s2 b (s1 b hb),λu hu a ha h0 hw=>?_⟩;rcases Yw.1 hu with hu | hu
  ·subst hu;exact s2 _ (m1 a ha h0 hw)
  ·exact m2 u hu a ha h0 hw
theorem SU:∀(ps out:List Int),(∀a∈ps,L a∧wv w a = a)→Cur w L out→Cur w L (ps.foldl CQ out)∧(∀b∈out,b∈ps.foldl CQ out)∧(∀a∈ps,a≠0→a∈ps.foldl CQ out):=by
 intro ps;induction ps with
 | nil=>intro out _ C;exact⟨C,λ_ h=>h,λa h=>(by cases h)⟩
 | cons x r ih=>
  intro out h C;obtain⟨C1,s1,m1,_⟩:=C.put (a:=x) λ_=>h x (by simp)
  obtain⟨C2,s2,m2⟩:=ih _ (λa ha=>h a (by simp[ha])) C1;refine⟨C2,λb hb=>s2 b (s1 b hb),λa ha h0=>?_⟩;rcases Yw.1 ha with ha | ha
  ·subst ha;exact s2 _ (m1 h0)
  ·exact m2 a ha h0
theorem Ni {w:List Int} {a n v:Int} (h0:0≤a) (h:v∈seg w a n):∃j,0≤j∧j < n∧wv w (a + j) = v:=by
 unfold seg at h;obtain⟨k,hk,e⟩:=ZH h;simp only[Z0,ZO] at hk;refine⟨k,by omega,by omega,?_⟩;rw[← e,aZ,aP];unfold wv gv;rw[show (a + (k:Int)).toNat = a.toNat + k from by omega,Z5,Yl (by omega)];rfl
theorem Kz (T:Thn w B l) (lb:∀a,L a→B a) (b16:∀a,B a→16≤a) (hL:∀a,L a→L (wv w a)∧wv w (wv w a) = wv w a) (rf:∀a j,L a→0≤j→j < (shp w a).refs→wv w (a + 2 + j)≠0→L (wv w (a + 2 + j))) :
  ∀(n i:Nat) (out:List Int),Cur w L out→l.length + 2≤i + n→i≤out.length→(∀k (h:k < out.length),k < i→∀v∈(thg w out[k]).refs,v≠0→wv w v≠0→wv w v∈out)→
  ∃out',BN l n i out = some out'∧Cur w L out'∧(∀b∈out,b∈out')∧∀a∈out',∀v∈(thg w a).refs,v≠0→wv w v≠0→wv w v∈out':=by
 intro n;induction n with
 | zero=>
  intro i out C hn hi _;exfalso;have:out.length≤(l.map AZ.at_).length:=Gf C.nd λa ha=>ZU.2 ⟨thg w a,T.has a (lb a (C.cu a ha).1),rfl⟩
  rw[ZF] at this;omega
 | succ n ih=>
  intro i out C hn hi hcl;unfold BN;by_cases c:i < out.length
  ·rw[Yl c];have hm:=C.cu out[i] (Yv c);simp only[Yo];rw[T.find (lb _ hm.1)];simp only[z_o];have h16:=b16 _ (lb _ hm.1);obtain⟨o1,e1,C1,s1,m1,e,he⟩:=JJ T lb hL (thg w out[i]).refs out (λv hv h0=>by
    obtain⟨j,j0,j1,hj⟩:=Ni (by omega) hv
    rw[← hj] at h0 ⊢
    exact rf _ j hm.1 j0 j1 h0) C
   rw[e1];simp only[z_o];have hlen:out.length≤o1.length:=by rw[he];simp
   obtain⟨o2,e2,C2,s2,m2⟩:=ih (i + 1) o1 C1 (by omega) (by omega) λk hk hki v hv h0 hw=>by
    have ek:o1[k] = out[k]'(by omega):=by simp only[he];rw[Zs]
    rw[ek] at hv;by_cases d:k = i
    ·subst d;exact m1 v hv h0 hw
    ·exact s1 _ (hcl k (by omega) (by omega) v hv h0 hw)
   exact⟨o2,e2,C2,λb hb=>s2 b (s1 b hb),m2⟩
  ·rw[ZW (by omega)];refine⟨out,rfl,C,λ_ h=>h,λa ha v hv h0 hw=>?_⟩;obtain⟨k,hk,rfl⟩:=ZH ha;exact hcl k hk (by omega) v hv h0 hw
theorem Qr {s:B7} {L B:Int→Prop} {l:List AZ} (T:Thn s.AB B l) (lb:∀a,L a→B a) (b16:∀a,B a→16≤a) (hL:∀a,L a→L (wv s.AB a)∧wv s.AB (wv s.AB a) = wv s.AB a) (rf:∀a j,L a→0≤j→j < (shp s.AB a).refs→wv s.AB (a + 2 + j)≠0→L (wv s.AB (a + 2 + j)))
  (ht:∀t∈s.AA,∀a∈t.AD,a≠0→L a) (hp:∀a∈s.AO,L a∧wv s.AB a = a) :
  ∃out,DE s l = some out∧Cur s.AB L out∧(∀a∈out,∀v∈(thg s.AB a).refs,v≠0→wv s.AB v∈out)∧(∀t∈s.AA,∀a∈t.AD,a≠0→wv s.AB a∈out)∧(∀a∈s.AO,a∈out):=by
 have nz:∀a,L a→wv s.AB a≠0:=λa ha=>by have:=b16 _ (lb _ (hL a ha).1);omega
 unfold DE;obtain⟨o1,e1,C1,s1,m1⟩:=Mb T lb hL s.AA [] ht ⟨by simp,λa h=>(by cases h),λa h=>(by cases h)⟩;rw[e1];simp only[Yo,z_o];obtain⟨C2,s2,m2⟩:=SU s.AO o1 hp C1;obtain⟨o3,e3,C3,s3,m3⟩:=Kz T lb b16 hL rf (l.length + 2) 0 _ C2 (by omega) (by omega) (λk _ h=>by omega);refine⟨o3,e3,C3,λa ha v hv h0=>?_,λt h a ha h0=>s3 _ (s2 _ (m1 t h a ha h0 (nz a (ht t h a ha h0)))),λa ha=>s3 _ (m2 a ha (by have:=b16 a (lb a (hp a ha).1);omega))⟩;have hm:=(C3.cu a ha).1;have h16:=b16 _ (lb _ hm);obtain⟨j,j0,j1,hj⟩:=Ni (by omega) hv;have hv2:=rf _ j hm j0 j1 (by rw[hj];exact h0);rw[hj] at hv2;exact m3 a ha v hv h0 (nz v hv2)
end
end Sm
end
section
namespace Sm
variable {P:List (List Op)}
theorem Oh {l:List Int} {x:Int}:∀k,DX l x k≤k∧(∀j,DX l x k≤j→j < k→x < l.getD j 0)∧(0 < DX l x k→¬ x < l.getD (DX l x k - 1) 0):=by
 intro k;induction k with
 | zero=>exact⟨z_n 0,λj h h'=>by omega,λh=>by simp[DX] at h⟩
 | succ k ih=>
  unfold DX;split
  ·obtain⟨h1,h2,h3⟩:=ih;refine⟨by omega,λj hj hk=>?_,h3⟩;by_cases c:j = k
   ·subst c;assumption
   ·exact h2 j hj (by omega)
  ·exact⟨z_n _,λj h h'=>by omega,λ_=>by rw[Nat.add_sub_cancel];assumption⟩
theorem SZ {l:List Int} {x:Int} (h:l.Pairwise (· < ·)) (hx:x ∉ l):(Fi l x).Pairwise (· < ·)∧∀y,y∈Fi l x↔y = x∨y∈l:=by
 obtain⟨h1,h2,h3⟩:=Oh (l:=l) (x:=x) l.length;unfold Fi;dsimp only;generalize DX l x l.length = p at h1 h2 h3;have gd:∀j (hj:j < l.length),l.getD j 0 = l[j]:=λj hj=>by rw[Z5,Yl hj];rfl
 have hpw:=aL.1 h;constructor
 ·rw[List.pairwise_append];refine⟨h.sublist (List.take_sublist p l),?_,?_⟩
  ·rw[List.pairwise_cons];refine⟨λy hy=>?_,h.sublist (List.drop_sublist p l)⟩;obtain⟨k,hk,rfl⟩:=ZH hy;simp only[ZO] at hk;rw[aP,← gd (p + k) (by omega)];exact h2 _ (by omega) (by omega)
  ·intro a ha b hb;obtain⟨i,hi,rfl⟩:=ZH ha;simp only[Z0] at hi;rw[aZ];have hax:l[i] < x:=by
    have h4:=h3 (by omega);rw[gd (p - 1) (by omega)] at h4;have h5:l[i]≤l[p - 1]'(by omega):=by
     by_cases c:i = p - 1
     ·subst c;exact ZM _
     ·have:=hpw i (p - 1) (by omega) (by omega) (by omega);omega
    have h6:l[i]≠x:=λc=>hx (c▸Yv (by omega))
    omega
   rcases Yw.1 hb with hb | hb
   ·rw[hb];exact hax
   ·obtain⟨k,hk,rfl⟩:=ZH hb;simp only[ZO] at hk;rw[aP,← gd (p + k) (by omega)];have:=h2 (p + k) (by omega) (by omega);omega
 ·intro y;have:y∈l↔y∈l.take p∨y∈l.drop p:=by rw[← ZD,Zu]
  rw[ZD,Yw,this];constructor
  ·rintro (h | h | h)
   ·exact .inr (.inl h)
   ·exact .inl h
   ·exact .inr (.inr h)
  ·rintro (h | h | h)
   ·exact .inr (.inl h)
   ·exact .inl h
   ·exact .inr (.inr h)
theorem De {l:List Int} (h:l.Nodup):(Ak l).Pairwise (· < ·)∧∀y,y∈Ak l↔y∈l:=by
 have:∀(l acc:List Int),l.Nodup→acc.Pairwise (· < ·)→(∀x∈l,x ∉ acc)→(l.foldl Fi acc).Pairwise (· < ·)∧∀y,y∈l.foldl Fi acc↔y∈l∨y∈acc:=by
  intro l;induction l with
  | nil=>intro acc _ h _;exact⟨h,λy=>by simp⟩
  | cons x r ih=>
   intro acc hn h hd;rw[Zi] at hn;obtain⟨i1,i2⟩:=SZ h (hd x (by simp));obtain⟨j1,j2⟩:=ih (Fi acc x) hn.2 i1 λy hy hm=>by
    rcases (i2 y).1 hm with c | c
    ·subst c;exact hn.1 hy
    ·exact hd y (by simp[hy]) c
   refine⟨j1,λy=>?_⟩;rw[aQ,j2 y,i2 y,Yw];constructor
   ·rintro (h | h | h)
    ·exact .inl (.inr h)
    ·exact .inl (.inl h)
    ·exact .inr h
   ·rintro ((h | h) | h)
    ·exact .inr (.inl h)
    ·exact .inl h
    ·exact .inr (.inr h)
 obtain⟨h1,h2⟩:=this l [] h List.Pairwise.nil (λ_ _ h=>by cases h);exact⟨h1,λy=>by rw[Ak,h2 y];simp⟩
theorem N4 {w:List Int} {a v:Int} (h0:0≤a) (h1:a < w.length):wr w a v = some (AW w a v):=by unfold wr;rw[if_pos ⟨h0,h1⟩]
theorem P3:∀(vs w:List Int) (a:Int),0≤a→a + vs.length≤w.length→∃w',wrs w a vs = some w'∧w'.length = w.length∧∀x,0≤x→(x < a∨a + vs.length≤x)→wv w' x = wv w x:=by
 intro vs;induction vs with
 | nil=>intro w a _ _;exact⟨w,rfl,rfl,λ_ _ _=>rfl⟩
 | cons v r ih=>
  intro w a h0 h1;simp only[Z8] at h1;unfold wrs;rw[N4 h0 (by omega)];simp only[Yo,z_o];obtain⟨w',e,hl,hw⟩:=ih (AW w a v) (a + 1) (by omega) (by simp;omega);refine⟨w',e,by rw[hl];simp,λx x0 hx=>?_⟩;simp only[Z8] at hx;rw[hw x x0 (by omega),DK h0 (by omega) x0,if_neg (by omega)]
theorem KR {w:List Int} {a n:Int} (h0:0≤a) (hn:0≤n) (h1:a + n≤w.length):((seg w a n).length:Int) = n:=by
 unfold seg;simp only[Z0,ZO];omega
def Hd (w W:List Int) (f:Int→Shp) (b:Int):Prop:=wv w b = b∧wv w (b + 1) = Am (f b)
theorem UM (w:List Int) (a:Int):BG (shp w a) = true:=by
 have:=Em w a;simp[BG];omega
section
variable {s:B7} {B0:Int→Prop}
theorem SY (G:Geo s.AB s.A0 B0):∀(l:List AZ) (w:List Int) (t:List Rg),(∀x∈l,B0 x.at_∧x = thg s.AB x.at_)→w.length = s.AB.length→t.length = s.A0.length→
  ∃w' t',stay s l w t = some (w',t')∧w'.length = s.AB.length∧t'.length = s.A0.length∧
   (∀b,B0 b→CB s.AO (b / 16) = true→(thg s.AB b∈l∨Hd w s.AB (shp s.AB) b)→Hd w' s.AB (shp s.AB) b)∧
   (∀b j,B0 b→0≤j→j < (shp s.AB b).refs→wv w' (b + 2 + j) = wv w (b + 2 + j))∧
   (∀x,0≤x→CB s.AO (x / 16) = false→wv w' x = wv w x)∧
   (∀r:Int,0≤r→rv t' r = if CB s.AO r = true∧∃x∈l,x.at_ / 16 = r then ⟨3,-1,(rv s.A0 r).top,(rv s.A0 r).top,0⟩ else rv t r):=by
 intro l;induction l with
 | nil=>
  intro w t _ hw ht;refine⟨w,t,rfl,hw,ht,λb _ _ h=>?_,λ_ _ _ _ _=>rfl,λ_ _ _=>rfl,λr _=>by rw[if_neg (by rintro⟨_,x,hx,_⟩;cases hx)]⟩;rcases h with h | h
  ·cases h
  ·exact h
 | cons x l ih=>
  intro w t hx hw ht;obtain⟨hB,he⟩:=hx x (by simp);have hxl:∀y∈l,B0 y.at_∧y = thg s.AB y.at_:=λy hy=>hx y (by simp[hy])
  obtain⟨g1,g2,g3,g4,g5,g6,g7,g8⟩:=G.inn hB;have sb:=Em s.AB x.at_;have hsh:x.sh = shp s.AB x.at_:=by rw[he];rfl
  have hrf:((x.refs.length:Nat):Int) = (shp s.AB x.at_).refs:=by
   rw[he];exact KR (by show 0≤x.at_ + 2;omega) (by omega) (by show x.at_ + 2 + (shp s.AB x.at_).refs≤_;omega)
  have hnm:((x.nums.length:Nat):Int) = (shp s.AB x.at_).nums:=by
   rw[he];exact KR (by show 0≤x.at_ + 2 + (shp s.AB x.at_).refs;omega) (by omega) (by show x.at_ + 2 + (shp s.AB x.at_).refs + (shp s.AB x.at_).nums≤_;omega)
  unfold stay;dsimp only;rw[Ck (by omega)];by_cases hh:CB s.AO (x.at_ / 16) = true
  ·rw[if_pos hh,N4 (by omega) (by omega)];simp only[Yo,z_o];rw[N4 (by omega) (by simp;omega)];simp only[z_o];obtain⟨w3,e3,l3,h3⟩:=P3 x.nums (AW (AW w x.at_ x.at_) (x.at_ + 1) (Am x.sh)) (x.at_ + 2 + x.refs.length) (by omega) (by simp;omega);rw[e3];simp only[z_o];rw[Cj (by omega) g3,Cj (l:=t) (by omega) (by omega)];simp only[z_o];simp only[Cq] at l3;obtain⟨w',t',e,hl,htl,k1,k2,k3,k4⟩:=ih w3 (AW t (x.at_ / 16) ⟨3,-1,(rv s.A0 (x.at_ / 16)).top,(rv s.A0 (x.at_ / 16)).top,0⟩) hxl (by omega) (by simpa using ht);have w3v:∀y,0≤y→(y < x.at_ + 2 + x.refs.length∨x.at_ + 2 + x.refs.length + x.nums.length≤y)→wv w3 y = if y = x.at_ + 1 then Am x.sh else if y = x.at_ then x.at_ else wv w y:=λy y0 hy=>by
    rw[h3 y y0 hy,DK (by omega) (by simp;omega) y0];split
    ·rfl
    ·rw[DK (by omega) (by omega) y0]
   refine⟨w',t',e,hl,htl,λb hb hbh h=>?_,λb j hb j0 j1=>?_,λy y0 hy=>?_,λr r0=>?_⟩
   ·refine k1 b hb hbh ?_;by_cases c:b = x.at_
    ·right;subst c;refine⟨?_,?_⟩
     ·rw[w3v _ (by omega) (by omega),if_neg (by omega),if_pos rfl]
     ·rw[w3v _ (by omega) (by omega),if_pos rfl,hsh]
    ·rcases h with h | h
     ·rcases Yw.1 h with h | h
      ·exact absurd (by rw[← h];rfl) c
      ·exact .inl h
     ·right;have gb:=G.inn hb;have s1:∀k,0≤k→k < sz s.AB x.at_→b≠x.at_ + k:=λk k0 k1 hk=>c (sep G hb hB (k:=0) (l:=k) (by omega) (by omega) k0 k1 (by omega)).1
      have s2:∀k,0≤k→k < sz s.AB x.at_→b + 1≠x.at_ + k:=λk k0 k1 hk=>c (sep G hb hB (k:=1) (l:=k) (by omega) (by omega) k0 k1 (by omega)).1
      refine⟨?_,?_⟩
      ·rw[w3v b (by omega) (by
        have:=s1 (b - x.at_)
        omega),if_neg (by have:=s1 1 (by omega) (by omega);omega),if_neg c]
       exact h.1
      ·rw[w3v (b + 1) (by omega) (by
        have:=s2 (b + 1 - x.at_)
        omega),if_neg (by omega),if_neg (by have:=s2 0 (by omega) (by omega);omega)]
       exact h.2
   ·rw[k2 b j hb j0 j1];have gb:=G.inn hb;have sbb:=Em s.AB b;have s1:∀k,0≤k→k < sz s.AB x.at_→b + 2 + j = x.at_ + k→b = x.at_∧2 + j = k:=λk k0 k1 hk=>sep G hb hB (k:=2 + j) (l:=k) (by omega) (by omega) k0 k1 (by omega)
    rw[w3v _ (by omega) ?_,if_neg ?_,if_neg ?_]
    ·intro h;have:=s1 0 (by omega) (by omega) (by omega);omega
    ·intro h;have:=s1 1 (by omega) (by omega) (by omega);omega
    ·by_cases c:x.at_ + 2 + x.refs.length≤b + 2 + j∧b + 2 + j < x.at_ + 2 + x.refs.length + x.nums.length
     ·exfalso;have:=s1 (b + 2 + j - x.at_) (by omega) (by omega) (by omega);have e1:=this.1;subst e1;omega
     ·omega
   ·rw[k3 y y0 hy];have hne:y / 16≠x.at_ / 16:=λc=>by rw[c,hh] at hy;cases hy
    rw[w3v y y0 (by omega),if_neg (by omega),if_neg (by omega)]
   ·rw[k4 r r0,DS (by omega) (by omega) r0];by_cases c:r = x.at_ / 16
    ·subst c;rw[if_pos rfl,if_pos (show CB s.AO (x.at_ / 16) = true∧∃y∈x :: l,y.at_ / 16 = x.at_ / 16 from ⟨hh,x,aN,rfl⟩)];split<;>rfl
    ·rw[if_neg c];by_cases d:CB s.AO r = true∧∃y∈l,y.at_ / 16 = r
     ·rw[if_pos d,if_pos ⟨d.1,by obtain⟨y,hy,hr⟩:=d.2;exact⟨y,by simp[hy],hr⟩⟩]
     ·rw[if_neg d,if_neg (by
       rintro⟨d1,y,hy,hr⟩
       rcases Yw.1 hy with hy | hy
       ·subst hy;exact c hr.symm
       ·exact d ⟨d1,y,hy,hr⟩)]
  ·rw[if_neg hh];obtain⟨w',t',e,hl,htl,k1,k2,k3,k4⟩:=ih w t hxl hw ht;refine⟨w',t',e,hl,htl,λb hb hbh h=>k1 b hb hbh ?_,k2,k3,λr r0=>?_⟩
   ·rcases h with h | h
    ·rcases Yw.1 h with h | h
     ·exfalso;have:b = x.at_:=by rw[← h];rfl
      subst this;exact hh hbh
     ·exact .inl h
    ·exact .inr h
   ·rw[k4 r r0];by_cases d:CB s.AO r = true∧∃y∈l,y.at_ / 16 = r
    ·rw[if_pos d,if_pos ⟨d.1,by obtain⟨y,hy,hr⟩:=d.2;exact⟨y,by simp[hy],hr⟩⟩]
    ·rw[if_neg d,if_neg (by
      rintro⟨d1,y,hy,hr⟩
      rcases Yw.1 hy with hy | hy
      ·subst hy;rw[hr] at hh;exact hh d1
      ·exact d ⟨d1,y,hy,hr⟩)]
end
end Sm
end
section
namespace Sm
variable {P:List (List Op)}
structure NY (f:Int→Shp) (t:List Rg) (B:Int→Prop):Prop where
 ok:TOk t
 at_:∀a,B a→16≤a∧a + AF (f a)≤(rv t (a / 16)).top∧BG (f a) = true
 nx:∀a,B a→a + AF (f a) = (rv t (a / 16)).top∨B (a + AF (f a))
 bs:∀r:Int,1≤r→r < t.length→(rv t r).top = 16 * r∨B (16 * r)
 dj:∀a b,B a→B b→a < b→a + AF (f a)≤b
theorem FA {s:Shp} (h:BG s = true):2≤AF s∧AF s≤10∧AF s = 2 + s.refs + s.nums∧0≤s.refs∧0≤s.nums:=by
 have hb:=h;simp only[BG,z_b,z_d] at hb;rw[KX (by omega)];omega
theorem NY.inn {f:Int→Shp} {t:List Rg} {B:Int→Prop} (G:NY f t B) {a:Int} (h:B a):16≤a∧1≤a / 16∧a / 16 < t.length∧a + AF (f a)≤(rv t (a / 16)).top∧(rv t (a / 16)).top≤16 * (a / 16) + 16∧2≤AF (f a)∧AF (f a)≤10∧a + AF (f a)≤16 * t.length:=by
 obtain⟨h1,h2,h3⟩:=G.at_ a h;have hs:=FA h3;by_cases c:a / 16 < t.length
 ·have:=(G.ok.row (a / 16) (by omega) c).t1;exact⟨h1,by omega,c,h2,this,by omega,by omega,by omega⟩
 ·rw[DH (by omega) (by omega)] at h2;simp only[DY] at h2;omega
theorem NY.add {f:Int→Shp} {t:List Rg} {B:Int→Prop} (G:NY f t B) {r d:Int} {sh:Shp} (r0:1≤r) (r1:r < t.length) (hd:(rv t r).top = d) (ho:(rv t r).AT = -1) (hs:BG sh = true) (fit:d + AF sh≤16 * r + 16) :
  NY (λx=>if x = d then sh else f x) (AW t r { rv t r with kind:=3,top:=d + AF sh,Az:=d + AF sh }) (λb=>B b∨b = d)∧¬ B d∧d / 16 = r:=by
 have R:=G.ok.row r r0 r1;have t0:=R.t0;have n:=FA hs;have ed:d / 16 = r:=by omega
 have nb:∀b,B b→b / 16 = r→b + AF (f b)≤d:=λb hb hr=>by
  have:=(G.at_ b hb).2.1;rw[hr,hd] at this;exact this
 have nd:¬ B d:=λh=>by
  have h1:=nb d h ed;have h2:=FA (G.at_ d h).2.2;omega
 have fb:∀b,B b→(if b = d then sh else f b) = f b:=λb hb=>if_neg (show ¬ b = d from λc=>nd (c▸hb))
 have e:∀q,0≤q→(rv (AW t r { rv t r with kind:=3,top:=d + AF sh,Az:=d + AF sh }) q).top = if q = r then d + AF sh else (rv t q).top:=λq q0=>by
  rw[DS (by omega) r1 q0];split
  ·rfl
  ·rfl
 refine⟨⟨?_,?_,?_,?_,?_⟩,nd,ed⟩
 ·refine TOk.set G.ok r0 r1 ⟨by simp,by simp,?_,fit,?_,ZM _,R.l0,?_,λh=>by simp at h,by simp[ho],R.o0,R.o1⟩ λs _ _ _ h=>by simp[ho] at h
  ·show 16 * r≤d + AF sh;omega
  ·show 16 * r≤d + AF sh;omega
  ·have:=R.l1;show (rv t r).AQ≤d + AF sh - 16 * r;omega
 ·rintro b (hb | hb)
  ·obtain⟨a1,a2,a3⟩:=G.at_ b hb;simp only[fb b hb];refine⟨a1,?_,a3⟩;rw[e _ (by omega)];split
   ·have:=nb b hb (by assumption);omega
   ·exact a2
  ·subst hb;simp only[if_true];refine⟨by omega,?_,hs⟩;rw[e _ (by omega),if_pos ed];omega
 ·rintro b (hb | hb)
  ·have a1:=(G.at_ b hb).1;simp only[fb b hb];rw[e _ (by omega)];rcases G.nx b hb with c | c
   ·split
    ·rename_i c2;rw[c2,hd] at c;exact .inr (.inr c)
    ·exact .inl c
   ·exact .inr (.inl c)
  ·subst hb;left;simp only[if_true];rw[e _ (by omega),if_pos ed]
 ·intro q q0 q1;simp only[Cq] at q1;rw[e q (by omega)];rcases G.bs q q0 q1 with c | c
  ·split
   ·rename_i c2;subst c2;right;right;omega
   ·exact .inl c
  ·exact .inr (.inl c)
 ·rintro a b (ha | ha) (hb | hb) hab
  ·simp only[fb a ha];exact G.dj a b ha hb hab
  ·subst hb;simp only[fb a ha];by_cases c:a / 16 = r
   ·exact nb a ha c
   ·have:=G.inn ha;omega
  ·subst ha;simp only[if_true];by_cases c:b / 16 = r
   ·have h1:=nb b hb c;have h2:=FA (G.at_ b hb).2.2;omega
   ·omega
  ·omega
theorem QC {AO:List Int} {t:List Rg} {size R:Int} (T:TOk t) (s0:2≤size) (s1:size≤10) (hR:CB AO R = false) (R1:R < t.length) (fit:(rv t R).top + size≤16 * R + 16):∀(n:Nat) (r:Int),1≤r→r≤R→R - r < n→
  ∃r',Gy AO t size n r = some r'∧r≤r'∧r'≤R∧CB AO r' = false∧(rv t r').top + size≤16 * r' + 16:=by
 have n1:=T.n1;intro n;induction n with
 | zero=>intro r _ _ h;omega
 | succ n ih=>
  intro r r0 r1 hn;unfold Gy;have RR:=T.row r r0 (by omega);have t0:=RR.t0;have t1:=RR.t1;by_cases hh:CB AO r = true
  ·rw[if_pos hh];have:r≠R:=λc=>by rw[c,hR] at hh;cases hh
   obtain⟨r',e,h1,h2,h3⟩:=ih (r + 1) (by omega) (by omega) (by omega);exact⟨r',e,by omega,h2,h3⟩
  ·rw[if_neg hh,Cj (by omega) (by omega)];simp only[Yo,z_o];rw[BR (by omega) (by omega),Cx (by omega) (by omega)];simp only[z_o];by_cases c:16 * r + 16 < (rv t r).top + size
   ·rw[if_pos c];have:r≠R:=λc2=>by rw[c2] at c;omega
    obtain⟨r',e,h1,h2,h3⟩:=ih (r + 1) (by omega) (by omega) (by omega);exact⟨r',e,by omega,h2,h3⟩
   ·rw[if_neg c];exact⟨r,rfl,ZM r,r1,by simpa using hh,by omega⟩
theorem QB {AO:List Int} {l:List AZ} {W:List Int} {T0:List Rg} {B0:Int→Prop} (T:Thn W B0 l) (G0:Geo W T0 B0):∀(la:List Int) (t:List Rg) (r:Int) (to:List Int) (f:Int→Shp) (B:Int→Prop),
  (∀a∈la,B0 a)→la.Pairwise (· < ·)→NY f t B→t.length = T0.length→1≤r→(∀q:Int,1≤q→q < t.length→(rv t q).AT = -1)→(∀q:Int,0≤q→(rv t q).kind≠4)→(∀q:Int,r < q→q < t.length→CB AO q = false→(rv t q).top = 16 * q)→
  (∀a∈la,CB AO (a / 16) = false→r≤a / 16∧(r = a / 16→(rv t r).top≤a))→(∀a∈la,CB AO (a / 16) = true→B a∧f a = shp W a)→
  ∃t' to' f' B',slide AO l la t r to = some (t',to ++ to')∧to'.length = la.length∧NY f' t' B'∧t'.length = t.length∧(∀q:Int,0≤q→(rv t' q).kind≠4)∧(∀b,B b→B' b∧f' b = f b)∧(∀b,B' b→B b∨(b∈to'∧CB AO (b / 16) = false))∧
   (∀p∈la.zip to',B' p.2∧f' p.2 = shp W p.1∧(CB AO (p.1 / 16) = true→p.2 = p.1)):=by
 intro la;induction la with
 | nil=>
  intro t r to f B _ _ G _ _ _ nf _ _ _;exact⟨t,[],f,B,by simp[slide],rfl,G,rfl,nf,λb h=>⟨h,rfl⟩,λb h=>.inl h,λp h=>(by simp at h)⟩
 | cons a la ih=>
  intro t r to f B hB hpw G hl r0 ho nf h1 h3 h4;rw[List.pairwise_cons] at hpw;have hBa:=hB a (by simp);obtain⟨g1,g2,g3,g4,g5,g6,g7,g8⟩:=G0.inn hBa;have n1:=G.ok.n1;unfold slide;rw[T.find hBa];simp only[Yo,z_o];have es:AF (thg W a).sh = sz W a:=rfl;rw[es,Ck (by omega)];cases hh:CB AO (a / 16) with
  | true=>
   rw[if_pos rfl];obtain⟨hb,hf⟩:=h4 a (by simp) hh;obtain⟨t',to',f',B',e,k1,k2,k3,k4,k5,k6,k7⟩:=ih t r (to ++ [a]) f B (λb hb=>hB b (by simp[hb])) hpw.2 G hl r0 ho nf h1 (λb hb=>h3 b (by simp[hb])) (λb hb=>h4 b (by simp[hb]));refine⟨t',a :: to',f',B',by rw[e];simp,by simp[k1],k2,k3,k4,k5,λb hb=>?_,λp hp=>?_⟩
   ·rcases k6 b hb with h | h
    ·exact .inl h
    ·exact .inr ⟨by simp[h.1],h.2⟩
   ·rw[List.zip_cons_cons] at hp;rcases Yw.1 hp with hp | hp
    ·subst hp;exact⟨(k5 a hb).1,by rw[(k5 a hb).2,hf],λ_=>rfl⟩
    ·exact k7 p hp
  | false=>
   rw[if_neg (by decide)];obtain⟨q1,q2⟩:=h3 a (by simp) hh;have fitR:(rv t (a / 16)).top + sz W a≤16 * (a / 16) + 16:=by
    by_cases c:r = a / 16
    ·have:=q2 c;rw[← c];rw[← c] at g4 g5;omega
    ·have:=h1 (a / 16) (by omega) (by omega) hh;omega
   obtain⟨r',e1,p1,p2,p3,p4⟩:=QC (size:=sz W a) G.ok (by omega) (by omega) hh (by omega) fitR (t.length + 2) r r0 q1 (by omega);rw[e1];simp only[z_o];have R:=G.ok.row r' (by omega) (by omega);have t0:=R.t0;rw[Cj (by omega) (by omega)];simp only[z_o];rw[BR (by omega) (by omega)];simp only[z_o];have hsz:AF (shp W a) = sz W a:=rfl;obtain⟨G2,nd,ed⟩:=G.add (r:=r') (sh:=shp W a) (by omega) (by omega) rfl (ho r' (by omega) (by omega)) (UM W a) (by rw[hsz];exact p4);rw[hsz] at G2;have tle:(rv t r').top≤a∨r' < a / 16:=by
    by_cases c:r' = a / 16
    ·left;by_cases c2:r = r'
     ·subst c2;exact q2 c
     ·have:=h1 r' (by omega) (by omega) p3;omega
    ·right;omega
   have et:∀q,0≤q→rv (AW t r' { rv t r' with kind:=3,top:=(rv t r').top + sz W a,Az:=(rv t r').top + sz W a }) q = if q = r' then { rv t r' with kind:=3,top:=(rv t r').top + sz W a,Az:=(rv t r').top + sz W a } else rv t q:=λq q0=>DS (by omega) (by omega) q0
   obtain⟨t',to',f',B',e,k1,k2,k3,k4,k5,k6,k7⟩:=ih _ r' (to ++ [(rv t r').top]) _ _ (λb hb=>hB b (by simp[hb])) hpw.2 G2 (by simpa using hl) (by omega) (λq q0 q1=>by
     rw[et q (by omega)];split
     ·exact ho r' (by omega) (by omega)
     ·exact ho q q0 (by simpa using q1)) (λq q0=>by
     rw[et q q0];split
     ·simp
     ·exact nf q q0) (λq q0 q1 hq=>by
     rw[et q (by omega),if_neg (by omega)]
     exact h1 q (by omega) (by simpa using q1) hq) (λb hb hbh=>by
     have hBb:=hB b (by simp[hb])
     have hab:=hpw.1 b hb
     have hdj:=G0.dj a b hBa hBb hab
     refine⟨by omega,λhr=>?_⟩
     rw[et r' (by omega),if_pos rfl]
     show (rv t r').top + sz W a≤b
     rcases tle with h | h
     ·omega
     ·omega) (λb hb hbh=>by
     obtain⟨c1,c2⟩:=h4 b (by simp[hb]) hbh
     refine⟨.inl c1,?_⟩
     have:b≠(rv t r').top:=λc=>nd (c▸c1)
     simp only[if_neg this];exact c2)
   refine⟨t',(rv t r').top :: to',f',B',by rw[e];simp,by simp[k1],k2,by rw[k3];simp,k4,λb hb=>?_,λb hb=>?_,λp hp=>?_⟩
   ·obtain⟨c1,c2⟩:=k5 b (.inl hb);refine⟨c1,?_⟩;have:b≠(rv t r').top:=λc=>nd (c▸hb)
    rw[c2];simp only[if_neg this]
   ·rcases k6 b hb with (h | h) | h
    ·exact .inl h
    ·exact .inr ⟨by simp[h],by rw[h,ed];exact p3⟩
    ·exact .inr ⟨by simp[h.1],h.2⟩
   ·rw[List.zip_cons_cons] at hp;rcases Yw.1 hp with hp | hp
    ·subst hp;obtain⟨c1,c2⟩:=k5 (rv t r').top (.inr rfl);refine⟨c1,by rw[c2];simp,λh=>by rw[hh] at h;cases h⟩
    ·exact k7 p hp
theorem EF {l:List Int} {n:Int}:(n∈l→0≤Bi l n∧Bi l n < l.length)∧(n ∉ l→Bi l n = -1):=by
 unfold Bi;constructor
 ·intro h;rw[if_pos h];have:=List.idxOf_lt_length_of_mem h;omega
 ·intro h;rw[if_neg h]
theorem RA {l:List AZ} {AQ to:List Int} (hlen:to.length = AQ.length):∀(vs w:List Int) (a:Int),(∀v∈vs,∃u,now l v = some u)→0≤a→a + vs.length≤w.length→
  ∃w',Gu l AQ to w a vs = some w'∧w'.length = w.length∧(∀x,0≤x→(x < a∨a + vs.length≤x)→wv w' x = wv w x)∧(∀x,a≤x→x < a + vs.length→wv w' x = wv w x∨wv w' x∈to):=by
 intro vs;induction vs with
 | nil=>intro w a _ _ _;exact⟨w,rfl,rfl,λ_ _ _=>rfl,λx h h'=>by simp at h';omega⟩
 | cons v r ih=>
  intro w a hv h0 h1;simp only[Z8] at h1;obtain⟨u,hu⟩:=hv v (by simp);unfold Gu;rw[hu];simp only[Yo,z_o];have step:∀w1:List Int,w1.length = w.length→(∀x,0≤x→x≠a→wv w1 x = wv w x)→(wv w1 a = wv w a∨wv w1 a∈to)→∃w',Gu l AQ to w1 (a + 1) r = some w'∧w'.length = w.length∧(∀x,0≤x→(x < a∨a + (v :: r).length≤x)→wv w' x = wv w x)∧(∀x,a≤x→x < a + (v :: r).length→wv w' x = wv w x∨wv w' x∈to):=λw1 hl1 e1 e2=>by
   obtain⟨w',e,hl,k1,k2⟩:=ih w1 (a + 1) (λu hu=>hv u (by simp[hu])) (by omega) (by omega);refine⟨w',e,by omega,λx x0 hx=>?_,λx x0 hx=>?_⟩
   ·simp only[Z8] at hx;rw[k1 x x0 (by omega),e1 x x0 (by omega)]
   ·simp only[Z8] at hx;by_cases c:x = a
    ·subst c;rw[k1 x h0 (by omega)];exact e2
    ·rcases k2 x (by omega) (by omega) with h | h
     ·left;rw[h,e1 x (by omega) c]
     ·exact .inr h
  by_cases c:0≤Bi AQ u
  ·rw[if_pos c];have hm:u∈AQ:=Classical.byContradiction λh=>by have:=EF.2 h;omega
   have hp:=(EF (l:=AQ)).1 hm;obtain⟨d,hd,hdm⟩:=FJ (l:=to) (i:=Bi AQ u) ⟨hp.1,by rw[hlen];exact hp.2⟩;rw[hd];simp only[z_o];rw[N4 h0 (by omega)];simp only[z_o];refine step _ (by simp) (λx x0 hx=>by rw[DK h0 (by omega) x0,if_neg hx]) (.inr ?_);rw[DK h0 (by omega) h0,if_pos rfl];exact hdm
  ·rw[if_neg c];simp only[z_o];exact step w rfl (λ_ _ _=>rfl) (.inl rfl)
end Sm
end
section
namespace Sm
variable {P:List (List Op)}
theorem QD {l:List AZ} {AQ to W:List Int} {T0 t' : List Rg} {B0 B' : Int→Prop} {f:Int→Shp} (T:Thn W B0 l) (G0:Geo W T0 B0) (G:NY f t' B') (hlen:to.length = AQ.length):∀(la ld w:List Int),la.length = ld.length→
  (∀p∈la.zip ld,B' p.2∧f p.2 = shp W p.1∧B0 p.1∧∀v∈(thg W p.1).refs,∃u,now l v = some u)→(w.length:Int) = 16 * t'.length→(∀b j,B' b→0≤j→j < (f b).refs→wv w (b + 2 + j) = 0∨wv w (b + 2 + j)∈to)→
  ∃w',GE l AQ to la ld w = some w'∧w'.length = w.length∧(∀b j,B' b→0≤j→j < (f b).refs→wv w' (b + 2 + j) = 0∨wv w' (b + 2 + j)∈to)∧(∀b,B' b→Hd w W f b→Hd w' W f b)∧(∀d∈ld,Hd w' W f d):=by
 intro la;induction la with
 | nil=>
  intro ld w hl _ _ rf;cases ld with
  | nil=>exact⟨w,rfl,rfl,rf,λ_ _ h=>h,λd h=>(by cases h)⟩
  | cons _ _=>simp at hl
 | cons a la ih=>
  intro ld w hl hp wl rf;cases ld with
  | nil=>simp at hl
  | cons d ld=>
   rw[List.zip_cons_cons] at hp;obtain⟨hB,hf,hB0,hv⟩:=hp (a,d) (by simp);simp only at hB hf hB0 hv;obtain⟨g1,g2,g3,g4,g5,g6,g7,g8⟩:=G.inn hB;have o1:=FA (G.at_ d hB).2.2;have i0:=G0.inn hB0;have sb:=Em W a;have hrl:(((thg W a).refs.length:Nat):Int) = (f d).refs:=by
    rw[hf];exact KR (by omega) (by omega) (by omega)
   have hnl:(((thg W a).nums.length:Nat):Int) = (f d).nums:=by
    rw[hf];exact KR (by omega) (by omega) (by omega)
   unfold GE;rw[T.find hB0];simp only[Yo,z_o];rw[N4 (by omega) (by omega)];simp only[z_o];rw[N4 (by omega) (by simp;omega)];simp only[z_o];have esh:(thg W a).sh = f d:=by rw[hf];rfl
   rw[esh];obtain⟨w3,e3,l3,k3,m3⟩:=RA (l:=l) (AQ:=AQ) hlen (thg W a).refs (AW (AW w d d) (d + 1) (Am (f d))) (d + 2) hv (by omega) (by simp;omega);rw[e3];simp only[z_o];simp only[Cq] at l3;obtain⟨w4,e4,l4,k4⟩:=P3 (thg W a).nums w3 (d + 2 + (thg W a).refs.length) (by omega) (by omega);rw[e4];simp only[z_o];have v2:∀x,0≤x→wv (AW (AW w d d) (d + 1) (Am (f d))) x = if x = d + 1 then Am (f d) else if x = d then d else wv w x:=λx x0=>by
    rw[DK (by omega) (by simp;omega) x0];split
    ·rfl
    ·rw[DK (by omega) (by omega) x0]
   have out:∀x,0≤x→(x < d∨d + AF (f d)≤x)→wv w4 x = wv w x:=λx x0 hx=>by
    rw[k4 x x0 (by omega),k3 x x0 (by omega),v2 x x0,if_neg (by omega),if_neg (by omega)]
   have hd:Hd w4 W f d:=by
    refine⟨?_,?_⟩
    ·rw[k4 d (by omega) (by omega),k3 d (by omega) (by omega),v2 d (by omega),if_neg (by omega),if_pos rfl]
    ·rw[k4 _ (by omega) (by omega),k3 _ (by omega) (by omega),v2 _ (by omega),if_pos rfl]
   have apart:∀b k,B' b→b≠d→0≤k→k < AF (f b)→b + k < d∨d + AF (f d)≤b + k:=λb k hb hne k0 k1=>by
    rcases Int.lt_trichotomy b d with h | h | h
    ·have:=G.dj b d hb hB h;omega
    ·exact absurd h hne
    ·have:=G.dj d b hB hb h;omega
   have rf4:∀b j,B' b→0≤j→j < (f b).refs→wv w4 (b + 2 + j) = 0∨wv w4 (b + 2 + j)∈to:=λb j hb j0 j1=>by
    have gb:=G.inn hb;have ob:=FA (G.at_ b hb).2.2;by_cases c:b = d
    ·subst c;rw[k4 _ (by omega) (by omega)];rcases m3 (b + 2 + j) (by omega) (by omega) with h | h
     ·rw[h,v2 _ (by omega),if_neg (by omega),if_neg (by omega)];exact rf b j hb j0 j1
     ·exact .inr h
    ·have:=apart b (2 + j) hb c (by omega) (by omega);rw[out _ (by omega) (by omega)];exact rf b j hb j0 j1
   obtain⟨w',e,hl',q1,q2,q3⟩:=ih ld w4 (by simpa using hl) (λp hp'=>hp p (by simp[hp'])) (by omega) rf4;refine⟨w',e,by omega,q1,λb hb h=>q2 b hb ?_,λb hb=>?_⟩
   ·by_cases c:b = d
    ·subst c;exact hd
    ·have gb:=G.inn hb;have a0:=apart b 0 hb c (by omega) (by omega);have a1:=apart b 1 hb c (by omega) (by omega);refine⟨?_,?_⟩
     ·rw[out b (by omega) (by omega)];exact h.1
     ·rw[out _ (by omega) (by omega)];exact h.2
   ·rcases Yw.1 hb with h | h
    ·subst h;exact q2 b hB hd
    ·exact q3 b h
theorem Mv {l:List AZ} {AQ to:List Int} (hlen:to.length = AQ.length):∀(xs:List Int),(∀a∈xs,∃u,now l a = some u)→∃ys,DA l AQ to xs = some ys∧ys.length = xs.length∧∀y∈ys,y = 0∨y∈to:=by
 intro xs;induction xs with
 | nil=>intro _;exact⟨[],rfl,rfl,λy h=>(by cases h)⟩
 | cons a r ih=>
  intro h;obtain⟨u,hu⟩:=h a (by simp);obtain⟨ys,e,hl,hm⟩:=ih λb hb=>h b (by simp[hb])
  unfold DA;rw[hu,e];simp only[Yo,z_o];by_cases c:Bi AQ u < 0
  ·rw[if_pos c];refine⟨_,rfl,by simp[hl],λy hy=>?_⟩;rcases Yw.1 hy with hy | hy
   ·exact .inl hy
   ·exact hm y hy
  ·rw[if_neg c];have hmem:u∈AQ:=Classical.byContradiction λh=>by have:=EF.2 h;omega
   have hp:=(EF (l:=AQ)).1 hmem;obtain⟨d,hd,hdm⟩:=FJ (l:=to) (i:=Bi AQ u) ⟨hp.1,by rw[hlen];exact hp.2⟩;rw[hd];refine⟨_,rfl,by simp[hl],λy hy=>?_⟩;rcases Yw.1 hy with hy | hy
   ·subst hy;exact .inr hdm
   ·exact hm y hy
theorem Pw {l:List AZ} {AQ to:List Int} (hlen:to.length = AQ.length):∀(ts:List Th),(∀t∈ts,∀a∈t.AD,∃u,now l a = some u)→∃ys,Da l AQ to ts = some ys∧ys.length = ts.length∧∀y∈ys,∃t∈ts,y.next = t.next∧y.AD.length = t.AD.length∧∀a∈y.AD,a = 0∨a∈to:=by
 intro ts;induction ts with
 | nil=>intro _;exact⟨[],rfl,rfl,λy h=>(by cases h)⟩
 | cons t r ih=>
  intro h;obtain⟨rs,e1,l1,m1⟩:=Mv (l:=l) hlen t.AD (h t (by simp));obtain⟨ys,e,hl,hm⟩:=ih λb hb=>h b (by simp[hb])
  unfold Da;rw[e1,e];simp only[Yo,z_o];refine⟨_,rfl,by simp[hl],λy hy=>?_⟩;rcases Yw.1 hy with hy | hy
  ·subst hy;exact⟨t,by simp,rfl,l1,m1⟩
  ·obtain⟨u,hu,h2⟩:=hm y hy;exact⟨u,by simp[hu],h2⟩
theorem H8 {n:Int} (h0:2≤n) (h1:n≤12):((AU n).length:Int) = n∧rv (AU n) 0 = DY∧∀r:Int,1≤r→r < n→rv (AU n) r = DR r:=by
 unfold AU;rw[if_neg (by omega)];refine⟨by simp;omega,rfl,λr r0 r1=>?_⟩;obtain⟨k,rfl⟩:∃k:Nat,r = ((k + 1:Nat):Int):=⟨r.toNat - 1,by omega⟩;rw[rv,FH (by simp;omega)];simp
theorem Vt {α β:Type} {la:List α} {lb:List β} (h:la.length = lb.length) {b:β} (hb:b∈lb):∃a,(a,b)∈la.zip lb:=by
 obtain⟨i,hi,rfl⟩:=ZH hb;exact⟨la[i],by rw[List.mem_iff_getElem];exact⟨i,by simp;omega,by simp⟩⟩
theorem Vu {α β:Type} {la:List α} {lb:List β} (h:la.length = lb.length) {a:α} (ha:a∈la):∃b,(a,b)∈la.zip lb:=by
 obtain⟨i,hi,rfl⟩:=ZH ha;exact⟨lb[i],by rw[List.mem_iff_getElem];exact⟨i,by simp;omega,by simp⟩⟩
def Sim.fulled (S:Sim) (s:B7):Sim:=
 { S with AB:=s.AB,A0:=s.A0,AR:=s.AR,Aa:=s.Aa,stop:=s.stop,full:=s.full,old:=s.old,AO:=s.AO,B8:=s.B8,Bf:=s.Bf,col:=CR s.Ag 0,th:=s.AA.map λt=>thr0 t.AD t.next t.Au }
section
variable {c:Nat} {S:Sim} {g:Gh}
theorem VS (hc:c < 900000) (I:IG P S g) (B:Bd c S) (hcm:S.calm = true):∃s g',HA S.view = some s∧IG P (S.fulled s) g'∧Bd (c + 1) (S.fulled s):=by
 have st:=I.still hcm;have H:=I.sh;have G:Geo S.AB S.A0 g.B:=H.g;have To:=G.ok;have n0:=To.n0;have n1:=To.n1;have len:=G.len;obtain⟨l,e1,T⟩:=Sc (s:=S.view) G;have T:Thn S.AB g.B l:=T;have hLn:∀a,g.L a→g.L (wv S.AB a)∧wv S.AB (wv S.AB a) = wv S.AB a:=λa ha=>by
  by_cases h:wv S.AB a = a
  ·rw[h];exact⟨ha,h⟩
  ·have hf:BT S.A0 a:=Classical.byContradiction λhn=>h (H.st a (H.lb a ha) hn)
   obtain⟨f1,f2,_⟩:g.L (wv S.AB a)∧¬ BT S.A0 (wv S.AB a)∧_:=H.fw a (H.lb a ha) hf h;exact⟨f1,H.st _ (H.lb _ f1) f2⟩
 have b16:∀a,g.B a→16≤a:=λa h=>(G.at_ a h).1
 have pinW:∀a∈S.AO,g.L a∧wv S.AB a = a:=λa h=>⟨(H.pl a h).1,H.st a (H.lb a (H.pl a h).1) (H.pl a h).2⟩
 have thv:∀t∈S.view.AA,∀a∈t.AD,a≠0→g.L a:=λt h a ha h0=>by
  obtain⟨u,hu,rfl⟩:=ZU.1 (show t∈S.th.map λt=>(⟨t.AD,t.next,t.pc != 0,t.Au⟩:Th) from h);exact (st u hu).rt a ha h0
 obtain⟨out,e2,C,cl,rt,pn⟩:=Qr (s:=S.view) T H.lb b16 hLn H.rf thv pinW;obtain⟨sp,sm⟩:=De C.nd;have hlive:∀a∈Ak out,g.L a∧wv S.AB a = a:=λa h=>C.cu a ((sm a).1 h)
 obtain⟨tn0,tn1,tn2⟩:=H8 (n:=S.A0.length) (by omega) (by omega);have nowS:∀v,(v≠0→g.L v)→∃u,now l v = some u:=λv h=>⟨_,T.now λh0=>H.lb v (h h0)⟩
 obtain⟨w1,t1,e3,l1,tl1,s1,s2,s3,s4⟩:=SY (s:=S.view) (B0:=g.B) G l (List.replicate S.AB.length 0) (AU S.A0.length) T.all (by simp[Sim.view]) (by show (AU S.A0.length).length = S.A0.length;omega);have l1:w1.length = S.AB.length:=l1;have tl1:t1.length = S.A0.length:=tl1;have z0:∀x,wv (List.replicate S.AB.length 0) x = 0:=λx=>by
  unfold wv gv;rw[Z5,List.getElem?_replicate];split<;>rfl
 have t1r:∀r:Int,1≤r→r < S.A0.length→(rv t1 r = ⟨3,-1,(rv S.A0 r).top,(rv S.A0 r).top,0⟩∧CB S.AO r = true∧∃x,g.B x∧x / 16 = r)∨(rv t1 r = ⟨1,-1,16 * r,16 * r,0⟩∧(CB S.AO r = true→∀x,g.B x→x / 16≠r)):=λr r0 r1=>by
  rw[s4 r (by omega)];by_cases h:CB S.view.AO r = true∧∃x∈l,x.at_ / 16 = r
  ·left;rw[if_pos h];obtain⟨h1,x,hx,hr⟩:=h;exact⟨rfl,h1,x.at_,(T.all x hx).1,hr⟩
  ·right;rw[if_neg h,tn2 r r0 r1,(DL r0 (by omega)).2];exact⟨rfl,λh1 x hx hr=>h ⟨h1,thg S.AB x,T.has x hx,hr⟩⟩
 have To1:TOk t1:=by
  refine⟨by omega,by omega,?_,λr r0 r1=>?_,λr q r0 r1 q0 q1 ho _=>?_⟩
  ·rw[s4 0 (by omega),if_neg,tn1];rintro⟨_,x,hx,h⟩;have:=b16 _ (T.all x hx).1;omega
  ·have R:=To.row r r0 (by omega);rcases t1r r r0 (by omega) with ⟨h,_⟩ | ⟨h,_⟩
   ·rw[h];exact⟨by simp,by simp,R.t0,R.t1,R.t0,ZM _,ZM 0,by show 0≤(rv S.A0 r).top - 16 * r;have:=R.t0;omega,λh=>by simp at h,by simp,by simp,by simp⟩
   ·rw[h];exact⟨by simp,by simp,ZM _,by show 16 * r≤16 * r + 16;omega,ZM _,ZM _,ZM 0,by show 0≤16 * r - 16 * r;omega,λ_=>rfl,by simp,by simp,by simp⟩
  ·rcases t1r r r0 (by omega) with ⟨h,_⟩ | ⟨h,_⟩<;>rw[h] at ho<;>simp at ho
 have kept:∀b,(g.B b∧CB S.AO (b / 16) = true)→(rv t1 (b / 16)).top = (rv S.A0 (b / 16)).top:=λb hb=>by
  have i:=G.inn hb.1;rcases t1r (b / 16) i.2.1 i.2.2.1 with ⟨h,_⟩ | ⟨_,h⟩
  ·rw[h]
  ·exact absurd rfl (h hb.2 b hb.1)
 have G1:NY (shp S.AB) t1 (λb=>g.B b∧CB S.AO (b / 16) = true):=by
  refine⟨To1,λa ha=>?_,λa ha=>?_,λr r0 r1=>?_,λa b ha hb h=>G.dj a b ha.1 hb.1 h⟩
  ·rw[kept a ha];obtain⟨h1,h2,_⟩:=G.at_ a ha.1;exact⟨h1,h2,UM S.AB a⟩
  ·rw[kept a ha];have i:=G.inn ha.1;have es:AF (shp S.AB a) = sz S.AB a:=rfl;rw[es];by_cases h0:a + sz S.AB a = (rv S.A0 (a / 16)).top
   ·exact .inl h0
   ·right;rcases G.nx a ha.1 with h | h
    ·exact absurd h h0
    ·exact⟨h,by rw[show (a + sz S.AB a) / 16 = a / 16 from by omega];exact ha.2⟩
  ·rcases t1r r r0 (by omega) with ⟨h,h2,_⟩ | ⟨h,_⟩
   ·rw[h];rcases G.bs r r0 (by omega) with h3 | h3
    ·exact .inl h3
    ·exact .inr ⟨h3,by rw[show 16 * r / 16 = r from by omega];exact h2⟩
   ·rw[h];exact .inl rfl
 have t1f:∀q:Int,1≤q→q < S.A0.length→CB S.AO q = false→(rv t1 q).top = 16 * q:=λq q0 q1 hq=>by
  rcases t1r q q0 q1 with ⟨_,h,_⟩ | ⟨h,_⟩
  ·rw[hq] at h;cases h
  ·rw[h]
 obtain⟨t2,to,f,B',e4,k1,G2,k3,k4,k5,k6,k7⟩:=QB (AO:=S.AO) T G (Ak out) t1 1 [] (shp S.AB) _ (λa h=>H.lb a (hlive a h).1) sp G1 tl1 (ZM 1)
  (λq q0 q1=>by rcases t1r q q0 (by omega) with ⟨h,_⟩ | ⟨h,_⟩<;>rw[h])
  (λq q0=>by
   by_cases c1:q < S.A0.length
   ·by_cases c2:1≤q
    ·rcases t1r q c2 c1 with ⟨h,_⟩ | ⟨h,_⟩<;>rw[h]<;>simp
    ·rw[show q = 0 from by omega,To1.e];simp[DY]
   ·rw[DH q0 (by omega)];simp[DY])
  (λq q0 q1 hq=>t1f q (by omega) (by omega) hq)
  (λa ha hq=>by
   have i:=G.inn (H.lb a (hlive a ha).1)
   refine⟨i.2.1,λh1=>?_⟩
   rw[t1f 1 (by omega) (by omega) (by rw[h1];exact hq)];omega)
  (λa ha hq=>⟨⟨H.lb a (hlive a ha).1,hq⟩,rfl⟩)
 simp only[List.nil_append] at e4;have tl2:t2.length = S.A0.length:=by rw[k3,tl1]
 have bk:∀b,B' b→(g.B b∧CB S.AO (b / 16) = true∧f b = shp S.AB b)∨(b∈to∧CB S.AO (b / 16) = false):=λb hb=>by
  rcases k6 b hb with h | h
  ·exact .inl ⟨h.1,h.2,(k5 b h).2⟩
  ·exact .inr h
 have rf1:∀b j,B' b→0≤j→j < (f b).refs→wv w1 (b + 2 + j) = 0∨wv w1 (b + 2 + j)∈to:=λb j hb j0 j1=>by
  left;have i:=G2.inn hb;have ob:=FA (G2.at_ b hb).2.2;rcases bk b hb with ⟨h1,h2,h3⟩ | ⟨h1,h2⟩
  ·rw[h3] at j1;rw[s2 b j h1 j0 j1];exact z0 _
  ·rw[s3 (b + 2 + j) (by omega) (by rw[show (b + 2 + j) / 16 = b / 16 from by omega];exact h2)];exact z0 _
 obtain⟨w2,e5,l2,r2,h2,d2⟩:=QD (AQ:=Ak out) (to:=to) T G G2 k1 (Ak out) to w1 k1.symm (λp hp=>by
   obtain⟨q1,q2,_⟩:=k7 p hp
   have hm:p.1∈Ak out:=(List.of_mem_zip hp).1
   have hL:=(hlive p.1 hm).1
   have h16:=b16 _ (H.lb _ hL)
   refine⟨q1,q2,H.lb _ hL,λv hv=>nowS v λh0=>?_⟩
   obtain⟨j,j0,j1,hj⟩:=Ni (by omega) hv
   rw[← hj] at h0 ⊢
   exact H.rf p.1 j hL j0 j1 h0) (by omega) rf1
 have Hall:∀b,B' b→Hd w2 S.AB f b:=λb hb=>by
  rcases bk b hb with ⟨h1,h2',h3⟩ | ⟨h1,_⟩
  ·refine h2 b hb ?_;have:=s1 b h1 h2' (.inl (T.has b h1));exact⟨this.1,by rw[h3];exact this.2⟩
  ·exact d2 b h1
 have toB:∀d∈to,B' d:=λd hd=>by
  obtain⟨a,ha⟩:=Vt k1.symm hd;exact (k7 (a,d) ha).1
 obtain⟨ths,e6,l6,m6⟩:=Pw (l:=l) (AQ:=Ak out) (to:=to) k1 S.view.AA (λt ht a ha=>nowS a λh0=>thv t ht a ha h0);have hfu:Ch S.Bf 1 = some (S.Bf + 1):=BR (by have:=B.fu.1;omega) (by have:=B.fu.2;omega);have eW:∀b,B' b→shp w2 b = f b∧(AH (wv w2 (b + 1))).2 = true:=λb hb=>by
  have h:=(Hall b hb).2;have:=FB (G2.at_ b hb).2.2;unfold shp;rw[h,this];exact⟨rfl,rfl⟩
 have eZ:∀b,B' b→sz w2 b = AF (f b):=λb hb=>by unfold sz;rw[(eW b hb).1]
 have GF:Geo w2 t2 B':=⟨by rw[l2,l1,tl2];exact len,G2.ok,λa ha=>by
   obtain⟨h1,h2,_⟩:=G2.at_ a ha
   exact⟨h1,by rw[eZ a ha];exact h2,(eW a ha).2⟩,λa ha=>by rw[eZ a ha];exact G2.nx a ha,G2.bs,λa b ha hb h=>by rw[eZ a ha];exact G2.dj a b ha hb h⟩
 have nf:∀a,¬ BT t2 a:=λa hf=>k4 (a / 16) (by have:=hf.1;omega) hf.2
 have hfs:HA S.view = some ⟨w2,t2,List.replicate S.AB.length false,0,false,false,S.col.Ag,0,ths,[],S.AO,S.B8,S.Bf + 1⟩:=by
  unfold HA;rw[e1];simp only[Zx,Yo];rw[e2];simp only[z_o];rw[show S.view.AB = S.AB from rfl,show S.view.A0 = S.A0 from rfl,show S.view.AO = S.AO from rfl,show S.view.Bf = S.Bf from rfl];have e3' : stay S.view l (List.replicate S.AB.length 0) (AU S.A0.length) = some (w1,t1):=e3;rw[e3'];simp only[z_o];rw[e4];simp only[z_o];rw[e5];simp only[z_o];rw[e6];simp only[z_o];rw[hfu];simp only[z_o];rw[show w2.length = S.AB.length from l2.trans l1];rfl
 refine⟨_,⟨B',(·∈to),g.q,g.r0⟩,hfs,I.mk' (S':=S.fulled ⟨w2,t2,List.replicate S.AB.length false,0,false,false,S.col.Ag,0,ths,[],S.AO,S.B8,S.Bf + 1⟩) rfl ?_ ?_ (λt ht=>?_) (λh=>absurd (show (0:Int) = 1 from h) (by decide)) (λh=>absurd (show (0:Int) = 2 from h) (by decide)) (λh=>absurd (show (0:Int) = 3 from h) (by decide)) (λh=>by cases h),?_⟩
 ·show (ths.map _).length = _;rw[ZF,l6];simp[Sim.view]
 ·refine⟨GF,toB,λa j h j0 j1 hn=>?_,λa h _=>(Hall a h).1,λa _ hf=>absurd hf (nf a),?_,λa _ h=>?_,by show (0:Int)≤0∧(0:Int)≤3;decide,λ_ r r0=>k4 r r0,λh=>absurd (show (2:Int)≤0 from h) (by decide),λa h=>⟨?_,nf a⟩,λa _ hf=>absurd hf (nf a),λh=>absurd (show (1:Int)≤0 from h) (by decide),λh=>absurd (show (0:Int) = 3 from h) (by decide),λh=>absurd (show (0:Int) = 1 from h) (by decide)⟩
  ·have j1:j < (shp w2 a).refs:=j1;rw[(eW a (toB a h)).1] at j1;rcases r2 a j (toB a h) j0 j1 with h3 | h3
   ·exact absurd h3 hn
   ·exact h3
  ·show (List.replicate S.AB.length false).length = w2.length;rw[Z9,l2,l1]
  ·have h:mv (List.replicate S.AB.length false) a = true:=h;rw[Nv] at h;cases h
  ·have ha:a∈Ak out:=(sm a).2 (pn a h);obtain⟨d,hd⟩:=Vu k1.symm ha;have hheld:CB S.AO (a / 16) = true:=by
    unfold CB;rw[List.any_eq_true];exact⟨a,h,by rw[Ck (by have:=b16 a (H.lb a (pinW a h).1);omega)];simp⟩
   have:=(k7 (a,d) hd).2.2 hheld;simp only at this;subst this;exact (List.of_mem_zip hd).2
 ·obtain⟨y,hy,rfl⟩:=ZU.1 (show t∈ths.map λt=>thr0 t.AD t.next t.Au from ht);obtain⟨u,hu,q1,q2,q3⟩:=m6 y hy;obtain⟨v,hv,rfl⟩:=ZU.1 (show u∈S.th.map λt=>(⟨t.AD,t.next,t.pc != 0,t.Au⟩:Th) from hu);have s:=st v hv;refine⟨rfl,rfl,rfl,by show 0≤y.next;rw[q1];exact s.nx,by show y.AD.length≤8;rw[q2];exact s.rl,λa ha h0=>?_⟩;rcases q3 a ha with h | h
  ·exact absurd h h0
  ·exact h
 ·have h2:=Ke (List.replicate S.AB.length false);rw[Z9] at h2;have hwl:=I.wl;refine⟨by have:=B.ev;show S.ev.length≤c + 1;omega,Nat.zero_le _,by have:=B.cy;show 0≤S.B8∧S.B8≤((c + 1:Nat):Int);omega,by have:=B.fu;show 0≤S.Bf + 1∧S.Bf + 1≤((c + 1:Nat):Int);omega,?_,B.pn⟩;show ([]:List Int).length + ([]:List Int).length + 5 * (List.replicate S.AB.length false).countP (λb=>!b) + (if (0:Int) = 2 then _ else 0)≤3000 + (c + 1);rw[if_neg (by decide)];simp only[Zj];omega
end
end Sm
end
