/- A part of the proof of the given row. Conditions: none. -/
import Derived.Test.YthifcapakfcfnaaGreatAJ
set_option linter.unusedVariables false
set_option linter.unusedSimpArgs false
set_option maxRecDepth 100000
section
namespace Go.Lf
open Go Sm
set_option maxHeartbeats 4000000 in
theorem Nx {R:RM} {s s' : Sm.Ah} {wv tv mv thv ov pv:Value} (h:StC R s wv tv mv thv ov pv) (hw:s.A5.length≤1000) (ht0:2≤s.A0.length) (ht1:s.A0.length≤12) (hth:s.AB.length < 1000000) (hrl:∀t∈s.AB,t.AA.length < 1000000)
  (hpl:s.AI.length < 1000000) (hp:∀a∈s.AI,AQ a≤9223372036854775807) (hS:E9 s = some s') :
  Fn P FY [.agg (eSt s wv tv mv thv ov pv).toArray] R [] (λv R' A=>∃bw wsp cw bt tsp ct bm thv' pv' rows A',s'.A5.length = s.A5.length∧s'.A0.length = s.A0.length∧s'.AJ.length = s.A5.length∧s'.A5.length≤cw∧s'.A0.length≤ct∧Rw (DB R') rows s'.AB∧SW 83 4 rows thv' A'∧B9 R' pv' s'.AI∧
   A = (bw,C AZ (s'.A5.map I ++ wsp)) :: (bt,C AK (Aa eRg s'.A0 ++ tsp)) :: (bm,C Au (s'.AJ.map Value.bool)) :: A'∧
   v = .agg (eSt s' (S0 bw s'.A5.length cw) (S0 bt s'.A0.length ct) (S0 bm s'.AJ.length s'.AJ.length) thv' (SN) pv').toArray):=by
 refine Ma λF=>?_
 refine z_1 ?_;unfold E9 at hS;obtain⟨live0,hreach,hS⟩:=A7 hS;obtain⟨⟨w1,t1⟩,hstay,hS⟩:=A7 hS;obtain⟨⟨t2,to_⟩,hslide,hS⟩:=A7 hS;obtain⟨w2,hmove,hS⟩:=A7 hS;obtain⟨ths,hths,hS⟩:=A7 hS;obtain⟨Be,hful,hS⟩:=A7 hS;simp only[Tq] at hS;refine ja λb1=>?_
 rw[show cl (.agg (eSt s wv tv mv thv ov pv).toArray) = eSt s wv tv mv thv ov pv from rfl];refine ja λb2=>?_
 refine jla (l:=eSt s wv tv mv thv ov pv) (by exact z_n 13) rfl ?_;refine jc (A:=[]) (Lb h ω ω) ?_;rintro v R1 _ hR1 ⟨rfl,hq⟩;have hl0:∃lv ok,v = .tuple #[lv,.bool ok]∧Tgs R1 lv ((BP s).getD []):=by
  cases hst:BP s with
  | none=>rw[hst] at hq;exact⟨_,_,hq,[],Rw.nil,.inl ⟨rfl,rfl,rfl⟩⟩
  | some l=>rw[hst] at hq;obtain⟨lv,h1,h2⟩:=hq;exact⟨lv,true,h2,h1⟩
 have htb:TB ((BP s).getD [])∧((BP s).getD []).length≤16 * s.A0.length:=by
  cases hst:BP s with
  | none=>exact⟨λt ht=>(by cases ht),σ⟩
  | some l=>
   unfold BP at hst;have:=Q5 ω hst;rw[V7] at this;exact⟨this.1,by simp;omega⟩
 generalize (BP s).getD [] = l at hl0 htb hreach hstay hslide hmove hths;obtain⟨lv,okb,rfl,hlv⟩:=hl0;obtain⟨htb,hll⟩:=htb;have hlen0:=H5 hreach;refine jex rfl (jex rfl ?_);refine jla (l:=eSt s wv tv mv thv ov pv) (by exact z_n 13) rfl ?_;have h1:=h.le hR1;refine jc (A:=[]) (LL h1 hlv ω hreach hth (λt ht=>by have:=hrl t ht;omega) hpl (λt ht=>by have:=(htb t ht).2.2.1;omega)) ?_;rintro v8 R2 A8 hR2 so8;refine IN so8 λR3 hR3 hi8=>?_
 refine jc (A:=[]) (Me hi8 ω) ?_;rintro v9 R4 A9 hR4 ⟨hRR,so9⟩;subst hRR;refine IN so9 λR5 hR5 hi9=>?_
 have hR35:=(hR2.trans hR3).trans hR5;have h5:=h1.le hR35;have hlv5:=hlv.le hR35;have hslen:(Ch live0).length = live0.length:=by have:=He live0 [];simpa [Ch] using this
 generalize hlive:Ch live0 = AH at hslide hmove hths hi9 hslen;refine jl (v:=tv) rfl (Cq h5.t.sl ?_);refine jmk (Ie (s.A0.length:Int)) ?_;intro v13 N hq13;unfold QF at hq13;have htn:(AO (s.A0.length:Int)).length = s.A0.length:=by
  unfold AO;rw[if_neg ω];simp;omega
 rw[if_neg (by intro hn;rw[hn] at htn;simp at htn;omega)] at hq13;obtain⟨sv,⟨bt,ct,tsp,hct,rfl,rfl⟩,rfl⟩:=hq13;refine jex rfl (jex rfl ?_);refine jl (v:=wv) rfl (Cq h5.w.sl ?_);refine jms ω ω ω λbw=>?_
 rw[Tj];have htk:(List.replicate s.A5.length (cl z3)).flatten = (List.replicate s.A5.length (0:Int)).map I ++ []:=by
  rw[show cl z3 = [I 0] from rfl];simp[US]
 rw[htk];refine jla (l:=eSt s wv tv mv thv ov pv) (by exact z_n 13) rfl ?_;have hstay':=Po (cw:=s.A5.length) (ct:=ct) (bw:=bw) (bt:=bt) (wsp:=[]) (tsp:=tsp) h5 hlv5 htb ω hp hpl hstay;rw[Tz] at hstay';refine jc (A:=[(bw,C AZ ((List.replicate s.A5.length (0:Int)).map I ++ [])),(bt,C AK (Aa eRg (AO (s.A0.length:Int)) ++ tsp))]) hstay' ?_;rintro _ R6 _ hR6 ⟨hRR6,hwl,htl,rfl⟩;subst hRR6;rw[htn] at htl ⊢;generalize hE:(b2,C AT (cl z34)) :: (b1,C AT (eSt s wv tv mv thv ov pv)) :: ([] ++ F) = E;have ea1:At E b1 (C AT (eSt s wv tv mv thv ov pv)):=by rw[← hE];exact inferInstance
 have slen:∀{r t0 to0},slide s.AI l [] t0 r to0 = some (t2,to_)→t0 = t2∧to0 = to_:=λh=>by
  unfold slide at h;simpa using h
 refine Aj (D':=[] ++ ((bw,C AZ (w1.map I ++ [])) :: (bt,C AK (Aa eRg t1 ++ tsp)) :: E)) (by rw[← hE];exact UV _) ?_;refine AY (λvs R' D'=>R' = R6∧t2.length = s.A0.length∧to_.length = AH.length∧∃(v:Value) (A:Chs),SO to_ v A∧D' = A ++ ((bw,C AZ (w1.map I ++ [])) :: (bt,C AK (Aa eRg t2 ++ tsp)) :: E)∧vs = [Pt b1,Pt b2,lv,v9,S0 bt s.A0.length ct,S0 bw s.A5.length s.A5.length,v]) (λK hK=>?_) ?_
 ·refine jcI hK λK2 hK2=>?_
  refine jlp (λm vs R' D'=>R' = R6∧∃(i:Nat) (r:Int) (t0:List Rg) (to0:List Int) (v:Value) (A:Chs),i≤AH.length∧1≤r∧r≤12∧t0.length = s.A0.length∧to0.length = i∧slide s.AI l (AH.drop i) t0 r to0 = some (t2,to_)∧SO to0 v A∧D' = A ++ ((bw,C AZ (w1.map I ++ [])) :: (bt,C AK (Aa eRg t0 ++ tsp)) :: E)∧vs = [Pt b1,Pt b2,lv,v9,S0 bt s.A0.length ct,S0 bw s.A5.length s.A5.length,v,I r,I i]∧m = AH.length - i)
   (n:=AH.length) ⟨rfl,0,1,t1,[],SN,[],ω,ω,ω,htl,rfl,hslide,.inl ⟨rfl,rfl,rfl⟩,rfl,rfl,ω⟩ ?_
  rintro m e R7 D7 K3 ⟨hR,i,r,t0,to0,v,A,hi,hr1,hr2,ht0l,htol,hsl,so,hD,he,hm⟩ hK3;subst hR;refine z_W ?_;clear hD;refine Cq hi9.sl (jlt (jif (λhc=>?_) (λhc=>?_)));rotate_left
  ·have hc:=z_g hc;rw[Tx ω] at hsl;obtain⟨rfl,rfl⟩:=slen hsl;exact hK2 _ _ _ ⟨rfl,ht0l,ω,v,A,so,rfl,rfl⟩
  have hc:i < AH.length:=by have:=z_f hc;omega
  rw[Ts hc] at hsl;unfold slide at hsl;obtain⟨x,hx,hsl⟩:=A7 hsl;obtain⟨k,hk,hkp,rfl⟩:=HG hx;have hat:(l[k]).at_ = AH[i]:=by
   have:=List.find?_some hx;exact eq_of_beq this
  obtain⟨a0,a1,-,-⟩:=htb _ (U6 hk);have hreg:AQ AH[i]≤9223372036854775807:=by unfold AQ;split<;>omega
  refine AY (λvs R' D'=>R' = R7∧∃(r:Int) (t0:List Rg) (to0:List Int) (v:Value) (A:Chs),1≤r∧r≤12∧t0.length = s.A0.length∧to0.length = i + 1∧slide s.AI l (AH.drop (i + 1)) t0 r to0 = some (t2,to_)∧SO to0 v A∧D' = A ++ ((bw,C AZ (w1.map I ++ [])) :: (bt,C AK (Aa eRg t0 ++ tsp)) :: E)∧vs = [Pt b1,Pt b2,lv,v9,S0 bt s.A0.length ct,S0 bw s.A5.length s.A5.length,v,I r,I i]) (λK4 hK4=>?_) ?_;rotate_left
  ·rintro e R8 D8 ⟨hR,r,t0,to0,v,A,q1,q2,q3,q4,q5,so,hD,he⟩;subst hR;refine z_W ?_;clear hD;refine jad ?_;exact hK3 (AH.length - (i + 1)) _ _ _ ω ⟨rfl,i + 1,r,t0,to0,v,A,ω,q1,q2,q3,q4,q5,so,rfl,rfl,rfl⟩
  refine jcI hK4 λK5 hK5=>?_
  refine Ca hi9 ω ω ?_;rw[getElem_congr_idx (Tj i)];refine jro (Fy _ hlv5 ω) ?_;rw[hkp];refine jtg hlv5 hk λb3 o3 ty3 cs3 rv nv hrv hnv hb3 ho3 hrow3=>?_
  have g2:(cs3.drop (o3 + 2)).take 2 = [I (l[k]).sh.refs,I (l[k]).sh.nums]:=by
   have:=congrArg (λx=>(x.drop 2).take 2) hrow3;simp only[List.drop_take,List.drop_drop,List.take_take] at this;simpa [eTh] using this
  refine jfo (KL hb3 ω g2 (jp (Bm (l[k]).sh) ?_));obtain⟨sz0,sz1⟩:=LJ (l[k]).sh;generalize AC (l[k]).sh = size at hsl sz0 sz1 ⊢;refine jla (t:=AT) (cs:=eSt s wv tv mv thv ov pv) (l:=eSt s wv tv mv thv ov pv) (by exact z_n 13) rfl ?_;refine Ca hi9 ω ω ?_;rw[getElem_congr_idx (Tj i)];refine jp (CX _ hreg) (Aq (jla (t:=AT) (cs:=eSt s wv tv mv thv ov pv) (l:=eSt s wv tv mv thv ov pv) (by exact z_n 13) rfl jev) ?_);refine jro (Hb (AQ AH[i]) h5 hp hpl) (jif (λhh=>?_) (λhh=>?_))
  ·rw[if_pos hh] at hsl;refine Ca hi9 ω ω ?_;rw[getElem_congr_idx (Tj i)];refine jbs (cs:=[I AH[i]]) rfl rfl λb4=>?_
   refine HR (A:=A) so ω λv' A' so'=>?_
   exact hK5 _ _ _ ⟨rfl,r,t0,_,v',A',hr1,hr2,ht0l,by rw[Tn,htol];rfl,hsl,so',rfl,rfl⟩
  rw[if_neg (by rw[hh];decide)] at hsl;obtain⟨r2,hnx,hsl⟩:=A7 hsl;refine AY (λvs R' D'=>R' = R7∧D' = A ++ ((bw,C AZ (w1.map I ++ [])) :: (bt,C AK (Aa eRg t0 ++ tsp)) :: E)∧vs = [Pt b1,Pt b2,lv,v9,S0 bt s.A0.length ct,S0 bw s.A5.length s.A5.length,v,I r2,I i,I size]) (λK6 hK6=>?_) ?_
  ·refine jcI hK6 λK7 hK7=>?_
   refine jlp (λm vs R' D'=>R' = R7∧∃r:Int,1≤r∧r + m≤30∧FM s.AI t0 size m r = some r2∧D' = A ++ ((bw,C AZ (w1.map I ++ [])) :: (bt,C AK (Aa eRg t0 ++ tsp)) :: E)∧vs = [Pt b1,Pt b2,lv,v9,S0 bt s.A0.length ct,S0 bw s.A5.length s.A5.length,v,I r,I i,I size])
    (n:=t0.length + 2) ⟨rfl,r,hr1,ω,hnx,rfl,rfl⟩ ?_
   clear hnx;rintro m2 e R8 D8 K8 ⟨hR,r,hr1,hrm,hnx,hD,he⟩ hK8;subst hR;refine z_W ?_;clear hD;cases m2 with
   | zero=>cases hnx
   | succ m2=>
   unfold FM at hnx;refine AY (λvs R' D'=>R' = R8∧D' = A ++ ((bw,C AZ (w1.map I ++ [])) :: (bt,C AK (Aa eRg t0 ++ tsp)) :: E)∧∃bn:Bool,(bn = true→FM s.AI t0 size m2 (r + 1) = some r2)∧(bn = false→r = r2)∧vs = [Pt b1,Pt b2,lv,v9,S0 bt s.A0.length ct,S0 bw s.A5.length s.A5.length,v,I r,I i,I size,.bool bn]) (λK9 hK9=>?_) ?_;rotate_left
   ·rintro e R9 D9 ⟨hR,hD,bn,hb1,hb2,he⟩;subst hR;refine z_W ?_;clear hD;cases bn with
    | true=>
     refine EH (jad ?_);exact hK8 m2 _ _ _ ω ⟨rfl,r + 1,ω,ω,hb1 rfl,rfl,rfl⟩
    | false=>
     have:=hb2 rfl;subst this;exact DM (hK7 _ _ _ ⟨rfl,rfl,rfl⟩)
   refine jla (t:=AT) (cs:=eSt s wv tv mv thv ov pv) (l:=eSt s wv tv mv thv ov pv) (by exact z_n 13) rfl (jro (Hb r h5 hp hpl) ?_);cases hhr:BE s.AI r with
   | true=>
    rw[if_pos hhr] at hnx;refine CQ (jtf (Bq λe he=>?_));refine z_V ?_;refine jtf (Ea (Aq jev ?_));exact hK9 _ _ _ ⟨rfl,rfl,true,λ_=>hnx,(λh=>by cases h),rfl⟩
   | false=>
    rw[if_neg (by rw[hhr];decide)] at hnx;obtain⟨row,hrow,hnx⟩:=A7 hnx;obtain⟨sum,hsum,hnx⟩:=A7 hnx;obtain⟨rfl,hin⟩:=Af hsum;obtain⟨y0,y1,y2,y3⟩:=Ad hrow;obtain⟨k2,rfl⟩:∃k2:Nat,r = k2:=⟨r.toNat,ω⟩;have hk2:k2 < t0.length:=ω
    have ey:t0[k2] = row:=by rw[← y3];exact getElem_congr_idx ω
    have brr:0≤AG k2∧AG k2≤176:=by unfold AG;split<;>omega
    refine CQ (jff (Bk ω (jfo (jl (v:=I row.top) (by rw[Tw];exact Bv (f:=2) hk2 (by rw[ey];rfl)) (CF hin (Bq λe he=>?_))))));refine z_V ?_;refine jff (jp (Ax k2) (jad (jgr (EW (Aq (jl (v:=I row.top) (by rw[Tw];exact Bv (f:=2) hk2 (by rw[ey];rfl)) jev) ?_)))));refine hK9 _ _ _ ⟨rfl,rfl,decide (row.top + size > AG k2 + 16),λhb=>?_,λhb=>?_,rfl⟩
    ·rw[if_pos (by have:=z_f hb;omega)] at hnx;exact hnx
    ·rw[if_neg (by have:=z_g hb;omega)] at hnx;simpa using hnx
  rintro e R8 D8 ⟨hR,hD,he⟩;subst hR;refine z_W ?_;clear hD;obtain⟨row,hrow,hsl⟩:=A7 hsl;obtain⟨sum,hsum,hsl⟩:=A7 hsl;obtain⟨rfl,hin⟩:=Af hsum;obtain⟨y0,y1,y2,y3⟩:=Ad hrow;have hr2k:1≤r2:=by
   have:∀(n:Nat) (r:Int),1≤r→FM s.AI t0 size n r = some r2→1≤r2:=by
    intro n;induction n with
    | zero=>intro r _ h;cases h
    | succ n ih=>
     intro r hr h;unfold FM at h;split at h
     ·exact ih _ ω h
     ·obtain⟨_,_,h⟩:=A7 h;obtain⟨_,_,h⟩:=A7 h;split at h
      ·exact ih _ ω h
      ·cases h;exact hr
   exact this _ _ hr1 hnx
  obtain⟨k2,rfl⟩:∃k2:Nat,r2 = k2:=⟨r2.toNat,ω⟩;have hk2:k2 < t0.length:=ω
  have ey:t0[k2] = row:=by rw[← y3];exact getElem_congr_idx ω
  refine Bk ω (OQ hk2 ?_);rw[ey];refine ja λb5=>?_
  refine js (cs':=eRg row) rfl rfl σ rfl ?_;refine jfo (jl (v:=I row.top) rfl ?_);refine jbs (cs:=[I row.top]) rfl rfl λb4=>?_
  refine HR (A:=A) so ω λv' A' so'=>?_
  refine js (cs':=eRg { row with kind:=3 }) rfl rfl σ rfl ?_;refine jfo (jl (v:=I row.top) rfl (CF hin ?_));refine jfo (js (cs':=eRg { row with kind:=3,top:=row.top + size }) rfl rfl σ rfl ?_);refine jfo (jl (v:=I (row.top + size)) rfl ?_);refine jfo (js (cs':=eRg { row with kind:=3,top:=row.top + size,Al:=row.top + size }) rfl rfl σ rfl ?_);refine jla (l:=eRg { row with kind:=3,top:=row.top + size,Al:=row.top + size }) σ rfl ?_;refine Bk ω (HL (t:=t0) (x:={ row with kind:=3,top:=row.top + size,Al:=row.top + size }) hk2 ?_);refine B7 A' (G:=(bw,C AZ (w1.map I ++ [])) :: (bt,C AK (Aa eRg (t0.set k2 { row with kind:=3,top:=row.top + size,Al:=row.top + size }) ++ tsp)) :: E) ?_;exact hK5 _ _ _ ⟨rfl,k2,t0.set k2 { row with kind:=3,top:=row.top + size,Al:=row.top + size },_,v',A',ω,ω,by rw[U3];exact ht0l,by rw[Tn,htol];rfl,by simpa [AM] using hsl,so',rfl,rfl⟩
 clear hslide slen;rintro e R7 D7 ⟨hR,ht2,hto,v,A,so,hD,he⟩;subst hR;refine z_W ?_;clear hD;refine IN so λR8 hR8 hito=>?_
 have h8:=h5.le hR8;have hlv8:=hlv5.le hR8;have hi98:=hi9.le hR8;refine AY (λvs R' D'=>R' = R8∧w2.length = s.A5.length∧D' = (bw,C AZ (w2.map I ++ [])) :: (bt,C AK (Aa eRg t2 ++ tsp)) :: E∧vs = [Pt b1,Pt b2,lv,v9,S0 bt s.A0.length ct,S0 bw s.A5.length s.A5.length,v]) (λK hK=>?_) ?_
 ·refine jcI hK λK2 hK2=>?_
  refine jlp (λm vs R' D'=>R' = R8∧∃(i:Nat) (w:List Int),i≤AH.length∧w.length = s.A5.length∧Em l AH to_ (AH.drop i) (to_.drop i) w = some w2∧D' = (bw,C AZ (w.map I ++ [])) :: (bt,C AK (Aa eRg t2 ++ tsp)) :: E∧vs = [Pt b1,Pt b2,lv,v9,S0 bt s.A0.length ct,S0 bw s.A5.length s.A5.length,v,I i]∧m = AH.length - i)
   (n:=AH.length) ⟨rfl,0,w1,ω,hwl,hmove,rfl,rfl,ω⟩ ?_
  rintro m e R9 D9 K3 ⟨hR,i,w,hi,hwl1,hmv,hD,he,hm⟩ hK3;subst hR;refine z_W ?_;clear hD;refine Cq hi98.sl (jlt (jif (λhc=>?_) (λhc=>?_)));rotate_left
  ·have hc:=z_g hc;rw[Tx ω] at hmv;have:w = w2:=by unfold Em at hmv;simpa using hmv
   subst this;exact hK2 _ _ _ ⟨rfl,hwl1,rfl,rfl⟩
  have hc:i < AH.length:=by have:=z_f hc;omega
  rw[Ts hc,Ts (show i < to_.length by omega)] at hmv;unfold Em at hmv;obtain⟨x,hx,hmv⟩:=A7 hmv;obtain⟨k,hk,hkp,rfl⟩:=HG hx;obtain⟨wa,hwa,hmv⟩:=A7 hmv;obtain⟨wb,hwb,hmv⟩:=A7 hmv;obtain⟨wc,hwc,hmv⟩:=A7 hmv;obtain⟨wd,hwd,hmv⟩:=A7 hmv;refine AY (λvs R' D'=>R' = R9∧wd.length = s.A5.length∧D' = (bw,C AZ (wd.map I ++ [])) :: (bt,C AK (Aa eRg t2 ++ tsp)) :: E∧vs = [Pt b1,Pt b2,lv,v9,S0 bt s.A0.length ct,S0 bw s.A5.length s.A5.length,v,I i]) (λK4 hK4=>?_) ?_;rotate_left
  ·rintro e R8 D8 ⟨hR,hld,hD,he⟩;subst hR;refine z_W ?_;clear hD;refine jad ?_;exact hK3 (AH.length - (i + 1)) _ _ _ ω ⟨rfl,i + 1,wd,ω,hld,hmv,rfl,rfl,rfl⟩
  refine jcI hK4 λK5 hK5=>?_
  obtain⟨y,hy⟩:∃y,to_[i]'(ω) = y:=⟨_,rfl⟩;rw[hy] at hwa hwb hwc hwd;obtain⟨q1,q2,q3⟩:=ED hwa;obtain⟨q4,q5,q6⟩:=ED hwb;obtain⟨-,-,tr,tn⟩:=htb _ (U6 hk);have hla:wa.length = w.length:=by rw[q3,U3]
  have hlb:wb.length = wa.length:=by rw[q6,U3]
  have ty:to_[((i:Nat):Int).toNat]'(ω) = y:=by rw[← hy];exact getElem_congr_idx (Tj i)
  refine Ca hi98 ω ω ?_;rw[getElem_congr_idx (Tj i)];refine jro (Fy _ hlv8 ω) ?_;rw[hkp];refine jtg hlv8 hk λb3 o3 ty3 cs3 rv nv hrv hnv hb3 ho3 hrow3=>?_
  obtain⟨ra,rc,rfl⟩:=hrv.sl;obtain⟨na,nc,rfl⟩:=hnv.sl;refine KL hb3 ho3 hrow3 (ja λb15=>?_);refine jS (eTh l[k] (.slice ra l[k].refs.length rc) (.slice na l[k].nums.length nc)) ?_;refine Ca hito ω ω (Ca hito ω ω ?_);rw[ty];refine jia q1 ω (jsi (l:=w) (sp:=[]) ω ?_);rw[← q3];refine SI hito ω ω λq hq=>hq _ _ ?_
  rw[ty] at hq ⊢;refine jad (jfo (jla (t:=BG) (cs:=eTh l[k] (.slice ra l[k].refs.length rc) (.slice na l[k].nums.length nc)) (l:=[I l[k].sh.refs,I l[k].sh.nums]) (by exact (by decide:4≤6)) rfl (jp (DU l[k].sh) ?_)));refine jia q4 ω (Aq (hq _ _ jev) (jsi (l:=wa) (sp:=[]) ω ?_));rw[← q6];refine AY (λvs R' D'=>R' = R9∧wc.length = s.A5.length∧D' = (b15,C BG (eTh l[k] (.slice ra l[k].refs.length rc) (.slice na l[k].nums.length nc))) :: (bw,C AZ (wc.map I ++ [])) :: (bt,C AK (Aa eRg t2 ++ tsp)) :: E∧vs = [Pt b1,Pt b2,lv,v9,S0 bt s.A0.length ct,S0 bw s.A5.length s.A5.length,v,I i,Pt b15]) (λK6 hK6=>?_) ?_
  ·refine jcI hK6 λK7 hK7=>?_
   refine jlp (λm vs R' D'=>R' = R9∧∃(j:Nat) (w5:List Int),j≤l[k].refs.length∧w5.length = s.A5.length∧FF l AH to_ w5 (y + 2 + j) (l[k].refs.drop j) = some wc∧D' = (b15,C BG (eTh l[k] (.slice ra l[k].refs.length rc) (.slice na l[k].nums.length nc))) :: (bw,C AZ (w5.map I ++ [])) :: (bt,C AK (Aa eRg t2 ++ tsp)) :: E∧vs = [Pt b1,Pt b2,lv,v9,S0 bt s.A0.length ct,S0 bw s.A5.length s.A5.length,v,I i,Pt b15,I j]∧m = l[k].refs.length - j)
    (n:=l[k].refs.length) ⟨rfl,0,wb,ω,ω,by simpa using hwc,rfl,rfl,ω⟩ ?_
   rintro m5 e R8 D8 K8 ⟨hR,j,w5,hj,hl5,hrw5,hD,he,hm5⟩ hK8;subst hR;refine z_W ?_;clear hD;refine jl (v:=.slice ra l[k].refs.length rc) rfl (jln (jlt (jif (λhd=>?_) (λhd=>?_))));rotate_left
   ·have hd:=z_g hd;rw[Tx ω] at hrw5;have:w5 = wc:=by unfold FF at hrw5;simpa using hrw5
    subst this;exact hK7 _ _ _ ⟨rfl,hl5,rfl,rfl⟩
   have hd:j < l[k].refs.length:=by have:=z_f hd;omega
   rw[Ts hd] at hrw5;unfold FF at hrw5;obtain⟨z,hz,hrw5⟩:=A7 hrw5;obtain⟨w6,hw6,hrw5⟩:=A7 hrw5;refine AY (λvs R' D'=>R' = R8∧w6.length = s.A5.length∧D' = (b15,C BG (eTh l[k] (.slice ra l[k].refs.length rc) (.slice na l[k].nums.length nc))) :: (bw,C AZ (w6.map I ++ [])) :: (bt,C AK (Aa eRg t2 ++ tsp)) :: E∧vs = [Pt b1,Pt b2,lv,v9,S0 bt s.A0.length ct,S0 bw s.A5.length s.A5.length,v,I i,Pt b15,I j]) (λK9 hK9=>?_) ?_;rotate_left
   ·rintro e Rx D9 ⟨hR,hl6,hD,he⟩;subst hR;refine z_W ?_;clear hD;refine jad ?_;exact hK8 (l[k].refs.length - (j + 1)) _ _ _ ω ⟨rfl,j + 1,w6,ω,hl6,by rw[← hrw5];congr 1;omega,rfl,rfl,rfl⟩
   refine jcI hK9 λK10 hK10=>?_
   refine jl (v:=.slice ra l[k].refs.length rc) rfl (Ca hrv ω ω ?_);rw[getElem_congr_idx (Tj j)];refine jro (HD hlv8 ω hz) (jro (GC z (B9.rd hi98) ω) (jge (jif (λh0=>?_) (λh0=>?_))))
   ·have h0:=z_f h0;rw[if_pos ω] at hw6;obtain⟨u,hu,hw6⟩:=A7 hw6;obtain⟨u0,u1,u2,u3⟩:=Ad hu;obtain⟨p1,p2,p3⟩:=ED hw6;refine Ca hito ω ω ?_;rw[ty];refine jad (jad (Ca hito u0 u1 ?_));rw[u3];refine jia p1 ω (jsi (l:=w5) (sp:=[]) ω ?_);rw[← p3];exact hK10 _ _ _ ⟨rfl,by rw[p3,U3];exact hl5,rfl,rfl⟩
   ·have h0:=z_g h0;rw[if_neg ω] at hw6;have:w5 = w6:=by simpa using hw6
    subst this;exact hK10 _ _ _ ⟨rfl,hl5,rfl,rfl⟩
  rintro e R8 D8 ⟨hR,hlc,hD,he⟩;subst hR;refine z_W ?_;clear hD;refine jcI hK5 λK7 hK7=>?_
  refine jlp (λm vs R' D'=>R' = R8∧∃(j:Nat) (w5:List Int),j≤l[k].nums.length∧w5.length = s.A5.length∧wrs w5 (y + 2 + l[k].refs.length + j) (l[k].nums.drop j) = some wd∧D' = (b15,C BG (eTh l[k] (.slice ra l[k].refs.length rc) (.slice na l[k].nums.length nc))) :: (bw,C AZ (w5.map I ++ [])) :: (bt,C AK (Aa eRg t2 ++ tsp)) :: E∧vs = [Pt b1,Pt b2,lv,v9,S0 bt s.A0.length ct,S0 bw s.A5.length s.A5.length,v,I i,Pt b15,I j]∧m = l[k].nums.length - j)
   (n:=l[k].nums.length) ⟨rfl,0,wc,ω,ω,by simpa using hwd,rfl,rfl,ω⟩ ?_
  rintro m5 e Rx D9 K8 ⟨hR,j,w5,hj,hl5,hrw5,hD,he,hm5⟩ hK8;subst hR;refine z_W ?_;clear hD;refine jfo (jl (v:=.slice na l[k].nums.length nc) rfl (jln (jlt (jif (λhd=>?_) (λhd=>?_)))));rotate_left
  ·have hd:=z_g hd;rw[Tx ω] at hrw5;have:w5 = wd:=by unfold wrs at hrw5;simpa using hrw5
   subst this;exact CN (hK7 _ _ _ ⟨rfl,hl5,rfl,rfl⟩)
  have hd:j < l[k].nums.length:=by have:=z_f hd;omega
  rw[Ts hd] at hrw5;unfold wrs at hrw5;obtain⟨w6,hw6,hrw5⟩:=A7 hrw5;obtain⟨p1,p2,p3⟩:=ED hw6;refine Ca hito ω ω ?_;rw[ty];refine jad (jfo (jl (v:=.slice ra l[k].refs.length rc) rfl (jln (jad (jad ?_)))));refine jfo (jl (v:=.slice na l[k].nums.length nc) rfl (Ca hnv ω ω ?_));rw[getElem_congr_idx (Tj j)];refine jia p1 ω (jsi (l:=w5) (sp:=[]) ω (jad ?_));rw[← p3];exact hK8 (l[k].nums.length - (j + 1)) _ _ _ ω ⟨rfl,j + 1,w6,ω,by rw[p3,U3];exact hl5,by rw[← hrw5];congr 1;omega,rfl,rfl,rfl⟩
 rintro e Rw D9 ⟨hRw,hl2,hD,he⟩;subst hRw;refine z_W ?_;clear hD;obtain⟨rfl,hfin⟩:=Af hful;obtain⟨B0,hB0⟩:∃B0:Chs,B0 = (bw,C AZ (w2.map I ++ [])) :: (bt,C AK (Aa eRg t2 ++ tsp)) :: E:=⟨_,rfl⟩;have ea0:At B0 b1 (C AT (eSt s wv tv mv thv ov pv)):=by rw[hB0];exact inferInstance
 rw[← hB0];obtain⟨X,hX⟩:∃X:Nat→Value→List Value,X = λbm p=>eSt s' (S0 bw s.A5.length s.A5.length) (S0 bt s.A0.length ct) (S0 bm s.A5.length s.A5.length) (SN) (SN) p:=⟨_,rfl⟩
 have j3:∀{R' : RM} {D' : Chs} {m:M} [At D' b1 (C AT (eSt s wv tv mv thv ov pv))],J R' D' m→J R' D' (AND (L1 (.pointer (some ⟨b1,0 + 6,none⟩)) λx=>EV x (.bool s.Ai))<|AND (L1 (.pointer (some ⟨b1,0 + 11,none⟩)) λx=>EV x (I s.B8))<|AND (L1 (.pointer (some ⟨b1,0 + 12,none⟩)) λx=>EV x (I s.Be)) m):=λH=>Aq (jl rfl jev) (Aq (jl rfl jev) (Aq (jl rfl jev) H))
 have j4:∀{R' : RM} {D' : Chs} {m:M} [At D' b1 (C AT (eSt s wv tv mv thv ov pv))],J R' D' m→J R' D' (AND (L1 (.pointer (some ⟨b1,0 + 6,none⟩)) λx=>EV x (.bool s.Ai))<|AND (L1 (.pointer (some ⟨b1,0 + 10,none⟩)) λx=>EV x (pv))<|AND (L1 (.pointer (some ⟨b1,0 + 11,none⟩)) λx=>EV x (I s.B8))<|AND (L1 (.pointer (some ⟨b1,0 + 12,none⟩)) λx=>EV x (I s.Be)) m):=λH=>Aq (jl rfl jev) (Aq (jl rfl jev) (Aq (jl rfl jev) (Aq (jl rfl jev) H)))
 refine AY (λvs R' D'=>Rw.le R'∧∃bm b19 pv',B9 R' pv' s.AI∧D' = (b19,C AT (X bm pv')) :: (bm,C Au ((List.replicate s.A5.length [Value.bool false]).flatten)) :: B0∧vs = [Pt b1,Pt b2,lv,v9,v,Pt b19]) (λK hK=>?_) ?_
 ·have fin:∀(R' : RM) (bm b19 bp cp:Nat),Rw.le R'→B9 R' (S0 bp s.AI.length cp) s.AI→J R' ((b19,C AT (cl z34)) :: (bm,C Au ((List.replicate s.A5.length [Value.bool false]).flatten)) :: B0) (ST 13 (Pt b19) (.agg (X bm (S0 bp s.AI.length cp)).toArray) (K [Pt b1,Pt b2,lv,v9,v,Pt b19])):=λR' bm b19 bp cp hle hpv=>by
   refine js (cs':=X bm (S0 bp s.AI.length cp)) (by rw[hX];rfl) (by rw[hX];rfl) (by exact z_n 13) (by rw[hX];rfl) (hK _ _ _ ⟨hle,bm,b19,_,hpv,rfl,rfl⟩)
  refine jln (jl (v:=.bool s.Ai) rfl (jl (v:=pv) rfl (jl (v:=I s.B8) rfl (jl (v:=I s.Be) rfl (CF hfin ?_)))));refine Ii ?_ (Ii ?_ (Fs ?_))
  ·refine jms ω ω ω λbm=>?_
   rw[Tj];refine j4 (Ii ?_ (Fs ?_))
   ·refine jc (A:=[]) (Br h8.p hpl) ?_;rintro _ Ry _ hRy ⟨bp,cp,spp,hcp,hspp,rfl,rfl⟩;refine Bc (b:=bp) λRz hRz hbp=>O6 (jbd (cs:=X bm (S0 bp s.AI.length cp)) rfl (by rw[hX,← hS];rfl) (j3 (ja λb19=>j3 ?_)))
    exact fin _ _ _ _ _ (hRy.trans hRz) (Bj hbp hcp)
   ·refine ja λb19=>j4 (jc (A:=[]) (Br h8.p hpl) ?_)
    rintro _ Ry _ hRy ⟨bp,cp,spp,hcp,hspp,rfl,rfl⟩;refine Bc (b:=bp) λRz hRz hbp=>O6 (jbd (cs:=X bm (S0 bp s.AI.length cp)) rfl (by rw[hX,← hS];rfl) (j3 ?_))
    exact fin _ _ _ _ _ (hRy.trans hRz) (Bj hbp hcp)
  ·refine jc (A:=[]) (Br h8.p hpl) ?_;rintro _ Ry _ hRy ⟨bp,cp,spp,hcp,hspp,rfl,rfl⟩;refine Bc (b:=bp) λRz hRz hbp=>O6 (j3 (Ii ?_ (Fs ?_)))
   ·refine jms ω ω ω λbm=>?_
    rw[Tj];refine jbd (cs:=X bm (S0 bp s.AI.length cp)) rfl (by rw[hX,← hS];rfl) (j3 (ja λb19=>j3 ?_));exact fin _ _ _ _ _ (hRy.trans hRz) (Bj hbp hcp)
   ·refine ja λb19=>j3 (jms ω ω ω λbm=>?_)
    rw[Tj];refine jbd (cs:=X bm (S0 bp s.AI.length cp)) rfl (by rw[hX,← hS];rfl) (j3 (Aj (Uq _ _ _) ?_));exact fin _ _ _ _ _ (hRy.trans hRz) (Bj hbp hcp)
  ·refine ja λb19=>j4 (Ii ?_ (Fs ?_))
   ·refine jms ω ω ω λbm=>?_
    rw[Tj];refine j4 (jc (A:=[]) (Br h8.p hpl) ?_);rintro _ Ry _ hRy ⟨bp,cp,spp,hcp,hspp,rfl,rfl⟩;refine Bc (b:=bp) λRz hRz hbp=>O6 (jbd (cs:=X bm (S0 bp s.AI.length cp)) rfl (by rw[hX,← hS];rfl) (j3 (Aj (Uq _ _ _) ?_)))
    exact fin _ _ _ _ _ (hRy.trans hRz) (Bj hbp hcp)
   ·refine jc (A:=[]) (Br h8.p hpl) ?_;rintro _ Ry _ hRy ⟨bp,cp,spp,hcp,hspp,rfl,rfl⟩;refine Bc (b:=bp) λRz hRz hbp=>O6 (j3 (jms ω ω ω λbm=>?_))
    rw[Tj];refine jbd (cs:=X bm (S0 bp s.AI.length cp)) rfl (by rw[hX,← hS];rfl) (j3 (Aj (Uq _ _ _) ?_));exact fin _ _ _ _ _ (hRy.trans hRz) (Bj hbp hcp)
 rintro e Ry D9 ⟨hRy,bm,b19,pv',hpv',hD,he⟩;rw[hD];clear hD;subst hX hB0;dsimp only;have es1:s'.A5 = w2:=by rw[← hS]
 have es2:s'.A0 = t2:=by rw[← hS]
 have es3:s'.AI = s.AI:=by rw[← hS]
 have es4:s'.AB = ths:=by rw[← hS]
 have es5:s'.AJ = List.replicate w2.length false:=by rw[← hS]
 have hths8:CY l AH to_ s.AB = some s'.AB:=by rw[es4];exact hths
 rw[← hE];have ew:s.A5.length = s'.A5.length:=by rw[es1];exact hl2.symm
 have et:s.A0.length = s'.A0.length:=by rw[es2];exact ht2.symm
 have em:(List.replicate s.A5.length [Value.bool false]).flatten = s'.AJ.map Value.bool:=by rw[es5,hl2];simp
 have el:s'.AJ.length = s'.A5.length:=by rw[es5,es1,Tz]
 rw[em,← es1,← es2,ew,et];refine B7 [(b19,C AT (eSt s' (S0 bw s'.A5.length s'.A5.length) (S0 bt s'.A0.length ct) (S0 bm s'.A5.length s'.A5.length) (SN) (SN) pv')),(b2,C AT (cl z34)),(b1,C AT (eSt s wv tv mv thv ov pv)),(bw,C AZ (s'.A5.map I ++ [])),(bt,C AK (Aa eRg s'.A0 ++ tsp)),(bm,C Au (s'.AJ.map Value.bool))] (G:=F) ?_;have hRR:=hR1.trans (hR2.trans (hR3.trans (hR5.trans (hR8.trans hRy))));have hpf:=Fz.flat hpv';change J Ry _ (l7d e _);refine Rc (E:=(b1,C AT (eSt s wv tv mv thv ov pv)) :: (bw,C AZ (s'.A5.map I ++ [])) :: (bt,C AK (Aa eRg s'.A0 ++ tsp)) :: (bm,C Au (s'.AJ.map Value.bool)) :: F) (h8.le hRy) (hlv8.le hRy) ω (hi98.le hRy) ω (hito.le hRy) hths8 hth hrl inferInstance he (λx hx=>?_) (λR' rows x A hR' hrw so=>?_)
 ·show (true && (true && (true && (true && (true && (true && (true && (true && (flat x && (true && (flat pv' && (true && (true && true))))))))))))) = true;rw[hx,hpf];rfl
 ·refine BC (A:=(bw,C AZ (s'.A5.map I ++ [])) :: (bt,C AK (Aa eRg s'.A0 ++ tsp)) :: (bm,C Au (s'.AJ.map Value.bool)) :: A) (hRR.trans hR') ⟨bw,[],s'.A5.length,bt,tsp,ct,bm,x,pv',rows,A,ω,ω,ω,ω,ω,hrw,so,?_,rfl,?_⟩
  ·rw[es3];exact hpv'.le hR'
  ·rw[el]
theorem OP {R:RM} {s s' : Sm.Ah} {wv tv mv thv ov pv:Value} (h:StC R s wv tv mv thv ov pv) (hw:s.A5.length≤1000) (ht0:2≤s.A0.length) (ht1:s.A0.length≤12) (hth:s.AB.length < 1000000) (hrl:∀t∈s.AB,t.AA.length < 1000000)
  (hpl:s.AI.length < 1000000) (hp:∀a∈s.AI,AQ a≤9223372036854775807) (hS:E9 s = some s') :
  Fn P FY [.agg (eSt s wv tv mv thv ov pv).toArray] R [] (λv R' A=>∃bw wsp cw bt tsp ct bm thv' pv',s'.A5.length = s.A5.length∧s'.A0.length = s.A0.length∧s'.AJ.length = s.A5.length∧s'.A5.length≤cw∧s'.A0.length≤ct∧Ths R' thv' s'.AB∧B9 R' pv' s'.AI∧
   A = [(bw,C AZ (s'.A5.map I ++ wsp)),(bt,C AK (Aa eRg s'.A0 ++ tsp)),(bm,C Au (s'.AJ.map Value.bool))]∧
   v = .agg (eSt s' (S0 bw s'.A5.length cw) (S0 bt s'.A0.length ct) (S0 bm s'.AJ.length s'.AJ.length) thv' (SN) pv').toArray):=by
 refine λF=>jc (Nx h hw ht0 ht1 hth hrl hpl hp hS) ?_
 rintro v R1 _ hR1 ⟨bw,wsp,cw,bt,tsp,ct,bm,thv',pv',rows,A',e1,e2,e3,e4,e5,hrw,so,hpv,rfl,rfl⟩;obtain⟨sa,sc,rfl⟩:=so.sl;refine B7 A' (G:=[(bw,C AZ (s'.A5.map I ++ wsp)),(bt,C AK (Aa eRg s'.A0 ++ tsp)),(bm,C Au (s'.AJ.map Value.bool))] ++ F) ?_;refine jfw so (hrw.all λ_ _=>DB.len) λR3 hR3 hfz=>?_
 exact BC (A:=[(bw,C AZ (s'.A5.map I ++ wsp)),(bt,C AK (Aa eRg s'.A0 ++ tsp)),(bm,C Au (s'.AJ.map Value.bool))]) (hR1.trans hR3) ⟨bw,wsp,cw,bt,tsp,ct,bm,_,pv',e1,e2,e3,e4,e5,⟨rows,hrw.mono λ_ _=>DB.le hR3,hfz⟩,hpv.le hR3,rfl,rfl⟩
theorem Rf {R:RM} {b c:Nat} {l:List Rg} {sp:List Value} (h:R b = some (C AK (Aa eRg l ++ sp))) (hc:l.length≤c):Rgs R (S0 b l.length c) l:=by
 have e:=DO (f:=eRg) (w:=5) (λ_=>rfl) l;exact .inr ⟨b,0,c,AK,_,rfl,h,by rw[Tn,e];omega,by rw[Ur,← e,List.take_left],hc⟩
theorem RV {R:RM} {b c:Nat} {l:List Bool} {sp:List Value} (h:R b = some (C Au (l.map Value.bool ++ sp))) (hc:l.length≤c):Bls R (S0 b l.length c) l:=by
 have e:(l.map Value.bool).length = l.length * 1:=σ
 exact .inr ⟨b,0,c,Au,_,rfl,h,by rw[Tn,e];omega,by rw[Ur,← e,List.take_left],hc⟩
theorem Hw {l:List AV} {AH to_:List Int}:∀{ts r:List Th},CY l AH to_ ts = some r→r.length = ts.length
 | [],r,h=>by unfold CY at h;cases h;rfl
 | t :: ts,r,h=>by
  obtain⟨AA,rest,_,h2,rfl⟩:=Ic h;rw[U4,U4,Hw h2]
theorem Nn {s s' : Sm.Ah} (h:E9 s = some s'):s'.AB.length = s.AB.length∧s'.old = []:=by
 unfold E9 at h;obtain⟨_,_,h⟩:=A7 h;obtain⟨⟨_,_⟩,_,h⟩:=A7 h;obtain⟨⟨_,_⟩,_,h⟩:=A7 h;obtain⟨_,_,h⟩:=A7 h;obtain⟨_,hths,h⟩:=A7 h;obtain⟨_,_,h⟩:=A7 h;simp only[Tq] at h;subst h;exact⟨Hw hths,rfl⟩
theorem OB {p n:Nat} {S S' : Sim} {g:Img} {R:RM} (hok:Ok R S g) (hp:Pr S) (hT:TOk S.A0) (hf:S.full = true) (hS:S.pause n = some S') :
  Fn P Cm [Pt p] R (AU p S g) (CK p S' λ_=>True):=by
 refine Gi λF=>?_
 refine z_1 ?_;unfold Sim.pause at hS;split at hS
 ·cases hS
 rename_i hz;have hz:S.sz = true:=by simpa using hz
 obtain⟨s,hs,hS⟩:=A7 hS;simp only[Tq] at hS;have hze:=EU hz;have hhl:=hok.hl;refine jl rfl ?_;rw[hf];refine EH (jc (Rs hok hz) ?_);rintro _ R1 _ hR1 ⟨-,rfl,thv,hths,rfl⟩;have ok1:=hok.le hR1;unfold AU;refine Bc (b:=g.wb) λR2 hR2 hbw=>Bc (b:=g.tb) λR3 hR3 hbt=>Bc (b:=g.mb) λR4 hR4 hbm=>?_
 have hR14:=(hR2.trans hR3).trans hR4;have ok4:=ok1.le hR14;have hst:StC R4 S.view (wS S g) (tS S g) (mS S g) thv g.old g.AI:=⟨Bj (hR4 _ _ (hR3 _ _ hbw)) hok.wk,Rf (hR4 _ _ hbt) hok.tk,RV hbm hok.mk_,hths.le hR14,ok4.old,ok4.AI⟩;have hvl:S.view.AB.length = S.th.length:=by simp[Sim.view]
 obtain⟨hsl,hold⟩:=Nn hs;refine jc (OP hst hok.wl hT.n0 hT.n1 ω (λt ht=>?_) hze.2.2.2.1 hp.2 hs) ?_
 ·obtain⟨t',ht',rfl⟩:=UK.1 ht;exact hze.2.2.2.2 _ ht'
 rintro _ R5 _ hR5 ⟨bw,wsp,cw,bt,tsp,ct,bm,thv',pv',w1,w2,w3,w4,w5,hths',hpv',rfl,rfl⟩;have ok5:=ok4.le hR5;obtain⟨ta,tc,htv⟩:=hths'.sl;have hpf:=Fz.flat hpv';have w1:s.A5.length = S.A5.length:=w1;have w2:s.A0.length = S.A0.length:=w2;have w3:s.AJ.length = S.A5.length:=w3;have hwl:=hok.wl;have htl:=hok.tl;refine js rfl ?_ (by show 4 + 13≤35;omega) rfl ?_
 ·subst htv;show (true && (true && (true && (true && (true && (true && (true && (true && (true && (true && (flat pv' && (true && (true && true))))))))))))) = true;rw[hpf];rfl
 refine jl rfl (jbd rfl rfl ?_);generalize hS3:({ S with A5:=s.A5,A0:=s.A0,AJ:=s.AJ,AW:=s.AW,stop:=s.stop,full:=s.full,old:=s.old,AI:=s.AI,B8:=s.B8,Be:=s.Be,col:=Cd s.Ai 0 }:Sim) = S3;generalize hg3:({ g with wb:=bw,wc:=cw,wsp:=wsp,tb:=bt,tc:=ct,tsp:=tsp,mb:=bm,mc:=s.AJ.length,msp:=[],Ai:=.bool s.Ai,want:=I s.want,AB:=thv',old:=SN,AI:=pv',AD:=SN }:Img) = g3;have eth:S3.th = S.th:=by rw[← hS3]
 have ethv:g3.AB = thv':=by rw[← hg3]
 have ok3:Ok R5 S3 g3:=by
  subst hS3 hg3 htv;exact { ok5 with old:=.inl ⟨rfl,by rw[hold];rfl,by rw[hold];rfl⟩,AI:=hpv',AD:=.inl ⟨rfl,rfl,rfl⟩,wl:=by show s.A5.length≤1000;omega,tl:=by show s.A0.length≤1000;omega,ml:=by show s.AJ.length≤1000;omega,fl:=⟨rfl,rfl,rfl⟩,wk:=w4,tk:=w5,mk_:=z_n _ }
 refine js (cs':=Bx S3 g3) rfl rfl (UD rfl) (by rw[← hS3,← hg3];rfl) ?_;refine Aj (D':=AU p S3 g3 ++ F) (by
  have e:AU p S3 g3 = (p,C BZ (Bx S3 g3)) :: (bw,C AZ (s.A5.map I ++ wsp)) :: (bt,C AK (Aa eRg s.A0 ++ tsp)) :: (bm,C Au (s.AJ.map Value.bool ++ [])) :: (g.hb,C AS (Db S.th g.rv ++ g.hsp)) :: evD S g:=by rw[← hS3,← hg3];rfl
  rw[e,UP]
  exact U9 (l₁:=[(bw,C AZ (s.A5.map I ++ wsp)),(bt,C AK (Aa eRg s.A0 ++ tsp)),(bm,C Au (s.AJ.map Value.bool))])) ?_
 have hSe:S' = { S3 with th:=s.AB.map λt=>thr0 t.AA t.next t.BB }:=by rw[← hS3,← hS]
 clear hS hS3 hg3 hst;generalize hT' : (s.AB.map λt=>thr0 t.AA t.next t.BB) = T' at hSe;have hTl:T'.length = S.th.length:=by rw[← hT',Tr];omega
 have hTg:∀k (h:k < T'.length) (h' : k < s.AB.length),T'[k] = thr0 (s.AB[k]).AA (s.AB[k]).next (s.AB[k]).BB:=λk h h'=>by simp only[← hT',V0]
 rw[← eth] at hTl hhl hvl;rw[hvl] at hsl;subst hSe;refine jlp (λm vs R' D'=>R' = R5∧∃(k:Nat) (g4:Img),k≤S3.th.length∧g4.AB = thv'∧Ok R5 { S3 with th:=T'.take k ++ S3.th.drop k } g4∧D' = AU p { S3 with th:=T'.take k ++ S3.th.drop k } g4 ++ F∧vs = [Pt p,I k]∧m = S3.th.length - k)
  ⟨rfl,0,g3,ω,ethv,ok3,rfl,rfl,ω⟩ ?_
 rintro m e R6 D6 K ⟨hR,k,g4,hk,e4,ok4,hD,he,hm⟩ hK;subst hR;refine z_W ?_;clear hD;have hul:=E5 (k:=k) hTl;refine jl (v:=.slice (some ⟨g4.hb,0,none⟩) (T'.take k ++ S3.th.drop k).length g4.hc) rfl (jln (jlt (jif (λhc=>?_) (λhc=>?_))));rotate_left
 ·have hc:S3.th.length≤k:=by have:=z_g hc;omega
  have ee:T'.take k ++ S3.th.drop k = T':=by rw[UG ω,Tx ω,UP]
  rw[ee] at ok4 ⊢;exact Ae (hR1.trans (hR14.trans hR5)) trivial rfl ok4
 have hc:k < S3.th.length:=by have:=z_f hc;omega
 have hcs:k < s.AB.length:=ω
 refine jl rfl ?_;rw[e4];refine jtr hths' hcs λb3 o3 ty cs rv hrv hb3 ho3 hrow3=>(KL hb3 ho3 hrow3 ?_)
 obtain⟨ra,rc,hrve⟩:=hrv.sl;subst hrve;refine ja λb30=>(js rfl rfl (by exact z_n 4) rfl (jl (v:=.slice (some ⟨g4.hb,0,none⟩) (T'.take k ++ S3.th.drop k).length g4.hc) rfl (jl rfl (jl rfl (jl rfl (jbd (cs:=Ac (thr0 (s.AB[k]).AA (s.AB[k]).next (s.AB[k]).BB) (.slice ra (s.AB[k]).AA.length rc)) rfl rfl (Bk ω (jst (p:=p) _ _ (by show k < (T'.take k ++ S3.th.drop k).length;omega) ok4.rvl (Fz.flat hrv) rfl rfl (jad ?_)))))))))
 have Ik:(T'.take k ++ S3.th.drop k).set k (thr0 (s.AB[k]).AA (s.AB[k]).next (s.AB[k]).BB) = T'.take (k + 1) ++ S3.th.drop (k + 1):=by
  rw[← hTg k ω hcs];exact Ia hTl hc
 have ok5':=ok4.setT (i:=k) (t:=thr0 (s.AB[k]).AA (s.AB[k]).next (s.AB[k]).BB) hrv;dsimp only at ok5' ⊢;rw[Ik] at ok5' ⊢;refine B7 (AU p { S3 with th:=T'.take (k + 1) ++ S3.th.drop (k + 1) } { g4 with rv:=g4.rv.set k (.slice ra (s.AB[k]).AA.length rc) }) (G:=F) (hK (S3.th.length - (k + 1)) _ _ _ ω ⟨rfl,k + 1,{ g4 with rv:=g4.rv.set k (.slice ra (s.AB[k]).AA.length rc) },ω,e4,ok5',rfl,rfl,rfl⟩)
theorem QI {p n:Nat} {S S' : Sim} {g:Img} {R:RM} (hok:Ok R S g) (hp:Pr S) (hT:TOk S.A0) (hS:S.pause n = some S') :
  Fn P Cm [Pt p] R (AU p S g) (CK p S' λ_=>True):=by
 cases hf:S.full with
 | true=>exact OB hok hp hT hf hS
 | false=>exact Mb hok hp hT hf hS
theorem SV (x:Int) (w:World):(Go.convert 5 3 (.int .u8 x):Sem Value).run P w = .ok (.int .i64 (IntKind.i64.wrap x)) w:=by
 kernel_rfl
def Bsl (R:RM) (v:Value) (n:Nat):Prop:=∃a cap,v = .slice a n cap∧n≤cap∧(n = 0∨∃b o,a = some ⟨b,o,none⟩∧∀i,i < n→∃t cs fz x,R b = some (.cells cs t fz)∧cs[o + i]? = some (.int .u8 x)∧0≤x∧x < 256)
theorem Bsl.le {R R' : RM} {v:Value} {n:Nat} (h:R.le R') (H:Bsl R v n):Bsl R' v n:=by
 obtain⟨a,cap,h1,h2,h3 | ⟨b,o,h3,h4⟩⟩:=H
 ·exact⟨a,cap,h1,h2,.inl h3⟩
 ·exact⟨a,cap,h1,h2,.inr ⟨b,o,h3,λi hi=>by obtain⟨t,cs,fz,x,q1,q2⟩:=h4 i hi;exact⟨t,cs,fz,x,h _ _ q1,q2⟩⟩⟩
section rules
variable {R:RM} {D:Chs} {k:Value→M}
theorem jcv {x:Int} (h:inR x) (H:J R D (k (I x))):J R D (X P (Go.convert 5 3 (.int .u8 x)) k):=by
 intro h' hs w hw;rw[SV,E6 h];subst hw;exact⟨Ap.refl _,H _ hs⟩
theorem TY {x y:Int} (hx:0≤x∧x < 4611686018427387904) (hy:0≤y∧y < 4611686018427387904) (H:∀z:Int,0≤z→z < 4611686018427387904→J R D (k (I z))):J R D (BO .xor (I x) (I y) k):=by
 have e:BO .xor (I x) (I y) k = k (.int .i64 (IntKind.i64.wrap (BitVec.ofInt 64 x ^^^ BitVec.ofInt 64 y).toNat)):=rfl;have h1:(BitVec.ofInt 64 x ^^^ BitVec.ofInt 64 y).toNat < 2 ^ 62:=by
  rw[BitVec.toNat_xor];have hb:∀z:Int,0≤z∧z < 4611686018427387904→(BitVec.ofInt 64 z).toNat < 2 ^ 62:=λz hz=>by
   rw[BitVec.toNat_ofInt];omega
  exact Nat.xor_lt_two_pow (hb x hx) (hb y hy)
 rw[e,E6 ⟨ω,ω⟩];exact H _ ω ω
theorem QB {v:Value} {n:Nat} {i:Int} (h:Bsl R v n) (h0:0≤i) (h1:i < n)
  (H:∀(q:Value) (x:Int),0≤x→x < 256→(∀(D' : Chs) (k' : Value→M),J R D' (k' (.int .u8 x))→J R D' (L1 q k'))→J R D (k q)):J R D (IA 1 v (I i) k):=by
 obtain⟨a,cap,rfl,hn,h2 | ⟨b,o,rfl,hc⟩⟩:=h
 ·omega
 ·obtain⟨t,cs,fz,x,hb,hx,x0,x1⟩:=hc i.toNat ω;refine jia h0 ω (H _ x x0 x1 λD' k' hk=>?_);rw[UY];intro h hs;exact⟨.int .u8 x,by simp only[Go.Lf.hc,hs.rd b _ hb];exact hx,hk h hs⟩
end rules
def Byt (R:RM) (v:Value):Prop:=∃a n cap,v = .slice a n cap∧Bsl R v n∧n≤1000000
theorem Byt.le {R R' : RM} {v:Value} (h:R.le R') (H:Byt R v):Byt R' v:=by
 obtain⟨a,n,cap,h1,h2,h3⟩:=H;exact⟨a,n,cap,h1,h2.le h,h3⟩
@[reducible] def rdO (v:Value) (m:Int):Obj:=C 121 [v,I m]
theorem Rq {R:RM} {rb:Nat} {v:Value} {n m:Int} (hb:Byt R v) (hm:0≤m∧m < 1000000000) :
  Fn P Dq [Pt rb,I n] R [(rb,rdO v m)] (λv' R' A=>R' = R∧A = [(rb,rdO v (m + 1))]∧∃x,v' = I x∧0≤x∧(x < n∨x = 0)):=by
 refine It λF=>?_
 refine z_2 ?_;obtain⟨a,l,cap,rfl,hf,hl⟩:=hb;refine jl rfl (jad (js rfl rfl σ rfl (jor [Pt rb,I n] (decide (n < 1) || ((l:Int) == 0)) (λK' hK'=>?_) (λe c u ho he=>?_))))
 ·refine jlt (jgO hK' λh1 hN=>jl rfl (jln (jeq hN)))
 refine z_V ?_;rw[ho];have fin:∀x:Int,0≤x→(x < n∨x = 0)→J R ((rb,C 121 [.slice a l cap,I (m + 1)]) :: F) (F8 R F (λv' R' A=>R' = R∧A = [(rb,rdO (.slice a l cap) (m + 1))]∧∃x,v' = I x∧0≤x∧(x < n∨x = 0)) (I x)):=λx x0 x1=>
  BC (RM.le.refl R) ⟨rfl,rfl,x,rfl,x0,x1⟩
 refine jif (λh0=>fin 0 ω (.inr rfl)) (λh0=>?_);simp only[Tp,decide_eq_false_iff_not,beq_eq_false_iff_ne] at h0;obtain⟨n1,l1⟩:=h0;have tm:∀x y:Int,0≤x→0 < y→0≤x.tmod y∧x.tmod y < y:=λx y hx hy=>⟨Int.tmod_nonneg y hx,Int.tmod_lt_of_pos x hy⟩
 refine jl rfl (jsu ?_);rw[show m + 1 - 1 = m from ω];refine jl rfl (jln (jlt (jif (λh1=>?_) (λh1=>?_))))
 ·have h1:=z_f h1;refine jl rfl (QB hf hm.1 h1 λq x x0 x1 hq=>(hq _ _ (@jcv _ _ _ _ ⟨ω,ω⟩ (NW ω ?_))));obtain⟨t0,t1⟩:=tm x n x0 ω;exact fin _ t0 (.inl t1)
 ·refine AY (λvs R' D'=>R' = R∧D' = (rb,C 121 [.slice a l cap,I (m + 1)]) :: F∧∃x:Int,0≤x∧x < 1000000000000∧vs = [I n,I x]) (λK hK=>?_) ?_
  ·obtain⟨k0,k1⟩:=tm m l hm.1 ω;obtain⟨k2,k3⟩:=tm (m * 7 + 3) l ω ω;have q0:0≤m.tdiv l:=Int.tdiv_nonneg hm.1 ω;have q1:m.tdiv l≤m:=by
    rw[Uw hm.1];exact Int.ediv_le_self _ hm.1
   refine jl rfl (jl rfl (jln (NW ω (QB hf k0 k1 λqa x x0 x1 hqa=>(hqa _ _ (jl rfl (FW ⟨ω,ω⟩ (jad (jl rfl (jln (NW ω (QB hf k2 k3 λqb y y0 y1 hqb=>(hqb _ _ (FW ⟨ω,ω⟩ (jl rfl (jln (Pk ω ⟨ω,ω⟩ (FW ⟨ω,ω⟩ (Ii ?_ (Fs ?_))))))))))))))))))))
   ·refine @jcv _ _ _ _ ⟨ω,ω⟩ (FW ⟨ω,ω⟩ (Aq (jl rfl jev) (Aq (jl rfl jev) (Aq (hqb _ _ jev) (Aq (jl rfl jev) (@jcv _ _ _ _ ⟨ω,ω⟩ (FW ⟨ω,ω⟩ (jad (jad (jad (Aq (jl rfl jev) (hK _ _ _ ⟨rfl,rfl,_,ω,ω,rfl⟩))))))))))))
   ·refine @jcv _ _ _ _ ⟨ω,ω⟩ (FW ⟨ω,ω⟩ (Aq (jl rfl jev) (Aq (jl rfl jev) (Aq (hqa _ _ jev) (Aq (jl rfl jev) (@jcv _ _ _ _ ⟨ω,ω⟩ (FW ⟨ω,ω⟩ (jad (jad (jad (Aq (jl rfl jev) (hK _ _ _ ⟨rfl,rfl,_,ω,ω,rfl⟩))))))))))))
  rintro e R1 D1 ⟨hR,hD,x,x0,x1,he⟩;subst hR;refine z_W ?_;have e1:x.tdiv 64 = x / 64:=Uw x0;refine Pk δ (by rw[e1];constructor<;>omega) ?_;rw[e1];refine TY ⟨x0,ω⟩ ⟨ω,ω⟩ λz z0 z1=>NW ω ?_
  obtain⟨t0,t1⟩:=tm z n z0 ω;exact fin _ t0 (.inl t1)
theorem jpk {R:RM} {D E:Chs} {rb:Nat} {v:Value} {n m:Int} {k:Value→M} (hb:Byt R v) (hm:0≤m∧m < 1000000000) [t:Tk D rb (rdO v m) E] (H:∀x,0≤x→(x < n∨x = 0)→J R ((rb,rdO v (m + 1)) :: E) (k (I x))) :
  J R D (CA P Dq [Pt rb,I n] k):=by
 refine jc (Rq hb hm) ?_;rintro _ _ _ _ ⟨rfl,rfl,x,rfl,x0,x1⟩;exact H x x0 x1
end Go.Lf
end
section
namespace Sm
variable {P:List (List Op)}
def thg (w:List Int) (a:Int):AV:=⟨a,wv w a,shp w a,seg w (a + 2) (shp w a).refs,seg w (a + 2 + (shp w a).refs) (shp w a).nums⟩
theorem Gg {n:Nat} {k:Nat} (h:n = 16 * k) (h0:2≤k) (h1:k≤12):BW n = true:=by
 subst h;simp only[BW,z_b,beq_iff_eq,z_d];omega
theorem Geo.wok {w:List Int} {t:List Rg} {B:Int→Prop} (G:Geo w t B):BW w.length = true:=by
 have h1:=G.len;exact Gg (k:=t.length) ω G.ok.n0 G.ok.n1
theorem Geo.fits {w:List Int} {t:List Rg} {B:Int→Prop} (G:Geo w t B) {a s:Int} (h:B a) (s0:1≤s) (s1:s≤sz w a):Sm.fits w.length a s = true:=by
 obtain⟨g1,g2,g3,g4,g5,g6,g7,g8⟩:=G.inn h;unfold Sm.fits;rw[G.wok,CH ω,CH ω];simp only[UT,z_b,z_d,beq_iff_eq];omega
theorem Geo.thing {w:List Int} {t:List Rg} {B:Int→Prop} (G:Geo w t B) {a:Int} (h:B a):Am w a = (thg w a,true):=by
 obtain⟨g1,g2,g3,g4,g5,g6,g7,g8⟩:=G.inn h;have e:w.getD (a.toNat + 1) 0 = wv w (a + 1):=by unfold wv gv;rw[show (a + 1).toNat = a.toNat + 1 from ω]
 unfold Am;rw[if_pos (G.fits h ω ω),e];dsimp only;rw[show AC (AN (wv w (a + 1))).1 = sz w a from rfl,(G.at_ a h).2.2,G.fits h ω (UI _)];rfl
theorem H9 {w:List Int} {t:List Rg} {B:Int→Prop} (G:Geo w t B) {r:Int} (r0:1≤r) (r1:r < t.length):∀(n:Nat) (a:Int),(a = (rv t r).top∨(B a∧a / 16 = r))→(rv t r).top - a≤2 * n→
  ∃l,Ag w n a (rv t r).top = some l∧(∀x∈l,B x.at_∧x = thg w x.at_)∧∀b,B b→b / 16 = r→a≤b→thg w b∈l:=by
 have T1:=(G.ok.row r r0 r1).t1;have T0:=(G.ok.row r r0 r1).t0;have below:∀b,B b→b / 16 = r→b < (rv t r).top:=λb hb hr=>by
  have g:=G.inn hb;rw[hr] at g;omega
 intro n;induction n with
 | zero=>
  intro a ha hn;have:¬ a < (rv t r).top:=ω
  unfold Ag;rw[if_neg this];exact⟨[],rfl,λx h=>(by cases h),λb hb hr hab=>by have:=below b hb hr;omega⟩
 | succ n ih=>
  intro a ha hn;unfold Ag;by_cases c:a < (rv t r).top
  ·have hB:B a∧a / 16 = r:=by rcases ha with h | h;omega;exact h
   obtain⟨g1,g2,g3,g4,g5,g6,g7,g8⟩:=G.inn hB.1;rw[hB.2] at g4;rw[if_pos c,G.thing hB.1];dsimp only;have es:AC (thg w a).sh = sz w a:=rfl;rw[es];rw[if_pos (by simpa using g4)];have nx:a + sz w a = (rv t r).top∨(B (a + sz w a)∧(a + sz w a) / 16 = r):=by
    by_cases h:a + sz w a = (rv t r).top
    ·exact .inl h
    ·right;rcases G.nx a hB.1 with h2 | h2
     ·rw[hB.2] at h2;exact absurd h2 h
     ·exact⟨h2,ω⟩
   obtain⟨l,e,h1,h2⟩:=ih (a + sz w a) nx ω;rw[e];refine⟨thg w a :: l,rfl,λx hx=>?_,λb hb hr hab=>?_⟩
   ·rcases Tv.1 hx with h | h
    ·subst h;exact⟨hB.1,rfl⟩
    ·exact h1 x h
   ·by_cases d:b = a
    ·subst d;simp
    ·have:=G.dj a b hB.1 hb ω;exact UN _ (h2 b hb hr this)
  ·rw[if_neg c];exact⟨[],rfl,λx h=>(by cases h),λb hb hr hab=>by have:=below b hb hr;omega⟩
theorem IW {w:List Int} {t:List Rg} {B:Int→Prop} (G:Geo w t B):∀(l:List Rg) (r:Nat),1≤r→r + l.length = t.length→(∀k (h:k < l.length),l[k] = rv t (r + k:Nat))→
  ∃out,BI w r l = some out∧(∀x∈out,B x.at_∧x = thg w x.at_)∧∀b,B b→(r:Int)≤b / 16→thg w b∈out:=by
 have n1:=G.ok.n1;have len:=G.len;intro l;induction l with
 | nil=>
  intro r r0 hl _;refine⟨[],rfl,λx h=>(by cases h),λb hb hr=>?_⟩;have g:=G.inn hb;simp only[Ug] at hl;omega
 | cons x l ih=>
  intro r r0 hl hk;simp only[U4] at hl;have hx:x = rv t r:=by have:=hk 0 σ;simpa using this
  have R:=G.ok.row r ω ω;have R0:=R.t0;have R1:=R.t1;have hb:=CT (r:=r) ω ω;obtain⟨a,e1,h1,h2⟩:=H9 G (r:=r) ω ω 16 (16 * (r:Int)) (by
   rcases G.bs r ω ω with h | h
   ·exact .inl h.symm
   ·exact .inr ⟨h,ω⟩) ω
  obtain⟨b,e2,h3,h4⟩:=ih (r + 1) ω ω λk h=>by
   have:=hk (k + 1) (by simpa using h);rw[show r + 1 + k = r + (k + 1) from ω];exact this
  have e3:BR w r x.top = some a:=by
   unfold BR;rw[G.wok,hx,hb,if_pos (by simp only[UT,z_b,z_d];omega)];exact e1
  refine⟨a ++ b,?_,λy hy=>?_,λy hy hr=>?_⟩
  ·unfold BI;rw[e3];simp only[];rw[e2]
  ·rcases U7.1 hy with h | h
   ·exact h1 y h
   ·exact h3 y h
  ·by_cases d:y / 16 = r
   ·exact UH _ (h2 y hy d ω)
   ·exact UQ _ (h4 y hy ω)
structure Thn (w:List Int) (B:Int→Prop) (l:List AV):Prop where
 all:∀x∈l,B x.at_∧x = thg w x.at_
 has:∀a,B a→thg w a∈l
theorem NL {s:Ah} {B:Int→Prop} (G:Geo s.A5 s.A0 B):∃l,BP s = some l∧Thn s.A5 B l:=by
 have n0:=G.ok.n0;obtain⟨l,e,h1,h2⟩:=IW G s.A0.tail 1 (z_n 1) (by simp;omega) λk h=>G6 h
 exact⟨l,e,h1,λa ha=>h2 a ha (by have:=G.inn ha;omega)⟩
theorem Thn.find {w:List Int} {B:Int→Prop} {l:List AV} (T:Thn w B l) {a:Int} (h:B a):CD l a = some (thg w a):=by
 unfold CD;cases hf:l.find? λt=>t.at_ == a with
 | none=>
  have:=List.find?_eq_none.1 hf _ (T.has a h);simp[thg] at this
 | some x=>
  have h1:=List.find?_some hf;have h2:=VC hf;have h3:x.at_ = a:=by simpa using h1
  rw[(T.all x h2).2,h3]
theorem Thn.now {w:List Int} {B:Int→Prop} {l:List AV} (T:Thn w B l) {a:Int} (h:a≠0→B a):now l a = some (if a = 0 then 0 else wv w a):=by
 unfold Sm.now;by_cases c:a = 0
 ·rw[if_pos c,if_pos c]
 ·rw[if_neg c,if_neg c,T.find (h c)];rfl
theorem Dn {α:Type} [DecidableEq α]:∀{xs ys:List α},xs.Nodup→(∀x∈xs,x∈ys)→xs.length≤ys.length:=by
 intro xs;induction xs with
 | nil=>intro ys _ _;simp
 | cons x r ih=>
  intro ys hn h;rw[Ux] at hn;have hx:=h x σ;have:=ih (ys:=ys.erase x) hn.2 λy hy=>by
   have hne:y≠x:=λc=>by subst c;exact hn.1 hy
   exact (List.mem_erase_of_ne hne).2 (h y (by simp[hy]))
  rw[List.length_erase_of_mem hx] at this;have:=List.length_pos_of_mem hx;simp;omega
section
variable {w:List Int} {B L:Int→Prop} {l:List AV}
structure Cur (w:List Int) (L:Int→Prop) (out:List Int):Prop where
 nd:out.Nodup
 cu:∀a∈out,L a∧wv w a = a
 nz:∀a∈out,a≠0
theorem Cur.put {out:List Int} (C:Cur w L out) {a:Int} (h:a≠0→L a∧wv w a = a):Cur w L (Cg out a)∧(∀b∈out,b∈Cg out a)∧(a≠0→a∈Cg out a)∧∃e,Cg out a = out ++ e:=by
 unfold Cg;by_cases c:a = 0∨a∈out
 ·rw[if_pos c];exact⟨C,λ_ h=>h,λh0=>by rcases c with c | c;exact absurd c h0;exact c,[],σ⟩
 ·rw[if_neg c];rw[not_or] at c;refine⟨⟨?_,λb hb=>?_,λb hb=>?_⟩,λb hb=>UH _ hb,λ_=>σ,[a],rfl⟩
  ·rw[List.nodup_append];exact⟨C.nd,σ,λx hx y hy=>by simp only[U2] at hy;subst hy;intro e;subst e;exact c.2 hx⟩
  ·rcases U7.1 hb with hb | hb
   ·exact C.cu b hb
   ·simp only[U2] at hb;subst hb;exact h c.1
  ·rcases U7.1 hb with hb | hb
   ·exact C.nz b hb
   ·simp only[U2] at hb;subst hb;exact c.1
theorem H8 (T:Thn w B l) (lb:∀a,L a→B a) (hL:∀a,L a→L (wv w a)∧wv w (wv w a) = wv w a):∀(xs out:List Int),(∀a∈xs,a≠0→L a)→Cur w L out→∃out',BX l xs out = some out'∧Cur w L out'∧(∀b∈out,b∈out')∧(∀a∈xs,a≠0→wv w a≠0→wv w a∈out')∧∃e,out' = out ++ e:=by
 intro xs;induction xs with
 | nil=>intro out _ C;exact⟨out,rfl,C,λ_ h=>h,λa h=>(by cases h),[],σ⟩
 | cons x r ih=>
  intro out h C;unfold BX;rw[T.now λh0=>lb x (h x σ h0)];simp only[Tm,z_o];obtain⟨C1,s1,m1,e1,he1⟩:=C.put (a:=if x = 0 then 0 else wv w x) λh0=>by
   by_cases c:x = 0
   ·rw[if_pos c] at h0;exact absurd rfl h0
   ·rw[if_neg c];exact hL x (h x σ c)
  obtain⟨out',e2,C2,s2,m2,e3,he3⟩:=ih _ (λa ha=>h a (by simp[ha])) C1;refine⟨out',e2,C2,λb hb=>s2 b (s1 b hb),λa ha h0 hw=>?_,e1 ++ e3,by rw[he3,he1,Tu]⟩;rcases Tv.1 ha with ha | ha
  ·subst ha;rw[if_neg h0] at m1;exact s2 _ (by have:=m1 hw;rw[if_neg h0];exact this)
  ·exact m2 a ha h0 hw
theorem Iv (T:Thn w B l) (lb:∀a,L a→B a) (hL:∀a,L a→L (wv w a)∧wv w (wv w a) = wv w a):∀(ts:List Th) (out:List Int),(∀t∈ts,∀a∈t.AA,a≠0→L a)→Cur w L out→∃out',Cz l ts out = some out'∧Cur w L out'∧(∀b∈out,b∈out')∧(∀t∈ts,∀a∈t.AA,a≠0→wv w a≠0→wv w a∈out'):=by
 intro ts;induction ts with
 | nil=>intro out _ C;exact⟨out,rfl,C,λ_ h=>h,λt h=>(by cases h)⟩
 | cons t r ih=>
  intro out h C;unfold Cz;obtain⟨o1,e1,C1,s1,m1,_⟩:=H8 T lb hL t.AA out (h t σ) C;rw[e1];simp only[Tm,z_o];obtain⟨o2,e2,C2,s2,m2⟩:=ih o1 (λu hu=>h u (by simp[hu])) C1;refine⟨o2,e2,C2,λb hb=>s2 b (s1 b hb),λu hu a ha h0 hw=>?_⟩;rcases Tv.1 hu with hu | hu
  ·subst hu;exact s2 _ (m1 a ha h0 hw)
  ·exact m2 u hu a ha h0 hw
theorem Nk:∀(ps out:List Int),(∀a∈ps,L a∧wv w a = a)→Cur w L out→Cur w L (ps.foldl Cg out)∧(∀b∈out,b∈ps.foldl Cg out)∧(∀a∈ps,a≠0→a∈ps.foldl Cg out):=by
 intro ps;induction ps with
 | nil=>intro out _ C;exact⟨C,λ_ h=>h,λa h=>(by cases h)⟩
 | cons x r ih=>
  intro out h C;obtain⟨C1,s1,m1,_⟩:=C.put (a:=x) λ_=>h x σ
  obtain⟨C2,s2,m2⟩:=ih _ (λa ha=>h a (by simp[ha])) C1;refine⟨C2,λb hb=>s2 b (s1 b hb),λa ha h0=>?_⟩;rcases Tv.1 ha with ha | ha
  ·subst ha;exact s2 _ (m1 h0)
  ·exact m2 a ha h0
theorem JS {w:List Int} {a n v:Int} (h0:0≤a) (h:v∈seg w a n):∃j,0≤j∧j < n∧wv w (a + j) = v:=by
 unfold seg at h;obtain⟨k,hk,e⟩:=UE h;simp only[UA,Ud] at hk;refine⟨k,ω,ω,?_⟩;rw[← e,List.getElem_take,List.getElem_drop];unfold wv gv;rw[show (a + (k:Int)).toNat = a.toNat + k from ω,Ty,Tl ω];rfl
theorem I3 (T:Thn w B l) (lb:∀a,L a→B a) (b16:∀a,B a→16≤a) (hL:∀a,L a→L (wv w a)∧wv w (wv w a) = wv w a) (rf:∀a j,L a→0≤j→j < (shp w a).refs→wv w (a + 2 + j)≠0→L (wv w (a + 2 + j))) :
  ∀(n i:Nat) (out:List Int),Cur w L out→l.length + 2≤i + n→i≤out.length→(∀k (h:k < out.length),k < i→∀v∈(thg w out[k]).refs,v≠0→wv w v≠0→wv w v∈out)→
  ∃out',BM l n i out = some out'∧Cur w L out'∧(∀b∈out,b∈out')∧∀a∈out',∀v∈(thg w a).refs,v≠0→wv w v≠0→wv w v∈out':=by
 intro n;induction n with
 | zero=>
  intro i out C hn hi _;exfalso;have:out.length≤(l.map AV.at_).length:=Dn C.nd λa ha=>UK.2 ⟨thg w a,T.has a (lb a (C.cu a ha).1),rfl⟩
  rw[Tr] at this;omega
 | succ n ih=>
  intro i out C hn hi hcl;unfold BM;by_cases c:i < out.length
  ·rw[Tl c];have hm:=C.cu out[i] (U6 c);simp only[Tm];rw[T.find (lb _ hm.1)];simp only[z_o];have h16:=b16 _ (lb _ hm.1);obtain⟨o1,e1,C1,s1,m1,e,he⟩:=H8 T lb hL (thg w out[i]).refs out (λv hv h0=>by
    obtain⟨j,j0,j1,hj⟩:=JS ω hv
    rw[← hj] at h0 ⊢
    exact rf _ j hm.1 j0 j1 h0) C
   rw[e1];simp only[z_o];have hlen:out.length≤o1.length:=by rw[he];simp
   obtain⟨o2,e2,C2,s2,m2⟩:=ih (i + 1) o1 C1 ω ω λk hk hki v hv h0 hw=>by
    have ek:o1[k] = out[k]'(ω):=by simp only[he];rw[V1]
    rw[ek] at hv;by_cases d:k = i
    ·subst d;exact m1 v hv h0 hw
    ·exact s1 _ (hcl k ω ω v hv h0 hw)
   exact⟨o2,e2,C2,λb hb=>s2 b (s1 b hb),m2⟩
  ·rw[UM ω];refine⟨out,rfl,C,λ_ h=>h,λa ha v hv h0 hw=>?_⟩;obtain⟨k,hk,rfl⟩:=UE ha;exact hcl k hk ω v hv h0 hw
theorem M5 {s:Ah} {L B:Int→Prop} {l:List AV} (T:Thn s.A5 B l) (lb:∀a,L a→B a) (b16:∀a,B a→16≤a) (hL:∀a,L a→L (wv s.A5 a)∧wv s.A5 (wv s.A5 a) = wv s.A5 a) (rf:∀a j,L a→0≤j→j < (shp s.A5 a).refs→wv s.A5 (a + 2 + j)≠0→L (wv s.A5 (a + 2 + j)))
  (ht:∀t∈s.AB,∀a∈t.AA,a≠0→L a) (hp:∀a∈s.AI,L a∧wv s.A5 a = a) :
  ∃out,DR s l = some out∧Cur s.A5 L out∧(∀a∈out,∀v∈(thg s.A5 a).refs,v≠0→wv s.A5 v∈out)∧(∀t∈s.AB,∀a∈t.AA,a≠0→wv s.A5 a∈out)∧(∀a∈s.AI,a∈out):=by
 have nz:∀a,L a→wv s.A5 a≠0:=λa ha=>by have:=b16 _ (lb _ (hL a ha).1);omega
 unfold DR;obtain⟨o1,e1,C1,s1,m1⟩:=Iv T lb hL s.AB [] ht ⟨σ,λa h=>(by cases h),λa h=>(by cases h)⟩;rw[e1];simp only[Tm,z_o];obtain⟨C2,s2,m2⟩:=Nk s.AI o1 hp C1;obtain⟨o3,e3,C3,s3,m3⟩:=I3 T lb b16 hL rf (l.length + 2) 0 _ C2 ω ω (λk _ h=>ω);refine⟨o3,e3,C3,λa ha v hv h0=>?_,λt h a ha h0=>s3 _ (s2 _ (m1 t h a ha h0 (nz a (ht t h a ha h0)))),λa ha=>s3 _ (m2 a ha (by have:=b16 a (lb a (hp a ha).1);omega))⟩;have hm:=(C3.cu a ha).1;have h16:=b16 _ (lb _ hm);obtain⟨j,j0,j1,hj⟩:=JS ω hv;have hv2:=rf _ j hm j0 j1 (by rw[hj];exact h0);rw[hj] at hv2;exact m3 a ha v hv h0 (nz v hv2)
end
end Sm
end
section
namespace Sm
variable {P:List (List Op)}
theorem LZ {l:List Int} {x:Int}:∀k,DC l x k≤k∧(∀j,DC l x k≤j→j < k→x < l.getD j 0)∧(0 < DC l x k→¬ x < l.getD (DC l x k - 1) 0):=by
 intro k;induction k with
 | zero=>exact⟨z_n 0,λj h h'=>ω,λh=>by simp[DC] at h⟩
 | succ k ih=>
  unfold DC;split
  ·obtain⟨h1,h2,h3⟩:=ih;refine⟨ω,λj hj hk=>?_,h3⟩;by_cases c:j = k
   ·subst c;assumption
   ·exact h2 j hj ω
  ·exact⟨z_n _,λj h h'=>ω,λ_=>by rw[Uz];assumption⟩
theorem O9 {l:List Int} {x:Int} (h:l.Pairwise (· < ·)) (hx:x ∉ l):(El l x).Pairwise (· < ·)∧∀y,y∈El l x↔y = x∨y∈l:=by
 obtain⟨h1,h2,h3⟩:=LZ (l:=l) (x:=x) l.length;unfold El;dsimp only;generalize DC l x l.length = p at h1 h2 h3;have gd:∀j (hj:j < l.length),l.getD j 0 = l[j]:=λj hj=>by rw[Ty,Tl hj];rfl
 have hpw:=List.pairwise_iff_getElem.1 h;constructor
 ·rw[List.pairwise_append];refine⟨h.sublist (List.take_sublist p l),?_,?_⟩
  ·rw[List.pairwise_cons];refine⟨λy hy=>?_,h.sublist (List.drop_sublist p l)⟩;obtain⟨k,hk,rfl⟩:=UE hy;simp only[Ud] at hk;rw[List.getElem_drop,← gd (p + k) ω];exact h2 _ ω ω
  ·intro a ha b hb;obtain⟨i,hi,rfl⟩:=UE ha;simp only[UA] at hi;rw[List.getElem_take];have hax:l[i] < x:=by
    have h4:=h3 ω;rw[gd (p - 1) ω] at h4;have h5:l[i]≤l[p - 1]'(ω):=by
     by_cases c:i = p - 1
     ·subst c;exact UI _
     ·have:=hpw i (p - 1) ω ω ω;omega
    have h6:l[i]≠x:=λc=>hx (c▸U6 ω)
    omega
   rcases Tv.1 hb with hb | hb
   ·rw[hb];exact hax
   ·obtain⟨k,hk,rfl⟩:=UE hb;simp only[Ud] at hk;rw[List.getElem_drop,← gd (p + k) ω];have:=h2 (p + k) ω ω;omega
 ·intro y;have:y∈l↔y∈l.take p∨y∈l.drop p:=by rw[← U7,V9]
  rw[U7,Tv,this];constructor
  ·rintro (h | h | h)
   ·exact .inr (.inl h)
   ·exact .inl h
   ·exact .inr (.inr h)
  ·rintro (h | h | h)
   ·exact .inr (.inl h)
   ·exact .inl h
   ·exact .inr (.inr h)
theorem Ku {l:List Int} (h:l.Nodup):(Ch l).Pairwise (· < ·)∧∀y,y∈Ch l↔y∈l:=by
 have:∀(l acc:List Int),l.Nodup→acc.Pairwise (· < ·)→(∀x∈l,x ∉ acc)→(l.foldl El acc).Pairwise (· < ·)∧∀y,y∈l.foldl El acc↔y∈l∨y∈acc:=by
  intro l;induction l with
  | nil=>intro acc _ h _;exact⟨h,λy=>σ⟩
  | cons x r ih=>
   intro acc hn h hd;rw[Ux] at hn;obtain⟨i1,i2⟩:=O9 h (hd x σ);obtain⟨j1,j2⟩:=ih (El acc x) hn.2 i1 λy hy hm=>by
    rcases (i2 y).1 hm with c | c
    ·subst c;exact hn.1 hy
    ·exact hd y (by simp[hy]) c
   refine⟨j1,λy=>?_⟩;rw[V2,j2 y,i2 y,Tv];constructor
   ·rintro (h | h | h)
    ·exact .inl (.inr h)
    ·exact .inl (.inl h)
    ·exact .inr h
   ·rintro ((h | h) | h)
    ·exact .inr (.inl h)
    ·exact .inl h
    ·exact .inr (.inr h)
 obtain⟨h1,h2⟩:=this l [] h List.Pairwise.nil (λ_ _ h=>by cases h);exact⟨h1,λy=>by rw[Ch,h2 y];simp⟩
theorem J6 {w:List Int} {a v:Int} (h0:0≤a) (h1:a < w.length):wr w a v = some (AM w a v):=by unfold wr;rw[if_pos ⟨h0,h1⟩]
theorem L6:∀(vs w:List Int) (a:Int),0≤a→a + vs.length≤w.length→∃w',wrs w a vs = some w'∧w'.length = w.length∧∀x,0≤x→(x < a∨a + vs.length≤x)→wv w' x = wv w x:=by
 intro vs;induction vs with
 | nil=>intro w a _ _;exact⟨w,rfl,rfl,λ_ _ _=>rfl⟩
 | cons v r ih=>
  intro w a h0 h1;simp only[U4] at h1;unfold wrs;rw[J6 h0 ω];simp only[Tm,z_o];obtain⟨w',e,hl,hw⟩:=ih (AM w a v) (a + 1) ω (by simp;omega);refine⟨w',e,by rw[hl];simp,λx x0 hx=>?_⟩;simp only[U4] at hx;rw[hw x x0 ω,Co h0 ω x0,if_neg ω]
theorem HF {w:List Int} {a n:Int} (h0:0≤a) (hn:0≤n) (h1:a + n≤w.length):((seg w a n).length:Int) = n:=by
 unfold seg;simp only[UA,Ud];omega
def Hd (w W:List Int) (f:Int→Shp) (b:Int):Prop:=wv w b = b∧wv w (b + 1) = Ab (f b)
theorem Ph (w:List Int) (a:Int):Ao (shp w a) = true:=by
 have:=Dp w a;simp[Ao];omega
section
variable {s:Ah} {B0:Int→Prop}
theorem Nj (G:Geo s.A5 s.A0 B0):∀(l:List AV) (w:List Int) (t:List Rg),(∀x∈l,B0 x.at_∧x = thg s.A5 x.at_)→w.length = s.A5.length→t.length = s.A0.length→
  ∃w' t',stay s l w t = some (w',t')∧w'.length = s.A5.length∧t'.length = s.A0.length∧
   (∀b,B0 b→BE s.AI (b / 16) = true→(thg s.A5 b∈l∨Hd w s.A5 (shp s.A5) b)→Hd w' s.A5 (shp s.A5) b)∧
   (∀b j,B0 b→0≤j→j < (shp s.A5 b).refs→wv w' (b + 2 + j) = wv w (b + 2 + j))∧
   (∀x,0≤x→BE s.AI (x / 16) = false→wv w' x = wv w x)∧
   (∀r:Int,0≤r→rv t' r = if BE s.AI r = true∧∃x∈l,x.at_ / 16 = r then ⟨3,-1,(rv s.A0 r).top,(rv s.A0 r).top,0⟩ else rv t r):=by
 intro l;induction l with
 | nil=>
  intro w t _ hw ht;refine⟨w,t,rfl,hw,ht,λb _ _ h=>?_,λ_ _ _ _ _=>rfl,λ_ _ _=>rfl,λr _=>by rw[if_neg (by rintro⟨_,x,hx,_⟩;cases hx)]⟩;rcases h with h | h
  ·cases h
  ·exact h
 | cons x l ih=>
  intro w t hx hw ht;obtain⟨hB,he⟩:=hx x σ;have hxl:∀y∈l,B0 y.at_∧y = thg s.A5 y.at_:=λy hy=>hx y (by simp[hy])
  obtain⟨g1,g2,g3,g4,g5,g6,g7,g8⟩:=G.inn hB;have sb:=Dp s.A5 x.at_;have hsh:x.sh = shp s.A5 x.at_:=by rw[he];rfl
  have hrf:((x.refs.length:Nat):Int) = (shp s.A5 x.at_).refs:=by
   rw[he];exact HF (by show 0≤x.at_ + 2;omega) ω (by show x.at_ + 2 + (shp s.A5 x.at_).refs≤_;omega)
  have hnm:((x.nums.length:Nat):Int) = (shp s.A5 x.at_).nums:=by
   rw[he];exact HF (by show 0≤x.at_ + 2 + (shp s.A5 x.at_).refs;omega) ω (by show x.at_ + 2 + (shp s.A5 x.at_).refs + (shp s.A5 x.at_).nums≤_;omega)
  unfold stay;dsimp only;rw[CH ω];by_cases hh:BE s.AI (x.at_ / 16) = true
  ·rw[if_pos hh,J6 ω ω];simp only[Tm,z_o];rw[J6 ω (by simp;omega)];simp only[z_o];obtain⟨w3,e3,l3,h3⟩:=L6 x.nums (AM (AM w x.at_ x.at_) (x.at_ + 1) (Ab x.sh)) (x.at_ + 2 + x.refs.length) ω (by simp;omega);rw[e3];simp only[z_o];rw[CJ ω g3,CJ (l:=t) ω ω];simp only[z_o];simp only[CP] at l3;obtain⟨w',t',e,hl,htl,k1,k2,k3,k4⟩:=ih w3 (AM t (x.at_ / 16) ⟨3,-1,(rv s.A0 (x.at_ / 16)).top,(rv s.A0 (x.at_ / 16)).top,0⟩) hxl ω (by simpa using ht);have w3v:∀y,0≤y→(y < x.at_ + 2 + x.refs.length∨x.at_ + 2 + x.refs.length + x.nums.length≤y)→wv w3 y = if y = x.at_ + 1 then Ab x.sh else if y = x.at_ then x.at_ else wv w y:=λy y0 hy=>by
    rw[h3 y y0 hy,Co ω (by simp;omega) y0];split
    ·rfl
    ·rw[Co ω ω y0]
   refine⟨w',t',e,hl,htl,λb hb hbh h=>?_,λb j hb j0 j1=>?_,λy y0 hy=>?_,λr r0=>?_⟩
   ·refine k1 b hb hbh ?_;by_cases c:b = x.at_
    ·right;subst c;refine⟨?_,?_⟩
     ·rw[w3v _ ω ω,if_neg ω,if_pos rfl]
     ·rw[w3v _ ω ω,if_pos rfl,hsh]
    ·rcases h with h | h
     ·rcases Tv.1 h with h | h
      ·exact absurd (by rw[← h];rfl) c
      ·exact .inl h
     ·right;have gb:=G.inn hb;have s1:∀k,0≤k→k < sz s.A5 x.at_→b≠x.at_ + k:=λk k0 k1 hk=>c (sep G hb hB (k:=0) (l:=k) ω ω k0 k1 ω).1
      have s2:∀k,0≤k→k < sz s.A5 x.at_→b + 1≠x.at_ + k:=λk k0 k1 hk=>c (sep G hb hB (k:=1) (l:=k) ω ω k0 k1 ω).1
      refine⟨?_,?_⟩
      ·rw[w3v b ω (by
        have:=s1 (b - x.at_)
        omega),if_neg (by have:=s1 1 ω ω;omega),if_neg c]
       exact h.1
      ·rw[w3v (b + 1) ω (by
        have:=s2 (b + 1 - x.at_)
        omega),if_neg ω,if_neg (by have:=s2 0 ω ω;omega)]
       exact h.2
   ·rw[k2 b j hb j0 j1];have gb:=G.inn hb;have sbb:=Dp s.A5 b;have s1:∀k,0≤k→k < sz s.A5 x.at_→b + 2 + j = x.at_ + k→b = x.at_∧2 + j = k:=λk k0 k1 hk=>sep G hb hB (k:=2 + j) (l:=k) ω ω k0 k1 ω
    rw[w3v _ ω ?_,if_neg ?_,if_neg ?_]
    ·intro h;have:=s1 0 ω ω ω;omega
    ·intro h;have:=s1 1 ω ω ω;omega
    ·by_cases c:x.at_ + 2 + x.refs.length≤b + 2 + j∧b + 2 + j < x.at_ + 2 + x.refs.length + x.nums.length
     ·exfalso;have:=s1 (b + 2 + j - x.at_) ω ω ω;have e1:=this.1;subst e1;omega
     ·omega
   ·rw[k3 y y0 hy];have hne:y / 16≠x.at_ / 16:=λc=>by rw[c,hh] at hy;cases hy
    rw[w3v y y0 ω,if_neg ω,if_neg ω]
   ·rw[k4 r r0,Cv ω ω r0];by_cases c:r = x.at_ / 16
    ·subst c;rw[if_pos rfl,if_pos (show BE s.AI (x.at_ / 16) = true∧∃y∈x :: l,y.at_ / 16 = x.at_ / 16 from ⟨hh,x,Us,rfl⟩)];split<;>rfl
    ·rw[if_neg c];by_cases d:BE s.AI r = true∧∃y∈l,y.at_ / 16 = r
     ·rw[if_pos d,if_pos ⟨d.1,by obtain⟨y,hy,hr⟩:=d.2;exact⟨y,by simp[hy],hr⟩⟩]
     ·rw[if_neg d,if_neg (by
       rintro⟨d1,y,hy,hr⟩
       rcases Tv.1 hy with hy | hy
       ·subst hy;exact c hr.symm
       ·exact d ⟨d1,y,hy,hr⟩)]
  ·rw[if_neg hh];obtain⟨w',t',e,hl,htl,k1,k2,k3,k4⟩:=ih w t hxl hw ht;refine⟨w',t',e,hl,htl,λb hb hbh h=>k1 b hb hbh ?_,k2,k3,λr r0=>?_⟩
   ·rcases h with h | h
    ·rcases Tv.1 h with h | h
     ·exfalso;have:b = x.at_:=by rw[← h];rfl
      subst this;exact hh hbh
     ·exact .inl h
    ·exact .inr h
   ·rw[k4 r r0];by_cases d:BE s.AI r = true∧∃y∈l,y.at_ / 16 = r
    ·rw[if_pos d,if_pos ⟨d.1,by obtain⟨y,hy,hr⟩:=d.2;exact⟨y,by simp[hy],hr⟩⟩]
    ·rw[if_neg d,if_neg (by
      rintro⟨d1,y,hy,hr⟩
      rcases Tv.1 hy with hy | hy
      ·subst hy;rw[hr] at hh;exact hh d1
      ·exact d ⟨d1,y,hy,hr⟩)]
end
end Sm
end
section
namespace Sm
variable {P:List (List Op)}
structure Iz (f:Int→Shp) (t:List Rg) (B:Int→Prop):Prop where
 ok:TOk t
 at_:∀a,B a→16≤a∧a + AC (f a)≤(rv t (a / 16)).top∧Ao (f a) = true
 nx:∀a,B a→a + AC (f a) = (rv t (a / 16)).top∨B (a + AC (f a))
 bs:∀r:Int,1≤r→r < t.length→(rv t r).top = 16 * r∨B (16 * r)
 dj:∀a b,B a→B b→a < b→a + AC (f a)≤b
theorem EG {s:Shp} (h:Ao s = true):2≤AC s∧AC s≤10∧AC s = 2 + s.refs + s.nums∧0≤s.refs∧0≤s.nums:=by
 have hb:=h;simp only[Ao,z_b,z_d] at hb;rw[If ω];omega
theorem Iz.inn {f:Int→Shp} {t:List Rg} {B:Int→Prop} (G:Iz f t B) {a:Int} (h:B a):16≤a∧1≤a / 16∧a / 16 < t.length∧a + AC (f a)≤(rv t (a / 16)).top∧(rv t (a / 16)).top≤16 * (a / 16) + 16∧2≤AC (f a)∧AC (f a)≤10∧a + AC (f a)≤16 * t.length:=by
 obtain⟨h1,h2,h3⟩:=G.at_ a h;have hs:=EG h3;by_cases c:a / 16 < t.length
 ·have:=(G.ok.row (a / 16) ω c).t1;exact⟨h1,ω,c,h2,this,ω,ω,ω⟩
 ·rw[Cn ω ω] at h2;simp only[DY] at h2;omega
theorem Iz.add {f:Int→Shp} {t:List Rg} {B:Int→Prop} (G:Iz f t B) {r d:Int} {sh:Shp} (r0:1≤r) (r1:r < t.length) (hd:(rv t r).top = d) (ho:(rv t r).AR = -1) (hs:Ao sh = true) (fit:d + AC sh≤16 * r + 16) :
  Iz (λx=>if x = d then sh else f x) (AM t r { rv t r with kind:=3,top:=d + AC sh,Al:=d + AC sh }) (λb=>B b∨b = d)∧¬ B d∧d / 16 = r:=by
 have R:=G.ok.row r r0 r1;have t0:=R.t0;have n:=EG hs;have ed:d / 16 = r:=ω
 have nb:∀b,B b→b / 16 = r→b + AC (f b)≤d:=λb hb hr=>by
  have:=(G.at_ b hb).2.1;rw[hr,hd] at this;exact this
 have nd:¬ B d:=λh=>by
  have h1:=nb d h ed;have h2:=EG (G.at_ d h).2.2;omega
 have fb:∀b,B b→(if b = d then sh else f b) = f b:=λb hb=>if_neg (show ¬ b = d from λc=>nd (c▸hb))
 have e:∀q,0≤q→(rv (AM t r { rv t r with kind:=3,top:=d + AC sh,Al:=d + AC sh }) q).top = if q = r then d + AC sh else (rv t q).top:=λq q0=>by
  rw[Cv ω r1 q0];split
  ·rfl
  ·rfl
 refine⟨⟨?_,?_,?_,?_,?_⟩,nd,ed⟩
 ·refine TOk.set G.ok r0 r1 ⟨σ,σ,?_,fit,?_,UI _,R.l0,?_,λh=>by simp at h,by simp[ho],R.o0,R.o1⟩ λs _ _ _ h=>by simp[ho] at h
  ·show 16 * r≤d + AC sh;omega
  ·show 16 * r≤d + AC sh;omega
  ·have:=R.l1;show (rv t r).AH≤d + AC sh - 16 * r;omega
 ·rintro b (hb | hb)
  ·obtain⟨a1,a2,a3⟩:=G.at_ b hb;simp only[fb b hb];refine⟨a1,?_,a3⟩;rw[e _ ω];split
   ·have:=nb b hb (by assumption);omega
   ·exact a2
  ·subst hb;simp only[if_true];refine⟨ω,?_,hs⟩;rw[e _ ω,if_pos ed];omega
 ·rintro b (hb | hb)
  ·have a1:=(G.at_ b hb).1;simp only[fb b hb];rw[e _ ω];rcases G.nx b hb with c | c
   ·split
    ·rename_i c2;rw[c2,hd] at c;exact .inr (.inr c)
    ·exact .inl c
   ·exact .inr (.inl c)
  ·subst hb;left;simp only[if_true];rw[e _ ω,if_pos ed]
 ·intro q q0 q1;simp only[CP] at q1;rw[e q ω];rcases G.bs q q0 q1 with c | c
  ·split
   ·rename_i c2;subst c2;right;right;omega
   ·exact .inl c
  ·exact .inr (.inl c)
 ·rintro a b (ha | ha) (hb | hb) hab
  ·simp only[fb a ha];exact G.dj a b ha hb hab
  ·subst hb;simp only[fb a ha];by_cases c:a / 16 = r
   ·exact nb a ha c
   ·have:=G.inn ha;omega
  ·subst ha;simp only[if_true];by_cases c:b / 16 = r
   ·have h1:=nb b hb c;have h2:=EG (G.at_ b hb).2.2;omega
   ·omega
  ·omega
theorem MI {AI:List Int} {t:List Rg} {size R:Int} (T:TOk t) (s0:2≤size) (s1:size≤10) (hR:BE AI R = false) (R1:R < t.length) (fit:(rv t R).top + size≤16 * R + 16):∀(n:Nat) (r:Int),1≤r→r≤R→R - r < n→
  ∃r',FM AI t size n r = some r'∧r≤r'∧r'≤R∧BE AI r' = false∧(rv t r').top + size≤16 * r' + 16:=by
 have n1:=T.n1;intro n;induction n with
 | zero=>intro r _ _ h;omega
 | succ n ih=>
  intro r r0 r1 hn;unfold FM;have RR:=T.row r r0 ω;have t0:=RR.t0;have t1:=RR.t1;by_cases hh:BE AI r = true
  ·rw[if_pos hh];have:r≠R:=λc=>by rw[c,hR] at hh;cases hh
   obtain⟨r',e,h1,h2,h3⟩:=ih (r + 1) ω ω ω;exact⟨r',e,ω,h2,h3⟩
  ·rw[if_neg hh,CJ ω ω];simp only[Tm,z_o];rw[Av ω ω,CT ω ω];simp only[z_o];by_cases c:16 * r + 16 < (rv t r).top + size
   ·rw[if_pos c];have:r≠R:=λc2=>by rw[c2] at c;omega
    obtain⟨r',e,h1,h2,h3⟩:=ih (r + 1) ω ω ω;exact⟨r',e,ω,h2,h3⟩
   ·rw[if_neg c];exact⟨r,rfl,UI r,r1,by simpa using hh,ω⟩
theorem Lo {AI:List Int} {l:List AV} {W:List Int} {T0:List Rg} {B0:Int→Prop} (T:Thn W B0 l) (G0:Geo W T0 B0):∀(la:List Int) (t:List Rg) (r:Int) (to:List Int) (f:Int→Shp) (B:Int→Prop),
  (∀a∈la,B0 a)→la.Pairwise (· < ·)→Iz f t B→t.length = T0.length→1≤r→(∀q:Int,1≤q→q < t.length→(rv t q).AR = -1)→(∀q:Int,0≤q→(rv t q).kind≠4)→(∀q:Int,r < q→q < t.length→BE AI q = false→(rv t q).top = 16 * q)→
  (∀a∈la,BE AI (a / 16) = false→r≤a / 16∧(r = a / 16→(rv t r).top≤a))→(∀a∈la,BE AI (a / 16) = true→B a∧f a = shp W a)→
  ∃t' to' f' B',slide AI l la t r to = some (t',to ++ to')∧to'.length = la.length∧Iz f' t' B'∧t'.length = t.length∧(∀q:Int,0≤q→(rv t' q).kind≠4)∧(∀b,B b→B' b∧f' b = f b)∧(∀b,B' b→B b∨(b∈to'∧BE AI (b / 16) = false))∧
   (∀p∈la.zip to',B' p.2∧f' p.2 = shp W p.1∧(BE AI (p.1 / 16) = true→p.2 = p.1)):=by
 intro la;induction la with
 | nil=>
  intro t r to f B _ _ G _ _ _ nf _ _ _;exact⟨t,[],f,B,by simp[slide],rfl,G,rfl,nf,λb h=>⟨h,rfl⟩,λb h=>.inl h,λp h=>(by simp at h)⟩
 | cons a la ih=>
  intro t r to f B hB hpw G hl r0 ho nf h1 h3 h4;rw[List.pairwise_cons] at hpw;have hBa:=hB a σ;obtain⟨g1,g2,g3,g4,g5,g6,g7,g8⟩:=G0.inn hBa;have n1:=G.ok.n1;unfold slide;rw[T.find hBa];simp only[Tm,z_o];have es:AC (thg W a).sh = sz W a:=rfl;rw[es,CH ω];cases hh:BE AI (a / 16) with
  | true=>
   rw[if_pos rfl];obtain⟨hb,hf⟩:=h4 a σ hh;obtain⟨t',to',f',B',e,k1,k2,k3,k4,k5,k6,k7⟩:=ih t r (to ++ [a]) f B (λb hb=>hB b (by simp[hb])) hpw.2 G hl r0 ho nf h1 (λb hb=>h3 b (by simp[hb])) (λb hb=>h4 b (by simp[hb]));refine⟨t',a :: to',f',B',by rw[e];simp,by simp[k1],k2,k3,k4,k5,λb hb=>?_,λp hp=>?_⟩
   ·rcases k6 b hb with h | h
    ·exact .inl h
    ·exact .inr ⟨by simp[h.1],h.2⟩
   ·rw[List.zip_cons_cons] at hp;rcases Tv.1 hp with hp | hp
    ·subst hp;exact⟨(k5 a hb).1,by rw[(k5 a hb).2,hf],λ_=>rfl⟩
    ·exact k7 p hp
  | false=>
   rw[if_neg δ];obtain⟨q1,q2⟩:=h3 a σ hh;have fitR:(rv t (a / 16)).top + sz W a≤16 * (a / 16) + 16:=by
    by_cases c:r = a / 16
    ·have:=q2 c;rw[← c];rw[← c] at g4 g5;omega
    ·have:=h1 (a / 16) ω ω hh;omega
   obtain⟨r',e1,p1,p2,p3,p4⟩:=MI (size:=sz W a) G.ok ω ω hh ω fitR (t.length + 2) r r0 q1 ω;rw[e1];simp only[z_o];have R:=G.ok.row r' ω ω;have t0:=R.t0;rw[CJ ω ω];simp only[z_o];rw[Av ω ω];simp only[z_o];have hsz:AC (shp W a) = sz W a:=rfl;obtain⟨G2,nd,ed⟩:=G.add (r:=r') (sh:=shp W a) ω ω rfl (ho r' ω ω) (Ph W a) (by rw[hsz];exact p4);rw[hsz] at G2;have tle:(rv t r').top≤a∨r' < a / 16:=by
    by_cases c:r' = a / 16
    ·left;by_cases c2:r = r'
     ·subst c2;exact q2 c
     ·have:=h1 r' ω ω p3;omega
    ·right;omega
   have et:∀q,0≤q→rv (AM t r' { rv t r' with kind:=3,top:=(rv t r').top + sz W a,Al:=(rv t r').top + sz W a }) q = if q = r' then { rv t r' with kind:=3,top:=(rv t r').top + sz W a,Al:=(rv t r').top + sz W a } else rv t q:=λq q0=>Cv ω ω q0
   obtain⟨t',to',f',B',e,k1,k2,k3,k4,k5,k6,k7⟩:=ih _ r' (to ++ [(rv t r').top]) _ _ (λb hb=>hB b (by simp[hb])) hpw.2 G2 (by simpa using hl) ω (λq q0 q1=>by
     rw[et q ω];split
     ·exact ho r' ω ω
     ·exact ho q q0 (by simpa using q1)) (λq q0=>by
     rw[et q q0];split
     ·simp
     ·exact nf q q0) (λq q0 q1 hq=>by
     rw[et q ω,if_neg ω]
     exact h1 q ω (by simpa using q1) hq) (λb hb hbh=>by
     have hBb:=hB b (by simp[hb])
     have hab:=hpw.1 b hb
     have hdj:=G0.dj a b hBa hBb hab
     refine⟨ω,λhr=>?_⟩
     rw[et r' ω,if_pos rfl]
     show (rv t r').top + sz W a≤b
     rcases tle with h | h
     ·omega
     ·omega) (λb hb hbh=>by
     obtain⟨c1,c2⟩:=h4 b (by simp[hb]) hbh
     refine⟨.inl c1,?_⟩
     have:b≠(rv t r').top:=λc=>nd (c▸c1)
     simp only[if_neg this];exact c2)
   refine⟨t',(rv t r').top :: to',f',B',by rw[e];simp,by simp[k1],k2,by rw[k3];simp,k4,λb hb=>?_,λb hb=>?_,λp hp=>?_⟩
   ·obtain⟨c1,c2⟩:=k5 b (.inl hb);refine⟨c1,?_⟩;have:b≠(rv t r').top:=λc=>nd (c▸hb)
    rw[c2];simp only[if_neg this]
   ·rcases k6 b hb with (h | h) | h
    ·exact .inl h
    ·exact .inr ⟨by simp[h],by rw[h,ed];exact p3⟩
    ·exact .inr ⟨by simp[h.1],h.2⟩
   ·rw[List.zip_cons_cons] at hp;rcases Tv.1 hp with hp | hp
    ·subst hp;obtain⟨c1,c2⟩:=k5 (rv t r').top (.inr rfl);refine⟨c1,by rw[c2];simp,λh=>by rw[hh] at h;cases h⟩
    ·exact k7 p hp
theorem Dc {l:List Int} {n:Int}:(n∈l→0≤BV l n∧BV l n < l.length)∧(n ∉ l→BV l n = -1):=by
 unfold BV;constructor
 ·intro h;rw[if_pos h];have:=List.idxOf_lt_length_of_mem h;omega
 ·intro h;rw[if_neg h]
theorem MZ {l:List AV} {AH to:List Int} (hlen:to.length = AH.length):∀(vs w:List Int) (a:Int),(∀v∈vs,∃u,now l v = some u)→0≤a→a + vs.length≤w.length→
  ∃w',FF l AH to w a vs = some w'∧w'.length = w.length∧(∀x,0≤x→(x < a∨a + vs.length≤x)→wv w' x = wv w x)∧(∀x,a≤x→x < a + vs.length→wv w' x = wv w x∨wv w' x∈to):=by
 intro vs;induction vs with
 | nil=>intro w a _ _ _;exact⟨w,rfl,rfl,λ_ _ _=>rfl,λx h h'=>by simp at h';omega⟩
 | cons v r ih=>
  intro w a hv h0 h1;simp only[U4] at h1;obtain⟨u,hu⟩:=hv v σ;unfold FF;rw[hu];simp only[Tm,z_o];have step:∀w1:List Int,w1.length = w.length→(∀x,0≤x→x≠a→wv w1 x = wv w x)→(wv w1 a = wv w a∨wv w1 a∈to)→∃w',FF l AH to w1 (a + 1) r = some w'∧w'.length = w.length∧(∀x,0≤x→(x < a∨a + (v :: r).length≤x)→wv w' x = wv w x)∧(∀x,a≤x→x < a + (v :: r).length→wv w' x = wv w x∨wv w' x∈to):=λw1 hl1 e1 e2=>by
   obtain⟨w',e,hl,k1,k2⟩:=ih w1 (a + 1) (λu hu=>hv u (by simp[hu])) ω ω;refine⟨w',e,ω,λx x0 hx=>?_,λx x0 hx=>?_⟩
   ·simp only[U4] at hx;rw[k1 x x0 ω,e1 x x0 ω]
   ·simp only[U4] at hx;by_cases c:x = a
    ·subst c;rw[k1 x h0 ω];exact e2
    ·rcases k2 x ω ω with h | h
     ·left;rw[h,e1 x ω c]
     ·exact .inr h
  by_cases c:0≤BV AH u
  ·rw[if_pos c];have hm:u∈AH:=Classical.byContradiction λh=>by have:=Dc.2 h;omega
   have hp:=(Dc (l:=AH)).1 hm;obtain⟨d,hd,hdm⟩:=EB (l:=to) (i:=BV AH u) ⟨hp.1,by rw[hlen];exact hp.2⟩;rw[hd];simp only[z_o];rw[J6 h0 ω];simp only[z_o];refine step _ σ (λx x0 hx=>by rw[Co h0 ω x0,if_neg hx]) (.inr ?_);rw[Co h0 ω h0,if_pos rfl];exact hdm
  ·rw[if_neg c];simp only[z_o];exact step w rfl (λ_ _ _=>rfl) (.inl rfl)
end Sm
end
section
namespace Sm
variable {P:List (List Op)}
theorem MV {l:List AV} {AH to W:List Int} {T0 t' : List Rg} {B0 B' : Int→Prop} {f:Int→Shp} (T:Thn W B0 l) (G0:Geo W T0 B0) (G:Iz f t' B') (hlen:to.length = AH.length):∀(la ld w:List Int),la.length = ld.length→
  (∀p∈la.zip ld,B' p.2∧f p.2 = shp W p.1∧B0 p.1∧∀v∈(thg W p.1).refs,∃u,now l v = some u)→(w.length:Int) = 16 * t'.length→(∀b j,B' b→0≤j→j < (f b).refs→wv w (b + 2 + j) = 0∨wv w (b + 2 + j)∈to)→
  ∃w',Em l AH to la ld w = some w'∧w'.length = w.length∧(∀b j,B' b→0≤j→j < (f b).refs→wv w' (b + 2 + j) = 0∨wv w' (b + 2 + j)∈to)∧(∀b,B' b→Hd w W f b→Hd w' W f b)∧(∀d∈ld,Hd w' W f d):=by
 intro la;induction la with
 | nil=>
  intro ld w hl _ _ rf;cases ld with
  | nil=>exact⟨w,rfl,rfl,rf,λ_ _ h=>h,λd h=>(by cases h)⟩
  | cons _ _=>simp at hl
 | cons a la ih=>
  intro ld w hl hp wl rf;cases ld with
  | nil=>simp at hl
  | cons d ld=>
   rw[List.zip_cons_cons] at hp;obtain⟨hB,hf,hB0,hv⟩:=hp (a,d) σ;simp only at hB hf hB0 hv;obtain⟨g1,g2,g3,g4,g5,g6,g7,g8⟩:=G.inn hB;have o1:=EG (G.at_ d hB).2.2;have i0:=G0.inn hB0;have sb:=Dp W a;have hrl:(((thg W a).refs.length:Nat):Int) = (f d).refs:=by
    rw[hf];exact HF ω ω ω
   have hnl:(((thg W a).nums.length:Nat):Int) = (f d).nums:=by
    rw[hf];exact HF ω ω ω
   unfold Em;rw[T.find hB0];simp only[Tm,z_o];rw[J6 ω ω];simp only[z_o];rw[J6 ω (by simp;omega)];simp only[z_o];have esh:(thg W a).sh = f d:=by rw[hf];rfl
   rw[esh];obtain⟨w3,e3,l3,k3,m3⟩:=MZ (l:=l) (AH:=AH) hlen (thg W a).refs (AM (AM w d d) (d + 1) (Ab (f d))) (d + 2) hv ω (by simp;omega);rw[e3];simp only[z_o];simp only[CP] at l3;obtain⟨w4,e4,l4,k4⟩:=L6 (thg W a).nums w3 (d + 2 + (thg W a).refs.length) ω ω;rw[e4];simp only[z_o];have v2:∀x,0≤x→wv (AM (AM w d d) (d + 1) (Ab (f d))) x = if x = d + 1 then Ab (f d) else if x = d then d else wv w x:=λx x0=>by
    rw[Co ω (by simp;omega) x0];split
    ·rfl
    ·rw[Co ω ω x0]
   have out:∀x,0≤x→(x < d∨d + AC (f d)≤x)→wv w4 x = wv w x:=λx x0 hx=>by
    rw[k4 x x0 ω,k3 x x0 ω,v2 x x0,if_neg ω,if_neg ω]
   have hd:Hd w4 W f d:=by
    refine⟨?_,?_⟩
    ·rw[k4 d ω ω,k3 d ω ω,v2 d ω,if_neg ω,if_pos rfl]
    ·rw[k4 _ ω ω,k3 _ ω ω,v2 _ ω,if_pos rfl]
   have apart:∀b k,B' b→b≠d→0≤k→k < AC (f b)→b + k < d∨d + AC (f d)≤b + k:=λb k hb hne k0 k1=>by
    rcases Int.lt_trichotomy b d with h | h | h
    ·have:=G.dj b d hb hB h;omega
    ·exact absurd h hne
    ·have:=G.dj d b hB hb h;omega
   have rf4:∀b j,B' b→0≤j→j < (f b).refs→wv w4 (b + 2 + j) = 0∨wv w4 (b + 2 + j)∈to:=λb j hb j0 j1=>by
    have gb:=G.inn hb;have ob:=EG (G.at_ b hb).2.2;by_cases c:b = d
    ·subst c;rw[k4 _ ω ω];rcases m3 (b + 2 + j) ω ω with h | h
     ·rw[h,v2 _ ω,if_neg ω,if_neg ω];exact rf b j hb j0 j1
     ·exact .inr h
    ·have:=apart b (2 + j) hb c ω ω;rw[out _ ω ω];exact rf b j hb j0 j1
   obtain⟨w',e,hl',q1,q2,q3⟩:=ih ld w4 (by simpa using hl) (λp hp'=>hp p (by simp[hp'])) ω rf4;refine⟨w',e,ω,q1,λb hb h=>q2 b hb ?_,λb hb=>?_⟩
   ·by_cases c:b = d
    ·subst c;exact hd
    ·have gb:=G.inn hb;have a0:=apart b 0 hb c ω ω;have a1:=apart b 1 hb c ω ω;refine⟨?_,?_⟩
     ·rw[out b ω ω];exact h.1
     ·rw[out _ ω ω];exact h.2
   ·rcases Tv.1 hb with h | h
    ·subst h;exact q2 b hB hd
    ·exact q3 b h
theorem Iu {l:List AV} {AH to:List Int} (hlen:to.length = AH.length):∀(xs:List Int),(∀a∈xs,∃u,now l a = some u)→∃ys,Cb l AH to xs = some ys∧ys.length = xs.length∧∀y∈ys,y = 0∨y∈to:=by
 intro xs;induction xs with
 | nil=>intro _;exact⟨[],rfl,rfl,λy h=>(by cases h)⟩
 | cons a r ih=>
  intro h;obtain⟨u,hu⟩:=h a σ;obtain⟨ys,e,hl,hm⟩:=ih λb hb=>h b (by simp[hb])
  unfold Cb;rw[hu,e];simp only[Tm,z_o];by_cases c:BV AH u < 0
  ·rw[if_pos c];refine⟨_,rfl,by simp[hl],λy hy=>?_⟩;rcases Tv.1 hy with hy | hy
   ·exact .inl hy
   ·exact hm y hy
  ·rw[if_neg c];have hmem:u∈AH:=Classical.byContradiction λh=>by have:=Dc.2 h;omega
   have hp:=(Dc (l:=AH)).1 hmem;obtain⟨d,hd,hdm⟩:=EB (l:=to) (i:=BV AH u) ⟨hp.1,by rw[hlen];exact hp.2⟩;rw[hd];refine⟨_,rfl,by simp[hl],λy hy=>?_⟩;rcases Tv.1 hy with hy | hy
   ·subst hy;exact .inr hdm
   ·exact hm y hy
theorem LF {l:List AV} {AH to:List Int} (hlen:to.length = AH.length):∀(ts:List Th),(∀t∈ts,∀a∈t.AA,∃u,now l a = some u)→∃ys,CY l AH to ts = some ys∧ys.length = ts.length∧∀y∈ys,∃t∈ts,y.next = t.next∧y.AA.length = t.AA.length∧∀a∈y.AA,a = 0∨a∈to:=by
 intro ts;induction ts with
 | nil=>intro _;exact⟨[],rfl,rfl,λy h=>(by cases h)⟩
 | cons t r ih=>
  intro h;obtain⟨rs,e1,l1,m1⟩:=Iu (l:=l) hlen t.AA (h t σ);obtain⟨ys,e,hl,hm⟩:=ih λb hb=>h b (by simp[hb])
  unfold CY;rw[e1,e];simp only[Tm,z_o];refine⟨_,rfl,by simp[hl],λy hy=>?_⟩;rcases Tv.1 hy with hy | hy
  ·subst hy;exact⟨t,σ,rfl,l1,m1⟩
  ·obtain⟨u,hu,h2⟩:=hm y hy;exact⟨u,by simp[hu],h2⟩
theorem FI {n:Int} (h0:2≤n) (h1:n≤12):((AO n).length:Int) = n∧rv (AO n) 0 = DY∧∀r:Int,1≤r→r < n→rv (AO n) r = DJ r:=by
 unfold AO;rw[if_neg ω];refine⟨by simp;omega,rfl,λr r0 r1=>?_⟩;obtain⟨k,rfl⟩:∃k:Nat,r = ((k + 1:Nat):Int):=⟨r.toNat - 1,ω⟩;rw[rv,Ek (by simp;omega)];simp
theorem Qo {α β:Type} {la:List α} {lb:List β} (h:la.length = lb.length) {b:β} (hb:b∈lb):∃a,(a,b)∈la.zip lb:=by
 obtain⟨i,hi,rfl⟩:=UE hb;exact⟨la[i],by rw[List.mem_iff_getElem];exact⟨i,by simp;omega,σ⟩⟩
theorem QQ {α β:Type} {la:List α} {lb:List β} (h:la.length = lb.length) {a:α} (ha:a∈la):∃b,(a,b)∈la.zip lb:=by
 obtain⟨i,hi,rfl⟩:=UE ha;exact⟨lb[i],by rw[List.mem_iff_getElem];exact⟨i,by simp;omega,σ⟩⟩
def Sim.fulled (S:Sim) (s:Ah):Sim:=
 { S with A5:=s.A5,A0:=s.A0,AJ:=s.AJ,AW:=s.AW,stop:=s.stop,full:=s.full,old:=s.old,AI:=s.AI,B8:=s.B8,Be:=s.Be,col:=Cd s.Ai 0,th:=s.AB.map λt=>thr0 t.AA t.next t.BB }
section
variable {c:Nat} {S:Sim} {g:Gh}
theorem QK (hc:c < 900000) (I:IG P S g) (B:Bd c S) (hcm:S.calm = true):∃s g',E9 S.view = some s∧IG P (S.fulled s) g'∧Bd (c + 1) (S.fulled s):=by
 have st:=I.still hcm;have H:=I.sh;have G:Geo S.A5 S.A0 g.B:=H.g;have To:=G.ok;have n0:=To.n0;have n1:=To.n1;have len:=G.len;obtain⟨l,e1,T⟩:=NL (s:=S.view) G;have T:Thn S.A5 g.B l:=T;have hLn:∀a,g.L a→g.L (wv S.A5 a)∧wv S.A5 (wv S.A5 a) = wv S.A5 a:=λa ha=>by
  by_cases h:wv S.A5 a = a
  ·rw[h];exact⟨ha,h⟩
  ·have hf:Aw S.A0 a:=Classical.byContradiction λhn=>h (H.st a (H.lb a ha) hn)
   obtain⟨f1,f2,_⟩:g.L (wv S.A5 a)∧¬ Aw S.A0 (wv S.A5 a)∧_:=H.fw a (H.lb a ha) hf h;exact⟨f1,H.st _ (H.lb _ f1) f2⟩
 have b16:∀a,g.B a→16≤a:=λa h=>(G.at_ a h).1
 have pinW:∀a∈S.AI,g.L a∧wv S.A5 a = a:=λa h=>⟨(H.pl a h).1,H.st a (H.lb a (H.pl a h).1) (H.pl a h).2⟩
 have thv:∀t∈S.view.AB,∀a∈t.AA,a≠0→g.L a:=λt h a ha h0=>by
  obtain⟨u,hu,rfl⟩:=UK.1 (show t∈S.th.map λt=>(⟨t.AA,t.next,t.pc != 0,t.BB⟩:Th) from h);exact (st u hu).rt a ha h0
 obtain⟨out,e2,C,cl,rt,pn⟩:=M5 (s:=S.view) T H.lb b16 hLn H.rf thv pinW;obtain⟨sp,sm⟩:=Ku C.nd;have hlive:∀a∈Ch out,g.L a∧wv S.A5 a = a:=λa h=>C.cu a ((sm a).1 h)
 obtain⟨tn0,tn1,tn2⟩:=FI (n:=S.A0.length) ω ω;have nowS:∀v,(v≠0→g.L v)→∃u,now l v = some u:=λv h=>⟨_,T.now λh0=>H.lb v (h h0)⟩
 obtain⟨w1,t1,e3,l1,tl1,s1,s2,s3,s4⟩:=Nj (s:=S.view) (B0:=g.B) G l (List.replicate S.A5.length 0) (AO S.A0.length) T.all (by simp[Sim.view]) (by show (AO S.A0.length).length = S.A0.length;omega);have l1:w1.length = S.A5.length:=l1;have tl1:t1.length = S.A0.length:=tl1;have z0:∀x,wv (List.replicate S.A5.length 0) x = 0:=λx=>by
  unfold wv gv;rw[Ty,List.getElem?_replicate];split<;>rfl
 have t1r:∀r:Int,1≤r→r < S.A0.length→(rv t1 r = ⟨3,-1,(rv S.A0 r).top,(rv S.A0 r).top,0⟩∧BE S.AI r = true∧∃x,g.B x∧x / 16 = r)∨(rv t1 r = ⟨1,-1,16 * r,16 * r,0⟩∧(BE S.AI r = true→∀x,g.B x→x / 16≠r)):=λr r0 r1=>by
  rw[s4 r ω];by_cases h:BE S.view.AI r = true∧∃x∈l,x.at_ / 16 = r
  ·left;rw[if_pos h];obtain⟨h1,x,hx,hr⟩:=h;exact⟨rfl,h1,x.at_,(T.all x hx).1,hr⟩
  ·right;rw[if_neg h,tn2 r r0 r1,(Ck r0 ω).2];exact⟨rfl,λh1 x hx hr=>h ⟨h1,thg S.A5 x,T.has x hx,hr⟩⟩
 have To1:TOk t1:=by
  refine⟨ω,ω,?_,λr r0 r1=>?_,λr q r0 r1 q0 q1 ho _=>?_⟩
  ·rw[s4 0 ω,if_neg,tn1];rintro⟨_,x,hx,h⟩;have:=b16 _ (T.all x hx).1;omega
  ·have R:=To.row r r0 ω;rcases t1r r r0 ω with ⟨h,_⟩ | ⟨h,_⟩
   ·rw[h];exact⟨σ,σ,R.t0,R.t1,R.t0,UI _,UI 0,by show 0≤(rv S.A0 r).top - 16 * r;have:=R.t0;omega,λh=>by simp at h,σ,σ,σ⟩
   ·rw[h];exact⟨σ,σ,UI _,by show 16 * r≤16 * r + 16;omega,UI _,UI _,UI 0,by show 0≤16 * r - 16 * r;omega,λ_=>rfl,σ,σ,σ⟩
  ·rcases t1r r r0 ω with ⟨h,_⟩ | ⟨h,_⟩<;>rw[h] at ho<;>simp at ho
 have kept:∀b,(g.B b∧BE S.AI (b / 16) = true)→(rv t1 (b / 16)).top = (rv S.A0 (b / 16)).top:=λb hb=>by
  have i:=G.inn hb.1;rcases t1r (b / 16) i.2.1 i.2.2.1 with ⟨h,_⟩ | ⟨_,h⟩
  ·rw[h]
  ·exact absurd rfl (h hb.2 b hb.1)
 have G1:Iz (shp S.A5) t1 (λb=>g.B b∧BE S.AI (b / 16) = true):=by
  refine⟨To1,λa ha=>?_,λa ha=>?_,λr r0 r1=>?_,λa b ha hb h=>G.dj a b ha.1 hb.1 h⟩
  ·rw[kept a ha];obtain⟨h1,h2,_⟩:=G.at_ a ha.1;exact⟨h1,h2,Ph S.A5 a⟩
  ·rw[kept a ha];have i:=G.inn ha.1;have es:AC (shp S.A5 a) = sz S.A5 a:=rfl;rw[es];by_cases h0:a + sz S.A5 a = (rv S.A0 (a / 16)).top
   ·exact .inl h0
   ·right;rcases G.nx a ha.1 with h | h
    ·exact absurd h h0
    ·exact⟨h,by rw[show (a + sz S.A5 a) / 16 = a / 16 from ω];exact ha.2⟩
  ·rcases t1r r r0 ω with ⟨h,h2,_⟩ | ⟨h,_⟩
   ·rw[h];rcases G.bs r r0 ω with h3 | h3
    ·exact .inl h3
    ·exact .inr ⟨h3,by rw[show 16 * r / 16 = r from ω];exact h2⟩
   ·rw[h];exact .inl rfl
 have t1f:∀q:Int,1≤q→q < S.A0.length→BE S.AI q = false→(rv t1 q).top = 16 * q:=λq q0 q1 hq=>by
  rcases t1r q q0 q1 with ⟨_,h,_⟩ | ⟨h,_⟩
  ·rw[hq] at h;cases h
  ·rw[h]
 obtain⟨t2,to,f,B',e4,k1,G2,k3,k4,k5,k6,k7⟩:=Lo (AI:=S.AI) T G (Ch out) t1 1 [] (shp S.A5) _ (λa h=>H.lb a (hlive a h).1) sp G1 tl1 (UI 1)
  (λq q0 q1=>by rcases t1r q q0 ω with ⟨h,_⟩ | ⟨h,_⟩<;>rw[h])
  (λq q0=>by
   by_cases c1:q < S.A0.length
   ·by_cases c2:1≤q
    ·rcases t1r q c2 c1 with ⟨h,_⟩ | ⟨h,_⟩<;>rw[h]<;>simp
    ·rw[show q = 0 from ω,To1.e];simp[DY]
   ·rw[Cn q0 ω];simp[DY])
  (λq q0 q1 hq=>t1f q ω ω hq)
  (λa ha hq=>by
   have i:=G.inn (H.lb a (hlive a ha).1)
   refine⟨i.2.1,λh1=>?_⟩
   rw[t1f 1 ω ω (by rw[h1];exact hq)];omega)
  (λa ha hq=>⟨⟨H.lb a (hlive a ha).1,hq⟩,rfl⟩)
 simp only[List.nil_append] at e4;have tl2:t2.length = S.A0.length:=by rw[k3,tl1]
 have bk:∀b,B' b→(g.B b∧BE S.AI (b / 16) = true∧f b = shp S.A5 b)∨(b∈to∧BE S.AI (b / 16) = false):=λb hb=>by
  rcases k6 b hb with h | h
  ·exact .inl ⟨h.1,h.2,(k5 b h).2⟩
  ·exact .inr h
 have rf1:∀b j,B' b→0≤j→j < (f b).refs→wv w1 (b + 2 + j) = 0∨wv w1 (b + 2 + j)∈to:=λb j hb j0 j1=>by
  left;have i:=G2.inn hb;have ob:=EG (G2.at_ b hb).2.2;rcases bk b hb with ⟨h1,h2,h3⟩ | ⟨h1,h2⟩
  ·rw[h3] at j1;rw[s2 b j h1 j0 j1];exact z0 _
  ·rw[s3 (b + 2 + j) ω (by rw[show (b + 2 + j) / 16 = b / 16 from ω];exact h2)];exact z0 _
 obtain⟨w2,e5,l2,r2,h2,d2⟩:=MV (AH:=Ch out) (to:=to) T G G2 k1 (Ch out) to w1 k1.symm (λp hp=>by
   obtain⟨q1,q2,_⟩:=k7 p hp
   have hm:p.1∈Ch out:=(List.of_mem_zip hp).1
   have hL:=(hlive p.1 hm).1
   have h16:=b16 _ (H.lb _ hL)
   refine⟨q1,q2,H.lb _ hL,λv hv=>nowS v λh0=>?_⟩
   obtain⟨j,j0,j1,hj⟩:=JS ω hv
   rw[← hj] at h0 ⊢
   exact H.rf p.1 j hL j0 j1 h0) ω rf1
 have Hall:∀b,B' b→Hd w2 S.A5 f b:=λb hb=>by
  rcases bk b hb with ⟨h1,h2',h3⟩ | ⟨h1,_⟩
  ·refine h2 b hb ?_;have:=s1 b h1 h2' (.inl (T.has b h1));exact⟨this.1,by rw[h3];exact this.2⟩
  ·exact d2 b h1
 have toB:∀d∈to,B' d:=λd hd=>by
  obtain⟨a,ha⟩:=Qo k1.symm hd;exact (k7 (a,d) ha).1
 obtain⟨ths,e6,l6,m6⟩:=LF (l:=l) (AH:=Ch out) (to:=to) k1 S.view.AB (λt ht a ha=>nowS a λh0=>thv t ht a ha h0);have hfu:CC S.Be 1 = some (S.Be + 1):=Av (by have:=B.fu.1;omega) (by have:=B.fu.2;omega);have eW:∀b,B' b→shp w2 b = f b∧(AN (wv w2 (b + 1))).2 = true:=λb hb=>by
  have h:=(Hall b hb).2;have:=EJ (G2.at_ b hb).2.2;unfold shp;rw[h,this];exact⟨rfl,rfl⟩
 have eZ:∀b,B' b→sz w2 b = AC (f b):=λb hb=>by unfold sz;rw[(eW b hb).1]
 have GF:Geo w2 t2 B':=⟨by rw[l2,l1,tl2];exact len,G2.ok,λa ha=>by
   obtain⟨h1,h2,_⟩:=G2.at_ a ha
   exact⟨h1,by rw[eZ a ha];exact h2,(eW a ha).2⟩,λa ha=>by rw[eZ a ha];exact G2.nx a ha,G2.bs,λa b ha hb h=>by rw[eZ a ha];exact G2.dj a b ha hb h⟩
 have nf:∀a,¬ Aw t2 a:=λa hf=>k4 (a / 16) (by have:=hf.1;omega) hf.2
 have hfs:E9 S.view = some ⟨w2,t2,List.replicate S.A5.length false,0,false,false,S.col.Ai,0,ths,[],S.AI,S.B8,S.Be + 1⟩:=by
  unfold E9;rw[e1];simp only[Uj,Tm];rw[e2];simp only[z_o];rw[show S.view.A5 = S.A5 from rfl,show S.view.A0 = S.A0 from rfl,show S.view.AI = S.AI from rfl,show S.view.Be = S.Be from rfl];have e3' : stay S.view l (List.replicate S.A5.length 0) (AO S.A0.length) = some (w1,t1):=e3;rw[e3'];simp only[z_o];rw[e4];simp only[z_o];rw[e5];simp only[z_o];rw[e6];simp only[z_o];rw[hfu];simp only[z_o];rw[show w2.length = S.A5.length from l2.trans l1];rfl
 refine⟨_,⟨B',(·∈to),g.q,g.r0⟩,hfs,I.mk' (S':=S.fulled ⟨w2,t2,List.replicate S.A5.length false,0,false,false,S.col.Ai,0,ths,[],S.AI,S.B8,S.Be + 1⟩) rfl ?_ ?_ (λt ht=>?_) (λh=>absurd (show (0:Int) = 1 from h) δ) (λh=>absurd (show (0:Int) = 2 from h) δ) (λh=>absurd (show (0:Int) = 3 from h) δ) (λh=>by cases h),?_⟩
 ·show (ths.map _).length = _;rw[Tr,l6];simp[Sim.view]
 ·refine⟨GF,toB,λa j h j0 j1 hn=>?_,λa h _=>(Hall a h).1,λa _ hf=>absurd hf (nf a),?_,λa _ h=>?_,by show (0:Int)≤0∧(0:Int)≤3;decide,λ_ r r0=>k4 r r0,λh=>absurd (show (2:Int)≤0 from h) δ,λa h=>⟨?_,nf a⟩,λa _ hf=>absurd hf (nf a),λh=>absurd (show (1:Int)≤0 from h) δ,λh=>absurd (show (0:Int) = 3 from h) δ,λh=>absurd (show (0:Int) = 1 from h) δ⟩
  ·have j1:j < (shp w2 a).refs:=j1;rw[(eW a (toB a h)).1] at j1;rcases r2 a j (toB a h) j0 j1 with h3 | h3
   ·exact absurd h3 hn
   ·exact h3
  ·show (List.replicate S.A5.length false).length = w2.length;rw[Tz,l2,l1]
  ·have h:mv (List.replicate S.A5.length false) a = true:=h;rw[KK] at h;cases h
  ·have ha:a∈Ch out:=(sm a).2 (pn a h);obtain⟨d,hd⟩:=QQ k1.symm ha;have hheld:BE S.AI (a / 16) = true:=by
    unfold BE;rw[List.any_eq_true];exact⟨a,h,by rw[CH (by have:=b16 a (H.lb a (pinW a h).1);omega)];simp⟩
   have:=(k7 (a,d) hd).2.2 hheld;simp only at this;subst this;exact (List.of_mem_zip hd).2
 ·obtain⟨y,hy,rfl⟩:=UK.1 (show t∈ths.map λt=>thr0 t.AA t.next t.BB from ht);obtain⟨u,hu,q1,q2,q3⟩:=m6 y hy;obtain⟨v,hv,rfl⟩:=UK.1 (show u∈S.th.map λt=>(⟨t.AA,t.next,t.pc != 0,t.BB⟩:Th) from hu);have s:=st v hv;refine⟨rfl,rfl,rfl,by show 0≤y.next;rw[q1];exact s.nx,by show y.AA.length≤8;rw[q2];exact s.rl,λa ha h0=>?_⟩;rcases q3 a ha with h | h
  ·exact absurd h h0
  ·exact h
 ·have h2:=IQ (List.replicate S.A5.length false);rw[Tz] at h2;have hwl:=I.wl;refine⟨by have:=B.ev;show S.ev.length≤c + 1;omega,VG _,by have:=B.cy;show 0≤S.B8∧S.B8≤((c + 1:Nat):Int);omega,by have:=B.fu;show 0≤S.Be + 1∧S.Be + 1≤((c + 1:Nat):Int);omega,?_,B.pn⟩;show ([]:List Int).length + ([]:List Int).length + 5 * (List.replicate S.A5.length false).countP (λb=>!b) + (if (0:Int) = 2 then _ else 0)≤3000 + (c + 1);rw[if_neg δ];simp only[Ug];omega
end
end Sm
end
section
namespace Sm
variable {P:List (List Op)}
section
variable {c:Nat} {S:Sim} {g:Gh}
theorem Q1 {n:Nat} (hc:c < 900000) (hn:S.AW = 1→mu S < n) (I:IG P S g) (B:Bd c S) (hcm:S.calm = true) (hst:S.stop = true):∃S' g',S.pause n = some S'∧IG P S' g'∧Bd (c + 1) S':=by
 unfold Sim.pause;rw[I.szok rfl B hc,if_neg δ];by_cases hf:S.full = true
 ·rw[if_pos hf];obtain⟨s,g',e,I',B'⟩:=QK hc I B hcm;simp only[Tm];rw[e];exact⟨_,g',rfl,I',B'⟩
 ·rw[if_neg hf];dsimp only;rcases I.wt hst (by simpa using hf) with ⟨h,h'⟩ | ⟨h,h'⟩ | ⟨h,h',hw⟩ | ⟨h,h',hw⟩
  ·rw[if_pos h'];obtain⟨g',I',B'⟩:=Kx I B hcm h;exact⟨_,g',rfl,I',B'.mono (UJ c)⟩
  ·rw[if_neg ω,if_pos h'];obtain⟨S',g',e,I',B'⟩:=O3 hc (hn h) I B hcm h;exact⟨S',g',e,I',B'⟩
  ·rw[if_neg ω,if_neg ω,if_pos h'];obtain⟨S',e,I',B'⟩:=Nd I B hcm h hw;exact⟨S',g,e,I',B'.mono (UJ c)⟩
  ·rw[if_neg ω,if_neg ω,if_neg ω];obtain⟨S',g',e,I',B'⟩:=No hc I B hcm h hw;exact⟨S',g',e,I',B'⟩
theorem KI {n:Nat} (hc:c < 900000) (hn:S.AW = 1→mu S + 1 < n) (h2:1 < n) (I:IG P S g) (B:Bd c S):∃S' g',S.collector n = some S'∧IG P S' g'∧Bd (c + 1) S':=by
 unfold Sim.collector;by_cases hst:S.stop = true
 ·rw[if_pos hst];split
  ·exact Q1 hc (λh=>by have:=hn h;omega) I B (by assumption) hst
  ·exact⟨S,g,rfl,I,B.mono (UJ c)⟩
 ·rw[if_neg hst];by_cases h0:S.AW = 0
  ·rw[if_pos h0];split
   ·refine⟨_,g,rfl,⟨I.pg,I.sh,I.n0,I.n1,I.pl,I.pp,I.ti,λh=>?_,λh=>?_,λh=>?_,(λ_ _=>.inl ⟨h0,rfl⟩),I.rs⟩,(have B':=B.mono (UJ c);⟨B'.ev,B'.old,B'.cy,B'.fu,B'.st,B'.pn⟩)⟩
    ·exact absurd (h0.symm.trans h) δ
    ·exact absurd (h0.symm.trans h) δ
    ·exact absurd (h0.symm.trans h) δ
   ·exact⟨S,g,rfl,I,B.mono (UJ c)⟩
  ·rw[if_neg h0];have hp:0≤S.AW:=I.sh.ph.1;obtain⟨S',g',e,I',B'⟩:=Ox hc n { S with used:=false } g (I.usd false) (B.usd false) (by show 1≤S.AW;omega) ω (by
    by_cases h1:S.AW = 1
    ·exact .inr (.inr (.inl ⟨h1,hn h1⟩))
    ·exact .inr (.inr (.inr ⟨by show 2≤S.AW;omega,h2⟩)))
   exact⟨S',g',e,I',B'.mono (UJ c)⟩
theorem NH {p:Int} (hc:c + 5 < 900000) (I:IG P S g) (B:Bd c S):∃S' g',S.pick p = some S'∧IG P S' g'∧Bd (c + 5) S':=by
 unfold Sim.pick;by_cases h:0≤p∧p < S.th.length
 ·rw[if_pos h];exact Nb hc (by unfold Sim.fuel;omega) I B h.1 h.2
 ·rw[if_neg h];split
  ·obtain⟨S',g',e,I',B'⟩:=KI (n:=S.fuel) ω (λh1=>by
    have C:=I.c1 h1
    have hr:EN S.col≤4:=by
     unfold EN
     split
     ·rename_i h
      obtain⟨_,_,p3,p4,_⟩:=C.p2 h
      have:=Dp S.A5 S.col.p
      have p3:S.col.sh = shp S.A5 S.col.p:=p3
      rw[p3];omega
     ·omega
    have hu:=IQ S.AJ
    have hml:S.AJ.length = S.A5.length:=I.sh.ml
    unfold mu Sim.fuel
    omega) (by unfold Sim.fuel;omega) I B
   exact⟨S',g',e,I',B'.mono ω⟩
  ·split
   ·exact⟨_,g,rfl,⟨I.pg,I.sh,I.n0,I.n1,I.pl,I.pp,I.ti,λh=>(I.c1 h).col rfl rfl rfl rfl,λh=>(have C:=I.c2 h;⟨C.r0,C.r1,C.p0,C.p1,C.wk,C.pc⟩),λh=>(have C:=I.c3 h;⟨C.pc,C.r0,C.r1,C.p0,C.at_,C.f,C.v,C.w,C.u,C.cl⟩),I.wt,I.rs⟩,(have B' : Bd (c + 5) S:=B.mono ω;⟨B'.ev,B'.old,B'.cy,B'.fu,B'.st,B'.pn⟩)⟩
   ·exact⟨S,g,rfl,I,B.mono ω⟩
theorem OK:∀(ps:List Int) (c:Nat) (S:Sim) (g:Gh),c + 5 * ps.length < 900000→IG P S g→Bd c S→∃S' g',Sim.picks ps S = some S'∧IG P S' g'∧Bd (c + 5 * ps.length) S':=by
 intro ps;induction ps with
 | nil=>intro c S g _ I B;exact⟨S,g,rfl,I,B⟩
 | cons p r ih=>
  intro c S g hc I B;simp only[U4] at hc ⊢;obtain⟨S1,g1,e1,I1,B1⟩:=NH (p:=p) ω I B;obtain⟨S2,g2,e2,I2,B2⟩:=ih (c + 5) S1 g1 ω I1 B1;unfold Sim.picks;rw[e1];simp only[Tm,z_o];exact⟨S2,g2,e2,I2,by rw[show c + 5 * (r.length + 1) = c + 5 + 5 * r.length from ω];exact B2⟩
theorem Oz {c:Cfg} {AE:List (List Op)} (hc:Az c = true) (hl:(AE.length:Int) = c.AB) (hp:∀p∈AE,p.length≤40):∃g,IG AE (start c AE) g∧Bd 0 (start c AE):=by
 simp only[Az,z_b,z_d] at hc;obtain⟨⟨⟨⟨⟨c1,c2⟩,c3⟩,c4⟩,c5⟩,c6⟩:=hc;obtain⟨tn0,tn1,tn2⟩:=FI (n:=c.A6) ω ω;have hw:(start c AE).A5 = put (List.replicate (c.A6.toNat * 16) 0) 16 [16,66,0,0,0,0,0,0]:=by
  unfold start;show (C0 (List.replicate (c.A6.toNat * 16) 0) 16 Bf).1 = _;unfold C0;have hk:BW (List.replicate (c.A6.toNat * 16) (0:Int)).length = true:=Gg (k:=c.A6.toNat) (by simp;omega) ω ω;rw[if_pos]
  ·rfl
  ·unfold fits;rw[hk];have:(List.replicate (c.A6.toNat * 16) (0:Int)).length = c.A6.toNat * 16:=σ
   rw[this];simp only[UT,z_b,z_d,beq_iff_eq];refine⟨⟨⟨⟨δ,δ⟩,δ⟩,ω⟩,δ⟩
 have wl:((start c AE).A5.length:Int) = 16 * c.A6:=by
  rw[hw];unfold put;simp only[Tn,UA,Ud,Tz,U4,Ug];rw[show (16:Int).toNat = 16 from rfl];omega
 have wvs:∀k:Nat,k < 8→wv (start c AE).A5 (16 + k) = [16,66,0,0,0,0,0,0].getD k 0:=λk hk=>by
  rw[hw];unfold wv gv put;rw[show ((16:Int) + (k:Int)).toNat = 16 + k from ω,show (16:Int).toNat = 16 from rfl,Tu];have hl:(List.take 16 (List.replicate (c.A6.toNat * 16) (0:Int))).length = 16:=by simp;omega
  rw[Ty,List.getElem?_append_right ω,hl,Um (by simp;omega),Ty];congr 2;omega
 have tl:((start c AE).A0.length:Int) = c.A6:=by
  show ((AM (AO c.A6) 1 _).length:Int) = _;rw[CP];exact tn0
 have tr:∀r:Int,0≤r→rv (start c AE).A0 r = if r = 1 then ⟨3,-1,24,24,0⟩ else rv (AO c.A6) r:=λr r0=>Cv δ ω r0
 have T:TOk (start c AE).A0:=by
  refine⟨ω,ω,by rw[tr 0 δ,if_neg δ];exact tn1,λr r0 r1=>?_,λr s r0 r1 _ _ ho _=>?_⟩
  ·rw[tr r ω];split
   ·subst r;exact⟨δ,δ,δ,δ,δ,δ,δ,δ,δ,δ,δ,δ⟩
   ·rw[tn2 r r0 ω];exact (Ck r0 ω).1
  ·rw[tr r ω] at ho;split at ho
   ·simp at ho
   ·rw[tn2 r r0 ω,(Ck r0 ω).2] at ho;simp at ho
 have h17:wv (start c AE).A5 (16 + 1) = 66:=wvs 1 δ;have hsh:shp (start c AE).A5 16 = ⟨4,2⟩:=by unfold shp;rw[h17];rfl
 have hsz:sz (start c AE).A5 16 = 8:=by unfold sz;rw[hsh];rfl
 have h16:wv (start c AE).A5 16 = 16:=wvs 0 δ;have nf:∀r:Int,0≤r→(rv (start c AE).A0 r).kind≠4:=λr r0=>by
  rw[tr r r0];split
  ·simp
  ·by_cases h:r < c.A6
   ·by_cases h1:1≤r
    ·rw[tn2 r h1 h,(Ck h1 ω).2];simp
    ·rw[show r = 0 from ω,tn1];simp[DY]
   ·rw[Cn r0 ω];simp[DY]
 have nfr:∀a,¬ Aw (start c AE).A0 a:=λa hf=>nf (a / 16) (by have:=hf.1;omega) hf.2
 have fm:∀a,mv (start c AE).AJ a = false:=λa=>KK
 have t1:(rv (start c AE).A0 1).top = 24:=by rw[tr 1 δ,if_pos rfl]
 refine⟨⟨(· = 16),(· = 16),λ_=>0,λ_=>False⟩,⟨rfl,?_,?_,?_,?_,hp,λi t h=>?_,λh=>absurd (show (0:Int) = 1 from h) δ,λh=>absurd (show (0:Int) = 2 from h) δ,λh=>absurd (show (0:Int) = 3 from h) δ,(λh=>by cases h),⟨c5,c6⟩⟩,?_⟩
 ·refine⟨⟨by rw[wl,tl],T,?_,?_,?_,?_⟩,λa h=>h,?_,?_,λa _ hf=>absurd hf (nfr a),?_,λa _ h=>?_,by show (0:Int)≤0∧(0:Int)≤3;decide,λ_=>nf,λh=>absurd (show (2:Int)≤0 from h) δ,λa h=>(by cases h),λa _ hf=>absurd hf (nfr a),λh=>absurd (show (1:Int)≤0 from h) δ,λh=>absurd (show (0:Int) = 3 from h) δ,λh=>absurd (show (0:Int) = 1 from h) δ⟩
  ·rintro a rfl;refine⟨δ,?_,?_⟩
   ·rw[hsz,show (16:Int) / 16 = 1 from rfl,t1];decide
   ·rw[h17];rfl
  ·rintro a rfl;left;rw[hsz,show (16:Int) / 16 = 1 from rfl,t1];rfl
  ·intro r r0 r1;have r1:r < (start c AE).A0.length:=r1;by_cases h:r = 1
   ·right;show 16 * r = 16;omega
   ·left;rw[tr r ω,if_neg h,tn2 r r0 ω,(Ck r0 ω).2]
  ·rintro a b rfl rfl h;omega
  ·rintro a j rfl j0 j1 hn;exfalso;rw[hsh] at j1;simp only at j1;have:=wvs (2 + j.toNat) ω;rw[show (16:Int) + ((2 + j.toNat:Nat):Int) = 16 + 2 + j from ω] at this;apply hn;rw[this];have hj:j.toNat = 0∨j.toNat = 1∨j.toNat = 2∨j.toNat = 3:=ω
   rcases hj with h | h | h | h<;>rw[h]<;>rfl
  ·rintro a rfl _;exact h16
  ·show (List.replicate (c.A6.toNat * 16) false).length = (start c AE).A5.length;rw[Tz];omega
  ·rw[fm] at h;cases h
 ·show 1≤(List.replicate c.AB.toNat _).length;rw[Tz];omega
 ·show (List.replicate c.AB.toNat _).length≤3;rw[Tz];omega
 ·show AE.length = (List.replicate c.AB.toNat _).length;rw[Tz];omega
 ·have hm:=Fo h;have:t = thr0 [16] 0 0:=(Ue.1 (show t∈List.replicate c.AB.toNat (thr0 [16] 0 0) from hm)).2;subst this;exact⟨λa ha _=>by simpa [thr0] using ha,δ,δ,λ_ _ h=>absurd rfl h,.inl ⟨rfl,rfl,rfl⟩⟩
 ·have h2:=IQ (List.replicate (c.A6.toNat * 16) false);rw[Tz] at h2;refine⟨z_n 0,z_n 0,⟨UI 0,UI 0⟩,⟨UI 0,UI 0⟩,?_,VG _⟩;show 0 + 0 + 5 * (List.replicate (c.A6.toNat * 16) false).countP (λb=>!b) + (if (0:Int) = 2 then _ else 0)≤3000 + 0;rw[if_neg δ];omega
end
end Sm
end
section
namespace Go.Lf
open Go Sm
theorem RF {P0:List (List Sm.Op)} {S:Sim} {gh:Gh} (I:IG P0 S gh):Pr S∧TOk S.A0:=by
 refine⟨⟨⟨by have:=I.rs.1;omega,by have:=I.rs.2;omega⟩,λa ha=>?_⟩,I.sh.g.ok⟩;have h1:=I.sh.pl a ha;have h2:=I.sh.g.inn (I.sh.lb a h1.1);have h3:=I.wl;obtain⟨h4,_,_,_,_,h5,h6,_⟩:=h2;have h5:a + sz S.A5 a≤S.A5.length:=h5;have h6:2≤sz S.A5 a:=h6;unfold AQ;split<;>omega
theorem Lp {P0:List (List Sm.Op)}:∀(ps:List Int) (i c:Nat) (S:Sim) (gh:Gh),c + 5 * ps.length < 900000→IG P0 S gh→Bd c S→∀S1,Sim.picks (ps.take i) S = some S1→∃gh1,IG P0 S1 gh1:=by
 intro ps i c S gh hc I B S1 h;have hl:(ps.take i).length≤ps.length:=by simp;omega
 obtain⟨S2,g2,e2,I2,_⟩:=OK (ps.take i) c S gh ω I B;rw[h] at e2;cases e2;exact⟨g2,I2⟩
theorem Gv {c:Cfg} {AE:List (List Sm.Op)} {picks:List Int} (h:BH c AE picks = true):Az c = true∧(AE.length:Int) = c.AB∧picks.length≤4000∧∀p∈AE,p.length≤40:=by
 unfold BH at h;simp only[z_b,z_d,UB] at h;exact⟨h.1.1.1,h.1.1.2,h.1.2,h.2⟩
end Go.Lf
end
