/- A part of the proof of the given row. Conditions: none. -/
import Derived.Test.YthfhnheigfoioaaGreatHG
set_option linter.unusedVariables false
set_option linter.unusedSimpArgs false
set_option maxRecDepth 100000
section
namespace Go.Lf
open Go Sm
set_option maxHeartbeats 4000000 in
theorem Nl {R:RM} {s O : Sm.Ah} {wv tv mv T ov pv:Value} (h:StC R s wv tv mv T ov pv) (hw:s.AC.length<=1000) (t5:2<=s.AA.length) (t6:s.AA.length<=12) (m6:s.AB.length < 1000000) (m4:∀t∈s.AB,t.AD.length < 1000000)
  (b8:s.AI.length < 1000000) (hp:∀a∈s.AI,AN a<=9223372036854775807) (hS:GK s = some O) :
  Fn P IS [.agg (eSt s wv tv mv T ov pv).toArray] R [] (λv Q A=>∃bw wsp cw bt tsp ct bm g8 c4 rows A',O.AC.length = s.AC.length/\O.AA.length = s.AA.length/\O.AM.length = s.AC.length/\O.AC.length<=cw/\O.AA.length<=ct/\Rw (Cd Q) rows O.AB/\SW 117 4 rows g8 A'/\B8 Q c4 O.AI/\
   A = (bw,C Aa (O.AC.map I ++ wsp)) :: (bt,C AO (Ad eRg O.AA ++ tsp)) :: (bm,C Ax (O.AM.map Value.bool)) :: A'/\
   v = .agg (eSt O (S0 bw O.AC.length cw) (S0 bt O.AA.length ct) (S0 bm O.AM.length O.AM.length) g8 (SN) c4).toArray):=by
 refine Sl λF=>?_
 refine z_1 ?_;unfold GK at hS;obtain⟨c0,b9,hS⟩:=AF hS;obtain⟨⟨w1,t1⟩,f1,hS⟩:=AF hS;obtain⟨⟨t2,a7⟩,a8,hS⟩:=AF hS;obtain⟨w2,c7,hS⟩:=AF hS;obtain⟨ths,f4,hS⟩:=AF hS;obtain⟨BJ,l5,hS⟩:=AF hS;simp only[cX] at hS;refine ja λb1=>?_
 rw[show cl (.agg (eSt s wv tv mv T ov pv).toArray) = eSt s wv tv mv T ov pv from rfl];refine ja λb2=>?_
 refine jla (l:=eSt s wv tv mv T ov pv) (by exact z_n 13) rfl ?_;refine jc (A:=[]) (I5 h Z Z) ?_;rintro v R1 _ k3 ⟨rfl,hq⟩;have l8:∃lv ok,v = .tuple #[lv,.bool ok]/\Tgs R1 lv ((BI s).getD []):=by
  cases f0:BI s with
  | none=>rw[f0] at hq;exact⟨_,_,hq,[],Rw.nil,.inl ⟨rfl,rfl,rfl⟩⟩
  | some l=>rw[f0] at hq;obtain⟨lv,h1,h2⟩:=hq;exact⟨lv,true,h2,h1⟩
 have c9:TB ((BI s).getD [])/\((BI s).getD []).length<=16 * s.AA.length:=by
  cases f0:BI s with
  | none=>exact⟨λt ht=>(by cases ht),V⟩
  | some l=>
   unfold BI at f0;have:=Ml Z f0;rw[eT] at this;exact⟨this.1,by simp;omega⟩
 generalize (BI s).getD [] = l at l8 c9 b9 f1 a8 c7 f4;obtain⟨lv,t8,rfl,m0⟩:=l8;obtain⟨c9,t3⟩:=c9;have o7:=HS b9;refine jex rfl (jex rfl ?_);refine jla (l:=eSt s wv tv mv T ov pv) (by exact z_n 13) rfl ?_;have h1:=h.le k3;refine jc (A:=[]) (KZ h1 m0 Z b9 m6 (λt ht=>by have:=m4 t ht;omega) b8 (λt ht=>by have:=(c9 t ht).2.2.1;omega)) ?_;rintro v8 R2 A8 k4 q7;refine Dw q7 λR3 k7 o2=>?_
 refine jc (A:=[]) (Ss o2 Z) ?_;rintro v9 R4 A9 s3 ⟨i4,q8⟩;subst i4;refine Dw q8 λR5 l2 e3=>?_
 have g4:=(k4.trans k7).trans l2;have h5:=h1.le g4;have d2:=m0.le g4;have j0:(Ac c0).length = c0.length:=by have:=FK c0 [];simpa [Ac] using this
 generalize o8:Ac c0 = AJ at a8 c7 f4 e3 j0;refine jl (v:=tv) rfl (Bo h5.t.sl ?_);refine jmk (IZ (s.AA.length:Int)) ?_;intro t9 N e8;unfold VX at e8;have j2:(AV (s.AA.length:Int)).length = s.AA.length:=by
  unfold AV;rw[if_neg Z];simp;omega
 rw[if_neg (by intro hn;rw[hn] at j2;simp at j2;omega)] at e8;obtain⟨sv,⟨bt,ct,tsp,s6,rfl,rfl⟩,rfl⟩:=e8;refine jex rfl (jex rfl ?_);refine jl (v:=wv) rfl (Bo h5.w.sl ?_);refine jms Z Z Z λbw=>?_
 rw[cG];have p9:(List.replicate s.AC.length (cl z3)).flatten = (List.replicate s.AC.length (0:Int)).map I ++ []:=by
  rw[show cl z3 = [I 0] from rfl];simp[ec]
 rw[p9];refine jla (l:=eSt s wv tv mv T ov pv) (by exact z_n 13) rfl ?_;have e1:=X7 (cw:=s.AC.length) (ct:=ct) (bw:=bw) (bt:=bt) (wsp:=[]) (tsp:=tsp) h5 d2 c9 Z hp b8 f1;rw[cW] at e1;refine jc (A:=[(bw,C Aa ((List.replicate s.AC.length (0:Int)).map I ++ [])),(bt,C AO (Ad eRg (AV (s.AA.length:Int)) ++ tsp))]) e1 ?_;rintro _ R6 _ s4 ⟨l3,q0,m7,rfl⟩;subst l3;rw[j2] at m7 ⊢;generalize hE:(b2,C AW (cl z50)) :: (b1,C AW (eSt s wv tv mv T ov pv)) :: ([] ++ F) = E;have s2:At E b1 (C AW (eSt s wv tv mv T ov pv)):=by rw[<- hE];exact inferInstance
 have g7:∀{r t0 a6},slide s.AI l [] t0 r a6 = some (t2,a7)->t0 = t2/\a6 = a7:=λh=>by
  unfold slide at h;simpa using h
 refine Az (D':=[] ++ ((bw,C Aa (w1.map I ++ [])) :: (bt,C AO (Ad eRg t1 ++ tsp)) :: E)) (by rw[<- hE];exact dK _) ?_;refine Ab (λvs Q D'=>Q = R6/\t2.length = s.AA.length/\a7.length = AJ.length/\∃(v:Value) (A:Chs),SO a7 v A/\D' = A ++ ((bw,C Aa (w1.map I ++ [])) :: (bt,C AO (Ad eRg t2 ++ tsp)) :: E)/\vs = [Pt b1,Pt b2,lv,v9,S0 bt s.AA.length ct,S0 bw s.AC.length s.AC.length,v]) (λK hK=>?_) ?_
 .refine jcI hK λK2 h4=>?_
  refine jlp (λm vs Q D'=>Q = R6/\∃(i:Nat) (r:Int) (t0:List Rg) (a6:List Int) (v:Value) (A:Chs),i<=AJ.length/\1<=r/\r<=12/\t0.length = s.AA.length/\a6.length = i/\slide s.AI l (AJ.drop i) t0 r a6 = some (t2,a7)/\SO a6 v A/\D' = A ++ ((bw,C Aa (w1.map I ++ [])) :: (bt,C AO (Ad eRg t0 ++ tsp)) :: E)/\vs = [Pt b1,Pt b2,lv,v9,S0 bt s.AA.length ct,S0 bw s.AC.length s.AC.length,v,I r,I i]/\m = AJ.length - i)
   (n:=AJ.length) ⟨rfl,0,1,t1,[],SN,[],Z,Z,Z,m7,rfl,a8,.inl ⟨rfl,rfl,rfl⟩,rfl,rfl,Z⟩ ?_
  rintro m e R7 D7 K3 ⟨hR,i,r,t0,a6,v,A,hi,g0,p6,f3,g6,a2,so,hD,he,hm⟩ h6;subst hR;refine z_W ?_;clear hD;refine Bo e3.sl (jlt (jif (λhc=>?_) (λhc=>?_)));rotate_left
  .have hc:=z_g hc;rw[cT Z] at a2;obtain⟨rfl,rfl⟩:=g7 a2;exact h4 _ _ _ ⟨rfl,f3,Z,v,A,so,rfl,rfl⟩
  have hc:i < AJ.length:=by have:=z_f hc;omega
  rw[cQ hc] at a2;unfold slide at a2;obtain⟨x,hx,a2⟩:=AF a2;obtain⟨k,hk,i7,rfl⟩:=Eb hx;have s5:(l[k]).at_ = AJ[i]:=by
   have:=List.find?_some hx;exact eq_of_beq this
  obtain⟨a0,a1,-,-⟩:=c9 _ (cK hk);have m3:AN AJ[i]<=9223372036854775807:=by unfold AN;split<;>omega
  refine Ab (λvs Q D'=>Q = R7/\∃(r:Int) (t0:List Rg) (a6:List Int) (v:Value) (A:Chs),1<=r/\r<=12/\t0.length = s.AA.length/\a6.length = i + 1/\slide s.AI l (AJ.drop (i + 1)) t0 r a6 = some (t2,a7)/\SO a6 v A/\D' = A ++ ((bw,C Aa (w1.map I ++ [])) :: (bt,C AO (Ad eRg t0 ++ tsp)) :: E)/\vs = [Pt b1,Pt b2,lv,v9,S0 bt s.AA.length ct,S0 bw s.AC.length s.AC.length,v,I r,I i]) (λK4 h7=>?_) ?_;rotate_left
  .rintro e R8 D8 ⟨hR,r,t0,a6,v,A,q1,q2,q3,q4,q5,so,hD,he⟩;subst hR;refine z_W ?_;clear hD;refine jad ?_;exact h6 (AJ.length - (i + 1)) _ _ _ Z ⟨rfl,i + 1,r,t0,a6,v,A,Z,q1,q2,q3,q4,q5,so,rfl,rfl,rfl⟩
  refine jcI h7 λK5 f5=>?_
  refine Bl e3 Z Z ?_;rw[getElem_congr_idx (cG i)];refine jro (Di _ d2 Z) ?_;rw[i7];refine jtg d2 hk λb3 o3 r5 j6 rv nv i9 i8 i5 m1 c8=>?_
  have g2:(j6.drop (o3 + 2)).take 2 = [I (l[k]).sh.refs,I (l[k]).sh.nums]:=by
   have:=congrArg (λx=>(x.drop 2).take 2) c8;simp only[fI,fP,fO] at this;simpa [eTh] using this
  refine jfo (Do i5 Z g2 (jp (CN (l[k]).sh) ?_));obtain⟨r3,r4⟩:=GG (l[k]).sh;generalize AG (l[k]).sh = size at a2 r3 r4 ⊢;refine jla (t:=AW) (cs:=eSt s wv tv mv T ov pv) (l:=eSt s wv tv mv T ov pv) (by exact z_n 13) rfl ?_;refine Bl e3 Z Z ?_;rw[getElem_congr_idx (cG i)];refine jp (Cf _ m3) (Ak (jla (t:=AW) (cs:=eSt s wv tv mv T ov pv) (l:=eSt s wv tv mv T ov pv) (by exact z_n 13) rfl jev) ?_);refine jro (LO (AN AJ[i]) h5 hp b8) (jif (λhh=>?_) (λhh=>?_))
  .rw[if_pos hh] at a2;refine Bl e3 Z Z ?_;rw[getElem_congr_idx (cG i)];refine jbs (cs:=[I AJ[i]]) rfl rfl λb4=>?_
   refine Gr (A:=A) so Z λv' A' j5=>?_
   exact f5 _ _ _ ⟨rfl,r,t0,_,v',A',g0,p6,f3,by rw[cJ,g6];rfl,a2,j5,rfl,rfl⟩
  rw[if_neg (by rw[hh];decide)] at a2;obtain⟨r2,W,a2⟩:=AF a2;refine Ab (λvs Q D'=>Q = R7/\D' = A ++ ((bw,C Aa (w1.map I ++ [])) :: (bt,C AO (Ad eRg t0 ++ tsp)) :: E)/\vs = [Pt b1,Pt b2,lv,v9,S0 bt s.AA.length ct,S0 bw s.AC.length s.AC.length,v,I r2,I i,I size]) (λK6 h9=>?_) ?_
  .refine jcI h9 λK7 e5=>?_
   refine jlp (λm vs Q D'=>Q = R7/\∃r:Int,1<=r/\r + m<=30/\Ez s.AI t0 size m r = some r2/\D' = A ++ ((bw,C Aa (w1.map I ++ [])) :: (bt,C AO (Ad eRg t0 ++ tsp)) :: E)/\vs = [Pt b1,Pt b2,lv,v9,S0 bt s.AA.length ct,S0 bw s.AC.length s.AC.length,v,I r,I i,I size])
    (n:=t0.length + 2) ⟨rfl,r,g0,Z,W,rfl,rfl⟩ ?_
   clear W;rintro m2 e R8 D8 K8 ⟨hR,r,g0,t4,W,hD,he⟩ e6;subst hR;refine z_W ?_;clear hD;cases m2 with
   | zero=>cases W
   | succ m2=>
   unfold Ez at W;refine Ab (λvs Q D'=>Q = R8/\D' = A ++ ((bw,C Aa (w1.map I ++ [])) :: (bt,C AO (Ad eRg t0 ++ tsp)) :: E)/\∃bn:Bool,(bn = true->Ez s.AI t0 size m2 (r + 1) = some r2)/\(bn = false->r = r2)/\vs = [Pt b1,Pt b2,lv,v9,S0 bt s.AA.length ct,S0 bw s.AC.length s.AC.length,v,I r,I i,I size,.bool bn]) (λK9 f6=>?_) ?_;rotate_left
   .rintro e R9 D9 ⟨hR,hD,bn,n8,n9,he⟩;subst hR;refine z_W ?_;clear hD;cases bn with
    | true=>
     refine DM (jad ?_);exact e6 m2 _ _ _ Z ⟨rfl,r + 1,Z,Z,n8 rfl,rfl,rfl⟩
    | false=>
     have:=n9 rfl;subst this;exact CW (e5 _ _ _ ⟨rfl,rfl,rfl⟩)
   refine jla (t:=AW) (cs:=eSt s wv tv mv T ov pv) (l:=eSt s wv tv mv T ov pv) (by exact z_n 13) rfl (jro (LO r h5 hp b8) ?_);cases l6:Aj s.AI r with
   | true=>
    rw[if_pos l6] at W;refine Ce (jtf (C5 λe he=>?_));refine z_V ?_;refine jtf (Ec (Ak jev ?_));exact f6 _ _ _ ⟨rfl,rfl,true,λ_=>W,(λh=>by cases h),rfl⟩
   | false=>
    rw[if_neg (by rw[l6];decide)] at W;obtain⟨row,e9,W⟩:=AF W;obtain⟨q9,f2,W⟩:=AF W;obtain⟨rfl,i6⟩:=B9 f2;obtain⟨y0,y1,y2,y3⟩:=Av e9;obtain⟨k2,rfl⟩:∃k2:Nat,r = k2:=⟨r.toNat,Z⟩;have e7:k2 < t0.length:=Z
    have ey:t0[k2] = row:=by rw[<- y3];exact getElem_congr_idx Z
    have r7:0<=AK k2/\AK k2<=176:=by unfold AK;split<;>omega
    refine Ce (jff (C0 Z (jfo (jl (v:=I row.top) (by rw[cg];exact C6 (f:=2) e7 (by rw[ey];rfl)) (Cz i6 (C5 λe he=>?_))))));refine z_V ?_;refine jff (jp (BW k2) (jad (jgr (Et (Ak (jl (v:=I row.top) (by rw[cg];exact C6 (f:=2) e7 (by rw[ey];rfl)) jev) ?_)))));refine f6 _ _ _ ⟨rfl,rfl,decide (row.top + size > AK k2 + 16),λhb=>?_,λhb=>?_,rfl⟩
    .rw[if_pos (by have:=z_f hb;omega)] at W;exact W
    .rw[if_neg (by have:=z_g hb;omega)] at W;simpa using W
  rintro e R8 D8 ⟨hR,hD,he⟩;subst hR;refine z_W ?_;clear hD;obtain⟨row,e9,a2⟩:=AF a2;obtain⟨q9,f2,a2⟩:=AF a2;obtain⟨rfl,i6⟩:=B9 f2;obtain⟨y0,y1,y2,y3⟩:=Av e9;have r6:1<=r2:=by
   have:∀(n:Nat) (r:Int),1<=r->Ez s.AI t0 size n r = some r2->1<=r2:=by
    intro n;induction n with
    | zero=>intro r _ h;cases h
    | succ n ih=>
     intro r hr h;unfold Ez at h;split at h
     .exact ih _ Z h
     .obtain⟨_,_,h⟩:=AF h;obtain⟨_,_,h⟩:=AF h;split at h
      .exact ih _ Z h
      .cases h;exact hr
   exact this _ _ g0 W
  obtain⟨k2,rfl⟩:∃k2:Nat,r2 = k2:=⟨r2.toNat,Z⟩;have e7:k2 < t0.length:=Z
  have ey:t0[k2] = row:=by rw[<- y3];exact getElem_congr_idx Z
  refine C0 Z (LB e7 ?_);rw[ey];refine ja λb5=>?_
  refine js (cs':=eRg row) rfl rfl V rfl ?_;refine jfo (jl (v:=I row.top) rfl ?_);refine jbs (cs:=[I row.top]) rfl rfl λb4=>?_
  refine Gr (A:=A) so Z λv' A' j5=>?_
  refine js (cs':=eRg { row with kind:=3 }) rfl rfl V rfl ?_;refine jfo (jl (v:=I row.top) rfl (Cz i6 ?_));refine jfo (js (cs':=eRg { row with kind:=3,top:=row.top + size }) rfl rfl V rfl ?_);refine jfo (jl (v:=I (row.top + size)) rfl ?_);refine jfo (js (cs':=eRg { row with kind:=3,top:=row.top + size,BA:=row.top + size }) rfl rfl V rfl ?_);refine jla (l:=eRg { row with kind:=3,top:=row.top + size,BA:=row.top + size }) V rfl ?_;refine C0 Z (Ge (t:=t0) (x:={ row with kind:=3,top:=row.top + size,BA:=row.top + size }) e7 ?_);refine Al A' (G:=(bw,C Aa (w1.map I ++ [])) :: (bt,C AO (Ad eRg (t0.set k2 { row with kind:=3,top:=row.top + size,BA:=row.top + size }) ++ tsp)) :: E) ?_;exact f5 _ _ _ ⟨rfl,k2,t0.set k2 { row with kind:=3,top:=row.top + size,BA:=row.top + size },_,v',A',Z,Z,by rw[dG];exact f3,by rw[cJ,g6];rfl,by simpa [AT] using a2,j5,rfl,rfl⟩
 clear a8 g7;rintro e R7 D7 ⟨hR,p8,t7,v,A,so,hD,he⟩;subst hR;refine z_W ?_;clear hD;refine Dw so λR8 f8 a9=>?_
 have h8:=h5.le f8;have d3:=d2.le f8;have d1:=e3.le f8;refine Ab (λvs Q D'=>Q = R8/\w2.length = s.AC.length/\D' = (bw,C Aa (w2.map I ++ [])) :: (bt,C AO (Ad eRg t2 ++ tsp)) :: E/\vs = [Pt b1,Pt b2,lv,v9,S0 bt s.AA.length ct,S0 bw s.AC.length s.AC.length,v]) (λK hK=>?_) ?_
 .refine jcI hK λK2 h4=>?_
  refine jlp (λm vs Q D'=>Q = R8/\∃(i:Nat) (w:List Int),i<=AJ.length/\w.length = s.AC.length/\Ee l AJ a7 (AJ.drop i) (a7.drop i) w = some w2/\D' = (bw,C Aa (w.map I ++ [])) :: (bt,C AO (Ad eRg t2 ++ tsp)) :: E/\vs = [Pt b1,Pt b2,lv,v9,S0 bt s.AA.length ct,S0 bw s.AC.length s.AC.length,v,I i]/\m = AJ.length - i)
   (n:=AJ.length) ⟨rfl,0,w1,Z,q0,c7,rfl,rfl,Z⟩ ?_
  rintro m e R9 D9 K3 ⟨hR,i,w,hi,n4,a4,hD,he,hm⟩ h6;subst hR;refine z_W ?_;clear hD;refine Bo d1.sl (jlt (jif (λhc=>?_) (λhc=>?_)));rotate_left
  .have hc:=z_g hc;rw[cT Z] at a4;have:w = w2:=by unfold Ee at a4;simpa using a4
   subst this;exact h4 _ _ _ ⟨rfl,n4,rfl,rfl⟩
  have hc:i < AJ.length:=by have:=z_f hc;omega
  rw[cQ hc,cQ (show i < a7.length by omega)] at a4;unfold Ee at a4;obtain⟨x,hx,a4⟩:=AF a4;obtain⟨k,hk,i7,rfl⟩:=Eb hx;obtain⟨wa,m8,a4⟩:=AF a4;obtain⟨wb,m9,a4⟩:=AF a4;obtain⟨wc,n2,a4⟩:=AF a4;obtain⟨wd,n3,a4⟩:=AF a4;refine Ab (λvs Q D'=>Q = R9/\wd.length = s.AC.length/\D' = (bw,C Aa (wd.map I ++ [])) :: (bt,C AO (Ad eRg t2 ++ tsp)) :: E/\vs = [Pt b1,Pt b2,lv,v9,S0 bt s.AA.length ct,S0 bw s.AC.length s.AC.length,v,I i]) (λK4 h7=>?_) ?_;rotate_left
  .rintro e R8 D8 ⟨hR,o5,hD,he⟩;subst hR;refine z_W ?_;clear hD;refine jad ?_;exact h6 (AJ.length - (i + 1)) _ _ _ Z ⟨rfl,i + 1,wd,Z,o5,a4,rfl,rfl,rfl⟩
  refine jcI h7 λK5 f5=>?_
  obtain⟨y,hy⟩:∃y,a7[i]'(Z) = y:=⟨_,rfl⟩;rw[hy] at m8 m9 n2 n3;obtain⟨q1,q2,q3⟩:=EP m8;obtain⟨q4,q5,q6⟩:=EP m9;obtain⟨-,-,tr,tn⟩:=c9 _ (cK hk);have s7:wa.length = w.length:=by rw[q3,dG]
  have s8:wb.length = wa.length:=by rw[q6,dG]
  have ty:a7[((i:Nat):Int).toNat]'(Z) = y:=by rw[<- hy];exact getElem_congr_idx (cG i)
  refine Bl d1 Z Z ?_;rw[getElem_congr_idx (cG i)];refine jro (Di _ d3 Z) ?_;rw[i7];refine jtg d3 hk λb3 o3 r5 j6 rv nv i9 i8 i5 m1 c8=>?_
  obtain⟨ra,rc,rfl⟩:=i9.sl;obtain⟨na,nc,rfl⟩:=i8.sl;refine Do i5 m1 c8 (ja λc5=>?_);refine jS (eTh l[k] (.slice ra l[k].refs.length rc) (.slice na l[k].nums.length nc)) ?_;refine Bl a9 Z Z (Bl a9 Z Z ?_);rw[ty];refine jia q1 Z (jsi (l:=w) (sp:=[]) Z ?_);rw[<- q3];refine Wy a9 Z Z λq hq=>hq _ _ ?_
  rw[ty] at hq ⊢;refine jad (jfo (jla (t:=BK) (cs:=eTh l[k] (.slice ra l[k].refs.length rc) (.slice na l[k].nums.length nc)) (l:=[I l[k].sh.refs,I l[k].sh.nums]) (by exact (by decide:4<=6)) rfl (jp (EL l[k].sh) ?_)));refine jia q4 Z (Ak (hq _ _ jev) (jsi (l:=wa) (sp:=[]) Z ?_));rw[<- q6];refine Ab (λvs Q D'=>Q = R9/\wc.length = s.AC.length/\D' = (c5,C BK (eTh l[k] (.slice ra l[k].refs.length rc) (.slice na l[k].nums.length nc))) :: (bw,C Aa (wc.map I ++ [])) :: (bt,C AO (Ad eRg t2 ++ tsp)) :: E/\vs = [Pt b1,Pt b2,lv,v9,S0 bt s.AA.length ct,S0 bw s.AC.length s.AC.length,v,I i,Pt c5]) (λK6 h9=>?_) ?_
  .refine jcI h9 λK7 e5=>?_
   refine jlp (λm vs Q D'=>Q = R9/\∃(j:Nat) (w5:List Int),j<=l[k].refs.length/\w5.length = s.AC.length/\Er l AJ a7 w5 (y + 2 + j) (l[k].refs.drop j) = some wc/\D' = (c5,C BK (eTh l[k] (.slice ra l[k].refs.length rc) (.slice na l[k].nums.length nc))) :: (bw,C Aa (w5.map I ++ [])) :: (bt,C AO (Ad eRg t2 ++ tsp)) :: E/\vs = [Pt b1,Pt b2,lv,v9,S0 bt s.AA.length ct,S0 bw s.AC.length s.AC.length,v,I i,Pt c5,I j]/\m = l[k].refs.length - j)
    (n:=l[k].refs.length) ⟨rfl,0,wb,Z,Z,by simpa using n2,rfl,rfl,Z⟩ ?_
   rintro m5 e R8 D8 K8 ⟨hR,j,w5,hj,e4,D,hD,he,o9⟩ e6;subst hR;refine z_W ?_;clear hD;refine jl (v:=.slice ra l[k].refs.length rc) rfl (jln (jlt (jif (λhd=>?_) (λhd=>?_))));rotate_left
   .have hd:=z_g hd;rw[cT Z] at D;have:w5 = wc:=by unfold Er at D;simpa using D
    subst this;exact e5 _ _ _ ⟨rfl,e4,rfl,rfl⟩
   have hd:j < l[k].refs.length:=by have:=z_f hd;omega
   rw[cQ hd] at D;unfold Er at D;obtain⟨z,hz,D⟩:=AF D;obtain⟨w6,c6,D⟩:=AF D;refine Ab (λvs Q D'=>Q = R8/\w6.length = s.AC.length/\D' = (c5,C BK (eTh l[k] (.slice ra l[k].refs.length rc) (.slice na l[k].nums.length nc))) :: (bw,C Aa (w6.map I ++ [])) :: (bt,C AO (Ad eRg t2 ++ tsp)) :: E/\vs = [Pt b1,Pt b2,lv,v9,S0 bt s.AA.length ct,S0 bw s.AC.length s.AC.length,v,I i,Pt c5,I j]) (λK9 f6=>?_) ?_;rotate_left
   .rintro e Rx D9 ⟨hR,o4,hD,he⟩;subst hR;refine z_W ?_;clear hD;refine jad ?_;exact e6 (l[k].refs.length - (j + 1)) _ _ _ Z ⟨rfl,j + 1,w6,Z,o4,by rw[<- D];congr 1;omega,rfl,rfl,rfl⟩
   refine jcI f6 λK10 g3=>?_
   refine jl (v:=.slice ra l[k].refs.length rc) rfl (Bl i9 Z Z ?_);rw[getElem_congr_idx (cG j)];refine jro (Fh d3 Z hz) (jro (Gb z (B8.rd d1) Z) (jge (jif (λh0=>?_) (λh0=>?_))))
   .have h0:=z_f h0;rw[if_pos Z] at c6;obtain⟨u,hu,c6⟩:=AF c6;obtain⟨u0,u1,u2,u3⟩:=Av hu;obtain⟨p1,p2,p3⟩:=EP c6;refine Bl a9 Z Z ?_;rw[ty];refine jad (jad (Bl a9 u0 u1 ?_));rw[u3];refine jia p1 Z (jsi (l:=w5) (sp:=[]) Z ?_);rw[<- p3];exact g3 _ _ _ ⟨rfl,by rw[p3,dG];exact e4,rfl,rfl⟩
   .have h0:=z_g h0;rw[if_neg Z] at c6;have:w5 = w6:=by simpa using c6
    subst this;exact g3 _ _ _ ⟨rfl,e4,rfl,rfl⟩
  rintro e R8 D8 ⟨hR,s9,hD,he⟩;subst hR;refine z_W ?_;clear hD;refine jcI f5 λK7 e5=>?_
  refine jlp (λm vs Q D'=>Q = R8/\∃(j:Nat) (w5:List Int),j<=l[k].nums.length/\w5.length = s.AC.length/\wrs w5 (y + 2 + l[k].refs.length + j) (l[k].nums.drop j) = some wd/\D' = (c5,C BK (eTh l[k] (.slice ra l[k].refs.length rc) (.slice na l[k].nums.length nc))) :: (bw,C Aa (w5.map I ++ [])) :: (bt,C AO (Ad eRg t2 ++ tsp)) :: E/\vs = [Pt b1,Pt b2,lv,v9,S0 bt s.AA.length ct,S0 bw s.AC.length s.AC.length,v,I i,Pt c5,I j]/\m = l[k].nums.length - j)
   (n:=l[k].nums.length) ⟨rfl,0,wc,Z,Z,by simpa using n3,rfl,rfl,Z⟩ ?_
  rintro m5 e Rx D9 K8 ⟨hR,j,w5,hj,e4,D,hD,he,o9⟩ e6;subst hR;refine z_W ?_;clear hD;refine jfo (jl (v:=.slice na l[k].nums.length nc) rfl (jln (jlt (jif (λhd=>?_) (λhd=>?_)))));rotate_left
  .have hd:=z_g hd;rw[cT Z] at D;have:w5 = wd:=by unfold wrs at D;simpa using D
   subst this;exact Bf (e5 _ _ _ ⟨rfl,e4,rfl,rfl⟩)
  have hd:j < l[k].nums.length:=by have:=z_f hd;omega
  rw[cQ hd] at D;unfold wrs at D;obtain⟨w6,c6,D⟩:=AF D;obtain⟨p1,p2,p3⟩:=EP c6;refine Bl a9 Z Z ?_;rw[ty];refine jad (jfo (jl (v:=.slice ra l[k].refs.length rc) rfl (jln (jad (jad ?_)))));refine jfo (jl (v:=.slice na l[k].nums.length nc) rfl (Bl i8 Z Z ?_));rw[getElem_congr_idx (cG j)];refine jia p1 Z (jsi (l:=w5) (sp:=[]) Z (jad ?_));rw[<- p3];exact e6 (l[k].nums.length - (j + 1)) _ _ _ Z ⟨rfl,j + 1,w6,Z,by rw[p3,dG];exact e4,by rw[<- D];congr 1;omega,rfl,rfl,rfl⟩
 rintro e Rw D9 ⟨n7,l9,hD,he⟩;subst n7;refine z_W ?_;clear hD;obtain⟨rfl,l4⟩:=B9 l5;obtain⟨B0,h3⟩:∃B0:Chs,B0 = (bw,C Aa (w2.map I ++ [])) :: (bt,C AO (Ad eRg t2 ++ tsp)) :: E:=⟨_,rfl⟩;have r9:At B0 b1 (C AW (eSt s wv tv mv T ov pv)):=by rw[h3];exact inferInstance
 rw[<- h3];obtain⟨X,hX⟩:∃X:Nat->Value->List Value,X = λbm p=>eSt O (S0 bw s.AC.length s.AC.length) (S0 bt s.AA.length ct) (S0 bm s.AC.length s.AC.length) (SN) (SN) p:=⟨_,rfl⟩
 have j3:∀{Q : RM} {D' : Chs} {m:M} [At D' b1 (C AW (eSt s wv tv mv T ov pv))],J Q D' m->J Q D' (AND (L1 (.pointer (some ⟨b1,0 + 6,none⟩)) λx=>EV x (.bool s.Ap))<|AND (L1 (.pointer (some ⟨b1,0 + 11,none⟩)) λx=>EV x (I s.BC))<|AND (L1 (.pointer (some ⟨b1,0 + 12,none⟩)) λx=>EV x (I s.BJ)) m):=λH=>Ak (jl rfl jev) (Ak (jl rfl jev) (Ak (jl rfl jev) H))
 have j4:∀{Q : RM} {D' : Chs} {m:M} [At D' b1 (C AW (eSt s wv tv mv T ov pv))],J Q D' m->J Q D' (AND (L1 (.pointer (some ⟨b1,0 + 6,none⟩)) λx=>EV x (.bool s.Ap))<|AND (L1 (.pointer (some ⟨b1,0 + 10,none⟩)) λx=>EV x (pv))<|AND (L1 (.pointer (some ⟨b1,0 + 11,none⟩)) λx=>EV x (I s.BC))<|AND (L1 (.pointer (some ⟨b1,0 + 12,none⟩)) λx=>EV x (I s.BJ)) m):=λH=>Ak (jl rfl jev) (Ak (jl rfl jev) (Ak (jl rfl jev) (Ak (jl rfl jev) H)))
 refine Ab (λvs Q D'=>Rw.le Q/\∃bm a5 c4,B8 Q c4 s.AI/\D' = (a5,C AW (X bm c4)) :: (bm,C Ax ((List.replicate s.AC.length [Value.bool false]).flatten)) :: B0/\vs = [Pt b1,Pt b2,lv,v9,v,Pt a5]) (λK hK=>?_) ?_
 .have e2:∀(Q : RM) (bm a5 bp cp:Nat),Rw.le Q->B8 Q (S0 bp s.AI.length cp) s.AI->J Q ((a5,C AW (cl z50)) :: (bm,C Ax ((List.replicate s.AC.length [Value.bool false]).flatten)) :: B0) (ST 13 (Pt a5) (.agg (X bm (S0 bp s.AI.length cp)).toArray) (K [Pt b1,Pt b2,lv,v9,v,Pt a5])):=λQ bm a5 bp cp o6 p5=>by
   refine js (cs':=X bm (S0 bp s.AI.length cp)) (by rw[hX];rfl) (by rw[hX];rfl) (by exact z_n 13) (by rw[hX];rfl) (hK _ _ _ ⟨o6,bm,a5,_,p5,rfl,rfl⟩)
  refine jln (jl (v:=.bool s.Ap) rfl (jl (v:=pv) rfl (jl (v:=I s.BC) rfl (jl (v:=I s.BJ) rfl (Cz l4 ?_)))));refine F5 ?_ (F5 ?_ (E3 ?_))
  .refine jms Z Z Z λbm=>?_
   rw[cG];refine j4 (F5 ?_ (E3 ?_))
   .refine jc (A:=[]) (CY h8.p b8) ?_;rintro _ Ry _ a3 ⟨bp,cp,g1,b7,d4,rfl,rfl⟩;refine BB (b:=bp) λRz b0 b6=>Ov (jbd (cs:=X bm (S0 bp s.AI.length cp)) rfl (by rw[hX,<- hS];rfl) (j3 (ja λa5=>j3 ?_)))
    exact e2 _ _ _ _ _ (a3.trans b0) (CO b6 b7)
   .refine ja λa5=>j4 (jc (A:=[]) (CY h8.p b8) ?_)
    rintro _ Ry _ a3 ⟨bp,cp,g1,b7,d4,rfl,rfl⟩;refine BB (b:=bp) λRz b0 b6=>Ov (jbd (cs:=X bm (S0 bp s.AI.length cp)) rfl (by rw[hX,<- hS];rfl) (j3 ?_))
    exact e2 _ _ _ _ _ (a3.trans b0) (CO b6 b7)
  .refine jc (A:=[]) (CY h8.p b8) ?_;rintro _ Ry _ a3 ⟨bp,cp,g1,b7,d4,rfl,rfl⟩;refine BB (b:=bp) λRz b0 b6=>Ov (j3 (F5 ?_ (E3 ?_)))
   .refine jms Z Z Z λbm=>?_
    rw[cG];refine jbd (cs:=X bm (S0 bp s.AI.length cp)) rfl (by rw[hX,<- hS];rfl) (j3 (ja λa5=>j3 ?_));exact e2 _ _ _ _ _ (a3.trans b0) (CO b6 b7)
   .refine ja λa5=>j3 (jms Z Z Z λbm=>?_)
    rw[cG];refine jbd (cs:=X bm (S0 bp s.AI.length cp)) rfl (by rw[hX,<- hS];rfl) (j3 (Az (dh _ _ _) ?_));exact e2 _ _ _ _ _ (a3.trans b0) (CO b6 b7)
  .refine ja λa5=>j4 (F5 ?_ (E3 ?_))
   .refine jms Z Z Z λbm=>?_
    rw[cG];refine j4 (jc (A:=[]) (CY h8.p b8) ?_);rintro _ Ry _ a3 ⟨bp,cp,g1,b7,d4,rfl,rfl⟩;refine BB (b:=bp) λRz b0 b6=>Ov (jbd (cs:=X bm (S0 bp s.AI.length cp)) rfl (by rw[hX,<- hS];rfl) (j3 (Az (dh _ _ _) ?_)))
    exact e2 _ _ _ _ _ (a3.trans b0) (CO b6 b7)
   .refine jc (A:=[]) (CY h8.p b8) ?_;rintro _ Ry _ a3 ⟨bp,cp,g1,b7,d4,rfl,rfl⟩;refine BB (b:=bp) λRz b0 b6=>Ov (j3 (jms Z Z Z λbm=>?_))
    rw[cG];refine jbd (cs:=X bm (S0 bp s.AI.length cp)) rfl (by rw[hX,<- hS];rfl) (j3 (Az (dh _ _ _) ?_));exact e2 _ _ _ _ _ (a3.trans b0) (CO b6 b7)
 rintro e Ry D9 ⟨a3,bm,a5,c4,g5,hD,he⟩;rw[hD];clear hD;subst hX h3;dsimp only;have g9:O.AC = w2:=by rw[<- hS]
 have j7:O.AA = t2:=by rw[<- hS]
 have n5:O.AI = s.AI:=by rw[<- hS]
 have n6:O.AB = ths:=by rw[<- hS]
 have j8:O.AM = List.replicate w2.length false:=by rw[<- hS]
 have j1:DW l AJ a7 s.AB = some O.AB:=by rw[n6];exact f4
 rw[<- hE];have ew:s.AC.length = O.AC.length:=by rw[g9];exact l9.symm
 have et:s.AA.length = O.AA.length:=by rw[j7];exact p8.symm
 have em:(List.replicate s.AC.length [Value.bool false]).flatten = O.AM.map Value.bool:=by rw[j8,l9];simp
 have el:O.AM.length = O.AC.length:=by rw[j8,g9,cW]
 rw[em,<- g9,<- j7,ew,et];refine Al [(a5,C AW (eSt O (S0 bw O.AC.length O.AC.length) (S0 bt O.AA.length ct) (S0 bm O.AC.length O.AC.length) (SN) (SN) c4)),(b2,C AW (cl z50)),(b1,C AW (eSt s wv tv mv T ov pv)),(bw,C Aa (O.AC.map I ++ [])),(bt,C AO (Ad eRg O.AA ++ tsp)),(bm,C Ax (O.AM.map Value.bool))] (G:=F) ?_;have i4:=k3.trans (k4.trans (k7.trans (l2.trans (f8.trans a3))));have p4:=Fz.flat g5;change J Ry _ (l7d e _);refine ZB (E:=(b1,C AW (eSt s wv tv mv T ov pv)) :: (bw,C Aa (O.AC.map I ++ [])) :: (bt,C AO (Ad eRg O.AA ++ tsp)) :: (bm,C Ax (O.AM.map Value.bool)) :: F) (h8.le a3) (d3.le a3) Z (d1.le a3) Z (a9.le a3) j1 m6 m4 inferInstance he (λx hx=>?_) (λQ rows x A j9 p7 so=>?_)
 .show (true && (true && (true && (true && (true && (true && (true && (true && (flat x && (true && (flat c4 && (true && (true && true))))))))))))) = true;rw[hx,p4];rfl
 .refine Ao (A:=(bw,C Aa (O.AC.map I ++ [])) :: (bt,C AO (Ad eRg O.AA ++ tsp)) :: (bm,C Ax (O.AM.map Value.bool)) :: A) (i4.trans j9) ⟨bw,[],O.AC.length,bt,tsp,ct,bm,x,c4,rows,A,Z,Z,Z,Z,Z,p7,so,?_,rfl,?_⟩
  .rw[n5];exact g5.le j9
  .rw[el]
theorem VN {R:RM} {s j : Sm.Ah} {wv tv mv Q ov pv:Value} (h:StC R s wv tv mv Q ov pv) (hw:s.AC.length<=1000) (a4:2<=s.AA.length) (a5:s.AA.length<=12) (a6:s.AB.length < 1000000) (a3:∀t∈s.AB,t.AD.length < 1000000)
  (a1:s.AI.length < 1000000) (hp:∀a∈s.AI,AN a<=9223372036854775807) (hS:GK s = some j) :
  Fn P IS [.agg (eSt s wv tv mv Q ov pv).toArray] R [] (λv R' A=>∃N wsp W K tsp T H x y,j.AC.length = s.AC.length/\j.AA.length = s.AA.length/\j.AM.length = s.AC.length/\j.AC.length<=W/\j.AA.length<=T/\Ths R' x j.AB/\B8 R' y j.AI/\
   A = [(N,C Aa (j.AC.map I ++ wsp)),(K,C AO (Ad eRg j.AA ++ tsp)),(H,C Ax (j.AM.map Value.bool))]/\
   v = .agg (eSt j (S0 N j.AC.length W) (S0 K j.AA.length T) (S0 H j.AM.length j.AM.length) x (SN) y).toArray):=by
 refine λF=>jc (Nl h hw a4 a5 a6 a3 a1 hp hS) ?_
 rintro v R1 _ a0 ⟨N,wsp,W,K,tsp,T,H,x,y,rows,A',e1,e2,e3,e4,e5,O,so,a2,rfl,rfl⟩;obtain⟨sa,sc,rfl⟩:=so.sl;refine Al A' (G:=[(N,C Aa (j.AC.map I ++ wsp)),(K,C AO (Ad eRg j.AA ++ tsp)),(H,C Ax (j.AM.map Value.bool))] ++ F) ?_;refine jfw so (O.all λ_ _=>Cd.len) λR3 D hfz=>?_
 exact Ao (A:=[(N,C Aa (j.AC.map I ++ wsp)),(K,C AO (Ad eRg j.AA ++ tsp)),(H,C Ax (j.AM.map Value.bool))]) (a0.trans D) ⟨N,wsp,W,K,tsp,T,H,_,y,e1,e2,e3,e4,e5,⟨rows,O.mono λ_ _=>Cd.le D,hfz⟩,a2.le D,rfl,rfl⟩
theorem W2 {R:RM} {b c:Nat} {l:List Rg} {sp:List Value} (h:R b = some (C AO (Ad eRg l ++ sp))) (hc:l.length<=c):Rgs R (S0 b l.length c) l:=by
 have e:=DT (f:=eRg) (w:=5) (λ_=>rfl) l;exact .inr ⟨b,0,c,AO,_,rfl,h,by rw[cJ,e];omega,by rw[di,<- e,List.take_left],hc⟩
theorem RK {R:RM} {b c:Nat} {l:List Bool} {sp:List Value} (h:R b = some (C Ax (l.map Value.bool ++ sp))) (hc:l.length<=c):Bls R (S0 b l.length c) l:=by
 have e:(l.map Value.bool).length = l.length * 1:=V
 exact .inr ⟨b,0,c,Ax,_,rfl,h,by rw[cJ,e];omega,by rw[di,<- e,List.take_left],hc⟩
theorem ID {l:List AQ} {AJ j:List Int}:∀{x r:List Th},DW l AJ j x = some r->r.length = x.length
 | [],r,h=>by unfold DW at h;cases h;rfl
 | t :: x,r,h=>by
  obtain⟨AD,y,_,A,rfl⟩:=Mj h;rw[cS,cS,ID A]
theorem UX {s x : Sm.Ah} (h:GK s = some x):x.AB.length = s.AB.length/\x.old = []:=by
 unfold GK at h;obtain⟨_,_,h⟩:=AF h;obtain⟨⟨_,_⟩,_,h⟩:=AF h;obtain⟨⟨_,_⟩,_,h⟩:=AF h;obtain⟨_,_,h⟩:=AF h;obtain⟨_,j,h⟩:=AF h;obtain⟨_,_,h⟩:=AF h;simp only[cX] at h;subst h;exact⟨ID j,rfl⟩
theorem V8 {p n:Nat} {S S' : Sim} {g:Img} {R:RM} (x:Ok R S g) (hp:Pr S) (hT:TOk S.AA) (hf:S.full = true) (hS:S.pause n = some S') :
  Fn P Dh [Pt p] R (Ag p S g) (DI p S' λ_=>True):=by
 refine Jy λF=>?_
 refine z_1 ?_;unfold Sim.pause at hS;split at hS
 .cases hS
 rename_i hz;have hz:S.sz = true:=by simpa using hz
 obtain⟨s,hs,hS⟩:=AF hS;simp only[cX] at hS;have b8:=Gp hz;have d1:=x.hl;refine jl rfl ?_;rw[hf];refine DM (jc (ZW x hz) ?_);rintro _ R1 _ a6 ⟨-,rfl,e6,b5,rfl⟩;have e2:=x.le a6;unfold Ag;refine BB (b:=g.wb) λR2 c4 c9=>BB (b:=g.tb) λR3 a7 c8=>BB (b:=g.mb) λR4 a1 c7=>?_
 have N:=(c4.trans a7).trans a1;have y:=e2.le N;have b4:StC R4 S.view (wS S g) (tS S g) (mS S g) e6 g.old g.AI:=⟨CO (a1 _ _ (a7 _ _ c9)) x.wk,W2 (a1 _ _ c8) x.tk,RK c7 x.mk_,b5.le N,y.old,y.AI⟩;have b7:S.view.AB.length = S.th.length:=by simp[Sim.view]
 obtain⟨d4,hold⟩:=UX hs;refine jc (VN b4 x.wl hT.n0 hT.n1 Z (λt ht=>?_) b8.2.2.2.1 hp.2 hs) ?_
 .obtain⟨t',e1,rfl⟩:=cq.1 ht;exact b8.2.2.2.2 _ e1
 rintro _ R5 _ a8 ⟨bw,wsp,cw,bt,tsp,ct,bm,W,b9,w1,w2,w3,w4,w5,Q,a0,rfl,rfl⟩;have e5:=y.le a8;obtain⟨ta,tc,b6⟩:=Q.sl;have d3:=Fz.flat a0;have w1:s.AC.length = S.AC.length:=w1;have w2:s.AA.length = S.AA.length:=w2;have w3:s.AM.length = S.AC.length:=w3;have f0:=x.wl;have e8:=x.tl;refine js rfl ?_ (by show 4 + 13<=35;omega) rfl ?_
 .subst b6;show (true && (true && (true && (true && (true && (true && (true && (true && (true && (true && (flat b9 && (true && (true && true))))))))))))) = true;rw[d3];rfl
 refine jl rfl (jbd rfl rfl ?_);generalize D:({ S with AC:=s.AC,AA:=s.AA,AM:=s.AM,Ae:=s.Ae,stop:=s.stop,full:=s.full,old:=s.old,AI:=s.AI,BC:=s.BC,BJ:=s.BJ,col:=Da s.Ap 0 }:Sim) = j;generalize O:({ g with wb:=bw,wc:=cw,wsp:=wsp,tb:=bt,tc:=ct,tsp:=tsp,mb:=bm,mc:=s.AM.length,msp:=[],Ap:=.bool s.Ap,want:=I s.want,AB:=W,old:=SN,AI:=b9,AR:=SN }:Img) = g3;have c0:j.th = S.th:=by rw[<- D]
 have a5:g3.AB = W:=by rw[<- O]
 have e3:Ok R5 j g3:=by
  subst D O b6;exact { e5 with old:=.inl ⟨rfl,by rw[hold];rfl,by rw[hold];rfl⟩,AI:=a0,AR:=.inl ⟨rfl,rfl,rfl⟩,wl:=by show s.AC.length<=1000;omega,tl:=by show s.AA.length<=1000;omega,ml:=by show s.AM.length<=1000;omega,fl:=⟨rfl,rfl,rfl⟩,wk:=w4,tk:=w5,mk_:=z_n _ }
 refine js (cs':=Ch j g3) rfl rfl (cN rfl) (by rw[<- D,<- O];rfl) ?_;refine Az (D':=Ag p j g3 ++ F) (by
  have e:Ag p j g3 = (p,C CG (Ch j g3)) :: (bw,C Aa (s.AC.map I ++ wsp)) :: (bt,C AO (Ad eRg s.AA ++ tsp)) :: (bm,C Ax (s.AM.map Value.bool ++ [])) :: (g.hb,C Af (Ep S.th g.rv ++ g.hsp)) :: evD S g:=by rw[<- D,<- O];rfl
  rw[e,dD]
  exact d9 (l₁:=[(bw,C Aa (s.AC.map I ++ wsp)),(bt,C AO (Ad eRg s.AA ++ tsp)),(bm,C Ax (s.AM.map Value.bool))])) ?_
 have a9:S' = { j with th:=s.AB.map λt=>thr0 t.AD t.next t.Am }:=by rw[<- D,<- hS]
 clear hS D O b4;generalize b0 : (s.AB.map λt=>thr0 t.AD t.next t.Am) = A at a9;have a2:A.length = S.th.length:=by rw[<- b0,cM];omega
 have c5:∀k (h:k < A.length) (h' : k < s.AB.length),A[k] = thr0 (s.AB[k]).AD (s.AB[k]).next (s.AB[k]).Am:=λk h h'=>by simp only[<- b0,eF]
 rw[<- c0] at a2 d1 b7;rw[b7] at d4;subst a9;refine jlp (λm vs R' D'=>R' = R5/\∃(k:Nat) (H:Img),k<=j.th.length/\H.AB = W/\Ok R5 { j with th:=A.take k ++ j.th.drop k } H/\D' = Ag p { j with th:=A.take k ++ j.th.drop k } H ++ F/\vs = [Pt p,I k]/\m = j.th.length - k)
  ⟨rfl,0,g3,Z,a5,e3,rfl,rfl,Z⟩ ?_
 rintro m e R6 D6 K ⟨hR,k,H,hk,e4,y,hD,he,hm⟩ hK;subst hR;refine z_W ?_;clear hD;have e9:=E5 (k:=k) a2;refine jl (v:=.slice (some ⟨H.hb,0,none⟩) (A.take k ++ j.th.drop k).length H.hc) rfl (jln (jlt (jif (λhc=>?_) (λhc=>?_))));rotate_left
 .have hc:j.th.length<=k:=by have:=z_g hc;omega
  have ee:A.take k ++ j.th.drop k = A:=by rw[cO Z,cT Z,dD]
  rw[ee] at y ⊢;exact Ay (a6.trans (N.trans a8)) trivial rfl y
 have hc:k < j.th.length:=by have:=z_f hc;omega
 have b1:k < s.AB.length:=Z
 refine jl rfl ?_;rw[e4];refine jtr Q b1 λb3 o3 ty cs rv a4 c6 d2 a3=>(Do c6 d2 a3 ?_)
 obtain⟨ra,rc,b2⟩:=a4.sl;subst b2;refine ja λe7=>(js rfl rfl (by exact z_n 4) rfl (jl (v:=.slice (some ⟨H.hb,0,none⟩) (A.take k ++ j.th.drop k).length H.hc) rfl (jl rfl (jl rfl (jl rfl (jbd (cs:=Aw (thr0 (s.AB[k]).AD (s.AB[k]).next (s.AB[k]).Am) (.slice ra (s.AB[k]).AD.length rc)) rfl rfl (C0 Z (jst (p:=p) _ _ (by show k < (A.take k ++ j.th.drop k).length;omega) y.rvl (Fz.flat a4) rfl rfl (jad ?_)))))))))
 have Ef:(A.take k ++ j.th.drop k).set k (thr0 (s.AB[k]).AD (s.AB[k]).next (s.AB[k]).Am) = A.take (k + 1) ++ j.th.drop (k + 1):=by
  rw[<- c5 k Z b1];exact GI a2 hc
 have T:=y.setT (i:=k) (t:=thr0 (s.AB[k]).AD (s.AB[k]).next (s.AB[k]).Am) a4;dsimp only at T ⊢;rw[Ef] at T ⊢;refine Al (Ag p { j with th:=A.take (k + 1) ++ j.th.drop (k + 1) } { H with rv:=H.rv.set k (.slice ra (s.AB[k]).AD.length rc) }) (G:=F) (hK (j.th.length - (k + 1)) _ _ _ Z ⟨rfl,k + 1,{ H with rv:=H.rv.set k (.slice ra (s.AB[k]).AD.length rc) },Z,e4,T,rfl,rfl,rfl⟩)
theorem TL {p n:Nat} {S S' : Sim} {g:Img} {R:RM} (j:Ok R S g) (D:Pr S) (y:TOk S.AA) (x:S.pause n = some S') :
  Fn P Dh [Pt p] R (Ag p S g) (DI p S' λ_=>True):=by
 cases A:S.full with
 | true=>exact V8 j D y A x
 | false=>exact Sn j D y A x
theorem Zx (x:Int) (w:World):(Go.convert 5 3 (.int .u8 x):Sem Value).run P w = .ok (.int .i64 (IntKind.i64.wrap x)) w:=by
 kernel_rfl
def Bsl (R:RM) (v:Value) (n:Nat):Prop:=∃a cap,v = .slice a n cap/\n<=cap/\(n = 0\/∃b o,a = some ⟨b,o,none⟩/\∀i,i < n->∃t cs fz x,R b = some (.cells cs t fz)/\cs[o + i]? = some (.int .u8 x)/\0<=x/\x < 256)
theorem Bsl.le {R A : RM} {v:Value} {n:Nat} (h:R.le A) (H:Bsl R v n):Bsl A v n:=by
 obtain⟨a,j,D,G,y | ⟨b,o,y,N⟩⟩:=H
 .exact⟨a,j,D,G,.inl y⟩
 .exact⟨a,j,D,G,.inr ⟨b,o,y,λi O=>by obtain⟨t,K,fz,x,Q,T⟩:=N i O;exact⟨t,K,fz,x,h _ _ Q,T⟩⟩⟩
section rules
variable {R:RM} {D:Chs} {k:Value->M}
theorem jcv {x:Int} (h:inR x) (H:J R D (k (I x))):J R D (X P (Go.convert 5 3 (.int .u8 x)) k):=by
 intro A j w y;rw[Zx,FV h];subst y;exact⟨BG.refl _,H _ j⟩
theorem bb {x y:Int} (j:0<=x/\x < 4611686018427387904) (A:0<=y/\y < 4611686018427387904) (H:∀z:Int,0<=z->z < 4611686018427387904->J R D (k (I z))):J R D (BO .xor (I x) (I y) k):=by
 have e:BO .xor (I x) (I y) k = k (.int .i64 (IntKind.i64.wrap (BitVec.ofInt 64 x ^^^ BitVec.ofInt 64 y).toNat)):=rfl;have G:(BitVec.ofInt 64 x ^^^ BitVec.ofInt 64 y).toNat < 2 ^ 62:=by
  rw[BitVec.toNat_xor];have hb:∀z:Int,0<=z/\z < 4611686018427387904->(BitVec.ofInt 64 z).toNat < 2 ^ 62:=λz K=>by
   rw[BitVec.toNat_ofInt];omega
  exact Nat.xor_lt_two_pow (hb x j) (hb y A)
 rw[e,FV ⟨Z,Z⟩];exact H _ Z Z
theorem XR {v:Value} {n:Nat} {i:Int} (h:Bsl R v n) (h0:0<=i) (W:i < n)
  (H:∀(q:Value) (x:Int),0<=x->x < 256->(∀(j : Chs) (y : Value->M),J R j (y (.int .u8 x))->J R j (L1 q y))->J R D (k q)):J R D (IA 1 v (I i) k):=by
 obtain⟨a,G,rfl,hn,h2 | ⟨b,o,rfl,hc⟩⟩:=h
 .omega
 .obtain⟨t,T,fz,x,hb,N,O,Q⟩:=hc i.toNat Z;refine jia h0 Z (H _ x O Q λj y K=>?_);rw[dx];intro h A;exact⟨.int .u8 x,by simp only[Go.Lf.hc,A.rd b _ hb];exact N,K h A⟩
end rules
def Byt (R:RM) (v:Value):Prop:=∃a n cap,v = .slice a n cap/\Bsl R v n/\n<=1000000
theorem Byt.le {R x : RM} {v:Value} (h:R.le x) (H:Byt R v):Byt x v:=by
 obtain⟨a,n,j,y,A,D⟩:=H;exact⟨a,n,j,y,A.le h,D⟩
@[reducible] def rdO (v:Value) (m:Int):Obj:=C 129 [v,I m]
theorem WL {R:RM} {G:Nat} {v:Value} {n m:Int} (hb:Byt R v) (Q:0<=m/\m < 1000000000) :
  Fn P Fu [Pt G,I n] R [(G,rdO v m)] (λv' N A=>N = R/\A = [(G,rdO v (m + 1))]/\∃x,v' = I x/\0<=x/\(x < n\/x = 0)):=by
 refine N0 λF=>?_
 refine z_2 ?_;obtain⟨a,l,j,rfl,hf,hl⟩:=hb;refine jl rfl (jad (js rfl rfl V rfl (jor [Pt G,I n] (decide (n < 1) || ((l:Int) == 0)) (λK' a0=>?_) (λe c u ho he=>?_))))
 .refine jlt (jgO a0 λO hN=>jl rfl (jln (jeq hN)))
 refine z_V ?_;rw[ho];have D:∀x:Int,0<=x->(x < n\/x = 0)->J R ((G,C 129 [.slice a l j,I (m + 1)]) :: F) (Fb R F (λv' N A=>N = R/\A = [(G,rdO (.slice a l j) (m + 1))]/\∃x,v' = I x/\0<=x/\(x < n\/x = 0)) (I x)):=λx H x1=>
  Ao (RM.le.refl R) ⟨rfl,rfl,x,rfl,H,x1⟩
 refine jif (λh0=>D 0 Z (.inr rfl)) (λh0=>?_);simp only[ci,decide_eq_false_iff_not,beq_eq_false_iff_ne] at h0;obtain⟨n1,l1⟩:=h0;have tm:∀x y:Int,0<=x->0 < y->0<=x.tmod y/\x.tmod y < y:=λx y hx hy=>⟨Int.tmod_nonneg y hx,Int.tmod_lt_of_pos x hy⟩
 refine jl rfl (jsu ?_);rw[show m + 1 - 1 = m from Z];refine jl rfl (jln (jlt (jif (λO=>?_) (λO=>?_))))
 .have O:=z_f O;refine jl rfl (XR hf Q.1 O λq x H x1 hq=>(hq _ _ (@jcv _ _ _ _ ⟨Z,Z⟩ (Pc Z ?_))));obtain⟨t0,t1⟩:=tm x n H Z;exact D _ t0 (.inl t1)
 .refine Ab (λvs N D'=>N = R/\D' = (G,C 129 [.slice a l j,I (m + 1)]) :: F/\∃x:Int,0<=x/\x < 1000000000000/\vs = [I n,I x]) (λK hK=>?_) ?_
  .obtain⟨k0,k1⟩:=tm m l Q.1 Z;obtain⟨k2,k3⟩:=tm (m * 7 + 3) l Z Z;have q0:0<=m.tdiv l:=Int.tdiv_nonneg Q.1 Z;have q1:m.tdiv l<=m:=by
    rw[dv Q.1];exact Int.ediv_le_self _ Q.1
   refine jl rfl (jl rfl (jln (Pc Z (XR hf k0 k1 λqa x H x1 T=>(T _ _ (jl rfl (HL ⟨Z,Z⟩ (jad (jl rfl (jln (Pc Z (XR hf k2 k3 λqb y y0 y1 W=>(W _ _ (HL ⟨Z,Z⟩ (jl rfl (jln (Oq Z ⟨Z,Z⟩ (HL ⟨Z,Z⟩ (F5 ?_ (E3 ?_))))))))))))))))))))
   .refine @jcv _ _ _ _ ⟨Z,Z⟩ (HL ⟨Z,Z⟩ (Ak (jl rfl jev) (Ak (jl rfl jev) (Ak (W _ _ jev) (Ak (jl rfl jev) (@jcv _ _ _ _ ⟨Z,Z⟩ (HL ⟨Z,Z⟩ (jad (jad (jad (Ak (jl rfl jev) (hK _ _ _ ⟨rfl,rfl,_,Z,Z,rfl⟩))))))))))))
   .refine @jcv _ _ _ _ ⟨Z,Z⟩ (HL ⟨Z,Z⟩ (Ak (jl rfl jev) (Ak (jl rfl jev) (Ak (T _ _ jev) (Ak (jl rfl jev) (@jcv _ _ _ _ ⟨Z,Z⟩ (HL ⟨Z,Z⟩ (jad (jad (jad (Ak (jl rfl jev) (hK _ _ _ ⟨rfl,rfl,_,Z,Z,rfl⟩))))))))))))
  rintro e R1 D1 ⟨hR,hD,x,H,x1,he⟩;subst hR;refine z_W ?_;have e1:x.tdiv 64 = x / 64:=dv H;refine Oq δ (by rw[e1];constructor<;>omega) ?_;rw[e1];refine bb ⟨H,Z⟩ ⟨Z,Z⟩ λz z0 z1=>Pc Z ?_
  obtain⟨t0,t1⟩:=tm z n z0 Z;exact D _ t0 (.inl t1)
theorem jpk {R:RM} {D E:Chs} {j:Nat} {v:Value} {n m:Int} {k:Value->M} (hb:Byt R v) (y:0<=m/\m < 1000000000) [t:Tk D j (rdO v m) E] (H:∀x,0<=x->(x < n\/x = 0)->J R ((j,rdO v (m + 1)) :: E) (k (I x))) :
  J R D (CA P Fu [Pt j,I n] k):=by
 refine jc (WL hb y) ?_;rintro _ _ _ _ ⟨rfl,rfl,x,rfl,A,G⟩;exact H x A G
end Go.Lf
end
section
namespace Sm
variable {P:List (List Op)}
def thg (w:List Int) (a:Int):AQ:=⟨a,wv w a,shp w a,seg w (a + 2) (shp w a).refs,seg w (a + 2 + (shp w a).refs) (shp w a).nums⟩
theorem Jx {n:Nat} {k:Nat} (h:n = 16 * k) (h0:2<=k) (j:k<=12):BL n = true:=by
 subst h;simp only[BL,z_b,beq_iff_eq,z_d];omega
theorem Geo.wok {w:List Int} {t:List Rg} {B:Int->Prop} (G:Geo w t B):BL w.length = true:=by
 have j:=G.len;exact Jx (k:=t.length) Z G.ok.n0 G.ok.n1
theorem Geo.fits {w:List Int} {t:List Rg} {B:Int->Prop} (G:Geo w t B) {a s:Int} (h:B a) (s0:1<=s) (s1:s<=sz w a):Sm.fits w.length a s = true:=by
 obtain⟨j,x,y,A,D,H,K,N⟩:=G.inn h;unfold Sm.fits;rw[G.wok,Be Z,Be Z];simp only[dR,z_b,z_d,beq_iff_eq];omega
theorem Geo.thing {w:List Int} {t:List Rg} {B:Int->Prop} (G:Geo w t B) {a:Int} (h:B a):As w a = (thg w a,true):=by
 obtain⟨j,x,y,A,D,H,K,N⟩:=G.inn h;have e:w.getD (a.toNat + 1) 0 = wv w (a + 1):=by unfold wv gv;rw[show (a + 1).toNat = a.toNat + 1 from Z]
 unfold As;rw[if_pos (G.fits h Z Z),e];dsimp only;rw[show AG (AS (wv w (a + 1))).1 = sz w a from rfl,(G.at_ a h).2.2,G.fits h Z (dB _)];rfl
theorem Kh {w:List Int} {t:List Rg} {B:Int->Prop} (G:Geo w t B) {r:Int} (r0:1<=r) (r1:r < t.length):∀(n:Nat) (a:Int),(a = (rv t r).top\/(B a/\a / 16 = r))->(rv t r).top - a<=2 * n->
  ∃l,Au w n a (rv t r).top = some l/\(∀x∈l,B x.at_/\x = thg w x.at_)/\∀b,B b->b / 16 = r->a<=b->thg w b∈l:=by
 have T1:=(G.ok.row r r0 r1).t1;have T0:=(G.ok.row r r0 r1).t0;have j:∀b,B b->b / 16 = r->b < (rv t r).top:=λb hb A=>by
  have g:=G.inn hb;rw[A] at g;omega
 intro n;induction n with
 | zero=>
  intro a N R;have:¬ a < (rv t r).top:=Z
  unfold Au;rw[if_neg this];exact⟨[],rfl,λx h=>(by cases h),λb hb A H=>by have:=j b hb A;omega⟩
 | succ n W=>
  intro a N R;unfold Au;by_cases c:a < (rv t r).top
  .have y:B a/\a / 16 = r:=by rcases N with h | h;omega;exact h
   obtain⟨g1,g2,g3,K,g5,g6,g7,g8⟩:=G.inn y.1;rw[y.2] at K;rw[if_pos c,G.thing y.1];dsimp only;have O:AG (thg w a).sh = sz w a:=rfl;rw[O];rw[if_pos (by simpa using K)];have nx:a + sz w a = (rv t r).top\/(B (a + sz w a)/\(a + sz w a) / 16 = r):=by
    by_cases h:a + sz w a = (rv t r).top
    .exact .inl h
    .right;rcases G.nx a y.1 with D | D
     .rw[y.2] at D;exact absurd D h
     .exact⟨D,Z⟩
   obtain⟨l,e,Q,D⟩:=W (a + sz w a) nx Z;rw[e];refine⟨thg w a :: l,rfl,λx T=>?_,λb hb A H=>?_⟩
   .rcases cU.1 T with h | h
    .subst h;exact⟨y.1,rfl⟩
    .exact Q x h
   .by_cases d:b = a
    .subst d;simp
    .have:=G.dj a b y.1 hb Z;exact ce _ (D b hb A this)
  .rw[if_neg c];exact⟨[],rfl,λx h=>(by cases h),λb hb A H=>by have:=j b hb A;omega⟩
theorem Mc {w:List Int} {t:List Rg} {B:Int->Prop} (G:Geo w t B):∀(l:List Rg) (r:Nat),1<=r->r + l.length = t.length->(∀k (h:k < l.length),l[k] = rv t (r + k:Nat))->
  ∃out,Ba w r l = some out/\(∀x∈out,B x.at_/\x = thg w x.at_)/\∀b,B b->(r:Int)<=b / 16->thg w b∈out:=by
 have n1:=G.ok.n1;have len:=G.len;intro l;induction l with
 | nil=>
  intro r r0 hl _;refine⟨[],rfl,λx h=>(by cases h),λb hb W=>?_⟩;have g:=G.inn hb;simp only[dc] at hl;omega
 | cons x l ih=>
  intro r r0 hl A;simp only[cS] at hl;have hx:x = rv t r:=by have:=A 0 V;simpa using this
  have R:=G.ok.row r Z Z;have R0:=R.t0;have R1:=R.t1;have hb:=Bj (r:=r) Z Z;obtain⟨a,D,N,O⟩:=Kh G (r:=r) Z Z 16 (16 * (r:Int)) (by
   rcases G.bs r Z Z with h | h
   .exact .inl h.symm
   .exact .inr ⟨h,Z⟩) Z
  obtain⟨b,H,Q,T⟩:=ih (r + 1) Z Z λk h=>by
   have:=A (k + 1) (by simpa using h);rw[show r + 1 + k = r + (k + 1) from Z];exact this
  have K:BU w r x.top = some a:=by
   unfold BU;rw[G.wok,hx,hb,if_pos (by simp only[dR,z_b,z_d];omega)];exact D
  refine⟨a ++ b,?_,λy j=>?_,λy j W=>?_⟩
  .unfold Ba;rw[K];simp only[];rw[H]
  .rcases cm.1 j with h | h
   .exact N y h
   .exact Q y h
  .by_cases d:y / 16 = r
   .exact dC _ (O y j d Z)
   .exact dM _ (T y j Z)
structure Thn (w:List Int) (B:Int->Prop) (l:List AQ):Prop where
 all:∀x∈l,B x.at_/\x = thg w x.at_
 has:∀a,B a->thg w a∈l
theorem NO {s:Ah} {B:Int->Prop} (G:Geo s.AC s.AA B):∃l,BI s = some l/\Thn s.AC B l:=by
 have n0:=G.ok.n0;obtain⟨l,e,x,y⟩:=Mc G s.AA.tail 1 (z_n 1) (by simp;omega) λk h=>J8 h
 exact⟨l,e,x,λa j=>y a j (by have:=G.inn j;omega)⟩
theorem Thn.find {w:List Int} {B:Int->Prop} {l:List AQ} (T:Thn w B l) {a:Int} (h:B a):B7 l a = some (thg w a):=by
 unfold B7;cases j:l.find? λt=>t.at_ == a with
 | none=>
  have:=List.find?_eq_none.1 j _ (T.has a h);simp[thg] at this
 | some x=>
  have y:=List.find?_some j;have A:=fR j;have D:x.at_ = a:=by simpa using y
  rw[(T.all x A).2,D]
theorem Thn.now {w:List Int} {B:Int->Prop} {l:List AQ} (T:Thn w B l) {a:Int} (h:a≠0->B a):now l a = some (if a = 0 then 0 else wv w a):=by
 unfold Sm.now;by_cases c:a = 0
 .rw[if_pos c,if_pos c]
 .rw[if_neg c,if_neg c,T.find (h c)];rfl
theorem Ek {α:Type} [DecidableEq α]:∀{j ys:List α},j.Nodup->(∀x∈j,x∈ys)->j.length<=ys.length:=by
 intro j;induction j with
 | nil=>intro ys _ _;simp
 | cons x r K=>
  intro ys A h;rw[dp] at A;have G:=h x V;have:=K (ys:=ys.erase x) A.2 λy H=>by
   have D:y≠x:=λc=>by subst c;exact A.1 H
   exact (List.mem_erase_of_ne D).2 (h y (by simp[H]))
  rw[List.length_erase_of_mem G] at this;have:=List.length_pos_of_mem G;simp;omega
section
variable {w:List Int} {B L:Int->Prop} {l:List AQ}
structure Cur (w:List Int) (L:Int->Prop) (out:List Int):Prop where
 nd:out.Nodup
 cu:∀a∈out,L a/\wv w a = a
 nz:∀a∈out,a≠0
theorem Cur.put {out:List Int} (C:Cur w L out) {a:Int} (h:a≠0->L a/\wv w a = a):Cur w L (Bu out a)/\(∀b∈out,b∈Bu out a)/\(a≠0->a∈Bu out a)/\∃e,Bu out a = out ++ e:=by
 unfold Bu;by_cases c:a = 0\/a∈out
 .rw[if_pos c];exact⟨C,λ_ h=>h,λh0=>by rcases c with c | c;exact absurd c h0;exact c,[],V⟩
 .rw[if_neg c];rw[not_or] at c;refine⟨⟨?_,λb hb=>?_,λb hb=>?_⟩,λb hb=>dC _ hb,λ_=>V,[a],rfl⟩
  .rw[List.nodup_append];exact⟨C.nd,V,λx A y j=>by simp only[cZ] at j;subst j;intro e;subst e;exact c.2 A⟩
  .rcases cm.1 hb with hb | hb
   .exact C.cu b hb
   .simp only[cZ] at hb;subst hb;exact h c.1
  .rcases cm.1 hb with hb | hb
   .exact C.nz b hb
   .simp only[cZ] at hb;subst hb;exact c.1
theorem Kg (T:Thn w B l) (lb:∀a,L a->B a) (W:∀a,L a->L (wv w a)/\wv w (wv w a) = wv w a):∀(A out:List Int),(∀a∈A,a≠0->L a)->Cur w L out->∃j,Aq l A out = some j/\Cur w L j/\(∀b∈out,b∈j)/\(∀a∈A,a≠0->wv w a≠0->wv w a∈j)/\∃e,j = out ++ e:=by
 intro A;induction A with
 | nil=>intro out _ C;exact⟨out,rfl,C,λ_ h=>h,λa h=>(by cases h),[],V⟩
 | cons x r ih=>
  intro out h C;unfold Aq;rw[T.now λh0=>lb x (h x V h0)];simp only[cP,z_o];obtain⟨C1,s1,K,O,D⟩:=C.put (a:=if x = 0 then 0 else wv w x) λh0=>by
   by_cases c:x = 0
   .rw[if_pos c] at h0;exact absurd rfl h0
   .rw[if_neg c];exact W x (h x V c)
  obtain⟨j,Q,C2,N,m2,R,G⟩:=ih _ (λa y=>h a (by simp[y])) C1;refine⟨j,Q,C2,λb hb=>N b (s1 b hb),λa y h0 H=>?_,O ++ R,by rw[G,D,cR]⟩;rcases cU.1 y with y | y
  .subst y;rw[if_neg h0] at K;exact N _ (by have:=K H;rw[if_neg h0];exact this)
  .exact m2 a y h0 H
theorem N2 (T:Thn w B l) (lb:∀a,L a->B a) (N:∀a,L a->L (wv w a)/\wv w (wv w a) = wv w a):∀(y:List Th) (out:List Int),(∀t∈y,∀a∈t.AD,a≠0->L a)->Cur w L out->∃j,E8 l y out = some j/\Cur w L j/\(∀b∈out,b∈j)/\(∀t∈y,∀a∈t.AD,a≠0->wv w a≠0->wv w a∈j):=by
 intro y;induction y with
 | nil=>intro out _ C;exact⟨out,rfl,C,λ_ h=>h,λt h=>(by cases h)⟩
 | cons t r O=>
  intro out h C;unfold E8;obtain⟨o1,H,C1,s1,Q,_⟩:=Kg T lb N t.AD out (h t V) C;rw[H];simp only[cP,z_o];obtain⟨W,K,C2,G,R⟩:=O o1 (λu x=>h u (by simp[x])) C1;refine⟨W,K,C2,λb hb=>G b (s1 b hb),λu x a A h0 D=>?_⟩;rcases cU.1 x with x | x
  .subst x;exact G _ (Q a A h0 D)
  .exact R u x a A h0 D
theorem UU:∀(y out:List Int),(∀a∈y,L a/\wv w a = a)->Cur w L out->Cur w L (y.foldl Bu out)/\(∀b∈out,b∈y.foldl Bu out)/\(∀a∈y,a≠0->a∈y.foldl Bu out):=by
 intro y;induction y with
 | nil=>intro out _ C;exact⟨C,λ_ h=>h,λa h=>(by cases h)⟩
 | cons x r D=>
  intro out h C;obtain⟨C1,s1,G,_⟩:=C.put (a:=x) λ_=>h x V
  obtain⟨C2,A,H⟩:=D _ (λa j=>h a (by simp[j])) C1;refine⟨C2,λb hb=>A b (s1 b hb),λa j h0=>?_⟩;rcases cU.1 j with j | j
  .subst j;exact A _ (G h0)
  .exact H a j h0
theorem Nw {w:List Int} {a n v:Int} (h0:0<=a) (h:v∈seg w a n):∃j,0<=j/\j < n/\wv w (a + j) = v:=by
 unfold seg at h;obtain⟨k,x,e⟩:=d5 h;simp only[cV,dN] at x;refine⟨k,Z,Z,?_⟩;rw[<- e,eh,eH];unfold wv gv;rw[show (a + (k:Int)).toNat = a.toNat + k from Z,cH,cF Z];rfl
theorem Y6 {w:List Int} {a n j:Int} (h0:0<=a) (x:0<=j) (y:j < n) (hl:a + n<=w.length):wv w (a + j)∈seg w a n:=by
 unfold seg;rw[List.mem_iff_getElem];refine⟨j.toNat,by simp only[cV,dN];omega,?_⟩;rw[eh,eH];unfold wv gv;rw[show (a + j).toNat = a.toNat + j.toNat from Z,cH,cF Z];rfl
theorem M4 (T:Thn w B l) (lb:∀a,L a->B a) (G:∀a,B a->16<=a) (hL:∀a,L a->L (wv w a)/\wv w (wv w a) = wv w a) (rf:∀a j,L a->0<=j->j < (shp w a).refs->wv w (a + 2 + j)≠0->L (wv w (a + 2 + j))) :
  ∀(n i:Nat) (out:List Int),Cur w L out->l.length + 2<=i + n->i<=out.length->(∀k (h:k < out.length),k < i->∀v∈(thg w out[k]).refs,v≠0->wv w v≠0->wv w v∈out)->
  ∃x,BH l n i out = some x/\Cur w L x/\(∀b∈out,b∈x)/\∀a∈x,∀v∈(thg w a).refs,v≠0->wv w v≠0->wv w v∈x:=by
 intro n;induction n with
 | zero=>
  intro i out C hn hi _;exfalso;have:out.length<=(l.map AQ.at_).length:=Ek C.nd λa H=>cq.2 ⟨thg w a,T.has a (lb a (C.cu a H).1),rfl⟩
  rw[cM] at this;omega
 | succ n ih=>
  intro i out C hn hi A;unfold BH;by_cases c:i < out.length
  .rw[cF c];have K:=C.cu out[i] (cK c);simp only[cP];rw[T.find (lb _ K.1)];simp only[z_o];have W:=G _ (lb _ K.1);obtain⟨o1,O,C1,s1,m1,e,he⟩:=Kg T lb hL (thg w out[i]).refs out (λv y h0=>by
    obtain⟨j,j0,j1,hj⟩:=Nw Z y
    rw[<- hj] at h0 ⊢
    exact rf _ j K.1 j0 j1 h0) C
   rw[O];simp only[z_o];have hlen:out.length<=o1.length:=by rw[he];simp
   obtain⟨o2,Q,C2,s2,m2⟩:=ih (i + 1) o1 C1 Z Z λk N a0 v y h0 D=>by
    have R:o1[k] = out[k]'(Z):=by simp only[he];rw[eU]
    rw[R] at y;by_cases d:k = i
    .subst d;exact m1 v y h0 D
    .exact s1 _ (A k Z Z v y h0 D)
   exact⟨o2,Q,C2,λb hb=>s2 b (s1 b hb),m2⟩
  .rw[dT Z];refine⟨out,rfl,C,λ_ h=>h,λa H v y h0 D=>?_⟩;obtain⟨k,N,rfl⟩:=d5 H;exact A k N Z v y h0 D
theorem Lw {s:Ah} {L B:Int->Prop} {l:List AQ} (T:Thn s.AC B l) (lb:∀a,L a->B a) (y:∀a,B a->16<=a) (D:∀a,L a->L (wv s.AC a)/\wv s.AC (wv s.AC a) = wv s.AC a) (rf:∀a j,L a->0<=j->j < (shp s.AC a).refs->wv s.AC (a + 2 + j)≠0->L (wv s.AC (a + 2 + j)))
  (N:∀t∈s.AB,∀a∈t.AD,a≠0->L a) (K:∀a∈s.AI,L a/\wv s.AC a = a) :
  ∃out,Dd s l = some out/\Cur s.AC L out/\(∀a∈out,∀v∈(thg s.AC a).refs,v≠0->wv s.AC v∈out)/\(∀t∈s.AB,∀a∈t.AD,a≠0->wv s.AC a∈out)/\(∀a∈s.AI,a∈out):=by
 have nz:∀a,L a->wv s.AC a≠0:=λa x=>by have:=y _ (lb _ (D a x).1);omega
 unfold Dd;obtain⟨o1,R,C1,s1,m1⟩:=N2 T lb D s.AB [] N ⟨V,λa h=>(by cases h),λa h=>(by cases h)⟩;rw[R];simp only[cP,z_o];obtain⟨C2,s2,m2⟩:=UU s.AI o1 K C1;obtain⟨o3,W,C3,Q,m3⟩:=M4 T lb y D rf (l.length + 2) 0 _ C2 Z Z (λk _ h=>Z);refine⟨o3,W,C3,λa x v O h0=>?_,λt h a x h0=>Q _ (s2 _ (m1 t h a x h0 (nz a (N t h a x h0)))),λa x=>Q _ (m2 a x (by have:=y a (lb a (K a x).1);omega))⟩;have H:=(C3.cu a x).1;have a0:=y _ (lb _ H);obtain⟨j,j0,j1,G⟩:=Nw Z O;have A:=rf _ j H j0 j1 (by rw[G];exact h0);rw[G] at A;exact m3 a x v O h0 (nz v A)
end
end Sm
end
section
namespace Sm
variable {P:List (List Op)}
theorem Qt {l:List Int} {x:Int}:∀k,EE l x k<=k/\(∀j,EE l x k<=j->j < k->x < l.getD j 0)/\(0 < EE l x k->¬ x < l.getD (EE l x k - 1) 0):=by
 intro k;induction k with
 | zero=>exact⟨z_n 0,λj h y=>Z,λh=>by simp[EE] at h⟩
 | succ k H=>
  unfold EE;split
  .obtain⟨K,A,D⟩:=H;refine⟨Z,λj G N=>?_,D⟩;by_cases c:j = k
   .subst c;assumption
   .exact A j G Z
  .exact⟨z_n _,λj h y=>Z,λ_=>by rw[Nat.add_sub_cancel];assumption⟩
theorem V5 {l:List Int} {x:Int} (h:l.Pairwise (· < ·)) (hx:x ∉ l):(HD l x).Pairwise (· < ·)/\∀y,y∈HD l x↔y = x\/y∈l:=by
 obtain⟨Q,D,N⟩:=Qt (l:=l) (x:=x) l.length;unfold HD;dsimp only;generalize EE l x l.length = p at Q D N;have A:∀j (O:j < l.length),l.getD j 0 = l[j]:=λj O=>by rw[cH,cF O];rfl
 have K:=f7.1 h;constructor
 .rw[List.pairwise_append];refine⟨h.sublist (List.take_sublist p l),?_,?_⟩
  .rw[eJ];refine⟨λy hy=>?_,h.sublist (List.drop_sublist p l)⟩;obtain⟨k,H,rfl⟩:=d5 hy;simp only[dN] at H;rw[eH,<- A (p + k) Z];exact D _ Z Z
  .intro a T b hb;obtain⟨i,W,rfl⟩:=d5 T;simp only[cV] at W;rw[eh];have G:l[i] < x:=by
    have R:=N Z;rw[A (p - 1) Z] at R;have h5:l[i]<=l[p - 1]'(Z):=by
     by_cases c:i = p - 1
     .subst c;exact dB _
     .have:=K i (p - 1) Z Z Z;omega
    have h6:l[i]≠x:=λc=>hx (c▸cK Z)
    omega
   rcases cU.1 hb with hb | hb
   .rw[hb];exact G
   .obtain⟨k,H,rfl⟩:=d5 hb;simp only[dN] at H;rw[eH,<- A (p + k) Z];have:=D (p + k) Z Z;omega
 .intro y;have:y∈l↔y∈l.take p\/y∈l.drop p:=by rw[<- cm,eV]
  rw[cm,cU,this];constructor
  .rintro (h | h | h)
   .exact .inr (.inl h)
   .exact .inl h
   .exact .inr (.inr h)
  .rintro (h | h | h)
   .exact .inr (.inl h)
   .exact .inl h
   .exact .inr (.inr h)
theorem Bk {l:List Int} (h:l.Nodup):(Ac l).Pairwise (· < ·)/\∀y,y∈Ac l↔y∈l:=by
 have:∀(l j:List Int),l.Nodup->j.Pairwise (· < ·)->(∀x∈l,x ∉ j)->(l.foldl HD j).Pairwise (· < ·)/\∀y,y∈l.foldl HD j↔y∈l\/y∈j:=by
  intro l;induction l with
  | nil=>intro j _ h _;exact⟨h,λy=>V⟩
  | cons x r N=>
   intro j A h hd;rw[dp] at A;obtain⟨i1,i2⟩:=V5 h (hd x V);obtain⟨O,Q⟩:=N (HD j x) A.2 i1 λy D K=>by
    rcases (i2 y).1 K with c | c
    .subst c;exact A.1 D
    .exact hd y (by simp[D]) c
   refine⟨O,λy=>?_⟩;rw[fF,Q y,i2 y,cU];constructor
   .rintro (h | h | h)
    .exact .inl (.inr h)
    .exact .inl (.inl h)
    .exact .inr h
   .rintro ((h | h) | h)
    .exact .inr (.inl h)
    .exact .inl h
    .exact .inr (.inr h)
 obtain⟨G,H⟩:=this l [] h List.Pairwise.nil (λ_ _ h=>by cases h);exact⟨G,λy=>by rw[Ac,H y];simp⟩
theorem Gg {w:List Int} {a v:Int} (h0:0<=a) (j:a < w.length):wr w a v = some (AT w a v):=by unfold wr;rw[if_pos ⟨h0,j⟩]
theorem QM:∀(j w:List Int) (a:Int),0<=a->a + j.length<=w.length->∃y,wrs w a j = some y/\y.length = w.length/\∀x,0<=x->(x < a\/a + j.length<=x)->wv y x = wv w x:=by
 intro j;induction j with
 | nil=>intro w a _ _;exact⟨w,rfl,rfl,λ_ _ _=>rfl⟩
 | cons v r K=>
  intro w a h0 D;simp only[cS] at D;unfold wrs;rw[Gg h0 Z];simp only[cP,z_o];obtain⟨y,e,hl,G⟩:=K (AT w a v) (a + 1) Z (by simp;omega);refine⟨y,e,by rw[hl];simp,λx A H=>?_⟩;simp only[cS] at H;rw[G x A Z,Co h0 Z A,if_neg Z]
theorem Ha {w:List Int} {a n:Int} (h0:0<=a) (x:0<=n) (j:a + n<=w.length):((seg w a n).length:Int) = n:=by
 unfold seg;simp only[cV,dN];omega
def Hd (w W:List Int) (f:Int->Shp) (b:Int):Prop:=wv w b = b/\wv w (b + 1) = AY (f b)
theorem GX (w:List Int) (a:Int):BM (shp w a) = true:=by
 have:=Ft w a;simp[BM];omega
section
variable {s:Ah} {B0:Int->Prop}
theorem Ni (G:Geo s.AC s.AA B0):∀(l:List AQ) (w:List Int) (t:List Rg),(∀x∈l,B0 x.at_/\x = thg s.AC x.at_)->w.length = s.AC.length->t.length = s.AA.length->
  ∃N R,stay s l w t = some (N,R)/\N.length = s.AC.length/\R.length = s.AA.length/\
   (∀b,B0 b->Aj s.AI (b / 16) = true->(thg s.AC b∈l\/Hd w s.AC (shp s.AC) b)->Hd N s.AC (shp s.AC) b)/\
   (∀b j,B0 b->0<=j->j < (shp s.AC b).refs->wv N (b + 2 + j) = wv w (b + 2 + j))/\
   (∀x,0<=x->Aj s.AI (x / 16) = false->wv N x = wv w x)/\
   (∀r:Int,0<=r->rv R r = if Aj s.AI r = true/\∃x∈l,x.at_ / 16 = r then ⟨3,-1,(rv s.AA r).top,(rv s.AA r).top,0⟩ else rv t r):=by
 intro l;induction l with
 | nil=>
  intro w t _ hw ht;refine⟨w,t,rfl,hw,ht,λb _ _ h=>?_,λ_ _ _ _ _=>rfl,λ_ _ _=>rfl,λr _=>by rw[if_neg (by rintro⟨_,x,hx,_⟩;cases hx)]⟩;rcases h with h | h
  .cases h
  .exact h
 | cons x l ih=>
  intro w t hx hw ht;obtain⟨hB,he⟩:=hx x V;have W:∀y∈l,B0 y.at_/\y = thg s.AC y.at_:=λy A=>hx y (by simp[A])
  obtain⟨g1,g2,g3,g4,g5,g6,g7,g8⟩:=G.inn hB;have sb:=Ft s.AC x.at_;have a0:x.sh = shp s.AC x.at_:=by rw[he];rfl
  have a3:((x.refs.length:Nat):Int) = (shp s.AC x.at_).refs:=by
   rw[he];exact Ha (by show 0<=x.at_ + 2;omega) Z (by show x.at_ + 2 + (shp s.AC x.at_).refs<=_;omega)
  have a2:((x.nums.length:Nat):Int) = (shp s.AC x.at_).nums:=by
   rw[he];exact Ha (by show 0<=x.at_ + 2 + (shp s.AC x.at_).refs;omega) Z (by show x.at_ + 2 + (shp s.AC x.at_).refs + (shp s.AC x.at_).nums<=_;omega)
  unfold stay;dsimp only;rw[Be Z];by_cases O:Aj s.AI (x.at_ / 16) = true
  .rw[if_pos O,Gg Z Z];simp only[cP,z_o];rw[Gg Z (by simp;omega)];simp only[z_o];obtain⟨w3,e3,l3,h3⟩:=QM x.nums (AT (AT w x.at_ x.at_) (x.at_ + 1) (AY x.sh)) (x.at_ + 2 + x.refs.length) Z (by simp;omega);rw[e3];simp only[z_o];rw[Cm Z g3,Cm (l:=t) Z Z];simp only[z_o];simp only[DP] at l3;obtain⟨N,R,e,hl,Q,k1,k2,k3,k4⟩:=ih w3 (AT t (x.at_ / 16) ⟨3,-1,(rv s.AA (x.at_ / 16)).top,(rv s.AA (x.at_ / 16)).top,0⟩) W Z (by simpa using ht);have D:∀y,0<=y->(y < x.at_ + 2 + x.refs.length\/x.at_ + 2 + x.refs.length + x.nums.length<=y)->wv w3 y = if y = x.at_ + 1 then AY x.sh else if y = x.at_ then x.at_ else wv w y:=λy T A=>by
    rw[h3 y T A,Co Z (by simp;omega) T];split
    .rfl
    .rw[Co Z Z T]
   refine⟨N,R,e,hl,Q,λb hb H h=>?_,λb j hb j0 j1=>?_,λy T A=>?_,λr r0=>?_⟩
   .refine k1 b hb H ?_;by_cases c:b = x.at_
    .right;subst c;refine⟨?_,?_⟩
     .rw[D _ Z Z,if_neg Z,if_pos rfl]
     .rw[D _ Z Z,if_pos rfl,a0]
    .rcases h with h | h
     .rcases cU.1 h with h | h
      .exact absurd (by rw[<- h];rfl) c
      .exact .inl h
     .right;have gb:=G.inn hb;have s1:∀k,0<=k->k < sz s.AC x.at_->b≠x.at_ + k:=λk k0 k1 hk=>c (sep G hb hB (k:=0) (l:=k) Z Z k0 k1 Z).1
      have s2:∀k,0<=k->k < sz s.AC x.at_->b + 1≠x.at_ + k:=λk k0 k1 hk=>c (sep G hb hB (k:=1) (l:=k) Z Z k0 k1 Z).1
      refine⟨?_,?_⟩
      .rw[D b Z (by
        have:=s1 (b - x.at_)
        omega),if_neg (by have:=s1 1 Z Z;omega),if_neg c]
       exact h.1
      .rw[D (b + 1) Z (by
        have:=s2 (b + 1 - x.at_)
        omega),if_neg Z,if_neg (by have:=s2 0 Z Z;omega)]
       exact h.2
   .rw[k2 b j hb j0 j1];have gb:=G.inn hb;have a4:=Ft s.AC b;have s1:∀k,0<=k->k < sz s.AC x.at_->b + 2 + j = x.at_ + k->b = x.at_/\2 + j = k:=λk k0 k1 hk=>sep G hb hB (k:=2 + j) (l:=k) Z Z k0 k1 Z
    rw[D _ Z ?_,if_neg ?_,if_neg ?_]
    .intro h;have:=s1 0 Z Z Z;omega
    .intro h;have:=s1 1 Z Z Z;omega
    .by_cases c:x.at_ + 2 + x.refs.length<=b + 2 + j/\b + 2 + j < x.at_ + 2 + x.refs.length + x.nums.length
     .exfalso;have:=s1 (b + 2 + j - x.at_) Z Z Z;have e1:=this.1;subst e1;omega
     .omega
   .rw[k3 y T A];have a1:y / 16≠x.at_ / 16:=λc=>by rw[c,O] at A;cases A
    rw[D y T Z,if_neg Z,if_neg Z]
   .rw[k4 r r0,DA Z Z r0];by_cases c:r = x.at_ / 16
    .subst c;rw[if_pos rfl,if_pos (show Aj s.AI (x.at_ / 16) = true/\∃y∈x :: l,y.at_ / 16 = x.at_ / 16 from ⟨O,x,f9,rfl⟩)];split<;>rfl
    .rw[if_neg c];by_cases d:Aj s.AI r = true/\∃y∈l,y.at_ / 16 = r
     .rw[if_pos d,if_pos ⟨d.1,by obtain⟨y,A,K⟩:=d.2;exact⟨y,by simp[A],K⟩⟩]
     .rw[if_neg d,if_neg (by
       rintro⟨d1,y,A,K⟩
       rcases cU.1 A with A | A
       .subst A;exact c K.symm
       .exact d ⟨d1,y,A,K⟩)]
  .rw[if_neg O];obtain⟨N,R,e,hl,Q,k1,k2,k3,k4⟩:=ih w t W hw ht;refine⟨N,R,e,hl,Q,λb hb H h=>k1 b hb H ?_,k2,k3,λr r0=>?_⟩
   .rcases h with h | h
    .rcases cU.1 h with h | h
     .exfalso;have:b = x.at_:=by rw[<- h];rfl
      subst this;exact O H
     .exact .inl h
    .exact .inr h
   .rw[k4 r r0];by_cases d:Aj s.AI r = true/\∃y∈l,y.at_ / 16 = r
    .rw[if_pos d,if_pos ⟨d.1,by obtain⟨y,A,K⟩:=d.2;exact⟨y,by simp[A],K⟩⟩]
    .rw[if_neg d,if_neg (by
      rintro⟨d1,y,A,K⟩
      rcases cU.1 A with A | A
      .subst A;rw[K] at O;exact O d1
      .exact d ⟨d1,y,A,K⟩)]
end
end Sm
end
section
namespace Sm
variable {P:List (List Op)}
structure IN (f:Int->Shp) (t:List Rg) (B:Int->Prop):Prop where
 ok:TOk t
 at_:∀a,B a->16<=a/\a + AG (f a)<=(rv t (a / 16)).top/\BM (f a) = true
 nx:∀a,B a->a + AG (f a) = (rv t (a / 16)).top\/B (a + AG (f a))
 bs:∀r:Int,1<=r->r < t.length->(rv t r).top = 16 * r\/B (16 * r)
 dj:∀a b,B a->B b->a < b->a + AG (f a)<=b
theorem Em {s:Shp} (h:BM s = true):2<=AG s/\AG s<=10/\AG s = 2 + s.refs + s.nums/\0<=s.refs/\0<=s.nums:=by
 have hb:=h;simp only[BM,z_b,z_d] at hb;rw[Mm Z];omega
theorem IN.inn {f:Int->Shp} {t:List Rg} {B:Int->Prop} (G:IN f t B) {a:Int} (h:B a):16<=a/\1<=a / 16/\a / 16 < t.length/\a + AG (f a)<=(rv t (a / 16)).top/\(rv t (a / 16)).top<=16 * (a / 16) + 16/\2<=AG (f a)/\AG (f a)<=10/\a + AG (f a)<=16 * t.length:=by
 obtain⟨x,j,y⟩:=G.at_ a h;have A:=Em y;by_cases c:a / 16 < t.length
 .have:=(G.ok.row (a / 16) Z c).t1;exact⟨x,Z,c,j,this,Z,Z,Z⟩
 .rw[Dc Z Z] at j;simp only[Db] at j;omega
theorem IN.add {f:Int->Shp} {t:List Rg} {B:Int->Prop} (G:IN f t B) {r d:Int} {sh:Shp} (r0:1<=r) (r1:r < t.length) (hd:(rv t r).top = d) (N:(rv t r).AX = -1) (O:BM sh = true) (fit:d + AG sh<=16 * r + 16) :
  IN (λx=>if x = d then sh else f x) (AT t r { rv t r with kind:=3,top:=d + AG sh,BA:=d + AG sh }) (λb=>B b\/b = d)/\¬ B d/\d / 16 = r:=by
 have R:=G.ok.row r r0 r1;have t0:=R.t0;have n:=Em O;have y:d / 16 = r:=Z
 have nb:∀b,B b->b / 16 = r->b + AG (f b)<=d:=λb hb hr=>by
  have:=(G.at_ b hb).2.1;rw[hr,hd] at this;exact this
 have nd:¬ B d:=λh=>by
  have h1:=nb d h y;have h2:=Em (G.at_ d h).2.2;omega
 have A:∀b,B b->(if b = d then sh else f b) = f b:=λb hb=>if_neg (show ¬ b = d from λc=>nd (c▸hb))
 have e:∀q,0<=q->(rv (AT t r { rv t r with kind:=3,top:=d + AG sh,BA:=d + AG sh }) q).top = if q = r then d + AG sh else (rv t q).top:=λq H=>by
  rw[DA Z r1 H];split
  .rfl
  .rfl
 refine⟨⟨?_,?_,?_,?_,?_⟩,nd,y⟩
 .refine TOk.set G.ok r0 r1 ⟨V,V,?_,fit,?_,dB _,R.l0,?_,λh=>by simp at h,by simp[N],R.o0,R.o1⟩ λs _ _ _ h=>by simp[N] at h
  .show 16 * r<=d + AG sh;omega
  .show 16 * r<=d + AG sh;omega
  .have:=R.l1;show (rv t r).AJ<=d + AG sh - 16 * r;omega
 .rintro b (hb | hb)
  .obtain⟨K,T,W⟩:=G.at_ b hb;simp only[A b hb];refine⟨K,?_,W⟩;rw[e _ Z];split
   .have:=nb b hb (by assumption);omega
   .exact T
  .subst hb;simp only[if_true];refine⟨Z,?_,O⟩;rw[e _ Z,if_pos y];omega
 .rintro b (hb | hb)
  .have K:=(G.at_ b hb).1;simp only[A b hb];rw[e _ Z];rcases G.nx b hb with c | c
   .split
    .rename_i c2;rw[c2,hd] at c;exact .inr (.inr c)
    .exact .inl c
   .exact .inr (.inl c)
  .subst hb;left;simp only[if_true];rw[e _ Z,if_pos y]
 .intro q H Q;simp only[DP] at Q;rw[e q Z];rcases G.bs q H Q with c | c
  .split
   .rename_i c2;subst c2;right;right;omega
   .exact .inl c
  .exact .inr (.inl c)
 .rintro a b (j | j) (hb | hb) D
  .simp only[A a j];exact G.dj a b j hb D
  .subst hb;simp only[A a j];by_cases c:a / 16 = r
   .exact nb a j c
   .have:=G.inn j;omega
  .subst j;simp only[if_true];by_cases c:b / 16 = r
   .have h1:=nb b hb c;have h2:=Em (G.at_ b hb).2.2;omega
   .omega
  .omega
theorem SI {AI:List Int} {t:List Rg} {size R:Int} (T:TOk t) (s0:2<=size) (s1:size<=10) (K:Aj AI R = false) (N:R < t.length) (fit:(rv t R).top + size<=16 * R + 16):∀(n:Nat) (r:Int),1<=r->r<=R->R - r < n->
  ∃j,Ez AI t size n r = some j/\r<=j/\j<=R/\Aj AI j = false/\(rv t j).top + size<=16 * j + 16:=by
 have n1:=T.n1;intro n;induction n with
 | zero=>intro r _ _ h;omega
 | succ n G=>
  intro r r0 r1 O;unfold Ez;have D:=T.row r r0 Z;have t0:=D.t0;have t1:=D.t1;by_cases x:Aj AI r = true
  .rw[if_pos x];have:r≠R:=λc=>by rw[c,K] at x;cases x
   obtain⟨j,e,H,y,A⟩:=G (r + 1) Z Z Z;exact⟨j,e,Z,y,A⟩
  .rw[if_neg x,Cm Z Z];simp only[cP,z_o];rw[BQ Z Z,Bj Z Z];simp only[z_o];by_cases c:16 * r + 16 < (rv t r).top + size
   .rw[if_pos c];have:r≠R:=λc2=>by rw[c2] at c;omega
    obtain⟨j,e,H,y,A⟩:=G (r + 1) Z Z Z;exact⟨j,e,Z,y,A⟩
   .rw[if_neg c];exact⟨r,rfl,dB r,r1,by simpa using x,Z⟩
theorem LT {AI:List Int} {l:List AQ} {W:List Int} {T0:List Rg} {B0:Int->Prop} (T:Thn W B0 l) (G0:Geo W T0 B0):∀(A:List Int) (t:List Rg) (r:Int) (to:List Int) (f:Int->Shp) (B:Int->Prop),
  (∀a∈A,B0 a)->A.Pairwise (· < ·)->IN f t B->t.length = T0.length->1<=r->(∀q:Int,1<=q->q < t.length->(rv t q).AX = -1)->(∀q:Int,0<=q->(rv t q).kind≠4)->(∀q:Int,r < q->q < t.length->Aj AI q = false->(rv t q).top = 16 * q)->
  (∀a∈A,Aj AI (a / 16) = false->r<=a / 16/\(r = a / 16->(rv t r).top<=a))->(∀a∈A,Aj AI (a / 16) = true->B a/\f a = shp W a)->
  ∃K x N H,slide AI l A t r to = some (K,to ++ x)/\x.length = A.length/\IN N K H/\K.length = t.length/\(∀q:Int,0<=q->(rv K q).kind≠4)/\(∀b,B b->H b/\N b = f b)/\(∀b,H b->B b\/(b∈x/\Aj AI (b / 16) = false))/\
   (∀p∈A.zip x,H p.2/\N p.2 = shp W p.1/\(Aj AI (p.1 / 16) = true->p.2 = p.1)):=by
 intro A;induction A with
 | nil=>
  intro t r to f B _ _ G _ _ _ nf _ _ _;exact⟨t,[],f,B,by simp[slide],rfl,G,rfl,nf,λb h=>⟨h,rfl⟩,λb h=>.inl h,λp h=>(by simp at h)⟩
 | cons a A ih=>
  intro t r to f B hB D G hl r0 ho nf h1 h3 h4;rw[eJ] at D;have O:=hB a V;obtain⟨g1,g2,g3,g4,g5,g6,g7,g8⟩:=G0.inn O;have n1:=G.ok.n1;unfold slide;rw[T.find O];simp only[cP,z_o];have es:AG (thg W a).sh = sz W a:=rfl;rw[es,Be Z];cases hh:Aj AI (a / 16) with
  | true=>
   rw[if_pos rfl];obtain⟨hb,hf⟩:=h4 a V hh;obtain⟨K,x,N,H,e,k1,k2,k3,k4,k5,k6,k7⟩:=ih t r (to ++ [a]) f B (λb hb=>hB b (by simp[hb])) D.2 G hl r0 ho nf h1 (λb hb=>h3 b (by simp[hb])) (λb hb=>h4 b (by simp[hb]));refine⟨K,a :: x,N,H,by rw[e];simp,by simp[k1],k2,k3,k4,k5,λb hb=>?_,λp y=>?_⟩
   .rcases k6 b hb with h | h
    .exact .inl h
    .exact .inr ⟨by simp[h.1],h.2⟩
   .rw[ei] at y;rcases cU.1 y with y | y
    .subst y;exact⟨(k5 a hb).1,by rw[(k5 a hb).2,hf],λ_=>rfl⟩
    .exact k7 p y
  | false=>
   rw[if_neg δ];obtain⟨q1,q2⟩:=h3 a V hh;have a0:(rv t (a / 16)).top + sz W a<=16 * (a / 16) + 16:=by
    by_cases c:r = a / 16
    .have:=q2 c;rw[<- c];rw[<- c] at g4 g5;omega
    .have:=h1 (a / 16) Z Z hh;omega
   obtain⟨j,e1,p1,p2,p3,p4⟩:=SI (size:=sz W a) G.ok Z Z hh Z a0 (t.length + 2) r r0 q1 Z;rw[e1];simp only[z_o];have R:=G.ok.row j Z Z;have t0:=R.t0;rw[Cm Z Z];simp only[z_o];rw[BQ Z Z];simp only[z_o];have a2:AG (shp W a) = sz W a:=rfl;obtain⟨G2,nd,ed⟩:=G.add (r:=j) (sh:=shp W a) Z Z rfl (ho j Z Z) (GX W a) (by rw[a2];exact p4);rw[a2] at G2;have a5:(rv t j).top<=a\/j < a / 16:=by
    by_cases c:j = a / 16
    .left;by_cases c2:r = j
     .subst c2;exact q2 c
     .have:=h1 j Z Z p3;omega
    .right;omega
   have et:∀q,0<=q->rv (AT t j { rv t j with kind:=3,top:=(rv t j).top + sz W a,BA:=(rv t j).top + sz W a }) q = if q = j then { rv t j with kind:=3,top:=(rv t j).top + sz W a,BA:=(rv t j).top + sz W a } else rv t q:=λq Q=>DA Z Z Q
   obtain⟨K,x,N,H,e,k1,k2,k3,k4,k5,k6,k7⟩:=ih _ j (to ++ [(rv t j).top]) _ _ (λb hb=>hB b (by simp[hb])) D.2 G2 (by simpa using hl) Z (λq Q q1=>by
     rw[et q Z];split
     .exact ho j Z Z
     .exact ho q Q (by simpa using q1)) (λq Q=>by
     rw[et q Q];split
     .simp
     .exact nf q Q) (λq Q q1 hq=>by
     rw[et q Z,if_neg Z]
     exact h1 q Z (by simpa using q1) hq) (λb hb a1=>by
     have a3:=hB b (by simp[hb])
     have a4:=D.1 b hb
     have a6:=G0.dj a b O a3 a4
     refine⟨Z,λhr=>?_⟩
     rw[et j Z,if_pos rfl]
     show (rv t j).top + sz W a<=b
     rcases a5 with h | h
     .omega
     .omega) (λb hb a1=>by
     obtain⟨c1,c2⟩:=h4 b (by simp[hb]) a1
     refine⟨.inl c1,?_⟩
     have:b≠(rv t j).top:=λc=>nd (c▸c1)
     simp only[if_neg this];exact c2)
   refine⟨K,(rv t j).top :: x,N,H,by rw[e];simp,by simp[k1],k2,by rw[k3];simp,k4,λb hb=>?_,λb hb=>?_,λp y=>?_⟩
   .obtain⟨c1,c2⟩:=k5 b (.inl hb);refine⟨c1,?_⟩;have:b≠(rv t j).top:=λc=>nd (c▸hb)
    rw[c2];simp only[if_neg this]
   .rcases k6 b hb with (h | h) | h
    .exact .inl h
    .exact .inr ⟨by simp[h],by rw[h,ed];exact p3⟩
    .exact .inr ⟨by simp[h.1],h.2⟩
   .rw[ei] at y;rcases cU.1 y with y | y
    .subst y;obtain⟨c1,c2⟩:=k5 (rv t j).top (.inr rfl);refine⟨c1,by rw[c2];simp,λh=>by rw[hh] at h;cases h⟩
    .exact k7 p y
theorem DF {l:List Int} {n:Int}:(n∈l->0<=BP l n/\BP l n < l.length)/\(n ∉ l->BP l n = -1):=by
 unfold BP;constructor
 .intro h;rw[if_pos h];have:=dP h;omega
 .intro h;rw[if_neg h]
theorem Sg {l:List AQ} {AJ to:List Int} (hlen:to.length = AJ.length):∀(y w:List Int) (a:Int),(∀v∈y,∃u,now l v = some u)->0<=a->a + y.length<=w.length->
  ∃j,Er l AJ to w a y = some j/\j.length = w.length/\(∀x,0<=x->(x < a\/a + y.length<=x)->wv j x = wv w x)/\(∀x,a<=x->x < a + y.length->wv j x = wv w x\/wv j x∈to):=by
 intro y;induction y with
 | nil=>intro w a _ _ _;exact⟨w,rfl,rfl,λ_ _ _=>rfl,λx h T=>by simp at T;omega⟩
 | cons v r ih=>
  intro w a Q h0 W;simp only[cS] at W;obtain⟨u,K⟩:=Q v V;unfold Er;rw[K];simp only[cP,z_o];have step:∀A:List Int,A.length = w.length->(∀x,0<=x->x≠a->wv A x = wv w x)->(wv A a = wv w a\/wv A a∈to)->∃j,Er l AJ to A (a + 1) r = some j/\j.length = w.length/\(∀x,0<=x->(x < a\/a + (v :: r).length<=x)->wv j x = wv w x)/\(∀x,a<=x->x < a + (v :: r).length->wv j x = wv w x\/wv j x∈to):=λA a0 N R=>by
   obtain⟨j,e,hl,k1,k2⟩:=ih A (a + 1) (λu K=>Q u (by simp[K])) Z Z;refine⟨j,e,Z,λx G D=>?_,λx G D=>?_⟩
   .simp only[cS] at D;rw[k1 x G Z,N x G Z]
   .simp only[cS] at D;by_cases c:x = a
    .subst c;rw[k1 x h0 Z];exact R
    .rcases k2 x Z Z with h | h
     .left;rw[h,N x Z c]
     .exact .inr h
  by_cases c:0<=BP AJ u
  .rw[if_pos c];have hm:u∈AJ:=Classical.byContradiction λh=>by have:=DF.2 h;omega
   have O:=(DF (l:=AJ)).1 hm;obtain⟨d,hd,H⟩:=GN (l:=to) (i:=BP AJ u) ⟨O.1,by rw[hlen];exact O.2⟩;rw[hd];simp only[z_o];rw[Gg h0 Z];simp only[z_o];refine step _ V (λx G D=>by rw[Co h0 Z G,if_neg D]) (.inr ?_);rw[Co h0 Z h0,if_pos rfl];exact H
  .rw[if_neg c];simp only[z_o];exact step w rfl (λ_ _ _=>rfl) (.inl rfl)
end Sm
end
section
namespace Sm
variable {P:List (List Op)}
theorem Sb {l:List AQ} {AJ to W:List Int} {T0 t' : List Rg} {B0 D : Int->Prop} {f:Int->Shp} (T:Thn W B0 l) (G0:Geo W T0 B0) (G:IN f t' D) (hlen:to.length = AJ.length):∀(N ld w:List Int),N.length = ld.length->
  (∀p∈N.zip ld,D p.2/\f p.2 = shp W p.1/\B0 p.1/\∀v∈(thg W p.1).refs,∃u,now l v = some u)->(w.length:Int) = 16 * t'.length->(∀b j,D b->0<=j->j < (f b).refs->wv w (b + 2 + j) = 0\/wv w (b + 2 + j)∈to)->
  ∃A,Ee l AJ to N ld w = some A/\A.length = w.length/\(∀b j,D b->0<=j->j < (f b).refs->wv A (b + 2 + j) = 0\/wv A (b + 2 + j)∈to)/\(∀b,D b->Hd w W f b->Hd A W f b)/\(∀d∈ld,Hd A W f d):=by
 intro N;induction N with
 | nil=>
  intro ld w hl _ _ rf;cases ld with
  | nil=>exact⟨w,rfl,rfl,rf,λ_ _ h=>h,λd h=>(by cases h)⟩
  | cons _ _=>simp at hl
 | cons a N ih=>
  intro ld w hl hp wl rf;cases ld with
  | nil=>simp at hl
  | cons d ld=>
   rw[ei] at hp;obtain⟨K,R,H,hv⟩:=hp (a,d) V;simp only at K R H hv;obtain⟨g1,g2,g3,g4,g5,g6,g7,g8⟩:=G.inn K;have o1:=Em (G.at_ d K).2.2;have i0:=G0.inn H;have sb:=Ft W a;have a8:(((thg W a).refs.length:Nat):Int) = (f d).refs:=by
    rw[R];exact Ha Z Z Z
   have a7:(((thg W a).nums.length:Nat):Int) = (f d).nums:=by
    rw[R];exact Ha Z Z Z
   unfold Ee;rw[T.find H];simp only[cP,z_o];rw[Gg Z Z];simp only[z_o];rw[Gg Z (by simp;omega)];simp only[z_o];have a2:(thg W a).sh = f d:=by rw[R];rfl
   rw[a2];obtain⟨w3,e3,l3,k3,m3⟩:=Sg (l:=l) (AJ:=AJ) hlen (thg W a).refs (AT (AT w d d) (d + 1) (AY (f d))) (d + 2) hv Z (by simp;omega);rw[e3];simp only[z_o];simp only[DP] at l3;obtain⟨Q,e4,l4,k4⟩:=QM (thg W a).nums w3 (d + 2 + (thg W a).refs.length) Z Z;rw[e4];simp only[z_o];have v2:∀x,0<=x->wv (AT (AT w d d) (d + 1) (AY (f d))) x = if x = d + 1 then AY (f d) else if x = d then d else wv w x:=λx O=>by
    rw[Co Z (by simp;omega) O];split
    .rfl
    .rw[Co Z Z O]
   have out:∀x,0<=x->(x < d\/d + AG (f d)<=x)->wv Q x = wv w x:=λx O hx=>by
    rw[k4 x O Z,k3 x O Z,v2 x O,if_neg Z,if_neg Z]
   have hd:Hd Q W f d:=by
    refine⟨?_,?_⟩
    .rw[k4 d Z Z,k3 d Z Z,v2 d Z,if_neg Z,if_pos rfl]
    .rw[k4 _ Z Z,k3 _ Z Z,v2 _ Z,if_pos rfl]
   have y:∀b k,D b->b≠d->0<=k->k < AG (f b)->b + k < d\/d + AG (f d)<=b + k:=λb k hb a3 k0 k1=>by
    rcases Int.lt_trichotomy b d with h | h | h
    .have:=G.dj b d hb K h;omega
    .exact absurd h a3
    .have:=G.dj d b K hb h;omega
   have a5:∀b j,D b->0<=j->j < (f b).refs->wv Q (b + 2 + j) = 0\/wv Q (b + 2 + j)∈to:=λb j hb j0 j1=>by
    have gb:=G.inn hb;have ob:=Em (G.at_ b hb).2.2;by_cases c:b = d
    .subst c;rw[k4 _ Z Z];rcases m3 (b + 2 + j) Z Z with h | h
     .rw[h,v2 _ Z,if_neg Z,if_neg Z];exact rf b j hb j0 j1
     .exact .inr h
    .have:=y b (2 + j) hb c Z Z;rw[out _ Z Z];exact rf b j hb j0 j1
   obtain⟨A,e,a6,q1,q2,q3⟩:=ih ld Q (by simpa using hl) (λp a4=>hp p (by simp[a4])) Z a5;refine⟨A,e,Z,q1,λb hb h=>q2 b hb ?_,λb hb=>?_⟩
   .by_cases c:b = d
    .subst c;exact hd
    .have gb:=G.inn hb;have a0:=y b 0 hb c Z Z;have a1:=y b 1 hb c Z Z;refine⟨?_,?_⟩
     .rw[out b Z Z];exact h.1
     .rw[out _ Z Z];exact h.2
   .rcases cU.1 hb with h | h
    .subst h;exact q2 b K hd
    .exact q3 b h
theorem N1 {l:List AQ} {AJ to:List Int} (hlen:to.length = AJ.length):∀(A:List Int),(∀a∈A,∃u,now l a = some u)->∃D,DC l AJ to A = some D/\D.length = A.length/\∀y∈D,y = 0\/y∈to:=by
 intro A;induction A with
 | nil=>intro _;exact⟨[],rfl,rfl,λy h=>(by cases h)⟩
 | cons a r O=>
  intro h;obtain⟨u,N⟩:=h a V;obtain⟨D,e,hl,H⟩:=O λb hb=>h b (by simp[hb])
  unfold DC;rw[N,e];simp only[cP,z_o];by_cases c:BP AJ u < 0
  .rw[if_pos c];refine⟨_,rfl,by simp[hl],λy j=>?_⟩;rcases cU.1 j with j | j
   .exact .inl j
   .exact H y j
  .rw[if_neg c];have x:u∈AJ:=Classical.byContradiction λh=>by have:=DF.2 h;omega
   have K:=(DF (l:=AJ)).1 x;obtain⟨d,hd,G⟩:=GN (l:=to) (i:=BP AJ u) ⟨K.1,by rw[hlen];exact K.2⟩;rw[hd];refine⟨_,rfl,by simp[hl],λy j=>?_⟩;rcases cU.1 j with j | j
   .subst j;exact .inr G
   .exact H y j
theorem KX {l:List AQ} {AJ to:List Int} (hlen:to.length = AJ.length):∀(j:List Th),(∀t∈j,∀a∈t.AD,∃u,now l a = some u)->∃A,DW l AJ to j = some A/\A.length = j.length/\∀y∈A,∃t∈j,y.next = t.next/\y.AD.length = t.AD.length/\∀a∈y.AD,a = 0\/a∈to:=by
 intro j;induction j with
 | nil=>intro _;exact⟨[],rfl,rfl,λy h=>(by cases h)⟩
 | cons t r N=>
  intro h;obtain⟨rs,D,l1,O⟩:=N1 (l:=l) hlen t.AD (h t V);obtain⟨A,e,hl,H⟩:=N λb hb=>h b (by simp[hb])
  unfold DW;rw[D,e];simp only[cP,z_o];refine⟨_,rfl,by simp[hl],λy x=>?_⟩;rcases cU.1 x with x | x
  .subst x;exact⟨t,V,rfl,l1,O⟩
  .obtain⟨u,K,G⟩:=H y x;exact⟨u,by simp[K],G⟩
theorem E4 {n:Int} (h0:2<=n) (j:n<=12):((AV n).length:Int) = n/\rv (AV n) 0 = Db/\∀r:Int,1<=r->r < n->rv (AV n) r = Dj r:=by
 unfold AV;rw[if_neg Z];refine⟨by simp;omega,rfl,λr r0 r1=>?_⟩;obtain⟨k,rfl⟩:∃k:Nat,r = ((k + 1:Nat):Int):=⟨r.toNat - 1,Z⟩;rw[rv,GP (by simp;omega)];simp
theorem Hb {α β:Type} {j:List α} {lb:List β} (h:j.length = lb.length) {b:β} (hb:b∈lb):∃a,(a,b)∈j.zip lb:=by
 obtain⟨i,x,rfl⟩:=d5 hb;exact⟨j[i],by rw[List.mem_iff_getElem];exact⟨i,by simp;omega,V⟩⟩
theorem Xl {α β:Type} {j:List α} {lb:List β} (h:j.length = lb.length) {a:α} (x:a∈j):∃b,(a,b)∈j.zip lb:=by
 obtain⟨i,y,rfl⟩:=d5 x;exact⟨lb[i],by rw[List.mem_iff_getElem];exact⟨i,by simp;omega,V⟩⟩
def Sim.fulled (S:Sim) (s:Ah):Sim:=
 { S with AC:=s.AC,AA:=s.AA,AM:=s.AM,Ae:=s.Ae,stop:=s.stop,full:=s.full,old:=s.old,AI:=s.AI,BC:=s.BC,BJ:=s.BJ,col:=Da s.Ap 0,th:=s.AB.map λt=>thr0 t.AD t.next t.Am }
section
variable {c:Nat} {S:Sim} {g:Gh}
theorem Xf (hc:c < 900000) (I:IG P S g) (B:Bd c S) (b2:S.calm = true):∃s g',GK S.view = some s/\IG P (S.fulled s) g'/\Bd (c + 1) (S.fulled s):=by
 have st:=I.still b2;have H:=I.sh;have G:Geo S.AC S.AA g.B:=H.g;have To:=G.ok;have n0:=To.n0;have n1:=To.n1;have len:=G.len;obtain⟨l,e1,T⟩:=NO (s:=S.view) G;have T:Thn S.AC g.B l:=T;have b1:∀a,g.L a->g.L (wv S.AC a)/\wv S.AC (wv S.AC a) = wv S.AC a:=λa A=>by
  by_cases h:wv S.AC a = a
  .rw[h];exact⟨A,h⟩
  .have hf:BZ S.AA a:=Classical.byContradiction λhn=>h (H.st a (H.lb a A) hn)
   obtain⟨f1,f2,_⟩:g.L (wv S.AC a)/\¬ BZ S.AA (wv S.AC a)/\_:=H.fw a (H.lb a A) hf h;exact⟨f1,H.st _ (H.lb _ f1) f2⟩
 have a0:∀a,g.B a->16<=a:=λa h=>(G.at_ a h).1
 have a4:∀a∈S.AI,g.L a/\wv S.AC a = a:=λa h=>⟨(H.pl a h).1,H.st a (H.lb a (H.pl a h).1) (H.pl a h).2⟩
 have a8:∀t∈S.view.AB,∀a∈t.AD,a≠0->g.L a:=λt h a A h0=>by
  obtain⟨u,hu,rfl⟩:=cq.1 (show t∈S.th.map λt=>(⟨t.AD,t.next,t.pc != 0,t.Am⟩:Th) from h);exact (st u hu).rt a A h0
 obtain⟨out,e2,C,cl,rt,pn⟩:=Lw (s:=S.view) T H.lb a0 b1 H.rf a8 a4;obtain⟨sp,sm⟩:=Bk C.nd;have D:∀a∈Ac out,g.L a/\wv S.AC a = a:=λa h=>C.cu a ((sm a).1 h)
 obtain⟨c4,b7,b8⟩:=E4 (n:=S.AA.length) Z Z;have a3:∀v,(v≠0->g.L v)->∃u,now l v = some u:=λv h=>⟨_,T.now λh0=>H.lb v (h h0)⟩
 obtain⟨w1,t1,e3,l1,a1,s1,s2,s3,s4⟩:=Ni (s:=S.view) (B0:=g.B) G l (List.replicate S.AC.length 0) (AV S.AA.length) T.all (by simp[Sim.view]) (by show (AV S.AA.length).length = S.AA.length;omega);have l1:w1.length = S.AC.length:=l1;have a1:t1.length = S.AA.length:=a1;have z0:∀x,wv (List.replicate S.AC.length 0) x = 0:=λx=>by
  unfold wv gv;rw[cH,List.getElem?_replicate];split<;>rfl
 have N:∀r:Int,1<=r->r < S.AA.length->(rv t1 r = ⟨3,-1,(rv S.AA r).top,(rv S.AA r).top,0⟩/\Aj S.AI r = true/\∃x,g.B x/\x / 16 = r)\/(rv t1 r = ⟨1,-1,16 * r,16 * r,0⟩/\(Aj S.AI r = true->∀x,g.B x->x / 16≠r)):=λr r0 r1=>by
  rw[s4 r Z];by_cases h:Aj S.view.AI r = true/\∃x∈l,x.at_ / 16 = r
  .left;rw[if_pos h];obtain⟨K,x,hx,hr⟩:=h;exact⟨rfl,K,x.at_,(T.all x hx).1,hr⟩
  .right;rw[if_neg h,b8 r r0 r1,(Ct r0 Z).2];exact⟨rfl,λK x hx hr=>h ⟨K,thg S.AC x,T.has x hx,hr⟩⟩
 have To1:TOk t1:=by
  refine⟨Z,Z,?_,λr r0 r1=>?_,λr q r0 r1 q0 q1 ho _=>?_⟩
  .rw[s4 0 Z,if_neg,b7];rintro⟨_,x,hx,h⟩;have:=a0 _ (T.all x hx).1;omega
  .have R:=To.row r r0 Z;rcases N r r0 Z with ⟨h,_⟩ | ⟨h,_⟩
   .rw[h];exact⟨V,V,R.t0,R.t1,R.t0,dB _,dB 0,by show 0<=(rv S.AA r).top - 16 * r;have:=R.t0;omega,λh=>by simp at h,V,V,V⟩
   .rw[h];exact⟨V,V,dB _,by show 16 * r<=16 * r + 16;omega,dB _,dB _,dB 0,by show 0<=16 * r - 16 * r;omega,λ_=>rfl,V,V,V⟩
  .rcases N r r0 Z with ⟨h,_⟩ | ⟨h,_⟩<;>rw[h] at ho<;>simp at ho
 have a2:∀b,(g.B b/\Aj S.AI (b / 16) = true)->(rv t1 (b / 16)).top = (rv S.AA (b / 16)).top:=λb hb=>by
  have i:=G.inn hb.1;rcases N (b / 16) i.2.1 i.2.2.1 with ⟨h,_⟩ | ⟨_,h⟩
  .rw[h]
  .exact absurd rfl (h hb.2 b hb.1)
 have G1:IN (shp S.AC) t1 (λb=>g.B b/\Aj S.AI (b / 16) = true):=by
  refine⟨To1,λa A=>?_,λa A=>?_,λr r0 r1=>?_,λa b A hb h=>G.dj a b A.1 hb.1 h⟩
  .rw[a2 a A];obtain⟨K,O,_⟩:=G.at_ a A.1;exact⟨K,O,GX S.AC a⟩
  .rw[a2 a A];have i:=G.inn A.1;have es:AG (shp S.AC a) = sz S.AC a:=rfl;rw[es];by_cases h0:a + sz S.AC a = (rv S.AA (a / 16)).top
   .exact .inl h0
   .right;rcases G.nx a A.1 with h | h
    .exact absurd h h0
    .exact⟨h,by rw[show (a + sz S.AC a) / 16 = a / 16 from Z];exact A.2⟩
  .rcases N r r0 Z with ⟨h,O,_⟩ | ⟨h,_⟩
   .rw[h];rcases G.bs r r0 Z with Q | Q
    .exact .inl Q
    .exact .inr ⟨Q,by rw[show 16 * r / 16 = r from Z];exact O⟩
   .rw[h];exact .inl rfl
 have a7:∀q:Int,1<=q->q < S.AA.length->Aj S.AI q = false->(rv t1 q).top = 16 * q:=λq q0 q1 hq=>by
  rcases N q q0 q1 with ⟨_,h,_⟩ | ⟨h,_⟩
  .rw[hq] at h;cases h
  .rw[h]
 obtain⟨t2,to,f,B',e4,k1,G2,k3,k4,k5,k6,k7⟩:=LT (AI:=S.AI) T G (Ac out) t1 1 [] (shp S.AC) _ (λa h=>H.lb a (D a h).1) sp G1 a1 (dB 1)
  (λq q0 q1=>by rcases N q q0 Z with ⟨h,_⟩ | ⟨h,_⟩<;>rw[h])
  (λq q0=>by
   by_cases c1:q < S.AA.length
   .by_cases c2:1<=q
    .rcases N q c2 c1 with ⟨h,_⟩ | ⟨h,_⟩<;>rw[h]<;>simp
    .rw[show q = 0 from Z,To1.e];simp[Db]
   .rw[Dc q0 Z];simp[Db])
  (λq q0 q1 hq=>a7 q Z Z hq)
  (λa A hq=>by
   have i:=G.inn (H.lb a (D a A).1)
   refine⟨i.2.1,λK=>?_⟩
   rw[a7 1 Z Z (by rw[K];exact hq)];omega)
  (λa A hq=>⟨⟨H.lb a (D a A).1,hq⟩,rfl⟩)
 simp only[List.nil_append] at e4;have b6:t2.length = S.AA.length:=by rw[k3,a1]
 have bk:∀b,B' b->(g.B b/\Aj S.AI (b / 16) = true/\f b = shp S.AC b)\/(b∈to/\Aj S.AI (b / 16) = false):=λb hb=>by
  rcases k6 b hb with h | h
  .exact .inl ⟨h.1,h.2,(k5 b h).2⟩
  .exact .inr h
 have b5:∀b j,B' b->0<=j->j < (f b).refs->wv w1 (b + 2 + j) = 0\/wv w1 (b + 2 + j)∈to:=λb j hb j0 j1=>by
  left;have i:=G2.inn hb;have ob:=Em (G2.at_ b hb).2.2;rcases bk b hb with ⟨K,O,Q⟩ | ⟨K,O⟩
  .rw[Q] at j1;rw[s2 b j K j0 j1];exact z0 _
  .rw[s3 (b + 2 + j) Z (by rw[show (b + 2 + j) / 16 = b / 16 from Z];exact O)];exact z0 _
 obtain⟨W,e5,l2,r2,O,d2⟩:=Sb (AJ:=Ac out) (to:=to) T G G2 k1 (Ac out) to w1 k1.symm (λp hp=>by
   obtain⟨q1,q2,_⟩:=k7 p hp
   have hm:p.1∈Ac out:=(dq hp).1
   have hL:=(D p.1 hm).1
   have b9:=a0 _ (H.lb _ hL)
   refine⟨q1,q2,H.lb _ hL,λv hv=>a3 v λh0=>?_⟩
   obtain⟨j,j0,j1,hj⟩:=Nw Z hv
   rw[<- hj] at h0 ⊢
   exact H.rf p.1 j hL j0 j1 h0) Z b5
 have Hall:∀b,B' b->Hd W S.AC f b:=λb hb=>by
  rcases bk b hb with ⟨K,b0,Q⟩ | ⟨K,_⟩
  .refine O b hb ?_;have:=s1 b K b0 (.inl (T.has b K));exact⟨this.1,by rw[Q];exact this.2⟩
  .exact d2 b K
 have a6:∀d∈to,B' d:=λd hd=>by
  obtain⟨a,A⟩:=Hb k1.symm hd;exact (k7 (a,d) A).1
 obtain⟨ths,e6,l6,m6⟩:=KX (l:=l) (AJ:=Ac out) (to:=to) k1 S.view.AB (λt ht a A=>a3 a λh0=>a8 t ht a A h0);have b4:Cg S.BJ 1 = some (S.BJ + 1):=BQ (by have:=B.fu.1;omega) (by have:=B.fu.2;omega);have eW:∀b,B' b->shp W b = f b/\(AS (wv W (b + 1))).2 = true:=λb hb=>by
  have h:=(Hall b hb).2;have:=EW (G2.at_ b hb).2.2;unfold shp;rw[h,this];exact⟨rfl,rfl⟩
 have eZ:∀b,B' b->sz W b = AG (f b):=λb hb=>by unfold sz;rw[(eW b hb).1]
 have GF:Geo W t2 B':=⟨by rw[l2,l1,b6];exact len,G2.ok,λa A=>by
   obtain⟨K,O,_⟩:=G2.at_ a A
   exact⟨K,by rw[eZ a A];exact O,(eW a A).2⟩,λa A=>by rw[eZ a A];exact G2.nx a A,G2.bs,λa b A hb h=>by rw[eZ a A];exact G2.dj a b A hb h⟩
 have nf:∀a,¬ BZ t2 a:=λa hf=>k4 (a / 16) (by have:=hf.1;omega) hf.2
 have b3:GK S.view = some ⟨W,t2,List.replicate S.AC.length false,0,false,false,S.col.Ap,0,ths,[],S.AI,S.BC,S.BJ + 1⟩:=by
  unfold GK;rw[e1];simp only[dI,cP];rw[e2];simp only[z_o];rw[show S.view.AC = S.AC from rfl,show S.view.AA = S.AA from rfl,show S.view.AI = S.AI from rfl,show S.view.BJ = S.BJ from rfl];have a9 : stay S.view l (List.replicate S.AC.length 0) (AV S.AA.length) = some (w1,t1):=e3;rw[a9];simp only[z_o];rw[e4];simp only[z_o];rw[e5];simp only[z_o];rw[e6];simp only[z_o];rw[b4];simp only[z_o];rw[show W.length = S.AC.length from l2.trans l1];rfl
 refine⟨_,⟨B',(·∈to),g.q,g.r0⟩,b3,I.mk' (S':=S.fulled ⟨W,t2,List.replicate S.AC.length false,0,false,false,S.col.Ap,0,ths,[],S.AI,S.BC,S.BJ + 1⟩) rfl ?_ ?_ (λt ht=>?_) (λh=>absurd (show (0:Int) = 1 from h) δ) (λh=>absurd (show (0:Int) = 2 from h) δ) (λh=>absurd (show (0:Int) = 3 from h) δ) (λh=>by cases h),?_⟩
 .show (ths.map _).length = _;rw[cM,l6];simp[Sim.view]
 .refine⟨GF,a6,λa j h j0 j1 hn=>?_,λa h _=>(Hall a h).1,λa _ hf=>absurd hf (nf a),?_,λa _ h=>?_,by show (0:Int)<=0/\(0:Int)<=3;decide,λ_ r r0=>k4 r r0,λh=>absurd (show (2:Int)<=0 from h) δ,λa h=>⟨?_,nf a⟩,λa _ hf=>absurd hf (nf a),λh=>absurd (show (1:Int)<=0 from h) δ,λh=>absurd (show (0:Int) = 3 from h) δ,λh=>absurd (show (0:Int) = 1 from h) δ⟩
  .have j1:j < (shp W a).refs:=j1;rw[(eW a (a6 a h)).1] at j1;rcases r2 a j (a6 a h) j0 j1 with Q | Q
   .exact absurd Q hn
   .exact Q
  .show (List.replicate S.AC.length false).length = W.length;rw[cW,l2,l1]
  .have h:mv (List.replicate S.AC.length false) a = true:=h;rw[P5] at h;cases h
  .have A:a∈Ac out:=(sm a).2 (pn a h);obtain⟨d,hd⟩:=Xl k1.symm A;have a5:Aj S.AI (a / 16) = true:=by
    unfold Aj;rw[List.any_eq_true];exact⟨a,h,by rw[Be (by have:=a0 a (H.lb a (a4 a h).1);omega)];simp⟩
   have:=(k7 (a,d) hd).2.2 a5;simp only at this;subst this;exact (dq hd).2
 .obtain⟨y,hy,rfl⟩:=cq.1 (show t∈ths.map λt=>thr0 t.AD t.next t.Am from ht);obtain⟨u,hu,q1,q2,q3⟩:=m6 y hy;obtain⟨v,hv,rfl⟩:=cq.1 (show u∈S.th.map λt=>(⟨t.AD,t.next,t.pc != 0,t.Am⟩:Th) from hu);have s:=st v hv;refine⟨rfl,rfl,rfl,by show 0<=y.next;rw[q1];exact s.nx,by show y.AD.length<=8;rw[q2];exact s.rl,λa A h0=>?_⟩;rcases q3 a A with h | h
  .exact absurd h h0
  .exact h
 .have O:=MW (List.replicate S.AC.length false);rw[cW] at O;have c0:=I.wl;refine⟨by have:=B.ev;show S.ev.length<=c + 1;omega,Nat.zero_le _,by have:=B.cy;show 0<=S.BC/\S.BC<=((c + 1:Nat):Int);omega,by have:=B.fu;show 0<=S.BJ + 1/\S.BJ + 1<=((c + 1:Nat):Int);omega,?_,B.pn⟩;show ([]:List Int).length + ([]:List Int).length + 5 * (List.replicate S.AC.length false).countP (λb=>!b) + (if (0:Int) = 2 then _ else 0)<=3000 + (c + 1);rw[if_neg δ];simp only[dc];omega
end
end Sm
end
section
namespace Sm
variable {P:List (List Op)}
section
variable {c:Nat} {S:Sim} {g:Gh}
theorem XI {n:Nat} (hc:c < 900000) (O:S.Ae = 1->mu S < n) (I:IG P S g) (B:Bd c S) (j:S.calm = true) (K:S.stop = true):∃A D,S.pause n = some A/\IG P A D/\Bd (c + 1) A:=by
 unfold Sim.pause;rw[I.szok rfl B hc,if_neg δ];by_cases H:S.full = true
 .rw[if_pos H];obtain⟨s,D,e,y,x⟩:=Xf hc I B j;simp only[cP];rw[e];exact⟨_,D,rfl,y,x⟩
 .rw[if_neg H];dsimp only;rcases I.wt K (by simpa using H) with ⟨h,G⟩ | ⟨h,G⟩ | ⟨h,G,N⟩ | ⟨h,G,N⟩
  .rw[if_pos G];obtain⟨D,y,x⟩:=Q9 I B j h;exact⟨_,D,rfl,y,x.mono (dS c)⟩
  .rw[if_neg Z,if_pos G];obtain⟨A,D,e,y,x⟩:=Uw hc (O h) I B j h;exact⟨A,D,e,y,x⟩
  .rw[if_neg Z,if_neg Z,if_pos G];obtain⟨A,e,y,x⟩:=UO I B j h N;exact⟨A,g,e,y,x.mono (dS c)⟩
  .rw[if_neg Z,if_neg Z,if_neg Z];obtain⟨A,D,e,y,x⟩:=UY hc I B j h N;exact⟨A,D,e,y,x⟩
theorem P4 {n:Nat} (hc:c < 900000) (G:S.Ae = 1->mu S + 1 < n) (K:1 < n) (I:IG P S g) (B:Bd c S):∃y A,S.collector n = some y/\IG P y A/\Bd (c + 1) y:=by
 unfold Sim.collector;by_cases x:S.stop = true
 .rw[if_pos x];split
  .exact XI hc (λh=>by have:=G h;omega) I B (by assumption) x
  .exact⟨S,g,rfl,I,B.mono (dS c)⟩
 .rw[if_neg x];by_cases h0:S.Ae = 0
  .rw[if_pos h0];split
   .refine⟨_,g,rfl,⟨I.pg,I.sh,I.n0,I.n1,I.pl,I.pp,I.ti,λh=>?_,λh=>?_,λh=>?_,(λ_ _=>.inl ⟨h0,rfl⟩),I.rs⟩,(have j:=B.mono (dS c);⟨j.ev,j.old,j.cy,j.fu,j.st,j.pn⟩)⟩
    .exact absurd (h0.symm.trans h) δ
    .exact absurd (h0.symm.trans h) δ
    .exact absurd (h0.symm.trans h) δ
   .exact⟨S,g,rfl,I,B.mono (dS c)⟩
  .rw[if_neg h0];have N:0<=S.Ae:=I.sh.ph.1;obtain⟨y,A,e,H,j⟩:=W1 hc n { S with used:=false } g (I.usd false) (B.usd false) (by show 1<=S.Ae;omega) Z (by
    by_cases D:S.Ae = 1
    .exact .inr (.inr (.inl ⟨D,G D⟩))
    .exact .inr (.inr (.inr ⟨by show 2<=S.Ae;omega,K⟩)))
   exact⟨y,A,e,H,j.mono (dS c)⟩
theorem Oo {p:Int} (hc:c + 5 < 900000) (I:IG P S g) (B:Bd c S):∃x y,S.pick p = some x/\IG P x y/\Bd (c + 5) x:=by
 unfold Sim.pick;by_cases h:0<=p/\p < S.th.length
 .rw[if_pos h];exact UN hc (by unfold Sim.fuel;omega) I B h.1 h.2
 .rw[if_neg h];split
  .obtain⟨x,y,e,D,j⟩:=P4 (n:=S.fuel) Z (λG=>by
    have C:=I.c1 G
    have K:GV S.col<=4:=by
     unfold GV
     split
     .rename_i h
      obtain⟨_,_,A,O,_⟩:=C.p2 h
      have:=Ft S.AC S.col.p
      have A:S.col.sh = shp S.AC S.col.p:=A
      rw[A];omega
     .omega
    have N:=MW S.AM
    have H:S.AM.length = S.AC.length:=I.sh.ml
    unfold mu Sim.fuel
    omega) (by unfold Sim.fuel;omega) I B
   exact⟨x,y,e,D,j.mono Z⟩
  .split
   .exact⟨_,g,rfl,⟨I.pg,I.sh,I.n0,I.n1,I.pl,I.pp,I.ti,λh=>(I.c1 h).col rfl rfl rfl rfl,λh=>(have C:=I.c2 h;⟨C.r0,C.r1,C.p0,C.p1,C.wk,C.pc⟩),λh=>(have C:=I.c3 h;⟨C.pc,C.r0,C.r1,C.p0,C.at_,C.f,C.v,C.w,C.u,C.cl⟩),I.wt,I.rs⟩,(have j : Bd (c + 5) S:=B.mono Z;⟨j.ev,j.old,j.cy,j.fu,j.st,j.pn⟩)⟩
   .exact⟨S,g,rfl,I,B.mono Z⟩
theorem PD:∀(j:List Int) (c:Nat) (S:Sim) (g:Gh),c + 5 * j.length < 900000->IG P S g->Bd c S->∃x Q,Sim.picks j S = some x/\IG P x Q/\Bd (c + 5 * j.length) x:=by
 intro j;induction j with
 | nil=>intro c S g _ I B;exact⟨S,g,rfl,I,B⟩
 | cons p r W=>
  intro c S g hc I B;simp only[cS] at hc ⊢;obtain⟨H,R,N,D,y⟩:=Oo (p:=p) Z I B;obtain⟨K,T,O,G,A⟩:=W (c + 5) H R Z D y;unfold Sim.picks;rw[N];simp only[cP,z_o];exact⟨K,T,O,G,by rw[show c + 5 * (r.length + 1) = c + 5 + 5 * r.length from Z];exact A⟩
theorem Lk {c:Cfg} {AZ:List (List Op)} (hc:Bg c = true) (hl:(AZ.length:Int) = c.AB) (hp:∀p∈AZ,p.length<=40):∃g,IG AZ (start c AZ) g/\Bd 0 (start c AZ):=by
 simp only[Bg,z_b,z_d] at hc;obtain⟨⟨⟨⟨⟨c1,c2⟩,c3⟩,c4⟩,c5⟩,c6⟩:=hc;obtain⟨W,Q,x⟩:=E4 (n:=c.AH) Z Z;have hw:(start c AZ).AC = put (List.replicate (c.AH.toNat * 16) 0) 16 [16,66,0,0,0,0,0,0]:=by
  unfold start;show (CT (List.replicate (c.AH.toNat * 16) 0) 16 Bq).1 = _;unfold CT;have hk:BL (List.replicate (c.AH.toNat * 16) (0:Int)).length = true:=Jx (k:=c.AH.toNat) (by simp;omega) Z Z;rw[if_pos]
  .rfl
  .unfold fits;rw[hk];have:(List.replicate (c.AH.toNat * 16) (0:Int)).length = c.AH.toNat * 16:=V
   rw[this];simp only[dR,z_b,z_d,beq_iff_eq];refine⟨⟨⟨⟨δ,δ⟩,δ⟩,Z⟩,δ⟩
 have wl:((start c AZ).AC.length:Int) = 16 * c.AH:=by
  rw[hw];unfold put;simp only[cJ,cV,dN,cW,cS,dc];rw[show (16:Int).toNat = 16 from rfl];omega
 have y:∀k:Nat,k < 8->wv (start c AZ).AC (16 + k) = [16,66,0,0,0,0,0,0].getD k 0:=λk hk=>by
  rw[hw];unfold wv gv put;rw[show ((16:Int) + (k:Int)).toNat = 16 + k from Z,show (16:Int).toNat = 16 from rfl,cR];have hl:(List.take 16 (List.replicate (c.AH.toNat * 16) (0:Int))).length = 16:=by simp;omega
  rw[cH,eO Z,hl,de (by simp;omega),cH];congr 2;omega
 have tl:((start c AZ).AA.length:Int) = c.AH:=by
  show ((AT (AV c.AH) 1 _).length:Int) = _;rw[DP];exact W
 have D:∀r:Int,0<=r->rv (start c AZ).AA r = if r = 1 then ⟨3,-1,24,24,0⟩ else rv (AV c.AH) r:=λr r0=>DA δ Z r0
 have T:TOk (start c AZ).AA:=by
  refine⟨Z,Z,by rw[D 0 δ,if_neg δ];exact Q,λr r0 r1=>?_,λr s r0 r1 _ _ H _=>?_⟩
  .rw[D r Z];split
   .subst r;exact⟨δ,δ,δ,δ,δ,δ,δ,δ,δ,δ,δ,δ⟩
   .rw[x r r0 Z];exact (Ct r0 Z).1
  .rw[D r Z] at H;split at H
   .simp at H
   .rw[x r r0 Z,(Ct r0 Z).2] at H;simp at H
 have G:wv (start c AZ).AC (16 + 1) = 66:=y 1 δ;have K:shp (start c AZ).AC 16 = ⟨4,2⟩:=by unfold shp;rw[G];rfl
 have N:sz (start c AZ).AC 16 = 8:=by unfold sz;rw[K];rfl
 have R:wv (start c AZ).AC 16 = 16:=y 0 δ;have nf:∀r:Int,0<=r->(rv (start c AZ).AA r).kind≠4:=λr r0=>by
  rw[D r r0];split
  .simp
  .by_cases h:r < c.AH
   .by_cases h1:1<=r
    .rw[x r h1 h,(Ct h1 Z).2];simp
    .rw[show r = 0 from Z,Q];simp[Db]
   .rw[Dc r0 Z];simp[Db]
 have O:∀a,¬ BZ (start c AZ).AA a:=λa A=>nf (a / 16) (by have:=A.1;omega) A.2
 have fm:∀a,mv (start c AZ).AM a = false:=λa=>P5
 have t1:(rv (start c AZ).AA 1).top = 24:=by rw[D 1 δ,if_pos rfl]
 refine⟨⟨(· = 16),(· = 16),λ_=>0,λ_=>False⟩,⟨rfl,?_,?_,?_,?_,hp,λi t h=>?_,λh=>absurd (show (0:Int) = 1 from h) δ,λh=>absurd (show (0:Int) = 2 from h) δ,λh=>absurd (show (0:Int) = 3 from h) δ,(λh=>by cases h),⟨c5,c6⟩⟩,?_⟩
 .refine⟨⟨by rw[wl,tl],T,?_,?_,?_,?_⟩,λa h=>h,?_,?_,λa _ A=>absurd A (O a),?_,λa _ h=>?_,by show (0:Int)<=0/\(0:Int)<=3;decide,λ_=>nf,λh=>absurd (show (2:Int)<=0 from h) δ,λa h=>(by cases h),λa _ A=>absurd A (O a),λh=>absurd (show (1:Int)<=0 from h) δ,λh=>absurd (show (0:Int) = 3 from h) δ,λh=>absurd (show (0:Int) = 1 from h) δ⟩
  .rintro a rfl;refine⟨δ,?_,?_⟩
   .rw[N,show (16:Int) / 16 = 1 from rfl,t1];decide
   .rw[G];rfl
  .rintro a rfl;left;rw[N,show (16:Int) / 16 = 1 from rfl,t1];rfl
  .intro r r0 r1;have r1:r < (start c AZ).AA.length:=r1;by_cases h:r = 1
   .right;show 16 * r = 16;omega
   .left;rw[D r Z,if_neg h,x r r0 Z,(Ct r0 Z).2]
  .rintro a b rfl rfl h;omega
  .rintro a j rfl j0 j1 hn;exfalso;rw[K] at j1;simp only at j1;have:=y (2 + j.toNat) Z;rw[show (16:Int) + ((2 + j.toNat:Nat):Int) = 16 + 2 + j from Z] at this;apply hn;rw[this];have hj:j.toNat = 0\/j.toNat = 1\/j.toNat = 2\/j.toNat = 3:=Z
   rcases hj with h | h | h | h<;>rw[h]<;>rfl
  .rintro a rfl _;exact R
  .show (List.replicate (c.AH.toNat * 16) false).length = (start c AZ).AC.length;rw[cW];omega
  .rw[fm] at h;cases h
 .show 1<=(List.replicate c.AB.toNat _).length;rw[cW];omega
 .show (List.replicate c.AB.toNat _).length<=3;rw[cW];omega
 .show AZ.length = (List.replicate c.AB.toNat _).length;rw[cW];omega
 .have hm:=Io h;have:t = thr0 [16] 0 0:=(dQ.1 (show t∈List.replicate c.AB.toNat (thr0 [16] 0 0) from hm)).2;subst this;exact⟨λa ha _=>by simpa [thr0] using ha,δ,δ,λ_ _ h=>absurd rfl h,.inl ⟨rfl,rfl,rfl⟩⟩
 .have h2:=MW (List.replicate (c.AH.toNat * 16) false);rw[cW] at h2;refine⟨z_n 0,z_n 0,⟨dB 0,dB 0⟩,⟨dB 0,dB 0⟩,?_,Nat.zero_le _⟩;show 0 + 0 + 5 * (List.replicate (c.AH.toNat * 16) false).countP (λb=>!b) + (if (0:Int) = 2 then _ else 0)<=3000 + 0;rw[if_neg δ];omega
end
end Sm
end
section
namespace Go.Lf
open Go Sm
theorem TP {y:List (List Sm.Op)} {S:Sim} {A:Gh} (I:IG y S A):Pr S/\TOk S.AA:=by
 refine⟨⟨⟨by have:=I.rs.1;omega,by have:=I.rs.2;omega⟩,λa H=>?_⟩,I.sh.g.ok⟩;have D:=I.sh.pl a H;have G:=I.sh.g.inn (I.sh.lb a D.1);have K:=I.wl;obtain⟨N,_,_,_,_,j,x,_⟩:=G;have j:a + sz S.AC a<=S.AC.length:=j;have x:2<=sz S.AC a:=x;unfold AN;split<;>omega
theorem az {j:List (List Sm.Op)} {S:Sim} {x:Gh} {c:Nat} (I:IG j S x) (B:Bd c S) (hc:c < 900000):S.sz = true:=I.szok rfl B hc
theorem Xq {A:List (List Sm.Op)} {p c:Nat} {S:Sim} {H:Gh} {a:Int} (i0:IG A S H) (B:Bd c S) (hc:c + 5 < 900000) (K:inR a) :
  ∃x j,IG A x j/\Bd (c + 5) x/\S.pick a = some x/\∀R g,Ok R S g->Fn P IR [Pt p,I a] R (Ag p S g) (DI p x λ_=>True):=by
 obtain⟨x,j,e,G,D⟩:=Oo hc i0 B;exact⟨x,j,G,D,e,λR g y=>XM y K (λR g O ok N=>TL ok (TP i0).1 (TP i0).2 N) e⟩
theorem RQ {D:List (List Sm.Op)}:∀(j:List Int) (i c:Nat) (S:Sim) (y:Gh),c + 5 * j.length < 900000->IG D S y->Bd c S->∀x,Sim.picks (j.take i) S = some x->∃A,IG D x A:=by
 intro j i c S y hc I B x h;have hl:(j.take i).length<=j.length:=by simp;omega
 obtain⟨N,K,G,H,_⟩:=PD (j.take i) c S y Z I B;rw[h] at G;cases G;exact⟨K,H⟩
theorem KR {c:Cfg} {AZ:List (List Sm.Op)} {picks:List Int} (h:Cx c AZ picks = true):Bg c = true/\(AZ.length:Int) = c.AB/\picks.length<=4000/\∀p∈AZ,p.length<=40:=by
 unfold Cx at h;simp only[z_b,z_d,ck] at h;exact⟨h.1.1.1,h.1.1.2,h.1.2,h.2⟩
theorem Yy {x:Cfg} {AZ:List (List Sm.Op)} {picks:List Int} (y:Cx x AZ picks = true) (ha:∀a∈picks,inR a) :
  ∃j G,IG AZ j G/\Bd 20000 j/\Sim.picks picks (Sm.start x AZ) = some j/\∀R pv K,F7 R pv AZ->B8 R K picks->Fn P Fr [.agg #[I x.AH,I x.AB,I x.AU],pv,K] R [] (λv R' A=>∃p g rows D N,Ok R' j g/\Rw (Cd R') rows j.view.AB/\SW 117 4 rows D N/\A = N ++ Ag p j g/\
   v = .tuple #[.agg (eSt j.view (wS j g) (tS j g) (mS j g) D g.old g.AI).toArray,evV j g]):=by
 obtain⟨h1,h2,h3,h4⟩:=KR y;obtain⟨g0,T,B0⟩:=Lk h1 h2 h4;obtain⟨j,G,e,Q,O⟩:=PD picks 0 _ g0 Z T B0;refine⟨j,G,Q,O.mono Z,e,λR pv K hp hk=>Pw hp hk y ha e (az Q O Z) λi S hS p R g S1 ok H=>?_⟩;obtain⟨a0,W⟩:=RQ picks i 0 _ g0 Z T B0 S hS;exact TL ok (TP W).1 (TP W).2 H
end Go.Lf
end
section
namespace Sm
def Rn (x:Int):Prop:=-9223372036854775808<=x/\x < 9223372036854775808
structure RT (t:Thr):Prop where
 r:∀a∈t.AD,Rn a
 h:Rn t.h
 g:Rn t.g
 k:Rn t.k
 u:Rn t.u
 v:Rn t.v
 w:Rn t.word
 d:Rn t.dst
structure RC (x:Col):Prop where
 w:Rn x.word
 d:Rn x.dst
structure RS (S:Sim):Prop where
 w:∀x∈S.AC,Rn x
 t:∀t∈S.th,RT t
 c:RC S.col
 o:∀p∈S.AZ,∀o∈p,Rn o.v
theorem Rn.zero:Rn 0:=by unfold Rn;omega
theorem Cu {α:Type} {l:List α} {i:Int} {x:α} (h:idx l i = some x):x∈l:=by
 unfold idx at h;split at h
 .exact List.mem_of_getElem? h
 .cases h
theorem FS {α:Type} {l:List α} {i:Int} {x y:α} (h:y∈AT l i x):y∈l\/y = x:=dy h
theorem RT.thr0 {AD:List Int} {n m:Int} (h:∀a∈AD,Rn a):RT (thr0 AD n m):=⟨h,Rn.zero,Rn.zero,Rn.zero,Rn.zero,Rn.zero,Rn.zero,Rn.zero⟩
theorem Rn.room {t t' : List Rg} {o z d:Int} (h:BY t o z = some (t',d)):Rn d:=by
 have j:BT t = true/\0<=o/\o<=3/\1<=z/\z<=16:=by
  unfold BY at h;split at h
  .rename_i j;simp only[z_b,z_d] at j;exact⟨j.1.1.1.1,j.1.1.1.2,j.1.1.2,j.1.2,j.2⟩
  .cases h
 obtain⟨h0,y,A,D,G⟩:=j;rcases G6 (Bi.1 h0) y A D G with H | ⟨N,K,he,x⟩
 .rw[H] at h;cases h
 rw[he] at h;cases h;have:=x.d0;have n1:=x.ok.n1;by_cases c:d / 16 < t'.length
 .unfold Rn;omega
 .have:=x.dk;rw[Dc Z Z] at this;cases this
theorem Rn.shape {s:Shp}:Rn (AY s):=by
 unfold AY;split
 .rename_i h;simp only[BM,z_b,z_d] at h;unfold Rn;omega
 .unfold Rn;omega
section
variable {S S' : Sim} {i a v:Int}
theorem RS.rd (R:RS S) (h:S.read a = some (v,S')):Rn v/\RS S'/\S'.th = S.th/\S'.AZ = S.AZ/\S'.col = S.col:=by
 unfold Sim.read at h;split at h
 .rename_i j;cases h;exact⟨R.w _ (Cu j),⟨R.w,R.t,R.c,R.o⟩,rfl,rfl,rfl⟩
 .cases h
theorem RS.wt (R:RS S) (j:Rn v) (h:S.write a v = some S'):RS S':=by
 unfold Sim.write at h;split at h
 .cases h;exact⟨λx y=>(FS y).elim (R.w x) λe=>e▸j,R.t,R.c,R.o⟩
 .cases h
theorem RS.st (R:RS S) {t:Thr} (j:RT t):RS (S.setT i t):=⟨R.w,λx y=>(FS y).elim (R.t x) λe=>e▸j,R.c,R.o⟩
theorem RS.ev (R:RS S) {b:Int} (h:S.event i a b = some S'):RS S':=by
 unfold Sim.event at h;split at h
 .cases h
 split at h
 .rename_i j;split at h
  .cases h;exact⟨R.w,λx y=>(FS y).elim (R.t x) λe=>e▸RT.thr0 (R.t _ (Cu j)).r,R.c,R.o⟩
  .cases h
 .cases h
theorem RS.pu (R:RS S) (j:Rn a) (h:S.push i a = some S'):RS S':=by
 unfold Sim.push at h;split at h
 .cases h
 split at h
 .rename_i t y;have T:=R.t _ (Cu y);refine RS.ev (R.st ?_) h;exact⟨λx A=>(cm.1 A).elim (T.r x) λe=>by rw[cZ.1 e];exact j,T.h,T.g,T.k,T.u,T.v,T.w,T.d⟩
 .cases h
theorem RS.bk (R:RS S) (h:S.back i = some S'):RS S':=by
 unfold Sim.back at h;split at h
 .rename_i j;cases h;exact⟨R.w,λx y=>(FS y).elim (R.t x) λe=>e▸RT.thr0 (R.t _ (Cu j)).r,R.c,R.o⟩
 .cases h
theorem RS.tp (R:RS S) (h:S.top a v = some S'):RS S':=by
 unfold Sim.top at h;split at h
 .split at h
  .cases h;exact⟨R.w,R.t,R.c,R.o⟩
  .cases h
 .cases h
theorem RS.od (R:RS S) (h:S.oldV v = some S'):RS S':=by
 unfold Sim.oldV at h;split at h
 .cases h
 .cases h;split
  .exact⟨R.w,R.t,R.c,R.o⟩
  .exact R
theorem RS.op (R:RS S) {t:Thr} {o:Op} (h:S.opOf i t = some o):Rn o.v:=by
 unfold Sim.opOf at h;split at h
 .rename_i j;exact R.o _ (Cu j) _ (Cu h)
 .cases h
theorem RT.pc {t:Thr} (T:RT t) (n:Int):RT { t with pc:=n }:=⟨T.r,T.h,T.g,T.k,T.u,T.v,T.w,T.d⟩
theorem RT.hold {t:Thr} (T:RT t) (n:Int) (j:Rn a):RT (C7 t n a):=by
 unfold C7;split
 .exact⟨T.r,j,T.g,T.k,T.u,T.v,T.w,T.d⟩
 split
 .exact⟨T.r,T.h,j,T.k,T.u,T.v,T.w,T.d⟩
 split
 .exact⟨T.r,T.h,T.g,j,T.u,T.v,T.w,T.d⟩
 .exact⟨T.r,T.h,T.g,T.k,T.u,j,T.w,T.d⟩
theorem RS.begin_ (R:RS S) (h:S.begin_ i = some S'):RS S':=by
 unfold Sim.begin_ at h;obtain⟨t,H,h⟩:=cE.1 h;have T:=R.t _ (Cu H);obtain⟨o,Q,h⟩:=cE.1 h;split at h
 .exact R.ev h
 dsimp only at h;split at h
 .exact R.ev h
 split at h
 .exact RS.ev (R.st (by exact⟨λx K=>T.r x (dJ K),T.h,T.g,T.k,T.u,T.v,T.w,T.d⟩)) h
 split at h
 .obtain⟨b,hb,h⟩:=cE.1 h;exact R.pu (T.r _ (Cu hb)) h
 split at h
 .cases h;exact R.st (T.pc _)
 obtain⟨b,hb,h⟩:=cE.1 h;have j:RT { t with pc:=1,h:=b }:=⟨T.r,T.r _ (Cu hb),T.g,T.k,T.u,T.v,T.w,T.d⟩;obtain⟨N,A,h⟩:=cE.1 h;have y:RT N:=by
  split at A
  .obtain⟨c,hc,A⟩:=cE.1 A;cases A;exact⟨j.r,j.h,j.r _ (Cu hc),j.k,j.u,j.v,j.w,j.d⟩
  .cases A;exact j
 obtain⟨O,D,h⟩:=cE.1 h;have G:RT O:=by
  split at D
  .obtain⟨c,hc,D⟩:=cE.1 D;cases D;exact⟨y.r,y.h,y.g,y.r _ (Cu hc),y.u,y.v,y.w,y.d⟩
  .cases D;exact y
 cases h;exact R.st G
theorem RS.resolve (R:RS S) (h:S.resolve i = some S'):RS S':=by
 unfold Sim.resolve at h;obtain⟨t,y,h⟩:=cE.1 h;have T:=R.t _ (Cu y);split at h
 .cases h
 dsimp only at h;obtain⟨f,H,h⟩:=cE.1 h;split at h
 .cases h;exact R.st (T.pc _)
 obtain⟨⟨w,D⟩,x,h⟩:=cE.1 h;obtain⟨A,j,G,_⟩:=R.rd x;dsimp only at h;split at h
 .cases h;exact j.st ⟨T.r,T.h,T.g,T.k,T.u,T.v,T.w,T.d⟩
 .cases h;exact j.st (T.hold _ A)
theorem RS.copying (R:RS S) (h:S.copying i = some S'):RS S':=by
 unfold Sim.copying at h;obtain⟨t,K,h⟩:=cE.1 h;have T:=R.t _ (Cu K);split at h
 .obtain⟨b,hb,h⟩:=cE.1 h;obtain⟨⟨w,y⟩,x,h⟩:=cE.1 h;obtain⟨A,j,_⟩:=R.rd x;dsimp only at h;split at h
  .exact j.bk h
  .rename_i H;cases h;exact RS.st (by exact⟨j.w,j.t,j.c,j.o⟩) (by exact⟨T.r,T.h,T.g,T.k,T.u,T.v,T.w,Rn.room H⟩)
 split at h
 .obtain⟨b,hb,h⟩:=cE.1 h;obtain⟨⟨w,y⟩,x,h⟩:=cE.1 h;obtain⟨A,j,_⟩:=R.rd x;cases h;exact j.st ⟨T.r,T.h,T.g,T.k,T.u,T.v,A,T.d⟩
 split at h
 .obtain⟨b,hb,h⟩:=cE.1 h;obtain⟨y,x,h⟩:=cE.1 h;have j:=R.wt T.w x;obtain⟨n,Q,h⟩:=cE.1 h;cases h;exact j.st ⟨T.r,T.h,T.g,T.k,T.u,T.v,T.w,T.d⟩
 split at h
 .obtain⟨y,x,h⟩:=cE.1 h;have j:=R.wt T.d x;cases h;exact j.st (T.pc _)
 split at h
 .split at h
  .cases h
  obtain⟨⟨w,y⟩,x,h⟩:=cE.1 h;obtain⟨A,j,_⟩:=R.rd x;dsimp only at h;split at h
  .obtain⟨N,D,h⟩:=cE.1 h;obtain⟨O,G,h⟩:=cE.1 h;cases h;exact ((j.wt T.d D).tp G).st (T.hold _ T.d)
  .cases h;exact j.st (T.hold _ A)
 .cases h;exact R.st T
theorem RS.making (R:RS S) (h:S.making i = some S'):RS S':=by
 unfold Sim.making at h;obtain⟨t,N,h⟩:=cE.1 h;have T:=R.t _ (Cu N);obtain⟨o,Q,h⟩:=cE.1 h;split at h
 .dsimp only at h;split at h
  .split at h
   .exact R.ev h
   .exact R.bk h
  .rename_i K;cases h;exact RS.st (by exact⟨R.w,R.t,R.c,R.o⟩) (by exact⟨T.r,T.h,T.g,T.k,T.u,T.v,T.w,Rn.room K⟩)
 split at h
 .obtain⟨D,j,h⟩:=cE.1 h;cases h;exact (R.wt T.d j).st (T.pc _)
 obtain⟨⟨D,t1⟩,j,h⟩:=cE.1 h;have H:RS D/\RT t1:=by
  split at j
  .obtain⟨b,hb,j⟩:=cE.1 j;obtain⟨G,x,j⟩:=cE.1 j;cases j;exact⟨R.wt Rn.shape x,T⟩
  split at j
  .obtain⟨b,hb,j⟩:=cE.1 j;obtain⟨G,x,j⟩:=cE.1 j;obtain⟨n,O,j⟩:=cE.1 j;cases j;exact⟨R.wt Rn.zero x,⟨T.r,T.h,T.g,T.k,T.u,T.v,T.w,T.d⟩⟩
  .cases j;exact⟨R,T⟩
 obtain⟨A,y⟩:=H;dsimp only at h;split at h
 .obtain⟨G,x,h⟩:=cE.1 h;exact ((A.st (y.pc 33)).tp x).pu y.d h
 .cases h;exact A.st (y.pc 33)
theorem RS.load (R:RS S) (j:Rn v) (h:S.load i v = some S'):RS S':=by
 unfold Sim.load at h;obtain⟨t,x,h⟩:=cE.1 h;have T:=R.t _ (Cu x);split at h
 .exact R.pu T.v h
 obtain⟨f,y,h⟩:=cE.1 h;split at h
 .exact R.pu j h
 .cases h;exact R.st ⟨T.r,T.h,T.g,T.k,j,j,T.w,T.d⟩
theorem RS.swap (R:RS S) (j:Rn v) (h:S.swap i v = some S'):RS S':=by
 unfold Sim.swap at h;obtain⟨t,y,h⟩:=cE.1 h;have T:=R.t _ (Cu y);split at h
 .exact R.ev h
 dsimp only at h;obtain⟨f,D,h⟩:=cE.1 h;split at h
 .cases h;exact R.st ⟨T.r,T.h,T.g,T.k,j,j,T.w,T.d⟩
 split at h
 .exact R.ev h
 obtain⟨A,x,h⟩:=cE.1 h;cases h;exact (R.od x).st ⟨T.r,T.h,T.g,T.k,j,T.v,T.w,T.d⟩
theorem RS.shape (R:RS S) (h:S.shape i = some S'):RS S':=by
 unfold Sim.shape at h;obtain⟨t,y,h⟩:=cE.1 h;have T:=R.t _ (Cu y);split at h
 .cases h
 obtain⟨o,D,h⟩:=cE.1 h;split at h
 .exact R.ev h
 split at h
 .split at h
  .exact R.ev h
  .exact RS.ev (by exact⟨R.w,R.t,R.c,R.o⟩) h
 obtain⟨b,hb,h⟩:=cE.1 h;obtain⟨⟨w,A⟩,x,h⟩:=cE.1 h;obtain⟨G,j,_⟩:=R.rd x;dsimp only at h;split at h
 .exact j.ev h
 .cases h;exact j.st ⟨T.r,T.h,T.g,T.k,T.u,T.v,T.w,T.d⟩
theorem RS.field (R:RS S) (h:S.field i = some S'):RS S':=by
 unfold Sim.field at h;obtain⟨t,W,h⟩:=cE.1 h;have T:=R.t _ (Cu W);obtain⟨o,Q,h⟩:=cE.1 h;obtain⟨b1,H,h⟩:=cE.1 h;obtain⟨ref,K,h⟩:=cE.1 h;obtain⟨b3,N,h⟩:=cE.1 h;obtain⟨num,O,h⟩:=cE.1 h;split at h
 .obtain⟨⟨w,A⟩,j,h⟩:=cE.1 h;obtain⟨y,x,_⟩:=R.rd j;exact x.load y h
 split at h
 .obtain⟨⟨w,A⟩,j,h⟩:=cE.1 h;obtain⟨y,x,_⟩:=R.rd j;obtain⟨G,D,h⟩:=cE.1 h;cases h;exact (x.od D).st (T.pc _)
 split at h
 .obtain⟨A,j,h⟩:=cE.1 h;exact (R.wt T.g j).ev h
 split at h
 .obtain⟨A,j,h⟩:=cE.1 h;exact (R.wt (R.op Q) j).ev h
 split at h
 .obtain⟨⟨w,A⟩,j,h⟩:=cE.1 h;obtain⟨y,x,_⟩:=R.rd j;exact x.ev h
 split at h
 .obtain⟨⟨w,A⟩,j,h⟩:=cE.1 h;obtain⟨y,x,_⟩:=R.rd j;exact x.swap y h
 split at h
 .obtain⟨⟨w,A⟩,j,h⟩:=cE.1 h;obtain⟨y,x,_⟩:=R.rd j;dsimp only at h;split at h
  .obtain⟨G,D,h⟩:=cE.1 h;exact (x.wt T.k D).ev h
  .cases h;exact x.st (T.pc _)
 split at h
 .split at h
  .cases h;exact R.st (T.pc _)
  .obtain⟨⟨w,A⟩,j,h⟩:=cE.1 h;obtain⟨y,x,_⟩:=R.rd j;exact x.swap y h
 .cases h;exact R
theorem RS.tstep (R:RS S) (h:S.tstep i = some S'):RS S':=by
 unfold Sim.tstep at h;obtain⟨t,j,h⟩:=cE.1 h;split at h
 .exact R.resolve h
 split at h
 .exact R.shape h
 split at h
 .exact R.making h
 split at h
 .exact R.copying h
 .exact R.field h
theorem RS.tloop:∀(n:Nat) {S S' : Sim},RS S->Sim.tloop n S i = some S'->RS S'
 | 0,_,_,_,h=>by cases h
 | n + 1,S,S',R,h=>by
  unfold Sim.tloop at h;obtain⟨t,y,h⟩:=cE.1 h;split at h
  .cases h;exact R
  .obtain⟨x,j,h⟩:=cE.1 h;exact RS.tloop n (R.tstep j) h
theorem RS.thread {n:Nat} (R:RS S) (h:S.thread n i = some S'):RS S':=by
 unfold Sim.thread at h;obtain⟨t,x,h⟩:=cE.1 h;split at h
 .split at h
  .cases h;exact R
  .obtain⟨p,j,h⟩:=cE.1 h;split at h
   .exact R.begin_ h
   .cases h;exact R
 .exact RS.tloop n (by exact⟨R.w,R.t,R.c,R.o⟩) h
end
section
variable {S S' : Sim} {i a v:Int}
theorem RS.sc (R:RS S) {c:Col} (hc:RC c):RS (S.setC c):=⟨R.w,R.t,hc,R.o⟩
theorem RC.zero (a:Bool) (n:Int):RC (Da a n):=⟨Rn.zero,Rn.zero⟩
theorem RS.mark (R:RS S) (h:S.mark = some S'):RS S':=by
 unfold Sim.mark at h;split at h
 .cases h
 dsimp only at h;split at h
 .split at h
  .cases h;exact⟨R.w,R.t,⟨R.c.w,R.c.d⟩,R.o⟩
  .cases h;exact⟨R.w,R.t,⟨R.c.w,R.c.d⟩,R.o⟩
 obtain⟨b,hb,h⟩:=cE.1 h;obtain⟨row,x,h⟩:=cE.1 h;obtain⟨c,hc,h⟩:=cE.1 h;split at h
 .obtain⟨p1,D,h⟩:=cE.1 h;obtain⟨⟨w,A⟩,y,h⟩:=cE.1 h;obtain⟨G,j,_⟩:=RS.rd (by exact⟨R.w,R.t,R.c,R.o⟩) y;dsimp only at h;obtain⟨H,hl,h⟩:=cE.1 h;cases h;exact⟨j.w,j.t,⟨R.c.w,R.c.d⟩,j.o⟩
 .cases h;exact⟨R.w,R.t,⟨R.c.w,R.c.d⟩,R.o⟩
theorem RS.look (R:RS S) (h:S.look = some S'):RS S':=by
 unfold Sim.look at h;split at h
 .cases h
 dsimp only at h;obtain⟨b,hb,h⟩:=cE.1 h;obtain⟨D,y,h⟩:=cE.1 h;obtain⟨⟨w,A⟩,x,h⟩:=cE.1 h;obtain⟨H,j,_⟩:=R.rd x;dsimp only at h;obtain⟨n,G,h⟩:=cE.1 h;cases h;exact⟨j.w,j.t,⟨R.c.w,R.c.d⟩,j.o⟩
theorem RS.walk (R:RS S) (h:S.walk = some S'):RS S':=by
 unfold Sim.walk at h;dsimp only at h;obtain⟨⟨r,p⟩,hb,h⟩:=cE.1 h;dsimp only at h;split at h
 .cases h;exact⟨R.w,R.t,⟨R.c.w,R.c.d⟩,R.o⟩
 obtain⟨q,A,h⟩:=cE.1 h;obtain⟨⟨w,y⟩,x,h⟩:=cE.1 h;obtain⟨D,j,_⟩:=R.rd x;dsimp only at h;cases h;refine j.sc ?_;split
 .exact⟨R.c.w,R.c.d⟩
 .exact⟨R.c.w,R.c.d⟩
theorem RS.carry (R:RS S) (h:S.carry = some S'):RS S':=by
 unfold Sim.carry at h;dsimp only at h;split at h
 .obtain⟨b,hb,h⟩:=cE.1 h;obtain⟨⟨w,A⟩,x,h⟩:=cE.1 h;obtain⟨D,j,_⟩:=R.rd x;dsimp only at h;split at h
  .cases h;exact⟨j.w,j.t,j.c,j.o⟩
  .rename_i N;cases h;exact⟨j.w,j.t,⟨R.c.w,Rn.room N⟩,j.o⟩
 split at h
 .obtain⟨b,hb,h⟩:=cE.1 h;obtain⟨⟨w,A⟩,x,h⟩:=cE.1 h;obtain⟨D,j,_⟩:=R.rd x;cases h;exact j.sc ⟨D,R.c.d⟩
 split at h
 .obtain⟨b,hb,h⟩:=cE.1 h;obtain⟨A,x,h⟩:=cE.1 h;have j:=R.wt R.c.w x;obtain⟨n,Q,h⟩:=cE.1 h;cases h;exact j.sc ⟨R.c.w,R.c.d⟩
 split at h
 .obtain⟨A,x,h⟩:=cE.1 h;have j:=R.wt R.c.d x;cases h;exact j.sc ⟨R.c.w,R.c.d⟩
 split at h
 .obtain⟨⟨w,A⟩,x,h⟩:=cE.1 h;obtain⟨D,j,_⟩:=R.rd x;dsimp only at h;obtain⟨H,y,h⟩:=cE.1 h;have G:RS H:=by
   split at y
   .obtain⟨O,K,y⟩:=cE.1 y;exact (j.wt R.c.d K).tp y
   .cases y;exact j
  cases h;exact G.sc ⟨R.c.w,R.c.d⟩
 .cases h;exact R
theorem RC.then_ {x y:Col} (j:RC x) (h:H5 x = some y):RC y:=by
 unfold H5 at h;obtain⟨n,A,h⟩:=cE.1 h;cases h;exact⟨j.w,j.d⟩
theorem RS.renew (R:RS S) (h:S.renew = some S'):RS S':=by
 unfold Sim.renew at h;dsimp only at h;split at h
 .obtain⟨⟨r,p⟩,hb,h⟩:=cE.1 h;dsimp only at h;split at h
  .cases h;exact⟨R.w,R.t,⟨R.c.w,R.c.d⟩,R.o⟩
  obtain⟨q,hq,h⟩:=cE.1 h;obtain⟨⟨w,S1⟩,h1,h⟩:=cE.1 h;obtain⟨hw,R1,_⟩:=R.rd h1;dsimp only at h;obtain⟨q2,hq2,h⟩:=cE.1 h;obtain⟨row,hrow,h⟩:=cE.1 h;obtain⟨go,hgo,h⟩:=cE.1 h;cases h;refine R1.sc ?_;split
  .exact⟨R.c.w,R.c.d⟩
  .exact⟨R.c.w,R.c.d⟩
 split at h
 .obtain⟨b,hb,h⟩:=cE.1 h;obtain⟨b2,hb2,h⟩:=cE.1 h;obtain⟨⟨w,S1⟩,h1,h⟩:=cE.1 h;obtain⟨hw,R1,_⟩:=R.rd h1;dsimp only at h;obtain⟨f,hf,h⟩:=cE.1 h;split at h
  .cases h;exact R1.sc ⟨R.c.w,R.c.d⟩
  .obtain⟨y,hy,h⟩:=cE.1 h;cases h;exact R1.sc (RC.then_ (by exact⟨R.c.w,R.c.d⟩) hy)
 split at h
 .obtain⟨⟨w,S1⟩,h1,h⟩:=cE.1 h;obtain⟨hw,R1,_⟩:=R.rd h1;dsimp only at h;split at h
  .obtain⟨y,hy,h⟩:=cE.1 h;cases h;exact R1.sc (RC.then_ (by exact⟨hw,R.c.d⟩) hy)
  .cases h;exact R1.sc ⟨hw,R.c.d⟩
 split at h
 .obtain⟨b,hb,h⟩:=cE.1 h;obtain⟨b2,hb2,h⟩:=cE.1 h;obtain⟨⟨w,S1⟩,h1,h⟩:=cE.1 h;obtain⟨hw,R1,_⟩:=R.rd h1;dsimp only at h;obtain⟨S2,h2,h⟩:=cE.1 h;have R2:RS S2:=by
   split at h2
   .exact R1.wt R.c.w h2
   .cases h2;exact R1
  obtain⟨y,hy,h⟩:=cE.1 h;cases h;exact R2.sc (RC.then_ R.c hy)
 .cases h;exact R
theorem RS.work (R:RS S) (h:S.work = some S'):RS S':=by
 unfold Sim.work at h;split at h
 .exact R.mark h
 split at h
 .exact R.look h
 split at h
 .exact R.walk h
 split at h
 .exact R.carry h
 .exact R.renew h
theorem RS.cloop:∀(n:Nat) {S S' : Sim},RS S->Sim.cloop n S = some S'->RS S'
 | 0,_,_,_,h=>by cases h
 | n + 1,S,S',R,h=>by
  unfold Sim.cloop at h;split at h
  .obtain⟨x,j,h⟩:=cE.1 h;exact RS.cloop n (R.work j) h
  .cases h;exact R
theorem RS.idle (R:RS S) (h:S.idle = some S'):RS S':=by
 unfold Sim.idle at h;obtain⟨n,j,h⟩:=cE.1 h;cases h;exact⟨R.w,R.t,RC.zero _ _,R.o⟩
theorem RS.drain:∀(n:Nat) {S S' : Sim},RS S->Sim.drain n S = some S'->RS S'
 | 0,_,_,_,h=>by cases h
 | n + 1,S,S',R,h=>by
  unfold Sim.drain at h;split at h
  .cases h
  split at h
  .dsimp only at h;split at h
   .obtain⟨x,j,h⟩:=cE.1 h;exact RS.drain n (R.look j) h
   .obtain⟨x,j,h⟩:=cE.1 h;exact RS.drain n (R.mark j) h
  .cases h;exact R
theorem RS.choose {n:Nat} (R:RS S) (h:S.choose n = some S'):RS S':=by
 unfold Sim.choose at h;obtain⟨y,x,h⟩:=cE.1 h;have j:=RS.drain n R x;dsimp only at h;obtain⟨t,A,h⟩:=cE.1 h;split at h
 .exact RS.idle (by exact⟨j.w,j.t,j.c,j.o⟩) h
 .cases h;exact⟨j.w,j.t,⟨Rn.zero,Rn.zero⟩,j.o⟩
theorem RS.rootsF (R:RS S):∀{l y : List Int},(∀a∈l,Rn a)->S.rootsF l = some y->∀a∈y,Rn a
 | [],y,_,h=>by cases h;simp
 | a :: r,y,hl,h=>by
  unfold Sim.rootsF at h;obtain⟨f,G,h⟩:=cE.1 h;obtain⟨b,hb,h⟩:=cE.1 h;obtain⟨H,A,h⟩:=cE.1 h;cases h;have D:=RS.rootsF R (λx j=>hl x (by simp[j])) A;intro x j;rcases cU.1 j with rfl | j
  .split at hb
   .exact R.w _ (Cu hb)
   .cases hb;exact hl _ V
  .exact D x j
theorem RS.thsF (R:RS S):∀{l y : List Thr},(∀t∈l,RT t)->S.thsF l = some y->∀t∈y,RT t
 | [],y,_,h=>by cases h;simp
 | t :: r,y,hl,h=>by
  unfold Sim.thsF at h;obtain⟨b,hb,h⟩:=cE.1 h;obtain⟨G,A,h⟩:=cE.1 h;cases h;have D:=RS.thsF R (λx j=>hl x (by simp[j])) A;have T:=hl t V;intro x j;rcases cU.1 j with rfl | j
  .exact⟨R.rootsF T.r hb,T.h,T.g,T.k,T.u,T.v,T.w,T.d⟩
  .exact D x j
theorem RS.finish (R:RS S) (h:S.finish = some S'):RS S':=by
 unfold Sim.finish at h;obtain⟨th,j,h⟩:=cE.1 h;exact RS.idle (by exact⟨R.w,R.thsF R.t j,R.c,R.o⟩) h
theorem RS.update (R:RS S) (h:S.update = some S'):RS S':=by
 unfold Sim.update at h;obtain⟨_,j,h⟩:=cE.1 h;cases h;exact⟨R.w,R.t,⟨Rn.zero,Rn.zero⟩,R.o⟩
end
def Rth (l:List AQ):Prop:=∀x∈l,Rn x.at_/\∀n∈x.nums,Rn n
theorem Rn.at_ {w:List Int} {a:Int} (A:∀x∈w,Rn x) (h:(As w a).2 = true):Rn (As w a).1.at_/\∀n∈(As w a).1.nums,Rn n:=by
 unfold As at h ⊢;split
 .rename_i j;rw[if_pos j] at h;dsimp only at h ⊢;split
  .refine⟨?_,λn y=>A n (eG (dJ y))⟩;unfold fits BL at j;simp only[z_b,z_d] at j;show Rn a;unfold Rn;omega
  .exact⟨Rn.zero,by simp[EZ]⟩
 .exact⟨Rn.zero,by simp[EZ]⟩
theorem Rth.from_ {w:List Int} (y:∀x∈w,Rn x):∀(n:Nat) {a t:Int} {l:List AQ},Au w n a t = some l->Rth l
 | 0,a,t,l,h=>by
  unfold Au at h;split at h
  .cases h
  .cases h;intro x j;cases j
 | n + 1,a,t,l,h=>by
  unfold Au at h;split at h
  .dsimp only at h;split at h
   .rename_i hc;split at h
    .rename_i A;cases h;intro x j;rcases cU.1 j with rfl | j
     .exact Rn.at_ y (by simp only[z_b] at hc;exact hc.1)
     .exact Rth.from_ y n A x j
    .cases h
   .cases h
  .cases h;intro x j;cases j
theorem Rth.all {w:List Int} (A:∀x∈w,Rn x):∀(t:List Rg) (r:Nat) {l:List AQ},Ba w r t = some l->Rth l
 | [],r,l,h=>by cases h;intro x H;cases H
 | x :: t,r,l,h=>by
  unfold Ba at h;split at h
  .cases h
  .rename_i a j;split at h
   .cases h
   .rename_i b hb;cases h;have D:Rth a:=by
     unfold BU at j;split at j
     .exact Rth.from_ A _ j
     .cases j
    have G:=Rth.all A t (r + 1) hb;intro y K;exact (cm.1 K).elim (D y) (G y)
def Rw_ (w:List Int):Prop:=∀x∈w,Rn x
def Rtt (t:List Rg):Prop:=∀x∈t,Rn x.top
theorem Rw_.wr {w w' : List Int} {a v:Int} (R:Rw_ w) (j:Rn v) (h:Sm.wr w a v = some w'):Rw_ w':=by
 unfold Sm.wr at h;split at h
 .cases h;exact λx y=>(FS y).elim (R x) λe=>e▸j
 .cases h
theorem Rw_.wrs:∀(l:List Int) {w j : List Int} {a:Int},Rw_ w->(∀x∈l,Rn x)->Sm.wrs w a l = some j->Rw_ j
 | [],w,j,a,R,_,h=>by cases h;exact R
 | v :: l,w,j,a,R,hl,h=>by
  unfold Sm.wrs at h;obtain⟨D,y,h⟩:=cE.1 h;exact Rw_.wrs l (R.wr (hl v V) y) (λx A=>hl x (by simp[A])) h
theorem PX {l:List AQ} {a:Int} {x:AQ} (h:B7 l a = some x):x∈l/\x.at_ = a:=by
 unfold B7 at h;exact⟨fR h,by simpa using List.find?_some h⟩
theorem Rw_.stay (s:Ah) (H:Rtt s.AA):∀(l:List AQ) {w G : List Int} {t D : List Rg},Rth l->Rw_ w->Rtt t->Sm.stay s l w t = some (G,D)->Rw_ G/\Rtt D
 | [],w,G,t,D,_,R,T,h=>by cases h;exact⟨R,T⟩
 | x :: l,w,G,t,D,hl,R,T,h=>by
  unfold Sm.stay at h;dsimp only at h;have A:Rth l:=λy j=>hl y (by simp[j])
  obtain⟨W,q2⟩:=hl x V;split at h
  .obtain⟨w1,K,h⟩:=cE.1 h;obtain⟨w2,N,h⟩:=cE.1 h;obtain⟨w3,O,h⟩:=cE.1 h;obtain⟨row,Q,h⟩:=cE.1 h;obtain⟨_,_,h⟩:=cE.1 h;refine Rw_.stay s H l A (Rw_.wrs _ ((R.wr W K).wr Rn.shape N) q2 O) (λy j=>?_) h;rcases FS j with j | j
   .exact T y j
   .rw[j];exact H row (Cu Q)
  .exact Rw_.stay s H l A R T h
theorem Xg {a b c:Int} (h:Cg a b = some c):Rn c:=by
 unfold Cg at h;split at h
 .cases h;rename_i q;exact q
 .cases h
theorem Rw_.slide (AI:List Int) {l:List AQ} (hl:Rth l):∀(AJ:List Int) {t H : List Rg} {r:Int} {G j : List Int},Rtt t->(∀d∈G,Rn d)->Sm.slide AI l AJ t r G = some (H,j)->∀d∈j,Rn d
 | [],t,H,r,G,j,T,ht,h=>by cases h;exact ht
 | a :: AJ,t,H,r,G,j,T,ht,h=>by
  unfold Sm.slide at h;obtain⟨x,O,h⟩:=cE.1 h;obtain⟨K,he⟩:=PX O;dsimp only at h;split at h
  .refine Rw_.slide AI hl AJ T (λd hd=>?_) h;rcases cm.1 hd with hd | hd
   .exact ht d hd
   .rw[cZ.1 hd,<- he];exact (hl x K).1
  obtain⟨R,N,h⟩:=cE.1 h;obtain⟨row,A,h⟩:=cE.1 h;obtain⟨top,D,h⟩:=cE.1 h;refine Rw_.slide AI hl AJ (λy Q=>(FS Q).elim (T y) λe=>e▸Xg D) (λd hd=>?_) h;rcases cm.1 hd with hd | hd
  .exact ht d hd
  .rw[cZ.1 hd];exact T row (Cu A)
theorem Rw_.refs {l:List AQ} {AJ to:List Int} (y:∀d∈to,Rn d):∀(r:List Int) {w x : List Int} {a:Int},Rw_ w->Er l AJ to w a r = some x->Rw_ x
 | [],w,x,a,R,h=>by cases h;exact R
 | v :: r,w,x,a,R,h=>by
  unfold Er at h;obtain⟨n,A,h⟩:=cE.1 h;dsimp only at h;obtain⟨D,j,h⟩:=cE.1 h;refine Rw_.refs y r ?_ h;split at j
  .obtain⟨d,hd,j⟩:=cE.1 j;exact R.wr (y d (Cu hd)) j
  .cases j;exact R
theorem Rw_.move {l:List AQ} (hl:Rth l) {AJ to:List Int} (D:∀d∈to,Rn d):∀(A ld:List Int) {w j : List Int},Rw_ w->(∀d∈ld,Rn d)->Ee l AJ to A ld w = some j->Rw_ j
 | [],ld,w,j,R,_,h=>by unfold Ee at h;cases h;exact R
 | a :: A,[],w,j,R,_,h=>by unfold Ee at h;cases h;exact R
 | a :: A,d :: ld,w,j,R,hd,h=>by
  unfold Ee at h;obtain⟨x,Q,h⟩:=cE.1 h;obtain⟨W,H,h⟩:=cE.1 h;obtain⟨w2,K,h⟩:=cE.1 h;obtain⟨w3,N,h⟩:=cE.1 h;obtain⟨w4,O,h⟩:=cE.1 h;have G:=(R.wr (hd d V) H).wr Rn.shape K;exact Rw_.move hl D A ld (Rw_.wrs _ (Rw_.refs D _ G N) (hl x (PX Q).1).2 O) (λy T=>hd y (by simp[T])) h
theorem Rw_.AD {l:List AQ} {AJ to:List Int} (A:∀d∈to,Rn d):∀(r:List Int) {j : List Int},DC l AJ to r = some j->∀a∈j,Rn a
 | [],j,h=>by cases h;simp
 | a :: r,j,h=>by
  unfold DC at h;obtain⟨n,H,h⟩:=cE.1 h;dsimp only at h;obtain⟨b,hb,h⟩:=cE.1 h;obtain⟨K,D,h⟩:=cE.1 h;cases h;have G:=Rw_.AD A r D;intro x y;rcases cU.1 y with rfl | y
  .split at hb
   .cases hb;exact Rn.zero
   .exact A _ (Cu hb)
  .exact G x y
theorem Rw_.ths {l:List AQ} {AJ to:List Int} (D:∀d∈to,Rn d):∀(r:List Th) {j : List Th},DW l AJ to r = some j->∀t∈j,∀a∈t.AD,Rn a
 | [],j,h=>by cases h;simp
 | t :: r,j,h=>by
  unfold DW at h;obtain⟨N,y,h⟩:=cE.1 h;obtain⟨K,G,h⟩:=cE.1 h;cases h;have H:=Rw_.ths D r G;intro x A;rcases cU.1 A with rfl | A
  .exact Rw_.AD D _ y
  .exact H x A
theorem Rtt.new (n:Int):Rtt (AV n):=by
 unfold AV;split
 .intro x j;cases j
 .intro x j;rcases cU.1 j with rfl | j
  .exact Rn.zero
  .obtain⟨k,y,rfl⟩:=cq.1 j;show Rn (AK _);unfold AK;split
   .exact Rn.zero
   .unfold Rn;omega
theorem full_rn {s A : Ah} (T:Rw_ s.AC) (R:Rtt s.AA) (h:GK s = some A):Rw_ A.AC/\∀t∈A.AB,∀a∈t.AD,Rn a:=by
 unfold GK at h;dsimp only at h;obtain⟨lv,W,h⟩:=cE.1 h;obtain⟨⟨w1,t1⟩,H,h⟩:=cE.1 h;obtain⟨⟨t2,to⟩,K,h⟩:=cE.1 h;obtain⟨w2,N,h⟩:=cE.1 h;obtain⟨th,O,h⟩:=cE.1 h;obtain⟨fu,h6,h⟩:=cE.1 h;cases h;have hl:Rth ((BI s).getD []):=by
  cases Q:BI s with
  | none=>intro x y;cases y
  | some l=>exact Rth.all T _ _ Q
 obtain⟨D,G⟩:=Rw_.stay s R _ hl (λx y=>by rw[(dQ.1 y).2];exact Rn.zero) (Rtt.new _) H;have j:=Rw_.slide s.AI hl _ G (λd hd=>by cases hd) K;exact⟨Rw_.move hl j _ _ D j N,Rw_.ths j _ O⟩
section
variable {S S' : Sim} {i a v:Int}
theorem RS.pause {n:Nat} (R:RS S) (T:Rtt S.AA) (h:S.pause n = some S'):RS S':=by
 unfold Sim.pause at h;split at h
 .cases h
 split at h
 .obtain⟨s,D,h⟩:=cE.1 h;cases h;obtain⟨y,A⟩:=full_rn (s:=S.view) R.w T D;refine⟨y,λt G=>?_,RC.zero _ _,R.o⟩;obtain⟨H,x,rfl⟩:=cq.1 G;exact RT.thr0 (A H x)
 dsimp only at h;have j:RS { S with stop:=false }:=⟨R.w,R.t,R.c,R.o⟩;split at h
 .cases h;exact⟨R.w,R.t,⟨Rn.zero,Rn.zero⟩,R.o⟩
 split at h
 .exact j.choose h
 split at h
 .exact j.update h
 .exact j.finish h
theorem RS.pick (R:RS S) (T:Rtt S.AA) {p:Int} (h:S.pick p = some S'):RS S':=by
 unfold Sim.pick at h;split at h
 .exact R.thread h
 split at h
 .unfold Sim.collector at h;split at h
  .split at h
   .exact R.pause T h
   .cases h;exact R
  split at h
  .split at h
   .cases h;exact⟨R.w,R.t,⟨R.c.w,R.c.d⟩,R.o⟩
   .cases h;exact R
  .exact RS.cloop _ (by exact⟨R.w,R.t,R.c,R.o⟩) h
 split at h
 .cases h;exact⟨R.w,R.t,⟨R.c.w,R.c.d⟩,R.o⟩
 .cases h;exact R
theorem YZ {t:List Rg} (T:TOk t):Rtt t:=by
 intro x A;obtain⟨k,y,rfl⟩:=d5 A;have n1:=T.n1;have e:rv t k = t[k]:=GP y;by_cases h0:k = 0
 .subst h0;have j:=T.e;rw[show (0:Int) = ((0:Nat):Int) from rfl,e] at j;rw[j];exact Rn.zero
 .have r:=T.row k Z Z;rw[e] at r;have t0:=r.t0;have t1:=r.t1;unfold Rn;omega
theorem Pv {P:List (List Op)}:∀(y:List Int) (c:Nat) (S S' : Sim) (g:Gh),c + 5 * y.length < 900000->IG P S g->Bd c S->RS S->Sim.picks y S = some S'->RS S'
 | [],c,S,S',g,_,_,_,R,h=>by cases h;exact R
 | p :: r,c,S,S',g,hc,I,B,R,h=>by
  simp only[cS] at hc;obtain⟨H,G,j,D,A⟩:=Oo (p:=p) Z I B;unfold Sim.picks at h;obtain⟨K,x,h⟩:=cE.1 h;rw[j] at x;cases x;exact Pv r (c + 5) _ S' G Z D A (R.pick (YZ I.sh.g.ok) j) h
theorem WD {c:Cfg} {AZ:List (List Op)} (D:∀p∈AZ,∀o∈p,Rn o.v):RS (start c AZ):=by
 refine⟨?_,λt G=>?_,RC.zero _ _,D⟩
 .show ∀x∈(CT (List.replicate (c.AH.toNat * 16) 0) 16 Bq).1,Rn x;unfold CT;split
  .intro x j;unfold put at j;have y : AY Bq = 66:=δ
   rw[y] at j;simp only[cm,cU,cZ,List.not_mem_nil,or_false] at j;rcases j with (j | (rfl | rfl) | j) | j
   .rw[(dQ.1 (dJ j)).2];exact Rn.zero
   .unfold Rn;omega
   .unfold Rn;omega
   .rw[(dQ.1 j).2];exact Rn.zero
   .rw[(dQ.1 (eG j)).2];exact Rn.zero
  .intro x j;cases j
 .rw[(dQ.1 G).2];exact RT.thr0 (λa A=>by rw[cZ.1 A];unfold Rn;omega)
end
end Sm
end
