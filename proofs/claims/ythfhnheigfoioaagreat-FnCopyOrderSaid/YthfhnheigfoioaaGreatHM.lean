/- A part of the proof of the given row. Conditions: none. -/
import Derived.Test.YthfhnheigfoioaaGreatHL
set_option linter.unusedVariables false
set_option linter.unusedSimpArgs false
set_option maxRecDepth 100000
section
namespace Sm
open Go.Lf
theorem Rr (u:List Rg) (q:Nat) (h:q < u.length):rv u (q:Int) = u[q]:=by
 show gv Db u q = _;unfold gv;rw[cG,cH,cF h];rfl
theorem ZX {l:List AQ} {AJ to:List Int} {x z:Int} (h:now l x = some z):plc l AJ to x = if BP AJ z < 0 then 0 else to.getD (BP AJ z).toNat 0:=by
 unfold plc BP;rw[h];dsimp only;by_cases c:z∈AJ
 .rw[if_pos c,if_pos c,if_neg Z,cG]
 .rw[if_neg c,if_neg c,if_pos Z]
end Sm
namespace Go.Lf
open Go Sm
theorem aE {s s1 A:Sm.Ah} {l:List AQ} {AJ j to tops y x:List Int} (D:DX s s1 l AJ to tops) (G:DX s A l j y x) (a b c d e f:Value):eSt s1 a b c d e f = eSt A a b c d e f:=by
 unfold eSt;rw[D.eq,G.eq]
section st
variable {R:RM} {s:Sm.Ah} {wv tv mv thv ov pv:Value}
set_option maxHeartbeats 8000000 in
set_option maxRecDepth 8000 in
theorem W9 (h:SF R s wv tv mv thv ov pv):Fn P L7 [.agg (eSt s wv tv mv thv ov pv).toArray] R [] (λv R' A=>A = []/\QFd (cdO s) v R'):=by
 refine SM λF=>?_
 refine z_1 ?_;have fu:=h.b.fu;have t0:=h.b.t0;have t1:=h.b.t1;have wl:=h.b.wl;have n0:=h.b.n0;have n1:=h.b.n1;have rl:=h.b.rl;have pl:=h.b.pl;have t8:=h.b.pv;refine ja λsb=>BB (b:=sb) λR0 f5 a7=>ja λgb=>?_
 have h:=h.le f5;have a7:R0 sb = some (C 50 (eSt s wv tv mv thv ov pv)):=a7;refine jor [Pt sb,Pt gb] (EA s).isNone (λK' a6=>?_) (λe c u ho he=>?_)
 .refine Do a7 (z_n 13) rfl (jrp (Ty h) ?_);cases hh:CU s with
  | none=>
   refine jtf (a6 _ _ _ DL ?_);unfold EA;rw[hh];split<;>rfl
  | some q=>
   refine jff (Do a7 (z_n 13) rfl (jrp (WX h) (a6 _ _ _ CH ?_)));unfold EA;rw[hh,Bool.not_not];cases s.AB.any (·.busy)<;>rfl
 refine z_V ?_;obtain⟨pa,pc,s6⟩:=h.c.p.sl;refine jor [Pt sb,Pt gb] (((EA s).isNone) || (decide ((s.AI.length:Int) > 0))) (λK' a6=>?_) (λe c u ho he=>?_)
 .rw[ho];refine jgO a6 λh1 hN=>jfo (jlr a7 rfl (Bo ⟨pa,pc,s6⟩ (jgr hN)))
 refine z_V ?_;obtain⟨c8,a1⟩:∃c8,c8 = ((EA s).isNone || decide ((s.AI.length:Int) > 0)):=⟨_,rfl⟩;rw[<- a1] at ho;refine jor [Pt sb,Pt gb] c8 (λK' a6=>?_) (λe c u s5 he=>?_)
 .rw[ho];refine F0 (λg=>?_) (λg=>?_)
  .rw[g];exact jfo (jlr a7 rfl (jlt (a6 _ _ _ CH (by rw[g];exact decide_eq_false Z))))
  .rw[g];exact a6 _ _ _ DL g.symm
 refine z_V ?_;refine jor [Pt sb,Pt gb] c8 (λK' a6=>?_) (λe c u j4 he=>?_)
 .rw[s5];refine F0 (λg=>?_) (λg=>?_)
  .rw[g];exact jfo (jlr a7 rfl (jgr (a6 _ _ _ CH (by rw[g];exact decide_eq_false Z))))
  .rw[g];exact a6 _ _ _ DL g.symm
 refine z_V ?_;rw[j4];have f4:∀{R'},cdO s = none->QFd (cdO s) (.tuple #[z50,.bool false]) R':=λe=>by rw[e];rfl
 cases hb:c8 with
 | true=>
  refine DM (jbd rfl rfl (js rfl rfl (cN rfl) rfl (jla (cN rfl) rfl (Ao f5 ⟨rfl,?_⟩))));refine f4 ?_;rw[hb] at a1;unfold cdO;cases hc:EA s with
  | none=>rfl
  | some q=>
   rw[hc] at a1;have:0 < s.AI.length:=by have:=z_f (show decide ((s.AI.length:Int) > 0) = true from a1.symm);omega
   obtain⟨l,D⟩:=q;show (if 0 < s.AI.length then none else _) = none;rw[if_pos this]
 | false=>
 rw[hb] at a1;cases hc:EA s with
 | none=>rw[hc] at a1;cases a1
 | some q=>
 obtain⟨l,D⟩:=q;rw[hc] at a1;have hp:s.AI = []:=dA.1 (by have:=z_g (show decide ((s.AI.length:Int) > 0) = false from a1.symm);omega);have m4:cdO s = match Ca [] l D (Bm s) 1 with | none=>none | some _=>Hv D s:=by
  unfold cdO;rw[hc];show (if 0 < s.AI.length then none else _) = _;rw[if_neg (by rw[hp];decide)];rfl
 have hh:CU s = some (l,D):=by
  unfold EA at hc;split at hc
  .cases hc
  .exact hc
 have hf:=EJ hh;have t3:=Yh hf;obtain⟨w9,p4⟩:=Ky h hf.ths;have x0:D.length<=193:=by have:=HS hf.re;omega
 refine CW (Do a7 (z_n 13) rfl (jc (A:=[]) (I5 h.c Z Z) ?_));rintro _ R1 _ h9 ⟨rfl,hq⟩;rw[t3] at hq;obtain⟨lv,m5,rfl⟩:=hq;have h1:=h.le h9;refine jex rfl (jex rfl (Do (h9 _ _ a7) (z_n 13) rfl ?_));refine jc (A:=[]) (KZ h1.c m5 Z hf.re Z (λt ht=>by have:=rl t ht;omega) Z (λt ht=>by have:=(p4 t ht).2.2.1;omega)) ?_;rintro v8 R2 A8 i4 u7;refine Dw u7 λR5 i5 i7=>?_
 have d1:=h9.trans (i4.trans i5);have h5:=h1.le (i4.trans i5);have e8:=m5.le (i4.trans i5);have f3:=d1 _ _ a7;refine jfo (jlr f3 rfl (Bo h5.c.t.sl ?_));refine jmk (IZ (s.AA.length:Int)) ?_;intro y6 N f0;unfold VX at f0;have l3:(AV (s.AA.length:Int)).length = s.AA.length:=by
  unfold AV;rw[if_neg Z];simp;omega
 rw[if_neg (by intro hn;rw[hn] at l3;simp at l3;omega)] at f0;obtain⟨sv,⟨bt,ct,tsp,r5,rfl,rfl⟩,rfl⟩:=f0;rw[l3] at r5 ⊢;refine jex rfl (jex rfl (jfo (jlr f3 rfl (Bo h5.c.w.sl (jms Z Z Z λbw=>?_)))));rw[cG];have t5:(List.replicate s.AC.length (cl z3)).flatten = (List.replicate s.AC.length (0:Int)).map I ++ []:=by
  rw[show cl z3 = [I 0] from rfl];simp[ec]
 rw[t5];obtain⟨T,hT⟩:∃T,T = S0 bt s.AA.length ct:=⟨_,rfl⟩;obtain⟨W,hW⟩:∃W,W = Value.slice (some ⟨bw,0,none⟩) s.AC.length s.AC.length:=⟨_,rfl⟩;obtain⟨y7,hZ⟩:∃y7:List Int,y7 = List.replicate s.AC.length 0:=⟨_,rfl⟩;have p9:y7.length = s.AC.length:=by rw[hZ,cW]
 rw[<- hT,<- hW,<- hZ];obtain⟨E,hE⟩:∃E:Chs,E = (gb,C 50 (cl z50)) :: ([] ++ F):=⟨_,rfl⟩;refine Az (D':=[] ++ ((bw,C Aa (y7.map I ++ [])) :: (bt,C AO (Ad eRg (AV (s.AA.length:Int)) ++ tsp)) :: E)) (by rw[hE];exact dK _) ?_;refine jci (λq:List Rg × List Int × List Int × Value × Chs=>[Pt sb,Pt gb,lv,v8,T,W,q.2.2.2.1])
  (λq=>q.2.2.2.2 ++ ((bw,C Aa (y7.map I ++ [])) :: (bt,C AO (Ad eRg q.1 ++ tsp)) :: E))
  (λR' q=>R' = R5/\(∃r,So s l D D.length r q.1 q.2.1 q.2.2.1)/\SO q.2.2.1 q.2.2.2.1 q.2.2.2.2) (λK1 k1=>?_) ?_
 .refine jiI k1 λK2 k2=>?_
  refine jli (λi:Nat × Nat × List Rg × List Int × List Int × Value × Chs=>D.length - i.1) (λi=>[Pt sb,Pt gb,lv,v8,T,W,i.2.2.2.2.2.1,I i.2.1,I i.1])
   (λi=>i.2.2.2.2.2.2 ++ ((bw,C Aa (y7.map I ++ [])) :: (bt,C AO (Ad eRg i.2.2.1 ++ tsp)) :: E))
   (λR' i=>R' = R5/\So s l D i.1 i.2.1 i.2.2.1 i.2.2.2.1 i.2.2.2.2.1/\SO i.2.2.2.2.1 i.2.2.2.2.2.1 i.2.2.2.2.2.2)
   (0,1,AV s.AA.length,Bm s,[],SN,[]) ⟨rfl,U6 hp t0 t1,.inl ⟨rfl,rfl,rfl⟩⟩ rfl rfl ?_
  rintro K e R' ⟨i,r,tt,h6,v0,v,A⟩ ⟨hR,L,so⟩ he hK;subst hR;dsimp only at L so he hK ⊢;refine z_V ?_;refine Bo i7.sl (jlt (jif (λc=>?_) (λc=>?_)));rotate_left
  .have e2:i = D.length:=by have:=z_g c;have:=L.il;omega
   subst e2;exact k2 R' (tt,h6,v0,v,A) ⟨rfl,⟨r,L⟩,so⟩
  have c:i < D.length:=by have:=z_f c;omega
  obtain⟨x,hx⟩:=hf.M.th _ (cK c);have hu:=O6 hf (cK c);have x4:Bt l D[i] = AG x.sh:=by unfold Bt;rw[hx]
  obtain⟨k,hk,j2,rfl⟩:=Eb hx;refine Bl i7 Z Z ?_;rw[getElem_congr_idx (cG i)];refine jro (Di _ e8 Z) ?_;rw[j2];refine Yw e8 hk (jp (CN (l[k]).sh) ?_);obtain⟨u8,u9⟩:=GG (l[k]).sh;obtain⟨r',c0⟩:∃r',r' = if (rv tt r).top + AG (l[k]).sh > 16 * r + 16 then r + 1 else r:=⟨_,rfl⟩
  obtain⟨Ln,Ls⟩:=XE L t1 c hx Z Z c0;have s9:=L.rl;have y2:=L.tl;have x3:=L.r1;have j1:r < tt.length:=Z
  have f2:=(L.rw_ r Z Z).2;have w3:AK r = 16 * r:=Bj Z Z;rw[Rr tt r j1] at c0 f2;refine Bz [Pt sb,Pt gb,lv,v8,T,W,v,I r',I i,I (AG (l[k]).sh)] (λK3 k3=>?_) (λe he=>?_)
  .subst hT;refine C0 s9 (jfo (jl (v:=I (tt[r]).top) (by rw[cg];exact C6 (f:=2) j1 rfl) (jad (jp (BW r) (jad (jgr (Ak (jl (v:=I (tt[r]).top) (by rw[cg];exact C6 (f:=2) j1 rfl) jev) (jif (λg=>?_) (λg=>?_)))))))))
   .have g:=z_f g;rw[if_pos Z] at c0;subst c0;exact jad k3
   .have g:=z_g g;rw[if_neg Z] at c0;subst c0;exact k3
  refine z_V ?_;subst hT;refine jln (jeq (jif (λg=>?_) (λg=>?_)))
  .have g:r' = s.AA.length:=by have:=eq_of_beq g;omega
   subst hE;refine jbd (cs:=cl z50) rfl rfl (jS (cl z50) (jla (l:=cl z50) (cN rfl) rfl ?_));exact Ao (A:=[]) (f5.trans d1) ⟨rfl,f4 (by rw[m4,Ln g])⟩
  have g:r' < s.AA.length:=by
   have:=ne_of_beq_false g;rw[c0] at this ⊢;split<;>rename_i h2
   .rw[if_pos h2] at this;omega
   .omega
  have L':=Ls g;have f8:r' < tt.length:=Z
  have v4:=L'.r1;rw[Rr tt r' f8] at L';obtain⟨row,ey⟩:∃row,tt[r'] = row:=⟨_,rfl⟩;have n9:=(L.rw_ r' Z Z).2;rw[Rr tt r' f8,ey] at n9;rw[ey] at L';obtain⟨size,l2⟩:∃size,size = AG (l[k]).sh:=⟨_,rfl⟩;rw[<- l2] at L' u8 u9 ⊢;refine C0 g (LB f8 ?_);rw[ey];refine ja λb5=>?_
  refine js (cs':=eRg row) rfl rfl V rfl ?_;refine jfo (jl (v:=I row.top) rfl ?_);refine jbs (cs:=[I row.top]) rfl rfl λb4=>?_
  refine Gr (A:=A) so (by have:=L.ol;omega) λv' A' c4=>?_
  refine jfo (js (cs':=eRg { row with kind:=3 }) rfl rfl V rfl ?_);refine jfo (jl (v:=I row.top) rfl (jad ?_));refine jfo (js (cs':=eRg { row with kind:=3,top:=row.top + size }) rfl rfl V rfl ?_);refine jfo (jl (v:=I (row.top + size)) rfl ?_);refine jfo (js (cs':=eRg { row with kind:=3,top:=row.top + size,BA:=row.top + size }) rfl rfl V rfl ?_);refine jla (l:=eRg { row with kind:=3,top:=row.top + size,BA:=row.top + size }) V rfl ?_;refine C0 g (Ge (t:=tt) (x:={ row with kind:=3,top:=row.top + size,BA:=row.top + size }) f8 ?_);refine Al A' (G:=(bw,C Aa (y7.map I ++ [])) :: (bt,C AO (Ad eRg (tt.set r' { row with kind:=3,top:=row.top + size,BA:=row.top + size }) ++ tsp)) :: E) ?_;exact jad (hK R' (i + 1,r',_,_,_,v',A') (by dsimp only;omega) ⟨rfl,L',c4⟩)
 rintro e R' ⟨t2,h6,O,v,A⟩ ⟨hR,⟨r,L⟩,so⟩ he;subst hR;dsimp only at L so he ⊢;refine z_V ?_;have g0:=Y0 L;obtain⟨Q,r6,F1,e9⟩:=P3 hf hp g0 Z;obtain rfl:=XY hp L F1;have o2:=F1.hlen;have t6:=GJ F1;have s4:Q.AM = List.replicate s.AC.length false:=by rw[F1.eq]
 rw[<- hZ] at e9;subst hW hT;refine Dw so λR8 d2 a4=>?_
 have h8:=h5.le d2;have c7:=e8.le d2;have c6:=i7.le d2;have g9:=d2 _ _ f3;refine jci (λ_:Unit=>[Pt sb,Pt gb,lv,v8,S0 bt s.AA.length ct,S0 bw s.AC.length s.AC.length,v]) (λ_=>(bw,C Aa (Q.AC.map I ++ [])) :: (bt,C AO (Ad eRg Q.AA ++ tsp)) :: E) (λR' _=>R' = R8) (λK1 k1=>?_) ?_
 .refine jiI k1 λK2 k2=>?_
  refine jli (λi:Nat × List Int=>D.length - i.1) (λi=>[Pt sb,Pt gb,lv,v8,S0 bt s.AA.length ct,S0 bw s.AC.length s.AC.length,v,I i.1]) (λi=>(bw,C Aa (i.2.map I ++ [])) :: (bt,C AO (Ad eRg Q.AA ++ tsp)) :: E) (λR' i=>R' = R8/\i.1<=D.length/\i.2.length = s.AC.length/\Ee l D O (D.drop i.1) (O.drop i.1) i.2 = some Q.AC) (0,y7) ⟨rfl,V,p9,by rw[di,di];exact e9⟩ rfl rfl ?_;rintro K e R' ⟨i,w⟩ ⟨hR,hi,t7,a0⟩ he hK;subst hR;dsimp only at hi t7 a0 he hK ⊢;refine z_V ?_;refine Bo c6.sl (jlt (jif (λhc=>?_) (λhc=>?_)));rotate_left
  .have hc:=z_g hc;rw[cT Z] at a0;have:w = Q.AC:=by unfold Ee at a0;simpa using a0
   rw[this];exact k2 R' () rfl
  have hc:i < D.length:=by have:=z_f hc;omega
  rw[cQ hc,cQ (show i < O.length by omega)] at a0;unfold Ee at a0;obtain⟨x,hx,a0⟩:=AF a0;obtain⟨k,hk,j2,rfl⟩:=Eb hx;obtain⟨wa,o4,a0⟩:=AF a0;obtain⟨wb,o7,a0⟩:=AF a0;obtain⟨wc,o8,a0⟩:=AF a0;obtain⟨wd,h4,a0⟩:=AF a0;refine jci (λ_:Unit=>[Pt sb,Pt gb,lv,v8,S0 bt s.AA.length ct,S0 bw s.AC.length s.AC.length,v,I i]) (λ_=>(bw,C Aa (wd.map I ++ [])) :: (bt,C AO (Ad eRg Q.AA ++ tsp)) :: E) (λR3 _=>R3 = R'/\wd.length = s.AC.length) (λK3 k3=>?_) ?_;rotate_left
  .rintro e R3 _ ⟨hR,g0⟩ he;subst hR;refine z_V ?_;exact jad (hK _ (i + 1,wd) (by dsimp only;omega) ⟨rfl,hc,g0,a0⟩)
  refine jiI k3 λK4 k4=>?_
  obtain⟨y,hy⟩:∃y,O[i]'(Z) = y:=⟨_,rfl⟩;rw[hy] at o4 o7 o8 h4;obtain⟨q1,q2,q3⟩:=EP o4;obtain⟨q4,q5,q6⟩:=EP o7;obtain⟨-,-,tr,tn⟩:=p4 _ (cK hk);have w7:wa.length = w.length:=by rw[q3,dG]
  have w8:wb.length = wa.length:=by rw[q6,dG]
  have ty:O[((i:Nat):Int).toNat]'(Z) = y:=by rw[<- hy];exact getElem_congr_idx (cG i)
  refine Bl c6 Z Z ?_;rw[getElem_congr_idx (cG i)];refine jro (Di _ c7 Z) ?_;rw[j2];refine jtg c7 hk λb3 o3 y3 w0 rv nv n5 m8 q0 j4 j5=>?_
  obtain⟨ra,rc,rfl⟩:=n5.sl;obtain⟨na,nc,rfl⟩:=m8.sl;refine Do q0 j4 j5 (ja λa9=>?_);refine jS (eTh l[k] (.slice ra l[k].refs.length rc) (.slice na l[k].nums.length nc)) ?_;refine Bl a4 Z Z (Bl a4 Z Z ?_);rw[ty];refine jia q1 Z (jsi (l:=w) (sp:=[]) Z ?_);rw[<- q3];refine Wy a4 Z Z λq hq=>hq _ _ ?_
  rw[ty] at hq ⊢;refine jad (jfo (jla (t:=BK) (cs:=eTh l[k] (.slice ra l[k].refs.length rc) (.slice na l[k].nums.length nc)) (l:=[I l[k].sh.refs,I l[k].sh.nums]) (by exact (by decide:4<=6)) rfl (jp (EL l[k].sh) ?_)));refine jia q4 Z (Ak (hq _ _ jev) (jsi (l:=wa) (sp:=[]) Z ?_));rw[<- q6];refine jci (λ_:Unit=>[Pt sb,Pt gb,lv,v8,S0 bt s.AA.length ct,S0 bw s.AC.length s.AC.length,v,I i,Pt a9]) (λ_=>(a9,C BK (eTh l[k] (.slice ra l[k].refs.length rc) (.slice na l[k].nums.length nc))) :: (bw,C Aa (wc.map I ++ [])) :: (bt,C AO (Ad eRg Q.AA ++ tsp)) :: E) (λR3 _=>R3 = R'/\wc.length = s.AC.length) (λK6 k6=>?_) ?_
  .refine jiI k6 λK7 k7=>?_
   refine jli (λj:Nat × List Int=>l[k].refs.length - j.1) (λj=>[Pt sb,Pt gb,lv,v8,S0 bt s.AA.length ct,S0 bw s.AC.length s.AC.length,v,I i,Pt a9,I j.1]) (λj=>(a9,C BK (eTh l[k] (.slice ra l[k].refs.length rc) (.slice na l[k].nums.length nc))) :: (bw,C Aa (j.2.map I ++ [])) :: (bt,C AO (Ad eRg Q.AA ++ tsp)) :: E) (λR3 j=>R3 = R'/\j.1<=l[k].refs.length/\j.2.length = s.AC.length/\Er l D O j.2 (y + 2 + j.1) (l[k].refs.drop j.1) = some wc) (0,wb) ⟨rfl,V,by dsimp only;omega,by simpa using o8⟩ rfl rfl ?_;rintro K8 e R3 ⟨j,w5⟩ ⟨hR,hj,b0,H⟩ he c9;subst hR;dsimp only at hj b0 H he c9 ⊢;refine z_V ?_;refine jfo (jl (v:=.slice ra l[k].refs.length rc) rfl (jln (jlt (jif (λhd=>?_) (λhd=>?_)))));rotate_left
   .have hd:=z_g hd;rw[cT Z] at H;have:w5 = wc:=by unfold Er at H;simpa using H
    rw[this];exact k7 _ () ⟨rfl,by rw[<- this];exact b0⟩
   have hd:j < l[k].refs.length:=by have:=z_f hd;omega
   rw[cQ hd] at H;unfold Er at H;obtain⟨z,hz,H⟩:=AF H;obtain⟨w6,b1,H⟩:=AF H;refine jci (λ_:Unit=>[Pt sb,Pt gb,lv,v8,S0 bt s.AA.length ct,S0 bw s.AC.length s.AC.length,v,I i,Pt a9,I j]) (λ_=>(a9,C BK (eTh l[k] (.slice ra l[k].refs.length rc) (.slice na l[k].nums.length nc))) :: (bw,C Aa (w6.map I ++ [])) :: (bt,C AO (Ad eRg Q.AA ++ tsp)) :: E) (λR4 _=>R4 = R3/\w6.length = s.AC.length) (λK9 k9=>?_) ?_;rotate_left
   .rintro e R4 _ ⟨hR,s2⟩ he;subst hR;refine z_V ?_;exact jad (c9 _ (j + 1,w6) (by dsimp only;omega) ⟨rfl,hd,s2,by rw[<- H];congr 1;omega⟩)
   refine jiI k9 λK10 k10=>?_
   refine jfo (jl (v:=.slice ra l[k].refs.length rc) rfl (Bl n5 Z Z ?_));rw[getElem_congr_idx (cG j)];refine jro (Fh c7 Z hz) (jro (Gb z (B8.rd c6) Z) (jge (jif (λh0=>?_) (λh0=>?_))))
   .have h0:=z_f h0;rw[if_pos Z] at b1;obtain⟨u,hu,b1⟩:=AF b1;obtain⟨u0,u1,u2,u3⟩:=Av hu;obtain⟨p1,p2,p3⟩:=EP b1;refine Bl a4 Z Z ?_;rw[ty];refine jad (jad (Bl a4 u0 u1 ?_));rw[u3];refine jia p1 Z (jsi (l:=w5) (sp:=[]) Z ?_);rw[<- p3];exact k10 _ () ⟨rfl,by rw[p3,dG];exact b0⟩
   .have h0:=z_g h0;rw[if_neg Z] at b1;have:w5 = w6:=by simpa using b1
    subst this;exact k10 _ () ⟨rfl,b0⟩
  rintro e R3 _ ⟨hR,s3⟩ he;subst hR;refine z_V ?_;refine jiI k4 λK7 k7=>?_
  refine jli (λj:Nat × List Int=>l[k].nums.length - j.1) (λj=>[Pt sb,Pt gb,lv,v8,S0 bt s.AA.length ct,S0 bw s.AC.length s.AC.length,v,I i,Pt a9,I j.1]) (λj=>(a9,C BK (eTh l[k] (.slice ra l[k].refs.length rc) (.slice na l[k].nums.length nc))) :: (bw,C Aa (j.2.map I ++ [])) :: (bt,C AO (Ad eRg Q.AA ++ tsp)) :: E) (λR4 j=>R4 = R3/\j.1<=l[k].nums.length/\j.2.length = s.AC.length/\wrs j.2 (y + 2 + l[k].refs.length + j.1) (l[k].nums.drop j.1) = some wd) (0,wc) ⟨rfl,V,s3,by simpa using h4⟩ rfl rfl ?_;rintro K8 e R4 ⟨j,w5⟩ ⟨hR,hj,b0,H⟩ he c9;subst hR;dsimp only at hj b0 H he c9 ⊢;refine z_V ?_;refine jfo (jl (v:=.slice na l[k].nums.length nc) rfl (jln (jlt (jif (λhd=>?_) (λhd=>?_)))));rotate_left
  .have hd:=z_g hd;rw[cT Z] at H;have:w5 = wd:=by unfold wrs at H;simpa using H
   rw[this];exact Bf (k7 _ () ⟨rfl,by rw[<- this];exact b0⟩)
  have hd:j < l[k].nums.length:=by have:=z_f hd;omega
  rw[cQ hd] at H;unfold wrs at H;obtain⟨w6,b1,H⟩:=AF H;obtain⟨p1,p2,p3⟩:=EP b1;refine Bl a4 Z Z ?_;rw[ty];refine jad (jfo (jl (v:=.slice ra l[k].refs.length rc) rfl (jln (jad (jad ?_)))));refine jfo (jl (v:=.slice na l[k].nums.length nc) rfl (Bl m8 Z Z ?_));rw[getElem_congr_idx (cG j)];refine jia p1 Z (jsi (l:=w5) (sp:=[]) Z (jad ?_));rw[<- p3];exact c9 _ (j + 1,w6) (by dsimp only;omega) ⟨rfl,hd,by rw[p3,dG];exact b0,by rw[<- H];congr 1;omega⟩
 rintro e R' _ hR he;subst hR;refine z_V ?_;obtain⟨sF,v1,v2,FF0,FF⟩:=XZ hf Z;refine Do g9 (z_n 13) rfl ?_;refine jc (A:=[]) (Nl h8.c Z t0 t1 Z (λt ht=>by have:=rl t ht;omega) Z (λa ha=>by have:=t8 a ha;unfold AN;split<;>omega) FF0) ?_;rintro _ R9 _ p8 ⟨p5,v9,p6,l5,v7,l6,bm,v6,x9,rows,A',e1,e2,e3,e4,e5,f2,u6,n3,rfl,rfl⟩;have f1:rows.length = s.AB.length:=by rw[f2.1,ID FF.th]
 have s8:∀r∈rows,r.length = 4:=f2.all λ_ _=>Cd.len
 rcases u6 with ⟨e6,_,_⟩ | ⟨bh,ch,hsp,i6,v3,rfl,rfl⟩
 .rw[e6] at f1;simp at f1;omega
 obtain⟨qa,qc,rfl⟩:=n3.sl;rw[f1] at i6 ⊢;have g6:sF.AM = Q.AM:=by rw[s4,FF.eq]
 have n2:sF.AI = Q.AI:=by rw[F1.eq,FF.eq]
 have m7:Q.AB = s.AB.map (Cq l D O):=EM o2 F1.th;have g7:sF.AB = s.AB.map (Cq l (Ac D) v1):=EM FF.hlen FF.th;have g8:Q.AB.length = s.AB.length:=by rw[m7,cM]
 refine BB (b:=bm) λR10 g3 r2=>?_
 refine Al [(bh,C 117 (rows.flatten ++ hsp)),(bw,C Aa (Q.AC.map I ++ [])),(bt,C AO (Ad eRg Q.AA ++ tsp))] (G:=E) ?_;rw[aE FF F1,g6,n2];refine ja λb9=>?_
 refine jS (eSt Q (S0 p5 sF.AC.length p6) (S0 l5 sF.AA.length l6) (S0 bm Q.AM.length Q.AM.length) (S0 bh s.AB.length ch) (SN) (.slice qa Q.AI.length qc)) ?_;refine jfo (jS (eSt Q (S0 bw s.AC.length s.AC.length) (S0 l5 sF.AA.length l6) (S0 bm Q.AM.length Q.AM.length) (S0 bh s.AB.length ch) (SN) (.slice qa Q.AI.length qc)) ?_);refine jfo (jS (eSt Q (S0 bw s.AC.length s.AC.length) (S0 bt s.AA.length ct) (S0 bm Q.AM.length Q.AM.length) (S0 bh s.AB.length ch) (SN) (.slice qa Q.AI.length qc)) ?_);obtain⟨S9,d3⟩:∃S9,S9 = eSt Q (S0 bw s.AC.length s.AC.length) (S0 bt s.AA.length ct) (S0 bm Q.AM.length Q.AM.length) (S0 bh s.AB.length ch) (SN) (.slice qa Q.AI.length qc):=⟨_,rfl⟩;have d4:S9[0 + 8]? = some (S0 bh s.AB.length ch):=by rw[d3];rfl
 rw[<- d3];obtain⟨E9,l9⟩:∃E9:Chs,E9 = (bw,C Aa (Q.AC.map I ++ [])) :: (bt,C AO (Ad eRg Q.AA ++ tsp)) :: E:=⟨_,rfl⟩;refine Az (D':=(bh,C 117 (rows.flatten ++ hsp)) :: (b9,C 50 S9) :: E9) (by rw[l9];exact dh _ _ _) ?_;have a2:=p8.trans g3;have p7:=h8.le a2;have j3:=c7.le a2;have i8:=c6.le a2;have f6:=a4.le a2;have j9:=a2 _ _ g9;obtain⟨r4,-⟩:=hf.closed;refine jci (λ_:List (List Value)=>[Pt gb,Pt b9]) (λq=>(bh,C 117 (q.flatten ++ hsp)) :: (b9,C 50 S9) :: E9) (λR' q=>R10.le R'/\Rw (Cd R') q Q.AB) (λK1 k1=>?_) ?_
 .refine jiI k1 λK2 k2=>?_
  refine jli (λi:Nat × List (List Value)=>s.AB.length - i.1) (λi=>[Pt sb,Pt gb,lv,v8,v,Pt b9,I i.1]) (λi=>(bh,C 117 ((i.2 ++ rows.drop i.1).flatten ++ hsp)) :: (b9,C 50 S9) :: E9) (λR' i=>R10.le R'/\i.1<=s.AB.length/\Rw (Cd R') i.2 (Q.AB.take i.1)) (0,[]) ⟨RM.le.refl _,V,Rw.nil⟩ rfl rfl ?_;rintro K e Ra ⟨i,rh⟩ ⟨b8,hi,a5⟩ he hK;dsimp only at hi a5 he hK ⊢;refine z_V ?_;refine jfo (jl d4 (jln (jlt (jif (λc=>?_) (λc=>?_)))));rotate_left
  .have c:=z_g c;rw[cO Z] at a5;rw[cT Z,dD];exact k2 Ra rh ⟨b8,a5⟩
  have c:i < s.AB.length:=by have:=z_f c;omega
  have v5:rh.length = i:=by rw[a5.1,cV];omega
  have n4:∀r∈rh,r.length = 4:=a5.all λ_ _=>Cd.len
  have Bq:∀r∈rh ++ rows.drop i,r.length = 4:=λr hr=>by
   rcases cm.1 hr with g1 | g1
   .exact n4 r g1
   .exact s8 r (eG g1)
  have i9:i < (rh ++ rows.drop i).length:=by rw[cJ,dN];omega
  have x6:=rl _ (cK c);obtain⟨l4,g2,n6⟩:=f2.2 i Z (by rw[g7,cM];exact c);simp only[g7,eF] at g2;have r7:(rh ++ rows.drop i)[i]'i9 = [l4,I (s.AB[i]).next,.bool false,I (Cq l D O s.AB[i]).Am]:=by
   rw[df Z,eH];rw[show rows[i + (i - rh.length)]'(Z) = rows[i]'(Z) from getElem_congr_idx Z,g2];rfl
  have Ef:∀y:List Value,(rh ++ rows.drop i).set i y = (rh ++ [y]) ++ rows.drop (i + 1):=λy=>by
   rw[dl _ _ Z,cQ (show i < rows.length by omega),show i - rh.length = 0 from Z,cR];rfl
  have w4:i * 4 + 4<=((rh ++ rows.drop i).flatten ++ hsp).length:=by
   rw[cJ,Br Bq,<- fd];exact fT (eQ 4 Z) (Nat.le_add_right _ _)
  obtain⟨xa,xn,xc,j8⟩:∃a n c,l4 = .slice a n c:=by obtain⟨a,c,h⟩:=n6.sl;exact⟨a,_,c,h⟩
  refine jfo (jl d4 (C0 c (jla (l:=[l4,I (s.AB[i]).next,.bool false,I (Cq l D O s.AB[i]).Am]) Z (by rw[cg,FX i i9 Bq];exact r7) ?_)));refine ja λb2=>?_
  rw[j8];refine jS ([.slice xa xn xc,I (s.AB[i]).next,.bool false,I (Cq l D O s.AB[i]).Am]) ?_;refine jfo (jS ([SN,I (s.AB[i]).next,.bool false,I (Cq l D O s.AB[i]).Am]) ?_);have ha:=p7.le b8;have m6:=j3.le b8;have r9:=i8.le b8;have j0:=f6.le b8;have h3:=b8 _ _ j9;obtain⟨D3,l8⟩:∃D3:Chs,D3 = (bh,C 117 ((rh ++ rows.drop i).flatten ++ hsp)) :: (b9,C 50 S9) :: E9:=⟨_,rfl⟩;rw[<- l8];refine Az (D':=[] ++ ((b2,C 117 [SN,I (s.AB[i]).next,.bool false,I (Cq l D O s.AB[i]).Am]) :: D3)) (dK _) ?_;refine jci (λ_:Value × Chs=>[Pt sb,Pt gb,lv,v8,v,Pt b9,I i,Pt b2]) (λq=>q.2 ++ ((b2,C 117 [q.1,I (s.AB[i]).next,.bool false,I (Cq l D O s.AB[i]).Am]) :: D3)) (λR' q=>R' = Ra/\SO (Cq l D O s.AB[i]).AD q.1 q.2) (λK3 k3=>?_) ?_
  .refine jiI k3 λK4 k4=>?_
   refine jli (λj:Nat × Value × Chs=>(s.AB[i]).AD.length - j.1) (λj=>[Pt sb,Pt gb,lv,v8,v,Pt b9,I i,Pt b2,I j.1]) (λj=>j.2.2 ++ ((b2,C 117 [j.2.1,I (s.AB[i]).next,.bool false,I (Cq l D O s.AB[i]).Am]) :: D3)) (λR' j=>R' = Ra/\j.1<=(s.AB[i]).AD.length/\SO (((s.AB[i]).AD.take j.1).map (plc l D O)) j.2.1 j.2.2) (0,SN,[]) ⟨rfl,V,.inl ⟨rfl,rfl,rfl⟩⟩ rfl rfl ?_;rintro K5 e Rb ⟨j,jv,jA⟩ ⟨hR,hj,a8⟩ he m0;subst hR;dsimp only at hj a8 he m0 ⊢;refine z_V ?_;obtain⟨ta,tc,x5⟩:=ha.c.th.sl;refine jfo (jlr h3 rfl (jtr ha.c.th c λb5 o5 y4 w1 y0 n7 q7 x1 j6=>(jfo (jlr q7 (Bc j6 rfl) (Bo n7.sl (jlt (jif (λhd=>?_) (λhd=>?_))))))));rotate_left
   .have hd:=z_g hd;rw[cO Z] at a8;exact k4 Rb (jv,jA) ⟨rfl,a8⟩
   have hd:j < (s.AB[i]).AD.length:=by have:=z_f hd;omega
   obtain⟨z,hz,-⟩:=r4 _ (dC _ (eu.2 ⟨_,cK c,cK hd⟩));have m9:=ZX (AJ:=D) (to:=O) hz;refine jci (λ_:Value × Chs=>[Pt sb,Pt gb,lv,v8,v,Pt b9,I i,Pt b2,I j]) (λq=>q.2 ++ ((b2,C 117 [q.1,I (s.AB[i]).next,.bool false,I (Cq l D O s.AB[i]).Am]) :: D3)) (λR' q=>R' = Rb/\SO (((s.AB[i]).AD.take (j + 1)).map (plc l D O)) q.1 q.2) (λK6 k6=>?_) ?_;rotate_left
   .rintro e R' ⟨jv,jA⟩ ⟨hR,o9⟩ he;subst hR;dsimp only at o9 ⊢;refine z_V ?_;exact jad (m0 R' (j + 1,jv,jA) (by dsimp only;omega) ⟨rfl,hd,o9⟩)
   refine jiI k6 λK7 k7=>?_
   rw[cI hd,dE,dO,List.map_nil,m9] at k7;obtain⟨x7,jn,x8,rfl⟩:=a8.sl;have e7:(((s.AB[i]).AD.take j).map (plc l D O)).length + 1 < 1000000000000:=by rw[cM,cV];omega
   refine jfo (jlr h3 rfl (jtr ha.c.th c λb6 o6 y5 w2 y1 n8 q8 x2 j7=>(jfo (jlr q8 (Bc j7 rfl) (Bl n8 Z Z ?_)))));rw[getElem_congr_idx (cG j)];refine jro (Fh m6 Z hz) (jro (Gb z (B8.rd r9) Z) (jlt (jif (λh0=>?_) (λh0=>?_))))
   .rw[if_pos (z_f h0)] at k7;refine jfo (jl rfl (jbs rfl rfl λb7=>(Gr a8 e7 λv' A' c4=>?_)));obtain⟨t9,u5,u4,rfl⟩:=c4.sl;exact jfo (js rfl rfl V rfl (k7 Rb (_,A') ⟨rfl,c4⟩))
   .have h0:=z_g h0;rw[if_neg h0] at k7;have s7:(BP D z).toNat < O.length:=by
     rw[o2];unfold BP at h0 ⊢;split at h0
     .rename_i hm;rw[if_pos hm,cG];exact dP hm
     .omega
    rw[cH,cF s7,dI] at k7;refine jfo (jl rfl (Bl j0 Z Z ?_));refine jbs rfl rfl λb7=>(Ak (jl rfl jev) (Gr a8 e7 λv' A' c4=>?_))
    obtain⟨t9,u5,u4,rfl⟩:=c4.sl;exact jfo (js rfl rfl V rfl (k7 Rb (_,A') ⟨rfl,c4⟩))
  rintro e Rb ⟨jv,jA⟩ ⟨hR,a8⟩ he;subst hR;dsimp only at a8 ⊢;refine z_V ?_;refine Dw a8 λRc m2 g5=>?_
  obtain⟨ua,uc,rfl⟩:=g5.sl;rw[l8];refine jfo (jl d4 (jla (l:=[.slice ua (Cq l D O s.AB[i]).AD.length uc,I (s.AB[i]).next,.bool false,I (Cq l D O s.AB[i]).Am]) (by exact z_n 4) rfl (C0 c ?_)));refine js (cs':=((rh ++ rows.drop i).set i [.slice ua (Cq l D O s.AB[i]).AD.length uc,I (s.AB[i]).next,.bool false,I (Cq l D O s.AB[i]).Am]).flatten ++ hsp) rfl rfl (by show 0 + i * 4 + 4<=_;omega) (by rw[cg];exact Ic (w:=4) τ i i9 Bq) ?_;rw[Ef];refine jad (Bf (hK Rc (i + 1,rh ++ [_]) (by dsimp only;omega) ⟨b8.trans m2,c,?_⟩));dsimp only;rw[cI (show i < Q.AB.length by omega)];have t4:Q.AB[i]'(Z) = Cq l D O s.AB[i]:=by simp only[m7,eF]
  exact (a5.mono λ_ _=>Cd.le m2).app (Rw.one (by rw[t4];exact⟨_,rfl,g5⟩))
 rintro e R' rh ⟨h7,a5⟩ he;refine z_V ?_;subst l9;refine jla (l:=S9) (by rw[d3];exact z_n 13) (by rw[d3];rfl) ?_;subst hE;refine BB (b:=bw) λR11 m1 r3=>BB (b:=bt) λR12 g4 m3=>BB (b:=bh) λR13 c5 q9=>?_
 have a3:=m1.trans (g4.trans c5);rw[d3];refine jS (eSt Q (S0 bw s.AC.length s.AC.length) (S0 bt s.AA.length ct) (S0 bm Q.AM.length Q.AM.length) (S0 bh s.AB.length ch) (SN) (.slice qa Q.AI.length qc)) (jla (l:=eSt Q (S0 bw s.AC.length s.AC.length) (S0 bt s.AA.length ct) (S0 bm Q.AM.length Q.AM.length) (S0 bh s.AB.length ch) (SN) (.slice qa Q.AI.length qc)) (cN rfl) rfl ?_);refine Ao (A:=[]) (f5.trans (d1.trans (d2.trans (a2.trans (h7.trans a3))))) ⟨rfl,?_⟩;rw[m4,g0];show QFd (Hv D s) _ _;rw[r6];have tn:=F1.tn;have hold:Q.old = []:=by rw[F1.eq]
 rw[<- g8] at i6;refine⟨_,_,_,_,_,_,⟨?_,?_,?_,⟨rh,a5.mono λ_ _=>Cd.le a3,?_⟩,?_,?_⟩,⟨bt,ct,tsp,?_,c5 _ _ m3,Z⟩,rfl⟩
 .rw[<- t6];exact Lv ((g4.trans c5) _ _ r3) V (z_n _)
 .rw[<- tn];exact Lv (c5 _ _ m3) (by rw[DT (w:=5) (λ_=>rfl)]) Z
 .exact RK (sp:=[]) (by rw[dD];exact (h7.trans a3) _ _ (by rw[<- g6];exact r2)) (z_n _)
 .rw[<- g8,<- a5.1];exact Lv q9 (Br (a5.all λ_ _=>Cd.len)) (by rw[a5.1];exact i6)
 .rw[hold];exact .inl ⟨rfl,rfl,rfl⟩
 .rw[<- n2];exact n3.le (g3.trans (h7.trans a3))
 .rw[tn]
end st
end Go.Lf
end
section
namespace Go.Lf
open Go Sm
section st
variable {R:RM} {s:Sm.Ah} {wv tv mv thv ov pv:Value}
theorem XG {l:List AQ} {j:List Int} (h:SF R s wv tv mv thv ov pv) (y:HpF s l j):∀a∈j,0 < a/\a < 1000000:=λa x=>by
 have A:=O6 y x;have t1:=h.b.t1;omega
set_option maxRecDepth 4000 in
theorem Rl (h:SF R s wv tv mv thv ov pv):Fn P MX [.agg (eSt s wv tv mv thv ov pv).toArray] R [] (λv R' A=>A = []/\QFd (cdO s) v R'):=by
 refine T6 λF=>?_
 refine z_1 ?_;refine ja λsb=>ja λgb=>jla (by exact z_n 13) rfl ?_
 have fu:=h.b.fu;have ml:=h.b.ml;refine jc (Ul h) ?_;rintro x R1 _ H ⟨rfl,N⟩;have h:=h.le H;obtain⟨pa,pc,a5⟩:=h.c.p.sl;unfold cdO;cases hc:EA s with
 | none=>
  rw[hc] at N;obtain rfl:x = _:=N;refine jor [Pt gb,.pointer none] true (λK' K=>?_) (λe c u ho he=>?_)
  .exact jxr (λw=>VI w _ _) (jtf (K _ _ _ DL rfl))
  refine z_V ?_;rw[ho];refine DM (jbd rfl rfl (js rfl rfl (cN rfl) rfl (jla (cN rfl) rfl ?_)));exact Ao H ⟨rfl,rfl⟩
 | some q=>
  obtain⟨l,y⟩:=q;rw[hc] at N;obtain⟨hb,mb,v,rfl,hv⟩:=N;refine jor [Pt gb,Pt hb] (decide ((s.AI.length:Int) > 0)) (λK' K=>?_) (λe c u ho he=>?_)
  .exact jxr (λw=>W8 w _ _ hb) (jff (jfo (jl (v:=pv) rfl (Bo ⟨pa,pc,a5⟩ (jgr (K _ _ _ CH rfl))))))
  refine z_V ?_;rw[ho];refine jif (λg=>?_) (λg=>?_)
  .refine jbd rfl rfl (js rfl rfl (cN rfl) rfl (jla (cN rfl) rfl ?_));refine Ao H ⟨rfl,?_⟩;show QFd (if 0 < s.AI.length then none else _) _ _;rw[if_pos (by have:=z_f g;omega)];rfl
  have hp:s.AI = []:=dA.1 (by have:=z_g g;omega);have hh:CU s = some (l,y):=by
   unfold EA at hc;split at hc
   .cases hc
   .exact hc
  have D:=EJ hh;obtain⟨a8,b1⟩:=Ky h D.ths;have a9:=D.M.len;obtain⟨G,T,-⟩:=ER D.ths;obtain⟨a1,a2⟩:=D.closed;have wl:=h.b.wl;have t1:=h.b.t1;have a6:=hv;obtain⟨o,g1,g2,g3,g4⟩:=a6;refine jnc (jfo (jlr (v:=v) g1 rfl ?_));have a4:∀t∈l,16<=t.at_/\t.at_ + (2 + t.refs.length + t.nums.length:Nat)<=s.AC.length:=λt Q=>by
   obtain⟨h1,h2⟩:=T.all t Q;have i:=G.inn h1;have j:=(EB G h1).2.2;rw[<- h2] at j;omega
  have O:Od y y:=⟨D.M.nd,λ_=>Iff.rfl⟩;refine jc (Qi (r:=match Ca [] l y (Bm s) 1 with | none=>none | some _=>Hv y s) h hv g4 Z (λa W=>D.M.th a W) D.M.nd (XG h D) (λt _=>GG t.sh) D.S.nd (λt Q=>by have:=a4 t Q;omega)
   (λa W t Q x hx=>by obtain⟨u,hu,_⟩:=a2 a W t Q x hx;exact⟨u,hu⟩)
   (λt Q x hx=>by obtain⟨u,hu,_⟩:=a1 x (dC _ (eu.2 ⟨t,Q,hx⟩));exact⟨u,hu⟩) ?_) ?_
  .rw[hp];cases hl:Ca [] l y (Bm s) 1 with
   | none=>rfl
   | some q=>
    obtain⟨to,a7⟩:=q;obtain⟨s',a3,F1,-⟩:=P3 D hp hl Z;exact⟨s',a3,Xy D O ml F1⟩
  rintro v R4 A4 a0 ⟨rfl,N⟩;obtain⟨wa,ta,ma,W,oa,b0,g5,gz,rfl⟩:=N.u;refine jex rfl (jex rfl ?_);refine jsS g5 (jla (by exact z_n 13) rfl (Ao (H.trans a0) ⟨rfl,?_⟩));show QFd (if 0 < s.AI.length then none else _) _ _;rw[if_neg (by rw[hp];decide)];exact N
end st
end Go.Lf
end
section
namespace Sm
open Go.Lf
theorem ZE {s:Ah} {l:List AQ} {x:List Int} (y:HpF s l x):∀t∈s.AB,t.AD.length<=8:=λt A=>by
 have j:=y.head;unfold C8 at j;simp only[z_b] at j;have:=ck.1 j.1.2 t A;unfold Fk at this;simp only[z_b,z_d] at this;exact this.1.1
theorem aP {g:PG} (ok:GOk g):GZ g:=⟨by have:=ok.n;omega,by have:=ok.r1;omega,by have:=ok.p;omega,λx j=>by have:=ok.nd x j;omega,λx j=>by have:=ok.rr x j;omega⟩
end Sm
namespace Go.Lf
open Go Sm
end Go.Lf
end
section
namespace Sm
open Go.Lf
theorem Tf {s H : Ah} (h:cdO s = some H) (fu:0<=s.BJ/\s.BJ<=100000):∃l j K y,EA s = some (l,j)/\CU s = some (l,j)/\HpF s l j/\s.AI = []/\DX s H l j K y:=by
 unfold cdO at h;cases x:EA s with
 | none=>rw[x] at h;cases h
 | some q=>
  obtain⟨l,j⟩:=q;rw[x] at h;have D:CU s = some (l,j):=by
   unfold EA at x;split at x
   .cases x
   .exact x
  dsimp only at h;split at h
  .cases h
  rename_i G;have G:s.AI = []:=dA.1 Z;cases hl:Ca [] l j (Bm s) 1 with
  | none=>rw[hl] at h;cases h
  | some q=>
   obtain⟨K,y⟩:=q;rw[hl] at h;obtain⟨O,A,N,-⟩:=P3 (EJ D) G hl Z;have h:Hv j s = some H:=h;rw[A] at h;cases h;exact⟨l,j,K,y,rfl,D,EJ D,G,N⟩
end Sm
namespace Go.Lf
open Go Sm
theorem Of {R:RM} {v:Value} (hc:Cod R v):Fn P Gy [v] R [] (λx R' A=>A = []/\DSF x R'):=by
 refine Lu λF=>?_
 refine z_1 ?_;obtain⟨n,hf⟩:=hc;refine ja λb=>?_
 refine jc (A:=[]) (Vl hf) ?_;rintro _ R1 _ _ ⟨hR,rb,v',rfl,rfl,hb⟩;subst hR;refine jc (A:=[(rb,rdO v' 0)]) (RH hb δ) ?_;rintro x R2 A H ⟨s,wv,mv,thv,ov,pv,tb,tc,tsp,m',sb,hw,hm,W,K,O,T,a0,a1,rfl,rfl⟩;obtain⟨wa,wc,rfl⟩:=hw.sl;obtain⟨ma,mc,rfl⟩:=hm.sl;obtain⟨D,hc,rfl⟩:=W.sl;obtain⟨oa,oc,rfl⟩:=K.sl;obtain⟨pa,pc,rfl⟩:=O.sl;refine ja λb4=>jS (eSt s (.slice wa s.AC.length wc) (S0 tb s.AA.length tc) (.slice ma s.AM.length mc) (.slice D s.AB.length hc) (.slice oa s.old.length oc) (.slice pa s.AI.length pc)) ?_
 refine jci (λ_:List Int × Option Addr × Nat=>[Pt b,Pt b4])
  (λq=>(b4,C 50 (eSt { s with AI:=q.1 } (.slice wa s.AC.length wc) (S0 tb s.AA.length tc) (.slice ma s.AM.length mc) (.slice D s.AB.length hc) (.slice oa s.old.length oc) (.slice q.2.1 q.1.length q.2.2))) :: (tb,C AO (Ad eRg s.AA ++ tsp)) :: (b,C 50 (cl z50)) :: ([] ++ F))
  (λR' q=>R' = R2/\B8 R2 (.slice q.2.1 q.1.length q.2.2) q.1/\StB 9 { s with AI:=q.1 }) (λK1 k1=>?_) ?_
 .refine jc (A:=[(rb,rdO v' m')]) (WL (hb.le H) Z) ?_;rintro _ R3 _ _ ⟨j,rfl,y,rfl,-,-⟩;subst j;refine jgr (jif (λ_=>?_) (λ_=>?_))
  .refine jfo (jS (eSt { s with AI:=[] } (.slice wa s.AC.length wc) (S0 tb s.AA.length tc) (.slice ma s.AM.length mc) (.slice D s.AB.length hc) (.slice oa s.old.length oc) (SN)) ?_);refine Bf ?_;exact k1 R3 ([],none,0) ⟨rfl,.inl ⟨rfl,rfl,rfl⟩,{ sb with pl:=V,pv:=λa D=>by cases D }⟩
  .exact Bf (k1 R3 (s.AI,pa,pc) ⟨rfl,O,sb⟩)
 rintro e R' ⟨ps,pa,pc⟩ ⟨hR,N,G⟩ he;subst hR;dsimp only at N G ⊢;refine z_V ?_;refine jla (l:=eSt { s with AI:=ps } (.slice wa s.AC.length wc) (S0 tb s.AA.length tc) (.slice ma s.AM.length mc) (.slice D s.AB.length hc) (.slice oa s.old.length oc) (.slice pa ps.length pc)) (by exact z_n 13) rfl ?_;refine BB (b:=tb) λR3 j Q=>?_
 have hx:DSF (.agg (eSt { s with AI:=ps } (.slice wa s.AC.length wc) (S0 tb s.AA.length tc) (.slice ma s.AM.length mc) (.slice D s.AB.length hc) (.slice oa s.old.length oc) (.slice pa ps.length pc)).toArray) R3:=
  ⟨{ s with AI:=ps },_,_,_,_,_,_,rfl,(by have:=G.fu;dsimp only at this ⊢;omega),⟨hw.le j,W2 Q T,hm.le j,W.le j,K.le j,N.le j⟩,⟨tb,tc,tsp,rfl,Q,T⟩,G.mono2⟩
 exact Bf (ZT hx (Ao (A:=[]) (H.trans j) ⟨rfl,hx⟩))
end Go.Lf
end
section
namespace Go.Lf
open Go Sm
set_option maxHeartbeats 4000000 in
set_option maxRecDepth 8000 in
theorem QO {R:RM} {v:Value} (hc:Cod R v):Fn P Gq [v] R [] (λx _ A=>x = .bool true/\A = []):=by
 refine Kt λF=>?_
 refine z_1 ?_;obtain⟨cn,h6⟩:=ZA hc;refine Bo h6 (jgr (jif (λ_=>Ao (A:=[]) (RM.le.refl R) ⟨rfl,rfl⟩) (λ_=>?_)));refine jc (A:=[]) (Of hc) ?_;rintro x0 R1 _ g0 ⟨rfl,hd⟩;refine bI hd λb s wv tv mv thv ov pv _ g9 h=>?_
 refine jla (l:=eSt s wv tv mv thv ov pv) (by exact z_n 13) rfl ?_;refine jc (A:=[]) (Rl h) ?_;rintro x R2 _ e6 ⟨rfl,hq⟩;have h:=h.le e6;obtain⟨wa,ta,ma,ha,oa,pa,W,e4,rfl⟩:=hq.u;obtain⟨s1,e1⟩:∃s1,s1 = (cdO s).getD st0:=⟨_,rfl⟩;rw[<- e1] at W e4 ⊢;refine jex rfl (jex rfl (ja λb1=>jsS W ?_));refine jla (l:=eSt s wv tv mv thv ov pv) (by exact z_n 13) rfl ?_;refine jc (A:=[]) (W9 h) ?_;rintro x R3 _ a9 ⟨rfl,h5⟩;have h:=h.le a9;obtain⟨i5,i4,h7,g4,h8,h9,g2,-,rfl⟩:=h5.u;rw[<- e1] at g2 ⊢;refine jex rfl (jex rfl (ja λb2=>jsS g2 ?_));have W:=W.le a9;have a0:=g0.trans (e6.trans a9);have z1:StZ s1:=by
  cases H:cdO s with
  | none=>rw[e1,H];exact⟨δ,δ,δ,δ,δ,δ,λt ht=>by cases ht⟩
  | some s'=>
   rw[e1,H];have fu:=h.b.fu;obtain⟨l,a6,to,f3,-,-,-,-,F1⟩:=Tf H Z;exact Ze h F1
 refine jor [Pt b1,.bool (cdO s).isSome] false (λK' a8=>?_) (λe c u ho he=>?_)
 .refine @jxb _ _ _ _ _ _ _ ?_;rw[bne_self_eq_false];refine jff (jla (l:=eSt s1 wa ta ma ha oa pa) (by exact z_n 13) rfl ?_);refine jla (l:=eSt s1 i5 i4 h7 g4 h8 h9) (by exact z_n 13) rfl ?_;exact jro (Uo W g2 z1) (a8 _ _ _ CH rfl)
 refine z_V ?_;rw[ho];refine CW ?_;cases H:cdO s with
 | none=>exact DM (Ao (A:=[]) a0 ⟨rfl,rfl⟩)
 | some s'=>
 refine CW ?_;obtain rfl:s1 = s':=by rw[e1,H];rfl
 have fu:=h.b.fu;obtain⟨l,a6,to,f3,j5,hh,hf,hp,F1⟩:=Tf H Z;have O:Od a6 a6:=⟨hf.M.nd,λ_=>Iff.rfl⟩;have h1:SF R3 s1 wa ta ma ha oa pa:=⟨W,(e4 (by rw[H];rfl)).le a9,Vz h.b g9 hf O F1⟩;obtain⟨l1,e7,T1,Q1,b0,-⟩:=UD hf O F1;obtain⟨-,f8⟩:=Yb (l':=l1) hf F1 hp;have c8:=Sa b0 f8;have N:=aq b0 (ZE b0);obtain⟨f0,f6⟩:∃m,m = a6.map (mvT a6 to):=⟨_,rfl⟩;rw[<- f6] at e7 b0 N c8;refine jla (l:=eSt s1 wa ta ma ha oa pa) (by exact z_n 13) rfl ?_;refine jc (A:=[]) (MQ h1) ?_;rintro _ R5 _ g3 ⟨rfl,hq⟩;rw[e7] at hq;obtain⟨gv,hg,rfl⟩:=hq;obtain⟨g,h4⟩:∃g,g = Hf s1 l1 (Ac f0):=⟨_,rfl⟩;rw[<- h4] at hg N c8;have d2:=aP N;have h2:=hg;obtain⟨q1,q2,qn,qr,qp,rfl,a1,a2,a3,a4,a5⟩:=h2;obtain⟨na,nc,rfl⟩:=a2.sl;obtain⟨ra,rc,rfl⟩:=a4.sl;obtain⟨xa,xc,rfl⟩:=a5.sl;refine jex rfl (jex rfl (ja λb3=>jS [.slice na q1.length nc,.slice ra q2.length rc,.slice xa g.pinned.length xc] (jla (cN rfl) rfl ?_)));refine jc (A:=[]) (ND hg d2 N) ?_;rintro _ R6 _ d1 ⟨rfl,h3⟩;obtain⟨j,b9,l3,l5,l4,rfl,a7,c7,j0,f4,f5⟩:=h3;obtain⟨y,D,rfl⟩:=c7.sl;obtain⟨c0,c4,rfl⟩:=f4.sl;obtain⟨c5,c6,rfl⟩:=f5.sl;rw[c8] at a7;refine ja λb4=>jS [.slice y j.length D,.slice c0 b9.length c4,.slice c5 (G5 g).pinned.length c6] ?_
 have a1:Rw (NdC R6) q1 g.nodes:=a1.mono λ_ _=>NdC.le d1
 have a2:=a2.le d1;have e5:=a0.trans (g3.trans d1);have n1:=a1.1;have n2:=a7.1;have gn:=d2.n;obtain⟨DD,c9⟩:∃DD:Chs,DD = (b4,C 40 [.slice y j.length D,.slice c0 b9.length c4,.slice c5 (G5 g).pinned.length c6]) :: (b3,C 40 [.slice na q1.length nc,.slice ra q2.length rc,.slice xa g.pinned.length xc]) :: ([] ++ F):=⟨_,rfl⟩;refine Al [(b4,C 40 [.slice y j.length D,.slice c0 b9.length c4,.slice c5 (G5 g).pinned.length c6]),(b3,C 40 [.slice na q1.length nc,.slice ra q2.length rc,.slice xa g.pinned.length xc])] (G:=[] ++ F) ?_;refine Az (D':=DD) (by rw[c9];exact dK _) ?_;refine Bz [Pt b3,Pt b4] (λK1 k1=>?_) (λe he=>?_)
 .refine Bz [Pt b3,Pt b4] (λK2 k2=>?_) (λe he=>?_);rotate_left
  .refine z_V ?_;exact k1
  refine Qg [Pt b3,Pt b4] g.nodes.length (λ_=>True) trivial λi K e hi _ hK he=>?_
  refine z_V ?_;rw[c9] at k2 hK ⊢;refine jan [Pt b3,Pt b4,I i] (decide (i < g.nodes.length)) (λK' a8=>?_) (λe c u ho he=>?_)
  .refine jfo (jl (v:=.slice na q1.length nc) rfl (jln (jlt (Dv (λW=>?_) (λW=>?_)))))
   .refine jfo (jl (v:=.slice y j.length D) rfl (jln (jlt (a8 _ _ _ (W▸Bx) ?_))));exact decide_eq_decide.2 Z
   .rw[W];exact a8 _ _ _ CB (decide_eq_false (by have:=z_g W;omega)).symm
  refine z_V ?_;rw[ho];refine jif (λc=>?_) (λc=>k2);have c:=z_f c;refine Bz [Pt b3,Pt b4,I i,.bool false] (λK3 k3=>?_) (λe he=>?_)
  .have hz:=d2.nr _ (cK c);refine jfo (jl (v:=.slice na q1.length nc) rfl (jnd a1 a2 c λb5 o5 m1 j1 l6 k7 e8 i6 g5 j6 d3=>jfo (jlr g5 (Bc d3 rfl) ?_)));refine jfo (jl (v:=.slice y j.length D) rfl (jnd a7 c7 c λb6 o6 m2 j2 l8 l2 e9 i7 g6 j7 d4=>jfo (jlr g6 (Bc d4 rfl) ?_)));refine jro (G4 e8 e9 Z Z) ?_;rw[beq_self_eq_true];refine jci (λq:Value × Value=>[Pt b3,Pt b4,I i,.bool false,q.1,q.2]) (λ_=>(b4,C 40 [.slice y j.length D,.slice c0 b9.length c4,.slice c5 (G5 g).pinned.length c6]) :: (b3,C 40 [.slice na q1.length nc,.slice ra q2.length rc,.slice xa g.pinned.length xc]) :: ([] ++ F)) (λR' q=>R' = R6/\B8 R6 q.1 (g.nodes[i]).2/\B8 R6 q.2 (g.nodes[i]).2) (λK4 k4=>?_) ?_
   .show J _ _ (GT (.bool false) false _ _);refine jff (jfo (jl (v:=.slice na q1.length nc) rfl (jnd a1 a2 c λb7 o7 m3 j3 l9 f1 i8 Q g7 j8 e2=>jfo (jlr g7 (Bc e2 rfl) ?_))));refine jfo (jl (v:=.slice y j.length D) rfl (jnd a7 c7 c λb8 o8 m4 j4 m0 f2 i9 T g8 j9 e3=>jfo (jlr g8 (Bc e3 rfl) ?_)));exact k4 R6 (f1,f2) ⟨rfl,Q,T⟩
   rintro e R' ⟨f1,f2⟩ ⟨hR,Q,T⟩ he;subst hR;dsimp only at Q T he ⊢;refine z_V ?_;refine jff (jro (G4 Q T Z Z) ?_);rw[beq_self_eq_true];exact k3
  refine z_V ?_;exact CW (jad (hK c trivial))
 refine z_V ?_;rw[c9];refine jfo (jl (v:=.slice na q1.length nc) rfl (jln (jfo (jl (v:=.slice y j.length D) rfl (jln (jeq ?_))))));rw[show ((q1.length:Int) == (j.length:Int)) = true from by rw[n1,n2];exact beq_self_eq_true _];exact Ao (A:=[]) e5 ⟨rfl,rfl⟩
end Go.Lf
end
