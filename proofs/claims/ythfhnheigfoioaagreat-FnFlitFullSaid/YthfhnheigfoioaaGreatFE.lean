/- A part of the proof of the given row. Conditions: none. -/
import Derived.Test.YthfhnheigfoioaaGreatFD
set_option linter.unusedVariables false
set_option linter.unusedSimpArgs false
set_option maxRecDepth 100000
section
namespace Go.Lf
open Go Sm
theorem Rs {l:List Thr} {rv sp:List Value} {i f:Nat} {v:Value} (h:i < l.length) (y : i < rv.length) (x:(Ax (l[i]) (rv[i]))[f]? = some v):(Et l rv ++ sp)[i * 17 + f]? = some v:=by
 have:=Uh (sp:=sp) h y;have j:=congrArg (λl=>l[f]?) this;simp only[ff,fJ] at j;have A:f < 17:=by
  by_cases c:f < 17
  .exact c
  .have:(Ax (l[i]) (rv[i]))[f]? = none:=fG (by show 17<=f;omega);rw[this] at x;cases x
 rw[if_pos A] at j;rw[j,x]
theorem jpc {R:RM} {D G:Chs} {p:Nat} {S:Sim} {g:Img} {i:Int} {t:Thr} {k:Value->M} [w:Fd D p S g G] (A:Ok R S g) (T:idx S.th i = some t) (H:J R D (k (I t.pc))) :
  J R D (L1 (.pointer (some ⟨p,17,none⟩)) λx=>IA 17 x (I i) λy=>FO 3 y λz=>L1 z k):=by
 obtain⟨h0,N,O,Q⟩:=Ay T;have j : i.toNat < g.rv.length:=by have:=A.rvl;omega
 have K : J R (Ag p S g ++ G) (k (I t.pc)):=BC w.ex.symm H;have l1:J R (Ag p S g ++ G) (L1 (.pointer (some ⟨p,17,none⟩)) λx=>IA 17 x (I i) λy=>FO 3 y λz=>L1 z k):=by
  refine jl rfl (jia h0 N (jl ?_ K));rw[eH];exact Rs O j (by rw[Q];rfl)
 exact BC w.ex l1
theorem XI {n p:Nat} {S S' : Sim} {g:Img} {i:Int} {R:RM} (T:Ok R S g) (N:S.thread n i = some S') :
  Fn P Ji [Pt p,I i] R (Ag p S g) (DH p S' λ_=>True):=by
 refine Oo λF=>?_
 refine z_2 ?_;obtain⟨t,ht,N⟩:=AF N;obtain⟨h0,h1,h2,h3⟩:=Ay ht;refine Hc T ht rfl λb a a4 hv=>(jl rfl (jeq (jif (λhp=>?_) (λhp=>?_))))
 .rw[if_pos (eq_of_beq hp)] at N;refine Ab (λW O D'=>O = R/\D' = (b,C Ae (Ax t (.slice a t.AD.length a4))) :: (Ag p S g ++ F)/\∃c u v,W = [Pt p,I i,c,u]/\GW c u v/\(if v = true then S.begin_ i else some S) = some S') (λK hK=>?_) ?_;rotate_left
  .rintro e R1 D1 ⟨rfl,hD,c,u,v,he,ha,hq⟩;refine z_W ?_;rw[ha];refine jif (λhc=>?_) (λhc=>?_)
   .rw[if_pos hc] at hq;refine jcS (YS T hq) λ_ R2 D A hr y=>(B7 A trivial rfl y)
   .rw[if_neg (by rw[hc];decide)] at hq;cases hq;exact B7 (RM.le.refl _) trivial rfl T
  refine jl rfl ?_;cases j:S.stop with
  | true=>
   rw[j,if_pos rfl] at N;exact jft (hK _ _ _ ⟨rfl,rfl,_,_,false,rfl,Bu,by rw[if_neg δ];exact N⟩)
  | false=>
   rw[j,if_neg δ] at N;obtain⟨pr,a7,N⟩:=AF N;obtain⟨i0,i1,i2,i3⟩:=Ay a7;refine jtt (jl rfl (jl rfl ?_));obtain⟨W,f1,f2,f3⟩:=T.Aa;obtain⟨x,f4,f5⟩:=f3 i.toNat i2;rw[i3] at f5;rcases f1 with ⟨_,h,_⟩ | ⟨bp,a8,cp,tp,cs,e1,e2,e3,e4,e5⟩
   .omega
   have hx:cs[a8 + i.toNat * 1]? = some x:=by
    have:=congrArg (λl=>l[i.toNat]?) e4;simp only[ff,fJ] at this;rw[if_pos Z] at this;rw[fY,this,f4]
   rw[e1];refine jia i0 Z (jlr e2 hx (KD f5 (jlt (hK _ _ _ ⟨rfl,rfl,_,_,_,rfl,Bm,?_⟩))));by_cases hc:t.next < pr.length
   .rw[if_pos hc] at N;rw[if_pos (decide_eq_true hc)];exact N
   .rw[if_neg hc] at N;rw[if_neg (by rw[decide_eq_false hc];decide)];exact N
 .rw[if_neg (ne_of_beq_false hp)] at N;refine jss { S with used:=false } g rfl rfl δ τ τ (Al (Ag p { S with used:=false } g) (G:=F) (jlp (λm W O D'=>R.le O/\∃S1 g1,Ok O S1 g1/\D' = Ag p S1 g1 ++ F/\W = [Pt p,I i]/\Sim.tloop m S1 i = some S') ⟨RM.le.refl _,{ S with used:=false },g,{ T with },rfl,rfl,N⟩ ?_));rintro m e R1 D1 K ⟨hR,S1,g1,H,hD,he,hl⟩ hK;refine z_W ?_;cases m with
  | zero=>cases hl
  | succ m=>
   obtain⟨t1,a2,hl⟩:=AF hl;refine Ab (λW O D'=>O = R1/\D' = Ag p S1 g1 ++ F/\∃c u,W = [Pt p,I i,c,u]/\GW c u (!S1.used && t1.pc != 0)) (λK2 a3=>?_) ?_
   .refine jl rfl ?_;cases hu:S1.used with
    | true=>exact jft (a3 _ _ _ ⟨rfl,rfl,_,_,rfl,by rw[hu];exact Bu⟩)
    | false=>
     refine jtt (jpc H a2 (jne (a3 _ _ _ ⟨rfl,rfl,_,_,rfl,?_⟩)));rw[hu];exact Bm
   rintro e R2 D2 ⟨rfl,hD,c,u,he,ha⟩;refine z_W ?_;rw[ha];refine jif (λhc=>?_) (λhc=>?_);rotate_left
   .rw[if_pos (by
     cases hu:S1.used
     .rw[hu] at hc;right;simpa using hc
     .exact .inl rfl)] at hl
    cases hl;exact B7 hR trivial rfl H
   have a6 : ¬ (S1.used = true\/t1.pc = 0):=by
    simp only[z_b,eL,bne_iff_ne,ne_eq] at hc;rintro (h | h)
    .rw[hc.1] at h;cases h
    .exact hc.2 h
   rw[if_neg a6] at hl;obtain⟨S2,j,hl⟩:=AF hl;unfold Sim.tstep at j;rw[a2] at j;simp only[di,z_o] at j;refine Ab (λW O D'=>R.le O/\∃D,Ok O S2 D/\D' = Ag p S2 D ++ F/\W = [Pt p,I i]) (λK3 a5=>?_) ?_;rotate_left
   .rintro e R3 D3 ⟨a1,D,y,hD,he⟩;refine z_W ?_;exact hK m _ _ _ Z ⟨a1,S2,D,y,rfl,rfl,hl⟩
   refine jpc H a2 (Ab (λW O D'=>R.le O/\∃D,Ok O S2 D/\D' = Ag p S2 D ++ F/\W = [Pt p,I i]) (λK4 Q=>?_) ?_);rotate_left
   .rintro e R3 D3 ⟨a1,D,y,hD,he⟩;refine z_W ?_;exact a5 _ _ _ ⟨a1,D,y,rfl,rfl⟩
   refine jor [Pt p,I i,I t1.pc] ((decide (t1.pc<=3)) || (t1.pc == 11)) (λK' a0=>?_) (λe c u ho he=>?_)
   .refine jle (jgO a0 λh1 hN=>jeq hN)
   refine z_V ?_;refine jor [Pt p,I i,I t1.pc] ((decide (t1.pc<=3) || t1.pc == 11) || (t1.pc == 15)) (λK' a0=>?_) (λe c u ho he=>?_)
   .rw[ho];refine jgO a0 λh1 hN=>jeq hN
   refine z_V ?_;rw[ho];refine jif (λc1=>?_) (λc1=>?_)
   .rw[if_pos (by simpa [or_assoc] using c1)] at j;refine jcS (V1 H j) λ_ R2 D A hr y=>(Q _ _ _ ⟨hR.trans A,D,y,rfl,rfl⟩)
   rw[if_neg (by
    intro h
    have:((decide (t1.pc<=3) || t1.pc == 11) || t1.pc == 15) = true:=by simpa [or_assoc] using h
    rw[c1] at this;cases this)] at j
   refine jeq (jif (λc2=>?_) (λc2=>?_))
   .rw[if_pos (eq_of_beq c2)] at j;refine jcS (YN H j) λ_ R2 D A hr y=>(Q _ _ _ ⟨hR.trans A,D,y,rfl,rfl⟩)
   rw[if_neg (ne_of_beq_false c2)] at j;refine jge (jif (λc3=>?_) (λc3=>?_))
   .rw[if_pos (z_f c3)] at j;refine jcS (XT H j) λ_ R2 D A hr y=>(Q _ _ _ ⟨hR.trans A,D,y,rfl,rfl⟩)
   rw[if_neg (z_g c3)] at j;refine jge (jif (λc4=>?_) (λc4=>?_))
   .rw[if_pos (z_f c4)] at j;refine jcS (V7 H j) λ_ R2 D A hr y=>(Q _ _ _ ⟨hR.trans A,D,y,rfl,rfl⟩)
   rw[if_neg (z_g c4)] at j;refine jcS (ZM H j) λ_ R2 D A hr y=>(Q _ _ _ ⟨hR.trans A,D,y,rfl,rfl⟩)
theorem aA {p:Nat} {S:Sim} {g:Img} {R:RM} (j:Ok R S g) :
  Fn P NQ [Pt p] R (Ag p S g) (DH p S (· = .bool S.calm)):=by
 refine T5 λF=>?_
 refine z_1 ?_;refine jlp (λn T G D=>G = R/\D = Ag p S g ++ F/\∃i:Nat,i<=S.th.length/\T = [Pt p,I i]/\n = S.th.length - i/\∀k (h:k < S.th.length),k < i->(S.th[k]).pc = 0)
  (n:=S.th.length) ⟨rfl,rfl,0,Z,rfl,Z,λk _ h=>Z⟩ ?_
 rintro n e R1 W K ⟨rfl,hD,i,hi,he,hn,Bv⟩ H;refine z_W ?_;have hl:=j.hl;refine jl rfl (jln (jlt (jif (λhc=>?_) (λhc=>?_))))
 .have hc:i < S.th.length:=by have:=z_f hc;omega
  have O:idx S.th i = some (S.th[i]):=by unfold idx;rw[if_pos Z,da,dY hc]
  refine jpc j O (jne (jif (λy=>?_) (λy=>?_)))
  .refine B7 (RM.le.refl _) ?_ rfl j;have y:(S.th[i]).pc≠0:=by simpa using y
   have:S.calm = false:=by
    unfold Sim.calm;rw[List.all_eq_false];exact⟨S.th[i],dc hc,by simpa using y⟩
   rw[this]
  .have y:(S.th[i]).pc = 0:=by simpa using y
   refine jad (H (S.th.length - (i + 1)) _ _ _ Z ⟨rfl,rfl,i + 1,Z,rfl,rfl,λk A N=>?_⟩);by_cases c:k = i
   .subst c;exact y
   .exact Bv k A Z
 .have hc:¬ i < S.th.length:=by have:=z_g hc;omega
  refine B7 (RM.le.refl _) ?_ rfl j;have:S.calm = true:=by
   unfold Sim.calm;rw[eG];intro x Q;obtain⟨k,A,rfl⟩:=eJ Q;simpa using Bv k A Z
  rw[this]
instance (priority:=low) Sp.appr (X D A F:Chs) [s:Sp D A F]:Sp (X ++ D) A (X ++ F):=⟨(s.p.append_left X).trans (by rw[<- dm,<- dm];exact gX F fO)⟩
section col
variable {R:RM} {D G:Chs} {p:Nat} {S:Sim} {g:Img} {m:M} {k:Value->M}
theorem QT {x:Col} {j:Value} (h:flat j = true):Bz (BW x j) = true:=by
 show (true && (true && (true && (flat j && true)))) = true;rw[h];rfl
theorem Jr [w:Fd D p S g G] (j:Ok R S g) (H:∀b,J R ((b,C BQ (BW S.col g.AR)) :: D) (k (Pt b))) :
  J R D (LA 15 (.pointer (some ⟨p,18,none⟩)) λy=>AL BQ Zt λx=>ST 15 x y (k x)):=by
 refine BC w.ex (jla (by show 18 + 15<=35;omega) rfl ?_);refine ja λb=>(js rfl (QT (Fz.flat j.AR)) (by exact z_n 15) τ ?_)
 exact BC (w.ex.symm.cons _) (H b)
theorem JQ {b:Nat} {x:Col} {j:Value} (S' : Sim) [w:Fd D p S g G] [at_:At D b (C BQ (BW x j))] (y:Ok R S g) (N:Aw R j x.AR) (O:S' = { S with col:=x })
  (H:∀K,Ok R S' K->J R (Ag p S' K ++ G) m):J R D (LA 15 (Pt b) λA=>ST 15 (.pointer (some ⟨p,18,none⟩)) A m):=by
 subst O;refine jla (cs:=BW x j) (z_n 15) rfl (jss { S with col:=x } { g with AR:=j } rfl (QT (Fz.flat N)) δ τ τ (H _ { y with AR:=N }))
theorem jsm {i:Nat} {v:Bool} (S' : Sim) [w:Fd D p S g G] (y:i < S.AQ.length) (x:S' = { S with AQ:=S.AQ.set i v }) (H:J R (Ag p S' g ++ G) m):J R D (ST 1 (.pointer (some ⟨g.mb,i,none⟩)) (.bool v) m):=by
 subst x;intro h A;refine js (cs':=(S.AQ.set i v).map Value.bool ++ g.msp) rfl rfl (by simp;omega) ?_ H h (A.perm w.ex) (u:=?_)
 .rw[show cl (Value.bool v) = [Value.bool v] from rfl,Gi (by simp;omega),List.set_append_left _ _ (by simpa using y),List.map_set]
 .have j:Ch { S with AQ:=S.AQ.set i v } g = Ch S g:=by simp[Ch,evV]
  unfold Ag evD;rw[j];exact inferInstance
end col
theorem Lk {x G : Col} (a:Option Addr) (n c:Nat) (h:HG x = some G):Pu Ly [.agg (BW x (.slice a n c)).toArray] (.agg (BW G (.slice a n c)).toArray):=by
 intro R;refine Se λF=>?_
 refine z_1 ?_;obtain⟨i,O,h⟩:=AF h;obtain⟨rfl,j⟩:=BB O;simp only[dx] at h;subst h;refine ja λb=>ja λy=>?_
 have e:cl (.agg (BW x (.slice a n c)).toArray) = BW x (.slice a n c):=rfl;rw[e];refine jl rfl (Cw j (jS (BW { x with i:=x.i + 1 } (.slice a n c)) (jS (BW { x with i:=x.i + 1,pc:=7 } (.slice a n c)) (Ab (λQ N H=>N = R/\H = (y,C 151 (cl Zt)) :: (b,C 151 (BW { x with i:=x.i + 1,pc:=if x.i + 1 = x.sh.refs then 6 else 7 } (.slice a n c))) :: ([] ++ F)/\Q = [Pt b,Pt y]) (λK D=>?_) ?_))))
 .refine jl rfl (jl rfl (jeq (jif (λhc=>?_) (λhc=>?_))))
  .refine jS (BW { x with i:=x.i + 1,pc:=6 } (.slice a n c)) (D _ _ _ ⟨rfl,by rw[if_pos (eq_of_beq hc)],rfl⟩)
  .exact D _ _ _ ⟨rfl,by rw[if_neg (ne_of_beq_false hc)],rfl⟩
 .rintro e W T ⟨rfl,hD,he⟩;refine z_W ?_;refine jla (by exact z_n 15) τ (js rfl rfl (by exact z_n 15) τ (jla (by exact z_n 15) τ (Ao (A:=[]) (RM.le.refl _) rfl)))
theorem X3 {p:Nat} {S S' : Sim} {g:Img} {R:RM} (A:Ok R S g) (j:S.look = some S') :
  Fn P Mt [Pt p] R (Ag p S g) (DH p S' λ_=>True):=by
 refine SP λF=>?_
 refine z_1 ?_;unfold Sim.look at j;split at j
 .cases j
 rename_i H;have H:=H4 (by simpa using H:S.sz = true);dsimp only at j;obtain⟨q1,a7,j⟩:=AF j;obtain⟨rfl,a9⟩:=BB a7;obtain⟨q2,a8,j⟩:=AF j;obtain⟨rfl,b0⟩:=BB a8;obtain⟨⟨v,S1⟩,a0,j⟩:=AF j;have e1:=Cv a0;subst e1;dsimp only at j;obtain⟨i1,a6,j⟩:=AF j;obtain⟨rfl,b2⟩:=BB a6;refine Jr A λb=>?_
 obtain⟨a,a3,a1,-⟩:=Aw.reads (D:=[]) A.AR;rw[a1];have x:=A.AR;rw[a1] at x;refine jl rfl (Cw a9 (jl rfl (Cw b0 (jcS (DG A a0) λ_ R1 g1 Q hr b3=>?_))));subst hr;refine Ab (λvs R' D'=>R1.le R'/\∃T W c2,Aw R' (.slice T W c2) (if v≠0 then S.col.AR ++ [v] else S.col.AR)/\D' = Ag p { S with used:=true } g1 ++ (b,C BQ (BW { S.col with AR:=if v≠0 then S.col.AR ++ [v] else S.col.AR } (.slice T W c2))) :: F/\vs = [Pt p,Pt b]) (λK hK=>?_) ?_
 .refine jne (jif (λN=>?_) (λN=>?_))
  .have N:v≠0:=by simpa using N
   refine jl rfl (jc (Ca (x.le Q) H.2.2.1) ?_);rintro _ R' _ hR ⟨b4,c,sp,hc,hsp,rfl,rfl⟩;refine jbs rfl rfl λb1=>(ZP hc hsp H.2.2.1 (BY.held (cs:=[I v]) (z_n 1)) λb' c' b9 a5 b8=>(BE (b:=b') λR2 y a4=>?_))
   have hi:=CT a4 (by simpa using a5);rw[de,eK] at hi;refine jS (BW { S.col with AR:=S.col.AR ++ [v] } (.slice (some ⟨b',0,none⟩) (S.col.AR.length + 1) c')) (Al (Ag p { S with used:=true } g1) (G:=(b,C BQ (BW { S.col with AR:=S.col.AR ++ [v] } (.slice (some ⟨b',0,none⟩) (S.col.AR.length + 1) c'))) :: F) (hK _ _ _ ⟨hR.trans y,some ⟨b',0,none⟩,S.col.AR.length + 1,c',by rw[if_pos N];exact hi,by rw[if_pos N],rfl⟩))
  .have N:¬ v≠0:=by simpa using N
   exact hK _ _ _ ⟨RM.le.refl _,a,S.col.AR.length,a3,by rw[if_neg N];exact x.le Q,by rw[if_neg N],rfl⟩
 .rintro e R2 D2 ⟨y,T,W,c2,hi,hD,he⟩;refine z_W ?_;have b5:=b3.le y;generalize b7:(if v≠0 then S.col.AR ++ [v] else S.col.AR) = O at hi j ⊢;refine jl rfl (Cw b2 (jS (BW { S.col with AR:=O,i:=S.col.i + 1 } (.slice T W c2)) (Ab (λvs R' D'=>R' = R2/\D' = Ag p { S with used:=true } g1 ++ (b,C BQ (BW { S.col with AR:=O,i:=S.col.i + 1,pc:=if S.col.i + 1 = S.col.sh.refs then 1 else S.col.pc } (.slice T W c2))) :: F/\vs = [Pt p,Pt b]) (λK hK=>?_) ?_)))
  .refine jl rfl (jl rfl (jeq (jif (λhc=>?_) (λhc=>?_))))
   .refine jS (BW { S.col with AR:=O,i:=S.col.i + 1,pc:=1 } (.slice T W c2)) (hK _ _ _ ⟨rfl,by rw[if_pos (eq_of_beq hc)],rfl⟩)
   .exact hK _ _ _ ⟨rfl,by rw[if_neg (ne_of_beq_false hc)],rfl⟩
  .rintro e R3 D3 ⟨rfl,hD,he⟩;refine z_W ?_;refine JQ (({ S with used:=true }:Sim).setC { S.col with AR:=O,i:=S.col.i + 1,pc:=if S.col.i + 1 = S.col.sh.refs then 1 else S.col.pc }) b5 hi τ λg3 b6=>?_
   simp only[dx] at j;subst j;exact B7 (Q.trans y) trivial rfl b6
theorem Xp {p:Nat} {S S' : Sim} {g:Img} {R:RM} (A:Ok R S g) (j:S.mark = some S') :
  Fn P MH [Pt p] R (Ag p S g) (DH p S' λ_=>True):=by
 refine SI λF=>?_
 refine z_1 ?_;unfold Sim.mark at j;split at j
 .cases j
 rename_i a7;have a7:=H4 (by simpa using a7:S.sz = true);dsimp only at j;refine Jr A λb=>?_
 obtain⟨a,e6,c8,-⟩:=Aw.reads (D:=[]) A.AR;rw[c8];have O:=A.AR;rw[c8] at O;refine jl rfl (jln (jeq (jif (λh0=>?_) (λh0=>?_))))
 .have h0:S.col.AR.length = 0:=by have:=eq_of_beq h0;omega
  rw[if_pos h0] at j;refine Ab (λvs R' D'=>R.le R'/\∃S2 g2 x2 b9,S' = { S2 with col:=x2 }/\Ok R' S2 g2/\Aw R' b9 x2.AR/\D' = Ag p S2 g2 ++ (b,C BQ (BW x2 b9)) :: F/\vs = [Pt p,Pt b]) (λK hK=>?_) ?_;rotate_left
  .rintro e R2 D2 ⟨T,S2,g2,x2,b9,e1,W,hi,hD,he⟩;refine z_W ?_;refine JQ { S2 with col:=x2 } W hi τ λg3 a4=>?_
   subst e1;exact B7 T trivial rfl a4
  refine jl rfl (KD A.old (jeq (jif (λh1=>?_) (λh1=>?_))))
  .have h1:S.old = []:=by have:=eq_of_beq h1;exact eV.1 Z
   rw[h1] at j;simp only[dx] at j;refine jss { S with stop:=true } g rfl rfl δ τ τ (js rfl rfl (by simp[BW]) rfl (hK _ _ _ ⟨RM.le.refl _,{ S with stop:=true },g,{ S.col with want:=2 },_,j.symm▸by rw[h1],{ A with },O,rfl,rfl⟩))
  .have h1:S.old.length≠0:=by have:=ne_of_beq_false h1;omega
   obtain⟨a0,l,a2⟩:∃a l,S.old = a :: l:=by cases h:S.old with | nil=>rw[h] at h1;exact absurd rfl h1 | cons a l=>exact⟨a,l,rfl⟩
   rw[a2] at j;simp only[dx] at j;refine jl rfl (C5 A.old Z Z ?_);have e0:S.old[(0:Int).toNat]'(by simp;omega) = a0:=by simp[a2]
   rw[e0];refine jbs (cs:=[I a0]) rfl rfl λb1=>(jS (BW { S.col with AR:=[a0] } (S0 b1 1 1)) (BE (b:=b1) λR2 T d2=>?_))
   have d3:Aw R2 (S0 b1 [a0].length 1) [a0]:=CT (by simpa using d2) (z_n 1);refine jl rfl (cN (A.old.le T) Z (by rw[a2];simp;omega) λv1 a3=>?_);rw[a2] at a3;refine jc (Ca (l:=l) a3 (by have:=a7.2.1;rw[a2] at this;simp at this;omega)) ?_;rintro _ R3 _ N ⟨H,Q,e5,b2,c7,rfl,rfl⟩;refine BE (b:=H) λR4 a1 b0=>?_
   have b3:=CT b0 b2;refine jss { S with old:=l } { g with old:=S0 H l.length Q } rfl rfl δ τ τ ?_;have hR:=(T.trans N).trans a1;refine Al (Ag p { S with old:=l } { g with old:=S0 H l.length Q }) (G:=(b,C BQ (BW { S.col with AR:=[a0] } (S0 b1 1 1))) :: F) (hK _ _ _ ⟨hR,{ S with old:=l },{ g with old:=S0 H l.length Q },{ S.col with AR:=[a0] },_,j.symm,{ A.le hR with old:=b3 },(d3.le N).le a1,rfl,rfl⟩)
 have h0:S.col.AR.length≠0:=by have:=ne_of_beq_false h0;omega
 rw[if_neg h0] at j;obtain⟨x,a9,j⟩:=AF j;obtain⟨row,c6,j⟩:=AF j;obtain⟨go,y,j⟩:=AF j;obtain⟨r0,r1,r2,r3⟩:=Ay c6;have e8:=A.tl;have b7:S.col.AR[S.col.AR.length - 1]'(Z) = x:=by
  rw[List.getLast?_eq_getElem?] at a9;rw[dY Z] at a9;exact fN a9
 have e7:=a7.2.2.1;refine jl rfl (jl rfl (jln (jsu (C5 O Z Z ?_))));have e0:S.col.AR[((S.col.AR.length:Int) - 1).toNat]'(Z) = x:=by
  rw[<- b7];congr 1;omega
 rw[e0];refine jl rfl (jl rfl (jln (jsu (XW O Z Z λv1 a3=>?_))));rw[show ((S.col.AR.length:Int) - 1).toNat = S.col.AR.length - 1 from Z,<- List.dropLast_eq_take] at a3;refine jc (Ca a3 (by simp;omega)) ?_;rintro _ R1 _ d1 ⟨H,Q,e5,b2,c7,rfl,rfl⟩;refine BE (b:=H) λR2 T b0=>?_
 have b3:=CT b0 b2;have a8:=d1.trans T;have W:=A.le a8;refine js rfl rfl (by simp[BW]) rfl (jp (Cf x Z) (Ab (λvs R' D'=>R2.le R'/\∃S3 g3 x3,S' = { S3 with col:=x3 }/\Ok R' S3 g3/\x3.AR = S.col.AR.dropLast/\D' = Ag p S3 g3 ++ (b,C BQ (BW x3 (S0 H S.col.AR.dropLast.length Q))) :: F/\vs = [Pt p,Pt b]) (λK hK=>?_) ?_));rotate_left
 .rintro e R3 D3 ⟨N,S3,g3,x3,e1,a4,ex,hD,he⟩;refine z_W ?_;refine JQ { S3 with col:=x3 } a4 (by rw[ex];exact b3.le N) τ λg4 a5=>?_
  subst e1;exact B7 (a8.trans N) trivial rfl a5
 refine Ab (λvs R' D'=>R' = R2/\D' = (b,C BQ (BW { S.col with AR:=S.col.AR.dropLast } (S0 H S.col.AR.dropLast.length Q))) :: (Ag p S g ++ F)/\∃c u,vs = [Pt p,Pt b,I x,I (AM x),c,u]/\GW c u go) (λK2 c0=>?_) ?_
 .refine jl rfl (jia r0 r1 (jl (by rw[eH];exact CF r2 (by rw[r3];rfl)) (jlt ?_)));by_cases a6:x < row.BH
  .rw[if_pos a6] at y;obtain⟨mk,b8,y⟩:=AF y;cases y;obtain⟨m0,m1,m2,m3⟩:=Ay b8;rw[decide_eq_true a6];refine jtt (jl rfl (jia m0 m1 (jl (by rw[eH,fY,Jy m2,m3]) ?_)));exact c0 _ _ _ ⟨rfl,rfl,_,_,rfl,Bm⟩
  .rw[if_neg a6] at y;cases y;rw[decide_eq_false a6];exact jft (c0 _ _ _ ⟨rfl,rfl,_,_,rfl,Bu⟩)
 rintro e R3 D3 ⟨N,hD,c,u,he,ha⟩;subst N;refine z_W ?_;rw[ha];refine jif (λhg=>?_) (λhg=>?_)
 .rw[hg,if_pos rfl] at j;rw[hg] at y;have hm:idx S.AQ x = some false:=by
   split at y
   .obtain⟨mk,b8,y⟩:=AF y;cases mk
    .exact b8
    .cases y
   .cases y
  obtain⟨m0,m1,m2,m3⟩:=Ay hm;obtain⟨q1,e2,j⟩:=AF j;obtain⟨rfl,e3⟩:=BB e2;obtain⟨⟨w,S1⟩,c5,j⟩:=AF j;have e1:=Cv c5;subst e1;dsimp only at j;obtain⟨lv,d4,j⟩:=AF j;obtain⟨rfl,e4⟩:=BB d4;simp only[dx] at j;refine jl rfl (jia m0 m1 ?_);rw[eH,fY];refine jsm (p:=p) { S with AQ:=AU S.AQ x true } m2 τ (Cw e3 ?_);have a4:Ok R3 { S with AQ:=AU S.AQ x true } g:={ W with ml:=by simpa [AU] using W.ml,mk_:=by simpa [AU] using W.mk_ };refine jcS (DG a4 c5) λ_ R4 g4 a1 hr a5=>?_
  subst hr;refine jp (FP w) (jex rfl (jex rfl (ja λb5=>(js rfl rfl (by exact z_n 2) rfl (jl rfl (jia r0 r1 (Sq (p:=p) (by exact r2) ?_)))))));have er:({ S with used:=true,AQ:=AU S.AQ x true }:Sim).AA[(AM x).toNat]'r2 = row:=r3;rw[er];refine ja λb6=>(js (cs':=eRg row) rfl rfl V rfl (jl rfl (jla (by exact z_n 2) τ (jp (Cb (AT w).1) (Cw e4 (Ak (jl rfl jev) (js (cs':=eRg { row with AJ:=row.AJ + AH (AT w).1 }) rfl rfl V rfl (jl rfl (jla V rfl (jia r0 r1 (VF (p:=p) { S with used:=true,AQ:=AU S.AQ x true,AA:=AU S.AA (AM x) { row with AJ:=row.AJ + AH (AT w).1 } } (by exact r2) τ ?_)))))))))))
  have c9:Ok R4 { S with used:=true,AQ:=AU S.AQ x true,AA:=AU S.AA (AM x) { row with AJ:=row.AJ + AH (AT w).1 } } g4:={ a5 with tl:=by simpa [AU] using a5.tl,tk:=by simpa [AU] using a5.tk };refine jS (BW { S.col with AR:=S.col.AR.dropLast,p:=x } (S0 H S.col.AR.dropLast.length Q)) (jS (BW { S.col with AR:=S.col.AR.dropLast,p:=x,i:=0 } (S0 H S.col.AR.dropLast.length Q)) (jla (by exact z_n 2) τ (jS (BW { S.col with AR:=S.col.AR.dropLast,p:=x,i:=0,sh:=(AT w).1 } (S0 H S.col.AR.dropLast.length Q)) (jl rfl (jgr (jif (λhc=>?_) (λhc=>?_)))))))
  .rw[if_pos (z_f hc)] at j;refine jS (BW { S.col with AR:=S.col.AR.dropLast,p:=x,i:=0,sh:=(AT w).1,pc:=2 } (S0 H S.col.AR.dropLast.length Q)) (Al (Ag p { S with used:=true,AQ:=AU S.AQ x true,AA:=AU S.AA (AM x) { row with AJ:=row.AJ + AH (AT w).1 } } g4) (G:=(b,C BQ (BW { S.col with AR:=S.col.AR.dropLast,p:=x,i:=0,sh:=(AT w).1,pc:=2 } (S0 H S.col.AR.dropLast.length Q))) :: F) (hK _ _ _ ⟨a1,_,g4,{ S.col with AR:=S.col.AR.dropLast,p:=x,i:=0,sh:=(AT w).1,pc:=2 },j.symm,c9,rfl,rfl,rfl⟩))
  .rw[if_neg (z_g hc)] at j;refine Al (Ag p { S with used:=true,AQ:=AU S.AQ x true,AA:=AU S.AA (AM x) { row with AJ:=row.AJ + AH (AT w).1 } } g4) (G:=(b,C BQ (BW { S.col with AR:=S.col.AR.dropLast,p:=x,i:=0,sh:=(AT w).1 } (S0 H S.col.AR.dropLast.length Q))) :: F) (hK _ _ _ ⟨a1,{ S with used:=true,AQ:=AU S.AQ x true,AA:=AU S.AA (AM x) { row with AJ:=row.AJ + AH (AT w).1 } },g4,{ S.col with AR:=S.col.AR.dropLast,p:=x,i:=0,sh:=(AT w).1 },j.symm,c9,rfl,rfl,rfl⟩)
 .rw[hg,if_neg δ] at j;simp only[dx] at j;refine Al (Ag p S g) (G:=(b,C BQ (BW { S.col with AR:=S.col.AR.dropLast } (S0 H S.col.AR.dropLast.length Q))) :: F) (hK _ _ _ ⟨RM.le.refl _,S,g,{ S.col with AR:=S.col.AR.dropLast },j.symm,W,rfl,rfl,rfl⟩)
theorem YM {p:Nat} {S S' : Sim} {g:Img} {R:RM} (H:Ok R S g) (j:S.carry = some S') :
  Fn P Kc [Pt p] R (Ag p S g) (DH p S' λ_=>True):=by
 refine RF λF=>?_
 refine z_1 ?_;unfold Sim.carry at j;dsimp only at j;refine Jr H λb=>?_
 obtain⟨a,A,b5,-⟩:=Aw.reads (D:=[]) H.AR;rw[b5];have a3:=H.AR;rw[b5] at a3;refine Ab (λvs R' D'=>R.le R'/\∃S2 g2 x2,S' = S2.setC x2/\Ok R' S2 g2/\x2.AR = S.col.AR/\D' = Ag p S2 g2 ++ (b,C BQ (BW x2 (.slice a S.col.AR.length A))) :: F/\vs = [Pt p,Pt b]) (λK hK=>?_) ?_;rotate_left
 .rintro e R2 D2 ⟨a0,S2,g2,x2,e1,W,ex,hD,he⟩;refine z_W ?_;refine JQ (S2.setC x2) W (by rw[ex];exact a3.le a0) τ λg3 b0=>?_
  subst e1;exact B7 a0 trivial rfl b0
 refine jl rfl (Ab (λvs R' D'=>R.le R'/\∃S2 g2 x2,S' = S2.setC x2/\Ok R' S2 g2/\x2.AR = S.col.AR/\D' = Ag p S2 g2 ++ (b,C BQ (BW x2 (.slice a S.col.AR.length A))) :: F/\vs = [Pt p,Pt b]) (λK2 Q=>?_) ?_);rotate_left
 .rintro e R2 D2 ⟨a0,S2,g2,x2,e1,W,ex,hD,he⟩;refine z_W ?_;exact hK _ _ _ ⟨a0,S2,g2,x2,e1,W,ex,rfl,rfl⟩
 refine jeq (jif (λa4=>?_) (λa4=>?_))
 .rw[if_pos (eq_of_beq a4)] at j;obtain⟨q,hq,j⟩:=AF j;obtain⟨rfl,a1⟩:=BB hq;obtain⟨⟨w,S1⟩,O,j⟩:=AF j;have e1:=Cv O;subst e1;dsimp only at j;refine jl rfl (Cw a1 (jcS (DG H O) λ_ R1 g1 x hr y=>?_));subst hr;refine jp (FP w) (jex rfl (jex rfl (ja λb3=>(js rfl rfl (by exact z_n 2) rfl (jla (by exact z_n 2) τ (jp (Cb (AT w).1) (jS (BW { S.col with size:=AH (AT w).1 } (.slice a S.col.AR.length A)) (jl rfl (jl rfl (jln (jl rfl (jmk (HB (t:=S.AA) S.th.length (AH (AT w).1) (by have:=H.tl;omega)) ?_))))))))))));intro v N a2;cases a9:BZ S.AA S.th.length (AH (AT w).1) with
  | none=>
   rw[a9] at a2 j;obtain⟨rfl,rfl⟩:=a2;simp only[dx] at j;subst j;refine jex rfl (jex rfl (jex rfl (DJ (jss { S with used:=true,full:=true } g1 rfl rfl δ τ τ (jss { S with used:=true,full:=true,stop:=true } g1 rfl rfl δ τ τ (B7 x trivial rfl { y with }))))))
  | some td=>
   obtain⟨t',d⟩:=td;rw[a9] at a2 j;obtain⟨sv,⟨b4,c4,b6,b8,rfl,rfl⟩,rfl⟩:=a2;simp only[dx] at j;have hlen:=M8 a9;refine jex rfl (jex rfl (jex rfl (CK (Ru (jS (BW { S.col with size:=AH (AT w).1,dst:=d } (.slice a S.col.AR.length A)) (jS (BW { S.col with size:=AH (AT w).1,dst:=d,i:=1 } (.slice a S.col.AR.length A)) (jS (BW { S.col with size:=AH (AT w).1,dst:=d,i:=1,pc:=21 } (.slice a S.col.AR.length A)) (Al (Ag p { S with used:=true,AA:=t' } { g1 with tb:=b4,tc:=c4,tsp:=b6 }) (G:=(b,C BQ (BW { S.col with size:=AH (AT w).1,dst:=d,i:=1,pc:=21 } (.slice a S.col.AR.length A))) :: F) (Q _ _ _ ⟨x,{ S with used:=true,AA:=t' },{ g1 with tb:=b4,tc:=c4,tsp:=b6 },{ S.col with size:=AH (AT w).1,dst:=d,i:=1,pc:=21 },j.symm,y.tab (by rw[hlen];exact H.tl) _ _ _ b8,rfl,rfl,rfl⟩)))))))))
 rw[if_neg (ne_of_beq_false a4)] at j;refine jeq (jif (λa5=>?_) (λa5=>?_))
 .rw[if_pos (eq_of_beq a5)] at j;obtain⟨q,hq,j⟩:=AF j;obtain⟨rfl,a1⟩:=BB hq;obtain⟨⟨w,S1⟩,O,j⟩:=AF j;have e1:=Cv O;subst e1;cases j;refine jl rfl (jl rfl (Cw a1 (jcS (DG H O) λ_ R1 g1 x hr y=>?_)));subst hr;refine jS (BW { S.col with word:=w } (.slice a S.col.AR.length A)) (js rfl rfl (by simp[BW]) rfl (Q _ _ _ ⟨x,{ S with used:=true },g1,{ S.col with word:=w,pc:=22 },rfl,y,rfl,rfl,rfl⟩))
 rw[if_neg (ne_of_beq_false a5)] at j;refine jeq (jif (λa6=>?_) (λa6=>?_))
 .rw[if_pos (eq_of_beq a6)] at j;obtain⟨q,hq,j⟩:=AF j;obtain⟨rfl,a1⟩:=BB hq;obtain⟨S1,T,j⟩:=AF j;have e1:=F3 T;subst e1;obtain⟨n,hn,j⟩:=AF j;obtain⟨rfl,b2⟩:=BB hn;cases j;refine jl rfl (jl rfl (Cw a1 (jl rfl (jcS (Du H T) λ_ R1 g1 x hr y=>(jl rfl (Cw b2 (jS (BW { S.col with i:=S.col.i + 1 } (.slice a S.col.AR.length A)) (jS (BW { S.col with i:=S.col.i + 1,pc:=21 } (.slice a S.col.AR.length A)) (jl rfl (jl rfl (jeq (jif (λhz=>?_) (λhz=>?_)))))))))))))
  .refine js rfl rfl (by simp[BW]) rfl (Q _ _ _ ⟨x,{ S with used:=true,AC:=AU S.AC (S.col.dst + S.col.i) S.col.word },g1,{ S.col with i:=S.col.i + 1,pc:=23 },(by rw[if_pos (eq_of_beq hz)]),y,rfl,rfl,rfl⟩)
  .exact Q _ _ _ ⟨x,{ S with used:=true,AC:=AU S.AC (S.col.dst + S.col.i) S.col.word },g1,{ S.col with i:=S.col.i + 1,pc:=21 },(by rw[if_neg (ne_of_beq_false hz)]),y,rfl,rfl,rfl⟩
 rw[if_neg (ne_of_beq_false a6)] at j;refine jeq (jif (λa7=>?_) (λa7=>?_))
 .rw[if_pos (eq_of_beq a7)] at j;obtain⟨S1,T,j⟩:=AF j;have e1:=F3 T;subst e1;cases j;refine jl rfl (jl rfl (jcS (Du H T) λ_ R1 g1 x hr y=>(js rfl rfl (by simp[BW]) rfl (Q _ _ _ ⟨x,{ S with used:=true,AC:=AU S.AC S.col.dst S.col.dst },g1,{ S.col with pc:=24 },rfl,y,rfl,rfl,rfl⟩))))
 rw[if_neg (ne_of_beq_false a7)] at j;refine jeq (jif (λa8=>?_) (λa8=>?_));rotate_left
 .rw[if_neg (ne_of_beq_false a8)] at j;cases j;exact BC eP.symm (Q _ _ _ ⟨RM.le.refl _,S,g,S.col,rfl,H,rfl,rfl,rfl⟩)
 rw[if_pos (eq_of_beq a8)] at j;obtain⟨⟨w,S1⟩,O,j⟩:=AF j;have e1:=Cv O;subst e1;dsimp only at j;obtain⟨S3,h3,j⟩:=AF j;cases j;refine Ab (λvs R' D'=>R.le R'/\∃g2,Ok R' S3 g2/\D' = Ag p S3 g2 ++ (b,C BQ (BW S.col (.slice a S.col.AR.length A))) :: F/\vs = [Pt p,Pt b]) (λK3 b1=>?_) ?_;rotate_left
 .rintro e R2 D2 ⟨hR,g2,W,hD,he⟩;refine z_W ?_;refine js rfl rfl (by simp[BW]) rfl (Q _ _ _ ⟨hR,S3,g2,{ S.col with pc:=5 },rfl,W,rfl,rfl,rfl⟩)
 refine jl rfl (jl rfl (jcS (DG H O) λ_ R1 g1 x hr y=>?_));subst hr;refine jeq (Ak (jl rfl jev) (jif (λhw=>?_) (λhw=>?_)))
 .rw[if_pos (eq_of_beq hw)] at h3;obtain⟨S2,T,h3⟩:=AF h3;refine jl rfl (jl rfl (jcS (Du y T) λ_ R2 g2 a0 hr W=>(jl rfl (jl rfl (jcS (XD W h3) λ_ R3 g3 b7 hr b0=>(b1 _ _ _ ⟨(x.trans a0).trans b7,g3,b0,rfl,rfl⟩))))))
 .rw[if_neg (ne_of_beq_false hw)] at h3;cases h3;exact b1 _ _ _ ⟨x,g1,y,rfl,rfl⟩
theorem Ov {R:RM} {S:Sim} {g:Img} {r:Int} {row:Rg} (h:idx S.AA r = some row) {f:Nat} {v:Value} (y:(eRg row)[f]? = some v):(Af eRg S.AA ++ g.tsp)[0 + r.toNat * 5 + f]? = some v:=by
 obtain⟨h0,A,j,x⟩:=Ay h;rw[eH];exact CF j (by rw[x];exact y)
theorem aa {p:Nat} {S S' : Sim} {g:Img} {R:RM} (H:Ok R S g) (N:S.walk = some S') :
  Fn P NA [Pt p] R (Ag p S g) (DH p S' λ_=>True):=by
 refine Sz λF=>?_
 refine z_1 ?_;unfold Sim.walk at N;dsimp only at N;obtain⟨⟨r,q⟩,b9,N⟩:=AF N;dsimp only at N;have c7:=H.tl;have c5:=H.ml;refine Jr H λb=>?_
 obtain⟨a,x,b0,-⟩:=Aw.reads (D:=[]) H.AR;rw[b0];have W:=H.AR;rw[b0] at W;refine Ab (λvs R' D'=>R' = R/\D' = (b,C BQ (BW { S.col with r:=r,p:=q } (.slice a S.col.AR.length x))) :: (Ag p S g ++ F)/\vs = [Pt p,Pt b]) (λK hK=>?_) ?_
 .refine jcI hK λK2 a6=>?_
  refine jlp (λn vs R' D'=>R' = R/\∃r1 q1,D' = (b,C BQ (BW { S.col with r:=r1,p:=q1 } (.slice a S.col.AR.length x))) :: (Ag p S g ++ F)/\vs = [Pt p,Pt b]/\S.walkOut n r1 q1 = some (r,q))
   ⟨rfl,S.col.r,S.col.p,rfl,rfl,b9⟩ ?_
  rintro n e R1 D1 K3 ⟨a0,r1,q1,hD,he,A⟩ b3;subst a0;refine z_W ?_;cases n with
  | zero=>cases A
  | succ n=>
   unfold Sim.walkOut at A;refine jl rfl (jl rfl (jln (jlt (jif (λhc=>?_) (λhc=>?_)))));rotate_left
   .rw[if_neg (z_g hc)] at A;cases A;exact a6 _ _ _ ⟨rfl,rfl,rfl⟩
   have hc:=z_f hc;rw[if_pos hc] at A;obtain⟨row,a9,A⟩:=AF A;obtain⟨q2,j,A⟩:=AF A;obtain⟨r0,c4,r2,r3⟩:=Ay a9;refine jl rfl (jl rfl (jia r0 c4 ?_));have Q:=Dc (f:=eRg) (w:=5) (λ_=>rfl) (sp:=g.tsp) r2;rw[r3] at Q;refine jla (l:=eRg row) (by rw[eH];exact Fs r2) (by rw[eH];exact Q) (ja λb5=>(Ak (jl rfl jev) (Ak (jl rfl jev) (Ak (jla (by rw[eH];exact Fs r2) (by rw[eH];exact Q) jev) (js rfl rfl (by exact z_n 5) rfl (Ab (λvs R' D'=>R' = R1/\D' = (b5,C 113 (eRg row)) :: (b,C BQ (BW { S.col with r:=r1,p:=q2 } (.slice a S.col.AR.length x))) :: (Ag p S g ++ F)/\vs = [Pt p,Pt b,Pt b5]) (λK4 b4=>?_) ?_))))))
   .refine jcI b4 λK5 a7=>?_
    refine jlp (λm vs R' D'=>R' = R1/\∃q3,D' = (b5,C 113 (eRg row)) :: (b,C BQ (BW { S.col with r:=r1,p:=q3 } (.slice a S.col.AR.length x))) :: (Ag p S g ++ F)/\vs = [Pt p,Pt b,Pt b5]/\KA S.AQ row m q3 = some q2)
     ⟨rfl,q1,rfl,rfl,j⟩ ?_
    rintro m e R2 D2 K6 ⟨O,q3,hD,he,j⟩ b6;subst O;refine z_W ?_;cases m with
    | zero=>cases j
    | succ m=>
     unfold KA at j;refine jan [Pt p,Pt b,Pt b5] ((row.kind == 4) && (decide (q3 < row.top))) (λK' G=>?_) (λe c u ho he=>?_)
     .refine jl rfl (jeq (jgA G λh1 hN=>jl rfl (jl rfl (jlt hN))))
     refine z_V ?_;by_cases hk:row.kind = 4/\q3 < row.top
     .rw[if_pos hk] at j;obtain⟨mk,b7,j⟩:=AF j;obtain⟨m0,m1,m2,m3⟩:=Ay b7;have a2:(row.kind == 4 && decide (q3 < row.top)) = true:=by simp[hk.1,hk.2]
      refine jan [Pt p,Pt b,Pt b5] (!mk) (λK' G=>?_) (λe c u a3 he=>?_)
      .rw[ho,a2];refine jtt (jl rfl (jl rfl (jia m0 m1 (jl (by rw[eH,fY,Jy m2,m3]) ?_))));exact G _ _ _ Bm rfl
      .refine z_V ?_;rw[a3];cases mk with
       | true=>
        simp only[if_true] at j;cases j;exact CK (a7 _ _ _ ⟨rfl,rfl,rfl⟩)
       | false=>
        simp only[eO,if_false] at j;refine DJ (jl (v:=I q3) rfl (jad (js rfl rfl (by simp[BW]) rfl (b6 m _ _ _ Z ⟨rfl,q3 + 1,rfl,rfl,j⟩))))
     .rw[if_neg hk] at j;have a2:(row.kind == 4 && decide (q3 < row.top)) = false:=by
       rw[gj,decide_eq_false_iff_not,beq_eq_false_iff_ne];by_cases h:row.kind = 4
       .exact .inr λh2=>hk ⟨h,h2⟩
       .exact .inl h
      refine jan [Pt p,Pt b,Pt b5] false (λK' G=>?_) (λe c u a3 he=>?_)
      .rw[ho,a2];exact jft (G _ _ _ Bu rfl)
      .refine z_V ?_;rw[a3];cases j;exact CK (a7 _ _ _ ⟨rfl,rfl,rfl⟩)
   .rintro e R2 D2 ⟨O,hD,he⟩;subst O;refine z_W ?_;refine jan [Pt p,Pt b] ((row.kind == 4) && (decide (q2 < row.top))) (λK' G=>?_) (λe c u ho he=>?_)
    .refine jl rfl (jeq (jgA G λh1 hN=>jl rfl (jl rfl (jlt hN))))
    refine z_V ?_;rw[ho];refine jif (λhk=>?_) (λhk=>?_)
    .rw[if_pos (by simpa using hk)] at A;cases A;exact BT (a6 _ _ _ ⟨rfl,rfl,rfl⟩)
    .rw[if_neg (by intro h;simp[h.1,h.2] at hk)] at A;refine jl (v:=I r1) rfl (jad (jS (BW { S.col with r:=r1 + 1,p:=q2 } (.slice a S.col.AR.length x)) (jl (v:=I (r1 + 1)) rfl (Ha ⟨Z,Z⟩ (js rfl rfl (by simp[BW]) rfl (BT (b3 n _ _ _ Z ⟨rfl,r1 + 1,(r1 + 1) * 16,rfl,rfl,A⟩)))))))
 .rintro e R2 D2 ⟨O,hD,he⟩;subst O;refine z_W ?_;refine jl rfl (jl rfl (jln (jeq (jif (λhc=>?_) (λhc=>?_)))))
  .rw[if_pos (by have:=eq_of_beq hc;exact this)] at N;cases N;refine jss { S with stop:=true } g rfl rfl δ τ τ (jS (BW { S.col with r:=r,p:=q,want:=3 } (.slice a S.col.AR.length x)) (JQ { S with stop:=true,col:={ S.col with r:=r,p:=q,want:=3 } } (by exact { H with }) (by exact W) τ λg3 a5=>(B7 (RM.le.refl _) trivial rfl a5)))
  .rw[if_neg (by have:=ne_of_beq_false hc;exact this)] at N;obtain⟨q1,b8,N⟩:=AF N;obtain⟨rfl,b1⟩:=BB b8;obtain⟨⟨w,S1⟩,a4,N⟩:=AF N;have T:=a4;simp only[Sim.read] at T;have c6:0<=q:=by
    split at T
    .exact (Ay (by assumption)).1
    .cases T
   have a1:inR q:=⟨Z,by have:=b1.2;omega⟩;have e1:=Cv a4;subst e1;simp only[dx] at N;refine jl rfl (Cw b1 (jS (BW { S.col with r:=r,p:=q + 1 } (.slice a S.col.AR.length x)) ?_));have y:q + 1 - 1 = q:=Z
   refine Ab (λvs R' D'=>R2.le R'/\∃g2,Ok R' { S with used:=true } g2/\D' = Ag p { S with used:=true } g2 ++ (b,C BQ (BW (if w = q then { S.col with r:=r,p:=q + 1,src:=q,pc:=20 } else { S.col with r:=r,p:=q + 1 }) (.slice a S.col.AR.length x))) :: F/\vs = [Pt p,Pt b]) (λK hK=>?_) ?_
   .refine jl rfl (Sd (by rw[y];exact a1) (jl rfl (Sd (by rw[y];exact a1) ?_)));rw[y];refine jcS (DG H a4) λ_ R1 g1 a0 hr b2=>?_
    subst hr;refine jeq (Ak (jl rfl ?_) (jif (λA=>?_) (λA=>?_)))
    .exact jev
    .refine jl rfl (Sd (by rw[y];exact a1) ?_);rw[y];refine jS (BW { S.col with r:=r,p:=q + 1,src:=q } (.slice a S.col.AR.length x)) (jS (BW { S.col with r:=r,p:=q + 1,src:=q,pc:=20 } (.slice a S.col.AR.length x)) (hK _ _ _ ⟨a0,g1,b2,by rw[if_pos (eq_of_beq A)],rfl⟩))
    .exact hK _ _ _ ⟨a0,g1,b2,by rw[if_neg (ne_of_beq_false A)],rfl⟩
   .rintro e R3 D3 ⟨a8,g2,c0,hD,he⟩;refine z_W ?_;have hx:(if w = q then { S.col with r:=r,p:=q + 1,src:=q,pc:=20 } else { S.col with r:=r,p:=q + 1 }:Col).AR = S.col.AR:=by split<;>rfl
    refine JQ (({ S with used:=true }:Sim).setC (if w = q then { S.col with r:=r,p:=q + 1,src:=q,pc:=20 } else { S.col with r:=r,p:=q + 1 })) c0 (by rw[hx];exact W.le a8) τ λg3 a5=>?_
    subst N;exact B7 a8 trivial rfl a5
theorem jgu {R:RM} {D:Chs} {w:Bool} {a b:M} (H:J R D b):J R D (GT (.tuple #[]) w a b):=H
theorem Yc {p:Nat} {S S' : Sim} {g:Img} {R:RM} (hok:Ok R S g) (hS:S.renew = some S') :
  Fn P Kz [Pt p] R (Ag p S g) (DH p S' λ_=>True):=by
 refine QO λF=>?_
 refine z_1 ?_;unfold Sim.renew at hS;have htl:=hok.tl;refine Jr hok λb=>?_
 obtain⟨a,cap,hsv,-⟩:=Aw.reads (D:=[]) hok.AR;rw[hsv];have hst0:=hok.AR;rw[hsv] at hst0;refine Ab (λvs R' D'=>R.le R'/\∃S2 g2 x2,S' = S2.setC x2/\Ok R' S2 g2/\x2.AR = S.col.AR/\D' = Ag p S2 g2 ++ (b,C BQ (BW x2 (.slice a S.col.AR.length cap))) :: F/\vs = [Pt p,Pt b]) (λK hK=>?_) ?_;rotate_left
 .rintro e R2 D2 ⟨hR2,S2,g2,x2,e1,ok2,ex,hD,he⟩;refine z_W ?_;refine JQ (S2.setC x2) ok2 (by rw[ex];exact hst0.le hR2) τ λg3 ok3=>?_
  subst e1;exact B7 hR2 trivial rfl ok3
 refine jl rfl (Ab (λvs R' D'=>R.le R'/\∃S2 g2 x2,S' = S2.setC x2/\Ok R' S2 g2/\x2.AR = S.col.AR/\D' = Ag p S2 g2 ++ (b,C BQ (BW x2 (.slice a S.col.AR.length cap))) :: F/\vs = [Pt p,Pt b]) (λK2 hK2=>?_) ?_);rotate_left
 .rintro e R2 D2 ⟨hR2,S2,g2,x2,e1,ok2,ex,hD,he⟩;refine z_W ?_;exact hK _ _ _ ⟨hR2,S2,g2,x2,e1,ok2,ex,rfl,rfl⟩
 have back:∀(R' : RM) (S2:Sim) (g2:Img) (x2:Col),R.le R'->S' = S2.setC x2->Ok R' S2 g2->x2.AR = S.col.AR->J R' (Ag p S2 g2 ++ (b,C BQ (BW x2 (.slice a S.col.AR.length cap))) :: F) (K2 [Pt p,Pt b]):=λR' S2 g2 x2 h1 h2 h3 h4=>hK2 _ _ _ ⟨h1,S2,g2,x2,h2,h3,h4,rfl,rfl⟩
 refine jeq (jif (λc6=>?_) (λc6=>?_))
 .rw[if_pos (eq_of_beq c6)] at hS;obtain⟨⟨r,q⟩,hro,hS⟩:=AF hS;dsimp only at hS;refine Ab (λvs R' D'=>R' = R/\D' = (b,C BQ (BW { S.col with r:=r,p:=q } (.slice a S.col.AR.length cap))) :: (Ag p S g ++ F)/\vs = [Pt p,Pt b]) (λK3 hK3=>?_) ?_
  .refine jcI hK3 λK4 hK4=>?_
   refine jlp (λn vs R' D'=>R' = R/\∃r1 q1,D' = (b,C BQ (BW { S.col with r:=r1,p:=q1 } (.slice a S.col.AR.length cap))) :: (Ag p S g ++ F)/\vs = [Pt p,Pt b]/\S.renewTo n r1 q1 = some (r,q))
    ⟨rfl,S.col.r,S.col.p,rfl,rfl,hro⟩ ?_
   rintro n e R1 D1 K5 ⟨hR1,r1,q1,hD,he,hw⟩ hK5;subst hR1;refine z_W ?_;cases n with
   | zero=>cases hw
   | succ n=>
    unfold Sim.renewTo at hw;refine Ab (λvs R' D'=>R' = R1/\D' = (b,C BQ (BW { S.col with r:=r1,p:=q1 } (.slice a S.col.AR.length cap))) :: (Ag p S g ++ F)/\∃v:Bool,vs = [Pt p,Pt b,.bool v]/\((v = true/\S.renewTo n (r1 + 1) ((r1 + 1) * 16) = some (r,q)/\r1 < S.AA.length/\0<=r1)\/(v = false/\r1 = r/\q1 = q))) (λK6 hK6=>?_) ?_;rotate_left
    .rintro e R2 D2 ⟨hR2,hD,v,he,hv⟩;subst hR2;refine z_W ?_;rcases hv with ⟨rfl,hw2,hlt,hge⟩ | ⟨rfl,rfl,rfl⟩
     .refine DJ (jl (v:=I r1) rfl (jad (jS (BW { S.col with r:=r1 + 1,p:=q1 } (.slice a S.col.AR.length cap)) (jl (v:=I (r1 + 1)) rfl (Ha ⟨Z,Z⟩ (js rfl rfl (by simp[BW]) rfl (hK5 n _ _ _ Z ⟨rfl,r1 + 1,(r1 + 1) * 16,rfl,rfl,hw2⟩)))))))
     .exact CK (hK4 _ _ _ ⟨rfl,rfl,rfl⟩)
    by_cases hc:r1 < S.AA.length
    .rw[if_pos hc] at hw;obtain⟨row,hrow,hw⟩:=AF hw;obtain⟨vv,hvv,hw⟩:=AF hw;obtain⟨r0,r1',r2,r3⟩:=Ay hrow;refine Ce (jl rfl (jl rfl (jln (jlt ?_))));rw[decide_eq_true hc];refine jtt (jl rfl (jl rfl (jia r0 r1' (jl (Ov (R:=R1) hrow rfl) (jeq ?_)))));by_cases hk:row.kind = 4
     .rw[if_pos hk] at hvv;cases hvv;rw[show (row.kind == 4) = true from by simp[hk]];refine jtf (C6 λe he=>?_);refine z_V ?_;refine jtf (Ce (jtf (C6 λe he=>?_)));refine z_V ?_;refine Ce (jtt (EN (C6 λe he=>?_)));refine z_V ?_;refine EN (Ak (jtf jev) (Ak (jtf jev) (Ak (jtf jev) (Ak (jtf jev) (hK6 _ _ _ ⟨rfl,rfl,true,rfl,.inl ⟨rfl,hw,hc,r0⟩⟩)))))
     .rw[if_neg hk] at hvv;obtain⟨bl,hbl,hvv⟩:=AF hvv;obtain⟨rfl,hin⟩:=BB hbl;cases hvv;rw[show (row.kind == 4) = false from by simp[hk]];refine jff (jl rfl (jl rfl (jl rfl (jl rfl (jia r0 r1' (jl (Ov (R:=R1) hrow rfl) (C6 λe he=>?_)))))));refine z_V ?_;refine jff (jp (Bf r1) (Ce (jff (Cw hin (jge (C6 λe he=>?_))))));refine z_V ?_;refine Ce (jtt (ER (C6 λe he=>?_)));refine z_V ?_;refine EN (Ak (jff (jl rfl jev)) (Ak (jff (jl rfl jev)) (Ak (jff (jl rfl jev)) (Ak (jff (jl (Ov (R:=R1) hrow rfl) jev)) (hK6 _ _ _ ⟨rfl,rfl,decide (q1>=AK r1 + row.AJ),rfl,?_⟩)))));by_cases hd:AK r1 + row.AJ<=q1
      .rw[decide_eq_true hd,if_pos rfl] at hw;exact .inl ⟨decide_eq_true hd,hw,hc,r0⟩
      .rw[decide_eq_false hd,if_neg δ] at hw;cases hw;exact .inr ⟨decide_eq_false hd,rfl,rfl⟩
    .rw[if_neg hc] at hw;simp only[dx,Prod.mk.injEq] at hw;refine Ce (jl rfl (jl rfl (jln (jlt ?_))));rw[decide_eq_false hc];refine jft (C6 λe he=>?_);refine z_V ?_;refine jgu (Ce (jgu (C6 λe he=>?_)));refine z_V ?_;refine Ce (jft (C6 λe he=>?_));refine z_V ?_;refine ER (Ak (jgu jev) (Ak (jgu jev) (Ak (jgu jev) (Ak (jgu jev) (hK6 _ _ _ ⟨rfl,rfl,false,rfl,.inr ⟨rfl,hw.1,hw.2⟩⟩)))))
  .rintro e R2 D2 ⟨hR2,hD,he⟩;subst hR2;refine z_W ?_;refine jl rfl (jl rfl (jln (jeq (jif (λhc=>?_) (λhc=>?_)))))
   .rw[if_pos (by have:=eq_of_beq hc;exact this)] at hS;refine jss { S with stop:=true } g rfl rfl δ τ τ (js rfl rfl (by simp[BW]) rfl (back _ { S with stop:=true } g { S.col with r:=r,p:=q,want:=0 } (RM.le.refl _) (fN hS).symm { hok with } rfl))
   .rw[if_neg (by have:=ne_of_beq_false hc;exact this)] at hS;obtain⟨q1,hq1,hS⟩:=AF hS;obtain⟨rfl,in1⟩:=BB hq1;obtain⟨⟨w,S1⟩,hrd,hS⟩:=AF hS;have e1:=Cv hrd;subst e1;dsimp only at hS;obtain⟨q2,hq2,hS⟩:=AF hS;obtain⟨rfl,in2⟩:=BB hq2;obtain⟨row,hrow,hS⟩:=AF hS;obtain⟨go,hgo,hS⟩:=AF hS;obtain⟨r0,r1',r2,r3⟩:=Ay hrow;refine jl rfl (jS (BW { S.col with r:=r,p:=q,f:=q } (.slice a S.col.AR.length cap)) (jl rfl (Cw in1 (jcS (DG hok hrd) λ_ R1 g1 hR1 hr ok1=>?_))));subst hr;refine jp (FP w) (jex rfl (jex rfl (ja λb3=>(js rfl rfl (by exact z_n 2) rfl (jla (by exact z_n 2) τ (jS (BW { S.col with r:=r,p:=q,f:=q,sh:=(AT w).1 } (.slice a S.col.AR.length cap)) (jl rfl (jfo (jla (by simp[BW]) τ (jp (Cb (AT w).1) (Cw in2 (Ak (jl rfl jev) (jS (BW { S.col with r:=r,p:=q + AH (AT w).1,f:=q,sh:=(AT w).1 } (.slice a S.col.AR.length cap)) (jS (BW { S.col with r:=r,p:=q + AH (AT w).1,f:=q,sh:=(AT w).1,i:=0 } (.slice a S.col.AR.length cap)) (Ab (λvs R' D'=>R' = R1/\D' = Ag p { S with used:=true } g1 ++ (b,C BQ (BW { S.col with r:=r,p:=q + AH (AT w).1,f:=q,sh:=(AT w).1,i:=0 } (.slice a S.col.AR.length cap))) :: F/\∃c u,vs = [Pt p,Pt b,c,u]/\GW c u go) (λK7 hK7=>?_) ?_)))))))))))))))
    .refine Al (Ag p { S with used:=true } g1) (G:=(b,C BQ (BW { S.col with r:=r,p:=q + AH (AT w).1,f:=q,sh:=(AT w).1,i:=0 } (.slice a S.col.AR.length cap))) :: F) (jl rfl (jgr ?_));by_cases hrf:0 < (AT w).1.refs
     .rw[if_pos hrf] at hgo;rw[decide_eq_true (show (AT w).1.refs > 0 from hrf)];refine jtt (jl rfl (jl rfl (jl rfl (jia r0 r1' (jl (Ov (R:=R1) hrow rfl) (jge ?_))))));by_cases ht:row.BH<=q
      .rw[if_pos ht] at hgo;cases hgo;rw[decide_eq_true (show q>=row.BH from ht)];exact jtf (EN (hK7 _ _ _ ⟨rfl,rfl,_,_,rfl,Bm⟩))
      .rw[if_neg ht] at hgo;rw[decide_eq_false (show ¬ q>=row.BH from ht)];obtain⟨m0,m1,m2,m3⟩:=Ay hgo;refine jff (jl rfl (jl rfl (jia m0 m1 (jl (by rw[eH,fY];show (S.AQ.map Value.bool ++ g1.msp)[q.toNat]? = _;rw[Jy m2,m3]) (ER (hK7 _ _ _ ⟨rfl,rfl,_,_,rfl,Bm⟩))))))
     .rw[if_neg hrf] at hgo;cases hgo;rw[decide_eq_false (show ¬ (AT w).1.refs > 0 from hrf)];exact jft (hK7 _ _ _ ⟨rfl,rfl,_,_,rfl,Bu⟩)
    .rintro e R3 D3 ⟨hR3,hD,c,u,he,ha⟩;subst hR3;refine z_W ?_;rw[ha];refine jif (λhg=>?_) (λhg=>?_)
     .rw[if_pos hg] at hS;refine js rfl rfl (by simp[BW]) rfl (back _ { S with used:=true } g1 { S.col with r:=r,p:=q + AH (AT w).1,f:=q,sh:=(AT w).1,i:=0,pc:=7 } hR1 (fN hS).symm ok1 rfl)
     .rw[if_neg (by rw[hg];decide)] at hS;exact back _ { S with used:=true } g1 { S.col with r:=r,p:=q + AH (AT w).1,f:=q,sh:=(AT w).1,i:=0 } hR1 (fN hS).symm ok1 rfl
 rw[if_neg (ne_of_beq_false c6)] at hS;refine jeq (jif (λc7=>?_) (λc7=>?_))
 .rw[if_pos (eq_of_beq c7)] at hS;obtain⟨q1,hq1,hS⟩:=AF hS;obtain⟨rfl,in1⟩:=BB hq1;obtain⟨q2,hq2,hS⟩:=AF hS;obtain⟨rfl,in2⟩:=BB hq2;obtain⟨⟨w,S1⟩,hrd,hS⟩:=AF hS;have e1:=Cv hrd;subst e1;dsimp only at hS;obtain⟨fr,hfr,hS⟩:=AF hS;refine jl rfl (Cw in1 (jl rfl (Cw in2 (jcS (DG hok hrd) λ_ R1 g1 hR1 hr ok1=>?_))));subst hr;refine jS (BW { S.col with v:=w } (.slice a S.col.AR.length cap)) (jl rfl (jcS (M6 ok1 hfr) λ_ R2 g2 hR2 hr ok2=>?_));subst hr;refine jif (λhf=>?_) (λhf=>?_)
  .rw[if_pos hf] at hS;refine js rfl rfl (by simp[BW]) rfl (back _ { S with used:=true } g2 { S.col with v:=w,pc:=8 } (hR1.trans hR2) (fN hS).symm ok2 rfl)
  .rw[if_neg (by rw[hf];decide)] at hS;obtain⟨x2,hx,hS⟩:=AF hS;have ex:x2.AR = S.col.AR:=by
    obtain⟨i1,_,h⟩:=AF hx;cases h;rfl
   refine jla (by exact z_n 15) τ (jp (Lk a S.col.AR.length cap hx) (js rfl rfl (by exact z_n 15) rfl (back _ { S with used:=true } g2 x2 (hR1.trans hR2) (fN hS).symm ok2 ex)))
 rw[if_neg (ne_of_beq_false c7)] at hS;refine jeq (jif (λc8=>?_) (λc8=>?_))
 .rw[if_pos (eq_of_beq c8)] at hS;obtain⟨⟨w,S1⟩,hrd,hS⟩:=AF hS;have e1:=Cv hrd;subst e1;dsimp only at hS;refine jl rfl (jcS (DG hok hrd) λ_ R1 g1 hR1 hr ok1=>?_);subst hr;refine jS (BW { S.col with word:=w } (.slice a S.col.AR.length cap)) (js rfl rfl (by simp[BW]) rfl (jl rfl (jl rfl (jeq (jif (λhf=>?_) (λhf=>?_))))))
  .rw[if_pos (eq_of_beq hf)] at hS;obtain⟨x2,hx,hS⟩:=AF hS;have ex:x2.AR = S.col.AR:=by
    obtain⟨i1,_,h⟩:=AF hx;cases h;rfl
   refine jla (by exact z_n 15) τ (jp (Lk a S.col.AR.length cap hx) (js rfl rfl (by exact z_n 15) rfl (back _ { S with used:=true } g1 x2 hR1 (fN hS).symm ok1 ex)))
  .rw[if_neg (ne_of_beq_false hf)] at hS;exact back _ { S with used:=true } g1 { S.col with word:=w,pc:=9 } hR1 (fN hS).symm ok1 rfl
 rw[if_neg (ne_of_beq_false c8)] at hS;refine jeq (jif (λc9=>?_) (λc9=>?_));rotate_left
 .rw[if_neg (ne_of_beq_false c9)] at hS;exact BC eP.symm (back _ S g S.col (RM.le.refl _) (fN hS).symm hok rfl)
 rw[if_pos (eq_of_beq c9)] at hS;obtain⟨q1,hq1,hS⟩:=AF hS;obtain⟨rfl,in1⟩:=BB hq1;obtain⟨q2,hq2,hS⟩:=AF hS;obtain⟨rfl,in2⟩:=BB hq2;obtain⟨⟨w,S1⟩,hrd,hS⟩:=AF hS;have e1:=Cv hrd;subst e1;dsimp only at hS;obtain⟨S3,h3,hS⟩:=AF hS;obtain⟨x2,hx,hS⟩:=AF hS;have ex:x2.AR = S.col.AR:=by
  obtain⟨i1,_,h⟩:=AF hx;cases h;rfl
 refine Ab (λvs R' D'=>R.le R'/\∃g2,Ok R' S3 g2/\D' = Ag p S3 g2 ++ (b,C BQ (BW S.col (.slice a S.col.AR.length cap))) :: F/\vs = [Pt p,Pt b]) (λK3 hK3=>?_) ?_;rotate_left
 .rintro e R2 D2 ⟨hR,g2,ok2,hD,he⟩;refine z_W ?_;refine jla (by exact z_n 15) τ (jp (Lk a S.col.AR.length cap hx) (js rfl rfl (by exact z_n 15) rfl (back _ S3 g2 x2 hR (fN hS).symm ok2 ex)))
 refine jl rfl (Cw in1 (jl rfl (Cw in2 (jl rfl (jcS (DG hok hrd) λ_ R1 g1 hR1 hr ok1=>?_)))));subst hr;refine jeq (Ak (jl rfl jev) (jif (λhw=>?_) (λhw=>?_)))
 .rw[if_pos (eq_of_beq hw)] at h3;refine jl rfl (Cw in1 (jl rfl (Cw in2 (jl rfl (jcS (Du ok1 h3) λ_ R2 g2 hR2 hr ok2=>(hK3 _ _ _ ⟨hR1.trans hR2,g2,ok2,rfl,rfl⟩))))))
 .rw[if_neg (ne_of_beq_false hw)] at h3;cases h3;exact hK3 _ _ _ ⟨hR1,g1,ok1,rfl,rfl⟩
end Go.Lf
end
section
namespace Go.Lf
open Go Sm
theorem aC {p:Nat} {S S' : Sim} {g:Img} {R:RM} (A:Ok R S g) (y:S.work = some S') :
  Fn P MF [Pt p] R (Ag p S g) (DH p S' λ_=>True):=by
 refine TK λF=>?_
 refine z_1 ?_;unfold Sim.work at y;refine jan [Pt p] ((S.Ac == 1) && (S.col.pc == 1)) (λT G=>?_) (λe c u Q he=>?_)
 .refine jl rfl (jeq (jgA G λD O=>jl rfl (jeq O)))
 refine z_V ?_;rw[Q];refine jif (λhc=>?_) (λhc=>?_)
 .rw[if_pos (by simpa using hc)] at y;refine jcS (Xp A y) λ_ H K j N x=>(B7 j trivial rfl x)
 rw[if_neg (by intro h;simp[h.1,h.2] at hc)] at y;refine jl rfl (jeq (jif (λD=>?_) (λD=>?_)))
 .rw[if_pos (eq_of_beq D)] at y;refine jcS (X3 A y) λ_ H K j N x=>(B7 j trivial rfl x)
 rw[if_neg (ne_of_beq_false D)] at y;refine jan [Pt p] ((S.Ac == 2) && (S.col.pc == 5)) (λT G=>?_) (λe c u Q he=>?_)
 .refine jl rfl (jeq (jgA G λD O=>jl rfl (jeq O)))
 refine z_V ?_;rw[Q];refine jif (λhc=>?_) (λhc=>?_)
 .rw[if_pos (by simpa using hc)] at y;refine jcS (aa A y) λ_ H K j N x=>(B7 j trivial rfl x)
 rw[if_neg (by intro h;simp[h.1,h.2] at hc)] at y;refine jl rfl (jeq (jif (λD=>?_) (λD=>?_)))
 .rw[if_pos (eq_of_beq D)] at y;refine jcS (YM A y) λ_ H K j N x=>(B7 j trivial rfl x)
 .rw[if_neg (ne_of_beq_false D)] at y;refine jcS (Yc A y) λ_ H K j N x=>(B7 j trivial rfl x)
theorem bN {R:RM} {D G:Chs} {p b c:Nat} {S:Sim} {g:Img} {ms:List Bool} {sp:List Value} {m:M} [w:Fd D p S g G]
  (H:J R (Ag p { S with AQ:=ms } { g with mb:=b,mc:=c,msp:=sp } ++ G) m) :
  J R ((b,C Az (ms.map Value.bool ++ sp)) :: D) (ST 1 (.pointer (some ⟨p,6,none⟩)) (S0 b ms.length c) m):=by
 refine BC ((w.ex.cons _).trans eP.symm) ?_;have j:Ch { S with AQ:=ms } { g with mb:=b,mc:=c,msp:=sp } = (Ch S g).set 6 (S0 b ms.length c):=by
  simp[Ch,evV]
 refine js (cs':=Ch { S with AQ:=ms } { g with mb:=b,mc:=c,msp:=sp })
  (D':=(p,C CH (Ch { S with AQ:=ms } { g with mb:=b,mc:=c,msp:=sp })) :: ((g.wb,C Ad (S.AC.map I ++ g.wsp)) :: (g.tb,C AS (Af eRg S.AA ++ g.tsp)) :: (g.mb,C Az (S.AQ.map Value.bool ++ g.msp)) :: (g.hb,C Ae (Et S.th g.rv ++ g.hsp)) :: evD S g ++ (b,C Az (ms.map Value.bool ++ sp)) :: G)) rfl rfl (by simp[Ch]) (by rw[j,show cl (S0 b ms.length c) = [S0 b ms.length c] from rfl,Gi (by simp[Ch])]) ?_ (u:=?_)
 .unfold Ag;exact inferInstance
 .refine Al ((p,C CH (Ch { S with AQ:=ms } { g with mb:=b,mc:=c,msp:=sp })) :: (g.wb,C Ad (S.AC.map I ++ g.wsp)) :: (g.tb,C AS (Af eRg S.AA ++ g.tsp)) :: (b,C Az (ms.map Value.bool ++ sp)) :: (g.hb,C Ae (Et S.th g.rv ++ g.hsp)) :: evD S g) (G:=G) (H)
theorem Q5 {p:Nat} {S:Sim} {g:Img} {R:RM} (j:Ok R S g) :
  Fn P JD [Pt p] R (Ag p S g) (DH p { S with AQ:=List.replicate S.AQ.length false } λ_=>True):=by
 refine Oi λF=>?_
 refine z_1 ?_;have x:=j.ml;refine jl rfl (jln (jms Z Z Z λb=>?_));rw[da];have e:(List.replicate S.AQ.length (cl z4)).flatten = (List.replicate S.AQ.length false).map Value.bool ++ []:=by
  rw[eh,List.map_replicate,show cl z4 = [Value.bool false] from rfl,gY]
 rw[e];have:=bN (p:=p) (R:=R) (D:=Ag p S g ++ F) (b:=b) (c:=S.AQ.length) (ms:=List.replicate S.AQ.length false) (sp:=[]) (m:=Fj R F (DH p { S with AQ:=List.replicate S.AQ.length false } λ_=>True) (.tuple #[])) ?_
 .rw[dw] at this;exact this
 .exact B7 (RM.le.refl _) trivial rfl (by exact { j with ml:=by simpa using j.ml,mk_:=by simp })
def CO (f:Int->Rg->Rg) (k:Nat) (t:List Rg):List Rg:=t.mapIdx λi x=>if i = 0\/k<=i then x else f i x
theorem IW {f:Int->Rg->Rg} {t:List Rg}:CO f 1 t = t:=by
 apply fq
 .simp[CO]
 .intro i j x;simp only[CO,hY];rw[if_pos Z]
theorem IZ {f:Int->Rg->Rg} {t:List Rg} {k:Nat} (h:t.length<=k):CO f k t = rows f t:=by
 apply fq
 .simp[CO,rows]
 .intro i j x;simp only[CO,rows,hY];simp only[CO,List.length_mapIdx] at j;by_cases c:i = 0
  .rw[if_pos (.inl c),if_pos c]
  .rw[if_neg Z,if_neg c]
@[simp] theorem Cd {f:Int->Rg->Rg} {t:List Rg} {k:Nat}:(CO f k t).length = t.length:=by simp[CO]
theorem Iq {f:Int->Rg->Rg} {t:List Rg} {k:Nat} (h:k < t.length):(CO f k t)[k]'(by simpa using h) = t[k]:=by
 simp only[CO,hY];rw[if_pos (.inr (z_n k))]
theorem Iu {f:Int->Rg->Rg} {t:List Rg} {k:Nat} (x:1<=k) (h:k < t.length):(CO f k t).set k (f k t[k]) = CO f (k + 1) t:=by
 apply fq
 .simp[CO]
 .intro i y j;simp only[CO,List.length_mapIdx] at j;rw[List.getElem_set];simp only[CO,hY];by_cases c:k = i
  .subst c;rw[if_pos rfl,if_neg Z]
  .rw[if_neg c];by_cases d:i = 0\/k<=i
   .rw[if_pos d,if_pos Z]
   .rw[if_neg d,if_neg Z]
theorem WY {p:Nat} {S S' : Sim} {g:Img} {R:RM} (j:Ok R S g) (D:S.idle = some S') :
  Fn P MP [Pt p] R (Ag p S g) (DH p S' λ_=>True):=by
 refine SK λF=>?_
 refine z_1 ?_;unfold Sim.idle at D;obtain⟨n,hn,D⟩:=AF D;obtain⟨rfl,O⟩:=BB hn;simp only[dx] at D;have a0:=j.tl;refine jcS (Q5 j) λ_ W A H hr y=>(jss { S with AQ:=List.replicate S.AQ.length false,Ac:=0 } A rfl rfl δ τ τ (jl rfl (jbd rfl rfl (jss { S with AQ:=List.replicate S.AQ.length false,Ac:=0,col:=De S.col.As 0 } { A with AR:=SN } rfl rfl δ τ τ (jl rfl (Cw O (jss { S with AQ:=List.replicate S.AQ.length false,Ac:=0,col:=De S.col.As 0,BF:=S.BF + 1 } { A with AR:=SN } rfl rfl δ τ τ ?_)))))))
 refine jlp (λm vs T Q=>T = W/\∃k:Nat,1<=k/\k<=S.AA.length + 1/\Q = Ag p { S with AQ:=List.replicate S.AQ.length false,Ac:=0,col:=De S.col.As 0,BF:=S.BF + 1,AA:=CO (λ_ x=>{ x with AJ:=0 }) k S.AA } { A with AR:=SN } ++ F/\vs = [Pt p,I k]/\m = S.AA.length + 1 - k)
  (n:=S.AA.length) ⟨rfl,1,z_n 1,Z,by rw[IW],rfl,Z⟩ ?_
 rintro m e R2 D2 K ⟨N,k,k0,k1,hD,he,hm⟩ hK;subst N;refine z_W ?_;refine jl rfl (jln (jlt (jif (λhc=>?_) (λhc=>?_))))
 .have hc:k < S.AA.length:=by have:=z_f hc;rw[Cd] at this;omega
  refine jl rfl (CC (by rw[Cd];exact hc) (Sq (p:=p) (by simpa using hc) ?_));rw[show ({ S with AQ:=List.replicate S.AQ.length false,Ac:=0,col:=De S.col.As 0,BF:=S.BF + 1,AA:=CO (λ_ x=>{ x with AJ:=0 }) k S.AA }:Sim).AA[k]'(by simpa using hc) = S.AA[k] from Iq (f:=λ_ x=>{ x with AJ:=0 }) hc];refine ja λb5=>(js (cs':=eRg (S.AA[k])) rfl rfl V rfl (js (cs':=eRg { S.AA[k] with AJ:=0 }) rfl rfl V rfl (jl rfl (jla V rfl (CC (by rw[Cd];exact hc) (VF (p:=p) { S with AQ:=List.replicate S.AQ.length false,Ac:=0,col:=De S.col.As 0,BF:=S.BF + 1,AA:=CO (λ_ x=>{ x with AJ:=0 }) (k + 1) S.AA } (by simpa using hc) (by rw[<- Iu k0 hc]) (jad (Al (Ag p { S with AQ:=List.replicate S.AQ.length false,Ac:=0,col:=De S.col.As 0,BF:=S.BF + 1,AA:=CO (λ_ x=>{ x with AJ:=0 }) (k + 1) S.AA } { A with AR:=SN }) (G:=F) (hK (S.AA.length + 1 - (k + 1)) _ _ _ Z ⟨rfl,k + 1,Z,Z,rfl,rfl,rfl⟩)))))))))
 .have hc:S.AA.length<=k:=by have:=z_g hc;rw[Cd] at this;omega
  subst D;refine B7 H trivial (by rw[IZ hc]) ?_;exact { y with AR:=.inl ⟨rfl,rfl,rfl⟩,tl:=by simpa [rows] using j.tl,tk:=by simpa [rows] using y.tk,ml:=by simpa using j.ml,mk_:=by simpa using y.mk_ }
def SO (l:List Int) (v:Value) (A:Chs):Prop:=(l = []/\v = SN/\A = [])\/XC l v A
theorem SO.flat {l:List Int} {v:Value} {A:Chs} (h:SO l v A):flat v = true:=by
 rcases h with ⟨_,rfl,_⟩ | ⟨b,c,sp,_,_,rfl,_⟩<;>rfl
theorem SO.sl {l:List Int} {v:Value} {A:Chs} (h:SO l v A):∃a n c,v = .slice a n c:=by
 rcases h with ⟨_,rfl,_⟩ | ⟨b,c,sp,_,_,rfl,_⟩<;>exact⟨_,_,_,rfl⟩
theorem jas {R:RM} {A E:Chs} {l l2:List Int} {v:Value} {T:Option Addr} {m W:Nat} {k:Value->M} (so:SO l v A) (hm:m = l2.length) (hl:l.length + l2.length < 1000000000000) (j:BY R (A ++ E) T (m * 1) (l2.map I))
  (H:∀Q O,SO (l ++ l2) Q O->J R (O ++ E) (k Q)):J R (A ++ E) (AP Ad 1 8 [I 0] v (.slice T m W) k):=by
 subst hm;have K:Bz (l2.map I) = true:=by
  unfold Bz;rw[eG];intro x j;obtain⟨y,_,rfl⟩:=eE.1 j;rfl
 have fl:∀n,(List.replicate n [I 0]).flatten.length = n:=λn=>by
  rw[C4 (w:=1) (by intro x j;rw[(fE.1 j).2];rfl)];simp
 rcases so with ⟨rfl,rfl,rfl⟩ | ⟨b,c,sp,hc,hsp,rfl,rfl⟩
 .refine jap j (by rw[gn];exact BY.none_) δ (by simp at hl;omega) (λhc h N=>?_) (λb c hc=>?_)
  .have h0:l2 = []:=eV.1 Z;subst h0;have:=H (SN) [] (.inl ⟨rfl,rfl,rfl⟩) h N;simpa using this
  .have:=H (S0 b l2.length c) [(b,C Ad (l2.map I ++ (List.replicate (c - l2.length) [I 0]).flatten))] (.inr ⟨b,c,(List.replicate (c - l2.length) [I 0]).flatten,by simpa using hc,by rw[fl];simp,V,V⟩);simpa using this
 .refine XS j (by simp;omega) hc V K δ Z (λh=>?_) (λD G h=>?_)
  .have el:lay (l.map I ++ sp) (l.length * 1) (l2.map I) = (l ++ l2).map I ++ sp.drop l2.length:=by
    rw[Hs V];simp[lay]
   rw[el];have:=H (S0 b (l ++ l2).length c) [(b,C Ad ((l ++ l2).map I ++ sp.drop l2.length))] (.inr ⟨b,c,_,by simpa using h,by simp;omega,rfl,rfl⟩);simpa using this
  .refine BC (fW _ _ _) (BT ?_);have:=H (.slice (some ⟨D,0,none⟩) (l ++ l2).length G) [(D,C Ad ((l ++ l2).map I ++ (List.replicate (G - (l.length + l2.length)) [I 0]).flatten))] (.inr ⟨D,G,_,by simpa using h,by simp[fl],rfl,rfl⟩);rw[fK V,dh V];simpa using this
theorem E0 {R:RM} {A E:Chs} {l:List Int} {v:Value} {m:M} (D:SO l v A) (H:∀j,R.le j->Aw j v l->J j E m):J R (A ++ E) m:=by
 rcases D with ⟨rfl,rfl,rfl⟩ | ⟨b,c,sp,hc,hsp,rfl,rfl⟩
 .exact H R (RM.le.refl _) (.inl ⟨rfl,rfl,rfl⟩)
 .refine BE (t:=⟨f9 _⟩) λy x hb=>(H y x (CT hb hc))
theorem jrv {R:RM} {D G:Chs} {p:Nat} {S:Sim} {g:Img} {i:Int} {t:Thr} {k:Value->M} [w:Fd D p S g G] (A:Ok R S g) (W:idx S.th i = some t) (H:∀v,Aw R v t.AD->J R D (k v)) :
  J R D (L1 (.pointer (some ⟨p,17,none⟩)) λx=>IA 17 x (I i) λy=>FO 0 y λz=>L1 z k):=by
 obtain⟨h0,T,K,N⟩:=Ay W;have j : i.toNat < g.rv.length:=by have:=A.rvl;omega
 have O:=A.rv i.toNat K j;rw[N] at O;have Q : J R (Ag p S g ++ G) (k (g.rv[i.toNat])):=BC w.ex.symm (H _ O);have l1:J R (Ag p S g ++ G) (L1 (.pointer (some ⟨p,17,none⟩)) λx=>IA 17 x (I i) λy=>FO 0 y λz=>L1 z k):=by
  refine jl rfl (jia h0 T (jl ?_ Q));rw[eH];exact Rs K j (by rw[N];rfl)
 exact BC w.ex l1
theorem Z6 {l:List Thr} (h:∀t∈l,t.AD.length < 1000000):(l.flatMap λt=>t.AD.filter (·≠0)).length<=1000000 * l.length:=by
 induction l with
 | nil=>simp
 | cons t r y=>
  rw[List.flatMap_cons,de,dl];have A:=y λt j=>h t (by simp[j])
  have D:=h t V;have G:=gu (λx=>decide (x≠0)) t.AD;omega
theorem Sk {p:Nat} {S:Sim} {g:Img} {R:RM} (a0:Ok R S g) (a1:S.sz = true) :
  Fn P HU [Pt p] R (Ag p S g) (DH p S.snapshot λ_=>True):=by
 refine Lc λF=>?_
 refine z_1 ?_;have a1:=H4 a1;have e5:=a0.tl;have d1:=a0.hl;have f0:=a0.ml;refine jcS (Q5 a0) λ_ R1 g1 c9 hr e6=>(jss { S with AQ:=List.replicate S.AQ.length false,old:=[] } { g1 with old:=SN } rfl rfl δ τ τ (jss { S with AQ:=List.replicate S.AQ.length false,old:=[],Ac:=1 } { g1 with old:=SN } rfl rfl δ τ τ ?_))
 have D:Ok R1 { S with AQ:=List.replicate S.AQ.length false,old:=[],Ac:=1 } { g1 with old:=SN }:={ e6 with old:=.inl ⟨rfl,rfl,rfl⟩ };generalize Q:({ S with AQ:=List.replicate S.AQ.length false,old:=[],Ac:=1 }:Sim) = j at D ⊢;generalize e9:({ g1 with old:=SN }:Img) = g2 at D ⊢;have e1:j.col = S.col:=by rw[<- Q]
 have e2:j.th = S.th:=by rw[<- Q]
 have e3:j.AI = S.AI:=by rw[<- Q]
 have e4:j.AA = S.AA:=by rw[<- Q]
 refine jl rfl (jl rfl (jbd rfl rfl (ja λb=>(Ak (jl rfl jev) (Ak (jl rfl jev) (js rfl rfl (by exact z_n 15) rfl ?_))))));have f2:∀i:Nat,(j.th.take i).flatMap (λt=>t.AD.filter (·≠0)) = (j.th.take i).flatMap (λt=>t.AD.filter (·≠0)):=λ_=>rfl
 have hlen:∀l:List Int,l.length<=1000000 * 1000 + 1000000->l.length + 1 < 1000000000000:=λl h=>Z
 have H:∀t∈j.th,t.AD.length < 1000000:=λt ht=>a1.2.2.2.2 t (e2▸ht)
 have e8:j.th.length<=1000:=by rw[e2];exact d1
 have tk:∀i:Nat,((j.th.take i).flatMap λt=>t.AD.filter (·≠0)).length<=1000000 * 1000:=λi=>by
  have h1:=Z6 (l:=j.th.take i) λt ht=>H t (ec ht)
  have h2:(j.th.take i).length<=1000:=by rw[dp];omega
  omega
 refine Ab (λW O D'=>O = R1/\∃v A,SO (j.th.flatMap λt=>t.AD.filter (·≠0)) v A/\D' = A ++ ((b,C BQ (BW { De j.col.As j.col.want with pc:=1 } v)) :: (Ag p j g2 ++ F))/\W = [Pt p,Pt b]) (λK hK=>?_) ?_
 .refine jcI hK λK2 b9=>?_
  refine jlp (λm W O D'=>O = R1/\∃(i:Nat) (v:Value) (A:Chs),i<=j.th.length/\SO ((j.th.take i).flatMap λt=>t.AD.filter (·≠0)) v A/\D' = A ++ ((b,C BQ (BW { De j.col.As j.col.want with pc:=1 } v)) :: (Ag p j g2 ++ F))/\W = [Pt p,Pt b,I i]/\m = j.th.length - i)
   (n:=j.th.length) ⟨rfl,0,SN,[],Z,.inl ⟨V,rfl,rfl⟩,rfl,rfl,Z⟩ ?_
  rintro m e R2 D2 K3 ⟨a7,i,v,A,hi,y,hD,he,hm⟩ c0;subst a7;refine z_W ?_;refine jl rfl (jln (jlt (jif (λhc=>?_) (λhc=>?_))));rotate_left
  .have hc:=z_g hc;rw[dh (show j.th.length<=i by omega)] at y;exact b9 _ _ _ ⟨rfl,v,A,y,rfl,rfl⟩
  have hc:i < j.th.length:=by have:=z_f hc;omega
  have a9:idx j.th i = some (j.th[i]):=by unfold idx;rw[if_pos Z,da,dY hc]
  have d4:(j.th.take (i + 1)).flatMap (λt=>t.AD.filter (·≠0)) = (j.th.take i).flatMap (λt=>t.AD.filter (·≠0)) ++ (j.th[i]).AD.filter (·≠0):=by
   rw[db hc,List.flatMap_append];simp
  have f1:=H _ (dc hc);have e7:∀(K4:List Value->M),(∀v A,SO ((j.th.take (i + 1)).flatMap λt=>t.AD.filter (·≠0)) v A->J R2 (A ++ ((b,C BQ (BW { De j.col.As j.col.want with pc:=1 } v)) :: (Ag p j g2 ++ F))) (K4 [Pt p,Pt b,I i]))->True:=λ_ _=>trivial
  refine Ab (λW O D'=>O = R2/\∃v A,SO ((j.th.take (i + 1)).flatMap λt=>t.AD.filter (·≠0)) v A/\D' = A ++ ((b,C BQ (BW { De j.col.As j.col.want with pc:=1 } v)) :: (Ag p j g2 ++ F))/\W = [Pt p,Pt b,I i]) (λK4 c4=>?_) ?_;rotate_left
  .rintro e R3 D3 ⟨N,v,A,y,hD,he⟩;subst N;refine z_W ?_;refine jad (c0 (j.th.length - (i + 1)) _ _ _ Z ⟨rfl,i + 1,v,A,Z,y,rfl,rfl,rfl⟩)
  refine jcI c4 λK5 c5=>?_
  refine jcI c5 λK6 c6=>?_
  refine jlp (λm W O D'=>O = R2/\∃(k:Nat) (v:Value) (A:Chs),k<=(j.th[i]).AD.length/\SO ((j.th.take i).flatMap (λt=>t.AD.filter (·≠0)) ++ ((j.th[i]).AD.take k).filter (·≠0)) v A/\D' = A ++ ((b,C BQ (BW { De j.col.As j.col.want with pc:=1 } v)) :: (Ag p j g2 ++ F))/\W = [Pt p,Pt b,I i,I k]/\m = (j.th[i]).AD.length - k)
   (n:=(j.th[i]).AD.length) ⟨rfl,0,v,A,Z,by simpa using y,rfl,rfl,Z⟩ ?_
  rintro m e R3 D3 K7 ⟨N,k,v,A,hk,y,hD,he,hm⟩ c7;subst N;refine z_W ?_;refine jrv D a9 λf3 b3=>(KD b3 (jlt (jif (λhd=>?_) (λhd=>?_))))
  rotate_left
  .have hd:=z_g hd;rw[dh (show (j.th[i]).AD.length<=k by omega),<- d4] at y;exact c6 _ _ _ ⟨rfl,v,A,y,rfl,rfl⟩
  have hd:k < (j.th[i]).AD.length:=by have:=z_f hd;omega
  have b2:((j.th[i]).AD.take (k + 1)).filter (·≠0) = ((j.th[i]).AD.take k).filter (·≠0) ++ (if (j.th[i]).AD[k]≠0 then [(j.th[i]).AD[k]] else []):=by
   rw[db hd,List.filter_append];congr 1;by_cases c:(j.th[i]).AD[k] = 0<;>simp[c]
  refine Ab (λW O D'=>O = R3/\∃v A,SO ((j.th.take i).flatMap (λt=>t.AD.filter (·≠0)) ++ ((j.th[i]).AD.take (k + 1)).filter (·≠0)) v A/\D' = A ++ ((b,C BQ (BW { De j.col.As j.col.want with pc:=1 } v)) :: (Ag p j g2 ++ F))/\W = [Pt p,Pt b,I i,I k]) (λK8 c8=>?_) ?_;rotate_left
  .rintro e R4 D4 ⟨a8,v,A,y,hD,he⟩;subst a8;refine z_W ?_;refine jad (c7 ((j.th[i]).AD.length - (k + 1)) _ _ _ Z ⟨rfl,k + 1,v,A,Z,y,rfl,rfl,rfl⟩)
  refine jcI c8 λK9 b0=>?_
  refine jrv D a9 λf4 b4=>(C5 b4 Z Z ?_)
  have e0:(j.th[i]).AD[((k:Nat):Int).toNat]'(Z) = (j.th[i]).AD[k]:=V
  rw[e0];refine jne (jif (λhz=>?_) (λhz=>?_))
  .have hz:(j.th[i]).AD[k]≠0:=by simpa using hz
   obtain⟨sa,sn,sc,rfl⟩:=y.sl;refine jl rfl (jrv D a9 λf5 b6=>(C5 b6 Z Z ?_));rw[e0];refine jbs rfl rfl λb1=>(Ak (jl rfl jev) (BC eP.symm ?_))
   have hx:BY R3 (A ++ (b1,C 3 [I (j.th[i]).AD[k]]) :: (b,C BQ (BW { De j.col.As j.col.want with pc:=1 } (.slice sa sn sc))) :: (Ag p j g2 ++ F)) (some ⟨b1,0,none⟩) (1 * 1) ([(j.th[i]).AD[k]].map I):=BY.held (cs:=[I (j.th[i]).AD[k]]) (z_n 1);refine jas y rfl (by
    have h1:=tk i
    have h2:=gu (λx=>decide (x≠0)) ((j.th[i]).AD.take k)
    have h3:((j.th[i]).AD.take k).length<=(j.th[i]).AD.length:=by rw[dp];omega
    rw[de,eK];omega) hx λv' A' T=>?_
   obtain⟨a2,a4,a3,rfl⟩:=T.sl;refine jS (BW { De j.col.As j.col.want with pc:=1 } (.slice a2 a4 a3)) (Al A' (G:=(b,C BQ (BW { De j.col.As j.col.want with pc:=1 } (.slice a2 a4 a3))) :: (Ag p j g2 ++ F)) (b0 _ _ _ ⟨rfl,_,A',?_,rfl,rfl⟩));rw[b2,if_pos hz,<- dm];exact T
  .have hz:¬ (j.th[i]).AD[k]≠0:=by simpa using hz
   refine b0 _ _ _ ⟨rfl,v,A,?_,rfl,rfl⟩;rw[b2,if_neg hz,eh];exact y
 .rintro e R2 D2 ⟨a7,v,A,y,hD,he⟩;subst a7;refine z_W ?_;obtain⟨sa,sn,sc,rfl⟩:=y.sl;refine jl rfl (jl rfl ?_);obtain⟨xa,cx,d2,hx⟩:=Aw.reads D.AI;rw[d2];refine jas y rfl (by
   have h1:=tk j.th.length
   rw[List.take_length] at h1
   have h2:=a1.2.2.2.1
   rw[e3];omega) hx λv' A' T=>?_
  obtain⟨a2,a4,a3,rfl⟩:=T.sl;refine js rfl rfl (by simp[BW]) rfl (E0 T λR3 N a6=>?_);generalize d3:((j.th.flatMap λt=>t.AD.filter (·≠0)) ++ j.AI) = st at a6;refine BC (D':=(b,C BQ (BW { De j.col.As j.col.want with pc:=1,AR:=st } (.slice a2 a4 a3))) :: (Ag p j g2 ++ F)) (f9 _) (JQ { j with col:={ De j.col.As j.col.want with pc:=1,AR:=st } } (D.le N) a6 τ λg3 b8=>(Al (Ag p { j with col:={ De j.col.As j.col.want with pc:=1,AR:=st } } g3) (G:=F) ?_));have b7:j.AA.length<=1000:=by rw[e4];exact e5
  refine jlp (λm W O D'=>O = R3/\∃k:Nat,1<=k/\k<=j.AA.length + 1/\D' = Ag p { j with col:={ De j.col.As j.col.want with pc:=1,AR:=st },AA:=CO (λ_ x=>{ x with BH:=x.top,AJ:=0 }) k j.AA } g3 ++ F/\W = [Pt p,I k]/\m = j.AA.length + 1 - k)
   (n:=j.AA.length) ⟨rfl,1,z_n 1,Z,by rw[IW],rfl,Z⟩ ?_
  rintro m e R4 D4 K ⟨a8,k,k0,k1,hD,he,hm⟩ hK;subst a8;refine z_W ?_;refine jl rfl (jln (jlt (jif (λhc=>?_) (λhc=>?_))))
  .have hc:k < j.AA.length:=by have:=z_f hc;rw[Cd] at this;omega
   refine jl rfl (CC (by rw[Cd];exact hc) (Sq (p:=p) (by simpa using hc) ?_));rw[show ({ j with col:={ De j.col.As j.col.want with pc:=1,AR:=st },AA:=CO (λ_ x=>{ x with BH:=x.top,AJ:=0 }) k j.AA }:Sim).AA[k]'(by simpa using hc) = j.AA[k] from Iq (f:=λ_ x=>{ x with BH:=x.top,AJ:=0 }) hc];refine ja λb5=>(js (cs':=eRg (j.AA[k])) rfl rfl V rfl (jl rfl (js (cs':=eRg { j.AA[k] with BH:=(j.AA[k]).top }) rfl rfl V rfl (js (cs':=eRg { j.AA[k] with BH:=(j.AA[k]).top,AJ:=0 }) rfl rfl V rfl (jl rfl (jla V rfl (CC (by rw[Cd];exact hc) (VF (p:=p) { j with col:={ De j.col.As j.col.want with pc:=1,AR:=st },AA:=CO (λ_ x=>{ x with BH:=x.top,AJ:=0 }) (k + 1) j.AA } (by simpa using hc) (by rw[<- Iu k0 hc]) (jad (Al (Ag p { j with col:={ De j.col.As j.col.want with pc:=1,AR:=st },AA:=CO (λ_ x=>{ x with BH:=x.top,AJ:=0 }) (k + 1) j.AA } g3) (G:=F) (hK (j.AA.length + 1 - (k + 1)) _ _ _ Z ⟨rfl,k + 1,Z,Z,rfl,rfl,rfl⟩)))))))))))
  .have hc:j.AA.length<=k:=by have:=z_g hc;rw[Cd] at this;omega
   have a5:({ j with col:={ De j.col.As j.col.want with pc:=1,AR:=st },AA:=CO (λ_ x=>{ x with BH:=x.top,AJ:=0 }) k j.AA }:Sim) = S.snapshot:=by
    rw[IZ hc,<- d3,<- Q];rfl
   refine B7 (c9.trans N) trivial a5 ?_;rw[<- a5];exact { b8 with tl:=by simpa using b7,tk:=by simpa using b8.tk }
theorem Yz {R:RM} {D:Chs} {v:Value} {l:List Int} (n:Int) (h:Aw R v l) (hl:l.length < 1000000000000):Ro OU [v,I n] (.bool (l.contains n)) R D:=by
 refine VW λF=>?_
 refine z_2 ?_;refine jlp (λm T N H=>N = R/\H = D ++ F/\∃i:Nat,i<=l.length/\T = [v,I n,I i]/\m = l.length - i/\∀k (x:k < l.length),k < i->l[k]≠n)
  (n:=l.length) ⟨rfl,rfl,0,Z,rfl,Z,λk _ h=>Z⟩ ?_
 rintro m e R1 W K ⟨y,hD,i,hi,he,G,Bv⟩ O;subst y;refine z_W ?_;refine KD h (jlt (jif (λhc=>?_) (λhc=>?_)))
 .have hc:i < l.length:=by have:=z_f hc;omega
  refine C5 h Z Z (jeq (jif (λj=>?_) (λj=>?_)))
  .refine B9 ?_;have j:=eq_of_beq j;simp only[da] at j;have:l.contains n = true:=by rw[List.contains_eq_mem,z_d,<- j];exact dc hc
   rw[this]
  .have j:=ne_of_beq_false j;simp only[da] at j;refine jad (O (l.length - (i + 1)) _ _ _ Z ⟨rfl,rfl,i + 1,Z,rfl,rfl,λk x Q=>?_⟩);by_cases c:k = i
   .subst c;exact j
   .exact Bv k x Z
 .have hc:¬ i < l.length:=by have:=z_g hc;omega
  refine B9 ?_;have:l.contains n = false:=by
   rw[List.contains_eq_mem,decide_eq_false_iff_not];intro G;obtain⟨k,x,A⟩:=eJ G;exact Bv k x Z A
  rw[this]
section choose
variable {t:List Rg} {sp:List Value} {b cap:Nat} {R:RM} {D:Chs}
def InC (t:List Rg) (held:List Int) (AV:Int) (n i:Nat) (left:Int) (fr fe:List Int):Prop:=
 (n = 0->fr = []/\left = AV/\fe ++ DM held i (t.drop i) = DM held 1 t.tail)/\
 (1<=n->fe = DM held 1 t.tail/\fr ++ ((Cj held n i (t.drop i) left).2 ++ By t held (16 - n) (n + 1) (Cj held n i (t.drop i) left).1) = By t held 16 1 AV)
def OuC (t:List Rg) (held:List Int) (AV:Int) (n:Nat) (left:Int) (fr fe:List Int):Prop:=
 (n = 0->fr = []/\left = AV/\fe = [])/\(1<=n->fe = DM held 1 t.tail/\fr ++ By t held (17 - n) n left = By t held 16 1 AV)
theorem InC.step {held:List Int} {AV:Int} {n i:Nat} {left:Int} {fr D:List Int} (h:InC t held AV n i left fr D) (K:i < t.length) :
  (C0 held n i t[i] = false->InC t held AV n (i + 1) left fr D)/\(C0 held n i t[i] = true->n = 0->InC t held AV n (i + 1) left fr (D ++ [(i:Int)]))/\
  (C0 held n i t[i] = true->1<=n->(n:Int)<=left->InC t held AV n (i + 1) (left - n) (fr ++ [(i:Int)]) D)/\(1<=n->¬ (n:Int)<=left->InC t held AV n (i + 1) left fr D):=by
 have hd:t.drop i = t[i] :: t.drop (i + 1):=dq K;obtain⟨h0,H⟩:=h;rw[hd] at h0 H;refine⟨λhc=>⟨λx=>?_,λx=>?_⟩,λhc x=>⟨λ_=>?_,λG=>Z⟩,λhc x hl=>⟨λG=>Z,λ_=>?_⟩,λx hl=>⟨λG=>Z,λ_=>?_⟩⟩
 .obtain⟨y,j,A⟩:=h0 x;subst x;simp only[DM] at A;rw[if_neg (by rw[show C0 held 0 i t[i] = false from hc];decide)] at A;exact⟨y,j,A⟩
 .obtain⟨y,j⟩:=H x;simp only[Cj,hc,fM,eO,if_false] at j;exact⟨y,j⟩
 .obtain⟨y,j,A⟩:=h0 x;subst x;simp only[DM] at A;rw[if_pos (show C0 held 0 i t[i] = true from hc)] at A;exact⟨y,j,by rw[dm];exact A⟩
 .obtain⟨y,j⟩:=H x;simp only[Cj,hc,f7,decide_eq_true hl,if_true] at j;refine⟨y,?_⟩;rw[dm];exact j
 .obtain⟨y,j⟩:=H x;simp only[Cj,decide_eq_false hl,Bool.and_false,eO,if_false] at j;exact⟨y,j⟩
theorem OuC.inner {held:List Int} {AV:Int} {n:Nat} {left:Int} {fr A:List Int} (h:OuC t held AV n left fr A) (H:n<=16):InC t held AV n 1 left fr A:=by
 obtain⟨h0,G⟩:=h;refine⟨λy=>?_,λy=>?_⟩
 .obtain⟨x,j,D⟩:=h0 y;exact⟨x,j,by rw[D,List.drop_one];rfl⟩
 .obtain⟨x,j⟩:=G y;refine⟨x,?_⟩;rw[show 17 - n = (16 - n) + 1 from Z] at j;simp only[By] at j;rw[List.drop_one];exact j
theorem InC.outer {held:List Int} {AV:Int} {n i:Nat} {left:Int} {fr y:List Int} (h:InC t held AV n i left fr y) (G:t.length<=i):OuC t held AV (n + 1) left fr y:=by
 obtain⟨h0,A⟩:=h;rw[dv G] at h0 A;refine⟨λH=>Z,λ_=>?_⟩;by_cases c:n = 0
 .obtain⟨x,j,D⟩:=h0 c;subst c;refine⟨by simpa [DM] using D,?_⟩;rw[x,j];rfl
 .obtain⟨x,j⟩:=A Z;refine⟨x,?_⟩;simp only[Cj,zl] at j;rw[show 17 - (n + 1) = 16 - n from Z]
  exact_mod_cast j
end choose
theorem GV (held:List Int) (n:Int):∀(l:List Rg) (i:Nat) (left:Int),(Cj held n i l left).2.length<=l.length
 | [],_,_=>z_n 0
 | x :: r,i,left=>by
  unfold Cj;split
  .simp only[dl];have:=GV held n r (i + 1) (left - n);omega
  .simp only[dl];have:=GV held n r (i + 1) left;omega
theorem Fh (t:List Rg) (held:List Int):∀(k:Nat) (n left:Int),(By t held k n left).length<=k * t.length
 | 0,_,_=>by simp[By]
 | k + 1,n,left=>by
  unfold By;simp only[de];have j:=GV held n t.tail 1 left;have x:=Fh t held k (n + 1) (Cj held n 1 t.tail left).1;rw[fZ] at j;rw[Nat.succ_mul];omega
theorem If (held:List Int):∀(l:List Rg) (i:Nat),(DM held i l).length<=l.length
 | [],_=>z_n 0
 | x :: r,i=>by
  unfold DM;have:=If held r (i + 1);split<;>simp only[dl]<;>omega
theorem InC.len {t:List Rg} {held:List Int} {AV:Int} {n i:Nat} {left:Int} {fr y:List Int} (h:InC t held AV n i left fr y):fr.length<=16 * t.length/\y.length<=t.length:=by
 obtain⟨h0,D⟩:=h;have f:=If held t.tail 1;rw[fZ] at f;by_cases c:n = 0
 .obtain⟨j,x,A⟩:=h0 c;have:=congrArg List.length A;rw[de] at this;rw[j];constructor
  .simp
  .omega
 .obtain⟨j,x⟩:=D Z;have:=congrArg List.length x;rw[de] at this;have g:=Fh t held 16 1 AV;rw[j];constructor<;>omega
def Q2I (l1 l2:List Int) (v:Value) (N:Chs):Prop:=∃v1 v2 A1 A2,SO l1 v1 A1/\SO l2 v2 A2/\v = .tuple #[v1,v2]/\N = A1 ++ A2
theorem YZ {j y D:Chs} (x:Nat × Obj):(x :: (j ++ (y ++ D))).Perm (y ++ (x :: (j ++ D))):=
 (fo x (by rw[<- dm,<- dm];exact List.perm_append_comm.append_right D)).trans eP.symm
theorem ZS {j x D:Chs}:(x ++ (j ++ D)).Perm (j ++ (x ++ D)):=by
 rw[<- dm,<- dm];exact List.perm_append_comm.append_right D
section AA
variable {t:List Rg} {sp:List Value} {b cap:Nat} {R:RM} {D:Chs}
theorem Nt {held:List Int} {hv:Value} (AV:Int) (hr:inR AV) (hl:t.length < 1000000) (hi:Aw R hv held) (b9:held.length < 1000000000000) [a:At D b (C AS (Af eRg t ++ sp))] :
  Mk Gz [S0 b t.length cap,I AV,hv] R D (Q2I (Ai t AV held).1 (Ai t AV held).2):=by
 refine LI λF=>?_
 refine z_3 ?_;refine jro (FM hl) ?_;cases a5:BR t with
 | false=>
  refine DJ (DT [] ?_);have:Ai t AV held = ([],[]):=by unfold Ai;rw[a5];rfl
  rw[this];exact⟨_,_,[],[],.inl ⟨rfl,rfl,rfl⟩,.inl ⟨rfl,rfl,rfl⟩,rfl,rfl⟩
 | true=>
 have a7:Ai t AV held = (By t held 16 1 AV,DM held 1 t.tail):=by unfold Ai;rw[a5];rfl
 have T:=Bj.1 a5;refine CK (Ab (λvs R' D'=>R' = R/\∃N x O y,SO (By t held 16 1 AV) N x/\SO (DM held 1 t.tail) O y/\D' = x ++ (y ++ (D ++ F))/\vs = [N,O]) (λK hK=>?_) ?_);rotate_left
 .rintro e R1 D1 ⟨hR,N,x,O,y,A,H,hD,he⟩;subst hR;refine z_W ?_;clear hD;refine BC (D':=(x ++ y) ++ (D ++ F)) (by rw[dm]) (DT (x ++ y) ?_);rw[a7];exact⟨N,O,x,y,A,H,rfl,rfl⟩
 refine jcI hK λK2 a8=>?_
 refine jlp (λm vs R' D'=>R' = R/\∃(n:Nat) (left:Int) (fr Q:List Int) (N O:Value) (x y:Chs),n<=17/\inR left/\OuC t held AV n left fr Q/\SO fr N x/\SO Q O y/\D' = x ++ (y ++ (D ++ F))/\vs = [S0 b t.length cap,hv,N,O,I left,I n]/\m = 17 - n)
  ⟨rfl,0,AV,[],[],SN,SN,[],[],Z,hr,⟨λ_=>⟨rfl,rfl,rfl⟩,λh=>Z⟩,.inl ⟨rfl,rfl,rfl⟩,.inl ⟨rfl,rfl,rfl⟩,rfl,rfl,rfl⟩ ?_
 rintro m e R1 D1 K3 ⟨hR,n,left,fr,Q,N,O,x,y,hn,j,ou,A,H,hD,he,hm⟩ a9;subst hR;refine z_W ?_;clear hD;refine jle (jif (λhc=>?_) (λhc=>?_));rotate_left
 .have hc:n = 17:=by have:=z_g hc;omega
  subst hc;obtain⟨o1,o2⟩:=ou.2 Z;have o2:fr ++ [] = By t held 16 1 AV:=o2;rw[eh] at o2;exact a8 _ _ _ ⟨rfl,N,x,O,y,o2▸A,o1▸H,rfl,rfl⟩
 have hc:n<=16:=by have:=z_f hc;omega
 refine Ab (λvs R' D'=>R' = R1/\∃(left:Int) (fr Q:List Int) (N O:Value) (x y:Chs),inR left/\OuC t held AV (n + 1) left fr Q/\SO fr N x/\SO Q O y/\D' = x ++ (y ++ (D ++ F))/\vs = [S0 b t.length cap,hv,N,O,I left,I n]) (λK4 b0=>?_) ?_;rotate_left
 .rintro e R2 D2 ⟨hR,left,fr,Q,N,O,x,y,j,ou,A,H,hD,he⟩;subst hR;refine z_W ?_;clear hD;refine jad (a9 (17 - (n + 1)) _ _ _ Z ⟨rfl,n + 1,left,fr,Q,N,O,x,y,Z,j,ou,A,H,rfl,rfl,rfl⟩)
 refine jcI b0 λK5 b3=>?_
 refine jcI b3 λK6 b4=>?_
 refine jlp (λm vs R' D'=>R' = R1/\∃(i:Nat) (left:Int) (fr Q:List Int) (N O:Value) (x y:Chs),1<=i/\i<=t.length + 1/\inR left/\InC t held AV n i left fr Q/\SO fr N x/\SO Q O y/\D' = x ++ (y ++ (D ++ F))/\vs = [S0 b t.length cap,hv,N,O,I left,I n,I i]/\m = t.length + 1 - i)
  (n:=t.length) ⟨rfl,1,left,fr,Q,N,O,x,y,Z,Z,j,ou.inner hc,A,H,rfl,rfl,Z⟩ ?_
 clear ou A H j;rintro m e R2 D2 K7 ⟨hR,i,left,fr,Q,N,O,x,y,c6,c7,j,ic,A,H,hD,he,hm⟩ b5;subst hR;refine z_W ?_;clear hD;refine jln (jlt (jif (λhd=>?_) (λhd=>?_)));rotate_left
 .have hd:=z_g hd;exact b4 _ _ _ ⟨rfl,left,fr,Q,N,O,x,y,j,ic.outer Z,A,H,rfl,rfl⟩
 have hd:i < t.length:=by have:=z_f hd;omega
 have n1:=T.n1;obtain⟨s1,s2,s3,s4⟩:=ic.step hd;obtain⟨c0,c5⟩:=ic.len;refine Ab (λvs R' D'=>R' = R2/\∃(left:Int) (fr Q:List Int) (N O:Value) (x y:Chs),inR left/\InC t held AV n (i + 1) left fr Q/\SO fr N x/\SO Q O y/\D' = x ++ (y ++ (D ++ F))/\vs = [S0 b t.length cap,hv,N,O,I left,I n,I i]) (λK8 b6=>?_) ?_;rotate_left
 .rintro e R3 D3 ⟨hR,left,fr,Q,N,O,x,y,j,ou,A,H,hD,he⟩;subst hR;refine z_W ?_;clear hD;refine jad (b5 (t.length + 1 - (i + 1)) _ _ _ Z ⟨rfl,i + 1,left,fr,Q,N,O,x,y,Z,Z,j,ou,A,H,rfl,rfl,rfl⟩)
 refine jcI b6 λK9 a2=>?_
 have RR:=T.row i Z Z;have t0:=RR.t0;have t1:=RR.t1;rw[EL hd] at t0 t1;have b7:=Br (r:=(i:Int)) Z Z;refine CC hd (O6 hd (ja λb2=>(js rfl rfl V rfl ?_)));refine Ab (λvs R' D'=>R' = R2/\D' = x ++ (y ++ (D ++ F))/\vs = [S0 b t.length cap,hv,N,O,I left,I n,I i,.bool (!C0 held n i t[i])]) (λK10 a1=>?_) ?_;rotate_left
 .rintro e R3 D3 ⟨hR,hD,he⟩;subst hR;refine z_W ?_;clear hD;cases a4:C0 held n i t[i] with
  | false=>exact DJ (a2 _ _ _ ⟨rfl,left,fr,Q,N,O,x,y,j,s1 a4,A,H,rfl,rfl⟩)
  | true=>
  refine CK (jeq (jif (λh0=>?_) (λh0=>?_)))
  .have h0:n = 0:=by have:=eq_of_beq h0;omega
   refine jbs rfl rfl λb1=>(BC (YZ _) ?_)
   have hx:BY R3 (y ++ ((b1,C 3 [I i]) :: (x ++ (D ++ F)))) (some ⟨b1,0,none⟩) (1 * 1) ([(i:Int)].map I):=BY.held (cs:=[I i]) (z_n 1);refine jas H rfl (by simp only[eK];omega) hx λv' A' a6=>(Al A' (G:=x ++ (D ++ F)) (BC ZS (a2 _ _ _ ⟨rfl,left,fr,Q ++ [(i:Int)],N,v',x,A',j,s2 a4 h0,A,a6,rfl,rfl⟩)))
  .have h0:1<=n:=by have:=ne_of_beq_false h0;omega
   refine jle (jif (λh2=>?_) (λh2=>?_))
   .have h2:=z_f h2;refine jbs rfl rfl λb1=>(BC eP.symm ?_)
    have hx:BY R3 (x ++ ((b1,C 3 [I i]) :: (y ++ (D ++ F)))) (some ⟨b1,0,none⟩) (1 * 1) ([(i:Int)].map I):=BY.held (cs:=[I i]) (z_n 1);refine jas A rfl (by simp only[eK];omega) hx λv' A' a6=>?_
    have a0 : inR (left - n):=by have:=j.1;have:=j.2;constructor<;>omega
    refine Sd a0 (Al A' (G:=y ++ (D ++ F)) (a2 _ _ _ ⟨rfl,left - n,fr ++ [(i:Int)],Q,v',O,A',y,a0,s3 a4 h0 h2,a6,H,rfl,rfl⟩))
   .have h2:=z_g h2;exact a2 _ _ _ ⟨rfl,left,fr,Q,N,O,x,y,j,s4 h0 h2,A,H,rfl,rfl⟩
 refine jor [S0 b t.length cap,hv,N,O,I left,I n,I i,Pt b2] ((t[i].kind != 3) || (t[i].top != t[i].BH)) (λK' a3=>?_) (λe c u ho he=>?_)
 .refine jl rfl (jne (jgO a3 λh1 hN=>jl rfl (jl rfl (jne hN))))
 refine z_V ?_;refine jor [S0 b t.length cap,hv,N,O,I left,I n,I i,Pt b2] ((t[i].kind != 3) || (t[i].top != t[i].BH) || (t[i].AJ != n)) (λK' a3=>?_) (λe c u ho he=>?_)
 .rw[ho];refine jgO a3 λh1 hN=>jl rfl (jne hN)
 refine z_V ?_;generalize b8:((t[i].kind != 3) || (t[i].top != t[i].BH) || (t[i].AJ != n)) = f3 at ho;have W:C0 held n i t[i] = (!f3 && decide (t[i].AJ < t[i].top - AK i) && !(held.contains (i:Int))):=by
  unfold C0;rw[<- b8];simp only[bne,Bool.not_or,Bool.not_not,Bool.and_assoc]
 cases f3 with
 | true=>
  rw[hQ,fM,fM] at W;refine Ce ?_;rw[ho];refine jtf (C6 λe he=>?_);refine z_V ?_;refine jtf (Ce (jtf (C6 λe he=>?_)));refine z_V ?_;refine Ce (EN (jtf (C6 λe he=>?_)));refine z_V ?_;refine Ak (jtf jev) (Ak (jtf jev) (jtf (EN (BT (a1 _ _ _ ⟨rfl,rfl,by rw[W];rfl⟩)))))
 | false=>
  rw[Bool.not_false,f7] at W;refine Ce ?_;rw[ho];refine jff (jl rfl (jl rfl (C6 λe he=>?_)));refine z_V ?_;refine jff (jp (Bf i) (Ce (jff (jsu (jge (C6 λe he=>?_))))));refine z_V ?_;refine Ce (ER ?_);by_cases c4:t[i].AJ < t[i].top - AK i
  .rw[decide_eq_false (show ¬ t[i].AJ>=t[i].top - AK i by omega)];rw[decide_eq_true c4,f7] at W;refine jff (C6 λe he=>?_);refine z_V ?_;refine Ak (jff (jl rfl jev)) (Ak (jff (jl rfl jev)) (jff (jro (Yz i hi b9) (ER (BT (a1 _ _ _ ⟨rfl,rfl,by rw[W,Bool.not_not]⟩))))))
  .rw[decide_eq_true (show t[i].AJ>=t[i].top - AK i by omega)];rw[decide_eq_false c4,fM] at W;refine jtf (C6 λe he=>?_);refine z_V ?_;refine Ak (jff (jl rfl jev)) (Ak (jff (jl rfl jev)) (jtf (EN (BT (a1 _ _ _ ⟨rfl,rfl,by rw[W];rfl⟩)))))
end AA
end Go.Lf
end
section
namespace Sm
def shp (w:List Int) (a:Int):Shp:=(AT (wv w (a + 1))).1
def sz (w:List Int) (a:Int):Int:=AH (shp w a)
def Be (t:List Rg) (a:Int):Prop:=0<=a/\(rv t (a / 16)).kind = 4
theorem V5 (v:Int):0<=(AT v).1.refs/\(AT v).1.refs<=4/\0<=(AT v).1.nums/\(AT v).1.nums<=4:=by
 unfold AT;split
 .simp only[];omega
 .simp[Vt]
theorem NP {s:Shp} (h:0<=s.refs/\s.refs<=4/\0<=s.nums/\s.nums<=4):AH s = 2 + s.refs + s.nums:=by
 unfold AH;rw[if_pos (by simp[BN];omega)]
theorem G8 (w:List Int) (a:Int):sz w a = 2 + (shp w a).refs + (shp w a).nums/\0<=(shp w a).refs/\(shp w a).refs<=4/\0<=(shp w a).nums/\(shp w a).nums<=4:=by
 have h:=V5 (wv w (a + 1));exact⟨NP h,h⟩
theorem EI {w w' : List Int} {a:Int} (h:wv w' (a + 1) = wv w (a + 1)):shp w' a = shp w a:=by unfold shp;rw[h]
theorem Hm {w w' : List Int} {a:Int} (h:wv w' (a + 1) = wv w (a + 1)):sz w' a = sz w a:=by unfold sz;rw[EI h]
structure Geo (w:List Int) (t:List Rg) (B:Int->Prop):Prop where
 len:(w.length:Int) = 16 * t.length
 ok:TOk t
 at_:∀a,B a->16<=a/\a + sz w a<=(rv t (a / 16)).top/\(AT (wv w (a + 1))).2 = true
 nx:∀a,B a->a + sz w a = (rv t (a / 16)).top\/B (a + sz w a)
 bs:∀r:Int,1<=r->r < t.length->(rv t r).top = 16 * r\/B (16 * r)
 dj:∀a b,B a->B b->a < b->a + sz w a<=b
theorem Geo.inn {w:List Int} {t:List Rg} {B:Int->Prop} (G:Geo w t B) {a:Int} (h:B a):16<=a/\1<=a / 16/\a / 16 < t.length/\a + sz w a<=(rv t (a / 16)).top/\(rv t (a / 16)).top<=16 * (a / 16) + 16/\a + sz w a<=w.length/\2<=sz w a/\sz w a<=10:=by
 obtain⟨x,j,_⟩:=G.at_ a h;have y:=G8 w a;have hl:=G.len;by_cases c:a / 16 < t.length
 .have:=(G.ok.row (a / 16) Z c).t1;exact⟨x,Z,c,j,this,Z,Z,Z⟩
 .rw[Dg Z Z] at j;simp only[Dm] at j;omega
structure X where
 w:List Int
 t:List Rg
 m:List Bool
 ph:Int
 sk:List Int
 old:List Int
 AI:List Int
 B:Int->Prop
 L:Int->Prop
 q:Int->Int
 r0:Int->Prop
def X.tm (x:X) (a:Int):Int:=(rv x.t (a / 16)).BH
def Lg (x:X) (v:Int):Prop:=v = 0\/mv x.m v = true\/v∈x.sk\/v∈x.old\/(0<=v/\x.tm v<=v)
open Classical in
noncomputable def cnt (x:X) (r:Int):Nat:=(List.range 16).countP λ(k:Nat)=>decide (∃a,0<=a/\mv x.m a = true/\a<=16 * r + (k:Int)/\16 * r + (k:Int) < a + sz x.w a)
structure Mp (x:X):Prop where
 sk:∀a∈x.sk,x.L a
 old:∀a∈x.old,x.L a
 mn:∀Y:Int->Prop,(∀a,x.r0 a->Y a)->(∀a j,x.L a->a < x.tm a->Y a->0<=j->j < (shp x.w a).refs->x.q (a + 2 + j)≠0->Y (x.q (a + 2 + j)))->∀a,x.L a->a < x.tm a->Y a
 l0:∀a,x.r0 a->x.L a/\a < x.tm a/\Lg x a
 ql:∀a j,x.L a->a < x.tm a->0<=j->j < (shp x.w a).refs->x.q (a + 2 + j)≠0->x.L (x.q (a + 2 + j))/\x.q (a + 2 + j) < x.tm (x.q (a + 2 + j))
 un:∀a j,x.L a->a < x.tm a->0<=j->j < (shp x.w a).refs->wv x.w (a + 2 + j) = x.q (a + 2 + j)\/Lg x (x.q (a + 2 + j))
 cov:∀r:Int,1<=r->r < x.t.length->(rv x.t r).AJ = cnt x r
structure Sh (x:X):Prop where
 g:Geo x.w x.t x.B
 lb:∀a,x.L a->x.B a
 rf:∀a j,x.L a->0<=j->j < (shp x.w a).refs->wv x.w (a + 2 + j)≠0->x.L (wv x.w (a + 2 + j))
 st:∀a,x.B a->¬ Be x.t a->wv x.w a = a
 fw:∀a,x.B a->Be x.t a->wv x.w a≠a->x.L (wv x.w a)/\¬ Be x.t (wv x.w a)/\wv x.w (wv x.w a + 1) = wv x.w (a + 1)
 ml:x.m.length = x.w.length
 mt:∀a,0<=a->mv x.m a = true->x.L a/\a < x.tm a
 ph:0<=x.ph/\x.ph<=3
 nf:x.ph<=1->∀r:Int,0<=r->(rv x.t r).kind≠4
 lm:2<=x.ph->∀a,x.L a->a < x.tm a->mv x.m a = true
 pl:∀a∈x.AI,x.L a/\¬ Be x.t a
 fm:∀a,x.L a->Be x.t a->mv x.m a = true
 nb:1<=x.ph->∀a,x.B a->x.tm a<=a->x.L a
 af:x.ph = 3->∀a,x.L a->Be x.t a->wv x.w a≠a
 mp:x.ph = 1->Mp x
structure Kp (o:Int) (x y:X):Prop where
 wl:y.w.length = x.w.length
 tl:y.t.length = x.t.length
 ph:y.ph = x.ph
 l:∀a,x.L a->y.L a
 b:∀a,x.B a->y.B a
 lf:∀a,y.L a->Be y.t a->x.L a
 fr:∀r:Int,0<=r->((rv y.t r).kind = 4↔(rv x.t r).kind = 4)
 tm:∀r:Int,0<=r->(rv y.t r).BH = (rv x.t r).BH
 own:∀r:Int,0<=r->(rv x.t r).kind = 2->(rv x.t r).AX≠o->((rv y.t r).kind = 2/\(rv y.t r).AX = (rv x.t r).AX/\(rv y.t r).top = (rv x.t r).top)/\∀z,(rv x.t r).top<=z->z < 16 * r + 16->wv y.w z = wv x.w z
 sh:∀a,x.B a->wv y.w (a + 1) = wv x.w (a + 1)
 bd:∀a z,x.L a->Be x.t a->a < z->z < a + sz x.w a->wv y.w z = wv x.w z
 fwd:∀a,x.B a->wv x.w a≠a->wv y.w a = wv x.w a
 lg:x.ph = 1->∀v,Lg x v->Lg y v
 q:y.q = x.q
 cl:x.ph = 3->∀a j,y.L a->¬ Be y.t a->0<=j->j < (shp y.w a).refs->Be y.t (wv y.w (a + 2 + j))->x.L a/\wv x.w (a + 2 + j) = wv y.w (a + 2 + j)
theorem Kp.refl (o:Int) (x:X):Kp o x x:=
 ⟨rfl,rfl,rfl,λ_ h=>h,λ_ h=>h,λ_ h _=>h,λ_ _=>Iff.rfl,λ_ _=>rfl,λ_ _ h _=>⟨⟨h,rfl,rfl⟩,λ_ _ _=>rfl⟩,λ_ _=>rfl,λ_ _ _ _ _ _=>rfl,λ_ _ _=>rfl,λ_ _ h=>h,rfl,λ_ _ _ h _ _ _ _=>⟨h,rfl⟩⟩
theorem Kp.frm {o:Int} {x y:X} (K:Kp o x y) {a:Int}:Be y.t a↔Be x.t a:=
 ⟨λh=>⟨h.1,(K.fr (a / 16) (by have:=h.1;omega)).1 h.2⟩,λh=>⟨h.1,(K.fr (a / 16) (by have:=h.1;omega)).2 h.2⟩⟩
theorem Kp.trans {o:Int} {x y z:X} (K:Kp o x y) (A : Kp o y z) (H:Sh x) (H' : Sh y):Kp o x z where
 wl:=by rw[A.wl,K.wl]
 tl:=by rw[A.tl,K.tl]
 ph:=by rw[A.ph,K.ph]
 l a h:=A.l a (K.l a h)
 b a h:=A.b a (K.b a h)
 lf a h h':=K.lf a (A.lf a h h') (A.frm.1 h')
 fr r h:=(A.fr r h).trans (K.fr r h)
 tm r h:=(A.tm r h).trans (K.tm r h)
 own r h hk ho:=by
  obtain⟨⟨e1,R,T⟩,f⟩:=K.own r h hk ho;obtain⟨⟨N,O,Q⟩,f'⟩:=A.own r h e1 (by rw[R];exact ho);refine⟨⟨N,by rw[O,R],by rw[Q,T]⟩,λu G D=>?_⟩;rw[f' u (by rw[T];exact G) D,f u G D]
 sh a h:=(A.sh a (K.b a h)).trans (K.sh a h)
 bd a u h hf G D:=by
  rw[A.bd a u (K.l a h) (K.frm.2 hf) G (by rw[Hm (K.sh a (H.lb a h))];exact D)];exact K.bd a u h hf G D
 fwd a h h':=by
  have e:=K.fwd a h h';rw[A.fwd a (K.b a h) (by rw[e];exact h'),e]
 lg hp v hv:=A.lg (by rw[K.ph];exact hp) v (K.lg hp v hv)
 q:=by rw[A.q,K.q]
 cl hp a j G D h3 h4 h5:=by
  obtain⟨W,g2⟩:=A.cl (by rw[K.ph];exact hp) a j G D h3 h4 h5;have e:=EI (A.sh a (H'.lb a W));rw[e] at h4;rw[<- g2] at h5;obtain⟨f1,f2⟩:=K.cl hp a j W (λh=>D (A.frm.2 h)) h3 h4 (A.frm.1 h5);exact⟨f1,by rw[f2,g2]⟩
end Sm
end
section
namespace Sm
structure Ow (x:X) (o dst size:Int):Prop where
 d0:16<=dst
 k:(rv x.t (dst / 16)).kind = 2
 o:(rv x.t (dst / 16)).AX = o
 top:(rv x.t (dst / 16)).top = dst
 fit:dst + size<=16 * (dst / 16) + 16
theorem Ow.inn {x:X} {o dst size:Int} (O:Ow x o dst size):dst / 16 < x.t.length:=by
 by_cases c:dst / 16 < x.t.length
 .exact c
 .have:=O.k;rw[Dg (by have:=O.d0;omega) Z] at this;cases this
theorem Ow.wl {x:X} {o dst size:Int} (O:Ow x o dst size) (G:Geo x.w x.t x.B):dst + size<=x.w.length:=by
 have j:=O.inn;have y:=G.len;have A:=O.fit;omega
theorem Ow.stable {o p:Int} {x y:X} {dst size:Int} (O:Ow x o dst size) (K:Kp p x y) (H:p≠o):Ow y o dst size/\∀z,dst<=z->z < dst + size->wv y.w z = wv x.w z:=by
 have h0:=O.d0;obtain⟨⟨j,A,D⟩,f⟩:=K.own (dst / 16) Z O.k (by rw[O.o];exact H.symm);refine⟨⟨O.d0,j,by rw[A];exact O.o,by rw[D];exact O.top,O.fit⟩,λz G N=>f z (by rw[O.top];exact G) ?_⟩;have:=O.fit;omega
theorem sep {w:List Int} {t:List Rg} {B:Int->Prop} (G:Geo w t B) {a b k l:Int} (j:B a) (hb:B b) (k0:0<=k) (k1:k < sz w a) (l0:0<=l) (l1:l < sz w b) (h:a + k = b + l):a = b/\k = l:=by
 rcases Int.lt_trichotomy a b with c | c | c
 .have:=G.dj a b j hb c;omega
 .omega
 .have:=G.dj b a hb j c;omega
theorem Ow.sep {x:X} {o dst size z:Int} (O:Ow x o dst size) (G:Geo x.w x.t x.B) (W:dst<=z) (h2:z < dst + size) {a k:Int} (y:x.B a) (k0:0<=k) (k1:k < sz x.w a):a + k≠z:=by
 intro h;obtain⟨D,H,K,j,N,Q,R,T⟩:=G.inn y;have A:=O.fit;have e0:=O.d0;have:a / 16 = dst / 16:=Z
 rw[this,O.top] at j;omega
theorem Uy {x y:X} (G:y.m = x.m) (H:∀a,0<=a->mv x.m a = true->sz y.w a = sz x.w a) (r:Int):cnt y r = cnt x r:=by
 unfold cnt;congr 1;funext k;congr 1;apply propext;constructor
 .rintro⟨a,h0,j,A,D⟩;rw[G] at j;exact⟨a,h0,j,A,by rw[<- H a h0 j];exact D⟩
 .rintro⟨a,h0,j,A,D⟩;exact⟨a,h0,by rw[G];exact j,A,by rw[H a h0 j];exact D⟩
theorem Sh.wr {x:X} {w' : List Int} (H:Sh x) (hl:w'.length = x.w.length) (G:∀a,x.B a->wv w' (a + 1) = wv x.w (a + 1)) (a8:∀a,x.B a->¬ Be x.t a->wv w' a = a)
  (a5:∀a,x.B a->Be x.t a->wv w' a≠a->x.L (wv w' a)/\¬ Be x.t (wv w' a)/\wv x.w (wv w' a + 1) = wv x.w (a + 1))
  (a7:∀a j,x.L a->0<=j->j < (shp x.w a).refs->wv w' (a + 2 + j)≠0->x.L (wv w' (a + 2 + j)))
  (a9:x.ph = 1->∀a j,x.L a->a < x.tm a->0<=j->j < (shp x.w a).refs->wv w' (a + 2 + j) = x.q (a + 2 + j)\/Lg x (x.q (a + 2 + j)))
  (a4:x.ph = 3->∀a,x.L a->Be x.t a->wv w' a≠a):Sh { x with w:=w' }:=by
 have R:∀a,x.B a->sz w' a = sz x.w a:=λa h=>Hm (G a h)
 have Q:∀a,x.B a->shp w' a = shp x.w a:=λa h=>EI (G a h)
 have g:=H.g;refine⟨⟨by rw[hl];exact g.len,g.ok,λa h=>?_,λa h=>?_,g.bs,λa b h h' W=>?_⟩,H.lb,λa j h h0 O T=>?_,a8,λa h hf a6=>?_,by rw[hl];exact H.ml,H.mt,H.ph,H.nf,H.lm,H.pl,H.fm,H.nb,a4,λO=>?_⟩
 .obtain⟨a1,a2,a3⟩:=g.at_ a h;exact⟨a1,by rw[R a h];exact a2,by rw[G a h];exact a3⟩
 .rw[R a h];exact g.nx a h
 .rw[R a h];exact g.dj a b h h' W
 .exact a7 a j h h0 (by rw[<- Q a (H.lb a h)];exact O) T
 .obtain⟨b1,b2,b3⟩:=a5 a h hf a6;refine⟨b1,b2,?_⟩;show wv w' (wv w' a + 1) = wv w' (a + 1);rw[G a h,G _ (H.lb _ b1)];exact b3
 .have M:=H.mp O;refine⟨M.sk,M.old,λb0 T h3=>M.mn b0 T λa j A K hy N D hq=>h3 a j A K hy N (by show j < (shp w' a).refs;rw[Q a (H.lb a A)];exact D) hq,M.l0,λa j A K N D=>M.ql a j A K N (by have D:j < (shp w' a).refs:=D;rw[<- Q a (H.lb a A)];exact D),λa j A K N D=>?_,λr r0 r1=>?_⟩
  .exact a9 O a j A K N (by have D:j < (shp w' a).refs:=D;rw[<- Q a (H.lb a A)];exact D)
  .show (rv x.t r).AJ = _;rw[M.cov r r0 r1,Uy (x:=x) (y:={ x with w:=w' }) rfl λa a0 A=>R a (H.lb a (H.mt a a0 A).1)]
theorem Xx {x:X} {o dst size z v:Int} (H:Sh x) (O:Ow x o dst size) (T:dst<=z) (h2:z < dst + size):Sh { x with w:=AU x.w z v }/\Kp o x { x with w:=AU x.w z v }:=by
 have d0:=O.d0;have wl:=O.wl H.g;have e:∀u,0<=u->wv (AU x.w z v) u = if u = z then v else wv x.w u:=λu hu=>Cn Z Z hu
 have Q:∀a k,x.B a->0<=k->k < sz x.w a->wv (AU x.w z v) (a + k) = wv x.w (a + k):=λa k h k0 k1=>by
  have:=(H.g.at_ a h).1;rw[e _ Z,if_neg (O.sep H.g T h2 h k0 k1)]
 have N:∀a,x.B a->wv (AU x.w z v) a = wv x.w a:=λa h=>by
  have:=Q a 0 h Z (by have:=H.g.inn h;omega);rwa [Int.add_zero] at this
 have hs:∀a,x.B a->wv (AU x.w z v) (a + 1) = wv x.w (a + 1):=λa h=>Q a 1 h Z (by have:=H.g.inn h;omega)
 have W:∀a j,x.L a->0<=j->j < (shp x.w a).refs->wv (AU x.w z v) (a + 2 + j) = wv x.w (a + 2 + j):=λa j h D y=>by
  have:=Q a (2 + j) (H.lb a h) Z (by have:=G8 x.w a;omega);rwa [<- Int.add_assoc] at this
 refine⟨H.wr V hs (λa h G=>by rw[N a h];exact H.st a h G) (λa h G K=>by rw[N a h] at K ⊢;exact H.fw a h G K) (λa j h D y=>by rw[W a j h D y];exact H.rf a j h D y) (λT a j h ht D y=>by rw[W a j h D y];exact (H.mp T).un a j h ht D y) (λh3 a h G=>by rw[N a (H.lb a h)];exact H.af h3 a h G),?_⟩;refine⟨V,rfl,rfl,λ_ h=>h,λ_ h=>h,λ_ h _=>h,λ_ _=>Iff.rfl,λ_ _=>rfl,λr r0 A ho=>⟨⟨A,rfl,rfl⟩,λu hu a0=>?_⟩,hs,λa u h G u0 u1=>?_,λa h _=>N a h,λ_ _ h=>h,rfl,λ_ a j h G D y _=>⟨h,?_⟩⟩
 .show wv (AU x.w z v) u = wv x.w u;have K:r≠dst / 16:=λc=>by subst c;exact ho O.o
  by_cases c:0<=u
  .rw[e u c,if_neg];intro c2;subst c2;have:=O.fit;have t0:16 * r<=(rv x.t r).top:=by
    by_cases c3:r < x.t.length
    .by_cases R:1<=r
     .exact (H.g.ok.row r R c3).t0
     .have:r = 0:=Z
      subst this;rw[H.g.ok.e] at A;cases A
    .rw[Dg r0 Z] at A;cases A
   omega
  .by_cases c3:r < x.t.length
   .by_cases R:1<=r
    .have:=(H.g.ok.row r R c3).t0;omega
    .have:r = 0:=Z
     subst this;rw[H.g.ok.e] at A;cases A
   .rw[Dg r0 Z] at A;cases A
 .have:=Q a (u - a) (H.lb a h) Z Z;rwa [show a + (u - a) = u from Z] at this
 .have y:j < (shp (AU x.w z v) a).refs:=y;rw[EI (hs a (H.lb a h))] at y;exact (W a j h D y).symm
theorem Zp {x:X} (H:Sh x) {r:Int} (r0:0<=r) (j:(rv x.t r).kind≠0):1<=r/\r < x.t.length:=by
 by_cases c3:r < x.t.length
 .by_cases y:1<=r
  .exact⟨y,c3⟩
  .have:r = 0:=Z
   subst this;rw[H.g.ok.e] at j;exact absurd rfl j
 .rw[Dg r0 Z] at j;exact absurd rfl j
theorem room {x:X} {t' : List Rg} {o size d:Int} (H:Sh x) (P:UT x.t o size t' d):Sh { x with t:=t' }/\Kp o x { x with t:=t' }/\Ow { x with t:=t' } o d size:=by
 have G:∀a,Be t' a↔Be x.t a:=λa=>⟨λh=>⟨h.1,(P.frm (a / 16) (by have:=h.1;omega)).1 h.2⟩,λh=>⟨h.1,(P.frm (a / 16) (by have:=h.1;omega)).2 h.2⟩⟩
 have g:=H.g;have p0:∀a,x.B a->0<=a / 16:=λa h=>by have:=g.inn h;omega
 have Q:∀a,x.B a->X.tm { x with t:=t' } a = x.tm a:=λa h=>P.BH _ (p0 a h)
 have tm:∀a,x.L a->X.tm { x with t:=t' } a = x.tm a:=λa h=>Q a (H.lb a h)
 have lg:∀v,Lg x v->Lg { x with t:=t' } v:=λv h=>h.imp id λh=>h.imp id λh=>h.imp id λh=>h.imp id λh=>⟨h.1,by have:=P.BH (v / 16) (by have:=h.1;omega);have h2:x.tm v<=v:=h.2;show (rv t' (v / 16)).BH<=v;rw[this];exact h2⟩
 refine⟨⟨⟨by rw[P.len];exact g.len,P.ok,λa h=>?_,λa h=>?_,λr r0 r1=>?_,g.dj⟩,H.lb,H.rf,λa h hn=>H.st a h λc=>hn ((G a).2 c),λa h D a1=>?_,H.ml,λa a0 h=>?_,H.ph,λK r r0 T=>H.nf K r r0 ((P.frm r r0).1 T),λK a h y=>?_,λa h=>⟨(H.pl a h).1,λc=>(H.pl a h).2 ((G a).1 c)⟩,λa h D=>H.fm a h ((G a).1 D),λh1 a h y=>H.nb h1 a h (by rw[<- Q a h];exact y),λh3 a h D=>H.af h3 a h ((G a).1 D),λK=>?_⟩,?_,P.d0,P.dk,P.do_,P.dt,P.fit⟩
 .rw[P.top _ (p0 a h)];exact g.at_ a h
 .rw[P.top _ (p0 a h)];exact g.nx a h
 .rw[P.top r Z];exact g.bs r r0 (by rw[<- P.len];exact r1)
 .obtain⟨R,W,b3⟩:=H.fw a h ((G a).1 D) a1;exact⟨R,λc=>W ((G _).1 c),b3⟩
 .obtain⟨R,W⟩:=H.mt a a0 h;exact⟨R,by rw[tm a R];exact W⟩
 .rw[tm a h] at y;exact H.lm K a h y
 .have M:=H.mp K;refine⟨M.sk,M.old,λa2 h2 h3 a A y=>M.mn a2 h2 (λa j A y hy N O hq=>h3 a j A (by rw[tm a A];exact y) hy N O hq) a A (by rw[tm a A] at y;exact y),λa h=>⟨(M.l0 a h).1,by rw[tm a (M.l0 a h).1];exact (M.l0 a h).2.1,lg a (M.l0 a h).2.2⟩,λa j A y N O hq=>by
   obtain⟨q1,q2⟩:=M.ql a j A (by rw[tm a A] at y;exact y) N O hq
   exact⟨q1,by rw[tm _ q1];exact q2⟩,λa j A y N O=>(M.un a j A (by rw[tm a A] at y;exact y) N O).imp id (lg _),λr r0 r1=>?_⟩
  show (rv t' r).AJ = _;rw[P.AJ r Z];exact M.cov r r0 (by rw[<- P.len];exact r1)
 .refine⟨rfl,P.len,rfl,λ_ h=>h,λ_ h=>h,λ_ h _=>h,P.frm,P.BH,λr r0 T ho=>⟨by rw[show rv ({ x with t:=t' }:X).t r = rv x.t r from P.oth r r0 T ho];exact⟨T,rfl,rfl⟩,λ_ _ _=>rfl⟩,λ_ _=>rfl,λ_ _ _ _ _ _=>rfl,λ_ _ _=>rfl,λ_=>lg,rfl,λ_ a j h _ _ _ _=>⟨h,rfl⟩⟩
def X.pub (x:X) (dst size:Int):X:={ x with t:=AU x.t (dst / 16) { rv x.t (dst / 16) with top:=dst + size },B:=λa=>x.B a\/a = dst,L:=λa=>x.L a\/a = dst }
theorem pub {x:X} {o dst size:Int} (H:Sh x) (O:Ow x o dst size) (hz:sz x.w dst = size) (h2:(AT (wv x.w (dst + 1))).2 = true) (hh:wv x.w dst = dst)
  (hr:∀j,0<=j->j < (shp x.w dst).refs->wv x.w (dst + 2 + j)≠0->x.L (wv x.w (dst + 2 + j)))
  (hc:x.ph = 3->∀j,0<=j->j < (shp x.w dst).refs->¬ Be x.t (wv x.w (dst + 2 + j))):Sh (x.pub dst size)/\Kp o x (x.pub dst size):=by
 have d0:=O.d0;have inn:=O.inn;have fit:=O.fit;have s2:=G8 x.w dst;have g:=H.g;have R:=g.ok.row (dst / 16) Z inn;have top:=O.top;have e:∀r,0<=r->rv (x.pub dst size).t r = if r = dst / 16 then { rv x.t (dst / 16) with top:=dst + size } else rv x.t r:=λr r0=>DV Z inn r0
 have ek:∀r,0<=r->(rv (x.pub dst size).t r).kind = (rv x.t r).kind:=λr r0=>by
  rw[e r r0];split
  .subst r;rfl
  .rfl
 have et:∀r,0<=r->(rv (x.pub dst size).t r).BH = (rv x.t r).BH:=λr r0=>by
  rw[e r r0];split
  .subst r;rfl
  .rfl
 have el:∀r,0<=r->(rv (x.pub dst size).t r).AJ = (rv x.t r).AJ:=λr r0=>by
  rw[e r r0];split
  .subst r;rfl
  .rfl
 have eo:∀r,0<=r->(rv (x.pub dst size).t r).AX = (rv x.t r).AX:=λr r0=>by
  rw[e r r0];split
  .subst r;rfl
  .rfl
 have ep:∀r,0<=r->(rv (x.pub dst size).t r).top = if r = dst / 16 then dst + size else (rv x.t r).top:=λr r0=>by
  rw[e r r0];split
  .rfl
  .rfl
 have K:∀a,Be (x.pub dst size).t a↔Be x.t a:=λa=>⟨λh=>⟨h.1,by have:=h.1;have:=h.2;rw[ek _ Z] at this;exact this⟩,λh=>⟨h.1,by have:=h.1;rw[ek _ Z];exact h.2⟩⟩
 have T:¬ Be x.t dst:=λc=>by have:=c.2;rw[O.k] at this;cases this
 have lt:x.tm dst<=dst:=by have:=R.s1;rw[top] at this;exact this
 have tm:∀a,0<=a->(x.pub dst size).tm a = x.tm a:=λa h=>et _ Z
 have lg:∀v,Lg x v->Lg (x.pub dst size) v:=λv h=>h.imp id λh=>h.imp id λh=>h.imp id λh=>h.imp id λh=>⟨h.1,by rw[tm v h.1];exact h.2⟩
 have len:(x.pub dst size).t.length = x.t.length:=by simp[X.pub]
 have nb:∀a,x.B a->a / 16 = dst / 16->a + sz x.w a<=dst:=λa h c=>by
  have:=(g.at_ a h).2.1;rw[c,top] at this;exact this
 refine⟨⟨⟨by rw[len];exact g.len,?_,?_,?_,?_,?_⟩,?_,?_,?_,?_,H.ml,?_,H.ph,λW r r0 hk=>H.nf W r r0 (by rw[ek r r0] at hk;exact hk),?_,?_,?_,?_,?_,?_⟩,?_⟩
 .refine TOk.set g.ok Z inn ⟨R.k0,R.k1,?_,?_,R.s0,?_,R.l0,?_,λh=>?_,R.ow,R.o0,R.o1⟩ λs s0 s1 D ho he=>D (g.ok.own s (dst / 16) s0 s1 Z inn (by rw[he];exact ho) he)
  .show 16 * (dst / 16)<=dst + size;omega
  .show dst + size<=_;omega
  .have:=R.s1;show (rv x.t (dst / 16)).BH<=dst + size;omega
  .have:=R.l1;show (rv x.t (dst / 16)).AJ<=dst + size - 16 * (dst / 16);omega
  .exact absurd (O.k.symm.trans h) δ
 .rintro a (h | h)
  .obtain⟨a1,a2,a3⟩:=g.at_ a h;refine⟨a1,?_,a3⟩;rw[ep _ Z];show a + sz x.w a<=_;split
   .have:=nb a h (by assumption);omega
   .exact a2
  .subst h;refine⟨d0,?_,h2⟩;rw[ep _ Z,if_pos rfl];show a + sz x.w a<=_;omega
 .rintro a (h | h)
  .have a1:=(g.at_ a h).1;rw[ep _ Z];show a + sz x.w a = _\/(x.B (a + sz x.w a)\/a + sz x.w a = dst);rcases g.nx a h with c | c
   .split
    .rename_i c2;rw[c2,top] at c;exact .inr (.inr c)
    .exact .inl c
   .exact .inr (.inl c)
  .subst h;left;rw[ep _ Z,if_pos rfl];show a + sz x.w a = _;rw[hz]
 .intro r r0 r1;rw[len] at r1;rw[ep r Z];rcases g.bs r r0 r1 with c | c
  .split
   .rename_i c2;rw[c2,top] at c;right;right;rw[c2];omega
   .exact .inl c
  .exact .inr (.inl c)
 .rintro a b (h | h) (h' | h') a4
  .exact g.dj a b h h' a4
  .subst h';show a + sz x.w a<=b;by_cases c:a / 16 = b / 16
   .exact nb a h c
   .have:=g.inn h;omega
  .subst h;show a + sz x.w a<=b;by_cases c:b / 16 = a / 16
   .have:=nb b h' c;have:=g.inn h';omega
   .omega
  .omega
 .rintro a (h | h)
  .exact .inl (H.lb a h)
  .exact .inr h
 .rintro a j (h | h) N Q D
  .exact .inl (H.rf a j h N Q D)
  .subst h;exact .inl (hr j N Q D)
 .rintro a (h | h) hn
  .exact H.st a h λc=>hn ((K a).2 c)
  .subst h;exact hh
 .rintro a (h | h) y D
  .obtain⟨b1,b2,b3⟩:=H.fw a h ((K a).1 y) D;exact⟨.inl b1,λc=>b2 ((K _).1 c),b3⟩
  .subst h;exact absurd ((K a).1 y) T
 .intro a a0 h;obtain⟨b1,b2⟩:=H.mt a a0 h;exact⟨.inl b1,by rw[tm a a0];exact b2⟩
 .rintro W a (h | h) A
  .rw[tm a (by have:=(g.at_ a (H.lb a h)).1;omega)] at A;exact H.lm W a h A
  .subst h;rw[tm a Z] at A;omega
 .intro a h;exact⟨.inl (H.pl a h).1,λc=>(H.pl a h).2 ((K a).1 c)⟩
 .rintro a (h | h) y
  .exact H.fm a h ((K a).1 y)
  .subst h;exact absurd ((K a).1 y) T
 .rintro h1 a (h | h) A
  .left;rw[tm a (by have:=(g.at_ a h).1;omega)] at A;exact H.nb h1 a h A
  .exact .inr h
 .rintro h3 a (h | h) y
  .exact H.af h3 a h ((K a).1 y)
  .subst h;exact absurd ((K a).1 y) T
 .intro W;have M:=H.mp W;have back:∀a,(x.pub dst size).L a->a < (x.pub dst size).tm a->x.L a/\a < x.tm a:=by
   rintro a (h | h) A
   .rw[tm a (by have:=(g.at_ a (H.lb a h)).1;omega)] at A;exact⟨h,A⟩
   .subst h;rw[tm a Z] at A;omega
  refine⟨λa h=>.inl (M.sk a h),λa h=>.inl (M.old a h),λa5 h2 h3 a G A=>?_,λa h=>⟨.inl (M.l0 a h).1,by rw[tm a (by have:=(g.at_ a (H.lb a (M.l0 a h).1)).1;omega)];exact (M.l0 a h).2.1,lg a (M.l0 a h).2.2⟩,λa j G A N Q hq=>?_,λa j G A N Q=>(M.un a j (back a G A).1 (back a G A).2 N Q).imp id (lg _),λr r0 r1=>?_⟩
  .exact M.mn a5 h2 (λa j G A hy N Q hq=>h3 a j (.inl G) (by rw[tm a (by have:=(g.at_ a (H.lb a G)).1;omega)];exact A) hy N Q hq) a (back a G A).1 (back a G A).2
  .obtain⟨q1,q2⟩:=M.ql a j (back a G A).1 (back a G A).2 N Q hq;have q0:16<=x.q (a + 2 + j):=(g.at_ _ (H.lb _ q1)).1;exact⟨.inl q1,by rw[show (x.pub dst size).tm ((x.pub dst size).q (a + 2 + j)) = x.tm (x.q (a + 2 + j)) from tm (x.q (a + 2 + j)) Z];exact q2⟩
  .rw[el r Z];exact M.cov r r0 (by rw[<- len];exact r1)
 .refine⟨rfl,len,rfl,λ_ h=>.inl h,λ_ h=>.inl h,?_,λr r0=>by rw[ek r r0],et,λr r0 hk ho=>⟨⟨by rw[ek r r0];exact hk,eo r r0,?_⟩,λ_ _ _=>rfl⟩,λ_ _=>rfl,λ_ _ _ _ _ _=>rfl,λ_ _ _=>rfl,λ_=>lg,rfl,?_⟩
  .rintro a (h | h) y
   .exact h
   .subst h;exact absurd ((K a).1 y) T
  .rw[ep r r0,if_neg];intro c;subst c;exact ho O.o
  .rintro W a j (h | h) hn N Q y
   .exact⟨h,rfl⟩
   .subst h;exact absurd ((K _).1 y) (hc W j N Q)
theorem UX {x:X} (H:Sh x) {r z:Int} (r0:0<=r) (A:(rv x.t r).kind = 2) (T:(rv x.t r).top<=z) (W:z < 16 * r + 16):16<=z/\z / 16 = r/\∀a k,x.B a->0<=k->k < sz x.w a->a + k≠z:=by
 obtain⟨c1,c2⟩:=Zp H r0 (by rw[A];decide);have t0:=(H.g.ok.row r c1 c2).t0;refine⟨Z,Z,λa k y k0 k1 h=>?_⟩;obtain⟨D,G,K,j,N,O,Q,R⟩:=H.g.inn y;have:a / 16 = r:=Z
 rw[this] at j;omega
theorem fwd {x:X} {o src dst:Int} (H:Sh x) (T:x.L src) (hf:Be x.t src) (hw:wv x.w src = src) (hd:x.L dst) (hn:¬ Be x.t dst) (he:wv x.w (dst + 1) = wv x.w (src + 1)) (h3:x.ph≠3):Sh { x with w:=AU x.w src dst }/\Kp o x { x with w:=AU x.w src dst }:=by
 obtain⟨g1,g2,g3,g4,g5,g6,g7,g8⟩:=H.g.inn (H.lb _ T);have e:∀u,0<=u->wv (AU x.w src dst) u = if u = src then dst else wv x.w u:=λu W=>Cn Z Z W
 have Q:∀a k,x.B a->1<=k->k < sz x.w a->wv (AU x.w src dst) (a + k) = wv x.w (a + k):=λa k h k0 k1=>by
  have:=(H.g.at_ a h).1;rw[e _ Z,if_neg];intro c;have:=sep H.g h (H.lb _ T) (k:=k) (l:=0) Z k1 Z Z Z;omega
 have hz:∀a,x.B a->wv (AU x.w src dst) (a + 1) = wv x.w (a + 1):=λa h=>Q a 1 h Z (by have:=H.g.inn h;omega)
 have hr:∀a j,x.L a->0<=j->j < (shp x.w a).refs->wv (AU x.w src dst) (a + 2 + j) = wv x.w (a + 2 + j):=λa j h A D=>by
  have:=Q a (2 + j) (H.lb a h) Z (by have:=G8 x.w a;omega);rwa [<- Int.add_assoc] at this
 have O:∀a,x.B a->a≠src->wv (AU x.w src dst) a = wv x.w a:=λa h c=>by
  have:=(H.g.at_ a h).1;rw[e _ Z,if_neg c]
 refine⟨H.wr V hz (λa h K=>?_) (λa h N y=>?_) (λa j h A D=>by rw[hr a j h A D];exact H.rf a j h A D) (λh1 a j h ht A D=>by rw[hr a j h A D];exact (H.mp h1).un a j h ht A D) (λR=>absurd R h3),?_⟩
 .by_cases c:a = src
  .subst c;exact absurd hf K
  .rw[O a h c];exact H.st a h K
 .by_cases c:a = src
  .subst c;rw[e _ Z,if_pos rfl];exact⟨hd,hn,he⟩
  .rw[O a h c] at y ⊢;exact H.fw a h N y
 .refine⟨V,rfl,rfl,λ_ h=>h,λ_ h=>h,λ_ h _=>h,λ_ _=>Iff.rfl,λ_ _=>rfl,λr r0 G ho=>⟨⟨G,rfl,rfl⟩,λu W a0=>?_⟩,hz,λa u h _ u0 u1=>?_,λa h y=>?_,λ_ _ h=>h,rfl,λR=>absurd R h3⟩
  .obtain⟨c1,_,c3⟩:=UX H r0 G W a0;show wv (AU x.w src dst) u = wv x.w u;rw[e u Z,if_neg];intro c;exact c3 src 0 (H.lb _ T) Z Z Z
  .have:=Q a (u - a) (H.lb a h) Z Z;rwa [show a + (u - a) = u from Z] at this
  .refine O a h λc=>?_
   subst c;exact y hw
theorem Y2 {x:X} {a k v:Int} (H:Sh x) (j:x.L a) (k0:2<=k) (k1:k < sz x.w a) :
  (∀b,x.B b->wv (AU x.w (a + k) v) b = wv x.w b)/\(∀b,x.B b->wv (AU x.w (a + k) v) (b + 1) = wv x.w (b + 1))/\
  (∀b l,x.B b->0<=l->l < sz x.w b->wv (AU x.w (a + k) v) (b + l) = if b = a/\l = k then v else wv x.w (b + l))/\
  (∀r u:Int,0<=r->(rv x.t r).kind = 2->(rv x.t r).top<=u->u < 16 * r + 16->wv (AU x.w (a + k) v) u = wv x.w u):=by
 obtain⟨K,N,O,Q,R,T,W,g8⟩:=H.g.inn (H.lb _ j);have e:∀u,0<=u->wv (AU x.w (a + k) v) u = if u = a + k then v else wv x.w u:=λu D=>Cn Z Z D
 have y:∀b l,x.B b->0<=l->l < sz x.w b->wv (AU x.w (a + k) v) (b + l) = if b = a/\l = k then v else wv x.w (b + l):=λb l hb l0 l1=>by
  have:=(H.g.at_ b hb).1;rw[e _ Z];by_cases c:b + l = a + k
  .obtain⟨c1,c2⟩:=sep H.g hb (H.lb _ j) l0 l1 Z k1 c;rw[if_pos c,if_pos ⟨c1,c2⟩]
  .rw[if_neg c,if_neg (by rintro⟨rfl,rfl⟩;exact c rfl)]
 refine⟨λb hb=>?_,λb hb=>?_,y,λr u r0 A D G=>?_⟩
 .have:=y b 0 hb Z (by have:=H.g.inn hb;omega);rw[if_neg Z,Int.add_zero] at this;exact this
 .have:=y b 1 hb Z (by have:=H.g.inn hb;omega);rw[if_neg Z] at this;exact this
 .obtain⟨c1,_,c3⟩:=UX H r0 A D G;rw[e u Z,if_neg];intro c;exact c3 a k (H.lb _ j) Z Z c.symm
theorem num {x:X} {o a k v:Int} (H:Sh x) (ha:x.L a) (hn:¬ Be x.t a) (k0:2 + (shp x.w a).refs<=k) (k1:k < sz x.w a):Sh { x with w:=AU x.w (a + k) v }/\Kp o x { x with w:=AU x.w (a + k) v }:=by
 have s:=G8 x.w a;obtain⟨N,R,T,ho⟩:=Y2 (v:=v) H ha Z k1;have O:∀b j,x.L b->0<=j->j < (shp x.w b).refs->wv (AU x.w (a + k) v) (b + 2 + j) = wv x.w (b + 2 + j):=λb j h D y=>by
  have:=T b (2 + j) (H.lb b h) Z (by have:=G8 x.w b;omega);rw[<- Int.add_assoc] at this;rw[this,if_neg];rintro⟨rfl,c⟩;omega
 refine⟨H.wr V R (λb h A=>by rw[N b h];exact H.st b h A) (λb h A K=>by rw[N b h] at K ⊢;exact H.fw b h A K) (λb j h D y=>by rw[O b j h D y];exact H.rf b j h D y) (λW b j h ht D y=>by rw[O b j h D y];exact (H.mp W).un b j h ht D y) (λhp b h A=>by rw[N b (H.lb b h)];exact H.af hp b h A),?_⟩;refine⟨V,rfl,rfl,λ_ h=>h,λ_ h=>h,λ_ h _=>h,λ_ _=>Iff.rfl,λ_ _=>rfl,λr r0 G _=>⟨⟨G,rfl,rfl⟩,λu hu Q=>ho r u r0 G hu Q⟩,R,λb u h A u0 u1=>?_,λb h _=>N b h,λ_ _ h=>h,rfl,λ_ b j h A D y _=>⟨h,?_⟩⟩
 .have:=T b (u - b) (H.lb b h) Z Z;rw[show b + (u - b) = u from Z,if_neg] at this
  .exact this
  .rintro⟨rfl,_⟩;exact hn A
 .have y:j < (shp (AU x.w (a + k) v) b).refs:=y;rw[EI (R b (H.lb b h))] at y;exact (O b j h D y).symm
theorem ref {x:X} {o a j v:Int} (H:Sh x) (ha:x.L a) (hn:¬ Be x.t a) (j0:0<=j) (j1:j < (shp x.w a).refs) (hv:v≠0->x.L v) (h1:x.ph = 1->a < x.tm a->Lg x (x.q (a + 2 + j))) (h3:x.ph = 3->¬ Be x.t v) :
  Sh { x with w:=AU x.w (a + 2 + j) v }/\Kp o x { x with w:=AU x.w (a + 2 + j) v }:=by
 have s:=G8 x.w a;rw[Int.add_assoc];obtain⟨N,R,T,ho⟩:=Y2 (k:=2 + j) (v:=v) H ha Z Z;have O:∀b i,x.L b->0<=i->i < (shp x.w b).refs->wv (AU x.w (a + (2 + j)) v) (b + 2 + i) = if b = a/\i = j then v else wv x.w (b + 2 + i):=λb i h i0 i1=>by
  have:=T b (2 + i) (H.lb b h) Z (by have:=G8 x.w b;omega);rw[show b + (2 + i) = b + 2 + i from Z] at this;rw[this];by_cases c:b = a/\i = j
  .rw[if_pos c,if_pos ⟨c.1,Z⟩]
  .rw[if_neg c,if_neg (λc'=>c ⟨c'.1,Z⟩)]
 refine⟨H.wr V R (λb h A=>by rw[N b h];exact H.st b h A) (λb h A K=>by rw[N b h] at K ⊢;exact H.fw b h A K) (λb i h i0 i1=>?_) (λD b i h W i0 i1=>?_) (λD b h A=>by rw[N b (H.lb b h)];exact H.af D b h A),?_⟩
 .rw[O b i h i0 i1];split
  .exact hv
  .exact H.rf b i h i0 i1
 .rw[O b i h i0 i1];split
  .rename_i c;obtain⟨rfl,rfl⟩:=c;exact .inr (h1 D W)
  .exact (H.mp D).un b i h W i0 i1
 .refine⟨V,rfl,rfl,λ_ h=>h,λ_ h=>h,λ_ h _=>h,λ_ _=>Iff.rfl,λ_ _=>rfl,λr r0 G _=>⟨⟨G,rfl,rfl⟩,λu hu Q=>ho r u r0 G hu Q⟩,R,λb u h A u0 u1=>?_,λb h _=>N b h,λ_ _ h=>h,rfl,λD b i h A i0 i1 y=>⟨h,?_⟩⟩
  .have:=T b (u - b) (H.lb b h) Z Z;rw[show b + (u - b) = u from Z,if_neg] at this
   .exact this
   .rintro⟨rfl,_⟩;exact hn A
  .have i1:i < (shp (AU x.w (a + (2 + j)) v) b).refs:=i1;rw[EI (R b (H.lb b h))] at i1;have e:=O b i h i0 i1;show wv x.w (b + 2 + i) = wv (AU x.w (a + (2 + j)) v) (b + 2 + i);have y:Be x.t (wv (AU x.w (a + (2 + j)) v) (b + 2 + i)):=y;rw[e] at y ⊢;split
   .rename_i c;rw[if_pos c] at y;exact absurd y (h3 D)
   .rfl
theorem dM {x:X} {o:Int} {l:List Int} (H:Sh x) (hl:∀v∈l,x.L v) (y:∀v∈x.old,v∈l):Sh { x with old:=l }/\Kp o x { x with old:=l }:=by
 have lg:∀v,Lg x v->Lg { x with old:=l } v:=λv h=>by
  rcases h with h | h | h | h | h
  .exact .inl h
  .exact .inr (.inl h)
  .exact .inr (.inr (.inl h))
  .exact .inr (.inr (.inr (.inl (y v h))))
  .exact .inr (.inr (.inr (.inr h)))
 refine⟨⟨H.g,H.lb,H.rf,H.st,H.fw,H.ml,H.mt,H.ph,H.nf,H.lm,H.pl,H.fm,H.nb,H.af,λA=>?_⟩,?_⟩
 .have M:=H.mp A;exact⟨M.sk,hl,M.mn,λa h=>⟨(M.l0 a h).1,(M.l0 a h).2.1,lg _ (M.l0 a h).2.2⟩,M.ql,λa j h D G K=>(M.un a j h D G K).imp id (lg _),M.cov⟩
 .exact⟨rfl,rfl,rfl,λ_ h=>h,λ_ h=>h,λ_ h _=>h,λ_ _=>Iff.rfl,λ_ _=>rfl,λ_ _ h _=>⟨⟨h,rfl,rfl⟩,λ_ _ _=>rfl⟩,λ_ _=>rfl,λ_ _ _ _ _ _=>rfl,λ_ _ _=>rfl,λ_=>lg,rfl,λ_ _ _ h _ _ _ _=>⟨h,rfl⟩⟩
theorem dS {x:X} {o:Int} {l:List Int} (H:Sh x) (hl:∀v∈l,x.L v/\¬ Be x.t v):Sh { x with AI:=l }/\Kp o x { x with AI:=l }:=by
 refine⟨⟨H.g,H.lb,H.rf,H.st,H.fw,H.ml,H.mt,H.ph,H.nf,H.lm,hl,H.fm,H.nb,H.af,λj=>?_⟩,?_⟩
 .have M:=H.mp j;exact⟨M.sk,M.old,M.mn,M.l0,M.ql,M.un,M.cov⟩
 .exact⟨rfl,rfl,rfl,λ_ h=>h,λ_ h=>h,λ_ h _=>h,λ_ _=>Iff.rfl,λ_ _=>rfl,λ_ _ h _=>⟨⟨h,rfl,rfl⟩,λ_ _ _=>rfl⟩,λ_ _=>rfl,λ_ _ _ _ _ _=>rfl,λ_ _ _=>rfl,λ_ _ h=>h,rfl,λ_ _ _ h _ _ _ _=>⟨h,rfl⟩⟩
end Sm
end
section
namespace Sm
variable {P:List (List Op)}
structure Bs (x:X) (o:Op) (t:Thr) (pc:Int):Prop where
 p:1<=pc/\pc<=16/\pc≠13
 k:2<=o.kind/\o.kind<=11/\o.kind≠8/\o.kind≠9
 h:t.h≠0->x.L t.h
 g:t.g≠0->x.L t.g
 kk:t.k≠0->x.L t.k
 h0:o.kind≠6->t.h≠0
 nh:2<=pc->¬ Be x.t t.h
 ng:3<=pc->¬ Be x.t t.g
 nk:4<=pc->¬ Be x.t t.k
 s:5<=pc->t.sh = shp x.w t.h/\t.h≠0
 f:5<=pc->0<=o.f/\(o.kind = 4\/o.kind = 5->o.f < t.sh.nums)/\(o.kind≠4->o.kind≠5->o.f < t.sh.refs)
 k5:pc = 5\/pc = 11\/pc = 12->o.kind = 2
 k6:pc = 6\/pc = 7->o.kind = 3
 k8:pc = 8->o.kind = 4
 k9:pc = 9->o.kind = 5
 k10:pc = 10\/pc = 14\/pc = 15\/pc = 16->o.kind = 7
 l7:pc = 7->x.ph = 1->t.h < x.tm t.h->Lg x (x.q (t.h + 2 + o.f))
 l14:pc = 14->x.ph = 1->Lg x t.u
 v:11<=pc->pc≠14->t.v≠0->x.L t.v
 nv:pc = 12\/pc = 16->¬ Be x.t t.v
 p15:pc = 15\/pc = 16->x.ph≠1
structure Cp (x:X) (o src dst size i word pc:Int):Prop where
 p:20<=pc/\pc<=24
 ls:x.L src
 fs:Be x.t src
 p2:x.ph = 2
 sz:21<=pc->size = sz x.w src
 ow:21<=pc->Ow x o dst size
 i0:21<=pc->1<=i/\i<=size
 i1:pc = 21\/pc = 22->i < size
 cp:21<=pc->∀j,1<=j->j < i->wv x.w (dst + j) = wv x.w (src + j)
 wd:pc = 22->word = wv x.w (src + i)
 dn:23<=pc->i = size
 hd:pc = 24->wv x.w dst = dst
structure Mg (x:X) (o:Int) (op:Op) (t:Thr):Prop where
 p:30<=t.pc/\t.pc<=33
 k:op.kind = 1
 sh:BN op.sh = true
 sz:31<=t.pc->t.size = AH op.sh
 ow:31<=t.pc->Ow x o t.dst t.size
 i2:31<=t.pc->t.pc<=32->t.i = 2
 i3:t.pc = 33->2<=t.i/\t.i < t.size
 hd:32<=t.pc->wv x.w t.dst = t.dst
 sp:33<=t.pc->wv x.w (t.dst + 1) = AZ op.sh
 z:33<=t.pc->∀j,2<=j->j < t.i->wv x.w (t.dst + j) = 0
def I8 (r:Int):Prop:=r = 1\/r = 2\/r = 3\/r = 11\/r = 15
inductive Run (x:X) (i:Int) (o:Op) (t:Thr):Prop
 | bs (h:Bs x o t t.pc)
 | cp (h:Bs x o t t.ret) (r:I8 t.ret) (e:Bx t t.ret = t.src) (c:Cp x i t.src t.dst t.size t.i t.word t.pc)
 | mg (h:Mg x i o t)
structure TI (x:X) (i:Int) (po:Option Op) (t:Thr):Prop where
 rt:∀a∈t.AD,a≠0->x.L a
 rl:t.AD.length<=8
 nx:0<=t.next
 r8:∀o,po = some o->t.pc≠0->o.kind = 1\/o.kind = 2->t.AD.length < 8
 run:(t.pc = 0/\t.g = 0/\t.k = 0)\/∃o,po = some o/\Run x i o t
theorem Kp.shp {o:Int} {x y:X} (K:Kp o x y) {a:Int} (h:x.B a):shp y.w a = shp x.w a:=EI (K.sh a h)
theorem Kp.sz {o:Int} {x y:X} (K:Kp o x y) {a:Int} (h:x.B a):sz y.w a = sz x.w a:=Hm (K.sh a h)
theorem Kp.tma {o:Int} {x y:X} (K:Kp o x y) {a:Int} (h:0<=a):y.tm a = x.tm a:=K.tm (a / 16) Z
theorem Bs.stable {p:Int} {x y:X} {o:Op} {t:Thr} {pc:Int} (H:Sh x) (K:Kp p x y) (b:Bs x o t pc):Bs y o t pc:=by
 refine⟨b.p,b.k,λh=>K.l _ (b.h h),λh=>K.l _ (b.g h),λh=>K.l _ (b.kk h),b.h0,λh c=>b.nh h (K.frm.1 c),λh c=>b.ng h (K.frm.1 c),λh c=>b.nk h (K.frm.1 c),λh=>?_,b.f,b.k5,b.k6,b.k8,b.k9,b.k10,λh D G=>?_,λh D=>?_,λh N h0=>K.l _ (b.v h N h0),λh c=>b.nv h (K.frm.1 c),λh=>by rw[K.ph];exact b.p15 h⟩
 .obtain⟨O,A⟩:=b.s h;exact⟨by rw[K.shp (H.lb _ (b.h A))];exact O,A⟩
 .have j : x.ph = 1:=by rw[<- K.ph];exact D
  have A:=(b.s Z).2;have Q:=b.h A;rw[K.tma (by have:=H.g.inn (H.lb _ Q);omega)] at G;rw[K.q];exact K.lg j _ (b.l7 h j G)
 .have j : x.ph = 1:=by rw[<- K.ph];exact D
  exact K.lg j _ (b.l14 h j)
theorem Cp.stable {p o:Int} {x y:X} {src dst size i word pc:Int} (H:Sh x) (K:Kp p x y) (A:p≠o) (c:Cp x o src dst size i word pc):Cp y o src dst size i word pc:=by
 refine⟨c.p,K.l _ c.ls,K.frm.2 c.fs,by rw[K.ph];exact c.p2,λh=>by rw[K.sz (H.lb _ c.ls)];exact c.sz h,λh=>((c.ow h).stable K A).1,c.i0,c.i1,λh j G N=>?_,λh=>?_,c.dn,λh=>?_⟩
 .have D:=c.i0 h;rw[((c.ow h).stable K A).2 (dst + j) Z Z,K.bd src (src + j) c.ls c.fs Z (by have:=c.sz h;omega)];exact c.cp h j G N
 .have D:=c.i0 Z;have O:=c.i1 (.inr h);rw[K.bd src (src + i) c.ls c.fs Z (by have:=c.sz Z;omega)];exact c.wd h
 .have D:=c.i0 Z;rw[((c.ow Z).stable K A).2 dst Z Z];exact c.hd h
theorem Mg.stable {p o:Int} {x y:X} {op:Op} {t:Thr} (K:Kp p x y) (A:p≠o) (c:Mg x o op t):Mg y o op t:=by
 have D:31<=t.pc->2<=t.size:=λh=>by
  rw[c.sz h];have:=c.sh;rw[NP (by simpa [BN,and_assoc] using this)];simp only[BN,z_b,z_d] at this;omega
 refine⟨c.p,c.k,c.sh,c.sz,λh=>((c.ow h).stable K A).1,c.i2,c.i3,λh=>?_,λh=>?_,λh j G H=>?_⟩
 .rw[((c.ow Z).stable K A).2 t.dst Z (by have:=D Z;omega)];exact c.hd h
 .rw[((c.ow Z).stable K A).2 (t.dst + 1) Z (by have:=D Z;omega)];exact c.sp h
 .have:=c.i3 (by have:=c.p;omega);rw[((c.ow Z).stable K A).2 (t.dst + j) Z Z];exact c.z h j G H
theorem TI.stable {p i:Int} {x y:X} {A:Option Op} {t:Thr} (H:Sh x) (K:Kp p x y) (j:p≠i) (T:TI x i A t):TI y i A t:=by
 refine⟨λa h h0=>K.l a (T.rt a h h0),T.rl,T.nx,T.r8,?_⟩;rcases T.run with h | ⟨o,h,r⟩
 .exact .inl h
 .refine .inr ⟨o,h,?_⟩;cases r with
  | bs b=>exact .bs (b.stable H K)
  | cp b r e c=>exact .cp (b.stable H K) r e (c.stable H K j)
  | mg m=>exact .mg (m.stable K j)
structure C1 (x:X) (c:Col):Prop where
 pc:c.pc = 1\/c.pc = 2
 p2:c.pc = 2->mv x.m c.p = true/\0<=c.p/\c.sh = shp x.w c.p/\0<=c.i/\c.i < c.sh.refs
 sc:∀a j,0<=a->mv x.m a = true->0<=j->j < (shp x.w a).refs->(c.pc = 2/\a = c.p/\c.i<=j)\/Lg x (x.q (a + 2 + j))
structure C2 (x:X) (n:Int) (c:Col):Prop where
 r0:1<=c.r
 r1:c.r<=x.t.length
 p0:16 * c.r<=c.p
 p1:c.p<=16 * c.r + 16
 wk:∀a,x.L a->Be x.t a->a < c.p->wv x.w a≠a\/(c.pc≠5/\a = c.src)
 pc:c.pc = 5\/Cp x n c.src c.dst c.size c.i c.word c.pc
def lim (x:X) (r:Int):Int:=16 * r + (rv x.t r).AJ
structure C3 (x:X) (c:Col):Prop where
 pc:6<=c.pc/\c.pc<=9
 r0:1<=c.r
 r1:c.r<=x.t.length
 p0:16 * c.r<=c.p
 at_:c.r < x.t.length->c.p < lim x c.r->x.B c.p
 f:7<=c.pc->x.L c.f/\¬ Be x.t c.f/\c.sh = shp x.w c.f/\0<=c.i/\c.i < c.sh.refs/\c.f < c.p
 v:8<=c.pc->x.L c.v/\Be x.t c.v
 w:c.pc = 9->c.word = wv x.w c.v
 u:8<=c.pc->Be x.t (wv x.w (c.f + 2 + c.i))->wv x.w (c.f + 2 + c.i) = c.v
 cl:∀a j,x.L a->¬ Be x.t a->0<=j->j < (shp x.w a).refs->Be x.t (wv x.w (a + 2 + j))->(c.p<=a/\a < lim x (a / 16))\/(7<=c.pc/\a = c.f/\c.i<=j)
def Wt (x:X) (want:Int):Prop:=(x.ph = 0/\want = 1)\/(x.ph = 1/\want = 2)\/(x.ph = 2/\want = 3/\∀a,x.L a->Be x.t a->wv x.w a≠a)\/
 (x.ph = 3/\want = 0/\∀a j,x.L a->¬ Be x.t a->0<=j->j < (shp x.w a).refs->¬ Be x.t (wv x.w (a + 2 + j)))
theorem C1.stable {p:Int} {x y:X} {c:Col} (H:Sh x) (K:Kp p x y) (N:y.m = x.m) (Q:x.ph = 1) (C:C1 x c):C1 y c:=by
 have hb:∀a,0<=a->mv x.m a = true->shp y.w a = shp x.w a:=λa A h=>K.shp (H.lb _ (H.mt a A h).1)
 refine⟨C.pc,λh=>?_,λa j A h W O=>?_⟩
 .obtain⟨D,G,R,T⟩:=C.p2 h;exact⟨by rw[N];exact D,G,by rw[hb _ G D];exact R,T⟩
 .rw[N] at h;rw[hb a A h] at O;rcases C.sc a j A h W O with d | d
  .exact .inl d
  .rw[K.q];exact .inr (K.lg Q _ d)
theorem C2.stable {p n:Int} {x y:X} {c:Col} (H:Sh x) (K:Kp p x y) (D:p≠n) (C:C2 x n c):C2 y n c:=by
 refine⟨C.r0,by rw[K.tl];exact C.r1,C.p0,C.p1,λa h A hl=>?_,C.pc.imp id λd=>d.stable H K D⟩;have j:=K.lf a h A;rcases C.wk a j (K.frm.1 A) hl with d | d
 .left;rw[K.fwd a (H.lb _ j) d];exact d
 .exact .inr d
theorem C3.stable {p:Int} {x y:X} {c:Col} (H:Sh x) (K:Kp p x y) (hl:∀r:Int,0<=r->(rv y.t r).AJ = (rv x.t r).AJ) (T:x.ph = 3) (C:C3 x c):C3 y c:=by
 have el:∀r,0<=r->lim y r = lim x r:=λr r0=>by unfold lim;rw[hl r r0]
 refine⟨C.pc,C.r0,by rw[K.tl];exact C.r1,C.p0,λh h'=>K.b _ (C.at_ (by rw[<- K.tl];exact h) (by rw[el _ (by have:=C.r0;omega)] at h';exact h')),λh=>?_,λh=>?_,λh=>?_,λh A=>?_,λa j h hn j0 W A=>?_⟩
 .obtain⟨D,G,N,O⟩:=C.f h;exact⟨K.l _ D,λc=>G (K.frm.1 c),by rw[K.shp (H.lb _ D)];exact N,O⟩
 .exact⟨K.l _ (C.v h).1,K.frm.2 (C.v h).2⟩
 .obtain⟨v1,v2⟩:=C.v Z;rw[K.fwd _ (H.lb _ v1) (H.af T _ v1 v2)];exact C.w h
 .obtain⟨D,G,N,O,f5,_⟩:=C.f Z;obtain⟨_,R⟩:=K.cl T c.f c.i (K.l _ D) (λc=>G (K.frm.1 c)) O (by rw[K.shp (H.lb _ D),<- N];exact f5) A;rw[<- R] at A ⊢;exact C.u h (K.frm.1 A)
 .obtain⟨Q,R⟩:=K.cl T a j h hn j0 W A;rw[K.shp (H.lb _ Q)] at W;rw[<- R] at A;rw[el _ (by have:=H.g.inn (H.lb _ Q);omega)];exact C.cl a j Q (λc=>hn (K.frm.2 c)) j0 W (K.frm.1 A)
theorem Wt.stable {p want:Int} {x y:X} (H:Sh x) (K:Kp p x y) (W:Wt x want):Wt y want:=by
 rcases W with ⟨h,A⟩ | ⟨h,A⟩ | ⟨h,A,G⟩ | ⟨h,A,G⟩
 .exact .inl ⟨by rw[K.ph];exact h,A⟩
 .exact .inr (.inl ⟨by rw[K.ph];exact h,A⟩)
 .refine .inr (.inr (.inl ⟨by rw[K.ph];exact h,A,λa N D=>?_⟩));have R:=K.lf a N D;have:=G a R (K.frm.1 D);rw[K.fwd a (H.lb _ R) this];exact this
 .refine .inr (.inr (.inr ⟨by rw[K.ph];exact h,A,λa j N T j0 O D=>?_⟩));obtain⟨Q,g2⟩:=K.cl h a j N T j0 O D;rw[K.shp (H.lb _ Q)] at O;rw[<- g2] at D;exact G a j Q (λc=>T (K.frm.2 c)) j0 O (K.frm.1 D)
structure Gh where
 B:Int->Prop
 L:Int->Prop
 q:Int->Int
 r0:Int->Prop
@[reducible] def xof (S:Sim) (g:Gh):X:=⟨S.AC,S.AA,S.AQ,S.Ac,S.col.AR,S.old,S.AI,g.B,g.L,g.q,g.r0⟩
structure Bd (c:Nat) (S:Sim):Prop where
 ev:S.ev.length<=c
 old:S.old.length<=c
 cy:0<=S.BF/\S.BF<=c
 fu:0<=S.BL/\S.BL<=c
 st:S.col.AR.length + S.old.length + 5 * S.AQ.countP (λb=>!b) + (if S.col.pc = 2 then (S.col.sh.refs - S.col.i).toNat else 0)<=3000 + c
 pn:S.AI.length<=8
structure IG (P:List (List Op)) (S:Sim) (g:Gh):Prop where
 pg:S.Aa = P
 sh:Sh (xof S g)
 n0:1<=S.th.length
 n1:S.th.length<=3
 pl:S.Aa.length = S.th.length
 pp:∀p∈S.Aa,p.length<=40
 ti:∀i t,idx S.th i = some t->TI (xof S g) i (S.opOf i t) t
 c1:S.Ac = 1->C1 (xof S g) S.col
 c2:S.Ac = 2->C2 (xof S g) S.th.length S.col
 c3:S.Ac = 3->C3 (xof S g) S.col
 wt:S.stop = true->S.full = false->Wt (xof S g) S.col.want
 rs:0<=S.c.AV/\S.c.AV<=100
theorem ZY {α:Type} {l:List α} {i j:Int} {v u:α} (h:idx (AU l i v) j = some u) (x:0<=i):(j = i/\u = v)\/(j≠i/\idx l j = some u):=by
 unfold idx AU at h;split at h
 .rw[gO] at h;split at h
  .split at h
   .left;exact⟨Z,by simpa using h.symm⟩
   .cases h
  .right;refine⟨λc=>by subst c;simp at *,?_⟩;unfold idx;rw[if_pos (by assumption)];exact h
 .cases h
theorem IG.step {S S' : Sim} {g g' : Gh} {i:Int} {t t' : Thr} (I:IG P S g) (ht:idx S.th i = some t) (x:S'.th = AU S.th i t') (R:Sh (xof S' g')) (K:Kp i (xof S g) (xof S' g')) (hc:S'.col = S.col) (hm:S'.AQ = S.AQ)
  (O:∀r:Int,0<=r->(rv S'.AA r).AJ = (rv S.AA r).AJ) (D:(S'.Aa,S'.c) = (S.Aa,S.c)) (hT:TI (xof S' g') i (S'.opOf i t') t') (T:S'.stop = true->S'.full = false->S.stop = true/\S.full = false):IG P S' g':=by
 have y:S'.Aa = S.Aa:=congrArg Prod.fst D;have H:S'.c = S.c:=congrArg Prod.snd D;obtain⟨i0,i1,_⟩:=G4 t ht;have A:S'.Ac = S.Ac:=K.ph;have N:i≠S.th.length:=Z
 refine⟨by rw[y];exact I.pg,R,by rw[x,DO];exact I.n0,by rw[x,DO];exact I.n1,by rw[x,DO,y];exact I.pl,by rw[y];exact I.pp,λj u G=>?_,λh=>?_,λh=>?_,λh=>?_,λh W=>?_,by rw[H];exact I.rs⟩
 .rw[x] at G;rcases ZY G i0 with ⟨rfl,rfl⟩ | ⟨Q,G⟩
  .exact hT
  .have:S'.opOf j u = S.opOf j u:=by unfold Sim.opOf;rw[y]
   rw[this];exact (I.ti j u G).stable I.sh K Q.symm
 .rw[hc];rw[A] at h;exact (I.c1 h).stable I.sh K hm h
 .rw[hc,x,DO];rw[A] at h;exact (I.c2 h).stable I.sh K N
 .rw[hc];rw[A] at h;exact (I.c3 h).stable I.sh K O h
 .rw[hc];obtain⟨h1,h2⟩:=T h W;exact (I.wt h1 h2).stable I.sh K
end Sm
end
section
namespace Sm
variable {P:List (List Op)}
theorem Jn {α:Type} {l:List α} {i:Int} {a b:α}:AU (AU l i a) i b = AU l i b:=by simp[AU]
theorem GR {α:Type} {l:List α} {i:Int} {a u:α} (h:idx l i = some u):idx (AU l i a) i = some a:=by
 obtain⟨h0,j,_⟩:=G4 u h;unfold idx AU;rw[if_pos h0,List.getElem?_set_self Z]
theorem Xj {c:Nat} {S:Sim} (B:Bd c S) (hc:c < 900000) (h:∀t∈S.th,t.AD.length < 1000000):S.sz = true:=by
 have j:=B.ev;have x:=B.old;have y:=B.st;have A:=B.pn;simp only[Sim.sz,z_b,z_d,eG];exact⟨⟨⟨⟨Z,Z⟩,Z⟩,Z⟩,h⟩
theorem Ou {α:Type} {l:List α} {t:α} (h:t∈l):∃i:Int,0<=i/\i < l.length/\idx l i = some t:=by
 obtain⟨n,j,rfl⟩:=eJ h;refine⟨n,Z,Z,?_⟩;unfold idx;rw[if_pos Z];simp[j]
theorem IG.AD {S:Sim} {g:Gh} (I:IG P S g):∀t∈S.th,t.AD.length<=8:=λt h=>by
 obtain⟨i,_,_,j⟩:=Ou h;exact (I.ti i t j).rl
theorem IG.szok {c:Nat} {S S1:Sim} {g:Gh} (I:IG P S g) (j:S1.th = S.th) (B:Bd c S1) (hc:c < 900000):S1.sz = true:=
 Xj B hc λt h=>by have:=I.AD t (j▸h);omega
theorem IG.next {S:Sim} {g:Gh} {i:Int} {t:Thr} {o:Op} (I:IG P S g) (y:idx S.th i = some t) (j:S.opOf i t = some o):0<=t.next/\t.next < 40:=by
 refine⟨(I.ti i t y).nx,?_⟩;unfold Sim.opOf at j;split at j
 .rename_i p x;obtain⟨_,A,_⟩:=G4 default j;have:p∈S.Aa:=by
   unfold idx at x;split at x
   .exact List.mem_of_getElem? x
   .cases x
  have:=I.pp p this;omega
 .cases j
structure BI (S S1:Sim):Prop where
 th:S1.th = S.th
 col:S1.col = S.col
 AQ:S1.AQ = S.AQ
 pc_:(S1.Aa,S1.c) = (S.Aa,S.c)
 stop:S1.stop = S.stop
 full:S1.full = S.full
 AJ:∀r:Int,0<=r->(rv S1.AA r).AJ = (rv S.AA r).AJ
theorem BI.Aa {S S1:Sim} (E:BI S S1):S1.Aa = S.Aa:=congrArg Prod.fst E.pc_
theorem BI.refl (S:Sim):BI S S:=⟨rfl,rfl,rfl,rfl,rfl,rfl,λ_ _=>rfl⟩
theorem Bd.mono {c d:Nat} {S:Sim} (B:Bd c S) (h:c<=d):Bd d S:=
 ⟨by have:=B.ev;omega,by have:=B.old;omega,⟨B.cy.1,by have:=B.cy.2;omega⟩,⟨B.fu.1,by have:=B.fu.2;omega⟩,by have:=B.st;omega,B.pn⟩
theorem Cy {c:Nat} {S S1:Sim} {g g' : Gh} {i:Int} {t t' : Thr} (I:IG P S g) (B:Bd c S1) (x:idx S.th i = some t) (j:Sh (xof S1 g')) (K:Kp i (xof S g) (xof S1 g')) (E:BI S S1) (A:TI (xof S1 g') i (S.opOf i t') t') :
  IG P (S1.setT i t') g'/\Bd c (S1.setT i t')/\idx (S1.setT i t').th i = some t':=by
 refine⟨I.step x (t':=t') (by show AU S1.th i t' = _;rw[E.th]) j K E.col E.AQ E.AJ E.pc_ ?_ λh y=>?_,⟨B.ev,B.old,B.cy,B.fu,B.st,B.pn⟩,?_⟩
 .have:(S1.setT i t').opOf i t' = S.opOf i t':=by unfold Sim.opOf Sim.setT;simp only[show S1.Aa = S.Aa from congrArg Prod.fst E.pc_]
  rw[this];exact A
 .rw[<- E.stop,<- E.full];exact⟨h,y⟩
 .show idx (AU S1.th i t') i = _;rw[E.th];exact GR x
def Sim.evd (S:Sim) (i ans code:Int) (t:Thr) (AD:List Int):Sim:={ S with ev:=S.ev ++ [⟨i,t.next,ans,code⟩],th:=AU S.th i (thr0 AD (t.next + 1) 0) }
theorem F4 {S:Sim} {i ans code:Int} {t:Thr} (x:S.sz = true) (j:idx S.th i = some t) (y:0<=t.next/\t.next < 40):S.event i ans code = some (S.evd i ans code t t.AD):=by
 unfold Sim.event;rw[x,j];simp only[hQ,eO,if_false,Cg];rw[if_pos Z];rfl
theorem U5 {S:Sim} {i a:Int} {t:Thr} (j:S.sz = true) (hl:t.AD.length < 1000) (x:idx S.th i = some t) (y:0<=t.next/\t.next < 40):S.push i a = some (S.evd i 0 0 t (t.AD ++ [a])):=by
 unfold Sim.push;rw[j,x];simp only[hQ,eO,if_false];rw[F4 (t:={ t with AD:=t.AD ++ [a] }) ?_ (GR x) y]
 .unfold Sim.evd Sim.setT;simp only[Jn]
 .unfold Sim.sz at j ⊢;rw[z_b,eG] at j ⊢;refine⟨j.1,λu A=>?_⟩;rcases fg A with h | h
  .exact j.2 u h
  .subst h;exact decide_eq_true (by simp;omega)
theorem Gn {c:Nat} {S S1:Sim} {g g' : Gh} {i ans code:Int} {t:Thr} {o:Op} (I:IG P S g) (B:Bd c S1) (y:idx S.th i = some t) (D:S.opOf i t = some o) (x:Sh (xof S1 g')) (K:Kp i (xof S g) (xof S1 g')) (E:BI S S1) (AD:List Int) (G:∀a∈AD,a≠0->g'.L a) (hl:AD.length<=8) :
  IG P (S1.evd i ans code t AD) g'/\Bd (c + 1) (S1.evd i ans code t AD)/\idx (S1.evd i ans code t AD).th i = some (thr0 AD (t.next + 1) 0):=by
 have H:=I.next y D;refine⟨I.step y (t':=thr0 AD (t.next + 1) 0) (by show AU S1.th i _ = _;rw[E.th]) x K E.col E.AQ E.AJ E.pc_ ?_ λh A=>?_,?_,?_⟩
 .exact⟨G,hl,by show 0<=t.next + 1;omega,λ_ _ h=>absurd rfl h,.inl ⟨rfl,rfl,rfl⟩⟩
 .rw[<- E.stop,<- E.full];exact⟨h,A⟩
 .have j:=B.mono (fF c);exact⟨by have:=B.ev;show (S1.ev ++ [_]).length<=c + 1;simp;omega,j.old,j.cy,j.fu,j.st,j.pn⟩
 .show idx (AU S1.th i _) i = _;rw[E.th];exact GR y
theorem RW {c:Nat} {S S1:Sim} {g:Gh} {i:Int} {t:Thr} (I:IG P S g) (B:Bd c S1) (x:idx S.th i = some t) (y:Sh (xof S1 g)) (K:Kp i (xof S g) (xof S1 g)) (E:BI S S1) :
  ∃j,S1.back i = some j/\IG P j g/\Bd c j/\idx j.th i = some (thr0 t.AD t.next 1):=by
 have T:=I.ti i t x;unfold Sim.back;rw[E.th,x];refine⟨_,rfl,I.step x (t':=thr0 t.AD t.next 1) (by show AU S1.th i _ = _;rw[E.th]) y K E.col E.AQ E.AJ E.pc_ ?_ λh A=>?_,⟨B.ev,B.old,B.cy,B.fu,B.st,B.pn⟩,?_⟩
 .exact⟨λa h h0=>K.l a (T.rt a h h0),T.rl,T.nx,λ_ _ h=>absurd rfl h,.inl ⟨rfl,rfl,rfl⟩⟩
 .cases A
 .show idx (AU S1.th i _) i = _;rw[E.th];exact GR x
theorem TI.upd {x y:X} {i:Int} {D:Option Op} {t t' : Thr} {o:Op} (T:TI x i D t) (K:Kp i x y) (A:t'.AD = t.AD) (H:t'.next = t.next) (j:t.pc≠0) (N:D = some o) (R:Run y i o t'):TI y i D t':=
 ⟨λa h h0=>K.l a (T.rt a (A▸h) h0),by rw[A];exact T.rl,by rw[H];exact T.nx,λO h _ G=>by rw[A];exact T.r8 O h j G,.inr ⟨o,N,R⟩⟩
theorem Bs.eqv {x:X} {o:Op} {t t' : Thr} {pc:Int} (b:Bs x o t pc) (h:t'.h = t.h) (g:t'.g = t.g) (k:t'.k = t.k) (u:t'.u = t.u) (v:t'.v = t.v) (s:t'.sh = t.sh):Bs x o t' pc:=by
 refine⟨b.p,b.k,?_,?_,?_,?_,?_,?_,?_,?_,?_,b.k5,b.k6,b.k8,b.k9,b.k10,?_,?_,?_,?_,b.p15⟩
 .rw[h];exact b.h
 .rw[g];exact b.g
 .rw[k];exact b.kk
 .rw[h];exact b.h0
 .rw[h];exact b.nh
 .rw[g];exact b.ng
 .rw[k];exact b.nk
 .rw[h,s];exact b.s
 .rw[s];exact b.f
 .rw[h];exact b.l7
 .rw[u];exact b.l14
 .rw[v];exact b.v
 .rw[v];exact b.nv
theorem I8.le {r:Int} (h:I8 r):1<=r/\r<=15:=by rcases h with rfl | rfl | rfl | rfl | rfl<;>decide
theorem Bs.held {x:X} {o:Op} {t:Thr} {pc:Int} (b:Bs x o t pc) (r:I8 pc) (h0:Bx t pc≠0):x.L (Bx t pc):=by
 rcases r with rfl | rfl | rfl | rfl | rfl
 .exact b.h h0
 .exact b.g h0
 .exact b.kk h0
 .exact b.v δ δ h0
 .exact b.v δ δ h0
theorem Bs.go {x:X} {o:Op} {t:Thr} {pc:Int} (b:Bs x o t pc) (r:I8 pc) (j:¬ Be x.t (Bx t pc)):Bs x o t (EQ pc):=by
 rcases r with rfl | rfl | rfl | rfl | rfl
 .exact⟨δ,b.k,b.h,b.g,b.kk,b.h0,λ_=>j,λh=>absurd h δ,λh=>absurd h δ,λh=>absurd h δ,λh=>absurd h δ,λh=>absurd h δ,λh=>absurd h δ,λh=>absurd h δ,λh=>absurd h δ,λh=>absurd h δ,λh=>absurd h δ,λh=>absurd h δ,λh=>absurd h δ,λh=>absurd h δ,λh=>absurd h δ⟩
 .exact⟨δ,b.k,b.h,b.g,b.kk,b.h0,λ_=>b.nh δ,λ_=>j,λh=>absurd h δ,λh=>absurd h δ,λh=>absurd h δ,λh=>absurd h δ,λh=>absurd h δ,λh=>absurd h δ,λh=>absurd h δ,λh=>absurd h δ,λh=>absurd h δ,λh=>absurd h δ,λh=>absurd h δ,λh=>absurd h δ,λh=>absurd h δ⟩
 .exact⟨δ,b.k,b.h,b.g,b.kk,b.h0,λ_=>b.nh δ,λ_=>b.ng δ,λ_=>j,λh=>absurd h δ,λh=>absurd h δ,λh=>absurd h δ,λh=>absurd h δ,λh=>absurd h δ,λh=>absurd h δ,λh=>absurd h δ,λh=>absurd h δ,λh=>absurd h δ,λh=>absurd h δ,λh=>absurd h δ,λh=>absurd h δ⟩
 .exact⟨δ,b.k,b.h,b.g,b.kk,b.h0,λ_=>b.nh δ,λ_=>b.ng δ,λ_=>b.nk δ,λ_=>b.s δ,λ_=>b.f δ,λ_=>b.k5 δ,λh=>absurd h δ,λh=>absurd h δ,λh=>absurd h δ,λh=>absurd h δ,λh=>absurd h δ,λh=>absurd h δ,λ_ _=>b.v δ δ,λ_=>j,λh=>absurd h δ⟩
 .exact⟨δ,b.k,b.h,b.g,b.kk,b.h0,λ_=>b.nh δ,λ_=>b.ng δ,λ_=>b.nk δ,λ_=>b.s δ,λ_=>b.f δ,λh=>absurd h δ,λh=>absurd h δ,λh=>absurd h δ,λh=>absurd h δ,λ_=>b.k10 δ,λh=>absurd h δ,λh=>absurd h δ,λ_ _=>b.v δ δ,λ_=>j,λ_=>b.p15 δ⟩
theorem Bs.hold {x:X} {o:Op} {t:Thr} {pc f:Int} (b:Bs x o t pc) (r:I8 pc) (y:x.L f) (h0:f≠0) (A:¬ Be x.t f):Bs x o (C7 t pc f) (EQ pc):=by
 rcases r with rfl | rfl | rfl | rfl | rfl
 .have j:Bs x o { t with h:=f } 1:=⟨b.p,b.k,λ_=>y,b.g,b.kk,λ_=>h0,λh=>absurd h δ,λh=>absurd h δ,λh=>absurd h δ,λh=>absurd h δ,λh=>absurd h δ,b.k5,b.k6,b.k8,b.k9,b.k10,λh=>absurd h δ,b.l14,b.v,b.nv,b.p15⟩;exact (j.go (.inl rfl) A).eqv rfl rfl rfl rfl rfl rfl
 .have j:Bs x o { t with g:=f } 2:=⟨b.p,b.k,b.h,λ_=>y,b.kk,b.h0,b.nh,λh=>absurd h δ,λh=>absurd h δ,λh=>absurd h δ,λh=>absurd h δ,b.k5,b.k6,b.k8,b.k9,b.k10,λh=>absurd h δ,b.l14,b.v,b.nv,b.p15⟩;exact (j.go (.inr (.inl rfl)) A).eqv rfl rfl rfl rfl rfl rfl
 .have j:Bs x o { t with k:=f } 3:=⟨b.p,b.k,b.h,b.g,λ_=>y,b.h0,b.nh,b.ng,λh=>absurd h δ,λh=>absurd h δ,λh=>absurd h δ,b.k5,b.k6,b.k8,b.k9,b.k10,λh=>absurd h δ,b.l14,b.v,b.nv,b.p15⟩;exact (j.go (.inr (.inr (.inl rfl))) A).eqv rfl rfl rfl rfl rfl rfl
 .have j:Bs x o { t with v:=f } 11:=⟨b.p,b.k,b.h,b.g,b.kk,b.h0,b.nh,b.ng,b.nk,b.s,b.f,b.k5,b.k6,b.k8,b.k9,b.k10,λh=>absurd h δ,b.l14,λ_ _ _=>y,λh=>absurd h δ,b.p15⟩;exact (j.go (.inr (.inr (.inr (.inl rfl)))) A).eqv rfl rfl rfl rfl rfl rfl
 .have j:Bs x o { t with v:=f } 15:=⟨b.p,b.k,b.h,b.g,b.kk,b.h0,b.nh,b.ng,b.nk,b.s,b.f,b.k5,b.k6,b.k8,b.k9,b.k10,λh=>absurd h δ,b.l14,λ_ _ _=>y,λh=>absurd h δ,b.p15⟩;exact (j.go (.inr (.inr (.inr (.inr rfl)))) A).eqv rfl rfl rfl rfl rfl rfl
theorem Jw (t:Thr) (pc f:Int):(C7 t pc f).AD = t.AD/\(C7 t pc f).next = t.next/\(C7 t pc f).pc = EQ pc:=by
 unfold C7;refine⟨?_,?_,rfl⟩<;>(simp only[];split<;>(try split)<;>(try split)<;>rfl)
theorem Cp.start {x:X} {o src dst size i word:Int} (j:x.L src) (y:Be x.t src) (A:x.ph = 2):Cp x o src dst size i word 20:=
 ⟨δ,j,y,A,λh=>absurd h δ,λh=>absurd h δ,λh=>absurd h δ,λh=>absurd h δ,λh=>absurd h δ,λh=>absurd h δ,λh=>absurd h δ,λh=>absurd h δ⟩
def rk (pc:Int):Nat:=if pc = 1 then 4 else if pc = 2 then 3 else if pc = 3 then 2 else if pc = 4 then 1 else if pc = 11 then 1 else if pc = 15 then 2 else if pc = 16 then 1 else if pc = 30 then 1 else 0
def aT (i pc:Int) (S' : Sim):Prop:=S'.used = true\/∃t',idx S'.th i = some t'/\(t'.pc = 0\/rk t'.pc < rk pc)
def Out (P:List (List Op)) (c:Nat) (i pc:Int) (r:Option Sim):Prop:=∃S' g',r = some S'/\IG P S' g'/\Bd (c + 1) S'/\aT i pc S'
theorem Bc {a:Int} (h:0<=a):AM a = a / 16:=by unfold AM;rw[if_neg Z]
theorem IG.in_ {S:Sim} {g:Gh} (I:IG P S g) {a:Int} (h:g.L a):16<=a/\1<=a / 16/\a / 16 < S.AA.length/\a + sz S.AC a<=S.AC.length/\2<=sz S.AC a/\sz S.AC a<=10:=by
 obtain⟨j,x,y,H,K,A,D,G⟩:=I.sh.g.inn (I.sh.lb a h);exact⟨j,x,y,A,D,G⟩
theorem IG.frm {S:Sim} {g:Gh} (I:IG P S g) {a:Int} (h:a≠0->g.L a):∃b,S.from_ a = some b/\(b = true↔Be S.AA a):=by
 unfold Sim.from_;by_cases c:a = 0
 .subst c;refine⟨false,V,?_⟩;have:=I.sh.g.ok.e;unfold Be;have e:rv S.AA 0 = Dm:=this;rw[show (0:Int) / 16 = 0 from rfl,e];simp[Dm]
 .obtain⟨x,y,j,_⟩:=I.in_ (h c);rw[if_neg c,Bc Z,Cz Z j];refine⟨_,rfl,?_⟩;unfold Be;simp only[beq_iff_eq];exact⟨λh=>⟨Z,h⟩,λh=>h.2⟩
theorem CZ {S:Sim} {a:Int} (h0:0<=a) (j:a < S.AC.length):S.read a = some (wv S.AC a,{ S with used:=true }):=by
 unfold Sim.read;rw[WQ h0 j]
theorem DK {S:Sim} {a v:Int} (h0:0<=a) (j:a < S.AC.length):S.write a v = some { S with used:=true,AC:=AU S.AC a v }:=by
 unfold Sim.write;rw[if_pos ⟨h0,j⟩]
theorem BV {a b:Int} (h:-1000000<=a + b) (j : a + b<=1000000):Cg a b = some (a + b):=by
 unfold Cg;rw[if_pos Z]
theorem IG.wl {S:Sim} {g:Gh} (I:IG P S g):S.AC.length<=192:=by
 have j:=I.sh.g.len;have x:=I.sh.g.ok.n1;simp only at j x;omega
theorem Yy {pc:Int} (r:I8 pc):rk (EQ pc) < rk pc:=by rcases r with rfl | rfl | rfl | rfl | rfl<;>decide
theorem SZ {c:Nat} {S:Sim} {g:Gh} {i:Int} {t:Thr} {o:Op} (I:IG P S g) (B:Bd c S) (H:idx S.th i = some t) (Q:S.opOf i t = some o) (b:Bs (xof S g) o t t.pc) (r:I8 t.pc):Out P c i t.pc (S.resolve i):=by
 have T:=I.ti i t H;have j:t.pc≠0:=by have:=r.le;omega
 unfold Sim.resolve;rw[H];simp only[di,z_o];rw[if_neg (by have:=r.le;omega)];obtain⟨d,hd,G⟩:=I.frm (a:=Bx t t.pc) (λh=>b.held r h);rw[hd];simp only[z_o];cases d with
 | false=>
  have hn:¬ Be S.AA (Bx t t.pc):=λh=>by have:=G.2 h;cases this
  rw[if_pos τ];obtain⟨D,A,x⟩:=Cy (t':={ t with pc:=EQ t.pc }) I B H I.sh (Kp.refl i _) (BI.refl S) (T.upd (Kp.refl i _) rfl rfl j Q (.bs ((b.go r hn).eqv rfl rfl rfl rfl rfl rfl)));exact⟨_,g,rfl,D,A.mono (fF c),.inr ⟨_,x,.inr (Yy r)⟩⟩
 | true=>
  have y:Be S.AA (Bx t t.pc):=G.1 rfl;have h0:Bx t t.pc≠0:=λh=>by
   rw[h] at y;have:=y.2;have e:rv S.AA 0 = Dm:=I.sh.g.ok.e;rw[show (0:Int) / 16 = 0 from rfl,e] at this;cases this
  have K:=b.held r h0;obtain⟨a1,a2,a3,a4,a5,_⟩:=I.in_ K;rw[if_neg V,CZ Z Z];simp only[z_o];split
  .rename_i hc;obtain⟨D,A,x⟩:=Cy (S1:={ S with used:=true }) (t':={ t with src:=Bx t t.pc,ret:=t.pc,pc:=20 }) I (c:=c) ⟨B.ev,B.old,B.cy,B.fu,B.st,B.pn⟩ H I.sh (Kp.refl i _) ⟨rfl,rfl,rfl,rfl,rfl,rfl,λ_ _=>rfl⟩
    (T.upd (Kp.refl i _) rfl rfl j Q (.cp (b.eqv rfl rfl rfl rfl rfl rfl) r τ (Cp.start K y hc.2)))
   exact⟨_,g,rfl,D,A.mono (fF c),.inl rfl⟩
  .rename_i hc;have O:wv S.AC (Bx t t.pc)≠Bx t t.pc:=λhe=>by
    have h2:S.Ac≠2:=λh=>hc ⟨he,h⟩
    have hp:=I.sh.ph;simp only at hp;by_cases h3:S.Ac = 3
    .exact I.sh.af h3 _ K y he
    .exact I.sh.nf (by show S.Ac<=1;omega) _ Z y.2
   obtain⟨R,W,_⟩:g.L (wv S.AC (Bx t t.pc))/\¬ Be S.AA (wv S.AC (Bx t t.pc))/\_:=I.sh.fw _ (I.sh.lb _ K) y O;have N:=Jw t t.pc (wv S.AC (Bx t t.pc));obtain⟨D,A,x⟩:=Cy (S1:={ S with used:=true }) (t':=C7 t t.pc (wv S.AC (Bx t t.pc))) I (c:=c) ⟨B.ev,B.old,B.cy,B.fu,B.st,B.pn⟩ H I.sh (Kp.refl i _) ⟨rfl,rfl,rfl,rfl,rfl,rfl,λ_ _=>rfl⟩
    (by
     have:S.opOf i (C7 t t.pc (wv S.AC (Bx t t.pc))) = S.opOf i t:=by unfold Sim.opOf;rw[N.2.1]
     rw[this]
     exact T.upd (Kp.refl i _) N.1 N.2.1 j Q (.bs (by rw[N.2.2];exact b.hold r R (by have:=I.in_ R;omega) W)))
   exact⟨_,g,rfl,D,A.mono (fF c),.inl rfl⟩
end Sm
end
