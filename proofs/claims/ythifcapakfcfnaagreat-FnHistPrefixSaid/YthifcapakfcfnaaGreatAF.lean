/- A part of the proof of the given row. Conditions: none. -/
import Derived.Test.YthifcapakfcfnaaGreatAE
set_option linter.unusedVariables false
set_option linter.unusedSimpArgs false
set_option maxRecDepth 100000
section
namespace Go.Lf
open Go Sm
theorem IZ {l:List Thr} {rv sp:List Value} {i f:Nat} {v:Value} (h:i < l.length) (h' : i < rv.length) (hv:(Ac (l[i]) (rv[i]))[f]? = some v):(Db l rv ++ sp)[i * 17 + f]? = some v:=by
 have:=NI (sp:=sp) h h';have e2:=congrArg (λl=>l[f]?) this;simp only[Ub,UX] at e2;have hf:f < 17:=by
  by_cases c:f < 17
  ·exact c
  ·have:(Ac (l[i]) (rv[i]))[f]? = none:=UM (by show 17≤f;omega);rw[this] at hv;cases hv
 rw[if_pos hf] at e2;rw[e2,hv]
theorem jpc {R:RM} {D G:Chs} {p:Nat} {S:Sim} {g:Img} {i:Int} {t:Thr} {k:Value→M} [w:Fd D p S g G] (hok:Ok R S g) (ht:idx S.th i = some t) (H:J R D (k (I t.pc))) :
  J R D (L1 (.pointer (some ⟨p,17,none⟩)) λx=>IA 17 x (I i) λy=>FO 3 y λz=>L1 z k):=by
 obtain⟨h0,h1,h2,h3⟩:=Ad ht;have h2' : i.toNat < g.rv.length:=by have:=hok.rvl;omega
 have H' : J R (AU p S g ++ G) (k (I t.pc)):=Aj w.ex.symm H;have l1:J R (AU p S g ++ G) (L1 (.pointer (some ⟨p,17,none⟩)) λx=>IA 17 x (I i) λy=>FO 3 y λz=>L1 z k):=by
  refine jl rfl (jia h0 h1 (jl ?_ H'));rw[Tw];exact IZ h2 h2' (by rw[h3];rfl)
 exact Aj w.ex l1
theorem PD {n p:Nat} {S S' : Sim} {g:Img} {i:Int} {R:RM} (hok:Ok R S g) (hS:S.thread n i = some S') :
  Fn P GH [Pt p,I i] R (AU p S g) (CK p S' λ_=>True):=by
 refine Jc λF=>?_
 refine z_2 ?_;obtain⟨t,ht,hS⟩:=A7 hS;obtain⟨h0,h1,h2,h3⟩:=Ad ht;refine Es hok ht rfl λb a cap hv=>(jl rfl (jeq (jif (λhp=>?_) (λhp=>?_))))
 ·rw[if_pos (eq_of_beq hp)] at hS;refine AY (λvs R' D'=>R' = R∧D' = (b,C AS (Ac t (.slice a t.AA.length cap))) :: (AU p S g ++ F)∧∃c u v,vs = [Pt p,I i,c,u]∧GJ c u v∧(if v = true then S.begin_ i else some S) = some S') (λK hK=>?_) ?_;rotate_left
  ·rintro e R1 D1 ⟨rfl,hD,c,u,v,he,ha,hq⟩;refine z_W ?_;rw[ha];refine jif (λhc=>?_) (λhc=>?_)
   ·rw[if_pos hc] at hq;refine jcS (QH hok hq) λ_ R2 g2 hR2 hr ok2=>(Ae hR2 trivial rfl ok2)
   ·rw[if_neg (by rw[hc];decide)] at hq;cases hq;exact Ae (RM.le.refl _) trivial rfl hok
  refine jl rfl ?_;cases hst:S.stop with
  | true=>
   rw[hst,if_pos rfl] at hS;exact jft (hK _ _ _ ⟨rfl,rfl,_,_,false,rfl,DL,by rw[if_neg δ];exact hS⟩)
  | false=>
   rw[hst,if_neg δ] at hS;obtain⟨pr,hpr,hS⟩:=A7 hS;obtain⟨i0,i1,i2,i3⟩:=Ad hpr;refine jtt (jl rfl (jl rfl ?_));obtain⟨vs,f1,f2,f3⟩:=hok.AE;obtain⟨x,f4,f5⟩:=f3 i.toNat i2;rw[i3] at f5;rcases f1 with ⟨_,h,_⟩ | ⟨bp,op_,cp,tp,cs,e1,e2,e3,e4,e5⟩
   ·omega
   have hx:cs[op_ + i.toNat * 1]? = some x:=by
    have:=congrArg (λl=>l[i.toNat]?) e4;simp only[Ub,UX] at this;rw[if_pos ω] at this;rw[UY,this,f4]
   rw[e1];refine jia i0 ω (jlr e2 hx (Ep f5 (jlt (hK _ _ _ ⟨rfl,rfl,_,_,_,rfl,Cw,?_⟩))));by_cases hc:t.next < pr.length
   ·rw[if_pos hc] at hS;rw[if_pos (decide_eq_true hc)];exact hS
   ·rw[if_neg hc] at hS;rw[if_neg (by rw[decide_eq_false hc];decide)];exact hS
 ·rw[if_neg (ne_of_beq_false hp)] at hS;refine jss { S with used:=false } g rfl rfl δ τ τ (B7 (AU p { S with used:=false } g) (G:=F) (jlp (λm vs R' D'=>R.le R'∧∃S1 g1,Ok R' S1 g1∧D' = AU p S1 g1 ++ F∧vs = [Pt p,I i]∧Sim.tloop m S1 i = some S') ⟨RM.le.refl _,{ S with used:=false },g,{ hok with },rfl,rfl,hS⟩ ?_));rintro m e R1 D1 K ⟨hR,S1,g1,ok1,hD,he,hl⟩ hK;refine z_W ?_;cases m with
  | zero=>cases hl
  | succ m=>
   obtain⟨t1,ht1,hl⟩:=A7 hl;refine AY (λvs R' D'=>R' = R1∧D' = AU p S1 g1 ++ F∧∃c u,vs = [Pt p,I i,c,u]∧GJ c u (!S1.used && t1.pc != 0)) (λK2 hK2=>?_) ?_
   ·refine jl rfl ?_;cases hu:S1.used with
    | true=>exact jft (hK2 _ _ _ ⟨rfl,rfl,_,_,rfl,by rw[hu];exact DL⟩)
    | false=>
     refine jtt (jpc ok1 ht1 (jne (hK2 _ _ _ ⟨rfl,rfl,_,_,rfl,?_⟩)));rw[hu];exact Cw
   rintro e R2 D2 ⟨rfl,hD,c,u,he,ha⟩;refine z_W ?_;rw[ha];refine jif (λhc=>?_) (λhc=>?_);rotate_left
   ·rw[if_pos (by
     cases hu:S1.used
     ·rw[hu] at hc;right;simpa using hc
     ·exact .inl rfl)] at hl
    cases hl;exact Ae hR trivial rfl ok1
   have hc' : ¬ (S1.used = true∨t1.pc = 0):=by
    simp only[z_b,UC,bne_iff_ne,ne_eq] at hc;rintro (h | h)
    ·rw[hc.1] at h;cases h
    ·exact hc.2 h
   rw[if_neg hc'] at hl;obtain⟨S2,hst,hl⟩:=A7 hl;unfold Sim.tstep at hst;rw[ht1] at hst;simp only[Tm,z_o] at hst;refine AY (λvs R' D'=>R.le R'∧∃g2,Ok R' S2 g2∧D' = AU p S2 g2 ++ F∧vs = [Pt p,I i]) (λK3 hK3=>?_) ?_;rotate_left
   ·rintro e R3 D3 ⟨hR3,g2,ok2,hD,he⟩;refine z_W ?_;exact hK m _ _ _ ω ⟨hR3,S2,g2,ok2,rfl,rfl,hl⟩
   refine jpc ok1 ht1 (AY (λvs R' D'=>R.le R'∧∃g2,Ok R' S2 g2∧D' = AU p S2 g2 ++ F∧vs = [Pt p,I i]) (λK4 hK4=>?_) ?_);rotate_left
   ·rintro e R3 D3 ⟨hR3,g2,ok2,hD,he⟩;refine z_W ?_;exact hK3 _ _ _ ⟨hR3,g2,ok2,rfl,rfl⟩
   refine jor [Pt p,I i,I t1.pc] ((decide (t1.pc≤3)) || (t1.pc == 11)) (λK' hK'=>?_) (λe c u ho he=>?_)
   ·refine jle (jgO hK' λh1 hN=>jeq hN)
   refine z_V ?_;refine jor [Pt p,I i,I t1.pc] ((decide (t1.pc≤3) || t1.pc == 11) || (t1.pc == 15)) (λK' hK'=>?_) (λe c u ho he=>?_)
   ·rw[ho];refine jgO hK' λh1 hN=>jeq hN
   refine z_V ?_;rw[ho];refine jif (λc1=>?_) (λc1=>?_)
   ·rw[if_pos (by simpa [or_assoc] using c1)] at hst;refine jcS (NS ok1 hst) λ_ R2 g2 hR2 hr ok2=>(hK4 _ _ _ ⟨hR.trans hR2,g2,ok2,rfl,rfl⟩)
   rw[if_neg (by
    intro h
    have:((decide (t1.pc≤3) || t1.pc == 11) || t1.pc == 15) = true:=by simpa [or_assoc] using h
    rw[c1] at this;cases this)] at hst
   refine jeq (jif (λc2=>?_) (λc2=>?_))
   ·rw[if_pos (eq_of_beq c2)] at hst;refine jcS (QD ok1 hst) λ_ R2 g2 hR2 hr ok2=>(hK4 _ _ _ ⟨hR.trans hR2,g2,ok2,rfl,rfl⟩)
   rw[if_neg (ne_of_beq_false c2)] at hst;refine jge (jif (λc3=>?_) (λc3=>?_))
   ·rw[if_pos (z_f c3)] at hst;refine jcS (PM ok1 hst) λ_ R2 g2 hR2 hr ok2=>(hK4 _ _ _ ⟨hR.trans hR2,g2,ok2,rfl,rfl⟩)
   rw[if_neg (z_g c3)] at hst;refine jge (jif (λc4=>?_) (λc4=>?_))
   ·rw[if_pos (z_f c4)] at hst;refine jcS (NY ok1 hst) λ_ R2 g2 hR2 hr ok2=>(hK4 _ _ _ ⟨hR.trans hR2,g2,ok2,rfl,rfl⟩)
   rw[if_neg (z_g c4)] at hst;refine jcS (Qt ok1 hst) λ_ R2 g2 hR2 hr ok2=>(hK4 _ _ _ ⟨hR.trans hR2,g2,ok2,rfl,rfl⟩)
theorem Ra {p:Nat} {S:Sim} {g:Img} {R:RM} (hok:Ok R S g) :
  Fn P Ig [Pt p] R (AU p S g) (CK p S (· = .bool S.calm)):=by
 refine MC λF=>?_
 refine z_1 ?_;refine jlp (λn vs R' D'=>R' = R∧D' = AU p S g ++ F∧∃i:Nat,i≤S.th.length∧vs = [Pt p,I i]∧n = S.th.length - i∧∀k (h:k < S.th.length),k < i→(S.th[k]).pc = 0)
  (n:=S.th.length) ⟨rfl,rfl,0,ω,rfl,ω,λk _ h=>ω⟩ ?_
 rintro n e R1 D1 K ⟨rfl,hD,i,hi,he,hn,Bf⟩ hK;refine z_W ?_;have hl:=hok.hl;refine jl rfl (jln (jlt (jif (λhc=>?_) (λhc=>?_))))
 ·have hc:i < S.th.length:=by have:=z_f hc;omega
  have ht:idx S.th i = some (S.th[i]):=by unfold idx;rw[if_pos ω,Tj,Tl hc]
  refine jpc hok ht (jne (jif (λhp=>?_) (λhp=>?_)))
  ·refine Ae (RM.le.refl _) ?_ rfl hok;have hp:(S.th[i]).pc≠0:=by simpa using hp
   have:S.calm = false:=by
    unfold Sim.calm;rw[List.all_eq_false];exact⟨S.th[i],U6 hc,by simpa using hp⟩
   rw[this]
  ·have hp:(S.th[i]).pc = 0:=by simpa using hp
   refine jad (hK (S.th.length - (i + 1)) _ _ _ ω ⟨rfl,rfl,i + 1,ω,rfl,rfl,λk hk hki=>?_⟩);by_cases c:k = i
   ·subst c;exact hp
   ·exact Bf k hk ω
 ·have hc:¬ i < S.th.length:=by have:=z_g hc;omega
  refine Ae (RM.le.refl _) ?_ rfl hok;have:S.calm = true:=by
   unfold Sim.calm;rw[UB];intro x hx;obtain⟨k,hk,rfl⟩:=UE hx;simpa using Bf k hk ω
  rw[this]
instance (priority:=low) Sp.appr (X D A F:Chs) [s:Sp D A F]:Sp (X ++ D) A (X ++ F):=⟨(s.p.append_left X).trans (by rw[← Tu,← Tu];exact V5 F Uy)⟩
section col
variable {R:RM} {D G:Chs} {p:Nat} {S:Sim} {g:Img} {m:M} {k:Value→M}
theorem Kf {x:Col} {sv:Value} (h:flat sv = true):Bn (Ar x sv) = true:=by
 show (true && (true && (true && (flat sv && true)))) = true;rw[h];rfl
theorem GO [w:Fd D p S g G] (hok:Ok R S g) (H:∀b,J R ((b,C Ak (Ar S.col g.AD)) :: D) (k (Pt b))) :
  J R D (LA 15 (.pointer (some ⟨p,18,none⟩)) λx3=>AL Ak z77 λx4=>ST 15 x4 x3 (k x4)):=by
 refine Aj w.ex (jla (by show 18 + 15≤35;omega) rfl ?_);refine ja λb=>(js rfl (Kf (Fz.flat hok.AD)) (by exact z_n 15) τ ?_)
 exact Aj (w.ex.symm.cons _) (H b)
theorem G4 {b:Nat} {x:Col} {sv:Value} (S' : Sim) [w:Fd D p S g G] [at_:At D b (C Ak (Ar x sv))] (hok:Ok R S g) (hv:B9 R sv x.AD) (hS:S' = { S with col:=x })
  (H:∀g',Ok R S' g'→J R (AU p S' g' ++ G) m):J R D (LA 15 (Pt b) λx10=>ST 15 (.pointer (some ⟨p,18,none⟩)) x10 m):=by
 subst hS;refine jla (cs:=Ar x sv) (z_n 15) rfl (jss { S with col:=x } { g with AD:=sv } rfl (Kf (Fz.flat hv)) δ τ τ (H _ { hok with AD:=hv }))
theorem jsm {i:Nat} {v:Bool} (S' : Sim) [w:Fd D p S g G] (hi:i < S.AJ.length) (hS:S' = { S with AJ:=S.AJ.set i v }) (H:J R (AU p S' g ++ G) m):J R D (ST 1 (.pointer (some ⟨g.mb,i,none⟩)) (.bool v) m):=by
 subst hS;intro h hs;refine js (cs':=(S.AJ.set i v).map Value.bool ++ g.msp) rfl rfl (by simp;omega) ?_ H h (hs.perm w.ex) (u:=?_)
 ·rw[show cl (Value.bool v) = [Value.bool v] from rfl,EK (by simp;omega),List.set_append_left _ _ (by simpa using hi),VD]
 ·have e1:Bx { S with AJ:=S.AJ.set i v } g = Bx S g:=by simp[Bx,evV]
  unfold AU evD;rw[e1];exact inferInstance
end col
theorem HT {x x' : Col} (a:Option Addr) (n c:Nat) (h:Eh x = some x'):Pu Hg [.agg (Ar x (.slice a n c)).toArray] (.agg (Ar x' (.slice a n c)).toArray):=by
 intro R;refine Lv λF=>?_
 refine z_1 ?_;obtain⟨i,hi,h⟩:=A7 h;obtain⟨rfl,hin⟩:=Af hi;simp only[Tq] at h;subst h;refine ja λb=>ja λb2=>?_
 have e:cl (.agg (Ar x (.slice a n c)).toArray) = Ar x (.slice a n c):=rfl;rw[e];refine jl rfl (CF hin (jS (Ar { x with i:=x.i + 1 } (.slice a n c)) (jS (Ar { x with i:=x.i + 1,pc:=7 } (.slice a n c)) (AY (λvs R' D'=>R' = R∧D' = (b2,C 77 (cl z77)) :: (b,C 77 (Ar { x with i:=x.i + 1,pc:=if x.i + 1 = x.sh.refs then 6 else 7 } (.slice a n c))) :: ([] ++ F)∧vs = [Pt b,Pt b2]) (λK hK=>?_) ?_))))
 ·refine jl rfl (jl rfl (jeq (jif (λhc=>?_) (λhc=>?_))))
  ·refine jS (Ar { x with i:=x.i + 1,pc:=6 } (.slice a n c)) (hK _ _ _ ⟨rfl,by rw[if_pos (eq_of_beq hc)],rfl⟩)
  ·exact hK _ _ _ ⟨rfl,by rw[if_neg (ne_of_beq_false hc)],rfl⟩
 ·rintro e R1 D1 ⟨rfl,hD,he⟩;refine z_W ?_;refine jla (by exact z_n 15) τ (js rfl rfl (by exact z_n 15) τ (jla (by exact z_n 15) τ (BC (A:=[]) (RM.le.refl _) rfl)))
theorem P5 {p:Nat} {S S' : Sim} {g:Img} {R:RM} (hok:Ok R S g) (hS:S.look = some S') :
  Fn P II [Pt p] R (AU p S g) (CK p S' λ_=>True):=by
 refine Lm λF=>?_
 refine z_1 ?_;unfold Sim.look at hS;split at hS
 ·cases hS
 rename_i hsz;have hsz:=EU (by simpa using hsz:S.sz = true);dsimp only at hS;obtain⟨q1,hq1,hS⟩:=A7 hS;obtain⟨rfl,in1⟩:=Af hq1;obtain⟨q2,hq2,hS⟩:=A7 hS;obtain⟨rfl,in2⟩:=Af hq2;obtain⟨⟨v,S1⟩,hrd,hS⟩:=A7 hS;have e1:=C8 hrd;subst e1;dsimp only at hS;obtain⟨i1,hi1,hS⟩:=A7 hS;obtain⟨rfl,in3⟩:=Af hi1;refine GO hok λb=>?_
 obtain⟨a,cap,hsv,-⟩:=B9.reads (D:=[]) hok.AD;rw[hsv];have hst0:=hok.AD;rw[hsv] at hst0;refine jl rfl (CF in1 (jl rfl (CF in2 (jcS (CI hok hrd) λ_ R1 g1 hR1 hr ok1=>?_))));subst hr;refine AY (λvs R' D'=>R1.le R'∧∃a2 n2 c2,B9 R' (.slice a2 n2 c2) (if v≠0 then S.col.AD ++ [v] else S.col.AD)∧D' = AU p { S with used:=true } g1 ++ (b,C Ak (Ar { S.col with AD:=if v≠0 then S.col.AD ++ [v] else S.col.AD } (.slice a2 n2 c2))) :: F∧vs = [Pt p,Pt b]) (λK hK=>?_) ?_
 ·refine jne (jif (λhv=>?_) (λhv=>?_))
  ·have hv:v≠0:=by simpa using hv
   refine jl rfl (jc (Br (hst0.le hR1) hsz.2.2.1) ?_);rintro _ R' _ hR ⟨b4,c,sp,hc,hsp,rfl,rfl⟩;refine jbs rfl rfl λb1=>(Qw hc hsp hsz.2.2.1 (Ay.held (cs:=[I v]) (z_n 1)) λb' c' sp' hc' hsp'=>(Bc (b:=b') λR2 hR2 hb'=>?_))
   have hi:=Bj hb' (by simpa using hc');rw[Tn,U0] at hi;refine jS (Ar { S.col with AD:=S.col.AD ++ [v] } (.slice (some ⟨b',0,none⟩) (S.col.AD.length + 1) c')) (B7 (AU p { S with used:=true } g1) (G:=(b,C Ak (Ar { S.col with AD:=S.col.AD ++ [v] } (.slice (some ⟨b',0,none⟩) (S.col.AD.length + 1) c'))) :: F) (hK _ _ _ ⟨hR.trans hR2,some ⟨b',0,none⟩,S.col.AD.length + 1,c',by rw[if_pos hv];exact hi,by rw[if_pos hv],rfl⟩))
  ·have hv:¬ v≠0:=by simpa using hv
   exact hK _ _ _ ⟨RM.le.refl _,a,S.col.AD.length,cap,by rw[if_neg hv];exact hst0.le hR1,by rw[if_neg hv],rfl⟩
 ·rintro e R2 D2 ⟨hR2,a2,n2,c2,hi,hD,he⟩;refine z_W ?_;have ok2:=ok1.le hR2;generalize hnew:(if v≠0 then S.col.AD ++ [v] else S.col.AD) = st2 at hi hS ⊢;refine jl rfl (CF in3 (jS (Ar { S.col with AD:=st2,i:=S.col.i + 1 } (.slice a2 n2 c2)) (AY (λvs R' D'=>R' = R2∧D' = AU p { S with used:=true } g1 ++ (b,C Ak (Ar { S.col with AD:=st2,i:=S.col.i + 1,pc:=if S.col.i + 1 = S.col.sh.refs then 1 else S.col.pc } (.slice a2 n2 c2))) :: F∧vs = [Pt p,Pt b]) (λK hK=>?_) ?_)))
  ·refine jl rfl (jl rfl (jeq (jif (λhc=>?_) (λhc=>?_))))
   ·refine jS (Ar { S.col with AD:=st2,i:=S.col.i + 1,pc:=1 } (.slice a2 n2 c2)) (hK _ _ _ ⟨rfl,by rw[if_pos (eq_of_beq hc)],rfl⟩)
   ·exact hK _ _ _ ⟨rfl,by rw[if_neg (ne_of_beq_false hc)],rfl⟩
  ·rintro e R3 D3 ⟨rfl,hD,he⟩;refine z_W ?_;refine G4 (({ S with used:=true }:Sim).setC { S.col with AD:=st2,i:=S.col.i + 1,pc:=if S.col.i + 1 = S.col.sh.refs then 1 else S.col.pc }) ok2 hi τ λg3 ok3=>?_
   simp only[Tq] at hS;subst hS;exact Ae (hR1.trans hR2) trivial rfl ok3
theorem PZ {p:Nat} {S S' : Sim} {g:Img} {R:RM} (hok:Ok R S g) (hS:S.mark = some S') :
  Fn P Hs [Pt p] R (AU p S g) (CK p S' λ_=>True):=by
 refine Lj λF=>?_
 refine z_1 ?_;unfold Sim.mark at hS;split at hS
 ·cases hS
 rename_i hsz;have hsz:=EU (by simpa using hsz:S.sz = true);dsimp only at hS;refine GO hok λb=>?_
 obtain⟨a,cap,hsv,-⟩:=B9.reads (D:=[]) hok.AD;rw[hsv];have hst0:=hok.AD;rw[hsv] at hst0;refine jl rfl (jln (jeq (jif (λh0=>?_) (λh0=>?_))))
 ·have h0:S.col.AD.length = 0:=by have:=eq_of_beq h0;omega
  rw[if_pos h0] at hS;refine AY (λvs R' D'=>R.le R'∧∃S2 g2 x2 sv2,S' = { S2 with col:=x2 }∧Ok R' S2 g2∧B9 R' sv2 x2.AD∧D' = AU p S2 g2 ++ (b,C Ak (Ar x2 sv2)) :: F∧vs = [Pt p,Pt b]) (λK hK=>?_) ?_;rotate_left
  ·rintro e R2 D2 ⟨hR2,S2,g2,x2,sv2,e1,ok2,hi,hD,he⟩;refine z_W ?_;refine G4 { S2 with col:=x2 } ok2 hi τ λg3 ok3=>?_
   subst e1;exact Ae hR2 trivial rfl ok3
  refine jl rfl (Ep hok.old (jeq (jif (λh1=>?_) (λh1=>?_))))
  ·have h1:S.old = []:=by have:=eq_of_beq h1;exact UU.1 ω
   rw[h1] at hS;simp only[Tq] at hS;refine jss { S with stop:=true } g rfl rfl δ τ τ (js rfl rfl (by simp[Ar]) rfl (hK _ _ _ ⟨RM.le.refl _,{ S with stop:=true },g,{ S.col with want:=2 },_,hS.symm▸by rw[h1],{ hok with },hst0,rfl,rfl⟩))
  ·have h1:S.old.length≠0:=by have:=ne_of_beq_false h1;omega
   obtain⟨a0,l,hol⟩:∃a l,S.old = a :: l:=by cases h:S.old with | nil=>rw[h] at h1;exact absurd rfl h1 | cons a l=>exact⟨a,l,rfl⟩
   rw[hol] at hS;simp only[Tq] at hS;refine jl rfl (Ca hok.old ω ω ?_);have e0:S.old[(0:Int).toNat]'(by simp;omega) = a0:=by simp[hol]
   rw[e0];refine jbs (cs:=[I a0]) rfl rfl λb1=>(jS (Ar { S.col with AD:=[a0] } (S0 b1 1 1)) (Bc (b:=b1) λR2 hR2 hb1=>?_))
   have hi1:B9 R2 (S0 b1 [a0].length 1) [a0]:=Bj (by simpa using hb1) (z_n 1);refine jl rfl (T8 (hok.old.le hR2) ω (by rw[hol];simp;omega) λv1 hv1=>?_);rw[hol] at hv1;refine jc (Br (l:=l) hv1 (by have:=hsz.2.1;rw[hol] at this;simp at this;omega)) ?_;rintro _ R3 _ hR3 ⟨b4,c4,sp4,hc4,hsp4,rfl,rfl⟩;refine Bc (b:=b4) λR4 hR4 hb4=>?_
   have hi4:=Bj hb4 hc4;refine jss { S with old:=l } { g with old:=S0 b4 l.length c4 } rfl rfl δ τ τ ?_;have hR:=(hR2.trans hR3).trans hR4;refine B7 (AU p { S with old:=l } { g with old:=S0 b4 l.length c4 }) (G:=(b,C Ak (Ar { S.col with AD:=[a0] } (S0 b1 1 1))) :: F) (hK _ _ _ ⟨hR,{ S with old:=l },{ g with old:=S0 b4 l.length c4 },{ S.col with AD:=[a0] },_,hS.symm,{ hok.le hR with old:=hi4 },(hi1.le hR3).le hR4,rfl,rfl⟩)
 have h0:S.col.AD.length≠0:=by have:=ne_of_beq_false h0;omega
 rw[if_neg h0] at hS;obtain⟨av,hav,hS⟩:=A7 hS;obtain⟨row,hrow,hS⟩:=A7 hS;obtain⟨go,hgo,hS⟩:=A7 hS;obtain⟨r0,r1,r2,r3⟩:=Ad hrow;have htl:=hok.tl;have hlast:S.col.AD[S.col.AD.length - 1]'(ω) = av:=by
  rw[List.getLast?_eq_getElem?] at hav;rw[Tl ω] at hav;exact Uf hav
 have hss:=hsz.2.2.1;refine jl rfl (jl rfl (jln (jsu (Ca hst0 ω ω ?_))));have e0:S.col.AD[((S.col.AD.length:Int) - 1).toNat]'(ω) = av:=by
  rw[← hlast];congr 1;omega
 rw[e0];refine jl rfl (jl rfl (jln (jsu (Qc hst0 ω ω λv1 hv1=>?_))));rw[show ((S.col.AD.length:Int) - 1).toNat = S.col.AD.length - 1 from ω,← List.dropLast_eq_take] at hv1;refine jc (Br hv1 (by simp;omega)) ?_;rintro _ R1 _ hR1 ⟨b4,c4,sp4,hc4,hsp4,rfl,rfl⟩;refine Bc (b:=b4) λR2 hR2 hb4=>?_
 have hi4:=Bj hb4 hc4;have hR12:=hR1.trans hR2;have ok2:=hok.le hR12;refine js rfl rfl (by simp[Ar]) rfl (jp (CX av ω) (AY (λvs R' D'=>R2.le R'∧∃S3 g3 x3,S' = { S3 with col:=x3 }∧Ok R' S3 g3∧x3.AD = S.col.AD.dropLast∧D' = AU p S3 g3 ++ (b,C Ak (Ar x3 (S0 b4 S.col.AD.dropLast.length c4))) :: F∧vs = [Pt p,Pt b]) (λK hK=>?_) ?_));rotate_left
 ·rintro e R3 D3 ⟨hR3,S3,g3,x3,e1,ok3,ex,hD,he⟩;refine z_W ?_;refine G4 { S3 with col:=x3 } ok3 (by rw[ex];exact hi4.le hR3) τ λg4 ok4=>?_
  subst e1;exact Ae (hR12.trans hR3) trivial rfl ok4
 refine AY (λvs R' D'=>R' = R2∧D' = (b,C Ak (Ar { S.col with AD:=S.col.AD.dropLast } (S0 b4 S.col.AD.dropLast.length c4))) :: (AU p S g ++ F)∧∃c u,vs = [Pt p,Pt b,I av,I (AQ av),c,u]∧GJ c u go) (λK2 hK2=>?_) ?_
 ·refine jl rfl (jia r0 r1 (jl (by rw[Tw];exact Bv r2 (by rw[r3];rfl)) (jlt ?_)));by_cases hlt:av < row.Al
  ·rw[if_pos hlt] at hgo;obtain⟨mk,hmk,hgo⟩:=A7 hgo;cases hgo;obtain⟨m0,m1,m2,m3⟩:=Ad hmk;rw[decide_eq_true hlt];refine jtt (jl rfl (jia m0 m1 (jl (by rw[Tw,UY,GS m2,m3]) ?_)));exact hK2 _ _ _ ⟨rfl,rfl,_,_,rfl,Cw⟩
  ·rw[if_neg hlt] at hgo;cases hgo;rw[decide_eq_false hlt];exact jft (hK2 _ _ _ ⟨rfl,rfl,_,_,rfl,DL⟩)
 rintro e R3 D3 ⟨hR3,hD,c,u,he,ha⟩;subst hR3;refine z_W ?_;rw[ha];refine jif (λhg=>?_) (λhg=>?_)
 ·rw[hg,if_pos rfl] at hS;rw[hg] at hgo;have hm:idx S.AJ av = some false:=by
   split at hgo
   ·obtain⟨mk,hmk,hgo⟩:=A7 hgo;cases mk
    ·exact hmk
    ·cases hgo
   ·cases hgo
  obtain⟨m0,m1,m2,m3⟩:=Ad hm;obtain⟨q1,hq1,hS⟩:=A7 hS;obtain⟨rfl,in1⟩:=Af hq1;obtain⟨⟨w,S1⟩,hrd,hS⟩:=A7 hS;have e1:=C8 hrd;subst e1;dsimp only at hS;obtain⟨lv,hlv,hS⟩:=A7 hS;obtain⟨rfl,in2⟩:=Af hlv;simp only[Tq] at hS;refine jl rfl (jia m0 m1 ?_);rw[Tw,UY];refine jsm (p:=p) { S with AJ:=AM S.AJ av true } m2 τ (CF in1 ?_);have ok3:Ok R3 { S with AJ:=AM S.AJ av true } g:={ ok2 with ml:=by simpa [AM] using ok2.ml,mk_:=by simpa [AM] using ok2.mk_ };refine jcS (CI ok3 hrd) λ_ R4 g4 hR4 hr ok4=>?_
  subst hr;refine jp (Dd w) (jex rfl (jex rfl (ja λb5=>(js rfl rfl (by exact z_n 2) rfl (jl rfl (jia r0 r1 (M2 (p:=p) (by exact r2) ?_)))))));have er:({ S with used:=true,AJ:=AM S.AJ av true }:Sim).A0[(AQ av).toNat]'r2 = row:=r3;rw[er];refine ja λb6=>(js (cs':=eRg row) rfl rfl σ rfl (jl rfl (jla (by exact z_n 2) τ (jp (Bm (AN w).1) (CF in2 (Aq (jl rfl jev) (js (cs':=eRg { row with AH:=row.AH + AC (AN w).1 }) rfl rfl σ rfl (jl rfl (jla σ rfl (jia r0 r1 (Ng (p:=p) { S with used:=true,AJ:=AM S.AJ av true,A0:=AM S.A0 (AQ av) { row with AH:=row.AH + AC (AN w).1 } } (by exact r2) τ ?_)))))))))))
  have ok5:Ok R4 { S with used:=true,AJ:=AM S.AJ av true,A0:=AM S.A0 (AQ av) { row with AH:=row.AH + AC (AN w).1 } } g4:={ ok4 with tl:=by simpa [AM] using ok4.tl,tk:=by simpa [AM] using ok4.tk };refine jS (Ar { S.col with AD:=S.col.AD.dropLast,p:=av } (S0 b4 S.col.AD.dropLast.length c4)) (jS (Ar { S.col with AD:=S.col.AD.dropLast,p:=av,i:=0 } (S0 b4 S.col.AD.dropLast.length c4)) (jla (by exact z_n 2) τ (jS (Ar { S.col with AD:=S.col.AD.dropLast,p:=av,i:=0,sh:=(AN w).1 } (S0 b4 S.col.AD.dropLast.length c4)) (jl rfl (jgr (jif (λhc=>?_) (λhc=>?_)))))))
  ·rw[if_pos (z_f hc)] at hS;refine jS (Ar { S.col with AD:=S.col.AD.dropLast,p:=av,i:=0,sh:=(AN w).1,pc:=2 } (S0 b4 S.col.AD.dropLast.length c4)) (B7 (AU p { S with used:=true,AJ:=AM S.AJ av true,A0:=AM S.A0 (AQ av) { row with AH:=row.AH + AC (AN w).1 } } g4) (G:=(b,C Ak (Ar { S.col with AD:=S.col.AD.dropLast,p:=av,i:=0,sh:=(AN w).1,pc:=2 } (S0 b4 S.col.AD.dropLast.length c4))) :: F) (hK _ _ _ ⟨hR4,_,g4,{ S.col with AD:=S.col.AD.dropLast,p:=av,i:=0,sh:=(AN w).1,pc:=2 },hS.symm,ok5,rfl,rfl,rfl⟩))
  ·rw[if_neg (z_g hc)] at hS;refine B7 (AU p { S with used:=true,AJ:=AM S.AJ av true,A0:=AM S.A0 (AQ av) { row with AH:=row.AH + AC (AN w).1 } } g4) (G:=(b,C Ak (Ar { S.col with AD:=S.col.AD.dropLast,p:=av,i:=0,sh:=(AN w).1 } (S0 b4 S.col.AD.dropLast.length c4))) :: F) (hK _ _ _ ⟨hR4,{ S with used:=true,AJ:=AM S.AJ av true,A0:=AM S.A0 (AQ av) { row with AH:=row.AH + AC (AN w).1 } },g4,{ S.col with AD:=S.col.AD.dropLast,p:=av,i:=0,sh:=(AN w).1 },hS.symm,ok5,rfl,rfl,rfl⟩)
 ·rw[hg,if_neg δ] at hS;simp only[Tq] at hS;refine B7 (AU p S g) (G:=(b,C Ak (Ar { S.col with AD:=S.col.AD.dropLast } (S0 b4 S.col.AD.dropLast.length c4))) :: F) (hK _ _ _ ⟨RM.le.refl _,S,g,{ S.col with AD:=S.col.AD.dropLast },hS.symm,ok2,rfl,rfl,rfl⟩)
theorem QC {p:Nat} {S S' : Sim} {g:Img} {R:RM} (hok:Ok R S g) (hS:S.carry = some S') :
  Fn P Gl [Pt p] R (AU p S g) (CK p S' λ_=>True):=by
 refine L7 λF=>?_
 refine z_1 ?_;unfold Sim.carry at hS;dsimp only at hS;refine GO hok λb=>?_
 obtain⟨a,cap,hsv,-⟩:=B9.reads (D:=[]) hok.AD;rw[hsv];have hst0:=hok.AD;rw[hsv] at hst0;refine AY (λvs R' D'=>R.le R'∧∃S2 g2 x2,S' = S2.setC x2∧Ok R' S2 g2∧x2.AD = S.col.AD∧D' = AU p S2 g2 ++ (b,C Ak (Ar x2 (.slice a S.col.AD.length cap))) :: F∧vs = [Pt p,Pt b]) (λK hK=>?_) ?_;rotate_left
 ·rintro e R2 D2 ⟨hR2,S2,g2,x2,e1,ok2,ex,hD,he⟩;refine z_W ?_;refine G4 (S2.setC x2) ok2 (by rw[ex];exact hst0.le hR2) τ λg3 ok3=>?_
  subst e1;exact Ae hR2 trivial rfl ok3
 refine jl rfl (AY (λvs R' D'=>R.le R'∧∃S2 g2 x2,S' = S2.setC x2∧Ok R' S2 g2∧x2.AD = S.col.AD∧D' = AU p S2 g2 ++ (b,C Ak (Ar x2 (.slice a S.col.AD.length cap))) :: F∧vs = [Pt p,Pt b]) (λK2 hK2=>?_) ?_);rotate_left
 ·rintro e R2 D2 ⟨hR2,S2,g2,x2,e1,ok2,ex,hD,he⟩;refine z_W ?_;exact hK _ _ _ ⟨hR2,S2,g2,x2,e1,ok2,ex,rfl,rfl⟩
 refine jeq (jif (λc20=>?_) (λc20=>?_))
 ·rw[if_pos (eq_of_beq c20)] at hS;obtain⟨q,hq,hS⟩:=A7 hS;obtain⟨rfl,hin⟩:=Af hq;obtain⟨⟨w,S1⟩,hrd,hS⟩:=A7 hS;have e1:=C8 hrd;subst e1;dsimp only at hS;refine jl rfl (CF hin (jcS (CI hok hrd) λ_ R1 g1 hR1 hr ok1=>?_));subst hr;refine jp (Dd w) (jex rfl (jex rfl (ja λb3=>(js rfl rfl (by exact z_n 2) rfl (jla (by exact z_n 2) τ (jp (Bm (AN w).1) (jS (Ar { S.col with size:=AC (AN w).1 } (.slice a S.col.AD.length cap)) (jl rfl (jl rfl (jln (jl rfl (jmk (Ec (t:=S.A0) S.th.length (AC (AN w).1) (by have:=hok.tl;omega)) ?_))))))))))));intro v N hq2;cases hrm:As S.A0 S.th.length (AC (AN w).1) with
  | none=>
   rw[hrm] at hq2 hS;obtain⟨rfl,rfl⟩:=hq2;simp only[Tq] at hS;subst hS;refine jex rfl (jex rfl (jex rfl (EH (jss { S with used:=true,full:=true } g1 rfl rfl δ τ τ (jss { S with used:=true,full:=true,stop:=true } g1 rfl rfl δ τ τ (Ae hR1 trivial rfl { ok1 with }))))))
  | some td=>
   obtain⟨t',d⟩:=td;rw[hrm] at hq2 hS;obtain⟨sv,⟨b4,c4,sp4,hc4,rfl,rfl⟩,rfl⟩:=hq2;simp only[Tq] at hS;have hlen:=Hl hrm;refine jex rfl (jex rfl (jex rfl (DM (LY (jS (Ar { S.col with size:=AC (AN w).1,dst:=d } (.slice a S.col.AD.length cap)) (jS (Ar { S.col with size:=AC (AN w).1,dst:=d,i:=1 } (.slice a S.col.AD.length cap)) (jS (Ar { S.col with size:=AC (AN w).1,dst:=d,i:=1,pc:=21 } (.slice a S.col.AD.length cap)) (B7 (AU p { S with used:=true,A0:=t' } { g1 with tb:=b4,tc:=c4,tsp:=sp4 }) (G:=(b,C Ak (Ar { S.col with size:=AC (AN w).1,dst:=d,i:=1,pc:=21 } (.slice a S.col.AD.length cap))) :: F) (hK2 _ _ _ ⟨hR1,{ S with used:=true,A0:=t' },{ g1 with tb:=b4,tc:=c4,tsp:=sp4 },{ S.col with size:=AC (AN w).1,dst:=d,i:=1,pc:=21 },hS.symm,ok1.tab (by rw[hlen];exact hok.tl) _ _ _ hc4,rfl,rfl,rfl⟩)))))))))
 rw[if_neg (ne_of_beq_false c20)] at hS;refine jeq (jif (λc21=>?_) (λc21=>?_))
 ·rw[if_pos (eq_of_beq c21)] at hS;obtain⟨q,hq,hS⟩:=A7 hS;obtain⟨rfl,hin⟩:=Af hq;obtain⟨⟨w,S1⟩,hrd,hS⟩:=A7 hS;have e1:=C8 hrd;subst e1;cases hS;refine jl rfl (jl rfl (CF hin (jcS (CI hok hrd) λ_ R1 g1 hR1 hr ok1=>?_)));subst hr;refine jS (Ar { S.col with word:=w } (.slice a S.col.AD.length cap)) (js rfl rfl (by simp[Ar]) rfl (hK2 _ _ _ ⟨hR1,{ S with used:=true },g1,{ S.col with word:=w,pc:=22 },rfl,ok1,rfl,rfl,rfl⟩))
 rw[if_neg (ne_of_beq_false c21)] at hS;refine jeq (jif (λc22=>?_) (λc22=>?_))
 ·rw[if_pos (eq_of_beq c22)] at hS;obtain⟨q,hq,hS⟩:=A7 hS;obtain⟨rfl,hin⟩:=Af hq;obtain⟨S1,hwr,hS⟩:=A7 hS;have e1:=DV hwr;subst e1;obtain⟨n,hn,hS⟩:=A7 hS;obtain⟨rfl,hin2⟩:=Af hn;cases hS;refine jl rfl (jl rfl (CF hin (jl rfl (jcS (Cr hok hwr) λ_ R1 g1 hR1 hr ok1=>(jl rfl (CF hin2 (jS (Ar { S.col with i:=S.col.i + 1 } (.slice a S.col.AD.length cap)) (jS (Ar { S.col with i:=S.col.i + 1,pc:=21 } (.slice a S.col.AD.length cap)) (jl rfl (jl rfl (jeq (jif (λhz=>?_) (λhz=>?_)))))))))))))
  ·refine js rfl rfl (by simp[Ar]) rfl (hK2 _ _ _ ⟨hR1,{ S with used:=true,A5:=AM S.A5 (S.col.dst + S.col.i) S.col.word },g1,{ S.col with i:=S.col.i + 1,pc:=23 },(by rw[if_pos (eq_of_beq hz)]),ok1,rfl,rfl,rfl⟩)
  ·exact hK2 _ _ _ ⟨hR1,{ S with used:=true,A5:=AM S.A5 (S.col.dst + S.col.i) S.col.word },g1,{ S.col with i:=S.col.i + 1,pc:=21 },(by rw[if_neg (ne_of_beq_false hz)]),ok1,rfl,rfl,rfl⟩
 rw[if_neg (ne_of_beq_false c22)] at hS;refine jeq (jif (λc23=>?_) (λc23=>?_))
 ·rw[if_pos (eq_of_beq c23)] at hS;obtain⟨S1,hwr,hS⟩:=A7 hS;have e1:=DV hwr;subst e1;cases hS;refine jl rfl (jl rfl (jcS (Cr hok hwr) λ_ R1 g1 hR1 hr ok1=>(js rfl rfl (by simp[Ar]) rfl (hK2 _ _ _ ⟨hR1,{ S with used:=true,A5:=AM S.A5 S.col.dst S.col.dst },g1,{ S.col with pc:=24 },rfl,ok1,rfl,rfl,rfl⟩))))
 rw[if_neg (ne_of_beq_false c23)] at hS;refine jeq (jif (λc24=>?_) (λc24=>?_));rotate_left
 ·rw[if_neg (ne_of_beq_false c24)] at hS;cases hS;exact Aj U9.symm (hK2 _ _ _ ⟨RM.le.refl _,S,g,S.col,rfl,hok,rfl,rfl,rfl⟩)
 rw[if_pos (eq_of_beq c24)] at hS;obtain⟨⟨w,S1⟩,hrd,hS⟩:=A7 hS;have e1:=C8 hrd;subst e1;dsimp only at hS;obtain⟨S3,h3,hS⟩:=A7 hS;cases hS;refine AY (λvs R' D'=>R.le R'∧∃g2,Ok R' S3 g2∧D' = AU p S3 g2 ++ (b,C Ak (Ar S.col (.slice a S.col.AD.length cap))) :: F∧vs = [Pt p,Pt b]) (λK3 hK3=>?_) ?_;rotate_left
 ·rintro e R2 D2 ⟨hR,g2,ok2,hD,he⟩;refine z_W ?_;refine js rfl rfl (by simp[Ar]) rfl (hK2 _ _ _ ⟨hR,S3,g2,{ S.col with pc:=5 },rfl,ok2,rfl,rfl,rfl⟩)
 refine jl rfl (jl rfl (jcS (CI hok hrd) λ_ R1 g1 hR1 hr ok1=>?_));subst hr;refine jeq (Aq (jl rfl jev) (jif (λhw=>?_) (λhw=>?_)))
 ·rw[if_pos (eq_of_beq hw)] at h3;obtain⟨S2,hwr,h3⟩:=A7 h3;refine jl rfl (jl rfl (jcS (Cr ok1 hwr) λ_ R2 g2 hR2 hr ok2=>(jl rfl (jl rfl (jcS (PA ok2 h3) λ_ R3 g3 hR3 hr ok3=>(hK3 _ _ _ ⟨(hR1.trans hR2).trans hR3,g3,ok3,rfl,rfl⟩))))))
 ·rw[if_neg (ne_of_beq_false hw)] at h3;cases h3;exact hK3 _ _ _ ⟨hR1,g1,ok1,rfl,rfl⟩
theorem Jf {R:RM} {S:Sim} {g:Img} {r:Int} {row:Rg} (h:idx S.A0 r = some row) {f:Nat} {v:Value} (hv:(eRg row)[f]? = some v):(Aa eRg S.A0 ++ g.tsp)[0 + r.toNat * 5 + f]? = some v:=by
 obtain⟨h0,h1,h2,h3⟩:=Ad h;rw[Tw];exact Bv h2 (by rw[h3];exact hv)
theorem Rt {p:Nat} {S S' : Sim} {g:Img} {R:RM} (hok:Ok R S g) (hS:S.walk = some S') :
  Fn P IS [Pt p] R (AU p S g) (CK p S' λ_=>True):=by
 refine MA λF=>?_
 refine z_1 ?_;unfold Sim.walk at hS;dsimp only at hS;obtain⟨⟨r,q⟩,hwo,hS⟩:=A7 hS;dsimp only at hS;have htl:=hok.tl;have hml:=hok.ml;refine GO hok λb=>?_
 obtain⟨a,cap,hsv,-⟩:=B9.reads (D:=[]) hok.AD;rw[hsv];have hst0:=hok.AD;rw[hsv] at hst0;refine AY (λvs R' D'=>R' = R∧D' = (b,C Ak (Ar { S.col with r:=r,p:=q } (.slice a S.col.AD.length cap))) :: (AU p S g ++ F)∧vs = [Pt p,Pt b]) (λK hK=>?_) ?_
 ·refine jcI hK λK2 hK2=>?_
  refine jlp (λn vs R' D'=>R' = R∧∃r1 q1,D' = (b,C Ak (Ar { S.col with r:=r1,p:=q1 } (.slice a S.col.AD.length cap))) :: (AU p S g ++ F)∧vs = [Pt p,Pt b]∧S.walkOut n r1 q1 = some (r,q))
   ⟨rfl,S.col.r,S.col.p,rfl,rfl,hwo⟩ ?_
  rintro n e R1 D1 K3 ⟨hR1,r1,q1,hD,he,hw⟩ hK3;subst hR1;refine z_W ?_;cases n with
  | zero=>cases hw
  | succ n=>
   unfold Sim.walkOut at hw;refine jl rfl (jl rfl (jln (jlt (jif (λhc=>?_) (λhc=>?_)))));rotate_left
   ·rw[if_neg (z_g hc)] at hw;cases hw;exact hK2 _ _ _ ⟨rfl,rfl,rfl⟩
   have hc:=z_f hc;rw[if_pos hc] at hw;obtain⟨row,hrow,hw⟩:=A7 hw;obtain⟨q2,hwi,hw⟩:=A7 hw;obtain⟨r0,r1',r2,r3⟩:=Ad hrow;refine jl rfl (jl rfl (jia r0 r1' ?_));have hget:=Cs (f:=eRg) (w:=5) (λ_=>rfl) (sp:=g.tsp) r2;rw[r3] at hget;refine jla (l:=eRg row) (by rw[Tw];exact F3 r2) (by rw[Tw];exact hget) (ja λb5=>(Aq (jl rfl jev) (Aq (jl rfl jev) (Aq (jla (by rw[Tw];exact F3 r2) (by rw[Tw];exact hget) jev) (js rfl rfl (by exact z_n 5) rfl (AY (λvs R' D'=>R' = R1∧D' = (b5,C 81 (eRg row)) :: (b,C Ak (Ar { S.col with r:=r1,p:=q2 } (.slice a S.col.AD.length cap))) :: (AU p S g ++ F)∧vs = [Pt p,Pt b,Pt b5]) (λK4 hK4=>?_) ?_))))))
   ·refine jcI hK4 λK5 hK5=>?_
    refine jlp (λm vs R' D'=>R' = R1∧∃q3,D' = (b5,C 81 (eRg row)) :: (b,C Ak (Ar { S.col with r:=r1,p:=q3 } (.slice a S.col.AD.length cap))) :: (AU p S g ++ F)∧vs = [Pt p,Pt b,Pt b5]∧GW S.AJ row m q3 = some q2)
     ⟨rfl,q1,rfl,rfl,hwi⟩ ?_
    rintro m e R2 D2 K6 ⟨hR2,q3,hD,he,hwi⟩ hK6;subst hR2;refine z_W ?_;cases m with
    | zero=>cases hwi
    | succ m=>
     unfold GW at hwi;refine jan [Pt p,Pt b,Pt b5] ((row.kind == 4) && (decide (q3 < row.top))) (λK' hK'=>?_) (λe c u ho he=>?_)
     ·refine jl rfl (jeq (jgA hK' λh1 hN=>jl rfl (jl rfl (jlt hN))))
     refine z_V ?_;by_cases hk:row.kind = 4∧q3 < row.top
     ·rw[if_pos hk] at hwi;obtain⟨mk,hmk,hwi⟩:=A7 hwi;obtain⟨m0,m1,m2,m3⟩:=Ad hmk;have hkb:(row.kind == 4 && decide (q3 < row.top)) = true:=by simp[hk.1,hk.2]
      refine jan [Pt p,Pt b,Pt b5] (!mk) (λK' hK'=>?_) (λe c u ho2 he=>?_)
      ·rw[ho,hkb];refine jtt (jl rfl (jl rfl (jia m0 m1 (jl (by rw[Tw,UY,GS m2,m3]) ?_))));exact hK' _ _ _ Cw rfl
      ·refine z_V ?_;rw[ho2];cases mk with
       | true=>
        simp only[if_true] at hwi;cases hwi;exact DM (hK5 _ _ _ ⟨rfl,rfl,rfl⟩)
       | false=>
        simp only[U1,if_false] at hwi;refine EH (jl (v:=I q3) rfl (jad (js rfl rfl (by simp[Ar]) rfl (hK6 m _ _ _ ω ⟨rfl,q3 + 1,rfl,rfl,hwi⟩))))
     ·rw[if_neg hk] at hwi;have hkb:(row.kind == 4 && decide (q3 < row.top)) = false:=by
       rw[Bool.and_eq_false_iff,decide_eq_false_iff_not,beq_eq_false_iff_ne];by_cases h:row.kind = 4
       ·exact .inr λh2=>hk ⟨h,h2⟩
       ·exact .inl h
      refine jan [Pt p,Pt b,Pt b5] false (λK' hK'=>?_) (λe c u ho2 he=>?_)
      ·rw[ho,hkb];exact jft (hK' _ _ _ DL rfl)
      ·refine z_V ?_;rw[ho2];cases hwi;exact DM (hK5 _ _ _ ⟨rfl,rfl,rfl⟩)
   ·rintro e R2 D2 ⟨hR2,hD,he⟩;subst hR2;refine z_W ?_;refine jan [Pt p,Pt b] ((row.kind == 4) && (decide (q2 < row.top))) (λK' hK'=>?_) (λe c u ho he=>?_)
    ·refine jl rfl (jeq (jgA hK' λh1 hN=>jl rfl (jl rfl (jlt hN))))
    refine z_V ?_;rw[ho];refine jif (λhk=>?_) (λhk=>?_)
    ·rw[if_pos (by simpa using hk)] at hw;cases hw;exact CN (hK2 _ _ _ ⟨rfl,rfl,rfl⟩)
    ·rw[if_neg (by intro h;simp[h.1,h.2] at hk)] at hw;refine jl (v:=I r1) rfl (jad (jS (Ar { S.col with r:=r1 + 1,p:=q2 } (.slice a S.col.AD.length cap)) (jl (v:=I (r1 + 1)) rfl (FW ⟨ω,ω⟩ (js rfl rfl (by simp[Ar]) rfl (CN (hK3 n _ _ _ ω ⟨rfl,r1 + 1,(r1 + 1) * 16,rfl,rfl,hw⟩)))))))
 ·rintro e R2 D2 ⟨hR2,hD,he⟩;subst hR2;refine z_W ?_;refine jl rfl (jl rfl (jln (jeq (jif (λhc=>?_) (λhc=>?_)))))
  ·rw[if_pos (by have:=eq_of_beq hc;exact this)] at hS;cases hS;refine jss { S with stop:=true } g rfl rfl δ τ τ (jS (Ar { S.col with r:=r,p:=q,want:=3 } (.slice a S.col.AD.length cap)) (G4 { S with stop:=true,col:={ S.col with r:=r,p:=q,want:=3 } } (by exact { hok with }) (by exact hst0) τ λg3 ok3=>(Ae (RM.le.refl _) trivial rfl ok3)))
  ·rw[if_neg (by have:=ne_of_beq_false hc;exact this)] at hS;obtain⟨q1,hq1,hS⟩:=A7 hS;obtain⟨rfl,in1⟩:=Af hq1;obtain⟨⟨w,S1⟩,hrd,hS⟩:=A7 hS;have hrd2:=hrd;simp only[Sim.read] at hrd2;have hq0:0≤q:=by
    split at hrd2
    ·exact (Ad (by assumption)).1
    ·cases hrd2
   have hin:inR q:=⟨ω,by have:=in1.2;omega⟩;have e1:=C8 hrd;subst e1;simp only[Tq] at hS;refine jl rfl (CF in1 (jS (Ar { S.col with r:=r,p:=q + 1 } (.slice a S.col.AD.length cap)) ?_));have esub:q + 1 - 1 = q:=ω
   refine AY (λvs R' D'=>R2.le R'∧∃g2,Ok R' { S with used:=true } g2∧D' = AU p { S with used:=true } g2 ++ (b,C Ak (Ar (if w = q then { S.col with r:=r,p:=q + 1,src:=q,pc:=20 } else { S.col with r:=r,p:=q + 1 }) (.slice a S.col.AD.length cap))) :: F∧vs = [Pt p,Pt b]) (λK hK=>?_) ?_
   ·refine jl rfl (Iw (by rw[esub];exact hin) (jl rfl (Iw (by rw[esub];exact hin) ?_)));rw[esub];refine jcS (CI hok hrd) λ_ R1 g1 hR1 hr ok1=>?_
    subst hr;refine jeq (Aq (jl rfl ?_) (jif (λhw=>?_) (λhw=>?_)))
    ·exact jev
    ·refine jl rfl (Iw (by rw[esub];exact hin) ?_);rw[esub];refine jS (Ar { S.col with r:=r,p:=q + 1,src:=q } (.slice a S.col.AD.length cap)) (jS (Ar { S.col with r:=r,p:=q + 1,src:=q,pc:=20 } (.slice a S.col.AD.length cap)) (hK _ _ _ ⟨hR1,g1,ok1,by rw[if_pos (eq_of_beq hw)],rfl⟩))
    ·exact hK _ _ _ ⟨hR1,g1,ok1,by rw[if_neg (ne_of_beq_false hw)],rfl⟩
   ·rintro e R3 D3 ⟨hR3,g2,ok2,hD,he⟩;refine z_W ?_;have hx:(if w = q then { S.col with r:=r,p:=q + 1,src:=q,pc:=20 } else { S.col with r:=r,p:=q + 1 }:Col).AD = S.col.AD:=by split<;>rfl
    refine G4 (({ S with used:=true }:Sim).setC (if w = q then { S.col with r:=r,p:=q + 1,src:=q,pc:=20 } else { S.col with r:=r,p:=q + 1 })) ok2 (by rw[hx];exact hst0.le hR3) τ λg3 ok3=>?_
    subst hS;exact Ae hR3 trivial rfl ok3
theorem jgu {R:RM} {D:Chs} {w:Bool} {a b:M} (H:J R D b):J R D (GT (.tuple #[]) w a b):=H
theorem QP {p:Nat} {S S' : Sim} {g:Img} {R:RM} (hok:Ok R S g) (hS:S.renew = some S') :
  Fn P H3 [Pt p] R (AU p S g) (CK p S' λ_=>True):=by
 refine Kc λF=>?_
 refine z_1 ?_;unfold Sim.renew at hS;have htl:=hok.tl;refine GO hok λb=>?_
 obtain⟨a,cap,hsv,-⟩:=B9.reads (D:=[]) hok.AD;rw[hsv];have hst0:=hok.AD;rw[hsv] at hst0;refine AY (λvs R' D'=>R.le R'∧∃S2 g2 x2,S' = S2.setC x2∧Ok R' S2 g2∧x2.AD = S.col.AD∧D' = AU p S2 g2 ++ (b,C Ak (Ar x2 (.slice a S.col.AD.length cap))) :: F∧vs = [Pt p,Pt b]) (λK hK=>?_) ?_;rotate_left
 ·rintro e R2 D2 ⟨hR2,S2,g2,x2,e1,ok2,ex,hD,he⟩;refine z_W ?_;refine G4 (S2.setC x2) ok2 (by rw[ex];exact hst0.le hR2) τ λg3 ok3=>?_
  subst e1;exact Ae hR2 trivial rfl ok3
 refine jl rfl (AY (λvs R' D'=>R.le R'∧∃S2 g2 x2,S' = S2.setC x2∧Ok R' S2 g2∧x2.AD = S.col.AD∧D' = AU p S2 g2 ++ (b,C Ak (Ar x2 (.slice a S.col.AD.length cap))) :: F∧vs = [Pt p,Pt b]) (λK2 hK2=>?_) ?_);rotate_left
 ·rintro e R2 D2 ⟨hR2,S2,g2,x2,e1,ok2,ex,hD,he⟩;refine z_W ?_;exact hK _ _ _ ⟨hR2,S2,g2,x2,e1,ok2,ex,rfl,rfl⟩
 have back:∀(R' : RM) (S2:Sim) (g2:Img) (x2:Col),R.le R'→S' = S2.setC x2→Ok R' S2 g2→x2.AD = S.col.AD→J R' (AU p S2 g2 ++ (b,C Ak (Ar x2 (.slice a S.col.AD.length cap))) :: F) (K2 [Pt p,Pt b]):=λR' S2 g2 x2 h1 h2 h3 h4=>hK2 _ _ _ ⟨h1,S2,g2,x2,h2,h3,h4,rfl,rfl⟩
 refine jeq (jif (λc6=>?_) (λc6=>?_))
 ·rw[if_pos (eq_of_beq c6)] at hS;obtain⟨⟨r,q⟩,hro,hS⟩:=A7 hS;dsimp only at hS;refine AY (λvs R' D'=>R' = R∧D' = (b,C Ak (Ar { S.col with r:=r,p:=q } (.slice a S.col.AD.length cap))) :: (AU p S g ++ F)∧vs = [Pt p,Pt b]) (λK3 hK3=>?_) ?_
  ·refine jcI hK3 λK4 hK4=>?_
   refine jlp (λn vs R' D'=>R' = R∧∃r1 q1,D' = (b,C Ak (Ar { S.col with r:=r1,p:=q1 } (.slice a S.col.AD.length cap))) :: (AU p S g ++ F)∧vs = [Pt p,Pt b]∧S.renewTo n r1 q1 = some (r,q))
    ⟨rfl,S.col.r,S.col.p,rfl,rfl,hro⟩ ?_
   rintro n e R1 D1 K5 ⟨hR1,r1,q1,hD,he,hw⟩ hK5;subst hR1;refine z_W ?_;cases n with
   | zero=>cases hw
   | succ n=>
    unfold Sim.renewTo at hw;refine AY (λvs R' D'=>R' = R1∧D' = (b,C Ak (Ar { S.col with r:=r1,p:=q1 } (.slice a S.col.AD.length cap))) :: (AU p S g ++ F)∧∃v:Bool,vs = [Pt p,Pt b,.bool v]∧((v = true∧S.renewTo n (r1 + 1) ((r1 + 1) * 16) = some (r,q)∧r1 < S.A0.length∧0≤r1)∨(v = false∧r1 = r∧q1 = q))) (λK6 hK6=>?_) ?_;rotate_left
    ·rintro e R2 D2 ⟨hR2,hD,v,he,hv⟩;subst hR2;refine z_W ?_;rcases hv with ⟨rfl,hw2,hlt,hge⟩ | ⟨rfl,rfl,rfl⟩
     ·refine EH (jl (v:=I r1) rfl (jad (jS (Ar { S.col with r:=r1 + 1,p:=q1 } (.slice a S.col.AD.length cap)) (jl (v:=I (r1 + 1)) rfl (FW ⟨ω,ω⟩ (js rfl rfl (by simp[Ar]) rfl (hK5 n _ _ _ ω ⟨rfl,r1 + 1,(r1 + 1) * 16,rfl,rfl,hw2⟩)))))))
     ·exact DM (hK4 _ _ _ ⟨rfl,rfl,rfl⟩)
    by_cases hc:r1 < S.A0.length
    ·rw[if_pos hc] at hw;obtain⟨row,hrow,hw⟩:=A7 hw;obtain⟨vv,hvv,hw⟩:=A7 hw;obtain⟨r0,r1',r2,r3⟩:=Ad hrow;refine CQ (jl rfl (jl rfl (jln (jlt ?_))));rw[decide_eq_true hc];refine jtt (jl rfl (jl rfl (jia r0 r1' (jl (Jf (R:=R1) hrow rfl) (jeq ?_)))));by_cases hk:row.kind = 4
     ·rw[if_pos hk] at hvv;cases hvv;rw[show (row.kind == 4) = true from by simp[hk]];refine jtf (Bq λe he=>?_);refine z_V ?_;refine jtf (CQ (jtf (Bq λe he=>?_)));refine z_V ?_;refine CQ (jtt (Ea (Bq λe he=>?_)));refine z_V ?_;refine Ea (Aq (jtf jev) (Aq (jtf jev) (Aq (jtf jev) (Aq (jtf jev) (hK6 _ _ _ ⟨rfl,rfl,true,rfl,.inl ⟨rfl,hw,hc,r0⟩⟩)))))
     ·rw[if_neg hk] at hvv;obtain⟨bl,hbl,hvv⟩:=A7 hvv;obtain⟨rfl,hin⟩:=Af hbl;cases hvv;rw[show (row.kind == 4) = false from by simp[hk]];refine jff (jl rfl (jl rfl (jl rfl (jl rfl (jia r0 r1' (jl (Jf (R:=R1) hrow rfl) (Bq λe he=>?_)))))));refine z_V ?_;refine jff (jp (Ax r1) (CQ (jff (CF hin (jge (Bq λe he=>?_))))));refine z_V ?_;refine CQ (jtt (EW (Bq λe he=>?_)));refine z_V ?_;refine Ea (Aq (jff (jl rfl jev)) (Aq (jff (jl rfl jev)) (Aq (jff (jl rfl jev)) (Aq (jff (jl (Jf (R:=R1) hrow rfl) jev)) (hK6 _ _ _ ⟨rfl,rfl,decide (q1≥AG r1 + row.AH),rfl,?_⟩)))));by_cases hd:AG r1 + row.AH≤q1
      ·rw[decide_eq_true hd,if_pos rfl] at hw;exact .inl ⟨decide_eq_true hd,hw,hc,r0⟩
      ·rw[decide_eq_false hd,if_neg δ] at hw;cases hw;exact .inr ⟨decide_eq_false hd,rfl,rfl⟩
    ·rw[if_neg hc] at hw;simp only[Tq,Prod.mk.injEq] at hw;refine CQ (jl rfl (jl rfl (jln (jlt ?_))));rw[decide_eq_false hc];refine jft (Bq λe he=>?_);refine z_V ?_;refine jgu (CQ (jgu (Bq λe he=>?_)));refine z_V ?_;refine CQ (jft (Bq λe he=>?_));refine z_V ?_;refine EW (Aq (jgu jev) (Aq (jgu jev) (Aq (jgu jev) (Aq (jgu jev) (hK6 _ _ _ ⟨rfl,rfl,false,rfl,.inr ⟨rfl,hw.1,hw.2⟩⟩)))))
  ·rintro e R2 D2 ⟨hR2,hD,he⟩;subst hR2;refine z_W ?_;refine jl rfl (jl rfl (jln (jeq (jif (λhc=>?_) (λhc=>?_)))))
   ·rw[if_pos (by have:=eq_of_beq hc;exact this)] at hS;refine jss { S with stop:=true } g rfl rfl δ τ τ (js rfl rfl (by simp[Ar]) rfl (back _ { S with stop:=true } g { S.col with r:=r,p:=q,want:=0 } (RM.le.refl _) (Uf hS).symm { hok with } rfl))
   ·rw[if_neg (by have:=ne_of_beq_false hc;exact this)] at hS;obtain⟨q1,hq1,hS⟩:=A7 hS;obtain⟨rfl,in1⟩:=Af hq1;obtain⟨⟨w,S1⟩,hrd,hS⟩:=A7 hS;have e1:=C8 hrd;subst e1;dsimp only at hS;obtain⟨q2,hq2,hS⟩:=A7 hS;obtain⟨rfl,in2⟩:=Af hq2;obtain⟨row,hrow,hS⟩:=A7 hS;obtain⟨go,hgo,hS⟩:=A7 hS;obtain⟨r0,r1',r2,r3⟩:=Ad hrow;refine jl rfl (jS (Ar { S.col with r:=r,p:=q,f:=q } (.slice a S.col.AD.length cap)) (jl rfl (CF in1 (jcS (CI hok hrd) λ_ R1 g1 hR1 hr ok1=>?_))));subst hr;refine jp (Dd w) (jex rfl (jex rfl (ja λb3=>(js rfl rfl (by exact z_n 2) rfl (jla (by exact z_n 2) τ (jS (Ar { S.col with r:=r,p:=q,f:=q,sh:=(AN w).1 } (.slice a S.col.AD.length cap)) (jl rfl (jfo (jla (by simp[Ar]) τ (jp (Bm (AN w).1) (CF in2 (Aq (jl rfl jev) (jS (Ar { S.col with r:=r,p:=q + AC (AN w).1,f:=q,sh:=(AN w).1 } (.slice a S.col.AD.length cap)) (jS (Ar { S.col with r:=r,p:=q + AC (AN w).1,f:=q,sh:=(AN w).1,i:=0 } (.slice a S.col.AD.length cap)) (AY (λvs R' D'=>R' = R1∧D' = AU p { S with used:=true } g1 ++ (b,C Ak (Ar { S.col with r:=r,p:=q + AC (AN w).1,f:=q,sh:=(AN w).1,i:=0 } (.slice a S.col.AD.length cap))) :: F∧∃c u,vs = [Pt p,Pt b,c,u]∧GJ c u go) (λK7 hK7=>?_) ?_)))))))))))))))
    ·refine B7 (AU p { S with used:=true } g1) (G:=(b,C Ak (Ar { S.col with r:=r,p:=q + AC (AN w).1,f:=q,sh:=(AN w).1,i:=0 } (.slice a S.col.AD.length cap))) :: F) (jl rfl (jgr ?_));by_cases hrf:0 < (AN w).1.refs
     ·rw[if_pos hrf] at hgo;rw[decide_eq_true (show (AN w).1.refs > 0 from hrf)];refine jtt (jl rfl (jl rfl (jl rfl (jia r0 r1' (jl (Jf (R:=R1) hrow rfl) (jge ?_))))));by_cases ht:row.Al≤q
      ·rw[if_pos ht] at hgo;cases hgo;rw[decide_eq_true (show q≥row.Al from ht)];exact jtf (Ea (hK7 _ _ _ ⟨rfl,rfl,_,_,rfl,Cw⟩))
      ·rw[if_neg ht] at hgo;rw[decide_eq_false (show ¬ q≥row.Al from ht)];obtain⟨m0,m1,m2,m3⟩:=Ad hgo;refine jff (jl rfl (jl rfl (jia m0 m1 (jl (by rw[Tw,UY];show (S.AJ.map Value.bool ++ g1.msp)[q.toNat]? = _;rw[GS m2,m3]) (EW (hK7 _ _ _ ⟨rfl,rfl,_,_,rfl,Cw⟩))))))
     ·rw[if_neg hrf] at hgo;cases hgo;rw[decide_eq_false (show ¬ (AN w).1.refs > 0 from hrf)];exact jft (hK7 _ _ _ ⟨rfl,rfl,_,_,rfl,DL⟩)
    ·rintro e R3 D3 ⟨hR3,hD,c,u,he,ha⟩;subst hR3;refine z_W ?_;rw[ha];refine jif (λhg=>?_) (λhg=>?_)
     ·rw[if_pos hg] at hS;refine js rfl rfl (by simp[Ar]) rfl (back _ { S with used:=true } g1 { S.col with r:=r,p:=q + AC (AN w).1,f:=q,sh:=(AN w).1,i:=0,pc:=7 } hR1 (Uf hS).symm ok1 rfl)
     ·rw[if_neg (by rw[hg];decide)] at hS;exact back _ { S with used:=true } g1 { S.col with r:=r,p:=q + AC (AN w).1,f:=q,sh:=(AN w).1,i:=0 } hR1 (Uf hS).symm ok1 rfl
 rw[if_neg (ne_of_beq_false c6)] at hS;refine jeq (jif (λc7=>?_) (λc7=>?_))
 ·rw[if_pos (eq_of_beq c7)] at hS;obtain⟨q1,hq1,hS⟩:=A7 hS;obtain⟨rfl,in1⟩:=Af hq1;obtain⟨q2,hq2,hS⟩:=A7 hS;obtain⟨rfl,in2⟩:=Af hq2;obtain⟨⟨w,S1⟩,hrd,hS⟩:=A7 hS;have e1:=C8 hrd;subst e1;dsimp only at hS;obtain⟨fr,hfr,hS⟩:=A7 hS;refine jl rfl (CF in1 (jl rfl (CF in2 (jcS (CI hok hrd) λ_ R1 g1 hR1 hr ok1=>?_))));subst hr;refine jS (Ar { S.col with v:=w } (.slice a S.col.AD.length cap)) (jl rfl (jcS (Hk ok1 hfr) λ_ R2 g2 hR2 hr ok2=>?_));subst hr;refine jif (λhf=>?_) (λhf=>?_)
  ·rw[if_pos hf] at hS;refine js rfl rfl (by simp[Ar]) rfl (back _ { S with used:=true } g2 { S.col with v:=w,pc:=8 } (hR1.trans hR2) (Uf hS).symm ok2 rfl)
  ·rw[if_neg (by rw[hf];decide)] at hS;obtain⟨x2,hx,hS⟩:=A7 hS;have ex:x2.AD = S.col.AD:=by
    obtain⟨i1,_,h⟩:=A7 hx;cases h;rfl
   refine jla (by exact z_n 15) τ (jp (HT a S.col.AD.length cap hx) (js rfl rfl (by exact z_n 15) rfl (back _ { S with used:=true } g2 x2 (hR1.trans hR2) (Uf hS).symm ok2 ex)))
 rw[if_neg (ne_of_beq_false c7)] at hS;refine jeq (jif (λc8=>?_) (λc8=>?_))
 ·rw[if_pos (eq_of_beq c8)] at hS;obtain⟨⟨w,S1⟩,hrd,hS⟩:=A7 hS;have e1:=C8 hrd;subst e1;dsimp only at hS;refine jl rfl (jcS (CI hok hrd) λ_ R1 g1 hR1 hr ok1=>?_);subst hr;refine jS (Ar { S.col with word:=w } (.slice a S.col.AD.length cap)) (js rfl rfl (by simp[Ar]) rfl (jl rfl (jl rfl (jeq (jif (λhf=>?_) (λhf=>?_))))))
  ·rw[if_pos (eq_of_beq hf)] at hS;obtain⟨x2,hx,hS⟩:=A7 hS;have ex:x2.AD = S.col.AD:=by
    obtain⟨i1,_,h⟩:=A7 hx;cases h;rfl
   refine jla (by exact z_n 15) τ (jp (HT a S.col.AD.length cap hx) (js rfl rfl (by exact z_n 15) rfl (back _ { S with used:=true } g1 x2 hR1 (Uf hS).symm ok1 ex)))
  ·rw[if_neg (ne_of_beq_false hf)] at hS;exact back _ { S with used:=true } g1 { S.col with word:=w,pc:=9 } hR1 (Uf hS).symm ok1 rfl
 rw[if_neg (ne_of_beq_false c8)] at hS;refine jeq (jif (λc9=>?_) (λc9=>?_));rotate_left
 ·rw[if_neg (ne_of_beq_false c9)] at hS;exact Aj U9.symm (back _ S g S.col (RM.le.refl _) (Uf hS).symm hok rfl)
 rw[if_pos (eq_of_beq c9)] at hS;obtain⟨q1,hq1,hS⟩:=A7 hS;obtain⟨rfl,in1⟩:=Af hq1;obtain⟨q2,hq2,hS⟩:=A7 hS;obtain⟨rfl,in2⟩:=Af hq2;obtain⟨⟨w,S1⟩,hrd,hS⟩:=A7 hS;have e1:=C8 hrd;subst e1;dsimp only at hS;obtain⟨S3,h3,hS⟩:=A7 hS;obtain⟨x2,hx,hS⟩:=A7 hS;have ex:x2.AD = S.col.AD:=by
  obtain⟨i1,_,h⟩:=A7 hx;cases h;rfl
 refine AY (λvs R' D'=>R.le R'∧∃g2,Ok R' S3 g2∧D' = AU p S3 g2 ++ (b,C Ak (Ar S.col (.slice a S.col.AD.length cap))) :: F∧vs = [Pt p,Pt b]) (λK3 hK3=>?_) ?_;rotate_left
 ·rintro e R2 D2 ⟨hR,g2,ok2,hD,he⟩;refine z_W ?_;refine jla (by exact z_n 15) τ (jp (HT a S.col.AD.length cap hx) (js rfl rfl (by exact z_n 15) rfl (back _ S3 g2 x2 hR (Uf hS).symm ok2 ex)))
 refine jl rfl (CF in1 (jl rfl (CF in2 (jl rfl (jcS (CI hok hrd) λ_ R1 g1 hR1 hr ok1=>?_)))));subst hr;refine jeq (Aq (jl rfl jev) (jif (λhw=>?_) (λhw=>?_)))
 ·rw[if_pos (eq_of_beq hw)] at h3;refine jl rfl (CF in1 (jl rfl (CF in2 (jl rfl (jcS (Cr ok1 h3) λ_ R2 g2 hR2 hr ok2=>(hK3 _ _ _ ⟨hR1.trans hR2,g2,ok2,rfl,rfl⟩))))))
 ·rw[if_neg (ne_of_beq_false hw)] at h3;cases h3;exact hK3 _ _ _ ⟨hR1,g1,ok1,rfl,rfl⟩
end Go.Lf
end
section
namespace Go.Lf
open Go Sm
theorem Rb {p:Nat} {S S' : Sim} {g:Img} {R:RM} (hok:Ok R S g) (hS:S.work = some S') :
  Fn P Hr [Pt p] R (AU p S g) (CK p S' λ_=>True):=by
 refine ML λF=>?_
 refine z_1 ?_;unfold Sim.work at hS;refine jan [Pt p] ((S.AW == 1) && (S.col.pc == 1)) (λK' hK'=>?_) (λe c u ho he=>?_)
 ·refine jl rfl (jeq (jgA hK' λh1 hN=>jl rfl (jeq hN)))
 refine z_V ?_;rw[ho];refine jif (λhc=>?_) (λhc=>?_)
 ·rw[if_pos (by simpa using hc)] at hS;refine jcS (PZ hok hS) λ_ R2 g2 hR2 hr ok2=>(Ae hR2 trivial rfl ok2)
 rw[if_neg (by intro h;simp[h.1,h.2] at hc)] at hS;refine jl rfl (jeq (jif (λh1=>?_) (λh1=>?_)))
 ·rw[if_pos (eq_of_beq h1)] at hS;refine jcS (P5 hok hS) λ_ R2 g2 hR2 hr ok2=>(Ae hR2 trivial rfl ok2)
 rw[if_neg (ne_of_beq_false h1)] at hS;refine jan [Pt p] ((S.AW == 2) && (S.col.pc == 5)) (λK' hK'=>?_) (λe c u ho he=>?_)
 ·refine jl rfl (jeq (jgA hK' λh1 hN=>jl rfl (jeq hN)))
 refine z_V ?_;rw[ho];refine jif (λhc=>?_) (λhc=>?_)
 ·rw[if_pos (by simpa using hc)] at hS;refine jcS (Rt hok hS) λ_ R2 g2 hR2 hr ok2=>(Ae hR2 trivial rfl ok2)
 rw[if_neg (by intro h;simp[h.1,h.2] at hc)] at hS;refine jl rfl (jeq (jif (λh1=>?_) (λh1=>?_)))
 ·rw[if_pos (eq_of_beq h1)] at hS;refine jcS (QC hok hS) λ_ R2 g2 hR2 hr ok2=>(Ae hR2 trivial rfl ok2)
 ·rw[if_neg (ne_of_beq_false h1)] at hS;refine jcS (QP hok hS) λ_ R2 g2 hR2 hr ok2=>(Ae hR2 trivial rfl ok2)
theorem SY {R:RM} {D G:Chs} {p b c:Nat} {S:Sim} {g:Img} {ms:List Bool} {sp:List Value} {m:M} [w:Fd D p S g G]
  (H:J R (AU p { S with AJ:=ms } { g with mb:=b,mc:=c,msp:=sp } ++ G) m) :
  J R ((b,C Au (ms.map Value.bool ++ sp)) :: D) (ST 1 (.pointer (some ⟨p,6,none⟩)) (S0 b ms.length c) m):=by
 refine Aj ((w.ex.cons _).trans U9.symm) ?_;have e2:Bx { S with AJ:=ms } { g with mb:=b,mc:=c,msp:=sp } = (Bx S g).set 6 (S0 b ms.length c):=by
  simp[Bx,evV]
 refine js (cs':=Bx { S with AJ:=ms } { g with mb:=b,mc:=c,msp:=sp })
  (D':=(p,C BZ (Bx { S with AJ:=ms } { g with mb:=b,mc:=c,msp:=sp })) :: ((g.wb,C AZ (S.A5.map I ++ g.wsp)) :: (g.tb,C AK (Aa eRg S.A0 ++ g.tsp)) :: (g.mb,C Au (S.AJ.map Value.bool ++ g.msp)) :: (g.hb,C AS (Db S.th g.rv ++ g.hsp)) :: evD S g ++ (b,C Au (ms.map Value.bool ++ sp)) :: G)) rfl rfl (by simp[Bx]) (by rw[e2,show cl (S0 b ms.length c) = [S0 b ms.length c] from rfl,EK (by simp[Bx])]) ?_ (u:=?_)
 ·unfold AU;exact inferInstance
 ·refine B7 ((p,C BZ (Bx { S with AJ:=ms } { g with mb:=b,mc:=c,msp:=sp })) :: (g.wb,C AZ (S.A5.map I ++ g.wsp)) :: (g.tb,C AK (Aa eRg S.A0 ++ g.tsp)) :: (b,C Au (ms.map Value.bool ++ sp)) :: (g.hb,C AS (Db S.th g.rv ++ g.hsp)) :: evD S g) (G:=G) (H)
theorem KT {p:Nat} {S:Sim} {g:Img} {R:RM} (hok:Ok R S g) :
  Fn P Fq [Pt p] R (AU p S g) (CK p { S with AJ:=List.replicate S.AJ.length false } λ_=>True):=by
 refine JY λF=>?_
 refine z_1 ?_;have hml:=hok.ml;refine jl rfl (jln (jms ω ω ω λb=>?_));rw[Tj];have e:(List.replicate S.AJ.length (cl z4)).flatten = (List.replicate S.AJ.length false).map Value.bool ++ []:=by
  rw[UP,List.map_replicate,show cl z4 = [Value.bool false] from rfl,US]
 rw[e];have:=SY (p:=p) (R:=R) (D:=AU p S g ++ F) (b:=b) (c:=S.AJ.length) (ms:=List.replicate S.AJ.length false) (sp:=[]) (m:=F8 R F (CK p { S with AJ:=List.replicate S.AJ.length false } λ_=>True) (.tuple #[])) ?_
 ·rw[Tz] at this;exact this
 ·exact Ae (RM.le.refl _) trivial rfl (by exact { hok with ml:=by simpa using hok.ml,mk_:=by simp })
def Ba (f:Int→Rg→Rg) (k:Nat) (t:List Rg):List Rg:=t.mapIdx λi x=>if i = 0∨k≤i then x else f i x
theorem FR {f:Int→Rg→Rg} {t:List Rg}:Ba f 1 t = t:=by
 apply List.ext_getElem
 ·simp[Ba]
 ·intro i h1 h2;simp only[Ba,VE];rw[if_pos ω]
theorem FS {f:Int→Rg→Rg} {t:List Rg} {k:Nat} (h:t.length≤k):Ba f k t = rows f t:=by
 apply List.ext_getElem
 ·simp[Ba,rows]
 ·intro i h1 h2;simp only[Ba,rows,VE];simp only[Ba,List.length_mapIdx] at h1;by_cases c:i = 0
  ·rw[if_pos (.inl c),if_pos c]
  ·rw[if_neg ω,if_neg c]
@[simp] theorem Bp {f:Int→Rg→Rg} {t:List Rg} {k:Nat}:(Ba f k t).length = t.length:=by simp[Ba]
theorem Fb {f:Int→Rg→Rg} {t:List Rg} {k:Nat} (h:k < t.length):(Ba f k t)[k]'(by simpa using h) = t[k]:=by
 simp only[Ba,VE];rw[if_pos (.inr (z_n k))]
theorem Fc {f:Int→Rg→Rg} {t:List Rg} {k:Nat} (h1:1≤k) (h:k < t.length):(Ba f k t).set k (f k t[k]) = Ba f (k + 1) t:=by
 apply List.ext_getElem
 ·simp[Ba]
 ·intro i h2 h3;simp only[Ba,List.length_mapIdx] at h3;rw[List.getElem_set];simp only[Ba,VE];by_cases c:k = i
  ·subst c;rw[if_pos rfl,if_neg ω]
  ·rw[if_neg c];by_cases d:i = 0∨k≤i
   ·rw[if_pos d,if_pos ω]
   ·rw[if_neg d,if_neg ω]
theorem Oh {p:Nat} {S S' : Sim} {g:Img} {R:RM} (hok:Ok R S g) (hS:S.idle = some S') :
  Fn P Hv [Pt p] R (AU p S g) (CK p S' λ_=>True):=by
 refine Lk λF=>?_
 refine z_1 ?_;unfold Sim.idle at hS;obtain⟨n,hn,hS⟩:=A7 hS;obtain⟨rfl,hin⟩:=Af hn;simp only[Tq] at hS;have htl:=hok.tl;refine jcS (KT hok) λ_ R1 g1 hR1 hr ok1=>(jss { S with AJ:=List.replicate S.AJ.length false,AW:=0 } g1 rfl rfl δ τ τ (jl rfl (jbd rfl rfl (jss { S with AJ:=List.replicate S.AJ.length false,AW:=0,col:=Cd S.col.Ai 0 } { g1 with AD:=SN } rfl rfl δ τ τ (jl rfl (CF hin (jss { S with AJ:=List.replicate S.AJ.length false,AW:=0,col:=Cd S.col.Ai 0,B8:=S.B8 + 1 } { g1 with AD:=SN } rfl rfl δ τ τ ?_)))))))
 refine jlp (λm vs R' D'=>R' = R1∧∃k:Nat,1≤k∧k≤S.A0.length + 1∧D' = AU p { S with AJ:=List.replicate S.AJ.length false,AW:=0,col:=Cd S.col.Ai 0,B8:=S.B8 + 1,A0:=Ba (λ_ x=>{ x with AH:=0 }) k S.A0 } { g1 with AD:=SN } ++ F∧vs = [Pt p,I k]∧m = S.A0.length + 1 - k)
  (n:=S.A0.length) ⟨rfl,1,z_n 1,ω,by rw[FR],rfl,ω⟩ ?_
 rintro m e R2 D2 K ⟨hR2,k,k0,k1,hD,he,hm⟩ hK;subst hR2;refine z_W ?_;refine jl rfl (jln (jlt (jif (λhc=>?_) (λhc=>?_))))
 ·have hc:k < S.A0.length:=by have:=z_f hc;rw[Bp] at this;omega
  refine jl rfl (Bk (by rw[Bp];exact hc) (M2 (p:=p) (by simpa using hc) ?_));rw[show ({ S with AJ:=List.replicate S.AJ.length false,AW:=0,col:=Cd S.col.Ai 0,B8:=S.B8 + 1,A0:=Ba (λ_ x=>{ x with AH:=0 }) k S.A0 }:Sim).A0[k]'(by simpa using hc) = S.A0[k] from Fb (f:=λ_ x=>{ x with AH:=0 }) hc];refine ja λb5=>(js (cs':=eRg (S.A0[k])) rfl rfl σ rfl (js (cs':=eRg { S.A0[k] with AH:=0 }) rfl rfl σ rfl (jl rfl (jla σ rfl (Bk (by rw[Bp];exact hc) (Ng (p:=p) { S with AJ:=List.replicate S.AJ.length false,AW:=0,col:=Cd S.col.Ai 0,B8:=S.B8 + 1,A0:=Ba (λ_ x=>{ x with AH:=0 }) (k + 1) S.A0 } (by simpa using hc) (by rw[← Fc k0 hc]) (jad (B7 (AU p { S with AJ:=List.replicate S.AJ.length false,AW:=0,col:=Cd S.col.Ai 0,B8:=S.B8 + 1,A0:=Ba (λ_ x=>{ x with AH:=0 }) (k + 1) S.A0 } { g1 with AD:=SN }) (G:=F) (hK (S.A0.length + 1 - (k + 1)) _ _ _ ω ⟨rfl,k + 1,ω,ω,rfl,rfl,rfl⟩)))))))))
 ·have hc:S.A0.length≤k:=by have:=z_g hc;rw[Bp] at this;omega
  subst hS;refine Ae hR1 trivial (by rw[FS hc]) ?_;exact { ok1 with AD:=.inl ⟨rfl,rfl,rfl⟩,tl:=by simpa [rows] using hok.tl,tk:=by simpa [rows] using ok1.tk,ml:=by simpa using hok.ml,mk_:=by simpa using ok1.mk_ }
def SO (l:List Int) (v:Value) (A:Chs):Prop:=(l = []∧v = SN∧A = [])∨QZ l v A
theorem SO.flat {l:List Int} {v:Value} {A:Chs} (h:SO l v A):flat v = true:=by
 rcases h with ⟨_,rfl,_⟩ | ⟨b,c,sp,_,_,rfl,_⟩<;>rfl
theorem SO.sl {l:List Int} {v:Value} {A:Chs} (h:SO l v A):∃a n c,v = .slice a n c:=by
 rcases h with ⟨_,rfl,_⟩ | ⟨b,c,sp,_,_,rfl,_⟩<;>exact⟨_,_,_,rfl⟩
theorem jas {R:RM} {A E:Chs} {l l2:List Int} {v:Value} {xa:Option Addr} {m cx:Nat} {k:Value→M} (so:SO l v A) (hm:m = l2.length) (hl:l.length + l2.length < 1000000000000) (hx:Ay R (A ++ E) xa (m * 1) (l2.map I))
  (H:∀v' A',SO (l ++ l2) v' A'→J R (A' ++ E) (k v')):J R (A ++ E) (AP AZ 1 8 [I 0] v (.slice xa m cx) k):=by
 subst hm;have hfl:Bn (l2.map I) = true:=by
  unfold Bn;rw[UB];intro x hx;obtain⟨y,_,rfl⟩:=UK.1 hx;rfl
 have fl:∀n,(List.replicate n [I 0]).flatten.length = n:=λn=>by
  rw[BT (w:=1) (by intro x hx;rw[(Ue.1 hx).2];rfl)];simp
 rcases so with ⟨rfl,rfl,rfl⟩ | ⟨b,c,sp,hc,hsp,rfl,rfl⟩
 ·refine jap hx (by rw[V4];exact Ay.none_) δ (by simp at hl;omega) (λhc h hst=>?_) (λb c hc=>?_)
  ·have h0:l2 = []:=UU.1 ω;subst h0;have:=H (SN) [] (.inl ⟨rfl,rfl,rfl⟩) h hst;simpa using this
  ·have:=H (S0 b l2.length c) [(b,C AZ (l2.map I ++ (List.replicate (c - l2.length) [I 0]).flatten))] (.inr ⟨b,c,(List.replicate (c - l2.length) [I 0]).flatten,by simpa using hc,by rw[fl];simp,σ,σ⟩);simpa using this
 ·refine PL hx (by simp;omega) hc σ hfl δ ω (λh=>?_) (λb' c' h=>?_)
  ·have el:lay (l.map I ++ sp) (l.length * 1) (l2.map I) = (l ++ l2).map I ++ sp.drop l2.length:=by
    rw[F5 σ];simp[lay]
   rw[el];have:=H (S0 b (l ++ l2).length c) [(b,C AZ ((l ++ l2).map I ++ sp.drop l2.length))] (.inr ⟨b,c,_,by simpa using h,by simp;omega,rfl,rfl⟩);simpa using this
  ·refine Aj (Uq _ _ _) (CN ?_);have:=H (.slice (some ⟨b',0,none⟩) (l ++ l2).length c') [(b',C AZ ((l ++ l2).map I ++ (List.replicate (c' - (l.length + l2.length)) [I 0]).flatten))] (.inr ⟨b',c',_,by simpa using h,by simp[fl],rfl,rfl⟩);rw[UW σ,UG σ];simpa using this
theorem IN {R:RM} {A E:Chs} {l:List Int} {v:Value} {m:M} (so:SO l v A) (H:∀R',R.le R'→B9 R' v l→J R' E m):J R (A ++ E) m:=by
 rcases so with ⟨rfl,rfl,rfl⟩ | ⟨b,c,sp,hc,hsp,rfl,rfl⟩
 ·exact H R (RM.le.refl _) (.inl ⟨rfl,rfl,rfl⟩)
 ·refine Bc (t:=⟨UV _⟩) λR2 hR2 hb=>(H R2 hR2 (Bj hb hc))
theorem jrv {R:RM} {D G:Chs} {p:Nat} {S:Sim} {g:Img} {i:Int} {t:Thr} {k:Value→M} [w:Fd D p S g G] (hok:Ok R S g) (ht:idx S.th i = some t) (H:∀v,B9 R v t.AA→J R D (k v)) :
  J R D (L1 (.pointer (some ⟨p,17,none⟩)) λx=>IA 17 x (I i) λy=>FO 0 y λz=>L1 z k):=by
 obtain⟨h0,h1,h2,h3⟩:=Ad ht;have h2' : i.toNat < g.rv.length:=by have:=hok.rvl;omega
 have hv:=hok.rv i.toNat h2 h2';rw[h3] at hv;have H' : J R (AU p S g ++ G) (k (g.rv[i.toNat])):=Aj w.ex.symm (H _ hv);have l1:J R (AU p S g ++ G) (L1 (.pointer (some ⟨p,17,none⟩)) λx=>IA 17 x (I i) λy=>FO 0 y λz=>L1 z k):=by
  refine jl rfl (jia h0 h1 (jl ?_ H'));rw[Tw];exact IZ h2 h2' (by rw[h3];rfl)
 exact Aj w.ex l1
theorem Qj {l:List Thr} (h:∀t∈l,t.AA.length < 1000000):(l.flatMap λt=>t.AA.filter (·≠0)).length≤1000000 * l.length:=by
 induction l with
 | nil=>simp
 | cons t r ih=>
  rw[List.flatMap_cons,Tn,U4];have h1:=ih λt ht=>h t (by simp[ht])
  have h2:=h t σ;have h3:=List.length_filter_le (λx=>decide (x≠0)) t.AA;omega
theorem Lz {p:Nat} {S:Sim} {g:Img} {R:RM} (hok:Ok R S g) (hsz:S.sz = true) :
  Fn P En [Pt p] R (AU p S g) (CK p S.snapshot λ_=>True):=by
 refine HM λF=>?_
 refine z_1 ?_;have hsz:=EU hsz;have htl:=hok.tl;have hhl:=hok.hl;have hml:=hok.ml;refine jcS (KT hok) λ_ R1 g1 hR1 hr ok1=>(jss { S with AJ:=List.replicate S.AJ.length false,old:=[] } { g1 with old:=SN } rfl rfl δ τ τ (jss { S with AJ:=List.replicate S.AJ.length false,old:=[],AW:=1 } { g1 with old:=SN } rfl rfl δ τ τ ?_))
 have ok2:Ok R1 { S with AJ:=List.replicate S.AJ.length false,old:=[],AW:=1 } { g1 with old:=SN }:={ ok1 with old:=.inl ⟨rfl,rfl,rfl⟩ };generalize hS2:({ S with AJ:=List.replicate S.AJ.length false,old:=[],AW:=1 }:Sim) = S2 at ok2 ⊢;generalize hg2:({ g1 with old:=SN }:Img) = g2 at ok2 ⊢;have e1:S2.col = S.col:=by rw[← hS2]
 have e2:S2.th = S.th:=by rw[← hS2]
 have e3:S2.AI = S.AI:=by rw[← hS2]
 have e4:S2.A0 = S.A0:=by rw[← hS2]
 refine jl rfl (jl rfl (jbd rfl rfl (ja λb=>(Aq (jl rfl jev) (Aq (jl rfl jev) (js rfl rfl (by exact z_n 15) rfl ?_))))));have hth:∀i:Nat,(S2.th.take i).flatMap (λt=>t.AA.filter (·≠0)) = (S2.th.take i).flatMap (λt=>t.AA.filter (·≠0)):=λ_=>rfl
 have hlen:∀l:List Int,l.length≤1000000 * 1000 + 1000000→l.length + 1 < 1000000000000:=λl h=>ω
 have hroots:∀t∈S2.th,t.AA.length < 1000000:=λt ht=>hsz.2.2.2.2 t (e2▸ht)
 have htl2:S2.th.length≤1000:=by rw[e2];exact hhl
 have tk:∀i:Nat,((S2.th.take i).flatMap λt=>t.AA.filter (·≠0)).length≤1000000 * 1000:=λi=>by
  have h1:=Qj (l:=S2.th.take i) λt ht=>hroots t (UO ht)
  have h2:(S2.th.take i).length≤1000:=by rw[UA];omega
  omega
 refine AY (λvs R' D'=>R' = R1∧∃v A,SO (S2.th.flatMap λt=>t.AA.filter (·≠0)) v A∧D' = A ++ ((b,C Ak (Ar { Cd S2.col.Ai S2.col.want with pc:=1 } v)) :: (AU p S2 g2 ++ F))∧vs = [Pt p,Pt b]) (λK hK=>?_) ?_
 ·refine jcI hK λK2 hK2=>?_
  refine jlp (λm vs R' D'=>R' = R1∧∃(i:Nat) (v:Value) (A:Chs),i≤S2.th.length∧SO ((S2.th.take i).flatMap λt=>t.AA.filter (·≠0)) v A∧D' = A ++ ((b,C Ak (Ar { Cd S2.col.Ai S2.col.want with pc:=1 } v)) :: (AU p S2 g2 ++ F))∧vs = [Pt p,Pt b,I i]∧m = S2.th.length - i)
   (n:=S2.th.length) ⟨rfl,0,SN,[],ω,.inl ⟨σ,rfl,rfl⟩,rfl,rfl,ω⟩ ?_
  rintro m e R2 D2 K3 ⟨hR2,i,v,A,hi,so,hD,he,hm⟩ hK3;subst hR2;refine z_W ?_;refine jl rfl (jln (jlt (jif (λhc=>?_) (λhc=>?_))));rotate_left
  ·have hc:=z_g hc;rw[UG (show S2.th.length≤i by omega)] at so;exact hK2 _ _ _ ⟨rfl,v,A,so,rfl,rfl⟩
  have hc:i < S2.th.length:=by have:=z_f hc;omega
  have hti:idx S2.th i = some (S2.th[i]):=by unfold idx;rw[if_pos ω,Tj,Tl hc]
  have htk:(S2.th.take (i + 1)).flatMap (λt=>t.AA.filter (·≠0)) = (S2.th.take i).flatMap (λt=>t.AA.filter (·≠0)) ++ (S2.th[i]).AA.filter (·≠0):=by
   rw[UL hc,List.flatMap_append];simp
  have hri:=hroots _ (U6 hc);have done:∀(K4:List Value→M),(∀v A,SO ((S2.th.take (i + 1)).flatMap λt=>t.AA.filter (·≠0)) v A→J R2 (A ++ ((b,C Ak (Ar { Cd S2.col.Ai S2.col.want with pc:=1 } v)) :: (AU p S2 g2 ++ F))) (K4 [Pt p,Pt b,I i]))→True:=λ_ _=>trivial
  refine AY (λvs R' D'=>R' = R2∧∃v A,SO ((S2.th.take (i + 1)).flatMap λt=>t.AA.filter (·≠0)) v A∧D' = A ++ ((b,C Ak (Ar { Cd S2.col.Ai S2.col.want with pc:=1 } v)) :: (AU p S2 g2 ++ F))∧vs = [Pt p,Pt b,I i]) (λK4 hK4=>?_) ?_;rotate_left
  ·rintro e R3 D3 ⟨hR3,v,A,so,hD,he⟩;subst hR3;refine z_W ?_;refine jad (hK3 (S2.th.length - (i + 1)) _ _ _ ω ⟨rfl,i + 1,v,A,ω,so,rfl,rfl,rfl⟩)
  refine jcI hK4 λK5 hK5=>?_
  refine jcI hK5 λK6 hK6=>?_
  refine jlp (λm vs R' D'=>R' = R2∧∃(k:Nat) (v:Value) (A:Chs),k≤(S2.th[i]).AA.length∧SO ((S2.th.take i).flatMap (λt=>t.AA.filter (·≠0)) ++ ((S2.th[i]).AA.take k).filter (·≠0)) v A∧D' = A ++ ((b,C Ak (Ar { Cd S2.col.Ai S2.col.want with pc:=1 } v)) :: (AU p S2 g2 ++ F))∧vs = [Pt p,Pt b,I i,I k]∧m = (S2.th[i]).AA.length - k)
   (n:=(S2.th[i]).AA.length) ⟨rfl,0,v,A,ω,by simpa using so,rfl,rfl,ω⟩ ?_
  rintro m e R3 D3 K7 ⟨hR3,k,v,A,hk,so,hD,he,hm⟩ hK7;subst hR3;refine z_W ?_;refine jrv ok2 hti λrv1 hrv1=>(Ep hrv1 (jlt (jif (λhd=>?_) (λhd=>?_))))
  rotate_left
  ·have hd:=z_g hd;rw[UG (show (S2.th[i]).AA.length≤k by omega),← htk] at so;exact hK6 _ _ _ ⟨rfl,v,A,so,rfl,rfl⟩
  have hd:k < (S2.th[i]).AA.length:=by have:=z_f hd;omega
  have hrk:((S2.th[i]).AA.take (k + 1)).filter (·≠0) = ((S2.th[i]).AA.take k).filter (·≠0) ++ (if (S2.th[i]).AA[k]≠0 then [(S2.th[i]).AA[k]] else []):=by
   rw[UL hd,List.filter_append];congr 1;by_cases c:(S2.th[i]).AA[k] = 0<;>simp[c]
  refine AY (λvs R' D'=>R' = R3∧∃v A,SO ((S2.th.take i).flatMap (λt=>t.AA.filter (·≠0)) ++ ((S2.th[i]).AA.take (k + 1)).filter (·≠0)) v A∧D' = A ++ ((b,C Ak (Ar { Cd S2.col.Ai S2.col.want with pc:=1 } v)) :: (AU p S2 g2 ++ F))∧vs = [Pt p,Pt b,I i,I k]) (λK8 hK8=>?_) ?_;rotate_left
  ·rintro e R4 D4 ⟨hR4,v,A,so,hD,he⟩;subst hR4;refine z_W ?_;refine jad (hK7 ((S2.th[i]).AA.length - (k + 1)) _ _ _ ω ⟨rfl,k + 1,v,A,ω,so,rfl,rfl,rfl⟩)
  refine jcI hK8 λK9 hK9=>?_
  refine jrv ok2 hti λrv2 hrv2=>(Ca hrv2 ω ω ?_)
  have e0:(S2.th[i]).AA[((k:Nat):Int).toNat]'(ω) = (S2.th[i]).AA[k]:=σ
  rw[e0];refine jne (jif (λhz=>?_) (λhz=>?_))
  ·have hz:(S2.th[i]).AA[k]≠0:=by simpa using hz
   obtain⟨sa,sn,sc,rfl⟩:=so.sl;refine jl rfl (jrv ok2 hti λrv3 hrv3=>(Ca hrv3 ω ω ?_));rw[e0];refine jbs rfl rfl λb1=>(Aq (jl rfl jev) (Aj U9.symm ?_))
   have hx:Ay R3 (A ++ (b1,C 3 [I (S2.th[i]).AA[k]]) :: (b,C Ak (Ar { Cd S2.col.Ai S2.col.want with pc:=1 } (.slice sa sn sc))) :: (AU p S2 g2 ++ F)) (some ⟨b1,0,none⟩) (1 * 1) ([(S2.th[i]).AA[k]].map I):=Ay.held (cs:=[I (S2.th[i]).AA[k]]) (z_n 1);refine jas so rfl (by
    have h1:=tk i
    have h2:=List.length_filter_le (λx=>decide (x≠0)) ((S2.th[i]).AA.take k)
    have h3:((S2.th[i]).AA.take k).length≤(S2.th[i]).AA.length:=by rw[UA];omega
    rw[Tn,U0];omega) hx λv' A' so'=>?_
   obtain⟨sa',sn',sc',rfl⟩:=so'.sl;refine jS (Ar { Cd S2.col.Ai S2.col.want with pc:=1 } (.slice sa' sn' sc')) (B7 A' (G:=(b,C Ak (Ar { Cd S2.col.Ai S2.col.want with pc:=1 } (.slice sa' sn' sc'))) :: (AU p S2 g2 ++ F)) (hK9 _ _ _ ⟨rfl,_,A',?_,rfl,rfl⟩));rw[hrk,if_pos hz,← Tu];exact so'
  ·have hz:¬ (S2.th[i]).AA[k]≠0:=by simpa using hz
   refine hK9 _ _ _ ⟨rfl,v,A,?_,rfl,rfl⟩;rw[hrk,if_neg hz,UP];exact so
 ·rintro e R2 D2 ⟨hR2,v,A,so,hD,he⟩;subst hR2;refine z_W ?_;obtain⟨sa,sn,sc,rfl⟩:=so.sl;refine jl rfl (jl rfl ?_);obtain⟨xa,cx,hpv,hx⟩:=B9.reads ok2.AI;rw[hpv];refine jas so rfl (by
   have h1:=tk S2.th.length
   rw[List.take_length] at h1
   have h2:=hsz.2.2.2.1
   rw[e3];omega) hx λv' A' so'=>?_
  obtain⟨sa',sn',sc',rfl⟩:=so'.sl;refine js rfl rfl (by simp[Ar]) rfl (IN so' λR3 hR3 hint=>?_);generalize hst:((S2.th.flatMap λt=>t.AA.filter (·≠0)) ++ S2.AI) = st at hint;refine Aj (D':=(b,C Ak (Ar { Cd S2.col.Ai S2.col.want with pc:=1,AD:=st } (.slice sa' sn' sc'))) :: (AU p S2 g2 ++ F)) (UV _) (G4 { S2 with col:={ Cd S2.col.Ai S2.col.want with pc:=1,AD:=st } } (ok2.le hR3) hint τ λg3 ok3=>(B7 (AU p { S2 with col:={ Cd S2.col.Ai S2.col.want with pc:=1,AD:=st } } g3) (G:=F) ?_));have htl3:S2.A0.length≤1000:=by rw[e4];exact htl
  refine jlp (λm vs R' D'=>R' = R3∧∃k:Nat,1≤k∧k≤S2.A0.length + 1∧D' = AU p { S2 with col:={ Cd S2.col.Ai S2.col.want with pc:=1,AD:=st },A0:=Ba (λ_ x=>{ x with Al:=x.top,AH:=0 }) k S2.A0 } g3 ++ F∧vs = [Pt p,I k]∧m = S2.A0.length + 1 - k)
   (n:=S2.A0.length) ⟨rfl,1,z_n 1,ω,by rw[FR],rfl,ω⟩ ?_
  rintro m e R4 D4 K ⟨hR4,k,k0,k1,hD,he,hm⟩ hK;subst hR4;refine z_W ?_;refine jl rfl (jln (jlt (jif (λhc=>?_) (λhc=>?_))))
  ·have hc:k < S2.A0.length:=by have:=z_f hc;rw[Bp] at this;omega
   refine jl rfl (Bk (by rw[Bp];exact hc) (M2 (p:=p) (by simpa using hc) ?_));rw[show ({ S2 with col:={ Cd S2.col.Ai S2.col.want with pc:=1,AD:=st },A0:=Ba (λ_ x=>{ x with Al:=x.top,AH:=0 }) k S2.A0 }:Sim).A0[k]'(by simpa using hc) = S2.A0[k] from Fb (f:=λ_ x=>{ x with Al:=x.top,AH:=0 }) hc];refine ja λb5=>(js (cs':=eRg (S2.A0[k])) rfl rfl σ rfl (jl rfl (js (cs':=eRg { S2.A0[k] with Al:=(S2.A0[k]).top }) rfl rfl σ rfl (js (cs':=eRg { S2.A0[k] with Al:=(S2.A0[k]).top,AH:=0 }) rfl rfl σ rfl (jl rfl (jla σ rfl (Bk (by rw[Bp];exact hc) (Ng (p:=p) { S2 with col:={ Cd S2.col.Ai S2.col.want with pc:=1,AD:=st },A0:=Ba (λ_ x=>{ x with Al:=x.top,AH:=0 }) (k + 1) S2.A0 } (by simpa using hc) (by rw[← Fc k0 hc]) (jad (B7 (AU p { S2 with col:={ Cd S2.col.Ai S2.col.want with pc:=1,AD:=st },A0:=Ba (λ_ x=>{ x with Al:=x.top,AH:=0 }) (k + 1) S2.A0 } g3) (G:=F) (hK (S2.A0.length + 1 - (k + 1)) _ _ _ ω ⟨rfl,k + 1,ω,ω,rfl,rfl,rfl⟩)))))))))))
  ·have hc:S2.A0.length≤k:=by have:=z_g hc;rw[Bp] at this;omega
   have efin:({ S2 with col:={ Cd S2.col.Ai S2.col.want with pc:=1,AD:=st },A0:=Ba (λ_ x=>{ x with Al:=x.top,AH:=0 }) k S2.A0 }:Sim) = S.snapshot:=by
    rw[FS hc,← hst,← hS2];rfl
   refine Ae (hR1.trans hR3) trivial efin ?_;rw[← efin];exact { ok3 with tl:=by simpa using htl3,tk:=by simpa using ok3.tk }
theorem Qd {R:RM} {D:Chs} {v:Value} {l:List Int} (n:Int) (h:B9 R v l) (hl:l.length < 1000000000000):Ro JK [v,I n] (.bool (l.contains n)) R D:=by
 refine Nu λF=>?_
 refine z_2 ?_;refine jlp (λm vs R' D'=>R' = R∧D' = D ++ F∧∃i:Nat,i≤l.length∧vs = [v,I n,I i]∧m = l.length - i∧∀k (hk:k < l.length),k < i→l[k]≠n)
  (n:=l.length) ⟨rfl,rfl,0,ω,rfl,ω,λk _ h=>ω⟩ ?_
 rintro m e R1 D1 K ⟨hR1,hD,i,hi,he,hm,Bf⟩ hK;subst hR1;refine z_W ?_;refine Ep h (jlt (jif (λhc=>?_) (λhc=>?_)))
 ·have hc:i < l.length:=by have:=z_f hc;omega
  refine Ca h ω ω (jeq (jif (λhq=>?_) (λhq=>?_)))
  ·refine Bi ?_;have hq:=eq_of_beq hq;simp only[Tj] at hq;have:l.contains n = true:=by rw[List.contains_eq_mem,z_d,← hq];exact U6 hc
   rw[this]
  ·have hq:=ne_of_beq_false hq;simp only[Tj] at hq;refine jad (hK (l.length - (i + 1)) _ _ _ ω ⟨rfl,rfl,i + 1,ω,rfl,rfl,λk hk hki=>?_⟩);by_cases c:k = i
   ·subst c;exact hq
   ·exact Bf k hk ω
 ·have hc:¬ i < l.length:=by have:=z_g hc;omega
  refine Bi ?_;have:l.contains n = false:=by
   rw[List.contains_eq_mem,decide_eq_false_iff_not];intro hm;obtain⟨k,hk,hkn⟩:=UE hm;exact Bf k hk ω hkn
  rw[this]
section choose
variable {t:List Rg} {sp:List Value} {b cap:Nat} {R:RM} {D:Chs}
def InC (t:List Rg) (held:List Int) (AF:Int) (n i:Nat) (left:Int) (fr fe:List Int):Prop:=
 (n = 0→fr = []∧left = AF∧fe ++ CO held i (t.drop i) = CO held 1 t.tail)∧
 (1≤n→fe = CO held 1 t.tail∧fr ++ ((Bu held n i (t.drop i) left).2 ++ BK t held (16 - n) (n + 1) (Bu held n i (t.drop i) left).1) = BK t held 16 1 AF)
def OuC (t:List Rg) (held:List Int) (AF:Int) (n:Nat) (left:Int) (fr fe:List Int):Prop:=
 (n = 0→fr = []∧left = AF∧fe = [])∧(1≤n→fe = CO held 1 t.tail∧fr ++ BK t held (17 - n) n left = BK t held 16 1 AF)
theorem InC.step {held:List Int} {AF:Int} {n i:Nat} {left:Int} {fr fe:List Int} (h:InC t held AF n i left fr fe) (hi:i < t.length) :
  (BN held n i t[i] = false→InC t held AF n (i + 1) left fr fe)∧(BN held n i t[i] = true→n = 0→InC t held AF n (i + 1) left fr (fe ++ [(i:Int)]))∧
  (BN held n i t[i] = true→1≤n→(n:Int)≤left→InC t held AF n (i + 1) (left - n) (fr ++ [(i:Int)]) fe)∧(1≤n→¬ (n:Int)≤left→InC t held AF n (i + 1) left fr fe):=by
 have hd:t.drop i = t[i] :: t.drop (i + 1):=Ts hi;obtain⟨h0,h1⟩:=h;rw[hd] at h0 h1;refine⟨λhc=>⟨λhn=>?_,λhn=>?_⟩,λhc hn=>⟨λ_=>?_,λhn'=>ω⟩,λhc hn hl=>⟨λhn'=>ω,λ_=>?_⟩,λhn hl=>⟨λhn'=>ω,λ_=>?_⟩⟩
 ·obtain⟨a1,a2,a3⟩:=h0 hn;subst hn;simp only[CO] at a3;rw[if_neg (by rw[show BN held 0 i t[i] = false from hc];decide)] at a3;exact⟨a1,a2,a3⟩
 ·obtain⟨a1,a2⟩:=h1 hn;simp only[Bu,hc,Ui,U1,if_false] at a2;exact⟨a1,a2⟩
 ·obtain⟨a1,a2,a3⟩:=h0 hn;subst hn;simp only[CO] at a3;rw[if_pos (show BN held 0 i t[i] = true from hc)] at a3;exact⟨a1,a2,by rw[Tu];exact a3⟩
 ·obtain⟨a1,a2⟩:=h1 hn;simp only[Bu,hc,UT,decide_eq_true hl,if_true] at a2;refine⟨a1,?_⟩;rw[Tu];exact a2
 ·obtain⟨a1,a2⟩:=h1 hn;simp only[Bu,decide_eq_false hl,Bool.and_false,U1,if_false] at a2;exact⟨a1,a2⟩
theorem OuC.inner {held:List Int} {AF:Int} {n:Nat} {left:Int} {fr fe:List Int} (h:OuC t held AF n left fr fe) (hn:n≤16):InC t held AF n 1 left fr fe:=by
 obtain⟨h0,h1⟩:=h;refine⟨λhz=>?_,λhz=>?_⟩
 ·obtain⟨a1,a2,a3⟩:=h0 hz;exact⟨a1,a2,by rw[a3,List.drop_one];rfl⟩
 ·obtain⟨a1,a2⟩:=h1 hz;refine⟨a1,?_⟩;rw[show 17 - n = (16 - n) + 1 from ω] at a2;simp only[BK] at a2;rw[List.drop_one];exact a2
theorem InC.outer {held:List Int} {AF:Int} {n i:Nat} {left:Int} {fr fe:List Int} (h:InC t held AF n i left fr fe) (hi:t.length≤i):OuC t held AF (n + 1) left fr fe:=by
 obtain⟨h0,h1⟩:=h;rw[Tx hi] at h0 h1;refine⟨λhz=>ω,λ_=>?_⟩;by_cases c:n = 0
 ·obtain⟨a1,a2,a3⟩:=h0 c;subst c;refine⟨by simpa [CO] using a3,?_⟩;rw[a1,a2];rfl
 ·obtain⟨a1,a2⟩:=h1 ω;refine⟨a1,?_⟩;simp only[Bu,zl] at a2;rw[show 17 - (n + 1) = 16 - n from ω]
  exact_mod_cast a2
end choose
theorem EA (held:List Int) (n:Int):∀(l:List Rg) (i:Nat) (left:Int),(Bu held n i l left).2.length≤l.length
 | [],_,_=>z_n 0
 | x :: r,i,left=>by
  unfold Bu;split
  ·simp only[U4];have:=EA held n r (i + 1) (left - n);omega
  ·simp only[U4];have:=EA held n r (i + 1) left;omega
theorem Dj (t:List Rg) (held:List Int):∀(k:Nat) (n left:Int),(BK t held k n left).length≤k * t.length
 | 0,_,_=>by simp[BK]
 | k + 1,n,left=>by
  unfold BK;simp only[Tn];have h1:=EA held n t.tail 1 left;have h2:=Dj t held k (n + 1) (Bu held n 1 t.tail left).1;rw[V7] at h1;rw[Nat.succ_mul];omega
theorem FU (held:List Int):∀(l:List Rg) (i:Nat),(CO held i l).length≤l.length
 | [],_=>z_n 0
 | x :: r,i=>by
  unfold CO;have:=FU held r (i + 1);split<;>simp only[U4]<;>omega
theorem InC.len {t:List Rg} {held:List Int} {AF:Int} {n i:Nat} {left:Int} {fr fe:List Int} (h:InC t held AF n i left fr fe):fr.length≤16 * t.length∧fe.length≤t.length:=by
 obtain⟨h0,h1⟩:=h;have f:=FU held t.tail 1;rw[V7] at f;by_cases c:n = 0
 ·obtain⟨a1,a2,a3⟩:=h0 c;have:=congrArg List.length a3;rw[Tn] at this;rw[a1];constructor
  ·simp
  ·omega
 ·obtain⟨a1,a2⟩:=h1 ω;have:=congrArg List.length a2;rw[Tn] at this;have g:=Dj t held 16 1 AF;rw[a1];constructor<;>omega
def Q2I (l1 l2:List Int) (v:Value) (N:Chs):Prop:=∃v1 v2 A1 A2,SO l1 v1 A1∧SO l2 v2 A2∧v = .tuple #[v1,v2]∧N = A1 ++ A2
theorem QM {A1 A2 D:Chs} (x:Nat × Obj):(x :: (A1 ++ (A2 ++ D))).Perm (A2 ++ (x :: (A1 ++ D))):=
 (List.Perm.cons x (by rw[← Tu,← Tu];exact List.perm_append_comm.append_right D)).trans U9.symm
theorem Qx {A1 A2 D:Chs}:(A2 ++ (A1 ++ D)).Perm (A1 ++ (A2 ++ D)):=by
 rw[← Tu,← Tu];exact List.perm_append_comm.append_right D
section A0
variable {t:List Rg} {sp:List Value} {b cap:Nat} {R:RM} {D:Chs}
theorem J0 {held:List Int} {hv:Value} (AF:Int) (hr:inR AF) (hl:t.length < 1000000) (hi:B9 R hv held) (hhl:held.length < 1000000000000) [a:At D b (C AK (Aa eRg t ++ sp))] :
  Mk ET [S0 b t.length cap,I AF,hv] R D (Q2I (AX t AF held).1 (AX t AF held).2):=by
 refine HA λF=>?_
 refine z_3 ?_;refine jro (Du hl) ?_;cases hok:BF t with
 | false=>
  refine EH (CS [] ?_);have:AX t AF held = ([],[]):=by unfold AX;rw[hok];rfl
  rw[this];exact⟨_,_,[],[],.inl ⟨rfl,rfl,rfl⟩,.inl ⟨rfl,rfl,rfl⟩,rfl,rfl⟩
 | true=>
 have eqc:AX t AF held = (BK t held 16 1 AF,CO held 1 t.tail):=by unfold AX;rw[hok];rfl
 have T:=BL.1 hok;refine DM (AY (λvs R' D'=>R' = R∧∃v1 A1 v2 A2,SO (BK t held 16 1 AF) v1 A1∧SO (CO held 1 t.tail) v2 A2∧D' = A1 ++ (A2 ++ (D ++ F))∧vs = [v1,v2]) (λK hK=>?_) ?_);rotate_left
 ·rintro e R1 D1 ⟨hR,v1,A1,v2,A2,so1,so2,hD,he⟩;subst hR;refine z_W ?_;clear hD;refine Aj (D':=(A1 ++ A2) ++ (D ++ F)) (by rw[Tu]) (CS (A1 ++ A2) ?_);rw[eqc];exact⟨v1,v2,A1,A2,so1,so2,rfl,rfl⟩
 refine jcI hK λK2 hK2=>?_
 refine jlp (λm vs R' D'=>R' = R∧∃(n:Nat) (left:Int) (fr fe:List Int) (v1 v2:Value) (A1 A2:Chs),n≤17∧inR left∧OuC t held AF n left fr fe∧SO fr v1 A1∧SO fe v2 A2∧D' = A1 ++ (A2 ++ (D ++ F))∧vs = [S0 b t.length cap,hv,v1,v2,I left,I n]∧m = 17 - n)
  ⟨rfl,0,AF,[],[],SN,SN,[],[],ω,hr,⟨λ_=>⟨rfl,rfl,rfl⟩,λh=>ω⟩,.inl ⟨rfl,rfl,rfl⟩,.inl ⟨rfl,rfl,rfl⟩,rfl,rfl,rfl⟩ ?_
 rintro m e R1 D1 K3 ⟨hR,n,left,fr,fe,v1,v2,A1,A2,hn,hleft,ou,so1,so2,hD,he,hm⟩ hK3;subst hR;refine z_W ?_;clear hD;refine jle (jif (λhc=>?_) (λhc=>?_));rotate_left
 ·have hc:n = 17:=by have:=z_g hc;omega
  subst hc;obtain⟨o1,o2⟩:=ou.2 ω;have o2:fr ++ [] = BK t held 16 1 AF:=o2;rw[UP] at o2;exact hK2 _ _ _ ⟨rfl,v1,A1,v2,A2,o2▸so1,o1▸so2,rfl,rfl⟩
 have hc:n≤16:=by have:=z_f hc;omega
 refine AY (λvs R' D'=>R' = R1∧∃(left:Int) (fr fe:List Int) (v1 v2:Value) (A1 A2:Chs),inR left∧OuC t held AF (n + 1) left fr fe∧SO fr v1 A1∧SO fe v2 A2∧D' = A1 ++ (A2 ++ (D ++ F))∧vs = [S0 b t.length cap,hv,v1,v2,I left,I n]) (λK4 hK4=>?_) ?_;rotate_left
 ·rintro e R2 D2 ⟨hR,left,fr,fe,v1,v2,A1,A2,hleft,ou,so1,so2,hD,he⟩;subst hR;refine z_W ?_;clear hD;refine jad (hK3 (17 - (n + 1)) _ _ _ ω ⟨rfl,n + 1,left,fr,fe,v1,v2,A1,A2,ω,hleft,ou,so1,so2,rfl,rfl,rfl⟩)
 refine jcI hK4 λK5 hK5=>?_
 refine jcI hK5 λK6 hK6=>?_
 refine jlp (λm vs R' D'=>R' = R1∧∃(i:Nat) (left:Int) (fr fe:List Int) (v1 v2:Value) (A1 A2:Chs),1≤i∧i≤t.length + 1∧inR left∧InC t held AF n i left fr fe∧SO fr v1 A1∧SO fe v2 A2∧D' = A1 ++ (A2 ++ (D ++ F))∧vs = [S0 b t.length cap,hv,v1,v2,I left,I n,I i]∧m = t.length + 1 - i)
  (n:=t.length) ⟨rfl,1,left,fr,fe,v1,v2,A1,A2,ω,ω,hleft,ou.inner hc,so1,so2,rfl,rfl,ω⟩ ?_
 clear ou so1 so2 hleft;rintro m e R2 D2 K7 ⟨hR,i,left,fr,fe,v1,v2,A1,A2,hi1,hi2,hleft,ic,so1,so2,hD,he,hm⟩ hK7;subst hR;refine z_W ?_;clear hD;refine jln (jlt (jif (λhd=>?_) (λhd=>?_)));rotate_left
 ·have hd:=z_g hd;exact hK6 _ _ _ ⟨rfl,left,fr,fe,v1,v2,A1,A2,hleft,ic.outer ω,so1,so2,rfl,rfl⟩
 have hd:i < t.length:=by have:=z_f hd;omega
 have n1:=T.n1;obtain⟨s1,s2,s3,s4⟩:=ic.step hd;obtain⟨len1,len2⟩:=ic.len;refine AY (λvs R' D'=>R' = R2∧∃(left:Int) (fr fe:List Int) (v1 v2:Value) (A1 A2:Chs),inR left∧InC t held AF n (i + 1) left fr fe∧SO fr v1 A1∧SO fe v2 A2∧D' = A1 ++ (A2 ++ (D ++ F))∧vs = [S0 b t.length cap,hv,v1,v2,I left,I n,I i]) (λK8 hK8=>?_) ?_;rotate_left
 ·rintro e R3 D3 ⟨hR,left,fr,fe,v1,v2,A1,A2,hleft,ou,so1,so2,hD,he⟩;subst hR;refine z_W ?_;clear hD;refine jad (hK7 (t.length + 1 - (i + 1)) _ _ _ ω ⟨rfl,i + 1,left,fr,fe,v1,v2,A1,A2,ω,ω,hleft,ou,so1,so2,rfl,rfl,rfl⟩)
 refine jcI hK8 λK9 hK9=>?_
 have RR:=T.row i ω ω;have t0:=RR.t0;have t1:=RR.t1;rw[E7 hd] at t0 t1;have hbase:=CT (r:=(i:Int)) ω ω;refine Bk hd (OQ hd (ja λb2=>(js rfl rfl σ rfl ?_)));refine AY (λvs R' D'=>R' = R2∧D' = A1 ++ (A2 ++ (D ++ F))∧vs = [S0 b t.length cap,hv,v1,v2,I left,I n,I i,.bool (!BN held n i t[i])]) (λK10 hK10=>?_) ?_;rotate_left
 ·rintro e R3 D3 ⟨hR,hD,he⟩;subst hR;refine z_W ?_;clear hD;cases hch:BN held n i t[i] with
  | false=>exact EH (hK9 _ _ _ ⟨rfl,left,fr,fe,v1,v2,A1,A2,hleft,s1 hch,so1,so2,rfl,rfl⟩)
  | true=>
  refine DM (jeq (jif (λh0=>?_) (λh0=>?_)))
  ·have h0:n = 0:=by have:=eq_of_beq h0;omega
   refine jbs rfl rfl λb1=>(Aj (QM _) ?_)
   have hx:Ay R3 (A2 ++ ((b1,C 3 [I i]) :: (A1 ++ (D ++ F)))) (some ⟨b1,0,none⟩) (1 * 1) ([(i:Int)].map I):=Ay.held (cs:=[I i]) (z_n 1);refine jas so2 rfl (by simp only[U0];omega) hx λv' A' so'=>(B7 A' (G:=A1 ++ (D ++ F)) (Aj Qx (hK9 _ _ _ ⟨rfl,left,fr,fe ++ [(i:Int)],v1,v',A1,A',hleft,s2 hch h0,so1,so',rfl,rfl⟩)))
  ·have h0:1≤n:=by have:=ne_of_beq_false h0;omega
   refine jle (jif (λh2=>?_) (λh2=>?_))
   ·have h2:=z_f h2;refine jbs rfl rfl λb1=>(Aj U9.symm ?_)
    have hx:Ay R3 (A1 ++ ((b1,C 3 [I i]) :: (A2 ++ (D ++ F)))) (some ⟨b1,0,none⟩) (1 * 1) ([(i:Int)].map I):=Ay.held (cs:=[I i]) (z_n 1);refine jas so1 rfl (by simp only[U0];omega) hx λv' A' so'=>?_
    have hleft' : inR (left - n):=by have:=hleft.1;have:=hleft.2;constructor<;>omega
    refine Iw hleft' (B7 A' (G:=A2 ++ (D ++ F)) (hK9 _ _ _ ⟨rfl,left - n,fr ++ [(i:Int)],fe,v',v2,A',A2,hleft',s3 hch h0 h2,so',so2,rfl,rfl⟩))
   ·have h2:=z_g h2;exact hK9 _ _ _ ⟨rfl,left,fr,fe,v1,v2,A1,A2,hleft,s4 h0 h2,so1,so2,rfl,rfl⟩
 refine jor [S0 b t.length cap,hv,v1,v2,I left,I n,I i,Pt b2] ((t[i].kind != 3) || (t[i].top != t[i].Al)) (λK' hK'=>?_) (λe c u ho he=>?_)
 ·refine jl rfl (jne (jgO hK' λh1 hN=>jl rfl (jl rfl (jne hN))))
 refine z_V ?_;refine jor [S0 b t.length cap,hv,v1,v2,I left,I n,I i,Pt b2] ((t[i].kind != 3) || (t[i].top != t[i].Al) || (t[i].AH != n)) (λK' hK'=>?_) (λe c u ho he=>?_)
 ·rw[ho];refine jgO hK' λh1 hN=>jl rfl (jne hN)
 refine z_V ?_;generalize hf3:((t[i].kind != 3) || (t[i].top != t[i].Al) || (t[i].AH != n)) = f3 at ho;have ech:BN held n i t[i] = (!f3 && decide (t[i].AH < t[i].top - AG i) && !(held.contains (i:Int))):=by
  unfold BN;rw[← hf3];simp only[bne,Bool.not_or,Bool.not_not,Bool.and_assoc]
 cases f3 with
 | true=>
  rw[Bool.not_true,Ui,Ui] at ech;refine CQ ?_;rw[ho];refine jtf (Bq λe he=>?_);refine z_V ?_;refine jtf (CQ (jtf (Bq λe he=>?_)));refine z_V ?_;refine CQ (Ea (jtf (Bq λe he=>?_)));refine z_V ?_;refine Aq (jtf jev) (Aq (jtf jev) (jtf (Ea (CN (hK10 _ _ _ ⟨rfl,rfl,by rw[ech];rfl⟩)))))
 | false=>
  rw[VF,UT] at ech;refine CQ ?_;rw[ho];refine jff (jl rfl (jl rfl (Bq λe he=>?_)));refine z_V ?_;refine jff (jp (Ax i) (CQ (jff (jsu (jge (Bq λe he=>?_))))));refine z_V ?_;refine CQ (EW ?_);by_cases c4:t[i].AH < t[i].top - AG i
  ·rw[decide_eq_false (show ¬ t[i].AH≥t[i].top - AG i by omega)];rw[decide_eq_true c4,UT] at ech;refine jff (Bq λe he=>?_);refine z_V ?_;refine Aq (jff (jl rfl jev)) (Aq (jff (jl rfl jev)) (jff (jro (Qd i hi hhl) (EW (CN (hK10 _ _ _ ⟨rfl,rfl,by rw[ech,Bool.not_not]⟩))))))
  ·rw[decide_eq_true (show t[i].AH≥t[i].top - AG i by omega)];rw[decide_eq_false c4,Ui] at ech;refine jtf (Bq λe he=>?_);refine z_V ?_;refine Aq (jff (jl rfl jev)) (Aq (jff (jl rfl jev)) (jtf (Ea (CN (hK10 _ _ _ ⟨rfl,rfl,by rw[ech];rfl⟩)))))
end A0
end Go.Lf
end
section
namespace Sm
def shp (w:List Int) (a:Int):Shp:=(AN (wv w (a + 1))).1
def sz (w:List Int) (a:Int):Int:=AC (shp w a)
def Aw (t:List Rg) (a:Int):Prop:=0≤a∧(rv t (a / 16)).kind = 4
theorem NV (v:Int):0≤(AN v).1.refs∧(AN v).1.refs≤4∧0≤(AN v).1.nums∧(AN v).1.nums≤4:=by
 unfold AN;split
 ·simp only[];omega
 ·simp[O7]
theorem If {s:Shp} (h:0≤s.refs∧s.refs≤4∧0≤s.nums∧s.nums≤4):AC s = 2 + s.refs + s.nums:=by
 unfold AC;rw[if_pos (by simp[Ao];omega)]
theorem Dp (w:List Int) (a:Int):sz w a = 2 + (shp w a).refs + (shp w a).nums∧0≤(shp w a).refs∧(shp w a).refs≤4∧0≤(shp w a).nums∧(shp w a).nums≤4:=by
 have h:=NV (wv w (a + 1));exact⟨If h,h⟩
theorem DD {w w' : List Int} {a:Int} (h:wv w' (a + 1) = wv w (a + 1)):shp w' a = shp w a:=by unfold shp;rw[h]
theorem Ew {w w' : List Int} {a:Int} (h:wv w' (a + 1) = wv w (a + 1)):sz w' a = sz w a:=by unfold sz;rw[DD h]
structure Geo (w:List Int) (t:List Rg) (B:Int→Prop):Prop where
 len:(w.length:Int) = 16 * t.length
 ok:TOk t
 at_:∀a,B a→16≤a∧a + sz w a≤(rv t (a / 16)).top∧(AN (wv w (a + 1))).2 = true
 nx:∀a,B a→a + sz w a = (rv t (a / 16)).top∨B (a + sz w a)
 bs:∀r:Int,1≤r→r < t.length→(rv t r).top = 16 * r∨B (16 * r)
 dj:∀a b,B a→B b→a < b→a + sz w a≤b
theorem Geo.inn {w:List Int} {t:List Rg} {B:Int→Prop} (G:Geo w t B) {a:Int} (h:B a):16≤a∧1≤a / 16∧a / 16 < t.length∧a + sz w a≤(rv t (a / 16)).top∧(rv t (a / 16)).top≤16 * (a / 16) + 16∧a + sz w a≤w.length∧2≤sz w a∧sz w a≤10:=by
 obtain⟨h1,h2,_⟩:=G.at_ a h;have hs:=Dp w a;have hl:=G.len;by_cases c:a / 16 < t.length
 ·have:=(G.ok.row (a / 16) ω c).t1;exact⟨h1,ω,c,h2,this,ω,ω,ω⟩
 ·rw[Cn ω ω] at h2;simp only[DY] at h2;omega
structure X where
 w:List Int
 t:List Rg
 m:List Bool
 ph:Int
 sk:List Int
 old:List Int
 AI:List Int
 B:Int→Prop
 L:Int→Prop
 q:Int→Int
 r0:Int→Prop
def X.tm (x:X) (a:Int):Int:=(rv x.t (a / 16)).Al
def Lg (x:X) (v:Int):Prop:=v = 0∨mv x.m v = true∨v∈x.sk∨v∈x.old∨(0≤v∧x.tm v≤v)
open Classical in
noncomputable def cnt (x:X) (r:Int):Nat:=(List.range 16).countP λ(k:Nat)=>decide (∃a,0≤a∧mv x.m a = true∧a≤16 * r + (k:Int)∧16 * r + (k:Int) < a + sz x.w a)
structure Mp (x:X):Prop where
 sk:∀a∈x.sk,x.L a
 old:∀a∈x.old,x.L a
 mn:∀Y:Int→Prop,(∀a,x.r0 a→Y a)→(∀a j,x.L a→a < x.tm a→Y a→0≤j→j < (shp x.w a).refs→x.q (a + 2 + j)≠0→Y (x.q (a + 2 + j)))→∀a,x.L a→a < x.tm a→Y a
 l0:∀a,x.r0 a→x.L a∧a < x.tm a∧Lg x a
 ql:∀a j,x.L a→a < x.tm a→0≤j→j < (shp x.w a).refs→x.q (a + 2 + j)≠0→x.L (x.q (a + 2 + j))∧x.q (a + 2 + j) < x.tm (x.q (a + 2 + j))
 un:∀a j,x.L a→a < x.tm a→0≤j→j < (shp x.w a).refs→wv x.w (a + 2 + j) = x.q (a + 2 + j)∨Lg x (x.q (a + 2 + j))
 cov:∀r:Int,1≤r→r < x.t.length→(rv x.t r).AH = cnt x r
structure Sh (x:X):Prop where
 g:Geo x.w x.t x.B
 lb:∀a,x.L a→x.B a
 rf:∀a j,x.L a→0≤j→j < (shp x.w a).refs→wv x.w (a + 2 + j)≠0→x.L (wv x.w (a + 2 + j))
 st:∀a,x.B a→¬ Aw x.t a→wv x.w a = a
 fw:∀a,x.B a→Aw x.t a→wv x.w a≠a→x.L (wv x.w a)∧¬ Aw x.t (wv x.w a)∧wv x.w (wv x.w a + 1) = wv x.w (a + 1)
 ml:x.m.length = x.w.length
 mt:∀a,0≤a→mv x.m a = true→x.L a∧a < x.tm a
 ph:0≤x.ph∧x.ph≤3
 nf:x.ph≤1→∀r:Int,0≤r→(rv x.t r).kind≠4
 lm:2≤x.ph→∀a,x.L a→a < x.tm a→mv x.m a = true
 pl:∀a∈x.AI,x.L a∧¬ Aw x.t a
 fm:∀a,x.L a→Aw x.t a→mv x.m a = true
 nb:1≤x.ph→∀a,x.B a→x.tm a≤a→x.L a
 af:x.ph = 3→∀a,x.L a→Aw x.t a→wv x.w a≠a
 mp:x.ph = 1→Mp x
structure Kp (o:Int) (x y:X):Prop where
 wl:y.w.length = x.w.length
 tl:y.t.length = x.t.length
 ph:y.ph = x.ph
 l:∀a,x.L a→y.L a
 b:∀a,x.B a→y.B a
 lf:∀a,y.L a→Aw y.t a→x.L a
 fr:∀r:Int,0≤r→((rv y.t r).kind = 4↔(rv x.t r).kind = 4)
 tm:∀r:Int,0≤r→(rv y.t r).Al = (rv x.t r).Al
 own:∀r:Int,0≤r→(rv x.t r).kind = 2→(rv x.t r).AR≠o→((rv y.t r).kind = 2∧(rv y.t r).AR = (rv x.t r).AR∧(rv y.t r).top = (rv x.t r).top)∧∀z,(rv x.t r).top≤z→z < 16 * r + 16→wv y.w z = wv x.w z
 sh:∀a,x.B a→wv y.w (a + 1) = wv x.w (a + 1)
 bd:∀a z,x.L a→Aw x.t a→a < z→z < a + sz x.w a→wv y.w z = wv x.w z
 fwd:∀a,x.B a→wv x.w a≠a→wv y.w a = wv x.w a
 lg:x.ph = 1→∀v,Lg x v→Lg y v
 q:y.q = x.q
 cl:x.ph = 3→∀a j,y.L a→¬ Aw y.t a→0≤j→j < (shp y.w a).refs→Aw y.t (wv y.w (a + 2 + j))→x.L a∧wv x.w (a + 2 + j) = wv y.w (a + 2 + j)
theorem Kp.refl (o:Int) (x:X):Kp o x x:=
 ⟨rfl,rfl,rfl,λ_ h=>h,λ_ h=>h,λ_ h _=>h,λ_ _=>Iff.rfl,λ_ _=>rfl,λ_ _ h _=>⟨⟨h,rfl,rfl⟩,λ_ _ _=>rfl⟩,λ_ _=>rfl,λ_ _ _ _ _ _=>rfl,λ_ _ _=>rfl,λ_ _ h=>h,rfl,λ_ _ _ h _ _ _ _=>⟨h,rfl⟩⟩
theorem Kp.frm {o:Int} {x y:X} (K:Kp o x y) {a:Int}:Aw y.t a↔Aw x.t a:=
 ⟨λh=>⟨h.1,(K.fr (a / 16) (by have:=h.1;omega)).1 h.2⟩,λh=>⟨h.1,(K.fr (a / 16) (by have:=h.1;omega)).2 h.2⟩⟩
theorem Kp.trans {o:Int} {x y z:X} (K:Kp o x y) (K' : Kp o y z) (H:Sh x) (H' : Sh y):Kp o x z where
 wl:=by rw[K'.wl,K.wl]
 tl:=by rw[K'.tl,K.tl]
 ph:=by rw[K'.ph,K.ph]
 l a h:=K'.l a (K.l a h)
 b a h:=K'.b a (K.b a h)
 lf a h h':=K.lf a (K'.lf a h h') (K'.frm.1 h')
 fr r h:=(K'.fr r h).trans (K.fr r h)
 tm r h:=(K'.tm r h).trans (K.tm r h)
 own r h hk ho:=by
  obtain⟨⟨e1,e2,e3⟩,f⟩:=K.own r h hk ho;obtain⟨⟨e1',e2',e3'⟩,f'⟩:=K'.own r h e1 (by rw[e2];exact ho);refine⟨⟨e1',by rw[e2',e2],by rw[e3',e3]⟩,λu h1 h2=>?_⟩;rw[f' u (by rw[e3];exact h1) h2,f u h1 h2]
 sh a h:=(K'.sh a (K.b a h)).trans (K.sh a h)
 bd a u h hf h1 h2:=by
  rw[K'.bd a u (K.l a h) (K.frm.2 hf) h1 (by rw[Ew (K.sh a (H.lb a h))];exact h2)];exact K.bd a u h hf h1 h2
 fwd a h h':=by
  have e:=K.fwd a h h';rw[K'.fwd a (K.b a h) (by rw[e];exact h'),e]
 lg hp v hv:=K'.lg (by rw[K.ph];exact hp) v (K.lg hp v hv)
 q:=by rw[K'.q,K.q]
 cl hp a j h1 h2 h3 h4 h5:=by
  obtain⟨g1,g2⟩:=K'.cl (by rw[K.ph];exact hp) a j h1 h2 h3 h4 h5;have e:=DD (K'.sh a (H'.lb a g1));rw[e] at h4;rw[← g2] at h5;obtain⟨f1,f2⟩:=K.cl hp a j g1 (λh=>h2 (K'.frm.2 h)) h3 h4 (K'.frm.1 h5);exact⟨f1,by rw[f2,g2]⟩
end Sm
end
