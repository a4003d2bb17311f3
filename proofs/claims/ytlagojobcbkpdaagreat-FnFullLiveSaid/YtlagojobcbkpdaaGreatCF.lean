/- A part of the proof of the given row: the walk of the law and of all that it calls. Conditions: none. -/
import Derived.Test.YtlagojobcbkpdaaGreatCE
set_option linter.unusedVariables false
set_option linter.unusedSimpArgs false
section
namespace Go.Lf
open Go Sm
def Ro (f:Nat) (args:List Value) (v:Value) (R:RM) (D:Chs):Prop:=Fn P f args R D λv' _ A=>v' = v∧A = D
theorem jro {f:Nat} {args:List Value} {v:Value} {R:RM} {D:Chs} {k:Value→M} (hF:Ro f args v R D) (H:J R D (k v)):J R D (CA P f args k):=by
 intro h hs;refine EW ?_ (hF [] h (by simpa using hs));rintro v' h' ⟨R',A',h1,h2,rfl,rfl⟩;exact H h' (by simpa using h2.le h1)
theorem Bc {v v' : Value} {R:RM} {D E G F:Chs} (hv:v' = v) [s:Sp G (D ++ F) E]:J R G (Er R F (λv' _ A=>v' = v∧A = D) v'):=by
 intro h hs;refine⟨R,D,RM.le.refl R,?_,hv,rfl⟩;exact (hs.perm s.p).keep
theorem jln {R:RM} {D:Chs} {a:Option Addr} {n c:Nat} {k:Value→M} (H:J R D (k (I n))):J R D (LN (.slice a n c) k):=H
def Or2 (c u:Value) (v:Bool):Prop:=∀k:Value→M,zP c u k = k (.bool v)
def Fh (c u:Value) (v:Bool):Prop:=∀k:Value→M,zA c u k = k (.bool v)
theorem Al {u:Value}:Or2 (.bool true) u true:=λ_=>rfl
theorem Aj {b:Bool}:Or2 (.bool false) (.bool b) b:=λ_=>rfl
theorem Aq {b:Bool}:Fh (.bool true) (.bool b) b:=λ_=>rfl
theorem Av {u:Value}:Fh (.bool false) u false:=λ_=>rfl
section cuts
variable {R:RM} {D:Chs} {lv:List Nat} {B:(List Value→M)→M} {K:Env→M}
theorem jor (pre:List Value) (v:Bool) (H1:∀K' : List Value→M,(∀c u w,Or2 c u w→w = v→J R D (K' (pre ++ [c,u])))→J R D (B K')) (H2:∀e c u,Or2 c u v→lv.map e = pre ++ [c,u]→J R D (K e)):J R D (CUT lv B K):=
 AJ (λvs R' D'=>R' = R∧D' = D∧∃c u,vs = pre ++ [c,u]∧Or2 c u v) (λK' h=>H1 K' λc u w hc hw=>h _ _ _ ⟨rfl,rfl,c,u,rfl,hw▸hc⟩) λe R' D' ⟨h1,h2,c,u,h3,h4⟩=>by
  subst h1 h2;exact H2 e c u h4 h3
theorem jan (pre:List Value) (v:Bool) (H1:∀K' : List Value→M,(∀c u w,Fh c u w→w = v→J R D (K' (pre ++ [c,u])))→J R D (B K')) (H2:∀e c u,Fh c u v→lv.map e = pre ++ [c,u]→J R D (K e)):J R D (CUT lv B K):=
 AJ (λvs R' D'=>R' = R∧D' = D∧∃c u,vs = pre ++ [c,u]∧Fh c u v) (λK' h=>H1 K' λc u w hc hw=>h _ _ _ ⟨rfl,rfl,c,u,rfl,hw▸hc⟩) λe R' D' ⟨h1,h2,c,u,h3,h4⟩=>by
  subst h1 h2;exact H2 e c u h4 h3
theorem Bz (pre:List Value) (H1:∀K' : List Value→M,J R D (K' pre)→J R D (B K')) (H2:∀e,lv.map e = pre→J R D (K e)):J R D (CUT lv B K):=
 AJ (λvs R' D'=>R' = R∧D' = D∧vs = pre) (λK' h=>H1 K' (h _ _ _ ⟨rfl,rfl,rfl⟩)) λe R' D' ⟨h1,h2,h3⟩=>by
  subst h1 h2;exact H2 e h3
end cuts
theorem Bu {t:List Rg} {sp:List Value} {i:Nat} (h:i < t.length) {f:Nat} {v:Value} (hv:(eRg (t[i]))[f]? = some v):(Ab eRg t ++ sp)[i * 5 + f]? = some v:=by
 have:=DB (f:=eRg) (w:=5) (λ_=>rfl) (sp:=sp) h;have e2:=congrArg (λl=>l[f]?) this;simp only[Zr,Zl] at e2;have hf:f < 5:=by
  by_cases c:f < 5
  ·exact c
  ·have:(eRg (t[i]))[f]? = none:=ZW (by show 5≤f;omega);rw[this] at hv;cases hv
 rw[if_pos hf] at e2;rw[e2,hv]
theorem Ec {t:List Rg} {sp:List Value} {i:Nat} (h:i < t.length):i * 5 + 5≤(Ab eRg t ++ sp).length:=by
 rw[Yn,Ds (w:=5) (λ_=>rfl)];omega
section A0
variable {t:List Rg} {sp:List Value} {b cap:Nat} {R:RM} {D:Chs}
theorem S7 (AT:Int) (hl:t.length < 1000000) [a:At D b (C AI (Ab eRg t ++ sp))]:Ro N0 [S0 b t.length cap,I AT] (I (own t AT)) R D:=by
 refine Se λF=>?_
 unfold NF;have ex:=Ez (λx=>x.kind == 2 && x.AT == AT) t;refine jlp (λn vs R' D'=>R' = R∧D' = D ++ F∧∃r:Nat,1≤r∧r≤t.length + 1∧vs = [S0 b t.length cap,I AT,I r]∧n = t.length + 1 - r∧own t AT = Bt (λx=>x.kind == 2 && x.AT == AT) r (t.drop r))
  (n:=t.length) ⟨rfl,rfl,1,by omega,by omega,rfl,by omega,by rw[own,List.drop_one]⟩ ?_
 rintro n e R' D' K ⟨rfl,rfl,r,r0,hr,he,hn,hown⟩ hK;simp only[List.map,zc,zl,zj,z_t] at he;simp only[he];refine jln (jlt (jif (λhc=>?_) (λhc=>?_)))
 ·have hc:r < t.length:=by have:=z_f hc;omega
  have hd:t.drop r = t[r] :: t.drop (r + 1):=Yu hc;rw[hd] at hown;simp only[Bt] at hown;refine jan [S0 b t.length cap,I AT,I r] (t[r].kind == 2 && t[r].AT == AT) (λK' hK'=>?_) (λe c u h2 he=>?_)
  ·refine jia (by omega) (by omega) ?_;refine jl (v:=I t[r].kind) ?_ (jeq (Bm (λh1=>?_) (λh1=>?_)))
   ·rw[Z6];exact Bu (f:=0) hc rfl
   ·refine jia (by omega) (by omega) ?_;refine jl (v:=I t[r].AT) ?_ (jeq (hK' _ _ _ (h1▸Aq) (by rw[h1,Yx])));rw[Z6];exact Bu (f:=1) hc rfl
   ·exact hK' _ _ _ (h1▸Av) (by rw[h1,Yy])
  ·simp only[List.map,zc,zl,zj,z_t] at he;simp only[he];rw[h2];refine jif (λh=>?_) (λh=>?_)
   ·rw[if_pos h] at hown;exact Bc (by rw[hown])
   ·rw[if_neg (by rw[h];decide)] at hown;refine jad ?_;exact hK (t.length + 1 - (r + 1)) _ _ _ (by omega) ⟨rfl,rfl,r + 1,by omega,by omega,rfl,rfl,hown⟩
 ·have hc:¬ r < t.length:=by have:=z_g hc;omega
  rw[Z2 (by omega)] at hown;exact Bc (by rw[hown];rfl)
end A0
section A0
variable {t:List Rg} {sp:List Value} {b cap:Nat} {R:RM} {D:Chs}
theorem Do {t:List Rg} {r:Nat} (h:r < t.length):rv t r = t[r]:=FH h
theorem EG (hl:t.length < 1000000) [a:At D b (C AI (Ab eRg t ++ sp))]:Ro KD [S0 b t.length cap] (.bool (BI t)) R D:=by
 refine OQ λF=>?_
 unfold Jh;have nok:(TOk t→False)→Value.bool false = Value.bool (BI t):=λh=>by
  cases hh:BI t
  ·rfl
  ·exact (h (Bk.1 hh)).elim
 refine jor [S0 b t.length cap] (decide ((t.length:Int) < 2) || decide ((t.length:Int) > 12)) (λK' hK'=>?_) (λe c u ho he=>?_)
 ·refine jln (jlt (BM (λh1=>?_) (λh1=>?_)))
  ·exact jln (jgr (hK' _ _ _ (h1▸Aj) (by rw[h1,Yk])))
  ·exact hK' _ _ _ (h1▸Al) (by rw[h1,Ym])
 simp only[List.map,zc,zl,zj,z_t] at he;simp only[he];refine jor [S0 b t.length cap] ((decide ((t.length:Int) < 2) || decide ((t.length:Int) > 12)) || !(rv t 0 == DY)) (λK' hK'=>?_) (λe c u ho he=>?_)
 ·rw[ho];refine BM (λh1=>?_) (λh1=>?_)
  ·have h1':=h1;simp only[Z1,decide_eq_false_iff_not] at h1';have h0:0 < t.length:=by omega
   refine jia (by omega) (by omega) ?_;refine jla (l:=eRg (t[0])) (Ec h0) (DB (f:=eRg) (w:=5) (λ_=>rfl) h0) ?_;refine jbd (cs:=[I 0,I (-1),I 0,I 0,I 0]) rfl rfl ?_;have ee:[I 0,I (-1),I 0,I 0,I 0] = eRg DY:=rfl;rw[ee];refine @Xb (t[0]) DY _ _ _ _ _ ?_;refine hK' _ _ _ (h1▸Aj) ?_;rw[h1,Yk,show rv t 0 = t[0] from Do h0]
  ·exact hK' _ _ _ (h1▸Al) (by rw[h1,Ym])
 simp only[List.map,zc,zl,zj,z_t] at he;simp only[he];rw[ho];refine jif (λh0=>?_) (λh0=>?_)
 ·refine Bc (nok λT=>?_);have n0:=T.n0;have n1:=T.n1;have e:=T.e;simp only[ZA,z_d,Z7,beq_eq_false_iff_ne] at h0;rcases h0 with (h | h) | h
  ·omega
  ·omega
  ·exact h e
 simp only[Z1,decide_eq_false_iff_not,ZJ,beq_iff_eq] at h0;obtain⟨⟨n0,n1⟩,hedge⟩:=h0;refine jlp (λn vs R' D'=>R' = R∧D' = D ++ F∧∃r:Nat,1≤r∧r≤t.length∧vs = [S0 b t.length cap,I r]∧n = t.length - r∧(∀k:Nat,1≤k→k < r→Hh k (rv t k)∧∀m:Nat,1≤m→m < k→0≤(rv t k).AT→(rv t m).AT≠(rv t k).AT))
  (n:=t.length - 1) ⟨rfl,rfl,1,by omega,by omega,rfl,rfl,λk h1 h2=>by omega⟩ ?_
 rintro n e R' D' K ⟨rfl,rfl,r,r0,hr,he,hn,hinv⟩ hK;simp only[List.map,zc,zl,zj,z_t] at he;simp only[he];refine jln (jlt (jif (λhc=>?_) (λhc=>?_)));rotate_left
 ·have hc:=z_g hc;refine Bc ?_;rw[Bk.2 ⟨by omega,by omega,hedge,λq q0 q1=>?_,λq s q0 q1 s0 s1 hoo heq=>?_⟩]
  ·have:=(hinv q.toNat (by omega) (by omega)).1;rwa [show ((q.toNat:Nat):Int) = q from by omega] at this
  ·have h1:=(hinv q.toNat (by omega) (by omega)).2 s.toNat (by omega);have h2:=(hinv s.toNat (by omega) (by omega)).2 q.toNat (by omega);rw[show ((q.toNat:Nat):Int) = q from by omega,show ((s.toNat:Nat):Int) = s from by omega] at h1 h2;rcases Int.lt_trichotomy q s with c | c | c
   ·exact absurd heq (h2 (by omega) (by rw[← heq];exact hoo))
   ·exact c
   ·exact absurd heq.symm (h1 (by omega) hoo)
 have hc:=z_f hc;have hrl:r < t.length:=by omega
 have hrv:=Do hrl;have hb:=Cx (r:=(r:Int)) (by omega) (by omega);refine AJ (λvs R2 D2=>R2 = R'∧D2 = D ++ F∧vs = [S0 b t.length cap,I r]∧Hh r (rv t r)∧∀m:Nat,1≤m→m < r→0≤(rv t r).AT→(rv t m).AT≠(rv t r).AT) (λK2 hK2=>?_) ?_;rotate_left
 ·rintro e _ _ ⟨rfl,rfl,he,hrow,hun⟩;simp only[List.map,zc,zl,zj,z_t] at he;simp only[he];refine jad ?_;refine hK (t.length - (r + 1)) _ _ _ (by omega) ⟨rfl,rfl,r + 1,by omega,by omega,rfl,rfl,λk k1 k2=>?_⟩;by_cases c:k = r
  ·subst c;exact⟨hrow,hun⟩
  ·exact hinv k k1 (by omega)
 refine AJ (λvs R2 D2=>R2 = R'∧D2 = D ++ F∧vs = [S0 b t.length cap,I r]∧Hh r (rv t r)∧∀m:Nat,1≤m→m < r→0≤(rv t r).AT→(rv t m).AT≠(rv t r).AT) (λK3 hK3=>?_) ?_;rotate_left
 ·rintro e _ _ ⟨rfl,rfl,he,hrow,hun⟩;simp only[List.map,zc,zl,zj,z_t] at he;simp only[he];exact hK2 _ _ _ ⟨rfl,rfl,rfl,hrow,hun⟩
 refine jia (by omega) (by omega) ?_;refine jla (l:=eRg (t[r])) (by rw[Z6];exact Ec hrl) (by rw[Z6];exact DB (f:=eRg) (w:=5) (λ_=>rfl) hrl) ?_;refine ja λbx=>?_
 refine js (cs':=eRg (t[r])) rfl rfl (by simp) rfl ?_;refine jp (BV r) ?_;rw[hb];refine jor [S0 b t.length cap,I r,Pt bx,I (16 * (r:Int))] (decide (t[r].kind < 1) || decide (t[r].kind > 4)) (λK' hK'=>?_) (λe c u ho he=>?_)
 ·refine jl (v:=I t[r].kind) rfl (jlt (BM (λh1=>?_) (λh1=>?_)))
  ·have h1':=h1;simp only[Z1,decide_eq_false_iff_not] at h1';refine jl (v:=I t[r].kind) rfl (jgr (hK' _ _ _ (h1▸Aj) (by rw[h1,Yk])))
  ·exact hK' _ _ _ (h1▸Al) (by rw[h1,Ym])
 simp only[List.map,zc,zl,zj,z_t] at he;simp only[he];refine jor [S0 b t.length cap,I r,Pt bx,I (16 * (r:Int))] ((decide (t[r].kind < 1) || decide (t[r].kind > 4)) || decide (t[r].top < 16 * r)) (λK' hK'=>?_) (λe c u ho he=>?_)
 ·rw[ho];refine BM (λh1=>?_) (λh1=>?_)
  ·have h1':=h1;simp only[Z1,decide_eq_false_iff_not] at h1';refine jl (v:=I t[r].top) rfl (jlt (hK' _ _ _ (h1▸Aj) (by rw[h1,Yk])))
  ·exact hK' _ _ _ (h1▸Al) (by rw[h1,Ym])
 simp only[List.map,zc,zl,zj,z_t] at he;simp only[he];refine jor [S0 b t.length cap,I r,Pt bx,I (16 * (r:Int))] (((decide (t[r].kind < 1) || decide (t[r].kind > 4)) || decide (t[r].top < 16 * r)) || decide (t[r].top > 16 * r + 16)) (λK' hK'=>?_) (λe c u ho he=>?_)
 ·rw[ho];refine BM (λh1=>?_) (λh1=>?_)
  ·have h1':=h1;simp only[Z1,decide_eq_false_iff_not] at h1';refine jl (v:=I t[r].top) rfl (jad (jgr (hK' _ _ _ (h1▸Aj) (by rw[h1,Yk]))))
  ·exact hK' _ _ _ (h1▸Al) (by rw[h1,Ym])
 simp only[List.map,zc,zl,zj,z_t] at he;simp only[he];refine jor [S0 b t.length cap,I r,Pt bx,I (16 * (r:Int))] ((((decide (t[r].kind < 1) || decide (t[r].kind > 4)) || decide (t[r].top < 16 * r)) || decide (t[r].top > 16 * r + 16)) || decide (t[r].Az < 16 * r)) (λK' hK'=>?_) (λe c u ho he=>?_)
 ·rw[ho];refine BM (λh1=>?_) (λh1=>?_)
  ·have h1':=h1;simp only[Z1,decide_eq_false_iff_not] at h1';refine jl (v:=I t[r].Az) rfl (jlt (hK' _ _ _ (h1▸Aj) (by rw[h1,Yk])))
  ·exact hK' _ _ _ (h1▸Al) (by rw[h1,Ym])
 simp only[List.map,zc,zl,zj,z_t] at he;simp only[he];refine jor [S0 b t.length cap,I r,Pt bx,I (16 * (r:Int))] (((((decide (t[r].kind < 1) || decide (t[r].kind > 4)) || decide (t[r].top < 16 * r)) || decide (t[r].top > 16 * r + 16)) || decide (t[r].Az < 16 * r)) || decide (t[r].Az > t[r].top)) (λK' hK'=>?_) (λe c u ho he=>?_)
 ·rw[ho];refine BM (λh1=>?_) (λh1=>?_)
  ·have h1':=h1;simp only[Z1,decide_eq_false_iff_not] at h1';refine jl (v:=I t[r].Az) rfl (jl (v:=I t[r].top) rfl (jgr (hK' _ _ _ (h1▸Aj) (by rw[h1,Yk]))))
  ·exact hK' _ _ _ (h1▸Al) (by rw[h1,Ym])
 simp only[List.map,zc,zl,zj,z_t] at he;simp only[he];refine jor [S0 b t.length cap,I r,Pt bx,I (16 * (r:Int))] ((((((decide (t[r].kind < 1) || decide (t[r].kind > 4)) || decide (t[r].top < 16 * r)) || decide (t[r].top > 16 * r + 16)) || decide (t[r].Az < 16 * r)) || decide (t[r].Az > t[r].top)) || decide (t[r].AQ < 0)) (λK' hK'=>?_) (λe c u ho he=>?_)
 ·rw[ho];refine BM (λh1=>?_) (λh1=>?_)
  ·have h1':=h1;simp only[Z1,decide_eq_false_iff_not] at h1';refine jl (v:=I t[r].AQ) rfl (jlt (hK' _ _ _ (h1▸Aj) (by rw[h1,Yk])))
  ·exact hK' _ _ _ (h1▸Al) (by rw[h1,Ym])
 simp only[List.map,zc,zl,zj,z_t] at he;simp only[he];refine jor [S0 b t.length cap,I r,Pt bx,I (16 * (r:Int))] (((((((decide (t[r].kind < 1) || decide (t[r].kind > 4)) || decide (t[r].top < 16 * r)) || decide (t[r].top > 16 * r + 16)) || decide (t[r].Az < 16 * r)) || decide (t[r].Az > t[r].top)) || decide (t[r].AQ < 0)) || decide (t[r].AQ > t[r].top - 16 * r)) (λK' hK'=>?_) (λe c u ho he=>?_)
 ·rw[ho];refine BM (λh1=>?_) (λh1=>?_)
  ·have h1':=h1;simp only[Z1,decide_eq_false_iff_not] at h1';refine jl (v:=I t[r].AQ) rfl (jl (v:=I t[r].top) rfl (jsu (jgr (hK' _ _ _ (h1▸Aj) (by rw[h1,Yk])))))
  ·exact hK' _ _ _ (h1▸Al) (by rw[h1,Ym])
 simp only[List.map,zc,zl,zj,z_t] at he;simp only[he];rw[ho];refine jif (λh0=>?_) (λh0=>?_)
 ·refine C4 (Bc (nok λT=>?_));have P:=T.row r (by omega) (by omega);rw[hrv] at P;obtain⟨p1,p2,p3,p4,p5,p6,p7,p8,_⟩:=P;simp only[ZA,z_d] at h0;omega
 simp only[Z1,decide_eq_false_iff_not] at h0;obtain⟨⟨⟨⟨⟨⟨⟨q1,q2⟩,q3⟩,q4⟩,q5⟩,q6⟩,q7⟩,q8⟩:=h0;refine jan [S0 b t.length cap,I r,Pt bx] (t[r].kind == 1 && t[r].top != 16 * (r:Int)) (λK' hK'=>?_) (λe c u ho he=>?_)
 ·refine jl (v:=I t[r].kind) rfl (jeq (Bm (λh1=>?_) (λh1=>?_)))
  ·exact jl (v:=I t[r].top) rfl (jne (hK' _ _ _ (h1▸Aq) (by rw[h1,Yx])))
  ·exact hK' _ _ _ (h1▸Av) (by rw[h1,Yy])
 simp only[List.map,zc,zl,zj,z_t] at he;simp only[he];rw[ho];refine jif (λh0=>?_) (λh0=>?_)
 ·refine C4 (Bc (nok λT=>?_));have P:=T.row r (by omega) (by omega);rw[hrv] at P;have p9:=P.fr;simp only[z_b,beq_iff_eq,bne_iff_ne,ne_eq] at h0;exact h0.2 (p9 h0.1)
 have hfr:t[r].kind = 1→t[r].top = 16 * r:=λhk=>by
  simp only[hk,beq_self_eq_true,Yx,bne_eq_false_iff_eq] at h0;exact h0
 clear h0;refine jor [S0 b t.length cap,I r,Pt bx] (((t[r].kind == 2) != decide (t[r].AT≥0)) || decide (t[r].AT < -1)) (λK' hK'=>?_) (λe c u ho he=>?_)
 ·refine jl (v:=I t[r].kind) rfl (jeq (jl (v:=I t[r].AT) rfl (jge ?_)));refine @jxb (t[r].kind == 2) (decide (t[r].AT≥0)) _ _ _ _ _ ?_;refine BM (λh1=>?_) (λh1=>?_)
  ·exact jl (v:=I t[r].AT) rfl (jlt (hK' _ _ _ (h1▸Aj) (by rw[h1,Yk])))
  ·exact hK' _ _ _ (h1▸Al) (by rw[h1,Ym])
 simp only[List.map,zc,zl,zj,z_t] at he;simp only[he];refine jor [S0 b t.length cap,I r,Pt bx] ((((t[r].kind == 2) != decide (t[r].AT≥0)) || decide (t[r].AT < -1)) || decide (t[r].AT > 3)) (λK' hK'=>?_) (λe c u ho he=>?_)
 ·rw[ho];refine BM (λh1=>?_) (λh1=>?_)
  ·exact jl (v:=I t[r].AT) rfl (jgr (hK' _ _ _ (h1▸Aj) (by rw[h1,Yk])))
  ·exact hK' _ _ _ (h1▸Al) (by rw[h1,Ym])
 simp only[List.map,zc,zl,zj,z_t] at he;simp only[he];rw[ho];have how:((t[r].kind == 2) != decide (t[r].AT≥0)) = false↔(t[r].kind = 2↔0≤t[r].AT):=by
  rw[bne_eq_false_iff_eq,ZT];simp
 refine jif (λh0=>?_) (λh0=>?_)
 ·refine C4 (Bc (nok λT=>?_));have P:=T.row r (by omega) (by omega);rw[hrv] at P;rw[how.2 P.ow] at h0;have o0:=P.o0;have o1:=P.o1;simp only[Yk,ZA,z_d] at h0;omega
 simp only[Z1,decide_eq_false_iff_not] at h0;obtain⟨⟨w1,w2⟩,w3⟩:=h0;have hrow:Hh r (rv t r):=by
  rw[hrv];exact⟨by omega,by omega,by omega,by omega,by omega,by omega,by omega,by omega,hfr,how.1 w1,by omega,by omega⟩
 refine AJ (λvs R2 D2=>R2 = R'∧D2 = (bx,C AI (eRg (t[r]))) :: (D ++ F)∧vs = [S0 b t.length cap,I r]∧∀m:Nat,1≤m→m < r→0≤(rv t r).AT→(rv t m).AT≠(rv t r).AT) (λK4 hK4=>?_) ?_;rotate_left
 ·rintro e _ _ ⟨rfl,rfl,he,hun⟩;simp only[List.map,zc,zl,zj,z_t] at he;simp only[he];exact C4 (hK3 _ _ _ ⟨rfl,rfl,rfl,hrow,hun⟩)
 refine jlp (λn vs R2 D2=>R2 = R'∧D2 = (bx,C AI (eRg (t[r]))) :: (D ++ F)∧∃k:Nat,1≤k∧k≤r∧vs = [S0 b t.length cap,I r,Pt bx,I k]∧n = r - k∧∀m:Nat,1≤m→m < k→0≤(rv t r).AT→(rv t m).AT≠(rv t r).AT)
  (n:=r - 1) ⟨rfl,rfl,1,by omega,by omega,rfl,rfl,λm h1 h2=>by omega⟩ ?_
 rintro n e _ _ K' ⟨rfl,rfl,k,k0,k1,he,hn,hun⟩ hK';simp only[List.map,zc,zl,zj,z_t] at he;simp only[he];refine jlt (jif (λhd=>?_) (λhd=>?_));rotate_left
 ·have hd:=z_g hd;exact hK4 _ _ _ ⟨rfl,rfl,rfl,λm h1 h2=>hun m h1 (by omega)⟩
 have hd:=z_f hd;have hkl:k < t.length:=by omega
 refine jan [S0 b t.length cap,I r,Pt bx,I k] (decide (t[r].AT≥0) && t[k].AT == t[r].AT) (λK5 hK5=>?_) (λe c u ho he=>?_)
 ·refine jl (v:=I t[r].AT) rfl (jge (Bm (λh1=>?_) (λh1=>?_)))
  ·refine jia (by omega) (by omega) ?_;refine jl (v:=I t[k].AT) (by rw[Z6];exact Bu (f:=1) hkl rfl) ?_;exact jl (v:=I t[r].AT) rfl (jeq (hK5 _ _ _ (h1▸Aq) (by rw[h1,Yx])))
  ·exact hK5 _ _ _ (h1▸Av) (by rw[h1,Yy])
 simp only[List.map,zc,zl,zj,z_t] at he;simp only[he];rw[ho];refine jif (λh0=>?_) (λh0=>?_)
 ·refine C4 (Bc (nok λT=>?_));simp only[z_b,z_d,beq_iff_eq] at h0;have:=T.own r k (by omega) (by omega) (by omega) (by omega) (by rw[hrv];exact h0.1) (by rw[hrv,Do hkl];exact h0.2.symm);omega
 refine jad ?_;refine hK' (r - (k + 1)) _ _ _ (by omega) ⟨rfl,rfl,k + 1,by omega,by omega,rfl,rfl,λm h1 h2 hoo=>?_⟩;by_cases c:m = k
 ·subst c;rw[hrv] at hoo ⊢;rw[Do hkl];intro heq;simp[heq,hoo] at h0
 ·exact hun m h1 (by omega) hoo
end A0
def Mk (f:Nat) (args:List Value) (R:RM) (D:Chs) (q:Value→Chs→Prop):Prop:=Fn P f args R D λv _ A=>∃N,A = N ++ D∧q v N
theorem jmk {f:Nat} {args:List Value} {R:RM} {D:Chs} {q:Value→Chs→Prop} {k:Value→M} (hF:Mk f args R D q) (H:∀v N,q v N→J R (N ++ D) (k v)):J R D (CA P f args k):=by
 intro h hs;refine EW ?_ (hF [] h (by simpa using hs));rintro v' h' ⟨R',A',h1,h2,N,rfl,hq⟩;exact H v' N hq h' (by simpa using h2.le h1)
theorem Cz {v:Value} {R:RM} {D E G F:Chs} {q:Value→Chs→Prop} (N:Chs) (hv:q v N) [s:Sp G N E] [x:Sf E (D ++ F)]:J R G (Er R F (λv _ A=>∃N,A = N ++ D∧q v N) v):=by
 intro h hs;obtain⟨X,hX⟩:=x.p;refine⟨R,N ++ D,RM.le.refl R,?_,N,rfl,hv⟩;have h1:=hs.perm s.p;subst hX;have:St h R (X ++ (N ++ D ++ F)):=h1.perm (by
  rw[Ys N D F,← Ys N X,← Ys X N]
  exact aG _ aB)
 exact this.drop
theorem jex {R:RM} {D:Chs} {i:Nat} {vs:Array Value} {v:Value} {k:Value→M} (h:vs.toList[i]? = some v) (H:J R D (k v)):J R D (EX i (.tuple vs) k):=by
 have e:EX i (.tuple vs) k = k v:=by simp only[EX,h]
 rw[e];exact H
theorem Cs {R:RM} {D:Chs} {k:Value→M} {n b off len cap r:Nat} (h:r < len) (H:J R D (k (.pointer (some ⟨b,off + r * n,none⟩)))):J R D (IA n (.slice (some ⟨b,off,none⟩) len cap) (I (r:Int)) k):=
 jia (by omega) (by omega) (by rw[Yj];exact H)
def Vx (t:List Rg) (v:Value) (N:Chs):Prop:=∃b c sp,t.length≤c∧v = S0 b t.length c∧N = [(b,C AI (Ab eRg t ++ sp))]
def WT (r:Option (List Rg × Int)) (v:Value) (N:Chs):Prop:=match r with
 | none=>v = .tuple #[.slice none 0 0,I 0,.bool false]∧N = []
 | some (t',i)=>∃sv,Vx t' sv N∧v = .tuple #[sv,I i,.bool true]
def WP (r:Option (List Rg)) (v:Value) (N:Chs):Prop:=match r with
 | none=>v = .tuple #[.slice none 0 0,.bool false]∧N = []
 | some t'=>∃sv,Vx t' sv N∧v = .tuple #[sv,.bool true]
theorem Ha {t:List Rg} {sp:List Value} {b i:Nat} {x:Rg} {R:RM} {D D' : Chs} {m:M} (hi:i < t.length) [a:At D b (C AI (Ab eRg t ++ sp))] [u:Up D b (C AI (Ab eRg t ++ sp)) (C AI (Ab eRg (t.set i x) ++ sp)) D'] (H:J R D' m):J R D (ST 5 (.pointer (some ⟨b,0 + i * 5,none⟩)) (.agg (eRg x).toArray) m):=by
 rw[Z6];exact js (cs:=Ab eRg t ++ sp) (cs':=Ab eRg (t.set i x) ++ sp) rfl rfl (Ec hi) (NB (f:=eRg) (w:=5) (λ_=>rfl) hi) H
theorem N7 {t:List Rg} {sp:List Value} {b i:Nat} {R:RM} {D:Chs} {k:Value→M} (hi:i < t.length) [a:At D b (C AI (Ab eRg t ++ sp))] (H:J R D (k (.agg (eRg (t[i])).toArray))):J R D (LA 5 (.pointer (some ⟨b,0 + i * 5,none⟩)) k):=by
 rw[Z6];exact jla (cs:=Ab eRg t ++ sp) (Ec hi) (DB (f:=eRg) (w:=5) (λ_=>rfl) hi) H
section A0
variable {t:List Rg} {sp:List Value} {b cap:Nat} {R:RM} {D:Chs}
theorem F3 (hl:t.length < 1000000) [a:At D b (C AI (Ab eRg t ++ sp))]:Mk KU [S0 b t.length cap] R D (Vx t):=by
 refine QM λF=>?_
 unfold L6;have hsz:=Ds (f:=eRg) (w:=5) (λ_=>rfl) t;refine jbs (cs:=[]) rfl rfl λb0=>?_
 have hr:BQ R ((b0,C 66 []) :: (D ++ F)) (some ⟨b,0,none⟩) (t.length * 5) (Ab eRg t):=by
  have:=BQ.held (R:=R) (D:=(b0,C 66 []) :: (D ++ F)) (b:=b) (o:=0) (n:=t.length * 5) (t:=AI) (cs:=Ab eRg t ++ sp) (by simp[hsz]);rw[aD,Zd (by omega),← hsz,List.take_length] at this;rw[← hsz];exact this
 refine Ve (new:=Ab eRg t) hr (by decide) (by omega) (λ_=>rfl) (λh0=>?_) (λb' c hc=>?_)
 ·have ht:t = []:=ZK.1 h0;subst ht;exact Cz [(b0,C 66 [])] ⟨b0,0,[],z_n _,rfl,rfl⟩
 ·exact Cz [(b',C 66 (Ab eRg t ++ (List.replicate (c - t.length) (cl z66)).flatten))] ⟨b',c,_,hc,rfl,rfl⟩
theorem J8 (AT:Int) (hl:t.length < 1000000) [a:At D b (C AI (Ab eRg t ++ sp))]:Mk Gl [S0 b t.length cap,I AT] R D (WT (C5 t AT)):=by
 refine Ml λF=>?_
 unfold Gc;refine jor [S0 b t.length cap,I AT] (!BI t || decide (AT < 0)) (λK' hK'=>?_) (λe c u ho he=>?_)
 ·refine jro (EG hl) (BM (λh1=>?_) (λh1=>?_))
  ·exact jlt (hK' _ _ _ (h1▸Aj) (by rw[h1,Yk]))
  ·exact hK' _ _ _ (h1▸Al) (by rw[h1,Ym])
 simp only[List.map,zc,zl,zj,z_t] at he;simp only[he];refine jor [S0 b t.length cap,I AT] ((!BI t || decide (AT < 0)) || decide (AT > 3)) (λK' hK'=>?_) (λe c u ho he=>?_)
 ·rw[ho];refine BM (λh1=>?_) (λh1=>?_)
  ·exact jgr (hK' _ _ _ (h1▸Aj) (by rw[h1,Yk]))
  ·exact hK' _ _ _ (h1▸Al) (by rw[h1,Ym])
 simp only[List.map,zc,zl,zj,z_t] at he;simp only[he];refine jor [S0 b t.length cap,I AT] (((!BI t || decide (AT < 0)) || decide (AT > 3)) || decide (own t AT≥0)) (λK' hK'=>?_) (λe c u ho he=>?_)
 ·rw[ho];refine BM (λh1=>?_) (λh1=>?_)
  ·exact jro (S7 AT hl) (jge (hK' _ _ _ (h1▸Aj) (by rw[h1,Yk])))
  ·exact hK' _ _ _ (h1▸Al) (by rw[h1,Ym])
 simp only[List.map,zc,zl,zj,z_t] at he;simp only[he];rw[ho];refine jif (λh0=>?_) (λh0=>?_)
 ·refine Cz [] ?_;have:C5 t AT = none:=by
   unfold C5;rw[if_neg];intro hh;simp only[ZA,Z7,z_d,z_b] at h0 hh;rcases h0 with ((h | h) | h) | h
   ·rw[hh.1.1.1] at h;cases h
   ·omega
   ·omega
   ·omega
  rw[this];exact⟨rfl,rfl⟩
 simp only[Z1,ZJ,decide_eq_false_iff_not] at h0;obtain⟨⟨⟨hok,h2⟩,h3⟩,h4⟩:=h0;have n1:=(Bk.1 hok).n1;have eq:C5 t AT = (let i:=Bt (λx=>x.kind == 1) 1 t.tail;if i < 0 then none else some (AW t i ⟨2,AT,AM i,AM i,0⟩,i)):=by
  unfold C5;rw[if_pos (by simp[hok];omega)]
 refine AJ (λvs R' D'=>R' = R∧D' = D ++ F∧vs = []∧C5 t AT = none) (λK2 hK2=>?_) ?_;rotate_left
 ·rintro e _ _ ⟨rfl,rfl,-,hn⟩;exact Cz [] (by rw[hn];exact⟨rfl,rfl⟩)
 refine jlp (λn vs R' D'=>R' = R∧D' = D ++ F∧∃r:Nat,1≤r∧r≤t.length + 1∧vs = [S0 b t.length cap,I AT,I r]∧n = t.length + 1 - r∧Bt (λx=>x.kind == 1) 1 t.tail = Bt (λx=>x.kind == 1) r (t.drop r))
  (n:=t.length) ⟨rfl,rfl,1,by omega,by omega,rfl,by omega,by rw[List.drop_one]⟩ ?_
 rintro n e R' D' K ⟨rfl,rfl,r,r0,hr,he,hn,hown⟩ hK;simp only[List.map,zc,zl,zj,z_t] at he;simp only[he];refine jln (jlt (jif (λhc=>?_) (λhc=>?_)));rotate_left
 ·have hc:=z_g hc;refine hK2 _ _ _ ⟨rfl,rfl,rfl,?_⟩;rw[eq,hown,Z2 (by omega)];rfl
 have hc:r < t.length:=by have:=z_f hc;omega
 have hd:t.drop r = t[r] :: t.drop (r + 1):=Yu hc;rw[hd] at hown;simp only[Bt] at hown;refine jia (by omega) (by omega) ?_;refine jl (v:=I t[r].kind) (by rw[Z6];exact Bu (f:=0) hc rfl) ?_;refine jeq (jif (λh=>?_) (λh=>?_))
 ·rw[if_pos h] at hown;refine jmk (F3 hl) ?_;rintro _ _ ⟨b',c',sp',hc',rfl,rfl⟩;refine jp (BV r) (jp (BV r) ?_);refine jbd (cs:=eRg ⟨2,AT,AM r,AM r,0⟩) rfl rfl ?_;refine Cs hc ?_;refine Ha (x:=⟨2,AT,AM r,AM r,0⟩) hc ?_;refine Cz [(b',C AI (Ab eRg (t.set r ⟨2,AT,AM r,AM r,0⟩) ++ sp'))] ?_;rw[eq,hown];simp only;rw[if_neg (by omega)];refine⟨_,⟨b',c',sp',?_,rfl,?_⟩,?_⟩
  ·simpa [AW] using hc'
  ·simp[AW]
  ·simp
 ·rw[if_neg (by rw[h];decide)] at hown;refine jad ?_;exact hK (t.length + 1 - (r + 1)) _ _ _ (by omega) ⟨rfl,rfl,r + 1,by omega,by omega,rfl,rfl,hown⟩
end A0
section A0
variable {t:List Rg} {sp:List Value} {b cap:Nat} {R:RM} {D:Chs}
theorem No (r:Int) (hl:t.length < 1000000) [a:At D b (C AI (Ab eRg t ++ sp))]:Mk Fo [S0 b t.length cap,I r] R D (WP (CS t r)):=by
 refine Lm λF=>?_
 unfold Fw;refine jor [S0 b t.length cap,I r] (!BI t || decide (r < 1)) (λK' hK'=>?_) (λe c u ho he=>?_)
 ·refine jro (EG hl) (BM (λh1=>?_) (λh1=>?_))
  ·exact jlt (hK' _ _ _ (h1▸Aj) (by rw[h1,Yk]))
  ·exact hK' _ _ _ (h1▸Al) (by rw[h1,Ym])
 simp only[List.map,zc,zl,zj,z_t] at he;simp only[he];refine jor [S0 b t.length cap,I r] ((!BI t || decide (r < 1)) || decide (r≥t.length)) (λK' hK'=>?_) (λe c u ho he=>?_)
 ·rw[ho];refine BM (λh1=>?_) (λh1=>?_)
  ·exact jln (jge (hK' _ _ _ (h1▸Aj) (by rw[h1,Yk])))
  ·exact hK' _ _ _ (h1▸Al) (by rw[h1,Ym])
 simp only[List.map,zc,zl,zj,z_t] at he;simp only[he];refine jor [S0 b t.length cap,I r] (((!BI t || decide (r < 1)) || decide (r≥t.length)) || (rv t r).kind != 2) (λK' hK'=>?_) (λe c u ho he=>?_)
 ·rw[ho];refine BM (λh1=>?_) (λh1=>?_)
  ·have h1':=h1;simp only[Z1,decide_eq_false_iff_not] at h1';obtain⟨k,rfl⟩:∃k:Nat,r = k:=⟨r.toNat,by omega⟩;have hk:k < t.length:=by omega
   refine Cs hk ?_;refine jl (v:=I t[k].kind) (by rw[Z6];exact Bu (f:=0) hk rfl) ?_;exact jne (hK' _ _ _ (h1▸Aj) (by rw[h1,Yk,Do hk]))
  ·exact hK' _ _ _ (h1▸Al) (by rw[h1,Ym])
 simp only[List.map,zc,zl,zj,z_t] at he;simp only[he];rw[ho];refine jif (λh0=>?_) (λh0=>?_)
 ·refine Cz [] ?_;have:CS t r = none:=by
   unfold CS;split
   ·rename_i hh;simp only[ZA,Z7,z_d,z_b,bne_iff_ne,ne_eq] at h0 hh;by_cases c:r < t.length
    ·rw[Cj (by omega) c];simp only;rw[if_neg];intro h2;rcases h0 with ((h | h) | h) | h
     ·rw[hh.1] at h;cases h
     ·omega
     ·omega
     ·exact h (by simpa using h2)
    ·unfold idx;rw[if_pos (by omega),ZW (by omega)]
   ·rfl
  rw[this];exact⟨rfl,rfl⟩
 simp only[Z1,ZJ,decide_eq_false_iff_not,bne_eq_false_iff_eq] at h0;obtain⟨⟨⟨hok,h2⟩,h3⟩,h4⟩:=h0;obtain⟨k,rfl⟩:∃k:Nat,r = k:=⟨r.toNat,by omega⟩;have hk:k < t.length:=by omega
 refine jmk (F3 hl) ?_;rintro _ _ ⟨b',c',sp',hc',rfl,rfl⟩;refine Cs hk (N7 hk ?_);refine ja λb2=>?_
 refine js (cs':=eRg (t[k])) rfl rfl (by simp) rfl ?_;refine js (cs':=eRg { t[k] with kind:=3 }) rfl rfl (by simp) rfl ?_;refine js (cs':=eRg { t[k] with kind:=3,AT:=-1 }) rfl rfl (by simp) rfl ?_;refine jla (l:=eRg { t[k] with kind:=3,AT:=-1 }) (by simp) rfl ?_;refine Cs hk ?_;refine Ha (x:={ t[k] with kind:=3,AT:=-1 }) hk ?_;refine Cz [(b',C AI (Ab eRg (t.set k { t[k] with kind:=3,AT:=-1 }) ++ sp'))] ?_;have:CS t k = some (AW t k { t[k] with kind:=3,AT:=-1 }):=by
  unfold CS;rw[if_pos (by simp[hok];omega),Cj (by omega) (by omega),Do hk];simp only;rw[Do hk] at h4;rw[if_pos (by simpa using h4)]
 rw[this];exact⟨_,⟨b',c',sp',by simpa [AW] using hc',rfl,by simp[AW]⟩,by simp⟩
theorem JM (r:Int) (hl:t.length < 1000000) [a:At D b (C AI (Ab eRg t ++ sp))]:Mk Gg [S0 b t.length cap,I r] R D (WP (Bq t r)):=by
 refine Mf λF=>?_
 unfold H4;refine jor [S0 b t.length cap,I r] (!BI t || decide (r < 1)) (λK' hK'=>?_) (λe c u ho he=>?_)
 ·refine jro (EG hl) (BM (λh1=>?_) (λh1=>?_))
  ·exact jlt (hK' _ _ _ (h1▸Aj) (by rw[h1,Yk]))
  ·exact hK' _ _ _ (h1▸Al) (by rw[h1,Ym])
 simp only[List.map,zc,zl,zj,z_t] at he;simp only[he];refine jor [S0 b t.length cap,I r] ((!BI t || decide (r < 1)) || decide (r≥t.length)) (λK' hK'=>?_) (λe c u ho he=>?_)
 ·rw[ho];refine BM (λh1=>?_) (λh1=>?_)
  ·exact jln (jge (hK' _ _ _ (h1▸Aj) (by rw[h1,Yk])))
  ·exact hK' _ _ _ (h1▸Al) (by rw[h1,Ym])
 simp only[List.map,zc,zl,zj,z_t] at he;simp only[he];refine jor [S0 b t.length cap,I r] (((!BI t || decide (r < 1)) || decide (r≥t.length)) || (rv t r).kind == 1) (λK' hK'=>?_) (λe c u ho he=>?_)
 ·rw[ho];refine BM (λh1=>?_) (λh1=>?_)
  ·have h1':=h1;simp only[Z1,decide_eq_false_iff_not] at h1';obtain⟨k,rfl⟩:∃k:Nat,r = k:=⟨r.toNat,by omega⟩;have hk:k < t.length:=by omega
   refine Cs hk ?_;refine jl (v:=I t[k].kind) (by rw[Z6];exact Bu (f:=0) hk rfl) ?_;exact jeq (hK' _ _ _ (h1▸Aj) (by rw[h1,Yk,Do hk]))
  ·exact hK' _ _ _ (h1▸Al) (by rw[h1,Ym])
 simp only[List.map,zc,zl,zj,z_t] at he;simp only[he];rw[ho];refine jif (λh0=>?_) (λh0=>?_)
 ·refine Cz [] ?_;have:Bq t r = none:=by
   unfold Bq;split
   ·rename_i hh;simp only[ZA,Z7,z_d,z_b,beq_iff_eq] at h0 hh;by_cases c:r < t.length
    ·rw[Cj (by omega) c];simp only;rcases h0 with ((h | h) | h) | h
     ·rw[hh.1] at h;cases h
     ·omega
     ·omega
     ·rw[if_pos (by simpa using h)]
    ·unfold idx;rw[if_pos (by omega),ZW (by omega)]
   ·rfl
  rw[this];exact⟨rfl,rfl⟩
 simp only[Z1,ZJ,decide_eq_false_iff_not,beq_eq_false_iff_ne] at h0;obtain⟨⟨⟨hok,h2⟩,h3⟩,h4⟩:=h0;obtain⟨k,rfl⟩:∃k:Nat,r = k:=⟨r.toNat,by omega⟩;have hk:k < t.length:=by omega
 refine jmk (F3 hl) ?_;rintro _ _ ⟨b',c',sp',hc',rfl,rfl⟩;refine jp (BV k) (jp (BV k) ?_);refine jbd (cs:=eRg (DR k)) rfl rfl ?_;refine Cs hk ?_;refine Ha (x:=DR k) hk ?_;refine Cz [(b',C AI (Ab eRg (t.set k (DR k)) ++ sp'))] ?_;have:Bq t k = some (AW t k (DR k)):=by
  unfold Bq;rw[if_pos (by simp[hok];omega),Cj (by omega) (by omega)];simp only;rw[if_neg (by simpa using h4)]
 rw[this];exact⟨_,⟨b',c',sp',by simpa [AW] using hc',rfl,by simp[AW]⟩,by simp⟩
theorem Fr (AT size:Int) (hl:t.length < 1000000) [a:At D b (C AI (Ab eRg t ++ sp))]:Mk H9 [S0 b t.length cap,I AT,I size] R D (WT (BP t AT size)):=by
 refine Mc λF=>?_
 unfold Gj;refine jor [S0 b t.length cap,I AT,I size] (!BI t || decide (AT < 0)) (λK' hK'=>?_) (λe c u ho he=>?_)
 ·refine jro (EG hl) (BM (λh1=>?_) (λh1=>?_))
  ·exact jlt (hK' _ _ _ (h1▸Aj) (by rw[h1,Yk]))
  ·exact hK' _ _ _ (h1▸Al) (by rw[h1,Ym])
 simp only[List.map,zc,zl,zj,z_t] at he;simp only[he];refine jor [S0 b t.length cap,I AT,I size] ((!BI t || decide (AT < 0)) || decide (AT > 3)) (λK' hK'=>?_) (λe c u ho he=>?_)
 ·rw[ho];refine BM (λh1=>?_) (λh1=>?_)
  ·exact jgr (hK' _ _ _ (h1▸Aj) (by rw[h1,Yk]))
  ·exact hK' _ _ _ (h1▸Al) (by rw[h1,Ym])
 simp only[List.map,zc,zl,zj,z_t] at he;simp only[he];refine jor [S0 b t.length cap,I AT,I size] (((!BI t || decide (AT < 0)) || decide (AT > 3)) || decide (size < 1)) (λK' hK'=>?_) (λe c u ho he=>?_)
 ·rw[ho];refine BM (λh1=>?_) (λh1=>?_)
  ·exact jlt (hK' _ _ _ (h1▸Aj) (by rw[h1,Yk]))
  ·exact hK' _ _ _ (h1▸Al) (by rw[h1,Ym])
 simp only[List.map,zc,zl,zj,z_t] at he;simp only[he];refine jor [S0 b t.length cap,I AT,I size] ((((!BI t || decide (AT < 0)) || decide (AT > 3)) || decide (size < 1)) || decide (size > 16)) (λK' hK'=>?_) (λe c u ho he=>?_)
 ·rw[ho];refine BM (λh1=>?_) (λh1=>?_)
  ·exact jgr (hK' _ _ _ (h1▸Aj) (by rw[h1,Yk]))
  ·exact hK' _ _ _ (h1▸Al) (by rw[h1,Ym])
 simp only[List.map,zc,zl,zj,z_t] at he;simp only[he];rw[ho];refine jif (λh0=>?_) (λh0=>?_)
 ·refine Cz [] ?_;have:BP t AT size = none:=by
   unfold BP;rw[if_neg];intro hh;simp only[ZA,Z7,z_d,z_b] at h0 hh;rcases h0 with (((h | h) | h) | h) | h
   ·rw[hh.1.1.1.1] at h;cases h
   ·omega
   ·omega
   ·omega
   ·omega
  rw[this];exact⟨rfl,rfl⟩
 simp only[Z1,ZJ,decide_eq_false_iff_not] at h0;obtain⟨⟨⟨⟨hok,h2⟩,h3⟩,h4⟩,h5⟩:=h0;have T:=Bk.1 hok;have n1:=T.n1;have eq:BP t AT size = (match (if 0≤own t AT then idx t (own t AT) else none) with
  | some x=>if x.top + size≤AM (own t AT) + 16 then some (t,x.top) else
    (match C5 ((CS t (own t AT)).getD []) AT with | some (u,n)=>some (u,AM n) | none=>none)
  | none=>(match C5 t AT with | some (u,n)=>some (u,AM n) | none=>none)):=by
  unfold BP;rw[if_pos (by simp[hok];omega)];rfl
 refine jro (S7 AT hl) ?_;have hown:own t AT < 0∨(1≤own t AT∧own t AT < t.length∧(rv t (own t AT)).kind = 2):=by
  rcases Ez (λx=>x.kind == 2 && x.AT == AT) t with ⟨h,_⟩ | ⟨h,h',h''⟩
  ·left;unfold own;rw[h];decide
  ·right;simp only[z_b] at h'';exact⟨h,h',by have:=h''.1;exact eq_of_beq this⟩
 rcases hown with hneg | ⟨hp,hlt,hk2⟩
 ·have hb:decide (own t AT≥0) = false:=decide_eq_false (by omega);rw[if_neg (by omega)] at eq;refine Ct (Ct (jge ?_));rw[hb];refine jft (CH λe he=>?_);simp only[List.map,zc,zl,zj,z_t] at he;simp only[he];refine jft (EC (Ae jev (CH λe he=>?_)));simp only[List.map,zc,zl,zj,z_t] at he;simp only[he];refine Cn (jmk (F3 hl) ?_);rintro _ _ ⟨b',c',sp',hc',rfl,rfl⟩;refine Ct (jge ?_);rw[hb];refine Cn (CH λe he=>?_);simp only[List.map,zc,zl,zj,z_t] at he;simp only[he];refine jmk (J8 AT hl) ?_;intro v N hq;cases htk:C5 t AT with
  | none=>
   rw[htk] at hq eq;obtain⟨rfl,rfl⟩:=hq;refine jex rfl (jex rfl (jex rfl (DO ?_)));exact Cz [] (by rw[eq];exact⟨rfl,rfl⟩)
  | some un=>
   obtain⟨u,n⟩:=un;rw[htk] at hq eq;obtain⟨sv,⟨b2,c2,sp2,hc2,rfl,rfl⟩,rfl⟩:=hq;refine jex rfl (jex rfl (jex rfl (Cn (jp (BV n) ?_))));exact Cz [(b2,C AI (Ab eRg u ++ sp2))] (by rw[eq];exact⟨_,⟨b2,c2,sp2,hc2,rfl,rfl⟩,rfl⟩)
 ·have hb:decide (own t AT≥0) = true:=decide_eq_true (by omega);have RR:=T.row _ hp hlt;have t0:=RR.t0;have t1:=RR.t1;obtain⟨k,hkk⟩:∃k:Nat,own t AT = k:=⟨(own t AT).toNat,by omega⟩;rw[hkk] at eq hb t0 t1 hk2 ⊢;have hk:k < t.length:=by omega
  rw[Do hk] at t0 t1;have hbase:=Cx (r:=(k:Int)) (by omega) (by omega);rw[if_pos (by omega),Cj (by omega) (by omega),Do hk] at eq;simp only at eq;refine Ct (Ct (jge ?_));rw[hb];refine jtt (Cs hk (jl (v:=I t[k].top) (by rw[Z6];exact Bu (f:=2) hk rfl) (jad (CH λe he=>?_))));simp only[List.map,zc,zl,zj,z_t] at he;simp only[he];refine jtt (jp (BV k) (jad (jle (ED (Ae (jl (v:=I t[k].top) (by rw[Z6];exact Bu (f:=2) hk rfl) jev) (CH λe he=>?_))))));simp only[List.map,zc,zl,zj,z_t] at he;simp only[he];refine jif (λhfit=>?_) (λhfit=>?_)
  ·rw[if_pos (z_f hfit)] at eq;refine Cs hk (jl (v:=I t[k].top) (by rw[Z6];exact Bu (f:=2) hk rfl) (jmk (F3 hl) ?_));rintro _ _ ⟨b',c',sp',hc',rfl,rfl⟩;refine Ae (jl (v:=I t[k].top) (by rw[Z6];exact Bu (f:=2) hk rfl) jev) (Ae (jl (v:=I t[k].top) (by rw[Z6];exact Bu (f:=2) hk rfl) jev) ?_);exact Cz [(b',C AI (Ab eRg t ++ sp'))] (by rw[eq];exact⟨_,⟨b',c',sp',hc',rfl,rfl⟩,rfl⟩)
  ·rw[if_neg (z_g hfit)] at eq;refine jmk (F3 hl) ?_;rintro _ _ ⟨b',c',sp',hc',rfl,rfl⟩;refine Ct (jge ?_);rw[hb];refine DO (jmk (No k hl) ?_);intro v N hq;have hcl:CS t k = some (AW t k { rv t k with kind:=3,AT:=-1 }):=by
    unfold CS;rw[if_pos (by simp[hok];omega),Cj (by omega) (by omega)];simp only;rw[if_pos (by simpa using hk2)]
   rw[hcl] at hq eq;simp only[Zx] at eq;obtain⟨sv,⟨b3,c3,sp3,hc3,rfl,rfl⟩,rfl⟩:=hq;refine jex rfl (jex rfl (CH λe he=>?_));simp only[List.map,zc,zl,zj,z_t] at he;simp only[he];refine jmk (J8 AT (by simpa using hl)) ?_;intro v N hq;cases htk:C5 (AW t k { rv t k with kind:=3,AT:=-1 }) AT with
   | none=>
    rw[htk] at hq eq;obtain⟨rfl,rfl⟩:=hq;refine jex rfl (jex rfl (jex rfl (DO ?_)));exact Cz [] (by rw[eq];exact⟨rfl,rfl⟩)
   | some un=>
    obtain⟨u,n⟩:=un;rw[htk] at hq eq;obtain⟨sv,⟨b2,c2,sp2,hc2,rfl,rfl⟩,rfl⟩:=hq;refine jex rfl (jex rfl (jex rfl (Cn (jp (BV n) ?_))));exact Cz [(b2,C AI (Ab eRg u ++ sp2))] (by rw[eq];exact⟨_,⟨b2,c2,sp2,hc2,rfl,rfl⟩,rfl⟩)
end A0
theorem jrp {f:Nat} {args:List Value} {v:Value} {R:RM} {D:Chs} {k:Value→M} (hF:Ro f args v R []) (H:J R D (k v)):J R D (CA P f args k):=by
 intro h hs;refine EW ?_ (hF D h hs);rintro v' h' ⟨R',A',h1,h2,rfl,rfl⟩;exact H h' (h2.le h1)
theorem jfo {R:RM} {D:Chs} {o b off:Nat} {k:Value→M} (H:J R D (k (.pointer (some ⟨b,off + o,none⟩)))):J R D (FO o (.pointer (some ⟨b,off,none⟩)) k):=H
theorem XM (o:Sm.Op):Pu Om [.agg (eOp o).toArray] (.bool (RI o)):=by
 intro R;refine V9 λF=>?_
 unfold Pa;refine ja λb=>?_
 have e0:cl (.agg (eOp o).toArray) = eOp o:=rfl;rw[e0];refine jan [Pt b] ((decide (o.kind≥1)) && (decide (o.kind≤11))) (λK' hK'=>?_) (λe c u ho he=>?_)
 ·refine jl rfl (jge (Bm (λh1=>?_) (λh1=>?_)))
  ·refine jl rfl (jle (hK' _ _ _ (h1▸Aq) (by rw[h1,Yx])))
  ·exact hK' _ _ _ (h1▸Av) (by rw[h1,Yy])
 simp only[List.map,zc,zl,zj,z_t] at he;simp only[he];refine jan [] ((decide (o.kind≥1) && decide (o.kind≤11)) && (o.kind != 1 || BG o.sh)) (λK' hK'=>?_) (λe c u ho he=>?_)
 ·rw[ho];refine Bm (λh1=>?_) (λh1=>?_)
  ·refine jl rfl (jne (BM (λh2=>?_) (λh2=>?_)))
   ·refine jfo (jla (l:=[I o.sh.refs,I o.sh.nums]) (by exact z_n 8) (by rfl) ?_);refine jp (Ii o.sh) ?_;rw[h2];exact EC (hK' _ _ _ (h1▸Aq) (by rw[h1,h2,Yx,Yk]))
   ·rw[h2];exact ED (hK' _ _ _ (h1▸Aq) (by rw[h1,h2,Yx,Ym]))
  ·exact hK' _ _ _ (h1▸Av) (by rw[h1,Yy])
 simp only[List.map,zc,zl,zj,z_t] at he;simp only[he];rw[ho];refine BA (A:=[]) (RM.le.refl _) ?_;congr 1
theorem QF (k:Int):Pu IT [I k] (.bool (Dn k)):=by
 intro R;refine Nj λF=>?_
 unfold Hg;refine jor [I k] ((k == 2) || (k == 3)) (λK' hK'=>?_) (λe c u ho he=>?_)
 ·refine jeq (BM (λh1=>?_) (λh1=>?_))
  ·refine jeq (hK' _ _ _ (h1▸Aj) (by rw[h1,Yk]))
  ·exact hK' _ _ _ (h1▸Al) (by rw[h1,Ym])
 simp only[List.map,zc,zl,zj,z_t] at he;simp only[he];refine jor [I k] (((k == 2) || (k == 3)) || (k == 4)) (λK' hK'=>?_) (λe c u ho he=>?_)
 ·rw[ho];refine BM (λh1=>?_) (λh1=>?_)
  ·refine jeq (hK' _ _ _ (h1▸Aj) (by rw[h1,Yk]))
  ·exact hK' _ _ _ (h1▸Al) (by rw[h1,Ym])
 simp only[List.map,zc,zl,zj,z_t] at he;simp only[he];refine jor [I k] ((((k == 2) || (k == 3)) || (k == 4)) || (k == 5)) (λK' hK'=>?_) (λe c u ho he=>?_)
 ·rw[ho];refine BM (λh1=>?_) (λh1=>?_)
  ·refine jeq (hK' _ _ _ (h1▸Aj) (by rw[h1,Yk]))
  ·exact hK' _ _ _ (h1▸Al) (by rw[h1,Ym])
 simp only[List.map,zc,zl,zj,z_t] at he;simp only[he];refine jor [] (((((k == 2) || (k == 3)) || (k == 4)) || (k == 5)) || (k == 7)) (λK' hK'=>?_) (λe c u ho he=>?_)
 ·rw[ho];refine BM (λh1=>?_) (λh1=>?_)
  ·refine jeq (hK' _ _ _ (h1▸Aj) (by rw[h1,Yk]))
  ·exact hK' _ _ _ (h1▸Al) (by rw[h1,Ym])
 simp only[List.map,zc,zl,zj,z_t] at he;simp only[he];rw[ho];exact BA (A:=[]) (RM.le.refl _) rfl
theorem Vv (b:Bool):Pu ND [.bool b] (I (Sm.one b)):=by
 intro R;refine TC λF=>?_
 unfold N6;cases b
 ·exact Cn (BA (A:=[]) (RM.le.refl _) rfl)
 ·exact DO (BA (A:=[]) (RM.le.refl _) rfl)
theorem TY (o:Sm.Op) (refs nums:Int):Pu JW [.agg (eOp o).toArray,I refs,I nums] (.bool (GQ o refs nums)):=by
 intro R;refine Ox λF=>?_
 unfold Jk;refine ja λb=>?_
 have e0:cl (.agg (eOp o).toArray) = eOp o:=rfl;rw[e0];refine jor [I refs,I nums,Pt b] ((o.kind == 4) || (o.kind == 5)) (λK' hK'=>?_) (λe c u ho he=>?_)
 ·refine jl rfl (jeq (BM (λh1=>?_) (λh1=>?_)))
  ·refine jl rfl (jeq (hK' _ _ _ (h1▸Aj) (by rw[h1,Yk])))
  ·exact hK' _ _ _ (h1▸Al) (by rw[h1,Ym])
 simp only[List.map,zc,zl,zj,z_t] at he;simp only[he];rw[ho];refine jif (λh0=>?_) (λh0=>?_)
 ·refine jan [] ((decide (o.f≥0)) && (decide (o.f < nums))) (λK' hK'=>?_) (λe c u ho he=>?_)
  ·refine jl rfl (jge (Bm (λh1=>?_) (λh1=>?_)))
   ·refine jl rfl (jlt (hK' _ _ _ (h1▸Aq) (by rw[h1,Yx])))
   ·exact hK' _ _ _ (h1▸Av) (by rw[h1,Yy])
  simp only[List.map,zc,zl,zj,z_t] at he;simp only[he];rw[ho];refine BA (A:=[]) (RM.le.refl _) ?_;unfold GQ;rw[if_pos h0]
 ·refine jan [] ((decide (o.f≥0)) && (decide (o.f < refs))) (λK' hK'=>?_) (λe c u ho he=>?_)
  ·refine jl rfl (jge (Bm (λh1=>?_) (λh1=>?_)))
   ·refine jl rfl (jlt (hK' _ _ _ (h1▸Aq) (by rw[h1,Yx])))
   ·exact hK' _ _ _ (h1▸Av) (by rw[h1,Yy])
  simp only[List.map,zc,zl,zj,z_t] at he;simp only[he];rw[ho];refine BA (A:=[]) (RM.le.refl _) ?_;unfold GQ;rw[if_neg (by rw[h0];decide)]
end Go.Lf
end
section
namespace Go.Lf
open Go Sm
theorem Bv {R:RM} {D:Chs} {v:Value} {l:List Int} {i:Int} {k:Value→M} (h:BC R v l) (h0:0≤i) (h1:i < l.length) (H:J R D (k (I (l[i.toNat]'(by omega))))):J R D (IA 1 v (I i) λx=>L1 x k):=by
 rcases h with ⟨_,h2,_⟩ | ⟨b,o,cap,t,cs,rfl,h2,h3,h4,h5⟩
 ·omega
 ·refine jia h0 h1 (jlr h2 ?_ H);have:=congrArg (λl=>l[i.toNat]?) h4;simp only[Zr,Zl,ZQ] at this;rw[if_pos (by omega),Yl (by omega:i.toNat < l.length)] at this;rw[Zt,this];rfl
theorem J2 {R:RM} {D:Chs} {v:Value} {w n:Nat} {cells:List Value} {k:Value→M} (h:Fz R v w n cells) (H:J R D (k (I n))):J R D (LN v k):=by
 rcases h with ⟨rfl,rfl,_⟩ | ⟨b,o,cap,t,cs,rfl,_⟩<;>exact H
theorem Tc {R:RM} {rv:Value} {AD:List Int} (o:Sm.Op) (nn:Int) (h:BC R rv AD):Ro JZ [.agg (eOp o).toArray,rv,I nn] (I (DF o AD nn)) R []:=by
 refine OS λF=>?_
 unfold Jy;refine ja λb=>?_
 have e0:cl (.agg (eOp o).toArray) = eOp o:=rfl;rw[e0];refine J2 h ?_;refine jan [rv,I nn,Pt b,I AD.length] ((decide (o.a≥0)) && (decide (o.a < AD.length))) (λK' hK'=>?_) (λe c u ho he=>?_)
 ·refine jl rfl (jge (Bm (λh1=>?_) (λh1=>?_)))
  ·refine jl rfl (jlt (hK' _ _ _ (h1▸Aq) (by rw[h1,Yx])))
  ·exact hK' _ _ _ (h1▸Av) (by rw[h1,Yy])
 simp only[List.map,zc,zl,zj,z_t] at he;simp only[he];rw[ho];refine jan [rv,I nn,Pt b,I AD.length,.bool (hnd AD.length o.a)] ((decide (o.b≥0)) && (decide (o.b < AD.length))) (λK' hK'=>?_) (λe c u ho he=>?_)
 ·refine jl rfl (jge (Bm (λh1=>?_) (λh1=>?_)))
  ·refine jl rfl (jlt (hK' _ _ _ (h1▸Aq) (by rw[h1,Yx])))
  ·exact hK' _ _ _ (h1▸Av) (by rw[h1,Yy])
 simp only[List.map,zc,zl,zj,z_t] at he;simp only[he];rw[ho];refine jan [rv,I nn,Pt b,I AD.length,.bool (hnd AD.length o.a),.bool (hnd AD.length o.b)] ((decide (o.c≥0)) && (decide (o.c < AD.length))) (λK' hK'=>?_) (λe c u ho he=>?_)
 ·refine jl rfl (jge (Bm (λh1=>?_) (λh1=>?_)))
  ·refine jl rfl (jlt (hK' _ _ _ (h1▸Aq) (by rw[h1,Yx])))
  ·exact hK' _ _ _ (h1▸Av) (by rw[h1,Yy])
 simp only[List.map,zc,zl,zj,z_t] at he;simp only[he];rw[ho];have fin:∀v,v = DF o AD nn→J R ((b,C 183 (eOp o)) :: ([] ++ F)) (Er R F (λv' x A=>v' = I (DF o AD nn)∧A = []) (I v)):=λv hv=>Bc (by rw[hv])
 have hA:∃A B Cc:Bool,A = (o.kind == 1 || (if o.kind == 8 then decide (0 < AD.length) else hnd AD.length o.a))∧B = (o.kind == 1 || o.kind == 8 || o.kind == 2 || o.kind == 4 || o.kind == 5 || o.kind == 9 || o.kind == 10 || o.kind == 11 || hnd AD.length o.b)∧Cc = (!(o.kind == 7) && (decide (1≤o.kind) && decide (o.kind≤11)) || hnd AD.length o.c):=⟨_,_,_,rfl,rfl,rfl⟩;obtain⟨A,B,Cc,eA,eB,eC⟩:=hA;refine Bz [rv,I nn,Pt b,I AD.length,.bool A,.bool B,.bool Cc] (λK1 hK1=>?_) (λe he=>?_)
 ·refine jl rfl ?_;refine Bz [rv,I nn,Pt b,I AD.length,.bool A,.bool B,.bool Cc] (λK2 hK2=>?_) (λe he=>?_);rotate_left
  ·simp only[List.map,zc,zl,zj,z_t] at he;simp only[he];exact hK1
  have leaf:∀x y z:Bool,x = A→y = B→z = Cc→J R ((b,C 183 (eOp o)) :: ([] ++ F)) (K2 [rv,I nn,Pt b,I AD.length,.bool x,.bool y,.bool z]):=by
   rintro x y z rfl rfl rfl;exact hK2
  refine jeq (jif (λk1=>?_) (λk1=>?_))
  ·have k1:=eq_of_beq k1;refine leaf _ _ _ ?_ ?_ ?_<;>simp[eA,eB,eC,k1]
  have k1:o.kind≠1:=by simpa using k1
  refine jeq (jif (λk8=>?_) (λk8=>?_))
  ·have k8:=eq_of_beq k8;refine jgr (leaf _ _ _ ?_ ?_ ?_)<;>simp[eA,eB,eC,k8]
  have k8:o.kind≠8:=by simpa using k8
  refine AJ (λvs R' D'=>R' = R∧D' = (b,C 183 (eOp o)) :: ([] ++ F)∧∃v:Bool,vs = [rv,I nn,Pt b,I AD.length,.bool (hnd AD.length o.a),.bool (hnd AD.length o.b),.bool (hnd AD.length o.c),I o.kind,.bool v]∧(v = true↔o.kind = 2∨o.kind = 4∨o.kind = 5∨o.kind = 9∨o.kind = 10∨o.kind = 11)) (λK3 hK3=>?_) ?_
  ·refine jeq (jif (λh=>hK3 _ _ _ ⟨rfl,rfl,_,rfl,?_⟩) (λn2=>?_))
   ·rw[h];simp[eq_of_beq h]
   refine jeq (jif (λh=>hK3 _ _ _ ⟨rfl,rfl,_,rfl,?_⟩) (λn4=>?_))
   ·rw[h];simp[eq_of_beq h]
   refine jeq (jif (λh=>hK3 _ _ _ ⟨rfl,rfl,_,rfl,?_⟩) (λn5=>?_))
   ·rw[h];simp[eq_of_beq h]
   refine jeq (jif (λh=>hK3 _ _ _ ⟨rfl,rfl,_,rfl,?_⟩) (λn9=>?_))
   ·rw[h];simp[eq_of_beq h]
   refine jeq (jif (λh=>hK3 _ _ _ ⟨rfl,rfl,_,rfl,?_⟩) (λn10=>?_))
   ·rw[h];simp[eq_of_beq h]
   refine jeq (hK3 _ _ _ ⟨rfl,rfl,_,rfl,?_⟩);simp only[beq_eq_false_iff_ne,ne_eq] at n2 n4 n5 n9 n10;simp[n2,n4,n5,n9,n10]
  ·rintro e R3 _ ⟨rfl,rfl,v,he,hv⟩;simp only[List.map,zc,zl,zj,z_t] at he;simp only[he];refine jif (λhvt=>?_) (λhvf=>?_)
   ·have hk:=hv.1 hvt;refine leaf _ _ _ ?_ ?_ ?_
    ·simp[eA,k1,k8]
    ·rw[eB];rcases hk with h | h | h | h | h | h<;>simp[h]
    ·rw[eC];rcases hk with h | h | h | h | h | h<;>simp[h]
   ·have hk:¬ (o.kind = 2∨o.kind = 4∨o.kind = 5∨o.kind = 9∨o.kind = 10∨o.kind = 11):=λh=>by rw[hv.2 h] at hvf;cases hvf
    simp only[not_or] at hk;obtain⟨q2,q4,q5,q9,q10,q11⟩:=hk;refine AJ (λvs R2 D2=>R2 = R3∧D2 = (b,C 183 (eOp o)) :: ([] ++ F)∧∃v:Bool,vs = [rv,I nn,Pt b,I AD.length,.bool (hnd AD.length o.a),.bool (hnd AD.length o.b),.bool (hnd AD.length o.c),.bool v]∧(v = true↔o.kind = 3∨o.kind = 6)) (λK3 hK3=>?_) ?_
    ·refine jeq (jif (λh=>hK3 _ _ _ ⟨rfl,rfl,_,rfl,?_⟩) (λn3=>?_))
     ·rw[h];simp[eq_of_beq h]
     refine jeq (hK3 _ _ _ ⟨rfl,rfl,_,rfl,?_⟩);simp only[beq_eq_false_iff_ne,ne_eq] at n3;simp[n3]
    ·rintro e _ _ ⟨rfl,rfl,v,he,hv⟩;simp only[List.map,zc,zl,zj,z_t] at he;simp only[he];refine jif (λhvt=>?_) (λhvf=>?_)
     ·refine leaf _ _ _ ?_ ?_ ?_
      ·simp[eA,k1,k8]
      ·rw[eB];rcases hv.1 hvt with h | h<;>simp[h]
      ·rw[eC];rcases hv.1 hvt with h | h<;>simp[h]
     ·have hk:¬ (o.kind = 3∨o.kind = 6):=λh=>by rw[hv.2 h] at hvf;cases hvf
      rw[not_or] at hk;refine leaf _ _ _ ?_ ?_ ?_
      ·simp[eA,k1,k8]
      ·simp[eB,k1,k8,q2,q4,q5,q9,q10,q11]
      ·rw[eC];by_cases q7:o.kind = 7
       ·simp[q7]
       ·have:(decide (1≤o.kind) && decide (o.kind≤11)) = false:=by
         rw[aM,decide_eq_false_iff_not,decide_eq_false_iff_not];omega
        simp[this]
 simp only[List.map,zc,zl,zj,z_t] at he;simp only[he];refine jor [rv,I nn,Pt b,I AD.length,.bool Cc] ((!A) || (!B)) (λK' hK'=>?_) (λe c u ho he=>?_)
 ·refine id (BM (λh1=>?_) (λh1=>?_))
  ·refine id (hK' _ _ _ (h1▸Aj) (by rw[h1,Yk]))
  ·exact hK' _ _ _ (h1▸Al) (by rw[h1,Ym])
 simp only[List.map,zc,zl,zj,z_t] at he;simp only[he];refine jor [rv,I nn,Pt b,I AD.length] ((!A || !B) || (!Cc)) (λK' hK'=>?_) (λe c u ho he=>?_)
 ·rw[ho];refine BM (λh1=>?_) (λh1=>?_)
  ·refine id (hK' _ _ _ (h1▸Aj) (by rw[h1,Yk]))
  ·exact hK' _ _ _ (h1▸Al) (by rw[h1,Ym])
 simp only[List.map,zc,zl,zj,z_t] at he;simp only[he];rw[ho];have fa:¬ ((!A || !B) || !Cc) = true→o.kind≠1→o.kind≠8→0≤o.a∧o.a < AD.length:=λhh k1 k8=>by
  have:A = true:=by
   cases A
   ·simp at hh
   ·rfl
  rw[this] at eA;simp[k1,k8,hnd] at eA;exact eA
 have base:DF o AD nn = if (!A || !B || !Cc) = true then 2 else if ((Dn o.kind || o.kind == 10 || o.kind == 11) && (idx AD o.a).getD 0 == nn) = true then 3 else if ((o.kind == 1 || o.kind == 2 || o.kind == 9) && AD.length == 8) = true then 5 else 0:=by
  unfold DF;rw[eA,eB,eC]
 refine jif (λh0=>fin _ (by rw[base,if_pos h0])) (λh0=>?_);have h0' : ¬ ((!A || !B) || !Cc) = true:=by rw[h0];decide
 rw[if_neg h0'] at base;have k18:∀x:Bool,x = (Dn o.kind || o.kind == 10 || o.kind == 11)→x = true→o.kind≠1∧o.kind≠8:=λx hx hx2=>by
  rw[hx2] at hx;constructor<;>intro hk<;>rw[hk] at hx<;>simp[Dn] at hx
 refine jor [rv,I nn,Pt b,I AD.length] (Dn o.kind || o.kind == 10) (λK' hK'=>?_) (λe c u ho he=>?_)
 ·refine jl rfl (jp (QF o.kind) (BM (λh1=>?_) (λh1=>?_)))
  ·exact jl rfl (jeq (hK' _ _ _ (h1▸Aj) (by rw[h1,Yk])))
  ·exact hK' _ _ _ (h1▸Al) (by rw[h1,Ym])
 simp only[List.map,zc,zl,zj,z_t] at he;simp only[he];refine jor [rv,I nn,Pt b,I AD.length] ((Dn o.kind || o.kind == 10) || (o.kind == 11)) (λK' hK'=>?_) (λe c u ho he=>?_)
 ·rw[ho];refine BM (λh1=>?_) (λh1=>?_)
  ·refine jl rfl (jeq (hK' _ _ _ (h1▸Aj) (by rw[h1,Yk])))
  ·exact hK' _ _ _ (h1▸Al) (by rw[h1,Ym])
 simp only[List.map,zc,zl,zj,z_t] at he;simp only[he];refine jan [Pt b,I AD.length] ((Dn o.kind || o.kind == 10 || o.kind == 11) && (idx AD o.a).getD 0 == nn) (λK' hK'=>?_) (λe c u ho he=>?_)
 ·rw[ho];refine Bm (λh1=>?_) (λh1=>?_)
  ·obtain⟨n1,n8⟩:=k18 _ rfl h1;obtain⟨a0,a1⟩:=fa h0' n1 n8;refine jl rfl (Bv h a0 a1 (jeq (hK' _ _ _ (h1▸Aq) ?_)));rw[h1,Yx];have:idx AD o.a = some (AD[o.a.toNat]'(by omega)):=by unfold idx;rw[if_pos a0,Yl]
   rw[this];rfl
  ·exact hK' _ _ _ (h1▸Av) (by rw[h1,Yy])
 simp only[List.map,zc,zl,zj,z_t] at he;simp only[he];rw[ho];refine jif (λh3=>fin _ (by rw[base,if_pos h3])) (λh3=>?_);rw[if_neg (by rw[h3];decide)] at base;refine jor [Pt b,I AD.length] ((o.kind == 1) || (o.kind == 2)) (λK' hK'=>?_) (λe c u ho he=>?_)
 ·refine jl rfl (jeq (BM (λh1=>?_) (λh1=>?_)))
  ·refine jl rfl (jeq (hK' _ _ _ (h1▸Aj) (by rw[h1,Yk])))
  ·exact hK' _ _ _ (h1▸Al) (by rw[h1,Ym])
 simp only[List.map,zc,zl,zj,z_t] at he;simp only[he];refine jor [I AD.length] ((o.kind == 1 || o.kind == 2) || (o.kind == 9)) (λK' hK'=>?_) (λe c u ho he=>?_)
 ·rw[ho];refine BM (λh1=>?_) (λh1=>?_)
  ·refine jl rfl (jeq (hK' _ _ _ (h1▸Aj) (by rw[h1,Yk])))
  ·exact hK' _ _ _ (h1▸Al) (by rw[h1,Ym])
 simp only[List.map,zc,zl,zj,z_t] at he;simp only[he];refine jan [] (((o.kind == 1 || o.kind == 2) || o.kind == 9) && (AD.length:Int) == 8) (λK' hK'=>?_) (λe c u ho he=>?_)
 ·rw[ho];refine Bm (λh1=>?_) (λh1=>?_)
  ·exact jeq (hK' _ _ _ (h1▸Aq) (by rw[h1,Yx]))
  ·exact hK' _ _ _ (h1▸Av) (by rw[h1,Yy])
 simp only[List.map,zc,zl,zj,z_t] at he;simp only[he];rw[ho];have e8:((AD.length:Int) == 8) = (AD.length == 8):=by rw[ZT];simp;omega
 rw[e8];refine jif (λh5=>fin _ (by rw[base,if_pos h5])) (λh5=>fin _ (by rw[base,if_neg (by rw[h5];decide)]))
theorem Tn {R:RM} {D:Chs} {v:Value} {l:List Int} {u:Int} {k:Value→M} (h:BC R v l) (h0:0≤u) (h1:u≤l.length) (H:∀v',BC R v' (l.take u.toNat)→J R D (k v')):J R D (SL 1 v none (some (I u)) k):=by
 rcases h with ⟨rfl,h2,_⟩ | ⟨b,o,cap,t,cs,rfl,h2,h3,h4,h5⟩
 ·intro h' hs;refine⟨⟨h0,by omega⟩,H _ ?_ h' hs⟩;have:l = []:=ZK.1 h2;subst this;have:u = 0:=by simp at h1;omega
  subst this;exact .inl ⟨rfl,by simp,by simp⟩
 ·intro h' hs;refine⟨⟨h0,by omega⟩,H _ ?_ h' hs⟩;refine .inr ⟨b,o,cap,t,cs,?_,h2,?_,?_,?_⟩
  ·simp only[Z0];congr 1;omega
  ·simp only[Z0];omega
  ·simp only[Z0];rw[List.map_take,← h4,aV];congr 1;omega
  ·simp only[Z0];omega
theorem Xw {R:RM} {D:Chs} {v:Value} {l:List Int} {u:Int} {k:Value→M} (h:BC R v l) (h0:0≤u) (h1:u≤l.length) (H:∀v',BC R v' (l.drop u.toNat)→J R D (k v')):J R D (SL 1 v (some (I u)) none k):=by
 rcases h with ⟨rfl,h2,_⟩ | ⟨b,o,cap,t,cs,rfl,h2,h3,h4,h5⟩
 ·intro h' hs;refine⟨⟨h0,by omega,by omega⟩,H _ ?_ h' hs⟩;have:l = []:=ZK.1 h2;subst this;have:u = 0:=by simp at h1;omega
  subst this;exact .inl ⟨rfl,by simp,by simp⟩
 ·intro h' hs;refine⟨⟨h0,h1,by omega⟩,H _ ?_ h' hs⟩;by_cases c:cap = u.toNat
  ·have hl:l.length = u.toNat:=by omega
   refine .inr ⟨b,o,cap - u.toNat,t,cs,?_,h2,?_,?_,?_⟩
   ·rw[if_pos c];simp
   ·simp[hl];omega
   ·simp[hl]
   ·simp[hl]
  ·refine .inr ⟨b,o + u.toNat * 1,cap - u.toNat,t,cs,?_,h2,?_,?_,?_⟩
   ·rw[if_neg c];simp
   ·simp only[ZO];omega
   ·simp only[ZO];rw[List.map_drop,← h4,aO,ad];congr 1
    ·omega
    ·congr 1;omega
   ·simp only[ZO];omega
theorem YW {R:RM} {D E:Chs} {l l2:List Int} {b c cx m:Nat} {sp:List Value} {xa:Option Addr} {k:Value→M} [tk:Tk D b (C Ac (l.map I ++ sp)) E] (hm:m = l2.length) (hc:l.length≤c) (hsp:sp.length = c - l.length) (hl:l.length + l2.length < 2000000) (hx:BQ R D xa (m * 1) (l2.map I))
  (H:∀b' c' sp',(l ++ l2).length≤c'→sp'.length = c' - (l ++ l2).length→J R ((b',C Ac ((l ++ l2).map I ++ sp')) :: E) (k (.slice (some ⟨b',0,none⟩) (l ++ l2).length c'))) :
  J R D (AP Ac 1 8 [I 0] (S0 b l.length c) (.slice xa m cx) k):=by
 subst hm;have hfl:CG (l2.map I) = true:=by
  unfold CG;rw[ZE];intro x hx;obtain⟨y,_,rfl⟩:=ZU.1 hx;rfl
 refine Uo (tk:=tk) hx (by simp;omega) hc (by simp) hfl (by decide) (by omega) (λh=>?_) (λb' c' h=>?_)
 ·have el:lay (l.map I ++ sp) (l.length * 1) (l2.map I) = (l ++ l2).map I ++ sp.drop l2.length:=by
   rw[GP (by simp)];simp[lay]
  rw[el];have:=H b c (sp.drop l2.length) (by simpa using h) (by simp;omega);simpa using this
 ·refine BH (tk.p.cons _) (BH (aC _ _ _) (C4 ?_));have:=H b' c' (List.replicate (c' - (l.length + l2.length)) [I 0]).flatten (by simpa using h) (by rw[CE (w:=1) (by intro x hx;rw[(Za.1 hx).2];rfl)];simp);rw[Zd (by simp),Yz (by simp)];simpa using this
theorem BC.reads {R:RM} {D:Chs} {v:Value} {l:List Int} (h:BC R v l):∃a cap,v = .slice a l.length cap∧BQ R D a (l.length * 1) (l.map I):=Fz.reads h
def Xa (r:Option (List Int)) (v:Value) (A:Chs):Prop:=match r with
 | none=>v = .tuple #[.slice none 0 0,.bool false]∧A = []
 | some l=>∃sv,Um l sv A∧v = .tuple #[sv,.bool true]
theorem Nh {l:List Int} {a:Int}:∀{n k:Nat},DW l a n = some k→l[k]? = some a∧k < n∧∀j,k < j→j < n→l[j]?≠some a:=by
 intro n;induction n with
 | zero=>intro k h;cases h
 | succ n ih=>
  intro k h;simp only[DW] at h;split at h
  ·cases h;exact⟨by assumption,by omega,λj h1 h2=>by omega⟩
  ·rename_i hn;obtain⟨h1,h2,h3⟩:=ih h;refine⟨h1,by omega,λj h4 h5=>?_⟩;by_cases c:j = n
   ·subst c;exact hn
   ·exact h3 j h4 (by omega)
theorem Tg {R:RM} {v:Value} {AO:List Int} (kind a:Int) (h:BC R v AO) (hl:AO.length < 1000000):Fn P MU [v,I kind,I a] R [] (λv' _ A=>Xa (FF AO kind a) v' A):=by
 refine Qg λF=>?_
 unfold Kl;refine jeq (jif (λhk=>?_) (λhk=>?_))
 ·refine J2 h (jeq (jif (λh8=>?_) (λh8=>?_)))
  ·refine BA (A:=[]) (RM.le.refl _) ?_;have h8:AO.length = 8:=by have:=eq_of_beq h8;omega
   unfold FF;rw[if_pos hk,if_pos h8];exact⟨rfl,rfl⟩
  ·have h8:AO.length≠8:=by have:=ne_of_beq_false h8;omega
   refine jc (A:=[]) (C9 h (by omega)) ?_;rintro _ R' _ hR ⟨b,c,sp,hc,hsp,rfl,rfl⟩;refine jbs (cs:=[I a]) rfl rfl λb1=>?_
   refine VR (v:=a) hc hsp (by omega) (BQ.held (t:=Ac) (cs:=[I a]) (o:=0) (n:=1 * 1) (z_n 1)) λb' c' sp' hc' hsp'=>?_
   refine BA (A:=[(b',C Ac ((AO ++ [a]).map I ++ sp'))]) hR ?_;unfold FF;rw[if_pos hk,if_neg h8];exact⟨.slice (some ⟨b',0,none⟩) (AO.length + 1) c',⟨b',c',sp',by simpa using hc',by simpa using hsp',by simp,rfl⟩,rfl⟩
 ·refine AJ (λvs R' D'=>R' = R∧D' = [] ++ F∧vs = [v,I (match DW AO a AO.length with | some i=>(i:Int) | none=>-1)]) (λK' hK'=>?_) ?_
  ·refine AJ (λvs R' D'=>R' = R∧D' = [] ++ F∧vs = [v,I (match DW AO a AO.length with | some i=>(i:Int) | none=>-1)]) (λK2 hK2=>?_) ?_
   ·refine jlp (λn vs R' D'=>R' = R∧D' = [] ++ F∧∃i:Nat,i≤AO.length∧vs = [v,I a,I (match DW AO a i with | some i=>(i:Int) | none=>-1),I i]∧n = AO.length - i)
     (n:=AO.length) ⟨rfl,rfl,0,by omega,rfl,by omega⟩ ?_
    rintro n e R3 D3 K ⟨rfl,hD,i,hi,he,hn⟩ hK;rw[hD];clear hD;simp only[List.map,zc,zl,zj,z_t] at he;simp only[he];refine J2 h (jlt (jif (λhc=>?_) (λhc=>?_)))
    ·have hc:=z_f hc;have hil:i < AO.length:=by omega
     refine AJ (λvs R' D'=>R' = R3∧D' = [] ++ F∧vs = [v,I a,I (match DW AO a (i + 1) with | some i=>(i:Int) | none=>-1),I i]) (λK4 hK4=>?_) ?_;rotate_left
     ·rintro e R4 D4 ⟨rfl,hD,he⟩;rw[hD];clear hD;simp only[List.map,zc,zl,zj,z_t] at he;simp only[he];refine jad ?_;exact hK (AO.length - (i + 1)) _ _ _ (by omega) ⟨rfl,rfl,i + 1,by omega,rfl,rfl⟩
     refine AJ (λvs R' D'=>R' = R3∧D' = [] ++ F∧vs = [v,I a,I (match DW AO a (i + 1) with | some i=>(i:Int) | none=>-1),I i]) (λK5 hK5=>?_) ?_;rotate_left
     ·rintro e R4 D4 ⟨rfl,hD,he⟩;rw[hD];clear hD;simp only[List.map,zc,zl,zj,z_t] at he;simp only[he];exact hK4 _ _ _ ⟨rfl,rfl,rfl⟩
     refine Bv h (by omega) (by omega) (jeq (jif (λhq=>?_) (λhq=>?_)))
     ·have hq:=eq_of_beq hq;simp only[Yj] at hq;refine hK5 _ _ _ ⟨rfl,rfl,?_⟩;simp only[DW];rw[if_pos (by rw[Yl hil,hq])]
     ·have hq:=ne_of_beq_false hq;simp only[Yj] at hq;refine hK5 _ _ _ ⟨rfl,rfl,?_⟩;simp only[DW];rw[if_neg (by rw[Yl hil];simpa using hq)]
    ·have hc:=z_g hc;have:i = AO.length:=by omega
     subst this;exact hK2 _ _ _ ⟨rfl,rfl,rfl⟩
   ·rintro e R4 D4 ⟨rfl,hD,he⟩;rw[hD];clear hD;simp only[List.map,zc,zl,zj,z_t] at he;simp only[he];exact hK' _ _ _ ⟨rfl,rfl,rfl⟩
  ·rintro e R4 D4 ⟨rfl,hD,he⟩;rw[hD];clear hD;simp only[List.map,zc,zl,zj,z_t] at he;simp only[he];cases hli:DW AO a AO.length with
   | none=>
    refine jlt (jif (λ_=>?_) (λhh=>?_))
    ·refine BA (A:=[]) (RM.le.refl _) ?_;unfold FF;rw[if_neg (by rw[hk];decide),hli];exact⟨rfl,rfl⟩
    ·exact absurd hh (by decide)
   | some i=>
    obtain⟨q1,q2,_⟩:=Nh hli;refine jlt (jif (λhh=>?_) (λhh=>?_))
    ·exact absurd (z_f hh) (by simp only;omega)
    ·refine Tn h (by simp only;omega) (by simp only;omega) λv1 h1=>?_
     refine Cd ⟨by simp only;omega,by simp only;omega⟩ ?_;refine Xw h (by simp only;omega) (by simp only;omega) λv2 h2=>?_
     simp only[Yj] at h1;rw[show ((i:Int) + 1).toNat = i + 1 from by omega] at h2;refine jc (A:=[]) (C9 h1 (by simp;omega)) ?_;rintro _ R' _ hR ⟨b,c,sp,hc,hsp,rfl,rfl⟩;obtain⟨xa,cx,rfl,hx⟩:=BC.reads (D:=[(b,C Ac ((AO.take i).map I ++ sp))] ++ ([] ++ F)) (h2.le hR);refine YW (l2:=AO.drop (i + 1)) rfl hc hsp (by simp;omega) hx λb' c' sp' hc' hsp'=>?_
     refine BA (A:=[(b',C Ac ((AO.take i ++ AO.drop (i + 1)).map I ++ sp'))]) hR ?_;unfold FF;rw[if_neg (by rw[hk];decide),hli];exact⟨_,⟨b',c',sp',hc',hsp',rfl,rfl⟩,rfl⟩
theorem Sz {S:Sim} {i:Int} {t:Thr} {o:Sm.Op} (h:S.opOf i t = some o):∃p,idx S.AX i = some p∧idx p t.next = some o:=by
 unfold Sim.opOf at h;split at h
 ·exact⟨_,by assumption,h⟩
 ·cases h
theorem WB {R:RM} {F:Chs} {p b:Nat} {S:Sim} {g:Img} {i:Int} {t:Thr} {v:Value} {o:Sm.Op} {k:Value→M} (hok:Ok R S g) (ho:S.opOf i t = some o)
  (H:∀b2,J R ((b2,C 183 (eOp o)) :: (b,C AV (Ad t v)) :: (AY p S g ++ F)) (k (Pt b2))) :
  J R ((b,C AV (Ad t v)) :: (AY p S g ++ F)) (L1 (.pointer (some ⟨p,3,none⟩)) λx9=>IA 1 x9 (I i) λx10=>L1 x10 λx11=>L1 (.pointer (some ⟨b,0 + 1,none⟩)) λx13=>IA 8 x11 x13 λx14=>LA 8 x14 λx15=>AL 183 z183 λx16=>
   AND (L1 (.pointer (some ⟨p,3,none⟩)) λx17=>EV x17 x9)<|AND (L1 x10 λx18=>EV x18 x11)<|AND (L1 (.pointer (some ⟨b,0 + 1,none⟩)) λx19=>EV x19 x13)<|AND (LA 8 x14 λx20=>EV x20 x15)<|ST 8 x16 x15<|k x16):=by
 obtain⟨pr,h1,h2⟩:=Sz ho;obtain⟨i0,i1,i2,i3⟩:=Ap h1;obtain⟨n0,n1,n2,n3⟩:=Ap h2;obtain⟨vs,f1,f2,f3⟩:=hok.AX;obtain⟨x,f4,f5⟩:=f3 i.toNat i2;rw[i3] at f5;rcases f1 with ⟨_,h,_⟩ | ⟨bp,op_,cp,tp,cs,e1,e2,e3,e4,e5⟩
 ·omega
 rcases f5 with ⟨_,h,_⟩ | ⟨bo,oo,co,to_,co2,q1,q2,q3,q4,q5⟩
 ·omega
 have l1:J R ((b,C AV (Ad t v)) :: (AY p S g ++ F)) (L1 (.pointer (some ⟨p,3,none⟩)) λx9=>IA 1 x9 (I i) λx10=>L1 x10 λx11=>L1 (.pointer (some ⟨b,0 + 1,none⟩)) λx13=>IA 8 x11 x13 λx14=>LA 8 x14 λx15=>AL 183 z183 λx16=>
   AND (L1 (.pointer (some ⟨p,3,none⟩)) λx17=>EV x17 x9)<|AND (L1 x10 λx18=>EV x18 x11)<|AND (L1 (.pointer (some ⟨b,0 + 1,none⟩)) λx19=>EV x19 x13)<|AND (LA 8 x14 λx20=>EV x20 x15)<|ST 8 x16 x15<|k x16):=by
  have hx:cs[op_ + i.toNat * 1]? = some x:=by
   have:=congrArg (λl=>l[i.toNat]?) e4;simp only[Zr,Zl] at this;rw[if_pos (by omega)] at this;rw[Zt,this,f4]
  have ho8:(co2.drop (oo + t.next.toNat * 8)).take 8 = eOp o:=by
   have:=DB (f:=eOp) (w:=8) (λ_=>rfl) (sp:=[]) n2;rw[ZV,n3,← q4,aO,ad,aV] at this;rw[← this];congr 1;omega
  refine jl (v:=g.AX) rfl ?_;rw[e1];refine jia i0 (by omega) (jlr e2 hx ?_);rw[q1];refine jl (v:=I t.next) rfl ?_;refine jia n0 (by omega) ?_;refine HL q2 (by omega) ho8 ?_;refine ja λb2=>?_
  refine Ae (jl (v:=g.AX) rfl (by rw[e1];exact jev)) ?_;refine Ae (jlr e2 (by rw[hx,q1]) jev) ?_;refine Ae (jl (v:=I t.next) rfl jev) ?_;refine Ae (HL q2 (by omega) ho8 jev) ?_;refine js (cs':=eOp o) rfl rfl (by exact z_n 8) (by rfl) (H b2)
 exact l1
theorem X7 {o:Sm.Op} {AD:List Int} (h8:o.kind = 8) (h:DF o AD 0 = 0):0 < AD.length:=by
 by_cases c:0 < AD.length
 ·exact c
 ·exfalso;have:AD = []:=ZK.1 (by omega);subst this;unfold DF at h;simp[h8] at h
theorem UQ {S S' : Sim} {i a c:Int} (h:S.event i a c = some S'):S.sz = true:=by
 unfold Sim.event at h;split at h
 ·cases h
 ·rename_i hz;simpa using hz
theorem U6 {S:Sim} {i:Int} {t t' : Thr} (h:(S.setT i t').sz = true) (ht:idx S.th i = some t):t'.AD.length < 1000000:=by
 obtain⟨i0,i1,i2,i3⟩:=Ap ht;refine (Fa h).2.2.2.2 t' ?_;show t'∈AW S.th i t';unfold AW;exact List.mem_of_getElem? (List.getElem?_set_self (by omega))
theorem Vc {p:Nat} {S S' : Sim} {g:Img} {i:Int} {R:RM} (hok:Ok R S g) (hS:S.begin_ i = some S') :
  Fn P JL [Pt p,I i] R (AY p S g) (Ci p S' λ_=>True):=by
 refine Pk λF=>?_
 unfold JS;obtain⟨t,ht,hS⟩:=AE hS;obtain⟨o,ho,hS⟩:=AE hS;obtain⟨h0,h1,h2,h3⟩:=Ap ht;refine GC (p:=p) hok ht rfl λb a cap hv=>?_
 refine WB (p:=p) hok ho λb2=>?_
 refine jla (l:=eOp o) (by exact z_n 8) (by rfl) ?_;refine jp (XM o) (jif (λhb=>?_) (λhb=>?_))
 ·rw[if_pos hb] at hS;refine jcS (p:=p) (by exact D0 hok hS) λ_ R2 g2 hR2 hr ok2=>?_
  exact Ar hR2 trivial rfl ok2
 rw[if_neg (by rw[hb];decide)] at hS;refine jla (l:=eOp o) (by exact z_n 8) (by rfl) ?_;refine jl (v:=.slice a t.AD.length cap) rfl ?_;refine jrp (Tc o 0 hv) (jne (jif (λhc=>?_) (λhc=>?_)))
 ·have hc:DF o t.AD 0≠0:=by simpa using hc
  simp only[if_pos hc] at hS;refine jcS (p:=p) (by exact D0 hok hS) λ_ R2 g2 hR2 hr ok2=>?_
  exact Ar hR2 trivial rfl ok2
 have hc:DF o t.AD 0 = 0:=by simpa using hc
 simp only[if_neg (show ¬ DF o t.AD 0≠0 from λh=>h hc)] at hS;refine jl (v:=I o.kind) rfl (jeq (jif (λh8=>?_) (λh8=>?_)))
 ·have h8:=eq_of_beq h8;rw[if_pos h8] at hS;have hn:=X7 h8 hc;have hsz:=U6 (UQ hS) ht;have hl1:t.AD.length≤1000000:=by simp at hsz;omega
  refine jl (v:=.slice a t.AD.length cap) rfl (jl (v:=.slice a t.AD.length cap) rfl (jln (jsu ?_)));refine Tn hv (by omega) (by omega) λv1 hv1=>?_
  rw[show ((t.AD.length:Int) - 1).toNat = t.AD.length - 1 from by omega] at hv1;refine jc (A:=[]) (C9 hv1 (by simp;omega)) ?_;rintro _ R' _ hR ⟨b4,c4,sp4,hc4,hsp4,rfl,rfl⟩;refine Bh (b:=b4) λR2 hR2 hb4=>?_
  have hv2:=C7 (c:=c4) hb4 hc4;have ok2:=(hok.le hR).le hR2;refine js (cs':=Ad { t with AD:=t.AD.take (t.AD.length - 1) } (S0 b4 (t.AD.take (t.AD.length - 1)).length c4)) rfl rfl (by simp[Ad]) rfl ?_;refine GB (p:=p) (S.setT i { t with AD:=t.AD.take (t.AD.length - 1) }) (by exact ok2) h0 (by exact h1) (by exact hv2) (by rfl) λg3 ok3=>?_
  refine jcS (p:=p) (by exact D0 ok3 hS) λ_ R4 g4 hR4 hr ok4=>?_
  exact Ar ((hR.trans hR2).trans hR4) trivial rfl ok4
 have h8:o.kind≠8:=by simpa using h8
 rw[if_neg h8] at hS;refine jeq (jif (λh9=>?_) (λh9=>?_))
 ·have h9:=eq_of_beq h9;rw[if_pos h9] at hS;obtain⟨r,hr,hS⟩:=AE hS;obtain⟨r0,r1,r2,r3⟩:=Ap hr;refine jl (v:=.slice a t.AD.length cap) rfl (jl (v:=I o.a) rfl ?_);refine Bv hv r0 r1 ?_;rw[r3];refine jcS (p:=p) (by exact OC hok hS) λ_ R2 g2 hR2 hr ok2=>?_
  exact Ar hR2 trivial rfl ok2
 have h9:o.kind≠9:=by simpa using h9
 rw[if_neg h9] at hS;refine jeq (jif (λk1=>?_) (λk1=>?_))
 ·have k1:=eq_of_beq k1;rw[if_pos k1] at hS;cases hS;refine js (cs':=Ad { t with pc:=30 } (.slice a t.AD.length cap)) rfl rfl (by simp[Ad]) rfl ?_;refine GB (p:=p) (S.setT i { t with pc:=30 }) (by exact hok) h0 (by exact h1) (by exact hv) (by rfl) λg3 ok3=>?_
  exact Ar (RM.le.refl _) trivial rfl ok3
 have k1:o.kind≠1:=by simpa using k1
 rw[if_neg k1] at hS;obtain⟨ra,hra,hS⟩:=AE hS;obtain⟨a0,a1,a2,a3⟩:=Ap hra;obtain⟨t2,ht2,hS⟩:=AE hS;obtain⟨t3,ht3,hS⟩:=AE hS;cases hS;refine js (cs':=Ad { t with pc:=1 } (.slice a t.AD.length cap)) rfl rfl (by simp[Ad]) rfl ?_;refine jl (v:=.slice a t.AD.length cap) rfl (jl (v:=I o.a) rfl (Bv hv a0 a1 ?_));rw[a3];refine js (cs':=Ad { t with pc:=1,h:=ra } (.slice a t.AD.length cap)) rfl rfl (by simp[Ad]) rfl ?_;have ht2r:t2.AD = t.AD:=by
  split at ht2
  ·obtain⟨x,_,hx⟩:=AE ht2;cases hx;rfl
  ·cases ht2;rfl
 have ht3r:t3.AD = t.AD:=by
  split at ht3
  ·obtain⟨x,_,hx⟩:=AE ht3;cases hx;exact ht2r
  ·cases ht3;exact ht2r
 refine AJ (λvs R' D'=>R' = R∧D' = (b2,C 183 (eOp o)) :: (b,C AV (Ad t2 (.slice a t.AD.length cap))) :: (AY p S g ++ F)∧vs = [Pt p,I i,Pt b,Pt b2]) (λK' hK'=>?_) ?_
 ·refine jor [Pt p,I i,Pt b,Pt b2] ((o.kind == 3) || (o.kind == 6)) (λK' hK'=>?_) (λe c u ho he=>?_)
  ·refine jl (v:=I o.kind) rfl (jeq (BM (λh1=>?_) (λh1=>?_)))
   ·refine jl (v:=I o.kind) rfl (jeq (hK' _ _ _ (h1▸Aj) (by rw[h1,Yk])))
   ·exact hK' _ _ _ (h1▸Al) (by rw[h1,Ym])
  simp only[List.map,zc,zl,zj,z_t] at he;simp only[he];refine jor [Pt p,I i,Pt b,Pt b2] (((o.kind == 3) || (o.kind == 6)) || (o.kind == 7)) (λK' hK'=>?_) (λe c u ho he=>?_)
  ·rw[ho];refine BM (λh1=>?_) (λh1=>?_)
   ·refine jl (v:=I o.kind) rfl (jeq (hK' _ _ _ (h1▸Aj) (by rw[h1,Yk])))
   ·exact hK' _ _ _ (h1▸Al) (by rw[h1,Ym])
  simp only[List.map,zc,zl,zj,z_t] at he;simp only[he];rw[ho];refine jif (λhk=>?_) (λhk=>?_)
  ·rw[if_pos (by simpa [or_assoc,and_assoc] using hk)] at ht2;obtain⟨rb,hrb,ht2⟩:=AE ht2;obtain⟨b0,b1,b2',b3⟩:=Ap hrb;cases ht2;refine jl (v:=.slice a t.AD.length cap) rfl (jl (v:=I o.b) rfl (Bv hv b0 b1 ?_));rw[b3];refine js (cs':=Ad { t with pc:=1,h:=ra,g:=rb } (.slice a t.AD.length cap)) rfl rfl (by simp[Ad]) rfl ?_;exact hK' _ _ _ ⟨rfl,rfl,rfl⟩
  ·rw[if_neg (by simpa [or_assoc,and_assoc] using hk)] at ht2;cases ht2;exact hK' _ _ _ ⟨rfl,rfl,rfl⟩
 ·rintro e R5 D3 ⟨rfl,hD,he⟩;rw[hD];clear hD;simp only[List.map,zc,zl,zj,z_t] at he;simp only[he];refine AJ (λvs R' D'=>R' = R5∧(∃G,D' = (b,C AV (Ad t3 (.slice a t.AD.length cap))) :: (AY p S g ++ G)∧G = F)∧vs = [Pt p,I i,Pt b]) (λK' hK'=>?_) ?_
  ·refine jl (v:=I o.kind) rfl (jeq (jif (λhk=>?_) (λhk=>?_)))
   ·rw[if_pos (eq_of_beq hk)] at ht3;obtain⟨rc,hrc,ht3⟩:=AE ht3;cases ht3;rw[ht2r] at hrc;obtain⟨b0,b1,b2',b3⟩:=Ap hrc;refine jl (v:=.slice a t.AD.length cap) rfl (jl (v:=I o.c) rfl (Bv hv b0 b1 ?_));rw[b3];refine js (cs':=Ad { t2 with k:=rc } (.slice a t.AD.length cap)) rfl rfl (by simp[Ad]) rfl ?_;exact C4 (hK' _ _ _ ⟨rfl,⟨_,rfl,rfl⟩,rfl⟩)
   ·rw[if_neg (ne_of_beq_false hk)] at ht3;cases ht3;exact C4 (hK' _ _ _ ⟨rfl,⟨_,rfl,rfl⟩,rfl⟩)
  ·rintro e _ D3 ⟨rfl,⟨G,hD,hG⟩,he⟩;rw[hD,hG];clear hD;simp only[List.map,zc,zl,zj,z_t] at he;simp only[he];refine GB (p:=p) (S.setT i t3) (by exact hok) h0 (by exact h1) (by rw[ht3r];exact hv) (by rfl) λg3 ok3=>?_
   exact Ar (RM.le.refl _) trivial rfl ok3
instance (priority:=low) Sp.app (D A E F:Chs) [s:Sp D A E]:Sp (D ++ F) A (E ++ F):=⟨by rw[← Ys];exact s.p.append_right F⟩
theorem OH {R:RM} {D:Chs} {m:M} (H:J R D m):J R ([] ++ D) m:=H
theorem YL {R:RM} {D G:Chs} {p b c:Nat} {S:Sim} {g:Img} {t' : List Rg} {sp:List Value} {m:M} [w:Fd D p S g G]
  (H:J R (AY p { S with A0:=t' } { g with tb:=b,tc:=c,tsp:=sp } ++ G) m) :
  J R ((b,C AI (Ab eRg t' ++ sp)) :: D) (ST 1 (.pointer (some ⟨p,5,none⟩)) (S0 b t'.length c) m):=by
 refine BH ((w.ex.cons _).trans ZG.symm) ?_;have e2:Br { S with A0:=t' } { g with tb:=b,tc:=c,tsp:=sp } = (Br S g).set 5 (S0 b t'.length c):=by
  simp[Br,evV]
 refine js (D:=AY p S g ++ (b,C AI (Ab eRg t' ++ sp)) :: G) (t:=BZ) (cs:=Br S g) (cs':=Br { S with A0:=t' } { g with tb:=b,tc:=c,tsp:=sp })
  (D':=(p,C BZ (Br { S with A0:=t' } { g with tb:=b,tc:=c,tsp:=sp })) :: ((g.wb,C Ac (S.AB.map I ++ g.wsp)) :: (g.tb,C AI (Ab eRg S.A0 ++ g.tsp)) :: (g.mb,C BK (S.AR.map Value.bool ++ g.msp)) :: (g.hb,C AV (Dh S.th g.rv ++ g.hsp)) :: evD S g ++ (b,C AI (Ab eRg t' ++ sp)) :: G)) rfl rfl (by simp[Br]) (by rw[e2,show cl (S0 b t'.length c) = [S0 b t'.length c] from rfl,GS (by simp[Br])]) ?_ (u:=?_)
 ·unfold AY;exact inferInstance
 ·refine Ai ((p,C BZ (Br { S with A0:=t' } { g with tb:=b,tc:=c,tsp:=sp })) :: (g.wb,C Ac (S.AB.map I ++ g.wsp)) :: (b,C AI (Ab eRg t' ++ sp)) :: (g.mb,C BK (S.AR.map Value.bool ++ g.msp)) :: (g.hb,C AV (Dh S.th g.rv ++ g.hsp)) :: evD S g) (G:=G) ?_;exact H
theorem P5 {R:RM} {D G:Chs} {p b c:Nat} {S:Sim} {g:Img} {t' : List Rg} {sp:List Value} {m:M} [w:Fd D p S g G]
  (H:J R (AY p { S with A0:=t' } { g with tb:=b,tc:=c,tsp:=sp } ++ G) m) :
  J R ([(b,C AI (Ab eRg t' ++ sp))] ++ D) (ST 1 (.pointer (some ⟨p,5,none⟩)) (S0 b t'.length c) m):=YL (D:=D) H
theorem Cb {S S1:Sim} {a v:Int} (h:S.read a = some (v,S1)):S1 = { S with used:=true }:=by
 simp only[Sim.read] at h;split at h
 ·cases h;rfl
 ·cases h
theorem E0 {S S1:Sim} {a v:Int} (h:S.write a v = some S1):S1 = { S with used:=true,AB:=AW S.AB a v }:=by
 simp only[Sim.write] at h;split at h
 ·cases h;rfl
 ·cases h
theorem Wm {S S1:Sim} {a v:Int} (h:S.top a v = some S1):∃t,S1 = { S with A0:=t }:=by
 unfold Sim.top at h;split at h
 ·split at h
  ·cases h;exact⟨_,rfl⟩
  ·cases h
 ·cases h
theorem Ok.tab {R:RM} {S:Sim} {g:Img} (ok:Ok R S g) {t' : List Rg} (hl:t'.length≤1000) (b c:Nat) (sp:List Value) (hc:t'.length≤c):Ok R { S with A0:=t' } { g with tb:=b,tc:=c,tsp:=sp }:=
 ⟨ok.AX,ok.old,ok.AO,ok.AG,ok.rvl,ok.rv,ok.ev0,ok.ev1,ok.wl,hl,ok.ml,ok.hl,ok.fl,ok.wk,hc,ok.mk_⟩
theorem Kr {t t' : List Rg} {o size d:Int} (h:BP t o size = some (t',d)):t'.length = t.length:=by
 unfold BP at h;split at h
 ·rename_i hg;simp only[z_b,z_d] at hg;have T:=Bk.1 hg.1.1.1.1;rcases F7 (size:=size) T hg.1.1.1.2 hg.1.1.2 hg.1.2 hg.2 with h2 | ⟨t2,d2,h2,P⟩
  ·unfold BP at h2;rw[if_pos (by simpa using hg)] at h2;rw[h2] at h;cases h
  ·unfold BP at h2;rw[if_pos (by simpa using hg)] at h2;rw[h2] at h;cases h;exact P.len
 ·cases h
theorem TT {p:Nat} {S S' : Sim} {g:Img} {i:Int} {R:RM} (hok:Ok R S g) (hS:S.copying i = some S') :
  Fn P Gi [Pt p,I i] R (AY p S g) (Ci p S' λ_=>True):=by
 refine Ms λF=>?_
 unfold Gs;obtain⟨t,ht,hS⟩:=AE hS;obtain⟨h0,h1,h2,h3⟩:=Ap ht;refine GC (p:=p) hok ht rfl λb a cap hv=>?_
 refine AJ (λvs R' D'=>R.le R'∧∃S1 g1 t1 G,S' = S1.setT i t1∧S1.th = S.th∧t1.AD = t.AD∧Ok R' S1 g1∧D' = AY p S1 g1 ++ (b,C AV (Ad t1 (.slice a t.AD.length cap))) :: G∧G = F∧vs = [Pt p,I i,Pt b]) (λK hK=>?_) ?_;rotate_left
 ·rintro e R2 D2 ⟨hR,S1,g1,t1,G,rfl,hth,hr,ok1,rfl,rfl,he⟩;simp only[List.map,zc,zl,zj,z_t] at he;simp only[he];refine GB (p:=p) (S1.setT i t1) (by exact ok1) h0 (by rw[hth];exact h1) (by rw[hr];exact hv.le hR) (by rfl) λg3 ok3=>?_
  exact Ar hR trivial rfl ok3
 refine jl (v:=I t.pc) rfl ?_;refine AJ (λvs R' D'=>R.le R'∧∃S1 g1 t1 G,S' = S1.setT i t1∧S1.th = S.th∧t1.AD = t.AD∧Ok R' S1 g1∧D' = AY p S1 g1 ++ (b,C AV (Ad t1 (.slice a t.AD.length cap))) :: G∧G = F∧vs = [Pt p,I i,Pt b]) (λK2 hK2=>?_) ?_;rotate_left
 ·rintro e R2 D2 ⟨hR,S1,g1,t1,G,e1,hth,hr,ok1,rfl,rfl,he⟩;simp only[List.map,zc,zl,zj,z_t] at he;simp only[he];exact hK _ _ _ ⟨hR,S1,g1,t1,_,e1,hth,hr,ok1,rfl,rfl,rfl⟩
 refine jeq (jif (λc20=>?_) (λc20=>?_))
 ·have c20:=eq_of_beq c20;rw[if_pos c20] at hS;obtain⟨q,hq,hS⟩:=AE hS;obtain⟨rfl,hin⟩:=Aw hq;obtain⟨⟨w,S1⟩,hrd,hS⟩:=AE hS;have e1:=Cb hrd;subst e1;dsimp only at hS;refine jl (v:=I t.src) rfl (Cd hin ?_);refine jcS (p:=p) (by exact Cm hok hrd) λ_ R1 g1 hR1 hr ok1=>?_
  subst hr;refine jp (EH w) (jex rfl (jex rfl ?_));refine ja λb3=>?_
  refine js (cs':=[I (AH w).1.refs,I (AH w).1.nums]) rfl rfl (by exact z_n 2) rfl ?_;refine jla (l:=[I (AH w).1.refs,I (AH w).1.nums]) (by exact z_n 2) (by rfl) ?_;refine jp (CC (AH w).1) ?_;refine js (cs':=Ad { t with size:=AF (AH w).1 } (.slice a t.AD.length cap)) rfl rfl (by simp[Ad]) rfl ?_;refine jl (v:=.slice (some ⟨g1.tb,0,none⟩) S.A0.length g1.tc) rfl ?_;refine jl (v:=I (AF (AH w).1)) rfl ?_;refine jmk (by exact Fr (t:=S.A0) (sp:=g1.tsp) i (AF (AH w).1) (by have:=hok.tl;omega)) ?_;intro v N hq2;cases hrm:BP S.A0 i (AF (AH w).1) with
  | none=>
   rw[hrm] at hq2;obtain⟨rfl,rfl⟩:=hq2;rw[hrm] at hS;refine jex rfl (jex rfl (jex rfl (DO ?_)));refine jcS (p:=p) (by exact Ux ok1 hS) λ_ R2 g2 hR2 hr ok2=>?_
   exact Ar (hR1.trans hR2) trivial rfl ok2
  | some td=>
   obtain⟨t',d⟩:=td;rw[hrm] at hq2;obtain⟨sv,⟨b4,c4,sp4,hc4,rfl,rfl⟩,rfl⟩:=hq2;rw[hrm] at hS;simp only[Yr] at hS;have hlen:=Kr hrm;refine jex rfl (jex rfl (jex rfl (Cn ?_)));refine P5 (p:=p) ?_;refine js (cs':=Ad { t with size:=AF (AH w).1,dst:=d } (.slice a t.AD.length cap)) rfl rfl (by simp[Ad]) rfl ?_;refine js (cs':=Ad { t with size:=AF (AH w).1,dst:=d,i:=1 } (.slice a t.AD.length cap)) rfl rfl (by simp[Ad]) rfl ?_;refine js (cs':=Ad { t with size:=AF (AH w).1,dst:=d,i:=1,pc:=21 } (.slice a t.AD.length cap)) rfl rfl (by simp[Ad]) rfl ?_;refine Ai (AY p { S with used:=true,A0:=t' } { g1 with tb:=b4,tc:=c4,tsp:=sp4 }) (G:=(b,C AV (Ad { t with size:=AF (AH w).1,dst:=d,i:=1,pc:=21 } (.slice a t.AD.length cap))) :: F) ?_;exact hK2 _ _ _ ⟨hR1,{ S with used:=true,A0:=t' },{ g1 with tb:=b4,tc:=c4,tsp:=sp4 },{ t with size:=AF (AH w).1,dst:=d,i:=1,pc:=21 },_,hS.symm,rfl,rfl,ok1.tab (by rw[hlen];exact hok.tl) _ _ _ hc4,rfl,rfl,rfl⟩
 have c20:t.pc≠20:=by simpa using c20
 rw[if_neg c20] at hS;refine jeq (jif (λc21=>?_) (λc21=>?_))
 ·have c21:=eq_of_beq c21;rw[if_pos c21] at hS;obtain⟨q,hq,hS⟩:=AE hS;obtain⟨rfl,hin⟩:=Aw hq;obtain⟨⟨w,S1⟩,hrd,hS⟩:=AE hS;have e1:=Cb hrd;subst e1;cases hS;refine jl (v:=I t.src) rfl (jl (v:=I t.i) rfl (Cd hin ?_));refine jcS (p:=p) (by exact Cm hok hrd) λ_ R1 g1 hR1 hr ok1=>?_
  subst hr;refine js (cs':=Ad { t with word:=w } (.slice a t.AD.length cap)) rfl rfl (by simp[Ad]) rfl ?_;refine js (cs':=Ad { t with word:=w,pc:=22 } (.slice a t.AD.length cap)) rfl rfl (by simp[Ad]) rfl ?_;exact hK2 _ _ _ ⟨hR1,{ S with used:=true },g1,{ t with word:=w,pc:=22 },_,rfl,rfl,rfl,ok1,rfl,rfl,rfl⟩
 have c21:t.pc≠21:=by simpa using c21
 rw[if_neg c21] at hS;refine jeq (jif (λc22=>?_) (λc22=>?_))
 ·have c22:=eq_of_beq c22;rw[if_pos c22] at hS;obtain⟨q,hq,hS⟩:=AE hS;obtain⟨rfl,hin⟩:=Aw hq;obtain⟨S1,hwr,hS⟩:=AE hS;have e1:=E0 hwr;subst e1;obtain⟨n,hn,hS⟩:=AE hS;obtain⟨rfl,hin2⟩:=Aw hn;cases hS;refine jl (v:=I t.dst) rfl (jl (v:=I t.i) rfl (Cd hin (jl (v:=I t.word) rfl ?_)));refine jcS (p:=p) (by exact DN hok hwr) λ_ R1 g1 hR1 hr ok1=>?_
  refine jl (v:=I t.i) rfl (Cd hin2 ?_);refine js (cs':=Ad { t with i:=t.i + 1 } (.slice a t.AD.length cap)) rfl rfl (by simp[Ad]) rfl ?_;refine js (cs':=Ad { t with i:=t.i + 1,pc:=21 } (.slice a t.AD.length cap)) rfl rfl (by simp[Ad]) rfl ?_;refine jl (v:=I (t.i + 1)) rfl (jl (v:=I t.size) rfl (jeq (jif (λhz=>?_) (λhz=>?_))))
  ·refine js (cs':=Ad { t with i:=t.i + 1,pc:=23 } (.slice a t.AD.length cap)) rfl rfl (by simp[Ad]) rfl ?_;exact hK2 _ _ _ ⟨hR1,{ S with used:=true,AB:=AW S.AB (t.dst + t.i) t.word },g1,{ t with i:=t.i + 1,pc:=23 },_,(by rw[if_pos (eq_of_beq hz)]),rfl,rfl,ok1,rfl,rfl,rfl⟩
  ·exact hK2 _ _ _ ⟨hR1,{ S with used:=true,AB:=AW S.AB (t.dst + t.i) t.word },g1,{ t with i:=t.i + 1,pc:=21 },_,(by rw[if_neg (ne_of_beq_false hz)]),rfl,rfl,ok1,rfl,rfl,rfl⟩
 have c22:t.pc≠22:=by simpa using c22
 rw[if_neg c22] at hS;refine jeq (jif (λc23=>?_) (λc23=>?_))
 ·have c23:=eq_of_beq c23;rw[if_pos c23] at hS;obtain⟨S1,hwr,hS⟩:=AE hS;have e1:=E0 hwr;subst e1;cases hS;refine jl (v:=I t.dst) rfl (jl (v:=I t.dst) rfl ?_);refine jcS (p:=p) (by exact DN hok hwr) λ_ R1 g1 hR1 hr ok1=>?_
  refine js (cs':=Ad { t with pc:=24 } (.slice a t.AD.length cap)) rfl rfl (by simp[Ad]) rfl ?_;exact hK2 _ _ _ ⟨hR1,{ S with used:=true,AB:=AW S.AB t.dst t.dst },g1,{ t with pc:=24 },_,rfl,rfl,rfl,ok1,rfl,rfl,rfl⟩
 have c23:t.pc≠23:=by simpa using c23
 rw[if_neg c23] at hS;refine jeq (jif (λc24=>?_) (λc24=>?_));rotate_left
 ·rw[if_neg (ne_of_beq_false c24)] at hS;cases hS;refine BH ZG.symm (hK2 _ _ _ ⟨RM.le.refl _,S,g,t,_,rfl,rfl,rfl,hok,rfl,rfl,rfl⟩)
 have c24:=eq_of_beq c24;rw[if_pos c24] at hS;split at hS
 ·cases hS
 rename_i hret;have hret:0≤t.ret∧t.ret≤100:=Classical.not_not.1 hret;have hinr:inR (t.ret + 1):=⟨by omega,by omega⟩;obtain⟨⟨w,S1⟩,hrd,hS⟩:=AE hS;have e1:=Cb hrd;subst e1;dsimp only at hS;refine jl (v:=I t.src) rfl ?_;refine jcS (p:=p) (by exact Cm hok hrd) λ_ R1 g1 hR1 hr ok1=>?_
 subst hr;have hhold:∀x,(Be t t.ret x).AD = t.AD:=λx=>by simp only[Be];split<;>(try split)<;>(try split)<;>rfl
 refine AJ (λvs R' D'=>R.le R'∧∃S2 g2 G x,S' = S2.setT i (Be t t.ret x)∧S2.th = S.th∧Ok R' S2 g2∧D' = AY p S2 g2 ++ (b,C AV (Ad t (.slice a t.AD.length cap))) :: G∧G = F∧vs = [Pt p,I i,Pt b,I x]) (λK3 hK3=>?_) ?_;rotate_left
 ·rintro e R2 D2 ⟨hR,S2,g2,G,x,rfl,hth,ok2,rfl,rfl,he⟩;simp only[List.map,zc,zl,zj,z_t] at he;simp only[he];refine jla (cs:=Ad t (.slice a t.AD.length cap)) (t:=AV) (l:=Ad t (.slice a t.AD.length cap)) (z_n 17) rfl ?_;refine jl (v:=I t.ret) rfl ?_;refine jp (Pc t a t.AD.length cap t.ret x hinr) ?_;refine js (cs':=Ad (Be t t.ret x) (.slice a t.AD.length cap)) rfl rfl (by exact z_n 17) rfl ?_;exact hK2 _ _ _ ⟨hR,S2,g2,Be t t.ret x,_,rfl,hth,hhold x,ok2,rfl,rfl,rfl⟩
 refine jl (v:=I t.src) rfl (jeq (jif (λhw=>?_) (λhw=>?_)))
 ·have hw:=eq_of_beq hw;rw[if_pos hw] at hS;obtain⟨S2,hwr,hS⟩:=AE hS;have e2:=E0 hwr;subst e2;obtain⟨S3,htp,hS⟩:=AE hS;cases hS;obtain⟨t3,e3⟩:=Wm htp;refine jl (v:=I t.src) rfl (jl (v:=I t.dst) rfl ?_);refine jcS (p:=p) (by exact DN ok1 hwr) λ_ R2 g2 hR2 hr ok2=>?_
  refine jl (v:=I t.dst) rfl (jl (v:=I t.size) rfl ?_);refine jcS (p:=p) (by exact UK ok2 htp) λ_ R3 g3 hR3 hr ok3=>?_
  refine jl (v:=I t.dst) rfl ?_;exact hK3 _ _ _ ⟨(hR1.trans hR2).trans hR3,S3,g3,_,t.dst,rfl,by rw[e3],ok3,rfl,rfl,rfl⟩
 ·rw[if_neg (ne_of_beq_false hw)] at hS;cases hS;exact hK3 _ _ _ ⟨hR1,{ S with used:=true },g1,_,w,rfl,rfl,ok1,rfl,rfl,rfl⟩
end Go.Lf
end
