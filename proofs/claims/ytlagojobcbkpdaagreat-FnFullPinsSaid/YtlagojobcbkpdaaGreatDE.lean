/- A part of the proof of the given row: the walk of the law and of all that it calls. Conditions: none. -/
import Derived.Test.YtlagojobcbkpdaaGreatDD
set_option linter.unusedVariables false
set_option linter.unusedSimpArgs false
set_option maxRecDepth 100000
section
namespace Go.Lf
open Go Sm
def Ro (f:Nat) (args:List Value) (v:Value) (R:RM) (D:Chs):Prop:=Fn P f args R D λv' _ A=>v' = v∧A = D
theorem jro {f:Nat} {args:List Value} {v:Value} {R:RM} {D:Chs} {k:Value→M} (hF:Ro f args v R D) (H:J R D (k v)):J R D (CA P f args k):=by
 intro h hs;refine FB ?_ (hF [] h (by simpa using hs));rintro v' h' ⟨R',A',h1,h2,rfl,rfl⟩;exact H h' (by simpa using h2.le h1)
theorem BU {v v' : Value} {R:RM} {D E G F:Chs} (hv:v' = v) [s:Sp G (D ++ F) E]:J R G (Ey R F (λv' _ A=>v' = v∧A = D) v'):=by
 intro h hs;refine⟨R,D,RM.le.refl R,?_,hv,rfl⟩;exact (hs.perm s.p).keep
theorem jln {R:RM} {D:Chs} {a:Option Addr} {n c:Nat} {k:Value→M} (H:J R D (k (I n))):J R D (LN (.slice a n c) k):=H
def Or2 (c u:Value) (v:Bool):Prop:=∀k:Value→M,zP c u k = k (.bool v)
def GY (c u:Value) (v:Bool):Prop:=∀k:Value→M,zA c u k = k (.bool v)
theorem Am {u:Value}:Or2 (.bool true) u true:=λ_=>rfl
theorem Ah {b:Bool}:Or2 (.bool false) (.bool b) b:=λ_=>rfl
theorem Ax {b:Bool}:GY (.bool true) (.bool b) b:=λ_=>rfl
theorem BB {u:Value}:GY (.bool false) u false:=λ_=>rfl
section cuts
variable {R:RM} {D:Chs} {lv:List Nat} {B:(List Value→M)→M} {K:Env→M}
theorem jor (pre:List Value) (v:Bool) (H1:∀K' : List Value→M,(∀c u w,Or2 c u w→w = v→J R D (K' (pre ++ [c,u])))→J R D (B K')) (H2:∀e c u,Or2 c u v→lv.map e = pre ++ [c,u]→J R D (K e)):J R D (CUT lv B K):=
 AR (λvs R' D'=>R' = R∧D' = D∧∃c u,vs = pre ++ [c,u]∧Or2 c u v) (λK' h=>H1 K' λc u w hc hw=>h _ _ _ ⟨rfl,rfl,c,u,rfl,hw▸hc⟩) λe R' D' ⟨h1,h2,c,u,h3,h4⟩=>by
  subst h1 h2;exact H2 e c u h4 h3
theorem jan (pre:List Value) (v:Bool) (H1:∀K' : List Value→M,(∀c u w,GY c u w→w = v→J R D (K' (pre ++ [c,u])))→J R D (B K')) (H2:∀e c u,GY c u v→lv.map e = pre ++ [c,u]→J R D (K e)):J R D (CUT lv B K):=
 AR (λvs R' D'=>R' = R∧D' = D∧∃c u,vs = pre ++ [c,u]∧GY c u v) (λK' h=>H1 K' λc u w hc hw=>h _ _ _ ⟨rfl,rfl,c,u,rfl,hw▸hc⟩) λe R' D' ⟨h1,h2,c,u,h3,h4⟩=>by
  subst h1 h2;exact H2 e c u h4 h3
theorem C9 (pre:List Value) (H1:∀K' : List Value→M,J R D (K' pre)→J R D (B K')) (H2:∀e,lv.map e = pre→J R D (K e)):J R D (CUT lv B K):=
 AR (λvs R' D'=>R' = R∧D' = D∧vs = pre) (λK' h=>H1 K' (h _ _ _ ⟨rfl,rfl,rfl⟩)) λe R' D' ⟨h1,h2,h3⟩=>by
  subst h1 h2;exact H2 e h3
end cuts
theorem C6 {t:List Rg} {sp:List Value} {i:Nat} (h:i < t.length) {f:Nat} {v:Value} (hv:(eRg (t[i]))[f]? = some v):(Ac eRg t ++ sp)[i * 5 + f]? = some v:=by
 have:=DQ (f:=eRg) (w:=5) (λ_=>rfl) (sp:=sp) h;have e2:=congrArg (λl=>l[f]?) this;simp only[Zl,ZY] at e2;have hf:f < 5:=by
  by_cases c:f < 5
  ·exact c
  ·have:(eRg (t[i]))[f]? = none:=Zd (by show 5≤f;omega);rw[this] at hv;cases hv
 rw[if_pos hf] at e2;rw[e2,hv]
theorem F6 {t:List Rg} {sp:List Value} {i:Nat} (h:i < t.length):i * 5 + 5≤(Ac eRg t ++ sp).length:=by
 rw[Yk,DL (w:=5) (λ_=>rfl)];omega
section A0
variable {t:List Rg} {sp:List Value} {b cap:Nat} {R:RM} {D:Chs}
theorem Qh (AV:Int) (hl:t.length < 1000000) [a:At D b (C AI (Ac eRg t ++ sp))]:Ro MT [S0 b t.length cap,I AV] (I (own t AV)) R D:=by
 refine Rb λF=>?_
 refine z_2 ?_;have ex:=FR (λx=>x.kind == 2 && x.AV == AV) t;refine jlp (λn vs R' D'=>R' = R∧D' = D ++ F∧∃r:Nat,1≤r∧r≤t.length + 1∧vs = [S0 b t.length cap,I AV,I r]∧n = t.length + 1 - r∧own t AV = C7 (λx=>x.kind == 2 && x.AV == AV) r (t.drop r))
  (n:=t.length) ⟨rfl,rfl,1,ω,ω,rfl,ω,by rw[own,List.drop_one]⟩ ?_
 rintro n e R' D' K ⟨rfl,rfl,r,r0,hr,he,hn,hown⟩ hK;refine z_V ?_;refine jln (jlt (jif (λhc=>?_) (λhc=>?_)))
 ·have hc:r < t.length:=by have:=z_f hc;omega
  have hd:t.drop r = t[r] :: t.drop (r + 1):=Yv hc;rw[hd] at hown;simp only[C7] at hown;refine jan [S0 b t.length cap,I AV,I r] (t[r].kind == 2 && t[r].AV == AV) (λK' hK'=>?_) (λe c u h2 he=>?_)
  ·refine jia ω ω ?_;refine jl (v:=I t[r].kind) ?_ (jeq (Bt (λh1=>?_) (λh1=>?_)))
   ·rw[Z6];exact C6 (f:=0) hc rfl
   ·refine jia ω ω ?_;refine jl (v:=I t[r].AV) ?_ (jeq (hK' _ _ _ (h1▸Ax) (by rw[h1,Z2])));rw[Z6];exact C6 (f:=1) hc rfl
   ·exact hK' _ _ _ (h1▸BB) (by rw[h1,Z3])
  ·refine z_V ?_;rw[h2];refine jif (λh=>?_) (λh=>?_)
   ·rw[if_pos h] at hown;exact BU (by rw[hown])
   ·rw[if_neg (by rw[h];decide)] at hown;refine jad ?_;exact hK (t.length + 1 - (r + 1)) _ _ _ ω ⟨rfl,rfl,r + 1,ω,ω,rfl,rfl,hown⟩
 ·have hc:¬ r < t.length:=by have:=z_g hc;omega
  rw[Yz ω] at hown;exact BU (by rw[hown];rfl)
end A0
section A0
variable {t:List Rg} {sp:List Value} {b cap:Nat} {R:RM} {D:Chs}
theorem E5 {t:List Rg} {r:Nat} (h:r < t.length):rv t r = t[r]:=Fm h
theorem Ej (hl:t.length < 1000000) [a:At D b (C AI (Ac eRg t ++ sp))]:Ro J1 [S0 b t.length cap] (.bool (BT t)) R D:=by
 refine Nd λF=>?_
 refine z_1 ?_;have nok:(TOk t→False)→Value.bool false = Value.bool (BT t):=λh=>by
  cases hh:BT t
  ·rfl
  ·exact (h (Bm.1 hh)).elim
 refine jor [S0 b t.length cap] (decide ((t.length:Int) < 2) || decide ((t.length:Int) > 12)) (λK' hK'=>?_) (λe c u ho he=>?_)
 ·refine jln (jlt (BR (λh1=>?_) (λh1=>?_)))
  ·exact jln (jgr (hK' _ _ _ (h1▸Ah) (by rw[h1,Yl])))
  ·exact hK' _ _ _ (h1▸Am) (by rw[h1,Yo])
 refine z_V ?_;refine jor [S0 b t.length cap] ((decide ((t.length:Int) < 2) || decide ((t.length:Int) > 12)) || !(rv t 0 == DO)) (λK' hK'=>?_) (λe c u ho he=>?_)
 ·rw[ho];refine BR (λh1=>?_) (λh1=>?_)
  ·have h1':=h1;simp only[Z4,decide_eq_false_iff_not] at h1';have h0:0 < t.length:=ω
   refine jia ω ω ?_;refine jla (l:=eRg (t[0])) (F6 h0) (DQ (f:=eRg) (w:=5) (λ_=>rfl) h0) ?_;refine jbd (cs:=[I 0,I (-1),I 0,I 0,I 0]) rfl rfl ?_;have ee:[I 0,I (-1),I 0,I 0,I 0] = eRg DO:=rfl;rw[ee];refine @XI (t[0]) DO _ _ _ _ _ ?_;refine hK' _ _ _ (h1▸Ah) ?_;rw[h1,Yl,show rv t 0 = t[0] from E5 h0]
  ·exact hK' _ _ _ (h1▸Am) (by rw[h1,Yo])
 refine z_V ?_;rw[ho];refine jif (λh0=>?_) (λh0=>?_)
 ·refine BU (nok λT=>?_);have n0:=T.n0;have n1:=T.n1;have e:=T.e;simp only[ZD,z_d,Z9,beq_eq_false_iff_ne] at h0;rcases h0 with (h | h) | h
  ·omega
  ·omega
  ·exact h e
 simp only[Z4,decide_eq_false_iff_not,ZM,beq_iff_eq] at h0;obtain⟨⟨n0,n1⟩,hedge⟩:=h0;refine jlp (λn vs R' D'=>R' = R∧D' = D ++ F∧∃r:Nat,1≤r∧r≤t.length∧vs = [S0 b t.length cap,I r]∧n = t.length - r∧(∀k:Nat,1≤k→k < r→Hl k (rv t k)∧∀m:Nat,1≤m→m < k→0≤(rv t k).AV→(rv t m).AV≠(rv t k).AV))
  (n:=t.length - 1) ⟨rfl,rfl,1,ω,ω,rfl,rfl,λk h1 h2=>ω⟩ ?_
 rintro n e R' D' K ⟨rfl,rfl,r,r0,hr,he,hn,hinv⟩ hK;refine z_V ?_;refine jln (jlt (jif (λhc=>?_) (λhc=>?_)));rotate_left
 ·have hc:=z_g hc;refine BU ?_;rw[Bm.2 ⟨ω,ω,hedge,λq q0 q1=>?_,λq s q0 q1 s0 s1 hoo heq=>?_⟩]
  ·have:=(hinv q.toNat ω ω).1;rwa [show ((q.toNat:Nat):Int) = q from ω] at this
  ·have h1:=(hinv q.toNat ω ω).2 s.toNat ω;have h2:=(hinv s.toNat ω ω).2 q.toNat ω;rw[show ((q.toNat:Nat):Int) = q from ω,show ((s.toNat:Nat):Int) = s from ω] at h1 h2;rcases Int.lt_trichotomy q s with c | c | c
   ·exact absurd heq (h2 ω (by rw[← heq];exact hoo))
   ·exact c
   ·exact absurd heq.symm (h1 ω hoo)
 have hc:=z_f hc;have hrl:r < t.length:=ω
 have hrv:=E5 hrl;have hb:=CO (r:=(r:Int)) ω ω;refine AR (λvs R2 D2=>R2 = R'∧D2 = D ++ F∧vs = [S0 b t.length cap,I r]∧Hl r (rv t r)∧∀m:Nat,1≤m→m < r→0≤(rv t r).AV→(rv t m).AV≠(rv t r).AV) (λK2 hK2=>?_) ?_;rotate_left
 ·rintro e _ _ ⟨rfl,rfl,he,hrow,hun⟩;refine z_V ?_;refine jad ?_;refine hK (t.length - (r + 1)) _ _ _ ω ⟨rfl,rfl,r + 1,ω,ω,rfl,rfl,λk k1 k2=>?_⟩;by_cases c:k = r
  ·subst c;exact⟨hrow,hun⟩
  ·exact hinv k k1 ω
 refine AR (λvs R2 D2=>R2 = R'∧D2 = D ++ F∧vs = [S0 b t.length cap,I r]∧Hl r (rv t r)∧∀m:Nat,1≤m→m < r→0≤(rv t r).AV→(rv t m).AV≠(rv t r).AV) (λK3 hK3=>?_) ?_;rotate_left
 ·rintro e _ _ ⟨rfl,rfl,he,hrow,hun⟩;refine z_V ?_;exact hK2 _ _ _ ⟨rfl,rfl,rfl,hrow,hun⟩
 refine jia ω ω ?_;refine jla (l:=eRg (t[r])) (by rw[Z6];exact F6 hrl) (by rw[Z6];exact DQ (f:=eRg) (w:=5) (λ_=>rfl) hrl) ?_;refine ja λbx=>?_
 refine js (cs':=eRg (t[r])) rfl rfl σ rfl ?_;refine jp (Bc r) ?_;rw[hb];refine jor [S0 b t.length cap,I r,Pt bx,I (16 * (r:Int))] (decide (t[r].kind < 1) || decide (t[r].kind > 4)) (λK' hK'=>?_) (λe c u ho he=>?_)
 ·refine jl (v:=I t[r].kind) rfl (jlt (BR (λh1=>?_) (λh1=>?_)))
  ·have h1':=h1;simp only[Z4,decide_eq_false_iff_not] at h1';refine jl (v:=I t[r].kind) rfl (jgr (hK' _ _ _ (h1▸Ah) (by rw[h1,Yl])))
  ·exact hK' _ _ _ (h1▸Am) (by rw[h1,Yo])
 refine z_V ?_;refine jor [S0 b t.length cap,I r,Pt bx,I (16 * (r:Int))] ((decide (t[r].kind < 1) || decide (t[r].kind > 4)) || decide (t[r].top < 16 * r)) (λK' hK'=>?_) (λe c u ho he=>?_)
 ·rw[ho];refine BR (λh1=>?_) (λh1=>?_)
  ·have h1':=h1;simp only[Z4,decide_eq_false_iff_not] at h1';refine jl (v:=I t[r].top) rfl (jlt (hK' _ _ _ (h1▸Ah) (by rw[h1,Yl])))
  ·exact hK' _ _ _ (h1▸Am) (by rw[h1,Yo])
 refine z_V ?_;refine jor [S0 b t.length cap,I r,Pt bx,I (16 * (r:Int))] (((decide (t[r].kind < 1) || decide (t[r].kind > 4)) || decide (t[r].top < 16 * r)) || decide (t[r].top > 16 * r + 16)) (λK' hK'=>?_) (λe c u ho he=>?_)
 ·rw[ho];refine BR (λh1=>?_) (λh1=>?_)
  ·have h1':=h1;simp only[Z4,decide_eq_false_iff_not] at h1';refine jl (v:=I t[r].top) rfl (jad (jgr (hK' _ _ _ (h1▸Ah) (by rw[h1,Yl]))))
  ·exact hK' _ _ _ (h1▸Am) (by rw[h1,Yo])
 refine z_V ?_;refine jor [S0 b t.length cap,I r,Pt bx,I (16 * (r:Int))] ((((decide (t[r].kind < 1) || decide (t[r].kind > 4)) || decide (t[r].top < 16 * r)) || decide (t[r].top > 16 * r + 16)) || decide (t[r].BE < 16 * r)) (λK' hK'=>?_) (λe c u ho he=>?_)
 ·rw[ho];refine BR (λh1=>?_) (λh1=>?_)
  ·have h1':=h1;simp only[Z4,decide_eq_false_iff_not] at h1';refine jl (v:=I t[r].BE) rfl (jlt (hK' _ _ _ (h1▸Ah) (by rw[h1,Yl])))
  ·exact hK' _ _ _ (h1▸Am) (by rw[h1,Yo])
 refine z_V ?_;refine jor [S0 b t.length cap,I r,Pt bx,I (16 * (r:Int))] (((((decide (t[r].kind < 1) || decide (t[r].kind > 4)) || decide (t[r].top < 16 * r)) || decide (t[r].top > 16 * r + 16)) || decide (t[r].BE < 16 * r)) || decide (t[r].BE > t[r].top)) (λK' hK'=>?_) (λe c u ho he=>?_)
 ·rw[ho];refine BR (λh1=>?_) (λh1=>?_)
  ·have h1':=h1;simp only[Z4,decide_eq_false_iff_not] at h1';refine jl (v:=I t[r].BE) rfl (jl (v:=I t[r].top) rfl (jgr (hK' _ _ _ (h1▸Ah) (by rw[h1,Yl]))))
  ·exact hK' _ _ _ (h1▸Am) (by rw[h1,Yo])
 refine z_V ?_;refine jor [S0 b t.length cap,I r,Pt bx,I (16 * (r:Int))] ((((((decide (t[r].kind < 1) || decide (t[r].kind > 4)) || decide (t[r].top < 16 * r)) || decide (t[r].top > 16 * r + 16)) || decide (t[r].BE < 16 * r)) || decide (t[r].BE > t[r].top)) || decide (t[r].AO < 0)) (λK' hK'=>?_) (λe c u ho he=>?_)
 ·rw[ho];refine BR (λh1=>?_) (λh1=>?_)
  ·have h1':=h1;simp only[Z4,decide_eq_false_iff_not] at h1';refine jl (v:=I t[r].AO) rfl (jlt (hK' _ _ _ (h1▸Ah) (by rw[h1,Yl])))
  ·exact hK' _ _ _ (h1▸Am) (by rw[h1,Yo])
 refine z_V ?_;refine jor [S0 b t.length cap,I r,Pt bx,I (16 * (r:Int))] (((((((decide (t[r].kind < 1) || decide (t[r].kind > 4)) || decide (t[r].top < 16 * r)) || decide (t[r].top > 16 * r + 16)) || decide (t[r].BE < 16 * r)) || decide (t[r].BE > t[r].top)) || decide (t[r].AO < 0)) || decide (t[r].AO > t[r].top - 16 * r)) (λK' hK'=>?_) (λe c u ho he=>?_)
 ·rw[ho];refine BR (λh1=>?_) (λh1=>?_)
  ·have h1':=h1;simp only[Z4,decide_eq_false_iff_not] at h1';refine jl (v:=I t[r].AO) rfl (jl (v:=I t[r].top) rfl (jsu (jgr (hK' _ _ _ (h1▸Ah) (by rw[h1,Yl])))))
  ·exact hK' _ _ _ (h1▸Am) (by rw[h1,Yo])
 refine z_V ?_;rw[ho];refine jif (λh0=>?_) (λh0=>?_)
 ·refine Bn (BU (nok λT=>?_));have P:=T.row r ω ω;rw[hrv] at P;obtain⟨p1,p2,p3,p4,p5,p6,p7,p8,_⟩:=P;simp only[ZD,z_d] at h0;omega
 simp only[Z4,decide_eq_false_iff_not] at h0;obtain⟨⟨⟨⟨⟨⟨⟨q1,q2⟩,q3⟩,q4⟩,q5⟩,q6⟩,q7⟩,q8⟩:=h0;refine jan [S0 b t.length cap,I r,Pt bx] (t[r].kind == 1 && t[r].top != 16 * (r:Int)) (λK' hK'=>?_) (λe c u ho he=>?_)
 ·refine jl (v:=I t[r].kind) rfl (jeq (Bt (λh1=>?_) (λh1=>?_)))
  ·exact jl (v:=I t[r].top) rfl (jne (hK' _ _ _ (h1▸Ax) (by rw[h1,Z2])))
  ·exact hK' _ _ _ (h1▸BB) (by rw[h1,Z3])
 refine z_V ?_;rw[ho];refine jif (λh0=>?_) (λh0=>?_)
 ·refine Bn (BU (nok λT=>?_));have P:=T.row r ω ω;rw[hrv] at P;have p9:=P.fr;simp only[z_b,beq_iff_eq,bne_iff_ne,ne_eq] at h0;exact h0.2 (p9 h0.1)
 have hfr:t[r].kind = 1→t[r].top = 16 * r:=λhk=>by
  simp only[hk,beq_self_eq_true,Z2,bne_eq_false_iff_eq] at h0;exact h0
 clear h0;refine jor [S0 b t.length cap,I r,Pt bx] (((t[r].kind == 2) != decide (t[r].AV≥0)) || decide (t[r].AV < -1)) (λK' hK'=>?_) (λe c u ho he=>?_)
 ·refine jl (v:=I t[r].kind) rfl (jeq (jl (v:=I t[r].AV) rfl (jge ?_)));refine @jxb (t[r].kind == 2) (decide (t[r].AV≥0)) _ _ _ _ _ ?_;refine BR (λh1=>?_) (λh1=>?_)
  ·exact jl (v:=I t[r].AV) rfl (jlt (hK' _ _ _ (h1▸Ah) (by rw[h1,Yl])))
  ·exact hK' _ _ _ (h1▸Am) (by rw[h1,Yo])
 refine z_V ?_;refine jor [S0 b t.length cap,I r,Pt bx] ((((t[r].kind == 2) != decide (t[r].AV≥0)) || decide (t[r].AV < -1)) || decide (t[r].AV > 3)) (λK' hK'=>?_) (λe c u ho he=>?_)
 ·rw[ho];refine BR (λh1=>?_) (λh1=>?_)
  ·exact jl (v:=I t[r].AV) rfl (jgr (hK' _ _ _ (h1▸Ah) (by rw[h1,Yl])))
  ·exact hK' _ _ _ (h1▸Am) (by rw[h1,Yo])
 refine z_V ?_;rw[ho];have how:((t[r].kind == 2) != decide (t[r].AV≥0)) = false↔(t[r].kind = 2↔0≤t[r].AV):=by
  rw[bne_eq_false_iff_eq,Zb];simp
 refine jif (λh0=>?_) (λh0=>?_)
 ·refine Bn (BU (nok λT=>?_));have P:=T.row r ω ω;rw[hrv] at P;rw[how.2 P.ow] at h0;have o0:=P.o0;have o1:=P.o1;simp only[Yl,ZD,z_d] at h0;omega
 simp only[Z4,decide_eq_false_iff_not] at h0;obtain⟨⟨w1,w2⟩,w3⟩:=h0;have hrow:Hl r (rv t r):=by
  rw[hrv];exact⟨ω,ω,ω,ω,ω,ω,ω,ω,hfr,how.1 w1,ω,ω⟩
 refine AR (λvs R2 D2=>R2 = R'∧D2 = (bx,C AI (eRg (t[r]))) :: (D ++ F)∧vs = [S0 b t.length cap,I r]∧∀m:Nat,1≤m→m < r→0≤(rv t r).AV→(rv t m).AV≠(rv t r).AV) (λK4 hK4=>?_) ?_;rotate_left
 ·rintro e _ _ ⟨rfl,rfl,he,hun⟩;refine z_V ?_;exact Bn (hK3 _ _ _ ⟨rfl,rfl,rfl,hrow,hun⟩)
 refine jlp (λn vs R2 D2=>R2 = R'∧D2 = (bx,C AI (eRg (t[r]))) :: (D ++ F)∧∃k:Nat,1≤k∧k≤r∧vs = [S0 b t.length cap,I r,Pt bx,I k]∧n = r - k∧∀m:Nat,1≤m→m < k→0≤(rv t r).AV→(rv t m).AV≠(rv t r).AV)
  (n:=r - 1) ⟨rfl,rfl,1,ω,ω,rfl,rfl,λm h1 h2=>ω⟩ ?_
 rintro n e _ _ K' ⟨rfl,rfl,k,k0,k1,he,hn,hun⟩ hK';refine z_V ?_;refine jlt (jif (λhd=>?_) (λhd=>?_));rotate_left
 ·have hd:=z_g hd;exact hK4 _ _ _ ⟨rfl,rfl,rfl,λm h1 h2=>hun m h1 ω⟩
 have hd:=z_f hd;have hkl:k < t.length:=ω
 refine jan [S0 b t.length cap,I r,Pt bx,I k] (decide (t[r].AV≥0) && t[k].AV == t[r].AV) (λK5 hK5=>?_) (λe c u ho he=>?_)
 ·refine jl (v:=I t[r].AV) rfl (jge (Bt (λh1=>?_) (λh1=>?_)))
  ·refine jia ω ω ?_;refine jl (v:=I t[k].AV) (by rw[Z6];exact C6 (f:=1) hkl rfl) ?_;exact jl (v:=I t[r].AV) rfl (jeq (hK5 _ _ _ (h1▸Ax) (by rw[h1,Z2])))
  ·exact hK5 _ _ _ (h1▸BB) (by rw[h1,Z3])
 refine z_V ?_;rw[ho];refine jif (λh0=>?_) (λh0=>?_)
 ·refine Bn (BU (nok λT=>?_));simp only[z_b,z_d,beq_iff_eq] at h0;have:=T.own r k ω ω ω ω (by rw[hrv];exact h0.1) (by rw[hrv,E5 hkl];exact h0.2.symm);omega
 refine jad ?_;refine hK' (r - (k + 1)) _ _ _ ω ⟨rfl,rfl,k + 1,ω,ω,rfl,rfl,λm h1 h2 hoo=>?_⟩;by_cases c:m = k
 ·subst c;rw[hrv] at hoo ⊢;rw[E5 hkl];intro heq;simp[heq,hoo] at h0
 ·exact hun m h1 ω hoo
end A0
def Mk (f:Nat) (args:List Value) (R:RM) (D:Chs) (q:Value→Chs→Prop):Prop:=Fn P f args R D λv _ A=>∃N,A = N ++ D∧q v N
theorem jmk {f:Nat} {args:List Value} {R:RM} {D:Chs} {q:Value→Chs→Prop} {k:Value→M} (hF:Mk f args R D q) (H:∀v N,q v N→J R (N ++ D) (k v)):J R D (CA P f args k):=by
 intro h hs;refine FB ?_ (hF [] h (by simpa using hs));rintro v' h' ⟨R',A',h1,h2,N,rfl,hq⟩;exact H v' N hq h' (by simpa using h2.le h1)
theorem DN {v:Value} {R:RM} {D E G F:Chs} {q:Value→Chs→Prop} (N:Chs) (hv:q v N) [s:Sp G N E] [x:Sf E (D ++ F)]:J R G (Ey R F (λv _ A=>∃N,A = N ++ D∧q v N) v):=by
 intro h hs;obtain⟨X,hX⟩:=x.p;refine⟨R,N ++ D,RM.le.refl R,?_,N,rfl,hv⟩;have h1:=hs.perm s.p;subst hX;have:St h R (X ++ (N ++ D ++ F)):=h1.perm (by
  rw[Yr N D F,← Yr N X,← Yr X N]
  exact aN _ Zv)
 exact this.drop
theorem jex {R:RM} {D:Chs} {i:Nat} {vs:Array Value} {v:Value} {k:Value→M} (h:vs.toList[i]? = some v) (H:J R D (k v)):J R D (EX i (.tuple vs) k):=by
 have e:EX i (.tuple vs) k = k v:=by simp only[EX,h]
 rw[e];exact H
theorem C5 {R:RM} {D:Chs} {k:Value→M} {n b off len cap r:Nat} (h:r < len) (H:J R D (k (.pointer (some ⟨b,off + r * n,none⟩)))):J R D (IA n (.slice (some ⟨b,off,none⟩) len cap) (I (r:Int)) k):=
 jia ω ω (by rw[Yj];exact H)
def Vy (t:List Rg) (v:Value) (N:Chs):Prop:=∃b c sp,t.length≤c∧v = S0 b t.length c∧N = [(b,C AI (Ac eRg t ++ sp))]
def WD (r:Option (List Rg × Int)) (v:Value) (N:Chs):Prop:=match r with
 | none=>v = .tuple #[SN,I 0,.bool false]∧N = []
 | some (t',i)=>∃sv,Vy t' sv N∧v = .tuple #[sv,I i,.bool true]
def WF (r:Option (List Rg)) (v:Value) (N:Chs):Prop:=match r with
 | none=>v = .tuple #[SN,.bool false]∧N = []
 | some t'=>∃sv,Vy t' sv N∧v = .tuple #[sv,.bool true]
theorem GR {t:List Rg} {sp:List Value} {b i:Nat} {x:Rg} {R:RM} {D D' : Chs} {m:M} (hi:i < t.length) [a:At D b (C AI (Ac eRg t ++ sp))] [u:Up D b (C AI (Ac eRg t ++ sp)) (C AI (Ac eRg (t.set i x) ++ sp)) D'] (H:J R D' m):J R D (ST 5 (.pointer (some ⟨b,0 + i * 5,none⟩)) (.agg (eRg x).toArray) m):=by
 rw[Z6];exact js (cs:=Ac eRg t ++ sp) (cs':=Ac eRg (t.set i x) ++ sp) rfl rfl (F6 hi) (M6 (f:=eRg) (w:=5) (λ_=>rfl) hi) H
theorem MI {t:List Rg} {sp:List Value} {b i:Nat} {R:RM} {D:Chs} {k:Value→M} (hi:i < t.length) [a:At D b (C AI (Ac eRg t ++ sp))] (H:J R D (k (.agg (eRg (t[i])).toArray))):J R D (LA 5 (.pointer (some ⟨b,0 + i * 5,none⟩)) k):=by
 rw[Z6];exact jla (cs:=Ac eRg t ++ sp) (F6 hi) (DQ (f:=eRg) (w:=5) (λ_=>rfl) hi) H
section A0
variable {t:List Rg} {sp:List Value} {b cap:Nat} {R:RM} {D:Chs}
theorem FV (hl:t.length < 1000000) [a:At D b (C AI (Ac eRg t ++ sp))]:Mk Jr [S0 b t.length cap] R D (Vy t):=by
 refine PR λF=>?_
 refine z_1 ?_;have hsz:=DL (f:=eRg) (w:=5) (λ_=>rfl) t;refine jbs (cs:=[]) rfl rfl λb0=>?_
 have hr:BY R ((b0,C 66 []) :: (D ++ F)) (some ⟨b,0,none⟩) (t.length * 5) (Ac eRg t):=by
  have:=BY.held (R:=R) (D:=(b0,C 66 []) :: (D ++ F)) (b:=b) (o:=0) (n:=t.length * 5) (t:=AI) (cs:=Ac eRg t ++ sp) (by simp[hsz]);rw[Zr,ZZ ω,← hsz,List.take_length] at this;rw[← hsz];exact this
 refine T6 (new:=Ac eRg t) hr δ ω (λ_=>rfl) (λh0=>?_) (λb' c hc=>?_)
 ·have ht:t = []:=ZL.1 h0;subst ht;exact DN [(b0,C 66 [])] ⟨b0,0,[],z_n _,rfl,rfl⟩
 ·exact DN [(b',C 66 (Ac eRg t ++ (List.replicate (c - t.length) (cl z66)).flatten))] ⟨b',c,_,hc,rfl,rfl⟩
theorem J0 (AV:Int) (hl:t.length < 1000000) [a:At D b (C AI (Ac eRg t ++ sp))]:Mk H9 [S0 b t.length cap,I AV] R D (WD (CF t AV)):=by
 refine Lj λF=>?_
 refine z_2 ?_;refine jor [S0 b t.length cap,I AV] (!BT t || decide (AV < 0)) (λK' hK'=>?_) (λe c u ho he=>?_)
 ·refine jro (Ej hl) (BR (λh1=>?_) (λh1=>?_))
  ·exact jlt (hK' _ _ _ (h1▸Ah) (by rw[h1,Yl]))
  ·exact hK' _ _ _ (h1▸Am) (by rw[h1,Yo])
 refine z_V ?_;refine jor [S0 b t.length cap,I AV] ((!BT t || decide (AV < 0)) || decide (AV > 3)) (λK' hK'=>?_) (λe c u ho he=>?_)
 ·rw[ho];refine BR (λh1=>?_) (λh1=>?_)
  ·exact jgr (hK' _ _ _ (h1▸Ah) (by rw[h1,Yl]))
  ·exact hK' _ _ _ (h1▸Am) (by rw[h1,Yo])
 refine z_V ?_;refine jor [S0 b t.length cap,I AV] (((!BT t || decide (AV < 0)) || decide (AV > 3)) || decide (own t AV≥0)) (λK' hK'=>?_) (λe c u ho he=>?_)
 ·rw[ho];refine BR (λh1=>?_) (λh1=>?_)
  ·exact jro (Qh AV hl) (jge (hK' _ _ _ (h1▸Ah) (by rw[h1,Yl])))
  ·exact hK' _ _ _ (h1▸Am) (by rw[h1,Yo])
 refine z_V ?_;rw[ho];refine jif (λh0=>?_) (λh0=>?_)
 ·refine DN [] ?_;have:CF t AV = none:=by
   unfold CF;rw[if_neg];intro hh;simp only[ZD,Z9,z_d,z_b] at h0 hh;rcases h0 with ((h | h) | h) | h
   ·rw[hh.1.1.1] at h;cases h
   ·omega
   ·omega
   ·omega
  rw[this];exact⟨rfl,rfl⟩
 simp only[Z4,ZM,decide_eq_false_iff_not] at h0;obtain⟨⟨⟨hok,h2⟩,h3⟩,h4⟩:=h0;have n1:=(Bm.1 hok).n1;have eq:CF t AV = (let i:=C7 (λx=>x.kind == 1) 1 t.tail;if i < 0 then none else some (AT t i ⟨2,AV,AH i,AH i,0⟩,i)):=by
  unfold CF;rw[if_pos (by simp[hok];omega)]
 refine AR (λvs R' D'=>R' = R∧D' = D ++ F∧vs = []∧CF t AV = none) (λK2 hK2=>?_) ?_;rotate_left
 ·rintro e _ _ ⟨rfl,rfl,-,hn⟩;exact DN [] (by rw[hn];exact⟨rfl,rfl⟩)
 refine jlp (λn vs R' D'=>R' = R∧D' = D ++ F∧∃r:Nat,1≤r∧r≤t.length + 1∧vs = [S0 b t.length cap,I AV,I r]∧n = t.length + 1 - r∧C7 (λx=>x.kind == 1) 1 t.tail = C7 (λx=>x.kind == 1) r (t.drop r))
  (n:=t.length) ⟨rfl,rfl,1,ω,ω,rfl,ω,by rw[List.drop_one]⟩ ?_
 rintro n e R' D' K ⟨rfl,rfl,r,r0,hr,he,hn,hown⟩ hK;refine z_V ?_;refine jln (jlt (jif (λhc=>?_) (λhc=>?_)));rotate_left
 ·have hc:=z_g hc;refine hK2 _ _ _ ⟨rfl,rfl,rfl,?_⟩;rw[eq,hown,Yz ω];rfl
 have hc:r < t.length:=by have:=z_f hc;omega
 have hd:t.drop r = t[r] :: t.drop (r + 1):=Yv hc;rw[hd] at hown;simp only[C7] at hown;refine jia ω ω ?_;refine jl (v:=I t[r].kind) (by rw[Z6];exact C6 (f:=0) hc rfl) ?_;refine jeq (jif (λh=>?_) (λh=>?_))
 ·rw[if_pos h] at hown;refine jmk (FV hl) ?_;rintro _ _ ⟨b',c',sp',hc',rfl,rfl⟩;refine jp (Bc r) (jp (Bc r) ?_);refine jbd (cs:=eRg ⟨2,AV,AH r,AH r,0⟩) rfl rfl ?_;refine C5 hc ?_;refine GR (x:=⟨2,AV,AH r,AH r,0⟩) hc ?_;refine DN [(b',C AI (Ac eRg (t.set r ⟨2,AV,AH r,AH r,0⟩) ++ sp'))] ?_;rw[eq,hown];simp only;rw[if_neg ω];refine⟨_,⟨b',c',sp',?_,rfl,?_⟩,?_⟩
  ·simpa [AT] using hc'
  ·simp[AT]
  ·simp
 ·rw[if_neg (by rw[h];decide)] at hown;refine jad ?_;exact hK (t.length + 1 - (r + 1)) _ _ _ ω ⟨rfl,rfl,r + 1,ω,ω,rfl,rfl,hown⟩
end A0
section A0
variable {t:List Rg} {sp:List Value} {b cap:Nat} {R:RM} {D:Chs}
theorem NB (r:Int) (hl:t.length < 1000000) [a:At D b (C AI (Ac eRg t ++ sp))]:Mk GJ [S0 b t.length cap,I r] R D (WF (Cm t r)):=by
 refine KR λF=>?_
 refine z_2 ?_;refine jor [S0 b t.length cap,I r] (!BT t || decide (r < 1)) (λK' hK'=>?_) (λe c u ho he=>?_)
 ·refine jro (Ej hl) (BR (λh1=>?_) (λh1=>?_))
  ·exact jlt (hK' _ _ _ (h1▸Ah) (by rw[h1,Yl]))
  ·exact hK' _ _ _ (h1▸Am) (by rw[h1,Yo])
 refine z_V ?_;refine jor [S0 b t.length cap,I r] ((!BT t || decide (r < 1)) || decide (r≥t.length)) (λK' hK'=>?_) (λe c u ho he=>?_)
 ·rw[ho];refine BR (λh1=>?_) (λh1=>?_)
  ·exact jln (jge (hK' _ _ _ (h1▸Ah) (by rw[h1,Yl])))
  ·exact hK' _ _ _ (h1▸Am) (by rw[h1,Yo])
 refine z_V ?_;refine jor [S0 b t.length cap,I r] (((!BT t || decide (r < 1)) || decide (r≥t.length)) || (rv t r).kind != 2) (λK' hK'=>?_) (λe c u ho he=>?_)
 ·rw[ho];refine BR (λh1=>?_) (λh1=>?_)
  ·have h1':=h1;simp only[Z4,decide_eq_false_iff_not] at h1';obtain⟨k,rfl⟩:∃k:Nat,r = k:=⟨r.toNat,ω⟩;have hk:k < t.length:=ω
   refine C5 hk ?_;refine jl (v:=I t[k].kind) (by rw[Z6];exact C6 (f:=0) hk rfl) ?_;exact jne (hK' _ _ _ (h1▸Ah) (by rw[h1,Yl,E5 hk]))
  ·exact hK' _ _ _ (h1▸Am) (by rw[h1,Yo])
 refine z_V ?_;rw[ho];refine jif (λh0=>?_) (λh0=>?_)
 ·refine DN [] ?_;have:Cm t r = none:=by
   unfold Cm;split
   ·rename_i hh;simp only[ZD,Z9,z_d,z_b,bne_iff_ne,ne_eq] at h0 hh;by_cases c:r < t.length
    ·rw[DB ω c];simp only;rw[if_neg];intro h2;rcases h0 with ((h | h) | h) | h
     ·rw[hh.1] at h;cases h
     ·omega
     ·omega
     ·exact h (by simpa using h2)
    ·unfold idx;rw[if_pos ω,Zd ω]
   ·rfl
  rw[this];exact⟨rfl,rfl⟩
 simp only[Z4,ZM,decide_eq_false_iff_not,bne_eq_false_iff_eq] at h0;obtain⟨⟨⟨hok,h2⟩,h3⟩,h4⟩:=h0;obtain⟨k,rfl⟩:∃k:Nat,r = k:=⟨r.toNat,ω⟩;have hk:k < t.length:=ω
 refine jmk (FV hl) ?_;rintro _ _ ⟨b',c',sp',hc',rfl,rfl⟩;refine C5 hk (MI hk ?_);refine ja λb2=>?_
 refine js (cs':=eRg (t[k])) rfl rfl σ rfl ?_;refine js (cs':=eRg { t[k] with kind:=3 }) rfl rfl σ rfl ?_;refine js (cs':=eRg { t[k] with kind:=3,AV:=-1 }) rfl rfl σ rfl ?_;refine jla (l:=eRg { t[k] with kind:=3,AV:=-1 }) σ rfl ?_;refine C5 hk ?_;refine GR (x:={ t[k] with kind:=3,AV:=-1 }) hk ?_;refine DN [(b',C AI (Ac eRg (t.set k { t[k] with kind:=3,AV:=-1 }) ++ sp'))] ?_;have:Cm t k = some (AT t k { t[k] with kind:=3,AV:=-1 }):=by
  unfold Cm;rw[if_pos (by simp[hok];omega),DB ω ω,E5 hk];simp only;rw[E5 hk] at h4;rw[if_pos (by simpa using h4)]
 rw[this];exact⟨_,⟨b',c',sp',by simpa [AT] using hc',rfl,by simp[AT]⟩,σ⟩
theorem J8 (r:Int) (hl:t.length < 1000000) [a:At D b (C AI (Ac eRg t ++ sp))]:Mk H6 [S0 b t.length cap,I r] R D (WF (Bz t r)):=by
 refine Ld λF=>?_
 refine z_2 ?_;refine jor [S0 b t.length cap,I r] (!BT t || decide (r < 1)) (λK' hK'=>?_) (λe c u ho he=>?_)
 ·refine jro (Ej hl) (BR (λh1=>?_) (λh1=>?_))
  ·exact jlt (hK' _ _ _ (h1▸Ah) (by rw[h1,Yl]))
  ·exact hK' _ _ _ (h1▸Am) (by rw[h1,Yo])
 refine z_V ?_;refine jor [S0 b t.length cap,I r] ((!BT t || decide (r < 1)) || decide (r≥t.length)) (λK' hK'=>?_) (λe c u ho he=>?_)
 ·rw[ho];refine BR (λh1=>?_) (λh1=>?_)
  ·exact jln (jge (hK' _ _ _ (h1▸Ah) (by rw[h1,Yl])))
  ·exact hK' _ _ _ (h1▸Am) (by rw[h1,Yo])
 refine z_V ?_;refine jor [S0 b t.length cap,I r] (((!BT t || decide (r < 1)) || decide (r≥t.length)) || (rv t r).kind == 1) (λK' hK'=>?_) (λe c u ho he=>?_)
 ·rw[ho];refine BR (λh1=>?_) (λh1=>?_)
  ·have h1':=h1;simp only[Z4,decide_eq_false_iff_not] at h1';obtain⟨k,rfl⟩:∃k:Nat,r = k:=⟨r.toNat,ω⟩;have hk:k < t.length:=ω
   refine C5 hk ?_;refine jl (v:=I t[k].kind) (by rw[Z6];exact C6 (f:=0) hk rfl) ?_;exact jeq (hK' _ _ _ (h1▸Ah) (by rw[h1,Yl,E5 hk]))
  ·exact hK' _ _ _ (h1▸Am) (by rw[h1,Yo])
 refine z_V ?_;rw[ho];refine jif (λh0=>?_) (λh0=>?_)
 ·refine DN [] ?_;have:Bz t r = none:=by
   unfold Bz;split
   ·rename_i hh;simp only[ZD,Z9,z_d,z_b,beq_iff_eq] at h0 hh;by_cases c:r < t.length
    ·rw[DB ω c];simp only;rcases h0 with ((h | h) | h) | h
     ·rw[hh.1] at h;cases h
     ·omega
     ·omega
     ·rw[if_pos (by simpa using h)]
    ·unfold idx;rw[if_pos ω,Zd ω]
   ·rfl
  rw[this];exact⟨rfl,rfl⟩
 simp only[Z4,ZM,decide_eq_false_iff_not,beq_eq_false_iff_ne] at h0;obtain⟨⟨⟨hok,h2⟩,h3⟩,h4⟩:=h0;obtain⟨k,rfl⟩:∃k:Nat,r = k:=⟨r.toNat,ω⟩;have hk:k < t.length:=ω
 refine jmk (FV hl) ?_;rintro _ _ ⟨b',c',sp',hc',rfl,rfl⟩;refine jp (Bc k) (jp (Bc k) ?_);refine jbd (cs:=eRg (DH k)) rfl rfl ?_;refine C5 hk ?_;refine GR (x:=DH k) hk ?_;refine DN [(b',C AI (Ac eRg (t.set k (DH k)) ++ sp'))] ?_;have:Bz t k = some (AT t k (DH k)):=by
  unfold Bz;rw[if_pos (by simp[hok];omega),DB ω ω];simp only;rw[if_neg (by simpa using h4)]
 rw[this];exact⟨_,⟨b',c',sp',by simpa [AT] using hc',rfl,by simp[AT]⟩,σ⟩
theorem GN (AV size:Int) (hl:t.length < 1000000) [a:At D b (C AI (Ac eRg t ++ sp))]:Mk Gv [S0 b t.length cap,I AV,I size] R D (WD (BX t AV size)):=by
 refine LV λF=>?_
 refine z_3 ?_;refine jor [S0 b t.length cap,I AV,I size] (!BT t || decide (AV < 0)) (λK' hK'=>?_) (λe c u ho he=>?_)
 ·refine jro (Ej hl) (BR (λh1=>?_) (λh1=>?_))
  ·exact jlt (hK' _ _ _ (h1▸Ah) (by rw[h1,Yl]))
  ·exact hK' _ _ _ (h1▸Am) (by rw[h1,Yo])
 refine z_V ?_;refine jor [S0 b t.length cap,I AV,I size] ((!BT t || decide (AV < 0)) || decide (AV > 3)) (λK' hK'=>?_) (λe c u ho he=>?_)
 ·rw[ho];refine BR (λh1=>?_) (λh1=>?_)
  ·exact jgr (hK' _ _ _ (h1▸Ah) (by rw[h1,Yl]))
  ·exact hK' _ _ _ (h1▸Am) (by rw[h1,Yo])
 refine z_V ?_;refine jor [S0 b t.length cap,I AV,I size] (((!BT t || decide (AV < 0)) || decide (AV > 3)) || decide (size < 1)) (λK' hK'=>?_) (λe c u ho he=>?_)
 ·rw[ho];refine BR (λh1=>?_) (λh1=>?_)
  ·exact jlt (hK' _ _ _ (h1▸Ah) (by rw[h1,Yl]))
  ·exact hK' _ _ _ (h1▸Am) (by rw[h1,Yo])
 refine z_V ?_;refine jor [S0 b t.length cap,I AV,I size] ((((!BT t || decide (AV < 0)) || decide (AV > 3)) || decide (size < 1)) || decide (size > 16)) (λK' hK'=>?_) (λe c u ho he=>?_)
 ·rw[ho];refine BR (λh1=>?_) (λh1=>?_)
  ·exact jgr (hK' _ _ _ (h1▸Ah) (by rw[h1,Yl]))
  ·exact hK' _ _ _ (h1▸Am) (by rw[h1,Yo])
 refine z_V ?_;rw[ho];refine jif (λh0=>?_) (λh0=>?_)
 ·refine DN [] ?_;have:BX t AV size = none:=by
   unfold BX;rw[if_neg];intro hh;simp only[ZD,Z9,z_d,z_b] at h0 hh;rcases h0 with (((h | h) | h) | h) | h
   ·rw[hh.1.1.1.1] at h;cases h
   ·omega
   ·omega
   ·omega
   ·omega
  rw[this];exact⟨rfl,rfl⟩
 simp only[Z4,ZM,decide_eq_false_iff_not] at h0;obtain⟨⟨⟨⟨hok,h2⟩,h3⟩,h4⟩,h5⟩:=h0;have T:=Bm.1 hok;have n1:=T.n1;have eq:BX t AV size = (match (if 0≤own t AV then idx t (own t AV) else none) with
  | some x=>if x.top + size≤AH (own t AV) + 16 then some (t,x.top) else
    (match CF ((Cm t (own t AV)).getD []) AV with | some (u,n)=>some (u,AH n) | none=>none)
  | none=>(match CF t AV with | some (u,n)=>some (u,AH n) | none=>none)):=by
  unfold BX;rw[if_pos (by simp[hok];omega)];rfl
 refine jro (Qh AV hl) ?_;have hown:own t AV < 0∨(1≤own t AV∧own t AV < t.length∧(rv t (own t AV)).kind = 2):=by
  rcases FR (λx=>x.kind == 2 && x.AV == AV) t with ⟨h,_⟩ | ⟨h,h',h''⟩
  ·left;unfold own;rw[h];decide
  ·right;simp only[z_b] at h'';exact⟨h,h',by have:=h''.1;exact eq_of_beq this⟩
 rcases hown with hneg | ⟨hp,hlt,hk2⟩
 ·have hb:decide (own t AV≥0) = false:=decide_eq_false ω;rw[if_neg ω] at eq;refine CQ (CQ (jge ?_));rw[hb];refine jft (Bv λe he=>?_);refine z_V ?_;refine jft (EI (Af jev (Bv λe he=>?_)));refine z_V ?_;refine CL (jmk (FV hl) ?_);rintro _ _ ⟨b',c',sp',hc',rfl,rfl⟩;refine CQ (jge ?_);rw[hb];refine CL (Bv λe he=>?_);refine z_V ?_;refine jmk (J0 AV hl) ?_;intro v N hq;cases htk:CF t AV with
  | none=>
   rw[htk] at hq eq;obtain⟨rfl,rfl⟩:=hq;refine jex rfl (jex rfl (jex rfl (DI ?_)));exact DN [] (by rw[eq];exact⟨rfl,rfl⟩)
  | some un=>
   obtain⟨u,n⟩:=un;rw[htk] at hq eq;obtain⟨sv,⟨b2,c2,sp2,hc2,rfl,rfl⟩,rfl⟩:=hq;refine jex rfl (jex rfl (jex rfl (CL (jp (Bc n) ?_))));exact DN [(b2,C AI (Ac eRg u ++ sp2))] (by rw[eq];exact⟨_,⟨b2,c2,sp2,hc2,rfl,rfl⟩,rfl⟩)
 ·have hb:decide (own t AV≥0) = true:=decide_eq_true ω;have RR:=T.row _ hp hlt;have t0:=RR.t0;have t1:=RR.t1;obtain⟨k,hkk⟩:∃k:Nat,own t AV = k:=⟨(own t AV).toNat,ω⟩;rw[hkk] at eq hb t0 t1 hk2 ⊢;have hk:k < t.length:=ω
  rw[E5 hk] at t0 t1;have hbase:=CO (r:=(k:Int)) ω ω;rw[if_pos ω,DB ω ω,E5 hk] at eq;simp only at eq;refine CQ (CQ (jge ?_));rw[hb];refine jtt (C5 hk (jl (v:=I t[k].top) (by rw[Z6];exact C6 (f:=2) hk rfl) (jad (Bv λe he=>?_))));refine z_V ?_;refine jtt (jp (Bc k) (jad (jle (EA (Af (jl (v:=I t[k].top) (by rw[Z6];exact C6 (f:=2) hk rfl) jev) (Bv λe he=>?_))))));refine z_V ?_;refine jif (λhfit=>?_) (λhfit=>?_)
  ·rw[if_pos (z_f hfit)] at eq;refine C5 hk (jl (v:=I t[k].top) (by rw[Z6];exact C6 (f:=2) hk rfl) (jmk (FV hl) ?_));rintro _ _ ⟨b',c',sp',hc',rfl,rfl⟩;refine Af (jl (v:=I t[k].top) (by rw[Z6];exact C6 (f:=2) hk rfl) jev) (Af (jl (v:=I t[k].top) (by rw[Z6];exact C6 (f:=2) hk rfl) jev) ?_);exact DN [(b',C AI (Ac eRg t ++ sp'))] (by rw[eq];exact⟨_,⟨b',c',sp',hc',rfl,rfl⟩,rfl⟩)
  ·rw[if_neg (z_g hfit)] at eq;refine jmk (FV hl) ?_;rintro _ _ ⟨b',c',sp',hc',rfl,rfl⟩;refine CQ (jge ?_);rw[hb];refine DI (jmk (NB k hl) ?_);intro v N hq;have hcl:Cm t k = some (AT t k { rv t k with kind:=3,AV:=-1 }):=by
    unfold Cm;rw[if_pos (by simp[hok];omega),DB ω ω];simp only;rw[if_pos (by simpa using hk2)]
   rw[hcl] at hq eq;simp only[Zi] at eq;obtain⟨sv,⟨b3,c3,sp3,hc3,rfl,rfl⟩,rfl⟩:=hq;refine jex rfl (jex rfl (Bv λe he=>?_));refine z_V ?_;refine jmk (J0 AV (by simpa using hl)) ?_;intro v N hq;cases htk:CF (AT t k { rv t k with kind:=3,AV:=-1 }) AV with
   | none=>
    rw[htk] at hq eq;obtain⟨rfl,rfl⟩:=hq;refine jex rfl (jex rfl (jex rfl (DI ?_)));exact DN [] (by rw[eq];exact⟨rfl,rfl⟩)
   | some un=>
    obtain⟨u,n⟩:=un;rw[htk] at hq eq;obtain⟨sv,⟨b2,c2,sp2,hc2,rfl,rfl⟩,rfl⟩:=hq;refine jex rfl (jex rfl (jex rfl (CL (jp (Bc n) ?_))));exact DN [(b2,C AI (Ac eRg u ++ sp2))] (by rw[eq];exact⟨_,⟨b2,c2,sp2,hc2,rfl,rfl⟩,rfl⟩)
end A0
theorem jrp {f:Nat} {args:List Value} {v:Value} {R:RM} {D:Chs} {k:Value→M} (hF:Ro f args v R []) (H:J R D (k v)):J R D (CA P f args k):=by
 intro h hs;refine FB ?_ (hF D h hs);rintro v' h' ⟨R',A',h1,h2,rfl,rfl⟩;exact H h' (h2.le h1)
theorem jfo {R:RM} {D:Chs} {o b off:Nat} {k:Value→M} (H:J R D (k (.pointer (some ⟨b,off + o,none⟩)))):J R D (FO o (.pointer (some ⟨b,off,none⟩)) k):=H
theorem WV (o:Sm.Op):Pu Oz [.agg (eOp o).toArray] (.bool (Q5 o)):=by
 intro R;refine U2 λF=>?_
 refine z_1 ?_;refine ja λb=>?_
 have e0:cl (.agg (eOp o).toArray) = eOp o:=rfl;rw[e0];refine jan [Pt b] ((decide (o.kind≥1)) && (decide (o.kind≤11))) (λK' hK'=>?_) (λe c u ho he=>?_)
 ·refine jl rfl (jge (Bt (λh1=>?_) (λh1=>?_)))
  ·refine jl rfl (jle (hK' _ _ _ (h1▸Ax) (by rw[h1,Z2])))
  ·exact hK' _ _ _ (h1▸BB) (by rw[h1,Z3])
 refine z_V ?_;refine jan [] ((decide (o.kind≥1) && decide (o.kind≤11)) && (o.kind != 1 || BP o.sh)) (λK' hK'=>?_) (λe c u ho he=>?_)
 ·rw[ho];refine Bt (λh1=>?_) (λh1=>?_)
  ·refine jl rfl (jne (BR (λh2=>?_) (λh2=>?_)))
   ·refine jfo (jla (l:=[I o.sh.refs,I o.sh.nums]) (by exact z_n 8) τ ?_);refine jp (Im o.sh) ?_;rw[h2];exact EI (hK' _ _ _ (h1▸Ax) (by rw[h1,h2,Z2,Yl]))
   ·rw[h2];exact EA (hK' _ _ _ (h1▸Ax) (by rw[h1,h2,Z2,Yo]))
  ·exact hK' _ _ _ (h1▸BB) (by rw[h1,Z3])
 refine z_V ?_;rw[ho];refine B9 (A:=[]) (RM.le.refl _) ?_;congr 1
theorem Qf (k:Int):Pu IB [I k] (.bool (E6 k)):=by
 intro R;refine N7 λF=>?_
 refine z_1 ?_;refine jor [I k] ((k == 2) || (k == 3)) (λK' hK'=>?_) (λe c u ho he=>?_)
 ·refine jeq (BR (λh1=>?_) (λh1=>?_))
  ·refine jeq (hK' _ _ _ (h1▸Ah) (by rw[h1,Yl]))
  ·exact hK' _ _ _ (h1▸Am) (by rw[h1,Yo])
 refine z_V ?_;refine jor [I k] (((k == 2) || (k == 3)) || (k == 4)) (λK' hK'=>?_) (λe c u ho he=>?_)
 ·rw[ho];refine BR (λh1=>?_) (λh1=>?_)
  ·refine jeq (hK' _ _ _ (h1▸Ah) (by rw[h1,Yl]))
  ·exact hK' _ _ _ (h1▸Am) (by rw[h1,Yo])
 refine z_V ?_;refine jor [I k] ((((k == 2) || (k == 3)) || (k == 4)) || (k == 5)) (λK' hK'=>?_) (λe c u ho he=>?_)
 ·rw[ho];refine BR (λh1=>?_) (λh1=>?_)
  ·refine jeq (hK' _ _ _ (h1▸Ah) (by rw[h1,Yl]))
  ·exact hK' _ _ _ (h1▸Am) (by rw[h1,Yo])
 refine z_V ?_;refine jor [] (((((k == 2) || (k == 3)) || (k == 4)) || (k == 5)) || (k == 7)) (λK' hK'=>?_) (λe c u ho he=>?_)
 ·rw[ho];refine BR (λh1=>?_) (λh1=>?_)
  ·refine jeq (hK' _ _ _ (h1▸Ah) (by rw[h1,Yl]))
  ·exact hK' _ _ _ (h1▸Am) (by rw[h1,Yo])
 refine z_V ?_;rw[ho];exact B9 (A:=[]) (RM.le.refl _) rfl
theorem V7 (b:Bool):Pu ML [.bool b] (I (Sm.one b)):=by
 intro R;refine Se λF=>?_
 refine z_1 ?_;cases b
 ·exact CL (B9 (A:=[]) (RM.le.refl _) rfl)
 ·exact DI (B9 (A:=[]) (RM.le.refl _) rfl)
theorem Sk (o:Sm.Op) (refs nums:Int):Pu It [.agg (eOp o).toArray,I refs,I nums] (.bool (Gp o refs nums)):=by
 intro R;refine O9 λF=>?_
 refine z_3 ?_;refine ja λb=>?_
 have e0:cl (.agg (eOp o).toArray) = eOp o:=rfl;rw[e0];refine jor [I refs,I nums,Pt b] ((o.kind == 4) || (o.kind == 5)) (λK' hK'=>?_) (λe c u ho he=>?_)
 ·refine jl rfl (jeq (BR (λh1=>?_) (λh1=>?_)))
  ·refine jl rfl (jeq (hK' _ _ _ (h1▸Ah) (by rw[h1,Yl])))
  ·exact hK' _ _ _ (h1▸Am) (by rw[h1,Yo])
 refine z_V ?_;rw[ho];refine jif (λh0=>?_) (λh0=>?_)
 ·refine jan [] ((decide (o.f≥0)) && (decide (o.f < nums))) (λK' hK'=>?_) (λe c u ho he=>?_)
  ·refine jl rfl (jge (Bt (λh1=>?_) (λh1=>?_)))
   ·refine jl rfl (jlt (hK' _ _ _ (h1▸Ax) (by rw[h1,Z2])))
   ·exact hK' _ _ _ (h1▸BB) (by rw[h1,Z3])
  refine z_V ?_;rw[ho];refine B9 (A:=[]) (RM.le.refl _) ?_;unfold Gp;rw[if_pos h0]
 ·refine jan [] ((decide (o.f≥0)) && (decide (o.f < refs))) (λK' hK'=>?_) (λe c u ho he=>?_)
  ·refine jl rfl (jge (Bt (λh1=>?_) (λh1=>?_)))
   ·refine jl rfl (jlt (hK' _ _ _ (h1▸Ax) (by rw[h1,Z2])))
   ·exact hK' _ _ _ (h1▸BB) (by rw[h1,Z3])
  refine z_V ?_;rw[ho];refine B9 (A:=[]) (RM.le.refl _) ?_;unfold Gp;rw[if_neg (by rw[h0];decide)]
end Go.Lf
end
section
namespace Go.Lf
open Go Sm
theorem CE {R:RM} {D:Chs} {v:Value} {l:List Int} {i:Int} {k:Value→M} (h:BG R v l) (h0:0≤i) (h1:i < l.length) (H:J R D (k (I (l[i.toNat]'(ω))))):J R D (IA 1 v (I i) λx=>L1 x k):=by
 rcases h with ⟨_,h2,_⟩ | ⟨b,o,cap,t,cs,rfl,h2,h3,h4,h5⟩
 ·omega
 ·refine jia h0 h1 (jlr h2 ?_ H);have:=congrArg (λl=>l[i.toNat]?) h4;simp only[Zl,ZY,ZQ] at this;rw[if_pos ω,Yi (by omega:i.toNat < l.length)] at this;rw[Zo,this];rfl
theorem In {R:RM} {D:Chs} {v:Value} {w n:Nat} {cells:List Value} {k:Value→M} (h:Fz R v w n cells) (H:J R D (k (I n))):J R D (LN v k):=by
 rcases h with ⟨rfl,rfl,_⟩ | ⟨b,o,cap,t,cs,rfl,_⟩<;>exact H
theorem SM {R:RM} {rv:Value} {AC:List Int} (o:Sm.Op) (nn:Int) (h:BG R rv AC):Ro JT [.agg (eOp o).toArray,rv,I nn] (I (DX o AC nn)) R []:=by
 refine Nl λF=>?_
 refine z_3 ?_;refine ja λb=>?_
 have e0:cl (.agg (eOp o).toArray) = eOp o:=rfl;rw[e0];refine In h ?_;refine jan [rv,I nn,Pt b,I AC.length] ((decide (o.a≥0)) && (decide (o.a < AC.length))) (λK' hK'=>?_) (λe c u ho he=>?_)
 ·refine jl rfl (jge (Bt (λh1=>?_) (λh1=>?_)))
  ·refine jl rfl (jlt (hK' _ _ _ (h1▸Ax) (by rw[h1,Z2])))
  ·exact hK' _ _ _ (h1▸BB) (by rw[h1,Z3])
 refine z_V ?_;rw[ho];refine jan [rv,I nn,Pt b,I AC.length,.bool (hnd AC.length o.a)] ((decide (o.b≥0)) && (decide (o.b < AC.length))) (λK' hK'=>?_) (λe c u ho he=>?_)
 ·refine jl rfl (jge (Bt (λh1=>?_) (λh1=>?_)))
  ·refine jl rfl (jlt (hK' _ _ _ (h1▸Ax) (by rw[h1,Z2])))
  ·exact hK' _ _ _ (h1▸BB) (by rw[h1,Z3])
 refine z_V ?_;rw[ho];refine jan [rv,I nn,Pt b,I AC.length,.bool (hnd AC.length o.a),.bool (hnd AC.length o.b)] ((decide (o.c≥0)) && (decide (o.c < AC.length))) (λK' hK'=>?_) (λe c u ho he=>?_)
 ·refine jl rfl (jge (Bt (λh1=>?_) (λh1=>?_)))
  ·refine jl rfl (jlt (hK' _ _ _ (h1▸Ax) (by rw[h1,Z2])))
  ·exact hK' _ _ _ (h1▸BB) (by rw[h1,Z3])
 refine z_V ?_;rw[ho];have fin:∀v,v = DX o AC nn→J R ((b,C 183 (eOp o)) :: ([] ++ F)) (Ey R F (λv' x A=>v' = I (DX o AC nn)∧A = []) (I v)):=λv hv=>BU (by rw[hv])
 have hA:∃A B Cc:Bool,A = (o.kind == 1 || (if o.kind == 8 then decide (0 < AC.length) else hnd AC.length o.a))∧B = (o.kind == 1 || o.kind == 8 || o.kind == 2 || o.kind == 4 || o.kind == 5 || o.kind == 9 || o.kind == 10 || o.kind == 11 || hnd AC.length o.b)∧Cc = (!(o.kind == 7) && (decide (1≤o.kind) && decide (o.kind≤11)) || hnd AC.length o.c):=⟨_,_,_,rfl,rfl,rfl⟩;obtain⟨A,B,Cc,eA,eB,eC⟩:=hA;refine C9 [rv,I nn,Pt b,I AC.length,.bool A,.bool B,.bool Cc] (λK1 hK1=>?_) (λe he=>?_)
 ·refine jl rfl ?_;refine C9 [rv,I nn,Pt b,I AC.length,.bool A,.bool B,.bool Cc] (λK2 hK2=>?_) (λe he=>?_);rotate_left
  ·refine z_V ?_;exact hK1
  have leaf:∀x y z:Bool,x = A→y = B→z = Cc→J R ((b,C 183 (eOp o)) :: ([] ++ F)) (K2 [rv,I nn,Pt b,I AC.length,.bool x,.bool y,.bool z]):=by
   rintro x y z rfl rfl rfl;exact hK2
  refine jeq (jif (λk1=>?_) (λk1=>?_))
  ·have k1:=eq_of_beq k1;refine leaf _ _ _ ?_ ?_ ?_<;>simp[eA,eB,eC,k1]
  have k1:o.kind≠1:=by simpa using k1
  refine jeq (jif (λk8=>?_) (λk8=>?_))
  ·have k8:=eq_of_beq k8;refine jgr (leaf _ _ _ ?_ ?_ ?_)<;>simp[eA,eB,eC,k8]
  have k8:o.kind≠8:=by simpa using k8
  refine AR (λvs R' D'=>R' = R∧D' = (b,C 183 (eOp o)) :: ([] ++ F)∧∃v:Bool,vs = [rv,I nn,Pt b,I AC.length,.bool (hnd AC.length o.a),.bool (hnd AC.length o.b),.bool (hnd AC.length o.c),I o.kind,.bool v]∧(v = true↔o.kind = 2∨o.kind = 4∨o.kind = 5∨o.kind = 9∨o.kind = 10∨o.kind = 11)) (λK3 hK3=>?_) ?_
  ·refine jeq (jif (λh=>hK3 _ _ _ ⟨rfl,rfl,_,rfl,?_⟩) (λn2=>?_))
   ·rw[h];simp[eq_of_beq h]
   refine jeq (jif (λh=>hK3 _ _ _ ⟨rfl,rfl,_,rfl,?_⟩) (λn4=>?_))
   ·rw[h];simp[eq_of_beq h]
   refine jeq (jif (λh=>hK3 _ _ _ ⟨rfl,rfl,_,rfl,?_⟩) (λn5=>?_))
   ·rw[h];simp[eq_of_beq h]
   refine jeq (jif (λh=>hK3 _ _ _ ⟨rfl,rfl,_,rfl,?_⟩) (λn9=>?_))
   ·rw[h];simp[eq_of_beq h]
   refine jeq (jif (λh=>hK3 _ _ _ ⟨rfl,rfl,_,rfl,?_⟩) (λn10=>?_))
   ·rw[h];simp[eq_of_beq h]
   refine jeq (hK3 _ _ _ ⟨rfl,rfl,_,rfl,?_⟩);simp only[beq_eq_false_iff_ne,ne_eq] at n2 n4 n5 n9 n10;simp[n2,n4,n5,n9,n10]
  ·rintro e R3 _ ⟨rfl,rfl,v,he,hv⟩;refine z_V ?_;refine jif (λhvt=>?_) (λhvf=>?_)
   ·have hk:=hv.1 hvt;refine leaf _ _ _ ?_ ?_ ?_
    ·simp[eA,k1,k8]
    ·rw[eB];rcases hk with h | h | h | h | h | h<;>simp[h]
    ·rw[eC];rcases hk with h | h | h | h | h | h<;>simp[h]
   ·have hk:¬ (o.kind = 2∨o.kind = 4∨o.kind = 5∨o.kind = 9∨o.kind = 10∨o.kind = 11):=λh=>by rw[hv.2 h] at hvf;cases hvf
    simp only[not_or] at hk;obtain⟨q2,q4,q5,q9,q10,q11⟩:=hk;refine AR (λvs R2 D2=>R2 = R3∧D2 = (b,C 183 (eOp o)) :: ([] ++ F)∧∃v:Bool,vs = [rv,I nn,Pt b,I AC.length,.bool (hnd AC.length o.a),.bool (hnd AC.length o.b),.bool (hnd AC.length o.c),.bool v]∧(v = true↔o.kind = 3∨o.kind = 6)) (λK3 hK3=>?_) ?_
    ·refine jeq (jif (λh=>hK3 _ _ _ ⟨rfl,rfl,_,rfl,?_⟩) (λn3=>?_))
     ·rw[h];simp[eq_of_beq h]
     refine jeq (hK3 _ _ _ ⟨rfl,rfl,_,rfl,?_⟩);simp only[beq_eq_false_iff_ne,ne_eq] at n3;simp[n3]
    ·rintro e _ _ ⟨rfl,rfl,v,he,hv⟩;refine z_V ?_;refine jif (λhvt=>?_) (λhvf=>?_)
     ·refine leaf _ _ _ ?_ ?_ ?_
      ·simp[eA,k1,k8]
      ·rw[eB];rcases hv.1 hvt with h | h<;>simp[h]
      ·rw[eC];rcases hv.1 hvt with h | h<;>simp[h]
     ·have hk:¬ (o.kind = 3∨o.kind = 6):=λh=>by rw[hv.2 h] at hvf;cases hvf
      rw[not_or] at hk;refine leaf _ _ _ ?_ ?_ ?_
      ·simp[eA,k1,k8]
      ·simp[eB,k1,k8,q2,q4,q5,q9,q10,q11]
      ·rw[eC];by_cases q7:o.kind = 7
       ·simp[q7]
       ·have:(decide (1≤o.kind) && decide (o.kind≤11)) = false:=by
         rw[aS,decide_eq_false_iff_not,decide_eq_false_iff_not];omega
        simp[this]
 refine z_V ?_;refine jor [rv,I nn,Pt b,I AC.length,.bool Cc] ((!A) || (!B)) (λK' hK'=>?_) (λe c u ho he=>?_)
 ·refine id (BR (λh1=>?_) (λh1=>?_))
  ·refine id (hK' _ _ _ (h1▸Ah) (by rw[h1,Yl]))
  ·exact hK' _ _ _ (h1▸Am) (by rw[h1,Yo])
 refine z_V ?_;refine jor [rv,I nn,Pt b,I AC.length] ((!A || !B) || (!Cc)) (λK' hK'=>?_) (λe c u ho he=>?_)
 ·rw[ho];refine BR (λh1=>?_) (λh1=>?_)
  ·refine id (hK' _ _ _ (h1▸Ah) (by rw[h1,Yl]))
  ·exact hK' _ _ _ (h1▸Am) (by rw[h1,Yo])
 refine z_V ?_;rw[ho];have fa:¬ ((!A || !B) || !Cc) = true→o.kind≠1→o.kind≠8→0≤o.a∧o.a < AC.length:=λhh k1 k8=>by
  have:A = true:=by
   cases A
   ·simp at hh
   ·rfl
  rw[this] at eA;simp[k1,k8,hnd] at eA;exact eA
 have base:DX o AC nn = if (!A || !B || !Cc) = true then 2 else if ((E6 o.kind || o.kind == 10 || o.kind == 11) && (idx AC o.a).getD 0 == nn) = true then 3 else if ((o.kind == 1 || o.kind == 2 || o.kind == 9) && AC.length == 8) = true then 5 else 0:=by
  unfold DX;rw[eA,eB,eC]
 refine jif (λh0=>fin _ (by rw[base,if_pos h0])) (λh0=>?_);have h0' : ¬ ((!A || !B) || !Cc) = true:=by rw[h0];decide
 rw[if_neg h0'] at base;have k18:∀x:Bool,x = (E6 o.kind || o.kind == 10 || o.kind == 11)→x = true→o.kind≠1∧o.kind≠8:=λx hx hx2=>by
  rw[hx2] at hx;constructor<;>intro hk<;>rw[hk] at hx<;>simp[E6] at hx
 refine jor [rv,I nn,Pt b,I AC.length] (E6 o.kind || o.kind == 10) (λK' hK'=>?_) (λe c u ho he=>?_)
 ·refine jl rfl (jp (Qf o.kind) (BR (λh1=>?_) (λh1=>?_)))
  ·exact jl rfl (jeq (hK' _ _ _ (h1▸Ah) (by rw[h1,Yl])))
  ·exact hK' _ _ _ (h1▸Am) (by rw[h1,Yo])
 refine z_V ?_;refine jor [rv,I nn,Pt b,I AC.length] ((E6 o.kind || o.kind == 10) || (o.kind == 11)) (λK' hK'=>?_) (λe c u ho he=>?_)
 ·rw[ho];refine BR (λh1=>?_) (λh1=>?_)
  ·refine jl rfl (jeq (hK' _ _ _ (h1▸Ah) (by rw[h1,Yl])))
  ·exact hK' _ _ _ (h1▸Am) (by rw[h1,Yo])
 refine z_V ?_;refine jan [Pt b,I AC.length] ((E6 o.kind || o.kind == 10 || o.kind == 11) && (idx AC o.a).getD 0 == nn) (λK' hK'=>?_) (λe c u ho he=>?_)
 ·rw[ho];refine Bt (λh1=>?_) (λh1=>?_)
  ·obtain⟨n1,n8⟩:=k18 _ rfl h1;obtain⟨a0,a1⟩:=fa h0' n1 n8;refine jl rfl (CE h a0 a1 (jeq (hK' _ _ _ (h1▸Ax) ?_)));rw[h1,Z2];have:idx AC o.a = some (AC[o.a.toNat]'(ω)):=by unfold idx;rw[if_pos a0,Yi]
   rw[this];rfl
  ·exact hK' _ _ _ (h1▸BB) (by rw[h1,Z3])
 refine z_V ?_;rw[ho];refine jif (λh3=>fin _ (by rw[base,if_pos h3])) (λh3=>?_);rw[if_neg (by rw[h3];decide)] at base;refine jor [Pt b,I AC.length] ((o.kind == 1) || (o.kind == 2)) (λK' hK'=>?_) (λe c u ho he=>?_)
 ·refine jl rfl (jeq (BR (λh1=>?_) (λh1=>?_)))
  ·refine jl rfl (jeq (hK' _ _ _ (h1▸Ah) (by rw[h1,Yl])))
  ·exact hK' _ _ _ (h1▸Am) (by rw[h1,Yo])
 refine z_V ?_;refine jor [I AC.length] ((o.kind == 1 || o.kind == 2) || (o.kind == 9)) (λK' hK'=>?_) (λe c u ho he=>?_)
 ·rw[ho];refine BR (λh1=>?_) (λh1=>?_)
  ·refine jl rfl (jeq (hK' _ _ _ (h1▸Ah) (by rw[h1,Yl])))
  ·exact hK' _ _ _ (h1▸Am) (by rw[h1,Yo])
 refine z_V ?_;refine jan [] (((o.kind == 1 || o.kind == 2) || o.kind == 9) && (AC.length:Int) == 8) (λK' hK'=>?_) (λe c u ho he=>?_)
 ·rw[ho];refine Bt (λh1=>?_) (λh1=>?_)
  ·exact jeq (hK' _ _ _ (h1▸Ax) (by rw[h1,Z2]))
  ·exact hK' _ _ _ (h1▸BB) (by rw[h1,Z3])
 refine z_V ?_;rw[ho];have e8:((AC.length:Int) == 8) = (AC.length == 8):=by rw[Zb];simp;omega
 rw[e8];refine jif (λh5=>fin _ (by rw[base,if_pos h5])) (λh5=>fin _ (by rw[base,if_neg (by rw[h5];decide)]))
theorem TT {R:RM} {D:Chs} {v:Value} {l:List Int} {u:Int} {k:Value→M} (h:BG R v l) (h0:0≤u) (h1:u≤l.length) (H:∀v',BG R v' (l.take u.toNat)→J R D (k v')):J R D (SL 1 v none (some (I u)) k):=by
 rcases h with ⟨rfl,h2,_⟩ | ⟨b,o,cap,t,cs,rfl,h2,h3,h4,h5⟩
 ·intro h' hs;refine⟨⟨h0,ω⟩,H _ ?_ h' hs⟩;have:l = []:=ZL.1 h2;subst this;have:u = 0:=by simp at h1;omega
  subst this;exact .inl ⟨rfl,σ,σ⟩
 ·intro h' hs;refine⟨⟨h0,ω⟩,H _ ?_ h' hs⟩;refine .inr ⟨b,o,cap,t,cs,?_,h2,?_,?_,?_⟩
  ·simp only[Z5];congr 1;omega
  ·simp only[Z5];omega
  ·simp only[Z5];rw[List.map_take,← h4,ah];congr 1;omega
  ·simp only[Z5];omega
theorem Xk {R:RM} {D:Chs} {v:Value} {l:List Int} {u:Int} {k:Value→M} (h:BG R v l) (h0:0≤u) (h1:u≤l.length) (H:∀v',BG R v' (l.drop u.toNat)→J R D (k v')):J R D (SL 1 v (some (I u)) none k):=by
 rcases h with ⟨rfl,h2,_⟩ | ⟨b,o,cap,t,cs,rfl,h2,h3,h4,h5⟩
 ·intro h' hs;refine⟨⟨h0,ω,ω⟩,H _ ?_ h' hs⟩;have:l = []:=ZL.1 h2;subst this;have:u = 0:=by simp at h1;omega
  subst this;exact .inl ⟨rfl,σ,σ⟩
 ·intro h' hs;refine⟨⟨h0,h1,ω⟩,H _ ?_ h' hs⟩;by_cases c:cap = u.toNat
  ·have hl:l.length = u.toNat:=ω
   refine .inr ⟨b,o,cap - u.toNat,t,cs,?_,h2,?_,?_,?_⟩
   ·rw[if_pos c];simp
   ·simp[hl];omega
   ·simp[hl]
   ·simp[hl]
  ·refine .inr ⟨b,o + u.toNat * 1,cap - u.toNat,t,cs,?_,h2,?_,?_,?_⟩
   ·rw[if_neg c];simp
   ·simp only[ZS];omega
   ·simp only[ZS];rw[List.map_drop,← h4,aU,aj];congr 1
    ·omega
    ·congr 1;omega
   ·simp only[ZS];omega
theorem YQ {R:RM} {D E:Chs} {l l2:List Int} {b c cx m:Nat} {sp:List Value} {xa:Option Addr} {k:Value→M} [tk:Tk D b (C AX (l.map I ++ sp)) E] (hm:m = l2.length) (hc:l.length≤c) (hsp:sp.length = c - l.length) (hl:l.length + l2.length < 2000000) (hx:BY R D xa (m * 1) (l2.map I))
  (H:∀b' c' sp',(l ++ l2).length≤c'→sp'.length = c' - (l ++ l2).length→J R ((b',C AX ((l ++ l2).map I ++ sp')) :: E) (k (.slice (some ⟨b',0,none⟩) (l ++ l2).length c'))) :
  J R D (AP AX 1 8 [I 0] (S0 b l.length c) (.slice xa m cx) k):=by
 subst hm;have hfl:Br (l2.map I) = true:=by
  unfold Br;rw[ZC];intro x hx;obtain⟨y,_,rfl⟩:=ZK.1 hx;rfl
 refine Tx (tk:=tk) hx (by simp;omega) hc σ hfl δ ω (λh=>?_) (λb' c' h=>?_)
 ·have el:lay (l.map I ++ sp) (l.length * 1) (l2.map I) = (l ++ l2).map I ++ sp.drop l2.length:=by
   rw[Gr σ];simp[lay]
  rw[el];have:=H b c (sp.drop l2.length) (by simpa using h) (by simp;omega);simpa using this
 ·refine BI (tk.p.cons _) (BI (aI _ _ _) (Bn ?_));have:=H b' c' (List.replicate (c' - (l.length + l2.length)) [I 0]).flatten (by simpa using h) (by rw[Bw (w:=1) (by intro x hx;rw[(ZT.1 hx).2];rfl)];simp);rw[ZZ σ,Ys σ];simpa using this
theorem BG.reads {R:RM} {D:Chs} {v:Value} {l:List Int} (h:BG R v l):∃a cap,v = .slice a l.length cap∧BY R D a (l.length * 1) (l.map I):=Fz.reads h
def Xp (r:Option (List Int)) (v:Value) (A:Chs):Prop:=match r with
 | none=>v = .tuple #[SN,.bool false]∧A = []
 | some l=>∃sv,UR l sv A∧v = .tuple #[sv,.bool true]
theorem Mi {l:List Int} {a:Int}:∀{n k:Nat},Dp l a n = some k→l[k]? = some a∧k < n∧∀j,k < j→j < n→l[j]?≠some a:=by
 intro n;induction n with
 | zero=>intro k h;cases h
 | succ n ih=>
  intro k h;simp only[Dp] at h;split at h
  ·cases h;exact⟨by assumption,ω,λj h1 h2=>ω⟩
  ·rename_i hn;obtain⟨h1,h2,h3⟩:=ih h;refine⟨h1,ω,λj h4 h5=>?_⟩;by_cases c:j = n
   ·subst c;exact hn
   ·exact h3 j h4 ω
theorem UP {R:RM} {v:Value} {AG:List Int} (kind a:Int) (h:BG R v AG) (hl:AG.length < 1000000):Fn P Kq [v,I kind,I a] R [] (λv' _ A=>Xp (G3 AG kind a) v' A):=by
 refine QA λF=>?_
 refine z_3 ?_;refine jeq (jif (λhk=>?_) (λhk=>?_))
 ·refine In h (jeq (jif (λh8=>?_) (λh8=>?_)))
  ·refine B9 (A:=[]) (RM.le.refl _) ?_;have h8:AG.length = 8:=by have:=eq_of_beq h8;omega
   unfold G3;rw[if_pos hk,if_pos h8];exact⟨rfl,rfl⟩
  ·have h8:AG.length≠8:=by have:=ne_of_beq_false h8;omega
   refine jc (A:=[]) (CN h ω) ?_;rintro _ R' _ hR ⟨b,c,sp,hc,hsp,rfl,rfl⟩;refine jbs (cs:=[I a]) rfl rfl λb1=>?_
   refine Vj (v:=a) hc hsp ω (BY.held (t:=AX) (cs:=[I a]) (o:=0) (n:=1 * 1) (z_n 1)) λb' c' sp' hc' hsp'=>?_
   refine B9 (A:=[(b',C AX ((AG ++ [a]).map I ++ sp'))]) hR ?_;unfold G3;rw[if_pos hk,if_neg h8];exact⟨.slice (some ⟨b',0,none⟩) (AG.length + 1) c',⟨b',c',sp',by simpa using hc',by simpa using hsp',σ,rfl⟩,rfl⟩
 ·refine AR (λvs R' D'=>R' = R∧D' = [] ++ F∧vs = [v,I (match Dp AG a AG.length with | some i=>(i:Int) | none=>-1)]) (λK' hK'=>?_) ?_
  ·refine AR (λvs R' D'=>R' = R∧D' = [] ++ F∧vs = [v,I (match Dp AG a AG.length with | some i=>(i:Int) | none=>-1)]) (λK2 hK2=>?_) ?_
   ·refine jlp (λn vs R' D'=>R' = R∧D' = [] ++ F∧∃i:Nat,i≤AG.length∧vs = [v,I a,I (match Dp AG a i with | some i=>(i:Int) | none=>-1),I i]∧n = AG.length - i)
     (n:=AG.length) ⟨rfl,rfl,0,ω,rfl,ω⟩ ?_
    rintro n e R3 D3 K ⟨rfl,hD,i,hi,he,hn⟩ hK;refine z_W ?_;refine In h (jlt (jif (λhc=>?_) (λhc=>?_)))
    ·have hc:=z_f hc;have hil:i < AG.length:=ω
     refine AR (λvs R' D'=>R' = R3∧D' = [] ++ F∧vs = [v,I a,I (match Dp AG a (i + 1) with | some i=>(i:Int) | none=>-1),I i]) (λK4 hK4=>?_) ?_;rotate_left
     ·rintro e R4 D4 ⟨rfl,hD,he⟩;refine z_W ?_;refine jad ?_;exact hK (AG.length - (i + 1)) _ _ _ ω ⟨rfl,rfl,i + 1,ω,rfl,rfl⟩
     refine AR (λvs R' D'=>R' = R3∧D' = [] ++ F∧vs = [v,I a,I (match Dp AG a (i + 1) with | some i=>(i:Int) | none=>-1),I i]) (λK5 hK5=>?_) ?_;rotate_left
     ·rintro e R4 D4 ⟨rfl,hD,he⟩;refine z_W ?_;exact hK4 _ _ _ ⟨rfl,rfl,rfl⟩
     refine CE h ω ω (jeq (jif (λhq=>?_) (λhq=>?_)))
     ·have hq:=eq_of_beq hq;simp only[Yj] at hq;refine hK5 _ _ _ ⟨rfl,rfl,?_⟩;simp only[Dp];rw[if_pos (by rw[Yi hil,hq])]
     ·have hq:=ne_of_beq_false hq;simp only[Yj] at hq;refine hK5 _ _ _ ⟨rfl,rfl,?_⟩;simp only[Dp];rw[if_neg (by rw[Yi hil];simpa using hq)]
    ·have hc:=z_g hc;have:i = AG.length:=ω
     subst this;exact hK2 _ _ _ ⟨rfl,rfl,rfl⟩
   ·rintro e R4 D4 ⟨rfl,hD,he⟩;refine z_W ?_;exact hK' _ _ _ ⟨rfl,rfl,rfl⟩
  ·rintro e R4 D4 ⟨rfl,hD,he⟩;refine z_W ?_;cases hli:Dp AG a AG.length with
   | none=>
    refine jlt (jif (λ_=>?_) (λhh=>?_))
    ·refine B9 (A:=[]) (RM.le.refl _) ?_;unfold G3;rw[if_neg (by rw[hk];decide),hli];exact⟨rfl,rfl⟩
    ·exact absurd hh δ
   | some i=>
    obtain⟨q1,q2,_⟩:=Mi hli;refine jlt (jif (λhh=>?_) (λhh=>?_))
    ·exact absurd (z_f hh) (by simp only;omega)
    ·refine TT h (by simp only;omega) (by simp only;omega) λv1 h1=>?_
     refine Cr ⟨by simp only;omega,by simp only;omega⟩ ?_;refine Xk h (by simp only;omega) (by simp only;omega) λv2 h2=>?_
     simp only[Yj] at h1;rw[show ((i:Int) + 1).toNat = i + 1 from ω] at h2;refine jc (A:=[]) (CN h1 (by simp;omega)) ?_;rintro _ R' _ hR ⟨b,c,sp,hc,hsp,rfl,rfl⟩;obtain⟨xa,cx,rfl,hx⟩:=BG.reads (D:=[(b,C AX ((AG.take i).map I ++ sp))] ++ ([] ++ F)) (h2.le hR);refine YQ (l2:=AG.drop (i + 1)) rfl hc hsp (by simp;omega) hx λb' c' sp' hc' hsp'=>?_
     refine B9 (A:=[(b',C AX ((AG.take i ++ AG.drop (i + 1)).map I ++ sp'))]) hR ?_;unfold G3;rw[if_neg (by rw[hk];decide),hli];exact⟨_,⟨b',c',sp',hc',hsp',rfl,rfl⟩,rfl⟩
theorem Rs {S:Sim} {i:Int} {t:Thr} {o:Sm.Op} (h:S.opOf i t = some o):∃p,idx S.Aa i = some p∧idx p t.next = some o:=by
 unfold Sim.opOf at h;split at h
 ·exact⟨_,by assumption,h⟩
 ·cases h
theorem VI {R:RM} {F:Chs} {p b:Nat} {S:Sim} {g:Img} {i:Int} {t:Thr} {v:Value} {o:Sm.Op} {k:Value→M} (hok:Ok R S g) (ho:S.opOf i t = some o)
  (H:∀b2,J R ((b2,C 183 (eOp o)) :: (b,C AY (Ak t v)) :: (Ab p S g ++ F)) (k (Pt b2))) :
  J R ((b,C AY (Ak t v)) :: (Ab p S g ++ F)) (L1 (.pointer (some ⟨p,3,none⟩)) λx9=>IA 1 x9 (I i) λx10=>L1 x10 λx11=>L1 (.pointer (some ⟨b,0 + 1,none⟩)) λx13=>IA 8 x11 x13 λx14=>LA 8 x14 λx15=>AL 183 z183 λx16=>
   AND (L1 (.pointer (some ⟨p,3,none⟩)) λx17=>EV x17 x9)<|AND (L1 x10 λx18=>EV x18 x11)<|AND (L1 (.pointer (some ⟨b,0 + 1,none⟩)) λx19=>EV x19 x13)<|AND (LA 8 x14 λx20=>EV x20 x15)<|ST 8 x16 x15<|k x16):=by
 obtain⟨pr,h1,h2⟩:=Rs ho;obtain⟨i0,i1,i2,i3⟩:=Av h1;obtain⟨n0,n1,n2,n3⟩:=Av h2;obtain⟨vs,f1,f2,f3⟩:=hok.Aa;obtain⟨x,f4,f5⟩:=f3 i.toNat i2;rw[i3] at f5;rcases f1 with ⟨_,h,_⟩ | ⟨bp,op_,cp,tp,cs,e1,e2,e3,e4,e5⟩
 ·omega
 rcases f5 with ⟨_,h,_⟩ | ⟨bo,oo,co,to_,co2,q1,q2,q3,q4,q5⟩
 ·omega
 have l1:J R ((b,C AY (Ak t v)) :: (Ab p S g ++ F)) (L1 (.pointer (some ⟨p,3,none⟩)) λx9=>IA 1 x9 (I i) λx10=>L1 x10 λx11=>L1 (.pointer (some ⟨b,0 + 1,none⟩)) λx13=>IA 8 x11 x13 λx14=>LA 8 x14 λx15=>AL 183 z183 λx16=>
   AND (L1 (.pointer (some ⟨p,3,none⟩)) λx17=>EV x17 x9)<|AND (L1 x10 λx18=>EV x18 x11)<|AND (L1 (.pointer (some ⟨b,0 + 1,none⟩)) λx19=>EV x19 x13)<|AND (LA 8 x14 λx20=>EV x20 x15)<|ST 8 x16 x15<|k x16):=by
  have hx:cs[op_ + i.toNat * 1]? = some x:=by
   have:=congrArg (λl=>l[i.toNat]?) e4;simp only[Zl,ZY] at this;rw[if_pos ω] at this;rw[Zo,this,f4]
  have ho8:(co2.drop (oo + t.next.toNat * 8)).take 8 = eOp o:=by
   have:=DQ (f:=eOp) (w:=8) (λ_=>rfl) (sp:=[]) n2;rw[ZN,n3,← q4,aU,aj,ah] at this;rw[← this];congr 1;omega
  refine jl (v:=g.Aa) rfl ?_;rw[e1];refine jia i0 ω (jlr e2 hx ?_);rw[q1];refine jl (v:=I t.next) rfl ?_;refine jia n0 ω ?_;refine F0 q2 ω ho8 ?_;refine ja λb2=>?_
  refine Af (jl (v:=g.Aa) rfl (by rw[e1];exact jev)) ?_;refine Af (jlr e2 (by rw[hx,q1]) jev) ?_;refine Af (jl (v:=I t.next) rfl jev) ?_;refine Af (F0 q2 ω ho8 jev) ?_;refine js (cs':=eOp o) rfl rfl (by exact z_n 8) τ (H b2)
 exact l1
theorem WZ {o:Sm.Op} {AC:List Int} (h8:o.kind = 8) (h:DX o AC 0 = 0):0 < AC.length:=by
 by_cases c:0 < AC.length
 ·exact c
 ·exfalso;have:AC = []:=ZL.1 ω;subst this;unfold DX at h;simp[h8] at h
theorem Ul {S S' : Sim} {i a c:Int} (h:S.event i a c = some S'):S.sz = true:=by
 unfold Sim.event at h;split at h
 ·cases h
 ·rename_i hz;simpa using hz
theorem UJ {S:Sim} {i:Int} {t t' : Thr} (h:(S.setT i t').sz = true) (ht:idx S.th i = some t):t'.AC.length < 1000000:=by
 obtain⟨i0,i1,i2,i3⟩:=Av ht;refine (G5 h).2.2.2.2 t' ?_;show t'∈AT S.th i t';unfold AT;exact List.mem_of_getElem? (List.getElem?_set_self ω)
theorem Vo {p:Nat} {S S' : Sim} {g:Img} {i:Int} {R:RM} (hok:Ok R S g) (hS:S.begin_ i = some S') :
  Fn P JE [Pt p,I i] R (Ab p S g) (D0 p S' λ_=>True):=by
 refine P4 λF=>?_
 refine z_2 ?_;obtain⟨t,ht,hS⟩:=AD hS;obtain⟨o,ho,hS⟩:=AD hS;obtain⟨h0,h1,h2,h3⟩:=Av ht;refine GI (p:=p) hok ht rfl λb a cap hv=>?_
 refine VI (p:=p) hok ho λb2=>?_
 refine jla (l:=eOp o) (by exact z_n 8) τ ?_;refine jp (WV o) (jif (λhb=>?_) (λhb=>?_))
 ·rw[if_pos hb] at hS;refine jcS (p:=p) (by exact DM hok hS) λ_ R2 g2 hR2 hr ok2=>?_
  exact Ay hR2 trivial rfl ok2
 rw[if_neg (by rw[hb];decide)] at hS;refine jla (l:=eOp o) (by exact z_n 8) τ ?_;refine jl (v:=.slice a t.AC.length cap) rfl ?_;refine jrp (SM o 0 hv) (jne (jif (λhc=>?_) (λhc=>?_)))
 ·have hc:DX o t.AC 0≠0:=by simpa using hc
  simp only[if_pos hc] at hS;refine jcS (p:=p) (by exact DM hok hS) λ_ R2 g2 hR2 hr ok2=>?_
  exact Ay hR2 trivial rfl ok2
 have hc:DX o t.AC 0 = 0:=by simpa using hc
 simp only[if_neg (show ¬ DX o t.AC 0≠0 from λh=>h hc)] at hS;refine jl (v:=I o.kind) rfl (jeq (jif (λh8=>?_) (λh8=>?_)))
 ·have h8:=eq_of_beq h8;rw[if_pos h8] at hS;have hn:=WZ h8 hc;have hsz:=UJ (Ul hS) ht;have hl1:t.AC.length≤1000000:=by simp at hsz;omega
  refine jl (v:=.slice a t.AC.length cap) rfl (jl (v:=.slice a t.AC.length cap) rfl (jln (jsu ?_)));refine TT hv ω ω λv1 hv1=>?_
  rw[show ((t.AC.length:Int) - 1).toNat = t.AC.length - 1 from ω] at hv1;refine jc (A:=[]) (CN hv1 (by simp;omega)) ?_;rintro _ R' _ hR ⟨b4,c4,sp4,hc4,hsp4,rfl,rfl⟩;refine BQ (b:=b4) λR2 hR2 hb4=>?_
  have hv2:=CH (c:=c4) hb4 hc4;have ok2:=(hok.le hR).le hR2;refine jS (Ak { t with AC:=t.AC.take (t.AC.length - 1) } (S0 b4 (t.AC.take (t.AC.length - 1)).length c4)) ?_;refine Gj (p:=p) (S.setT i { t with AC:=t.AC.take (t.AC.length - 1) }) (by exact ok2) h0 (by exact h1) (by exact hv2) τ λg3 ok3=>?_
  refine jcS (p:=p) (by exact DM ok3 hS) λ_ R4 g4 hR4 hr ok4=>?_
  exact Ay ((hR.trans hR2).trans hR4) trivial rfl ok4
 have h8:o.kind≠8:=by simpa using h8
 rw[if_neg h8] at hS;refine jeq (jif (λh9=>?_) (λh9=>?_))
 ·have h9:=eq_of_beq h9;rw[if_pos h9] at hS;obtain⟨r,hr,hS⟩:=AD hS;obtain⟨r0,r1,r2,r3⟩:=Av hr;refine jl (v:=.slice a t.AC.length cap) rfl (jl (v:=I o.a) rfl ?_);refine CE hv r0 r1 ?_;rw[r3];refine jcS (p:=p) (by exact MY hok hS) λ_ R2 g2 hR2 hr ok2=>?_
  exact Ay hR2 trivial rfl ok2
 have h9:o.kind≠9:=by simpa using h9
 rw[if_neg h9] at hS;refine jeq (jif (λk1=>?_) (λk1=>?_))
 ·have k1:=eq_of_beq k1;rw[if_pos k1] at hS;cases hS;refine jS (Ak { t with pc:=30 } (.slice a t.AC.length cap)) ?_;refine Gj (p:=p) (S.setT i { t with pc:=30 }) (by exact hok) h0 (by exact h1) (by exact hv) τ λg3 ok3=>?_
  exact Ay (RM.le.refl _) trivial rfl ok3
 have k1:o.kind≠1:=by simpa using k1
 rw[if_neg k1] at hS;obtain⟨ra,hra,hS⟩:=AD hS;obtain⟨a0,a1,a2,a3⟩:=Av hra;obtain⟨t2,ht2,hS⟩:=AD hS;obtain⟨t3,ht3,hS⟩:=AD hS;cases hS;refine jS (Ak { t with pc:=1 } (.slice a t.AC.length cap)) ?_;refine jl (v:=.slice a t.AC.length cap) rfl (jl (v:=I o.a) rfl (CE hv a0 a1 ?_));rw[a3];refine jS (Ak { t with pc:=1,h:=ra } (.slice a t.AC.length cap)) ?_;have ht2r:t2.AC = t.AC:=by
  split at ht2
  ·obtain⟨x,_,hx⟩:=AD ht2;cases hx;rfl
  ·cases ht2;rfl
 have ht3r:t3.AC = t.AC:=by
  split at ht3
  ·obtain⟨x,_,hx⟩:=AD ht3;cases hx;exact ht2r
  ·cases ht3;exact ht2r
 refine AR (λvs R' D'=>R' = R∧D' = (b2,C 183 (eOp o)) :: (b,C AY (Ak t2 (.slice a t.AC.length cap))) :: (Ab p S g ++ F)∧vs = [Pt p,I i,Pt b,Pt b2]) (λK' hK'=>?_) ?_
 ·refine jor [Pt p,I i,Pt b,Pt b2] ((o.kind == 3) || (o.kind == 6)) (λK' hK'=>?_) (λe c u ho he=>?_)
  ·refine jl (v:=I o.kind) rfl (jeq (BR (λh1=>?_) (λh1=>?_)))
   ·refine jl (v:=I o.kind) rfl (jeq (hK' _ _ _ (h1▸Ah) (by rw[h1,Yl])))
   ·exact hK' _ _ _ (h1▸Am) (by rw[h1,Yo])
  refine z_V ?_;refine jor [Pt p,I i,Pt b,Pt b2] (((o.kind == 3) || (o.kind == 6)) || (o.kind == 7)) (λK' hK'=>?_) (λe c u ho he=>?_)
  ·rw[ho];refine BR (λh1=>?_) (λh1=>?_)
   ·refine jl (v:=I o.kind) rfl (jeq (hK' _ _ _ (h1▸Ah) (by rw[h1,Yl])))
   ·exact hK' _ _ _ (h1▸Am) (by rw[h1,Yo])
  refine z_V ?_;rw[ho];refine jif (λhk=>?_) (λhk=>?_)
  ·rw[if_pos (by simpa [or_assoc,and_assoc] using hk)] at ht2;obtain⟨rb,hrb,ht2⟩:=AD ht2;obtain⟨b0,b1,b2',b3⟩:=Av hrb;cases ht2;refine jl (v:=.slice a t.AC.length cap) rfl (jl (v:=I o.b) rfl (CE hv b0 b1 ?_));rw[b3];refine jS (Ak { t with pc:=1,h:=ra,g:=rb } (.slice a t.AC.length cap)) ?_;exact hK' _ _ _ ⟨rfl,rfl,rfl⟩
  ·rw[if_neg (by simpa [or_assoc,and_assoc] using hk)] at ht2;cases ht2;exact hK' _ _ _ ⟨rfl,rfl,rfl⟩
 ·rintro e R5 D3 ⟨rfl,hD,he⟩;refine z_W ?_;refine AR (λvs R' D'=>R' = R5∧(∃G,D' = (b,C AY (Ak t3 (.slice a t.AC.length cap))) :: (Ab p S g ++ G)∧G = F)∧vs = [Pt p,I i,Pt b]) (λK' hK'=>?_) ?_
  ·refine jl (v:=I o.kind) rfl (jeq (jif (λhk=>?_) (λhk=>?_)))
   ·rw[if_pos (eq_of_beq hk)] at ht3;obtain⟨rc,hrc,ht3⟩:=AD ht3;cases ht3;rw[ht2r] at hrc;obtain⟨b0,b1,b2',b3⟩:=Av hrc;refine jl (v:=.slice a t.AC.length cap) rfl (jl (v:=I o.c) rfl (CE hv b0 b1 ?_));rw[b3];refine jS (Ak { t2 with k:=rc } (.slice a t.AC.length cap)) ?_;exact Bn (hK' _ _ _ ⟨rfl,⟨_,rfl,rfl⟩,rfl⟩)
   ·rw[if_neg (ne_of_beq_false hk)] at ht3;cases ht3;exact Bn (hK' _ _ _ ⟨rfl,⟨_,rfl,rfl⟩,rfl⟩)
  ·rintro e _ D3 ⟨rfl,⟨G,hD,hG⟩,he⟩;rw[hD,hG];clear hD;refine z_V ?_;refine Gj (p:=p) (S.setT i t3) (by exact hok) h0 (by exact h1) (by rw[ht3r];exact hv) τ λg3 ok3=>?_
   exact Ay (RM.le.refl _) trivial rfl ok3
instance (priority:=low) Sp.app (D A E F:Chs) [s:Sp D A E]:Sp (D ++ F) A (E ++ F):=⟨by rw[← Yr];exact s.p.append_right F⟩
theorem NL {R:RM} {D:Chs} {m:M} (H:J R D m):J R ([] ++ D) m:=H
theorem YP {R:RM} {D G:Chs} {p b c:Nat} {S:Sim} {g:Img} {t' : List Rg} {sp:List Value} {m:M} [w:Fd D p S g G]
  (H:J R (Ab p { S with A0:=t' } { g with tb:=b,tc:=c,tsp:=sp } ++ G) m) :
  J R ((b,C AI (Ac eRg t' ++ sp)) :: D) (ST 1 (.pointer (some ⟨p,5,none⟩)) (S0 b t'.length c) m):=by
 refine BI ((w.ex.cons _).trans ZH.symm) ?_;have e2:C0 { S with A0:=t' } { g with tb:=b,tc:=c,tsp:=sp } = (C0 S g).set 5 (S0 b t'.length c):=by
  simp[C0,evV]
 refine js (D:=Ab p S g ++ (b,C AI (Ac eRg t' ++ sp)) :: G) (t:=Bg) (cs:=C0 S g) (cs':=C0 { S with A0:=t' } { g with tb:=b,tc:=c,tsp:=sp })
  (D':=(p,C Bg (C0 { S with A0:=t' } { g with tb:=b,tc:=c,tsp:=sp })) :: ((g.wb,C AX (S.AA.map I ++ g.wsp)) :: (g.tb,C AI (Ac eRg S.A0 ++ g.tsp)) :: (g.mb,C B7 (S.AK.map Value.bool ++ g.msp)) :: (g.hb,C AY (E3 S.th g.rv ++ g.hsp)) :: evD S g ++ (b,C AI (Ac eRg t' ++ sp)) :: G)) rfl rfl (by simp[C0]) (by rw[e2,show cl (S0 b t'.length c) = [S0 b t'.length c] from rfl,Gn (by simp[C0])]) ?_ (u:=?_)
 ·unfold Ab;exact inferInstance
 ·refine Aw ((p,C Bg (C0 { S with A0:=t' } { g with tb:=b,tc:=c,tsp:=sp })) :: (g.wb,C AX (S.AA.map I ++ g.wsp)) :: (b,C AI (Ac eRg t' ++ sp)) :: (g.mb,C B7 (S.AK.map Value.bool ++ g.msp)) :: (g.hb,C AY (E3 S.th g.rv ++ g.hsp)) :: evD S g) (G:=G) ?_;exact H
theorem P7 {R:RM} {D G:Chs} {p b c:Nat} {S:Sim} {g:Img} {t' : List Rg} {sp:List Value} {m:M} [w:Fd D p S g G]
  (H:J R (Ab p { S with A0:=t' } { g with tb:=b,tc:=c,tsp:=sp } ++ G) m) :
  J R ([(b,C AI (Ac eRg t' ++ sp))] ++ D) (ST 1 (.pointer (some ⟨p,5,none⟩)) (S0 b t'.length c) m):=YP (D:=D) H
theorem Cn {S S1:Sim} {a v:Int} (h:S.read a = some (v,S1)):S1 = { S with used:=true }:=by
 simp only[Sim.read] at h;split at h
 ·cases h;rfl
 ·cases h
theorem EM {S S1:Sim} {a v:Int} (h:S.write a v = some S1):S1 = { S with used:=true,AA:=AT S.AA a v }:=by
 simp only[Sim.write] at h;split at h
 ·cases h;rfl
 ·cases h
theorem X3 {S S1:Sim} {a v:Int} (h:S.top a v = some S1):∃t,S1 = { S with A0:=t }:=by
 unfold Sim.top at h;split at h
 ·split at h
  ·cases h;exact⟨_,rfl⟩
  ·cases h
 ·cases h
theorem Ok.tab {R:RM} {S:Sim} {g:Img} (ok:Ok R S g) {t' : List Rg} (hl:t'.length≤1000) (b c:Nat) (sp:List Value) (hc:t'.length≤c):Ok R { S with A0:=t' } { g with tb:=b,tc:=c,tsp:=sp }:=
 ⟨ok.Aa,ok.old,ok.AG,ok.AM,ok.rvl,ok.rv,ok.ev0,ok.ev1,ok.wl,hl,ok.ml,ok.hl,ok.fl,ok.wk,hc,ok.mk_⟩
theorem Jp {t t' : List Rg} {o size d:Int} (h:BX t o size = some (t',d)):t'.length = t.length:=by
 unfold BX at h;split at h
 ·rename_i hg;simp only[z_b,z_d] at hg;have T:=Bm.1 hg.1.1.1.1;rcases Fk (size:=size) T hg.1.1.1.2 hg.1.1.2 hg.1.2 hg.2 with h2 | ⟨t2,d2,h2,P⟩
  ·unfold BX at h2;rw[if_pos (by simpa using hg)] at h2;rw[h2] at h;cases h
  ·unfold BX at h2;rw[if_pos (by simpa using hg)] at h2;rw[h2] at h;cases h;exact P.len
 ·cases h
theorem Su {p:Nat} {S S' : Sim} {g:Img} {i:Int} {R:RM} (hok:Ok R S g) (hS:S.copying i = some S') :
  Fn P Gy [Pt p,I i] R (Ab p S g) (D0 p S' λ_=>True):=by
 refine LW λF=>?_
 refine z_2 ?_;obtain⟨t,ht,hS⟩:=AD hS;obtain⟨h0,h1,h2,h3⟩:=Av ht;refine GI (p:=p) hok ht rfl λb a cap hv=>?_
 refine AR (λvs R' D'=>R.le R'∧∃S1 g1 t1 G,S' = S1.setT i t1∧S1.th = S.th∧t1.AC = t.AC∧Ok R' S1 g1∧D' = Ab p S1 g1 ++ (b,C AY (Ak t1 (.slice a t.AC.length cap))) :: G∧G = F∧vs = [Pt p,I i,Pt b]) (λK hK=>?_) ?_;rotate_left
 ·rintro e R2 D2 ⟨hR,S1,g1,t1,G,rfl,hth,hr,ok1,rfl,rfl,he⟩;refine z_V ?_;refine Gj (p:=p) (S1.setT i t1) (by exact ok1) h0 (by rw[hth];exact h1) (by rw[hr];exact hv.le hR) τ λg3 ok3=>?_
  exact Ay hR trivial rfl ok3
 refine jl (v:=I t.pc) rfl ?_;refine AR (λvs R' D'=>R.le R'∧∃S1 g1 t1 G,S' = S1.setT i t1∧S1.th = S.th∧t1.AC = t.AC∧Ok R' S1 g1∧D' = Ab p S1 g1 ++ (b,C AY (Ak t1 (.slice a t.AC.length cap))) :: G∧G = F∧vs = [Pt p,I i,Pt b]) (λK2 hK2=>?_) ?_;rotate_left
 ·rintro e R2 D2 ⟨hR,S1,g1,t1,G,e1,hth,hr,ok1,rfl,rfl,he⟩;refine z_V ?_;exact hK _ _ _ ⟨hR,S1,g1,t1,_,e1,hth,hr,ok1,rfl,rfl,rfl⟩
 refine jeq (jif (λc20=>?_) (λc20=>?_))
 ·have c20:=eq_of_beq c20;rw[if_pos c20] at hS;obtain⟨q,hq,hS⟩:=AD hS;obtain⟨rfl,hin⟩:=B8 hq;obtain⟨⟨w,S1⟩,hrd,hS⟩:=AD hS;have e1:=Cn hrd;subst e1;dsimp only at hS;refine jl (v:=I t.src) rfl (Cr hin ?_);refine jcS (p:=p) (by exact Cz hok hrd) λ_ R1 g1 hR1 hr ok1=>?_
  subst hr;refine jp (Ei w) (jex rfl (jex rfl ?_));refine ja λb3=>?_
  refine jS [I (AJ w).1.refs,I (AJ w).1.nums] ?_;refine jla (l:=[I (AJ w).1.refs,I (AJ w).1.nums]) (by exact z_n 2) τ ?_;refine jp (CJ (AJ w).1) ?_;refine jS (Ak { t with size:=AF (AJ w).1 } (.slice a t.AC.length cap)) ?_;refine jl (v:=.slice (some ⟨g1.tb,0,none⟩) S.A0.length g1.tc) rfl ?_;refine jl (v:=I (AF (AJ w).1)) rfl ?_;refine jmk (by exact GN (t:=S.A0) (sp:=g1.tsp) i (AF (AJ w).1) (by have:=hok.tl;omega)) ?_;intro v N hq2;cases hrm:BX S.A0 i (AF (AJ w).1) with
  | none=>
   rw[hrm] at hq2;obtain⟨rfl,rfl⟩:=hq2;rw[hrm] at hS;refine jex rfl (jex rfl (jex rfl (DI ?_)));refine jcS (p:=p) (by exact TV ok1 hS) λ_ R2 g2 hR2 hr ok2=>?_
   exact Ay (hR1.trans hR2) trivial rfl ok2
  | some td=>
   obtain⟨t',d⟩:=td;rw[hrm] at hq2;obtain⟨sv,⟨b4,c4,sp4,hc4,rfl,rfl⟩,rfl⟩:=hq2;rw[hrm] at hS;simp only[Yu] at hS;have hlen:=Jp hrm;refine jex rfl (jex rfl (jex rfl (CL ?_)));refine P7 (p:=p) ?_;refine jS (Ak { t with size:=AF (AJ w).1,dst:=d } (.slice a t.AC.length cap)) ?_;refine jS (Ak { t with size:=AF (AJ w).1,dst:=d,i:=1 } (.slice a t.AC.length cap)) ?_;refine jS (Ak { t with size:=AF (AJ w).1,dst:=d,i:=1,pc:=21 } (.slice a t.AC.length cap)) ?_;refine Aw (Ab p { S with used:=true,A0:=t' } { g1 with tb:=b4,tc:=c4,tsp:=sp4 }) (G:=(b,C AY (Ak { t with size:=AF (AJ w).1,dst:=d,i:=1,pc:=21 } (.slice a t.AC.length cap))) :: F) ?_;exact hK2 _ _ _ ⟨hR1,{ S with used:=true,A0:=t' },{ g1 with tb:=b4,tc:=c4,tsp:=sp4 },{ t with size:=AF (AJ w).1,dst:=d,i:=1,pc:=21 },_,hS.symm,rfl,rfl,ok1.tab (by rw[hlen];exact hok.tl) _ _ _ hc4,rfl,rfl,rfl⟩
 have c20:t.pc≠20:=by simpa using c20
 rw[if_neg c20] at hS;refine jeq (jif (λc21=>?_) (λc21=>?_))
 ·have c21:=eq_of_beq c21;rw[if_pos c21] at hS;obtain⟨q,hq,hS⟩:=AD hS;obtain⟨rfl,hin⟩:=B8 hq;obtain⟨⟨w,S1⟩,hrd,hS⟩:=AD hS;have e1:=Cn hrd;subst e1;cases hS;refine jl (v:=I t.src) rfl (jl (v:=I t.i) rfl (Cr hin ?_));refine jcS (p:=p) (by exact Cz hok hrd) λ_ R1 g1 hR1 hr ok1=>?_
  subst hr;refine jS (Ak { t with word:=w } (.slice a t.AC.length cap)) ?_;refine jS (Ak { t with word:=w,pc:=22 } (.slice a t.AC.length cap)) ?_;exact hK2 _ _ _ ⟨hR1,{ S with used:=true },g1,{ t with word:=w,pc:=22 },_,rfl,rfl,rfl,ok1,rfl,rfl,rfl⟩
 have c21:t.pc≠21:=by simpa using c21
 rw[if_neg c21] at hS;refine jeq (jif (λc22=>?_) (λc22=>?_))
 ·have c22:=eq_of_beq c22;rw[if_pos c22] at hS;obtain⟨q,hq,hS⟩:=AD hS;obtain⟨rfl,hin⟩:=B8 hq;obtain⟨S1,hwr,hS⟩:=AD hS;have e1:=EM hwr;subst e1;obtain⟨n,hn,hS⟩:=AD hS;obtain⟨rfl,hin2⟩:=B8 hn;cases hS;refine jl (v:=I t.dst) rfl (jl (v:=I t.i) rfl (Cr hin (jl (v:=I t.word) rfl ?_)));refine jcS (p:=p) (by exact Db hok hwr) λ_ R1 g1 hR1 hr ok1=>?_
  refine jl (v:=I t.i) rfl (Cr hin2 ?_);refine jS (Ak { t with i:=t.i + 1 } (.slice a t.AC.length cap)) ?_;refine jS (Ak { t with i:=t.i + 1,pc:=21 } (.slice a t.AC.length cap)) ?_;refine jl (v:=I (t.i + 1)) rfl (jl (v:=I t.size) rfl (jeq (jif (λhz=>?_) (λhz=>?_))))
  ·refine jS (Ak { t with i:=t.i + 1,pc:=23 } (.slice a t.AC.length cap)) ?_;exact hK2 _ _ _ ⟨hR1,{ S with used:=true,AA:=AT S.AA (t.dst + t.i) t.word },g1,{ t with i:=t.i + 1,pc:=23 },_,(by rw[if_pos (eq_of_beq hz)]),rfl,rfl,ok1,rfl,rfl,rfl⟩
  ·exact hK2 _ _ _ ⟨hR1,{ S with used:=true,AA:=AT S.AA (t.dst + t.i) t.word },g1,{ t with i:=t.i + 1,pc:=21 },_,(by rw[if_neg (ne_of_beq_false hz)]),rfl,rfl,ok1,rfl,rfl,rfl⟩
 have c22:t.pc≠22:=by simpa using c22
 rw[if_neg c22] at hS;refine jeq (jif (λc23=>?_) (λc23=>?_))
 ·have c23:=eq_of_beq c23;rw[if_pos c23] at hS;obtain⟨S1,hwr,hS⟩:=AD hS;have e1:=EM hwr;subst e1;cases hS;refine jl (v:=I t.dst) rfl (jl (v:=I t.dst) rfl ?_);refine jcS (p:=p) (by exact Db hok hwr) λ_ R1 g1 hR1 hr ok1=>?_
  refine jS (Ak { t with pc:=24 } (.slice a t.AC.length cap)) ?_;exact hK2 _ _ _ ⟨hR1,{ S with used:=true,AA:=AT S.AA t.dst t.dst },g1,{ t with pc:=24 },_,rfl,rfl,rfl,ok1,rfl,rfl,rfl⟩
 have c23:t.pc≠23:=by simpa using c23
 rw[if_neg c23] at hS;refine jeq (jif (λc24=>?_) (λc24=>?_));rotate_left
 ·rw[if_neg (ne_of_beq_false c24)] at hS;cases hS;refine BI ZH.symm (hK2 _ _ _ ⟨RM.le.refl _,S,g,t,_,rfl,rfl,rfl,hok,rfl,rfl,rfl⟩)
 have c24:=eq_of_beq c24;rw[if_pos c24] at hS;split at hS
 ·cases hS
 rename_i hret;have hret:0≤t.ret∧t.ret≤100:=Classical.not_not.1 hret;have hinr:inR (t.ret + 1):=⟨ω,ω⟩;obtain⟨⟨w,S1⟩,hrd,hS⟩:=AD hS;have e1:=Cn hrd;subst e1;dsimp only at hS;refine jl (v:=I t.src) rfl ?_;refine jcS (p:=p) (by exact Cz hok hrd) λ_ R1 g1 hR1 hr ok1=>?_
 subst hr;have hhold:∀x,(Bj t t.ret x).AC = t.AC:=λx=>by simp only[Bj];split<;>(try split)<;>(try split)<;>rfl
 refine AR (λvs R' D'=>R.le R'∧∃S2 g2 G x,S' = S2.setT i (Bj t t.ret x)∧S2.th = S.th∧Ok R' S2 g2∧D' = Ab p S2 g2 ++ (b,C AY (Ak t (.slice a t.AC.length cap))) :: G∧G = F∧vs = [Pt p,I i,Pt b,I x]) (λK3 hK3=>?_) ?_;rotate_left
 ·rintro e R2 D2 ⟨hR,S2,g2,G,x,rfl,hth,ok2,rfl,rfl,he⟩;refine z_V ?_;refine jla (cs:=Ak t (.slice a t.AC.length cap)) (t:=AY) (l:=Ak t (.slice a t.AC.length cap)) (z_n 17) rfl ?_;refine jl (v:=I t.ret) rfl ?_;refine jp (Nc t a t.AC.length cap t.ret x hinr) ?_;refine jS (Ak (Bj t t.ret x) (.slice a t.AC.length cap)) ?_;exact hK2 _ _ _ ⟨hR,S2,g2,Bj t t.ret x,_,rfl,hth,hhold x,ok2,rfl,rfl,rfl⟩
 refine jl (v:=I t.src) rfl (jeq (jif (λhw=>?_) (λhw=>?_)))
 ·have hw:=eq_of_beq hw;rw[if_pos hw] at hS;obtain⟨S2,hwr,hS⟩:=AD hS;have e2:=EM hwr;subst e2;obtain⟨S3,htp,hS⟩:=AD hS;cases hS;obtain⟨t3,e3⟩:=X3 htp;refine jl (v:=I t.src) rfl (jl (v:=I t.dst) rfl ?_);refine jcS (p:=p) (by exact Db ok1 hwr) λ_ R2 g2 hR2 hr ok2=>?_
  refine jl (v:=I t.dst) rfl (jl (v:=I t.size) rfl ?_);refine jcS (p:=p) (by exact TQ ok2 htp) λ_ R3 g3 hR3 hr ok3=>?_
  refine jl (v:=I t.dst) rfl ?_;exact hK3 _ _ _ ⟨(hR1.trans hR2).trans hR3,S3,g3,_,t.dst,rfl,by rw[e3],ok3,rfl,rfl,rfl⟩
 ·rw[if_neg (ne_of_beq_false hw)] at hS;cases hS;exact hK3 _ _ _ ⟨hR1,{ S with used:=true },g1,_,w,rfl,rfl,ok1,rfl,rfl,rfl⟩
end Go.Lf
end
