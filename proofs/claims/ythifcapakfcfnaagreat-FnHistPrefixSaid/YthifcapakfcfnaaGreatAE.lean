/- A part of the proof of the given row. Conditions: none. -/
import Derived.Test.YthifcapakfcfnaaGreatAD
set_option linter.unusedVariables false
set_option linter.unusedSimpArgs false
set_option maxRecDepth 100000
section
namespace Go.Lf
open Go Sm
def Ro (f:Nat) (args:List Value) (v:Value) (R:RM) (D:Chs):Prop:=Fn P f args R D λv' _ A=>v' = v∧A = D
theorem jro {f:Nat} {args:List Value} {v:Value} {R:RM} {D:Chs} {k:Value→M} (hF:Ro f args v R D) (H:J R D (k v)):J R D (CA P f args k):=by
 intro h hs;refine F0 ?_ (hF [] h (by simpa using hs));rintro v' h' ⟨R',A',h1,h2,rfl,rfl⟩;exact H h' (by simpa using h2.le h1)
theorem Bi {v v' : Value} {R:RM} {D E G F:Chs} (hv:v' = v) [s:Sp G (D ++ F) E]:J R G (F8 R F (λv' _ A=>v' = v∧A = D) v'):=by
 intro h hs;refine⟨R,D,RM.le.refl R,((hs.perm s.p).keep),hv,rfl⟩
theorem jln {R:RM} {D:Chs} {a:Option Addr} {n c:Nat} {k:Value→M} (H:J R D (k (I n))):J R D (LN (.slice a n c) k):=H
def Or2 (c u:Value) (v:Bool):Prop:=∀k:Value→M,zP c u k = k (.bool v)
def GJ (c u:Value) (v:Bool):Prop:=∀k:Value→M,zA c u k = k (.bool v)
theorem Kr {u:Value}:Or2 (.bool true) u true:=λ_=>rfl
theorem KX {b:Bool}:Or2 (.bool false) (.bool b) b:=λ_=>rfl
theorem Cw {b:Bool}:GJ (.bool true) (.bool b) b:=λ_=>rfl
theorem DL {u:Value}:GJ (.bool false) u false:=λ_=>rfl
section ways
variable {R:RM} {D:Chs} {K' : List Value→M} {pre:List Value} {acc new:Bool} {S T:M}
theorem jgO (hK:∀c u w,Or2 c u w→w = (acc || new)→J R D (K' (pre ++ [c,u]))) (H:acc = false→J R D (K' (pre ++ [.bool acc,.bool new]))→J R D S) (hT:K' (pre ++ [.bool acc,U]) = T:=by rfl):J R D (GT (.bool acc) false S T):=by
 subst hT;cases acc
 ·exact H rfl (hK _ _ _ KX rfl)
 ·exact hK _ _ _ Kr rfl
theorem jgA (hK:∀c u w,GJ c u w→w = (acc && new)→J R D (K' (pre ++ [c,u]))) (H:acc = true→J R D (K' (pre ++ [.bool acc,.bool new]))→J R D S) (hT:K' (pre ++ [.bool acc,U]) = T:=by rfl):J R D (GT (.bool acc) true S T):=by
 subst hT;cases acc
 ·exact hK _ _ _ DL rfl
 ·exact H rfl (hK _ _ _ Cw rfl)
end ways
section cuts
variable {R:RM} {D:Chs} {lv:List Nat} {B:(List Value→M)→M} {K:Env→M}
theorem jor (pre:List Value) (v:Bool) (H1:∀K' : List Value→M,(∀c u w,Or2 c u w→w = v→J R D (K' (pre ++ [c,u])))→J R D (B K')) (H2:∀e c u,Or2 c u v→lv.map e = pre ++ [c,u]→J R D (K e)):J R D (CUT lv B K):=
 AY (λvs R' D'=>R' = R∧D' = D∧∃c u,vs = pre ++ [c,u]∧Or2 c u v) (λK' h=>H1 K' λc u w hc hw=>h _ _ _ ⟨rfl,rfl,c,u,rfl,hw▸hc⟩) λe R' D' ⟨h1,h2,c,u,h3,h4⟩=>by
  subst h1 h2;exact H2 e c u h4 h3
theorem jan (pre:List Value) (v:Bool) (H1:∀K' : List Value→M,(∀c u w,GJ c u w→w = v→J R D (K' (pre ++ [c,u])))→J R D (B K')) (H2:∀e c u,GJ c u v→lv.map e = pre ++ [c,u]→J R D (K e)):J R D (CUT lv B K):=
 AY (λvs R' D'=>R' = R∧D' = D∧∃c u,vs = pre ++ [c,u]∧GJ c u v) (λK' h=>H1 K' λc u w hc hw=>h _ _ _ ⟨rfl,rfl,c,u,rfl,hw▸hc⟩) λe R' D' ⟨h1,h2,c,u,h3,h4⟩=>by
  subst h1 h2;exact H2 e c u h4 h3
theorem RH (pre:List Value) (H1:∀K' : List Value→M,J R D (K' pre)→J R D (B K')) (H2:∀e,lv.map e = pre→J R D (K e)):J R D (CUT lv B K):=
 AY (λvs R' D'=>R' = R∧D' = D∧vs = pre) (λK' h=>H1 K' (h _ _ _ ⟨rfl,rfl,rfl⟩)) λe R' D' ⟨h1,h2,h3⟩=>by
  subst h1 h2;exact H2 e h3
end cuts
theorem Bv {t:List Rg} {sp:List Value} {i:Nat} (h:i < t.length) {f:Nat} {v:Value} (hv:(eRg (t[i]))[f]? = some v):(Aa eRg t ++ sp)[i * 5 + f]? = some v:=by
 have:=Cs (f:=eRg) (w:=5) (λ_=>rfl) (sp:=sp) h;have e2:=congrArg (λl=>l[f]?) this;simp only[Ub,UX] at e2;have hf:f < 5:=by
  by_cases c:f < 5
  ·exact c
  ·have:(eRg (t[i]))[f]? = none:=UM (by show 5≤f;omega);rw[this] at hv;cases hv
 rw[if_pos hf] at e2;rw[e2,hv]
theorem F3 {t:List Rg} {sp:List Value} {i:Nat} (h:i < t.length):i * 5 + 5≤(Aa eRg t ++ sp).length:=by
 rw[Tn,DO (w:=5) (λ_=>rfl)];omega
section A0
variable {t:List Rg} {sp:List Value} {b cap:Nat} {R:RM} {D:Chs}
theorem NA (AR:Int) (hl:t.length < 1000000) [a:At D b (C AK (Aa eRg t ++ sp))]:Ro JM [S0 b t.length cap,I AR] (I (own t AR)) R D:=by
 refine Nv λF=>?_
 refine z_2 ?_;have ex:=Dv (λx=>x.kind == 2 && x.AR == AR) t;refine jlp (λn vs R' D'=>R' = R∧D' = D ++ F∧∃r:Nat,1≤r∧r≤t.length + 1∧vs = [S0 b t.length cap,I AR,I r]∧n = t.length + 1 - r∧own t AR = BY (λx=>x.kind == 2 && x.AR == AR) r (t.drop r))
  (n:=t.length) ⟨rfl,rfl,1,ω,ω,rfl,ω,by rw[own,List.drop_one]⟩ ?_
 rintro n e R' D' K ⟨rfl,rfl,r,r0,hr,he,hn,hown⟩ hK;refine z_V ?_;refine jln (jlt (jif (λhc=>?_) (λhc=>?_)))
 ·have hc:r < t.length:=by have:=z_f hc;omega
  have hd:t.drop r = t[r] :: t.drop (r + 1):=Ts hc;rw[hd] at hown;simp only[BY] at hown;refine jan [S0 b t.length cap,I AR,I r] (t[r].kind == 2 && t[r].AR == AR) (λK' hK'=>?_) (λe c u h2 he=>?_)
  ·refine jia ω ω (jl (v:=I t[r].kind) ?_ (jeq (Fj (λh1=>?_) (λh1=>?_))))
   ·rw[Tw];exact Bv hc rfl
   ·refine jia ω ω (jl ?_ (jeq (hK' _ _ _ (h1▸Cw) (by rw[h1,UT]))));rw[Tw];exact Bv hc rfl
   ·exact hK' _ _ _ (h1▸DL) (by rw[h1,Ui])
  ·refine z_V ?_;rw[h2];refine jif (λh=>?_) (λh=>?_)
   ·rw[if_pos h] at hown;exact Bi (by rw[hown])
   ·rw[if_neg (by rw[h];decide)] at hown;refine jad (hK (t.length + 1 - (r + 1)) _ _ _ ω ⟨rfl,rfl,r + 1,ω,ω,rfl,rfl,hown⟩)
 ·have hc:¬ r < t.length:=by have:=z_g hc;omega
  rw[Tx ω] at hown;exact Bi (by rw[hown];rfl)
end A0
section A0
variable {t:List Rg} {sp:List Value} {b cap:Nat} {R:RM} {D:Chs}
theorem E7 {t:List Rg} {r:Nat} (h:r < t.length):rv t r = t[r]:=Ek h
theorem Du (hl:t.length < 1000000) [a:At D b (C AK (Aa eRg t ++ sp))]:Ro Gk [S0 b t.length cap] (.bool (BF t)) R D:=by
 refine Kb λF=>?_
 refine z_1 ?_;have nok:(TOk t→False)→Value.bool false = Value.bool (BF t):=λh=>by
  cases hh:BF t
  ·rfl
  ·exact (h (BL.1 hh)).elim
 refine jor [S0 b t.length cap] (decide ((t.length:Int) < 2) || decide ((t.length:Int) > 12)) (λK' hK'=>?_) (λe c u ho he=>?_)
 ·refine jln (jlt (jgO hK' λh1 hN=>jln (jgr hN)))
 refine z_V ?_;refine jor [S0 b t.length cap] ((decide ((t.length:Int) < 2) || decide ((t.length:Int) > 12)) || !(rv t 0 == DY)) (λK' hK'=>?_) (λe c u ho he=>?_)
 ·rw[ho];refine OF (λh1=>?_) (λh1=>?_)
  ·have h1':=h1;simp only[Tp,decide_eq_false_iff_not] at h1';have h0:0 < t.length:=ω
   refine jia ω ω (jla (F3 h0) (Cs (w:=5) (λ_=>rfl) h0) (jbd (cs:=[I 0,I (-1),I 0,I 0,I 0]) rfl rfl ?_));have ee:[I 0,I (-1),I 0,I 0,I 0] = eRg DY:=rfl;rw[ee];refine @Ta (t[0]) DY _ _ _ _ _ (hK' _ _ _ (h1▸KX) ?_);rw[h1,Uh,show rv t 0 = t[0] from E7 h0]
  ·exact hK' _ _ _ (h1▸Kr) (by rw[h1,VH])
 refine z_V ?_;rw[ho];refine jif (λh0=>?_) (λh0=>?_)
 ·refine Bi (nok λT=>?_);have n0:=T.n0;have n1:=T.n1;have e:=T.e;simp only[U8,z_d,UC,beq_eq_false_iff_ne] at h0;rcases h0 with (h | h) | h
  ·omega
  ·omega
  ·exact h e
 simp only[Tp,decide_eq_false_iff_not,UR,beq_iff_eq] at h0;obtain⟨⟨n0,n1⟩,hedge⟩:=h0;refine jlp (λn vs R' D'=>R' = R∧D' = D ++ F∧∃r:Nat,1≤r∧r≤t.length∧vs = [S0 b t.length cap,I r]∧n = t.length - r∧(∀k:Nat,1≤k→k < r→Is k (rv t k)∧∀m:Nat,1≤m→m < k→0≤(rv t k).AR→(rv t m).AR≠(rv t k).AR))
  ⟨rfl,rfl,1,ω,ω,rfl,rfl,λk h1 h2=>ω⟩ ?_
 rintro n e R' D' K ⟨rfl,rfl,r,r0,hr,he,hn,hinv⟩ hK;refine z_V ?_;refine jln (jlt (jif (λhc=>?_) (λhc=>?_)));rotate_left
 ·have hc:=z_g hc;refine Bi ?_;rw[BL.2 ⟨ω,ω,hedge,λq q0 q1=>?_,λq s q0 q1 s0 s1 hoo heq=>?_⟩]
  ·have:=(hinv q.toNat ω ω).1;rwa [show ((q.toNat:Nat):Int) = q from ω] at this
  ·have h1:=(hinv q.toNat ω ω).2 s.toNat ω;have h2:=(hinv s.toNat ω ω).2 q.toNat ω;rw[show ((q.toNat:Nat):Int) = q from ω,show ((s.toNat:Nat):Int) = s from ω] at h1 h2;rcases Int.lt_trichotomy q s with c | c | c
   ·exact absurd heq (h2 ω (by rw[← heq];exact hoo))
   ·exact c
   ·exact absurd heq.symm (h1 ω hoo)
 have hc:=z_f hc;have hrl:r < t.length:=ω
 have hrv:=E7 hrl;have hb:=CT (r:=(r:Int)) ω ω;refine AY (λvs R2 D2=>R2 = R'∧D2 = D ++ F∧vs = [S0 b t.length cap,I r]∧Is r (rv t r)∧∀m:Nat,1≤m→m < r→0≤(rv t r).AR→(rv t m).AR≠(rv t r).AR) (λK2 hK2=>?_) ?_;rotate_left
 ·rintro e _ _ ⟨rfl,rfl,he,hrow,hun⟩;refine z_V ?_;refine jad (hK (t.length - (r + 1)) _ _ _ ω ⟨rfl,rfl,r + 1,ω,ω,rfl,rfl,λk k1 k2=>?_⟩);by_cases c:k = r
  ·subst c;exact⟨hrow,hun⟩
  ·exact hinv k k1 ω
 refine jcI hK2 λK3 hK3=>?_
 refine jia ω ω (jla (l:=eRg (t[r])) (by rw[Tw];exact F3 hrl) (by rw[Tw];exact Cs (w:=5) (λ_=>rfl) hrl) (ja λbx=>(js rfl rfl σ rfl (jp (Ax r) ?_))));rw[hb];refine jor [S0 b t.length cap,I r,Pt bx,I (16 * (r:Int))] (decide (t[r].kind < 1) || decide (t[r].kind > 4)) (λK' hK'=>?_) (λe c u ho he=>?_)
 ·refine jl rfl (jlt (jgO hK' λh1 hN=>?_));have h1':=h1;simp only[Tp,decide_eq_false_iff_not] at h1';refine jl rfl (jgr hN)
 refine z_V ?_;refine jor [S0 b t.length cap,I r,Pt bx,I (16 * (r:Int))] ((decide (t[r].kind < 1) || decide (t[r].kind > 4)) || decide (t[r].top < 16 * r)) (λK' hK'=>?_) (λe c u ho he=>?_)
 ·rw[ho];refine jgO hK' λh1 hN=>?_
  have h1':=h1;simp only[Tp,decide_eq_false_iff_not] at h1';refine jl rfl (jlt hN)
 refine z_V ?_;refine jor [S0 b t.length cap,I r,Pt bx,I (16 * (r:Int))] (((decide (t[r].kind < 1) || decide (t[r].kind > 4)) || decide (t[r].top < 16 * r)) || decide (t[r].top > 16 * r + 16)) (λK' hK'=>?_) (λe c u ho he=>?_)
 ·rw[ho];refine jgO hK' λh1 hN=>?_
  have h1':=h1;simp only[Tp,decide_eq_false_iff_not] at h1';refine jl rfl (jad (jgr hN))
 refine z_V ?_;refine jor [S0 b t.length cap,I r,Pt bx,I (16 * (r:Int))] ((((decide (t[r].kind < 1) || decide (t[r].kind > 4)) || decide (t[r].top < 16 * r)) || decide (t[r].top > 16 * r + 16)) || decide (t[r].Al < 16 * r)) (λK' hK'=>?_) (λe c u ho he=>?_)
 ·rw[ho];refine jgO hK' λh1 hN=>?_
  have h1':=h1;simp only[Tp,decide_eq_false_iff_not] at h1';refine jl rfl (jlt hN)
 refine z_V ?_;refine jor [S0 b t.length cap,I r,Pt bx,I (16 * (r:Int))] (((((decide (t[r].kind < 1) || decide (t[r].kind > 4)) || decide (t[r].top < 16 * r)) || decide (t[r].top > 16 * r + 16)) || decide (t[r].Al < 16 * r)) || decide (t[r].Al > t[r].top)) (λK' hK'=>?_) (λe c u ho he=>?_)
 ·rw[ho];refine jgO hK' λh1 hN=>?_
  have h1':=h1;simp only[Tp,decide_eq_false_iff_not] at h1';refine jl rfl (jl rfl (jgr hN))
 refine z_V ?_;refine jor [S0 b t.length cap,I r,Pt bx,I (16 * (r:Int))] ((((((decide (t[r].kind < 1) || decide (t[r].kind > 4)) || decide (t[r].top < 16 * r)) || decide (t[r].top > 16 * r + 16)) || decide (t[r].Al < 16 * r)) || decide (t[r].Al > t[r].top)) || decide (t[r].AH < 0)) (λK' hK'=>?_) (λe c u ho he=>?_)
 ·rw[ho];refine jgO hK' λh1 hN=>?_
  have h1':=h1;simp only[Tp,decide_eq_false_iff_not] at h1';refine jl rfl (jlt hN)
 refine z_V ?_;refine jor [S0 b t.length cap,I r,Pt bx,I (16 * (r:Int))] (((((((decide (t[r].kind < 1) || decide (t[r].kind > 4)) || decide (t[r].top < 16 * r)) || decide (t[r].top > 16 * r + 16)) || decide (t[r].Al < 16 * r)) || decide (t[r].Al > t[r].top)) || decide (t[r].AH < 0)) || decide (t[r].AH > t[r].top - 16 * r)) (λK' hK'=>?_) (λe c u ho he=>?_)
 ·rw[ho];refine jgO hK' λh1 hN=>?_
  have h1':=h1;simp only[Tp,decide_eq_false_iff_not] at h1';refine jl rfl (jl rfl (jsu (jgr hN)))
 refine z_V ?_;rw[ho];refine jif (λh0=>?_) (λh0=>?_)
 ·refine CN (Bi (nok λT=>?_));have P:=T.row r ω ω;rw[hrv] at P;obtain⟨p1,p2,p3,p4,p5,p6,p7,p8,_⟩:=P;simp only[U8,z_d] at h0;omega
 simp only[Tp,decide_eq_false_iff_not] at h0;obtain⟨⟨⟨⟨⟨⟨⟨q1,q2⟩,q3⟩,q4⟩,q5⟩,q6⟩,q7⟩,q8⟩:=h0;refine jan [S0 b t.length cap,I r,Pt bx] (t[r].kind == 1 && t[r].top != 16 * (r:Int)) (λK' hK'=>?_) (λe c u ho he=>?_)
 ·refine jl rfl (jeq (jgA hK' λh1 hN=>jl rfl (jne hN)))
 refine z_V ?_;rw[ho];refine jif (λh0=>?_) (λh0=>?_)
 ·refine CN (Bi (nok λT=>?_));have P:=T.row r ω ω;rw[hrv] at P;have p9:=P.fr;simp only[z_b,beq_iff_eq,bne_iff_ne,ne_eq] at h0;exact h0.2 (p9 h0.1)
 have hfr:t[r].kind = 1→t[r].top = 16 * r:=λhk=>by
  simp only[hk,beq_self_eq_true,UT,bne_eq_false_iff_eq] at h0;exact h0
 clear h0;refine jor [S0 b t.length cap,I r,Pt bx] (((t[r].kind == 2) != decide (t[r].AR≥0)) || decide (t[r].AR < -1)) (λK' hK'=>?_) (λe c u ho he=>?_)
 ·refine jl rfl (jeq (jl rfl (jge ?_)));refine @jxb (t[r].kind == 2) (decide (t[r].AR≥0)) _ _ _ _ _ ?_;refine jgO hK' λh1 hN=>jl rfl (jlt hN)
 refine z_V ?_;refine jor [S0 b t.length cap,I r,Pt bx] ((((t[r].kind == 2) != decide (t[r].AR≥0)) || decide (t[r].AR < -1)) || decide (t[r].AR > 3)) (λK' hK'=>?_) (λe c u ho he=>?_)
 ·rw[ho];refine jgO hK' λh1 hN=>jl rfl (jgr hN)
 refine z_V ?_;rw[ho];have how:((t[r].kind == 2) != decide (t[r].AR≥0)) = false↔(t[r].kind = 2↔0≤t[r].AR):=by
  rw[bne_eq_false_iff_eq,Ul];simp
 refine jif (λh0=>?_) (λh0=>?_)
 ·refine CN (Bi (nok λT=>?_));have P:=T.row r ω ω;rw[hrv] at P;rw[how.2 P.ow] at h0;have o0:=P.o0;have o1:=P.o1;simp only[Uh,U8,z_d] at h0;omega
 simp only[Tp,decide_eq_false_iff_not] at h0;obtain⟨⟨w1,w2⟩,w3⟩:=h0;have hrow:Is r (rv t r):=by
  rw[hrv];exact⟨ω,ω,ω,ω,ω,ω,ω,ω,hfr,how.1 w1,ω,ω⟩
 refine AY (λvs R2 D2=>R2 = R'∧D2 = (bx,C AK (eRg (t[r]))) :: (D ++ F)∧vs = [S0 b t.length cap,I r]∧∀m:Nat,1≤m→m < r→0≤(rv t r).AR→(rv t m).AR≠(rv t r).AR) (λK4 hK4=>?_) ?_;rotate_left
 ·rintro e _ _ ⟨rfl,rfl,he,hun⟩;refine z_V ?_;exact CN (hK3 _ _ _ ⟨rfl,rfl,rfl,hrow,hun⟩)
 refine jlp (λn vs R2 D2=>R2 = R'∧D2 = (bx,C AK (eRg (t[r]))) :: (D ++ F)∧∃k:Nat,1≤k∧k≤r∧vs = [S0 b t.length cap,I r,Pt bx,I k]∧n = r - k∧∀m:Nat,1≤m→m < k→0≤(rv t r).AR→(rv t m).AR≠(rv t r).AR)
  ⟨rfl,rfl,1,ω,ω,rfl,rfl,λm h1 h2=>ω⟩ ?_
 rintro n e _ _ K' ⟨rfl,rfl,k,k0,k1,he,hn,hun⟩ hK';refine z_V ?_;refine jlt (jif (λhd=>?_) (λhd=>?_));rotate_left
 ·have hd:=z_g hd;exact hK4 _ _ _ ⟨rfl,rfl,rfl,λm h1 h2=>hun m h1 ω⟩
 have hd:=z_f hd;have hkl:k < t.length:=ω
 refine jan [S0 b t.length cap,I r,Pt bx,I k] (decide (t[r].AR≥0) && t[k].AR == t[r].AR) (λK5 hK5=>?_) (λe c u ho he=>?_)
 ·refine jl rfl (jge (Fj (λh1=>?_) (λh1=>?_)))
  ·refine jia ω ω (jl (by rw[Tw];exact Bv hkl rfl) (jl rfl (jeq (hK5 _ _ _ (h1▸Cw) (by rw[h1,UT])))))
  ·exact hK5 _ _ _ (h1▸DL) (by rw[h1,Ui])
 refine z_V ?_;rw[ho];refine jif (λh0=>?_) (λh0=>?_)
 ·refine CN (Bi (nok λT=>?_));simp only[z_b,z_d,beq_iff_eq] at h0;have:=T.own r k ω ω ω ω (by rw[hrv];exact h0.1) (by rw[hrv,E7 hkl];exact h0.2.symm);omega
 refine jad (hK' (r - (k + 1)) _ _ _ ω ⟨rfl,rfl,k + 1,ω,ω,rfl,rfl,λm h1 h2 hoo=>?_⟩);by_cases c:m = k
 ·subst c;rw[hrv] at hoo ⊢;rw[E7 hkl];intro heq;simp[heq,hoo] at h0
 ·exact hun m h1 ω hoo
end A0
def Mk (f:Nat) (args:List Value) (R:RM) (D:Chs) (q:Value→Chs→Prop):Prop:=Fn P f args R D λv _ A=>∃N,A = N ++ D∧q v N
theorem jmk {f:Nat} {args:List Value} {R:RM} {D:Chs} {q:Value→Chs→Prop} {k:Value→M} (hF:Mk f args R D q) (H:∀v N,q v N→J R (N ++ D) (k v)):J R D (CA P f args k):=by
 intro h hs;refine F0 ?_ (hF [] h (by simpa using hs));rintro v' h' ⟨R',A',h1,h2,N,rfl,hq⟩;exact H v' N hq h' (by simpa using h2.le h1)
theorem CS {v:Value} {R:RM} {D E G F:Chs} {q:Value→Chs→Prop} (N:Chs) (hv:q v N) [s:Sp G N E] [x:Sf E (D ++ F)]:J R G (F8 R F (λv _ A=>∃N,A = N ++ D∧q v N) v):=by
 intro h hs;obtain⟨X,hX⟩:=x.p;refine⟨R,N ++ D,RM.le.refl R,?_,N,rfl,hv⟩;have h1:=hs.perm s.p;subst hX;have:St h R (X ++ (N ++ D ++ F)):=h1.perm (by
  rw[Tu N D F,← Tu N X,← Tu X N]
  exact V5 _ Uy)
 exact this.drop
theorem jex {R:RM} {D:Chs} {i:Nat} {vs:Array Value} {v:Value} {k:Value→M} (h:vs.toList[i]? = some v) (H:J R D (k v)):J R D (EX i (.tuple vs) k):=by
 have e:EX i (.tuple vs) k = k v:=by simp only[EX,h]
 rw[e];exact H
theorem Bk {R:RM} {D:Chs} {k:Value→M} {n b off len cap r:Nat} (h:r < len) (H:J R D (k (.pointer (some ⟨b,off + r * n,none⟩)))):J R D (IA n (.slice (some ⟨b,off,none⟩) len cap) (I (r:Int)) k):=
 jia ω ω (by rw[Tj];exact H)
def Qa (t:List Rg) (v:Value) (N:Chs):Prop:=∃b c sp,t.length≤c∧v = S0 b t.length c∧N = [(b,C AK (Aa eRg t ++ sp))]
def RD (r:Option (List Rg × Int)) (v:Value) (N:Chs):Prop:=match r with
 | none=>v = .tuple #[SN,I 0,.bool false]∧N = []
 | some (t',i)=>∃sv,Qa t' sv N∧v = .tuple #[sv,I i,.bool true]
def RI (r:Option (List Rg)) (v:Value) (N:Chs):Prop:=match r with
 | none=>v = .tuple #[SN,.bool false]∧N = []
 | some t'=>∃sv,Qa t' sv N∧v = .tuple #[sv,.bool true]
theorem HL {t:List Rg} {sp:List Value} {b i:Nat} {x:Rg} {R:RM} {D D' : Chs} {m:M} (hi:i < t.length) [a:At D b (C AK (Aa eRg t ++ sp))] [u:Up D b (C AK (Aa eRg t ++ sp)) (C AK (Aa eRg (t.set i x) ++ sp)) D'] (H:J R D' m):J R D (ST 5 (.pointer (some ⟨b,0 + i * 5,none⟩)) (.agg (eRg x).toArray) m):=by
 rw[Tw];exact js rfl rfl (F3 hi) (J7 (w:=5) (λ_=>rfl) hi) H
theorem OQ {t:List Rg} {sp:List Value} {b i:Nat} {R:RM} {D:Chs} {k:Value→M} (hi:i < t.length) [a:At D b (C AK (Aa eRg t ++ sp))] (H:J R D (k (.agg (eRg (t[i])).toArray))):J R D (LA 5 (.pointer (some ⟨b,0 + i * 5,none⟩)) k):=by
 rw[Tw];exact jla (F3 hi) (Cs (w:=5) (λ_=>rfl) hi) H
section A0
variable {t:List Rg} {sp:List Value} {b cap:Nat} {R:RM} {D:Chs}
theorem Dt (hl:t.length < 1000000) [a:At D b (C AK (Aa eRg t ++ sp))]:Mk HO [S0 b t.length cap] R D (Qa t):=by
 refine MF λF=>?_
 refine z_1 ?_;have hsz:=DO (f:=eRg) (w:=5) (λ_=>rfl) t;refine jbs (cs:=[]) rfl rfl λb0=>?_
 have hr:Ay R ((b0,C 81 []) :: (D ++ F)) (some ⟨b,0,none⟩) (t.length * 5) (Aa eRg t):=by
  have:=Ay.held (R:=R) (D:=(b0,C 81 []) :: (D ++ F)) (b:=b) (o:=0) (n:=t.length * 5) (by simp[hsz]);rw[Ur,UW ω,← hsz,List.take_length] at this;rw[← hsz];exact this
 refine Rj hr δ ω (λ_=>rfl) (λh0=>?_) (λb' c hc=>?_)
 ·have ht:t = []:=UU.1 h0;subst ht;exact CS [(b0,C 81 [])] ⟨b0,0,[],z_n _,rfl,rfl⟩
 ·exact CS [(b',C 81 (Aa eRg t ++ (List.replicate (c - t.length) (cl z81)).flatten))] ⟨b',c,_,hc,rfl,rfl⟩
theorem Ge (AR:Int) (hl:t.length < 1000000) [a:At D b (C AK (Aa eRg t ++ sp))]:Mk FK [S0 b t.length cap,I AR] R D (RD (Bh t AR)):=by
 refine Iy λF=>?_
 refine z_2 ?_;refine jor [S0 b t.length cap,I AR] (!BF t || decide (AR < 0)) (λK' hK'=>?_) (λe c u ho he=>?_)
 ·refine jro (Du hl) (jgO hK' λh1 hN=>jlt hN)
 refine z_V ?_;refine jor [S0 b t.length cap,I AR] ((!BF t || decide (AR < 0)) || decide (AR > 3)) (λK' hK'=>?_) (λe c u ho he=>?_)
 ·rw[ho];refine jgO hK' λh1 hN=>jgr hN
 refine z_V ?_;refine jor [S0 b t.length cap,I AR] (((!BF t || decide (AR < 0)) || decide (AR > 3)) || decide (own t AR≥0)) (λK' hK'=>?_) (λe c u ho he=>?_)
 ·rw[ho];refine jgO hK' λh1 hN=>jro (NA AR hl) (jge hN)
 refine z_V ?_;rw[ho];refine jif (λh0=>?_) (λh0=>?_)
 ·refine CS [] ?_;have:Bh t AR = none:=by
   unfold Bh;rw[if_neg];intro hh;simp only[U8,UC,z_d,z_b] at h0 hh;rcases h0 with ((h | h) | h) | h
   ·rw[hh.1.1.1] at h;cases h
   ·omega
   ·omega
   ·omega
  rw[this];exact⟨rfl,rfl⟩
 simp only[Tp,UR,decide_eq_false_iff_not] at h0;obtain⟨⟨⟨hok,h2⟩,h3⟩,h4⟩:=h0;have n1:=(BL.1 hok).n1;have eq:Bh t AR = (let i:=BY (λx=>x.kind == 1) 1 t.tail;if i < 0 then none else some (AM t i ⟨2,AR,AG i,AG i,0⟩,i)):=by
  unfold Bh;rw[if_pos (by simp[hok];omega)]
 refine AY (λvs R' D'=>R' = R∧D' = D ++ F∧vs = []∧Bh t AR = none) (λK2 hK2=>?_) ?_;rotate_left
 ·rintro e _ _ ⟨rfl,rfl,-,hn⟩;exact CS [] (by rw[hn];exact⟨rfl,rfl⟩)
 refine jlp (λn vs R' D'=>R' = R∧D' = D ++ F∧∃r:Nat,1≤r∧r≤t.length + 1∧vs = [S0 b t.length cap,I AR,I r]∧n = t.length + 1 - r∧BY (λx=>x.kind == 1) 1 t.tail = BY (λx=>x.kind == 1) r (t.drop r))
  (n:=t.length) ⟨rfl,rfl,1,ω,ω,rfl,ω,by rw[List.drop_one]⟩ ?_
 rintro n e R' D' K ⟨rfl,rfl,r,r0,hr,he,hn,hown⟩ hK;refine z_V ?_;refine jln (jlt (jif (λhc=>?_) (λhc=>?_)));rotate_left
 ·have hc:=z_g hc;refine hK2 _ _ _ ⟨rfl,rfl,rfl,?_⟩;rw[eq,hown,Tx ω];rfl
 have hc:r < t.length:=by have:=z_f hc;omega
 have hd:t.drop r = t[r] :: t.drop (r + 1):=Ts hc;rw[hd] at hown;simp only[BY] at hown;refine jia ω ω (jl (by rw[Tw];exact Bv hc rfl) (jeq (jif (λh=>?_) (λh=>?_))))
 ·rw[if_pos h] at hown;refine jmk (Dt hl) ?_;rintro _ _ ⟨b',c',sp',hc',rfl,rfl⟩;refine jp (Ax r) (jp (Ax r) (jbd rfl rfl (Bk hc (HL (x:=⟨2,AR,AG r,AG r,0⟩) hc (CS [(b',C AK (Aa eRg (t.set r ⟨2,AR,AG r,AG r,0⟩) ++ sp'))] ?_)))));rw[eq,hown];simp only;rw[if_neg ω];refine⟨_,⟨b',c',sp',?_,rfl,?_⟩,?_⟩
  ·simpa [AM] using hc'
  ·simp[AM]
  ·simp
 ·rw[if_neg (by rw[h];decide)] at hown;refine jad (hK (t.length + 1 - (r + 1)) _ _ _ ω ⟨rfl,rfl,r + 1,ω,ω,rfl,rfl,hown⟩)
end A0
section A0
variable {t:List Rg} {sp:List Value} {b cap:Nat} {R:RM} {D:Chs}
theorem Jq (r:Int) (hl:t.length < 1000000) [a:At D b (C AK (Aa eRg t ++ sp))]:Mk Eo [S0 b t.length cap,I r] R D (RI (C4 t r)):=by
 refine Hm λF=>?_
 refine z_2 ?_;refine jor [S0 b t.length cap,I r] (!BF t || decide (r < 1)) (λK' hK'=>?_) (λe c u ho he=>?_)
 ·refine jro (Du hl) (jgO hK' λh1 hN=>jlt hN)
 refine z_V ?_;refine jor [S0 b t.length cap,I r] ((!BF t || decide (r < 1)) || decide (r≥t.length)) (λK' hK'=>?_) (λe c u ho he=>?_)
 ·rw[ho];refine jgO hK' λh1 hN=>jln (jge hN)
 refine z_V ?_;refine jor [S0 b t.length cap,I r] (((!BF t || decide (r < 1)) || decide (r≥t.length)) || (rv t r).kind != 2) (λK' hK'=>?_) (λe c u ho he=>?_)
 ·rw[ho];refine OF (λh1=>?_) (λh1=>?_)
  ·have h1':=h1;simp only[Tp,decide_eq_false_iff_not] at h1';obtain⟨k,rfl⟩:∃k:Nat,r = k:=⟨r.toNat,ω⟩;have hk:k < t.length:=ω
   refine Bk hk (jl (by rw[Tw];exact Bv hk rfl) (jne (hK' _ _ _ (h1▸KX) (by rw[h1,Uh,E7 hk]))))
  ·exact hK' _ _ _ (h1▸Kr) (by rw[h1,VH])
 refine z_V ?_;rw[ho];refine jif (λh0=>?_) (λh0=>?_)
 ·refine CS [] ?_;have:C4 t r = none:=by
   unfold C4;split
   ·rename_i hh;simp only[U8,UC,z_d,z_b,bne_iff_ne,ne_eq] at h0 hh;by_cases c:r < t.length
    ·rw[CJ ω c];simp only;rw[if_neg];intro h2;rcases h0 with ((h | h) | h) | h
     ·rw[hh.1] at h;cases h
     ·omega
     ·omega
     ·exact h (by simpa using h2)
    ·unfold idx;rw[if_pos ω,UM ω]
   ·rfl
  rw[this];exact⟨rfl,rfl⟩
 simp only[Tp,UR,decide_eq_false_iff_not,bne_eq_false_iff_eq] at h0;obtain⟨⟨⟨hok,h2⟩,h3⟩,h4⟩:=h0;obtain⟨k,rfl⟩:∃k:Nat,r = k:=⟨r.toNat,ω⟩;have hk:k < t.length:=ω
 refine jmk (Dt hl) ?_;rintro _ _ ⟨b',c',sp',hc',rfl,rfl⟩;refine Bk hk (OQ hk (ja λb2=>(js (cs':=eRg (t[k])) rfl rfl σ rfl (js (cs':=eRg { t[k] with kind:=3 }) rfl rfl σ rfl (js (cs':=eRg { t[k] with kind:=3,AR:=-1 }) rfl rfl σ rfl (jla σ rfl (Bk hk (HL hk (CS [(b',C AK (Aa eRg (t.set k { t[k] with kind:=3,AR:=-1 }) ++ sp'))] ?_)))))))));have:C4 t k = some (AM t k { t[k] with kind:=3,AR:=-1 }):=by
  unfold C4;rw[if_pos (by simp[hok];omega),CJ ω ω,E7 hk];simp only;rw[E7 hk] at h4;rw[if_pos (by simpa using h4)]
 rw[this];exact⟨_,⟨b',c',sp',by simpa [AM] using hc',rfl,by simp[AM]⟩,σ⟩
theorem Gr (r:Int) (hl:t.length < 1000000) [a:At D b (C AK (Aa eRg t ++ sp))]:Mk FE [S0 b t.length cap,I r] R D (RI (BU t r)):=by
 refine J1 λF=>?_
 refine z_2 ?_;refine jor [S0 b t.length cap,I r] (!BF t || decide (r < 1)) (λK' hK'=>?_) (λe c u ho he=>?_)
 ·refine jro (Du hl) (jgO hK' λh1 hN=>jlt hN)
 refine z_V ?_;refine jor [S0 b t.length cap,I r] ((!BF t || decide (r < 1)) || decide (r≥t.length)) (λK' hK'=>?_) (λe c u ho he=>?_)
 ·rw[ho];refine jgO hK' λh1 hN=>jln (jge hN)
 refine z_V ?_;refine jor [S0 b t.length cap,I r] (((!BF t || decide (r < 1)) || decide (r≥t.length)) || (rv t r).kind == 1) (λK' hK'=>?_) (λe c u ho he=>?_)
 ·rw[ho];refine OF (λh1=>?_) (λh1=>?_)
  ·have h1':=h1;simp only[Tp,decide_eq_false_iff_not] at h1';obtain⟨k,rfl⟩:∃k:Nat,r = k:=⟨r.toNat,ω⟩;have hk:k < t.length:=ω
   refine Bk hk (jl (by rw[Tw];exact Bv hk rfl) (jeq (hK' _ _ _ (h1▸KX) (by rw[h1,Uh,E7 hk]))))
  ·exact hK' _ _ _ (h1▸Kr) (by rw[h1,VH])
 refine z_V ?_;rw[ho];refine jif (λh0=>?_) (λh0=>?_)
 ·refine CS [] ?_;have:BU t r = none:=by
   unfold BU;split
   ·rename_i hh;simp only[U8,UC,z_d,z_b,beq_iff_eq] at h0 hh;by_cases c:r < t.length
    ·rw[CJ ω c];simp only;rcases h0 with ((h | h) | h) | h
     ·rw[hh.1] at h;cases h
     ·omega
     ·omega
     ·rw[if_pos (by simpa using h)]
    ·unfold idx;rw[if_pos ω,UM ω]
   ·rfl
  rw[this];exact⟨rfl,rfl⟩
 simp only[Tp,UR,decide_eq_false_iff_not,beq_eq_false_iff_ne] at h0;obtain⟨⟨⟨hok,h2⟩,h3⟩,h4⟩:=h0;obtain⟨k,rfl⟩:∃k:Nat,r = k:=⟨r.toNat,ω⟩;have hk:k < t.length:=ω
 refine jmk (Dt hl) ?_;rintro _ _ ⟨b',c',sp',hc',rfl,rfl⟩;refine jp (Ax k) (jp (Ax k) (jbd rfl rfl (Bk hk (HL (x:=DJ k) hk (CS [(b',C AK (Aa eRg (t.set k (DJ k)) ++ sp'))] ?_)))));have:BU t k = some (AM t k (DJ k)):=by
  unfold BU;rw[if_pos (by simp[hok];omega),CJ ω ω];simp only;rw[if_neg (by simpa using h4)]
 rw[this];exact⟨_,⟨b',c',sp',by simpa [AM] using hc',rfl,by simp[AM]⟩,σ⟩
theorem Ec (AR size:Int) (hl:t.length < 1000000) [a:At D b (C AK (Aa eRg t ++ sp))]:Mk FG [S0 b t.length cap,I AR,I size] R D (RD (As t AR size)):=by
 refine J2 λF=>?_
 refine z_3 ?_;refine jor [S0 b t.length cap,I AR,I size] (!BF t || decide (AR < 0)) (λK' hK'=>?_) (λe c u ho he=>?_)
 ·refine jro (Du hl) (jgO hK' λh1 hN=>jlt hN)
 refine z_V ?_;refine jor [S0 b t.length cap,I AR,I size] ((!BF t || decide (AR < 0)) || decide (AR > 3)) (λK' hK'=>?_) (λe c u ho he=>?_)
 ·rw[ho];refine jgO hK' λh1 hN=>jgr hN
 refine z_V ?_;refine jor [S0 b t.length cap,I AR,I size] (((!BF t || decide (AR < 0)) || decide (AR > 3)) || decide (size < 1)) (λK' hK'=>?_) (λe c u ho he=>?_)
 ·rw[ho];refine jgO hK' λh1 hN=>jlt hN
 refine z_V ?_;refine jor [S0 b t.length cap,I AR,I size] ((((!BF t || decide (AR < 0)) || decide (AR > 3)) || decide (size < 1)) || decide (size > 16)) (λK' hK'=>?_) (λe c u ho he=>?_)
 ·rw[ho];refine jgO hK' λh1 hN=>jgr hN
 refine z_V ?_;rw[ho];refine jif (λh0=>?_) (λh0=>?_)
 ·refine CS [] ?_;have:As t AR size = none:=by
   unfold As;rw[if_neg];intro hh;simp only[U8,UC,z_d,z_b] at h0 hh;rcases h0 with (((h | h) | h) | h) | h
   ·rw[hh.1.1.1.1] at h;cases h
   ·omega
   ·omega
   ·omega
   ·omega
  rw[this];exact⟨rfl,rfl⟩
 simp only[Tp,UR,decide_eq_false_iff_not] at h0;obtain⟨⟨⟨⟨hok,h2⟩,h3⟩,h4⟩,h5⟩:=h0;have T:=BL.1 hok;have n1:=T.n1;have eq:As t AR size = (match (if 0≤own t AR then idx t (own t AR) else none) with
  | some x=>if x.top + size≤AG (own t AR) + 16 then some (t,x.top) else
    (match Bh ((C4 t (own t AR)).getD []) AR with | some (u,n)=>some (u,AG n) | none=>none)
  | none=>(match Bh t AR with | some (u,n)=>some (u,AG n) | none=>none)):=by
  unfold As;rw[if_pos (by simp[hok];omega)];rfl
 refine jro (NA AR hl) ?_;have hown:own t AR < 0∨(1≤own t AR∧own t AR < t.length∧(rv t (own t AR)).kind = 2):=by
  rcases Dv (λx=>x.kind == 2 && x.AR == AR) t with ⟨h,_⟩ | ⟨h,h',h''⟩
  ·left;unfold own;rw[h];decide
  ·right;simp only[z_b] at h'';exact⟨h,h',by have:=h''.1;exact eq_of_beq this⟩
 rcases hown with hneg | ⟨hp,hlt,hk2⟩
 ·have hb:decide (own t AR≥0) = false:=decide_eq_false ω;rw[if_neg ω] at eq;refine CQ (CQ (jge ?_));rw[hb];refine jft (Bq λe he=>?_);refine z_V ?_;refine jft (EW (Aq jev (Bq λe he=>?_)));refine z_V ?_;refine DM (jmk (Dt hl) ?_);rintro _ _ ⟨b',c',sp',hc',rfl,rfl⟩;refine CQ (jge ?_);rw[hb];refine DM (Bq λe he=>?_);refine z_V ?_;refine jmk (Ge AR hl) ?_;intro v N hq;cases htk:Bh t AR with
  | none=>
   rw[htk] at hq eq;obtain⟨rfl,rfl⟩:=hq;refine jex rfl (jex rfl (jex rfl (EH (CS [] (by rw[eq];exact⟨rfl,rfl⟩)))))
  | some un=>
   obtain⟨u,n⟩:=un;rw[htk] at hq eq;obtain⟨sv,⟨b2,c2,sp2,hc2,rfl,rfl⟩,rfl⟩:=hq;refine jex rfl (jex rfl (jex rfl (DM (jp (Ax n) (CS [(b2,C AK (Aa eRg u ++ sp2))] (by rw[eq];exact⟨_,⟨b2,c2,sp2,hc2,rfl,rfl⟩,rfl⟩))))))
 ·have hb:decide (own t AR≥0) = true:=decide_eq_true ω;have RR:=T.row _ hp hlt;have t0:=RR.t0;have t1:=RR.t1;obtain⟨k,hkk⟩:∃k:Nat,own t AR = k:=⟨(own t AR).toNat,ω⟩;rw[hkk] at eq hb t0 t1 hk2 ⊢;have hk:k < t.length:=ω
  rw[E7 hk] at t0 t1;have hbase:=CT (r:=(k:Int)) ω ω;rw[if_pos ω,CJ ω ω,E7 hk] at eq;simp only at eq;refine CQ (CQ (jge ?_));rw[hb];refine jtt (Bk hk (jl (by rw[Tw];exact Bv hk rfl) (jad (Bq λe he=>?_))));refine z_V ?_;refine jtt (jp (Ax k) (jad (jle (Ea (Aq (jl (by rw[Tw];exact Bv hk rfl) jev) (Bq λe he=>?_))))));refine z_V ?_;refine jif (λhfit=>?_) (λhfit=>?_)
  ·rw[if_pos (z_f hfit)] at eq;refine Bk hk (jl (by rw[Tw];exact Bv hk rfl) (jmk (Dt hl) ?_));rintro _ _ ⟨b',c',sp',hc',rfl,rfl⟩;refine Aq (jl (by rw[Tw];exact Bv hk rfl) jev) (Aq (jl (by rw[Tw];exact Bv hk rfl) jev) (CS [(b',C AK (Aa eRg t ++ sp'))] (by rw[eq];exact⟨_,⟨b',c',sp',hc',rfl,rfl⟩,rfl⟩)))
  ·rw[if_neg (z_g hfit)] at eq;refine jmk (Dt hl) ?_;rintro _ _ ⟨b',c',sp',hc',rfl,rfl⟩;refine CQ (jge ?_);rw[hb];refine EH (jmk (Jq k hl) ?_);intro v N hq;have hcl:C4 t k = some (AM t k { rv t k with kind:=3,AR:=-1 }):=by
    unfold C4;rw[if_pos (by simp[hok];omega),CJ ω ω];simp only;rw[if_pos (by simpa using hk2)]
   rw[hcl] at hq eq;simp only[Uj] at eq;obtain⟨sv,⟨b3,c3,sp3,hc3,rfl,rfl⟩,rfl⟩:=hq;refine jex rfl (jex rfl (Bq λe he=>?_));refine z_V ?_;refine jmk (Ge AR (by simpa using hl)) ?_;intro v N hq;cases htk:Bh (AM t k { rv t k with kind:=3,AR:=-1 }) AR with
   | none=>
    rw[htk] at hq eq;obtain⟨rfl,rfl⟩:=hq;refine jex rfl (jex rfl (jex rfl (EH (CS [] (by rw[eq];exact⟨rfl,rfl⟩)))))
   | some un=>
    obtain⟨u,n⟩:=un;rw[htk] at hq eq;obtain⟨sv,⟨b2,c2,sp2,hc2,rfl,rfl⟩,rfl⟩:=hq;refine jex rfl (jex rfl (jex rfl (DM (jp (Ax n) (CS [(b2,C AK (Aa eRg u ++ sp2))] (by rw[eq];exact⟨_,⟨b2,c2,sp2,hc2,rfl,rfl⟩,rfl⟩))))))
end A0
theorem jrp {f:Nat} {args:List Value} {v:Value} {R:RM} {D:Chs} {k:Value→M} (hF:Ro f args v R []) (H:J R D (k v)):J R D (CA P f args k):=by
 intro h hs;refine F0 ?_ (hF D h hs);rintro v' h' ⟨R',A',h1,h2,rfl,rfl⟩;exact H h' (h2.le h1)
theorem jfo {R:RM} {D:Chs} {o b off:Nat} {k:Value→M} (H:J R D (k (.pointer (some ⟨b,off + o,none⟩)))):J R D (FO o (.pointer (some ⟨b,off,none⟩)) k):=H
theorem SP (o:Sm.Op):Pu Kg [.agg (eOp o).toArray] (.bool (Ml o)):=by
 intro R;refine OW λF=>?_
 refine z_1 ?_;refine ja λb=>?_
 have e0:cl (.agg (eOp o).toArray) = eOp o:=rfl;rw[e0];refine jan [Pt b] ((decide (o.kind≥1)) && (decide (o.kind≤11))) (λK' hK'=>?_) (λe c u ho he=>?_)
 ·refine jl rfl (jge (jgA hK' λh1 hN=>jl rfl (jle hN)))
 refine z_V ?_;refine jan [] ((decide (o.kind≥1) && decide (o.kind≤11)) && (o.kind != 1 || Ao o.sh)) (λK' hK'=>?_) (λe c u ho he=>?_)
 ·rw[ho];refine Fj (λh1=>?_) (λh1=>?_)
  ·refine jl rfl (jne (OF (λh2=>?_) (λh2=>?_)))
   ·refine jfo (jla (by exact z_n 8) τ (jp (GK o.sh) ?_));rw[h2];exact EW (hK' _ _ _ (h1▸Cw) (by rw[h1,h2,UT,Uh]))
   ·rw[h2];exact Ea (hK' _ _ _ (h1▸Cw) (by rw[h1,h2,UT,VH]))
  ·exact hK' _ _ _ (h1▸DL) (by rw[h1,Ui])
 refine z_V ?_;rw[ho];refine BC (A:=[]) (RM.le.refl _) ?_;congr 1
theorem Ln (k:Int):Pu GA [I k] (.bool (DK k)):=by
 intro R;refine K0 λF=>?_
 refine z_1 ?_;refine jor [I k] ((k == 2) || (k == 3)) (λK' hK'=>?_) (λe c u ho he=>?_)
 ·refine jeq (jgO hK' λh1 hN=>jeq hN)
 refine z_V ?_;refine jor [I k] (((k == 2) || (k == 3)) || (k == 4)) (λK' hK'=>?_) (λe c u ho he=>?_)
 ·rw[ho];refine jgO hK' λh1 hN=>jeq hN
 refine z_V ?_;refine jor [I k] ((((k == 2) || (k == 3)) || (k == 4)) || (k == 5)) (λK' hK'=>?_) (λe c u ho he=>?_)
 ·rw[ho];refine jgO hK' λh1 hN=>jeq hN
 refine z_V ?_;refine jor [] (((((k == 2) || (k == 3)) || (k == 4)) || (k == 5)) || (k == 7)) (λK' hK'=>?_) (λe c u ho he=>?_)
 ·rw[ho];refine jgO hK' λh1 hN=>jeq hN
 refine z_V ?_;rw[ho];exact BC (A:=[]) (RM.le.refl _) rfl
theorem Ql (b:Bool):Pu JI [.bool b] (I (Sm.one b)):=by
 intro R;refine Ns λF=>?_
 refine z_1 ?_;cases b
 ·exact DM (BC (A:=[]) (RM.le.refl _) rfl)
 ·exact EH (BC (A:=[]) (RM.le.refl _) rfl)
theorem Np (o:Sm.Op) (refs nums:Int):Pu Gz [.agg (eOp o).toArray,I refs,I nums] (.bool (F4 o refs nums)):=by
 intro R;refine Kk λF=>?_
 refine z_3 ?_;refine ja λb=>?_
 have e0:cl (.agg (eOp o).toArray) = eOp o:=rfl;rw[e0];refine jor [I refs,I nums,Pt b] ((o.kind == 4) || (o.kind == 5)) (λK' hK'=>?_) (λe c u ho he=>?_)
 ·refine jl rfl (jeq (jgO hK' λh1 hN=>jl rfl (jeq hN)))
 refine z_V ?_;rw[ho];refine jif (λh0=>?_) (λh0=>?_)
 ·refine jan [] ((decide (o.f≥0)) && (decide (o.f < nums))) (λK' hK'=>?_) (λe c u ho he=>?_)
  ·refine jl rfl (jge (jgA hK' λh1 hN=>jl rfl (jlt hN)))
  refine z_V ?_;rw[ho];refine BC (A:=[]) (RM.le.refl _) ?_;unfold F4;rw[if_pos h0]
 ·refine jan [] ((decide (o.f≥0)) && (decide (o.f < refs))) (λK' hK'=>?_) (λe c u ho he=>?_)
  ·refine jl rfl (jge (jgA hK' λh1 hN=>jl rfl (jlt hN)))
  refine z_V ?_;rw[ho];refine BC (A:=[]) (RM.le.refl _) ?_;unfold F4;rw[if_neg (by rw[h0];decide)]
theorem Ca {R:RM} {D:Chs} {v:Value} {l:List Int} {i:Int} {k:Value→M} (h:B9 R v l) (h0:0≤i) (h1:i < l.length) (H:J R D (k (I (l[i.toNat]'(ω))))):J R D (IA 1 v (I i) λx=>L1 x k):=by
 rcases h with ⟨_,h2,_⟩ | ⟨b,o,cap,t,cs,rfl,h2,h3,h4,h5⟩
 ·omega
 ·refine jia h0 h1 (jlr h2 ?_ H);have:=congrArg (λl=>l[i.toNat]?) h4;simp only[Ub,UX,Uv] at this;rw[if_pos ω,Tl (by omega:i.toNat < l.length)] at this;rw[UY,this];rfl
theorem Ep {R:RM} {D:Chs} {v:Value} {w n:Nat} {cells:List Value} {k:Value→M} (h:Fz R v w n cells) (H:J R D (k (I n))):J R D (LN v k):=by
 rcases h with ⟨rfl,rfl,_⟩ | ⟨b,o,cap,t,cs,rfl,_⟩<;>exact H
theorem OD {R:RM} {rv:Value} {AA:List Int} (o:Sm.Op) (nn:Int) (h:B9 R rv AA):Ro H7 [.agg (eOp o).toArray,rv,I nn] (I (Cf o AA nn)) R []:=by
 refine LU λF=>?_
 refine z_3 ?_;refine ja λb=>?_
 have e0:cl (.agg (eOp o).toArray) = eOp o:=rfl;rw[e0];refine Ep h (jan [rv,I nn,Pt b,I AA.length] ((decide (o.a≥0)) && (decide (o.a < AA.length))) (λK' hK'=>?_) (λe c u ho he=>?_))
 ·refine jl rfl (jge (jgA hK' λh1 hN=>jl rfl (jlt hN)))
 refine z_V ?_;rw[ho];refine jan [rv,I nn,Pt b,I AA.length,.bool (hnd AA.length o.a)] ((decide (o.b≥0)) && (decide (o.b < AA.length))) (λK' hK'=>?_) (λe c u ho he=>?_)
 ·refine jl rfl (jge (jgA hK' λh1 hN=>jl rfl (jlt hN)))
 refine z_V ?_;rw[ho];refine jan [rv,I nn,Pt b,I AA.length,.bool (hnd AA.length o.a),.bool (hnd AA.length o.b)] ((decide (o.c≥0)) && (decide (o.c < AA.length))) (λK' hK'=>?_) (λe c u ho he=>?_)
 ·refine jl rfl (jge (jgA hK' λh1 hN=>jl rfl (jlt hN)))
 refine z_V ?_;rw[ho];have fin:∀v,v = Cf o AA nn→J R ((b,C 54 (eOp o)) :: ([] ++ F)) (F8 R F (λv' x A=>v' = I (Cf o AA nn)∧A = []) (I v)):=λv hv=>Bi (by rw[hv])
 have hA:∃A B Cc:Bool,A = (o.kind == 1 || (if o.kind == 8 then decide (0 < AA.length) else hnd AA.length o.a))∧B = (o.kind == 1 || o.kind == 8 || o.kind == 2 || o.kind == 4 || o.kind == 5 || o.kind == 9 || o.kind == 10 || o.kind == 11 || hnd AA.length o.b)∧Cc = (!(o.kind == 7) && (decide (1≤o.kind) && decide (o.kind≤11)) || hnd AA.length o.c):=⟨_,_,_,rfl,rfl,rfl⟩;obtain⟨A,B,Cc,eA,eB,eC⟩:=hA;refine RH [rv,I nn,Pt b,I AA.length,.bool A,.bool B,.bool Cc] (λK1 hK1=>?_) (λe he=>?_)
 ·refine jl rfl (RH [rv,I nn,Pt b,I AA.length,.bool A,.bool B,.bool Cc] (λK2 hK2=>?_) (λe he=>?_));rotate_left
  ·refine z_V ?_;exact hK1
  have leaf:∀x y z:Bool,x = A→y = B→z = Cc→J R ((b,C 54 (eOp o)) :: ([] ++ F)) (K2 [rv,I nn,Pt b,I AA.length,.bool x,.bool y,.bool z]):=by
   rintro x y z rfl rfl rfl;exact hK2
  refine jeq (jif (λk1=>?_) (λk1=>?_))
  ·have k1:=eq_of_beq k1;refine leaf _ _ _ ?_ ?_ ?_<;>simp[eA,eB,eC,k1]
  have k1:o.kind≠1:=by simpa using k1
  refine jeq (jif (λk8=>?_) (λk8=>?_))
  ·have k8:=eq_of_beq k8;refine jgr (leaf _ _ _ ?_ ?_ ?_)<;>simp[eA,eB,eC,k8]
  have k8:o.kind≠8:=by simpa using k8
  refine AY (λvs R' D'=>R' = R∧D' = (b,C 54 (eOp o)) :: ([] ++ F)∧∃v:Bool,vs = [rv,I nn,Pt b,I AA.length,.bool (hnd AA.length o.a),.bool (hnd AA.length o.b),.bool (hnd AA.length o.c),I o.kind,.bool v]∧(v = true↔o.kind = 2∨o.kind = 4∨o.kind = 5∨o.kind = 9∨o.kind = 10∨o.kind = 11)) (λK3 hK3=>?_) ?_
  ·refine jeq (jif (λh=>hK3 _ _ _ ⟨rfl,rfl,_,rfl,?_⟩) (λn2=>?_))
   ·rw[h];simp[eq_of_beq h]
   refine jeq (jif (λh=>hK3 _ _ _ ⟨rfl,rfl,_,rfl,?_⟩) (λn4=>?_))
   ·rw[h];simp[eq_of_beq h]
   refine jeq (jif (λh=>hK3 _ _ _ ⟨rfl,rfl,_,rfl,?_⟩) (λn5=>?_))
   ·rw[h];simp[eq_of_beq h]
   refine jeq (jif (λh=>hK3 _ _ _ ⟨rfl,rfl,_,rfl,?_⟩) (λn9=>?_))
   ·rw[h];simp[eq_of_beq h]
   refine jeq (jif (λh=>hK3 _ _ _ ⟨rfl,rfl,_,rfl,?_⟩) (λn10=>?_))
   ·rw[h];simp[eq_of_beq h]
   refine jeq (hK3 _ _ _ ⟨rfl,rfl,_,rfl,?_⟩);simp only[beq_eq_false_iff_ne,ne_eq] at n2 n4 n5 n9 n10;simp[n2,n4,n5,n9,n10]
  ·rintro e R3 _ ⟨rfl,rfl,v,he,hv⟩;refine z_V ?_;refine jif (λhvt=>?_) (λhvf=>?_)
   ·have hk:=hv.1 hvt;refine leaf _ _ _ ?_ ?_ ?_
    ·simp[eA,k1,k8]
    ·rw[eB];rcases hk with h | h | h | h | h | h<;>simp[h]
    ·rw[eC];rcases hk with h | h | h | h | h | h<;>simp[h]
   ·have hk:¬ (o.kind = 2∨o.kind = 4∨o.kind = 5∨o.kind = 9∨o.kind = 10∨o.kind = 11):=λh=>by rw[hv.2 h] at hvf;cases hvf
    simp only[not_or] at hk;obtain⟨q2,q4,q5,q9,q10,q11⟩:=hk;refine AY (λvs R2 D2=>R2 = R3∧D2 = (b,C 54 (eOp o)) :: ([] ++ F)∧∃v:Bool,vs = [rv,I nn,Pt b,I AA.length,.bool (hnd AA.length o.a),.bool (hnd AA.length o.b),.bool (hnd AA.length o.c),.bool v]∧(v = true↔o.kind = 3∨o.kind = 6)) (λK3 hK3=>?_) ?_
    ·refine jeq (jif (λh=>hK3 _ _ _ ⟨rfl,rfl,_,rfl,?_⟩) (λn3=>?_))
     ·rw[h];simp[eq_of_beq h]
     refine jeq (hK3 _ _ _ ⟨rfl,rfl,_,rfl,?_⟩);simp only[beq_eq_false_iff_ne,ne_eq] at n3;simp[n3]
    ·rintro e _ _ ⟨rfl,rfl,v,he,hv⟩;refine z_V ?_;refine jif (λhvt=>?_) (λhvf=>?_)
     ·refine leaf _ _ _ ?_ ?_ ?_
      ·simp[eA,k1,k8]
      ·rw[eB];rcases hv.1 hvt with h | h<;>simp[h]
      ·rw[eC];rcases hv.1 hvt with h | h<;>simp[h]
     ·have hk:¬ (o.kind = 3∨o.kind = 6):=λh=>by rw[hv.2 h] at hvf;cases hvf
      rw[not_or] at hk;refine leaf _ _ _ ?_ ?_ ?_
      ·simp[eA,k1,k8]
      ·simp[eB,k1,k8,q2,q4,q5,q9,q10,q11]
      ·rw[eC];by_cases q7:o.kind = 7
       ·simp[q7]
       ·have:(decide (1≤o.kind) && decide (o.kind≤11)) = false:=by
         rw[Bool.and_eq_false_iff,decide_eq_false_iff_not,decide_eq_false_iff_not];omega
        simp[this]
 refine z_V ?_;refine jor [rv,I nn,Pt b,I AA.length,.bool Cc] ((!A) || (!B)) (λK' hK'=>?_) (λe c u ho he=>?_)
 ·refine id (jgO hK' λh1 hN=>id hN)
 refine z_V ?_;refine jor [rv,I nn,Pt b,I AA.length] ((!A || !B) || (!Cc)) (λK' hK'=>?_) (λe c u ho he=>?_)
 ·rw[ho];refine jgO hK' λh1 hN=>id hN
 refine z_V ?_;rw[ho];have fa:¬ ((!A || !B) || !Cc) = true→o.kind≠1→o.kind≠8→0≤o.a∧o.a < AA.length:=λhh k1 k8=>by
  have:A = true:=by
   cases A
   ·simp at hh
   ·rfl
  rw[this] at eA;simp[k1,k8,hnd] at eA;exact eA
 have base:Cf o AA nn = if (!A || !B || !Cc) = true then 2 else if ((DK o.kind || o.kind == 10 || o.kind == 11) && (idx AA o.a).getD 0 == nn) = true then 3 else if ((o.kind == 1 || o.kind == 2 || o.kind == 9) && AA.length == 8) = true then 5 else 0:=by
  unfold Cf;rw[eA,eB,eC]
 refine jif (λh0=>fin _ (by rw[base,if_pos h0])) (λh0=>?_);have h0' : ¬ ((!A || !B) || !Cc) = true:=by rw[h0];decide
 rw[if_neg h0'] at base;have k18:∀x:Bool,x = (DK o.kind || o.kind == 10 || o.kind == 11)→x = true→o.kind≠1∧o.kind≠8:=λx hx hx2=>by
  rw[hx2] at hx;constructor<;>intro hk<;>rw[hk] at hx<;>simp[DK] at hx
 refine jor [rv,I nn,Pt b,I AA.length] (DK o.kind || o.kind == 10) (λK' hK'=>?_) (λe c u ho he=>?_)
 ·refine jl rfl (jp (Ln o.kind) (jgO hK' λh1 hN=>jl rfl (jeq hN)))
 refine z_V ?_;refine jor [rv,I nn,Pt b,I AA.length] ((DK o.kind || o.kind == 10) || (o.kind == 11)) (λK' hK'=>?_) (λe c u ho he=>?_)
 ·rw[ho];refine jgO hK' λh1 hN=>jl rfl (jeq hN)
 refine z_V ?_;refine jan [Pt b,I AA.length] ((DK o.kind || o.kind == 10 || o.kind == 11) && (idx AA o.a).getD 0 == nn) (λK' hK'=>?_) (λe c u ho he=>?_)
 ·rw[ho];refine Fj (λh1=>?_) (λh1=>?_)
  ·obtain⟨n1,n8⟩:=k18 _ rfl h1;obtain⟨a0,a1⟩:=fa h0' n1 n8;refine jl rfl (Ca h a0 a1 (jeq (hK' _ _ _ (h1▸Cw) ?_)));rw[h1,UT];have:idx AA o.a = some (AA[o.a.toNat]'(ω)):=by unfold idx;rw[if_pos a0,Tl]
   rw[this];rfl
  ·exact hK' _ _ _ (h1▸DL) (by rw[h1,Ui])
 refine z_V ?_;rw[ho];refine jif (λh3=>fin _ (by rw[base,if_pos h3])) (λh3=>?_);rw[if_neg (by rw[h3];decide)] at base;refine jor [Pt b,I AA.length] ((o.kind == 1) || (o.kind == 2)) (λK' hK'=>?_) (λe c u ho he=>?_)
 ·refine jl rfl (jeq (jgO hK' λh1 hN=>jl rfl (jeq hN)))
 refine z_V ?_;refine jor [I AA.length] ((o.kind == 1 || o.kind == 2) || (o.kind == 9)) (λK' hK'=>?_) (λe c u ho he=>?_)
 ·rw[ho];refine jgO hK' λh1 hN=>jl rfl (jeq hN)
 refine z_V ?_;refine jan [] (((o.kind == 1 || o.kind == 2) || o.kind == 9) && (AA.length:Int) == 8) (λK' hK'=>?_) (λe c u ho he=>?_)
 ·rw[ho];refine jgA hK' λh1 hN=>jeq hN
 refine z_V ?_;rw[ho];have e8:((AA.length:Int) == 8) = (AA.length == 8):=by rw[Ul];simp;omega
 rw[e8];refine jif (λh5=>fin _ (by rw[base,if_pos h5])) (λh5=>fin _ (by rw[base,if_neg (by rw[h5];decide)]))
end Go.Lf
end
section
namespace Go.Lf
open Go Sm
theorem Qc {R:RM} {D:Chs} {v:Value} {l:List Int} {u:Int} {k:Value→M} (h:B9 R v l) (h0:0≤u) (h1:u≤l.length) (H:∀v',B9 R v' (l.take u.toNat)→J R D (k v')):J R D (SL 1 v none (some (I u)) k):=by
 rcases h with ⟨rfl,h2,_⟩ | ⟨b,o,cap,t,cs,rfl,h2,h3,h4,h5⟩
 ·intro h' hs;refine⟨⟨h0,ω⟩,H _ ?_ h' hs⟩;have:l = []:=UU.1 h2;subst this;have:u = 0:=by simp at h1;omega
  subst this;exact .inl ⟨rfl,σ,σ⟩
 ·intro h' hs;refine⟨⟨h0,ω⟩,H _ (.inr ⟨b,o,cap,t,cs,?_,h2,?_,?_,?_⟩) h' hs⟩
  ·simp only[UA];congr 1;omega
  ·simp only[UA];omega
  ·simp only[UA];rw[List.map_take,← h4,List.take_take];congr 1;omega
  ·simp only[UA];omega
theorem T8 {R:RM} {D:Chs} {v:Value} {l:List Int} {u:Int} {k:Value→M} (h:B9 R v l) (h0:0≤u) (h1:u≤l.length) (H:∀v',B9 R v' (l.drop u.toNat)→J R D (k v')):J R D (SL 1 v (some (I u)) none k):=by
 rcases h with ⟨rfl,h2,_⟩ | ⟨b,o,cap,t,cs,rfl,h2,h3,h4,h5⟩
 ·intro h' hs;refine⟨⟨h0,ω,ω⟩,H _ ?_ h' hs⟩;have:l = []:=UU.1 h2;subst this;have:u = 0:=by simp at h1;omega
  subst this;exact .inl ⟨rfl,σ,σ⟩
 ·intro h' hs;refine⟨⟨h0,h1,ω⟩,H _ ?_ h' hs⟩;by_cases c:cap = u.toNat
  ·have hl:l.length = u.toNat:=ω
   refine .inr ⟨b,o,cap - u.toNat,t,cs,?_,h2,?_,?_,?_⟩
   ·rw[if_pos c];simp
   ·simp[hl];omega
   ·simp[hl]
   ·simp[hl]
  ·refine .inr ⟨b,o + u.toNat * 1,cap - u.toNat,t,cs,?_,h2,?_,?_,?_⟩
   ·rw[if_neg c];simp
   ·simp only[Ud];omega
   ·simp only[Ud];rw[List.map_drop,← h4,List.drop_take,List.drop_drop];congr 1
    ·omega
    ·congr 1;omega
   ·simp only[Ud];omega
theorem TV {R:RM} {D E:Chs} {l l2:List Int} {b c cx m:Nat} {sp:List Value} {xa:Option Addr} {k:Value→M} [tk:Tk D b (C AZ (l.map I ++ sp)) E] (hm:m = l2.length) (hc:l.length≤c) (hsp:sp.length = c - l.length) (hl:l.length + l2.length < 2000000) (hx:Ay R D xa (m * 1) (l2.map I))
  (H:∀b' c' sp',(l ++ l2).length≤c'→sp'.length = c' - (l ++ l2).length→J R ((b',C AZ ((l ++ l2).map I ++ sp')) :: E) (k (.slice (some ⟨b',0,none⟩) (l ++ l2).length c'))) :
  J R D (AP AZ 1 8 [I 0] (S0 b l.length c) (.slice xa m cx) k):=by
 subst hm;have hfl:Bn (l2.map I) = true:=by
  unfold Bn;rw[UB];intro x hx;obtain⟨y,_,rfl⟩:=UK.1 hx;rfl
 refine PL hx (by simp;omega) hc σ hfl δ ω (λh=>?_) (λb' c' h=>?_)
 ·have el:lay (l.map I ++ sp) (l.length * 1) (l2.map I) = (l ++ l2).map I ++ sp.drop l2.length:=by
   rw[F5 σ];simp[lay]
  rw[el];have:=H b c (sp.drop l2.length) (by simpa using h) (by simp;omega);simpa using this
 ·refine Aj (tk.p.cons _) (Aj (Uq _ _ _) (CN ?_));have:=H b' c' (List.replicate (c' - (l.length + l2.length)) [I 0]).flatten (by simpa using h) (by rw[BT (w:=1) (by intro x hx;rw[(Ue.1 hx).2];rfl)];simp);rw[UW σ,UG σ];simpa using this
theorem B9.reads {R:RM} {D:Chs} {v:Value} {l:List Int} (h:B9 R v l):∃a cap,v = .slice a l.length cap∧Ay R D a (l.length * 1) (l.map I):=Fz.reads h
def Si (r:Option (List Int)) (v:Value) (A:Chs):Prop:=match r with
 | none=>v = .tuple #[SN,.bool false]∧A = []
 | some l=>∃sv,QZ l sv A∧v = .tuple #[sv,.bool true]
theorem JX {l:List Int} {a:Int}:∀{n k:Nat},DG l a n = some k→l[k]? = some a∧k < n∧∀j,k < j→j < n→l[j]?≠some a:=by
 intro n;induction n with
 | zero=>intro k h;cases h
 | succ n ih=>
  intro k h;simp only[DG] at h;split at h
  ·cases h;exact⟨by assumption,ω,λj h1 h2=>ω⟩
  ·rename_i hn;obtain⟨h1,h2,h3⟩:=ih h;refine⟨h1,ω,λj h4 h5=>?_⟩;by_cases c:j = n
   ·subst c;exact hn
   ·exact h3 j h4 ω
theorem Q3 {R:RM} {v:Value} {AI:List Int} (kind a:Int) (h:B9 R v AI) (hl:AI.length < 1000000):Fn P ID [v,I kind,I a] R [] (λv' _ A=>Si (EC AI kind a) v' A):=by
 refine MR λF=>?_
 refine z_3 ?_;refine jeq (jif (λhk=>?_) (λhk=>?_))
 ·refine Ep h (jeq (jif (λh8=>?_) (λh8=>?_)))
  ·refine BC (A:=[]) (RM.le.refl _) ?_;have h8:AI.length = 8:=by have:=eq_of_beq h8;omega
   unfold EC;rw[if_pos hk,if_pos h8];exact⟨rfl,rfl⟩
  ·have h8:AI.length≠8:=by have:=ne_of_beq_false h8;omega
   refine jc (Br h ω) ?_;rintro _ R' _ hR ⟨b,c,sp,hc,hsp,rfl,rfl⟩;refine jbs rfl rfl λb1=>(Qw hc hsp ω (Ay.held (cs:=[I a]) (z_n 1)) λb' c' sp' hc' hsp'=>(BC (A:=[(b',C AZ ((AI ++ [a]).map I ++ sp'))]) hR ?_))
   unfold EC;rw[if_pos hk,if_neg h8];exact⟨.slice (some ⟨b',0,none⟩) (AI.length + 1) c',⟨b',c',sp',by simpa using hc',by simpa using hsp',σ,rfl⟩,rfl⟩
 ·refine AY (λvs R' D'=>R' = R∧D' = [] ++ F∧vs = [v,I (match DG AI a AI.length with | some i=>(i:Int) | none=>-1)]) (λK' hK'=>?_) ?_
  ·refine AY (λvs R' D'=>R' = R∧D' = [] ++ F∧vs = [v,I (match DG AI a AI.length with | some i=>(i:Int) | none=>-1)]) (λK2 hK2=>?_) ?_
   ·refine jlp (λn vs R' D'=>R' = R∧D' = [] ++ F∧∃i:Nat,i≤AI.length∧vs = [v,I a,I (match DG AI a i with | some i=>(i:Int) | none=>-1),I i]∧n = AI.length - i)
     (n:=AI.length) ⟨rfl,rfl,0,ω,rfl,ω⟩ ?_
    rintro n e R3 D3 K ⟨rfl,hD,i,hi,he,hn⟩ hK;refine z_W ?_;refine Ep h (jlt (jif (λhc=>?_) (λhc=>?_)))
    ·have hc:=z_f hc;have hil:i < AI.length:=ω
     refine AY (λvs R' D'=>R' = R3∧D' = [] ++ F∧vs = [v,I a,I (match DG AI a (i + 1) with | some i=>(i:Int) | none=>-1),I i]) (λK4 hK4=>?_) ?_;rotate_left
     ·rintro e R4 D4 ⟨rfl,hD,he⟩;refine z_W ?_;refine jad (hK (AI.length - (i + 1)) _ _ _ ω ⟨rfl,rfl,i + 1,ω,rfl,rfl⟩)
     refine jcI hK4 λK5 hK5=>?_
     refine Ca h ω ω (jeq (jif (λhq=>?_) (λhq=>?_)))
     ·have hq:=eq_of_beq hq;simp only[Tj] at hq;refine hK5 _ _ _ ⟨rfl,rfl,?_⟩;simp only[DG];rw[if_pos (by rw[Tl hil,hq])]
     ·have hq:=ne_of_beq_false hq;simp only[Tj] at hq;refine hK5 _ _ _ ⟨rfl,rfl,?_⟩;simp only[DG];rw[if_neg (by rw[Tl hil];simpa using hq)]
    ·have hc:=z_g hc;have:i = AI.length:=ω
     subst this;exact hK2 _ _ _ ⟨rfl,rfl,rfl⟩
   ·rintro e R4 D4 ⟨rfl,hD,he⟩;refine z_W ?_;exact hK' _ _ _ ⟨rfl,rfl,rfl⟩
  ·rintro e R4 D4 ⟨rfl,hD,he⟩;refine z_W ?_;cases hli:DG AI a AI.length with
   | none=>
    refine jlt (jif (λ_=>?_) (λhh=>?_))
    ·refine BC (A:=[]) (RM.le.refl _) ?_;unfold EC;rw[if_neg (by rw[hk];decide),hli];exact⟨rfl,rfl⟩
    ·exact absurd hh δ
   | some i=>
    obtain⟨q1,q2,_⟩:=JX hli;refine jlt (jif (λhh=>?_) (λhh=>?_))
    ·exact absurd (z_f hh) (by simp only;omega)
    ·refine Qc h (by simp only;omega) (by simp only;omega) λv1 h1=>(CF ⟨by simp only;omega,by simp only;omega⟩ (T8 h (by simp only;omega) (by simp only;omega) λv2 h2=>?_))
     simp only[Tj] at h1;rw[show ((i:Int) + 1).toNat = i + 1 from ω] at h2;refine jc (Br h1 (by simp;omega)) ?_;rintro _ R' _ hR ⟨b,c,sp,hc,hsp,rfl,rfl⟩;obtain⟨xa,cx,rfl,hx⟩:=B9.reads (h2.le hR);refine TV rfl hc hsp (by simp;omega) hx λb' c' sp' hc' hsp'=>(BC (A:=[(b',C AZ ((AI.take i ++ AI.drop (i + 1)).map I ++ sp'))]) hR ?_)
     unfold EC;rw[if_neg (by rw[hk];decide),hli];exact⟨_,⟨b',c',sp',hc',hsp',rfl,rfl⟩,rfl⟩
theorem O2 {S:Sim} {i:Int} {t:Thr} {o:Sm.Op} (h:S.opOf i t = some o):∃p,idx S.AE i = some p∧idx p t.next = some o:=by
 unfold Sim.opOf at h;split at h
 ·exact⟨_,by assumption,h⟩
 ·cases h
theorem QJ {R:RM} {F:Chs} {p b:Nat} {S:Sim} {g:Img} {i:Int} {t:Thr} {v:Value} {o:Sm.Op} {k:Value→M} (hok:Ok R S g) (ho:S.opOf i t = some o)
  (H:∀b2,J R ((b2,C 54 (eOp o)) :: (b,C AS (Ac t v)) :: (AU p S g ++ F)) (k (Pt b2))) :
  J R ((b,C AS (Ac t v)) :: (AU p S g ++ F)) (L1 (.pointer (some ⟨p,3,none⟩)) λx9=>IA 1 x9 (I i) λx10=>L1 x10 λx11=>L1 (.pointer (some ⟨b,0 + 1,none⟩)) λx13=>IA 8 x11 x13 λx14=>LA 8 x14 λx15=>AL 54 z54 λx16=>
   AND (L1 (.pointer (some ⟨p,3,none⟩)) λx17=>EV x17 x9)<|AND (L1 x10 λx18=>EV x18 x11)<|AND (L1 (.pointer (some ⟨b,0 + 1,none⟩)) λx19=>EV x19 x13)<|AND (LA 8 x14 λx20=>EV x20 x15)<|ST 8 x16 x15<|k x16):=by
 obtain⟨pr,h1,h2⟩:=O2 ho;obtain⟨i0,i1,i2,i3⟩:=Ad h1;obtain⟨n0,n1,n2,n3⟩:=Ad h2;obtain⟨vs,f1,f2,f3⟩:=hok.AE;obtain⟨x,f4,f5⟩:=f3 i.toNat i2;rw[i3] at f5;rcases f1 with ⟨_,h,_⟩ | ⟨bp,op_,cp,tp,cs,e1,e2,e3,e4,e5⟩
 ·omega
 rcases f5 with ⟨_,h,_⟩ | ⟨bo,oo,co,to_,co2,q1,q2,q3,q4,q5⟩
 ·omega
 have l1:J R ((b,C AS (Ac t v)) :: (AU p S g ++ F)) (L1 (.pointer (some ⟨p,3,none⟩)) λx9=>IA 1 x9 (I i) λx10=>L1 x10 λx11=>L1 (.pointer (some ⟨b,0 + 1,none⟩)) λx13=>IA 8 x11 x13 λx14=>LA 8 x14 λx15=>AL 54 z54 λx16=>
   AND (L1 (.pointer (some ⟨p,3,none⟩)) λx17=>EV x17 x9)<|AND (L1 x10 λx18=>EV x18 x11)<|AND (L1 (.pointer (some ⟨b,0 + 1,none⟩)) λx19=>EV x19 x13)<|AND (LA 8 x14 λx20=>EV x20 x15)<|ST 8 x16 x15<|k x16):=by
  have hx:cs[op_ + i.toNat * 1]? = some x:=by
   have:=congrArg (λl=>l[i.toNat]?) e4;simp only[Ub,UX] at this;rw[if_pos ω] at this;rw[UY,this,f4]
  have ho8:(co2.drop (oo + t.next.toNat * 8)).take 8 = eOp o:=by
   have:=Cs (f:=eOp) (w:=8) (λ_=>rfl) (sp:=[]) n2;rw[UP,n3,← q4,List.drop_take,List.drop_drop,List.take_take] at this;rw[← this];congr 1;omega
  refine jl rfl ?_;rw[e1];refine jia i0 ω (jlr e2 hx ?_);rw[q1];refine jl rfl (jia n0 ω (KL q2 ω ho8 (ja λb2=>(Aq (jl rfl (by rw[e1];exact jev)) (Aq (jlr e2 (by rw[hx,q1]) jev) (Aq (jl rfl jev) (Aq (KL q2 ω ho8 jev) (js rfl rfl (by exact z_n 8) τ (H b2)))))))))
 exact l1
theorem S4 {o:Sm.Op} {AA:List Int} (h8:o.kind = 8) (h:Cf o AA 0 = 0):0 < AA.length:=by
 by_cases c:0 < AA.length
 ·exact c
 ·exfalso;have:AA = []:=UU.1 ω;subst this;unfold Cf at h;simp[h8] at h
theorem Pz {S S' : Sim} {i a c:Int} (h:S.event i a c = some S'):S.sz = true:=by
 unfold Sim.event at h;split at h
 ·cases h
 ·rename_i hz;simpa using hz
theorem P4 {S:Sim} {i:Int} {t t' : Thr} (h:(S.setT i t').sz = true) (ht:idx S.th i = some t):t'.AA.length < 1000000:=by
 obtain⟨i0,i1,i2,i3⟩:=Ad ht;refine (EU h).2.2.2.2 t' ?_;show t'∈AM S.th i t';unfold AM;exact List.mem_of_getElem? (List.getElem?_set_self ω)
theorem QH {p:Nat} {S S' : Sim} {g:Img} {i:Int} {R:RM} (hok:Ok R S g) (hS:S.begin_ i = some S') :
  Fn P Gw [Pt p,I i] R (AU p S g) (CK p S' λ_=>True):=by
 refine LO λF=>?_
 refine z_2 ?_;obtain⟨t,ht,hS⟩:=A7 hS;obtain⟨o,ho,hS⟩:=A7 hS;obtain⟨h0,h1,h2,h3⟩:=Ad ht;refine Es hok ht rfl λb a cap hv=>(QJ hok ho λb2=>(jla (by exact z_n 8) τ (jp (SP o) (jif (λhb=>?_) (λhb=>?_)))))
 ·rw[if_pos hb] at hS;refine jcS (CU hok hS) λ_ R2 g2 hR2 hr ok2=>(Ae hR2 trivial rfl ok2)
 rw[if_neg (by rw[hb];decide)] at hS;refine jla (by exact z_n 8) τ (jl rfl (jrp (OD o 0 hv) (jne (jif (λhc=>?_) (λhc=>?_)))))
 ·have hc:Cf o t.AA 0≠0:=by simpa using hc
  simp only[if_pos hc] at hS;refine jcS (CU hok hS) λ_ R2 g2 hR2 hr ok2=>(Ae hR2 trivial rfl ok2)
 have hc:Cf o t.AA 0 = 0:=by simpa using hc
 simp only[if_neg (show ¬ Cf o t.AA 0≠0 from λh=>h hc)] at hS;refine jl rfl (jeq (jif (λh8=>?_) (λh8=>?_)))
 ·have h8:=eq_of_beq h8;rw[if_pos h8] at hS;have hn:=S4 h8 hc;have hsz:=P4 (Pz hS) ht;have hl1:t.AA.length≤1000000:=by simp at hsz;omega
  refine jl rfl (jl rfl (jln (jsu (Qc hv ω ω λv1 hv1=>?_))));rw[show ((t.AA.length:Int) - 1).toNat = t.AA.length - 1 from ω] at hv1;refine jc (Br hv1 (by simp;omega)) ?_;rintro _ R' _ hR ⟨b4,c4,sp4,hc4,hsp4,rfl,rfl⟩;refine Bc (b:=b4) λR2 hR2 hb4=>?_
  have hv2:=Bj hb4 hc4;have ok2:=(hok.le hR).le hR2;refine jS (Ac { t with AA:=t.AA.take (t.AA.length - 1) } (S0 b4 (t.AA.take (t.AA.length - 1)).length c4)) (Eb (S.setT i { t with AA:=t.AA.take (t.AA.length - 1) }) ok2 h0 h1 hv2 τ λg3 ok3=>(jcS (CU ok3 hS) λ_ R4 g4 hR4 hr ok4=>(Ae ((hR.trans hR2).trans hR4) trivial rfl ok4)))
 have h8:o.kind≠8:=by simpa using h8
 rw[if_neg h8] at hS;refine jeq (jif (λh9=>?_) (λh9=>?_))
 ·have h9:=eq_of_beq h9;rw[if_pos h9] at hS;obtain⟨r,hr,hS⟩:=A7 hS;obtain⟨r0,r1,r2,r3⟩:=Ad hr;refine jl rfl (jl rfl (Ca hv r0 r1 ?_));rw[r3];refine jcS (Jk hok hS) λ_ R2 g2 hR2 hr ok2=>(Ae hR2 trivial rfl ok2)
 have h9:o.kind≠9:=by simpa using h9
 rw[if_neg h9] at hS;refine jeq (jif (λk1=>?_) (λk1=>?_))
 ·have k1:=eq_of_beq k1;rw[if_pos k1] at hS;cases hS;refine jS (Ac { t with pc:=30 } (.slice a t.AA.length cap)) (Eb (S.setT i { t with pc:=30 }) hok h0 h1 (by exact hv) τ λg3 ok3=>(Ae (RM.le.refl _) trivial rfl ok3))
 have k1:o.kind≠1:=by simpa using k1
 rw[if_neg k1] at hS;obtain⟨ra,hra,hS⟩:=A7 hS;obtain⟨a0,a1,a2,a3⟩:=Ad hra;obtain⟨t2,ht2,hS⟩:=A7 hS;obtain⟨t3,ht3,hS⟩:=A7 hS;cases hS;refine jS (Ac { t with pc:=1 } (.slice a t.AA.length cap)) (jl rfl (jl rfl (Ca hv a0 a1 ?_)));rw[a3];refine jS (Ac { t with pc:=1,h:=ra } (.slice a t.AA.length cap)) ?_;have ht2r:t2.AA = t.AA:=by
  split at ht2
  ·obtain⟨x,_,hx⟩:=A7 ht2;cases hx;rfl
  ·cases ht2;rfl
 have ht3r:t3.AA = t.AA:=by
  split at ht3
  ·obtain⟨x,_,hx⟩:=A7 ht3;cases hx;exact ht2r
  ·cases ht3;exact ht2r
 refine AY (λvs R' D'=>R' = R∧D' = (b2,C 54 (eOp o)) :: (b,C AS (Ac t2 (.slice a t.AA.length cap))) :: (AU p S g ++ F)∧vs = [Pt p,I i,Pt b,Pt b2]) (λK' hK'=>?_) ?_
 ·refine jor [Pt p,I i,Pt b,Pt b2] ((o.kind == 3) || (o.kind == 6)) (λK' hK'=>?_) (λe c u ho he=>?_)
  ·refine jl rfl (jeq (jgO hK' λh1 hN=>jl rfl (jeq hN)))
  refine z_V ?_;refine jor [Pt p,I i,Pt b,Pt b2] (((o.kind == 3) || (o.kind == 6)) || (o.kind == 7)) (λK' hK'=>?_) (λe c u ho he=>?_)
  ·rw[ho];refine jgO hK' λh1 hN=>jl rfl (jeq hN)
  refine z_V ?_;rw[ho];refine jif (λhk=>?_) (λhk=>?_)
  ·rw[if_pos (by simpa [or_assoc,and_assoc] using hk)] at ht2;obtain⟨rb,hrb,ht2⟩:=A7 ht2;obtain⟨b0,b1,b2',b3⟩:=Ad hrb;cases ht2;refine jl rfl (jl rfl (Ca hv b0 b1 ?_));rw[b3];refine js rfl rfl (by simp[Ac]) rfl (hK' _ _ _ ⟨rfl,rfl,rfl⟩)
  ·rw[if_neg (by simpa [or_assoc,and_assoc] using hk)] at ht2;cases ht2;exact hK' _ _ _ ⟨rfl,rfl,rfl⟩
 ·rintro e R5 D3 ⟨rfl,hD,he⟩;refine z_W ?_;refine AY (λvs R' D'=>R' = R5∧(∃G,D' = (b,C AS (Ac t3 (.slice a t.AA.length cap))) :: (AU p S g ++ G)∧G = F)∧vs = [Pt p,I i,Pt b]) (λK' hK'=>?_) ?_
  ·refine jl rfl (jeq (jif (λhk=>?_) (λhk=>?_)))
   ·rw[if_pos (eq_of_beq hk)] at ht3;obtain⟨rc,hrc,ht3⟩:=A7 ht3;cases ht3;rw[ht2r] at hrc;obtain⟨b0,b1,b2',b3⟩:=Ad hrc;refine jl rfl (jl rfl (Ca hv b0 b1 ?_));rw[b3];refine js rfl rfl (by simp[Ac]) rfl (CN (hK' _ _ _ ⟨rfl,⟨_,rfl,rfl⟩,rfl⟩))
   ·rw[if_neg (ne_of_beq_false hk)] at ht3;cases ht3;exact CN (hK' _ _ _ ⟨rfl,⟨_,rfl,rfl⟩,rfl⟩)
  ·rintro e _ D3 ⟨rfl,⟨G,hD,hG⟩,he⟩;rw[hD,hG];clear hD;refine z_V ?_;refine Eb (S.setT i t3) hok h0 h1 (by rw[ht3r];exact hv) τ λg3 ok3=>(Ae (RM.le.refl _) trivial rfl ok3)
instance (priority:=low) Sp.app (D A E F:Chs) [s:Sp D A E]:Sp (D ++ F) A (E ++ F):=⟨by rw[← Tu];exact s.p.append_right F⟩
theorem O6 {R:RM} {D:Chs} {m:M} (H:J R D m):J R ([] ++ D) m:=H
theorem Tb {R:RM} {D G:Chs} {p b c:Nat} {S:Sim} {g:Img} {t' : List Rg} {sp:List Value} {m:M} [w:Fd D p S g G]
  (H:J R (AU p { S with A0:=t' } { g with tb:=b,tc:=c,tsp:=sp } ++ G) m) :
  J R ((b,C AK (Aa eRg t' ++ sp)) :: D) (ST 1 (.pointer (some ⟨p,5,none⟩)) (S0 b t'.length c) m):=by
 refine Aj ((w.ex.cons _).trans U9.symm) ?_;have e2:Bx { S with A0:=t' } { g with tb:=b,tc:=c,tsp:=sp } = (Bx S g).set 5 (S0 b t'.length c):=by
  simp[Bx,evV]
 refine js (cs':=Bx { S with A0:=t' } { g with tb:=b,tc:=c,tsp:=sp })
  (D':=(p,C BZ (Bx { S with A0:=t' } { g with tb:=b,tc:=c,tsp:=sp })) :: ((g.wb,C AZ (S.A5.map I ++ g.wsp)) :: (g.tb,C AK (Aa eRg S.A0 ++ g.tsp)) :: (g.mb,C Au (S.AJ.map Value.bool ++ g.msp)) :: (g.hb,C AS (Db S.th g.rv ++ g.hsp)) :: evD S g ++ (b,C AK (Aa eRg t' ++ sp)) :: G)) rfl rfl (by simp[Bx]) (by rw[e2,show cl (S0 b t'.length c) = [S0 b t'.length c] from rfl,EK (by simp[Bx])]) ?_ (u:=?_)
 ·unfold AU;exact inferInstance
 ·refine B7 ((p,C BZ (Bx { S with A0:=t' } { g with tb:=b,tc:=c,tsp:=sp })) :: (g.wb,C AZ (S.A5.map I ++ g.wsp)) :: (b,C AK (Aa eRg t' ++ sp)) :: (g.mb,C Au (S.AJ.map Value.bool ++ g.msp)) :: (g.hb,C AS (Db S.th g.rv ++ g.hsp)) :: evD S g) (G:=G) (H)
theorem LY {R:RM} {D G:Chs} {p b c:Nat} {S:Sim} {g:Img} {t' : List Rg} {sp:List Value} {m:M} [w:Fd D p S g G]
  (H:J R (AU p { S with A0:=t' } { g with tb:=b,tc:=c,tsp:=sp } ++ G) m) :
  J R ([(b,C AK (Aa eRg t' ++ sp))] ++ D) (ST 1 (.pointer (some ⟨p,5,none⟩)) (S0 b t'.length c) m):=Tb (D:=D) H
theorem C8 {S S1:Sim} {a v:Int} (h:S.read a = some (v,S1)):S1 = { S with used:=true }:=by
 simp only[Sim.read] at h;split at h
 ·cases h;rfl
 ·cases h
theorem DV {S S1:Sim} {a v:Int} (h:S.write a v = some S1):S1 = { S with used:=true,A5:=AM S.A5 a v }:=by
 simp only[Sim.write] at h;split at h
 ·cases h;rfl
 ·cases h
theorem SU {S S1:Sim} {a v:Int} (h:S.top a v = some S1):∃t,S1 = { S with A0:=t }:=by
 unfold Sim.top at h;split at h
 ·split at h
  ·cases h;exact⟨_,rfl⟩
  ·cases h
 ·cases h
theorem Ok.tab {R:RM} {S:Sim} {g:Img} (ok:Ok R S g) {t' : List Rg} (hl:t'.length≤1000) (b c:Nat) (sp:List Value) (hc:t'.length≤c):Ok R { S with A0:=t' } { g with tb:=b,tc:=c,tsp:=sp }:=
 ⟨ok.AE,ok.old,ok.AI,ok.AD,ok.rvl,ok.rv,ok.ev0,ok.ev1,ok.wl,hl,ok.ml,ok.hl,ok.fl,ok.wk,hc,ok.mk_⟩
theorem Hl {t t' : List Rg} {o size d:Int} (h:As t o size = some (t',d)):t'.length = t.length:=by
 unfold As at h;split at h
 ·rename_i hg;simp only[z_b,z_d] at hg;have T:=BL.1 hg.1.1.1.1;rcases E0 T hg.1.1.1.2 hg.1.1.2 hg.1.2 hg.2 with h2 | ⟨t2,d2,h2,P⟩
  ·unfold As at h2;rw[if_pos (by simpa using hg)] at h2;rw[h2] at h;cases h
  ·unfold As at h2;rw[if_pos (by simpa using hg)] at h2;rw[h2] at h;cases h;exact P.len
 ·cases h
theorem NY {p:Nat} {S S' : Sim} {g:Img} {i:Int} {R:RM} (hok:Ok R S g) (hS:S.copying i = some S') :
  Fn P FP [Pt p,I i] R (AU p S g) (CK p S' λ_=>True):=by
 refine Ip λF=>?_
 refine z_2 ?_;obtain⟨t,ht,hS⟩:=A7 hS;obtain⟨h0,h1,h2,h3⟩:=Ad ht;refine Es hok ht rfl λb a cap hv=>(AY (λvs R' D'=>R.le R'∧∃S1 g1 t1 G,S' = S1.setT i t1∧S1.th = S.th∧t1.AA = t.AA∧Ok R' S1 g1∧D' = AU p S1 g1 ++ (b,C AS (Ac t1 (.slice a t.AA.length cap))) :: G∧G = F∧vs = [Pt p,I i,Pt b]) (λK hK=>?_) ?_)
 rotate_left
 ·rintro e R2 D2 ⟨hR,S1,g1,t1,G,rfl,hth,hr,ok1,rfl,rfl,he⟩;refine z_V ?_;refine Eb (S1.setT i t1) ok1 h0 (by rw[hth];exact h1) (by rw[hr];exact hv.le hR) τ λg3 ok3=>(Ae hR trivial rfl ok3)
 refine jl rfl (AY (λvs R' D'=>R.le R'∧∃S1 g1 t1 G,S' = S1.setT i t1∧S1.th = S.th∧t1.AA = t.AA∧Ok R' S1 g1∧D' = AU p S1 g1 ++ (b,C AS (Ac t1 (.slice a t.AA.length cap))) :: G∧G = F∧vs = [Pt p,I i,Pt b]) (λK2 hK2=>?_) ?_);rotate_left
 ·rintro e R2 D2 ⟨hR,S1,g1,t1,G,e1,hth,hr,ok1,rfl,rfl,he⟩;refine z_V ?_;exact hK _ _ _ ⟨hR,S1,g1,t1,_,e1,hth,hr,ok1,rfl,rfl,rfl⟩
 refine jeq (jif (λc20=>?_) (λc20=>?_))
 ·have c20:=eq_of_beq c20;rw[if_pos c20] at hS;obtain⟨q,hq,hS⟩:=A7 hS;obtain⟨rfl,hin⟩:=Af hq;obtain⟨⟨w,S1⟩,hrd,hS⟩:=A7 hS;have e1:=C8 hrd;subst e1;dsimp only at hS;refine jl rfl (CF hin (jcS (CI hok hrd) λ_ R1 g1 hR1 hr ok1=>?_));subst hr;refine jp (Dd w) (jex rfl (jex rfl (ja λb3=>(js rfl rfl (by exact z_n 2) rfl (jla (by exact z_n 2) τ (jp (Bm (AN w).1) (jS (Ac { t with size:=AC (AN w).1 } (.slice a t.AA.length cap)) (jl rfl (jl rfl (jmk (Ec (t:=S.A0) i (AC (AN w).1) (by have:=hok.tl;omega)) ?_))))))))));intro v N hq2;cases hrm:As S.A0 i (AC (AN w).1) with
  | none=>
   rw[hrm] at hq2;obtain⟨rfl,rfl⟩:=hq2;rw[hrm] at hS;refine jex rfl (jex rfl (jex rfl (EH (jcS (Oe ok1 hS) λ_ R2 g2 hR2 hr ok2=>(Ae (hR1.trans hR2) trivial rfl ok2)))))
  | some td=>
   obtain⟨t',d⟩:=td;rw[hrm] at hq2;obtain⟨sv,⟨b4,c4,sp4,hc4,rfl,rfl⟩,rfl⟩:=hq2;rw[hrm] at hS;simp only[Tq] at hS;have hlen:=Hl hrm;refine jex rfl (jex rfl (jex rfl (DM (LY (jS (Ac { t with size:=AC (AN w).1,dst:=d } (.slice a t.AA.length cap)) (jS (Ac { t with size:=AC (AN w).1,dst:=d,i:=1 } (.slice a t.AA.length cap)) (jS (Ac { t with size:=AC (AN w).1,dst:=d,i:=1,pc:=21 } (.slice a t.AA.length cap)) (B7 (AU p { S with used:=true,A0:=t' } { g1 with tb:=b4,tc:=c4,tsp:=sp4 }) (G:=(b,C AS (Ac { t with size:=AC (AN w).1,dst:=d,i:=1,pc:=21 } (.slice a t.AA.length cap))) :: F) (hK2 _ _ _ ⟨hR1,{ S with used:=true,A0:=t' },{ g1 with tb:=b4,tc:=c4,tsp:=sp4 },{ t with size:=AC (AN w).1,dst:=d,i:=1,pc:=21 },_,hS.symm,rfl,rfl,ok1.tab (by rw[hlen];exact hok.tl) _ _ _ hc4,rfl,rfl,rfl⟩)))))))))
 have c20:t.pc≠20:=by simpa using c20
 rw[if_neg c20] at hS;refine jeq (jif (λc21=>?_) (λc21=>?_))
 ·have c21:=eq_of_beq c21;rw[if_pos c21] at hS;obtain⟨q,hq,hS⟩:=A7 hS;obtain⟨rfl,hin⟩:=Af hq;obtain⟨⟨w,S1⟩,hrd,hS⟩:=A7 hS;have e1:=C8 hrd;subst e1;cases hS;refine jl rfl (jl rfl (CF hin (jcS (CI hok hrd) λ_ R1 g1 hR1 hr ok1=>?_)));subst hr;refine jS (Ac { t with word:=w } (.slice a t.AA.length cap)) (js rfl rfl (by simp[Ac]) rfl (hK2 _ _ _ ⟨hR1,{ S with used:=true },g1,{ t with word:=w,pc:=22 },_,rfl,rfl,rfl,ok1,rfl,rfl,rfl⟩))
 have c21:t.pc≠21:=by simpa using c21
 rw[if_neg c21] at hS;refine jeq (jif (λc22=>?_) (λc22=>?_))
 ·have c22:=eq_of_beq c22;rw[if_pos c22] at hS;obtain⟨q,hq,hS⟩:=A7 hS;obtain⟨rfl,hin⟩:=Af hq;obtain⟨S1,hwr,hS⟩:=A7 hS;have e1:=DV hwr;subst e1;obtain⟨n,hn,hS⟩:=A7 hS;obtain⟨rfl,hin2⟩:=Af hn;cases hS;refine jl rfl (jl rfl (CF hin (jl rfl (jcS (Cr hok hwr) λ_ R1 g1 hR1 hr ok1=>(jl rfl (CF hin2 (jS (Ac { t with i:=t.i + 1 } (.slice a t.AA.length cap)) (jS (Ac { t with i:=t.i + 1,pc:=21 } (.slice a t.AA.length cap)) (jl rfl (jl rfl (jeq (jif (λhz=>?_) (λhz=>?_)))))))))))))
  ·refine js rfl rfl (by simp[Ac]) rfl (hK2 _ _ _ ⟨hR1,{ S with used:=true,A5:=AM S.A5 (t.dst + t.i) t.word },g1,{ t with i:=t.i + 1,pc:=23 },_,(by rw[if_pos (eq_of_beq hz)]),rfl,rfl,ok1,rfl,rfl,rfl⟩)
  ·exact hK2 _ _ _ ⟨hR1,{ S with used:=true,A5:=AM S.A5 (t.dst + t.i) t.word },g1,{ t with i:=t.i + 1,pc:=21 },_,(by rw[if_neg (ne_of_beq_false hz)]),rfl,rfl,ok1,rfl,rfl,rfl⟩
 have c22:t.pc≠22:=by simpa using c22
 rw[if_neg c22] at hS;refine jeq (jif (λc23=>?_) (λc23=>?_))
 ·have c23:=eq_of_beq c23;rw[if_pos c23] at hS;obtain⟨S1,hwr,hS⟩:=A7 hS;have e1:=DV hwr;subst e1;cases hS;refine jl rfl (jl rfl (jcS (Cr hok hwr) λ_ R1 g1 hR1 hr ok1=>(js rfl rfl (by simp[Ac]) rfl (hK2 _ _ _ ⟨hR1,{ S with used:=true,A5:=AM S.A5 t.dst t.dst },g1,{ t with pc:=24 },_,rfl,rfl,rfl,ok1,rfl,rfl,rfl⟩))))
 have c23:t.pc≠23:=by simpa using c23
 rw[if_neg c23] at hS;refine jeq (jif (λc24=>?_) (λc24=>?_));rotate_left
 ·rw[if_neg (ne_of_beq_false c24)] at hS;cases hS;refine Aj U9.symm (hK2 _ _ _ ⟨RM.le.refl _,S,g,t,_,rfl,rfl,rfl,hok,rfl,rfl,rfl⟩)
 have c24:=eq_of_beq c24;rw[if_pos c24] at hS;split at hS
 ·cases hS
 rename_i hret;have hret:0≤t.ret∧t.ret≤100:=Classical.not_not.1 hret;have hinr:inR (t.ret + 1):=⟨ω,ω⟩;obtain⟨⟨w,S1⟩,hrd,hS⟩:=A7 hS;have e1:=C8 hrd;subst e1;dsimp only at hS;refine jl rfl (jcS (CI hok hrd) λ_ R1 g1 hR1 hr ok1=>?_);subst hr;have hhold:∀x,(BQ t t.ret x).AA = t.AA:=λx=>by simp only[BQ];split<;>(try split)<;>(try split)<;>rfl
 refine AY (λvs R' D'=>R.le R'∧∃S2 g2 G x,S' = S2.setT i (BQ t t.ret x)∧S2.th = S.th∧Ok R' S2 g2∧D' = AU p S2 g2 ++ (b,C AS (Ac t (.slice a t.AA.length cap))) :: G∧G = F∧vs = [Pt p,I i,Pt b,I x]) (λK3 hK3=>?_) ?_;rotate_left
 ·rintro e R2 D2 ⟨hR,S2,g2,G,x,rfl,hth,ok2,rfl,rfl,he⟩;refine z_V ?_;refine jla (cs:=Ac t (.slice a t.AA.length cap)) (z_n 17) rfl (jl rfl (jp (LX t a t.AA.length cap t.ret x hinr) (js rfl rfl (by exact z_n 17) rfl (hK2 _ _ _ ⟨hR,S2,g2,BQ t t.ret x,_,rfl,hth,hhold x,ok2,rfl,rfl,rfl⟩))))
 refine jl rfl (jeq (jif (λhw=>?_) (λhw=>?_)))
 ·have hw:=eq_of_beq hw;rw[if_pos hw] at hS;obtain⟨S2,hwr,hS⟩:=A7 hS;have e2:=DV hwr;subst e2;obtain⟨S3,htp,hS⟩:=A7 hS;cases hS;obtain⟨t3,e3⟩:=SU htp;refine jl rfl (jl rfl (jcS (Cr ok1 hwr) λ_ R2 g2 hR2 hr ok2=>(jl rfl (jl rfl (jcS (PA ok2 htp) λ_ R3 g3 hR3 hr ok3=>(jl rfl (hK3 _ _ _ ⟨(hR1.trans hR2).trans hR3,S3,g3,_,t.dst,rfl,by rw[e3],ok3,rfl,rfl,rfl⟩)))))))
 ·rw[if_neg (ne_of_beq_false hw)] at hS;cases hS;exact hK3 _ _ _ ⟨hR1,{ S with used:=true },g1,_,w,rfl,rfl,ok1,rfl,rfl,rfl⟩
theorem SJ {S S1:Sim} {v:Int} (h:S.oldV v = some S1):S1.th = S.th:=by
 simp only[Sim.oldV] at h;split at h
 ·cases h
 ·cases h;split<;>rfl
theorem Qt {p:Nat} {S S' : Sim} {g:Img} {i:Int} {R:RM} (hok:Ok R S g) (hS:S.field i = some S') :
  Fn P GX [Pt p,I i] R (AU p S g) (CK p S' λ_=>True):=by
 refine KM λF=>?_
 refine z_2 ?_;obtain⟨t,ht,hS⟩:=A7 hS;obtain⟨o,ho,hS⟩:=A7 hS;obtain⟨q1,hq1,hS⟩:=A7 hS;obtain⟨ref,hq2,hS⟩:=A7 hS;obtain⟨q3,hq3,hS⟩:=A7 hS;obtain⟨num,hq4,hS⟩:=A7 hS;obtain⟨rfl,in1⟩:=Af hq1;obtain⟨rfl,in2⟩:=Af hq2;obtain⟨rfl,in3⟩:=Af hq3;obtain⟨rfl,in4⟩:=Af hq4;obtain⟨h0,h1,h2,h3⟩:=Ad ht;refine Es hok ht rfl λb a cap hv=>(QJ hok ho λb2=>(jl rfl (CF in1 (jl rfl (CF in2 (jl rfl (CF in1 (jl rfl (CF in3 (jl rfl (CF in4 (jl rfl (AY (λvs R' D'=>R' = R∧D' = (b2,C 54 (eOp o)) :: (b,C AS (Ac t (.slice a t.AA.length cap))) :: (AU p S g ++ F)∧∃v:Bool,vs = [Pt p,I i,Pt b,Pt b2,I (t.h + 2 + o.f),I (t.h + 2 + t.sh.refs + o.f),I t.pc,.bool v]∧(v = true↔t.pc = 5∨t.pc = 12)) (λK hK=>?_) ?_)))))))))))))
 ·refine jeq (jif (λh=>hK _ _ _ ⟨rfl,rfl,_,rfl,?_⟩) (λh=>jeq (hK _ _ _ ⟨rfl,rfl,_,rfl,?_⟩)))
  ·rw[h];simp[eq_of_beq h]
  ·simp[ne_of_beq_false h]
 rintro e R1 D1 ⟨rfl,hD,v,he,hv5⟩;refine z_W ?_;refine jif (λhvt=>?_) (λhvf=>?_)
 ·rw[if_pos (hv5.1 hvt)] at hS;obtain⟨⟨w,S1⟩,hrd,hS⟩:=A7 hS;refine jcS (CI hok hrd) λ_ R2 g2 hR2 hr ok2=>?_
  subst hr;refine jcS (SB ok2 hS) λ_ R3 g3 hR3 hr ok3=>(Ae (hR2.trans hR3) trivial rfl ok3)
 rw[if_neg (λh=>by rw[hv5.2 h] at hvf;cases hvf)] at hS;refine jeq (jif (λc=>?_) (λc=>?_))
 ·rw[if_pos (eq_of_beq c)] at hS;obtain⟨⟨w,S1⟩,hrd,hS⟩:=A7 hS;have e1:=C8 hrd;subst e1;obtain⟨S2,hol,hS⟩:=A7 hS;cases hS;have e2:=SJ hol;refine jcS (CI hok hrd) λ_ R2 g2 hR2 hr ok2=>?_
  subst hr;refine jcS (RG ok2 hol) λ_ R3 g3 hR3 hr ok3=>(jS (Ac { t with pc:=7 } (.slice a t.AA.length cap)) (Eb (S2.setT i { t with pc:=7 }) ok3 h0 (by rw[e2];exact h1) (by exact hv.le (hR2.trans hR3)) τ λg4 ok4=>(Ae (hR2.trans hR3) trivial rfl ok4)))
 rw[if_neg (ne_of_beq_false c)] at hS;refine jeq (jif (λc=>?_) (λc=>?_))
 ·rw[if_pos (eq_of_beq c)] at hS;obtain⟨S1,hwr,hS⟩:=A7 hS;refine jl rfl (jcS (Cr hok hwr) λ_ R2 g2 hR2 hr ok2=>(jcS (CU ok2 hS) λ_ R3 g3 hR3 hr ok3=>(Ae (hR2.trans hR3) trivial rfl ok3)))
 rw[if_neg (ne_of_beq_false c)] at hS;refine jeq (jif (λc=>?_) (λc=>?_))
 ·rw[if_pos (eq_of_beq c)] at hS;obtain⟨S1,hwr,hS⟩:=A7 hS;refine jl rfl (jcS (Cr hok hwr) λ_ R2 g2 hR2 hr ok2=>(jcS (CU ok2 hS) λ_ R3 g3 hR3 hr ok3=>(Ae (hR2.trans hR3) trivial rfl ok3)))
 rw[if_neg (ne_of_beq_false c)] at hS;refine jeq (jif (λc=>?_) (λc=>?_))
 ·rw[if_pos (eq_of_beq c)] at hS;obtain⟨⟨w,S1⟩,hrd,hS⟩:=A7 hS;refine jcS (CI hok hrd) λ_ R2 g2 hR2 hr ok2=>?_
  subst hr;refine jcS (CU ok2 hS) λ_ R3 g3 hR3 hr ok3=>(Ae (hR2.trans hR3) trivial rfl ok3)
 rw[if_neg (ne_of_beq_false c)] at hS;refine jeq (jif (λc=>?_) (λc=>?_))
 ·rw[if_pos (eq_of_beq c)] at hS;obtain⟨⟨w,S1⟩,hrd,hS⟩:=A7 hS;refine jcS (CI hok hrd) λ_ R2 g2 hR2 hr ok2=>?_
  subst hr;refine jcS (Ot ok2 hS) λ_ R3 g3 hR3 hr ok3=>(Ae (hR2.trans hR3) trivial rfl ok3)
 rw[if_neg (ne_of_beq_false c)] at hS;refine jeq (jif (λc=>?_) (λc=>?_))
 ·rw[if_pos (eq_of_beq c)] at hS;obtain⟨⟨w,S1⟩,hrd,hS⟩:=A7 hS;have e1:=C8 hrd;subst e1;dsimp only at hS;refine jl rfl (jcS (CI hok hrd) λ_ R2 g2 hR2 hr ok2=>?_);subst hr;refine jeq (Aq (jl rfl jev) (jif (λc2=>?_) (λc2=>?_)))
  ·rw[if_pos (eq_of_beq c2)] at hS;obtain⟨S2,hwr,hS⟩:=A7 hS;refine jl rfl (jcS (Cr ok2 hwr) λ_ R3 g3 hR3 hr ok3=>(jcS (CU ok3 hS) λ_ R4 g4 hR4 hr ok4=>(Ae ((hR2.trans hR3).trans hR4) trivial rfl ok4)))
  ·rw[if_neg (ne_of_beq_false c2)] at hS;cases hS;refine jS (Ac { t with pc:=10 } (.slice a t.AA.length cap)) (Eb (({ S with used:=true }:Sim).setT i { t with pc:=10 }) ok2 h0 h1 (by exact hv.le hR2) τ λg4 ok4=>(Ae hR2 trivial rfl ok4))
 rw[if_neg (ne_of_beq_false c)] at hS;refine jeq (jif (λc=>?_) (λc=>?_))
 ·rw[if_pos (eq_of_beq c)] at hS;refine jl rfl (jl rfl (jeq (jif (λc2=>?_) (λc2=>?_))))
  ·rw[if_pos (eq_of_beq c2)] at hS;cases hS;refine jS (Ac { t with pc:=14 } (.slice a t.AA.length cap)) (Eb (S.setT i { t with pc:=14 }) hok h0 h1 (by exact hv) τ λg4 ok4=>(Ae (RM.le.refl _) trivial rfl ok4))
  ·rw[if_neg (ne_of_beq_false c2)] at hS;obtain⟨⟨w,S1⟩,hrd,hS⟩:=A7 hS;refine jcS (CI hok hrd) λ_ R2 g2 hR2 hr ok2=>?_
   subst hr;refine jcS (Ot ok2 hS) λ_ R3 g3 hR3 hr ok3=>(Ae (hR2.trans hR3) trivial rfl ok3)
 ·rw[if_neg (ne_of_beq_false c)] at hS;cases hS;exact Ae (RM.le.refl _) trivial rfl hok
theorem QD {p:Nat} {S S' : Sim} {g:Img} {i:Int} {R:RM} (hok:Ok R S g) (hS:S.shape i = some S') :
  Fn P Gt [Pt p,I i] R (AU p S g) (CK p S' λ_=>True):=by
 refine Ke λF=>?_
 refine z_2 ?_;obtain⟨t,ht,hS⟩:=A7 hS;split at hS
 ·cases hS
 rename_i hsz;have hsz:=EU (by simpa using hsz:S.sz = true);obtain⟨o,hop,hS⟩:=A7 hS;obtain⟨h0,h1,h2,h3⟩:=Ad ht;refine Es hok ht rfl λb a cap hv=>(QJ hok hop λb2=>(jl rfl (jeq (jif (λc=>?_) (λc=>?_)))))
 ·rw[if_pos (eq_of_beq c)] at hS;refine jl rfl (jl rfl (jeq (jp (Ql (t.h == t.g)) (jcS (CU hok hS) λ_ R3 g3 hR3 hr ok3=>(Ae hR3 trivial rfl ok3)))))
 rw[if_neg (ne_of_beq_false c)] at hS;refine jor [Pt p,I i,Pt b,Pt b2] ((o.kind == 10) || (o.kind == 11)) (λK' hK'=>?_) (λe c u ho he=>?_)
 ·refine jl rfl (jeq (jgO hK' λh1 hN=>jl rfl (jeq hN)))
 refine z_V ?_;rw[ho];refine jif (λhk=>?_) (λhk=>?_)
 ·rw[if_pos (by simpa using hk)] at hS;refine jl rfl (jl rfl (jl rfl (jc (Q3 o.kind t.h hok.AI hsz.2.2.2.1) ?_)));intro v R1 A hR1 hq;have ok1:=hok.le hR1;cases hp:EC S.AI o.kind t.h with
  | none=>
   rw[hp] at hq hS;obtain⟨rfl,rfl⟩:=hq;refine jex rfl (jex rfl (EH (jcS (CU ok1 hS) λ_ R3 g3 hR3 hr ok3=>(Ae (hR1.trans hR3) trivial rfl ok3))))
  | some l=>
   rw[hp] at hq hS;obtain⟨sv,⟨b4,c4,sp4,hc4,hsp4,rfl,rfl⟩,rfl⟩:=hq;refine jex rfl (jex rfl (DM (Bc (b:=b4) λR2 hR2 hb4=>?_)));have hv2:=Bj hb4 hc4;refine Aj (UV _) (jss { S with AI:=l } { g with AI:=S0 b4 l.length c4 } rfl rfl δ τ τ (jcS (p:=p) (by exact CU { ok1.le hR2 with AI:=hv2 } hS) λ_ R3 g3 hR3 hr ok3=>(Ae ((hR1.trans hR2).trans hR3) trivial rfl ok3)))
 rw[if_neg (by simpa using hk)] at hS;obtain⟨q,hq,hS⟩:=A7 hS;obtain⟨rfl,hin⟩:=Af hq;obtain⟨⟨w,S1⟩,hrd,hS⟩:=A7 hS;have e1:=C8 hrd;subst e1;dsimp only at hS;refine jl rfl (CF hin (jcS (CI hok hrd) λ_ R1 g1 hR1 hr ok1=>?_));subst hr;refine jp (Dd w) (jex rfl (jex rfl (ja λb3=>(js rfl rfl (by exact z_n 2) rfl (jla (by exact z_n 8) τ (jl rfl (jl rfl (jp (Np o (AN w).1.refs (AN w).1.nums) (jif (λhf=>?_) (λhf=>?_))))))))))
 ·rw[if_pos hf] at hS;refine jcS (CU ok1 hS) λ_ R3 g3 hR3 hr ok3=>(Ae (hR1.trans hR3) trivial rfl ok3)
 rw[if_neg (by rw[hf];decide)] at hS;refine jla (by exact z_n 2) τ (jS (Ac { t with sh:=(AN w).1 } (.slice a t.AA.length cap)) ?_);have fin:∀(R2:RM) (D2:Chs) (q:Int) (m:M),q = (if o.kind = 2 then 5 else if o.kind = 3 then (if S.AW = 1 then 6 else 7) else if o.kind = 4 then 8 else if o.kind = 5 then 9 else if o.kind = 7 then 10 else t.pc)→S' = ({ S with used:=true }:Sim).setT i { t with sh:=(AN w).1,pc:=q }:=λR2 D2 q m hq=>by
  rw[hq];simp only[Tq] at hS;exact hS.symm
 refine AY (λvs R' D'=>R' = R1∧∃q,S' = ({ S with used:=true }:Sim).setT i { t with sh:=(AN w).1,pc:=q }∧D' = AU p { S with used:=true } g1 ++ (b,C AS (Ac { t with sh:=(AN w).1,pc:=q } (.slice a t.AA.length cap))) :: F∧vs = [Pt p,I i,Pt b]) (λK hK=>?_) ?_;rotate_left
 ·rintro e R2 D2 ⟨rfl,q,rfl,hD,he⟩;refine z_W ?_;refine Eb (({ S with used:=true }:Sim).setT i { t with sh:=(AN w).1,pc:=q }) ok1 h0 h1 (by exact hv.le hR1) τ λg4 ok4=>(Ae hR1 trivial rfl ok4)
 refine jl rfl (AY (λvs R' D'=>R' = R1∧∃q,S' = ({ S with used:=true }:Sim).setT i { t with sh:=(AN w).1,pc:=q }∧D' = AU p { S with used:=true } g1 ++ (b,C AS (Ac { t with sh:=(AN w).1,pc:=q } (.slice a t.AA.length cap))) :: F∧vs = [Pt p,I i,Pt b]) (λK2 hK2=>?_) ?_);rotate_left
 ·rintro e R2 D2 ⟨rfl,q,hq,hD,he⟩;refine z_W ?_;exact hK _ _ _ ⟨rfl,q,hq,rfl,rfl⟩
 have leaf:∀q:Int,q = (if o.kind = 2 then 5 else if o.kind = 3 then (if S.AW = 1 then 6 else 7) else if o.kind = 4 then 8 else if o.kind = 5 then 9 else if o.kind = 7 then 10 else t.pc)→
   J R1 ((b3,C 52 [I (AN w).1.refs,I (AN w).1.nums]) :: (AU p { S with used:=true } g1 ++ (b2,C 54 (eOp o)) :: (b,C AS (Ac { t with sh:=(AN w).1,pc:=q } (.slice a t.AA.length cap))) :: F)) (K2 [Pt p,I i,Pt b]):=λq hq=>by
  refine B7 (AU p { S with used:=true } g1) (G:=(b,C AS (Ac { t with sh:=(AN w).1,pc:=q } (.slice a t.AA.length cap))) :: F) (hK2 _ _ _ ⟨rfl,q,fin R1 [] q (λ_=>True) hq,rfl,rfl⟩)
 refine jeq (jif (λc2=>?_) (λc2=>?_))
 ·refine js rfl rfl (by simp[Ac]) rfl (leaf 5 (by rw[if_pos (eq_of_beq c2)]))
 refine jeq (jif (λc3=>?_) (λc3=>?_))
 ·refine jS (Ac { t with sh:=(AN w).1,pc:=7 } (.slice a t.AA.length cap)) (jl rfl (jeq (jif (λph=>?_) (λph=>?_))))
  ·refine js rfl rfl (by simp[Ac]) rfl (leaf 6 (by rw[if_neg (ne_of_beq_false c2),if_pos (eq_of_beq c3),if_pos (eq_of_beq ph)]))
  ·exact leaf 7 (by rw[if_neg (ne_of_beq_false c2),if_pos (eq_of_beq c3),if_neg (ne_of_beq_false ph)])
 refine jeq (jif (λc4=>?_) (λc4=>?_))
 ·refine js rfl rfl (by simp[Ac]) rfl (leaf 8 (by rw[if_neg (ne_of_beq_false c2),if_neg (ne_of_beq_false c3),if_pos (eq_of_beq c4)]))
 refine jeq (jif (λc5=>?_) (λc5=>?_))
 ·refine js rfl rfl (by simp[Ac]) rfl (leaf 9 (by rw[if_neg (ne_of_beq_false c2),if_neg (ne_of_beq_false c3),if_neg (ne_of_beq_false c4),if_pos (eq_of_beq c5)]))
 refine jeq (jif (λc7=>?_) (λc7=>?_))
 ·refine js rfl rfl (by simp[Ac]) rfl (leaf 10 (by rw[if_neg (ne_of_beq_false c2),if_neg (ne_of_beq_false c3),if_neg (ne_of_beq_false c4),if_neg (ne_of_beq_false c5),if_pos (eq_of_beq c7)]))
 ·exact leaf t.pc (by rw[if_neg (ne_of_beq_false c2),if_neg (ne_of_beq_false c3),if_neg (ne_of_beq_false c4),if_neg (ne_of_beq_false c5),if_neg (ne_of_beq_false c7)])
theorem PM {p:Nat} {S S' : Sim} {g:Img} {i:Int} {R:RM} (hok:Ok R S g) (hS:S.making i = some S') :
  Fn P Fw [Pt p,I i] R (AU p S g) (CK p S' λ_=>True):=by
 refine Jp λF=>?_
 refine z_2 ?_;obtain⟨t,ht,hS⟩:=A7 hS;obtain⟨o,hop,hS⟩:=A7 hS;obtain⟨h0,h1,h2,h3⟩:=Ad ht;refine Es hok ht rfl λb a cap hv=>(QJ hok hop λb2=>?_)
 refine AY (λvs R' D'=>R.le R'∧∃S1 g1 t1,S1.th = S.th∧t1.AA = t.AA∧Ok R' S1 g1∧t.pc≠30∧t.pc≠31∧(let t2:={ t1 with pc:=33 };let S2:=S1.setT i t2;if t2.i = t2.size then (do (← S2.top t2.dst t2.size).push i t2.dst) else some S2) = some S'∧
   D' = AU p S1 g1 ++ (b,C AS (Ac t1 (.slice a t.AA.length cap))) :: F∧vs = [Pt p,I i,Pt b]) (λK hK=>?_) ?_
 rotate_left
 ·rintro e R2 D2 ⟨hR,S1,g1,t1,hth,hr,ok1,_,_,hS,hD,he⟩;refine z_W ?_;dsimp only at hS;refine jS (Ac { t1 with pc:=33 } (.slice a t.AA.length cap)) (Eb (S1.setT i { t1 with pc:=33 }) ok1 h0 (by rw[hth];exact h1) (by rw[hr];exact hv.le hR) τ λg3 ok3=>(jl rfl (jl rfl (jeq (jif (λhz=>?_) (λhz=>?_))))))
  ·rw[if_pos (eq_of_beq hz)] at hS;obtain⟨S3,htp,hS⟩:=A7 hS;refine jl rfl (jl rfl (jcS (PA ok3 htp) λ_ R4 g4 hR4 hr ok4=>(jl rfl (jcS (Jk ok4 hS) λ_ R5 g5 hR5 hr ok5=>(Ae ((hR.trans hR4).trans hR5) trivial rfl ok5)))))
  ·rw[if_neg (ne_of_beq_false hz)] at hS;cases hS;exact Ae hR trivial rfl ok3
 refine jl rfl ?_;refine jcI hK λK2 hK2=>?_
 refine jeq (jif (λc30=>?_) (λc30=>?_))
 ·have c30:=eq_of_beq c30;rw[if_pos c30] at hS;dsimp only at hS;refine jfo (jla (by exact z_n 8) τ (jp (Bm o.sh) (js rfl rfl (by simp[Ac]) rfl (jl rfl (jl rfl (jmk (Ec i (AC o.sh) (by have:=hok.tl;omega)) ?_))))));intro v N hq2;cases hrm:As S.A0 i (AC o.sh) with
  | none=>
   rw[hrm] at hq2 hS;obtain⟨rfl,rfl⟩:=hq2;dsimp only at hS;refine Aj (UV _) (jex rfl (jex rfl (jex rfl (AY (λvs R' D'=>R' = R∧D' = (b2,C 54 (eOp o)) :: (b,C AS (Ac { t with size:=AC o.sh } (.slice a t.AA.length cap))) :: (AU p S g ++ F)∧∃c u,vs = [Pt p,I i,Pt b,SN,I 0,.bool false,c,u]∧GJ c u (t.BB == 2)) (λK3 hK3=>?_) ?_))))
   ·refine jtt (jl rfl (jeq (hK3 _ _ _ ⟨rfl,rfl,_,_,rfl,Cw⟩)))
   ·rintro e R2 D2 ⟨rfl,hD,c,u,he,ha⟩;refine z_W ?_;rw[ha];refine jif (λh2=>?_) (λh2=>?_)
    ·rw[if_pos (eq_of_beq h2)] at hS;refine jcS (CU hok hS) λ_ R3 g3 hR3 hr ok3=>(Ae hR3 trivial rfl ok3)
    ·rw[if_neg (ne_of_beq_false h2)] at hS;refine EH (jcS (Oe hok hS) λ_ R3 g3 hR3 hr ok3=>(Ae hR3 trivial rfl ok3))
  | some td=>
   obtain⟨t',d⟩:=td;rw[hrm] at hq2 hS;obtain⟨sv,⟨b4,c4,sp4,hc4,rfl,rfl⟩,rfl⟩:=hq2;simp only[Tq] at hS;have hlen:=Hl hrm;refine jex rfl (jex rfl (jex rfl (AY (λvs R' D'=>R' = R∧D' = [(b4,C AK (Aa eRg t' ++ sp4))] ++ ((b2,C 54 (eOp o)) :: (b,C AS (Ac { t with size:=AC o.sh } (.slice a t.AA.length cap))) :: (AU p S g ++ F))∧∃c u,vs = [Pt p,I i,Pt b,S0 b4 t'.length c4,I d,.bool true,c,u]∧GJ c u false) (λK3 hK3=>?_) ?_)))
   ·exact jft (hK3 _ _ _ ⟨rfl,rfl,_,_,rfl,DL⟩)
   ·rintro e R2 D2 ⟨rfl,hD,c,u,he,ha⟩;refine z_W ?_;rw[ha];refine DM (DM (LY (jS (Ac { t with size:=AC o.sh,dst:=d } (.slice a t.AA.length cap)) (jS (Ac { t with size:=AC o.sh,dst:=d,i:=2 } (.slice a t.AA.length cap)) (jS (Ac { t with size:=AC o.sh,dst:=d,i:=2,pc:=31 } (.slice a t.AA.length cap)) (Eb (({ S with A0:=t' }:Sim).setT i { t with size:=AC o.sh,dst:=d,i:=2,pc:=31 }) (hok.tab (by rw[hlen];exact hok.tl) _ _ _ hc4) h0 h1 (by exact hv) τ λg3 ok3=>?_))))));subst hS;exact Ae (RM.le.refl _) trivial rfl ok3
 have c30:t.pc≠30:=by simpa using c30
 rw[if_neg c30] at hS;refine jeq (jif (λc31=>?_) (λc31=>?_))
 ·have c31:=eq_of_beq c31;rw[if_pos c31] at hS;obtain⟨S1,hwr,hS⟩:=A7 hS;have e1:=DV hwr;subst e1;cases hS;refine jl rfl (jl rfl (jcS (Cr hok hwr) λ_ R1 g1 hR1 hr ok1=>(jS (Ac { t with pc:=32 } (.slice a t.AA.length cap)) (Eb (({ S with used:=true,A5:=AM S.A5 t.dst t.dst }:Sim).setT i { t with pc:=32 }) ok1 h0 h1 (by exact hv.le hR1) τ λg3 ok3=>(Ae hR1 trivial rfl ok3)))))
 have c31:t.pc≠31:=by simpa using c31
 rw[if_neg c31] at hS;obtain⟨⟨S2,t2⟩,hst,hS⟩:=A7 hS;dsimp only at hS;refine jeq (jif (λc32=>?_) (λc32=>?_))
 ·have c32:=eq_of_beq c32;rw[if_pos c32] at hst;obtain⟨q,hq,hst⟩:=A7 hst;obtain⟨rfl,hin⟩:=Af hq;obtain⟨S1,hwr,hst⟩:=A7 hst;have e1:=DV hwr;subst e1;cases hst;refine jl rfl (CF hin (jfo (jla (by exact z_n 8) τ (jp (DU o.sh) (Aq (jl rfl jev) (jcS (Cr hok hwr) λ_ R1 g1 hR1 hr ok1=>(B7 (AU p { S with used:=true,A5:=AM S.A5 (t.dst + 1) (Ab o.sh) } g1) (G:=(b,C AS (Ac t (.slice a t.AA.length cap))) :: F) (hK2 _ _ _ ⟨hR1,{ S with used:=true,A5:=AM S.A5 (t.dst + 1) (Ab o.sh) },g1,t,rfl,rfl,ok1,c30,c31,hS,rfl,rfl⟩))))))))
 have c32:t.pc≠32:=by simpa using c32
 rw[if_neg c32] at hst;refine jeq (jif (λc33=>?_) (λc33=>?_))
 ·have c33:=eq_of_beq c33;rw[if_pos c33] at hst;obtain⟨q,hq,hst⟩:=A7 hst;obtain⟨rfl,hin⟩:=Af hq;obtain⟨S1,hwr,hst⟩:=A7 hst;have e1:=DV hwr;subst e1;obtain⟨n,hn,hst⟩:=A7 hst;obtain⟨rfl,hin2⟩:=Af hn;cases hst;refine jl rfl (jl rfl (CF hin (jcS (Cr hok hwr) λ_ R1 g1 hR1 hr ok1=>(jl rfl (CF hin2 (jS (Ac { t with i:=t.i + 1 } (.slice a t.AA.length cap)) (B7 (AU p { S with used:=true,A5:=AM S.A5 (t.dst + t.i) 0 } g1) (G:=(b,C AS (Ac { t with i:=t.i + 1 } (.slice a t.AA.length cap))) :: F) (hK2 _ _ _ ⟨hR1,{ S with used:=true,A5:=AM S.A5 (t.dst + t.i) 0 },g1,{ t with i:=t.i + 1 },rfl,rfl,ok1,c30,c31,hS,rfl,rfl⟩))))))))
 have c33:t.pc≠33:=by simpa using c33
 rw[if_neg c33] at hst;cases hst;refine B7 (AU p S g) (G:=(b,C AS (Ac t (.slice a t.AA.length cap))) :: F) (hK2 _ _ _ ⟨RM.le.refl _,S,g,t,rfl,rfl,hok,c30,c31,hS,rfl,rfl⟩)
end Go.Lf
end
