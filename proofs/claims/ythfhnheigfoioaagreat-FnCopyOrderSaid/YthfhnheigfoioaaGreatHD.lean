/- A part of the proof of the given row. Conditions: none. -/
import Derived.Test.YthfhnheigfoioaaGreatHC
set_option linter.unusedVariables false
set_option linter.unusedSimpArgs false
set_option maxRecDepth 100000
section
namespace Go.Lf
open Go Sm
def Ro (f:Nat) (args:List Value) (v:Value) (R:RM) (D:Chs):Prop:=Fn P f args R D λv' _ A=>v' = v/\A = D
theorem jro {f:Nat} {j:List Value} {v:Value} {R:RM} {D:Chs} {k:Value->M} (G:Ro f j v R D) (H:J R D (k v)):J R D (CA P f j k):=by
 intro h K;refine Fi ?_ (G [] h (by simpa using K));rintro Q x ⟨O,N,y,A,rfl,rfl⟩;exact H x (by simpa using A.le y)
theorem BN {v j : Value} {R:RM} {D E G F:Chs} (y:j = v) [s:Sp G (D ++ F) E]:J R G (Fb R F (λj _ A=>j = v/\A = D) j):=by
 intro h x;refine⟨R,D,RM.le.refl R,((x.perm s.p).keep),y,rfl⟩
theorem jln {R:RM} {D:Chs} {a:Option Addr} {n c:Nat} {k:Value->M} (H:J R D (k (I n))):J R D (LN (.slice a n c) k):=H
def Or2 (c u:Value) (v:Bool):Prop:=∀k:Value->M,zP c u k = k (.bool v)
def GM (c u:Value) (v:Bool):Prop:=∀k:Value->M,zA c u k = k (.bool v)
theorem DL {u:Value}:Or2 (.bool true) u true:=λ_=>rfl
theorem CH {b:Bool}:Or2 (.bool false) (.bool b) b:=λ_=>rfl
theorem Bx {b:Bool}:GM (.bool true) (.bool b) b:=λ_=>rfl
theorem CB {u:Value}:GM (.bool false) u false:=λ_=>rfl
section ways
variable {R:RM} {D:Chs} {K' : List Value->M} {pre:List Value} {acc new:Bool} {S T:M}
theorem jgO (j:∀c u w,Or2 c u w->w = (acc || new)->J R D (K' (pre ++ [c,u]))) (H:acc = false->J R D (K' (pre ++ [.bool acc,.bool new]))->J R D S) (x:K' (pre ++ [.bool acc,U]) = T:=by rfl):J R D (GT (.bool acc) false S T):=by
 subst x;cases acc
 .exact H rfl (j _ _ _ CH rfl)
 .exact j _ _ _ DL rfl
theorem jgA (j:∀c u w,GM c u w->w = (acc && new)->J R D (K' (pre ++ [c,u]))) (H:acc = true->J R D (K' (pre ++ [.bool acc,.bool new]))->J R D S) (x:K' (pre ++ [.bool acc,U]) = T:=by rfl):J R D (GT (.bool acc) true S T):=by
 subst x;cases acc
 .exact j _ _ _ CB rfl
 .exact H rfl (j _ _ _ Bx rfl)
end ways
section cuts
variable {R:RM} {D:Chs} {lv:List Nat} {B:(List Value->M)->M} {K:Env->M}
theorem jor (pre:List Value) (v:Bool) (y:∀K' : List Value->M,(∀c u w,Or2 c u w->w = v->J R D (K' (pre ++ [c,u])))->J R D (B K')) (A:∀e c u,Or2 c u v->lv.map e = pre ++ [c,u]->J R D (K e)):J R D (CUT lv B K):=
 Ab (λT x j=>x = R/\j = D/\∃c u,T = pre ++ [c,u]/\Or2 c u v) (λK' h=>y K' λc u w hc Q=>h _ _ _ ⟨rfl,rfl,c,u,rfl,Q▸hc⟩) λe x j ⟨G,H,c,u,N,O⟩=>by
  subst G H;exact A e c u O N
theorem jan (pre:List Value) (v:Bool) (y:∀K' : List Value->M,(∀c u w,GM c u w->w = v->J R D (K' (pre ++ [c,u])))->J R D (B K')) (A:∀e c u,GM c u v->lv.map e = pre ++ [c,u]->J R D (K e)):J R D (CUT lv B K):=
 Ab (λT x j=>x = R/\j = D/\∃c u,T = pre ++ [c,u]/\GM c u v) (λK' h=>y K' λc u w hc Q=>h _ _ _ ⟨rfl,rfl,c,u,rfl,Q▸hc⟩) λe x j ⟨G,H,c,u,N,O⟩=>by
  subst G H;exact A e c u O N
theorem Bz (pre:List Value) (y:∀K' : List Value->M,J R D (K' pre)->J R D (B K')) (A:∀e,lv.map e = pre->J R D (K e)):J R D (CUT lv B K):=
 Ab (λO x j=>x = R/\j = D/\O = pre) (λK' h=>y K' (h _ _ _ ⟨rfl,rfl,rfl⟩)) λe x j ⟨G,H,N⟩=>by
  subst G H;exact A e N
end cuts
theorem C6 {t:List Rg} {sp:List Value} {i:Nat} (h:i < t.length) {f:Nat} {v:Value} (x:(eRg (t[i]))[f]? = some v):(Ad eRg t ++ sp)[i * 5 + f]? = some v:=by
 have:=DY (f:=eRg) (w:=5) (λ_=>rfl) (sp:=sp) h;have j:=congrArg (λl=>l[f]?) this;simp only[dw,dY] at j;have y:f < 5:=by
  by_cases c:f < 5
  .exact c
  .have:(eRg (t[i]))[f]? = none:=dT (by show 5<=f;omega);rw[this] at x;cases x
 rw[if_pos y] at j;rw[j,x]
theorem Fj {t:List Rg} {sp:List Value} {i:Nat} (h:i < t.length):i * 5 + 5<=(Ad eRg t ++ sp).length:=by
 rw[cJ,DT (w:=5) (λ_=>rfl)];omega
section AA
variable {t:List Rg} {sp:List Value} {b cap:Nat} {R:RM} {D:Chs}
theorem Tj (AX:Int) (hl:t.length < 1000000) [a:At D b (C AO (Ad eRg t ++ sp))]:Ro Nr [S0 b t.length cap,I AX] (I (own t AX)) R D:=by
 refine Uk λF=>?_
 refine z_2 ?_;have ex:=Fx (λx=>x.kind == 2 && x.AX == AX) t;refine jlp (λn Q H G=>H = R/\G = D ++ F/\∃r:Nat,1<=r/\r<=t.length + 1/\Q = [S0 b t.length cap,I AX,I r]/\n = t.length + 1 - r/\own t AX = CK (λx=>x.kind == 2 && x.AX == AX) r (t.drop r))
  (n:=t.length) ⟨rfl,rfl,1,Z,Z,rfl,Z,by rw[own,List.drop_one]⟩ ?_
 rintro n e H G K ⟨rfl,rfl,r,r0,W,he,T,j⟩ O;refine z_V ?_;refine jln (jlt (jif (λhc=>?_) (λhc=>?_)))
 .have hc:r < t.length:=by have:=z_f hc;omega
  have hd:t.drop r = t[r] :: t.drop (r + 1):=cQ hc;rw[hd] at j;simp only[CK] at j;refine jan [S0 b t.length cap,I AX,I r] (t[r].kind == 2 && t[r].AX == AX) (λK' A=>?_) (λe c u N he=>?_)
  .refine jia Z Z (jl (v:=I t[r].kind) ?_ (jeq (Dv (λy=>?_) (λy=>?_))))
   .rw[cg];exact C6 hc rfl
   .refine jia Z Z (jl ?_ (jeq (A _ _ _ (y▸Bx) (by rw[y,dR]))));rw[cg];exact C6 hc rfl
   .exact A _ _ _ (y▸CB) (by rw[y,dz])
  .refine z_V ?_;rw[N];refine jif (λh=>?_) (λh=>?_)
   .rw[if_pos h] at j;exact BN (by rw[j])
   .rw[if_neg (by rw[h];decide)] at j;refine jad (O (t.length + 1 - (r + 1)) _ _ _ Z ⟨rfl,rfl,r + 1,Z,Z,rfl,rfl,j⟩)
 .have hc:¬ r < t.length:=by have:=z_g hc;omega
  rw[cT Z] at j;exact BN (by rw[j];rfl)
end AA
section AA
variable {t:List Rg} {sp:List Value} {b cap:Nat} {R:RM} {D:Chs}
theorem Ea {t:List Rg} {r:Nat} (h:r < t.length):rv t r = t[r]:=GP h
theorem FC (hl:t.length < 1000000) [a:At D b (C AO (Ad eRg t ++ sp))]:Ro KB [S0 b t.length cap] (.bool (BT t)) R D:=by
 refine Pa λF=>?_
 refine z_1 ?_;have a2:(TOk t->False)->Value.bool false = Value.bool (BT t):=λh=>by
  cases hh:BT t
  .rfl
  .exact (h (Bi.1 hh)).elim
 refine jor [S0 b t.length cap] (decide ((t.length:Int) < 2) || decide ((t.length:Int) > 12)) (λK' j=>?_) (λe c u A he=>?_)
 .refine jln (jlt (jgO j λx G=>jln (jgr G)))
 refine z_V ?_;refine jor [S0 b t.length cap] ((decide ((t.length:Int) < 2) || decide ((t.length:Int) > 12)) || !(rv t 0 == Db)) (λK' j=>?_) (λe c u A he=>?_)
 .rw[A];refine F0 (λx=>?_) (λx=>?_)
  .have y:=x;simp only[ci,decide_eq_false_iff_not] at y;have h0:0 < t.length:=Z
   refine jia Z Z (jla (Fj h0) (DY (w:=5) (λ_=>rfl) h0) (jbd (cs:=[I 0,I (-1),I 0,I 0,I 0]) rfl rfl ?_));have ee:[I 0,I (-1),I 0,I 0,I 0] = eRg Db:=rfl;rw[ee];refine @Zh (t[0]) Db _ _ _ _ _ (j _ _ _ (x▸CH) ?_);rw[x,dU,show rv t 0 = t[0] from Ea h0]
  .exact j _ _ _ (x▸DL) (by rw[x,eL])
 refine z_V ?_;rw[A];refine jif (λh0=>?_) (λh0=>?_)
 .refine BN (a2 λT=>?_);have n0:=T.n0;have n1:=T.n1;have e:=T.e;simp only[d7,z_d,cz,beq_eq_false_iff_ne] at h0;rcases h0 with (h | h) | h
  .omega
  .omega
  .exact h e
 simp only[ci,decide_eq_false_iff_not,dL,beq_iff_eq] at h0;obtain⟨⟨n0,n1⟩,a3⟩:=h0;refine jlp (λn vs R' D'=>R' = R/\D' = D ++ F/\∃r:Nat,1<=r/\r<=t.length/\vs = [S0 b t.length cap,I r]/\n = t.length - r/\(∀k:Nat,1<=k->k < r->Kk k (rv t k)/\∀m:Nat,1<=m->m < k->0<=(rv t k).AX->(rv t m).AX≠(rv t k).AX))
  ⟨rfl,rfl,1,Z,Z,rfl,rfl,λk x h2=>Z⟩ ?_
 rintro n e R' D' K ⟨rfl,rfl,r,r0,hr,he,hn,O⟩ hK;refine z_V ?_;refine jln (jlt (jif (λhc=>?_) (λhc=>?_)));rotate_left
 .have hc:=z_g hc;refine BN ?_;rw[Bi.2 ⟨Z,Z,a3,λq q0 q1=>?_,λq s q0 q1 s0 s1 Q a0=>?_⟩]
  .have:=(O q.toNat Z Z).1;rwa [show ((q.toNat:Nat):Int) = q from Z] at this
  .have x:=(O q.toNat Z Z).2 s.toNat Z;have h2:=(O s.toNat Z Z).2 q.toNat Z;rw[show ((q.toNat:Nat):Int) = q from Z,show ((s.toNat:Nat):Int) = s from Z] at x h2;rcases Int.lt_trichotomy q s with c | c | c
   .exact absurd a0 (h2 Z (by rw[<- a0];exact Q))
   .exact c
   .exact absurd a0.symm (x Z Q)
 have hc:=z_f hc;have a5:r < t.length:=Z
 have H:=Ea a5;have hb:=Bj (r:=(r:Int)) Z Z;refine Ab (λvs R2 D2=>R2 = R'/\D2 = D ++ F/\vs = [S0 b t.length cap,I r]/\Kk r (rv t r)/\∀m:Nat,1<=m->m < r->0<=(rv t r).AX->(rv t m).AX≠(rv t r).AX) (λK2 a8=>?_) ?_;rotate_left
 .rintro e _ _ ⟨rfl,rfl,he,a1,W⟩;refine z_V ?_;refine jad (hK (t.length - (r + 1)) _ _ _ Z ⟨rfl,rfl,r + 1,Z,Z,rfl,rfl,λk k1 k2=>?_⟩);by_cases c:k = r
  .subst c;exact⟨a1,W⟩
  .exact O k k1 Z
 refine jcI a8 λK3 a9=>?_
 refine jia Z Z (jla (l:=eRg (t[r])) (by rw[cg];exact Fj a5) (by rw[cg];exact DY (w:=5) (λ_=>rfl) a5) (ja λN=>(js rfl rfl V rfl (jp (BW r) ?_))));rw[hb];refine jor [S0 b t.length cap,I r,Pt N,I (16 * (r:Int))] (decide (t[r].kind < 1) || decide (t[r].kind > 4)) (λK' j=>?_) (λe c u A he=>?_)
 .refine jl rfl (jlt (jgO j λx G=>?_));have y:=x;simp only[ci,decide_eq_false_iff_not] at y;refine jl rfl (jgr G)
 refine z_V ?_;refine jor [S0 b t.length cap,I r,Pt N,I (16 * (r:Int))] ((decide (t[r].kind < 1) || decide (t[r].kind > 4)) || decide (t[r].top < 16 * r)) (λK' j=>?_) (λe c u A he=>?_)
 .rw[A];refine jgO j λx G=>?_
  have y:=x;simp only[ci,decide_eq_false_iff_not] at y;refine jl rfl (jlt G)
 refine z_V ?_;refine jor [S0 b t.length cap,I r,Pt N,I (16 * (r:Int))] (((decide (t[r].kind < 1) || decide (t[r].kind > 4)) || decide (t[r].top < 16 * r)) || decide (t[r].top > 16 * r + 16)) (λK' j=>?_) (λe c u A he=>?_)
 .rw[A];refine jgO j λx G=>?_
  have y:=x;simp only[ci,decide_eq_false_iff_not] at y;refine jl rfl (jad (jgr G))
 refine z_V ?_;refine jor [S0 b t.length cap,I r,Pt N,I (16 * (r:Int))] ((((decide (t[r].kind < 1) || decide (t[r].kind > 4)) || decide (t[r].top < 16 * r)) || decide (t[r].top > 16 * r + 16)) || decide (t[r].BA < 16 * r)) (λK' j=>?_) (λe c u A he=>?_)
 .rw[A];refine jgO j λx G=>?_
  have y:=x;simp only[ci,decide_eq_false_iff_not] at y;refine jl rfl (jlt G)
 refine z_V ?_;refine jor [S0 b t.length cap,I r,Pt N,I (16 * (r:Int))] (((((decide (t[r].kind < 1) || decide (t[r].kind > 4)) || decide (t[r].top < 16 * r)) || decide (t[r].top > 16 * r + 16)) || decide (t[r].BA < 16 * r)) || decide (t[r].BA > t[r].top)) (λK' j=>?_) (λe c u A he=>?_)
 .rw[A];refine jgO j λx G=>?_
  have y:=x;simp only[ci,decide_eq_false_iff_not] at y;refine jl rfl (jl rfl (jgr G))
 refine z_V ?_;refine jor [S0 b t.length cap,I r,Pt N,I (16 * (r:Int))] ((((((decide (t[r].kind < 1) || decide (t[r].kind > 4)) || decide (t[r].top < 16 * r)) || decide (t[r].top > 16 * r + 16)) || decide (t[r].BA < 16 * r)) || decide (t[r].BA > t[r].top)) || decide (t[r].AJ < 0)) (λK' j=>?_) (λe c u A he=>?_)
 .rw[A];refine jgO j λx G=>?_
  have y:=x;simp only[ci,decide_eq_false_iff_not] at y;refine jl rfl (jlt G)
 refine z_V ?_;refine jor [S0 b t.length cap,I r,Pt N,I (16 * (r:Int))] (((((((decide (t[r].kind < 1) || decide (t[r].kind > 4)) || decide (t[r].top < 16 * r)) || decide (t[r].top > 16 * r + 16)) || decide (t[r].BA < 16 * r)) || decide (t[r].BA > t[r].top)) || decide (t[r].AJ < 0)) || decide (t[r].AJ > t[r].top - 16 * r)) (λK' j=>?_) (λe c u A he=>?_)
 .rw[A];refine jgO j λx G=>?_
  have y:=x;simp only[ci,decide_eq_false_iff_not] at y;refine jl rfl (jl rfl (jsu (jgr G)))
 refine z_V ?_;rw[A];refine jif (λh0=>?_) (λh0=>?_)
 .refine Bf (BN (a2 λT=>?_));have P:=T.row r Z Z;rw[H] at P;obtain⟨p1,p2,p3,p4,p5,p6,p7,p8,_⟩:=P;simp only[d7,z_d] at h0;omega
 simp only[ci,decide_eq_false_iff_not] at h0;obtain⟨⟨⟨⟨⟨⟨⟨q1,q2⟩,q3⟩,q4⟩,q5⟩,q6⟩,q7⟩,q8⟩:=h0;refine jan [S0 b t.length cap,I r,Pt N] (t[r].kind == 1 && t[r].top != 16 * (r:Int)) (λK' j=>?_) (λe c u A he=>?_)
 .refine jl rfl (jeq (jgA j λx G=>jl rfl (jne G)))
 refine z_V ?_;rw[A];refine jif (λh0=>?_) (λh0=>?_)
 .refine Bf (BN (a2 λT=>?_));have P:=T.row r Z Z;rw[H] at P;have p9:=P.fr;simp only[z_b,beq_iff_eq,bne_iff_ne,ne_eq] at h0;exact h0.2 (p9 h0.1)
 have b1:t[r].kind = 1->t[r].top = 16 * r:=λhk=>by
  simp only[hk,beq_self_eq_true,dR,bne_eq_false_iff_eq] at h0;exact h0
 clear h0;refine jor [S0 b t.length cap,I r,Pt N] (((t[r].kind == 2) != decide (t[r].AX>=0)) || decide (t[r].AX < -1)) (λK' j=>?_) (λe c u A he=>?_)
 .refine jl rfl (jeq (jl rfl (jge ?_)));refine @jxb (t[r].kind == 2) (decide (t[r].AX>=0)) _ _ _ _ _ ?_;refine jgO j λx G=>jl rfl (jlt G)
 refine z_V ?_;refine jor [S0 b t.length cap,I r,Pt N] ((((t[r].kind == 2) != decide (t[r].AX>=0)) || decide (t[r].AX < -1)) || decide (t[r].AX > 3)) (λK' j=>?_) (λe c u A he=>?_)
 .rw[A];refine jgO j λx G=>jl rfl (jgr G)
 refine z_V ?_;rw[A];have a7:((t[r].kind == 2) != decide (t[r].AX>=0)) = false↔(t[r].kind = 2↔0<=t[r].AX):=by
  rw[bne_eq_false_iff_eq,dX];simp
 refine jif (λh0=>?_) (λh0=>?_)
 .refine Bf (BN (a2 λT=>?_));have P:=T.row r Z Z;rw[H] at P;rw[a7.2 P.ow] at h0;have o0:=P.o0;have o1:=P.o1;simp only[dU,d7,z_d] at h0;omega
 simp only[ci,decide_eq_false_iff_not] at h0;obtain⟨⟨w1,w2⟩,w3⟩:=h0;have a1:Kk r (rv t r):=by
  rw[H];exact⟨Z,Z,Z,Z,Z,Z,Z,Z,b1,a7.1 w1,Z,Z⟩
 refine Ab (λvs R2 D2=>R2 = R'/\D2 = (N,C AO (eRg (t[r]))) :: (D ++ F)/\vs = [S0 b t.length cap,I r]/\∀m:Nat,1<=m->m < r->0<=(rv t r).AX->(rv t m).AX≠(rv t r).AX) (λK4 b0=>?_) ?_;rotate_left
 .rintro e _ _ ⟨rfl,rfl,he,W⟩;refine z_V ?_;exact Bf (a9 _ _ _ ⟨rfl,rfl,rfl,a1,W⟩)
 refine jlp (λn vs R2 D2=>R2 = R'/\D2 = (N,C AO (eRg (t[r]))) :: (D ++ F)/\∃k:Nat,1<=k/\k<=r/\vs = [S0 b t.length cap,I r,Pt N,I k]/\n = r - k/\∀m:Nat,1<=m->m < k->0<=(rv t r).AX->(rv t m).AX≠(rv t r).AX)
  ⟨rfl,rfl,1,Z,Z,rfl,rfl,λm x h2=>Z⟩ ?_
 rintro n e _ _ K' ⟨rfl,rfl,k,k0,k1,he,hn,W⟩ j;refine z_V ?_;refine jlt (jif (λhd=>?_) (λhd=>?_));rotate_left
 .have hd:=z_g hd;exact b0 _ _ _ ⟨rfl,rfl,rfl,λm x h2=>W m x Z⟩
 have hd:=z_f hd;have a4:k < t.length:=Z
 refine jan [S0 b t.length cap,I r,Pt N,I k] (decide (t[r].AX>=0) && t[k].AX == t[r].AX) (λK5 a6=>?_) (λe c u A he=>?_)
 .refine jl rfl (jge (Dv (λx=>?_) (λx=>?_)))
  .refine jia Z Z (jl (by rw[cg];exact C6 a4 rfl) (jl rfl (jeq (a6 _ _ _ (x▸Bx) (by rw[x,dR])))))
  .exact a6 _ _ _ (x▸CB) (by rw[x,dz])
 refine z_V ?_;rw[A];refine jif (λh0=>?_) (λh0=>?_)
 .refine Bf (BN (a2 λT=>?_));simp only[z_b,z_d,beq_iff_eq] at h0;have:=T.own r k Z Z Z Z (by rw[H];exact h0.1) (by rw[H,Ea a4];exact h0.2.symm);omega
 refine jad (j (r - (k + 1)) _ _ _ Z ⟨rfl,rfl,k + 1,Z,Z,rfl,rfl,λm x h2 Q=>?_⟩);by_cases c:m = k
 .subst c;rw[H] at Q ⊢;rw[Ea a4];intro a0;simp[a0,Q] at h0
 .exact W m x Z Q
end AA
def Mk (f:Nat) (args:List Value) (R:RM) (D:Chs) (q:Value->Chs->Prop):Prop:=Fn P f args R D λv _ A=>∃N,A = N ++ D/\q v N
theorem jmk {f:Nat} {j:List Value} {R:RM} {D:Chs} {q:Value->Chs->Prop} {k:Value->M} (G:Mk f j R D q) (H:∀v N,q v N->J R (N ++ D) (k v)):J R D (CA P f j k):=by
 intro h O;refine Fi ?_ (G [] h (by simpa using O));rintro Q x ⟨W,T,y,A,N,rfl,K⟩;exact H Q N K x (by simpa using A.le y)
theorem DS {v:Value} {R:RM} {D E G F:Chs} {q:Value->Chs->Prop} (N:Chs) (K:q v N) [s:Sp G N E] [x:Sf E (D ++ F)]:J R G (Fb R F (λv _ A=>∃N,A = N ++ D/\q v N) v):=by
 intro h H;obtain⟨X,y⟩:=x.p;refine⟨R,N ++ D,RM.le.refl R,?_,N,rfl,K⟩;have j:=H.perm s.p;subst y;have:St h R (X ++ (N ++ D ++ F)):=j.perm (by
  rw[cR N D F,<- cR N X,<- cR X N]
  exact fB _ db)
 exact this.drop
theorem jex {R:RM} {D:Chs} {i:Nat} {j:Array Value} {v:Value} {k:Value->M} (h:j.toList[i]? = some v) (H:J R D (k v)):J R D (EX i (.tuple j) k):=by
 have e:EX i (.tuple j) k = k v:=by simp only[EX,h]
 rw[e];exact H
theorem C0 {R:RM} {D:Chs} {k:Value->M} {n b j len x r:Nat} (h:r < len) (H:J R D (k (.pointer (some ⟨b,j + r * n,none⟩)))):J R D (IA n (.slice (some ⟨b,j,none⟩) len x) (I (r:Int)) k):=
 jia Z Z (by rw[cG];exact H)
def Y4 (t:List Rg) (v:Value) (N:Chs):Prop:=∃b c sp,t.length<=c/\v = S0 b t.length c/\N = [(b,C AO (Ad eRg t ++ sp))]
def Yi (r:Option (List Rg × Int)) (v:Value) (N:Chs):Prop:=match r with
 | none=>v = .tuple #[SN,I 0,.bool false]/\N = []
 | some (t',i)=>∃sv,Y4 t' sv N/\v = .tuple #[sv,I i,.bool true]
def Yn (r:Option (List Rg)) (v:Value) (N:Chs):Prop:=match r with
 | none=>v = .tuple #[SN,.bool false]/\N = []
 | some t'=>∃sv,Y4 t' sv N/\v = .tuple #[sv,.bool true]
theorem Ge {t:List Rg} {sp:List Value} {b i:Nat} {x:Rg} {R:RM} {D D' : Chs} {m:M} (j:i < t.length) [a:At D b (C AO (Ad eRg t ++ sp))] [u:Up D b (C AO (Ad eRg t ++ sp)) (C AO (Ad eRg (t.set i x) ++ sp)) D'] (H:J R D' m):J R D (ST 5 (.pointer (some ⟨b,0 + i * 5,none⟩)) (.agg (eRg x).toArray) m):=by
 rw[cg];exact js rfl rfl (Fj j) (NU (w:=5) (λ_=>rfl) j) H
theorem LB {t:List Rg} {sp:List Value} {b i:Nat} {R:RM} {D:Chs} {k:Value->M} (j:i < t.length) [a:At D b (C AO (Ad eRg t ++ sp))] (H:J R D (k (.agg (eRg (t[i])).toArray))):J R D (LA 5 (.pointer (some ⟨b,0 + i * 5,none⟩)) k):=by
 rw[cg];exact jla (Fj j) (DY (w:=5) (λ_=>rfl) j) H
section AA
variable {t:List Rg} {sp:List Value} {b cap:Nat} {R:RM} {D:Chs}
theorem Fw (hl:t.length < 1000000) [a:At D b (C AO (Ad eRg t ++ sp))]:Mk L5 [S0 b t.length cap] R D (Y4 t):=by
 refine SE λF=>?_
 refine z_1 ?_;have j:=DT (f:=eRg) (w:=5) (λ_=>rfl) t;refine jbs (cs:=[]) rfl rfl λx=>?_
 have A:BX R ((x,C 113 []) :: (D ++ F)) (some ⟨b,0,none⟩) (t.length * 5) (Ad eRg t):=by
  have:=BX.held (R:=R) (D:=(x,C 113 []) :: (D ++ F)) (b:=b) (o:=0) (n:=t.length * 5) (by simp[j]);rw[di,dW Z,<- j,List.take_length] at this;rw[<- j];exact this
 refine W6 A δ Z (λ_=>rfl) (λh0=>?_) (λy c hc=>?_)
 .have G:t = []:=dA.1 h0;subst G;exact DS [(x,C 113 [])] ⟨x,0,[],z_n _,rfl,rfl⟩
 .exact DS [(y,C 113 (Ad eRg t ++ (List.replicate (c - t.length) (cl ad)).flatten))] ⟨y,c,_,hc,rfl,rfl⟩
theorem Jv (AX:Int) (hl:t.length < 1000000) [a:At D b (C AO (Ad eRg t ++ sp))]:Mk Hz [S0 b t.length cap,I AX] R D (Yi (CS t AX)):=by
 refine NB λF=>?_
 refine z_2 ?_;refine jor [S0 b t.length cap,I AX] (!BT t || decide (AX < 0)) (λK' y=>?_) (λe c u G he=>?_)
 .refine jro (FC hl) (jgO y λh1 A=>jlt A)
 refine z_V ?_;refine jor [S0 b t.length cap,I AX] ((!BT t || decide (AX < 0)) || decide (AX > 3)) (λK' y=>?_) (λe c u G he=>?_)
 .rw[G];refine jgO y λh1 A=>jgr A
 refine z_V ?_;refine jor [S0 b t.length cap,I AX] (((!BT t || decide (AX < 0)) || decide (AX > 3)) || decide (own t AX>=0)) (λK' y=>?_) (λe c u G he=>?_)
 .rw[G];refine jgO y λh1 A=>jro (Tj AX hl) (jge A)
 refine z_V ?_;rw[G];refine jif (λh0=>?_) (λh0=>?_)
 .refine DS [] ?_;have:CS t AX = none:=by
   unfold CS;rw[if_neg];intro hh;simp only[d7,cz,z_d,z_b] at h0 hh;rcases h0 with ((h | h) | h) | h
   .rw[hh.1.1.1] at h;cases h
   .omega
   .omega
   .omega
  rw[this];exact⟨rfl,rfl⟩
 simp only[ci,dL,decide_eq_false_iff_not] at h0;obtain⟨⟨⟨H,h2⟩,h3⟩,h4⟩:=h0;have n1:=(Bi.1 H).n1;have eq:CS t AX = (let i:=CK (λx=>x.kind == 1) 1 t.tail;if i < 0 then none else some (AT t i ⟨2,AX,AK i,AK i,0⟩,i)):=by
  unfold CS;rw[if_pos (by simp[H];omega)]
 refine Ab (λvs Q O=>Q = R/\O = D ++ F/\vs = []/\CS t AX = none) (λK2 T=>?_) ?_;rotate_left
 .rintro e _ _ ⟨rfl,rfl,-,hn⟩;exact DS [] (by rw[hn];exact⟨rfl,rfl⟩)
 refine jlp (λn vs Q O=>Q = R/\O = D ++ F/\∃r:Nat,1<=r/\r<=t.length + 1/\vs = [S0 b t.length cap,I AX,I r]/\n = t.length + 1 - r/\CK (λx=>x.kind == 1) 1 t.tail = CK (λx=>x.kind == 1) r (t.drop r))
  (n:=t.length) ⟨rfl,rfl,1,Z,Z,rfl,Z,by rw[List.drop_one]⟩ ?_
 rintro n e Q O K ⟨rfl,rfl,r,r0,hr,he,hn,j⟩ hK;refine z_V ?_;refine jln (jlt (jif (λhc=>?_) (λhc=>?_)));rotate_left
 .have hc:=z_g hc;refine T _ _ _ ⟨rfl,rfl,rfl,?_⟩;rw[eq,j,cT Z];rfl
 have hc:r < t.length:=by have:=z_f hc;omega
 have hd:t.drop r = t[r] :: t.drop (r + 1):=cQ hc;rw[hd] at j;simp only[CK] at j;refine jia Z Z (jl (by rw[cg];exact C6 hc rfl) (jeq (jif (λh=>?_) (λh=>?_))))
 .rw[if_pos h] at j;refine jmk (Fw hl) ?_;rintro _ _ ⟨b',c',N,W,rfl,rfl⟩;refine jp (BW r) (jp (BW r) (jbd rfl rfl (C0 hc (Ge (x:=⟨2,AX,AK r,AK r,0⟩) hc (DS [(b',C AO (Ad eRg (t.set r ⟨2,AX,AK r,AK r,0⟩) ++ N))] ?_)))));rw[eq,j];simp only;rw[if_neg Z];refine⟨_,⟨b',c',N,?_,rfl,?_⟩,?_⟩
  .simpa [AT] using W
  .simp[AT]
  .simp
 .rw[if_neg (by rw[h];decide)] at j;refine jad (hK (t.length + 1 - (r + 1)) _ _ _ Z ⟨rfl,rfl,r + 1,Z,Z,rfl,rfl,j⟩)
end AA
section AA
variable {t:List Rg} {sp:List Value} {b cap:Nat} {R:RM} {D:Chs}
theorem OQ (r:Int) (hl:t.length < 1000000) [a:At D b (C AO (Ad eRg t ++ sp))]:Mk HH [S0 b t.length cap,I r] R D (Yn (Cr t r)):=by
 refine LY λF=>?_
 refine z_2 ?_;refine jor [S0 b t.length cap,I r] (!BT t || decide (r < 1)) (λK' j=>?_) (λe c u A he=>?_)
 .refine jro (FC hl) (jgO j λy K=>jlt K)
 refine z_V ?_;refine jor [S0 b t.length cap,I r] ((!BT t || decide (r < 1)) || decide (r>=t.length)) (λK' j=>?_) (λe c u A he=>?_)
 .rw[A];refine jgO j λy K=>jln (jge K)
 refine z_V ?_;refine jor [S0 b t.length cap,I r] (((!BT t || decide (r < 1)) || decide (r>=t.length)) || (rv t r).kind != 2) (λK' j=>?_) (λe c u A he=>?_)
 .rw[A];refine F0 (λy=>?_) (λy=>?_)
  .have H:=y;simp only[ci,decide_eq_false_iff_not] at H;obtain⟨k,rfl⟩:∃k:Nat,r = k:=⟨r.toNat,Z⟩;have x:k < t.length:=Z
   refine C0 x (jl (by rw[cg];exact C6 x rfl) (jne (j _ _ _ (y▸CH) (by rw[y,dU,Ea x]))))
  .exact j _ _ _ (y▸DL) (by rw[y,eL])
 refine z_V ?_;rw[A];refine jif (λh0=>?_) (λh0=>?_)
 .refine DS [] ?_;have:Cr t r = none:=by
   unfold Cr;split
   .rename_i hh;simp only[d7,cz,z_d,z_b,bne_iff_ne,ne_eq] at h0 hh;by_cases c:r < t.length
    .rw[Cm Z c];simp only;rw[if_neg];intro T;rcases h0 with ((h | h) | h) | h
     .rw[hh.1] at h;cases h
     .omega
     .omega
     .exact h (by simpa using T)
    .unfold idx;rw[if_pos Z,dT Z]
   .rfl
  rw[this];exact⟨rfl,rfl⟩
 simp only[ci,dL,decide_eq_false_iff_not,bne_eq_false_iff_eq] at h0;obtain⟨⟨⟨O,T⟩,h3⟩,W⟩:=h0;obtain⟨k,rfl⟩:∃k:Nat,r = k:=⟨r.toNat,Z⟩;have x:k < t.length:=Z
 refine jmk (Fw hl) ?_;rintro _ _ ⟨Q,c',G,N,rfl,rfl⟩;refine C0 x (LB x (ja λb2=>(js (cs':=eRg (t[k])) rfl rfl V rfl (js (cs':=eRg { t[k] with kind:=3 }) rfl rfl V rfl (js (cs':=eRg { t[k] with kind:=3,AX:=-1 }) rfl rfl V rfl (jla V rfl (C0 x (Ge x (DS [(Q,C AO (Ad eRg (t.set k { t[k] with kind:=3,AX:=-1 }) ++ G))] ?_)))))))));have:Cr t k = some (AT t k { t[k] with kind:=3,AX:=-1 }):=by
  unfold Cr;rw[if_pos (by simp[O];omega),Cm Z Z,Ea x];simp only;rw[Ea x] at W;rw[if_pos (by simpa using W)]
 rw[this];exact⟨_,⟨Q,c',G,by simpa [AT] using N,rfl,by simp[AT]⟩,V⟩
theorem KL (r:Int) (hl:t.length < 1000000) [a:At D b (C AO (Ad eRg t ++ sp))]:Mk Hq [S0 b t.length cap,I r] R D (Yn (CF t r)):=by
 refine NF λF=>?_
 refine z_2 ?_;refine jor [S0 b t.length cap,I r] (!BT t || decide (r < 1)) (λK' j=>?_) (λe c u G he=>?_)
 .refine jro (FC hl) (jgO j λy N=>jlt N)
 refine z_V ?_;refine jor [S0 b t.length cap,I r] ((!BT t || decide (r < 1)) || decide (r>=t.length)) (λK' j=>?_) (λe c u G he=>?_)
 .rw[G];refine jgO j λy N=>jln (jge N)
 refine z_V ?_;refine jor [S0 b t.length cap,I r] (((!BT t || decide (r < 1)) || decide (r>=t.length)) || (rv t r).kind == 1) (λK' j=>?_) (λe c u G he=>?_)
 .rw[G];refine F0 (λy=>?_) (λy=>?_)
  .have K:=y;simp only[ci,decide_eq_false_iff_not] at K;obtain⟨k,rfl⟩:∃k:Nat,r = k:=⟨r.toNat,Z⟩;have A:k < t.length:=Z
   refine C0 A (jl (by rw[cg];exact C6 A rfl) (jeq (j _ _ _ (y▸CH) (by rw[y,dU,Ea A]))))
  .exact j _ _ _ (y▸DL) (by rw[y,eL])
 refine z_V ?_;rw[G];refine jif (λh0=>?_) (λh0=>?_)
 .refine DS [] ?_;have:CF t r = none:=by
   unfold CF;split
   .rename_i W;simp only[d7,cz,z_d,z_b,beq_iff_eq] at h0 W;by_cases c:r < t.length
    .rw[Cm Z c];simp only;rcases h0 with ((h | h) | h) | h
     .rw[W.1] at h;cases h
     .omega
     .omega
     .rw[if_pos (by simpa using h)]
    .unfold idx;rw[if_pos Z,dT Z]
   .rfl
  rw[this];exact⟨rfl,rfl⟩
 simp only[ci,dL,decide_eq_false_iff_not,beq_eq_false_iff_ne] at h0;obtain⟨⟨⟨Q,h2⟩,h3⟩,h4⟩:=h0;obtain⟨k,rfl⟩:∃k:Nat,r = k:=⟨r.toNat,Z⟩;have A:k < t.length:=Z
 refine jmk (Fw hl) ?_;rintro _ _ ⟨T,c',H,O,rfl,rfl⟩;refine jp (BW k) (jp (BW k) (jbd rfl rfl (C0 A (Ge (x:=Dj k) A (DS [(T,C AO (Ad eRg (t.set k (Dj k)) ++ H))] ?_)))));have:CF t k = some (AT t k (Dj k)):=by
  unfold CF;rw[if_pos (by simp[Q];omega),Cm Z Z];simp only;rw[if_neg (by simpa using h4)]
 rw[this];exact⟨_,⟨T,c',H,by simpa [AT] using O,rfl,by simp[AT]⟩,V⟩
theorem Gw (AX size:Int) (hl:t.length < 1000000) [a:At D b (C AO (Ad eRg t ++ sp))]:Mk Hr [S0 b t.length cap,I AX,I size] R D (Yi (BY t AX size)):=by
 refine NG λF=>?_
 refine z_3 ?_;refine jor [S0 b t.length cap,I AX,I size] (!BT t || decide (AX < 0)) (λK' j=>?_) (λe c u ho he=>?_)
 .refine jro (FC hl) (jgO j λh1 Q=>jlt Q)
 refine z_V ?_;refine jor [S0 b t.length cap,I AX,I size] ((!BT t || decide (AX < 0)) || decide (AX > 3)) (λK' j=>?_) (λe c u ho he=>?_)
 .rw[ho];refine jgO j λh1 Q=>jgr Q
 refine z_V ?_;refine jor [S0 b t.length cap,I AX,I size] (((!BT t || decide (AX < 0)) || decide (AX > 3)) || decide (size < 1)) (λK' j=>?_) (λe c u ho he=>?_)
 .rw[ho];refine jgO j λh1 Q=>jlt Q
 refine z_V ?_;refine jor [S0 b t.length cap,I AX,I size] ((((!BT t || decide (AX < 0)) || decide (AX > 3)) || decide (size < 1)) || decide (size > 16)) (λK' j=>?_) (λe c u ho he=>?_)
 .rw[ho];refine jgO j λh1 Q=>jgr Q
 refine z_V ?_;rw[ho];refine jif (λh0=>?_) (λh0=>?_)
 .refine DS [] ?_;have:BY t AX size = none:=by
   unfold BY;rw[if_neg];intro hh;simp only[d7,cz,z_d,z_b] at h0 hh;rcases h0 with (((h | h) | h) | h) | h
   .rw[hh.1.1.1.1] at h;cases h
   .omega
   .omega
   .omega
   .omega
  rw[this];exact⟨rfl,rfl⟩
 simp only[ci,dL,decide_eq_false_iff_not] at h0;obtain⟨⟨⟨⟨a1,h2⟩,h3⟩,h4⟩,h5⟩:=h0;have T:=Bi.1 a1;have n1:=T.n1;have eq:BY t AX size = (match (if 0<=own t AX then idx t (own t AX) else none) with
  | some x=>if x.top + size<=AK (own t AX) + 16 then some (t,x.top) else
    (match CS ((Cr t (own t AX)).getD []) AX with | some (u,n)=>some (u,AK n) | none=>none)
  | none=>(match CS t AX with | some (u,n)=>some (u,AK n) | none=>none)):=by
  unfold BY;rw[if_pos (by simp[a1];omega)];rfl
 refine jro (Tj AX hl) ?_;have a4:own t AX < 0\/(1<=own t AX/\own t AX < t.length/\(rv t (own t AX)).kind = 2):=by
  rcases Fx (λx=>x.kind == 2 && x.AX == AX) t with ⟨h,_⟩ | ⟨h,h',a2⟩
  .left;unfold own;rw[h];decide
  .right;simp only[z_b] at a2;exact⟨h,h',by have:=a2.1;exact eq_of_beq this⟩
 rcases a4 with a9 | ⟨hp,a8,a3⟩
 .have hb:decide (own t AX>=0) = false:=decide_eq_false Z;rw[if_neg Z] at eq;refine Ce (Ce (jge ?_));rw[hb];refine jft (C5 λe he=>?_);refine z_V ?_;refine jft (Et (Ak jev (C5 λe he=>?_)));refine z_V ?_;refine CW (jmk (Fw hl) ?_);rintro _ _ ⟨b',c',O,W,rfl,rfl⟩;refine Ce (jge ?_);rw[hb];refine CW (C5 λe he=>?_);refine z_V ?_;refine jmk (Jv AX hl) ?_;intro v N y;cases G:CS t AX with
  | none=>
   rw[G] at y eq;obtain⟨rfl,rfl⟩:=y;refine jex rfl (jex rfl (jex rfl (DM (DS [] (by rw[eq];exact⟨rfl,rfl⟩)))))
  | some un=>
   obtain⟨u,n⟩:=un;rw[G] at y eq;obtain⟨sv,⟨b2,c2,H,a0,rfl,rfl⟩,rfl⟩:=y;refine jex rfl (jex rfl (jex rfl (CW (jp (BW n) (DS [(b2,C AO (Ad eRg u ++ H))] (by rw[eq];exact⟨_,⟨b2,c2,H,a0,rfl,rfl⟩,rfl⟩))))))
 .have hb:decide (own t AX>=0) = true:=decide_eq_true Z;have RR:=T.row _ hp a8;have t0:=RR.t0;have t1:=RR.t1;obtain⟨k,a7⟩:∃k:Nat,own t AX = k:=⟨(own t AX).toNat,Z⟩;rw[a7] at eq hb t0 t1 a3 ⊢;have K:k < t.length:=Z
  rw[Ea K] at t0 t1;have a5:=Bj (r:=(k:Int)) Z Z;rw[if_pos Z,Cm Z Z,Ea K] at eq;simp only at eq;refine Ce (Ce (jge ?_));rw[hb];refine jtt (C0 K (jl (by rw[cg];exact C6 K rfl) (jad (C5 λe he=>?_))));refine z_V ?_;refine jtt (jp (BW k) (jad (jle (Ec (Ak (jl (by rw[cg];exact C6 K rfl) jev) (C5 λe he=>?_))))));refine z_V ?_;refine jif (λA=>?_) (λA=>?_)
  .rw[if_pos (z_f A)] at eq;refine C0 K (jl (by rw[cg];exact C6 K rfl) (jmk (Fw hl) ?_));rintro _ _ ⟨b',c',O,W,rfl,rfl⟩;refine Ak (jl (by rw[cg];exact C6 K rfl) jev) (Ak (jl (by rw[cg];exact C6 K rfl) jev) (DS [(b',C AO (Ad eRg t ++ O))] (by rw[eq];exact⟨_,⟨b',c',O,W,rfl,rfl⟩,rfl⟩)))
  .rw[if_neg (z_g A)] at eq;refine jmk (Fw hl) ?_;rintro _ _ ⟨b',c',O,W,rfl,rfl⟩;refine Ce (jge ?_);rw[hb];refine DM (jmk (OQ k hl) ?_);intro v N y;have a6:Cr t k = some (AT t k { rv t k with kind:=3,AX:=-1 }):=by
    unfold Cr;rw[if_pos (by simp[a1];omega),Cm Z Z];simp only;rw[if_pos (by simpa using a3)]
   rw[a6] at y eq;simp only[dI] at eq;obtain⟨sv,⟨b3,c3,b1,b0,rfl,rfl⟩,rfl⟩:=y;refine jex rfl (jex rfl (C5 λe he=>?_));refine z_V ?_;refine jmk (Jv AX (by simpa using hl)) ?_;intro v N y;cases G:CS (AT t k { rv t k with kind:=3,AX:=-1 }) AX with
   | none=>
    rw[G] at y eq;obtain⟨rfl,rfl⟩:=y;refine jex rfl (jex rfl (jex rfl (DM (DS [] (by rw[eq];exact⟨rfl,rfl⟩)))))
   | some un=>
    obtain⟨u,n⟩:=un;rw[G] at y eq;obtain⟨sv,⟨b2,c2,H,a0,rfl,rfl⟩,rfl⟩:=y;refine jex rfl (jex rfl (jex rfl (CW (jp (BW n) (DS [(b2,C AO (Ad eRg u ++ H))] (by rw[eq];exact⟨_,⟨b2,c2,H,a0,rfl,rfl⟩,rfl⟩))))))
end AA
theorem jrp {f:Nat} {j:List Value} {v:Value} {R:RM} {D:Chs} {k:Value->M} (G:Ro f j v R []) (H:J R D (k v)):J R D (CA P f j k):=by
 intro h K;refine Fi ?_ (G D h K);rintro Q x ⟨O,N,y,A,rfl,rfl⟩;exact H x (A.le y)
theorem jfo {R:RM} {D:Chs} {o b j:Nat} {k:Value->M} (H:J R D (k (.pointer (some ⟨b,j + o,none⟩)))):J R D (FO o (.pointer (some ⟨b,j,none⟩)) k):=H
theorem Zu (o:Sm.Op):Pu Pk [.agg (eOp o).toArray] (.bool (Sz o)):=by
 intro R;refine VU λF=>?_
 refine z_1 ?_;refine ja λb=>?_
 have e0:cl (.agg (eOp o).toArray) = eOp o:=rfl;rw[e0];refine jan [Pt b] ((decide (o.kind>=1)) && (decide (o.kind<=11))) (λK' j=>?_) (λe c u D he=>?_)
 .refine jl rfl (jge (jgA j λx G=>jl rfl (jle G)))
 refine z_V ?_;refine jan [] ((decide (o.kind>=1) && decide (o.kind<=11)) && (o.kind != 1 || BM o.sh)) (λK' j=>?_) (λe c u D he=>?_)
 .rw[D];refine Dv (λx=>?_) (λx=>?_)
  .refine jl rfl (jne (F0 (λy=>?_) (λy=>?_)))
   .refine jfo (jla (by exact z_n 8) τ (jp (JO o.sh) ?_));rw[y];exact Et (j _ _ _ (x▸Bx) (by rw[x,y,dR,dU]))
   .rw[y];exact Ec (j _ _ _ (x▸Bx) (by rw[x,y,dR,eL]))
  .exact j _ _ _ (x▸CB) (by rw[x,dz])
 refine z_V ?_;rw[D];refine Ao (A:=[]) (RM.le.refl _) ?_;congr 1
theorem RN (k:Int):Pu JC [I k] (.bool (EY k)):=by
 intro R;refine Oe λF=>?_
 refine z_1 ?_;refine jor [I k] ((k == 2) || (k == 3)) (λK' j=>?_) (λe c u y he=>?_)
 .refine jeq (jgO j λD x=>jeq x)
 refine z_V ?_;refine jor [I k] (((k == 2) || (k == 3)) || (k == 4)) (λK' j=>?_) (λe c u y he=>?_)
 .rw[y];refine jgO j λD x=>jeq x
 refine z_V ?_;refine jor [I k] ((((k == 2) || (k == 3)) || (k == 4)) || (k == 5)) (λK' j=>?_) (λe c u y he=>?_)
 .rw[y];refine jgO j λD x=>jeq x
 refine z_V ?_;refine jor [] (((((k == 2) || (k == 3)) || (k == 4)) || (k == 5)) || (k == 7)) (λK' j=>?_) (λe c u y he=>?_)
 .rw[y];refine jgO j λD x=>jeq x
 refine z_V ?_;rw[y];exact Ao (A:=[]) (RM.le.refl _) rfl
theorem YH (b:Bool):Pu Ng [.bool b] (I (Sm.one b)):=by
 intro R;refine Ud λF=>?_
 refine z_1 ?_;cases b
 .exact CW (Ao (A:=[]) (RM.le.refl _) rfl)
 .exact DM (Ao (A:=[]) (RM.le.refl _) rfl)
theorem UZ (o:Sm.Op) (refs nums:Int):Pu KV [.agg (eOp o).toArray,I refs,I nums] (.bool (HW o refs nums)):=by
 intro R;refine Po λF=>?_
 refine z_3 ?_;refine ja λb=>?_
 have e0:cl (.agg (eOp o).toArray) = eOp o:=rfl;rw[e0];refine jor [I refs,I nums,Pt b] ((o.kind == 4) || (o.kind == 5)) (λK' j=>?_) (λe c u y he=>?_)
 .refine jl rfl (jeq (jgO j λD x=>jl rfl (jeq x)))
 refine z_V ?_;rw[y];refine jif (λh0=>?_) (λh0=>?_)
 .refine jan [] ((decide (o.f>=0)) && (decide (o.f < nums))) (λK' j=>?_) (λe c u y he=>?_)
  .refine jl rfl (jge (jgA j λD x=>jl rfl (jlt x)))
  refine z_V ?_;rw[y];refine Ao (A:=[]) (RM.le.refl _) ?_;unfold HW;rw[if_pos h0]
 .refine jan [] ((decide (o.f>=0)) && (decide (o.f < refs))) (λK' j=>?_) (λe c u y he=>?_)
  .refine jl rfl (jge (jgA j λD x=>jl rfl (jlt x)))
  refine z_V ?_;rw[y];refine Ao (A:=[]) (RM.le.refl _) ?_;unfold HW;rw[if_neg (by rw[h0];decide)]
theorem Bl {R:RM} {D:Chs} {v:Value} {l:List Int} {i:Int} {k:Value->M} (h:B8 R v l) (h0:0<=i) (y:i < l.length) (H:J R D (k (I (l[i.toNat]'(Z))))):J R D (IA 1 v (I i) λx=>L1 x k):=by
 rcases h with ⟨_,j,_⟩ | ⟨b,o,cap,t,G,rfl,j,K,A,N⟩
 .omega
 .refine jia h0 y (jlr j ?_ H);have:=congrArg (λl=>l[i.toNat]?) A;simp only[dw,dY,dH] at this;rw[if_pos Z,cF (by omega:i.toNat < l.length)] at this;rw[dx,this];rfl
theorem Jh {R:RM} {D:Chs} {v:Value} {w n:Nat} {j:List Value} {k:Value->M} (h:Fz R v w n j) (H:J R D (k (I n))):J R D (LN v k):=by
 rcases h with ⟨rfl,rfl,_⟩ | ⟨b,o,cap,t,x,rfl,_⟩<;>exact H
theorem VA {R:RM} {rv:Value} {AD:List Int} (o:Sm.Op) (nn:Int) (h:B8 R rv AD):Ro Kd [.agg (eOp o).toArray,rv,I nn] (I (Df o AD nn)) R []:=by
 refine Qn λF=>?_
 refine z_3 ?_;refine ja λb=>?_
 have e0:cl (.agg (eOp o).toArray) = eOp o:=rfl;rw[e0];refine Jh h (jan [rv,I nn,Pt b,I AD.length] ((decide (o.a>=0)) && (decide (o.a < AD.length))) (λK' j=>?_) (λe c u D he=>?_))
 .refine jl rfl (jge (jgA j λO K=>jl rfl (jlt K)))
 refine z_V ?_;rw[D];refine jan [rv,I nn,Pt b,I AD.length,.bool (hnd AD.length o.a)] ((decide (o.b>=0)) && (decide (o.b < AD.length))) (λK' j=>?_) (λe c u D he=>?_)
 .refine jl rfl (jge (jgA j λO K=>jl rfl (jlt K)))
 refine z_V ?_;rw[D];refine jan [rv,I nn,Pt b,I AD.length,.bool (hnd AD.length o.a),.bool (hnd AD.length o.b)] ((decide (o.c>=0)) && (decide (o.c < AD.length))) (λK' j=>?_) (λe c u D he=>?_)
 .refine jl rfl (jge (jgA j λO K=>jl rfl (jlt K)))
 refine z_V ?_;rw[D];have W:∀v,v = Df o AD nn->J R ((b,C 86 (eOp o)) :: ([] ++ F)) (Fb R F (λv' x A=>v' = I (Df o AD nn)/\A = []) (I v)):=λv hv=>BN (by rw[hv])
 have hA:∃A B Cc:Bool,A = (o.kind == 1 || (if o.kind == 8 then decide (0 < AD.length) else hnd AD.length o.a))/\B = (o.kind == 1 || o.kind == 8 || o.kind == 2 || o.kind == 4 || o.kind == 5 || o.kind == 9 || o.kind == 10 || o.kind == 11 || hnd AD.length o.b)/\Cc = (!(o.kind == 7) && (decide (1<=o.kind) && decide (o.kind<=11)) || hnd AD.length o.c):=⟨_,_,_,rfl,rfl,rfl⟩;obtain⟨A,B,Cc,T,eB,eC⟩:=hA;refine Bz [rv,I nn,Pt b,I AD.length,.bool A,.bool B,.bool Cc] (λK1 a5=>?_) (λe he=>?_)
 .refine jl rfl (Bz [rv,I nn,Pt b,I AD.length,.bool A,.bool B,.bool Cc] (λK2 a6=>?_) (λe he=>?_));rotate_left
  .refine z_V ?_;exact a5
  have N:∀x y z:Bool,x = A->y = B->z = Cc->J R ((b,C 86 (eOp o)) :: ([] ++ F)) (K2 [rv,I nn,Pt b,I AD.length,.bool x,.bool y,.bool z]):=by
   rintro x y z rfl rfl rfl;exact a6
  refine jeq (jif (λk1=>?_) (λk1=>?_))
  .have k1:=eq_of_beq k1;refine N _ _ _ ?_ ?_ ?_<;>simp[T,eB,eC,k1]
  have k1:o.kind≠1:=by simpa using k1
  refine jeq (jif (λk8=>?_) (λk8=>?_))
  .have k8:=eq_of_beq k8;refine jgr (N _ _ _ ?_ ?_ ?_)<;>simp[T,eB,eC,k8]
  have k8:o.kind≠8:=by simpa using k8
  refine Ab (λvs R' D'=>R' = R/\D' = (b,C 86 (eOp o)) :: ([] ++ F)/\∃v:Bool,vs = [rv,I nn,Pt b,I AD.length,.bool (hnd AD.length o.a),.bool (hnd AD.length o.b),.bool (hnd AD.length o.c),I o.kind,.bool v]/\(v = true↔o.kind = 2\/o.kind = 4\/o.kind = 5\/o.kind = 9\/o.kind = 10\/o.kind = 11)) (λK3 H=>?_) ?_
  .refine jeq (jif (λh=>H _ _ _ ⟨rfl,rfl,_,rfl,?_⟩) (λn2=>?_))
   .rw[h];simp[eq_of_beq h]
   refine jeq (jif (λh=>H _ _ _ ⟨rfl,rfl,_,rfl,?_⟩) (λn4=>?_))
   .rw[h];simp[eq_of_beq h]
   refine jeq (jif (λh=>H _ _ _ ⟨rfl,rfl,_,rfl,?_⟩) (λn5=>?_))
   .rw[h];simp[eq_of_beq h]
   refine jeq (jif (λh=>H _ _ _ ⟨rfl,rfl,_,rfl,?_⟩) (λn9=>?_))
   .rw[h];simp[eq_of_beq h]
   refine jeq (jif (λh=>H _ _ _ ⟨rfl,rfl,_,rfl,?_⟩) (λa4=>?_))
   .rw[h];simp[eq_of_beq h]
   refine jeq (H _ _ _ ⟨rfl,rfl,_,rfl,?_⟩);simp only[beq_eq_false_iff_ne,ne_eq] at n2 n4 n5 n9 a4;simp[n2,n4,n5,n9,a4]
  .rintro e R3 _ ⟨rfl,rfl,v,he,hv⟩;refine z_V ?_;refine jif (λa2=>?_) (λQ=>?_)
   .have hk:=hv.1 a2;refine N _ _ _ ?_ ?_ ?_
    .simp[T,k1,k8]
    .rw[eB];rcases hk with h | h | h | h | h | h<;>simp[h]
    .rw[eC];rcases hk with h | h | h | h | h | h<;>simp[h]
   .have hk:¬ (o.kind = 2\/o.kind = 4\/o.kind = 5\/o.kind = 9\/o.kind = 10\/o.kind = 11):=λh=>by rw[hv.2 h] at Q;cases Q
    simp only[not_or] at hk;obtain⟨q2,q4,q5,q9,a9,b0⟩:=hk;refine Ab (λvs R2 D2=>R2 = R3/\D2 = (b,C 86 (eOp o)) :: ([] ++ F)/\∃v:Bool,vs = [rv,I nn,Pt b,I AD.length,.bool (hnd AD.length o.a),.bool (hnd AD.length o.b),.bool (hnd AD.length o.c),.bool v]/\(v = true↔o.kind = 3\/o.kind = 6)) (λK3 H=>?_) ?_
    .refine jeq (jif (λh=>H _ _ _ ⟨rfl,rfl,_,rfl,?_⟩) (λn3=>?_))
     .rw[h];simp[eq_of_beq h]
     refine jeq (H _ _ _ ⟨rfl,rfl,_,rfl,?_⟩);simp only[beq_eq_false_iff_ne,ne_eq] at n3;simp[n3]
    .rintro e _ _ ⟨rfl,rfl,v,he,hv⟩;refine z_V ?_;refine jif (λa2=>?_) (λQ=>?_)
     .refine N _ _ _ ?_ ?_ ?_
      .simp[T,k1,k8]
      .rw[eB];rcases hv.1 a2 with h | h<;>simp[h]
      .rw[eC];rcases hv.1 a2 with h | h<;>simp[h]
     .have hk:¬ (o.kind = 3\/o.kind = 6):=λh=>by rw[hv.2 h] at Q;cases Q
      rw[not_or] at hk;refine N _ _ _ ?_ ?_ ?_
      .simp[T,k1,k8]
      .simp[eB,k1,k8,q2,q4,q5,q9,a9,b0]
      .rw[eC];by_cases q7:o.kind = 7
       .simp[q7]
       .have:(decide (1<=o.kind) && decide (o.kind<=11)) = false:=by
         rw[fH,decide_eq_false_iff_not,decide_eq_false_iff_not];omega
        simp[this]
 refine z_V ?_;refine jor [rv,I nn,Pt b,I AD.length,.bool Cc] ((!A) || (!B)) (λK' j=>?_) (λe c u D he=>?_)
 .refine id (jgO j λO K=>id K)
 refine z_V ?_;refine jor [rv,I nn,Pt b,I AD.length] ((!A || !B) || (!Cc)) (λK' j=>?_) (λe c u D he=>?_)
 .rw[D];refine jgO j λO K=>id K
 refine z_V ?_;rw[D];have fa:¬ ((!A || !B) || !Cc) = true->o.kind≠1->o.kind≠8->0<=o.a/\o.a < AD.length:=λhh k1 k8=>by
  have:A = true:=by
   cases A
   .simp at hh
   .rfl
  rw[this] at T;simp[k1,k8,hnd] at T;exact T
 have G:Df o AD nn = if (!A || !B || !Cc) = true then 2 else if ((EY o.kind || o.kind == 10 || o.kind == 11) && (idx AD o.a).getD 0 == nn) = true then 3 else if ((o.kind == 1 || o.kind == 2 || o.kind == 9) && AD.length == 8) = true then 5 else 0:=by
  unfold Df;rw[T,eB,eC]
 refine jif (λh0=>W _ (by rw[G,if_pos h0])) (λh0=>?_);have a3 : ¬ ((!A || !B) || !Cc) = true:=by rw[h0];decide
 rw[if_neg a3] at G;have a8:∀x:Bool,x = (EY o.kind || o.kind == 10 || o.kind == 11)->x = true->o.kind≠1/\o.kind≠8:=λx hx a7=>by
  rw[a7] at hx;constructor<;>intro hk<;>rw[hk] at hx<;>simp[EY] at hx
 refine jor [rv,I nn,Pt b,I AD.length] (EY o.kind || o.kind == 10) (λK' j=>?_) (λe c u D he=>?_)
 .refine jl rfl (jp (RN o.kind) (jgO j λO K=>jl rfl (jeq K)))
 refine z_V ?_;refine jor [rv,I nn,Pt b,I AD.length] ((EY o.kind || o.kind == 10) || (o.kind == 11)) (λK' j=>?_) (λe c u D he=>?_)
 .rw[D];refine jgO j λO K=>jl rfl (jeq K)
 refine z_V ?_;refine jan [Pt b,I AD.length] ((EY o.kind || o.kind == 10 || o.kind == 11) && (idx AD o.a).getD 0 == nn) (λK' j=>?_) (λe c u D he=>?_)
 .rw[D];refine Dv (λO=>?_) (λO=>?_)
  .obtain⟨n1,n8⟩:=a8 _ rfl O;obtain⟨a0,a1⟩:=fa a3 n1 n8;refine jl rfl (Bl h a0 a1 (jeq (j _ _ _ (O▸Bx) ?_)));rw[O,dR];have:idx AD o.a = some (AD[o.a.toNat]'(Z)):=by unfold idx;rw[if_pos a0,cF]
   rw[this];rfl
  .exact j _ _ _ (O▸CB) (by rw[O,dz])
 refine z_V ?_;rw[D];refine jif (λh3=>W _ (by rw[G,if_pos h3])) (λh3=>?_);rw[if_neg (by rw[h3];decide)] at G;refine jor [Pt b,I AD.length] ((o.kind == 1) || (o.kind == 2)) (λK' j=>?_) (λe c u D he=>?_)
 .refine jl rfl (jeq (jgO j λO K=>jl rfl (jeq K)))
 refine z_V ?_;refine jor [I AD.length] ((o.kind == 1 || o.kind == 2) || (o.kind == 9)) (λK' j=>?_) (λe c u D he=>?_)
 .rw[D];refine jgO j λO K=>jl rfl (jeq K)
 refine z_V ?_;refine jan [] (((o.kind == 1 || o.kind == 2) || o.kind == 9) && (AD.length:Int) == 8) (λK' j=>?_) (λe c u D he=>?_)
 .rw[D];refine jgA j λO K=>jeq K
 refine z_V ?_;rw[D];have e8:((AD.length:Int) == 8) = (AD.length == 8):=by rw[dX];simp;omega
 rw[e8];refine jif (λh5=>W _ (by rw[G,if_pos h5])) (λh5=>W _ (by rw[G,if_neg (by rw[h5];decide)]))
end Go.Lf
end
section
namespace Go.Lf
open Go Sm
theorem Wd {R:RM} {D:Chs} {v:Value} {l:List Int} {u:Int} {k:Value->M} (h:B8 R v l) (h0:0<=u) (K:u<=l.length) (H:∀A,B8 R A (l.take u.toNat)->J R D (k A)):J R D (SL 1 v none (some (I u)) k):=by
 rcases h with ⟨rfl,x,_⟩ | ⟨b,o,cap,t,G,rfl,x,O,N,Q⟩
 .intro j y;refine⟨⟨h0,Z⟩,H _ ?_ j y⟩;have:l = []:=dA.1 x;subst this;have:u = 0:=by simp at K;omega
  subst this;exact .inl ⟨rfl,V,V⟩
 .intro j y;refine⟨⟨h0,Z⟩,H _ (.inr ⟨b,o,cap,t,G,?_,x,?_,?_,?_⟩) j y⟩
  .simp only[cV];congr 1;omega
  .simp only[cV];omega
  .simp only[cV];rw[List.map_take,<- N,fO];congr 1;omega
  .simp only[cV];omega
theorem ap {R:RM} {D:Chs} {v:Value} {l:List Int} {u:Int} {k:Value->M} (h:B8 R v l) (h0:0<=u) (G:u<=l.length) (H:∀K,B8 R K (l.drop u.toNat)->J R D (k K)):J R D (SL 1 v (some (I u)) none k):=by
 rcases h with ⟨rfl,j,_⟩ | ⟨b,o,cap,t,A,rfl,j,O,N,Q⟩
 .intro x y;refine⟨⟨h0,Z,Z⟩,H _ ?_ x y⟩;have:l = []:=dA.1 j;subst this;have:u = 0:=by simp at G;omega
  subst this;exact .inl ⟨rfl,V,V⟩
 .intro x y;refine⟨⟨h0,G,Z⟩,H _ ?_ x y⟩;by_cases c:cap = u.toNat
  .have hl:l.length = u.toNat:=Z
   refine .inr ⟨b,o,cap - u.toNat,t,A,?_,j,?_,?_,?_⟩
   .rw[if_pos c];simp
   .simp[hl];omega
   .simp[hl]
   .simp[hl]
  .refine .inr ⟨b,o + u.toNat * 1,cap - u.toNat,t,A,?_,j,?_,?_,?_⟩
   .rw[if_neg c];simp
   .simp only[dN];omega
   .simp only[dN];rw[List.map_drop,<- N,fI,fP];congr 1
    .omega
    .congr 1;omega
   .simp only[dN];omega
theorem bX {R:RM} {D E:Chs} {l l2:List Int} {b c Q m:Nat} {sp:List Value} {O:Option Addr} {k:Value->M} [tk:Tk D b (C Aa (l.map I ++ sp)) E] (W:m = l2.length) (hc:l.length<=c) (hsp:sp.length = c - l.length) (hl:l.length + l2.length < 2000000) (A:BX R D O (m * 1) (l2.map I))
  (H:∀K j G,(l ++ l2).length<=j->G.length = j - (l ++ l2).length->J R ((K,C Aa ((l ++ l2).map I ++ G)) :: E) (k (.slice (some ⟨K,0,none⟩) (l ++ l2).length j))) :
  J R D (AP Aa 1 8 [I 0] (S0 b l.length c) (.slice O m Q) k):=by
 subst W;have N:By (l2.map I) = true:=by
  unfold By;rw[ck];intro x A;obtain⟨y,_,rfl⟩:=cq.1 A;rfl
 refine WZ A (by simp;omega) hc V N δ Z (λh=>?_) (λK j h=>?_)
 .have T:lay (l.map I ++ sp) (l.length * 1) (l2.map I) = (l ++ l2).map I ++ sp.drop l2.length:=by
   rw[HX V];simp[lay]
  rw[T];have:=H b c (sp.drop l2.length) (by simpa using h) (by simp;omega);simpa using this
 .refine Az (tk.p.cons _) (Az (dh _ _ _) (Bf ?_));have:=H K j (List.replicate (j - (l.length + l2.length)) [I 0]).flatten (by simpa using h) (by rw[Br (w:=1) (by intro x A;rw[(dQ.1 A).2];rfl)];simp);rw[dW V,cO V];simpa using this
theorem B8.reads {R:RM} {D:Chs} {v:Value} {l:List Int} (h:B8 R v l):∃a cap,v = .slice a l.length cap/\BX R D a (l.length * 1) (l.map I):=Fz.reads h
def aJ (r:Option (List Int)) (v:Value) (A:Chs):Prop:=match r with
 | none=>v = .tuple #[SN,.bool false]/\A = []
 | some l=>∃sv,WM l sv A/\v = .tuple #[sv,.bool true]
theorem O0 {l:List Int} {a:Int}:∀{n k:Nat},EO l a n = some k->l[k]? = some a/\k < n/\∀j,k < j->j < n->l[j]?≠some a:=by
 intro n;induction n with
 | zero=>intro k h;cases h
 | succ n H=>
  intro k h;simp only[EO] at h;split at h
  .cases h;exact⟨by assumption,Z,λj x y=>Z⟩
  .rename_i G;obtain⟨x,y,A⟩:=H h;refine⟨x,Z,λj D K=>?_⟩;by_cases c:j = n
   .subst c;exact G
   .exact A j D Z
theorem XL {R:RM} {v:Value} {AI:List Int} (kind a:Int) (h:B8 R v AI) (hl:AI.length < 1000000):Fn P MF [v,I kind,I a] R [] (λv' _ A=>aJ (GO AI kind a) v' A):=by
 refine SV λF=>?_
 refine z_3 ?_;refine jeq (jif (λhk=>?_) (λhk=>?_))
 .refine Jh h (jeq (jif (λH=>?_) (λH=>?_)))
  .refine Ao (A:=[]) (RM.le.refl _) ?_;have H:AI.length = 8:=by have:=eq_of_beq H;omega
   unfold GO;rw[if_pos hk,if_pos H];exact⟨rfl,rfl⟩
  .have H:AI.length≠8:=by have:=ne_of_beq_false H;omega
   refine jc (CY h Z) ?_;rintro _ y _ hR ⟨b,c,sp,hc,hsp,rfl,rfl⟩;refine jbs rfl rfl λb1=>(YW hc hsp Z (BX.held (cs:=[I a]) (z_n 1)) λT c' x N j=>(Ao (A:=[(T,C Aa ((AI ++ [a]).map I ++ x))]) hR ?_))
   unfold GO;rw[if_pos hk,if_neg H];exact⟨.slice (some ⟨T,0,none⟩) (AI.length + 1) c',⟨T,c',x,by simpa using N,by simpa using j,V,rfl⟩,rfl⟩
 .refine Ab (λQ y G=>y = R/\G = [] ++ F/\Q = [v,I (match EO AI a AI.length with | some i=>(i:Int) | none=>-1)]) (λK' a1=>?_) ?_
  .refine Ab (λQ y G=>y = R/\G = [] ++ F/\Q = [v,I (match EO AI a AI.length with | some i=>(i:Int) | none=>-1)]) (λK2 a2=>?_) ?_
   .refine jlp (λn Q y G=>y = R/\G = [] ++ F/\∃i:Nat,i<=AI.length/\Q = [v,I a,I (match EO AI a i with | some i=>(i:Int) | none=>-1),I i]/\n = AI.length - i)
     (n:=AI.length) ⟨rfl,rfl,0,Z,rfl,Z⟩ ?_
    rintro n e R3 D3 K ⟨rfl,hD,i,hi,he,hn⟩ hK;refine z_W ?_;refine Jh h (jlt (jif (λhc=>?_) (λhc=>?_)))
    .have hc:=z_f hc;have a0:i < AI.length:=Z
     refine Ab (λQ y G=>y = R3/\G = [] ++ F/\Q = [v,I a,I (match EO AI a (i + 1) with | some i=>(i:Int) | none=>-1),I i]) (λK4 a3=>?_) ?_;rotate_left
     .rintro e R4 D4 ⟨rfl,hD,he⟩;refine z_W ?_;refine jad (hK (AI.length - (i + 1)) _ _ _ Z ⟨rfl,rfl,i + 1,Z,rfl,rfl⟩)
     refine jcI a3 λK5 W=>?_
     refine Bl h Z Z (jeq (jif (λD=>?_) (λD=>?_)))
     .have D:=eq_of_beq D;simp only[cG] at D;refine W _ _ _ ⟨rfl,rfl,?_⟩;simp only[EO];rw[if_pos (by rw[cF a0,D])]
     .have D:=ne_of_beq_false D;simp only[cG] at D;refine W _ _ _ ⟨rfl,rfl,?_⟩;simp only[EO];rw[if_neg (by rw[cF a0];simpa using D)]
    .have hc:=z_g hc;have:i = AI.length:=Z
     subst this;exact a2 _ _ _ ⟨rfl,rfl,rfl⟩
   .rintro e R4 D4 ⟨rfl,hD,he⟩;refine z_W ?_;exact a1 _ _ _ ⟨rfl,rfl,rfl⟩
  .rintro e R4 D4 ⟨rfl,hD,he⟩;refine z_W ?_;cases O:EO AI a AI.length with
   | none=>
    refine jlt (jif (λ_=>?_) (λhh=>?_))
    .refine Ao (A:=[]) (RM.le.refl _) ?_;unfold GO;rw[if_neg (by rw[hk];decide),O];exact⟨rfl,rfl⟩
    .exact absurd hh δ
   | some i=>
    obtain⟨q1,q2,_⟩:=O0 O;refine jlt (jif (λhh=>?_) (λhh=>?_))
    .exact absurd (z_f hh) (by simp only;omega)
    .refine Wd h (by simp only;omega) (by simp only;omega) λv1 h1=>(Cz ⟨by simp only;omega,by simp only;omega⟩ (ap h (by simp only;omega) (by simp only;omega) λv2 h2=>?_))
     simp only[cG] at h1;rw[show ((i:Int) + 1).toNat = i + 1 from Z] at h2;refine jc (CY h1 (by simp;omega)) ?_;rintro _ y _ hR ⟨b,c,sp,hc,hsp,rfl,rfl⟩;obtain⟨xa,cx,rfl,hx⟩:=B8.reads (h2.le hR);refine bX rfl hc hsp (by simp;omega) hx λT c' x N j=>(Ao (A:=[(T,C Aa ((AI.take i ++ AI.drop (i + 1)).map I ++ x))]) hR ?_)
     unfold GO;rw[if_neg (by rw[hk];decide),O];exact⟨_,⟨T,c',x,N,j,rfl,rfl⟩,rfl⟩
theorem Uu {S:Sim} {i:Int} {t:Thr} {o:Sm.Op} (h:S.opOf i t = some o):∃p,idx S.AZ i = some p/\idx p t.next = some o:=by
 unfold Sim.opOf at h;split at h
 .exact⟨_,by assumption,h⟩
 .cases h
theorem Xc {R:RM} {F:Chs} {p b:Nat} {S:Sim} {g:Img} {i:Int} {t:Thr} {v:Value} {o:Sm.Op} {k:Value->M} (a1:Ok R S g) (ho:S.opOf i t = some o)
  (H:∀b2,J R ((b2,C 86 (eOp o)) :: (b,C Af (Aw t v)) :: (Ag p S g ++ F)) (k (Pt b2))) :
  J R ((b,C Af (Aw t v)) :: (Ag p S g ++ F)) (L1 (.pointer (some ⟨p,3,none⟩)) λx9=>IA 1 x9 (I i) λj=>L1 j λy=>L1 (.pointer (some ⟨b,0 + 1,none⟩)) λA=>IA 8 y A λD=>LA 8 D λG=>AL 86 z86 λK=>
   AND (L1 (.pointer (some ⟨p,3,none⟩)) λN=>EV N x9)<|AND (L1 j λO=>EV O y)<|AND (L1 (.pointer (some ⟨b,0 + 1,none⟩)) λQ=>EV Q A)<|AND (LA 8 D λT=>EV T G)<|ST 8 K G<|k K):=by
 obtain⟨pr,h1,h2⟩:=Uu ho;obtain⟨i0,i1,i2,i3⟩:=Av h1;obtain⟨n0,n1,n2,n3⟩:=Av h2;obtain⟨vs,f1,f2,f3⟩:=a1.AZ;obtain⟨x,f4,f5⟩:=f3 i.toNat i2;rw[i3] at f5;rcases f1 with ⟨_,h,_⟩ | ⟨bp,a2,cp,tp,cs,e1,e2,e3,e4,e5⟩
 .omega
 rcases f5 with ⟨_,h,_⟩ | ⟨bo,oo,co,a3,a0,q1,q2,q3,q4,q5⟩
 .omega
 have l1:J R ((b,C Af (Aw t v)) :: (Ag p S g ++ F)) (L1 (.pointer (some ⟨p,3,none⟩)) λx9=>IA 1 x9 (I i) λj=>L1 j λy=>L1 (.pointer (some ⟨b,0 + 1,none⟩)) λA=>IA 8 y A λD=>LA 8 D λG=>AL 86 z86 λK=>
   AND (L1 (.pointer (some ⟨p,3,none⟩)) λN=>EV N x9)<|AND (L1 j λO=>EV O y)<|AND (L1 (.pointer (some ⟨b,0 + 1,none⟩)) λQ=>EV Q A)<|AND (LA 8 D λT=>EV T G)<|ST 8 K G<|k K):=by
  have hx:cs[a2 + i.toNat * 1]? = some x:=by
   have:=congrArg (λl=>l[i.toNat]?) e4;simp only[dw,dY] at this;rw[if_pos Z] at this;rw[dx,this,f4]
  have W:(a0.drop (oo + t.next.toNat * 8)).take 8 = eOp o:=by
   have:=DY (f:=eOp) (w:=8) (λ_=>rfl) (sp:=[]) n2;rw[dD,n3,<- q4,fI,fP,fO] at this;rw[<- this];congr 1;omega
  refine jl rfl ?_;rw[e1];refine jia i0 Z (jlr e2 hx ?_);rw[q1];refine jl rfl (jia n0 Z (Do q2 Z W (ja λb2=>(Ak (jl rfl (by rw[e1];exact jev)) (Ak (jlr e2 (by rw[hx,q1]) jev) (Ak (jl rfl jev) (Ak (Do q2 Z W jev) (js rfl rfl (by exact z_n 8) τ (H b2)))))))))
 exact l1
theorem Zb {o:Sm.Op} {AD:List Int} (j:o.kind = 8) (h:Df o AD 0 = 0):0 < AD.length:=by
 by_cases c:0 < AD.length
 .exact c
 .exfalso;have:AD = []:=dA.1 Z;subst this;unfold Df at h;simp[j] at h
theorem XF {S S' : Sim} {i a c:Int} (h:S.event i a c = some S'):S.sz = true:=by
 unfold Sim.event at h;split at h
 .cases h
 .rename_i j;simpa using j
theorem WE {S:Sim} {i:Int} {t t' : Thr} (h:(S.setT i t').sz = true) (j:idx S.th i = some t):t'.AD.length < 1000000:=by
 obtain⟨i0,i1,i2,i3⟩:=Av j;refine (Gp h).2.2.2.2 t' ?_;show t'∈AT S.th i t';unfold AT;exact List.mem_of_getElem? (List.getElem?_set_self Z)
theorem Xa {p:Nat} {S S' : Sim} {g:Img} {i:Int} {R:RM} (K:Ok R S g) (j:S.begin_ i = some S') :
  Fn P KS [Pt p,I i] R (Ag p S g) (DI p S' λ_=>True):=by
 refine Qk λF=>?_
 refine z_2 ?_;obtain⟨t,ht,j⟩:=AF j;obtain⟨o,ho,j⟩:=AF j;obtain⟨h0,h1,h2,h3⟩:=Av ht;refine HN K ht rfl λb a cap W=>(Xc K ho λb2=>(jla (by exact z_n 8) τ (jp (Zu o) (jif (λhb=>?_) (λhb=>?_)))))
 .rw[if_pos hb] at j;refine jcS (DU K j) λ_ R2 g2 H hr N=>(Ay H trivial rfl N)
 rw[if_neg (by rw[hb];decide)] at j;refine jla (by exact z_n 8) τ (jl rfl (jrp (VA o 0 W) (jne (jif (λhc=>?_) (λhc=>?_)))))
 .have hc:Df o t.AD 0≠0:=by simpa using hc
  simp only[if_pos hc] at j;refine jcS (DU K j) λ_ R2 g2 H hr N=>(Ay H trivial rfl N)
 have hc:Df o t.AD 0 = 0:=by simpa using hc
 simp only[if_neg (show ¬ Df o t.AD 0≠0 from λh=>h hc)] at j;refine jl rfl (jeq (jif (λT=>?_) (λT=>?_)))
 .have T:=eq_of_beq T;rw[if_pos T] at j;have hn:=Zb T hc;have b8:=WE (XF j) ht;have c6:t.AD.length<=1000000:=by simp at b8;omega
  refine jl rfl (jl rfl (jln (jsu (Wd W Z Z λv1 a6=>?_))));rw[show ((t.AD.length:Int) - 1).toNat = t.AD.length - 1 from Z] at a6;refine jc (CY a6 (by simp;omega)) ?_;rintro _ R' _ hR ⟨b4,c4,c7,b5,c5,rfl,rfl⟩;refine BB (b:=b4) λR2 H a9=>?_
  have b9:=CO a9 b5;have N:=(K.le hR).le H;refine jS (Aw { t with AD:=t.AD.take (t.AD.length - 1) } (S0 b4 (t.AD.take (t.AD.length - 1)).length c4)) (Gv (S.setT i { t with AD:=t.AD.take (t.AD.length - 1) }) N h0 h1 b9 τ λg3 Q=>(jcS (DU Q j) λ_ R4 g4 a8 hr c0=>(Ay ((hR.trans H).trans a8) trivial rfl c0)))
 have T:o.kind≠8:=by simpa using T
 rw[if_neg T] at j;refine jeq (jif (λh9=>?_) (λh9=>?_))
 .have h9:=eq_of_beq h9;rw[if_pos h9] at j;obtain⟨r,hr,j⟩:=AF j;obtain⟨r0,r1,r2,r3⟩:=Av hr;refine jl rfl (jl rfl (Bl W r0 r1 ?_));rw[r3];refine jcS (OF K j) λ_ R2 g2 H hr N=>(Ay H trivial rfl N)
 have h9:o.kind≠9:=by simpa using h9
 rw[if_neg h9] at j;refine jeq (jif (λk1=>?_) (λk1=>?_))
 .have k1:=eq_of_beq k1;rw[if_pos k1] at j;cases j;refine jS (Aw { t with pc:=30 } (.slice a t.AD.length cap)) (Gv (S.setT i { t with pc:=30 }) K h0 h1 (by exact W) τ λg3 Q=>(Ay (RM.le.refl _) trivial rfl Q))
 have k1:o.kind≠1:=by simpa using k1
 rw[if_neg k1] at j;obtain⟨ra,b6,j⟩:=AF j;obtain⟨a0,a1,a2,a3⟩:=Av b6;obtain⟨t2,A,j⟩:=AF j;obtain⟨t3,D,j⟩:=AF j;cases j;refine jS (Aw { t with pc:=1 } (.slice a t.AD.length cap)) (jl rfl (jl rfl (Bl W a0 a1 ?_)));rw[a3];refine jS (Aw { t with pc:=1,h:=ra } (.slice a t.AD.length cap)) ?_;have O:t2.AD = t.AD:=by
  split at A
  .obtain⟨x,_,hx⟩:=AF A;cases hx;rfl
  .cases A;rfl
 have a5:t3.AD = t.AD:=by
  split at D
  .obtain⟨x,_,hx⟩:=AF D;cases hx;exact O
  .cases D;exact O
 refine Ab (λvs R' D'=>R' = R/\D' = (b2,C 86 (eOp o)) :: (b,C Af (Aw t2 (.slice a t.AD.length cap))) :: (Ag p S g ++ F)/\vs = [Pt p,I i,Pt b,Pt b2]) (λK' y=>?_) ?_
 .refine jor [Pt p,I i,Pt b,Pt b2] ((o.kind == 3) || (o.kind == 6)) (λK' y=>?_) (λe c u ho he=>?_)
  .refine jl rfl (jeq (jgO y λh1 hN=>jl rfl (jeq hN)))
  refine z_V ?_;refine jor [Pt p,I i,Pt b,Pt b2] (((o.kind == 3) || (o.kind == 6)) || (o.kind == 7)) (λK' y=>?_) (λe c u ho he=>?_)
  .rw[ho];refine jgO y λh1 hN=>jl rfl (jeq hN)
  refine z_V ?_;rw[ho];refine jif (λhk=>?_) (λhk=>?_)
  .rw[if_pos (by simpa [or_assoc,and_assoc] using hk)] at A;obtain⟨rb,b7,A⟩:=AF A;obtain⟨b0,b1,a7,b3⟩:=Av b7;cases A;refine jl rfl (jl rfl (Bl W b0 b1 ?_));rw[b3];refine js rfl rfl (by simp[Aw]) rfl (y _ _ _ ⟨rfl,rfl,rfl⟩)
  .rw[if_neg (by simpa [or_assoc,and_assoc] using hk)] at A;cases A;exact y _ _ _ ⟨rfl,rfl,rfl⟩
 .rintro e R5 D3 ⟨rfl,hD,he⟩;refine z_W ?_;refine Ab (λvs R' D'=>R' = R5/\(∃G,D' = (b,C Af (Aw t3 (.slice a t.AD.length cap))) :: (Ag p S g ++ G)/\G = F)/\vs = [Pt p,I i,Pt b]) (λK' y=>?_) ?_
  .refine jl rfl (jeq (jif (λhk=>?_) (λhk=>?_)))
   .rw[if_pos (eq_of_beq hk)] at D;obtain⟨rc,a4,D⟩:=AF D;cases D;rw[O] at a4;obtain⟨b0,b1,a7,b3⟩:=Av a4;refine jl rfl (jl rfl (Bl W b0 b1 ?_));rw[b3];refine js rfl rfl (by simp[Aw]) rfl (Bf (y _ _ _ ⟨rfl,⟨_,rfl,rfl⟩,rfl⟩))
   .rw[if_neg (ne_of_beq_false hk)] at D;cases D;exact Bf (y _ _ _ ⟨rfl,⟨_,rfl,rfl⟩,rfl⟩)
  .rintro e _ D3 ⟨rfl,⟨G,hD,hG⟩,he⟩;rw[hD,hG];clear hD;refine z_V ?_;refine Gv (S.setT i t3) K h0 h1 (by rw[a5];exact W) τ λg3 Q=>(Ay (RM.le.refl _) trivial rfl Q)
instance (priority:=low) Sp.app (D A E F:Chs) [s:Sp D A E]:Sp (D ++ F) A (E ++ F):=⟨by rw[<- cR];exact s.p.append_right F⟩
theorem Ov {R:RM} {D:Chs} {m:M} (H:J R D m):J R ([] ++ D) m:=H
theorem bq {R:RM} {D G:Chs} {p b c:Nat} {S:Sim} {g:Img} {t' : List Rg} {sp:List Value} {m:M} [w:Fd D p S g G]
  (H:J R (Ag p { S with AA:=t' } { g with tb:=b,tc:=c,tsp:=sp } ++ G) m) :
  J R ((b,C AO (Ad eRg t' ++ sp)) :: D) (ST 1 (.pointer (some ⟨p,5,none⟩)) (S0 b t'.length c) m):=by
 refine Az ((w.ex.cons _).trans d9.symm) ?_;have j:Ch { S with AA:=t' } { g with tb:=b,tc:=c,tsp:=sp } = (Ch S g).set 5 (S0 b t'.length c):=by
  simp[Ch,evV]
 refine js (cs':=Ch { S with AA:=t' } { g with tb:=b,tc:=c,tsp:=sp })
  (D':=(p,C CG (Ch { S with AA:=t' } { g with tb:=b,tc:=c,tsp:=sp })) :: ((g.wb,C Aa (S.AC.map I ++ g.wsp)) :: (g.tb,C AO (Ad eRg S.AA ++ g.tsp)) :: (g.mb,C Ax (S.AM.map Value.bool ++ g.msp)) :: (g.hb,C Af (Ep S.th g.rv ++ g.hsp)) :: evD S g ++ (b,C AO (Ad eRg t' ++ sp)) :: G)) rfl rfl (by simp[Ch]) (by rw[j,show cl (S0 b t'.length c) = [S0 b t'.length c] from rfl,GS (by simp[Ch])]) ?_ (u:=?_)
 .unfold Ag;exact inferInstance
 .refine Al ((p,C CG (Ch { S with AA:=t' } { g with tb:=b,tc:=c,tsp:=sp })) :: (g.wb,C Aa (S.AC.map I ++ g.wsp)) :: (b,C AO (Ad eRg t' ++ sp)) :: (g.mb,C Ax (S.AM.map Value.bool ++ g.msp)) :: (g.hb,C Af (Ep S.th g.rv ++ g.hsp)) :: evD S g) (G:=G) (H)
theorem Qs {R:RM} {D G:Chs} {p b c:Nat} {S:Sim} {g:Img} {t' : List Rg} {sp:List Value} {m:M} [w:Fd D p S g G]
  (H:J R (Ag p { S with AA:=t' } { g with tb:=b,tc:=c,tsp:=sp } ++ G) m) :
  J R ([(b,C AO (Ad eRg t' ++ sp))] ++ D) (ST 1 (.pointer (some ⟨p,5,none⟩)) (S0 b t'.length c) m):=bq (D:=D) H
theorem Cy {S S1:Sim} {a v:Int} (h:S.read a = some (v,S1)):S1 = { S with used:=true }:=by
 simp only[Sim.read] at h;split at h
 .cases h;rfl
 .cases h
theorem Ew {S S1:Sim} {a v:Int} (h:S.write a v = some S1):S1 = { S with used:=true,AC:=AT S.AC a v }:=by
 simp only[Sim.write] at h;split at h
 .cases h;rfl
 .cases h
theorem Zw {S S1:Sim} {a v:Int} (h:S.top a v = some S1):∃t,S1 = { S with AA:=t }:=by
 unfold Sim.top at h;split at h
 .split at h
  .cases h;exact⟨_,rfl⟩
  .cases h
 .cases h
theorem Ok.tab {R:RM} {S:Sim} {g:Img} (ok:Ok R S g) {t' : List Rg} (hl:t'.length<=1000) (b c:Nat) (sp:List Value) (hc:t'.length<=c):Ok R { S with AA:=t' } { g with tb:=b,tc:=c,tsp:=sp }:=
 ⟨ok.AZ,ok.old,ok.AI,ok.AR,ok.rvl,ok.rv,ok.ev0,ok.ev1,ok.wl,hl,ok.ml,ok.hl,ok.fl,ok.wk,hc,ok.mk_⟩
theorem LX {t t' : List Rg} {o size d:Int} (h:BY t o size = some (t',d)):t'.length = t.length:=by
 unfold BY at h;split at h
 .rename_i j;simp only[z_b,z_d] at j;have T:=Bi.1 j.1.1.1.1;rcases G6 T j.1.1.1.2 j.1.1.2 j.1.2 j.2 with x | ⟨A,y,x,P⟩
  .unfold BY at x;rw[if_pos (by simpa using j)] at x;rw[x] at h;cases h
  .unfold BY at x;rw[if_pos (by simpa using j)] at x;rw[x] at h;cases h;exact P.len
 .cases h
theorem UH {p:Nat} {S S' : Sim} {g:Img} {i:Int} {R:RM} (H:Ok R S g) (j:S.copying i = some S') :
  Fn P I4 [Pt p,I i] R (Ag p S g) (DI p S' λ_=>True):=by
 refine Mv λF=>?_
 refine z_2 ?_;obtain⟨t,ht,j⟩:=AF j;obtain⟨h0,h1,h2,h3⟩:=Av ht;refine HN H ht rfl λb a cap hv=>(Ab (λvs R' D'=>R.le R'/\∃O D t1 G,S' = O.setT i t1/\O.th = S.th/\t1.AD = t.AD/\Ok R' O D/\D' = Ag p O D ++ (b,C Af (Aw t1 (.slice a t.AD.length cap))) :: G/\G = F/\vs = [Pt p,I i,Pt b]) (λK hK=>?_) ?_)
 rotate_left
 .rintro e R2 D2 ⟨hR,O,D,t1,G,rfl,a7,hr,y,rfl,rfl,he⟩;refine z_V ?_;refine Gv (O.setT i t1) y h0 (by rw[a7];exact h1) (by rw[hr];exact hv.le hR) τ λg3 b5=>(Ay hR trivial rfl b5)
 refine jl rfl (Ab (λvs R' D'=>R.le R'/\∃O D t1 G,S' = O.setT i t1/\O.th = S.th/\t1.AD = t.AD/\Ok R' O D/\D' = Ag p O D ++ (b,C Af (Aw t1 (.slice a t.AD.length cap))) :: G/\G = F/\vs = [Pt p,I i,Pt b]) (λK2 a3=>?_) ?_);rotate_left
 .rintro e R2 D2 ⟨hR,O,D,t1,G,e1,a7,hr,y,rfl,rfl,he⟩;refine z_V ?_;exact hK _ _ _ ⟨hR,O,D,t1,_,e1,a7,hr,y,rfl,rfl,rfl⟩
 refine jeq (jif (λW=>?_) (λW=>?_))
 .have W:=eq_of_beq W;rw[if_pos W] at j;obtain⟨q,hq,j⟩:=AF j;obtain⟨rfl,a5⟩:=B9 hq;obtain⟨⟨w,O⟩,Q,j⟩:=AF j;have e1:=Cy Q;subst e1;dsimp only at j;refine jl rfl (Cz a5 (jcS (DH H Q) λ_ R1 D A hr y=>?_));subst hr;refine jp (FE w) (jex rfl (jex rfl (ja λb3=>(js rfl rfl (by exact z_n 2) rfl (jla (by exact z_n 2) τ (jp (CN (AS w).1) (jS (Aw { t with size:=AG (AS w).1 } (.slice a t.AD.length cap)) (jl rfl (jl rfl (jmk (Gw (t:=S.AA) i (AG (AS w).1) (by have:=H.tl;omega)) ?_))))))))));intro v N a9;cases a6:BY S.AA i (AG (AS w).1) with
  | none=>
   rw[a6] at a9;obtain⟨rfl,rfl⟩:=a9;rw[a6] at j;refine jex rfl (jex rfl (jex rfl (DM (jcS (Vb y j) λ_ R2 g2 b1 hr a8=>(Ay (A.trans b1) trivial rfl a8)))))
  | some td=>
   obtain⟨t',d⟩:=td;rw[a6] at a9;obtain⟨sv,⟨b4,c4,c0,c6,rfl,rfl⟩,rfl⟩:=a9;rw[a6] at j;simp only[cX] at j;have hlen:=LX a6;refine jex rfl (jex rfl (jex rfl (CW (Qs (jS (Aw { t with size:=AG (AS w).1,dst:=d } (.slice a t.AD.length cap)) (jS (Aw { t with size:=AG (AS w).1,dst:=d,i:=1 } (.slice a t.AD.length cap)) (jS (Aw { t with size:=AG (AS w).1,dst:=d,i:=1,pc:=21 } (.slice a t.AD.length cap)) (Al (Ag p { S with used:=true,AA:=t' } { D with tb:=b4,tc:=c4,tsp:=c0 }) (G:=(b,C Af (Aw { t with size:=AG (AS w).1,dst:=d,i:=1,pc:=21 } (.slice a t.AD.length cap))) :: F) (a3 _ _ _ ⟨A,{ S with used:=true,AA:=t' },{ D with tb:=b4,tc:=c4,tsp:=c0 },{ t with size:=AG (AS w).1,dst:=d,i:=1,pc:=21 },_,j.symm,rfl,rfl,y.tab (by rw[hlen];exact H.tl) _ _ _ c6,rfl,rfl,rfl⟩)))))))))
 have W:t.pc≠20:=by simpa using W
 rw[if_neg W] at j;refine jeq (jif (λa0=>?_) (λa0=>?_))
 .have a0:=eq_of_beq a0;rw[if_pos a0] at j;obtain⟨q,hq,j⟩:=AF j;obtain⟨rfl,a5⟩:=B9 hq;obtain⟨⟨w,O⟩,Q,j⟩:=AF j;have e1:=Cy Q;subst e1;cases j;refine jl rfl (jl rfl (Cz a5 (jcS (DH H Q) λ_ R1 D A hr y=>?_)));subst hr;refine jS (Aw { t with word:=w } (.slice a t.AD.length cap)) (js rfl rfl (by simp[Aw]) rfl (a3 _ _ _ ⟨A,{ S with used:=true },D,{ t with word:=w,pc:=22 },_,rfl,rfl,rfl,y,rfl,rfl,rfl⟩))
 have a0:t.pc≠21:=by simpa using a0
 rw[if_neg a0] at j;refine jeq (jif (λa1=>?_) (λa1=>?_))
 .have a1:=eq_of_beq a1;rw[if_pos a1] at j;obtain⟨q,hq,j⟩:=AF j;obtain⟨rfl,a5⟩:=B9 hq;obtain⟨O,T,j⟩:=AF j;have e1:=Ew T;subst e1;obtain⟨n,hn,j⟩:=AF j;obtain⟨rfl,b7⟩:=B9 hn;cases j;refine jl rfl (jl rfl (Cz a5 (jl rfl (jcS (Dl H T) λ_ R1 D A hr y=>(jl rfl (Cz b7 (jS (Aw { t with i:=t.i + 1 } (.slice a t.AD.length cap)) (jS (Aw { t with i:=t.i + 1,pc:=21 } (.slice a t.AD.length cap)) (jl rfl (jl rfl (jeq (jif (λhz=>?_) (λhz=>?_)))))))))))))
  .refine js rfl rfl (by simp[Aw]) rfl (a3 _ _ _ ⟨A,{ S with used:=true,AC:=AT S.AC (t.dst + t.i) t.word },D,{ t with i:=t.i + 1,pc:=23 },_,(by rw[if_pos (eq_of_beq hz)]),rfl,rfl,y,rfl,rfl,rfl⟩)
  .exact a3 _ _ _ ⟨A,{ S with used:=true,AC:=AT S.AC (t.dst + t.i) t.word },D,{ t with i:=t.i + 1,pc:=21 },_,(by rw[if_neg (ne_of_beq_false hz)]),rfl,rfl,y,rfl,rfl,rfl⟩
 have a1:t.pc≠22:=by simpa using a1
 rw[if_neg a1] at j;refine jeq (jif (λa2=>?_) (λa2=>?_))
 .have a2:=eq_of_beq a2;rw[if_pos a2] at j;obtain⟨O,T,j⟩:=AF j;have e1:=Ew T;subst e1;cases j;refine jl rfl (jl rfl (jcS (Dl H T) λ_ R1 D A hr y=>(js rfl rfl (by simp[Aw]) rfl (a3 _ _ _ ⟨A,{ S with used:=true,AC:=AT S.AC t.dst t.dst },D,{ t with pc:=24 },_,rfl,rfl,rfl,y,rfl,rfl,rfl⟩))))
 have a2:t.pc≠23:=by simpa using a2
 rw[if_neg a2] at j;refine jeq (jif (λa4=>?_) (λa4=>?_));rotate_left
 .rw[if_neg (ne_of_beq_false a4)] at j;cases j;refine Az d9.symm (a3 _ _ _ ⟨RM.le.refl _,S,g,t,_,rfl,rfl,rfl,H,rfl,rfl,rfl⟩)
 have a4:=eq_of_beq a4;rw[if_pos a4] at j;split at j
 .cases j
 rename_i b0;have b0:0<=t.ret/\t.ret<=100:=Classical.not_not.1 b0;have b8:inR (t.ret + 1):=⟨Z,Z⟩;obtain⟨⟨w,O⟩,Q,j⟩:=AF j;have e1:=Cy Q;subst e1;dsimp only at j;refine jl rfl (jcS (DH H Q) λ_ R1 D A hr y=>?_);subst hr;have b2:∀x,(C7 t t.ret x).AD = t.AD:=λx=>by simp only[C7];split<;>(try split)<;>(try split)<;>rfl
 refine Ab (λvs R' D'=>R.le R'/\∃S2 g2 G x,S' = S2.setT i (C7 t t.ret x)/\S2.th = S.th/\Ok R' S2 g2/\D' = Ag p S2 g2 ++ (b,C Af (Aw t (.slice a t.AD.length cap))) :: G/\G = F/\vs = [Pt p,I i,Pt b,I x]) (λK3 b6=>?_) ?_;rotate_left
 .rintro e R2 D2 ⟨hR,S2,g2,G,x,rfl,a7,a8,rfl,rfl,he⟩;refine z_V ?_;refine jla (cs:=Aw t (.slice a t.AD.length cap)) (z_n 17) rfl (jl rfl (jp (Qr t a t.AD.length cap t.ret x b8) (js rfl rfl (by exact z_n 17) rfl (a3 _ _ _ ⟨hR,S2,g2,C7 t t.ret x,_,rfl,a7,b2 x,a8,rfl,rfl,rfl⟩))))
 refine jl rfl (jeq (jif (λhw=>?_) (λhw=>?_)))
 .have hw:=eq_of_beq hw;rw[if_pos hw] at j;obtain⟨S2,T,j⟩:=AF j;have e2:=Ew T;subst e2;obtain⟨S3,b9,j⟩:=AF j;cases j;obtain⟨t3,e3⟩:=Zw b9;refine jl rfl (jl rfl (jcS (Dl y T) λ_ R2 g2 b1 hr a8=>(jl rfl (jl rfl (jcS (WN a8 b9) λ_ R3 g3 c5 hr b5=>(jl rfl (b6 _ _ _ ⟨(A.trans b1).trans c5,S3,g3,_,t.dst,rfl,by rw[e3],b5,rfl,rfl,rfl⟩)))))))
 .rw[if_neg (ne_of_beq_false hw)] at j;cases j;exact b6 _ _ _ ⟨A,{ S with used:=true },D,_,w,rfl,rfl,y,rfl,rfl,rfl⟩
theorem Zs {S S1:Sim} {v:Int} (h:S.oldV v = some S1):S1.th = S.th:=by
 simp only[Sim.oldV] at h;split at h
 .cases h
 .cases h;split<;>rfl
theorem YT {p:Nat} {S S' : Sim} {g:Img} {i:Int} {R:RM} (H:Ok R S g) (j:S.field i = some S') :
  Fn P Jl [Pt p,I i] R (Ag p S g) (DI p S' λ_=>True):=by
 refine P8 λF=>?_
 refine z_2 ?_;obtain⟨t,ht,j⟩:=AF j;obtain⟨o,ho,j⟩:=AF j;obtain⟨q1,a5,j⟩:=AF j;obtain⟨ref,a6,j⟩:=AF j;obtain⟨q3,a7,j⟩:=AF j;obtain⟨num,a8,j⟩:=AF j;obtain⟨rfl,a3⟩:=B9 a5;obtain⟨rfl,b0⟩:=B9 a6;obtain⟨rfl,b1⟩:=B9 a7;obtain⟨rfl,b3⟩:=B9 a8;obtain⟨h0,h1,h2,h3⟩:=Av ht;refine HN H ht rfl λb a cap hv=>(Xc H ho λb2=>(jl rfl (Cz a3 (jl rfl (Cz b0 (jl rfl (Cz a3 (jl rfl (Cz b1 (jl rfl (Cz b3 (jl rfl (Ab (λvs R' D'=>R' = R/\D' = (b2,C 86 (eOp o)) :: (b,C Af (Aw t (.slice a t.AD.length cap))) :: (Ag p S g ++ F)/\∃v:Bool,vs = [Pt p,I i,Pt b,Pt b2,I (t.h + 2 + o.f),I (t.h + 2 + t.sh.refs + o.f),I t.pc,.bool v]/\(v = true↔t.pc = 5\/t.pc = 12)) (λK hK=>?_) ?_)))))))))))))
 .refine jeq (jif (λh=>hK _ _ _ ⟨rfl,rfl,_,rfl,?_⟩) (λh=>jeq (hK _ _ _ ⟨rfl,rfl,_,rfl,?_⟩)))
  .rw[h];simp[eq_of_beq h]
  .simp[ne_of_beq_false h]
 rintro e R1 D1 ⟨rfl,hD,v,he,a1⟩;refine z_W ?_;refine jif (λa9=>?_) (λa2=>?_)
 .rw[if_pos (a1.1 a9)] at j;obtain⟨⟨w,S1⟩,G,j⟩:=AF j;refine jcS (DH H G) λ_ T g2 x N A=>?_
  subst N;refine jcS (Zg A j) λ_ W g3 y N D=>(Ay (x.trans y) trivial rfl D)
 rw[if_neg (λh=>by rw[a1.2 h] at a2;cases a2)] at j;refine jeq (jif (λc=>?_) (λc=>?_))
 .rw[if_pos (eq_of_beq c)] at j;obtain⟨⟨w,S1⟩,G,j⟩:=AF j;have e1:=Cy G;subst e1;obtain⟨S2,a0,j⟩:=AF j;cases j;have e2:=Zs a0;refine jcS (DH H G) λ_ T g2 x N A=>?_
  subst N;refine jcS (Ym A a0) λ_ W g3 y N D=>(jS (Aw { t with pc:=7 } (.slice a t.AD.length cap)) (Gv (S2.setT i { t with pc:=7 }) D h0 (by rw[e2];exact h1) (by exact hv.le (x.trans y)) τ λg4 O=>(Ay (x.trans y) trivial rfl O)))
 rw[if_neg (ne_of_beq_false c)] at j;refine jeq (jif (λc=>?_) (λc=>?_))
 .rw[if_pos (eq_of_beq c)] at j;obtain⟨S1,Q,j⟩:=AF j;refine jl rfl (jcS (Dl H Q) λ_ T g2 x N A=>(jcS (DU A j) λ_ W g3 y N D=>(Ay (x.trans y) trivial rfl D)))
 rw[if_neg (ne_of_beq_false c)] at j;refine jeq (jif (λc=>?_) (λc=>?_))
 .rw[if_pos (eq_of_beq c)] at j;obtain⟨S1,Q,j⟩:=AF j;refine jl rfl (jcS (Dl H Q) λ_ T g2 x N A=>(jcS (DU A j) λ_ W g3 y N D=>(Ay (x.trans y) trivial rfl D)))
 rw[if_neg (ne_of_beq_false c)] at j;refine jeq (jif (λc=>?_) (λc=>?_))
 .rw[if_pos (eq_of_beq c)] at j;obtain⟨⟨w,S1⟩,G,j⟩:=AF j;refine jcS (DH H G) λ_ T g2 x N A=>?_
  subst N;refine jcS (DU A j) λ_ W g3 y N D=>(Ay (x.trans y) trivial rfl D)
 rw[if_neg (ne_of_beq_false c)] at j;refine jeq (jif (λc=>?_) (λc=>?_))
 .rw[if_pos (eq_of_beq c)] at j;obtain⟨⟨w,S1⟩,G,j⟩:=AF j;refine jcS (DH H G) λ_ T g2 x N A=>?_
  subst N;refine jcS (Vw A j) λ_ W g3 y N D=>(Ay (x.trans y) trivial rfl D)
 rw[if_neg (ne_of_beq_false c)] at j;refine jeq (jif (λc=>?_) (λc=>?_))
 .rw[if_pos (eq_of_beq c)] at j;obtain⟨⟨w,S1⟩,G,j⟩:=AF j;have e1:=Cy G;subst e1;dsimp only at j;refine jl rfl (jcS (DH H G) λ_ T g2 x N A=>?_);subst N;refine jeq (Ak (jl rfl jev) (jif (λc2=>?_) (λc2=>?_)))
  .rw[if_pos (eq_of_beq c2)] at j;obtain⟨S2,Q,j⟩:=AF j;refine jl rfl (jcS (Dl A Q) λ_ W g3 y N D=>(jcS (DU D j) λ_ R4 g4 a4 N O=>(Ay ((x.trans y).trans a4) trivial rfl O)))
  .rw[if_neg (ne_of_beq_false c2)] at j;cases j;refine jS (Aw { t with pc:=10 } (.slice a t.AD.length cap)) (Gv (({ S with used:=true }:Sim).setT i { t with pc:=10 }) A h0 h1 (by exact hv.le x) τ λg4 O=>(Ay x trivial rfl O))
 rw[if_neg (ne_of_beq_false c)] at j;refine jeq (jif (λc=>?_) (λc=>?_))
 .rw[if_pos (eq_of_beq c)] at j;refine jl rfl (jl rfl (jeq (jif (λc2=>?_) (λc2=>?_))))
  .rw[if_pos (eq_of_beq c2)] at j;cases j;refine jS (Aw { t with pc:=14 } (.slice a t.AD.length cap)) (Gv (S.setT i { t with pc:=14 }) H h0 h1 (by exact hv) τ λg4 O=>(Ay (RM.le.refl _) trivial rfl O))
  .rw[if_neg (ne_of_beq_false c2)] at j;obtain⟨⟨w,S1⟩,G,j⟩:=AF j;refine jcS (DH H G) λ_ T g2 x N A=>?_
   subst N;refine jcS (Vw A j) λ_ W g3 y N D=>(Ay (x.trans y) trivial rfl D)
 .rw[if_neg (ne_of_beq_false c)] at j;cases j;exact Ay (RM.le.refl _) trivial rfl H
theorem XU {p:Nat} {S S' : Sim} {g:Img} {i:Int} {R:RM} (N:Ok R S g) (j:S.shape i = some S') :
  Fn P KP [Pt p,I i] R (Ag p S g) (DI p S' λ_=>True):=by
 refine Pg λF=>?_
 refine z_2 ?_;obtain⟨t,ht,j⟩:=AF j;split at j
 .cases j
 rename_i W;have W:=Gp (by simpa using W:S.sz = true);obtain⟨o,a8,j⟩:=AF j;obtain⟨h0,h1,h2,h3⟩:=Av ht;refine HN N ht rfl λb a cap hv=>(Xc N a8 λb2=>(jl rfl (jeq (jif (λc=>?_) (λc=>?_)))))
 .rw[if_pos (eq_of_beq c)] at j;refine jl rfl (jl rfl (jeq (jp (YH (t.h == t.g)) (jcS (DU N j) λ_ R3 g3 D hr H=>(Ay D trivial rfl H)))))
 rw[if_neg (ne_of_beq_false c)] at j;refine jor [Pt p,I i,Pt b,Pt b2] ((o.kind == 10) || (o.kind == 11)) (λK' a3=>?_) (λe c u ho he=>?_)
 .refine jl rfl (jeq (jgO a3 λh1 hN=>jl rfl (jeq hN)))
 refine z_V ?_;rw[ho];refine jif (λhk=>?_) (λhk=>?_)
 .rw[if_pos (by simpa using hk)] at j;refine jl rfl (jl rfl (jl rfl (jc (XL o.kind t.h N.AI W.2.2.2.1) ?_)));intro v R1 A y O;have Q:=N.le y;cases hp:GO S.AI o.kind t.h with
  | none=>
   rw[hp] at O j;obtain⟨rfl,rfl⟩:=O;refine jex rfl (jex rfl (DM (jcS (DU Q j) λ_ R3 g3 D hr H=>(Ay (y.trans D) trivial rfl H))))
  | some l=>
   rw[hp] at O j;obtain⟨sv,⟨b4,T,b5,a6,b1,rfl,rfl⟩,rfl⟩:=O;refine jex rfl (jex rfl (CW (BB (b:=b4) λR2 a0 a5=>?_)));have a9:=CO a5 a6;refine Az (dK _) (jss { S with AI:=l } { g with AI:=S0 b4 l.length T } rfl rfl δ τ τ (jcS (p:=p) (by exact DU { Q.le a0 with AI:=a9 } j) λ_ R3 g3 D hr H=>(Ay ((y.trans a0).trans D) trivial rfl H)))
 rw[if_neg (by simpa using hk)] at j;obtain⟨q,O,j⟩:=AF j;obtain⟨rfl,a7⟩:=B9 O;obtain⟨⟨w,S1⟩,a1,j⟩:=AF j;have e1:=Cy a1;subst e1;dsimp only at j;refine jl rfl (Cz a7 (jcS (DH N a1) λ_ R1 g1 y hr Q=>?_));subst hr;refine jp (FE w) (jex rfl (jex rfl (ja λb3=>(js rfl rfl (by exact z_n 2) rfl (jla (by exact z_n 8) τ (jl rfl (jl rfl (jp (UZ o (AS w).1.refs (AS w).1.nums) (jif (λhf=>?_) (λhf=>?_))))))))))
 .rw[if_pos hf] at j;refine jcS (DU Q j) λ_ R3 g3 D hr H=>(Ay (y.trans D) trivial rfl H)
 rw[if_neg (by rw[hf];decide)] at j;refine jla (by exact z_n 2) τ (jS (Aw { t with sh:=(AS w).1 } (.slice a t.AD.length cap)) ?_);have a2:∀(R2:RM) (D2:Chs) (q:Int) (m:M),q = (if o.kind = 2 then 5 else if o.kind = 3 then (if S.Ae = 1 then 6 else 7) else if o.kind = 4 then 8 else if o.kind = 5 then 9 else if o.kind = 7 then 10 else t.pc)->S' = ({ S with used:=true }:Sim).setT i { t with sh:=(AS w).1,pc:=q }:=λR2 D2 q m O=>by
  rw[O];simp only[cX] at j;exact j.symm
 refine Ab (λvs R' D'=>R' = R1/\∃q,S' = ({ S with used:=true }:Sim).setT i { t with sh:=(AS w).1,pc:=q }/\D' = Ag p { S with used:=true } g1 ++ (b,C Af (Aw { t with sh:=(AS w).1,pc:=q } (.slice a t.AD.length cap))) :: F/\vs = [Pt p,I i,Pt b]) (λK hK=>?_) ?_;rotate_left
 .rintro e R2 D2 ⟨rfl,q,rfl,hD,he⟩;refine z_W ?_;refine Gv (({ S with used:=true }:Sim).setT i { t with sh:=(AS w).1,pc:=q }) Q h0 h1 (by exact hv.le y) τ λg4 b0=>(Ay y trivial rfl b0)
 refine jl rfl (Ab (λvs R' D'=>R' = R1/\∃q,S' = ({ S with used:=true }:Sim).setT i { t with sh:=(AS w).1,pc:=q }/\D' = Ag p { S with used:=true } g1 ++ (b,C Af (Aw { t with sh:=(AS w).1,pc:=q } (.slice a t.AD.length cap))) :: F/\vs = [Pt p,I i,Pt b]) (λK2 a4=>?_) ?_);rotate_left
 .rintro e R2 D2 ⟨rfl,q,O,hD,he⟩;refine z_W ?_;exact hK _ _ _ ⟨rfl,q,O,rfl,rfl⟩
 have x:∀q:Int,q = (if o.kind = 2 then 5 else if o.kind = 3 then (if S.Ae = 1 then 6 else 7) else if o.kind = 4 then 8 else if o.kind = 5 then 9 else if o.kind = 7 then 10 else t.pc)->
   J R1 ((b3,C 68 [I (AS w).1.refs,I (AS w).1.nums]) :: (Ag p { S with used:=true } g1 ++ (b2,C 86 (eOp o)) :: (b,C Af (Aw { t with sh:=(AS w).1,pc:=q } (.slice a t.AD.length cap))) :: F)) (K2 [Pt p,I i,Pt b]):=λq O=>by
  refine Al (Ag p { S with used:=true } g1) (G:=(b,C Af (Aw { t with sh:=(AS w).1,pc:=q } (.slice a t.AD.length cap))) :: F) (a4 _ _ _ ⟨rfl,q,a2 R1 [] q (λ_=>True) O,rfl,rfl⟩)
 refine jeq (jif (λc2=>?_) (λc2=>?_))
 .refine js rfl rfl (by simp[Aw]) rfl (x 5 (by rw[if_pos (eq_of_beq c2)]))
 refine jeq (jif (λc3=>?_) (λc3=>?_))
 .refine jS (Aw { t with sh:=(AS w).1,pc:=7 } (.slice a t.AD.length cap)) (jl rfl (jeq (jif (λph=>?_) (λph=>?_))))
  .refine js rfl rfl (by simp[Aw]) rfl (x 6 (by rw[if_neg (ne_of_beq_false c2),if_pos (eq_of_beq c3),if_pos (eq_of_beq ph)]))
  .exact x 7 (by rw[if_neg (ne_of_beq_false c2),if_pos (eq_of_beq c3),if_neg (ne_of_beq_false ph)])
 refine jeq (jif (λT=>?_) (λT=>?_))
 .refine js rfl rfl (by simp[Aw]) rfl (x 8 (by rw[if_neg (ne_of_beq_false c2),if_neg (ne_of_beq_false c3),if_pos (eq_of_beq T)]))
 refine jeq (jif (λc5=>?_) (λc5=>?_))
 .refine js rfl rfl (by simp[Aw]) rfl (x 9 (by rw[if_neg (ne_of_beq_false c2),if_neg (ne_of_beq_false c3),if_neg (ne_of_beq_false T),if_pos (eq_of_beq c5)]))
 refine jeq (jif (λc7=>?_) (λc7=>?_))
 .refine js rfl rfl (by simp[Aw]) rfl (x 10 (by rw[if_neg (ne_of_beq_false c2),if_neg (ne_of_beq_false c3),if_neg (ne_of_beq_false T),if_neg (ne_of_beq_false c5),if_pos (eq_of_beq c7)]))
 .exact x t.pc (by rw[if_neg (ne_of_beq_false c2),if_neg (ne_of_beq_false c3),if_neg (ne_of_beq_false T),if_neg (ne_of_beq_false c5),if_neg (ne_of_beq_false c7)])
theorem Wa {p:Nat} {S S' : Sim} {g:Img} {i:Int} {R:RM} (y:Ok R S g) (j:S.making i = some S') :
  Fn P J1 [Pt p,I i] R (Ag p S g) (DI p S' λ_=>True):=by
 refine OP λF=>?_
 refine z_2 ?_;obtain⟨t,ht,j⟩:=AF j;obtain⟨o,b1,j⟩:=AF j;obtain⟨h0,h1,h2,h3⟩:=Av ht;refine HN y ht rfl λb a cap hv=>(Xc y b1 λb2=>?_)
 refine Ab (λvs R' D'=>R.le R'/\∃S1 g1 t1,S1.th = S.th/\t1.AD = t.AD/\Ok R' S1 g1/\t.pc≠30/\t.pc≠31/\(let t2:={ t1 with pc:=33 };let S2:=S1.setT i t2;if t2.i = t2.size then (do (<- S2.top t2.dst t2.size).push i t2.dst) else some S2) = some S'/\
   D' = Ag p S1 g1 ++ (b,C Af (Aw t1 (.slice a t.AD.length cap))) :: F/\vs = [Pt p,I i,Pt b]) (λK hK=>?_) ?_
 rotate_left
 .rintro e R2 D2 ⟨hR,S1,g1,t1,b3,hr,W,_,_,j,hD,he⟩;refine z_W ?_;dsimp only at j;refine jS (Aw { t1 with pc:=33 } (.slice a t.AD.length cap)) (Gv (S1.setT i { t1 with pc:=33 }) W h0 (by rw[b3];exact h1) (by rw[hr];exact hv.le hR) τ λg3 H=>(jl rfl (jl rfl (jeq (jif (λhz=>?_) (λhz=>?_))))))
  .rw[if_pos (eq_of_beq hz)] at j;obtain⟨S3,b5,j⟩:=AF j;refine jl rfl (jl rfl (jcS (WN H b5) λ_ R4 g4 a8 hr b6=>(jl rfl (jcS (OF b6 j) λ_ R5 g5 a9 hr b7=>(Ay ((hR.trans a8).trans a9) trivial rfl b7)))))
  .rw[if_neg (ne_of_beq_false hz)] at j;cases j;exact Ay hR trivial rfl H
 refine jl rfl ?_;refine jcI hK λK2 a2=>?_
 refine jeq (jif (λA=>?_) (λA=>?_))
 .have A:=eq_of_beq A;rw[if_pos A] at j;dsimp only at j;refine jfo (jla (by exact z_n 8) τ (jp (CN o.sh) (js rfl rfl (by simp[Aw]) rfl (jl rfl (jl rfl (jmk (Gw i (AG o.sh) (by have:=y.tl;omega)) ?_))))));intro v N a1;cases a6:BY S.AA i (AG o.sh) with
  | none=>
   rw[a6] at a1 j;obtain⟨rfl,rfl⟩:=a1;dsimp only at j;refine Az (dK _) (jex rfl (jex rfl (jex rfl (Ab (λvs R' D'=>R' = R/\D' = (b2,C 86 (eOp o)) :: (b,C Af (Aw { t with size:=AG o.sh } (.slice a t.AD.length cap))) :: (Ag p S g ++ F)/\∃c u,vs = [Pt p,I i,Pt b,SN,I 0,.bool false,c,u]/\GM c u (t.Am == 2)) (λK3 a3=>?_) ?_))))
   .refine jtt (jl rfl (jeq (a3 _ _ _ ⟨rfl,rfl,_,_,rfl,Bx⟩)))
   .rintro e R2 D2 ⟨rfl,hD,c,u,he,ha⟩;refine z_W ?_;rw[ha];refine jif (λh2=>?_) (λh2=>?_)
    .rw[if_pos (eq_of_beq h2)] at j;refine jcS (DU y j) λ_ R3 g3 a4 hr H=>(Ay a4 trivial rfl H)
    .rw[if_neg (ne_of_beq_false h2)] at j;refine DM (jcS (Vb y j) λ_ R3 g3 a4 hr H=>(Ay a4 trivial rfl H))
  | some td=>
   obtain⟨t',d⟩:=td;rw[a6] at a1 j;obtain⟨sv,⟨b4,c4,b8,b0,rfl,rfl⟩,rfl⟩:=a1;simp only[cX] at j;have hlen:=LX a6;refine jex rfl (jex rfl (jex rfl (Ab (λvs R' D'=>R' = R/\D' = [(b4,C AO (Ad eRg t' ++ b8))] ++ ((b2,C 86 (eOp o)) :: (b,C Af (Aw { t with size:=AG o.sh } (.slice a t.AD.length cap))) :: (Ag p S g ++ F))/\∃c u,vs = [Pt p,I i,Pt b,S0 b4 t'.length c4,I d,.bool true,c,u]/\GM c u false) (λK3 a3=>?_) ?_)))
   .exact jft (a3 _ _ _ ⟨rfl,rfl,_,_,rfl,CB⟩)
   .rintro e R2 D2 ⟨rfl,hD,c,u,he,ha⟩;refine z_W ?_;rw[ha];refine CW (CW (Qs (jS (Aw { t with size:=AG o.sh,dst:=d } (.slice a t.AD.length cap)) (jS (Aw { t with size:=AG o.sh,dst:=d,i:=2 } (.slice a t.AD.length cap)) (jS (Aw { t with size:=AG o.sh,dst:=d,i:=2,pc:=31 } (.slice a t.AD.length cap)) (Gv (({ S with AA:=t' }:Sim).setT i { t with size:=AG o.sh,dst:=d,i:=2,pc:=31 }) (y.tab (by rw[hlen];exact y.tl) _ _ _ b0) h0 h1 (by exact hv) τ λg3 H=>?_))))));subst j;exact Ay (RM.le.refl _) trivial rfl H
 have A:t.pc≠30:=by simpa using A
 rw[if_neg A] at j;refine jeq (jif (λD=>?_) (λD=>?_))
 .have D:=eq_of_beq D;rw[if_pos D] at j;obtain⟨S1,O,j⟩:=AF j;have e1:=Ew O;subst e1;cases j;refine jl rfl (jl rfl (jcS (Dl y O) λ_ R1 g1 a0 hr W=>(jS (Aw { t with pc:=32 } (.slice a t.AD.length cap)) (Gv (({ S with used:=true,AC:=AT S.AC t.dst t.dst }:Sim).setT i { t with pc:=32 }) W h0 h1 (by exact hv.le a0) τ λg3 H=>(Ay a0 trivial rfl H)))))
 have D:t.pc≠31:=by simpa using D
 rw[if_neg D] at j;obtain⟨⟨S2,t2⟩,x,j⟩:=AF j;dsimp only at j;refine jeq (jif (λQ=>?_) (λQ=>?_))
 .have Q:=eq_of_beq Q;rw[if_pos Q] at x;obtain⟨q,hq,x⟩:=AF x;obtain⟨rfl,a5⟩:=B9 hq;obtain⟨S1,O,x⟩:=AF x;have e1:=Ew O;subst e1;cases x;refine jl rfl (Cz a5 (jfo (jla (by exact z_n 8) τ (jp (EL o.sh) (Ak (jl rfl jev) (jcS (Dl y O) λ_ R1 g1 a0 hr W=>(Al (Ag p { S with used:=true,AC:=AT S.AC (t.dst + 1) (AY o.sh) } g1) (G:=(b,C Af (Aw t (.slice a t.AD.length cap))) :: F) (a2 _ _ _ ⟨a0,{ S with used:=true,AC:=AT S.AC (t.dst + 1) (AY o.sh) },g1,t,rfl,rfl,W,A,D,j,rfl,rfl⟩))))))))
 have Q:t.pc≠32:=by simpa using Q
 rw[if_neg Q] at x;refine jeq (jif (λT=>?_) (λT=>?_))
 .have T:=eq_of_beq T;rw[if_pos T] at x;obtain⟨q,hq,x⟩:=AF x;obtain⟨rfl,a5⟩:=B9 hq;obtain⟨S1,O,x⟩:=AF x;have e1:=Ew O;subst e1;obtain⟨n,hn,x⟩:=AF x;obtain⟨rfl,a7⟩:=B9 hn;cases x;refine jl rfl (jl rfl (Cz a5 (jcS (Dl y O) λ_ R1 g1 a0 hr W=>(jl rfl (Cz a7 (jS (Aw { t with i:=t.i + 1 } (.slice a t.AD.length cap)) (Al (Ag p { S with used:=true,AC:=AT S.AC (t.dst + t.i) 0 } g1) (G:=(b,C Af (Aw { t with i:=t.i + 1 } (.slice a t.AD.length cap))) :: F) (a2 _ _ _ ⟨a0,{ S with used:=true,AC:=AT S.AC (t.dst + t.i) 0 },g1,{ t with i:=t.i + 1 },rfl,rfl,W,A,D,j,rfl,rfl⟩))))))))
 have T:t.pc≠33:=by simpa using T
 rw[if_neg T] at x;cases x;refine Al (Ag p S g) (G:=(b,C Af (Aw t (.slice a t.AD.length cap))) :: F) (a2 _ _ _ ⟨RM.le.refl _,S,g,t,rfl,rfl,y,A,D,j,rfl,rfl⟩)
end Go.Lf
end
section
namespace Go.Lf
open Go Sm
theorem Qq {l:List Thr} {rv sp:List Value} {i f:Nat} {v:Value} (h:i < l.length) (y : i < rv.length) (x:(Aw (l[i]) (rv[i]))[f]? = some v):(Ep l rv ++ sp)[i * 17 + f]? = some v:=by
 have:=Tr (sp:=sp) h y;have j:=congrArg (λl=>l[f]?) this;simp only[dw,dY] at j;have A:f < 17:=by
  by_cases c:f < 17
  .exact c
  .have:(Aw (l[i]) (rv[i]))[f]? = none:=dT (by show 17<=f;omega);rw[this] at x;cases x
 rw[if_pos A] at j;rw[j,x]
theorem jpc {R:RM} {D G:Chs} {p:Nat} {S:Sim} {g:Img} {i:Int} {t:Thr} {k:Value->M} [w:Fd D p S g G] (A:Ok R S g) (T:idx S.th i = some t) (H:J R D (k (I t.pc))) :
  J R D (L1 (.pointer (some ⟨p,17,none⟩)) λx=>IA 17 x (I i) λy=>FO 3 y λz=>L1 z k):=by
 obtain⟨h0,N,O,Q⟩:=Av T;have j : i.toNat < g.rv.length:=by have:=A.rvl;omega
 have K : J R (Ag p S g ++ G) (k (I t.pc)):=Az w.ex.symm H;have l1:J R (Ag p S g ++ G) (L1 (.pointer (some ⟨p,17,none⟩)) λx=>IA 17 x (I i) λy=>FO 3 y λz=>L1 z k):=by
  refine jl rfl (jia h0 N (jl ?_ K));rw[cg];exact Qq O j (by rw[Q];rfl)
 exact Az w.ex l1
theorem WR {n p:Nat} {S S' : Sim} {g:Img} {i:Int} {R:RM} (T:Ok R S g) (N:S.thread n i = some S') :
  Fn P JL [Pt p,I i] R (Ag p S g) (DI p S' λ_=>True):=by
 refine O7 λF=>?_
 refine z_2 ?_;obtain⟨t,ht,N⟩:=AF N;obtain⟨h0,h1,h2,h3⟩:=Av ht;refine HN T ht rfl λb a cap hv=>(jl rfl (jeq (jif (λhp=>?_) (λhp=>?_))))
 .rw[if_pos (eq_of_beq hp)] at N;refine Ab (λW O D'=>O = R/\D' = (b,C Af (Aw t (.slice a t.AD.length cap))) :: (Ag p S g ++ F)/\∃c u v,W = [Pt p,I i,c,u]/\GM c u v/\(if v = true then S.begin_ i else some S) = some S') (λK hK=>?_) ?_;rotate_left
  .rintro e R1 D1 ⟨rfl,hD,c,u,v,he,ha,hq⟩;refine z_W ?_;rw[ha];refine jif (λhc=>?_) (λhc=>?_)
   .rw[if_pos hc] at hq;refine jcS (Xa T hq) λ_ R2 D A hr y=>(Ay A trivial rfl y)
   .rw[if_neg (by rw[hc];decide)] at hq;cases hq;exact Ay (RM.le.refl _) trivial rfl T
  refine jl rfl ?_;cases j:S.stop with
  | true=>
   rw[j,if_pos rfl] at N;exact jft (hK _ _ _ ⟨rfl,rfl,_,_,false,rfl,CB,by rw[if_neg δ];exact N⟩)
  | false=>
   rw[j,if_neg δ] at N;obtain⟨pr,a6,N⟩:=AF N;obtain⟨i0,i1,i2,i3⟩:=Av a6;refine jtt (jl rfl (jl rfl ?_));obtain⟨W,f1,f2,f3⟩:=T.AZ;obtain⟨x,f4,f5⟩:=f3 i.toNat i2;rw[i3] at f5;rcases f1 with ⟨_,h,_⟩ | ⟨bp,a7,cp,tp,cs,e1,e2,e3,e4,e5⟩
   .omega
   have hx:cs[a7 + i.toNat * 1]? = some x:=by
    have:=congrArg (λl=>l[i.toNat]?) e4;simp only[dw,dY] at this;rw[if_pos Z] at this;rw[dx,this,f4]
   rw[e1];refine jia i0 Z (jlr e2 hx (Jh f5 (jlt (hK _ _ _ ⟨rfl,rfl,_,_,_,rfl,Bx,?_⟩))));by_cases hc:t.next < pr.length
   .rw[if_pos hc] at N;rw[if_pos (decide_eq_true hc)];exact N
   .rw[if_neg hc] at N;rw[if_neg (by rw[decide_eq_false hc];decide)];exact N
 .rw[if_neg (ne_of_beq_false hp)] at N;refine jss { S with used:=false } g rfl rfl δ τ τ (Al (Ag p { S with used:=false } g) (G:=F) (jlp (λm W O D'=>R.le O/\∃S1 g1,Ok O S1 g1/\D' = Ag p S1 g1 ++ F/\W = [Pt p,I i]/\Sim.tloop m S1 i = some S') ⟨RM.le.refl _,{ S with used:=false },g,{ T with },rfl,rfl,N⟩ ?_));rintro m e R1 D1 K ⟨hR,S1,g1,H,hD,he,hl⟩ hK;refine z_W ?_;cases m with
  | zero=>cases hl
  | succ m=>
   obtain⟨t1,a2,hl⟩:=AF hl;refine Ab (λW O D'=>O = R1/\D' = Ag p S1 g1 ++ F/\∃c u,W = [Pt p,I i,c,u]/\GM c u (!S1.used && t1.pc != 0)) (λK2 a3=>?_) ?_
   .refine jl rfl ?_;cases hu:S1.used with
    | true=>exact jft (a3 _ _ _ ⟨rfl,rfl,_,_,rfl,by rw[hu];exact CB⟩)
    | false=>
     refine jtt (jpc H a2 (jne (a3 _ _ _ ⟨rfl,rfl,_,_,rfl,?_⟩)));rw[hu];exact Bx
   rintro e R2 D2 ⟨rfl,hD,c,u,he,ha⟩;refine z_W ?_;rw[ha];refine jif (λhc=>?_) (λhc=>?_);rotate_left
   .rw[if_pos (by
     cases hu:S1.used
     .rw[hu] at hc;right;simpa using hc
     .exact .inl rfl)] at hl
    cases hl;exact Ay hR trivial rfl H
   have a5 : ¬ (S1.used = true\/t1.pc = 0):=by
    simp only[z_b,cz,bne_iff_ne,ne_eq] at hc;rintro (h | h)
    .rw[hc.1] at h;cases h
    .exact hc.2 h
   rw[if_neg a5] at hl;obtain⟨S2,j,hl⟩:=AF hl;unfold Sim.tstep at j;rw[a2] at j;simp only[cP,z_o] at j;refine Ab (λW O D'=>R.le O/\∃D,Ok O S2 D/\D' = Ag p S2 D ++ F/\W = [Pt p,I i]) (λK3 a4=>?_) ?_;rotate_left
   .rintro e R3 D3 ⟨a1,D,y,hD,he⟩;refine z_W ?_;exact hK m _ _ _ Z ⟨a1,S2,D,y,rfl,rfl,hl⟩
   refine jpc H a2 (Ab (λW O D'=>R.le O/\∃D,Ok O S2 D/\D' = Ag p S2 D ++ F/\W = [Pt p,I i]) (λK4 Q=>?_) ?_);rotate_left
   .rintro e R3 D3 ⟨a1,D,y,hD,he⟩;refine z_W ?_;exact a4 _ _ _ ⟨a1,D,y,rfl,rfl⟩
   refine jor [Pt p,I i,I t1.pc] ((decide (t1.pc<=3)) || (t1.pc == 11)) (λK' a0=>?_) (λe c u ho he=>?_)
   .refine jle (jgO a0 λh1 hN=>jeq hN)
   refine z_V ?_;refine jor [Pt p,I i,I t1.pc] ((decide (t1.pc<=3) || t1.pc == 11) || (t1.pc == 15)) (λK' a0=>?_) (λe c u ho he=>?_)
   .rw[ho];refine jgO a0 λh1 hN=>jeq hN
   refine z_V ?_;rw[ho];refine jif (λc1=>?_) (λc1=>?_)
   .rw[if_pos (by simpa [or_assoc] using c1)] at j;refine jcS (UB H j) λ_ R2 D A hr y=>(Q _ _ _ ⟨hR.trans A,D,y,rfl,rfl⟩)
   rw[if_neg (by
    intro h
    have:((decide (t1.pc<=3) || t1.pc == 11) || t1.pc == 15) = true:=by simpa [or_assoc] using h
    rw[c1] at this;cases this)] at j
   refine jeq (jif (λc2=>?_) (λc2=>?_))
   .rw[if_pos (eq_of_beq c2)] at j;refine jcS (XU H j) λ_ R2 D A hr y=>(Q _ _ _ ⟨hR.trans A,D,y,rfl,rfl⟩)
   rw[if_neg (ne_of_beq_false c2)] at j;refine jge (jif (λc3=>?_) (λc3=>?_))
   .rw[if_pos (z_f c3)] at j;refine jcS (Wa H j) λ_ R2 D A hr y=>(Q _ _ _ ⟨hR.trans A,D,y,rfl,rfl⟩)
   rw[if_neg (z_g c3)] at j;refine jge (jif (λc4=>?_) (λc4=>?_))
   .rw[if_pos (z_f c4)] at j;refine jcS (UH H j) λ_ R2 D A hr y=>(Q _ _ _ ⟨hR.trans A,D,y,rfl,rfl⟩)
   rw[if_neg (z_g c4)] at j;refine jcS (YT H j) λ_ R2 D A hr y=>(Q _ _ _ ⟨hR.trans A,D,y,rfl,rfl⟩)
theorem Z7 {p:Nat} {S:Sim} {g:Img} {R:RM} (j:Ok R S g) :
  Fn P Mn [Pt p] R (Ag p S g) (DI p S (· = .bool S.calm)):=by
 refine S8 λF=>?_
 refine z_1 ?_;refine jlp (λn T G D=>G = R/\D = Ag p S g ++ F/\∃i:Nat,i<=S.th.length/\T = [Pt p,I i]/\n = S.th.length - i/\∀k (h:k < S.th.length),k < i->(S.th[k]).pc = 0)
  (n:=S.th.length) ⟨rfl,rfl,0,Z,rfl,Z,λk _ h=>Z⟩ ?_
 rintro n e R1 W K ⟨rfl,hD,i,hi,he,hn,Bq⟩ H;refine z_W ?_;have hl:=j.hl;refine jl rfl (jln (jlt (jif (λhc=>?_) (λhc=>?_))))
 .have hc:i < S.th.length:=by have:=z_f hc;omega
  have O:idx S.th i = some (S.th[i]):=by unfold idx;rw[if_pos Z,cG,cF hc]
  refine jpc j O (jne (jif (λy=>?_) (λy=>?_)))
  .refine Ay (RM.le.refl _) ?_ rfl j;have y:(S.th[i]).pc≠0:=by simpa using y
   have:S.calm = false:=by
    unfold Sim.calm;rw[List.all_eq_false];exact⟨S.th[i],cK hc,by simpa using y⟩
   rw[this]
  .have y:(S.th[i]).pc = 0:=by simpa using y
   refine jad (H (S.th.length - (i + 1)) _ _ _ Z ⟨rfl,rfl,i + 1,Z,rfl,rfl,λk A N=>?_⟩);by_cases c:k = i
   .subst c;exact y
   .exact Bq k A Z
 .have hc:¬ i < S.th.length:=by have:=z_g hc;omega
  refine Ay (RM.le.refl _) ?_ rfl j;have:S.calm = true:=by
   unfold Sim.calm;rw[ck];intro x Q;obtain⟨k,A,rfl⟩:=d5 Q;simpa using Bq k A Z
  rw[this]
instance (priority:=low) Sp.appr (X D A F:Chs) [s:Sp D A F]:Sp (X ++ D) A (X ++ F):=⟨(s.p.append_left X).trans (by rw[<- cR,<- cR];exact fB F db)⟩
section col
variable {R:RM} {D G:Chs} {p:Nat} {S:Sim} {g:Img} {m:M} {k:Value->M}
theorem Pj {x:Col} {j:Value} (h:flat j = true):By (BV x j) = true:=by
 show (true && (true && (true && (flat j && true)))) = true;rw[h];rfl
theorem JT [w:Fd D p S g G] (j:Ok R S g) (H:∀b,J R ((b,C BR (BV S.col g.AR)) :: D) (k (Pt b))) :
  J R D (LA 15 (.pointer (some ⟨p,18,none⟩)) λy=>AL BR Z0 λx=>ST 15 x y (k x)):=by
 refine Az w.ex (jla (by show 18 + 15<=35;omega) rfl ?_);refine ja λb=>(js rfl (Pj (Fz.flat j.AR)) (by exact z_n 15) τ ?_)
 exact Az (w.ex.symm.cons _) (H b)
theorem J6 {b:Nat} {x:Col} {j:Value} (S' : Sim) [w:Fd D p S g G] [at_:At D b (C BR (BV x j))] (y:Ok R S g) (N:B8 R j x.AR) (O:S' = { S with col:=x })
  (H:∀K,Ok R S' K->J R (Ag p S' K ++ G) m):J R D (LA 15 (Pt b) λA=>ST 15 (.pointer (some ⟨p,18,none⟩)) A m):=by
 subst O;refine jla (cs:=BV x j) (z_n 15) rfl (jss { S with col:=x } { g with AR:=j } rfl (Pj (Fz.flat N)) δ τ τ (H _ { y with AR:=N }))
theorem jsm {i:Nat} {v:Bool} (S' : Sim) [w:Fd D p S g G] (y:i < S.AM.length) (x:S' = { S with AM:=S.AM.set i v }) (H:J R (Ag p S' g ++ G) m):J R D (ST 1 (.pointer (some ⟨g.mb,i,none⟩)) (.bool v) m):=by
 subst x;intro h A;refine js (cs':=(S.AM.set i v).map Value.bool ++ g.msp) rfl rfl (by simp;omega) ?_ H h (A.perm w.ex) (u:=?_)
 .rw[show cl (Value.bool v) = [Value.bool v] from rfl,GS (by simp;omega),List.set_append_left _ _ (by simpa using y),List.map_set]
 .have j:Ch { S with AM:=S.AM.set i v } g = Ch S g:=by simp[Ch,evV]
  unfold Ag evD;rw[j];exact inferInstance
end col
theorem L9 {x G : Col} (a:Option Addr) (n c:Nat) (h:H5 x = some G):Pu LR [.agg (BV x (.slice a n c)).toArray] (.agg (BV G (.slice a n c)).toArray):=by
 intro R;refine Rd λF=>?_
 refine z_1 ?_;obtain⟨i,O,h⟩:=AF h;obtain⟨rfl,j⟩:=B9 O;simp only[cX] at h;subst h;refine ja λb=>ja λy=>?_
 have e:cl (.agg (BV x (.slice a n c)).toArray) = BV x (.slice a n c):=rfl;rw[e];refine jl rfl (Cz j (jS (BV { x with i:=x.i + 1 } (.slice a n c)) (jS (BV { x with i:=x.i + 1,pc:=7 } (.slice a n c)) (Ab (λQ N H=>N = R/\H = (y,C 151 (cl Z0)) :: (b,C 151 (BV { x with i:=x.i + 1,pc:=if x.i + 1 = x.sh.refs then 6 else 7 } (.slice a n c))) :: ([] ++ F)/\Q = [Pt b,Pt y]) (λK D=>?_) ?_))))
 .refine jl rfl (jl rfl (jeq (jif (λhc=>?_) (λhc=>?_))))
  .refine jS (BV { x with i:=x.i + 1,pc:=6 } (.slice a n c)) (D _ _ _ ⟨rfl,by rw[if_pos (eq_of_beq hc)],rfl⟩)
  .exact D _ _ _ ⟨rfl,by rw[if_neg (ne_of_beq_false hc)],rfl⟩
 .rintro e W T ⟨rfl,hD,he⟩;refine z_W ?_;refine jla (by exact z_n 15) τ (js rfl rfl (by exact z_n 15) τ (jla (by exact z_n 15) τ (Ao (A:=[]) (RM.le.refl _) rfl)))
theorem WF {p:Nat} {S S' : Sim} {g:Img} {R:RM} (A:Ok R S g) (j:S.look = some S') :
  Fn P MJ [Pt p] R (Ag p S g) (DI p S' λ_=>True):=by
 refine RL λF=>?_
 refine z_1 ?_;unfold Sim.look at j;split at j
 .cases j
 rename_i H;have H:=Gp (by simpa using H:S.sz = true);dsimp only at j;obtain⟨q1,a6,j⟩:=AF j;obtain⟨rfl,a8⟩:=B9 a6;obtain⟨q2,a7,j⟩:=AF j;obtain⟨rfl,a9⟩:=B9 a7;obtain⟨⟨v,S1⟩,a0,j⟩:=AF j;have e1:=Cy a0;subst e1;dsimp only at j;obtain⟨i1,a5,j⟩:=AF j;obtain⟨rfl,b0⟩:=B9 a5;refine JT A λb=>?_
 obtain⟨a,cap,a1,-⟩:=B8.reads (D:=[]) A.AR;rw[a1];have x:=A.AR;rw[a1] at x;refine jl rfl (Cz a8 (jl rfl (Cz a9 (jcS (DH A a0) λ_ R1 g1 Q hr b2=>?_))));subst hr;refine Ab (λvs R' D'=>R1.le R'/\∃T W c2,B8 R' (.slice T W c2) (if v≠0 then S.col.AR ++ [v] else S.col.AR)/\D' = Ag p { S with used:=true } g1 ++ (b,C BR (BV { S.col with AR:=if v≠0 then S.col.AR ++ [v] else S.col.AR } (.slice T W c2))) :: F/\vs = [Pt p,Pt b]) (λK hK=>?_) ?_
 .refine jne (jif (λN=>?_) (λN=>?_))
  .have N:v≠0:=by simpa using N
   refine jl rfl (jc (CY (x.le Q) H.2.2.1) ?_);rintro _ R' _ hR ⟨b4,c,sp,hc,hsp,rfl,rfl⟩;refine jbs rfl rfl λb1=>(YW hc hsp H.2.2.1 (BX.held (cs:=[I v]) (z_n 1)) λb' c' b8 a4 b7=>(BB (b:=b') λR2 y a3=>?_))
   have hi:=CO a3 (by simpa using a4);rw[cJ,cr] at hi;refine jS (BV { S.col with AR:=S.col.AR ++ [v] } (.slice (some ⟨b',0,none⟩) (S.col.AR.length + 1) c')) (Al (Ag p { S with used:=true } g1) (G:=(b,C BR (BV { S.col with AR:=S.col.AR ++ [v] } (.slice (some ⟨b',0,none⟩) (S.col.AR.length + 1) c'))) :: F) (hK _ _ _ ⟨hR.trans y,some ⟨b',0,none⟩,S.col.AR.length + 1,c',by rw[if_pos N];exact hi,by rw[if_pos N],rfl⟩))
  .have N:¬ v≠0:=by simpa using N
   exact hK _ _ _ ⟨RM.le.refl _,a,S.col.AR.length,cap,by rw[if_neg N];exact x.le Q,by rw[if_neg N],rfl⟩
 .rintro e R2 D2 ⟨y,T,W,c2,hi,hD,he⟩;refine z_W ?_;have b3:=b2.le y;generalize b6:(if v≠0 then S.col.AR ++ [v] else S.col.AR) = O at hi j ⊢;refine jl rfl (Cz b0 (jS (BV { S.col with AR:=O,i:=S.col.i + 1 } (.slice T W c2)) (Ab (λvs R' D'=>R' = R2/\D' = Ag p { S with used:=true } g1 ++ (b,C BR (BV { S.col with AR:=O,i:=S.col.i + 1,pc:=if S.col.i + 1 = S.col.sh.refs then 1 else S.col.pc } (.slice T W c2))) :: F/\vs = [Pt p,Pt b]) (λK hK=>?_) ?_)))
  .refine jl rfl (jl rfl (jeq (jif (λhc=>?_) (λhc=>?_))))
   .refine jS (BV { S.col with AR:=O,i:=S.col.i + 1,pc:=1 } (.slice T W c2)) (hK _ _ _ ⟨rfl,by rw[if_pos (eq_of_beq hc)],rfl⟩)
   .exact hK _ _ _ ⟨rfl,by rw[if_neg (ne_of_beq_false hc)],rfl⟩
  .rintro e R3 D3 ⟨rfl,hD,he⟩;refine z_W ?_;refine J6 (({ S with used:=true }:Sim).setC { S.col with AR:=O,i:=S.col.i + 1,pc:=if S.col.i + 1 = S.col.sh.refs then 1 else S.col.pc }) b3 hi τ λg3 b5=>?_
   simp only[cX] at j;subst j;exact Ay (Q.trans y) trivial rfl b5
theorem Wu {p:Nat} {S S' : Sim} {g:Img} {R:RM} (A:Ok R S g) (j:S.mark = some S') :
  Fn P Le [Pt p] R (Ag p S g) (DI p S' λ_=>True):=by
 refine RG λF=>?_
 refine z_1 ?_;unfold Sim.mark at j;split at j
 .cases j
 rename_i a7;have a7:=Gp (by simpa using a7:S.sz = true);dsimp only at j;refine JT A λb=>?_
 obtain⟨a,cap,c8,-⟩:=B8.reads (D:=[]) A.AR;rw[c8];have O:=A.AR;rw[c8] at O;refine jl rfl (jln (jeq (jif (λh0=>?_) (λh0=>?_))))
 .have h0:S.col.AR.length = 0:=by have:=eq_of_beq h0;omega
  rw[if_pos h0] at j;refine Ab (λvs R' D'=>R.le R'/\∃S2 g2 x2 b9,S' = { S2 with col:=x2 }/\Ok R' S2 g2/\B8 R' b9 x2.AR/\D' = Ag p S2 g2 ++ (b,C BR (BV x2 b9)) :: F/\vs = [Pt p,Pt b]) (λK hK=>?_) ?_;rotate_left
  .rintro e R2 D2 ⟨T,S2,g2,x2,b9,e1,W,hi,hD,he⟩;refine z_W ?_;refine J6 { S2 with col:=x2 } W hi τ λg3 a4=>?_
   subst e1;exact Ay T trivial rfl a4
  refine jl rfl (Jh A.old (jeq (jif (λh1=>?_) (λh1=>?_))))
  .have h1:S.old = []:=by have:=eq_of_beq h1;exact dA.1 Z
   rw[h1] at j;simp only[cX] at j;refine jss { S with stop:=true } g rfl rfl δ τ τ (js rfl rfl (by simp[BV]) rfl (hK _ _ _ ⟨RM.le.refl _,{ S with stop:=true },g,{ S.col with want:=2 },_,j.symm▸by rw[h1],{ A with },O,rfl,rfl⟩))
  .have h1:S.old.length≠0:=by have:=ne_of_beq_false h1;omega
   obtain⟨a0,l,a2⟩:∃a l,S.old = a :: l:=by cases h:S.old with | nil=>rw[h] at h1;exact absurd rfl h1 | cons a l=>exact⟨a,l,rfl⟩
   rw[a2] at j;simp only[cX] at j;refine jl rfl (Bl A.old Z Z ?_);have e0:S.old[(0:Int).toNat]'(by simp;omega) = a0:=by simp[a2]
   rw[e0];refine jbs (cs:=[I a0]) rfl rfl λb1=>(jS (BV { S.col with AR:=[a0] } (S0 b1 1 1)) (BB (b:=b1) λR2 T d2=>?_))
   have d3:B8 R2 (S0 b1 [a0].length 1) [a0]:=CO (by simpa using d2) (z_n 1);refine jl rfl (ap (A.old.le T) Z (by rw[a2];simp;omega) λv1 a3=>?_);rw[a2] at a3;refine jc (CY (l:=l) a3 (by have:=a7.2.1;rw[a2] at this;simp at this;omega)) ?_;rintro _ R3 _ N ⟨H,Q,e5,b2,c7,rfl,rfl⟩;refine BB (b:=H) λR4 a1 b0=>?_
   have b3:=CO b0 b2;refine jss { S with old:=l } { g with old:=S0 H l.length Q } rfl rfl δ τ τ ?_;have hR:=(T.trans N).trans a1;refine Al (Ag p { S with old:=l } { g with old:=S0 H l.length Q }) (G:=(b,C BR (BV { S.col with AR:=[a0] } (S0 b1 1 1))) :: F) (hK _ _ _ ⟨hR,{ S with old:=l },{ g with old:=S0 H l.length Q },{ S.col with AR:=[a0] },_,j.symm,{ A.le hR with old:=b3 },(d3.le N).le a1,rfl,rfl⟩)
 have h0:S.col.AR.length≠0:=by have:=ne_of_beq_false h0;omega
 rw[if_neg h0] at j;obtain⟨x,a9,j⟩:=AF j;obtain⟨row,c6,j⟩:=AF j;obtain⟨go,y,j⟩:=AF j;obtain⟨r0,r1,r2,r3⟩:=Av c6;have e7:=A.tl;have b7:S.col.AR[S.col.AR.length - 1]'(Z) = x:=by
  rw[List.getLast?_eq_getElem?] at a9;rw[cF Z] at a9;exact da a9
 have e6:=a7.2.2.1;refine jl rfl (jl rfl (jln (jsu (Bl O Z Z ?_))));have e0:S.col.AR[((S.col.AR.length:Int) - 1).toNat]'(Z) = x:=by
  rw[<- b7];congr 1;omega
 rw[e0];refine jl rfl (jl rfl (jln (jsu (Wd O Z Z λv1 a3=>?_))));rw[show ((S.col.AR.length:Int) - 1).toNat = S.col.AR.length - 1 from Z,<- List.dropLast_eq_take] at a3;refine jc (CY a3 (by simp;omega)) ?_;rintro _ R1 _ d1 ⟨H,Q,e5,b2,c7,rfl,rfl⟩;refine BB (b:=H) λR2 T b0=>?_
 have b3:=CO b0 b2;have a8:=d1.trans T;have W:=A.le a8;refine js rfl rfl (by simp[BV]) rfl (jp (Cf x Z) (Ab (λvs R' D'=>R2.le R'/\∃S3 g3 x3,S' = { S3 with col:=x3 }/\Ok R' S3 g3/\x3.AR = S.col.AR.dropLast/\D' = Ag p S3 g3 ++ (b,C BR (BV x3 (S0 H S.col.AR.dropLast.length Q))) :: F/\vs = [Pt p,Pt b]) (λK hK=>?_) ?_));rotate_left
 .rintro e R3 D3 ⟨N,S3,g3,x3,e1,a4,ex,hD,he⟩;refine z_W ?_;refine J6 { S3 with col:=x3 } a4 (by rw[ex];exact b3.le N) τ λg4 a5=>?_
  subst e1;exact Ay (a8.trans N) trivial rfl a5
 refine Ab (λvs R' D'=>R' = R2/\D' = (b,C BR (BV { S.col with AR:=S.col.AR.dropLast } (S0 H S.col.AR.dropLast.length Q))) :: (Ag p S g ++ F)/\∃c u,vs = [Pt p,Pt b,I x,I (AN x),c,u]/\GM c u go) (λK2 c0=>?_) ?_
 .refine jl rfl (jia r0 r1 (jl (by rw[cg];exact C6 r2 (by rw[r3];rfl)) (jlt ?_)));by_cases a6:x < row.BA
  .rw[if_pos a6] at y;obtain⟨mk,b8,y⟩:=AF y;cases y;obtain⟨m0,m1,m2,m3⟩:=Av b8;rw[decide_eq_true a6];refine jtt (jl rfl (jia m0 m1 (jl (by rw[cg,dx,Jc m2,m3]) ?_)));exact c0 _ _ _ ⟨rfl,rfl,_,_,rfl,Bx⟩
  .rw[if_neg a6] at y;cases y;rw[decide_eq_false a6];exact jft (c0 _ _ _ ⟨rfl,rfl,_,_,rfl,CB⟩)
 rintro e R3 D3 ⟨N,hD,c,u,he,ha⟩;subst N;refine z_W ?_;rw[ha];refine jif (λhg=>?_) (λhg=>?_)
 .rw[hg,if_pos rfl] at j;rw[hg] at y;have hm:idx S.AM x = some false:=by
   split at y
   .obtain⟨mk,b8,y⟩:=AF y;cases mk
    .exact b8
    .cases y
   .cases y
  obtain⟨m0,m1,m2,m3⟩:=Av hm;obtain⟨q1,e2,j⟩:=AF j;obtain⟨rfl,e3⟩:=B9 e2;obtain⟨⟨w,S1⟩,c5,j⟩:=AF j;have e1:=Cy c5;subst e1;dsimp only at j;obtain⟨lv,d4,j⟩:=AF j;obtain⟨rfl,e4⟩:=B9 d4;simp only[cX] at j;refine jl rfl (jia m0 m1 ?_);rw[cg,dx];refine jsm (p:=p) { S with AM:=AT S.AM x true } m2 τ (Cz e3 ?_);have a4:Ok R3 { S with AM:=AT S.AM x true } g:={ W with ml:=by simpa [AT] using W.ml,mk_:=by simpa [AT] using W.mk_ };refine jcS (DH a4 c5) λ_ R4 g4 a1 hr a5=>?_
  subst hr;refine jp (FE w) (jex rfl (jex rfl (ja λb5=>(js rfl rfl (by exact z_n 2) rfl (jl rfl (jia r0 r1 (Rm (p:=p) (by exact r2) ?_)))))));have er:({ S with used:=true,AM:=AT S.AM x true }:Sim).AA[(AN x).toNat]'r2 = row:=r3;rw[er];refine ja λb6=>(js (cs':=eRg row) rfl rfl V rfl (jl rfl (jla (by exact z_n 2) τ (jp (CN (AS w).1) (Cz e4 (Ak (jl rfl jev) (js (cs':=eRg { row with AJ:=row.AJ + AG (AS w).1 }) rfl rfl V rfl (jl rfl (jla V rfl (jia r0 r1 (UQ (p:=p) { S with used:=true,AM:=AT S.AM x true,AA:=AT S.AA (AN x) { row with AJ:=row.AJ + AG (AS w).1 } } (by exact r2) τ ?_)))))))))))
  have c9:Ok R4 { S with used:=true,AM:=AT S.AM x true,AA:=AT S.AA (AN x) { row with AJ:=row.AJ + AG (AS w).1 } } g4:={ a5 with tl:=by simpa [AT] using a5.tl,tk:=by simpa [AT] using a5.tk };refine jS (BV { S.col with AR:=S.col.AR.dropLast,p:=x } (S0 H S.col.AR.dropLast.length Q)) (jS (BV { S.col with AR:=S.col.AR.dropLast,p:=x,i:=0 } (S0 H S.col.AR.dropLast.length Q)) (jla (by exact z_n 2) τ (jS (BV { S.col with AR:=S.col.AR.dropLast,p:=x,i:=0,sh:=(AS w).1 } (S0 H S.col.AR.dropLast.length Q)) (jl rfl (jgr (jif (λhc=>?_) (λhc=>?_)))))))
  .rw[if_pos (z_f hc)] at j;refine jS (BV { S.col with AR:=S.col.AR.dropLast,p:=x,i:=0,sh:=(AS w).1,pc:=2 } (S0 H S.col.AR.dropLast.length Q)) (Al (Ag p { S with used:=true,AM:=AT S.AM x true,AA:=AT S.AA (AN x) { row with AJ:=row.AJ + AG (AS w).1 } } g4) (G:=(b,C BR (BV { S.col with AR:=S.col.AR.dropLast,p:=x,i:=0,sh:=(AS w).1,pc:=2 } (S0 H S.col.AR.dropLast.length Q))) :: F) (hK _ _ _ ⟨a1,_,g4,{ S.col with AR:=S.col.AR.dropLast,p:=x,i:=0,sh:=(AS w).1,pc:=2 },j.symm,c9,rfl,rfl,rfl⟩))
  .rw[if_neg (z_g hc)] at j;refine Al (Ag p { S with used:=true,AM:=AT S.AM x true,AA:=AT S.AA (AN x) { row with AJ:=row.AJ + AG (AS w).1 } } g4) (G:=(b,C BR (BV { S.col with AR:=S.col.AR.dropLast,p:=x,i:=0,sh:=(AS w).1 } (S0 H S.col.AR.dropLast.length Q))) :: F) (hK _ _ _ ⟨a1,{ S with used:=true,AM:=AT S.AM x true,AA:=AT S.AA (AN x) { row with AJ:=row.AJ + AG (AS w).1 } },g4,{ S.col with AR:=S.col.AR.dropLast,p:=x,i:=0,sh:=(AS w).1 },j.symm,c9,rfl,rfl,rfl⟩)
 .rw[hg,if_neg δ] at j;simp only[cX] at j;refine Al (Ag p S g) (G:=(b,C BR (BV { S.col with AR:=S.col.AR.dropLast } (S0 H S.col.AR.dropLast.length Q))) :: F) (hK _ _ _ ⟨RM.le.refl _,S,g,{ S.col with AR:=S.col.AR.dropLast },j.symm,W,rfl,rfl,rfl⟩)
theorem XT {p:Nat} {S S' : Sim} {g:Img} {R:RM} (A:Ok R S g) (j:S.carry = some S') :
  Fn P KD [Pt p] R (Ag p S g) (DI p S' λ_=>True):=by
 refine QN λF=>?_
 refine z_1 ?_;unfold Sim.carry at j;dsimp only at j;refine JT A λb=>?_
 obtain⟨a,cap,b5,-⟩:=B8.reads (D:=[]) A.AR;rw[b5];have a3:=A.AR;rw[b5] at a3;refine Ab (λvs R' D'=>R.le R'/\∃S2 W x2,S' = S2.setC x2/\Ok R' S2 W/\x2.AR = S.col.AR/\D' = Ag p S2 W ++ (b,C BR (BV x2 (.slice a S.col.AR.length cap))) :: F/\vs = [Pt p,Pt b]) (λK hK=>?_) ?_;rotate_left
 .rintro e R2 D2 ⟨a0,S2,W,x2,e1,T,ex,hD,he⟩;refine z_W ?_;refine J6 (S2.setC x2) T (by rw[ex];exact a3.le a0) τ λg3 b0=>?_
  subst e1;exact Ay a0 trivial rfl b0
 refine jl rfl (Ab (λvs R' D'=>R.le R'/\∃S2 W x2,S' = S2.setC x2/\Ok R' S2 W/\x2.AR = S.col.AR/\D' = Ag p S2 W ++ (b,C BR (BV x2 (.slice a S.col.AR.length cap))) :: F/\vs = [Pt p,Pt b]) (λK2 O=>?_) ?_);rotate_left
 .rintro e R2 D2 ⟨a0,S2,W,x2,e1,T,ex,hD,he⟩;refine z_W ?_;exact hK _ _ _ ⟨a0,S2,W,x2,e1,T,ex,rfl,rfl⟩
 refine jeq (jif (λa4=>?_) (λa4=>?_))
 .rw[if_pos (eq_of_beq a4)] at j;obtain⟨q,hq,j⟩:=AF j;obtain⟨rfl,a1⟩:=B9 hq;obtain⟨⟨w,S1⟩,H,j⟩:=AF j;have e1:=Cy H;subst e1;dsimp only at j;refine jl rfl (Cz a1 (jcS (DH A H) λ_ R1 g1 x hr y=>?_));subst hr;refine jp (FE w) (jex rfl (jex rfl (ja λb3=>(js rfl rfl (by exact z_n 2) rfl (jla (by exact z_n 2) τ (jp (CN (AS w).1) (jS (BV { S.col with size:=AG (AS w).1 } (.slice a S.col.AR.length cap)) (jl rfl (jl rfl (jln (jl rfl (jmk (Gw (t:=S.AA) S.th.length (AG (AS w).1) (by have:=A.tl;omega)) ?_))))))))))));intro v N a2;cases a9:BY S.AA S.th.length (AG (AS w).1) with
  | none=>
   rw[a9] at a2 j;obtain⟨rfl,rfl⟩:=a2;simp only[cX] at j;subst j;refine jex rfl (jex rfl (jex rfl (DM (jss { S with used:=true,full:=true } g1 rfl rfl δ τ τ (jss { S with used:=true,full:=true,stop:=true } g1 rfl rfl δ τ τ (Ay x trivial rfl { y with }))))))
  | some td=>
   obtain⟨t',d⟩:=td;rw[a9] at a2 j;obtain⟨sv,⟨b4,c4,b6,b8,rfl,rfl⟩,rfl⟩:=a2;simp only[cX] at j;have hlen:=LX a9;refine jex rfl (jex rfl (jex rfl (CW (Qs (jS (BV { S.col with size:=AG (AS w).1,dst:=d } (.slice a S.col.AR.length cap)) (jS (BV { S.col with size:=AG (AS w).1,dst:=d,i:=1 } (.slice a S.col.AR.length cap)) (jS (BV { S.col with size:=AG (AS w).1,dst:=d,i:=1,pc:=21 } (.slice a S.col.AR.length cap)) (Al (Ag p { S with used:=true,AA:=t' } { g1 with tb:=b4,tc:=c4,tsp:=b6 }) (G:=(b,C BR (BV { S.col with size:=AG (AS w).1,dst:=d,i:=1,pc:=21 } (.slice a S.col.AR.length cap))) :: F) (O _ _ _ ⟨x,{ S with used:=true,AA:=t' },{ g1 with tb:=b4,tc:=c4,tsp:=b6 },{ S.col with size:=AG (AS w).1,dst:=d,i:=1,pc:=21 },j.symm,y.tab (by rw[hlen];exact A.tl) _ _ _ b8,rfl,rfl,rfl⟩)))))))))
 rw[if_neg (ne_of_beq_false a4)] at j;refine jeq (jif (λa5=>?_) (λa5=>?_))
 .rw[if_pos (eq_of_beq a5)] at j;obtain⟨q,hq,j⟩:=AF j;obtain⟨rfl,a1⟩:=B9 hq;obtain⟨⟨w,S1⟩,H,j⟩:=AF j;have e1:=Cy H;subst e1;cases j;refine jl rfl (jl rfl (Cz a1 (jcS (DH A H) λ_ R1 g1 x hr y=>?_)));subst hr;refine jS (BV { S.col with word:=w } (.slice a S.col.AR.length cap)) (js rfl rfl (by simp[BV]) rfl (O _ _ _ ⟨x,{ S with used:=true },g1,{ S.col with word:=w,pc:=22 },rfl,y,rfl,rfl,rfl⟩))
 rw[if_neg (ne_of_beq_false a5)] at j;refine jeq (jif (λa6=>?_) (λa6=>?_))
 .rw[if_pos (eq_of_beq a6)] at j;obtain⟨q,hq,j⟩:=AF j;obtain⟨rfl,a1⟩:=B9 hq;obtain⟨S1,Q,j⟩:=AF j;have e1:=Ew Q;subst e1;obtain⟨n,hn,j⟩:=AF j;obtain⟨rfl,b2⟩:=B9 hn;cases j;refine jl rfl (jl rfl (Cz a1 (jl rfl (jcS (Dl A Q) λ_ R1 g1 x hr y=>(jl rfl (Cz b2 (jS (BV { S.col with i:=S.col.i + 1 } (.slice a S.col.AR.length cap)) (jS (BV { S.col with i:=S.col.i + 1,pc:=21 } (.slice a S.col.AR.length cap)) (jl rfl (jl rfl (jeq (jif (λhz=>?_) (λhz=>?_)))))))))))))
  .refine js rfl rfl (by simp[BV]) rfl (O _ _ _ ⟨x,{ S with used:=true,AC:=AT S.AC (S.col.dst + S.col.i) S.col.word },g1,{ S.col with i:=S.col.i + 1,pc:=23 },(by rw[if_pos (eq_of_beq hz)]),y,rfl,rfl,rfl⟩)
  .exact O _ _ _ ⟨x,{ S with used:=true,AC:=AT S.AC (S.col.dst + S.col.i) S.col.word },g1,{ S.col with i:=S.col.i + 1,pc:=21 },(by rw[if_neg (ne_of_beq_false hz)]),y,rfl,rfl,rfl⟩
 rw[if_neg (ne_of_beq_false a6)] at j;refine jeq (jif (λa7=>?_) (λa7=>?_))
 .rw[if_pos (eq_of_beq a7)] at j;obtain⟨S1,Q,j⟩:=AF j;have e1:=Ew Q;subst e1;cases j;refine jl rfl (jl rfl (jcS (Dl A Q) λ_ R1 g1 x hr y=>(js rfl rfl (by simp[BV]) rfl (O _ _ _ ⟨x,{ S with used:=true,AC:=AT S.AC S.col.dst S.col.dst },g1,{ S.col with pc:=24 },rfl,y,rfl,rfl,rfl⟩))))
 rw[if_neg (ne_of_beq_false a7)] at j;refine jeq (jif (λa8=>?_) (λa8=>?_));rotate_left
 .rw[if_neg (ne_of_beq_false a8)] at j;cases j;exact Az d9.symm (O _ _ _ ⟨RM.le.refl _,S,g,S.col,rfl,A,rfl,rfl,rfl⟩)
 rw[if_pos (eq_of_beq a8)] at j;obtain⟨⟨w,S1⟩,H,j⟩:=AF j;have e1:=Cy H;subst e1;dsimp only at j;obtain⟨S3,h3,j⟩:=AF j;cases j;refine Ab (λvs R' D'=>R.le R'/\∃W,Ok R' S3 W/\D' = Ag p S3 W ++ (b,C BR (BV S.col (.slice a S.col.AR.length cap))) :: F/\vs = [Pt p,Pt b]) (λK3 b1=>?_) ?_;rotate_left
 .rintro e R2 D2 ⟨hR,W,T,hD,he⟩;refine z_W ?_;refine js rfl rfl (by simp[BV]) rfl (O _ _ _ ⟨hR,S3,W,{ S.col with pc:=5 },rfl,T,rfl,rfl,rfl⟩)
 refine jl rfl (jl rfl (jcS (DH A H) λ_ R1 g1 x hr y=>?_));subst hr;refine jeq (Ak (jl rfl jev) (jif (λhw=>?_) (λhw=>?_)))
 .rw[if_pos (eq_of_beq hw)] at h3;obtain⟨S2,Q,h3⟩:=AF h3;refine jl rfl (jl rfl (jcS (Dl y Q) λ_ R2 W a0 hr T=>(jl rfl (jl rfl (jcS (WN T h3) λ_ R3 g3 b7 hr b0=>(b1 _ _ _ ⟨(x.trans a0).trans b7,g3,b0,rfl,rfl⟩))))))
 .rw[if_neg (ne_of_beq_false hw)] at h3;cases h3;exact b1 _ _ _ ⟨x,g1,y,rfl,rfl⟩
theorem OB {R:RM} {S:Sim} {g:Img} {r:Int} {row:Rg} (h:idx S.AA r = some row) {f:Nat} {v:Value} (y:(eRg row)[f]? = some v):(Ad eRg S.AA ++ g.tsp)[0 + r.toNat * 5 + f]? = some v:=by
 obtain⟨h0,A,j,x⟩:=Av h;rw[cg];exact C6 j (by rw[x];exact y)
theorem ZZ {p:Nat} {S S' : Sim} {g:Img} {R:RM} (G:Ok R S g) (H:S.walk = some S') :
  Fn P MZ [Pt p] R (Ag p S g) (DI p S' λ_=>True):=by
 refine S6 λF=>?_
 refine z_1 ?_;unfold Sim.walk at H;dsimp only at H;obtain⟨⟨r,q⟩,b9,H⟩:=AF H;dsimp only at H;have c7:=G.tl;have c5:=G.ml;refine JT G λb=>?_
 obtain⟨a,cap,b0,-⟩:=B8.reads (D:=[]) G.AR;rw[b0];have T:=G.AR;rw[b0] at T;refine Ab (λvs W D'=>W = R/\D' = (b,C BR (BV { S.col with r:=r,p:=q } (.slice a S.col.AR.length cap))) :: (Ag p S g ++ F)/\vs = [Pt p,Pt b]) (λK hK=>?_) ?_
 .refine jcI hK λK2 a6=>?_
  refine jlp (λn vs W D'=>W = R/\∃r1 q1,D' = (b,C BR (BV { S.col with r:=r1,p:=q1 } (.slice a S.col.AR.length cap))) :: (Ag p S g ++ F)/\vs = [Pt p,Pt b]/\S.walkOut n r1 q1 = some (r,q))
   ⟨rfl,S.col.r,S.col.p,rfl,rfl,b9⟩ ?_
  rintro n e R1 D1 K3 ⟨a0,r1,q1,hD,he,y⟩ b3;subst a0;refine z_W ?_;cases n with
  | zero=>cases y
  | succ n=>
   unfold Sim.walkOut at y;refine jl rfl (jl rfl (jln (jlt (jif (λhc=>?_) (λhc=>?_)))));rotate_left
   .rw[if_neg (z_g hc)] at y;cases y;exact a6 _ _ _ ⟨rfl,rfl,rfl⟩
   have hc:=z_f hc;rw[if_pos hc] at y;obtain⟨row,a9,y⟩:=AF y;obtain⟨q2,j,y⟩:=AF y;obtain⟨r0,c4,r2,r3⟩:=Av a9;refine jl rfl (jl rfl (jia r0 c4 ?_));have O:=DY (f:=eRg) (w:=5) (λ_=>rfl) (sp:=g.tsp) r2;rw[r3] at O;refine jla (l:=eRg row) (by rw[cg];exact Fj r2) (by rw[cg];exact O) (ja λb5=>(Ak (jl rfl jev) (Ak (jl rfl jev) (Ak (jla (by rw[cg];exact Fj r2) (by rw[cg];exact O) jev) (js rfl rfl (by exact z_n 5) rfl (Ab (λvs W D'=>W = R1/\D' = (b5,C 113 (eRg row)) :: (b,C BR (BV { S.col with r:=r1,p:=q2 } (.slice a S.col.AR.length cap))) :: (Ag p S g ++ F)/\vs = [Pt p,Pt b,Pt b5]) (λK4 b4=>?_) ?_))))))
   .refine jcI b4 λK5 a7=>?_
    refine jlp (λm vs W D'=>W = R1/\∃q3,D' = (b5,C 113 (eRg row)) :: (b,C BR (BV { S.col with r:=r1,p:=q3 } (.slice a S.col.AR.length cap))) :: (Ag p S g ++ F)/\vs = [Pt p,Pt b,Pt b5]/\Jf S.AM row m q3 = some q2)
     ⟨rfl,q1,rfl,rfl,j⟩ ?_
    rintro m e R2 D2 K6 ⟨N,q3,hD,he,j⟩ b6;subst N;refine z_W ?_;cases m with
    | zero=>cases j
    | succ m=>
     unfold Jf at j;refine jan [Pt p,Pt b,Pt b5] ((row.kind == 4) && (decide (q3 < row.top))) (λK' A=>?_) (λe c u ho he=>?_)
     .refine jl rfl (jeq (jgA A λh1 hN=>jl rfl (jl rfl (jlt hN))))
     refine z_V ?_;by_cases hk:row.kind = 4/\q3 < row.top
     .rw[if_pos hk] at j;obtain⟨mk,b7,j⟩:=AF j;obtain⟨m0,m1,m2,m3⟩:=Av b7;have a2:(row.kind == 4 && decide (q3 < row.top)) = true:=by simp[hk.1,hk.2]
      refine jan [Pt p,Pt b,Pt b5] (!mk) (λK' A=>?_) (λe c u a3 he=>?_)
      .rw[ho,a2];refine jtt (jl rfl (jl rfl (jia m0 m1 (jl (by rw[cg,dx,Jc m2,m3]) ?_))));exact A _ _ _ Bx rfl
      .refine z_V ?_;rw[a3];cases mk with
       | true=>
        simp only[if_true] at j;cases j;exact CW (a7 _ _ _ ⟨rfl,rfl,rfl⟩)
       | false=>
        simp only[d8,if_false] at j;refine DM (jl (v:=I q3) rfl (jad (js rfl rfl (by simp[BV]) rfl (b6 m _ _ _ Z ⟨rfl,q3 + 1,rfl,rfl,j⟩))))
     .rw[if_neg hk] at j;have a2:(row.kind == 4 && decide (q3 < row.top)) = false:=by
       rw[fH,decide_eq_false_iff_not,beq_eq_false_iff_ne];by_cases h:row.kind = 4
       .exact .inr λh2=>hk ⟨h,h2⟩
       .exact .inl h
      refine jan [Pt p,Pt b,Pt b5] false (λK' A=>?_) (λe c u a3 he=>?_)
      .rw[ho,a2];exact jft (A _ _ _ CB rfl)
      .refine z_V ?_;rw[a3];cases j;exact CW (a7 _ _ _ ⟨rfl,rfl,rfl⟩)
   .rintro e R2 D2 ⟨N,hD,he⟩;subst N;refine z_W ?_;refine jan [Pt p,Pt b] ((row.kind == 4) && (decide (q2 < row.top))) (λK' A=>?_) (λe c u ho he=>?_)
    .refine jl rfl (jeq (jgA A λh1 hN=>jl rfl (jl rfl (jlt hN))))
    refine z_V ?_;rw[ho];refine jif (λhk=>?_) (λhk=>?_)
    .rw[if_pos (by simpa using hk)] at y;cases y;exact Bf (a6 _ _ _ ⟨rfl,rfl,rfl⟩)
    .rw[if_neg (by intro h;simp[h.1,h.2] at hk)] at y;refine jl (v:=I r1) rfl (jad (jS (BV { S.col with r:=r1 + 1,p:=q2 } (.slice a S.col.AR.length cap)) (jl (v:=I (r1 + 1)) rfl (HL ⟨Z,Z⟩ (js rfl rfl (by simp[BV]) rfl (Bf (b3 n _ _ _ Z ⟨rfl,r1 + 1,(r1 + 1) * 16,rfl,rfl,y⟩)))))))
 .rintro e R2 D2 ⟨N,hD,he⟩;subst N;refine z_W ?_;refine jl rfl (jl rfl (jln (jeq (jif (λhc=>?_) (λhc=>?_)))))
  .rw[if_pos (by have:=eq_of_beq hc;exact this)] at H;cases H;refine jss { S with stop:=true } g rfl rfl δ τ τ (jS (BV { S.col with r:=r,p:=q,want:=3 } (.slice a S.col.AR.length cap)) (J6 { S with stop:=true,col:={ S.col with r:=r,p:=q,want:=3 } } (by exact { G with }) (by exact T) τ λg3 a5=>(Ay (RM.le.refl _) trivial rfl a5)))
  .rw[if_neg (by have:=ne_of_beq_false hc;exact this)] at H;obtain⟨q1,b8,H⟩:=AF H;obtain⟨rfl,b1⟩:=B9 b8;obtain⟨⟨w,S1⟩,a4,H⟩:=AF H;have Q:=a4;simp only[Sim.read] at Q;have c6:0<=q:=by
    split at Q
    .exact (Av (by assumption)).1
    .cases Q
   have a1:inR q:=⟨Z,by have:=b1.2;omega⟩;have e1:=Cy a4;subst e1;simp only[cX] at H;refine jl rfl (Cz b1 (jS (BV { S.col with r:=r,p:=q + 1 } (.slice a S.col.AR.length cap)) ?_));have x:q + 1 - 1 = q:=Z
   refine Ab (λvs W D'=>R2.le W/\∃g2,Ok W { S with used:=true } g2/\D' = Ag p { S with used:=true } g2 ++ (b,C BR (BV (if w = q then { S.col with r:=r,p:=q + 1,src:=q,pc:=20 } else { S.col with r:=r,p:=q + 1 }) (.slice a S.col.AR.length cap))) :: F/\vs = [Pt p,Pt b]) (λK hK=>?_) ?_
   .refine jl rfl (RZ (by rw[x];exact a1) (jl rfl (RZ (by rw[x];exact a1) ?_)));rw[x];refine jcS (DH G a4) λ_ R1 g1 a0 hr b2=>?_
    subst hr;refine jeq (Ak (jl rfl ?_) (jif (λy=>?_) (λy=>?_)))
    .exact jev
    .refine jl rfl (RZ (by rw[x];exact a1) ?_);rw[x];refine jS (BV { S.col with r:=r,p:=q + 1,src:=q } (.slice a S.col.AR.length cap)) (jS (BV { S.col with r:=r,p:=q + 1,src:=q,pc:=20 } (.slice a S.col.AR.length cap)) (hK _ _ _ ⟨a0,g1,b2,by rw[if_pos (eq_of_beq y)],rfl⟩))
    .exact hK _ _ _ ⟨a0,g1,b2,by rw[if_neg (ne_of_beq_false y)],rfl⟩
   .rintro e R3 D3 ⟨a8,g2,c0,hD,he⟩;refine z_W ?_;have hx:(if w = q then { S.col with r:=r,p:=q + 1,src:=q,pc:=20 } else { S.col with r:=r,p:=q + 1 }:Col).AR = S.col.AR:=by split<;>rfl
    refine J6 (({ S with used:=true }:Sim).setC (if w = q then { S.col with r:=r,p:=q + 1,src:=q,pc:=20 } else { S.col with r:=r,p:=q + 1 })) c0 (by rw[hx];exact T.le a8) τ λg3 a5=>?_
    subst H;exact Ay a8 trivial rfl a5
theorem jgu {R:RM} {D:Chs} {w:Bool} {a b:M} (H:J R D b):J R D (GT (.tuple #[]) w a b):=H
theorem Xk {p:Nat} {S S' : Sim} {g:Img} {R:RM} (hok:Ok R S g) (hS:S.renew = some S') :
  Fn P KW [Pt p] R (Ag p S g) (DI p S' λ_=>True):=by
 refine Pd λF=>?_
 refine z_1 ?_;unfold Sim.renew at hS;have htl:=hok.tl;refine JT hok λb=>?_
 obtain⟨a,cap,hsv,-⟩:=B8.reads (D:=[]) hok.AR;rw[hsv];have hst0:=hok.AR;rw[hsv] at hst0;refine Ab (λvs R' D'=>R.le R'/\∃S2 g2 x2,S' = S2.setC x2/\Ok R' S2 g2/\x2.AR = S.col.AR/\D' = Ag p S2 g2 ++ (b,C BR (BV x2 (.slice a S.col.AR.length cap))) :: F/\vs = [Pt p,Pt b]) (λK hK=>?_) ?_;rotate_left
 .rintro e R2 D2 ⟨hR2,S2,g2,x2,e1,ok2,ex,hD,he⟩;refine z_W ?_;refine J6 (S2.setC x2) ok2 (by rw[ex];exact hst0.le hR2) τ λg3 ok3=>?_
  subst e1;exact Ay hR2 trivial rfl ok3
 refine jl rfl (Ab (λvs R' D'=>R.le R'/\∃S2 g2 x2,S' = S2.setC x2/\Ok R' S2 g2/\x2.AR = S.col.AR/\D' = Ag p S2 g2 ++ (b,C BR (BV x2 (.slice a S.col.AR.length cap))) :: F/\vs = [Pt p,Pt b]) (λK2 hK2=>?_) ?_);rotate_left
 .rintro e R2 D2 ⟨hR2,S2,g2,x2,e1,ok2,ex,hD,he⟩;refine z_W ?_;exact hK _ _ _ ⟨hR2,S2,g2,x2,e1,ok2,ex,rfl,rfl⟩
 have back:∀(R' : RM) (S2:Sim) (g2:Img) (x2:Col),R.le R'->S' = S2.setC x2->Ok R' S2 g2->x2.AR = S.col.AR->J R' (Ag p S2 g2 ++ (b,C BR (BV x2 (.slice a S.col.AR.length cap))) :: F) (K2 [Pt p,Pt b]):=λR' S2 g2 x2 h1 h2 h3 h4=>hK2 _ _ _ ⟨h1,S2,g2,x2,h2,h3,h4,rfl,rfl⟩
 refine jeq (jif (λc6=>?_) (λc6=>?_))
 .rw[if_pos (eq_of_beq c6)] at hS;obtain⟨⟨r,q⟩,hro,hS⟩:=AF hS;dsimp only at hS;refine Ab (λvs R' D'=>R' = R/\D' = (b,C BR (BV { S.col with r:=r,p:=q } (.slice a S.col.AR.length cap))) :: (Ag p S g ++ F)/\vs = [Pt p,Pt b]) (λK3 hK3=>?_) ?_
  .refine jcI hK3 λK4 hK4=>?_
   refine jlp (λn vs R' D'=>R' = R/\∃r1 q1,D' = (b,C BR (BV { S.col with r:=r1,p:=q1 } (.slice a S.col.AR.length cap))) :: (Ag p S g ++ F)/\vs = [Pt p,Pt b]/\S.renewTo n r1 q1 = some (r,q))
    ⟨rfl,S.col.r,S.col.p,rfl,rfl,hro⟩ ?_
   rintro n e R1 D1 K5 ⟨hR1,r1,q1,hD,he,hw⟩ hK5;subst hR1;refine z_W ?_;cases n with
   | zero=>cases hw
   | succ n=>
    unfold Sim.renewTo at hw;refine Ab (λvs R' D'=>R' = R1/\D' = (b,C BR (BV { S.col with r:=r1,p:=q1 } (.slice a S.col.AR.length cap))) :: (Ag p S g ++ F)/\∃v:Bool,vs = [Pt p,Pt b,.bool v]/\((v = true/\S.renewTo n (r1 + 1) ((r1 + 1) * 16) = some (r,q)/\r1 < S.AA.length/\0<=r1)\/(v = false/\r1 = r/\q1 = q))) (λK6 hK6=>?_) ?_;rotate_left
    .rintro e R2 D2 ⟨hR2,hD,v,he,hv⟩;subst hR2;refine z_W ?_;rcases hv with ⟨rfl,hw2,hlt,hge⟩ | ⟨rfl,rfl,rfl⟩
     .refine DM (jl (v:=I r1) rfl (jad (jS (BV { S.col with r:=r1 + 1,p:=q1 } (.slice a S.col.AR.length cap)) (jl (v:=I (r1 + 1)) rfl (HL ⟨Z,Z⟩ (js rfl rfl (by simp[BV]) rfl (hK5 n _ _ _ Z ⟨rfl,r1 + 1,(r1 + 1) * 16,rfl,rfl,hw2⟩)))))))
     .exact CW (hK4 _ _ _ ⟨rfl,rfl,rfl⟩)
    by_cases hc:r1 < S.AA.length
    .rw[if_pos hc] at hw;obtain⟨row,hrow,hw⟩:=AF hw;obtain⟨vv,hvv,hw⟩:=AF hw;obtain⟨r0,r1',r2,r3⟩:=Av hrow;refine Ce (jl rfl (jl rfl (jln (jlt ?_))));rw[decide_eq_true hc];refine jtt (jl rfl (jl rfl (jia r0 r1' (jl (OB (R:=R1) hrow rfl) (jeq ?_)))));by_cases hk:row.kind = 4
     .rw[if_pos hk] at hvv;cases hvv;rw[show (row.kind == 4) = true from by simp[hk]];refine jtf (C5 λe he=>?_);refine z_V ?_;refine jtf (Ce (jtf (C5 λe he=>?_)));refine z_V ?_;refine Ce (jtt (Ec (C5 λe he=>?_)));refine z_V ?_;refine Ec (Ak (jtf jev) (Ak (jtf jev) (Ak (jtf jev) (Ak (jtf jev) (hK6 _ _ _ ⟨rfl,rfl,true,rfl,.inl ⟨rfl,hw,hc,r0⟩⟩)))))
     .rw[if_neg hk] at hvv;obtain⟨bl,hbl,hvv⟩:=AF hvv;obtain⟨rfl,hin⟩:=B9 hbl;cases hvv;rw[show (row.kind == 4) = false from by simp[hk]];refine jff (jl rfl (jl rfl (jl rfl (jl rfl (jia r0 r1' (jl (OB (R:=R1) hrow rfl) (C5 λe he=>?_)))))));refine z_V ?_;refine jff (jp (BW r1) (Ce (jff (Cz hin (jge (C5 λe he=>?_))))));refine z_V ?_;refine Ce (jtt (Et (C5 λe he=>?_)));refine z_V ?_;refine Ec (Ak (jff (jl rfl jev)) (Ak (jff (jl rfl jev)) (Ak (jff (jl rfl jev)) (Ak (jff (jl (OB (R:=R1) hrow rfl) jev)) (hK6 _ _ _ ⟨rfl,rfl,decide (q1>=AK r1 + row.AJ),rfl,?_⟩)))));by_cases hd:AK r1 + row.AJ<=q1
      .rw[decide_eq_true hd,if_pos rfl] at hw;exact .inl ⟨decide_eq_true hd,hw,hc,r0⟩
      .rw[decide_eq_false hd,if_neg δ] at hw;cases hw;exact .inr ⟨decide_eq_false hd,rfl,rfl⟩
    .rw[if_neg hc] at hw;simp only[cX,Prod.mk.injEq] at hw;refine Ce (jl rfl (jl rfl (jln (jlt ?_))));rw[decide_eq_false hc];refine jft (C5 λe he=>?_);refine z_V ?_;refine jgu (Ce (jgu (C5 λe he=>?_)));refine z_V ?_;refine Ce (jft (C5 λe he=>?_));refine z_V ?_;refine Et (Ak (jgu jev) (Ak (jgu jev) (Ak (jgu jev) (Ak (jgu jev) (hK6 _ _ _ ⟨rfl,rfl,false,rfl,.inr ⟨rfl,hw.1,hw.2⟩⟩)))))
  .rintro e R2 D2 ⟨hR2,hD,he⟩;subst hR2;refine z_W ?_;refine jl rfl (jl rfl (jln (jeq (jif (λhc=>?_) (λhc=>?_)))))
   .rw[if_pos (by have:=eq_of_beq hc;exact this)] at hS;refine jss { S with stop:=true } g rfl rfl δ τ τ (js rfl rfl (by simp[BV]) rfl (back _ { S with stop:=true } g { S.col with r:=r,p:=q,want:=0 } (RM.le.refl _) (da hS).symm { hok with } rfl))
   .rw[if_neg (by have:=ne_of_beq_false hc;exact this)] at hS;obtain⟨q1,hq1,hS⟩:=AF hS;obtain⟨rfl,in1⟩:=B9 hq1;obtain⟨⟨w,S1⟩,hrd,hS⟩:=AF hS;have e1:=Cy hrd;subst e1;dsimp only at hS;obtain⟨q2,hq2,hS⟩:=AF hS;obtain⟨rfl,in2⟩:=B9 hq2;obtain⟨row,hrow,hS⟩:=AF hS;obtain⟨go,hgo,hS⟩:=AF hS;obtain⟨r0,r1',r2,r3⟩:=Av hrow;refine jl rfl (jS (BV { S.col with r:=r,p:=q,f:=q } (.slice a S.col.AR.length cap)) (jl rfl (Cz in1 (jcS (DH hok hrd) λ_ R1 g1 hR1 hr ok1=>?_))));subst hr;refine jp (FE w) (jex rfl (jex rfl (ja λb3=>(js rfl rfl (by exact z_n 2) rfl (jla (by exact z_n 2) τ (jS (BV { S.col with r:=r,p:=q,f:=q,sh:=(AS w).1 } (.slice a S.col.AR.length cap)) (jl rfl (jfo (jla (by simp[BV]) τ (jp (CN (AS w).1) (Cz in2 (Ak (jl rfl jev) (jS (BV { S.col with r:=r,p:=q + AG (AS w).1,f:=q,sh:=(AS w).1 } (.slice a S.col.AR.length cap)) (jS (BV { S.col with r:=r,p:=q + AG (AS w).1,f:=q,sh:=(AS w).1,i:=0 } (.slice a S.col.AR.length cap)) (Ab (λvs R' D'=>R' = R1/\D' = Ag p { S with used:=true } g1 ++ (b,C BR (BV { S.col with r:=r,p:=q + AG (AS w).1,f:=q,sh:=(AS w).1,i:=0 } (.slice a S.col.AR.length cap))) :: F/\∃c u,vs = [Pt p,Pt b,c,u]/\GM c u go) (λK7 hK7=>?_) ?_)))))))))))))))
    .refine Al (Ag p { S with used:=true } g1) (G:=(b,C BR (BV { S.col with r:=r,p:=q + AG (AS w).1,f:=q,sh:=(AS w).1,i:=0 } (.slice a S.col.AR.length cap))) :: F) (jl rfl (jgr ?_));by_cases hrf:0 < (AS w).1.refs
     .rw[if_pos hrf] at hgo;rw[decide_eq_true (show (AS w).1.refs > 0 from hrf)];refine jtt (jl rfl (jl rfl (jl rfl (jia r0 r1' (jl (OB (R:=R1) hrow rfl) (jge ?_))))));by_cases ht:row.BA<=q
      .rw[if_pos ht] at hgo;cases hgo;rw[decide_eq_true (show q>=row.BA from ht)];exact jtf (Ec (hK7 _ _ _ ⟨rfl,rfl,_,_,rfl,Bx⟩))
      .rw[if_neg ht] at hgo;rw[decide_eq_false (show ¬ q>=row.BA from ht)];obtain⟨m0,m1,m2,m3⟩:=Av hgo;refine jff (jl rfl (jl rfl (jia m0 m1 (jl (by rw[cg,dx];show (S.AM.map Value.bool ++ g1.msp)[q.toNat]? = _;rw[Jc m2,m3]) (Et (hK7 _ _ _ ⟨rfl,rfl,_,_,rfl,Bx⟩))))))
     .rw[if_neg hrf] at hgo;cases hgo;rw[decide_eq_false (show ¬ (AS w).1.refs > 0 from hrf)];exact jft (hK7 _ _ _ ⟨rfl,rfl,_,_,rfl,CB⟩)
    .rintro e R3 D3 ⟨hR3,hD,c,u,he,ha⟩;subst hR3;refine z_W ?_;rw[ha];refine jif (λhg=>?_) (λhg=>?_)
     .rw[if_pos hg] at hS;refine js rfl rfl (by simp[BV]) rfl (back _ { S with used:=true } g1 { S.col with r:=r,p:=q + AG (AS w).1,f:=q,sh:=(AS w).1,i:=0,pc:=7 } hR1 (da hS).symm ok1 rfl)
     .rw[if_neg (by rw[hg];decide)] at hS;exact back _ { S with used:=true } g1 { S.col with r:=r,p:=q + AG (AS w).1,f:=q,sh:=(AS w).1,i:=0 } hR1 (da hS).symm ok1 rfl
 rw[if_neg (ne_of_beq_false c6)] at hS;refine jeq (jif (λc7=>?_) (λc7=>?_))
 .rw[if_pos (eq_of_beq c7)] at hS;obtain⟨q1,hq1,hS⟩:=AF hS;obtain⟨rfl,in1⟩:=B9 hq1;obtain⟨q2,hq2,hS⟩:=AF hS;obtain⟨rfl,in2⟩:=B9 hq2;obtain⟨⟨w,S1⟩,hrd,hS⟩:=AF hS;have e1:=Cy hrd;subst e1;dsimp only at hS;obtain⟨fr,hfr,hS⟩:=AF hS;refine jl rfl (Cz in1 (jl rfl (Cz in2 (jcS (DH hok hrd) λ_ R1 g1 hR1 hr ok1=>?_))));subst hr;refine jS (BV { S.col with v:=w } (.slice a S.col.AR.length cap)) (jl rfl (jcS (LW ok1 hfr) λ_ R2 g2 hR2 hr ok2=>?_));subst hr;refine jif (λhf=>?_) (λhf=>?_)
  .rw[if_pos hf] at hS;refine js rfl rfl (by simp[BV]) rfl (back _ { S with used:=true } g2 { S.col with v:=w,pc:=8 } (hR1.trans hR2) (da hS).symm ok2 rfl)
  .rw[if_neg (by rw[hf];decide)] at hS;obtain⟨x2,hx,hS⟩:=AF hS;have ex:x2.AR = S.col.AR:=by
    obtain⟨i1,_,h⟩:=AF hx;cases h;rfl
   refine jla (by exact z_n 15) τ (jp (L9 a S.col.AR.length cap hx) (js rfl rfl (by exact z_n 15) rfl (back _ { S with used:=true } g2 x2 (hR1.trans hR2) (da hS).symm ok2 ex)))
 rw[if_neg (ne_of_beq_false c7)] at hS;refine jeq (jif (λc8=>?_) (λc8=>?_))
 .rw[if_pos (eq_of_beq c8)] at hS;obtain⟨⟨w,S1⟩,hrd,hS⟩:=AF hS;have e1:=Cy hrd;subst e1;dsimp only at hS;refine jl rfl (jcS (DH hok hrd) λ_ R1 g1 hR1 hr ok1=>?_);subst hr;refine jS (BV { S.col with word:=w } (.slice a S.col.AR.length cap)) (js rfl rfl (by simp[BV]) rfl (jl rfl (jl rfl (jeq (jif (λhf=>?_) (λhf=>?_))))))
  .rw[if_pos (eq_of_beq hf)] at hS;obtain⟨x2,hx,hS⟩:=AF hS;have ex:x2.AR = S.col.AR:=by
    obtain⟨i1,_,h⟩:=AF hx;cases h;rfl
   refine jla (by exact z_n 15) τ (jp (L9 a S.col.AR.length cap hx) (js rfl rfl (by exact z_n 15) rfl (back _ { S with used:=true } g1 x2 hR1 (da hS).symm ok1 ex)))
  .rw[if_neg (ne_of_beq_false hf)] at hS;exact back _ { S with used:=true } g1 { S.col with word:=w,pc:=9 } hR1 (da hS).symm ok1 rfl
 rw[if_neg (ne_of_beq_false c8)] at hS;refine jeq (jif (λc9=>?_) (λc9=>?_));rotate_left
 .rw[if_neg (ne_of_beq_false c9)] at hS;exact Az d9.symm (back _ S g S.col (RM.le.refl _) (da hS).symm hok rfl)
 rw[if_pos (eq_of_beq c9)] at hS;obtain⟨q1,hq1,hS⟩:=AF hS;obtain⟨rfl,in1⟩:=B9 hq1;obtain⟨q2,hq2,hS⟩:=AF hS;obtain⟨rfl,in2⟩:=B9 hq2;obtain⟨⟨w,S1⟩,hrd,hS⟩:=AF hS;have e1:=Cy hrd;subst e1;dsimp only at hS;obtain⟨S3,h3,hS⟩:=AF hS;obtain⟨x2,hx,hS⟩:=AF hS;have ex:x2.AR = S.col.AR:=by
  obtain⟨i1,_,h⟩:=AF hx;cases h;rfl
 refine Ab (λvs R' D'=>R.le R'/\∃g2,Ok R' S3 g2/\D' = Ag p S3 g2 ++ (b,C BR (BV S.col (.slice a S.col.AR.length cap))) :: F/\vs = [Pt p,Pt b]) (λK3 hK3=>?_) ?_;rotate_left
 .rintro e R2 D2 ⟨hR,g2,ok2,hD,he⟩;refine z_W ?_;refine jla (by exact z_n 15) τ (jp (L9 a S.col.AR.length cap hx) (js rfl rfl (by exact z_n 15) rfl (back _ S3 g2 x2 hR (da hS).symm ok2 ex)))
 refine jl rfl (Cz in1 (jl rfl (Cz in2 (jl rfl (jcS (DH hok hrd) λ_ R1 g1 hR1 hr ok1=>?_)))));subst hr;refine jeq (Ak (jl rfl jev) (jif (λhw=>?_) (λhw=>?_)))
 .rw[if_pos (eq_of_beq hw)] at h3;refine jl rfl (Cz in1 (jl rfl (Cz in2 (jl rfl (jcS (Dl ok1 h3) λ_ R2 g2 hR2 hr ok2=>(hK3 _ _ _ ⟨hR1.trans hR2,g2,ok2,rfl,rfl⟩))))))
 .rw[if_neg (ne_of_beq_false hw)] at h3;cases h3;exact hK3 _ _ _ ⟨hR1,g1,ok1,rfl,rfl⟩
end Go.Lf
end
