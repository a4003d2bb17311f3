/- A part of the proof of the given row. Conditions: none. -/
import Derived.Test.YthfhnheigfoioaaGreatGF
set_option linter.unusedVariables false
set_option linter.unusedSimpArgs false
set_option maxRecDepth 100000
section
namespace Go.Lf
open Go Sm
theorem Xe {R:RM} {D:Chs} {v:Value} {l:List Int} {i:Int} {k:Value->M} (h:Ay R v l) (h0:0<=i) (K:i < l.length) (H:∀q:Value,(∀(j : Chs) (x : Value->M),J R j (x (I (l[i.toNat]'(Z))))->J R j (L1 q x))->J R D (k q)):J R D (IA 1 v (I i) k):=by
 rcases h with ⟨_,y,_⟩ | ⟨b,o,G,t,O,rfl,y,Q,N,T⟩
 .omega
 .refine jia h0 K (H _ λj x A=>jlr y ?_ A);have:=congrArg (λl=>l[i.toNat]?) N;simp only[fM,ec,eH] at this;rw[if_pos Z,dH (by omega:i.toNat < l.length)] at this;rw[fN,this];rfl
theorem SJ {S S' : Sim} (h:S.look = some S'):S'.c = S.c/\S'.AJ = S.AJ:=by
 unfold Sim.look at h;split at h
 .cases h
 obtain⟨_,_,h⟩:=AG h;obtain⟨_,_,h⟩:=AG h;obtain⟨⟨v,x⟩,j,h⟩:=AG h;have e:=Cz j;subst e;obtain⟨_,_,h⟩:=AG h;simp only[dW] at h;subst h;exact⟨rfl,rfl⟩
theorem T6 {S S' : Sim} (h:S.mark = some S'):S'.c = S.c/\S'.AJ = S.AJ:=by
 unfold Sim.mark at h;split at h
 .cases h
 dsimp only at h;split at h
 .split at h
  .simp only[dW] at h;subst h;exact⟨rfl,rfl⟩
  .simp only[dW] at h;subst h;exact⟨rfl,rfl⟩
 obtain⟨a,_,h⟩:=AG h;obtain⟨row,_,h⟩:=AG h;obtain⟨b,_,h⟩:=AG h;split at h
 .obtain⟨_,_,h⟩:=AG h;obtain⟨⟨v,x⟩,j,h⟩:=AG h;have e:=Cz j;subst e;obtain⟨_,_,h⟩:=AG h;simp only[dW] at h;subst h;exact⟨rfl,rfl⟩
 .simp only[dW] at h;subst h;exact⟨rfl,rfl⟩
def Pr (S:Sim):Prop:=inR S.c.AU/\∀a∈S.AJ,AN a<=9223372036854775807
theorem Po {t:List Rg} {AU:Int} {held:List Int} {i:Nat} (h:i < (Ai t AU held).2.length) :
  ∃H,CF (((Ai t AU held).2.take i).foldl (λt r=>(CF t r).getD []) t) ((Ai t AU held).2[i]) = some H/\H.length = t.length/\(((Ai t AU held).2.take i).foldl (λt r=>(CF t r).getD []) t).length = t.length:=by
 cases x:BT t with
 | false=>
  have:Ai t AU held = ([],[]):=by unfold Ai;rw[x];rfl
  rw[this] at h;exact absurd h V
 | true=>
  have T:=Bj.1 x;obtain⟨c1,c2,_⟩:=choose_spec T;generalize (Ai t AU held).2 = q at c1 c2 h ⊢;obtain⟨O,D,Q⟩:=O6 (q.take i) t T (c1.sublist (List.take_sublist _ _)) λr hr=>by
   obtain⟨y,A,K,_⟩:=c2 r (eJ hr);exact⟨y,A,Z⟩
  obtain⟨y,A,K,_⟩:=c2 q[i] (dL h);have G:q[i] ∉ q.take i:=by
   intro W;obtain⟨j,R,e⟩:=dm W;rw[dU] at R;rw[fy] at e;have:=(List.getElem_inj c1).1 e;omega
  have e:=Q q[i] y A;rw[if_neg G] at e;obtain⟨N,d2⟩:=Hi O y (by rw[D];exact A) (by rw[e];omega);exact⟨_,N,by rw[DQ,D],D⟩
theorem WI {p n:Nat} {S S' : Sim} {g:Img} {R:RM} (c5:Ok R S g) (hp:Pr S) (hS:S.choose n = some S') :
  Fn P J6 [Pt p] R (Ag p S g) (DJ p S' λ_=>True):=by
 refine OV λF=>?_
 refine z_1 ?_;unfold Sim.choose at hS;obtain⟨S0,c0,hS⟩:=AG hS;refine Ac (λvs H Q=>R.le H/\∃g0,Ok H S0 g0/\S0.sz = true/\Pr S0/\Q = Ag p S0 g0 ++ F/\vs = [Pt p]) (λK hK=>?_) ?_
 .refine jcI hK λK2 a0=>?_
  refine jlp (λm vs H Q=>R.le H/\∃S1 D,Ok H S1 D/\Pr S1/\Sim.drain m S1 = some S0/\Q = Ag p S1 D ++ F/\vs = [Pt p])
   ⟨RM.le.refl R,S,g,c5,hp,c0,rfl,rfl⟩ ?_
  rintro m e R1 D1 K3 ⟨a2,S1,D,j,b8,y,hD,he⟩ a1;refine z_W ?_;clear hD;cases m with
  | zero=>exact absurd y (by simp[Sim.drain])
  | succ m=>
  unfold Sim.drain at y;split at y
  .cases y
  rename_i hz;have hz:S1.sz = true:=by simpa using hz
  refine jor [Pt p] ((decide ((S1.col.AR.length:Int) > 0)) || (decide ((S1.old.length:Int) > 0))) (λK' b6=>?_) (λe c u ho he=>?_)
  .refine jl rfl (KB j.AR (jgr (jgO b6 λh1 hN=>jl rfl (KB j.old (jgr hN)))))
  refine z_V ?_;refine jor [Pt p] ((decide ((S1.col.AR.length:Int) > 0) || decide ((S1.old.length:Int) > 0)) || (S1.col.pc == 2)) (λK' b6=>?_) (λe c u ho he=>?_)
  .rw[ho];refine jgO b6 λh1 hN=>jl rfl (jeq hN)
  refine z_V ?_;rw[ho];refine jif (λhc=>?_) (λhc=>?_)
  .simp only[du,z_d,beq_iff_eq] at hc;rw[if_pos Z] at y;have e6:∃S2,(if S1.col.pc = 2 then S1.look else S1.mark) = some S2/\Sim.drain m S2 = some S0:=by
    dsimp only at y;by_cases c2:S1.col.pc = 2
    .rw[if_pos c2] at y ⊢;exact AG y
    .rw[if_neg c2] at y ⊢;exact AG y
   obtain⟨S2,h2,y⟩:=e6;refine Ac (λvs H Q=>R.le H/\∃g2,Ok H S2 g2/\Pr S2/\Q = Ag p S2 g2 ++ F/\vs = [Pt p]) (λK4 b9=>?_) ?_;rotate_left
   .rintro e R2 D2 ⟨N,g2,W,e7,hD,he⟩;refine z_W ?_;clear hD;exact a1 m _ _ _ Z ⟨N,S2,g2,W,e7,y,rfl,rfl⟩
   refine jl rfl (jeq (jif (λh3=>?_) (λh3=>?_)))
   .rw[if_pos (eq_of_beq h3)] at h2;obtain⟨k1,k2⟩:=SJ h2;refine jcS (Wu j h2) λ_ R2 g2 N _ W=>(b9 _ _ _ ⟨a2.trans N,g2,W,by unfold Pr;rw[k1,k2];exact b8,rfl,rfl⟩)
   .rw[if_neg (ne_of_beq_false h3)] at h2;obtain⟨k1,k2⟩:=T6 h2;refine jcS (XZ j h2) λ_ R2 g2 N _ W=>(b9 _ _ _ ⟨a2.trans N,g2,W,by unfold Pr;rw[k1,k2];exact b8,rfl,rfl⟩)
  .simp only[db,decide_eq_false_iff_not,beq_eq_false_iff_ne] at hc;rw[if_neg Z] at y;simp only[dW] at y;subst y;exact a0 _ _ _ ⟨a2,D,j,hz,b8,rfl,rfl⟩
 rintro e R1 D1 ⟨a2,g0,a5,hz,c6,hD,he⟩;refine z_W ?_;clear hD;clear hp c0 c5;have c7:=Gv hz;have f5:=a5.tl;refine jss { S0 with stop:=false } g0 rfl rfl δ τ τ ?_;dsimp only at hS;obtain⟨t4,a9,hS⟩:=AG hS;refine Ac (λvs H Q=>H = R1/\∃v A,SO (S0.AJ.map AN) v A/\Q = A ++ (Ag p { S0 with stop:=false } g0 ++ F)/\vs = [Pt p,v]) (λK hK=>?_) ?_
 .refine jcI hK λK2 a0=>?_
  refine jlp (λm vs H Q=>H = R1/\∃(i:Nat) (v:Value) (A:Chs),i<=S0.AJ.length/\SO ((S0.AJ.take i).map AN) v A/\Q = A ++ (Ag p { S0 with stop:=false } g0 ++ F)/\vs = [Pt p,v,I i]/\m = S0.AJ.length - i)
   (n:=S0.AJ.length) ⟨rfl,0,SN,[],Z,.inl ⟨V,rfl,rfl⟩,rfl,rfl,Z⟩ ?_
  rintro m e R2 D2 K3 ⟨hR,i,v,A,hi,so,hD,he,hm⟩ a1;subst hR;refine z_W ?_;clear hD;refine jl rfl (KB a5.AJ (jlt (jif (λhc=>?_) (λhc=>?_))));rotate_left
  .have hc:=z_g hc;rw[dO Z] at so;exact a0 _ _ _ ⟨rfl,v,A,so,rfl,rfl⟩
  have hc:i < S0.AJ.length:=by have:=z_f hc;omega
  refine jl rfl (Bk a5.AJ Z Z ?_);have e0:S0.AJ[((i:Nat):Int).toNat]'(Z) = S0.AJ[i]:=V
  rw[e0];refine jp (Cf _ (c6.2 _ (dL hc))) (jbs rfl rfl λb1=>(B8 dw.symm ?_));have hx:BY R2 (A ++ ((b1,C 3 [I (AN S0.AJ[i])]) :: (Ag p { S0 with stop:=false } g0 ++ F))) (some ⟨b1,0,none⟩) (1 * 1) ([AN S0.AJ[i]].map I):=BY.held (cs:=[I (AN S0.AJ[i])]) (z_n 1);obtain⟨sa,sn,sc,rfl⟩:=so.sl;have e8:=c7.2.2.2.1;refine jas so rfl (by rw[dN,dU,di];omega) hx λv' A' f1=>(jad (Al A' (G:=Ag p { S0 with stop:=false } g0 ++ F) (a1 (S0.AJ.length - (i + 1)) _ _ _ Z ⟨rfl,i + 1,v',A',Z,by rw[dJ hc,dz];exact f1,rfl,rfl,rfl⟩)))
 rintro e R2 D2 ⟨hR,v,A,so,hD,he⟩;subst hR;refine z_W ?_;clear hD;refine Dv so λR2 N b5=>?_
 have b0:=a2.trans N;have j:Ok R2 { S0 with stop:=false } g0:={ a5.le N with };refine jl (v:=.slice (some ⟨g0.tb,0,none⟩) S0.AA.length g0.tc) rfl (jl rfl ?_);have e8:=c7.2.2.2.1;refine jmk (Nj S0.c.AU c6.1 Z b5 (by rw[dN];omega)) ?_;rintro _ _ ⟨v1,v2,A1,A2,e1,e3,rfl,rfl⟩;refine jex rfl (jex rfl ?_);rw[dS];refine Dv e1 λR3 b7 T=>(Dv e3 λR4 a6 a3=>?_)
 have T:=T.le a6;have W:=(j.le b7).le a6;have b3:=(b0.trans b7).trans a6;clear j a5 b5 so e1 e3 b7 a6 N b0 a2;have cd:∀i (h:i < (Ai S0.AA S0.c.AU (S0.AJ.map AN)).2.length),_:=λi h=>Po h
 generalize hq:Ai S0.AA S0.c.AU (S0.AJ.map AN) = q at a9 hS T a3 cd ⊢;obtain⟨q1,q2⟩:=q;dsimp only at a9 hS T a3 cd ⊢;generalize c8:q2.foldl (λt r=>(CF t r).getD []) S0.AA = tf at a9;have f4:q2.length < 1000000:=by
  have:=Ia (S0.AJ.map AN) S0.AA.tail 1;have e2:q2 = (Ai S0.AA S0.c.AU (S0.AJ.map AN)).2:=by rw[hq]
  rw[fh] at this;rw[e2];unfold Ai;split
  .dsimp only;omega
  .simp
 have f3:q1.length < 1000000:=by
  have:=Fg S0.AA (S0.AJ.map AN) 16 1 S0.c.AU;have e2:q1 = (Ai S0.AA S0.c.AU (S0.AJ.map AN)).1:=by rw[hq]
  rw[e2];unfold Ai;split
  .dsimp only;omega
  .simp
 refine Ac (λvs H Q=>H = R4/\∃D,Ok R4 { S0 with stop:=false,AA:=tf } D/\Q = Ag p { S0 with stop:=false,AA:=tf } D ++ F/\vs = [Pt p,v1]) (λK hK=>?_) ?_
 .refine jcI hK λK2 a0=>?_
  refine jlp (λm vs H Q=>H = R4/\∃(i:Nat) (t1:List Rg) (D:Img),i<=q2.length/\t1 = (q2.take i).foldl (λt r=>(CF t r).getD []) S0.AA/\Ok R4 { S0 with stop:=false,AA:=t1 } D/\Q = Ag p { S0 with stop:=false,AA:=t1 } D ++ F/\vs = [Pt p,v1,v2,I i]/\m = q2.length - i)
   (n:=q2.length) ⟨rfl,0,S0.AA,g0,Z,rfl,W,rfl,rfl,Z⟩ ?_
  rintro m e R5 D5 K3 ⟨hR,i,t1,D,hi,a8,j,hD,he,hm⟩ a1;subst hR;refine z_W ?_;clear hD;refine KB a3 (jlt (jif (λhc=>?_) (λhc=>?_)));rotate_left
  .have hc:=z_g hc;rw[dO Z,c8] at a8;subst a8;exact a0 _ _ _ ⟨rfl,D,j,rfl,rfl⟩
  have hc:i < q2.length:=by have:=z_f hc;omega
  obtain⟨t',d1,d2,d3⟩:=cd i hc;rw[<- a8] at d1 d3;refine jl rfl (Bk a3 Z Z ?_);have e0:q2[((i:Nat):Int).toNat]'(Z) = q2[i]:=V
  rw[e0];refine jmk (Ki (t:=t1) _ Z) ?_;rw[d1];rintro _ _ ⟨sv,⟨b4,c4,f2,e5,rfl,rfl⟩,rfl⟩;refine jex rfl (jex rfl (Rr (jad (a1 (q2.length - (i + 1)) _ _ _ Z ⟨rfl,i + 1,t',{ D with tb:=b4,tc:=c4,tsp:=f2 },Z,?_,j.tab Z _ _ _ e5,rfl,rfl,rfl⟩))));rw[dJ hc,gY,<- a8];simp only[gJ,List.foldl_nil,d1,eI]
 rintro e R5 D5 ⟨hR,D,j,hD,he⟩;subst hR;refine z_W ?_;clear hD;clear cd a3 c8 W;refine Ac (λvs H Q=>H = R5/\∃D,Ok R5 { S0 with stop:=false,AA:=t4 } D/\Q = Ag p { S0 with stop:=false,AA:=t4 } D ++ F/\vs = [Pt p,v1]) (λK hK=>?_) ?_
 .refine jcI hK λK2 a0=>?_
  refine jlp (λm vs H Q=>H = R5/\∃(i:Nat) (t1:List Rg),i<=q1.length/\NI (q1.drop i) t1 = some t4/\Ok R5 { S0 with stop:=false,AA:=t1 } D/\Q = Ag p { S0 with stop:=false,AA:=t1 } D ++ F/\vs = [Pt p,v1,I i]/\m = q1.length - i)
   (n:=q1.length) ⟨rfl,0,tf,Z,a9,j,rfl,rfl,Z⟩ ?_
  rintro m e R6 D6 K3 ⟨hR,i,t1,hi,O,j,hD,he,hm⟩ a1;subst hR;refine z_W ?_;clear hD;refine KB T (jlt (jif (λhc=>?_) (λhc=>?_)));rotate_left
  .have hc:=z_g hc;rw[dT Z] at O;simp only[NI,dW] at O;subst O;exact a0 _ _ _ ⟨rfl,D,j,rfl,rfl⟩
  have hc:i < q1.length:=by have:=z_f hc;omega
  rw[dQ hc] at O;unfold NI at O;obtain⟨x,hx,O⟩:=AG O;obtain⟨x0,x1,x2,x3⟩:=Av hx;have e0:q1[((i:Nat):Int).toNat]'(Z) = q1[i]:=V
  have c9:=j.tl;refine jl rfl (Xe T Z Z λqq a7=>a7 _ _ ?_);rw[e0] at a7 ⊢;obtain⟨k,hk⟩:∃k:Nat,q1[i] = k:=⟨q1[i].toNat,Z⟩;rw[hk] at a7 O ⊢;have a4:k < t1.length:=Z
  have e9:t1[k] = x:=by rw[<- x3];simp only[hk,dG]
  refine C0 a4 (So (p:=p) a4 (ja λb2=>(Ak (jl rfl jev) (Ak (a7 _ _ jev) (Ak (So (p:=p) a4 jev) ?_)))));have d4 : ({ S0 with stop:=false,AA:=t1 }:Sim).AA[k] = x:=e9;rw[d4];refine js (cs':=eRg x) rfl rfl V rfl (js (cs':=eRg { x with kind:=4 }) rfl rfl V rfl (jl rfl (Bk T Z Z ?_)));rw[e0,hk];refine jla V rfl (C0 a4 (VC (p:=p) { S0 with stop:=false,AA:=t1.set k { x with kind:=4 } } a4 τ (jad (Al (Ag p { S0 with stop:=false,AA:=t1.set k { x with kind:=4 } } D) (G:=F) (a1 (q1.length - (i + 1)) _ _ _ Z ⟨rfl,i + 1,t1.set k { x with kind:=4 },Z,?_,{ j with tl:=by simpa using c9,tk:=by simpa using j.tk },rfl,rfl,rfl⟩)))));rw[<- O];simp[AT]
 rintro e R6 D6 ⟨hR,D,j,hD,he⟩;subst hR;refine z_W ?_;clear hD;refine KB T (jeq (jif (λhc=>?_) (λhc=>?_)))
 .rw[if_pos (by have:=eq_of_beq hc;omega)] at hS;refine jcS (WS j hS) λ_ R7 g7 e4 _ f0=>(B7 (b3.trans e4) trivial rfl f0)
 .rw[if_neg (by have:=ne_of_beq_false hc;omega)] at hS;simp only[dW] at hS;refine jss { S0 with stop:=false,AA:=t4,Ae:=2 } D rfl rfl δ τ τ (jl rfl (jl rfl (jbd rfl rfl (jss { S0 with stop:=false,AA:=t4,Ae:=2,col:={ Dd S0.col.Ap S0.col.want with pc:=5,r:=1,p:=16 } } { D with AR:=SN } rfl rfl δ τ τ ?_))));subst hS;refine B7 b3 trivial rfl ?_;exact { j with AR:=.inl ⟨rfl,rfl,rfl⟩ }
theorem MY {S:Sim}:∀{l j : List Int},S.rootsF l = some j->j.length = l.length/\∀k (h:k < l.length) (A : k < j.length),∃f,S.from_ l[k] = some f/\(if f then idx S.AC l[k] else some l[k]) = some j[k]
 | [],j,e=>by
  simp only[Sim.rootsF,dW] at e;subst e;exact⟨rfl,λk h=>absurd h V⟩
 | a :: r,j,e=>by
  unfold Sim.rootsF at e;obtain⟨f,K,e⟩:=AG e;have D:∃b,(if f then idx S.AC a else some a) = some b/\∃x,S.rootsF r = some x/\b :: x = j:=by
   cases f with
   | true=>
    obtain⟨b,hb,e⟩:=AG e;obtain⟨x,y,e⟩:=AG e;simp only[dW] at e;exact⟨b,hb,x,y,e⟩
   | false=>
    obtain⟨b,hb,e⟩:=AG e;obtain⟨x,y,e⟩:=AG e;simp only[dW] at e;exact⟨b,hb,x,y,e⟩
  obtain⟨b,hb,x,y,rfl⟩:=D;obtain⟨G,H⟩:=MY y;refine⟨by simp[G],λk h A=>?_⟩;cases k with
  | zero=>exact⟨f,K,hb⟩
  | succ k=>exact H k (by simpa using h) (by simpa using A)
theorem RZ {S:Sim}:∀{l j : List Thr},S.thsF l = some j->j.length = l.length/\∀k (h:k < l.length) (x : k < j.length),∃r,S.rootsF l[k].AD = some r/\j[k] = { l[k] with AD:=r }
 | [],j,e=>by
  simp only[Sim.thsF,dW] at e;subst e;exact⟨rfl,λk h=>absurd h V⟩
 | a :: r,j,e=>by
  unfold Sim.thsF at e;obtain⟨r1,D,e⟩:=AG e;obtain⟨H,G,e⟩:=AG e;simp only[dW] at e;subst e;obtain⟨y,A⟩:=RZ G;refine⟨by simp[y],λk h x=>?_⟩;cases k with
  | zero=>exact⟨r1,D,rfl⟩
  | succ k=>exact A k (by simpa using h) (by simpa using x)
theorem jsi {R:RM} {b k:Nat} {l:List Int} {sp:List Value} {w:Int} {D D' : Chs} {m:M} (j:k < l.length) [a:At D b (C Ab (l.map I ++ sp))] [u:Up D b (C Ab (l.map I ++ sp)) (C Ab ((l.set k w).map I ++ sp)) D'] (H:J R D' m):J R D (ST 1 (.pointer (some ⟨b,0 + k * 1,none⟩)) (I w) m):=by
 rw[da,fN];refine js (cs':=(l.set k w).map I ++ sp) rfl rfl (by simp;omega) ?_ H;rw[show cl (I w) = [I w] from rfl,Ga (by simp;omega),List.set_append_left _ _ (by simpa using j),List.map_set]
theorem GM {α:Type} {l l' : List α} {k:Nat} (hl:l'.length = l.length) (x:k < l.length):(l'.take k ++ l.drop k).set k (l'[k]'(Z)) = l'.take (k + 1) ++ l.drop (k + 1):=by
 have j:(l'.take k).length = k:=by simp;omega
 rw[fH _ _ Z,j,Nat.sub_self,dQ x,List.set_cons_zero,dJ Z,dS,List.singleton_append]
theorem JR {α:Type} {l l' : List α} {k:Nat} (hl:l'.length = l.length) (x:k < l.length) (h:k < (l'.take k ++ l.drop k).length):(l'.take k ++ l.drop k)[k] = l[k]:=by
 have j:(l'.take k).length = k:=by simp;omega
 rw[fD Z,fT];congr 1;omega
theorem EB {α:Type} {l l' : List α} {k:Nat} (hl:l'.length = l.length):(l'.take k ++ l.drop k).length = l.length:=by simp;omega
theorem XI {p:Nat} {S S' : Sim} {g:Img} {R:RM} (b3:Ok R S g) (hz:S.sz = true) (hT:TOk S.AA) (hS:S.finish = some S') :
  Fn P JW [Pt p] R (Ag p S g) (DJ p S' λ_=>True):=by
 refine Pc λF=>?_
 refine z_1 ?_;unfold Sim.finish at hS;obtain⟨th,e9,hS⟩:=AG hS;obtain⟨a4,f3⟩:=RZ e9;have e8:=Gv hz;have f6:=b3.hl;have g6:=b3.tl;refine Ac (λvs x D'=>R.le x/\∃g1,Ok x { S with th:=th } g1/\D' = Ag p { S with th:=th } g1 ++ F/\vs = [Pt p]) (λK hK=>?_) ?_
 .refine jcI hK λK2 a9=>?_
  refine jlp (λm vs x D'=>R.le x/\∃(i:Nat) (g1:Img),i<=S.th.length/\Ok x { S with th:=th.take i ++ S.th.drop i } g1/\D' = Ag p { S with th:=th.take i ++ S.th.drop i } g1 ++ F/\vs = [Pt p,I i]/\m = S.th.length - i)
   ⟨RM.le.refl R,0,g,Z,by simpa using b3,V,rfl,Z⟩ ?_
  rintro m e R1 D1 K3 ⟨hR,i,g1,hi,W,hD,he,hm⟩ b0;refine z_W ?_;refine jl rfl (jln (jlt (jif (λhc=>?_) (λhc=>?_))));rotate_left
  .have hc:i = S.th.length:=by have:=z_g hc;rw[EB a4] at this;omega
   have e1:th.take i ++ S.th.drop i = th:=by rw[dO Z,dT Z,eD]
   rw[e1] at W ⊢;exact a9 _ _ _ ⟨hR,g1,W,rfl,rfl⟩
  have hc:i < S.th.length:=by have:=z_f hc;rw[EB a4] at this;omega
  obtain⟨r',e6,et⟩:=f3 i hc Z;obtain⟨a7,f2⟩:=MY e6;have b8:idx (th.take i ++ S.th.drop i) i = some (S.th[i]):=by
   unfold idx;rw[if_pos Z,dG,dH (by rw[EB a4];exact hc),JR a4 hc]
  have e7:=e8.2.2.2.2 _ (dL hc);generalize a6:({ S with th:=th.take i ++ S.th.drop i }:Sim) = H at W ⊢;have e1:H.th = th.take i ++ S.th.drop i:=by rw[<- a6]
  have e2:H.AC = S.AC:=by rw[<- a6]
  have e3:∀a,H.from_ a = S.from_ a:=λa=>by rw[<- a6];rfl
  rw[<- e1] at b8;refine HX W b8 rfl λb a f5 hv=>(jl rfl (jc (CY hv e7) ?_))
  rintro _ R2 _ a1 ⟨N,c4,D,b6,f4,rfl,rfl⟩;refine js rfl rfl (by simp[Aw]) rfl (B8 (D':=(N,C Ab ((S.th[i]).AD.map I ++ D)) :: (b,C Af (Aw (S.th[i]) (S0 N (S.th[i]).AD.length c4))) :: (Ag p H g1 ++ F)) (eK _) (Al (Ag p H g1) (G:=(N,C Ab ((S.th[i]).AD.map I ++ D)) :: (b,C Af (Aw (S.th[i]) (S0 N (S.th[i]).AD.length c4))) :: F) ?_));have a0:=W.le a1;have c8:=hR.trans a1;refine Ac (λvs x D'=>R.le x/\∃j,Ok x H j/\D' = Ag p H j ++ (N,C Ab (r'.map I ++ D)) :: (b,C Af (Aw (S.th[i]) (S0 N (S.th[i]).AD.length c4))) :: F/\vs = [Pt p,I i,Pt b]) (λK4 b1=>?_) ?_;rotate_left
  .rintro e R3 D3 ⟨O,j,a2,hD,he⟩;refine z_W ?_;refine B8 dw (B9 (b:=N) λR4 Q c9=>?_);have f0:=CO (c:=c4) c9 Z;have a3:=a2.le Q;have ev:Aw (S.th[i]) (S0 N (S.th[i]).AD.length c4) = Aw { S.th[i] with AD:=r' } (S0 N r'.length c4):=by rw[a7];rfl
   rw[ev];refine H5 { H with th:=AT H.th i { S.th[i] with AD:=r' } } a3 Z (by rw[e1,EB a4];omega) f0 τ λg5 b9=>(jad ?_)
   have e5:({ H with th:=AT H.th i { S.th[i] with AD:=r' } }:Sim) = { S with th:=th.take (i + 1) ++ S.th.drop (i + 1) }:=by
    rw[<- a6,<- et];have:=GM a4 hc;simp only[AT,dG,this]
   rw[e5] at b9 ⊢;refine Al (Ag p { S with th:=th.take (i + 1) ++ S.th.drop (i + 1) } g5) (G:=F) (b0 (S.th.length - (i + 1)) _ _ _ Z ⟨O.trans Q,i + 1,g5,Z,b9,rfl,rfl,rfl⟩)
  refine jcI b1 λK5 a5=>?_
  refine jlp (λm vs x D'=>R.le x/\∃(k:Nat) (j:Img) (l:List Int),k<=(S.th[i]).AD.length/\l = r'.take k ++ (S.th[i]).AD.drop k/\Ok x H j/\D' = Ag p H j ++ (N,C Ab (l.map I ++ D)) :: (b,C Af (Aw (S.th[i]) (S0 N (S.th[i]).AD.length c4))) :: F/\vs = [Pt p,I i,Pt b,I k]/\m = (S.th[i]).AD.length - k)
   ⟨c8,0,g1,(S.th[i]).AD,Z,V,a0,rfl,rfl,Z⟩ ?_
  rintro m e R3 D3 K6 ⟨O,k,j,l,hk,hl,a2,hD,he,hm⟩ c0;refine z_W ?_;have g4:l.length = (S.th[i]).AD.length:=by rw[hl,EB a7]
  refine jl rfl (jln (jlt (jif (λhd=>?_) (λhd=>?_))));rotate_left
  .have hd:k = (S.th[i]).AD.length:=by have:=z_g hd;omega
   have:l = r':=by rw[hl,dO Z,dT Z,eD]
   subst this;exact a5 _ _ _ ⟨O,j,a2,rfl,rfl⟩
  have hd:k < (S.th[i]).AD.length:=by have:=z_f hd;omega
  obtain⟨f,hf,hw⟩:=f2 k hd Z;obtain⟨y,hy⟩:∃y,r'[k]'(Z) = y:=⟨_,rfl⟩;rw[hy] at hw;have b7:l[k]'(Z) = (S.th[i]).AD[k]:=by subst hl;exact JR a7 hd Z
  refine Ac (λvs x D'=>R.le x/\∃j,Ok x H j/\D' = Ag p H j ++ (N,C Ab ((l.set k y).map I ++ D)) :: (b,C Af (Aw (S.th[i]) (S0 N (S.th[i]).AD.length c4))) :: F/\vs = [Pt p,I i,Pt b,I k]) (λK7 c5=>?_) ?_;rotate_left
  .rintro e R4 D4 ⟨Q,g3,a3,hD,he⟩;refine z_W ?_;refine jad (c0 ((S.th[i]).AD.length - (k + 1)) _ _ _ Z ⟨Q,k + 1,g3,l.set k y,Z,by rw[hl,<- hy];exact GM a7 hd,a3,rfl,rfl,rfl⟩)
  refine jcI c5 λK8 b5=>?_
  have gk:∀g' : Img,(l.map I ++ D)[0 + k * 1]? = some (I (S.th[i]).AD[k]):=λ_=>by
   rw[da,fN,GA Z,b7]
  refine jl rfl (C0 hd (jl (gk g) (jcS (M1 a2 ((e3 _).trans hf)) λ_ R4 g3 Q hr a3=>?_)));subst hr;refine jif (λb2=>?_) (λb2=>?_)
  .subst b2;rw[if_pos rfl] at hw;obtain⟨w0,w1,w2,w3⟩:=Av hw;refine jl rfl (jl rfl (jl rfl (C0 hd (jl (gk g) (jia w0 (by rw[e2];exact w1) (jl (v:=I y) ?_ ?_))))))
   .rw[da,fN,GA (by rw[e2];exact w2)];simp only[e2,w3]
   refine C0 hd (jsi Z (b5 _ _ _ ⟨O.trans Q,g3,a3,rfl,rfl⟩))
  .subst b2;simp only[dv,if_false,dW] at hw;refine b5 _ _ _ ⟨O.trans Q,g3,a3,?_,rfl⟩;have:l.set k y = l:=by rw[<- hw,<- b7];exact List.set_getElem_self _
   rw[this]
 rintro e R1 D1 ⟨c6,g1,W,hD,he⟩;refine z_W ?_;generalize d4:DH S.AA.length 1 S.AA = td at hS;refine Ac (λvs x D'=>x = R1/\∃j,Ok x { S with th:=th,AA:=td } j/\D' = Ag p { S with th:=th,AA:=td } j ++ F/\vs = [Pt p]) (λK hK=>?_) ?_;rotate_left
 .rintro e R2 D2 ⟨a1,j,a0,hD,he⟩;subst a1;refine z_W ?_;refine jcS (WS a0 hS) λ_ R7 g7 c7 _ f1=>(B7 (c6.trans c7) trivial rfl f1)
 refine jcI hK λK2 a9=>?_
 refine jlp (λm vs x D'=>x = R1/\∃(i:Nat) (t1:List Rg) (j:Img),1<=i/\i<=S.AA.length/\TOk t1/\t1.length = S.AA.length/\DH (S.AA.length + 1 - i) i t1 = td/\Ok x { S with th:=th,AA:=t1 } j/\D' = Ag p { S with th:=th,AA:=t1 } j ++ F/\vs = [Pt p,I i]/\m = S.AA.length + 1 - i)
  (n:=S.AA.length) ⟨rfl,1,S.AA,g1,Z,by have:=hT.n0;omega,hT,rfl,d4,W,rfl,rfl,Z⟩ ?_
 rintro m e R2 D2 K3 ⟨a1,i,t1,j,f7,f8,T,a8,A,a0,hD,he,hm⟩ b0;subst a1;refine z_W ?_;refine jl (v:=.slice (some ⟨j.tb,0,none⟩) t1.length j.tc) rfl (jln (jlt (jif (λhc=>?_) (λhc=>?_))));rotate_left
 .have hc:i = S.AA.length:=by have:=z_g hc;omega
  have:t1 = td:=by
   rw[<- A,show S.AA.length + 1 - i = 0 + 1 by omega];unfold DH;rw[eT Z]
  subst this;exact a9 _ _ _ ⟨rfl,j,a0,rfl,rfl⟩
 have hc:i < t1.length:=by have:=z_f hc;omega
 rw[show S.AA.length + 1 - i = (S.AA.length + 1 - (i + 1)) + 1 by omega] at A;unfold DH at A;rw[dH hc] at A;simp only at A;refine Ac (λvs x D'=>x = R2/\∃(t2:List Rg) (g3:Img),TOk t2/\t2.length = S.AA.length/\DH (S.AA.length + 1 - (i + 1)) (i + 1) t2 = td/\Ok x { S with th:=th,AA:=t2 } g3/\D' = Ag p { S with th:=th,AA:=t2 } g3 ++ F/\vs = [Pt p,I i]) (λK4 b1=>?_) ?_;rotate_left
 .rintro e R3 D3 ⟨O,t2,g3,T2,e4,d3,a2,hD,he⟩;subst O;refine z_W ?_;refine jad (b0 (S.AA.length + 1 - (i + 1)) _ _ _ Z ⟨rfl,i + 1,t2,g3,Z,Z,T2,e4,d3,a2,rfl,rfl,rfl⟩)
 refine jcI b1 λK5 a5=>?_
 refine jl rfl (C0 hc (jl (by rw[da];exact C6 hc rfl) (jeq (jif (λhk=>?_) (λhk=>?_)))))
 .rw[if_pos hk] at A;have g0:(rv t1 i).kind = 4:=by rw[Eh hc];exact eq_of_beq hk
  obtain⟨d1,d2⟩:=Hi (r:=i) T Z Z Z;rw[d1] at A;simp only[eI] at A;refine jl rfl (jmk (Ki (t:=t1) _ Z) ?_);rw[d1];rintro _ _ ⟨sv,⟨N,c4,D,b6,rfl,rfl⟩,rfl⟩;refine jex rfl (jex rfl (Rr (a5 _ _ _ ⟨rfl,AT t1 i (Dp i),{ j with tb:=N,tc:=c4,tsp:=D },d2,by rw[DQ,a8],A,a0.tab (by rw[DQ];omega) _ _ _ b6,rfl,rfl⟩)))
 .rw[if_neg (by rw[hk];decide)] at A;exact a5 _ _ _ ⟨rfl,t1,j,T,a8,A,a0,rfl,rfl⟩
theorem Ay.sl {R:RM} {v:Value} {l:List Int} (h:Ay R v l):∃a c,v = .slice a l.length c:=by
 obtain⟨a,j,x,-⟩:=Ay.reads (D:=[]) h;exact⟨a,j,x⟩
theorem Jn (a:Option Addr) (n c:Nat) (O:n < 1000000000000):Pu KN [.slice a n c] (.bool (BM n)):=by
 intro R;refine RJ λF=>?_
 refine z_1 ?_;have eq:(n:Int).tdiv 16 = (n / 16:Nat):=by rw[fL Z];omega
 have H:(n:Int).tmod 16 = (n % 16:Nat):=by rw[gG Z];omega
 refine jln (PX δ ⟨Z,Z⟩ ?_);rw[eq];refine jan [I ((n / 16:Nat):Int)] (((n:Int).tmod 16 == 0) && (decide (((n / 16:Nat):Int)>=2))) (λG j=>?_) (λe c u y he=>?_)
 .refine jln (QK δ (jeq (jgA j λD x=>jge x)))
 refine z_V ?_;refine jan [] ((((n:Int).tmod 16 == 0) && decide (((n / 16:Nat):Int)>=2)) && (decide (((n / 16:Nat):Int)<=12))) (λG j=>?_) (λe c u y he=>?_)
 .rw[y];refine jgA j λD x=>jle x
 refine z_V ?_;rw[y];refine Ao (A:=[]) (RM.le.refl R) ?_;congr 1;unfold BM;rw[H,eY];simp only[z_b,z_d,beq_iff_eq];constructor<;>rintro⟨⟨D,K⟩,N⟩<;>exact⟨⟨Z,Z⟩,Z⟩
theorem N3 (x:Option Addr) (n G:Nat) (a size:Int) (O:n < 1000000000000):Pu M6 [.slice x n G,I a,I size] (.bool (fits n a size)):=by
 intro R;refine S6 λF=>?_
 refine z_3 ?_;refine jan [.slice x n G,I a,I size] ((BM n) && (decide (size > 0))) (λK j=>?_) (λe c u D he=>?_)
 .refine jp (Jn x n G O) (jgA j λH y=>jgr y)
 refine z_V ?_;refine jan [.slice x n G,I a,I size] ((BM n && decide (size > 0)) && (decide (size<=16))) (λK j=>?_) (λe c u D he=>?_)
 .rw[D];refine jgA j λH y=>jle y
 refine z_V ?_;refine jan [.slice x n G,I a,I size] ((BM n && decide (size > 0) && decide (size<=16)) && (decide (a>=16))) (λK j=>?_) (λe c u D he=>?_)
 .rw[D];refine jgA j λH y=>jge y
 refine z_V ?_;refine jan [I a,I size] ((BM n && decide (size > 0) && decide (size<=16) && decide (a>=16)) && (decide (a < n))) (λK j=>?_) (λe c u D he=>?_)
 .rw[D];refine jgA j λH y=>jln (jlt y)
 refine z_V ?_;refine jan [] ((BM n && decide (size > 0) && decide (size<=16) && decide (a>=16) && decide (a < n)) && (AN a == AN (a + size - 1))) (λK j=>?_) (λe c u D he=>?_)
 .rw[D];refine jgA j λH y=>?_
  have N:=H;simp only[z_b,z_d] at N;have r1:AN a<=9223372036854775807:=by unfold AN;split<;>omega
  have Q:AN (a + size - 1)<=9223372036854775807:=by unfold AN;split<;>omega
  refine jp (Cf a r1) (jad (jsu (jp (Cf _ Q) (jeq y))))
 refine z_V ?_;rw[D];refine Ao (A:=[]) (RM.le.refl R) ?_;congr 1
theorem O4 {n:Int}:∀{l:List Int} {i:Nat} (h:i < l.length),l[i] = n->(∀k (j:k < l.length),k < i->l[k]≠n)->l.idxOf n = i
 | [],i,h,_,_=>absurd h V
 | a :: r,0,_,e,_=>by
  have e:a = n:=e;rw[List.idxOf_cons,e];simp
 | a :: r,i + 1,h,e,Bp=>by
  have h0:a≠n:=Bp 0 V Z;have:=O4 (by simpa using h) (by simpa using e) (λk j x=>by have:=Bp (k + 1) (by simpa using j) Z;simpa using this);rw[List.idxOf_cons,this];have:(a == n) = false:=by simpa using h0
  rw[this];rfl
def eTh (t:AQ) (rv nv:Value):List Value:=[I t.at_,I t.moved,I t.sh.refs,I t.sh.nums,rv,nv]
def ThV (R:RM) (v:Value) (t:AQ):Prop:=∃rv nv,v = .agg (eTh t rv nv).toArray/\Ay R rv t.refs/\Ay R nv t.nums
theorem ThV.le {R j : RM} {v:Value} {t:AQ} (h:R.le j) (H:ThV R v t):ThV j v t:=by
 obtain⟨rv,nv,x,y,A⟩:=H;exact⟨rv,nv,x,y.le h,A.le h⟩
theorem FM {n:Nat} {a size:Int} (h:fits n a size = true):16<=a/\a + size<=n/\0 < size/\size<=16:=by
 unfold fits BM at h;simp only[z_b,z_d,beq_iff_eq] at h;obtain⟨⟨⟨⟨⟨⟨⟨D,G⟩,H⟩,x⟩,y⟩,A⟩,K⟩,j⟩:=h;unfold AN at j;rw[if_neg Z,if_neg Z] at j;refine⟨A,?_,x,y⟩;omega
theorem GD {w:Int} (h:(AS w).2 = true):0<=(AS w).1.refs/\(AS w).1.refs<=4/\0<=(AS w).1.nums/\(AS w).1.nums<=4/\AF (AS w).1 = 2 + (AS w).1.refs + (AS w).1.nums:=by
 unfold AS at h ⊢;split at h
 .rename_i hc;rw[if_pos hc];have j:BN ⟨w / 16,w % 16⟩ = true:=by
   unfold BN;simp only[z_b,z_d];omega
  refine⟨by dsimp only;omega,by dsimp only;omega,by dsimp only;omega,by dsimp only;omega,?_⟩;unfold AF;rw[if_pos j]
 .exact absurd h δ
theorem QM {w:List Int} {k i:Nat} (h:k + i < w.length):(w.drop k).take (i + 1) = (w.drop k).take i ++ [w[k + i]]:=by
 rw[dJ (by rw[eO];omega),fT]
theorem Vn {R:RM} {wv:Value} {w:List Int} (a:Int) (h:Ay R wv w) (hl:w.length < 1000000000000) :
  Fn P Kf [wv,I a] R [] (λv H A=>A = []/\∃x,ThV H x (As w a).1/\v = .tuple #[x,.bool (As w a).2]):=by
 refine Ru λF=>?_
 refine z_2 ?_;obtain⟨wa,wc,a7⟩:=h.sl;refine ja λb1=>?_
 have none_:∀(R1:RM) (G:Chs),R.le R1->(As w a) = (Eg,false)->∀{D:Chs} [At D b1 (C BL (eTh Eg (SN) (SN)))] [Sf D F],True:=λ_ _ _ _ _ _ _=>trivial
 clear none_;rw[a7];refine jp (N3 wa w.length wc a 2 hl) (jif (λh2=>?_) (λh2=>?_))
 .have h2:fits w.length a 2 = false:=by simpa using h2
  have et:As w a = (Eg,false):=by unfold As;rw[h2];rfl
  refine jbd rfl rfl ?_;refine js rfl rfl (by exact z_n 6) rfl ?_;refine jla (by exact z_n 6) rfl ?_;refine Ao (RM.le.refl R) ⟨rfl,_,?_,by rw[et]⟩;rw[et];exact⟨_,_,rfl,.inl ⟨rfl,rfl,rfl⟩,.inl ⟨rfl,rfl,rfl⟩⟩
 have h2:fits w.length a 2 = true:=by simpa using h2
 obtain⟨a0,a1,-,-⟩:=FM h2;obtain⟨n,rfl⟩:∃n:Nat,a = n:=⟨a.toNat,Z⟩;rw[<- a7];refine jad (Bk h Z Z ?_);have e1:w[((n:Int) + 1).toNat]'(Z) = w[n + 1]:=getElem_congr_idx Z;rw[e1];refine jp (FR _) (jex rfl (jex rfl ?_));have eg:w.getD (((n:Int)).toNat + 1) 0 = w[n + 1]:=by
  rw[dG,dI,dH Z,eI]
 have j:As w n = if (AS w[n + 1]).2 && fits w.length n (AF (AS w[n + 1]).1) then (⟨n,w.getD ((n:Int)).toNat 0,(AS w[n + 1]).1,seg w (n + 2) (AS w[n + 1]).1.refs,seg w (n + 2 + (AS w[n + 1]).1.refs) (AS w[n + 1]).1.nums⟩,true) else (Eg,false):=by
  unfold As;rw[if_pos h2,eg]
 have sr:=@GD w[n + 1];generalize AS w[n + 1] = s at j sr ⊢;obtain⟨s,sb⟩:=s;dsimp only at j sr ⊢;refine ja λb2=>?_
 refine js (cs':=[I s.refs,I s.nums]) rfl rfl V rfl ?_;rw[a7];refine jor [.slice wa w.length wc,I n,Pt b1,Pt b2] ((!sb) || (!fits w.length n (AF s))) (λK' c0=>?_) (λe c u ho he=>?_)
 .refine jgO c0 λh1 hN=>jla (l:=[I s.refs,I s.nums]) V rfl (jp (CN s) (jp (N3 wa w.length wc n (AF s) hl) hN))
 refine z_V ?_;rw[ho];refine jif (λO=>?_) (λO=>?_)
 .have et:As w n = (Eg,false):=by
   rw[j,if_neg];intro hh;simp only[du,dp,z_b] at O hh;rcases O with O | O
   .rw[O] at hh;exact absurd hh.1 δ
   .rw[O] at hh;exact absurd hh.2 δ
  refine jbd rfl rfl ?_;refine js rfl rfl (by exact z_n 6) rfl ?_;refine jla (by exact z_n 6) rfl ?_;refine Ao (RM.le.refl R) ⟨rfl,_,?_,by rw[et]⟩;rw[et];exact⟨_,_,rfl,.inl ⟨rfl,rfl,rfl⟩,.inl ⟨rfl,rfl,rfl⟩⟩
 simp only[db,eL] at O;obtain⟨O,h4⟩:=O;obtain⟨s1,s2,s3,s4,s5⟩:=sr O;obtain⟨-,f1,-,-⟩:=FM h4;rw[O,h4] at j;simp only[Bool.and_self,if_true] at j;have b7:w.getD ((n:Int)).toNat 0 = w[n]:=by rw[dG,dI,dH Z,eI]
 rw[b7] at j;obtain⟨⟨r,hr⟩,⟨m,hm⟩⟩:(∃r:Nat,s.refs = r)/\(∃m:Nat,s.nums = m):=⟨⟨s.refs.toNat,Z⟩,⟨s.nums.toNat,Z⟩⟩;have b8:seg w ((n:Int) + 2) s.refs = (w.drop (n + 2)).take r:=by unfold seg;rw[hr,show ((n:Int) + 2).toNat = n + 2 by omega,dG]
 have b9:seg w ((n:Int) + 2 + s.refs) s.nums = (w.drop (n + 2 + r)).take m:=by unfold seg;rw[hr,hm,show ((n:Int) + 2 + r).toNat = n + 2 + r by omega,dG]
 rw[b8,b9] at j;rw[<- a7];refine Xe h Z Z λq hq=>hq _ _ ?_
 have e2:w[((n:Int)).toNat]'(Z) = w[n]:=getElem_congr_idx Z;rw[e2] at hq ⊢;refine jla V rfl ?_;refine jbd rfl rfl ?_;refine ja λN=>?_
 refine Ak (hq _ _ jev) (Ak (jla V rfl jev) ?_);refine js rfl rfl (by exact z_n 6) rfl ?_;generalize hE:((b2,C Hm [I s.refs,I s.nums]) :: (b1,C BL (cl z70)) :: ([] ++ F)) = E;have ea:At E b1 (C BL (cl z70)):=by rw[<- hE];exact inferInstance
 have c5:At E b2 (C Hm [I s.refs,I s.nums]):=by rw[<- hE];exact inferInstance
 refine Ac (λvs H D'=>R.le H/\∃y,Ay H y ((w.drop (n + 2)).take r)/\D' = (N,C BL (eTh ⟨n,w[n],s,[],[]⟩ y (SN))) :: E/\vs = [wv,I n,Pt b1,Pt b2,Pt N]) (λK hK=>?_) ?_
 .refine jcI hK λK2 a8=>?_
  refine jlp (λk vs H D'=>H = R/\∃(i:Nat) (y:Value) (A:Chs),i<=r/\SO ((w.drop (n + 2)).take i) y A/\D' = A ++ ((N,C BL (eTh ⟨n,w[n],s,[],[]⟩ y (SN))) :: E)/\vs = [wv,I n,Pt b1,Pt b2,Pt N,I i]/\k = r - i)
   (n:=r) ⟨rfl,0,SN,[],Z,.inl ⟨V,rfl,rfl⟩,by rw[<- hE];rfl,rfl,Z⟩ ?_
  rintro k e R1 D1 K3 ⟨hR,i,y,A,hi,so,hD,he,hk⟩ a9;subst hR;refine z_W ?_;clear hD;obtain⟨sa,sn,sc,b0⟩:=so.sl;refine jl rfl (jlt (jif (λhc=>?_) (λhc=>?_)));rotate_left
  .have hc:i = r:=by have:=z_g hc;omega
   subst hc;refine Dv so λR2 Q T=>?_
   exact a8 _ _ _ ⟨Q,y,T,rfl,rfl⟩
  have hc:i < r:=by have:=z_f hc;omega
  subst b0;refine jl rfl (jad (jad (Bk h Z Z ?_)));have e3:w[((n:Int) + 2 + i).toNat]'(Z) = w[n + 2 + i]:=getElem_congr_idx Z;rw[e3];refine jbs rfl rfl λb4=>?_
  refine Ak (jl rfl jev) ?_;refine B8 dw.symm ?_;have hx:BY R1 (A ++ ((b4,C 3 [I w[n + 2 + i]]) :: (N,C BL (eTh ⟨n,w[n],s,[],[]⟩ (.slice sa sn sc) (SN))) :: E)) (some ⟨b4,0,none⟩) (1 * 1) ([w[n + 2 + i]].map I):=BY.held (cs:=[I w[n + 2 + i]]) (z_n 1);refine jas so rfl (by rw[dU,di];omega) hx λv' A' a4=>?_
  obtain⟨W,a3,a2,rfl⟩:=a4.sl;refine jS (eTh ⟨n,w[n],s,[],[]⟩ (.slice W a3 a2) (SN)) ?_;refine jad ?_;refine Al A' (G:=(N,C BL (eTh ⟨n,w[n],s,[],[]⟩ (.slice W a3 a2) (SN))) :: E) ?_;exact a9 (r - (i + 1)) _ _ _ Z ⟨rfl,i + 1,_,A',Z,by rw[QM Z];exact a4,rfl,rfl,rfl⟩
 rintro e R1 D1 ⟨hR,y,a6,hD,he⟩;refine z_W ?_;clear hD;obtain⟨ta,tc,a5⟩:=a6.sl;have h1:=h.le hR;refine Ac (λvs H D'=>R.le H/\Ay H y ((w.drop (n + 2)).take r)/\∃v2,Ay H v2 ((w.drop (n + 2 + r)).take m)/\D' = (N,C BL (eTh ⟨n,w[n],s,[],[]⟩ y v2)) :: E/\vs = [Pt b1,Pt N]) (λK hK=>?_) ?_
 .refine jcI hK λK2 a8=>?_
  refine jlp (λk vs H D'=>H = R1/\∃(i:Nat) (v2:Value) (A:Chs),i<=m/\SO ((w.drop (n + 2 + r)).take i) v2 A/\D' = A ++ ((N,C BL (eTh ⟨n,w[n],s,[],[]⟩ y v2)) :: E)/\vs = [wv,I n,Pt b1,Pt b2,Pt N,I i]/\k = m - i)
   (n:=m) ⟨rfl,0,SN,[],Z,.inl ⟨V,rfl,rfl⟩,rfl,rfl,Z⟩ ?_
  rintro k e R2 D2 K3 ⟨Q,i,v2,A,hi,so,hD,he,hk⟩ a9;subst Q;refine z_W ?_;clear hD;obtain⟨sa,sn,sc,b0⟩:=so.sl;refine jl (v:=I s.nums) rfl (jlt (jif (λhc=>?_) (λhc=>?_)));rotate_left
  .have hc:i = m:=by have:=z_g hc;omega
   subst hc;refine Dv so λR3 b5 T=>?_
   exact a8 _ _ _ ⟨hR.trans b5,a6.le b5,v2,T,rfl,rfl⟩
  have hc:i < m:=by have:=z_f hc;omega
  subst b0;refine jl (v:=.slice sa sn sc) (by rw[a5];rfl) (jad (jl (v:=I s.refs) rfl (jad (jad (Bk h1 Z Z ?_)))));have e3:w[((n:Int) + 2 + s.refs + i).toNat]'(Z) = w[n + 2 + r + i]:=getElem_congr_idx Z;rw[e3];refine jbs (cs:=[I w[n + 2 + r + i]]) rfl rfl λb4=>?_
  refine Ak (jl (v:=.slice sa sn sc) (by rw[a5];rfl) jev) ?_;refine B8 dw.symm ?_;have hx:BY R2 (A ++ ((b4,C 3 [I w[n + 2 + r + i]]) :: (N,C BL (eTh ⟨n,w[n],s,[],[]⟩ y (.slice sa sn sc))) :: E)) (some ⟨b4,0,none⟩) (1 * 1) ([w[n + 2 + r + i]].map I):=BY.held (t:=Ab) (cs:=[I w[n + 2 + r + i]]) (o:=0) (n:=1 * 1) (z_n 1);refine jas so rfl (by rw[dU,di];omega) hx λv' A' a4=>?_
  obtain⟨W,a3,a2,rfl⟩:=a4.sl;refine js (cs':=eTh ⟨n,w[n],s,[],[]⟩ y (.slice W a3 a2)) rfl rfl (by simp[eTh]) (by rw[a5];rfl) ?_;refine jad ?_;refine Al A' (G:=(N,C BL (eTh ⟨n,w[n],s,[],[]⟩ y (.slice W a3 a2))) :: E) ?_;exact a9 (m - (i + 1)) _ _ _ Z ⟨rfl,i + 1,_,A',Z,by rw[QM Z];exact a4,rfl,rfl,rfl⟩
 rintro e R2 D2 ⟨Q,a6,v2,b6,hD,he⟩;refine z_W ?_;clear hD;obtain⟨ua,uc,c4⟩:=b6.sl;subst a5 c4 hE;refine jla (l:=eTh ⟨n,w[n],s,[],[]⟩ _ _) (by exact z_n 6) rfl ?_;refine jS (eTh ⟨n,w[n],s,[],[]⟩ _ _) ?_;refine jla (l:=eTh ⟨n,w[n],s,[],[]⟩ _ _) (by exact z_n 6) rfl ?_;refine Ao (A:=[]) Q ⟨rfl,_,?_,by rw[j]⟩;rw[j];exact⟨_,_,rfl,a6,b6⟩
def SW (t w:Nat) (rows:List (List Value)) (v:Value) (A:Chs):Prop:=
 (rows = []/\v = SN/\A = [])\/∃b c sp,rows.length<=c/\sp.length = (c - rows.length) * w/\v = S0 b rows.length c/\A = [(b,C t (rows.flatten ++ sp))]
theorem SW.sl {t w:Nat} {rows:List (List Value)} {v:Value} {A:Chs} (h:SW t w rows v A):∃a c,v = .slice a rows.length c:=by
 rcases h with ⟨rfl,rfl,_⟩ | ⟨b,c,sp,_,_,rfl,_⟩<;>exact⟨_,_,rfl⟩
theorem jaw {R:RM} {A E:Chs} {t w y:Nat} {rows j:List (List Value)} {v:Value} {xa:Option Addr} {m cx:Nat} {zs:List Value} {k:Value->M} (so:SW t w rows v A)
  (hw:∀r∈rows,r.length = w) (O:∀r∈j,r.length = w) (hz:zs.length = w) (hf:Bz j.flatten = true) (hm:m = j.length) (hb:y≠0) (hl:y * (2 * (rows.length + j.length) + 200)<=2 ^ 48) (D:BY R (A ++ E) xa (m * w) j.flatten)
  (H:∀W Q,SW t w (rows ++ j) W Q->J R (Q ++ E) (k W)):J R (A ++ E) (AP t w y zs v (.slice xa m cx) k):=by
 subst hm;have fl:∀n,(List.replicate n zs).flatten.length = n * w:=λn=>by
  rw[Br (by intro x D;rw[(eR.1 D).2,hz])];simp
 have l1:=Br hw;have T:=Br O;rcases so with ⟨rfl,rfl,rfl⟩ | ⟨b,c,sp,hc,hsp,rfl,rfl⟩
 .refine jap D (by rw[gP];exact BY.none_) hb (by simpa using hl) (λhc h N=>?_) (λb c hc=>?_)
  .have h0:j = []:=dy.1 Z;subst h0;have:=H (SN) [] (.inl ⟨rfl,rfl,rfl⟩) h N;simpa using this
  .have:=H (S0 b j.length c) [(b,C t (j.flatten ++ (List.replicate (c - j.length) zs).flatten))] (.inr ⟨b,c,(List.replicate (c - j.length) zs).flatten,by simpa using hc,by rw[fl];simp,V,V⟩);simpa using this
 .refine XG D (by rw[dK,l1,hsp,<- Nat.add_mul];congr 1;omega) hc T hf hb hl (λh=>?_) (λG K h=>?_)
  .have el:lay (rows.flatten ++ sp) (rows.length * w) j.flatten = (rows ++ j).flatten ++ sp.drop (j.length * w):=by
    rw[Hk Z,l1,Nat.sub_self];simp[lay,T]
   rw[el];have:=H (S0 b (rows ++ j).length c) [(b,C t ((rows ++ j).flatten ++ sp.drop (j.length * w)))] (.inr ⟨b,c,_,by simpa using h,by rw[eO,hsp,<- Nat.sub_mul,dK];congr 1;omega,rfl,rfl⟩);simpa using this
  .refine B8 (fF _ _ _) (BV ?_);have:=H (.slice (some ⟨G,0,none⟩) (rows ++ j).length K) [(G,C t ((rows ++ j).flatten ++ (List.replicate (K - (rows.length + j.length)) zs).flatten))] (.inr ⟨G,K,_,by simpa using h,by rw[fl,dK],rfl,rfl⟩);rw[eX Z,dO Z];simpa using this
theorem jfw {R:RM} {A E:Chs} {t w:Nat} {rows:List (List Value)} {v:Value} {m:M} (G:SW t w rows v A) (y:∀r∈rows,r.length = w) (H:∀j,R.le j->Fz j v w rows.length rows.flatten->J j E m):J R (A ++ E) m:=by
 rcases G with ⟨rfl,rfl,rfl⟩ | ⟨b,c,sp,hc,hsp,rfl,rfl⟩
 .exact H R (RM.le.refl _) (.inl ⟨rfl,rfl,rfl⟩)
 .refine B9 (t:=⟨eK _⟩) λD x hb=>(H D x (.inr ⟨b,0,c,t,_,rfl,hb,by rw[dK,Br y];omega,by rw[fG,<- Br y];simp,hc⟩))
def Rw {α:Type} (p:List Value->α->Prop) (rows:List (List Value)) (l:List α):Prop:=rows.length = l.length/\∀i (h:i < rows.length) (h' : i < l.length),p rows[i] l[i]
theorem Rw.nil {α:Type} {p:List Value->α->Prop}:Rw p [] []:=⟨rfl,λi h=>absurd h V⟩
theorem Rw.app {α:Type} {p:List Value->α->Prop} {r1 y:List (List Value)} {l1 l2:List α} (j:Rw p r1 l1) (x:Rw p y l2):Rw p (r1 ++ y) (l1 ++ l2):=by
 refine⟨by rw[dK,dK,j.1,x.1],λi h A=>?_⟩;by_cases c:i < r1.length
 .rw[fj c,fj (by rw[<- j.1];exact c)];exact j.2 i c _
 .rw[fD Z,fD (by rw[<- j.1];omega)];have e:i - l1.length = i - r1.length:=by rw[j.1]
  rw[getElem_congr_idx e];rw[dK] at h A;have:=j.1;exact x.2 _ Z Z
theorem Rw.one {α:Type} {p:List Value->α->Prop} {r:List Value} {x:α} (h:p r x):Rw p [r] [x]:=by
 refine⟨rfl,λi j y=>?_⟩;have:i = 0:=by simp at j;omega
 subst this;exact h
theorem Rw.mono {α:Type} {p q:List Value->α->Prop} {r:List (List Value)} {l:List α} (h:Rw p r l) (H:∀x y,p x y->q x y):Rw q r l:=⟨h.1,λi j A=>H _ _ (h.2 i j A)⟩
theorem Rw.all {α:Type} {p:List Value->α->Prop} {r:List (List Value)} {l:List α} (h:Rw p r l) {q:List Value->Prop} (H:∀x y,p x y->q x):∀x∈r,q x:=by
 intro x A;obtain⟨i,j,rfl⟩:=dm A;exact H _ _ (h.2 i j (by rw[<- h.1];exact j))
theorem Qg {w:Nat}:∀{rows:List (List Value)} {i:Nat} (_:∀r∈rows,r.length = w) (h:i < rows.length),(rows.flatten.drop (i * w)).take w = rows[i]
 | [],i,_,h=>absurd h V
 | a :: r,0,hw,_=>by
  have:a.length = w:=hw a V;rw[gP,fG,fd,eX Z,dO Z];rfl
 | a :: r,i + 1,hw,h=>by
  have j:a.length = w:=hw a V;rw[fd,gj,List.drop_append,List.drop_of_length_le Z,zl,j,Nat.add_sub_cancel];exact Qg (λr x=>hw r (by simp[x])) (by simpa using h)
theorem Js {R:RM} {v:Value} {w:Nat} {rows:List (List Value)} {i:Nat} (h:Fz R v w rows.length rows.flatten) (G:∀r∈rows,r.length = w) (D:i < rows.length) :
  ∃b o j t x,v = .slice (some ⟨b,o,none⟩) rows.length j/\R b = some (C t x)/\o + i * w + w<=x.length/\(x.drop (o + i * w)).take w = rows[i]:=by
 rcases h with ⟨_,y,_⟩ | ⟨b,o,j,t,x,rfl,y,H,A,K⟩
 .omega
 .refine⟨b,o,j,t,x,rfl,y,?_,?_⟩
  .have:(i + 1) * w<=rows.length * w:=ff w Z;rw[gj] at this;omega
  .rw[<- Qg G D,<- A,gO,gT,gS];congr 1;have:(i + 1) * w<=rows.length * w:=ff w Z;rw[gj] at this;omega
def ThC (R:RM) (row:List Value) (t:AQ):Prop:=∃rv nv,row = eTh t rv nv/\Ay R rv t.refs/\Ay R nv t.nums
theorem ThC.le {R j : RM} {row:List Value} {t:AQ} (h:R.le j) (H:ThC R row t):ThC j row t:=by
 obtain⟨rv,nv,x,y,A⟩:=H;exact⟨rv,nv,x,y.le h,A.le h⟩
theorem ThC.len {R:RM} {row:List Value} {t:AQ} (H:ThC R row t):row.length = 6:=by
 obtain⟨rv,nv,rfl,j,x⟩:=H;rfl
theorem ThC.flat {R:RM} {row:List Value} {t:AQ} (H:ThC R row t):Bz row = true:=by
 obtain⟨rv,nv,rfl,j,x⟩:=H;obtain⟨_,_,rfl⟩:=j.sl;obtain⟨_,_,rfl⟩:=x.sl;rfl
def Tgs (R:RM) (v:Value) (l:List AQ):Prop:=∃rows,Rw (ThC R) rows l/\Fz R v 6 rows.length rows.flatten
theorem Tgs.le {R j : RM} {v:Value} {l:List AQ} (h:R.le j) (H:Tgs R v l):Tgs j v l:=by
 obtain⟨rows,x,y⟩:=H;exact⟨rows,x.mono λ_ _=>ThC.le h,y.le h⟩
theorem Tgs.sl {R:RM} {v:Value} {l:List AQ} (H:Tgs R v l):∃a c,v = .slice a l.length c:=by
 obtain⟨rows,x,y⟩:=H;obtain⟨a,j,e,-⟩:=Fz.reads (D:=[]) y;exact⟨a,j,by rw[e,x.1]⟩
theorem Bf {R:RM} {D:Chs} {v:Value} {n:Nat} {k:Value->M} (h:∃a c,v = .slice a n c) (H:J R D (k (I n))):J R D (LN v k):=by
 obtain⟨a,c,rfl⟩:=h;exact H
theorem jtg {R:RM} {D:Chs} {v:Value} {l:List AQ} {i:Nat} {k:Value->M} (h:Tgs R v l) (A:i < l.length)
  (H:∀b o t j rv nv,Ay R rv (l[i]).refs->Ay R nv (l[i]).nums->R b = some (C t j)->o + 6<=j.length->(j.drop o).take 6 = eTh l[i] rv nv->J R D (k (.pointer (some ⟨b,o,none⟩)))):J R D (IA 6 v (I (i:Int)) k):=by
 obtain⟨rows,y,K⟩:=h;have x : i < rows.length:=by rw[y.1];exact A
 obtain⟨b,o,G,t,j,rfl,hb,hl,hc⟩:=Js K (y.all λ_ _=>ThC.len) x;obtain⟨rv,nv,e,r1,N⟩:=y.2 i x A;refine jia Z Z ?_;rw[dG];exact H b (o + i * 6) t j rv nv r1 N hb hl (by rw[hc,e])
theorem Bm {cs row:List Value} {o w f:Nat} {x:Value} (h:(cs.drop o).take w = row) (j:row[f]? = some x):cs[o + f]? = some x:=by
 rw[<- h,fM,ec] at j;split at j
 .exact j
 .cases j
end Go.Lf
end
section
namespace Go.Lf
open Go Sm
theorem EE (s:Shp):0<=AF s/\AF s<=10:=by
 unfold AF;split
 .rename_i h;unfold BN at h;simp only[z_b,z_d] at h;omega
 .omega
theorem In {w:List Int} {a:Int} (h:(As w a).2 = true):2<=AF (As w a).1.sh:=by
 unfold As at h ⊢;split at h
 .rename_i x;rw[if_pos x];dsimp only at h ⊢;split at h
  .rename_i j;rw[if_pos j];simp only[z_b] at j;have:=GD j.1;dsimp only;omega
  .exact absurd h δ
 .exact absurd h δ
def QTs (r:Option (List AQ)) (v:Value) (R:RM):Prop:=match r with
 | none=>v = .tuple #[SN,.bool false]
 | some l=>∃tv,Tgs R tv l/\v = .tuple #[tv,.bool true]
theorem TD {R:RM} {wv:Value} {w:List Int} (r top:Int) (h:Ay R wv w) (hl:w.length < 1000000000000) :
  Fn P JF [wv,I r,I top] R [] (λv R' A=>A = []/\QTs (BU w r top) v R'):=by
 refine Oc λF=>?_
 refine z_3 ?_;obtain⟨wa,wc,a1⟩:=h.sl;have eq:(w.length:Int).tdiv 16 = (w.length / 16:Nat):=by rw[fL Z];omega
 rw[a1];have br:0<=AK r/\AK r<=176:=by unfold AK;split<;>omega
 refine jor [.slice wa w.length wc,I r,I top] ((!BM w.length) || (decide (r < 1))) (λK' j=>?_) (λe c u T he=>?_)
 .refine jp (Jn wa w.length wc hl) (jgO j λh1 O=>jlt O)
 refine z_V ?_;refine jor [.slice wa w.length wc,I r,I top] ((!BM w.length || decide (r < 1)) || (decide (r>=(w.length:Int).tdiv 16))) (λK' j=>?_) (λe c u T he=>?_)
 .rw[T];refine jgO j λh1 O=>jln (PX δ ⟨Z,Z⟩ (jge O))
 refine z_V ?_;refine jor [.slice wa w.length wc,I r,I top] ((!BM w.length || decide (r < 1) || decide (r>=(w.length:Int).tdiv 16)) || (decide (top < AK r))) (λK' j=>?_) (λe c u T he=>?_)
 .rw[T];refine jgO j λh1 O=>jp (BX r) (jlt O)
 refine z_V ?_;refine jor [.slice wa w.length wc,I r,I top] ((!BM w.length || decide (r < 1) || decide (r>=(w.length:Int).tdiv 16) || decide (top < AK r)) || (decide (top > AK r + 16))) (λK' j=>?_) (λe c u T he=>?_)
 .rw[T];refine jgO j λh1 O=>jp (BX r) (jad (jgr O))
 refine z_V ?_;rw[T];refine jif (λh0=>?_) (λh0=>?_)
 .refine Ao (RM.le.refl R) ⟨rfl,?_⟩;have:BU w r top = none:=by
   unfold BU;rw[if_neg];intro hh;simp only[du,dp,z_d,z_b] at h0 hh;rw[eq] at h0;obtain⟨⟨⟨⟨g1,g2⟩,g3⟩,g4⟩,g5⟩:=hh;rw[g1] at h0;rcases h0 with (((h0 | h0) | h0) | h0) | h0
   .exact absurd h0 δ
   all_goals omega
  rw[this];exact rfl
 simp only[db,eL,decide_eq_false_iff_not] at h0;rw[eq] at h0;obtain⟨⟨⟨⟨g1,g2⟩,g3⟩,g4⟩,g5⟩:=h0;have et:BU w r top = Au w 16 (AK r) top:=by
  unfold BU;rw[if_pos];simp only[z_b,z_d];exact⟨⟨⟨⟨g1,Z⟩,Z⟩,Z⟩,Z⟩
 rw[<- a1];refine jp (BX r) (Ac (λvs R' D'=>R.le R'/\∃l N A,BU w r top = some l/\(∃rows,Rw (ThC R') rows l/\SW BL 6 rows N A)/\D' = A ++ ([] ++ F)/\vs = [N]) (λK hK=>?_) ?_);rotate_left
 .rintro e R1 D1 ⟨hR,l,N,A,hl,⟨rows,D,so⟩,hD,he⟩;refine z_W ?_;refine jfw so (D.all λ_ _=>ThC.len) λR2 H hfz=>(Ao (hR.trans H) ⟨rfl,?_⟩)
  rw[hl];exact⟨N,⟨rows,D.mono λ_ _=>ThC.le H,hfz⟩,rfl⟩
 refine jcI hK λK2 a4=>?_
 refine jlp (λm vs R' D'=>R.le R'/\∃(a:Int) (l:List AQ) (N:Value) (A:Chs) (rows:List (List Value)),m<=16/\AK r + 2 * (16 - m)<=a/\a<=top/\l.length<=16 - m/\(match Au w m a top with | none=>none | some l2=>some (l ++ l2)) = BU w r top/\Rw (ThC R') rows l/\SW BL 6 rows N A/\D' = A ++ ([] ++ F)/\vs = [wv,I top,N,I a])
  (n:=16) ⟨RM.le.refl R,AK r,[],SN,[],[],Z,Z,Z,V,by rw[et];cases Au w 16 (AK r) top<;>rfl,Rw.nil,.inl ⟨rfl,rfl,rfl⟩,rfl,rfl⟩ ?_
 rintro m e R1 D1 K3 ⟨hR,a,l,N,A,rows,hm,ha,a7,a8,y,D,so,hD,he⟩ a5;refine z_W ?_;have h1:=h.le hR;refine jlt (jif (λhc=>?_) (λhc=>?_));rotate_left
 .have hc:=z_g hc;refine a4 _ _ _ ⟨hR,l,N,A,?_,⟨rows,D,so⟩,rfl,rfl⟩;rw[<- y];cases m<;>(unfold Au;rw[if_neg hc];simp)
 have hc:=z_f hc;obtain⟨m,rfl⟩:∃k,m = k + 1:=⟨m - 1,Z⟩;unfold Au at y;rw[if_pos hc] at y;dsimp only at y;obtain⟨a2,a3⟩:=EE (As w a).1.sh;have a0:=@In w a;refine jc (Vn a h1 hl) ?_;rintro _ R2 _ H ⟨rfl,x,⟨rv,nv,rfl,W,Q⟩,rfl⟩;generalize As w a = t at y W Q a2 a3 a0 ⊢;obtain⟨t,tb⟩:=t;dsimp only at y W Q a2 a3 a0 ⊢;obtain⟨ra,rc,rfl⟩:=W.sl;obtain⟨na,nc,rfl⟩:=Q.sl;refine jex rfl (jex rfl (ja λb=>(js rfl rfl (by exact z_n 6) rfl (jor [wv,I top,N,I a,Pt b] ((!tb) || (decide (a + AF t.sh > top))) (λK' j=>?_) (λe c u T he=>?_)))))
 .refine jgO j λh1 O=>jfo (jla (l:=[I t.sh.refs,I t.sh.nums]) (by exact (by decide:4<=6)) rfl (jp (CN t.sh) (jad (jgr O))))
 refine z_V ?_;rw[T];refine jif (λh0=>?_) (λh0=>?_)
 .refine Ao (hR.trans H) ⟨rfl,?_⟩;have:BU w r top = none:=by
   rw[<- y,if_neg];intro hh;simp only[du,dp,z_d,z_b] at h0 hh;rcases h0 with h0 | h0
   .rw[h0] at hh;exact absurd hh.1 δ
   .omega
  rw[this];exact rfl
 simp only[db,eL,decide_eq_false_iff_not] at h0;obtain⟨h2,h3⟩:=h0;rw[if_pos (by rw[h2];simp;omega)] at y;have a0:=a0 h2;refine jla (by exact z_n 6) rfl (jbs rfl rfl λb4=>(B8 (D':=(b4,C BL (eTh t (.slice ra t.refs.length rc) (.slice na t.nums.length nc))) :: ((b,C BL (eTh t (.slice ra t.refs.length rc) (.slice na t.nums.length nc))) :: (A ++ ([] ++ F)))) (eK _) (Al A (G:=(b4,C BL (eTh t (.slice ra t.refs.length rc) (.slice na t.nums.length nc))) :: (b,C BL (eTh t (.slice ra t.refs.length rc) (.slice na t.nums.length nc))) :: ([] ++ F)) ?_)));have hx:BY R2 (A ++ ((b4,C BL (eTh t (.slice ra t.refs.length rc) (.slice na t.nums.length nc))) :: (b,C BL (eTh t (.slice ra t.refs.length rc) (.slice na t.nums.length nc))) :: ([] ++ F))) (some ⟨b4,0,none⟩) (1 * 6) [eTh t (.slice ra t.refs.length rc) (.slice na t.nums.length nc)].flatten:=BY.held (cs:=eTh t (.slice ra t.refs.length rc) (.slice na t.nums.length nc)) (z_n 6);have a9:=D.1;refine jaw so (D.all λ_ _=>ThC.len) (by intro r hr;rw[dZ.1 hr];rfl) rfl rfl rfl δ (by rw[di];omega) hx λv' A' a6=>(jfo (jla (l:=[I t.sh.refs,I t.sh.nums]) (by exact (by decide:4<=6)) rfl (jp (CN t.sh) (jad (Al A' (G:=[] ++ F) (a5 m _ _ _ Z ⟨hR.trans H,a + AF t.sh,l ++ [t],v',A',rows ++ [eTh t (.slice ra t.refs.length rc) (.slice na t.nums.length nc)],Z,Z,Z,by rw[dK,di];omega,?_,(D.mono λ_ _=>ThC.le H).app (Rw.one ⟨_,_,rfl,W,Q⟩),a6,rfl,rfl⟩))))))
 rw[<- y];cases Au w m (a + AF t.sh) top with
 | none=>rfl
 | some l2=>simp
def RdI (R:RM) (D:Chs) (v:Value) (l:List Int):Prop:=(∃a c,v = .slice a l.length c)/\∀(F:Chs) (i:Nat) (h:i < l.length) (k:Value->M),J R (D ++ F) (k (I l[i]))->J R (D ++ F) (IA 1 v (I (i:Int)) λx=>L1 x k)
theorem Ay.rd {R:RM} {D:Chs} {v:Value} {l:List Int} (h:Ay R v l):RdI R D v l:=
 ⟨h.sl,λF i j k H=>Bk h Z Z (by rw[getElem_congr_idx (dG i)];exact H)⟩
theorem SO.rd {R:RM} {A E:Chs} {v:Value} {l:List Int} (h:SO l v A):RdI R (A ++ E) v l:=by
 rcases h with ⟨rfl,rfl,rfl⟩ | ⟨b,c,sp,hc,hsp,rfl,rfl⟩
 .exact⟨⟨_,_,rfl⟩,λF i j=>absurd j V⟩
 .refine⟨⟨_,_,rfl⟩,λF i j k H=>C0 j (jl (by rw[da,fN];exact GA j) H)⟩
theorem Gi {R:RM} {D:Chs} {v:Value} {l:List Int} (n:Int) (h:RdI R D v l) (hl:l.length < 1000000000000):Ro Kt [v,I n] (I (BP l n)) R D:=by
 refine Qz λF=>?_
 refine z_2 ?_;obtain⟨H,h⟩:=h;refine jlp (λm W O N=>O = R/\N = D ++ F/\∃i:Nat,i<=l.length/\W = [v,I n,I i]/\m = l.length - i/\∀k (y:k < l.length),k < i->l[k]≠n)
  (n:=l.length) ⟨rfl,rfl,0,Z,rfl,Z,λk _ h=>Z⟩ ?_
 rintro m e R1 D1 K ⟨A,hD,i,hi,he,x,Bp⟩ Q;subst A;refine z_W ?_;refine Bf H (jlt (jif (λhc=>?_) (λhc=>?_)))
 .have hc:i < l.length:=by have:=z_f hc;omega
  refine h F i hc _ (jeq (jif (λj=>?_) (λj=>?_)))
  .refine BB ?_;have j:=eq_of_beq j;have x:n∈l:=by rw[<- j];exact dL hc
   unfold BP;rw[if_pos x,O4 hc j Bp]
  .have j:=ne_of_beq_false j;refine jad (Q (l.length - (i + 1)) _ _ _ Z ⟨rfl,rfl,i + 1,Z,rfl,rfl,λk y T=>?_⟩);by_cases c:k = i
   .subst c;exact j
   .exact Bp k y Z
 .have hc:¬ i < l.length:=by have:=z_g hc;omega
  refine BB ?_;have x:n ∉ l:=by
   intro x;obtain⟨k,y,G⟩:=dm x;exact Bp k y Z G
  unfold BP;rw[if_neg x]
theorem Gw {R:RM} {A E G:Chs} {l:List Int} {v:Value} {x:Int} {j t N:Nat} {k:Value->M} (T:SO l v A) (hl:l.length + 1 < 1000000000000)
  [s:Sp G A E] (H:∀D y,SO (l ++ [x]) D y->J R (y ++ E) (k D)):J R ((j,C t [I x]) :: G) (AP Ab 1 8 [I 0] v (S0 j 1 N) k):=by
 have O:((j,C t [I x]) :: G).Perm (A ++ ((j,C t [I x]) :: E)):=(s.p.cons _).trans dw.symm;refine B8 O ?_;have Q:BY R (A ++ ((j,C t [I x]) :: E)) (some ⟨j,0,none⟩) (1 * 1) ([x].map I):=BY.held (cs:=[I x]) (z_n 1);refine jas T rfl (by simpa using hl) Q λD y K=>(B8 dw (BV (H D y K)))
theorem LL {R:RM} {A:Chs} {v:Value} {l:List Int} (a:Int) (j:SO l v A) (hl:l.length < 1000000):Fn P OC [v,I a] R A (λG H x=>H = R/\SO (Bu l a) G x):=by
 refine Vw λF=>?_
 refine z_2 ?_;obtain⟨sa,sn,sc,Q⟩:=j.sl;refine jor [v,I a] ((a == 0) || (decide (BP l a>=0))) (λT y=>?_) (λe c u N he=>?_)
 .refine jeq (jgO y λh1 K=>jro (Gi a j.rd Z) (jge K))
 refine z_V ?_;rw[N];have O:decide (BP l a>=0) = decide (a∈l):=by
  unfold BP;by_cases c:a∈l
  .rw[if_pos c,decide_eq_true c,decide_eq_true Z]
  .rw[if_neg c,decide_eq_false c,decide_eq_false Z]
 rw[O];refine jif (λh0=>?_) (λh0=>?_)
 .simp only[du,beq_iff_eq,z_d] at h0;refine Ao (A:=A) (RM.le.refl R) ?_;unfold Bu;rw[if_pos h0];exact⟨rfl,j⟩
 .have h0:¬ (a = 0\/a∈l):=by simpa using h0
  refine jbs rfl rfl λW=>(Gw j Z λG x D=>(Ao (A:=x) (RM.le.refl R) ?_))
  unfold Bu;rw[if_neg h0];exact⟨rfl,D⟩
def PT (l:List AQ) (a:Int):Int:=match l.findIdx? λt=>t.at_ == a with | some i=>(i:Int) | none=>-1
theorem Do {R:RM} {D:Chs} {v:Value} {l:List AQ} (a:Int) (h:Tgs R v l) (hl:l.length < 1000000000000):Ro Mn [v,I a] (I (PT l a)) R D:=by
 refine SC λF=>?_
 refine z_2 ?_;refine jlp (λm vs O N=>O = R/\N = D ++ F/\∃i:Nat,i<=l.length/\vs = [v,I a,I i]/\m = l.length - i/\∀k (G:k < l.length),k < i->(l[k]).at_≠a)
  (n:=l.length) ⟨rfl,rfl,0,Z,rfl,Z,λk _ h=>Z⟩ ?_
 rintro m e R1 D1 K ⟨H,hD,i,hi,he,hm,Bp⟩ Q;subst H;refine z_W ?_;refine Bf h.sl (jlt (jif (λhc=>?_) (λhc=>?_)))
 .have hc:i < l.length:=by have:=z_f hc;omega
  refine jtg h hc λb o t cs rv nv _ _ hb ho A=>(jfo (jlr hb (Bm A rfl) (jeq (jif (λy=>?_) (λy=>?_)))))
  .refine BB ?_;have y:=eq_of_beq y;unfold PT;have:l.findIdx? (λt=>t.at_ == a) = some i:=by
    rw[List.findIdx?_eq_some_iff_getElem];exact⟨hc,by simpa using y,λj T=>by simpa using Bp j Z T⟩
   rw[this]
  .have y:=ne_of_beq_false y;refine jad (Q (l.length - (i + 1)) _ _ _ Z ⟨rfl,rfl,i + 1,Z,rfl,rfl,λk G W=>?_⟩);by_cases c:k = i
   .subst c;exact y
   .exact Bp k G Z
 .have hc:¬ i < l.length:=by have:=z_g hc;omega
  refine BB ?_;have:l.findIdx? (λt=>t.at_ == a) = none:=by
   rw[List.findIdx?_eq_none_iff];intro x hx;obtain⟨k,G,rfl⟩:=dm hx;have:=Bp k G Z;simpa using this
  unfold PT;rw[this]
theorem Ei {l:List AQ} {a:Int} {t:AQ} (h:Ax l a = some t):∃(i:Nat) (A:i < l.length),PT l a = i/\l[i] = t:=by
 unfold Ax at h;have G:(l.findIdx? λt=>t.at_ == a)≠none:=by
  intro D;rw[List.findIdx?_eq_none_iff] at D;have:=List.find?_some h;have K:=gV h;rw[D t K] at this;cases this
 cases A:l.findIdx? (λt=>t.at_ == a) with
 | none=>exact absurd A G
 | some i=>
  have x:=A;rw[List.findIdx?_eq_some_iff_getElem] at x;obtain⟨y,N,Bp⟩:=x;refine⟨i,y,by unfold PT;rw[A],?_⟩;have:l.find? (λt=>t.at_ == a) = some l[i]:=by
   rw[List.find?_eq_some_iff_getElem];exact⟨N,i,y,rfl,λj H=>by simpa using Bp j H⟩
  rw[this] at h;exact (dW _ _).mp h
theorem Fp {R:RM} {D:Chs} {v:Value} {l:List AQ} {a x:Int} (h:Tgs R v l) (hl:l.length < 1000000000000) (j:now l a = some x):Ro O7 [v,I a] (I x) R D:=by
 refine VR λF=>?_
 refine z_2 ?_;unfold now at j;refine jeq (jif (λh0=>?_) (λh0=>?_))
 .rw[if_pos (eq_of_beq h0)] at j;simp only[dW] at j;exact BB (by rw[j])
 .rw[if_neg (ne_of_beq_false h0)] at j;obtain⟨t,H,rfl⟩:=gA.1 j;obtain⟨i,A,G,rfl⟩:=Ei H;refine jro (Do a h hl) ?_;rw[G];refine jtg h A λb o t K rv nv _ _ hb N y=>(jfo (jlr hb (Bm y rfl) (BB rfl)))
def eSt (s:Sm.Ah) (wv tv mv thv ov pv:Value):List Value:=[wv,tv,mv,I s.Ae,.bool s.stop,.bool s.full,.bool s.Ap,I s.want,thv,ov,pv,I s.BE,I s.BK]
def Rgs (R:RM) (v:Value) (t:List Rg):Prop:=Fz R v 5 t.length (Ad eRg t)
def Bls (R:RM) (v:Value) (l:List Bool):Prop:=Fz R v 1 l.length (l.map Value.bool)
def Cd (R:RM) (row:List Value) (t:Th):Prop:=∃rv,row = [rv,I t.next,.bool t.busy,I t.Am]/\Ay R rv t.AD
def Ths (R:RM) (v:Value) (l:List Th):Prop:=∃rows,Rw (Cd R) rows l/\Fz R v 4 rows.length rows.flatten
structure StC (R:RM) (s:Sm.Ah) (wv tv mv thv ov pv:Value):Prop where
 w:Ay R wv s.AC
 t:Rgs R tv s.AA
 m:Bls R mv s.AM
 th:Ths R thv s.AB
 o:Ay R ov s.old
 p:Ay R pv s.AJ
theorem Cd.le {R j : RM} {row:List Value} {t:Th} (h:R.le j) (H:Cd R row t):Cd j row t:=by
 obtain⟨rv,x,y⟩:=H;exact⟨rv,x,y.le h⟩
theorem Cd.len {R:RM} {row:List Value} {t:Th} (H:Cd R row t):row.length = 4:=by obtain⟨rv,rfl,j⟩:=H;rfl
theorem Cd.flat {R:RM} {row:List Value} {t:Th} (H:Cd R row t):Bz row = true:=by
 obtain⟨rv,rfl,j⟩:=H;obtain⟨_,_,rfl⟩:=j.sl;rfl
theorem Ths.le {R j : RM} {v:Value} {l:List Th} (h:R.le j) (H:Ths R v l):Ths j v l:=by
 obtain⟨rows,x,y⟩:=H;exact⟨rows,x.mono λ_ _=>Cd.le h,y.le h⟩
theorem Ths.sl {R:RM} {v:Value} {l:List Th} (H:Ths R v l):∃a c,v = .slice a l.length c:=by
 obtain⟨rows,x,y⟩:=H;obtain⟨a,j,e,-⟩:=Fz.reads (D:=[]) y;exact⟨a,j,by rw[e,x.1]⟩
theorem Fz.sl {R:RM} {v:Value} {w n:Nat} {j:List Value} (H:Fz R v w n j):∃a c,v = .slice a n c:=by
 obtain⟨a,x,e,-⟩:=Fz.reads (D:=[]) H;exact⟨a,x,e⟩
theorem StC.le {R x : RM} {s:Sm.Ah} {wv A mv j y pv:Value} (h:R.le x) (H:StC R s wv A mv j y pv):StC x s wv A mv j y pv:=
 ⟨H.w.le h,Fz.le h H.t,Fz.le h H.m,H.th.le h,H.o.le h,H.p.le h⟩
theorem X0 (t:List Rg):∀r∈t.map eRg,r.length = 5:=by
 intro r j;obtain⟨x,_,rfl⟩:=dc.1 j;rfl
theorem jrg {R:RM} {D:Chs} {v:Value} {t:List Rg} {i:Nat} {k:Value->M} (h:Rgs R v t) (G:i < t.length)
  (H:∀b o x j,R b = some (C x j)->o + 5<=j.length->(j.drop o).take 5 = eRg t[i]->J R D (k (.pointer (some ⟨b,o,none⟩)))):J R D (IA 5 v (I (i:Int)) k):=by
 have A : Fz R v 5 (t.map eRg).length (t.map eRg).flatten:=by rw[dN];exact h
 obtain⟨b,o,y,x,j,rfl,hb,hl,hc⟩:=Js A (X0 t) (by simpa using G);refine jia Z (by rw[dN];omega) ?_;rw[dG];exact H b (o + i * 5) x j hb hl (by rw[hc,fQ])
theorem jtr {R:RM} {D:Chs} {v:Value} {l:List Th} {i:Nat} {k:Value->M} (h:Ths R v l) (G:i < l.length)
  (H:∀b o A j rv,Ay R rv (l[i]).AD->R b = some (C A j)->o + 4<=j.length->(j.drop o).take 4 = [rv,I (l[i]).next,.bool (l[i]).busy,I (l[i]).Am]->J R D (k (.pointer (some ⟨b,o,none⟩)))):J R D (IA 4 v (I (i:Int)) k):=by
 obtain⟨rows,y,N⟩:=h;have x : i < rows.length:=by rw[y.1];exact G
 obtain⟨b,o,K,A,j,rfl,hb,hl,hc⟩:=Js N (y.all λ_ _=>Cd.len) x;obtain⟨rv,e,r1⟩:=y.2 i x G;refine jia Z Z ?_;rw[dG];exact H b (o + i * 4) A j rv r1 hb hl (by rw[hc,e])
theorem QA {rows:List (List Value)} (h:∀r∈rows,Bz r = true):Bz rows.flatten = true:=by
 unfold Bz at h ⊢;rw[df];intro x j;obtain⟨r,y,j⟩:=List.mem_flatten.1 j;exact df.1 (h r y) x j
theorem RB {w:List Int}:∀{n:Nat} {a top:Int} {l:List AQ},Au w n a top = some l->l.length<=n
 | 0,a,top,l,h=>by
  unfold Au at h;split at h
  .cases h
  .cases h;simp
 | n + 1,a,top,l,h=>by
  unfold Au at h;split at h
  .dsimp only at h;split at h
   .split at h
    .rename_i x j;cases h;have:=RB j;simp;omega
    .cases h
   .cases h
  .cases h;simp
theorem TA {w:List Int} {r top:Int} {l:List AQ} (h:BU w r top = some l):l.length<=16:=by
 unfold BU at h;split at h
 .exact RB h
 .cases h
theorem IL {R:RM} {s:Sm.Ah} {wv W mv G T pv:Value} (h:StC R s wv W mv G T pv) (hw:s.AC.length < 1000000) (ht:s.AA.length < 1000000) :
  Fn P JY [.agg (eSt s wv W mv G T pv).toArray] R [] (λv H A=>A = []/\QTs (BJ s) v H):=by
 refine PB λF=>?_
 refine z_1 ?_;refine ja λb=>?_
 rw[show cl (.agg (eSt s wv W mv G T pv).toArray) = eSt s wv W mv G T pv from rfl];refine Ac (λvs H D'=>R.le H/\∃l v A,BJ s = some l/\(∃rows,Rw (ThC H) rows l/\SW BL 6 rows v A)/\D' = A ++ ((b,C AW (eSt s wv W mv G T pv)) :: ([] ++ F))/\vs = [v]) (λK hK=>?_) ?_;rotate_left
 .rintro e R1 D1 ⟨Q,l,v,A,hl,⟨rows,j,so⟩,hD,he⟩;refine z_W ?_;refine jfw so (j.all λ_ _=>ThC.len) λR2 D hfz=>(Ao (Q.trans D) ⟨rfl,?_⟩)
  rw[hl];exact⟨v,⟨rows,j.mono λ_ _=>ThC.le D,hfz⟩,rfl⟩
 refine jcI hK λK2 a2=>?_
 refine jlp (λm vs H D'=>R.le H/\∃(i:Nat) (l:List AQ) (v:Value) (A:Chs) (rows:List (List Value)),1<=i/\i<=s.AA.length + 1/\l.length<=16 * i/\(match Bc s.AC i (s.AA.drop i) with | none=>none | some l2=>some (l ++ l2)) = BJ s/\Rw (ThC H) rows l/\SW BL 6 rows v A/\D' = A ++ ((b,C AW (eSt s wv W mv G T pv)) :: ([] ++ F))/\vs = [Pt b,v,I i]/\m = s.AA.length + 1 - i)
  (n:=s.AA.length) ⟨RM.le.refl R,1,[],SN,[],[],Z,Z,V,by unfold BJ;rw[List.drop_one];cases Bc s.AC 1 s.AA.tail<;>rfl,Rw.nil,.inl ⟨rfl,rfl,rfl⟩,rfl,rfl,Z⟩ ?_
 rintro m e R1 D1 K3 ⟨Q,i,l,v,A,rows,a7,a8,b0,x,j,so,hD,he,hm⟩ a3;refine z_W ?_;have h1:=h.le Q;refine jl rfl (Bf h1.t.sl (jlt (jif (λhc=>?_) (λhc=>?_))));rotate_left
 .have hc:=z_g hc;refine a2 _ _ _ ⟨Q,l,v,A,?_,⟨rows,j,so⟩,rfl,rfl⟩;rw[<- x,dT Z];simp[Bc]
 have hc:i < s.AA.length:=by have:=z_f hc;omega
 rw[dQ hc] at x;unfold Bc at x;refine jl rfl (jl rfl (jrg h1.t hc λb2 o2 ty cs hb ho a1=>(jfo (jlr hb (Bm a1 rfl) (jc (TD i (s.AA[i]).top h1.w Z) ?_)))));rintro _ R2 _ D ⟨rfl,hq⟩;cases N:BU s.AC i (s.AA[i]).top with
 | none=>
  rw[N] at hq x;subst hq;refine jex rfl (jex rfl (DG (Ao (Q.trans D) ⟨rfl,?_⟩)));rw[<- x];exact rfl
 | some l1=>
  rw[N] at hq x;obtain⟨b3,⟨O,y,a0⟩,rfl⟩:=hq;refine Pa (jex rfl (jex rfl (CQ ?_)));obtain⟨xa,cx,a4,hx⟩:=Fz.reads a0;rw[a4];have b1:=j.1;have a6:=y.1;have a9:=TA N;refine jaw so (j.all λ_ _=>ThC.len) (y.all λ_ _=>ThC.len) rfl (QA (y.all λ_ _=>ThC.flat)) rfl δ Z hx λv' A' a5=>(jad (a3 (s.AA.length + 1 - (i + 1)) _ _ _ Z ⟨Q.trans D,i + 1,l ++ l1,v',A',rows ++ O,Z,Z,by rw[dK];omega,?_,(j.mono λ_ _=>ThC.le D).app y,a5,rfl,rfl,rfl⟩))
  rw[<- x];cases Bc s.AC (i + 1) (s.AA.drop (i + 1)) with
  | none=>rfl
  | some l2=>simp
theorem Lr {R:RM} {D:Chs} {s:Sm.Ah} {wv y mv j x pv:Value} (r:Int) (h:StC R s wv y mv j x pv) (Q:∀a∈s.AJ,AN a<=9223372036854775807) (hl:s.AJ.length < 1000000) :
  Ro MU [.agg (eSt s wv y mv j x pv).toArray,I r] (.bool (Aj s.AJ r)) R D:=by
 refine TW λF=>?_
 refine z_2 ?_;refine ja λb=>?_
 rw[show cl (.agg (eSt s wv y mv j x pv).toArray) = eSt s wv y mv j x pv from rfl];refine jlp (λm T N H=>N = R/\H = (b,C AW (eSt s wv y mv j x pv)) :: (D ++ F)/\∃i:Nat,i<=s.AJ.length/\T = [I r,Pt b,I i]/\m = s.AJ.length - i/\Aj (s.AJ.drop i) r = Aj s.AJ r)
  (n:=s.AJ.length) ⟨rfl,rfl,0,Z,rfl,Z,by rw[fG]⟩ ?_
 rintro m e R1 W K ⟨A,hD,i,hi,he,hm,Bp⟩ O;subst A;refine z_W ?_;refine jl rfl (Bf h.p.sl (jlt (jif (λhc=>?_) (λhc=>?_))))
 .have hc:i < s.AJ.length:=by have:=z_f hc;omega
  refine jl rfl (Bk h.p Z Z ?_);rw[getElem_congr_idx (dG i)];rw[dQ hc] at Bp;refine jp (Cf _ (Q _ (dL hc))) (jeq (jif (λG=>?_) (λG=>?_)))
  .refine BB ?_;rw[<- Bp];unfold Aj;rw[List.any_cons,G,fW]
  .refine jad (O (s.AJ.length - (i + 1)) _ _ _ Z ⟨rfl,rfl,i + 1,Z,rfl,rfl,?_⟩);rw[<- Bp];unfold Aj;rw[List.any_cons,G,eU]
 .have hc:¬ i < s.AJ.length:=by have:=z_g hc;omega
  refine BB ?_;rw[<- Bp,dT Z];rfl
theorem LV (had:List Int) (a:Int):had.length<=(Bu had a).length:=by
 unfold Bu;split<;>simp
theorem EG {l:List AQ}:∀{A j r:List Int},Aq l A j = some r->j.length<=r.length
 | [],j,r,h=>by cases h;exact z_n _
 | x :: A,j,r,h=>by
  unfold Aq at h;obtain⟨y,_,h⟩:=AG h;have:=EG h;have:=LV j y;omega
theorem J0 {l:List AQ}:∀{D:List Th} {j r:List Int},ED l D j = some r->j.length<=r.length
 | [],j,r,h=>by cases h;exact z_n _
 | x :: xs,j,r,h=>by
  unfold ED at h;obtain⟨y,A,h⟩:=AG h;have:=EG A;have:=J0 h;omega
theorem Mq:∀(x j:List Int),j.length<=(x.foldl Bu j).length
 | [],j=>z_n _
 | p :: x,j=>by
  have y:=LV j p;have A:=Mq x (Bu j p);rw[gJ];omega
theorem He {l:List AQ}:∀{n i:Nat} {out r:List Int},BI l n i out = some r->out.length<=r.length/\r.length + 1<=i + n
 | 0,i,out,r,h=>by cases h
 | n + 1,i,out,r,h=>by
  unfold BI at h;split at h
  .rename_i x;cases h;have:=List.getElem?_eq_none_iff.1 x;exact⟨z_n _,Z⟩
  .obtain⟨t,_,h⟩:=AG h;obtain⟨y,j,h⟩:=AG h;have:=EG j;obtain⟨A,D⟩:=He h;exact⟨Z,Z⟩
theorem Hf {s:Sm.Ah} {l:List AQ} {r:List Int} (h:Dg s l = some r):r.length<=l.length + 1:=by
 unfold Dg at h;obtain⟨y,_,h⟩:=AG h;have:=(He h).2;omega
theorem Ue {acc:List Int} {x:Int} {R:RM} {D:Chs} {v:Value} {A:Chs} (c:((x != 0) && decide (BP acc x < 0)) = false) (y:SO acc v A):SO (Bu acc x) v A:=by
 unfold Bu;rw[if_pos]
 .exact y
 .unfold BP at c;by_cases h:x = 0
  .exact .inl h
  .by_cases j:x∈acc
   .exact .inr j
   .rw[if_neg j] at c;simp[h] at c
theorem Nx {acc:List Int} {x:Int} (c:((x != 0) && decide (BP acc x < 0)) = true):Bu acc x = acc ++ [x]:=by
 unfold Bu;rw[if_neg];simp only[z_b,bne_iff_ne,ne_eq,z_d] at c;rintro (h | h)
 .exact c.1 h
 .unfold BP at c;rw[if_pos h] at c;omega
theorem Ky {R:RM} {s:Sm.Ah} {wv tv mv a3 ov pv lv:Value} {l:List AQ} {AI:List Int} (h:StC R s wv tv mv a3 ov pv) (a9:Tgs R lv l) (e7:l.length < 900000) (hr:Dg s l = some AI) (hn:s.AB.length < 1000000) (e2:∀t∈s.AB,t.AD.length < 1000000000) (e8:s.AJ.length < 1000000) (e1:∀t∈l,t.refs.length < 1000000000) :
  Fn P I7 [.agg (eSt s wv tv mv a3 ov pv).toArray,lv] R [] (λv _ A=>SO AI v A):=by
 refine NK λF=>?_
 refine z_2 ?_;have hlen:=Hf hr;unfold Dg at hr;obtain⟨a1,c7,c0⟩:=AG hr;have d2:=(He c0).1;have d1:=Mq s.AJ a1;refine ja λb=>?_
 rw[show cl (.agg (eSt s wv tv mv a3 ov pv).toArray) = eSt s wv tv mv a3 ov pv from rfl];generalize hE:((b,C AW (eSt s wv tv mv a3 ov pv)) :: ([] ++ F)) = E;have ea:At E b (C AW (eSt s wv tv mv a3 ov pv)):=by rw[<- hE];exact inferInstance
 have ef:Sf E F:=by rw[<- hE];exact inferInstance
 refine Ac (λvs W T=>W = R/\∃v A,SO a1 v A/\T = A ++ E/\vs = [lv,Pt b,v]) (λK hK=>?_) ?_
 .refine jcI hK λK2 a4=>?_
  refine jlp (λm vs W T=>W = R/\∃(i:Nat) (y:List Int) (v:Value) (A:Chs),i<=s.AB.length/\ED l (s.AB.drop i) y = some a1/\SO y v A/\T = A ++ E/\vs = [lv,Pt b,v,I i]/\m = s.AB.length - i)
   (n:=s.AB.length) ⟨rfl,0,[],SN,[],Z,c7,.inl ⟨rfl,rfl,rfl⟩,rfl,rfl,Z⟩ ?_
  rintro m e R1 D1 K3 ⟨hR,i,y,v,A,hi,H,O,hD,he,hm⟩ a5;subst hR;refine z_W ?_;clear hD;refine jl rfl (Bf h.th.sl (jlt (jif (λhc=>?_) (λhc=>?_))));rotate_left
  .have hc:=z_g hc;rw[dT Z] at H;cases H;exact a4 _ _ _ ⟨rfl,v,A,O,rfl,rfl⟩
  have hc:i < s.AB.length:=by have:=z_f hc;omega
  rw[dQ hc] at H;unfold ED at H;obtain⟨Q,N,H⟩:=AG H;have b9:=J0 H;have e9:=e2 _ (dL hc);refine Ac (λvs W T=>W = R1/\∃v A,SO Q v A/\T = A ++ E/\vs = [lv,Pt b,v,I i]) (λK4 b4=>?_) ?_;rotate_left
  .rintro e R2 D2 ⟨hR,v,A,O,hD,he⟩;subst hR;refine z_W ?_;clear hD;refine jad (a5 (s.AB.length - (i + 1)) _ _ _ Z ⟨rfl,i + 1,Q,v,A,Z,H,O,rfl,rfl,rfl⟩)
  refine jcI b4 λK5 b5=>?_
  refine jcI b5 λK6 b6=>?_
  refine jlp (λm vs W T=>W = R1/\∃(j:Nat) (y:List Int) (v:Value) (A:Chs),j<=(s.AB[i]).AD.length/\Aq l ((s.AB[i]).AD.drop j) y = some Q/\SO y v A/\T = A ++ E/\vs = [lv,Pt b,v,I i,I j]/\m = (s.AB[i]).AD.length - j)
   (n:=(s.AB[i]).AD.length) ⟨rfl,0,y,v,A,Z,N,O,rfl,rfl,Z⟩ ?_
  clear N O;rintro m e R2 D2 K7 ⟨hR,j,y,v,A,hj,N,O,hD,he,hm⟩ b7;subst hR;refine z_W ?_;clear hD;have c5:=EG N;refine jl rfl (jtr h.th hc λb2 o2 ty cs rv a2 hb ho a0=>(jfo (jlr hb (Bm a0 rfl) (Bf a2.sl (jlt (jif (λhd=>?_) (λhd=>?_)))))));rotate_left
  .have hd:=z_g hd;rw[dT Z] at N;cases N;exact b6 _ _ _ ⟨rfl,v,A,O,rfl,rfl⟩
  have hd:j < (s.AB[i]).AD.length:=by have:=z_f hd;omega
  rw[dQ hd] at N;unfold Aq at N;obtain⟨x,hx,N⟩:=AG N;refine Ac (λvs W T=>W = R2/\∃v A,SO (Bu y x) v A/\T = A ++ E/\vs = [lv,Pt b,v,I i,I j]) (λK8 b8=>?_) ?_;rotate_left
  .rintro e R3 D3 ⟨hR,v,A,O,hD,he⟩;subst hR;refine z_W ?_;clear hD;refine jad (b7 ((s.AB[i]).AD.length - (j + 1)) _ _ _ Z ⟨rfl,j + 1,_,v,A,Z,N,O,rfl,rfl,rfl⟩)
  refine jcI b8 λK9 a6=>?_
  refine jl rfl (jtr h.th hc λb2 o2 ty cs rv a2 hb ho a0=>(jfo (jlr hb (Bm a0 rfl) (Bk a2 Z Z ?_))));rw[getElem_congr_idx (dG j)];refine jro (Fp a9 Z hx) ?_;obtain⟨sa,sn,sc,c4⟩:=O.sl;refine jan [lv,Pt b,v,I i,I j,I x] (((x != 0)) && (decide (BP y x < 0))) (λK' b0=>?_) (λe c u ho he=>?_)
  .refine jne (jgA b0 λh1 hN=>jro (Gi x O.rd Z) (jlt hN))
  refine z_V ?_;rw[ho];refine jif (λh0=>?_) (λh0=>?_)
  .refine jbs rfl rfl λb1=>(Gw O Z λv' A' a8=>(a6 _ _ _ ⟨rfl,v',A',by rw[Nx h0];exact a8,rfl,rfl⟩))
  .exact a6 _ _ _ ⟨rfl,v,A,Ue (R:=R2) (D:=[]) h0 O,rfl,rfl⟩
 rintro e R1 D1 ⟨hR,v,A,O,hD,he⟩;subst hR;refine z_W ?_;clear hD;generalize d4:s.AJ.foldl Bu a1 = a7 at c0 d2 d1;refine Ac (λvs W T=>W = R1/\∃v A,SO a7 v A/\T = A ++ E/\vs = [lv,v]) (λK hK=>?_) ?_
 .refine jcI hK λK2 a4=>?_
  refine jlp (λm vs W T=>W = R1/\∃(i:Nat) (y:List Int) (v:Value) (A:Chs),i<=s.AJ.length/\(s.AJ.drop i).foldl Bu y = a7/\SO y v A/\T = A ++ E/\vs = [lv,Pt b,v,I i]/\m = s.AJ.length - i)
   (n:=s.AJ.length) ⟨rfl,0,a1,v,A,Z,d4,O,rfl,rfl,Z⟩ ?_
  rintro m e R1 D1 K3 ⟨hR,i,y,v,A,hi,H,O,hD,he,hm⟩ a5;subst hR;refine z_W ?_;clear hD;refine jl rfl (Bf h.p.sl (jlt (jif (λhc=>?_) (λhc=>?_))));rotate_left
  .have hc:=z_g hc;rw[dT Z,List.foldl_nil] at H;subst H;exact a4 _ _ _ ⟨rfl,v,A,O,rfl,rfl⟩
  have hc:i < s.AJ.length:=by have:=z_f hc;omega
  rw[dQ hc,gJ] at H;have b9:=Mq (s.AJ.drop (i + 1)) (Bu y s.AJ[i]);have c5:=LV y s.AJ[i];rw[H] at b9;refine jl rfl (Bk h.p Z Z ?_);rw[getElem_congr_idx (dG i)];refine jc (LL _ O Z) ?_;rintro v' R2 A' e4 ⟨c9,a8⟩;subst c9;refine jad (a5 (s.AJ.length - (i + 1)) _ _ _ Z ⟨rfl,i + 1,_,v',A',Z,H,a8,rfl,rfl,rfl⟩)
 clear O c7;rintro e R2 D2 ⟨hR,v,A,O,hD,he⟩;subst hR;refine z_W ?_;clear hD;refine Ac (λvs W T=>W = R2/\∃v A,SO AI v A/\T = A ++ E/\vs = [v]) (λK hK=>?_) ?_;rotate_left
 .rintro e R3 D3 ⟨hR,v,A,O,hD,he⟩;subst hR;refine z_W ?_;clear hD;exact Ao (RM.le.refl R3) O
 refine jcI hK λK2 a4=>?_
 refine jlp (λm vs W T=>W = R2/\∃(k:Nat) (y:List Int) (v:Value) (A:Chs),BI l m k y = some AI/\SO y v A/\T = A ++ E/\vs = [lv,v,I k])
  ⟨rfl,0,a7,v,A,c0,O,rfl,rfl⟩ ?_
 clear O;rintro m e R3 D3 K3 ⟨hR,i,y,v,A,H,O,hD,he⟩ a5;subst hR;refine z_W ?_;clear hD;obtain⟨b9,c5⟩:=He H;obtain⟨m,rfl⟩:∃k,m = k + 1:=by
  cases m with
  | zero=>cases H
  | succ m=>exact⟨m,rfl⟩
 unfold BI at H;obtain⟨c4,c8⟩:=O.rd;refine Bf c4 (jlt (jif (λhc=>?_) (λhc=>?_)));rotate_left
 .have hc:=z_g hc;rw[eT Z] at H;cases H;exact a4 _ _ _ ⟨rfl,v,A,O,rfl,rfl⟩
 have hc:i < y.length:=by have:=z_f hc;omega
 rw[dH hc] at H;obtain⟨t,ht,H⟩:=AG H;obtain⟨Q,N,H⟩:=AG H;have e5:=(He H).1;refine Ac (λvs W T=>W = R3/\∃v A,SO Q v A/\T = A ++ E/\vs = [lv,v,I i]) (λK4 b4=>?_) ?_;rotate_left
 .rintro e R2 D2 ⟨hR,v,A,O,hD,he⟩;subst hR;refine z_W ?_;clear hD;refine jad (a5 m _ _ _ Z ⟨rfl,i + 1,Q,v,A,H,O,rfl,rfl⟩)
 refine jcI b4 λK5 b5=>?_
 refine B8 (by rw[eD]) (c8 [] i hc _ ?_);rw[eD];obtain⟨n,c6,hp,rfl⟩:=Ei ht;refine jro (Do _ a9 Z) ?_;rw[hp];refine jtg a9 c6 λb2 o2 ty cs rv nv a2 d3 hb ho a0=>?_
 have e3:=e1 _ (dL c6);obtain⟨ra,rc,rfl⟩:=a2.sl;obtain⟨na,nc,rfl⟩:=d3.sl;refine DR hb ho a0 (ja λb3=>(js rfl rfl (by exact z_n 6) rfl (B8 dw.symm (Ac (λvs W T=>W = R3/\∃v A,SO Q v A/\T = A ++ E/\vs = [lv,v,I i]) (λK6 b6=>?_) ?_))));rotate_left
 .rintro e R2 D2 ⟨hR,v,A,O,hD,he⟩;refine z_W ?_;clear hD;exact b5 _ _ _ ⟨hR,v,A,O,rfl,rfl⟩
 refine jlp (λm vs W T=>W = R3/\∃(j:Nat) (y:List Int) (v:Value) (A:Chs),j<=(l[n]).refs.length/\Aq l ((l[n]).refs.drop j) y = some Q/\SO y v A/\T = A ++ ((b3,C BL (eTh l[n] (.slice ra l[n].refs.length rc) (.slice na l[n].nums.length nc))) :: E)/\vs = [lv,v,I i,Pt b3,I j]/\m = (l[n]).refs.length - j)
  (n:=(l[n]).refs.length) ⟨rfl,0,y,v,A,Z,N,O,rfl,rfl,Z⟩ ?_
 clear N O c8;rintro m2 e R2 D2 K7 ⟨hR,j,y,v,A,hj,N,O,hD,he,hm⟩ b7;subst hR;refine z_W ?_;clear hD;have e6:=EG N;refine jl rfl (jln (jlt (jif (λhd=>?_) (λhd=>?_))));rotate_left
 .have hd:=z_g hd;rw[dT Z] at N;cases N;refine Al A (G:=E) (b6 _ _ _ ⟨rfl,v,A,O,rfl,rfl⟩)
 have hd:j < (l[n]).refs.length:=by have:=z_f hd;omega
 rw[dQ hd] at N;unfold Aq at N;obtain⟨x,hx,N⟩:=AG N;refine Ac (λvs W T=>W = R2/\∃v A,SO (Bu y x) v A/\T = A ++ ((b3,C BL (eTh l[n] (.slice ra l[n].refs.length rc) (.slice na l[n].nums.length nc))) :: E)/\vs = [lv,v,I i,Pt b3,I j]) (λK8 b8=>?_) ?_;rotate_left
 .rintro e R3 D3 ⟨hR,v,A,O,hD,he⟩;subst hR;refine z_W ?_;clear hD;refine jad (b7 ((l[n]).refs.length - (j + 1)) _ _ _ Z ⟨rfl,j + 1,_,v,A,Z,N,O,rfl,rfl,rfl⟩)
 refine jcI b8 λK9 a6=>?_
 refine jl rfl (Bk a2 Z Z ?_);rw[getElem_congr_idx (dG j)];refine jro (Fp a9 Z hx) ?_;obtain⟨sa,sn,sc,c4⟩:=O.sl;refine jan [lv,v,I i,Pt b3,I j,I x] (((x != 0)) && (decide (BP y x < 0))) (λK' b0=>?_) (λe c u ho he=>?_)
 .refine jne (jgA b0 λh1 hN=>jro (Gi x O.rd Z) (jlt hN))
 refine z_V ?_;rw[ho];refine jif (λh0=>?_) (λh0=>?_)
 .refine jbs rfl rfl λb1=>(Gw O Z λv' A' a8=>(a6 _ _ _ ⟨rfl,v',A',by rw[Nx h0];exact a8,rfl,rfl⟩))
 .exact a6 _ _ _ ⟨rfl,v,A,Ue (R:=R2) (D:=[]) h0 O,rfl,rfl⟩
theorem XW {R:RM} {A E:Chs} {l:List Int} {v:Value} {x:Int} {i:Nat} {m:M} (D:SO l v A) (j:i < l.length) (H:∀y,SO (l.set i x) v y->J R (y ++ E) m):J R (A ++ E) (IA 1 v (I (i:Int)) λq=>ST 1 q (I x) m):=by
 rcases D with ⟨rfl,_,_⟩ | ⟨b,c,sp,hc,hsp,rfl,rfl⟩
 .exact absurd j V
 .refine C0 j (jsi j (H _ (.inr ⟨b,c,sp,by simpa using hc,by simpa using hsp,by rw[eG],rfl⟩)))
theorem Qj (l:List Int) (x:Int):(HM l x).length = l.length + 1:=by
 unfold HM;have:∀k,EH l x k<=k:=by
  intro k;induction k with
  | zero=>exact z_n 0
  | succ k j=>unfold EH;split<;>omega
 have:=this l.length;simp only[dK,dU,dR,eO];omega
theorem En:∀(l j:List Int),(l.foldl HM j).length = j.length + l.length
 | [],j=>V
 | a :: r,j=>by rw[gJ,En r,Qj];simp;omega
theorem Tl {R:RM} {v:Value} {l:List Int} (h:Ay R v l) (hl:l.length < 1000000):Fn P J3 [v] R [] (λN W A=>W = R/\SO (Aa l) N A):=by
 refine OZ λF=>?_
 refine z_1 ?_;refine Ac (λvs W D'=>W = R/\∃N A,SO (Aa l) N A/\D' = A ++ F/\vs = [N]) (λK hK=>?_) ?_;rotate_left
 .rintro e R3 D3 ⟨hR,N,A,Q,hD,he⟩;subst hR;refine z_W ?_;clear hD;exact Ao (RM.le.refl R3) ⟨rfl,Q⟩
 refine jcI hK λK2 a6=>?_
 refine jlp (λm vs W D'=>W = R/\∃(k:Nat) (j:List Int) (N : Value) (A:Chs),k<=l.length/\j.length = k/\(l.drop k).foldl HM j = Aa l/\SO j N A/\D' = A ++ F/\vs = [v,N,I k]/\m = l.length - k)
  (n:=l.length) ⟨rfl,0,[],SN,[],Z,rfl,rfl,.inl ⟨rfl,rfl,rfl⟩,rfl,rfl,Z⟩ ?_
 rintro m e R1 D1 K3 ⟨hR,k,j,N,A,hk,b0,a0,Q,hD,he,hm⟩ a7;subst hR;refine z_W ?_;clear hD;refine Bf h.sl (jlt (jif (λhc=>?_) (λhc=>?_)));rotate_left
 .have hc:=z_g hc;rw[dT Z,List.foldl_nil] at a0;subst a0;exact a6 _ _ _ ⟨rfl,N,A,Q,rfl,rfl⟩
 have hc:k < l.length:=by have:=z_f hc;omega
 rw[dQ hc,gJ] at a0;refine Ac (λvs W D'=>W = R1/\∃N A,SO (HM j l[k]) N A/\D' = A ++ F/\vs = [v,N,I k]) (λK4 a8=>?_) ?_;rotate_left
 .rintro e R2 D2 ⟨hR,N,A,Q,hD,he⟩;subst hR;refine z_W ?_;clear hD;refine jad (a7 (l.length - (k + 1)) _ _ _ Z ⟨rfl,k + 1,_,N,A,Z,by rw[Qj,b0],a0,Q,rfl,rfl,rfl⟩)
 refine jcI a8 λK5 a1=>?_
 obtain⟨b3,-⟩:=Q.rd (R:=R1) (E:=F);refine Bf b3 (Bk h Z Z ?_);rw[getElem_congr_idx (dG k)];generalize l[k] = x at a1;refine jbs rfl rfl λb1=>(Gw Q Z λv2 A2 a4=>(Ac (λvs W D'=>W = R1/\∃N A,SO (HM j x) N A/\D' = A ++ F/\vs = [v,N,I k]) (λK6 a2=>?_) ?_))
 rotate_left
 .rintro e R2 D2 ⟨hR,N,A,Q,hD,he⟩;refine z_W ?_;clear hD;exact a1 _ _ _ ⟨hR,N,A,Q,rfl,rfl⟩
 refine jlp (λm vs W D'=>W = R1/\∃(i:Nat) (D:List Int) (A:Chs),i<=j.length/\D = j.take i ++ x :: j.drop i/\EH j x i = EH j x j.length/\SO D v2 A/\D' = A ++ F/\vs = [v,v2,I k,I i]/\m = i)
  ⟨rfl,j.length,j ++ [x],A2,Z,V,rfl,a4,rfl,rfl,rfl⟩ ?_
 clear Q a4;rintro m2 e R2 D2 K7 ⟨hR,i,D,A,hi,G,a3,Q,hD,he,hm⟩ a9;subst hR;refine z_W ?_;clear hD;have b5:D.length = j.length + 1:=by rw[G];simp;omega
 obtain⟨-,b2⟩:=Q.rd;have T : ∀(i:Nat) (h:i < D.length) (k:Value->M),J R2 (A ++ F) (k (I D[i]))->J R2 (A ++ F) (IA 1 v2 (I (i:Int)) λx=>L1 x k):=λi h k H=>by
  have:=b2 [] i h k (by rw[eD];exact H);rw[eD] at this;exact this
 have gi:D[i]'(Z) = x:=by
  subst G;rw[fD (by simp;omega)];simp[Nat.min_eq_left hi]
 cases i with
 | zero=>
  refine Ce (jgr ?_);rw[decide_eq_false δ];refine jft (C5 λe he=>?_);refine z_V ?_;refine F5 (CQ (a2 _ _ _ ⟨rfl,v2,A,?_,rfl,rfl⟩));have:HM j x = D:=by
   unfold HM;rw[<- a3,G];rfl
  rw[this];exact Q
 | succ i=>
  have gp:D[i]'(Z) = j[i]'(Z):=by
   subst G;rw[fj (by simp;omega),fy]
  obtain⟨y,hy⟩:∃y,j[i]'(Z) = y:=⟨_,rfl⟩;rw[hy] at gp;have es:((i + 1:Nat):Int) - 1 = (i:Nat):=Z
  have O:(if x < j.getD i 0 then EH j x i else i + 1) = EH j x j.length:=a3;rw[dI,dH Z,eI,hy] at O;refine Ce (jgr ?_);rw[decide_eq_true Z];refine jtt (jsu ?_);rw[es];refine T i Z _ (T (i + 1) Z _ (jgr (C5 λe he=>?_)));refine z_V ?_;rw[gp,gi];refine EP (jif (λh1=>?_) (λh1=>?_))
  .have h1:x < y:=z_f h1;rw[if_pos h1] at O;refine jsu ?_;rw[es];refine T i Z _ (jsu ?_);rw[es];refine T (i + 1) Z _ (XW Q Z λA3 b4=>(XW b4 (by rw[eG];omega) λA4 a5=>(jsu ?_)));rw[es];rw[gp,gi] at a5;refine a9 i _ _ _ Z ⟨rfl,i,_,A4,Z,?_,O,a5,rfl,rfl,rfl⟩;have e1:j.take (i + 1) = j.take i ++ [y]:=by rw[dJ Z,hy]
   have e2:j.drop i = y :: j.drop (i + 1):=by rw[dQ Z,hy]
   have l1:(j.take i).length = i:=by simp;omega
   rw[G,e1,e2,dS,fH _ _ Z,fH _ _ Z,l1];simp
  .have h1:¬ x < y:=z_g h1;rw[if_neg h1] at O;refine a2 _ _ _ ⟨rfl,v2,A,?_,rfl,rfl⟩;have:HM j x = D:=by
    unfold HM;rw[<- O,G]
   rw[this];exact Q
def TB (l:List AQ):Prop:=∀t∈l,0<=t.at_/\t.at_ < 1000000/\t.refs.length<=4/\t.nums.length<=4
theorem bK {w:List Int} {a:Int} (hl:w.length < 1000000) (h:(As w a).2 = true):0<=(As w a).1.at_/\(As w a).1.at_ < 1000000/\(As w a).1.refs.length<=4/\(As w a).1.nums.length<=4:=by
 unfold As at h ⊢;split at h
 .rename_i x;rw[if_pos x];dsimp only at h ⊢;split at h
  .rename_i j;rw[if_pos j];simp only[z_b] at j;have:=GD j.1;have:=FM x;dsimp only;refine⟨Z,Z,?_,?_⟩
   .unfold seg;rw[dU];omega
   .unfold seg;rw[dU];omega
  .exact absurd h δ
 .exact absurd h δ
theorem Ub {w:List Int} (hl:w.length < 1000000):∀{n:Nat} {a top:Int} {l:List AQ},Au w n a top = some l->TB l
 | 0,a,top,l,h=>by
  unfold Au at h;split at h
  .cases h
  .cases h;intro t j;cases j
 | n + 1,a,top,l,h=>by
  unfold Au at h;split at h
  .dsimp only at h;split at h
   .rename_i hc;simp only[z_b] at hc;split at h
    .rename_i y x;cases h;intro t j;rcases dX.1 j with rfl | j
     .exact bK hl hc.1
     .exact Ub hl x t j
    .cases h
   .cases h
  .cases h;intro t j;cases j
theorem NF {w:List Int} (hl:w.length < 1000000):∀{t:List Rg} {r:Nat} {l:List AQ},Bc w r t = some l->TB l/\l.length<=16 * t.length
 | [],r,l,h=>by
  cases h;exact⟨λt j=>(by cases j),V⟩
 | x :: t,r,l,h=>by
  unfold Bc at h;split at h
  .cases h
  .rename_i a y;split at h
   .cases h
   .rename_i b hb;cases h;obtain⟨A,G⟩:=NF hl hb;have H:=TA y;have D:TB a:=by
     unfold BU at y;split at y
     .exact Ub hl y
     .cases y
    refine⟨λt j=>?_,by rw[dK,dR];omega⟩;rcases dg.1 j with j | j
    .exact D t j
    .exact A t j
theorem ES {w w' : List Int} {a v:Int} (h:Sm.wr w a v = some w'):0<=a/\a < w.length/\w' = w.set a.toNat v:=by
 unfold Sm.wr at h;split at h
 .rename_i hc;cases h;exact⟨hc.1,hc.2,rfl⟩
 .cases h
theorem Xn {R:RM} {s:Sm.Ah} {wv tv mv G ov pv lv:Value} {l:List AQ} {w w' : List Int} {t t' : List Rg} {wsp tsp:List Value} {bw cw bt ct:Nat} (h:StC R s wv tv mv G ov pv) (a4:Tgs R lv l) (e1:TB l) (f1:l.length < 1000000)
  (hp:∀a∈s.AJ,AN a<=9223372036854775807) (d3:s.AJ.length < 1000000) (j:stay s l w t = some (w',t')) :
  Fn P Me [.agg (eSt s wv tv mv G ov pv).toArray,lv,S0 bw w.length cw,S0 bt t.length ct] R
   [(bw,C Ab (w.map I ++ wsp)),(bt,C AO (Ad eRg t ++ tsp))] (λ_ T A=>T = R/\w'.length = w.length/\t'.length = t.length/\A = [(bw,C Ab (w'.map I ++ wsp)),(bt,C AO (Ad eRg t' ++ tsp))]):=by
 refine TP λF=>?_
 refine z_4 ?_;refine ja λb=>?_
 rw[show cl (.agg (eSt s wv tv mv G ov pv).toArray) = eSt s wv tv mv G ov pv from rfl];refine jlp (λm vs T D'=>T = R/\∃(i:Nat) (w1:List Int) (t1:List Rg),i<=l.length/\w1.length = w.length/\t1.length = t.length/\stay s (l.drop i) w1 t1 = some (w',t')/\D' = (b,C AW (eSt s wv tv mv G ov pv)) :: (bw,C Ab (w1.map I ++ wsp)) :: (bt,C AO (Ad eRg t1 ++ tsp)) :: F/\vs = [lv,S0 bw w.length cw,S0 bt t.length ct,Pt b,I i]/\m = l.length - i)
  (n:=l.length) ⟨rfl,0,w,t,Z,rfl,rfl,j,rfl,rfl,Z⟩ ?_
 clear j;rintro m e R1 D1 K ⟨hR,i,w1,t1,hi,c0,a6,j,hD,he,hm⟩ hK;subst hR;refine z_W ?_;clear hD;refine Bf a4.sl (jlt (jif (λhc=>?_) (λhc=>?_)));rotate_left
 .have hc:=z_g hc;rw[dT Z] at j;cases j;refine Ao (RM.le.refl R1) ⟨rfl,c0,a6,rfl⟩
 have hc:i < l.length:=by have:=z_f hc;omega
 rw[dQ hc] at j;obtain⟨a0,a1,r1,n1⟩:=e1 _ (dL hc);unfold stay at j;dsimp only at j;have b5:AN (l[i]).at_<=9223372036854775807:=by unfold AN;split<;>omega
 refine Ac (λvs T D'=>T = R1/\∃(w2:List Int) (t2:List Rg),w2.length = w.length/\t2.length = t.length/\stay s (l.drop (i + 1)) w2 t2 = some (w',t')/\D' = (b,C AW (eSt s wv tv mv G ov pv)) :: (bw,C Ab (w2.map I ++ wsp)) :: (bt,C AO (Ad eRg t2 ++ tsp)) :: F/\vs = [lv,S0 bw w.length cw,S0 bt t.length ct,Pt b,I i]) (λK4 c4=>?_) ?_;rotate_left
 .rintro e R2 D2 ⟨hR,w2,t2,Q,b9,c8,hD,he⟩;subst hR;refine z_W ?_;clear hD;refine jad (hK (l.length - (i + 1)) _ _ _ Z ⟨rfl,i + 1,w2,t2,Z,Q,b9,c8,rfl,rfl,rfl⟩)
 refine jcI c4 λK5 a8=>?_
 obtain⟨rows,a2,hfz⟩:=a4;have a9 : i < rows.length:=by rw[a2.1];exact hc
 obtain⟨bl,ol,e6,f5,W,b1,y,f3,O⟩:=Js hfz (a2.all λ_ _=>ThC.len) a9;obtain⟨rv,nv,a7,d4,b4⟩:=a2.2 i a9 hc;rw[a7] at O;have a4:Tgs R1 lv l:=⟨rows,a2,hfz⟩;have ia:∀{D:Chs} {k:Value->M},J R1 D (k (.pointer (some ⟨bl,ol + i * 6,none⟩)))->J R1 D (IA 6 lv (I (i:Int)) k):=λH=>by
  rw[b1];refine jia Z Z ?_;rw[dG];exact H
 have g0:W[ol + i * 6 + 0]? = some (I (l[i]).at_):=Bm O rfl;have g4:W[ol + i * 6 + 4]? = some rv:=Bm O rfl;have g5:W[ol + i * 6 + 5]? = some nv:=Bm O rfl;have g2:(W.drop (ol + i * 6 + 2)).take 2 = [I (l[i]).sh.refs,I (l[i]).sh.nums]:=by
  have:=congrArg (λx=>(x.drop 2).take 2) O;simp only[gO,gT,gS] at this;simpa [eTh] using this
 refine ia (jfo (jlr y g0 (jp (Cf _ b5) (jla (by exact z_n 13) rfl ?_))));refine jro (Lr (AN (l[i]).at_) h hp d3) (jif (λhh=>?_) (λhh=>?_));rotate_left
 .rw[if_neg (by rw[hh];decide)] at j;exact a8 _ _ _ ⟨rfl,w1,t1,c0,a6,j,rfl,rfl⟩
 rw[if_pos hh] at j;obtain⟨w2,e2,j⟩:=AG j;obtain⟨w3,e3,j⟩:=AG j;obtain⟨w4,e4,j⟩:=AG j;obtain⟨row,b6,j⟩:=AG j;obtain⟨e7,a5,j⟩:=AG j;obtain⟨q1,q2,q3⟩:=ES e2;obtain⟨q4,q5,q6⟩:=ES e3;refine ia (jfo (jlr y g0 (ia (jfo (jlr y g0 (jia q1 Z (jsi Z ?_)))))));rw[<- q3];refine ia (jfo (jlr y g0 (jad (ia (jfo (DR y Z g2 (jp (EN (l[i]).sh) ?_)))))));have e9:w2.length = w1.length:=by rw[q3,eG]
 refine jia q4 Z (Ak (jlr y g0 jev) (jsi Z ?_));rw[<- q6];have f0:w3.length = w2.length:=by rw[q6,eG]
 obtain⟨z0,z1,z2,z3⟩:=Av b6;obtain⟨y0,y1,y2,y3⟩:=Av a5;obtain⟨k0,d1⟩:∃k:Nat,AN (l[i]).at_ = k:=⟨(AN (l[i]).at_).toNat,Z⟩;refine Ac (λvs T D'=>T = R1/\w4.length = w.length/\D' = (b,C AW (eSt s wv tv mv G ov pv)) :: (bw,C Ab (w4.map I ++ wsp)) :: (bt,C AO (Ad eRg t1 ++ tsp)) :: F/\vs = [lv,S0 bw w.length cw,S0 bt t.length ct,Pt b,I i,I (AN (l[i]).at_)]) (λK6 c5=>?_) ?_;rotate_left
 .rintro e R2 D2 ⟨hR,Q,hD,he⟩;subst hR;refine z_W ?_;clear hD;rw[d1] at j ⊢;have b0:k0 < s.AA.length:=Z
  have d2:k0 < t1.length:=Z
  have ez:s.AA[k0] = row:=by rw[<- z3];exact getElem_congr_idx Z
  refine jl rfl (jrg h.t b0 λb2 o2 ty cs hb ho b7=>(jfo (jlr hb (Bm b7 rfl) (jl rfl (jrg h.t b0 λb3 o3 f4 e8 c9 f2 b8=>(jfo (jlr c9 (Bm b8 rfl) ?_)))))));rw[ez];refine jbd rfl rfl (C0 Z (Gl (x:=⟨3,-1,row.top,row.top,0⟩) d2 (a8 _ _ _ ⟨rfl,w4,t1.set k0 ⟨3,-1,row.top,row.top,0⟩,Q,by rw[eG];exact a6,by simpa [AT] using j,rfl,rfl⟩)))
 refine jcI c5 λK7 c6=>?_
 refine jlp (λm vs T D'=>T = R1/\∃(k:Nat) (w5:List Int),k<=(l[i]).nums.length/\w5.length = w.length/\wrs w5 ((l[i]).at_ + 2 + (l[i]).refs.length + k) ((l[i]).nums.drop k) = some w4/\D' = (b,C AW (eSt s wv tv mv G ov pv)) :: (bw,C Ab (w5.map I ++ wsp)) :: (bt,C AO (Ad eRg t1 ++ tsp)) :: F/\vs = [lv,S0 bw w.length cw,S0 bt t.length ct,Pt b,I i,I (AN (l[i]).at_),I k]/\m = (l[i]).nums.length - k)
  (n:=(l[i]).nums.length) ⟨rfl,0,w3,Z,Z,by simpa using e4,rfl,rfl,Z⟩ ?_
 rintro m3 e R2 D2 K8 ⟨hR,k,w5,hk,a3,N,hD,he,hm⟩ c7;subst hR;refine z_W ?_;clear hD;refine ia (jfo (jlr y g5 (Bf b4.sl (jlt (jif (λhd=>?_) (λhd=>?_))))));rotate_left
 .have hd:=z_g hd;rw[dT Z] at N;cases N;exact c6 _ _ _ ⟨rfl,a3,rfl,rfl⟩
 have hd:k < (l[i]).nums.length:=by have:=z_f hd;omega
 rw[dQ hd] at N;unfold wrs at N;obtain⟨w6,e5,N⟩:=AG N;obtain⟨p1,p2,p3⟩:=ES e5;refine ia (jfo (jlr y g0 (jad (ia (jfo (jlr y g4 (Bf d4.sl (jad (jad (ia (jfo (jlr y g5 (Bk b4 Z Z ?_)))))))))))));rw[getElem_congr_idx (dG k)];refine jia p1 Z (jsi Z ?_);rw[<- p3];refine jad (c7 ((l[i]).nums.length - (k + 1)) _ _ _ Z ⟨rfl,k + 1,w6,Z,by rw[p3,eG];exact a3,by rw[<- N];congr 1;omega,rfl,rfl,rfl⟩)
end Go.Lf
end
section
namespace Go.Lf
open Go Sm
theorem N7 (j:Cfg):Pu JL [.agg #[I j.AH,I j.AB,I j.AU]] (.bool (Bg j)):=by
 intro R;refine OS λF=>?_
 refine z_1 ?_;refine ja λb=>?_
 rw[show cl (.agg #[I j.AH,I j.AB,I j.AU]) = [I j.AH,I j.AB,I j.AU] from rfl];refine jan [Pt b] ((decide (j.AH>=3)) && (decide (j.AH<=12))) (λG x=>?_) (λe c u D he=>?_)
 .refine jl rfl (jge (jgA x λH y=>jl rfl (jle y)))
 refine z_V ?_;refine jan [Pt b] ((decide (j.AH>=3) && decide (j.AH<=12)) && (decide (j.AB>=1))) (λG x=>?_) (λe c u D he=>?_)
 .rw[D];refine jgA x λH y=>jl rfl (jge y)
 refine z_V ?_;refine jan [Pt b] ((decide (j.AH>=3) && decide (j.AH<=12) && decide (j.AB>=1)) && (decide (j.AB<=3))) (λG x=>?_) (λe c u D he=>?_)
 .rw[D];refine jgA x λH y=>jl rfl (jle y)
 refine z_V ?_;refine jan [Pt b] ((decide (j.AH>=3) && decide (j.AH<=12) && decide (j.AB>=1) && decide (j.AB<=3)) && (decide (j.AU>=0))) (λG x=>?_) (λe c u D he=>?_)
 .rw[D];refine jgA x λH y=>jl rfl (jge y)
 refine z_V ?_;refine jan [] ((decide (j.AH>=3) && decide (j.AH<=12) && decide (j.AB>=1) && decide (j.AB<=3) && decide (j.AU>=0)) && (decide (j.AU<=100))) (λG x=>?_) (λe c u D he=>?_)
 .rw[D];refine jgA x λH y=>jl rfl (jle y)
 refine z_V ?_;rw[D];exact Ao (A:=[]) (RM.le.refl R) rfl
def WH (t:List Rg) (v:Value) (N:Chs):Prop:=if t = [] then v = .tuple #[SN,.bool false]/\N = [] else ∃sv,Yi t sv N/\v = .tuple #[sv,.bool true]
theorem Ip {R:RM} {D:Chs} (n:Int):Mk JQ [I n] R D (WH (AV n)):=by
 refine PF λF=>?_
 refine z_1 ?_;refine jor [I n] ((decide (n < 2)) || (decide (n > 12))) (λK' O=>?_) (λe c u ho he=>?_)
 .refine jlt (jgO O λh1 hN=>jgr hN)
 refine z_V ?_;rw[ho];refine jif (λh0=>?_) (λh0=>?_)
 .have:AV n = []:=by
   unfold AV;rw[if_pos];simpa using h0
  rw[this];exact DW [] ⟨rfl,rfl⟩
 simp only[db,decide_eq_false_iff_not] at h0;obtain⟨k,rfl⟩:∃k:Nat,n = k:=⟨n.toNat,Z⟩;have ht:AV k = De :: (List.range (k - 1)).map λ(i:Nat)=>Dp ((i:Int) + 1):=by
  unfold AV;rw[if_neg Z,dG]
 have a0:AV k = ((List.range k).map λj:Nat=>Dp (j:Int)).set 0 De:=by
  rw[ht,show k = (k - 1) + 1 by omega,List.range_succ_eq_map];simp
 refine Ac (λvs N H=>N = R/\∃v A,SW AO 5 (((List.range k).map λj:Nat=>Dp (j:Int)).map eRg) v A/\H = A ++ (D ++ F)/\vs = [v]) (λK hK=>?_) ?_
 .refine jcI hK λK2 Q=>?_
  refine jlp (λm vs N H=>N = R/\∃(i:Nat) (v:Value) (A:Chs),i<=k/\SW AO 5 (((List.range i).map λj:Nat=>Dp (j:Int)).map eRg) v A/\H = A ++ (D ++ F)/\vs = [I k,v,I i]/\m = k - i)
   (n:=k) ⟨rfl,0,SN,[],Z,.inl ⟨rfl,rfl,rfl⟩,rfl,rfl,Z⟩ ?_
  rintro m e R1 D1 K3 ⟨W,i,v,A,hi,y,hD,he,hm⟩ T;subst W;refine z_W ?_;refine jlt (jif (λhc=>?_) (λhc=>?_));rotate_left
  .have hc:i = k:=by have:=z_g hc;omega
   subst hc;exact Q _ _ _ ⟨rfl,v,A,y,rfl,rfl⟩
  have hc:i < k:=by have:=z_f hc;omega
  refine jp (BX i) (jp (BX i) (jbd rfl rfl (jbs rfl rfl λb4=>(B8 dw.symm ?_))));have hx:BY R1 (A ++ ((b4,C AO (eRg (Dp (i:Int)))) :: (D ++ F))) (some ⟨b4,0,none⟩) (1 * 5) [eRg (Dp (i:Int))].flatten:=BY.held (cs:=eRg (Dp (i:Int))) (z_n 5);refine jaw y (X0 _) (by intro r hr;rw[dZ.1 hr];rfl) rfl rfl rfl δ (by simp only[dN,List.length_range,di];omega) hx λv' A' a1=>(jad (Al A' (G:=D ++ F) (T (k - (i + 1)) _ _ _ Z ⟨rfl,i + 1,v',A',Z,?_,rfl,rfl,rfl⟩)))
  rw[List.range_succ,dz,dz];exact a1
 rintro e R1 D1 ⟨W,v,A,y,hD,he⟩;subst W;refine z_W ?_;rcases y with ⟨h1,_,_⟩ | ⟨b,c,sp,hc,hsp,rfl,rfl⟩
 .have:=congrArg List.length h1;simp at this;omega
 rw[dN] at hc ⊢;refine jbd rfl rfl ?_;have hlen:((List.range k).map λj:Nat=>Dp (j:Int)).length = k:=V
 refine B8 (eK _) (C0 (r:=0) Z (Gl (x:=De) Z (DW [(b,C AO (Ad eRg (((List.range k).map λj:Nat=>Dp (j:Int)).set 0 De) ++ sp))] ?_)));rw[a0];unfold WH;rw[if_neg (by intro hn;have:=congrArg List.length hn;simp at this;omega)];exact⟨_,⟨b,c,sp,by rw[eG];exact hc,by rw[eG],rfl⟩,rfl⟩
theorem XM {w:List Int} {n k:Nat} (h:n + k < w.length):(w.take n ++ List.replicate k 0 ++ w.drop (n + k)).set (n + k) 0 = w.take n ++ List.replicate (k + 1) 0 ++ w.drop (n + (k + 1)):=by
 have l1:(w.take n ++ List.replicate k (0:Int)).length = n + k:=by simp;omega
 rw[fH _ _ Z,l1,Nat.sub_self,dQ h,List.set_cons_zero,List.replicate_succ',dS,dS,dS,List.singleton_append,Nat.add_assoc]
def QMk (r:List Int × Bool) (v:Value) (A:Chs):Prop:=if r.2 then ∃sv,X2 r.1 sv A/\v = .tuple #[sv,.bool true] else v = .tuple #[SN,.bool false]/\A = []
theorem P9 {w:List Int} {n z:Nat} {s:Shp} (h0:fits w.length n (AF s) = true) (j:BN s = true) (Q:AF s = z) :
  CU w n s = ((((w.take n ++ List.replicate z 0 ++ w.drop (n + z)).set n (n:Int)).set (n + 1) (AY s)),true):=by
 obtain⟨H,K,N,O⟩:=FM h0;have G:AF s = 2 + s.refs + s.nums:=by unfold AF;rw[if_pos j]
 have D:0<=s.refs/\0<=s.nums:=by
  unfold BN at j;simp only[z_b,z_d] at j;omega
 unfold CU;rw[if_pos h0];congr 1;unfold Sm.put;obtain⟨x,rfl⟩:∃k,z = k + 2:=⟨z - 2,Z⟩;have y:s.refs.toNat + s.nums.toNat = x:=Z
 have l1:(w.take n).length = n:=by simp;omega
 have A:w.take n ++ List.replicate (x + 2) 0 ++ w.drop (n + (x + 2)) = w.take n ++ (0 :: 0 :: (List.replicate x 0 ++ w.drop (n + (x + 2)))):=by simp[List.replicate_succ]
 rw[y,A,dG,fH _ _ Z,l1,Nat.sub_self,List.set_cons_zero,fH _ _ Z,l1,Nat.add_sub_cancel_left];simp[Nat.add_comm,Nat.add_left_comm]
theorem Pq {R:RM} {wv:Value} {w:List Int} (a:Int) (s:Shp) (h:Ay R wv w) (hl:w.length < 1000000) :
  Fn P Hv [wv,I a,eSh s] R [] (λv N A=>N = R/\QMk (CU w a s) v A):=by
 refine NM λF=>?_
 refine z_3 ?_;obtain⟨wa,wc,a8,hr⟩:=Fz.reads (D:=[]) h;refine ja λb1=>?_
 rw[show cl (eSh s) = [I s.refs,I s.nums] from rfl];refine jla (l:=[I s.refs,I s.nums]) V rfl (jp (CN s) ?_);rw[a8];refine jp (N3 wa w.length wc a (AF s) Z) (jif (λh0=>?_) (λh0=>?_))
 .have h0:fits w.length a (AF s) = false:=by simpa using h0
  refine Ao (A:=[]) (RM.le.refl R) ⟨rfl,?_⟩;have:CU w a s = ([],false):=by unfold CU;rw[h0];rfl
  rw[this];exact⟨rfl,rfl⟩
 have h0:fits w.length a (AF s) = true:=by simpa using h0
 obtain⟨a0,a1,a2,a3⟩:=FM h0;have H:BN s = true:=by
  unfold AF at a2;split at a2
  .assumption
  .omega
 have c4:AF s = 2 + s.refs + s.nums:=by unfold AF;rw[if_pos H]
 have c0:0<=s.refs/\0<=s.nums:=by
  unfold BN at H;simp only[z_b,z_d] at H;omega
 obtain⟨n,rfl⟩:∃n:Nat,a = n:=⟨a.toNat,Z⟩;obtain⟨z,hz⟩:∃z:Nat,AF s = z:=⟨(AF s).toNat,Z⟩;have em:=P9 h0 H hz;rw[hz] at a1 a2 a3 ⊢;have a4:∀(b c:Nat) (sp:List Value) (E:Chs) (K:Value->M),w.length<=c->sp.length = c - w.length->Sf E F->True:=λ_ _ _ _ _ _ _ _=>trivial
 clear a4;refine jbs (cs:=[]) rfl rfl λb2=>?_
 have b9:w.length≠0:=Z
 have W:∀(b c:Nat) (sp:List Value) (E:Chs),w.length<=c->sp.length = c - w.length->At E b1 (C Hm [I s.refs,I s.nums])->Sf E F->
   J R ((b,C Ab (w.map I ++ sp)) :: E) (CUT [1,5,9] (λJe8=>CUT [1,5,9] (λJe14=>LP [1,5,8,9,10] (λKe15 j=>BO .lss (j 10) (j 8) λb5=>IF b5 (BO .add (j 1) (j 10) λb6=>IA 1 (j 9) b6 λb7=>ST 1 b7 (I 0)<|BO .add (j 10) (I 1) λb8=>Ke15 [(j 1),(j 5),(j 8),(j 9),b8]) (Je14 [(j 1),(j 5),(j 9)])) [I n,Pt b1,I z,S0 b w.length c,(I 0)]) λO=>Je8 [(O 1),(O 5),(O 9)]) λQ=>IA 1 (Q 9) (Q 1) λx9=>ST 1 x9 (Q 1)<|BO .add (Q 1) (I 1) λa9=>LA 2 (Q 5) λb0=>CA P 62 [b0] λb3=>IA 1 (Q 9) a9 λb4=>ST 1 b4 b3<|Fj R F (λv N A=>N = R/\QMk (CU w n s) v A) (.tuple #[(Q 9),(.bool true)])):=by
  intro b c sp E hc hsp ea ef;refine Ac (λvs N D'=>N = R/\∃y:List Int,y = w.take n ++ List.replicate z 0 ++ w.drop (n + z)/\D' = (b,C Ab (y.map I ++ sp)) :: E/\vs = [I n,Pt b1,S0 b w.length c]) (λK hK=>?_) ?_
  .refine jcI hK λK2 a5=>?_
   refine jlp (λm vs N D'=>N = R/\∃(k:Nat) (y:List Int),k<=z/\y = w.take n ++ List.replicate k 0 ++ w.drop (n + k)/\D' = (b,C Ab (y.map I ++ sp)) :: E/\vs = [I n,Pt b1,I z,S0 b w.length c,I k]/\m = z - k)
    (n:=z) ⟨rfl,0,w,Z,V,rfl,rfl,Z⟩ ?_
   rintro m e R1 D1 K3 ⟨hR,k,y,hk,G,hD,he,hm⟩ a6;subst hR;refine z_W ?_;clear hD;have T:y.length = w.length:=by rw[G];simp;omega
   refine jlt (jif (λhc=>?_) (λhc=>?_));rotate_left
   .have hc:k = z:=by have:=z_g hc;omega
    subst hc;exact a5 _ _ _ ⟨rfl,y,G,rfl,rfl⟩
   have hc:k < z:=by have:=z_f hc;omega
   refine jad ?_;rw[show (n:Int) + k = ((n + k:Nat):Int) by omega];refine C0 Z (jsi Z (jad (a6 (z - (k + 1)) _ _ _ Z ⟨rfl,k + 1,y.set (n + k) 0,Z,by rw[G];exact XM Z,rfl,rfl,rfl⟩)))
  rintro e R1 D1 ⟨hR,y,G,hD,he⟩;subst hR;refine z_W ?_;clear hD;have T:y.length = w.length:=by rw[G];simp;omega
  refine C0 Z (jsi Z (jad (jla (l:=[I s.refs,I s.nums]) V rfl (jp (EN s) ?_))));rw[show (n:Int) + 1 = ((n + 1:Nat):Int) by omega];refine C0 Z (jsi (by rw[eG];omega) (Ao (A:=[(b,C Ab (((y.set n n).set (n + 1) (AY s)).map I ++ sp))]) (RM.le.refl R1) ⟨rfl,?_⟩));rw[em,G];refine⟨_,⟨b,c,sp,?_,?_,?_,rfl⟩,rfl⟩
  all_goals simp only[eG,<- G,T]
  .exact hc
  .exact hsp
 refine Wl (new:=w.map I) ?_ δ Z (λ_=>rfl) (λh0=>?_) (λb' c hc=>?_)
 .intro h' a7;exact hr h' (St.drop (by simpa using a7))
 .omega
 .exact W b' c _ _ hc (by rw[Br (w:=1) (by intro x hx;rw[(eR.1 hx).2];rfl)];simp) inferInstance inferInstance
theorem jnc {R:RM} {D:Chs} {b o:Nat} {k:Value->M} (H:J R D (k (.pointer (some ⟨b,o,none⟩)))):J R D (NC (.pointer (some ⟨b,o,none⟩)) k):=H
def wS (S:Sim) (g:Img):Value:=.slice (some ⟨g.wb,0,none⟩) S.AC.length g.wc
def tS (S:Sim) (g:Img):Value:=.slice (some ⟨g.tb,0,none⟩) S.AA.length g.tc
def mS (S:Sim) (g:Img):Value:=.slice (some ⟨g.mb,0,none⟩) S.AM.length g.mc
def eVw (S:Sim) (g:Img) (av wv thv:Value):List Value:=[wS S g,tS S g,mS S g,I S.Ae,.bool S.stop,.bool S.full,av,wv,thv,g.old,g.AJ,I S.BE,I S.BK]
theorem MG {R:RM} {S:Sim} {g:Img} (ok:Ok R S g) {x wv j:Value} (y:flat x = true) (A:flat wv = true) (D:flat j = true):Bz (eVw S g x wv j) = true:=by
 have G:=Fz.flat ok.old;have H:=Fz.flat ok.AJ;show (true && (true && (true && (true && (true && (true && (flat x && (flat wv && (flat j && (flat g.old && (flat g.AJ && (true && (true && true))))))))))))) = true;rw[y,A,D,G,H];rfl
def XP (t:Thr):Th:=⟨t.AD,t.next,t.pc != 0,t.Am⟩
theorem UV {p:Nat} {S:Sim} {g:Img} {R:RM} (x:Ok R S g) (a0:S.sz = true) :
  Fn P Ik [Pt p] R (Ag p S g) (λv O A=>∃rows b0 A',Rw (Cd O) rows S.view.AB/\SW 117 4 rows b0 A'/\A = A' ++ Ag p S g/\v = .agg (eSt S.view (wS S g) (tS S g) (mS S g) b0 g.old g.AJ).toArray):=by
 refine Su λF=>?_
 refine z_1 ?_;have a0:=Gv a0;have c7:=x.hl;obtain⟨f1,f2,f3⟩:=x.fl;refine ja λy=>(jnc (jfo (jla (by show 4 + 13<=35;omega) rfl (ja λD=>?_))))
 refine js (cs':=eVw S g g.Ap g.want g.AB) rfl (MG x f1 f2 f3) (by exact z_n 13) rfl (js rfl rfl (by simp[eVw]) rfl (B8 (eK _) (Ac (λvs O D'=>R.le O/\∃rows v A,Rw (Cd O) rows (S.th.map XP)/\SW 117 4 rows v A/\D' = A ++ (D,C AW (eVw S g g.Ap g.want v)) :: (y,C AW (cl z50)) :: (Ag p S g ++ F)/\vs = [Pt p,Pt y,Pt D]) (λK hK=>?_) ?_)))
 .refine jcI hK λK2 b3=>?_
  refine jlp (λm vs O D'=>R.le O/\∃(i:Nat) (rows:List (List Value)) (v:Value) (A:Chs),i<=S.th.length/\Rw (Cd O) rows ((S.th.take i).map XP)/\SW 117 4 rows v A/\D' = A ++ (D,C AW (eVw S g g.Ap g.want v)) :: (y,C AW (cl z50)) :: (Ag p S g ++ F)/\vs = [Pt p,Pt y,Pt D,I i]/\m = S.th.length - i)
   (n:=S.th.length) ⟨RM.le.refl R,0,[],SN,[],Z,Rw.nil,.inl ⟨rfl,rfl,rfl⟩,rfl,rfl,Z⟩ ?_
  rintro m e R1 D1 K3 ⟨hR,i,rows,v,A,hi,j,so,hD,he,hm⟩ b5;refine z_W ?_;have c5:=x.le hR;refine jl rfl (jln (jlt (jif (λhc=>?_) (λhc=>?_))));rotate_left
  .have hc:=z_g hc;rw[dO Z] at j;exact b3 _ _ _ ⟨hR,rows,v,A,j,so,rfl,rfl⟩
  have hc:i < S.th.length:=by have:=z_f hc;omega
  have a5:idx S.th i = some (S.th[i]):=by unfold idx;rw[if_pos Z,dG,dH hc]
  have a3:=a0.2.2.2.2 _ (dL hc);refine HX c5 a5 rfl λb a T hv=>?_
  obtain⟨N,sc,W⟩:=so.sl;subst W;have a6:(S.th.take (i + 1)).map XP = (S.th.take i).map XP ++ [XP S.th[i]]:=by
   rw[dJ hc,dz];rfl
  generalize S.th[i] = t at a5 a3 hv a6 ⊢;refine jfo (jl rfl (jfo (jl rfl (jfo (jl rfl (jfo (jl rfl (jfo (jl rfl (jne (jc (CY hv a3) ?_)))))))))));rintro _ R2 _ a1 ⟨H,Q,c8,b8,c6,rfl,rfl⟩;refine B9 (b:=H) λR3 a2 b7=>?_
  have c0:=CO b7 b8;refine jbd rfl rfl (Ak (jl rfl jev) (Ak (jl rfl jev) (Ak (jl rfl jev) (Ak (jl rfl jev) (jbs rfl rfl λb6=>(Ak (jl rfl jev) (B8 (D':=(b6,C 117 [S0 H t.AD.length Q,I t.next,.bool (t.pc != 0),I t.Am]) :: (b,C Af (Aw t (.slice a t.AD.length T))) :: (A ++ ((D,C AW (eVw S g g.Ap g.want (.slice N rows.length sc))) :: (y,C AW (cl z50)) :: (Ag p S g ++ F)))) (eK _) (Al A (G:=(b6,C 117 [S0 H t.AD.length Q,I t.next,.bool (t.pc != 0),I t.Am]) :: (b,C Af (Aw t (.slice a t.AD.length T))) :: (D,C AW (eVw S g g.Ap g.want (.slice N rows.length sc))) :: (y,C AW (cl z50)) :: (Ag p S g ++ F)) ?_))))))));have hx:BY R3 (A ++ ((b6,C 117 [S0 H t.AD.length Q,I t.next,.bool (t.pc != 0),I t.Am]) :: (b,C Af (Aw t (.slice a t.AD.length T))) :: (D,C AW (eVw S g g.Ap g.want (.slice N rows.length sc))) :: (y,C AW (cl z50)) :: (Ag p S g ++ F))) (some ⟨b6,0,none⟩) (1 * 4) [[S0 H t.AD.length Q,I t.next,.bool (t.pc != 0),I t.Am]].flatten:=BY.held (cs:=[S0 H t.AD.length Q,I t.next,.bool (t.pc != 0),I t.Am]) (z_n 4);have b9:=j.1;rw[dN,dU] at b9;refine jaw so (j.all λ_ _=>Cd.len) (by intro r hr;rw[dZ.1 hr];rfl) rfl rfl rfl δ (by rw[di];omega) hx λv' A' a9=>?_
  obtain⟨a7,a8,a4⟩:=a9.sl;subst a4;refine jS (eVw S g g.Ap g.want (.slice a7 (rows ++ [[S0 H t.AD.length Q,I t.next,.bool (t.pc != 0),I t.Am]]).length a8)) (jad (Al A' (G:=(D,C AW (eVw S g g.Ap g.want (.slice a7 (rows ++ [[S0 H t.AD.length Q,I t.next,.bool (t.pc != 0),I t.Am]]).length a8))) :: (y,C AW (cl z50)) :: (Ag p S g ++ F)) (b5 (S.th.length - (i + 1)) _ _ _ Z ⟨(hR.trans a1).trans a2,i + 1,_,_,A',Z,?_,a9,rfl,rfl,rfl⟩)));rw[a6];exact (j.mono λ_ _=>Cd.le (a1.trans a2)).app (Rw.one ⟨_,rfl,c0⟩)
 rintro e R1 D1 ⟨hR,rows,v,A,j,so,hD,he⟩;refine z_W ?_;obtain⟨N,sc,W⟩:=so.sl;subst W;refine jl rfl (jS (eVw S g (.bool S.col.Ap) g.want (.slice N rows.length sc)) (jl rfl (js rfl rfl (by simp[eVw]) rfl (jla (by exact z_n 13) rfl ?_))));refine js rfl (MG x rfl rfl rfl) (by exact z_n 13) rfl (jla (by exact z_n 13) rfl (B8 (D':=(A ++ Ag p S g) ++ ((D,C AW (eVw S g (.bool S.col.Ap) (I S.col.want) (.slice N rows.length sc))) :: (y,C AW (eVw S g (.bool S.col.Ap) (I S.col.want) (.slice N rows.length sc))) :: F)) ?_ ?_))
 .rw[dS];exact (fV [_,_] (Ag p S g) F).append_left A
 exact Ao hR ⟨rows,.slice N rows.length sc,A,j,so,rfl,rfl⟩
theorem aL {p:Nat} {S:Sim} {g:Img} {R:RM} (G:Ok R S g) (H:S.sz = true) :
  Fn P Ik [Pt p] R (Ag p S g) (λv D A=>R.le D/\A = Ag p S g/\∃j,Ths D j S.view.AB/\v = .agg (eSt S.view (wS S g) (tS S g) (mS S g) j g.old g.AJ).toArray):=by
 intro F h Q;refine Fq ?_ (UV G H F h Q);rintro v O ⟨D,A,K,N,rows,j,W,y,T,rfl,rfl⟩;rw[dS] at N;refine (jfw T (y.all λ_ _=>Cd.len) λR2 x hfz=>(Ao (K.trans x) ⟨K.trans x,rfl,j,⟨rows,y.mono λ_ _=>Cd.le x,hfz⟩,rfl⟩)) O N
theorem E8 {R:RM} {D:Chs} {a:M} (h:J R D a):J R D (ALL [a]):=h
theorem FG {R:RM} {D:Chs} {a b:M} {r:List M} (h:J R D a) (y:J R D (ALL (b :: r))):J R D (ALL (a :: b :: r)):=λj x=>⟨h j x,y j x⟩
def eNw (w:Value) (tv:Value) (m:Value) (thv:Value):List Value:=[w,tv,m,I 0,.bool false,.bool false,.bool false,I 0,thv,SN,SN,I 0,I 0]
def Bi (c:Cfg):List Int:=(CU (List.replicate (c.AH.toNat * 16) 0) 16 Bp).1
theorem MF {c:Cfg} (h:Bg c = true):(CU (List.replicate (c.AH.toNat * 16) 0) 16 Bp).2 = true/\(Bi c).length = c.AH.toNat * 16:=by
 unfold Bg at h;simp only[z_b,z_d] at h;have j:fits (c.AH.toNat * 16) 16 (AF Bp) = true:=by
  have e:AF Bp = 8:=δ
  rw[e];unfold fits BM AN;simp only[z_b,z_d,beq_iff_eq];refine⟨⟨⟨⟨⟨⟨⟨Z,Z⟩,Z⟩,Z⟩,Z⟩,Z⟩,Z⟩,δ⟩
 unfold Bi CU;rw[dV,if_pos j];refine⟨rfl,?_⟩;unfold Sm.put;have:Bp.refs.toNat + Bp.nums.toNat = 6:=δ
 simp only[dK,dU,dV,eO,dR,f9,this];omega
theorem SZ {R:RM} {c:Cfg} (hc:Bg c = true) :
  Fn P JS [.agg #[I c.AH,I c.AB,I c.AU]] R [] (λv R' A=>∃y T wsp D O tsp j a9,(Bi c).length<=T/\(AV c.AH).length<=O/\Ths R' a9 (List.replicate c.AB.toNat ⟨[16],0,false,0⟩)/\
   A = [(y,C Ab ((Bi c).map I ++ wsp)),(D,C AO (Ad eRg (AT (AV c.AH) 1 ⟨3,-1,24,24,0⟩) ++ tsp)),(j,C Az ((List.replicate (c.AH.toNat * 16) false).map Value.bool))]/\
   v = .tuple #[.agg (eNw (S0 y (Bi c).length T) (S0 D (AV c.AH).length O) (S0 j (c.AH.toNat * 16) (c.AH.toNat * 16)) a9).toArray,.bool true]):=by
 refine Pb λF=>?_
 refine z_1 ?_;have a3:=hc;unfold Bg at hc;simp only[z_b,z_d] at hc;refine ja λb1=>?_
 rw[show cl (.agg #[I c.AH,I c.AB,I c.AU]) = [I c.AH,I c.AB,I c.AU] from rfl];refine ja λb2=>?_
 refine jla V rfl ?_;refine jp (N7 c) ?_;rw[a3];refine CQ (jfo (jl rfl ?_));refine jmk (Ip c.AH) ?_;intro v N hq;unfold WH at hq;have a5:(AV c.AH).length = c.AH.toNat:=by
  unfold AV;rw[if_neg Z];simp;omega
 rw[if_neg (by intro hn;rw[hn] at a5;simp at a5;omega)] at hq;obtain⟨sv,⟨D,O,tsp,c5,rfl,rfl⟩,rfl⟩:=hq;refine jex rfl (jex rfl ?_);have Q:(c.AH * 16).toNat = c.AH.toNat * 16:=Z
 refine Ac (λvs R' D'=>R' = R/\∃y j H,D' = (H,C AW (eNw (S0 y (c.AH.toNat * 16) (c.AH.toNat * 16)) (S0 D (AV c.AH).length O) (S0 j (c.AH.toNat * 16) (c.AH.toNat * 16)) (SN))) ::
   (y,C Ab ((List.replicate (c.AH.toNat * 16) [I 0]).flatten)) :: (j,C Az ((List.replicate (c.AH.toNat * 16) [Value.bool false]).flatten)) ::
   (D,C AO (Ad eRg (AV c.AH) ++ tsp)) :: (b2,C AW (cl z50)) :: (b1,C 24 [I c.AH,I c.AB,I c.AU]) :: F/\vs = [Pt b1,Pt b2,Pt H]) (λK hK=>?_) ?_
 .refine jfo (jl rfl (HV ⟨Z,Z⟩ (jfo (jl rfl (HV ⟨Z,Z⟩ ?_)))));refine FG ?_ (FG ?_ (E8 ?_))
  .refine jms Z Z Z λy=>?_
   rw[Q];refine Ak (jl rfl jev) ?_;refine FG ?_ (E8 ?_)
   .refine jms Z Z Z λj=>?_
    rw[Q];refine jbd rfl rfl ?_;refine ja λH=>?_
    refine jS ((eNw (S0 y (c.AH.toNat * 16) (c.AH.toNat * 16)) (S0 D (AV c.AH).length O) (S0 j (c.AH.toNat * 16) (c.AH.toNat * 16)) (SN))) ?_;refine Al [(H,C AW (eNw (S0 y (c.AH.toNat * 16) (c.AH.toNat * 16)) (S0 D (AV c.AH).length O) (S0 j (c.AH.toNat * 16) (c.AH.toNat * 16)) (SN))),(y,C Ab ((List.replicate (c.AH.toNat * 16) [I 0]).flatten)),(j,C Az ((List.replicate (c.AH.toNat * 16) [Value.bool false]).flatten))] (G:=[(D,C AO (Ad eRg (AV c.AH) ++ tsp))] ++ (b2,C AW (cl z50)) :: (b1,C 24 [I c.AH,I c.AB,I c.AU]) :: ([] ++ F)) ?_;exact hK _ _ _ ⟨rfl,y,j,H,rfl,rfl⟩
   .refine ja λH=>?_
    refine Ak (jl rfl jev) ?_;refine jms Z Z Z λj=>?_
    rw[Q];refine jbd rfl rfl ?_;refine jS ((eNw (S0 y (c.AH.toNat * 16) (c.AH.toNat * 16)) (S0 D (AV c.AH).length O) (S0 j (c.AH.toNat * 16) (c.AH.toNat * 16)) (SN))) ?_;refine Al [(H,C AW (eNw (S0 y (c.AH.toNat * 16) (c.AH.toNat * 16)) (S0 D (AV c.AH).length O) (S0 j (c.AH.toNat * 16) (c.AH.toNat * 16)) (SN))),(y,C Ab ((List.replicate (c.AH.toNat * 16) [I 0]).flatten)),(j,C Az ((List.replicate (c.AH.toNat * 16) [Value.bool false]).flatten))] (G:=[(D,C AO (Ad eRg (AV c.AH) ++ tsp))] ++ (b2,C AW (cl z50)) :: (b1,C 24 [I c.AH,I c.AB,I c.AU]) :: ([] ++ F)) ?_;exact hK _ _ _ ⟨rfl,y,j,H,rfl,rfl⟩
  .refine jms Z Z Z λj=>?_
   rw[Q];refine Ak (jl rfl jev) ?_;refine FG ?_ (E8 ?_)
   .refine jms Z Z Z λy=>?_
    rw[Q];refine jbd rfl rfl ?_;refine ja λH=>?_
    refine jS ((eNw (S0 y (c.AH.toNat * 16) (c.AH.toNat * 16)) (S0 D (AV c.AH).length O) (S0 j (c.AH.toNat * 16) (c.AH.toNat * 16)) (SN))) ?_;refine Al [(H,C AW (eNw (S0 y (c.AH.toNat * 16) (c.AH.toNat * 16)) (S0 D (AV c.AH).length O) (S0 j (c.AH.toNat * 16) (c.AH.toNat * 16)) (SN))),(y,C Ab ((List.replicate (c.AH.toNat * 16) [I 0]).flatten)),(j,C Az ((List.replicate (c.AH.toNat * 16) [Value.bool false]).flatten))] (G:=[(D,C AO (Ad eRg (AV c.AH) ++ tsp))] ++ (b2,C AW (cl z50)) :: (b1,C 24 [I c.AH,I c.AB,I c.AU]) :: ([] ++ F)) ?_;exact hK _ _ _ ⟨rfl,y,j,H,rfl,rfl⟩
   .refine ja λH=>?_
    refine Ak (jl rfl jev) ?_;refine jms Z Z Z λy=>?_
    rw[Q];refine jbd rfl rfl ?_;refine jS ((eNw (S0 y (c.AH.toNat * 16) (c.AH.toNat * 16)) (S0 D (AV c.AH).length O) (S0 j (c.AH.toNat * 16) (c.AH.toNat * 16)) (SN))) ?_;refine Al [(H,C AW (eNw (S0 y (c.AH.toNat * 16) (c.AH.toNat * 16)) (S0 D (AV c.AH).length O) (S0 j (c.AH.toNat * 16) (c.AH.toNat * 16)) (SN))),(y,C Ab ((List.replicate (c.AH.toNat * 16) [I 0]).flatten)),(j,C Az ((List.replicate (c.AH.toNat * 16) [Value.bool false]).flatten))] (G:=[(D,C AO (Ad eRg (AV c.AH) ++ tsp))] ++ (b2,C AW (cl z50)) :: (b1,C 24 [I c.AH,I c.AB,I c.AU]) :: ([] ++ F)) ?_;exact hK _ _ _ ⟨rfl,y,j,H,rfl,rfl⟩
  .refine ja λH=>?_
   refine Ak (jl rfl jev) (Ak (jl rfl jev) ?_);refine FG ?_ (E8 ?_)
   .refine jms Z Z Z λy=>?_
    rw[Q];refine Ak (jl rfl jev) ?_;refine jms Z Z Z λj=>?_
    rw[Q];refine jbd rfl rfl ?_;refine jS ((eNw (S0 y (c.AH.toNat * 16) (c.AH.toNat * 16)) (S0 D (AV c.AH).length O) (S0 j (c.AH.toNat * 16) (c.AH.toNat * 16)) (SN))) ?_;refine Al [(H,C AW (eNw (S0 y (c.AH.toNat * 16) (c.AH.toNat * 16)) (S0 D (AV c.AH).length O) (S0 j (c.AH.toNat * 16) (c.AH.toNat * 16)) (SN))),(y,C Ab ((List.replicate (c.AH.toNat * 16) [I 0]).flatten)),(j,C Az ((List.replicate (c.AH.toNat * 16) [Value.bool false]).flatten))] (G:=[(D,C AO (Ad eRg (AV c.AH) ++ tsp))] ++ (b2,C AW (cl z50)) :: (b1,C 24 [I c.AH,I c.AB,I c.AU]) :: ([] ++ F)) ?_;exact hK _ _ _ ⟨rfl,y,j,H,rfl,rfl⟩
   .refine jms Z Z Z λj=>?_
    rw[Q];refine Ak (jl rfl jev) ?_;refine jms Z Z Z λy=>?_
    rw[Q];refine jbd rfl rfl ?_;refine jS ((eNw (S0 y (c.AH.toNat * 16) (c.AH.toNat * 16)) (S0 D (AV c.AH).length O) (S0 j (c.AH.toNat * 16) (c.AH.toNat * 16)) (SN))) ?_;refine Al [(H,C AW (eNw (S0 y (c.AH.toNat * 16) (c.AH.toNat * 16)) (S0 D (AV c.AH).length O) (S0 j (c.AH.toNat * 16) (c.AH.toNat * 16)) (SN))),(y,C Ab ((List.replicate (c.AH.toNat * 16) [I 0]).flatten)),(j,C Az ((List.replicate (c.AH.toNat * 16) [Value.bool false]).flatten))] (G:=[(D,C AO (Ad eRg (AV c.AH) ++ tsp))] ++ (b2,C AW (cl z50)) :: (b1,C 24 [I c.AH,I c.AB,I c.AU]) :: ([] ++ F)) ?_;exact hK _ _ _ ⟨rfl,y,j,H,rfl,rfl⟩
 rintro e Rz D1 ⟨hR,a2,j,H,hD,he⟩;subst hR;refine z_W ?_;have c9:(List.replicate (c.AH.toNat * 16) [I 0]).flatten = (List.replicate (c.AH.toNat * 16) (0:Int)).map I ++ []:=by simp[fx]
 have c7:(List.replicate (c.AH.toNat * 16) [Value.bool false]).flatten = (List.replicate (c.AH.toNat * 16) false).map Value.bool:=by simp[fx]
 rw[c9,c7];refine B9 (b:=a2) λR2 b4 c0=>?_
 have d2:Ay R2 (S0 a2 (c.AH.toNat * 16) (c.AH.toNat * 16)) (List.replicate (c.AH.toNat * 16) 0):=by
  have:=CO (c:=c.AH.toNat * 16) c0 V;rw[dV] at this;exact this
 refine jbd rfl rfl (ja λb7=>?_);refine js (cs':=[I 4,I 2]) rfl rfl V rfl ?_;refine jfo (jl rfl ?_);refine jla V rfl ?_;refine jc (Pq 16 Bp d2 (by rw[dV];omega)) ?_;rintro v3 R3 A3 a0 ⟨b5,hq⟩;subst b5;obtain⟨d3,e2⟩:=MF a3;unfold QMk at hq;rw[if_pos d3] at hq;obtain⟨sv,⟨y,T,wsp,c6,d4,rfl,rfl⟩,rfl⟩:=hq;refine jex rfl (jex rfl ?_);refine jfo (js rfl rfl (by simp[eNw]) rfl ?_);refine jla (l:=[I 4,I 2]) V rfl (jp (CN Bp) (D0 ⟨δ,δ⟩ ?_));rw[show (16:Int) + AF Bp = 24 by decide];refine jfo (jl rfl ?_);refine jbd rfl rfl ?_;refine C0 (r:=1) Z (Gl (x:=⟨3,-1,24,24,0⟩) Z ?_);refine B8 (D':=(y,C Ab ((Bi c).map I ++ wsp)) :: (b7,C 68 [I 4,I 2]) :: (H,C AW (eNw (S0 y (Bi c).length T) (S0 D (AV c.AH).length O) (S0 j (c.AH.toNat * 16) (c.AH.toNat * 16)) (SN))) :: (j,C Az ((List.replicate (c.AH.toNat * 16) false).map Value.bool)) :: (D,C AO (Ad eRg (AT (AV c.AH) 1 ⟨3,-1,24,24,0⟩) ++ tsp)) :: (b2,C AW (cl z50)) :: (b1,C 24 [I c.AH,I c.AB,I c.AU]) :: F) (eK _) ?_;refine Al [(H,C AW (eNw (S0 y (Bi c).length T) (S0 D (AV c.AH).length O) (S0 j (c.AH.toNat * 16) (c.AH.toNat * 16)) (SN))),(b1,C 24 [I c.AH,I c.AB,I c.AU]),(b2,C AW (cl z50)),(y,C Ab ((Bi c).map I ++ wsp)),(D,C AO (Ad eRg (AT (AV c.AH) 1 ⟨3,-1,24,24,0⟩) ++ tsp)),(j,C Az ((List.replicate (c.AH.toNat * 16) false).map Value.bool))] (G:=F) ?_;generalize hE:(b1,C 24 [I c.AH,I c.AB,I c.AU]) :: (b2,C AW (cl z50)) :: ([(y,C Ab ((Bi c).map I ++ wsp)),(D,C AO (Ad eRg (AT (AV c.AH) 1 ⟨3,-1,24,24,0⟩) ++ tsp)),(j,C Az ((List.replicate (c.AH.toNat * 16) false).map Value.bool))] ++ F) = E;have e1:At E b1 (C 24 [I c.AH,I c.AB,I c.AU]):=by rw[<- hE];exact inferInstance
 refine B8 (D':=(H,C AW (eNw (S0 y (Bi c).length T) (S0 D (AV c.AH).length O) (S0 j (c.AH.toNat * 16) (c.AH.toNat * 16)) (SN))) :: E) (by rw[<- hE];exact eK _) ?_;obtain⟨n,hn⟩:∃n:Nat,c.AB = n:=⟨c.AB.toNat,Z⟩;refine Ac (λvs R' D'=>Rz.le R'/\∃rows v A,Rw (Cd R') rows (List.replicate n ⟨[16],0,false,0⟩)/\SW 117 4 rows v A/\D' = A ++ (H,C AW (eNw (S0 y (Bi c).length T) (S0 D (AV c.AH).length O) (S0 j (c.AH.toNat * 16) (c.AH.toNat * 16)) v)) :: E/\vs = [Pt b2,Pt H]) (λK hK=>?_) ?_
 .refine jcI hK λK2 b0=>?_
  refine jlp (λm vs R' D'=>Rz.le R'/\∃(i:Nat) (rows:List (List Value)) (v:Value) (A:Chs),i<=n/\Rw (Cd R') rows (List.replicate i ⟨[16],0,false,0⟩)/\SW 117 4 rows v A/\D' = A ++ (H,C AW (eNw (S0 y (Bi c).length T) (S0 D (AV c.AH).length O) (S0 j (c.AH.toNat * 16) (c.AH.toNat * 16)) v)) :: E/\vs = [Pt b1,Pt b2,Pt H,I i]/\m = n - i)
   (n:=n) ⟨b4,0,[],SN,[],Z,Rw.nil,.inl ⟨rfl,rfl,rfl⟩,rfl,rfl,Z⟩ ?_
  rintro m e R1 D1 K3 ⟨hR,i,rows,v,A,hi,W,so,hD,he,hm⟩ b3;refine z_W ?_;refine jfo (jl rfl (jlt (jif (λhd=>?_) (λhd=>?_))));rotate_left
  .have hd:i = n:=by have:=z_g hd;omega
   subst hd;exact b0 _ _ _ ⟨hR,rows,v,A,W,so,rfl,rfl⟩
  have hd:i < n:=by have:=z_f hd;omega
  obtain⟨sa,sc,a1⟩:=so.sl;subst a1;refine jfo (jl rfl ?_);refine jbs rfl rfl λb8=>?_
  refine B9 (b:=b8) λR3 a0 c4=>?_
  have d1:Ay R3 (S0 b8 1 1) [16]:=CO (l:=[16]) (sp:=[]) (c:=1) c4 V;refine jbd (cs:=[S0 b8 1 1,I 0,.bool false,I 0]) rfl rfl ?_;refine jbs (cs:=[S0 b8 1 1,I 0,.bool false,I 0]) rfl rfl λb9=>?_
  refine Al A (G:=(b9,C 117 [S0 b8 1 1,I 0,.bool false,I 0]) :: (H,C AW (eNw (S0 y (Bi c).length T) (S0 D (AV c.AH).length O) (S0 j (c.AH.toNat * 16) (c.AH.toNat * 16)) (.slice sa rows.length sc))) :: E) ?_;have hx:BY R3 (A ++ ((b9,C 117 [S0 b8 1 1,I 0,.bool false,I 0]) :: (H,C AW (eNw (S0 y (Bi c).length T) (S0 D (AV c.AH).length O) (S0 j (c.AH.toNat * 16) (c.AH.toNat * 16)) (.slice sa rows.length sc))) :: E)) (some ⟨b9,0,none⟩) (1 * 4) [[S0 b8 1 1,I 0,.bool false,I 0]].flatten:=BY.held (t:=117) (cs:=[S0 b8 1 1,I 0,.bool false,I 0]) (o:=0) (n:=1 * 4) (z_n 4);have c8:=W.1;rw[dV] at c8;refine jaw so (W.all λ_ _=>Cd.len) (by intro r hr;rw[dZ.1 hr];rfl) rfl rfl rfl δ (by rw[di];omega) hx λv' A' a8=>?_
  obtain⟨a6,a7,a4⟩:=a8.sl;subst a4;refine jfo (jS (eNw (S0 y (Bi c).length T) (S0 D (AV c.AH).length O) (S0 j (c.AH.toNat * 16) (c.AH.toNat * 16)) (.slice a6 (rows ++ [[S0 b8 1 1,I 0,.bool false,I 0]]).length a7)) ?_);refine jad ?_;refine Al A' (G:=(H,C AW (eNw (S0 y (Bi c).length T) (S0 D (AV c.AH).length O) (S0 j (c.AH.toNat * 16) (c.AH.toNat * 16)) (.slice a6 (rows ++ [[S0 b8 1 1,I 0,.bool false,I 0]]).length a7))) :: E) ?_;refine b3 (n - (i + 1)) _ _ _ Z ⟨hR.trans a0,i + 1,_,_,A',Z,?_,a8,rfl,rfl,rfl⟩;rw[List.replicate_succ'];exact (W.mono λ_ _=>Cd.le a0).app (Rw.one ⟨_,rfl,d1⟩)
 rintro e R1 D1 ⟨hR,rows,v,A,W,so,hD,he⟩;refine z_W ?_;obtain⟨sa,sc,a1⟩:=so.sl;subst a1;refine jfw so (W.all λ_ _=>Cd.len) λR3 a0 hfz=>?_
 subst hE;refine jla (l:=eNw (S0 y (Bi c).length T) (S0 D (AV c.AH).length O) (S0 j (c.AH.toNat * 16) (c.AH.toNat * 16)) (.slice sa rows.length sc)) (by exact z_n 13) rfl ?_;refine jS (eNw (S0 y (Bi c).length T) (S0 D (AV c.AH).length O) (S0 j (c.AH.toNat * 16) (c.AH.toNat * 16)) (.slice sa rows.length sc)) ?_;refine jla (l:=eNw (S0 y (Bi c).length T) (S0 D (AV c.AH).length O) (S0 j (c.AH.toNat * 16) (c.AH.toNat * 16)) (.slice sa rows.length sc)) (by exact z_n 13) rfl ?_;refine Ao (A:=[(y,C Ab ((Bi c).map I ++ wsp)),(D,C AO (Ad eRg (AT (AV c.AH) 1 ⟨3,-1,24,24,0⟩) ++ tsp)),(j,C Az ((List.replicate (c.AH.toNat * 16) false).map Value.bool))]) (hR.trans a0) ⟨y,T,wsp,D,O,tsp,j,.slice sa rows.length sc,c6,c5,⟨rows,?_,hfz⟩,rfl,rfl⟩;rw[hn,dG];exact W.mono λ_ _=>Cd.le a0
theorem UW {α β γ:Type} {f:α->β->γ} {a:α}:∀(l:List β),List.zipWith f (List.replicate l.length a) l = l.map (f a)
 | []=>rfl
 | b :: r=>by rw[dR,List.replicate_succ,List.zipWith_cons_cons,UW r,eN]
def eBg (c:Cfg) (pv w tv m thv v:Value):List Value:=I c.AH :: I c.AB :: I c.AU :: pv :: (eNw w tv m thv ++ v :: (BW (Dd false 0) (SN) ++ [SN,.bool false]))
theorem OJ {R:RM} {c:Cfg} {pv:Value} {AZ:List (List Sm.Op)} (hc:Bg c = true) (hp:FI R pv AZ) :
  Fn P Kk [.agg #[I c.AH,I c.AB,I c.AU],pv] R [] (λv R' A=>∃p g,v = Pt p/\A = Ag p (Sm.start c AZ) g/\Ok R' (Sm.start c AZ) g):=by
 refine RV λF=>?_
 refine z_2 ?_;have b5:=hc;unfold Bg at hc;simp only[z_b,z_d] at hc;obtain⟨f8,e6,-,-⟩:=id hp;obtain⟨W,pc,e7⟩:=e6.sl;refine ja λb1=>?_
 rw[show cl (.agg #[I c.AH,I c.AB,I c.AU]) = [I c.AH,I c.AB,I c.AU] from rfl];refine jla V rfl ?_;refine jc (SZ b5) ?_;rintro v1 R1 A1 a9 ⟨N,Q,wsp,H,O,tsp,D,g1,e5,f1,a6,rfl,rfl⟩;obtain⟨T,y,e9⟩:=a6.sl;subst e7 e9;refine jex rfl (jex rfl (ja λb2=>(jS (eNw (S0 N (Bi c).length Q) (S0 H (AV c.AH).length O) (S0 D (c.AH.toNat * 16) (c.AH.toNat * 16)) (.slice T (List.replicate c.AB.toNat (⟨[16],0,false,0⟩:Th)).length y)) (jla V rfl (jla (by exact z_n 13) rfl (jbd (cs:=eBg c (.slice W AZ.length pc) (S0 N (Bi c).length Q) (S0 H (AV c.AH).length O) (S0 D (c.AH.toNat * 16) (c.AH.toNat * 16)) (.slice T (List.replicate c.AB.toNat (⟨[16],0,false,0⟩:Th)).length y) (SN)) rfl rfl (ja λp=>?_)))))));generalize hE:(b2,C AW (eNw (S0 N (Bi c).length Q) (S0 H (AV c.AH).length O) (S0 D (c.AH.toNat * 16) (c.AH.toNat * 16)) (.slice T (List.replicate c.AB.toNat (⟨[16],0,false,0⟩:Th)).length y))) :: ([(N,C Ab ((Bi c).map I ++ wsp)),(H,C AO (Ad eRg (AT (AV c.AH) 1 ⟨3,-1,24,24,0⟩) ++ tsp)),(D,C Az ((List.replicate (c.AH.toNat * 16) false).map Value.bool))] ++ (b1,C 24 [I c.AH,I c.AB,I c.AU]) :: ([] ++ F)) = E;have f4:At E b1 (C 24 [I c.AH,I c.AB,I c.AU]):=by rw[<- hE];exact inferInstance
 have f5:At E b2 (C AW (eNw (S0 N (Bi c).length Q) (S0 H (AV c.AH).length O) (S0 D (c.AH.toNat * 16) (c.AH.toNat * 16)) (.slice T (List.replicate c.AB.toNat (⟨[16],0,false,0⟩:Th)).length y))):=by rw[<- hE];exact inferInstance
 refine B8 (D':=(p,C CG (eBg c (.slice W AZ.length pc) (S0 N (Bi c).length Q) (S0 H (AV c.AH).length O) (S0 D (c.AH.toNat * 16) (c.AH.toNat * 16)) (.slice T (List.replicate c.AB.toNat (⟨[16],0,false,0⟩:Th)).length y) (SN))) :: E) (by rw[<- hE]) ?_;obtain⟨n,hn⟩:∃n:Nat,c.AB = n:=⟨c.AB.toNat,Z⟩;have c5:∀(l:List Value),∀r∈l.map (Aw (thr0 [16] 0 0)),r.length = 17:=λl r hr=>by
  obtain⟨x,_,rfl⟩:=dc.1 hr;rfl
 refine Ac (λvs R' D'=>R1.le R'/\∃(j:List Value) (v:Value) (A:Chs),j.length = n/\(∀x∈j,Ay R' x [16])/\SW 183 17 (j.map (Aw (thr0 [16] 0 0))) v A/\D' = A ++ (p,C CG (eBg c (.slice W AZ.length pc) (S0 N (Bi c).length Q) (S0 H (AV c.AH).length O) (S0 D (c.AH.toNat * 16) (c.AH.toNat * 16)) (.slice T (List.replicate c.AB.toNat (⟨[16],0,false,0⟩:Th)).length y) v)) :: E/\vs = [Pt p]) (λK hK=>?_) ?_
 .refine jcI hK λK2 d1=>?_
  refine jlp (λm vs R' D'=>∃i:Nat,i<=n/\m = n - i/\R1.le R'/\∃(j:List Value) (v:Value) (A:Chs),j.length = i/\(∀x∈j,Ay R' x [16])/\SW 183 17 (j.map (Aw (thr0 [16] 0 0))) v A/\D' = A ++ (p,C CG (eBg c (.slice W AZ.length pc) (S0 N (Bi c).length Q) (S0 H (AV c.AH).length O) (S0 D (c.AH.toNat * 16) (c.AH.toNat * 16)) (.slice T (List.replicate c.AB.toNat (⟨[16],0,false,0⟩:Th)).length y) v)) :: E/\vs = [Pt b1,Pt b2,Pt p,I i])
   (n:=n) ⟨0,Z,Z,RM.le.refl R1,[],SN,[],rfl,(λx hx=>by cases hx),.inl ⟨rfl,rfl,rfl⟩,rfl,rfl⟩ ?_
  rintro m e R2 D1 K3 ⟨i,hi,hm,hR,j,v,A,hl,a3,so,hD,he⟩ d2;refine z_W ?_;refine jfo (jl rfl (jlt (jif (λhd=>?_) (λhd=>?_))));rotate_left
  .have hd:i = n:=by have:=z_g hd;omega
   subst hd;exact d1 _ _ _ ⟨hR,j,v,A,hl,a3,so,rfl,rfl⟩
  have hd:i < n:=by have:=z_f hd;omega
  obtain⟨sa,sc,e8⟩:=so.sl;subst e8;rw[dN];refine jnc (jfo (jl rfl (jfo (jl rfl (jtr (a6.le hR) (by rw[dV];omega) λb3 o3 ty cs rv a4 d3 f6 a0=>?_)))));rw[List.getElem_replicate] at a4 a0;refine jfo (jlr d3 (Bm a0 rfl) (jc (CY a4 δ) ?_));rintro _ R3 _ b0 ⟨b8,c8,g0,e4,f3,rfl,rfl⟩;refine B9 (b:=b8) λR4 b4 d4=>?_
  have f0:Ay R4 (S0 b8 1 c8) [16]:=CO d4 e4;refine jbd rfl rfl (Ak (jl rfl jev) (jbs rfl rfl λb9=>(Ak (jl rfl jev) (B8 (D':=(b9,C 183 (Aw (thr0 [16] 0 0) (S0 b8 1 c8))) :: (A ++ (p,C CG (eBg c (.slice W AZ.length pc) (S0 N (Bi c).length Q) (S0 H (AV c.AH).length O) (S0 D (c.AH.toNat * 16) (c.AH.toNat * 16)) (.slice T (List.replicate c.AB.toNat (⟨[16],0,false,0⟩:Th)).length y) (.slice sa j.length sc))) :: E)) (eK _) (Al A (G:=(b9,C 183 (Aw (thr0 [16] 0 0) (S0 b8 1 c8))) :: (p,C CG (eBg c (.slice W AZ.length pc) (S0 N (Bi c).length Q) (S0 H (AV c.AH).length O) (S0 D (c.AH.toNat * 16) (c.AH.toNat * 16)) (.slice T (List.replicate c.AB.toNat (⟨[16],0,false,0⟩:Th)).length y) (.slice sa j.length sc))) :: E) ?_)))));have hx:BY R4 (A ++ ((b9,C 183 (Aw (thr0 [16] 0 0) (S0 b8 1 c8))) :: (p,C CG (eBg c (.slice W AZ.length pc) (S0 N (Bi c).length Q) (S0 H (AV c.AH).length O) (S0 D (c.AH.toNat * 16) (c.AH.toNat * 16)) (.slice T (List.replicate c.AB.toNat (⟨[16],0,false,0⟩:Th)).length y) (.slice sa j.length sc))) :: E)) (some ⟨b9,0,none⟩) (1 * 17) [(Aw (thr0 [16] 0 0) (S0 b8 1 c8))].flatten:=BY.held (cs:=(Aw (thr0 [16] 0 0) (S0 b8 1 c8))) (z_n 17);rw[dN] at so;refine jaw so (c5 _) (by intro r hr;rw[dZ.1 hr];rfl) rfl rfl rfl δ (by rw[di,dN];omega) hx λv' A' a7=>?_
  obtain⟨c0,c4,a5⟩:=a7.sl;have em:j.map (Aw (thr0 [16] 0 0)) ++ [(Aw (thr0 [16] 0 0) (S0 b8 1 c8))] = (j ++ [S0 b8 1 c8]).map (Aw (thr0 [16] 0 0)):=by rw[dz];rfl
  rw[em] at a7 a5;subst a5;refine jnc (jfo (js (cs':=eBg c (.slice W AZ.length pc) (S0 N (Bi c).length Q) (S0 H (AV c.AH).length O) (S0 D (c.AH.toNat * 16) (c.AH.toNat * 16)) (.slice T (List.replicate c.AB.toNat (⟨[16],0,false,0⟩:Th)).length y) (.slice c0 ((j ++ [S0 b8 1 c8]).map (Aw (thr0 [16] 0 0))).length c4)) rfl rfl (by simp[eBg,eNw,BW]) rfl (jad (Al A' (G:=(p,C CG (eBg c (.slice W AZ.length pc) (S0 N (Bi c).length Q) (S0 H (AV c.AH).length O) (S0 D (c.AH.toNat * 16) (c.AH.toNat * 16)) (.slice T (List.replicate c.AB.toNat (⟨[16],0,false,0⟩:Th)).length y) (.slice c0 ((j ++ [S0 b8 1 c8]).map (Aw (thr0 [16] 0 0))).length c4))) :: E) (d2 (n - (i + 1)) _ _ _ Z ⟨i + 1,Z,rfl,(hR.trans b0).trans b4,j ++ [S0 b8 1 c8],_,A',by rw[dK,hl];rfl,?_,a7,rfl,rfl⟩)))));intro x hx;rcases dg.1 hx with hx | hx
  .exact (a3 x hx).le (b0.trans b4)
  .rw[dZ.1 hx];exact f0
 rintro e R2 D1 ⟨hR,j,v,A,hl,a3,so,hD,he⟩;refine z_W ?_;rcases so with ⟨h1,_,_⟩ | ⟨hb,a2,hsp,b6,f2,rfl,rfl⟩
 .have:=congrArg List.length h1;rw[dN,f9] at this;omega
 rw[dN] at b6 ⊢;subst hE
 let g:Img:={ AZ:=.slice W AZ.length pc,wb:=N,wc:=Q,wsp:=wsp,tb:=H,tc:=O,tsp:=tsp,mb:=D,mc:=c.AH.toNat * 16,msp:=[],Ap:=.bool false,want:=I 0,AB:=.slice T (List.replicate c.AB.toNat (⟨[16],0,false,0⟩:Th)).length y,old:=SN,AJ:=SN,hb:=hb,hc:=a2,hsp:=hsp,rv:=j,AR:=SN,ev:=none,esp:=[] }
 have a1:(Sm.start c AZ).th = List.replicate j.length (thr0 [16] 0 0):=by
  rw[hl];show List.replicate c.AB.toNat _ = _;rw[hn,dG]
 have c9:Ez (Sm.start c AZ).th j = (j.map (Aw (thr0 [16] 0 0))).flatten:=by
  rw[a1];unfold Ez;rw[UW]
 have c7:(AT (AV c.AH) 1 (⟨3,-1,24,24,0⟩:Rg)).length = (AV c.AH).length:=by simp[AT]
 have f7:(AV c.AH).length = c.AH.toNat:=by
  unfold AV;rw[if_neg Z];simp;omega
 have a8:Ch (Sm.start c AZ) g = eBg c (.slice W AZ.length pc) (S0 N (Bi c).length Q) (S0 H (AV c.AH).length O) (S0 D (c.AH.toNat * 16) (c.AH.toNat * 16)) (.slice T (List.replicate c.AB.toNat (⟨[16],0,false,0⟩:Th)).length y) (S0 hb j.length a2):=by
  have e1:(Sm.start c AZ).th.length = j.length:=by rw[a1,dV]
  have e2:(Sm.start c AZ).AA.length = (AV c.AH).length:=c7;have e3:(Sm.start c AZ).AM.length = c.AH.toNat * 16:=by show (List.replicate _ _).length = _;rw[dV]
  unfold Ch;rw[e1,e2,e3];rfl
 have c6:Ag p (Sm.start c AZ) g = (p,C CG (eBg c (.slice W AZ.length pc) (S0 N (Bi c).length Q) (S0 H (AV c.AH).length O) (S0 D (c.AH.toNat * 16) (c.AH.toNat * 16)) (.slice T (List.replicate c.AB.toNat (⟨[16],0,false,0⟩:Th)).length y) (S0 hb j.length a2))) :: (N,C Ab ((Bi c).map I ++ wsp)) :: (H,C AO (Ad eRg (AT (AV c.AH) 1 ⟨3,-1,24,24,0⟩) ++ tsp)) :: (D,C Az ((List.replicate (c.AH.toNat * 16) false).map Value.bool ++ [])) :: (hb,C Af ((j.map (Aw (thr0 [16] 0 0))).flatten ++ hsp)) :: []:=by
  unfold Ag;rw[a8];show _ :: _ :: _ :: _ :: (hb,C Af (Ez (Sm.start c AZ).th j ++ hsp)) :: [] = _;rw[c9];rfl
 refine Al [(p,C CG (eBg c (.slice W AZ.length pc) (S0 N (Bi c).length Q) (S0 H (AV c.AH).length O) (S0 D (c.AH.toNat * 16) (c.AH.toNat * 16)) (.slice T (List.replicate c.AB.toNat (⟨[16],0,false,0⟩:Th)).length y) (S0 hb j.length a2))),(N,C Ab ((Bi c).map I ++ wsp)),(H,C AO (Ad eRg (AT (AV c.AH) 1 ⟨3,-1,24,24,0⟩) ++ tsp)),(D,C Az ((List.replicate (c.AH.toNat * 16) false).map Value.bool)),(hb,C Af ((j.map (Aw (thr0 [16] 0 0))).flatten ++ hsp))] (G:=F) (B8 (D':=Ag p (Sm.start c AZ) g ++ F) (by rw[c6,eD]) (Ao (a9.trans hR) ⟨p,g,rfl,rfl,?_⟩));have b7:=a9.trans hR;refine⟨?_,.inl ⟨rfl,rfl,rfl⟩,.inl ⟨rfl,rfl,rfl⟩,.inl ⟨rfl,rfl,rfl⟩,?_,?_,λ_=>rfl,(λb c h=>by cases h),?_,?_,?_,?_,⟨rfl,rfl,rfl⟩,?_,?_,?_⟩
 .obtain⟨vs,h1,h2,h3⟩:=hp;exact⟨vs,h1.le b7,h2,λi hi=>by obtain⟨x,hx,ho⟩:=h3 i hi;exact⟨x,hx,ho.le b7⟩⟩
 .rw[a1,dV]
 .intro i h h';have e:((Sm.start c AZ).th[i]).AD = [16]:=by
   simp only[a1,List.getElem_replicate];rfl
  rw[e];exact a3 _ (dL h')
 .show (Bi c).length<=1000;rw[(MF b5).2];omega
 .show (AT (AV c.AH) 1 (⟨3,-1,24,24,0⟩:Rg)).length<=1000;omega
 .show (List.replicate _ _).length<=1000;rw[dV];omega
 .rw[a1,dV];omega
 .exact e5
 .show (AT (AV c.AH) 1 (⟨3,-1,24,24,0⟩:Rg)).length<=O;omega
 .show (List.replicate _ _).length<=c.AH.toNat * 16;simp
theorem Te {p n:Nat} {S S' : Sim} {g:Img} {R:RM} (D:Ok R S g) (hp:Pr S) (hT:TOk S.AA) (hf:S.full = false) (j:S.pause n = some S') :
  Fn P Dn [Pt p] R (Ag p S g) (DJ p S' λ_=>True):=by
 refine KT λF=>?_
 refine z_1 ?_;unfold Sim.pause at j;split at j
 .cases j
 rename_i N;have N:S.sz = true:=by simpa using N
 rw[if_neg (by rw[hf];decide)] at j;dsimp only at j;have a6:=D.tl;have n1:=hT.n1;refine jl rfl ?_;rw[hf];refine CQ (jss { S with stop:=false } g rfl rfl δ τ τ ?_);have H:Ok R { S with stop:=false } g:={ D with };refine jl rfl (jeq (jif (λT=>?_) (λT=>?_)))
 .rw[if_pos (eq_of_beq T)] at j;simp only[dW] at j;subst j;refine jcS (Si H N) λ_ R2 g2 y _ A=>(B7 y trivial rfl A)
 rw[if_neg (ne_of_beq_false T)] at j;refine jeq (jif (λW=>?_) (λW=>?_))
 .rw[if_pos (eq_of_beq W)] at j;refine jcS (WI H hp j) λ_ R2 g2 y _ A=>(B7 y trivial rfl A)
 rw[if_neg (ne_of_beq_false W)] at j;refine jeq (jif (λh3=>?_) (λh3=>?_));rotate_left
 .rw[if_neg (ne_of_beq_false h3)] at j;refine jcS (XI H N hT j) λ_ R2 g2 y _ A=>(B7 y trivial rfl A)
 rw[if_pos (eq_of_beq h3)] at j;unfold Sim.update at j;obtain⟨_,-,j⟩:=AG j;simp only[dW] at j;refine jss { S with stop:=false,Ae:=3 } g rfl rfl δ τ τ ?_;generalize a4:(λ(i:Int) (x:Rg)=>{ x with AI:=x.top - AK i }) = f at j;have a5:∀(k:Nat) (x:Rg),f k x = { x with AI:=x.top - AK k }:=λk x=>by rw[<- a4]
 refine Ac (λvs Q O=>Q = R/\O = Ag p { S with stop:=false,Ae:=3,AA:=rows f S.AA } g ++ F/\vs = [Pt p]) (λK hK=>?_) ?_;rotate_left
 .rintro e R1 D1 ⟨hR,hD,he⟩;subst hR;refine z_W ?_;refine jl rfl (jl rfl (jbd rfl rfl (jss { S with stop:=false,Ae:=3,AA:=rows f S.AA,col:={ Dd S.col.Ap S.col.want with pc:=6,r:=1,p:=16 } } { g with AR:=SN } rfl rfl δ τ τ ?_)));subst j;refine B7 (RM.le.refl R1) trivial rfl ?_;exact { H with AR:=.inl ⟨rfl,rfl,rfl⟩,tl:=by simpa [rows] using D.tl,tk:=by simpa [rows] using D.tk }
 refine jcI hK λK2 a0=>?_
 refine jlp (λm vs Q O=>Q = R/\∃k:Nat,1<=k/\k<=S.AA.length + 1/\O = Ag p { S with stop:=false,Ae:=3,AA:=CM f k S.AA } g ++ F/\vs = [Pt p,I k]/\m = S.AA.length + 1 - k)
  (n:=S.AA.length) ⟨rfl,1,z_n 1,Z,by rw[IQ],rfl,Z⟩ ?_
 rintro m e R4 D4 K3 ⟨a2,k,k0,k1,hD,he,hm⟩ a1;subst a2;refine z_W ?_;refine jl rfl (jln (jlt (jif (λhc=>?_) (λhc=>?_))));rotate_left
 .have hc:S.AA.length<=k:=by have:=z_g hc;rw[Cb] at this;omega
  refine a0 _ _ _ ⟨rfl,?_,rfl⟩;rw[IT hc]
 have hc:k < S.AA.length:=by have:=z_f hc;rw[Cb] at this;omega
 have RR:=hT.row k Z Z;have t0:=RR.t0;have t1:=RR.t1;rw[Eh hc] at t0 t1;have a3:=Bq (r:=(k:Int)) Z Z;refine jl rfl (C0 (by rw[Cb];exact hc) (So (p:=p) (by simpa using hc) ?_));rw[show ({ S with stop:=false,Ae:=3,AA:=CM f k S.AA }:Sim).AA[k]'(by simpa using hc) = S.AA[k] from Il hc];refine ja λb5=>(js (cs':=eRg (S.AA[k])) rfl rfl V rfl (jfo (jl rfl (jp (BX k) (jsu (jfo (Ak (jl rfl jev) (js (cs':=eRg { S.AA[k] with AI:=(S.AA[k]).top - AK k }) rfl rfl V rfl (jl rfl (jla V rfl (C0 (by rw[Cb];exact hc) (VC (p:=p) { S with stop:=false,Ae:=3,AA:=CM f (k + 1) S.AA } (by simpa using hc) (by rw[<- Iq k0 hc,a5]) (jad (Al (Ag p { S with stop:=false,Ae:=3,AA:=CM f (k + 1) S.AA } g) (G:=F) (a1 (S.AA.length + 1 - (k + 1)) _ _ _ Z ⟨rfl,k + 1,Z,Z,rfl,rfl,rfl⟩)))))))))))))))
end Go.Lf
end
