/- A part of the proof of the given row. Conditions: none. -/
import Derived.Test.YthfhnheigfoioaaGreatFF
set_option linter.unusedVariables false
set_option linter.unusedSimpArgs false
set_option maxRecDepth 100000
section
namespace Go.Lf
open Go Sm
theorem ZF {R:RM} {D:Chs} {v:Value} {l:List Int} {i:Int} {k:Value->M} (h:Aw R v l) (h0:0<=i) (K:i < l.length) (H:∀q:Value,(∀(j : Chs) (x : Value->M),J R j (x (I (l[i.toNat]'(Z))))->J R j (L1 q x))->J R D (k q)):J R D (IA 1 v (I i) k):=by
 rcases h with ⟨_,y,_⟩ | ⟨b,o,G,t,O,rfl,y,Q,N,T⟩
 .omega
 .refine jia h0 K (H _ λj x A=>jlr y ?_ A);have:=congrArg (λl=>l[i.toNat]?) N;simp only[ff,fJ,eU] at this;rw[if_pos Z,dY (by omega:i.toNat < l.length)] at this;rw[fY,this];rfl
theorem SM {S S' : Sim} (h:S.look = some S'):S'.c = S.c/\S'.AI = S.AI:=by
 unfold Sim.look at h;split at h
 .cases h
 obtain⟨_,_,h⟩:=AF h;obtain⟨_,_,h⟩:=AF h;obtain⟨⟨v,x⟩,j,h⟩:=AF h;have e:=Cv j;subst e;obtain⟨_,_,h⟩:=AF h;simp only[dx] at h;subst h;exact⟨rfl,rfl⟩
theorem T4 {S S' : Sim} (h:S.mark = some S'):S'.c = S.c/\S'.AI = S.AI:=by
 unfold Sim.mark at h;split at h
 .cases h
 dsimp only at h;split at h
 .split at h
  .simp only[dx] at h;subst h;exact⟨rfl,rfl⟩
  .simp only[dx] at h;subst h;exact⟨rfl,rfl⟩
 obtain⟨a,_,h⟩:=AF h;obtain⟨row,_,h⟩:=AF h;obtain⟨b,_,h⟩:=AF h;split at h
 .obtain⟨_,_,h⟩:=AF h;obtain⟨⟨v,x⟩,j,h⟩:=AF h;have e:=Cv j;subst e;obtain⟨_,_,h⟩:=AF h;simp only[dx] at h;subst h;exact⟨rfl,rfl⟩
 .simp only[dx] at h;subst h;exact⟨rfl,rfl⟩
def Pr (S:Sim):Prop:=inR S.c.AV/\∀a∈S.AI,AM a<=9223372036854775807
theorem Px {t:List Rg} {AV:Int} {held:List Int} {i:Nat} (h:i < (Ai t AV held).2.length) :
  ∃H,CG (((Ai t AV held).2.take i).foldl (λt r=>(CG t r).getD []) t) ((Ai t AV held).2[i]) = some H/\H.length = t.length/\(((Ai t AV held).2.take i).foldl (λt r=>(CG t r).getD []) t).length = t.length:=by
 cases x:BR t with
 | false=>
  have:Ai t AV held = ([],[]):=by unfold Ai;rw[x];rfl
  rw[this] at h;exact absurd h V
 | true=>
  have T:=Bj.1 x;obtain⟨c1,c2,_⟩:=choose_spec T;generalize (Ai t AV held).2 = q at c1 c2 h ⊢;obtain⟨O,D,Q⟩:=OH (q.take i) t T (c1.sublist (List.take_sublist _ _)) λr hr=>by
   obtain⟨y,A,K,_⟩:=c2 r (ec hr);exact⟨y,A,Z⟩
  obtain⟨y,A,K,_⟩:=c2 q[i] (dc h);have G:q[i] ∉ q.take i:=by
   intro W;obtain⟨j,R,e⟩:=eJ W;rw[dp] at R;rw[gP] at e;have:=(List.getElem_inj c1).1 e;omega
  have e:=Q q[i] y A;rw[if_neg G] at e;obtain⟨N,d2⟩:=Hn O y (by rw[D];exact A) (by rw[e];omega);exact⟨_,N,by rw[DO,D],D⟩
theorem WN {p n:Nat} {S S' : Sim} {g:Img} {R:RM} (c5:Ok R S g) (hp:Pr S) (hS:S.choose n = some S') :
  Fn P J9 [Pt p] R (Ag p S g) (DH p S' λ_=>True):=by
 refine Of λF=>?_
 refine z_1 ?_;unfold Sim.choose at hS;obtain⟨S0,c0,hS⟩:=AF hS;refine Ab (λvs H Q=>R.le H/\∃g0,Ok H S0 g0/\S0.sz = true/\Pr S0/\Q = Ag p S0 g0 ++ F/\vs = [Pt p]) (λK hK=>?_) ?_
 .refine jcI hK λK2 a0=>?_
  refine jlp (λm vs H Q=>R.le H/\∃S1 D,Ok H S1 D/\Pr S1/\Sim.drain m S1 = some S0/\Q = Ag p S1 D ++ F/\vs = [Pt p])
   ⟨RM.le.refl R,S,g,c5,hp,c0,rfl,rfl⟩ ?_
  rintro m e R1 D1 K3 ⟨a2,S1,D,j,b8,y,hD,he⟩ a1;refine z_W ?_;clear hD;cases m with
  | zero=>exact absurd y (by simp[Sim.drain])
  | succ m=>
  unfold Sim.drain at y;split at y
  .cases y
  rename_i hz;have hz:S1.sz = true:=by simpa using hz
  refine jor [Pt p] ((decide ((S1.col.AR.length:Int) > 0)) || (decide ((S1.old.length:Int) > 0))) (λK' b6=>?_) (λe c u ho he=>?_)
  .refine jl rfl (KD j.AR (jgr (jgO b6 λh1 hN=>jl rfl (KD j.old (jgr hN)))))
  refine z_V ?_;refine jor [Pt p] ((decide ((S1.col.AR.length:Int) > 0) || decide ((S1.old.length:Int) > 0)) || (S1.col.pc == 2)) (λK' b6=>?_) (λe c u ho he=>?_)
  .rw[ho];refine jgO b6 λh1 hN=>jl rfl (jeq hN)
  refine z_V ?_;rw[ho];refine jif (λhc=>?_) (λhc=>?_)
  .simp only[eN,z_d,beq_iff_eq] at hc;rw[if_pos Z] at y;have e6:∃S2,(if S1.col.pc = 2 then S1.look else S1.mark) = some S2/\Sim.drain m S2 = some S0:=by
    dsimp only at y;by_cases c2:S1.col.pc = 2
    .rw[if_pos c2] at y ⊢;exact AF y
    .rw[if_neg c2] at y ⊢;exact AF y
   obtain⟨S2,h2,y⟩:=e6;refine Ab (λvs H Q=>R.le H/\∃g2,Ok H S2 g2/\Pr S2/\Q = Ag p S2 g2 ++ F/\vs = [Pt p]) (λK4 b9=>?_) ?_;rotate_left
   .rintro e R2 D2 ⟨N,g2,W,e7,hD,he⟩;refine z_W ?_;clear hD;exact a1 m _ _ _ Z ⟨N,S2,g2,W,e7,y,rfl,rfl⟩
   refine jl rfl (jeq (jif (λh3=>?_) (λh3=>?_)))
   .rw[if_pos (eq_of_beq h3)] at h2;obtain⟨k1,k2⟩:=SM h2;refine jcS (X3 j h2) λ_ R2 g2 N _ W=>(b9 _ _ _ ⟨a2.trans N,g2,W,by unfold Pr;rw[k1,k2];exact b8,rfl,rfl⟩)
   .rw[if_neg (ne_of_beq_false h3)] at h2;obtain⟨k1,k2⟩:=T4 h2;refine jcS (Xp j h2) λ_ R2 g2 N _ W=>(b9 _ _ _ ⟨a2.trans N,g2,W,by unfold Pr;rw[k1,k2];exact b8,rfl,rfl⟩)
  .simp only[eF,decide_eq_false_iff_not,beq_eq_false_iff_ne] at hc;rw[if_neg Z] at y;simp only[dx] at y;subst y;exact a0 _ _ _ ⟨a2,D,j,hz,b8,rfl,rfl⟩
 rintro e R1 D1 ⟨a2,g0,a5,hz,c6,hD,he⟩;refine z_W ?_;clear hD;clear hp c0 c5;have c7:=H4 hz;have f5:=a5.tl;refine jss { S0 with stop:=false } g0 rfl rfl δ τ τ ?_;dsimp only at hS;obtain⟨t4,a9,hS⟩:=AF hS;refine Ab (λvs H Q=>H = R1/\∃v A,SO (S0.AI.map AM) v A/\Q = A ++ (Ag p { S0 with stop:=false } g0 ++ F)/\vs = [Pt p,v]) (λK hK=>?_) ?_
 .refine jcI hK λK2 a0=>?_
  refine jlp (λm vs H Q=>H = R1/\∃(i:Nat) (v:Value) (A:Chs),i<=S0.AI.length/\SO ((S0.AI.take i).map AM) v A/\Q = A ++ (Ag p { S0 with stop:=false } g0 ++ F)/\vs = [Pt p,v,I i]/\m = S0.AI.length - i)
   (n:=S0.AI.length) ⟨rfl,0,SN,[],Z,.inl ⟨V,rfl,rfl⟩,rfl,rfl,Z⟩ ?_
  rintro m e R2 D2 K3 ⟨hR,i,v,A,hi,so,hD,he,hm⟩ a1;subst hR;refine z_W ?_;clear hD;refine jl rfl (KD a5.AI (jlt (jif (λhc=>?_) (λhc=>?_))));rotate_left
  .have hc:=z_g hc;rw[dh Z] at so;exact a0 _ _ _ ⟨rfl,v,A,so,rfl,rfl⟩
  have hc:i < S0.AI.length:=by have:=z_f hc;omega
  refine jl rfl (C5 a5.AI Z Z ?_);have e0:S0.AI[((i:Nat):Int).toNat]'(Z) = S0.AI[i]:=V
  rw[e0];refine jp (Cf _ (c6.2 _ (dc hc))) (jbs rfl rfl λb1=>(BC eP.symm ?_));have hx:BY R2 (A ++ ((b1,C 3 [I (AM S0.AI[i])]) :: (Ag p { S0 with stop:=false } g0 ++ F))) (some ⟨b1,0,none⟩) (1 * 1) ([AM S0.AI[i]].map I):=BY.held (cs:=[I (AM S0.AI[i])]) (z_n 1);obtain⟨sa,sn,sc,rfl⟩:=so.sl;have e8:=c7.2.2.2.1;refine jas so rfl (by rw[df,dp,eK];omega) hx λv' A' f1=>(jad (Al A' (G:=Ag p { S0 with stop:=false } g0 ++ F) (a1 (S0.AI.length - (i + 1)) _ _ _ Z ⟨rfl,i + 1,v',A',Z,by rw[db hc,eS];exact f1,rfl,rfl,rfl⟩)))
 rintro e R2 D2 ⟨hR,v,A,so,hD,he⟩;subst hR;refine z_W ?_;clear hD;refine E0 so λR2 N b5=>?_
 have b0:=a2.trans N;have j:Ok R2 { S0 with stop:=false } g0:={ a5.le N with };refine jl (v:=.slice (some ⟨g0.tb,0,none⟩) S0.AA.length g0.tc) rfl (jl rfl ?_);have e8:=c7.2.2.2.1;refine jmk (Nt S0.c.AV c6.1 Z b5 (by rw[df];omega)) ?_;rintro _ _ ⟨v1,v2,A1,A2,e1,e3,rfl,rfl⟩;refine jex rfl (jex rfl ?_);rw[dm];refine E0 e1 λR3 b7 T=>(E0 e3 λR4 a6 a3=>?_)
 have T:=T.le a6;have W:=(j.le b7).le a6;have b3:=(b0.trans b7).trans a6;clear j a5 b5 so e1 e3 b7 a6 N b0 a2;have cd:∀i (h:i < (Ai S0.AA S0.c.AV (S0.AI.map AM)).2.length),_:=λi h=>Px h
 generalize hq:Ai S0.AA S0.c.AV (S0.AI.map AM) = q at a9 hS T a3 cd ⊢;obtain⟨q1,q2⟩:=q;dsimp only at a9 hS T a3 cd ⊢;generalize c8:q2.foldl (λt r=>(CG t r).getD []) S0.AA = tf at a9;have f4:q2.length < 1000000:=by
  have:=If (S0.AI.map AM) S0.AA.tail 1;have e2:q2 = (Ai S0.AA S0.c.AV (S0.AI.map AM)).2:=by rw[hq]
  rw[fZ] at this;rw[e2];unfold Ai;split
  .dsimp only;omega
  .simp
 have f3:q1.length < 1000000:=by
  have:=Fh S0.AA (S0.AI.map AM) 16 1 S0.c.AV;have e2:q1 = (Ai S0.AA S0.c.AV (S0.AI.map AM)).1:=by rw[hq]
  rw[e2];unfold Ai;split
  .dsimp only;omega
  .simp
 refine Ab (λvs H Q=>H = R4/\∃D,Ok R4 { S0 with stop:=false,AA:=tf } D/\Q = Ag p { S0 with stop:=false,AA:=tf } D ++ F/\vs = [Pt p,v1]) (λK hK=>?_) ?_
 .refine jcI hK λK2 a0=>?_
  refine jlp (λm vs H Q=>H = R4/\∃(i:Nat) (t1:List Rg) (D:Img),i<=q2.length/\t1 = (q2.take i).foldl (λt r=>(CG t r).getD []) S0.AA/\Ok R4 { S0 with stop:=false,AA:=t1 } D/\Q = Ag p { S0 with stop:=false,AA:=t1 } D ++ F/\vs = [Pt p,v1,v2,I i]/\m = q2.length - i)
   (n:=q2.length) ⟨rfl,0,S0.AA,g0,Z,rfl,W,rfl,rfl,Z⟩ ?_
  rintro m e R5 D5 K3 ⟨hR,i,t1,D,hi,a8,j,hD,he,hm⟩ a1;subst hR;refine z_W ?_;clear hD;refine KD a3 (jlt (jif (λhc=>?_) (λhc=>?_)));rotate_left
  .have hc:=z_g hc;rw[dh Z,c8] at a8;subst a8;exact a0 _ _ _ ⟨rfl,D,j,rfl,rfl⟩
  have hc:i < q2.length:=by have:=z_f hc;omega
  obtain⟨t',d1,d2,d3⟩:=cd i hc;rw[<- a8] at d1 d3;refine jl rfl (C5 a3 Z Z ?_);have e0:q2[((i:Nat):Int).toNat]'(Z) = q2[i]:=V
  rw[e0];refine jmk (Kk (t:=t1) _ Z) ?_;rw[d1];rintro _ _ ⟨sv,⟨b4,c4,f2,e5,rfl,rfl⟩,rfl⟩;refine jex rfl (jex rfl (Ru (jad (a1 (q2.length - (i + 1)) _ _ _ Z ⟨rfl,i + 1,t',{ D with tb:=b4,tc:=c4,tsp:=f2 },Z,?_,j.tab Z _ _ _ e5,rfl,rfl,rfl⟩))));rw[db hc,gy,<- a8];simp only[ge,List.foldl_nil,d1,eR]
 rintro e R5 D5 ⟨hR,D,j,hD,he⟩;subst hR;refine z_W ?_;clear hD;clear cd a3 c8 W;refine Ab (λvs H Q=>H = R5/\∃D,Ok R5 { S0 with stop:=false,AA:=t4 } D/\Q = Ag p { S0 with stop:=false,AA:=t4 } D ++ F/\vs = [Pt p,v1]) (λK hK=>?_) ?_
 .refine jcI hK λK2 a0=>?_
  refine jlp (λm vs H Q=>H = R5/\∃(i:Nat) (t1:List Rg),i<=q1.length/\NR (q1.drop i) t1 = some t4/\Ok R5 { S0 with stop:=false,AA:=t1 } D/\Q = Ag p { S0 with stop:=false,AA:=t1 } D ++ F/\vs = [Pt p,v1,I i]/\m = q1.length - i)
   (n:=q1.length) ⟨rfl,0,tf,Z,a9,j,rfl,rfl,Z⟩ ?_
  rintro m e R6 D6 K3 ⟨hR,i,t1,hi,O,j,hD,he,hm⟩ a1;subst hR;refine z_W ?_;clear hD;refine KD T (jlt (jif (λhc=>?_) (λhc=>?_)));rotate_left
  .have hc:=z_g hc;rw[dv Z] at O;simp only[NR,dx] at O;subst O;exact a0 _ _ _ ⟨rfl,D,j,rfl,rfl⟩
  have hc:i < q1.length:=by have:=z_f hc;omega
  rw[dq hc] at O;unfold NR at O;obtain⟨x,hx,O⟩:=AF O;obtain⟨x0,x1,x2,x3⟩:=Ay hx;have e0:q1[((i:Nat):Int).toNat]'(Z) = q1[i]:=V
  have c9:=j.tl;refine jl rfl (ZF T Z Z λqq a7=>a7 _ _ ?_);rw[e0] at a7 ⊢;obtain⟨k,hk⟩:∃k:Nat,q1[i] = k:=⟨q1[i].toNat,Z⟩;rw[hk] at a7 O ⊢;have a4:k < t1.length:=Z
  have e9:t1[k] = x:=by rw[<- x3];simp only[hk,da]
  refine CC a4 (Sq (p:=p) a4 (ja λb2=>(Ak (jl rfl jev) (Ak (a7 _ _ jev) (Ak (Sq (p:=p) a4 jev) ?_)))));have d4 : ({ S0 with stop:=false,AA:=t1 }:Sim).AA[k] = x:=e9;rw[d4];refine js (cs':=eRg x) rfl rfl V rfl (js (cs':=eRg { x with kind:=4 }) rfl rfl V rfl (jl rfl (C5 T Z Z ?_)));rw[e0,hk];refine jla V rfl (CC a4 (VF (p:=p) { S0 with stop:=false,AA:=t1.set k { x with kind:=4 } } a4 τ (jad (Al (Ag p { S0 with stop:=false,AA:=t1.set k { x with kind:=4 } } D) (G:=F) (a1 (q1.length - (i + 1)) _ _ _ Z ⟨rfl,i + 1,t1.set k { x with kind:=4 },Z,?_,{ j with tl:=by simpa using c9,tk:=by simpa using j.tk },rfl,rfl,rfl⟩)))));rw[<- O];simp[AU]
 rintro e R6 D6 ⟨hR,D,j,hD,he⟩;subst hR;refine z_W ?_;clear hD;refine KD T (jeq (jif (λhc=>?_) (λhc=>?_)))
 .rw[if_pos (by have:=eq_of_beq hc;omega)] at hS;refine jcS (WY j hS) λ_ R7 g7 e4 _ f0=>(B7 (b3.trans e4) trivial rfl f0)
 .rw[if_neg (by have:=ne_of_beq_false hc;omega)] at hS;simp only[dx] at hS;refine jss { S0 with stop:=false,AA:=t4,Ac:=2 } D rfl rfl δ τ τ (jl rfl (jl rfl (jbd rfl rfl (jss { S0 with stop:=false,AA:=t4,Ac:=2,col:={ De S0.col.As S0.col.want with pc:=5,r:=1,p:=16 } } { D with AR:=SN } rfl rfl δ τ τ ?_))));subst hS;refine B7 b3 trivial rfl ?_;exact { j with AR:=.inl ⟨rfl,rfl,rfl⟩ }
theorem Md {S:Sim}:∀{l j : List Int},S.rootsF l = some j->j.length = l.length/\∀k (h:k < l.length) (A : k < j.length),∃f,S.from_ l[k] = some f/\(if f then idx S.AC l[k] else some l[k]) = some j[k]
 | [],j,e=>by
  simp only[Sim.rootsF,dx] at e;subst e;exact⟨rfl,λk h=>absurd h V⟩
 | a :: r,j,e=>by
  unfold Sim.rootsF at e;obtain⟨f,K,e⟩:=AF e;have D:∃b,(if f then idx S.AC a else some a) = some b/\∃x,S.rootsF r = some x/\b :: x = j:=by
   cases f with
   | true=>
    obtain⟨b,hb,e⟩:=AF e;obtain⟨x,y,e⟩:=AF e;simp only[dx] at e;exact⟨b,hb,x,y,e⟩
   | false=>
    obtain⟨b,hb,e⟩:=AF e;obtain⟨x,y,e⟩:=AF e;simp only[dx] at e;exact⟨b,hb,x,y,e⟩
  obtain⟨b,hb,x,y,rfl⟩:=D;obtain⟨G,H⟩:=Md y;refine⟨by simp[G],λk h A=>?_⟩;cases k with
  | zero=>exact⟨f,K,hb⟩
  | succ k=>exact H k (by simpa using h) (by simpa using A)
theorem RZ {S:Sim}:∀{l j : List Thr},S.thsF l = some j->j.length = l.length/\∀k (h:k < l.length) (x : k < j.length),∃r,S.rootsF l[k].AD = some r/\j[k] = { l[k] with AD:=r }
 | [],j,e=>by
  simp only[Sim.thsF,dx] at e;subst e;exact⟨rfl,λk h=>absurd h V⟩
 | a :: r,j,e=>by
  unfold Sim.thsF at e;obtain⟨r1,D,e⟩:=AF e;obtain⟨H,G,e⟩:=AF e;simp only[dx] at e;subst e;obtain⟨y,A⟩:=RZ G;refine⟨by simp[y],λk h x=>?_⟩;cases k with
  | zero=>exact⟨r1,D,rfl⟩
  | succ k=>exact A k (by simpa using h) (by simpa using x)
theorem jsi {R:RM} {b k:Nat} {l:List Int} {sp:List Value} {w:Int} {D D' : Chs} {m:M} (j:k < l.length) [a:At D b (C Ad (l.map I ++ sp))] [u:Up D b (C Ad (l.map I ++ sp)) (C Ad ((l.set k w).map I ++ sp)) D'] (H:J R D' m):J R D (ST 1 (.pointer (some ⟨b,0 + k * 1,none⟩)) (I w) m):=by
 rw[eH,fY];refine js (cs':=(l.set k w).map I ++ sp) rfl rfl (by simp;omega) ?_ H;rw[show cl (I w) = [I w] from rfl,Gi (by simp;omega),List.set_append_left _ _ (by simpa using j),List.map_set]
theorem GS {α:Type} {l l' : List α} {k:Nat} (hl:l'.length = l.length) (x:k < l.length):(l'.take k ++ l.drop k).set k (l'[k]'(Z)) = l'.take (k + 1) ++ l.drop (k + 1):=by
 have j:(l'.take k).length = k:=by simp;omega
 rw[fd _ _ Z,j,Nat.sub_self,dq x,List.set_cons_zero,db Z,dm,List.singleton_append]
theorem JU {α:Type} {l l' : List α} {k:Nat} (hl:l'.length = l.length) (x:k < l.length) (h:k < (l'.take k ++ l.drop k).length):(l'.take k ++ l.drop k)[k] = l[k]:=by
 have j:(l'.take k).length = k:=by simp;omega
 rw[fh Z,gG];congr 1;omega
theorem EA {α:Type} {l l' : List α} {k:Nat} (hl:l'.length = l.length):(l'.take k ++ l.drop k).length = l.length:=by simp;omega
theorem XU {p:Nat} {S S' : Sim} {g:Img} {R:RM} (b3:Ok R S g) (hz:S.sz = true) (hT:TOk S.AA) (hS:S.finish = some S') :
  Fn P Ja [Pt p] R (Ag p S g) (DH p S' λ_=>True):=by
 refine Pk λF=>?_
 refine z_1 ?_;unfold Sim.finish at hS;obtain⟨th,e9,hS⟩:=AF hS;obtain⟨a4,f3⟩:=RZ e9;have e8:=H4 hz;have f6:=b3.hl;have g8:=b3.tl;refine Ab (λvs x D'=>R.le x/\∃g1,Ok x { S with th:=th } g1/\D' = Ag p { S with th:=th } g1 ++ F/\vs = [Pt p]) (λK hK=>?_) ?_
 .refine jcI hK λK2 a9=>?_
  refine jlp (λm vs x D'=>R.le x/\∃(i:Nat) (g1:Img),i<=S.th.length/\Ok x { S with th:=th.take i ++ S.th.drop i } g1/\D' = Ag p { S with th:=th.take i ++ S.th.drop i } g1 ++ F/\vs = [Pt p,I i]/\m = S.th.length - i)
   ⟨RM.le.refl R,0,g,Z,by simpa using b3,V,rfl,Z⟩ ?_
  rintro m e R1 D1 K3 ⟨hR,i,g1,hi,W,hD,he,hm⟩ b0;refine z_W ?_;refine jl rfl (jln (jlt (jif (λhc=>?_) (λhc=>?_))));rotate_left
  .have hc:i = S.th.length:=by have:=z_g hc;rw[EA a4] at this;omega
   have e1:th.take i ++ S.th.drop i = th:=by rw[dh Z,dv Z,eh]
   rw[e1] at W ⊢;exact a9 _ _ _ ⟨hR,g1,W,rfl,rfl⟩
  have hc:i < S.th.length:=by have:=z_f hc;rw[EA a4] at this;omega
  obtain⟨r',e6,et⟩:=f3 i hc Z;obtain⟨a7,f2⟩:=Md e6;have b8:idx (th.take i ++ S.th.drop i) i = some (S.th[i]):=by
   unfold idx;rw[if_pos Z,da,dY (by rw[EA a4];exact hc),JU a4 hc]
  have e7:=e8.2.2.2.2 _ (dc hc);generalize a6:({ S with th:=th.take i ++ S.th.drop i }:Sim) = H at W ⊢;have e1:H.th = th.take i ++ S.th.drop i:=by rw[<- a6]
  have e2:H.AC = S.AC:=by rw[<- a6]
  have e3:∀a,H.from_ a = S.from_ a:=λa=>by rw[<- a6];rfl
  rw[<- e1] at b8;refine Hc W b8 rfl λb a f5 hv=>(jl rfl (jc (Ca hv e7) ?_))
  rintro _ R2 _ a1 ⟨N,c4,D,b6,f4,rfl,rfl⟩;refine js rfl rfl (by simp[Ax]) rfl (BC (D':=(N,C Ad ((S.th[i]).AD.map I ++ D)) :: (b,C Ae (Ax (S.th[i]) (S0 N (S.th[i]).AD.length c4))) :: (Ag p H g1 ++ F)) (f9 _) (Al (Ag p H g1) (G:=(N,C Ad ((S.th[i]).AD.map I ++ D)) :: (b,C Ae (Ax (S.th[i]) (S0 N (S.th[i]).AD.length c4))) :: F) ?_));have a0:=W.le a1;have c8:=hR.trans a1;refine Ab (λvs x D'=>R.le x/\∃j,Ok x H j/\D' = Ag p H j ++ (N,C Ad (r'.map I ++ D)) :: (b,C Ae (Ax (S.th[i]) (S0 N (S.th[i]).AD.length c4))) :: F/\vs = [Pt p,I i,Pt b]) (λK4 b1=>?_) ?_;rotate_left
  .rintro e R3 D3 ⟨O,j,a2,hD,he⟩;refine z_W ?_;refine BC eP (BE (b:=N) λR4 Q c9=>?_);have f0:=CT (c:=c4) c9 Z;have a3:=a2.le Q;have ev:Ax (S.th[i]) (S0 N (S.th[i]).AD.length c4) = Ax { S.th[i] with AD:=r' } (S0 N r'.length c4):=by rw[a7];rfl
   rw[ev];refine H9 { H with th:=AU H.th i { S.th[i] with AD:=r' } } a3 Z (by rw[e1,EA a4];omega) f0 τ λg5 b9=>(jad ?_)
   have e5:({ H with th:=AU H.th i { S.th[i] with AD:=r' } }:Sim) = { S with th:=th.take (i + 1) ++ S.th.drop (i + 1) }:=by
    rw[<- a6,<- et];have:=GS a4 hc;simp only[AU,da,this]
   rw[e5] at b9 ⊢;refine Al (Ag p { S with th:=th.take (i + 1) ++ S.th.drop (i + 1) } g5) (G:=F) (b0 (S.th.length - (i + 1)) _ _ _ Z ⟨O.trans Q,i + 1,g5,Z,b9,rfl,rfl,rfl⟩)
  refine jcI b1 λK5 a5=>?_
  refine jlp (λm vs x D'=>R.le x/\∃(k:Nat) (j:Img) (l:List Int),k<=(S.th[i]).AD.length/\l = r'.take k ++ (S.th[i]).AD.drop k/\Ok x H j/\D' = Ag p H j ++ (N,C Ad (l.map I ++ D)) :: (b,C Ae (Ax (S.th[i]) (S0 N (S.th[i]).AD.length c4))) :: F/\vs = [Pt p,I i,Pt b,I k]/\m = (S.th[i]).AD.length - k)
   ⟨c8,0,g1,(S.th[i]).AD,Z,V,a0,rfl,rfl,Z⟩ ?_
  rintro m e R3 D3 K6 ⟨O,k,j,l,hk,hl,a2,hD,he,hm⟩ c0;refine z_W ?_;have g6:l.length = (S.th[i]).AD.length:=by rw[hl,EA a7]
  refine jl rfl (jln (jlt (jif (λhd=>?_) (λhd=>?_))));rotate_left
  .have hd:k = (S.th[i]).AD.length:=by have:=z_g hd;omega
   have:l = r':=by rw[hl,dh Z,dv Z,eh]
   subst this;exact a5 _ _ _ ⟨O,j,a2,rfl,rfl⟩
  have hd:k < (S.th[i]).AD.length:=by have:=z_f hd;omega
  obtain⟨f,hf,hw⟩:=f2 k hd Z;obtain⟨y,hy⟩:∃y,r'[k]'(Z) = y:=⟨_,rfl⟩;rw[hy] at hw;have b7:l[k]'(Z) = (S.th[i]).AD[k]:=by subst hl;exact JU a7 hd Z
  refine Ab (λvs x D'=>R.le x/\∃j,Ok x H j/\D' = Ag p H j ++ (N,C Ad ((l.set k y).map I ++ D)) :: (b,C Ae (Ax (S.th[i]) (S0 N (S.th[i]).AD.length c4))) :: F/\vs = [Pt p,I i,Pt b,I k]) (λK7 c5=>?_) ?_;rotate_left
  .rintro e R4 D4 ⟨Q,g3,a3,hD,he⟩;refine z_W ?_;refine jad (c0 ((S.th[i]).AD.length - (k + 1)) _ _ _ Z ⟨Q,k + 1,g3,l.set k y,Z,by rw[hl,<- hy];exact GS a7 hd,a3,rfl,rfl,rfl⟩)
  refine jcI c5 λK8 b5=>?_
  have gk:∀g' : Img,(l.map I ++ D)[0 + k * 1]? = some (I (S.th[i]).AD[k]):=λ_=>by
   rw[eH,fY,GE Z,b7]
  refine jl rfl (CC hd (jl (gk g) (jcS (M6 a2 ((e3 _).trans hf)) λ_ R4 g3 Q hr a3=>?_)));subst hr;refine jif (λb2=>?_) (λb2=>?_)
  .subst b2;rw[if_pos rfl] at hw;obtain⟨w0,w1,w2,w3⟩:=Ay hw;refine jl rfl (jl rfl (jl rfl (CC hd (jl (gk g) (jia w0 (by rw[e2];exact w1) (jl (v:=I y) ?_ ?_))))))
   .rw[eH,fY,GE (by rw[e2];exact w2)];simp only[e2,w3]
   refine CC hd (jsi Z (b5 _ _ _ ⟨O.trans Q,g3,a3,rfl,rfl⟩))
  .subst b2;simp only[eO,if_false,dx] at hw;refine b5 _ _ _ ⟨O.trans Q,g3,a3,?_,rfl⟩;have:l.set k y = l:=by rw[<- hw,<- b7];exact List.set_getElem_self _
   rw[this]
 rintro e R1 D1 ⟨c6,g1,W,hD,he⟩;refine z_W ?_;generalize d4:DF S.AA.length 1 S.AA = td at hS;refine Ab (λvs x D'=>x = R1/\∃j,Ok x { S with th:=th,AA:=td } j/\D' = Ag p { S with th:=th,AA:=td } j ++ F/\vs = [Pt p]) (λK hK=>?_) ?_;rotate_left
 .rintro e R2 D2 ⟨a1,j,a0,hD,he⟩;subst a1;refine z_W ?_;refine jcS (WY a0 hS) λ_ R7 g7 c7 _ f1=>(B7 (c6.trans c7) trivial rfl f1)
 refine jcI hK λK2 a9=>?_
 refine jlp (λm vs x D'=>x = R1/\∃(i:Nat) (t1:List Rg) (j:Img),1<=i/\i<=S.AA.length/\TOk t1/\t1.length = S.AA.length/\DF (S.AA.length + 1 - i) i t1 = td/\Ok x { S with th:=th,AA:=t1 } j/\D' = Ag p { S with th:=th,AA:=t1 } j ++ F/\vs = [Pt p,I i]/\m = S.AA.length + 1 - i)
  (n:=S.AA.length) ⟨rfl,1,S.AA,g1,Z,by have:=hT.n0;omega,hT,rfl,d4,W,rfl,rfl,Z⟩ ?_
 rintro m e R2 D2 K3 ⟨a1,i,t1,j,f8,g0,T,a8,A,a0,hD,he,hm⟩ b0;subst a1;refine z_W ?_;refine jl (v:=.slice (some ⟨j.tb,0,none⟩) t1.length j.tc) rfl (jln (jlt (jif (λhc=>?_) (λhc=>?_))));rotate_left
 .have hc:i = S.AA.length:=by have:=z_g hc;omega
  have:t1 = td:=by
   rw[<- A,show S.AA.length + 1 - i = 0 + 1 by omega];unfold DF;rw[fG Z]
  subst this;exact a9 _ _ _ ⟨rfl,j,a0,rfl,rfl⟩
 have hc:i < t1.length:=by have:=z_f hc;omega
 rw[show S.AA.length + 1 - i = (S.AA.length + 1 - (i + 1)) + 1 by omega] at A;unfold DF at A;rw[dY hc] at A;simp only at A;refine Ab (λvs x D'=>x = R2/\∃(t2:List Rg) (g3:Img),TOk t2/\t2.length = S.AA.length/\DF (S.AA.length + 1 - (i + 1)) (i + 1) t2 = td/\Ok x { S with th:=th,AA:=t2 } g3/\D' = Ag p { S with th:=th,AA:=t2 } g3 ++ F/\vs = [Pt p,I i]) (λK4 b1=>?_) ?_;rotate_left
 .rintro e R3 D3 ⟨O,t2,g3,T2,e4,d3,a2,hD,he⟩;subst O;refine z_W ?_;refine jad (b0 (S.AA.length + 1 - (i + 1)) _ _ _ Z ⟨rfl,i + 1,t2,g3,Z,Z,T2,e4,d3,a2,rfl,rfl,rfl⟩)
 refine jcI b1 λK5 a5=>?_
 refine jl rfl (CC hc (jl (by rw[eH];exact CF hc rfl) (jeq (jif (λhk=>?_) (λhk=>?_)))))
 .rw[if_pos hk] at A;have g4:(rv t1 i).kind = 4:=by rw[EL hc];exact eq_of_beq hk
  obtain⟨d1,d2⟩:=Hn (r:=i) T Z Z Z;rw[d1] at A;simp only[eR] at A;refine jl rfl (jmk (Kk (t:=t1) _ Z) ?_);rw[d1];rintro _ _ ⟨sv,⟨N,c4,D,b6,rfl,rfl⟩,rfl⟩;refine jex rfl (jex rfl (Ru (a5 _ _ _ ⟨rfl,AU t1 i (Dn i),{ j with tb:=N,tc:=c4,tsp:=D },d2,by rw[DO,a8],A,a0.tab (by rw[DO];omega) _ _ _ b6,rfl,rfl⟩)))
 .rw[if_neg (by rw[hk];decide)] at A;exact a5 _ _ _ ⟨rfl,t1,j,T,a8,A,a0,rfl,rfl⟩
theorem Aw.sl {R:RM} {v:Value} {l:List Int} (h:Aw R v l):∃a c,v = .slice a l.length c:=by
 obtain⟨a,j,x,-⟩:=Aw.reads (D:=[]) h;exact⟨a,j,x⟩
theorem Jt (a:Option Addr) (n c:Nat) (O:n < 1000000000000):Pu KQ [.slice a n c] (.bool (BM n)):=by
 intro R;refine RI λF=>?_
 refine z_1 ?_;have eq:(n:Int).tdiv 16 = (n / 16:Nat):=by rw[fX Z];omega
 have H:(n:Int).tmod 16 = (n % 16:Nat):=by rw[gZ Z];omega
 refine jln (Pd δ ⟨Z,Z⟩ ?_);rw[eq];refine jan [I ((n / 16:Nat):Int)] (((n:Int).tmod 16 == 0) && (decide (((n / 16:Nat):Int)>=2))) (λG j=>?_) (λe c u y he=>?_)
 .refine jln (QN δ (jeq (jgA j λD x=>jge x)))
 refine z_V ?_;refine jan [] ((((n:Int).tmod 16 == 0) && decide (((n / 16:Nat):Int)>=2)) && (decide (((n / 16:Nat):Int)<=12))) (λG j=>?_) (λe c u y he=>?_)
 .rw[y];refine jgA j λD x=>jle x
 refine z_V ?_;rw[y];refine Ao (A:=[]) (RM.le.refl R) ?_;congr 1;unfold BM;rw[H,fL];simp only[z_b,z_d,beq_iff_eq];constructor<;>rintro⟨⟨D,K⟩,N⟩<;>exact⟨⟨Z,Z⟩,Z⟩
theorem ND (x:Option Addr) (n G:Nat) (a size:Int) (O:n < 1000000000000):Pu MC [.slice x n G,I a,I size] (.bool (fits n a size)):=by
 intro R;refine S8 λF=>?_
 refine z_3 ?_;refine jan [.slice x n G,I a,I size] ((BM n) && (decide (size > 0))) (λK j=>?_) (λe c u D he=>?_)
 .refine jp (Jt x n G O) (jgA j λH y=>jgr y)
 refine z_V ?_;refine jan [.slice x n G,I a,I size] ((BM n && decide (size > 0)) && (decide (size<=16))) (λK j=>?_) (λe c u D he=>?_)
 .rw[D];refine jgA j λH y=>jle y
 refine z_V ?_;refine jan [.slice x n G,I a,I size] ((BM n && decide (size > 0) && decide (size<=16)) && (decide (a>=16))) (λK j=>?_) (λe c u D he=>?_)
 .rw[D];refine jgA j λH y=>jge y
 refine z_V ?_;refine jan [I a,I size] ((BM n && decide (size > 0) && decide (size<=16) && decide (a>=16)) && (decide (a < n))) (λK j=>?_) (λe c u D he=>?_)
 .rw[D];refine jgA j λH y=>jln (jlt y)
 refine z_V ?_;refine jan [] ((BM n && decide (size > 0) && decide (size<=16) && decide (a>=16) && decide (a < n)) && (AM a == AM (a + size - 1))) (λK j=>?_) (λe c u D he=>?_)
 .rw[D];refine jgA j λH y=>?_
  have N:=H;simp only[z_b,z_d] at N;have r1:AM a<=9223372036854775807:=by unfold AM;split<;>omega
  have Q:AM (a + size - 1)<=9223372036854775807:=by unfold AM;split<;>omega
  refine jp (Cf a r1) (jad (jsu (jp (Cf _ Q) (jeq y))))
 refine z_V ?_;rw[D];refine Ao (A:=[]) (RM.le.refl R) ?_;congr 1
theorem OG {n:Int}:∀{l:List Int} {i:Nat} (h:i < l.length),l[i] = n->(∀k (j:k < l.length),k < i->l[k]≠n)->l.idxOf n = i
 | [],i,h,_,_=>absurd h V
 | a :: r,0,_,e,_=>by
  have e:a = n:=e;rw[List.idxOf_cons,e];simp
 | a :: r,i + 1,h,e,Bv=>by
  have h0:a≠n:=Bv 0 V Z;have:=OG (by simpa using h) (by simpa using e) (λk j x=>by have:=Bv (k + 1) (by simpa using j) Z;simpa using this);rw[List.idxOf_cons,this];have:(a == n) = false:=by simpa using h0
  rw[this];rfl
def eTh (t:AO) (rv nv:Value):List Value:=[I t.at_,I t.moved,I t.sh.refs,I t.sh.nums,rv,nv]
def ThV (R:RM) (v:Value) (t:AO):Prop:=∃rv nv,v = .agg (eTh t rv nv).toArray/\Aw R rv t.refs/\Aw R nv t.nums
theorem ThV.le {R j : RM} {v:Value} {t:AO} (h:R.le j) (H:ThV R v t):ThV j v t:=by
 obtain⟨rv,nv,x,y,A⟩:=H;exact⟨rv,nv,x,y.le h,A.le h⟩
theorem FH {n:Nat} {a size:Int} (h:fits n a size = true):16<=a/\a + size<=n/\0 < size/\size<=16:=by
 unfold fits BM at h;simp only[z_b,z_d,beq_iff_eq] at h;obtain⟨⟨⟨⟨⟨⟨⟨D,G⟩,H⟩,x⟩,y⟩,A⟩,K⟩,j⟩:=h;unfold AM at j;rw[if_neg Z,if_neg Z] at j;refine⟨A,?_,x,y⟩;omega
theorem GI {w:Int} (h:(AT w).2 = true):0<=(AT w).1.refs/\(AT w).1.refs<=4/\0<=(AT w).1.nums/\(AT w).1.nums<=4/\AH (AT w).1 = 2 + (AT w).1.refs + (AT w).1.nums:=by
 unfold AT at h ⊢;split at h
 .rename_i hc;rw[if_pos hc];have j:BN ⟨w / 16,w % 16⟩ = true:=by
   unfold BN;simp only[z_b,z_d];omega
  refine⟨by dsimp only;omega,by dsimp only;omega,by dsimp only;omega,by dsimp only;omega,?_⟩;unfold AH;rw[if_pos j]
 .exact absurd h δ
theorem QP {w:List Int} {k i:Nat} (h:k + i < w.length):(w.drop k).take (i + 1) = (w.drop k).take i ++ [w[k + i]]:=by
 rw[db (by rw[fA];omega),gG]
theorem Vv {R:RM} {wv:Value} {w:List Int} (a:Int) (h:Aw R wv w) (hl:w.length < 1000000000000) :
  Fn P Kh [wv,I a] R [] (λv H A=>A = []/\∃x,ThV H x (Ap w a).1/\v = .tuple #[x,.bool (Ap w a).2]):=by
 refine S6 λF=>?_
 refine z_2 ?_;obtain⟨wa,wc,a7⟩:=h.sl;refine ja λb1=>?_
 have none_:∀(R1:RM) (G:Chs),R.le R1->(Ap w a) = (Ef,false)->∀{D:Chs} [At D b1 (C BX (eTh Ef (SN) (SN)))] [Sf D F],True:=λ_ _ _ _ _ _ _=>trivial
 clear none_;rw[a7];refine jp (ND wa w.length wc a 2 hl) (jif (λh2=>?_) (λh2=>?_))
 .have h2:fits w.length a 2 = false:=by simpa using h2
  have et:Ap w a = (Ef,false):=by unfold Ap;rw[h2];rfl
  refine jbd rfl rfl ?_;refine js rfl rfl (by exact z_n 6) rfl ?_;refine jla (by exact z_n 6) rfl ?_;refine Ao (RM.le.refl R) ⟨rfl,_,?_,by rw[et]⟩;rw[et];exact⟨_,_,rfl,.inl ⟨rfl,rfl,rfl⟩,.inl ⟨rfl,rfl,rfl⟩⟩
 have h2:fits w.length a 2 = true:=by simpa using h2
 obtain⟨a0,a1,-,-⟩:=FH h2;obtain⟨n,rfl⟩:∃n:Nat,a = n:=⟨a.toNat,Z⟩;rw[<- a7];refine jad (C5 h Z Z ?_);have e1:w[((n:Int) + 1).toNat]'(Z) = w[n + 1]:=getElem_congr_idx Z;rw[e1];refine jp (FP _) (jex rfl (jex rfl ?_));have eg:w.getD (((n:Int)).toNat + 1) 0 = w[n + 1]:=by
  rw[da,dZ,dY Z,eR]
 have j:Ap w n = if (AT w[n + 1]).2 && fits w.length n (AH (AT w[n + 1]).1) then (⟨n,w.getD ((n:Int)).toNat 0,(AT w[n + 1]).1,seg w (n + 2) (AT w[n + 1]).1.refs,seg w (n + 2 + (AT w[n + 1]).1.refs) (AT w[n + 1]).1.nums⟩,true) else (Ef,false):=by
  unfold Ap;rw[if_pos h2,eg]
 have sr:=@GI w[n + 1];generalize AT w[n + 1] = s at j sr ⊢;obtain⟨s,sb⟩:=s;dsimp only at j sr ⊢;refine ja λb2=>?_
 refine js (cs':=[I s.refs,I s.nums]) rfl rfl V rfl ?_;rw[a7];refine jor [.slice wa w.length wc,I n,Pt b1,Pt b2] ((!sb) || (!fits w.length n (AH s))) (λK' c0=>?_) (λe c u ho he=>?_)
 .refine jgO c0 λh1 hN=>jla (l:=[I s.refs,I s.nums]) V rfl (jp (Cb s) (jp (ND wa w.length wc n (AH s) hl) hN))
 refine z_V ?_;rw[ho];refine jif (λO=>?_) (λO=>?_)
 .have et:Ap w n = (Ef,false):=by
   rw[j,if_neg];intro hh;simp only[eN,eL,z_b] at O hh;rcases O with O | O
   .rw[O] at hh;exact absurd hh.1 δ
   .rw[O] at hh;exact absurd hh.2 δ
  refine jbd rfl rfl ?_;refine js rfl rfl (by exact z_n 6) rfl ?_;refine jla (by exact z_n 6) rfl ?_;refine Ao (RM.le.refl R) ⟨rfl,_,?_,by rw[et]⟩;rw[et];exact⟨_,_,rfl,.inl ⟨rfl,rfl,rfl⟩,.inl ⟨rfl,rfl,rfl⟩⟩
 simp only[eF,ei] at O;obtain⟨O,h4⟩:=O;obtain⟨s1,s2,s3,s4,s5⟩:=sr O;obtain⟨-,f1,-,-⟩:=FH h4;rw[O,h4] at j;simp only[Bool.and_self,if_true] at j;have b7:w.getD ((n:Int)).toNat 0 = w[n]:=by rw[da,dZ,dY Z,eR]
 rw[b7] at j;obtain⟨⟨r,hr⟩,⟨m,hm⟩⟩:(∃r:Nat,s.refs = r)/\(∃m:Nat,s.nums = m):=⟨⟨s.refs.toNat,Z⟩,⟨s.nums.toNat,Z⟩⟩;have b8:seg w ((n:Int) + 2) s.refs = (w.drop (n + 2)).take r:=by unfold seg;rw[hr,show ((n:Int) + 2).toNat = n + 2 by omega,da]
 have b9:seg w ((n:Int) + 2 + s.refs) s.nums = (w.drop (n + 2 + r)).take m:=by unfold seg;rw[hr,hm,show ((n:Int) + 2 + r).toNat = n + 2 + r by omega,da]
 rw[b8,b9] at j;rw[<- a7];refine ZF h Z Z λq hq=>hq _ _ ?_
 have e2:w[((n:Int)).toNat]'(Z) = w[n]:=getElem_congr_idx Z;rw[e2] at hq ⊢;refine jla V rfl ?_;refine jbd rfl rfl ?_;refine ja λN=>?_
 refine Ak (hq _ _ jev) (Ak (jla V rfl jev) ?_);refine js rfl rfl (by exact z_n 6) rfl ?_;generalize hE:((b2,C Hu [I s.refs,I s.nums]) :: (b1,C BX (cl z70)) :: ([] ++ F)) = E;have ea:At E b1 (C BX (cl z70)):=by rw[<- hE];exact inferInstance
 have c5:At E b2 (C Hu [I s.refs,I s.nums]):=by rw[<- hE];exact inferInstance
 refine Ab (λvs H D'=>R.le H/\∃y,Aw H y ((w.drop (n + 2)).take r)/\D' = (N,C BX (eTh ⟨n,w[n],s,[],[]⟩ y (SN))) :: E/\vs = [wv,I n,Pt b1,Pt b2,Pt N]) (λK hK=>?_) ?_
 .refine jcI hK λK2 a8=>?_
  refine jlp (λk vs H D'=>H = R/\∃(i:Nat) (y:Value) (A:Chs),i<=r/\SO ((w.drop (n + 2)).take i) y A/\D' = A ++ ((N,C BX (eTh ⟨n,w[n],s,[],[]⟩ y (SN))) :: E)/\vs = [wv,I n,Pt b1,Pt b2,Pt N,I i]/\k = r - i)
   (n:=r) ⟨rfl,0,SN,[],Z,.inl ⟨V,rfl,rfl⟩,by rw[<- hE];rfl,rfl,Z⟩ ?_
  rintro k e R1 D1 K3 ⟨hR,i,y,A,hi,so,hD,he,hk⟩ a9;subst hR;refine z_W ?_;clear hD;obtain⟨sa,sn,sc,b0⟩:=so.sl;refine jl rfl (jlt (jif (λhc=>?_) (λhc=>?_)));rotate_left
  .have hc:i = r:=by have:=z_g hc;omega
   subst hc;refine E0 so λR2 Q T=>?_
   exact a8 _ _ _ ⟨Q,y,T,rfl,rfl⟩
  have hc:i < r:=by have:=z_f hc;omega
  subst b0;refine jl rfl (jad (jad (C5 h Z Z ?_)));have e3:w[((n:Int) + 2 + i).toNat]'(Z) = w[n + 2 + i]:=getElem_congr_idx Z;rw[e3];refine jbs rfl rfl λb4=>?_
  refine Ak (jl rfl jev) ?_;refine BC eP.symm ?_;have hx:BY R1 (A ++ ((b4,C 3 [I w[n + 2 + i]]) :: (N,C BX (eTh ⟨n,w[n],s,[],[]⟩ (.slice sa sn sc) (SN))) :: E)) (some ⟨b4,0,none⟩) (1 * 1) ([w[n + 2 + i]].map I):=BY.held (cs:=[I w[n + 2 + i]]) (z_n 1);refine jas so rfl (by rw[dp,eK];omega) hx λv' A' a4=>?_
  obtain⟨W,a3,a2,rfl⟩:=a4.sl;refine jS (eTh ⟨n,w[n],s,[],[]⟩ (.slice W a3 a2) (SN)) ?_;refine jad ?_;refine Al A' (G:=(N,C BX (eTh ⟨n,w[n],s,[],[]⟩ (.slice W a3 a2) (SN))) :: E) ?_;exact a9 (r - (i + 1)) _ _ _ Z ⟨rfl,i + 1,_,A',Z,by rw[QP Z];exact a4,rfl,rfl,rfl⟩
 rintro e R1 D1 ⟨hR,y,a6,hD,he⟩;refine z_W ?_;clear hD;obtain⟨ta,tc,a5⟩:=a6.sl;have h1:=h.le hR;refine Ab (λvs H D'=>R.le H/\Aw H y ((w.drop (n + 2)).take r)/\∃v2,Aw H v2 ((w.drop (n + 2 + r)).take m)/\D' = (N,C BX (eTh ⟨n,w[n],s,[],[]⟩ y v2)) :: E/\vs = [Pt b1,Pt N]) (λK hK=>?_) ?_
 .refine jcI hK λK2 a8=>?_
  refine jlp (λk vs H D'=>H = R1/\∃(i:Nat) (v2:Value) (A:Chs),i<=m/\SO ((w.drop (n + 2 + r)).take i) v2 A/\D' = A ++ ((N,C BX (eTh ⟨n,w[n],s,[],[]⟩ y v2)) :: E)/\vs = [wv,I n,Pt b1,Pt b2,Pt N,I i]/\k = m - i)
   (n:=m) ⟨rfl,0,SN,[],Z,.inl ⟨V,rfl,rfl⟩,rfl,rfl,Z⟩ ?_
  rintro k e R2 D2 K3 ⟨Q,i,v2,A,hi,so,hD,he,hk⟩ a9;subst Q;refine z_W ?_;clear hD;obtain⟨sa,sn,sc,b0⟩:=so.sl;refine jl (v:=I s.nums) rfl (jlt (jif (λhc=>?_) (λhc=>?_)));rotate_left
  .have hc:i = m:=by have:=z_g hc;omega
   subst hc;refine E0 so λR3 b5 T=>?_
   exact a8 _ _ _ ⟨hR.trans b5,a6.le b5,v2,T,rfl,rfl⟩
  have hc:i < m:=by have:=z_f hc;omega
  subst b0;refine jl (v:=.slice sa sn sc) (by rw[a5];rfl) (jad (jl (v:=I s.refs) rfl (jad (jad (C5 h1 Z Z ?_)))));have e3:w[((n:Int) + 2 + s.refs + i).toNat]'(Z) = w[n + 2 + r + i]:=getElem_congr_idx Z;rw[e3];refine jbs (cs:=[I w[n + 2 + r + i]]) rfl rfl λb4=>?_
  refine Ak (jl (v:=.slice sa sn sc) (by rw[a5];rfl) jev) ?_;refine BC eP.symm ?_;have hx:BY R2 (A ++ ((b4,C 3 [I w[n + 2 + r + i]]) :: (N,C BX (eTh ⟨n,w[n],s,[],[]⟩ y (.slice sa sn sc))) :: E)) (some ⟨b4,0,none⟩) (1 * 1) ([w[n + 2 + r + i]].map I):=BY.held (t:=Ad) (cs:=[I w[n + 2 + r + i]]) (o:=0) (n:=1 * 1) (z_n 1);refine jas so rfl (by rw[dp,eK];omega) hx λv' A' a4=>?_
  obtain⟨W,a3,a2,rfl⟩:=a4.sl;refine js (cs':=eTh ⟨n,w[n],s,[],[]⟩ y (.slice W a3 a2)) rfl rfl (by simp[eTh]) (by rw[a5];rfl) ?_;refine jad ?_;refine Al A' (G:=(N,C BX (eTh ⟨n,w[n],s,[],[]⟩ y (.slice W a3 a2))) :: E) ?_;exact a9 (m - (i + 1)) _ _ _ Z ⟨rfl,i + 1,_,A',Z,by rw[QP Z];exact a4,rfl,rfl,rfl⟩
 rintro e R2 D2 ⟨Q,a6,v2,b6,hD,he⟩;refine z_W ?_;clear hD;obtain⟨ua,uc,c4⟩:=b6.sl;subst a5 c4 hE;refine jla (l:=eTh ⟨n,w[n],s,[],[]⟩ _ _) (by exact z_n 6) rfl ?_;refine jS (eTh ⟨n,w[n],s,[],[]⟩ _ _) ?_;refine jla (l:=eTh ⟨n,w[n],s,[],[]⟩ _ _) (by exact z_n 6) rfl ?_;refine Ao (A:=[]) Q ⟨rfl,_,?_,by rw[j]⟩;rw[j];exact⟨_,_,rfl,a6,b6⟩
def SW (t w:Nat) (rows:List (List Value)) (v:Value) (A:Chs):Prop:=
 (rows = []/\v = SN/\A = [])\/∃b c sp,rows.length<=c/\sp.length = (c - rows.length) * w/\v = S0 b rows.length c/\A = [(b,C t (rows.flatten ++ sp))]
theorem SW.sl {t w:Nat} {rows:List (List Value)} {v:Value} {A:Chs} (h:SW t w rows v A):∃a c,v = .slice a rows.length c:=by
 rcases h with ⟨rfl,rfl,_⟩ | ⟨b,c,sp,_,_,rfl,_⟩<;>exact⟨_,_,rfl⟩
theorem jaw {R:RM} {A E:Chs} {t w y:Nat} {rows j:List (List Value)} {v:Value} {xa:Option Addr} {m cx:Nat} {zs:List Value} {k:Value->M} (so:SW t w rows v A)
  (hw:∀r∈rows,r.length = w) (O:∀r∈j,r.length = w) (hz:zs.length = w) (hf:Bz j.flatten = true) (hm:m = j.length) (hb:y≠0) (hl:y * (2 * (rows.length + j.length) + 200)<=2 ^ 48) (D:BY R (A ++ E) xa (m * w) j.flatten)
  (H:∀W Q,SW t w (rows ++ j) W Q->J R (Q ++ E) (k W)):J R (A ++ E) (AP t w y zs v (.slice xa m cx) k):=by
 subst hm;have fl:∀n,(List.replicate n zs).flatten.length = n * w:=λn=>by
  rw[C4 (by intro x D;rw[(fE.1 D).2,hz])];simp
 have l1:=C4 hw;have T:=C4 O;rcases so with ⟨rfl,rfl,rfl⟩ | ⟨b,c,sp,hc,hsp,rfl,rfl⟩
 .refine jap D (by rw[gn];exact BY.none_) hb (by simpa using hl) (λhc h N=>?_) (λb c hc=>?_)
  .have h0:j = []:=eV.1 Z;subst h0;have:=H (SN) [] (.inl ⟨rfl,rfl,rfl⟩) h N;simpa using this
  .have:=H (S0 b j.length c) [(b,C t (j.flatten ++ (List.replicate (c - j.length) zs).flatten))] (.inr ⟨b,c,(List.replicate (c - j.length) zs).flatten,by simpa using hc,by rw[fl];simp,V,V⟩);simpa using this
 .refine XS D (by rw[de,l1,hsp,<- Nat.add_mul];congr 1;omega) hc T hf hb hl (λh=>?_) (λG K h=>?_)
  .have el:lay (rows.flatten ++ sp) (rows.length * w) j.flatten = (rows ++ j).flatten ++ sp.drop (j.length * w):=by
    rw[Hs Z,l1,Nat.sub_self];simp[lay,T]
   rw[el];have:=H (S0 b (rows ++ j).length c) [(b,C t ((rows ++ j).flatten ++ sp.drop (j.length * w)))] (.inr ⟨b,c,_,by simpa using h,by rw[fA,hsp,<- Nat.sub_mul,de];congr 1;omega,rfl,rfl⟩);simpa using this
  .refine BC (fW _ _ _) (BT ?_);have:=H (.slice (some ⟨G,0,none⟩) (rows ++ j).length K) [(G,C t ((rows ++ j).flatten ++ (List.replicate (K - (rows.length + j.length)) zs).flatten))] (.inr ⟨G,K,_,by simpa using h,by rw[fl,de],rfl,rfl⟩);rw[fK Z,dh Z];simpa using this
theorem jfw {R:RM} {A E:Chs} {t w:Nat} {rows:List (List Value)} {v:Value} {m:M} (G:SW t w rows v A) (y:∀r∈rows,r.length = w) (H:∀j,R.le j->Fz j v w rows.length rows.flatten->J j E m):J R (A ++ E) m:=by
 rcases G with ⟨rfl,rfl,rfl⟩ | ⟨b,c,sp,hc,hsp,rfl,rfl⟩
 .exact H R (RM.le.refl _) (.inl ⟨rfl,rfl,rfl⟩)
 .refine BE (t:=⟨f9 _⟩) λD x hb=>(H D x (.inr ⟨b,0,c,t,_,rfl,hb,by rw[de,C4 y];omega,by rw[fk,<- C4 y];simp,hc⟩))
def Rw {α:Type} (p:List Value->α->Prop) (rows:List (List Value)) (l:List α):Prop:=rows.length = l.length/\∀i (h:i < rows.length) (h' : i < l.length),p rows[i] l[i]
theorem Rw.nil {α:Type} {p:List Value->α->Prop}:Rw p [] []:=⟨rfl,λi h=>absurd h V⟩
theorem Rw.app {α:Type} {p:List Value->α->Prop} {r1 y:List (List Value)} {l1 l2:List α} (j:Rw p r1 l1) (x:Rw p y l2):Rw p (r1 ++ y) (l1 ++ l2):=by
 refine⟨by rw[de,de,j.1,x.1],λi h A=>?_⟩;by_cases c:i < r1.length
 .rw[gK c,gK (by rw[<- j.1];exact c)];exact j.2 i c _
 .rw[fh Z,fh (by rw[<- j.1];omega)];have e:i - l1.length = i - r1.length:=by rw[j.1]
  rw[getElem_congr_idx e];rw[de] at h A;have:=j.1;exact x.2 _ Z Z
theorem Rw.one {α:Type} {p:List Value->α->Prop} {r:List Value} {x:α} (h:p r x):Rw p [r] [x]:=by
 refine⟨rfl,λi j y=>?_⟩;have:i = 0:=by simp at j;omega
 subst this;exact h
theorem Rw.mono {α:Type} {p q:List Value->α->Prop} {r:List (List Value)} {l:List α} (h:Rw p r l) (H:∀x y,p x y->q x y):Rw q r l:=⟨h.1,λi j A=>H _ _ (h.2 i j A)⟩
theorem Rw.all {α:Type} {p:List Value->α->Prop} {r:List (List Value)} {l:List α} (h:Rw p r l) {q:List Value->Prop} (H:∀x y,p x y->q x):∀x∈r,q x:=by
 intro x A;obtain⟨i,j,rfl⟩:=eJ A;exact H _ _ (h.2 i j (by rw[<- h.1];exact j))
theorem Qf {w:Nat}:∀{rows:List (List Value)} {i:Nat} (_:∀r∈rows,r.length = w) (h:i < rows.length),(rows.flatten.drop (i * w)).take w = rows[i]
 | [],i,_,h=>absurd h V
 | a :: r,0,hw,_=>by
  have:a.length = w:=hw a V;rw[gn,fk,gF,fK Z,dh Z];rfl
 | a :: r,i + 1,hw,h=>by
  have j:a.length = w:=hw a V;rw[gF,Nat.succ_mul,List.drop_append,List.drop_of_length_le Z,zl,j,Nat.add_sub_cancel];exact Qf (λr x=>hw r (by simp[x])) (by simpa using h)
theorem Jx {R:RM} {v:Value} {w:Nat} {rows:List (List Value)} {i:Nat} (h:Fz R v w rows.length rows.flatten) (G:∀r∈rows,r.length = w) (D:i < rows.length) :
  ∃b o j t x,v = .slice (some ⟨b,o,none⟩) rows.length j/\R b = some (C t x)/\o + i * w + w<=x.length/\(x.drop (o + i * w)).take w = rows[i]:=by
 rcases h with ⟨_,y,_⟩ | ⟨b,o,j,t,x,rfl,y,H,A,K⟩
 .omega
 .refine⟨b,o,j,t,x,rfl,y,?_,?_⟩
  .have:(i + 1) * w<=rows.length * w:=gQ w Z;rw[Nat.succ_mul] at this;omega
  .rw[<- Qf G D,<- A,gm,gt,gr];congr 1;have:(i + 1) * w<=rows.length * w:=gQ w Z;rw[Nat.succ_mul] at this;omega
def ThC (R:RM) (row:List Value) (t:AO):Prop:=∃rv nv,row = eTh t rv nv/\Aw R rv t.refs/\Aw R nv t.nums
theorem ThC.le {R j : RM} {row:List Value} {t:AO} (h:R.le j) (H:ThC R row t):ThC j row t:=by
 obtain⟨rv,nv,x,y,A⟩:=H;exact⟨rv,nv,x,y.le h,A.le h⟩
theorem ThC.len {R:RM} {row:List Value} {t:AO} (H:ThC R row t):row.length = 6:=by
 obtain⟨rv,nv,rfl,j,x⟩:=H;rfl
theorem ThC.flat {R:RM} {row:List Value} {t:AO} (H:ThC R row t):Bz row = true:=by
 obtain⟨rv,nv,rfl,j,x⟩:=H;obtain⟨_,_,rfl⟩:=j.sl;obtain⟨_,_,rfl⟩:=x.sl;rfl
def Tgs (R:RM) (v:Value) (l:List AO):Prop:=∃rows,Rw (ThC R) rows l/\Fz R v 6 rows.length rows.flatten
theorem Tgs.le {R j : RM} {v:Value} {l:List AO} (h:R.le j) (H:Tgs R v l):Tgs j v l:=by
 obtain⟨rows,x,y⟩:=H;exact⟨rows,x.mono λ_ _=>ThC.le h,y.le h⟩
theorem Tgs.sl {R:RM} {v:Value} {l:List AO} (H:Tgs R v l):∃a c,v = .slice a l.length c:=by
 obtain⟨rows,x,y⟩:=H;obtain⟨a,j,e,-⟩:=Fz.reads (D:=[]) y;exact⟨a,j,by rw[e,x.1]⟩
theorem Bl {R:RM} {D:Chs} {v:Value} {n:Nat} {k:Value->M} (h:∃a c,v = .slice a n c) (H:J R D (k (I n))):J R D (LN v k):=by
 obtain⟨a,c,rfl⟩:=h;exact H
theorem jtg {R:RM} {D:Chs} {v:Value} {l:List AO} {i:Nat} {k:Value->M} (h:Tgs R v l) (A:i < l.length)
  (H:∀b o t j rv nv,Aw R rv (l[i]).refs->Aw R nv (l[i]).nums->R b = some (C t j)->o + 6<=j.length->(j.drop o).take 6 = eTh l[i] rv nv->J R D (k (.pointer (some ⟨b,o,none⟩)))):J R D (IA 6 v (I (i:Int)) k):=by
 obtain⟨rows,y,K⟩:=h;have x : i < rows.length:=by rw[y.1];exact A
 obtain⟨b,o,G,t,j,rfl,hb,hl,hc⟩:=Jx K (y.all λ_ _=>ThC.len) x;obtain⟨rv,nv,e,r1,N⟩:=y.2 i x A;refine jia Z Z ?_;rw[da];exact H b (o + i * 6) t j rv nv r1 N hb hl (by rw[hc,e])
theorem Bt {cs row:List Value} {o w f:Nat} {x:Value} (h:(cs.drop o).take w = row) (j:row[f]? = some x):cs[o + f]? = some x:=by
 rw[<- h,ff,fJ] at j;split at j
 .exact j
 .cases j
end Go.Lf
end
section
namespace Go.Lf
open Go Sm
theorem Fg (s:Shp):0<=AH s/\AH s<=10:=by
 unfold AH;split
 .rename_i h;unfold BN at h;simp only[z_b,z_d] at h;omega
 .omega
theorem Is {w:List Int} {a:Int} (h:(Ap w a).2 = true):2<=AH (Ap w a).1.sh:=by
 unfold Ap at h ⊢;split at h
 .rename_i x;rw[if_pos x];dsimp only at h ⊢;split at h
  .rename_i j;rw[if_pos j];simp only[z_b] at j;have:=GI j.1;dsimp only;omega
  .exact absurd h δ
 .exact absurd h δ
def QTs (r:Option (List AO)) (v:Value) (R:RM):Prop:=match r with
 | none=>v = .tuple #[SN,.bool false]
 | some l=>∃tv,Tgs R tv l/\v = .tuple #[tv,.bool true]
theorem TA {R:RM} {wv:Value} {w:List Int} (r top:Int) (h:Aw R wv w) (hl:w.length < 1000000000000) :
  Fn P JJ [wv,I r,I top] R [] (λv R' A=>A = []/\QTs (BP w r top) v R'):=by
 refine Om λF=>?_
 refine z_3 ?_;obtain⟨wa,wc,a1⟩:=h.sl;have eq:(w.length:Int).tdiv 16 = (w.length / 16:Nat):=by rw[fX Z];omega
 rw[a1];have br:0<=AK r/\AK r<=176:=by unfold AK;split<;>omega
 refine jor [.slice wa w.length wc,I r,I top] ((!BM w.length) || (decide (r < 1))) (λK' j=>?_) (λe c u T he=>?_)
 .refine jp (Jt wa w.length wc hl) (jgO j λh1 O=>jlt O)
 refine z_V ?_;refine jor [.slice wa w.length wc,I r,I top] ((!BM w.length || decide (r < 1)) || (decide (r>=(w.length:Int).tdiv 16))) (λK' j=>?_) (λe c u T he=>?_)
 .rw[T];refine jgO j λh1 O=>jln (Pd δ ⟨Z,Z⟩ (jge O))
 refine z_V ?_;refine jor [.slice wa w.length wc,I r,I top] ((!BM w.length || decide (r < 1) || decide (r>=(w.length:Int).tdiv 16)) || (decide (top < AK r))) (λK' j=>?_) (λe c u T he=>?_)
 .rw[T];refine jgO j λh1 O=>jp (Bf r) (jlt O)
 refine z_V ?_;refine jor [.slice wa w.length wc,I r,I top] ((!BM w.length || decide (r < 1) || decide (r>=(w.length:Int).tdiv 16) || decide (top < AK r)) || (decide (top > AK r + 16))) (λK' j=>?_) (λe c u T he=>?_)
 .rw[T];refine jgO j λh1 O=>jp (Bf r) (jad (jgr O))
 refine z_V ?_;rw[T];refine jif (λh0=>?_) (λh0=>?_)
 .refine Ao (RM.le.refl R) ⟨rfl,?_⟩;have:BP w r top = none:=by
   unfold BP;rw[if_neg];intro hh;simp only[eN,eL,z_d,z_b] at h0 hh;rw[eq] at h0;obtain⟨⟨⟨⟨g1,g2⟩,g3⟩,g4⟩,g5⟩:=hh;rw[g1] at h0;rcases h0 with (((h0 | h0) | h0) | h0) | h0
   .exact absurd h0 δ
   all_goals omega
  rw[this];exact rfl
 simp only[eF,ei,decide_eq_false_iff_not] at h0;rw[eq] at h0;obtain⟨⟨⟨⟨g1,g2⟩,g3⟩,g4⟩,g5⟩:=h0;have et:BP w r top = Am w 16 (AK r) top:=by
  unfold BP;rw[if_pos];simp only[z_b,z_d];exact⟨⟨⟨⟨g1,Z⟩,Z⟩,Z⟩,Z⟩
 rw[<- a1];refine jp (Bf r) (Ab (λvs R' D'=>R.le R'/\∃l N A,BP w r top = some l/\(∃rows,Rw (ThC R') rows l/\SW BX 6 rows N A)/\D' = A ++ ([] ++ F)/\vs = [N]) (λK hK=>?_) ?_);rotate_left
 .rintro e R1 D1 ⟨hR,l,N,A,hl,⟨rows,D,so⟩,hD,he⟩;refine z_W ?_;refine jfw so (D.all λ_ _=>ThC.len) λR2 H hfz=>(Ao (hR.trans H) ⟨rfl,?_⟩)
  rw[hl];exact⟨N,⟨rows,D.mono λ_ _=>ThC.le H,hfz⟩,rfl⟩
 refine jcI hK λK2 a4=>?_
 refine jlp (λm vs R' D'=>R.le R'/\∃(a:Int) (l:List AO) (N:Value) (A:Chs) (rows:List (List Value)),m<=16/\AK r + 2 * (16 - m)<=a/\a<=top/\l.length<=16 - m/\(match Am w m a top with | none=>none | some l2=>some (l ++ l2)) = BP w r top/\Rw (ThC R') rows l/\SW BX 6 rows N A/\D' = A ++ ([] ++ F)/\vs = [wv,I top,N,I a])
  (n:=16) ⟨RM.le.refl R,AK r,[],SN,[],[],Z,Z,Z,V,by rw[et];cases Am w 16 (AK r) top<;>rfl,Rw.nil,.inl ⟨rfl,rfl,rfl⟩,rfl,rfl⟩ ?_
 rintro m e R1 D1 K3 ⟨hR,a,l,N,A,rows,hm,ha,a7,a8,y,D,so,hD,he⟩ a5;refine z_W ?_;have h1:=h.le hR;refine jlt (jif (λhc=>?_) (λhc=>?_));rotate_left
 .have hc:=z_g hc;refine a4 _ _ _ ⟨hR,l,N,A,?_,⟨rows,D,so⟩,rfl,rfl⟩;rw[<- y];cases m<;>(unfold Am;rw[if_neg hc];simp)
 have hc:=z_f hc;obtain⟨m,rfl⟩:∃k,m = k + 1:=⟨m - 1,Z⟩;unfold Am at y;rw[if_pos hc] at y;dsimp only at y;obtain⟨a2,a3⟩:=Fg (Ap w a).1.sh;have a0:=@Is w a;refine jc (Vv a h1 hl) ?_;rintro _ R2 _ H ⟨rfl,x,⟨rv,nv,rfl,W,Q⟩,rfl⟩;generalize Ap w a = t at y W Q a2 a3 a0 ⊢;obtain⟨t,tb⟩:=t;dsimp only at y W Q a2 a3 a0 ⊢;obtain⟨ra,rc,rfl⟩:=W.sl;obtain⟨na,nc,rfl⟩:=Q.sl;refine jex rfl (jex rfl (ja λb=>(js rfl rfl (by exact z_n 6) rfl (jor [wv,I top,N,I a,Pt b] ((!tb) || (decide (a + AH t.sh > top))) (λK' j=>?_) (λe c u T he=>?_)))))
 .refine jgO j λh1 O=>jfo (jla (l:=[I t.sh.refs,I t.sh.nums]) (by exact (by decide:4<=6)) rfl (jp (Cb t.sh) (jad (jgr O))))
 refine z_V ?_;rw[T];refine jif (λh0=>?_) (λh0=>?_)
 .refine Ao (hR.trans H) ⟨rfl,?_⟩;have:BP w r top = none:=by
   rw[<- y,if_neg];intro hh;simp only[eN,eL,z_d,z_b] at h0 hh;rcases h0 with h0 | h0
   .rw[h0] at hh;exact absurd hh.1 δ
   .omega
  rw[this];exact rfl
 simp only[eF,ei,decide_eq_false_iff_not] at h0;obtain⟨h2,h3⟩:=h0;rw[if_pos (by rw[h2];simp;omega)] at y;have a0:=a0 h2;refine jla (by exact z_n 6) rfl (jbs rfl rfl λb4=>(BC (D':=(b4,C BX (eTh t (.slice ra t.refs.length rc) (.slice na t.nums.length nc))) :: ((b,C BX (eTh t (.slice ra t.refs.length rc) (.slice na t.nums.length nc))) :: (A ++ ([] ++ F)))) (f9 _) (Al A (G:=(b4,C BX (eTh t (.slice ra t.refs.length rc) (.slice na t.nums.length nc))) :: (b,C BX (eTh t (.slice ra t.refs.length rc) (.slice na t.nums.length nc))) :: ([] ++ F)) ?_)));have hx:BY R2 (A ++ ((b4,C BX (eTh t (.slice ra t.refs.length rc) (.slice na t.nums.length nc))) :: (b,C BX (eTh t (.slice ra t.refs.length rc) (.slice na t.nums.length nc))) :: ([] ++ F))) (some ⟨b4,0,none⟩) (1 * 6) [eTh t (.slice ra t.refs.length rc) (.slice na t.nums.length nc)].flatten:=BY.held (cs:=eTh t (.slice ra t.refs.length rc) (.slice na t.nums.length nc)) (z_n 6);have a9:=D.1;refine jaw so (D.all λ_ _=>ThC.len) (by intro r hr;rw[dz.1 hr];rfl) rfl rfl rfl δ (by rw[eK];omega) hx λv' A' a6=>(jfo (jla (l:=[I t.sh.refs,I t.sh.nums]) (by exact (by decide:4<=6)) rfl (jp (Cb t.sh) (jad (Al A' (G:=[] ++ F) (a5 m _ _ _ Z ⟨hR.trans H,a + AH t.sh,l ++ [t],v',A',rows ++ [eTh t (.slice ra t.refs.length rc) (.slice na t.nums.length nc)],Z,Z,Z,by rw[de,eK];omega,?_,(D.mono λ_ _=>ThC.le H).app (Rw.one ⟨_,_,rfl,W,Q⟩),a6,rfl,rfl⟩))))))
 rw[<- y];cases Am w m (a + AH t.sh) top with
 | none=>rfl
 | some l2=>simp
def RdI (R:RM) (D:Chs) (v:Value) (l:List Int):Prop:=(∃a c,v = .slice a l.length c)/\∀(F:Chs) (i:Nat) (h:i < l.length) (k:Value->M),J R (D ++ F) (k (I l[i]))->J R (D ++ F) (IA 1 v (I (i:Int)) λx=>L1 x k)
theorem Aw.rd {R:RM} {D:Chs} {v:Value} {l:List Int} (h:Aw R v l):RdI R D v l:=
 ⟨h.sl,λF i j k H=>C5 h Z Z (by rw[getElem_congr_idx (da i)];exact H)⟩
theorem SO.rd {R:RM} {A E:Chs} {v:Value} {l:List Int} (h:SO l v A):RdI R (A ++ E) v l:=by
 rcases h with ⟨rfl,rfl,rfl⟩ | ⟨b,c,sp,hc,hsp,rfl,rfl⟩
 .exact⟨⟨_,_,rfl⟩,λF i j=>absurd j V⟩
 .refine⟨⟨_,_,rfl⟩,λF i j k H=>CC j (jl (by rw[eH,fY];exact GE j) H)⟩
theorem JY {R:RM} {D:Chs} {v:Value} {l:List Int} (n:Int) (h:RdI R D v l) (hl:l.length < 1000000000000):Ro Kx [v,I n] (I (Ba l n)) R D:=by
 refine Qx λF=>?_
 refine z_2 ?_;obtain⟨H,h⟩:=h;refine jlp (λm W O N=>O = R/\N = D ++ F/\∃i:Nat,i<=l.length/\W = [v,I n,I i]/\m = l.length - i/\∀k (y:k < l.length),k < i->l[k]≠n)
  (n:=l.length) ⟨rfl,rfl,0,Z,rfl,Z,λk _ h=>Z⟩ ?_
 rintro m e R1 D1 K ⟨A,hD,i,hi,he,x,Bv⟩ Q;subst A;refine z_W ?_;refine Bl H (jlt (jif (λhc=>?_) (λhc=>?_)))
 .have hc:i < l.length:=by have:=z_f hc;omega
  refine h F i hc _ (jeq (jif (λj=>?_) (λj=>?_)))
  .refine B9 ?_;have j:=eq_of_beq j;have x:n∈l:=by rw[<- j];exact dc hc
   unfold Ba;rw[if_pos x,OG hc j Bv]
  .have j:=ne_of_beq_false j;refine jad (Q (l.length - (i + 1)) _ _ _ Z ⟨rfl,rfl,i + 1,Z,rfl,rfl,λk y T=>?_⟩);by_cases c:k = i
   .subst c;exact j
   .exact Bv k y Z
 .have hc:¬ i < l.length:=by have:=z_g hc;omega
  refine B9 ?_;have x:n ∉ l:=by
   intro x;obtain⟨k,y,G⟩:=eJ x;exact Bv k y Z G
  unfold Ba;rw[if_neg x]
theorem IU {R:RM} {A E G:Chs} {l:List Int} {v:Value} {x:Int} {j t N:Nat} {k:Value->M} (T:SO l v A) (hl:l.length + 1 < 1000000000000)
  [s:Sp G A E] (H:∀D y,SO (l ++ [x]) D y->J R (y ++ E) (k D)):J R ((j,C t [I x]) :: G) (AP Ad 1 8 [I 0] v (S0 j 1 N) k):=by
 have O:((j,C t [I x]) :: G).Perm (A ++ ((j,C t [I x]) :: E)):=(s.p.cons _).trans eP.symm;refine BC O ?_;have Q:BY R (A ++ ((j,C t [I x]) :: E)) (some ⟨j,0,none⟩) (1 * 1) ([x].map I):=BY.held (cs:=[I x]) (z_n 1);refine jas T rfl (by simpa using hl) Q λD y K=>(BC eP (BT (H D y K)))
theorem LR {R:RM} {A:Chs} {v:Value} {l:List Int} (a:Int) (j:SO l v A) (hl:l.length < 1000000):Fn P OO [v,I a] R A (λG H x=>H = R/\SO (Bq l a) G x):=by
 refine W2 λF=>?_
 refine z_2 ?_;obtain⟨sa,sn,sc,Q⟩:=j.sl;refine jor [v,I a] ((a == 0) || (decide (Ba l a>=0))) (λT y=>?_) (λe c u N he=>?_)
 .refine jeq (jgO y λh1 K=>jro (JY a j.rd Z) (jge K))
 refine z_V ?_;rw[N];have O:decide (Ba l a>=0) = decide (a∈l):=by
  unfold Ba;by_cases c:a∈l
  .rw[if_pos c,decide_eq_true c,decide_eq_true Z]
  .rw[if_neg c,decide_eq_false c,decide_eq_false Z]
 rw[O];refine jif (λh0=>?_) (λh0=>?_)
 .simp only[eN,beq_iff_eq,z_d] at h0;refine Ao (A:=A) (RM.le.refl R) ?_;unfold Bq;rw[if_pos h0];exact⟨rfl,j⟩
 .have h0:¬ (a = 0\/a∈l):=by simpa using h0
  refine jbs rfl rfl λW=>(IU j Z λG x D=>(Ao (A:=x) (RM.le.refl R) ?_))
  unfold Bq;rw[if_neg h0];exact⟨rfl,D⟩
def PZ (l:List AO) (a:Int):Int:=match l.findIdx? λt=>t.at_ == a with | some i=>(i:Int) | none=>-1
theorem EZ {R:RM} {D:Chs} {v:Value} {l:List AO} (a:Int) (h:Tgs R v l) (hl:l.length < 1000000000000):Ro Mv [v,I a] (I (PZ l a)) R D:=by
 refine SE λF=>?_
 refine z_2 ?_;refine jlp (λm vs O N=>O = R/\N = D ++ F/\∃i:Nat,i<=l.length/\vs = [v,I a,I i]/\m = l.length - i/\∀k (G:k < l.length),k < i->(l[k]).at_≠a)
  (n:=l.length) ⟨rfl,rfl,0,Z,rfl,Z,λk _ h=>Z⟩ ?_
 rintro m e R1 D1 K ⟨H,hD,i,hi,he,hm,Bv⟩ Q;subst H;refine z_W ?_;refine Bl h.sl (jlt (jif (λhc=>?_) (λhc=>?_)))
 .have hc:i < l.length:=by have:=z_f hc;omega
  refine jtg h hc λb o t cs rv nv _ _ hb ho A=>(jfo (jlr hb (Bt A rfl) (jeq (jif (λy=>?_) (λy=>?_)))))
  .refine B9 ?_;have y:=eq_of_beq y;unfold PZ;have:l.findIdx? (λt=>t.at_ == a) = some i:=by
    rw[List.findIdx?_eq_some_iff_getElem];exact⟨hc,by simpa using y,λj T=>by simpa using Bv j Z T⟩
   rw[this]
  .have y:=ne_of_beq_false y;refine jad (Q (l.length - (i + 1)) _ _ _ Z ⟨rfl,rfl,i + 1,Z,rfl,rfl,λk G W=>?_⟩);by_cases c:k = i
   .subst c;exact y
   .exact Bv k G Z
 .have hc:¬ i < l.length:=by have:=z_g hc;omega
  refine B9 ?_;have:l.findIdx? (λt=>t.at_ == a) = none:=by
   rw[List.findIdx?_eq_none_iff];intro x hx;obtain⟨k,G,rfl⟩:=eJ hx;have:=Bv k G Z;simpa using this
  unfold PZ;rw[this]
theorem FJ {l:List AO} {a:Int} {t:AO} (h:Av l a = some t):∃(i:Nat) (A:i < l.length),PZ l a = i/\l[i] = t:=by
 unfold Av at h;have G:(l.findIdx? λt=>t.at_ == a)≠none:=by
  intro D;rw[List.findIdx?_eq_none_iff] at D;have:=List.find?_some h;have K:=gw h;rw[D t K] at this;cases this
 cases A:l.findIdx? (λt=>t.at_ == a) with
 | none=>exact absurd A G
 | some i=>
  have x:=A;rw[List.findIdx?_eq_some_iff_getElem] at x;obtain⟨y,N,Bv⟩:=x;refine⟨i,y,by unfold PZ;rw[A],?_⟩;have:l.find? (λt=>t.at_ == a) = some l[i]:=by
   rw[List.find?_eq_some_iff_getElem];exact⟨N,i,y,rfl,λj H=>by simpa using Bv j H⟩
  rw[this] at h;exact (dx _ _).mp h
theorem Ho {R:RM} {D:Chs} {v:Value} {l:List AO} {a x:Int} (h:Tgs R v l) (hl:l.length < 1000000000000) (j:now l a = some x):Ro OI [v,I a] (I x) R D:=by
 refine VU λF=>?_
 refine z_2 ?_;unfold now at j;refine jeq (jif (λh0=>?_) (λh0=>?_))
 .rw[if_pos (eq_of_beq h0)] at j;simp only[dx] at j;exact B9 (by rw[j])
 .rw[if_neg (ne_of_beq_false h0)] at j;obtain⟨t,H,rfl⟩:=fy.1 j;obtain⟨i,A,G,rfl⟩:=FJ H;refine jro (EZ a h hl) ?_;rw[G];refine jtg h A λb o t K rv nv _ _ hb N y=>(jfo (jlr hb (Bt y rfl) (B9 rfl)))
def eSt (s:Sm.Aj) (wv tv mv thv ov pv:Value):List Value:=[wv,tv,mv,I s.Ac,.bool s.stop,.bool s.full,.bool s.As,I s.want,thv,ov,pv,I s.BF,I s.BL]
def Rgs (R:RM) (v:Value) (t:List Rg):Prop:=Fz R v 5 t.length (Af eRg t)
def Bls (R:RM) (v:Value) (l:List Bool):Prop:=Fz R v 1 l.length (l.map Value.bool)
def DE (R:RM) (row:List Value) (t:Th):Prop:=∃rv,row = [rv,I t.next,.bool t.busy,I t.Aq]/\Aw R rv t.AD
def Ths (R:RM) (v:Value) (l:List Th):Prop:=∃rows,Rw (DE R) rows l/\Fz R v 4 rows.length rows.flatten
structure StC (R:RM) (s:Sm.Aj) (wv tv mv thv ov pv:Value):Prop where
 w:Aw R wv s.AC
 t:Rgs R tv s.AA
 m:Bls R mv s.AQ
 th:Ths R thv s.AB
 o:Aw R ov s.old
 p:Aw R pv s.AI
theorem DE.le {R j : RM} {row:List Value} {t:Th} (h:R.le j) (H:DE R row t):DE j row t:=by
 obtain⟨rv,x,y⟩:=H;exact⟨rv,x,y.le h⟩
theorem DE.len {R:RM} {row:List Value} {t:Th} (H:DE R row t):row.length = 4:=by obtain⟨rv,rfl,j⟩:=H;rfl
theorem DE.flat {R:RM} {row:List Value} {t:Th} (H:DE R row t):Bz row = true:=by
 obtain⟨rv,rfl,j⟩:=H;obtain⟨_,_,rfl⟩:=j.sl;rfl
theorem Ths.le {R j : RM} {v:Value} {l:List Th} (h:R.le j) (H:Ths R v l):Ths j v l:=by
 obtain⟨rows,x,y⟩:=H;exact⟨rows,x.mono λ_ _=>DE.le h,y.le h⟩
theorem Ths.sl {R:RM} {v:Value} {l:List Th} (H:Ths R v l):∃a c,v = .slice a l.length c:=by
 obtain⟨rows,x,y⟩:=H;obtain⟨a,j,e,-⟩:=Fz.reads (D:=[]) y;exact⟨a,j,by rw[e,x.1]⟩
theorem Fz.sl {R:RM} {v:Value} {w n:Nat} {j:List Value} (H:Fz R v w n j):∃a c,v = .slice a n c:=by
 obtain⟨a,x,e,-⟩:=Fz.reads (D:=[]) H;exact⟨a,x,e⟩
theorem StC.le {R x : RM} {s:Sm.Aj} {wv A mv j y pv:Value} (h:R.le x) (H:StC R s wv A mv j y pv):StC x s wv A mv j y pv:=
 ⟨H.w.le h,Fz.le h H.t,Fz.le h H.m,H.th.le h,H.o.le h,H.p.le h⟩
theorem XB (t:List Rg):∀r∈t.map eRg,r.length = 5:=by
 intro r j;obtain⟨x,_,rfl⟩:=eE.1 j;rfl
theorem jrg {R:RM} {D:Chs} {v:Value} {t:List Rg} {i:Nat} {k:Value->M} (h:Rgs R v t) (G:i < t.length)
  (H:∀b o x j,R b = some (C x j)->o + 5<=j.length->(j.drop o).take 5 = eRg t[i]->J R D (k (.pointer (some ⟨b,o,none⟩)))):J R D (IA 5 v (I (i:Int)) k):=by
 have A : Fz R v 5 (t.map eRg).length (t.map eRg).flatten:=by rw[df];exact h
 obtain⟨b,o,y,x,j,rfl,hb,hl,hc⟩:=Jx A (XB t) (by simpa using G);refine jia Z (by rw[df];omega) ?_;rw[da];exact H b (o + i * 5) x j hb hl (by rw[hc,fx])
theorem jtr {R:RM} {D:Chs} {v:Value} {l:List Th} {i:Nat} {k:Value->M} (h:Ths R v l) (G:i < l.length)
  (H:∀b o A j rv,Aw R rv (l[i]).AD->R b = some (C A j)->o + 4<=j.length->(j.drop o).take 4 = [rv,I (l[i]).next,.bool (l[i]).busy,I (l[i]).Aq]->J R D (k (.pointer (some ⟨b,o,none⟩)))):J R D (IA 4 v (I (i:Int)) k):=by
 obtain⟨rows,y,N⟩:=h;have x : i < rows.length:=by rw[y.1];exact G
 obtain⟨b,o,K,A,j,rfl,hb,hl,hc⟩:=Jx N (y.all λ_ _=>DE.len) x;obtain⟨rv,e,r1⟩:=y.2 i x G;refine jia Z Z ?_;rw[da];exact H b (o + i * 4) A j rv r1 hb hl (by rw[hc,e])
theorem QE {rows:List (List Value)} (h:∀r∈rows,Bz r = true):Bz rows.flatten = true:=by
 unfold Bz at h ⊢;rw[eG];intro x j;obtain⟨r,y,j⟩:=List.mem_flatten.1 j;exact eG.1 (h r y) x j
theorem Qz {w:List Int}:∀{n:Nat} {a top:Int} {l:List AO},Am w n a top = some l->l.length<=n
 | 0,a,top,l,h=>by
  unfold Am at h;split at h
  .cases h
  .cases h;simp
 | n + 1,a,top,l,h=>by
  unfold Am at h;split at h
  .dsimp only at h;split at h
   .split at h
    .rename_i x j;cases h;have:=Qz j;simp;omega
    .cases h
   .cases h
  .cases h;simp
theorem T8 {w:List Int} {r top:Int} {l:List AO} (h:BP w r top = some l):l.length<=16:=by
 unfold BP at h;split at h
 .exact Qz h
 .cases h
theorem LY {R:RM} {s:Sm.Aj} {wv W mv G T pv:Value} (h:StC R s wv W mv G T pv) (hw:s.AC.length < 1000000) (ht:s.AA.length < 1000000) :
  Fn P Jc [.agg (eSt s wv W mv G T pv).toArray] R [] (λv H A=>A = []/\QTs (BK s) v H):=by
 refine PJ λF=>?_
 refine z_1 ?_;refine ja λb=>?_
 rw[show cl (.agg (eSt s wv W mv G T pv).toArray) = eSt s wv W mv G T pv from rfl];refine Ab (λvs H D'=>R.le H/\∃l v A,BK s = some l/\(∃rows,Rw (ThC H) rows l/\SW BX 6 rows v A)/\D' = A ++ ((b,C AW (eSt s wv W mv G T pv)) :: ([] ++ F))/\vs = [v]) (λK hK=>?_) ?_;rotate_left
 .rintro e R1 D1 ⟨Q,l,v,A,hl,⟨rows,j,so⟩,hD,he⟩;refine z_W ?_;refine jfw so (j.all λ_ _=>ThC.len) λR2 D hfz=>(Ao (Q.trans D) ⟨rfl,?_⟩)
  rw[hl];exact⟨v,⟨rows,j.mono λ_ _=>ThC.le D,hfz⟩,rfl⟩
 refine jcI hK λK2 a2=>?_
 refine jlp (λm vs H D'=>R.le H/\∃(i:Nat) (l:List AO) (v:Value) (A:Chs) (rows:List (List Value)),1<=i/\i<=s.AA.length + 1/\l.length<=16 * i/\(match BU s.AC i (s.AA.drop i) with | none=>none | some l2=>some (l ++ l2)) = BK s/\Rw (ThC H) rows l/\SW BX 6 rows v A/\D' = A ++ ((b,C AW (eSt s wv W mv G T pv)) :: ([] ++ F))/\vs = [Pt b,v,I i]/\m = s.AA.length + 1 - i)
  (n:=s.AA.length) ⟨RM.le.refl R,1,[],SN,[],[],Z,Z,V,by unfold BK;rw[List.drop_one];cases BU s.AC 1 s.AA.tail<;>rfl,Rw.nil,.inl ⟨rfl,rfl,rfl⟩,rfl,rfl,Z⟩ ?_
 rintro m e R1 D1 K3 ⟨Q,i,l,v,A,rows,a7,a8,b0,x,j,so,hD,he,hm⟩ a3;refine z_W ?_;have h1:=h.le Q;refine jl rfl (Bl h1.t.sl (jlt (jif (λhc=>?_) (λhc=>?_))));rotate_left
 .have hc:=z_g hc;refine a2 _ _ _ ⟨Q,l,v,A,?_,⟨rows,j,so⟩,rfl,rfl⟩;rw[<- x,dv Z];simp[BU]
 have hc:i < s.AA.length:=by have:=z_f hc;omega
 rw[dq hc] at x;unfold BU at x;refine jl rfl (jl rfl (jrg h1.t hc λb2 o2 ty cs hb ho a1=>(jfo (jlr hb (Bt a1 rfl) (jc (TA i (s.AA[i]).top h1.w Z) ?_)))));rintro _ R2 _ D ⟨rfl,hq⟩;cases N:BP s.AC i (s.AA[i]).top with
 | none=>
  rw[N] at hq x;subst hq;refine jex rfl (jex rfl (DJ (Ao (Q.trans D) ⟨rfl,?_⟩)));rw[<- x];exact rfl
 | some l1=>
  rw[N] at hq x;obtain⟨b3,⟨O,y,a0⟩,rfl⟩:=hq;refine Ph (jex rfl (jex rfl (CK ?_)));obtain⟨xa,cx,a4,hx⟩:=Fz.reads a0;rw[a4];have b1:=j.1;have a6:=y.1;have a9:=T8 N;refine jaw so (j.all λ_ _=>ThC.len) (y.all λ_ _=>ThC.len) rfl (QE (y.all λ_ _=>ThC.flat)) rfl δ Z hx λv' A' a5=>(jad (a3 (s.AA.length + 1 - (i + 1)) _ _ _ Z ⟨Q.trans D,i + 1,l ++ l1,v',A',rows ++ O,Z,Z,by rw[de];omega,?_,(j.mono λ_ _=>ThC.le D).app y,a5,rfl,rfl,rfl⟩))
  rw[<- x];cases BU s.AC (i + 1) (s.AA.drop (i + 1)) with
  | none=>rfl
  | some l2=>simp
theorem Lw {R:RM} {D:Chs} {s:Sm.Aj} {wv y mv j x pv:Value} (r:Int) (h:StC R s wv y mv j x pv) (Q:∀a∈s.AI,AM a<=9223372036854775807) (hl:s.AI.length < 1000000) :
  Ro MZ [.agg (eSt s wv y mv j x pv).toArray,I r] (.bool (Ah s.AI r)) R D:=by
 refine TW λF=>?_
 refine z_2 ?_;refine ja λb=>?_
 rw[show cl (.agg (eSt s wv y mv j x pv).toArray) = eSt s wv y mv j x pv from rfl];refine jlp (λm T N H=>N = R/\H = (b,C AW (eSt s wv y mv j x pv)) :: (D ++ F)/\∃i:Nat,i<=s.AI.length/\T = [I r,Pt b,I i]/\m = s.AI.length - i/\Ah (s.AI.drop i) r = Ah s.AI r)
  (n:=s.AI.length) ⟨rfl,rfl,0,Z,rfl,Z,by rw[fk]⟩ ?_
 rintro m e R1 W K ⟨A,hD,i,hi,he,hm,Bv⟩ O;subst A;refine z_W ?_;refine jl rfl (Bl h.p.sl (jlt (jif (λhc=>?_) (λhc=>?_))))
 .have hc:i < s.AI.length:=by have:=z_f hc;omega
  refine jl rfl (C5 h.p Z Z ?_);rw[getElem_congr_idx (da i)];rw[dq hc] at Bv;refine jp (Cf _ (Q _ (dc hc))) (jeq (jif (λG=>?_) (λG=>?_)))
  .refine B9 ?_;rw[<- Bv];unfold Ah;rw[List.any_cons,G,gB]
  .refine jad (O (s.AI.length - (i + 1)) _ _ _ Z ⟨rfl,rfl,i + 1,Z,rfl,rfl,?_⟩);rw[<- Bv];unfold Ah;rw[List.any_cons,G,fH]
 .have hc:¬ i < s.AI.length:=by have:=z_g hc;omega
  refine B9 ?_;rw[<- Bv,dv Z];rfl
theorem Ld (had:List Int) (a:Int):had.length<=(Bq had a).length:=by
 unfold Bq;split<;>simp
theorem EE {l:List AO}:∀{A j r:List Int},Au l A j = some r->j.length<=r.length
 | [],j,r,h=>by cases h;exact z_n _
 | x :: A,j,r,h=>by
  unfold Au at h;obtain⟨y,_,h⟩:=AF h;have:=EE h;have:=Ld j y;omega
theorem J3 {l:List AO}:∀{D:List Th} {j r:List Int},EC l D j = some r->j.length<=r.length
 | [],j,r,h=>by cases h;exact z_n _
 | x :: xs,j,r,h=>by
  unfold EC at h;obtain⟨y,A,h⟩:=AF h;have:=EE A;have:=J3 h;omega
theorem My:∀(x j:List Int),j.length<=(x.foldl Bq j).length
 | [],j=>z_n _
 | p :: x,j=>by
  have y:=Ld j p;have A:=My x (Bq j p);rw[ge];omega
theorem Hj {l:List AO}:∀{n i:Nat} {out r:List Int},BJ l n i out = some r->out.length<=r.length/\r.length + 1<=i + n
 | 0,i,out,r,h=>by cases h
 | n + 1,i,out,r,h=>by
  unfold BJ at h;split at h
  .rename_i x;cases h;have:=List.getElem?_eq_none_iff.1 x;exact⟨z_n _,Z⟩
  .obtain⟨t,_,h⟩:=AF h;obtain⟨y,j,h⟩:=AF h;have:=EE j;obtain⟨A,D⟩:=Hj h;exact⟨Z,Z⟩
theorem L4 {s:Sm.Aj} {l:List AO} {r:List Int} (h:Dh s l = some r):r.length<=l.length + 1:=by
 unfold Dh at h;obtain⟨y,_,h⟩:=AF h;have:=(Hj h).2;omega
theorem Ui {acc:List Int} {x:Int} {R:RM} {D:Chs} {v:Value} {A:Chs} (c:((x != 0) && decide (Ba acc x < 0)) = false) (y:SO acc v A):SO (Bq acc x) v A:=by
 unfold Bq;rw[if_pos]
 .exact y
 .unfold Ba at c;by_cases h:x = 0
  .exact .inl h
  .by_cases j:x∈acc
   .exact .inr j
   .rw[if_neg j] at c;simp[h] at c
theorem O9 {acc:List Int} {x:Int} (c:((x != 0) && decide (Ba acc x < 0)) = true):Bq acc x = acc ++ [x]:=by
 unfold Bq;rw[if_neg];simp only[z_b,bne_iff_ne,ne_eq,z_d] at c;rintro (h | h)
 .exact c.1 h
 .unfold Ba at c;rw[if_pos h] at c;omega
theorem Rh {R:RM} {s:Sm.Aj} {wv tv mv a3 ov pv lv:Value} {l:List AO} {AJ:List Int} (h:StC R s wv tv mv a3 ov pv) (a9:Tgs R lv l) (e7:l.length < 900000) (hr:Dh s l = some AJ) (hn:s.AB.length < 1000000) (e2:∀t∈s.AB,t.AD.length < 1000000000) (e8:s.AI.length < 1000000) (e1:∀t∈l,t.refs.length < 1000000000) :
  Fn P IE [.agg (eSt s wv tv mv a3 ov pv).toArray,lv] R [] (λv _ A=>SO AJ v A):=by
 refine NU λF=>?_
 refine z_2 ?_;have hlen:=L4 hr;unfold Dh at hr;obtain⟨a1,c7,c0⟩:=AF hr;have d2:=(Hj c0).1;have d1:=My s.AI a1;refine ja λb=>?_
 rw[show cl (.agg (eSt s wv tv mv a3 ov pv).toArray) = eSt s wv tv mv a3 ov pv from rfl];generalize hE:((b,C AW (eSt s wv tv mv a3 ov pv)) :: ([] ++ F)) = E;have ea:At E b (C AW (eSt s wv tv mv a3 ov pv)):=by rw[<- hE];exact inferInstance
 have ef:Sf E F:=by rw[<- hE];exact inferInstance
 refine Ab (λvs W T=>W = R/\∃v A,SO a1 v A/\T = A ++ E/\vs = [lv,Pt b,v]) (λK hK=>?_) ?_
 .refine jcI hK λK2 a4=>?_
  refine jlp (λm vs W T=>W = R/\∃(i:Nat) (y:List Int) (v:Value) (A:Chs),i<=s.AB.length/\EC l (s.AB.drop i) y = some a1/\SO y v A/\T = A ++ E/\vs = [lv,Pt b,v,I i]/\m = s.AB.length - i)
   (n:=s.AB.length) ⟨rfl,0,[],SN,[],Z,c7,.inl ⟨rfl,rfl,rfl⟩,rfl,rfl,Z⟩ ?_
  rintro m e R1 D1 K3 ⟨hR,i,y,v,A,hi,H,O,hD,he,hm⟩ a5;subst hR;refine z_W ?_;clear hD;refine jl rfl (Bl h.th.sl (jlt (jif (λhc=>?_) (λhc=>?_))));rotate_left
  .have hc:=z_g hc;rw[dv Z] at H;cases H;exact a4 _ _ _ ⟨rfl,v,A,O,rfl,rfl⟩
  have hc:i < s.AB.length:=by have:=z_f hc;omega
  rw[dq hc] at H;unfold EC at H;obtain⟨Q,N,H⟩:=AF H;have b9:=J3 H;have e9:=e2 _ (dc hc);refine Ab (λvs W T=>W = R1/\∃v A,SO Q v A/\T = A ++ E/\vs = [lv,Pt b,v,I i]) (λK4 b4=>?_) ?_;rotate_left
  .rintro e R2 D2 ⟨hR,v,A,O,hD,he⟩;subst hR;refine z_W ?_;clear hD;refine jad (a5 (s.AB.length - (i + 1)) _ _ _ Z ⟨rfl,i + 1,Q,v,A,Z,H,O,rfl,rfl,rfl⟩)
  refine jcI b4 λK5 b5=>?_
  refine jcI b5 λK6 b6=>?_
  refine jlp (λm vs W T=>W = R1/\∃(j:Nat) (y:List Int) (v:Value) (A:Chs),j<=(s.AB[i]).AD.length/\Au l ((s.AB[i]).AD.drop j) y = some Q/\SO y v A/\T = A ++ E/\vs = [lv,Pt b,v,I i,I j]/\m = (s.AB[i]).AD.length - j)
   (n:=(s.AB[i]).AD.length) ⟨rfl,0,y,v,A,Z,N,O,rfl,rfl,Z⟩ ?_
  clear N O;rintro m e R2 D2 K7 ⟨hR,j,y,v,A,hj,N,O,hD,he,hm⟩ b7;subst hR;refine z_W ?_;clear hD;have c5:=EE N;refine jl rfl (jtr h.th hc λb2 o2 ty cs rv a2 hb ho a0=>(jfo (jlr hb (Bt a0 rfl) (Bl a2.sl (jlt (jif (λhd=>?_) (λhd=>?_)))))));rotate_left
  .have hd:=z_g hd;rw[dv Z] at N;cases N;exact b6 _ _ _ ⟨rfl,v,A,O,rfl,rfl⟩
  have hd:j < (s.AB[i]).AD.length:=by have:=z_f hd;omega
  rw[dq hd] at N;unfold Au at N;obtain⟨x,hx,N⟩:=AF N;refine Ab (λvs W T=>W = R2/\∃v A,SO (Bq y x) v A/\T = A ++ E/\vs = [lv,Pt b,v,I i,I j]) (λK8 b8=>?_) ?_;rotate_left
  .rintro e R3 D3 ⟨hR,v,A,O,hD,he⟩;subst hR;refine z_W ?_;clear hD;refine jad (b7 ((s.AB[i]).AD.length - (j + 1)) _ _ _ Z ⟨rfl,j + 1,_,v,A,Z,N,O,rfl,rfl,rfl⟩)
  refine jcI b8 λK9 a6=>?_
  refine jl rfl (jtr h.th hc λb2 o2 ty cs rv a2 hb ho a0=>(jfo (jlr hb (Bt a0 rfl) (C5 a2 Z Z ?_))));rw[getElem_congr_idx (da j)];refine jro (Ho a9 Z hx) ?_;obtain⟨sa,sn,sc,c4⟩:=O.sl;refine jan [lv,Pt b,v,I i,I j,I x] (((x != 0)) && (decide (Ba y x < 0))) (λK' b0=>?_) (λe c u ho he=>?_)
  .refine jne (jgA b0 λh1 hN=>jro (JY x O.rd Z) (jlt hN))
  refine z_V ?_;rw[ho];refine jif (λh0=>?_) (λh0=>?_)
  .refine jbs rfl rfl λb1=>(IU O Z λv' A' a8=>(a6 _ _ _ ⟨rfl,v',A',by rw[O9 h0];exact a8,rfl,rfl⟩))
  .exact a6 _ _ _ ⟨rfl,v,A,Ui (R:=R2) (D:=[]) h0 O,rfl,rfl⟩
 rintro e R1 D1 ⟨hR,v,A,O,hD,he⟩;subst hR;refine z_W ?_;clear hD;generalize d4:s.AI.foldl Bq a1 = a7 at c0 d2 d1;refine Ab (λvs W T=>W = R1/\∃v A,SO a7 v A/\T = A ++ E/\vs = [lv,v]) (λK hK=>?_) ?_
 .refine jcI hK λK2 a4=>?_
  refine jlp (λm vs W T=>W = R1/\∃(i:Nat) (y:List Int) (v:Value) (A:Chs),i<=s.AI.length/\(s.AI.drop i).foldl Bq y = a7/\SO y v A/\T = A ++ E/\vs = [lv,Pt b,v,I i]/\m = s.AI.length - i)
   (n:=s.AI.length) ⟨rfl,0,a1,v,A,Z,d4,O,rfl,rfl,Z⟩ ?_
  rintro m e R1 D1 K3 ⟨hR,i,y,v,A,hi,H,O,hD,he,hm⟩ a5;subst hR;refine z_W ?_;clear hD;refine jl rfl (Bl h.p.sl (jlt (jif (λhc=>?_) (λhc=>?_))));rotate_left
  .have hc:=z_g hc;rw[dv Z,List.foldl_nil] at H;subst H;exact a4 _ _ _ ⟨rfl,v,A,O,rfl,rfl⟩
  have hc:i < s.AI.length:=by have:=z_f hc;omega
  rw[dq hc,ge] at H;have b9:=My (s.AI.drop (i + 1)) (Bq y s.AI[i]);have c5:=Ld y s.AI[i];rw[H] at b9;refine jl rfl (C5 h.p Z Z ?_);rw[getElem_congr_idx (da i)];refine jc (LR _ O Z) ?_;rintro v' R2 A' e4 ⟨c9,a8⟩;subst c9;refine jad (a5 (s.AI.length - (i + 1)) _ _ _ Z ⟨rfl,i + 1,_,v',A',Z,H,a8,rfl,rfl,rfl⟩)
 clear O c7;rintro e R2 D2 ⟨hR,v,A,O,hD,he⟩;subst hR;refine z_W ?_;clear hD;refine Ab (λvs W T=>W = R2/\∃v A,SO AJ v A/\T = A ++ E/\vs = [v]) (λK hK=>?_) ?_;rotate_left
 .rintro e R3 D3 ⟨hR,v,A,O,hD,he⟩;subst hR;refine z_W ?_;clear hD;exact Ao (RM.le.refl R3) O
 refine jcI hK λK2 a4=>?_
 refine jlp (λm vs W T=>W = R2/\∃(k:Nat) (y:List Int) (v:Value) (A:Chs),BJ l m k y = some AJ/\SO y v A/\T = A ++ E/\vs = [lv,v,I k])
  ⟨rfl,0,a7,v,A,c0,O,rfl,rfl⟩ ?_
 clear O;rintro m e R3 D3 K3 ⟨hR,i,y,v,A,H,O,hD,he⟩ a5;subst hR;refine z_W ?_;clear hD;obtain⟨b9,c5⟩:=Hj H;obtain⟨m,rfl⟩:∃k,m = k + 1:=by
  cases m with
  | zero=>cases H
  | succ m=>exact⟨m,rfl⟩
 unfold BJ at H;obtain⟨c4,c8⟩:=O.rd;refine Bl c4 (jlt (jif (λhc=>?_) (λhc=>?_)));rotate_left
 .have hc:=z_g hc;rw[fG Z] at H;cases H;exact a4 _ _ _ ⟨rfl,v,A,O,rfl,rfl⟩
 have hc:i < y.length:=by have:=z_f hc;omega
 rw[dY hc] at H;obtain⟨t,ht,H⟩:=AF H;obtain⟨Q,N,H⟩:=AF H;have e5:=(Hj H).1;refine Ab (λvs W T=>W = R3/\∃v A,SO Q v A/\T = A ++ E/\vs = [lv,v,I i]) (λK4 b4=>?_) ?_;rotate_left
 .rintro e R2 D2 ⟨hR,v,A,O,hD,he⟩;subst hR;refine z_W ?_;clear hD;refine jad (a5 m _ _ _ Z ⟨rfl,i + 1,Q,v,A,H,O,rfl,rfl⟩)
 refine jcI b4 λK5 b5=>?_
 refine BC (by rw[eh]) (c8 [] i hc _ ?_);rw[eh];obtain⟨n,c6,hp,rfl⟩:=FJ ht;refine jro (EZ _ a9 Z) ?_;rw[hp];refine jtg a9 c6 λb2 o2 ty cs rv nv a2 d3 hb ho a0=>?_
 have e3:=e1 _ (dc c6);obtain⟨ra,rc,rfl⟩:=a2.sl;obtain⟨na,nc,rfl⟩:=d3.sl;refine Da hb ho a0 (ja λb3=>(js rfl rfl (by exact z_n 6) rfl (BC eP.symm (Ab (λvs W T=>W = R3/\∃v A,SO Q v A/\T = A ++ E/\vs = [lv,v,I i]) (λK6 b6=>?_) ?_))));rotate_left
 .rintro e R2 D2 ⟨hR,v,A,O,hD,he⟩;refine z_W ?_;clear hD;exact b5 _ _ _ ⟨hR,v,A,O,rfl,rfl⟩
 refine jlp (λm vs W T=>W = R3/\∃(j:Nat) (y:List Int) (v:Value) (A:Chs),j<=(l[n]).refs.length/\Au l ((l[n]).refs.drop j) y = some Q/\SO y v A/\T = A ++ ((b3,C BX (eTh l[n] (.slice ra l[n].refs.length rc) (.slice na l[n].nums.length nc))) :: E)/\vs = [lv,v,I i,Pt b3,I j]/\m = (l[n]).refs.length - j)
  (n:=(l[n]).refs.length) ⟨rfl,0,y,v,A,Z,N,O,rfl,rfl,Z⟩ ?_
 clear N O c8;rintro m2 e R2 D2 K7 ⟨hR,j,y,v,A,hj,N,O,hD,he,hm⟩ b7;subst hR;refine z_W ?_;clear hD;have e6:=EE N;refine jl rfl (jln (jlt (jif (λhd=>?_) (λhd=>?_))));rotate_left
 .have hd:=z_g hd;rw[dv Z] at N;cases N;refine Al A (G:=E) (b6 _ _ _ ⟨rfl,v,A,O,rfl,rfl⟩)
 have hd:j < (l[n]).refs.length:=by have:=z_f hd;omega
 rw[dq hd] at N;unfold Au at N;obtain⟨x,hx,N⟩:=AF N;refine Ab (λvs W T=>W = R2/\∃v A,SO (Bq y x) v A/\T = A ++ ((b3,C BX (eTh l[n] (.slice ra l[n].refs.length rc) (.slice na l[n].nums.length nc))) :: E)/\vs = [lv,v,I i,Pt b3,I j]) (λK8 b8=>?_) ?_;rotate_left
 .rintro e R3 D3 ⟨hR,v,A,O,hD,he⟩;subst hR;refine z_W ?_;clear hD;refine jad (b7 ((l[n]).refs.length - (j + 1)) _ _ _ Z ⟨rfl,j + 1,_,v,A,Z,N,O,rfl,rfl,rfl⟩)
 refine jcI b8 λK9 a6=>?_
 refine jl rfl (C5 a2 Z Z ?_);rw[getElem_congr_idx (da j)];refine jro (Ho a9 Z hx) ?_;obtain⟨sa,sn,sc,c4⟩:=O.sl;refine jan [lv,v,I i,Pt b3,I j,I x] (((x != 0)) && (decide (Ba y x < 0))) (λK' b0=>?_) (λe c u ho he=>?_)
 .refine jne (jgA b0 λh1 hN=>jro (JY x O.rd Z) (jlt hN))
 refine z_V ?_;rw[ho];refine jif (λh0=>?_) (λh0=>?_)
 .refine jbs rfl rfl λb1=>(IU O Z λv' A' a8=>(a6 _ _ _ ⟨rfl,v',A',by rw[O9 h0];exact a8,rfl,rfl⟩))
 .exact a6 _ _ _ ⟨rfl,v,A,Ui (R:=R2) (D:=[]) h0 O,rfl,rfl⟩
theorem Xl {R:RM} {A E:Chs} {l:List Int} {v:Value} {x:Int} {i:Nat} {m:M} (D:SO l v A) (j:i < l.length) (H:∀y,SO (l.set i x) v y->J R (y ++ E) m):J R (A ++ E) (IA 1 v (I (i:Int)) λq=>ST 1 q (I x) m):=by
 rcases D with ⟨rfl,_,_⟩ | ⟨b,c,sp,hc,hsp,rfl,rfl⟩
 .exact absurd j V
 .refine CC j (jsi j (H _ (.inr ⟨b,c,sp,by simpa using hc,by simpa using hsp,by rw[fB],rfl⟩)))
theorem Qh (l:List Int) (x:Int):(HQ l x).length = l.length + 1:=by
 unfold HQ;have:∀k,EF l x k<=k:=by
  intro k;induction k with
  | zero=>exact z_n 0
  | succ k j=>unfold EF;split<;>omega
 have:=this l.length;simp only[de,dp,dl,fA];omega
theorem DU:∀(l j:List Int),(l.foldl HQ j).length = j.length + l.length
 | [],j=>V
 | a :: r,j=>by rw[ge,DU r,Qh];simp;omega
theorem Tj {R:RM} {v:Value} {l:List Int} (h:Aw R v l) (hl:l.length < 1000000):Fn P J6 [v] R [] (λN W A=>W = R/\SO (AN l) N A):=by
 refine Oj λF=>?_
 refine z_1 ?_;refine Ab (λvs W D'=>W = R/\∃N A,SO (AN l) N A/\D' = A ++ F/\vs = [N]) (λK hK=>?_) ?_;rotate_left
 .rintro e R3 D3 ⟨hR,N,A,Q,hD,he⟩;subst hR;refine z_W ?_;clear hD;exact Ao (RM.le.refl R3) ⟨rfl,Q⟩
 refine jcI hK λK2 a6=>?_
 refine jlp (λm vs W D'=>W = R/\∃(k:Nat) (j:List Int) (N : Value) (A:Chs),k<=l.length/\j.length = k/\(l.drop k).foldl HQ j = AN l/\SO j N A/\D' = A ++ F/\vs = [v,N,I k]/\m = l.length - k)
  (n:=l.length) ⟨rfl,0,[],SN,[],Z,rfl,rfl,.inl ⟨rfl,rfl,rfl⟩,rfl,rfl,Z⟩ ?_
 rintro m e R1 D1 K3 ⟨hR,k,j,N,A,hk,b0,a0,Q,hD,he,hm⟩ a7;subst hR;refine z_W ?_;clear hD;refine Bl h.sl (jlt (jif (λhc=>?_) (λhc=>?_)));rotate_left
 .have hc:=z_g hc;rw[dv Z,List.foldl_nil] at a0;subst a0;exact a6 _ _ _ ⟨rfl,N,A,Q,rfl,rfl⟩
 have hc:k < l.length:=by have:=z_f hc;omega
 rw[dq hc,ge] at a0;refine Ab (λvs W D'=>W = R1/\∃N A,SO (HQ j l[k]) N A/\D' = A ++ F/\vs = [v,N,I k]) (λK4 a8=>?_) ?_;rotate_left
 .rintro e R2 D2 ⟨hR,N,A,Q,hD,he⟩;subst hR;refine z_W ?_;clear hD;refine jad (a7 (l.length - (k + 1)) _ _ _ Z ⟨rfl,k + 1,_,N,A,Z,by rw[Qh,b0],a0,Q,rfl,rfl,rfl⟩)
 refine jcI a8 λK5 a1=>?_
 obtain⟨b3,-⟩:=Q.rd (R:=R1) (E:=F);refine Bl b3 (C5 h Z Z ?_);rw[getElem_congr_idx (da k)];generalize l[k] = x at a1;refine jbs rfl rfl λb1=>(IU Q Z λv2 A2 a4=>(Ab (λvs W D'=>W = R1/\∃N A,SO (HQ j x) N A/\D' = A ++ F/\vs = [v,N,I k]) (λK6 a2=>?_) ?_))
 rotate_left
 .rintro e R2 D2 ⟨hR,N,A,Q,hD,he⟩;refine z_W ?_;clear hD;exact a1 _ _ _ ⟨hR,N,A,Q,rfl,rfl⟩
 refine jlp (λm vs W D'=>W = R1/\∃(i:Nat) (D:List Int) (A:Chs),i<=j.length/\D = j.take i ++ x :: j.drop i/\EF j x i = EF j x j.length/\SO D v2 A/\D' = A ++ F/\vs = [v,v2,I k,I i]/\m = i)
  ⟨rfl,j.length,j ++ [x],A2,Z,V,rfl,a4,rfl,rfl,rfl⟩ ?_
 clear Q a4;rintro m2 e R2 D2 K7 ⟨hR,i,D,A,hi,G,a3,Q,hD,he,hm⟩ a9;subst hR;refine z_W ?_;clear hD;have b5:D.length = j.length + 1:=by rw[G];simp;omega
 obtain⟨-,b2⟩:=Q.rd;have T : ∀(i:Nat) (h:i < D.length) (k:Value->M),J R2 (A ++ F) (k (I D[i]))->J R2 (A ++ F) (IA 1 v2 (I (i:Int)) λx=>L1 x k):=λi h k H=>by
  have:=b2 [] i h k (by rw[eh];exact H);rw[eh] at this;exact this
 have gi:D[i]'(Z) = x:=by
  subst G;rw[fh (by simp;omega)];simp[Nat.min_eq_left hi]
 cases i with
 | zero=>
  refine Ce (jgr ?_);rw[decide_eq_false δ];refine jft (C6 λe he=>?_);refine z_V ?_;refine ER (CK (a2 _ _ _ ⟨rfl,v2,A,?_,rfl,rfl⟩));have:HQ j x = D:=by
   unfold HQ;rw[<- a3,G];rfl
  rw[this];exact Q
 | succ i=>
  have gp:D[i]'(Z) = j[i]'(Z):=by
   subst G;rw[gK (by simp;omega),gP]
  obtain⟨y,hy⟩:∃y,j[i]'(Z) = y:=⟨_,rfl⟩;rw[hy] at gp;have es:((i + 1:Nat):Int) - 1 = (i:Nat):=Z
  have O:(if x < j.getD i 0 then EF j x i else i + 1) = EF j x j.length:=a3;rw[dZ,dY Z,eR,hy] at O;refine Ce (jgr ?_);rw[decide_eq_true Z];refine jtt (jsu ?_);rw[es];refine T i Z _ (T (i + 1) Z _ (jgr (C6 λe he=>?_)));refine z_V ?_;rw[gp,gi];refine EN (jif (λh1=>?_) (λh1=>?_))
  .have h1:x < y:=z_f h1;rw[if_pos h1] at O;refine jsu ?_;rw[es];refine T i Z _ (jsu ?_);rw[es];refine T (i + 1) Z _ (Xl Q Z λA3 b4=>(Xl b4 (by rw[fB];omega) λA4 a5=>(jsu ?_)));rw[es];rw[gp,gi] at a5;refine a9 i _ _ _ Z ⟨rfl,i,_,A4,Z,?_,O,a5,rfl,rfl,rfl⟩;have e1:j.take (i + 1) = j.take i ++ [y]:=by rw[db Z,hy]
   have e2:j.drop i = y :: j.drop (i + 1):=by rw[dq Z,hy]
   have l1:(j.take i).length = i:=by simp;omega
   rw[G,e1,e2,dm,fd _ _ Z,fd _ _ Z,l1];simp
  .have h1:¬ x < y:=z_g h1;rw[if_neg h1] at O;refine a2 _ _ _ ⟨rfl,v2,A,?_,rfl,rfl⟩;have:HQ j x = D:=by
    unfold HQ;rw[<- O,G]
   rw[this];exact Q
def TB (l:List AO):Prop:=∀t∈l,0<=t.at_/\t.at_ < 1000000/\t.refs.length<=4/\t.nums.length<=4
theorem bY {w:List Int} {a:Int} (hl:w.length < 1000000) (h:(Ap w a).2 = true):0<=(Ap w a).1.at_/\(Ap w a).1.at_ < 1000000/\(Ap w a).1.refs.length<=4/\(Ap w a).1.nums.length<=4:=by
 unfold Ap at h ⊢;split at h
 .rename_i x;rw[if_pos x];dsimp only at h ⊢;split at h
  .rename_i j;rw[if_pos j];simp only[z_b] at j;have:=GI j.1;have:=FH x;dsimp only;refine⟨Z,Z,?_,?_⟩
   .unfold seg;rw[dp];omega
   .unfold seg;rw[dp];omega
  .exact absurd h δ
 .exact absurd h δ
theorem Ue {w:List Int} (hl:w.length < 1000000):∀{n:Nat} {a top:Int} {l:List AO},Am w n a top = some l->TB l
 | 0,a,top,l,h=>by
  unfold Am at h;split at h
  .cases h
  .cases h;intro t j;cases j
 | n + 1,a,top,l,h=>by
  unfold Am at h;split at h
  .dsimp only at h;split at h
   .rename_i hc;simp only[z_b] at hc;split at h
    .rename_i y x;cases h;intro t j;rcases du.1 j with rfl | j
     .exact bY hl hc.1
     .exact Ue hl x t j
    .cases h
   .cases h
  .cases h;intro t j;cases j
theorem NO {w:List Int} (hl:w.length < 1000000):∀{t:List Rg} {r:Nat} {l:List AO},BU w r t = some l->TB l/\l.length<=16 * t.length
 | [],r,l,h=>by
  cases h;exact⟨λt j=>(by cases j),V⟩
 | x :: t,r,l,h=>by
  unfold BU at h;split at h
  .cases h
  .rename_i a y;split at h
   .cases h
   .rename_i b hb;cases h;obtain⟨A,G⟩:=NO hl hb;have H:=T8 y;have D:TB a:=by
     unfold BP at y;split at y
     .exact Ue hl y
     .cases y
    refine⟨λt j=>?_,by rw[de,dl];omega⟩;rcases eI.1 j with j | j
    .exact D t j
    .exact A t j
theorem Gb {w w' : List Int} {a v:Int} (h:Sm.wr w a v = some w'):0<=a/\a < w.length/\w' = w.set a.toNat v:=by
 unfold Sm.wr at h;split at h
 .rename_i hc;cases h;exact⟨hc.1,hc.2,rfl⟩
 .cases h
theorem Y3 {R:RM} {s:Sm.Aj} {wv tv mv G ov pv lv:Value} {l:List AO} {w w' : List Int} {t t' : List Rg} {wsp tsp:List Value} {bw cw bt ct:Nat} (h:StC R s wv tv mv G ov pv) (a4:Tgs R lv l) (e1:TB l) (f1:l.length < 1000000)
  (hp:∀a∈s.AI,AM a<=9223372036854775807) (d3:s.AI.length < 1000000) (j:stay s l w t = some (w',t')) :
  Fn P Mm [.agg (eSt s wv tv mv G ov pv).toArray,lv,S0 bw w.length cw,S0 bt t.length ct] R
   [(bw,C Ad (w.map I ++ wsp)),(bt,C AS (Af eRg t ++ tsp))] (λ_ T A=>T = R/\w'.length = w.length/\t'.length = t.length/\A = [(bw,C Ad (w'.map I ++ wsp)),(bt,C AS (Af eRg t' ++ tsp))]):=by
 refine TM λF=>?_
 refine z_4 ?_;refine ja λb=>?_
 rw[show cl (.agg (eSt s wv tv mv G ov pv).toArray) = eSt s wv tv mv G ov pv from rfl];refine jlp (λm vs T D'=>T = R/\∃(i:Nat) (w1:List Int) (t1:List Rg),i<=l.length/\w1.length = w.length/\t1.length = t.length/\stay s (l.drop i) w1 t1 = some (w',t')/\D' = (b,C AW (eSt s wv tv mv G ov pv)) :: (bw,C Ad (w1.map I ++ wsp)) :: (bt,C AS (Af eRg t1 ++ tsp)) :: F/\vs = [lv,S0 bw w.length cw,S0 bt t.length ct,Pt b,I i]/\m = l.length - i)
  (n:=l.length) ⟨rfl,0,w,t,Z,rfl,rfl,j,rfl,rfl,Z⟩ ?_
 clear j;rintro m e R1 D1 K ⟨hR,i,w1,t1,hi,c0,a6,j,hD,he,hm⟩ hK;subst hR;refine z_W ?_;clear hD;refine Bl a4.sl (jlt (jif (λhc=>?_) (λhc=>?_)));rotate_left
 .have hc:=z_g hc;rw[dv Z] at j;cases j;refine Ao (RM.le.refl R1) ⟨rfl,c0,a6,rfl⟩
 have hc:i < l.length:=by have:=z_f hc;omega
 rw[dq hc] at j;obtain⟨a0,a1,r1,n1⟩:=e1 _ (dc hc);unfold stay at j;dsimp only at j;have b5:AM (l[i]).at_<=9223372036854775807:=by unfold AM;split<;>omega
 refine Ab (λvs T D'=>T = R1/\∃(w2:List Int) (t2:List Rg),w2.length = w.length/\t2.length = t.length/\stay s (l.drop (i + 1)) w2 t2 = some (w',t')/\D' = (b,C AW (eSt s wv tv mv G ov pv)) :: (bw,C Ad (w2.map I ++ wsp)) :: (bt,C AS (Af eRg t2 ++ tsp)) :: F/\vs = [lv,S0 bw w.length cw,S0 bt t.length ct,Pt b,I i]) (λK4 c4=>?_) ?_;rotate_left
 .rintro e R2 D2 ⟨hR,w2,t2,Q,b9,c8,hD,he⟩;subst hR;refine z_W ?_;clear hD;refine jad (hK (l.length - (i + 1)) _ _ _ Z ⟨rfl,i + 1,w2,t2,Z,Q,b9,c8,rfl,rfl,rfl⟩)
 refine jcI c4 λK5 a8=>?_
 obtain⟨rows,a2,hfz⟩:=a4;have a9 : i < rows.length:=by rw[a2.1];exact hc
 obtain⟨bl,ol,e6,f5,W,b1,y,f3,O⟩:=Jx hfz (a2.all λ_ _=>ThC.len) a9;obtain⟨rv,nv,a7,d4,b4⟩:=a2.2 i a9 hc;rw[a7] at O;have a4:Tgs R1 lv l:=⟨rows,a2,hfz⟩;have ia:∀{D:Chs} {k:Value->M},J R1 D (k (.pointer (some ⟨bl,ol + i * 6,none⟩)))->J R1 D (IA 6 lv (I (i:Int)) k):=λH=>by
  rw[b1];refine jia Z Z ?_;rw[da];exact H
 have g0:W[ol + i * 6 + 0]? = some (I (l[i]).at_):=Bt O rfl;have g4:W[ol + i * 6 + 4]? = some rv:=Bt O rfl;have g5:W[ol + i * 6 + 5]? = some nv:=Bt O rfl;have g2:(W.drop (ol + i * 6 + 2)).take 2 = [I (l[i]).sh.refs,I (l[i]).sh.nums]:=by
  have:=congrArg (λx=>(x.drop 2).take 2) O;simp only[gm,gt,gr] at this;simpa [eTh] using this
 refine ia (jfo (jlr y g0 (jp (Cf _ b5) (jla (by exact z_n 13) rfl ?_))));refine jro (Lw (AM (l[i]).at_) h hp d3) (jif (λhh=>?_) (λhh=>?_));rotate_left
 .rw[if_neg (by rw[hh];decide)] at j;exact a8 _ _ _ ⟨rfl,w1,t1,c0,a6,j,rfl,rfl⟩
 rw[if_pos hh] at j;obtain⟨w2,e2,j⟩:=AF j;obtain⟨w3,e3,j⟩:=AF j;obtain⟨w4,e4,j⟩:=AF j;obtain⟨row,b6,j⟩:=AF j;obtain⟨e7,a5,j⟩:=AF j;obtain⟨q1,q2,q3⟩:=Gb e2;obtain⟨q4,q5,q6⟩:=Gb e3;refine ia (jfo (jlr y g0 (ia (jfo (jlr y g0 (jia q1 Z (jsi Z ?_)))))));rw[<- q3];refine ia (jfo (jlr y g0 (jad (ia (jfo (Da y Z g2 (jp (Ey (l[i]).sh) ?_)))))));have e9:w2.length = w1.length:=by rw[q3,fB]
 refine jia q4 Z (Ak (jlr y g0 jev) (jsi Z ?_));rw[<- q6];have f0:w3.length = w2.length:=by rw[q6,fB]
 obtain⟨z0,z1,z2,z3⟩:=Ay b6;obtain⟨y0,y1,y2,y3⟩:=Ay a5;obtain⟨k0,d1⟩:∃k:Nat,AM (l[i]).at_ = k:=⟨(AM (l[i]).at_).toNat,Z⟩;refine Ab (λvs T D'=>T = R1/\w4.length = w.length/\D' = (b,C AW (eSt s wv tv mv G ov pv)) :: (bw,C Ad (w4.map I ++ wsp)) :: (bt,C AS (Af eRg t1 ++ tsp)) :: F/\vs = [lv,S0 bw w.length cw,S0 bt t.length ct,Pt b,I i,I (AM (l[i]).at_)]) (λK6 c5=>?_) ?_;rotate_left
 .rintro e R2 D2 ⟨hR,Q,hD,he⟩;subst hR;refine z_W ?_;clear hD;rw[d1] at j ⊢;have b0:k0 < s.AA.length:=Z
  have d2:k0 < t1.length:=Z
  have ez:s.AA[k0] = row:=by rw[<- z3];exact getElem_congr_idx Z
  refine jl rfl (jrg h.t b0 λb2 o2 ty cs hb ho b7=>(jfo (jlr hb (Bt b7 rfl) (jl rfl (jrg h.t b0 λb3 o3 f4 e8 c9 f2 b8=>(jfo (jlr c9 (Bt b8 rfl) ?_)))))));rw[ez];refine jbd rfl rfl (CC Z (HA (x:=⟨3,-1,row.top,row.top,0⟩) d2 (a8 _ _ _ ⟨rfl,w4,t1.set k0 ⟨3,-1,row.top,row.top,0⟩,Q,by rw[fB];exact a6,by simpa [AU] using j,rfl,rfl⟩)))
 refine jcI c5 λK7 c6=>?_
 refine jlp (λm vs T D'=>T = R1/\∃(k:Nat) (w5:List Int),k<=(l[i]).nums.length/\w5.length = w.length/\wrs w5 ((l[i]).at_ + 2 + (l[i]).refs.length + k) ((l[i]).nums.drop k) = some w4/\D' = (b,C AW (eSt s wv tv mv G ov pv)) :: (bw,C Ad (w5.map I ++ wsp)) :: (bt,C AS (Af eRg t1 ++ tsp)) :: F/\vs = [lv,S0 bw w.length cw,S0 bt t.length ct,Pt b,I i,I (AM (l[i]).at_),I k]/\m = (l[i]).nums.length - k)
  (n:=(l[i]).nums.length) ⟨rfl,0,w3,Z,Z,by simpa using e4,rfl,rfl,Z⟩ ?_
 rintro m3 e R2 D2 K8 ⟨hR,k,w5,hk,a3,N,hD,he,hm⟩ c7;subst hR;refine z_W ?_;clear hD;refine ia (jfo (jlr y g5 (Bl b4.sl (jlt (jif (λhd=>?_) (λhd=>?_))))));rotate_left
 .have hd:=z_g hd;rw[dv Z] at N;cases N;exact c6 _ _ _ ⟨rfl,a3,rfl,rfl⟩
 have hd:k < (l[i]).nums.length:=by have:=z_f hd;omega
 rw[dq hd] at N;unfold wrs at N;obtain⟨w6,e5,N⟩:=AF N;obtain⟨p1,p2,p3⟩:=Gb e5;refine ia (jfo (jlr y g0 (jad (ia (jfo (jlr y g4 (Bl d4.sl (jad (jad (ia (jfo (jlr y g5 (C5 b4 Z Z ?_)))))))))))));rw[getElem_congr_idx (da k)];refine jia p1 Z (jsi Z ?_);rw[<- p3];refine jad (c7 ((l[i]).nums.length - (k + 1)) _ _ _ Z ⟨rfl,k + 1,w6,Z,by rw[p3,fB];exact a3,by rw[<- N];congr 1;omega,rfl,rfl,rfl⟩)
end Go.Lf
end
section
namespace Go.Lf
open Go Sm
theorem NG (j:Cfg):Pu JO [.agg #[I j.AG,I j.AB,I j.AV]] (.bool (Bg j)):=by
 intro R;refine Ob λF=>?_
 refine z_1 ?_;refine ja λb=>?_
 rw[show cl (.agg #[I j.AG,I j.AB,I j.AV]) = [I j.AG,I j.AB,I j.AV] from rfl];refine jan [Pt b] ((decide (j.AG>=3)) && (decide (j.AG<=12))) (λG x=>?_) (λe c u D he=>?_)
 .refine jl rfl (jge (jgA x λH y=>jl rfl (jle y)))
 refine z_V ?_;refine jan [Pt b] ((decide (j.AG>=3) && decide (j.AG<=12)) && (decide (j.AB>=1))) (λG x=>?_) (λe c u D he=>?_)
 .rw[D];refine jgA x λH y=>jl rfl (jge y)
 refine z_V ?_;refine jan [Pt b] ((decide (j.AG>=3) && decide (j.AG<=12) && decide (j.AB>=1)) && (decide (j.AB<=3))) (λG x=>?_) (λe c u D he=>?_)
 .rw[D];refine jgA x λH y=>jl rfl (jle y)
 refine z_V ?_;refine jan [Pt b] ((decide (j.AG>=3) && decide (j.AG<=12) && decide (j.AB>=1) && decide (j.AB<=3)) && (decide (j.AV>=0))) (λG x=>?_) (λe c u D he=>?_)
 .rw[D];refine jgA x λH y=>jl rfl (jge y)
 refine z_V ?_;refine jan [] ((decide (j.AG>=3) && decide (j.AG<=12) && decide (j.AB>=1) && decide (j.AB<=3) && decide (j.AV>=0)) && (decide (j.AV<=100))) (λG x=>?_) (λe c u D he=>?_)
 .rw[D];refine jgA x λH y=>jl rfl (jle y)
 refine z_V ?_;rw[D];exact Ao (A:=[]) (RM.le.refl R) rfl
def YR (t:List Rg) (v:Value) (N:Chs):Prop:=if t = [] then v = .tuple #[SN,.bool false]/\N = [] else ∃sv,Yv t sv N/\v = .tuple #[sv,.bool true]
theorem NN {R:RM} {D:Chs} (n:Int):Mk JT [I n] R D (YR (AY n)):=by
 refine PP λF=>?_
 refine z_1 ?_;refine jor [I n] ((decide (n < 2)) || (decide (n > 12))) (λK' O=>?_) (λe c u ho he=>?_)
 .refine jlt (jgO O λh1 hN=>jgr hN)
 refine z_V ?_;rw[ho];refine jif (λh0=>?_) (λh0=>?_)
 .have:AY n = []:=by
   unfold AY;rw[if_pos];simpa using h0
  rw[this];exact DT [] ⟨rfl,rfl⟩
 simp only[eF,decide_eq_false_iff_not] at h0;obtain⟨k,rfl⟩:∃k:Nat,n = k:=⟨n.toNat,Z⟩;have ht:AY k = Dm :: (List.range (k - 1)).map λ(i:Nat)=>Dn ((i:Int) + 1):=by
  unfold AY;rw[if_neg Z,da]
 have a0:AY k = ((List.range k).map λj:Nat=>Dn (j:Int)).set 0 Dm:=by
  rw[ht,show k = (k - 1) + 1 by omega,List.range_succ_eq_map];simp
 refine Ab (λvs N H=>N = R/\∃v A,SW AS 5 (((List.range k).map λj:Nat=>Dn (j:Int)).map eRg) v A/\H = A ++ (D ++ F)/\vs = [v]) (λK hK=>?_) ?_
 .refine jcI hK λK2 Q=>?_
  refine jlp (λm vs N H=>N = R/\∃(i:Nat) (v:Value) (A:Chs),i<=k/\SW AS 5 (((List.range i).map λj:Nat=>Dn (j:Int)).map eRg) v A/\H = A ++ (D ++ F)/\vs = [I k,v,I i]/\m = k - i)
   (n:=k) ⟨rfl,0,SN,[],Z,.inl ⟨rfl,rfl,rfl⟩,rfl,rfl,Z⟩ ?_
  rintro m e R1 D1 K3 ⟨W,i,v,A,hi,y,hD,he,hm⟩ T;subst W;refine z_W ?_;refine jlt (jif (λhc=>?_) (λhc=>?_));rotate_left
  .have hc:i = k:=by have:=z_g hc;omega
   subst hc;exact Q _ _ _ ⟨rfl,v,A,y,rfl,rfl⟩
  have hc:i < k:=by have:=z_f hc;omega
  refine jp (Bf i) (jp (Bf i) (jbd rfl rfl (jbs rfl rfl λb4=>(BC eP.symm ?_))));have hx:BY R1 (A ++ ((b4,C AS (eRg (Dn (i:Int)))) :: (D ++ F))) (some ⟨b4,0,none⟩) (1 * 5) [eRg (Dn (i:Int))].flatten:=BY.held (cs:=eRg (Dn (i:Int))) (z_n 5);refine jaw y (XB _) (by intro r hr;rw[dz.1 hr];rfl) rfl rfl rfl δ (by simp only[df,List.length_range,eK];omega) hx λv' A' a1=>(jad (Al A' (G:=D ++ F) (T (k - (i + 1)) _ _ _ Z ⟨rfl,i + 1,v',A',Z,?_,rfl,rfl,rfl⟩)))
  rw[List.range_succ,eS,eS];exact a1
 rintro e R1 D1 ⟨W,v,A,y,hD,he⟩;subst W;refine z_W ?_;rcases y with ⟨h1,_,_⟩ | ⟨b,c,sp,hc,hsp,rfl,rfl⟩
 .have:=congrArg List.length h1;simp at this;omega
 rw[df] at hc ⊢;refine jbd rfl rfl ?_;have hlen:((List.range k).map λj:Nat=>Dn (j:Int)).length = k:=V
 refine BC (f9 _) (CC (r:=0) Z (HA (x:=Dm) Z (DT [(b,C AS (Af eRg (((List.range k).map λj:Nat=>Dn (j:Int)).set 0 Dm) ++ sp))] ?_)));rw[a0];unfold YR;rw[if_neg (by intro hn;have:=congrArg List.length hn;simp at this;omega)];exact⟨_,⟨b,c,sp,by rw[fB];exact hc,by rw[fB],rfl⟩,rfl⟩
theorem XY {w:List Int} {n k:Nat} (h:n + k < w.length):(w.take n ++ List.replicate k 0 ++ w.drop (n + k)).set (n + k) 0 = w.take n ++ List.replicate (k + 1) 0 ++ w.drop (n + (k + 1)):=by
 have l1:(w.take n ++ List.replicate k (0:Int)).length = n + k:=by simp;omega
 rw[fd _ _ Z,l1,Nat.sub_self,dq h,List.set_cons_zero,List.replicate_succ',dm,dm,dm,List.singleton_append,Nat.add_assoc]
def QMk (r:List Int × Bool) (v:Value) (A:Chs):Prop:=if r.2 then ∃sv,XC r.1 sv A/\v = .tuple #[sv,.bool true] else v = .tuple #[SN,.bool false]/\A = []
theorem PH {w:List Int} {n z:Nat} {s:Shp} (h0:fits w.length n (AH s) = true) (j:BN s = true) (Q:AH s = z) :
  CY w n s = ((((w.take n ++ List.replicate z 0 ++ w.drop (n + z)).set n (n:Int)).set (n + 1) (AZ s)),true):=by
 obtain⟨H,K,N,O⟩:=FH h0;have G:AH s = 2 + s.refs + s.nums:=by unfold AH;rw[if_pos j]
 have D:0<=s.refs/\0<=s.nums:=by
  unfold BN at j;simp only[z_b,z_d] at j;omega
 unfold CY;rw[if_pos h0];congr 1;unfold Sm.put;obtain⟨x,rfl⟩:∃k,z = k + 2:=⟨z - 2,Z⟩;have y:s.refs.toNat + s.nums.toNat = x:=Z
 have l1:(w.take n).length = n:=by simp;omega
 have A:w.take n ++ List.replicate (x + 2) 0 ++ w.drop (n + (x + 2)) = w.take n ++ (0 :: 0 :: (List.replicate x 0 ++ w.drop (n + (x + 2)))):=by simp[List.replicate_succ]
 rw[y,A,da,fd _ _ Z,l1,Nat.sub_self,List.set_cons_zero,fd _ _ Z,l1,Nat.add_sub_cancel_left];simp[Nat.add_comm,Nat.add_left_comm]
theorem Pz {R:RM} {wv:Value} {w:List Int} (a:Int) (s:Shp) (h:Aw R wv w) (hl:w.length < 1000000) :
  Fn P I4 [wv,I a,eSh s] R [] (λv N A=>N = R/\QMk (CY w a s) v A):=by
 refine NW λF=>?_
 refine z_3 ?_;obtain⟨wa,wc,a8,hr⟩:=Fz.reads (D:=[]) h;refine ja λb1=>?_
 rw[show cl (eSh s) = [I s.refs,I s.nums] from rfl];refine jla (l:=[I s.refs,I s.nums]) V rfl (jp (Cb s) ?_);rw[a8];refine jp (ND wa w.length wc a (AH s) Z) (jif (λh0=>?_) (λh0=>?_))
 .have h0:fits w.length a (AH s) = false:=by simpa using h0
  refine Ao (A:=[]) (RM.le.refl R) ⟨rfl,?_⟩;have:CY w a s = ([],false):=by unfold CY;rw[h0];rfl
  rw[this];exact⟨rfl,rfl⟩
 have h0:fits w.length a (AH s) = true:=by simpa using h0
 obtain⟨a0,a1,a2,a3⟩:=FH h0;have H:BN s = true:=by
  unfold AH at a2;split at a2
  .assumption
  .omega
 have c4:AH s = 2 + s.refs + s.nums:=by unfold AH;rw[if_pos H]
 have c0:0<=s.refs/\0<=s.nums:=by
  unfold BN at H;simp only[z_b,z_d] at H;omega
 obtain⟨n,rfl⟩:∃n:Nat,a = n:=⟨a.toNat,Z⟩;obtain⟨z,hz⟩:∃z:Nat,AH s = z:=⟨(AH s).toNat,Z⟩;have em:=PH h0 H hz;rw[hz] at a1 a2 a3 ⊢;have a4:∀(b c:Nat) (sp:List Value) (E:Chs) (K:Value->M),w.length<=c->sp.length = c - w.length->Sf E F->True:=λ_ _ _ _ _ _ _ _=>trivial
 clear a4;refine jbs (cs:=[]) rfl rfl λb2=>?_
 have b9:w.length≠0:=Z
 have W:∀(b c:Nat) (sp:List Value) (E:Chs),w.length<=c->sp.length = c - w.length->At E b1 (C Hu [I s.refs,I s.nums])->Sf E F->
   J R ((b,C Ad (w.map I ++ sp)) :: E) (CUT [1,5,9] (λJe8=>CUT [1,5,9] (λJe14=>LP [1,5,8,9,10] (λKe15 j=>BO .lss (j 10) (j 8) λb5=>IF b5 (BO .add (j 1) (j 10) λb6=>IA 1 (j 9) b6 λb7=>ST 1 b7 (I 0)<|BO .add (j 10) (I 1) λb8=>Ke15 [(j 1),(j 5),(j 8),(j 9),b8]) (Je14 [(j 1),(j 5),(j 9)])) [I n,Pt b1,I z,S0 b w.length c,(I 0)]) λO=>Je8 [(O 1),(O 5),(O 9)]) λQ=>IA 1 (Q 9) (Q 1) λx9=>ST 1 x9 (Q 1)<|BO .add (Q 1) (I 1) λa9=>LA 2 (Q 5) λb0=>CA P 62 [b0] λb3=>IA 1 (Q 9) a9 λb4=>ST 1 b4 b3<|Fj R F (λv N A=>N = R/\QMk (CY w n s) v A) (.tuple #[(Q 9),(.bool true)])):=by
  intro b c sp E hc hsp ea ef;refine Ab (λvs N D'=>N = R/\∃y:List Int,y = w.take n ++ List.replicate z 0 ++ w.drop (n + z)/\D' = (b,C Ad (y.map I ++ sp)) :: E/\vs = [I n,Pt b1,S0 b w.length c]) (λK hK=>?_) ?_
  .refine jcI hK λK2 a5=>?_
   refine jlp (λm vs N D'=>N = R/\∃(k:Nat) (y:List Int),k<=z/\y = w.take n ++ List.replicate k 0 ++ w.drop (n + k)/\D' = (b,C Ad (y.map I ++ sp)) :: E/\vs = [I n,Pt b1,I z,S0 b w.length c,I k]/\m = z - k)
    (n:=z) ⟨rfl,0,w,Z,V,rfl,rfl,Z⟩ ?_
   rintro m e R1 D1 K3 ⟨hR,k,y,hk,G,hD,he,hm⟩ a6;subst hR;refine z_W ?_;clear hD;have T:y.length = w.length:=by rw[G];simp;omega
   refine jlt (jif (λhc=>?_) (λhc=>?_));rotate_left
   .have hc:k = z:=by have:=z_g hc;omega
    subst hc;exact a5 _ _ _ ⟨rfl,y,G,rfl,rfl⟩
   have hc:k < z:=by have:=z_f hc;omega
   refine jad ?_;rw[show (n:Int) + k = ((n + k:Nat):Int) by omega];refine CC Z (jsi Z (jad (a6 (z - (k + 1)) _ _ _ Z ⟨rfl,k + 1,y.set (n + k) 0,Z,by rw[G];exact XY Z,rfl,rfl,rfl⟩)))
  rintro e R1 D1 ⟨hR,y,G,hD,he⟩;subst hR;refine z_W ?_;clear hD;have T:y.length = w.length:=by rw[G];simp;omega
  refine CC Z (jsi Z (jad (jla (l:=[I s.refs,I s.nums]) V rfl (jp (Ey s) ?_))));rw[show (n:Int) + 1 = ((n + 1:Nat):Int) by omega];refine CC Z (jsi (by rw[fB];omega) (Ao (A:=[(b,C Ad (((y.set n n).set (n + 1) (AZ s)).map I ++ sp))]) (RM.le.refl R1) ⟨rfl,?_⟩));rw[em,G];refine⟨_,⟨b,c,sp,?_,?_,?_,rfl⟩,rfl⟩
  all_goals simp only[fB,<- G,T]
  .exact hc
  .exact hsp
 refine Ww (new:=w.map I) ?_ δ Z (λ_=>rfl) (λh0=>?_) (λb' c hc=>?_)
 .intro h' a7;exact hr h' (St.drop (by simpa using a7))
 .omega
 .exact W b' c _ _ hc (by rw[C4 (w:=1) (by intro x hx;rw[(fE.1 hx).2];rfl)];simp) inferInstance inferInstance
theorem jnc {R:RM} {D:Chs} {b o:Nat} {k:Value->M} (H:J R D (k (.pointer (some ⟨b,o,none⟩)))):J R D (NC (.pointer (some ⟨b,o,none⟩)) k):=H
def wS (S:Sim) (g:Img):Value:=.slice (some ⟨g.wb,0,none⟩) S.AC.length g.wc
def tS (S:Sim) (g:Img):Value:=.slice (some ⟨g.tb,0,none⟩) S.AA.length g.tc
def mS (S:Sim) (g:Img):Value:=.slice (some ⟨g.mb,0,none⟩) S.AQ.length g.mc
def eVw (S:Sim) (g:Img) (av wv thv:Value):List Value:=[wS S g,tS S g,mS S g,I S.Ac,.bool S.stop,.bool S.full,av,wv,thv,g.old,g.AI,I S.BF,I S.BL]
theorem MM {R:RM} {S:Sim} {g:Img} (ok:Ok R S g) {x wv j:Value} (y:flat x = true) (A:flat wv = true) (D:flat j = true):Bz (eVw S g x wv j) = true:=by
 have G:=Fz.flat ok.old;have H:=Fz.flat ok.AI;show (true && (true && (true && (true && (true && (true && (flat x && (flat wv && (flat j && (flat g.old && (flat g.AI && (true && (true && true))))))))))))) = true;rw[y,A,D,G,H];rfl
def Xd (t:Thr):Th:=⟨t.AD,t.next,t.pc != 0,t.Aq⟩
theorem UY {p:Nat} {S:Sim} {g:Img} {R:RM} (x:Ok R S g) (a0:S.sz = true) :
  Fn P Ip [Pt p] R (Ag p S g) (λv O A=>∃rows b0 A',Rw (DE O) rows S.view.AB/\SW 117 4 rows b0 A'/\A = A' ++ Ag p S g/\v = .agg (eSt S.view (wS S g) (tS S g) (mS S g) b0 g.old g.AI).toArray):=by
 refine Su λF=>?_
 refine z_1 ?_;have a0:=H4 a0;have c7:=x.hl;obtain⟨f1,f2,f3⟩:=x.fl;refine ja λy=>(jnc (jfo (jla (by show 4 + 13<=35;omega) rfl (ja λD=>?_))))
 refine js (cs':=eVw S g g.As g.want g.AB) rfl (MM x f1 f2 f3) (by exact z_n 13) rfl (js rfl rfl (by simp[eVw]) rfl (BC (f9 _) (Ab (λvs O D'=>R.le O/\∃rows v A,Rw (DE O) rows (S.th.map Xd)/\SW 117 4 rows v A/\D' = A ++ (D,C AW (eVw S g g.As g.want v)) :: (y,C AW (cl z50)) :: (Ag p S g ++ F)/\vs = [Pt p,Pt y,Pt D]) (λK hK=>?_) ?_)))
 .refine jcI hK λK2 b3=>?_
  refine jlp (λm vs O D'=>R.le O/\∃(i:Nat) (rows:List (List Value)) (v:Value) (A:Chs),i<=S.th.length/\Rw (DE O) rows ((S.th.take i).map Xd)/\SW 117 4 rows v A/\D' = A ++ (D,C AW (eVw S g g.As g.want v)) :: (y,C AW (cl z50)) :: (Ag p S g ++ F)/\vs = [Pt p,Pt y,Pt D,I i]/\m = S.th.length - i)
   (n:=S.th.length) ⟨RM.le.refl R,0,[],SN,[],Z,Rw.nil,.inl ⟨rfl,rfl,rfl⟩,rfl,rfl,Z⟩ ?_
  rintro m e R1 D1 K3 ⟨hR,i,rows,v,A,hi,j,so,hD,he,hm⟩ b5;refine z_W ?_;have c5:=x.le hR;refine jl rfl (jln (jlt (jif (λhc=>?_) (λhc=>?_))));rotate_left
  .have hc:=z_g hc;rw[dh Z] at j;exact b3 _ _ _ ⟨hR,rows,v,A,j,so,rfl,rfl⟩
  have hc:i < S.th.length:=by have:=z_f hc;omega
  have a5:idx S.th i = some (S.th[i]):=by unfold idx;rw[if_pos Z,da,dY hc]
  have a3:=a0.2.2.2.2 _ (dc hc);refine Hc c5 a5 rfl λb a T hv=>?_
  obtain⟨N,sc,W⟩:=so.sl;subst W;have a6:(S.th.take (i + 1)).map Xd = (S.th.take i).map Xd ++ [Xd S.th[i]]:=by
   rw[db hc,eS];rfl
  generalize S.th[i] = t at a5 a3 hv a6 ⊢;refine jfo (jl rfl (jfo (jl rfl (jfo (jl rfl (jfo (jl rfl (jfo (jl rfl (jne (jc (Ca hv a3) ?_)))))))))));rintro _ R2 _ a1 ⟨H,Q,c8,b8,c6,rfl,rfl⟩;refine BE (b:=H) λR3 a2 b7=>?_
  have c0:=CT b7 b8;refine jbd rfl rfl (Ak (jl rfl jev) (Ak (jl rfl jev) (Ak (jl rfl jev) (Ak (jl rfl jev) (jbs rfl rfl λb6=>(Ak (jl rfl jev) (BC (D':=(b6,C 117 [S0 H t.AD.length Q,I t.next,.bool (t.pc != 0),I t.Aq]) :: (b,C Ae (Ax t (.slice a t.AD.length T))) :: (A ++ ((D,C AW (eVw S g g.As g.want (.slice N rows.length sc))) :: (y,C AW (cl z50)) :: (Ag p S g ++ F)))) (f9 _) (Al A (G:=(b6,C 117 [S0 H t.AD.length Q,I t.next,.bool (t.pc != 0),I t.Aq]) :: (b,C Ae (Ax t (.slice a t.AD.length T))) :: (D,C AW (eVw S g g.As g.want (.slice N rows.length sc))) :: (y,C AW (cl z50)) :: (Ag p S g ++ F)) ?_))))))));have hx:BY R3 (A ++ ((b6,C 117 [S0 H t.AD.length Q,I t.next,.bool (t.pc != 0),I t.Aq]) :: (b,C Ae (Ax t (.slice a t.AD.length T))) :: (D,C AW (eVw S g g.As g.want (.slice N rows.length sc))) :: (y,C AW (cl z50)) :: (Ag p S g ++ F))) (some ⟨b6,0,none⟩) (1 * 4) [[S0 H t.AD.length Q,I t.next,.bool (t.pc != 0),I t.Aq]].flatten:=BY.held (cs:=[S0 H t.AD.length Q,I t.next,.bool (t.pc != 0),I t.Aq]) (z_n 4);have b9:=j.1;rw[df,dp] at b9;refine jaw so (j.all λ_ _=>DE.len) (by intro r hr;rw[dz.1 hr];rfl) rfl rfl rfl δ (by rw[eK];omega) hx λv' A' a9=>?_
  obtain⟨a7,a8,a4⟩:=a9.sl;subst a4;refine jS (eVw S g g.As g.want (.slice a7 (rows ++ [[S0 H t.AD.length Q,I t.next,.bool (t.pc != 0),I t.Aq]]).length a8)) (jad (Al A' (G:=(D,C AW (eVw S g g.As g.want (.slice a7 (rows ++ [[S0 H t.AD.length Q,I t.next,.bool (t.pc != 0),I t.Aq]]).length a8))) :: (y,C AW (cl z50)) :: (Ag p S g ++ F)) (b5 (S.th.length - (i + 1)) _ _ _ Z ⟨(hR.trans a1).trans a2,i + 1,_,_,A',Z,?_,a9,rfl,rfl,rfl⟩)));rw[a6];exact (j.mono λ_ _=>DE.le (a1.trans a2)).app (Rw.one ⟨_,rfl,c0⟩)
 rintro e R1 D1 ⟨hR,rows,v,A,j,so,hD,he⟩;refine z_W ?_;obtain⟨N,sc,W⟩:=so.sl;subst W;refine jl rfl (jS (eVw S g (.bool S.col.As) g.want (.slice N rows.length sc)) (jl rfl (js rfl rfl (by simp[eVw]) rfl (jla (by exact z_n 13) rfl ?_))));refine js rfl (MM x rfl rfl rfl) (by exact z_n 13) rfl (jla (by exact z_n 13) rfl (BC (D':=(A ++ Ag p S g) ++ ((D,C AW (eVw S g (.bool S.col.As) (I S.col.want) (.slice N rows.length sc))) :: (y,C AW (eVw S g (.bool S.col.As) (I S.col.want) (.slice N rows.length sc))) :: F)) ?_ ?_))
 .rw[dm];exact (gA [_,_] (Ag p S g) F).append_left A
 exact Ao hR ⟨rows,.slice N rows.length sc,A,j,so,rfl,rfl⟩
theorem aY {p:Nat} {S:Sim} {g:Img} {R:RM} (G:Ok R S g) (H:S.sz = true) :
  Fn P Ip [Pt p] R (Ag p S g) (λv D A=>R.le D/\A = Ag p S g/\∃j,Ths D j S.view.AB/\v = .agg (eSt S.view (wS S g) (tS S g) (mS S g) j g.old g.AI).toArray):=by
 intro F h Q;refine Fq ?_ (UY G H F h Q);rintro v O ⟨D,A,K,N,rows,j,W,y,T,rfl,rfl⟩;rw[dm] at N;refine (jfw T (y.all λ_ _=>DE.len) λR2 x hfz=>(Ao (K.trans x) ⟨K.trans x,rfl,j,⟨rows,y.mono λ_ _=>DE.le x,hfz⟩,rfl⟩)) O N
theorem Dj {R:RM} {D:Chs} {a:M} (h:J R D a):J R D (ALL [a]):=h
theorem Eg {R:RM} {D:Chs} {a b:M} {r:List M} (h:J R D a) (y:J R D (ALL (b :: r))):J R D (ALL (a :: b :: r)):=λj x=>⟨h j x,y j x⟩
def eNw (w:Value) (tv:Value) (m:Value) (thv:Value):List Value:=[w,tv,m,I 0,.bool false,.bool false,.bool false,I 0,thv,SN,SN,I 0,I 0]
def Bi (c:Cfg):List Int:=(CY (List.replicate (c.AG.toNat * 16) 0) 16 Bv).1
theorem ML {c:Cfg} (h:Bg c = true):(CY (List.replicate (c.AG.toNat * 16) 0) 16 Bv).2 = true/\(Bi c).length = c.AG.toNat * 16:=by
 unfold Bg at h;simp only[z_b,z_d] at h;have j:fits (c.AG.toNat * 16) 16 (AH Bv) = true:=by
  have e:AH Bv = 8:=δ
  rw[e];unfold fits BM AM;simp only[z_b,z_d,beq_iff_eq];refine⟨⟨⟨⟨⟨⟨⟨Z,Z⟩,Z⟩,Z⟩,Z⟩,Z⟩,Z⟩,δ⟩
 unfold Bi CY;rw[dw,if_pos j];refine⟨rfl,?_⟩;unfold Sm.put;have:Bv.refs.toNat + Bv.nums.toNat = 6:=δ
 simp only[de,dp,dw,fA,dl,fP,this];omega
theorem Sb {R:RM} {c:Cfg} (hc:Bg c = true) :
  Fn P JV [.agg #[I c.AG,I c.AB,I c.AV]] R [] (λv R' A=>∃y T wsp D O tsp j a9,(Bi c).length<=T/\(AY c.AG).length<=O/\Ths R' a9 (List.replicate c.AB.toNat ⟨[16],0,false,0⟩)/\
   A = [(y,C Ad ((Bi c).map I ++ wsp)),(D,C AS (Af eRg (AU (AY c.AG) 1 ⟨3,-1,24,24,0⟩) ++ tsp)),(j,C Az ((List.replicate (c.AG.toNat * 16) false).map Value.bool))]/\
   v = .tuple #[.agg (eNw (S0 y (Bi c).length T) (S0 D (AY c.AG).length O) (S0 j (c.AG.toNat * 16) (c.AG.toNat * 16)) a9).toArray,.bool true]):=by
 refine Pj λF=>?_
 refine z_1 ?_;have a3:=hc;unfold Bg at hc;simp only[z_b,z_d] at hc;refine ja λb1=>?_
 rw[show cl (.agg #[I c.AG,I c.AB,I c.AV]) = [I c.AG,I c.AB,I c.AV] from rfl];refine ja λb2=>?_
 refine jla V rfl ?_;refine jp (NG c) ?_;rw[a3];refine CK (jfo (jl rfl ?_));refine jmk (NN c.AG) ?_;intro v N hq;unfold YR at hq;have a5:(AY c.AG).length = c.AG.toNat:=by
  unfold AY;rw[if_neg Z];simp;omega
 rw[if_neg (by intro hn;rw[hn] at a5;simp at a5;omega)] at hq;obtain⟨sv,⟨D,O,tsp,c5,rfl,rfl⟩,rfl⟩:=hq;refine jex rfl (jex rfl ?_);have Q:(c.AG * 16).toNat = c.AG.toNat * 16:=Z
 refine Ab (λvs R' D'=>R' = R/\∃y j H,D' = (H,C AW (eNw (S0 y (c.AG.toNat * 16) (c.AG.toNat * 16)) (S0 D (AY c.AG).length O) (S0 j (c.AG.toNat * 16) (c.AG.toNat * 16)) (SN))) ::
   (y,C Ad ((List.replicate (c.AG.toNat * 16) [I 0]).flatten)) :: (j,C Az ((List.replicate (c.AG.toNat * 16) [Value.bool false]).flatten)) ::
   (D,C AS (Af eRg (AY c.AG) ++ tsp)) :: (b2,C AW (cl z50)) :: (b1,C 24 [I c.AG,I c.AB,I c.AV]) :: F/\vs = [Pt b1,Pt b2,Pt H]) (λK hK=>?_) ?_
 .refine jfo (jl rfl (Ha ⟨Z,Z⟩ (jfo (jl rfl (Ha ⟨Z,Z⟩ ?_)))));refine Eg ?_ (Eg ?_ (Dj ?_))
  .refine jms Z Z Z λy=>?_
   rw[Q];refine Ak (jl rfl jev) ?_;refine Eg ?_ (Dj ?_)
   .refine jms Z Z Z λj=>?_
    rw[Q];refine jbd rfl rfl ?_;refine ja λH=>?_
    refine jS ((eNw (S0 y (c.AG.toNat * 16) (c.AG.toNat * 16)) (S0 D (AY c.AG).length O) (S0 j (c.AG.toNat * 16) (c.AG.toNat * 16)) (SN))) ?_;refine Al [(H,C AW (eNw (S0 y (c.AG.toNat * 16) (c.AG.toNat * 16)) (S0 D (AY c.AG).length O) (S0 j (c.AG.toNat * 16) (c.AG.toNat * 16)) (SN))),(y,C Ad ((List.replicate (c.AG.toNat * 16) [I 0]).flatten)),(j,C Az ((List.replicate (c.AG.toNat * 16) [Value.bool false]).flatten))] (G:=[(D,C AS (Af eRg (AY c.AG) ++ tsp))] ++ (b2,C AW (cl z50)) :: (b1,C 24 [I c.AG,I c.AB,I c.AV]) :: ([] ++ F)) ?_;exact hK _ _ _ ⟨rfl,y,j,H,rfl,rfl⟩
   .refine ja λH=>?_
    refine Ak (jl rfl jev) ?_;refine jms Z Z Z λj=>?_
    rw[Q];refine jbd rfl rfl ?_;refine jS ((eNw (S0 y (c.AG.toNat * 16) (c.AG.toNat * 16)) (S0 D (AY c.AG).length O) (S0 j (c.AG.toNat * 16) (c.AG.toNat * 16)) (SN))) ?_;refine Al [(H,C AW (eNw (S0 y (c.AG.toNat * 16) (c.AG.toNat * 16)) (S0 D (AY c.AG).length O) (S0 j (c.AG.toNat * 16) (c.AG.toNat * 16)) (SN))),(y,C Ad ((List.replicate (c.AG.toNat * 16) [I 0]).flatten)),(j,C Az ((List.replicate (c.AG.toNat * 16) [Value.bool false]).flatten))] (G:=[(D,C AS (Af eRg (AY c.AG) ++ tsp))] ++ (b2,C AW (cl z50)) :: (b1,C 24 [I c.AG,I c.AB,I c.AV]) :: ([] ++ F)) ?_;exact hK _ _ _ ⟨rfl,y,j,H,rfl,rfl⟩
  .refine jms Z Z Z λj=>?_
   rw[Q];refine Ak (jl rfl jev) ?_;refine Eg ?_ (Dj ?_)
   .refine jms Z Z Z λy=>?_
    rw[Q];refine jbd rfl rfl ?_;refine ja λH=>?_
    refine jS ((eNw (S0 y (c.AG.toNat * 16) (c.AG.toNat * 16)) (S0 D (AY c.AG).length O) (S0 j (c.AG.toNat * 16) (c.AG.toNat * 16)) (SN))) ?_;refine Al [(H,C AW (eNw (S0 y (c.AG.toNat * 16) (c.AG.toNat * 16)) (S0 D (AY c.AG).length O) (S0 j (c.AG.toNat * 16) (c.AG.toNat * 16)) (SN))),(y,C Ad ((List.replicate (c.AG.toNat * 16) [I 0]).flatten)),(j,C Az ((List.replicate (c.AG.toNat * 16) [Value.bool false]).flatten))] (G:=[(D,C AS (Af eRg (AY c.AG) ++ tsp))] ++ (b2,C AW (cl z50)) :: (b1,C 24 [I c.AG,I c.AB,I c.AV]) :: ([] ++ F)) ?_;exact hK _ _ _ ⟨rfl,y,j,H,rfl,rfl⟩
   .refine ja λH=>?_
    refine Ak (jl rfl jev) ?_;refine jms Z Z Z λy=>?_
    rw[Q];refine jbd rfl rfl ?_;refine jS ((eNw (S0 y (c.AG.toNat * 16) (c.AG.toNat * 16)) (S0 D (AY c.AG).length O) (S0 j (c.AG.toNat * 16) (c.AG.toNat * 16)) (SN))) ?_;refine Al [(H,C AW (eNw (S0 y (c.AG.toNat * 16) (c.AG.toNat * 16)) (S0 D (AY c.AG).length O) (S0 j (c.AG.toNat * 16) (c.AG.toNat * 16)) (SN))),(y,C Ad ((List.replicate (c.AG.toNat * 16) [I 0]).flatten)),(j,C Az ((List.replicate (c.AG.toNat * 16) [Value.bool false]).flatten))] (G:=[(D,C AS (Af eRg (AY c.AG) ++ tsp))] ++ (b2,C AW (cl z50)) :: (b1,C 24 [I c.AG,I c.AB,I c.AV]) :: ([] ++ F)) ?_;exact hK _ _ _ ⟨rfl,y,j,H,rfl,rfl⟩
  .refine ja λH=>?_
   refine Ak (jl rfl jev) (Ak (jl rfl jev) ?_);refine Eg ?_ (Dj ?_)
   .refine jms Z Z Z λy=>?_
    rw[Q];refine Ak (jl rfl jev) ?_;refine jms Z Z Z λj=>?_
    rw[Q];refine jbd rfl rfl ?_;refine jS ((eNw (S0 y (c.AG.toNat * 16) (c.AG.toNat * 16)) (S0 D (AY c.AG).length O) (S0 j (c.AG.toNat * 16) (c.AG.toNat * 16)) (SN))) ?_;refine Al [(H,C AW (eNw (S0 y (c.AG.toNat * 16) (c.AG.toNat * 16)) (S0 D (AY c.AG).length O) (S0 j (c.AG.toNat * 16) (c.AG.toNat * 16)) (SN))),(y,C Ad ((List.replicate (c.AG.toNat * 16) [I 0]).flatten)),(j,C Az ((List.replicate (c.AG.toNat * 16) [Value.bool false]).flatten))] (G:=[(D,C AS (Af eRg (AY c.AG) ++ tsp))] ++ (b2,C AW (cl z50)) :: (b1,C 24 [I c.AG,I c.AB,I c.AV]) :: ([] ++ F)) ?_;exact hK _ _ _ ⟨rfl,y,j,H,rfl,rfl⟩
   .refine jms Z Z Z λj=>?_
    rw[Q];refine Ak (jl rfl jev) ?_;refine jms Z Z Z λy=>?_
    rw[Q];refine jbd rfl rfl ?_;refine jS ((eNw (S0 y (c.AG.toNat * 16) (c.AG.toNat * 16)) (S0 D (AY c.AG).length O) (S0 j (c.AG.toNat * 16) (c.AG.toNat * 16)) (SN))) ?_;refine Al [(H,C AW (eNw (S0 y (c.AG.toNat * 16) (c.AG.toNat * 16)) (S0 D (AY c.AG).length O) (S0 j (c.AG.toNat * 16) (c.AG.toNat * 16)) (SN))),(y,C Ad ((List.replicate (c.AG.toNat * 16) [I 0]).flatten)),(j,C Az ((List.replicate (c.AG.toNat * 16) [Value.bool false]).flatten))] (G:=[(D,C AS (Af eRg (AY c.AG) ++ tsp))] ++ (b2,C AW (cl z50)) :: (b1,C 24 [I c.AG,I c.AB,I c.AV]) :: ([] ++ F)) ?_;exact hK _ _ _ ⟨rfl,y,j,H,rfl,rfl⟩
 rintro e Rz D1 ⟨hR,a2,j,H,hD,he⟩;subst hR;refine z_W ?_;have c9:(List.replicate (c.AG.toNat * 16) [I 0]).flatten = (List.replicate (c.AG.toNat * 16) (0:Int)).map I ++ []:=by simp[gY]
 have c7:(List.replicate (c.AG.toNat * 16) [Value.bool false]).flatten = (List.replicate (c.AG.toNat * 16) false).map Value.bool:=by simp[gY]
 rw[c9,c7];refine BE (b:=a2) λR2 b4 c0=>?_
 have d2:Aw R2 (S0 a2 (c.AG.toNat * 16) (c.AG.toNat * 16)) (List.replicate (c.AG.toNat * 16) 0):=by
  have:=CT (c:=c.AG.toNat * 16) c0 V;rw[dw] at this;exact this
 refine jbd rfl rfl (ja λb7=>?_);refine js (cs':=[I 4,I 2]) rfl rfl V rfl ?_;refine jfo (jl rfl ?_);refine jla V rfl ?_;refine jc (Pz 16 Bv d2 (by rw[dw];omega)) ?_;rintro v3 R3 A3 a0 ⟨b5,hq⟩;subst b5;obtain⟨d3,e2⟩:=ML a3;unfold QMk at hq;rw[if_pos d3] at hq;obtain⟨sv,⟨y,T,wsp,c6,d4,rfl,rfl⟩,rfl⟩:=hq;refine jex rfl (jex rfl ?_);refine jfo (js rfl rfl (by simp[eNw]) rfl ?_);refine jla (l:=[I 4,I 2]) V rfl (jp (Cb Bv) (Cw ⟨δ,δ⟩ ?_));rw[show (16:Int) + AH Bv = 24 by decide];refine jfo (jl rfl ?_);refine jbd rfl rfl ?_;refine CC (r:=1) Z (HA (x:=⟨3,-1,24,24,0⟩) Z ?_);refine BC (D':=(y,C Ad ((Bi c).map I ++ wsp)) :: (b7,C 68 [I 4,I 2]) :: (H,C AW (eNw (S0 y (Bi c).length T) (S0 D (AY c.AG).length O) (S0 j (c.AG.toNat * 16) (c.AG.toNat * 16)) (SN))) :: (j,C Az ((List.replicate (c.AG.toNat * 16) false).map Value.bool)) :: (D,C AS (Af eRg (AU (AY c.AG) 1 ⟨3,-1,24,24,0⟩) ++ tsp)) :: (b2,C AW (cl z50)) :: (b1,C 24 [I c.AG,I c.AB,I c.AV]) :: F) (f9 _) ?_;refine Al [(H,C AW (eNw (S0 y (Bi c).length T) (S0 D (AY c.AG).length O) (S0 j (c.AG.toNat * 16) (c.AG.toNat * 16)) (SN))),(b1,C 24 [I c.AG,I c.AB,I c.AV]),(b2,C AW (cl z50)),(y,C Ad ((Bi c).map I ++ wsp)),(D,C AS (Af eRg (AU (AY c.AG) 1 ⟨3,-1,24,24,0⟩) ++ tsp)),(j,C Az ((List.replicate (c.AG.toNat * 16) false).map Value.bool))] (G:=F) ?_;generalize hE:(b1,C 24 [I c.AG,I c.AB,I c.AV]) :: (b2,C AW (cl z50)) :: ([(y,C Ad ((Bi c).map I ++ wsp)),(D,C AS (Af eRg (AU (AY c.AG) 1 ⟨3,-1,24,24,0⟩) ++ tsp)),(j,C Az ((List.replicate (c.AG.toNat * 16) false).map Value.bool))] ++ F) = E;have e1:At E b1 (C 24 [I c.AG,I c.AB,I c.AV]):=by rw[<- hE];exact inferInstance
 refine BC (D':=(H,C AW (eNw (S0 y (Bi c).length T) (S0 D (AY c.AG).length O) (S0 j (c.AG.toNat * 16) (c.AG.toNat * 16)) (SN))) :: E) (by rw[<- hE];exact f9 _) ?_;obtain⟨n,hn⟩:∃n:Nat,c.AB = n:=⟨c.AB.toNat,Z⟩;refine Ab (λvs R' D'=>Rz.le R'/\∃rows v A,Rw (DE R') rows (List.replicate n ⟨[16],0,false,0⟩)/\SW 117 4 rows v A/\D' = A ++ (H,C AW (eNw (S0 y (Bi c).length T) (S0 D (AY c.AG).length O) (S0 j (c.AG.toNat * 16) (c.AG.toNat * 16)) v)) :: E/\vs = [Pt b2,Pt H]) (λK hK=>?_) ?_
 .refine jcI hK λK2 b0=>?_
  refine jlp (λm vs R' D'=>Rz.le R'/\∃(i:Nat) (rows:List (List Value)) (v:Value) (A:Chs),i<=n/\Rw (DE R') rows (List.replicate i ⟨[16],0,false,0⟩)/\SW 117 4 rows v A/\D' = A ++ (H,C AW (eNw (S0 y (Bi c).length T) (S0 D (AY c.AG).length O) (S0 j (c.AG.toNat * 16) (c.AG.toNat * 16)) v)) :: E/\vs = [Pt b1,Pt b2,Pt H,I i]/\m = n - i)
   (n:=n) ⟨b4,0,[],SN,[],Z,Rw.nil,.inl ⟨rfl,rfl,rfl⟩,rfl,rfl,Z⟩ ?_
  rintro m e R1 D1 K3 ⟨hR,i,rows,v,A,hi,W,so,hD,he,hm⟩ b3;refine z_W ?_;refine jfo (jl rfl (jlt (jif (λhd=>?_) (λhd=>?_))));rotate_left
  .have hd:i = n:=by have:=z_g hd;omega
   subst hd;exact b0 _ _ _ ⟨hR,rows,v,A,W,so,rfl,rfl⟩
  have hd:i < n:=by have:=z_f hd;omega
  obtain⟨sa,sc,a1⟩:=so.sl;subst a1;refine jfo (jl rfl ?_);refine jbs rfl rfl λb8=>?_
  refine BE (b:=b8) λR3 a0 c4=>?_
  have d1:Aw R3 (S0 b8 1 1) [16]:=CT (l:=[16]) (sp:=[]) (c:=1) c4 V;refine jbd (cs:=[S0 b8 1 1,I 0,.bool false,I 0]) rfl rfl ?_;refine jbs (cs:=[S0 b8 1 1,I 0,.bool false,I 0]) rfl rfl λb9=>?_
  refine Al A (G:=(b9,C 117 [S0 b8 1 1,I 0,.bool false,I 0]) :: (H,C AW (eNw (S0 y (Bi c).length T) (S0 D (AY c.AG).length O) (S0 j (c.AG.toNat * 16) (c.AG.toNat * 16)) (.slice sa rows.length sc))) :: E) ?_;have hx:BY R3 (A ++ ((b9,C 117 [S0 b8 1 1,I 0,.bool false,I 0]) :: (H,C AW (eNw (S0 y (Bi c).length T) (S0 D (AY c.AG).length O) (S0 j (c.AG.toNat * 16) (c.AG.toNat * 16)) (.slice sa rows.length sc))) :: E)) (some ⟨b9,0,none⟩) (1 * 4) [[S0 b8 1 1,I 0,.bool false,I 0]].flatten:=BY.held (t:=117) (cs:=[S0 b8 1 1,I 0,.bool false,I 0]) (o:=0) (n:=1 * 4) (z_n 4);have c8:=W.1;rw[dw] at c8;refine jaw so (W.all λ_ _=>DE.len) (by intro r hr;rw[dz.1 hr];rfl) rfl rfl rfl δ (by rw[eK];omega) hx λv' A' a8=>?_
  obtain⟨a6,a7,a4⟩:=a8.sl;subst a4;refine jfo (jS (eNw (S0 y (Bi c).length T) (S0 D (AY c.AG).length O) (S0 j (c.AG.toNat * 16) (c.AG.toNat * 16)) (.slice a6 (rows ++ [[S0 b8 1 1,I 0,.bool false,I 0]]).length a7)) ?_);refine jad ?_;refine Al A' (G:=(H,C AW (eNw (S0 y (Bi c).length T) (S0 D (AY c.AG).length O) (S0 j (c.AG.toNat * 16) (c.AG.toNat * 16)) (.slice a6 (rows ++ [[S0 b8 1 1,I 0,.bool false,I 0]]).length a7))) :: E) ?_;refine b3 (n - (i + 1)) _ _ _ Z ⟨hR.trans a0,i + 1,_,_,A',Z,?_,a8,rfl,rfl,rfl⟩;rw[List.replicate_succ'];exact (W.mono λ_ _=>DE.le a0).app (Rw.one ⟨_,rfl,d1⟩)
 rintro e R1 D1 ⟨hR,rows,v,A,W,so,hD,he⟩;refine z_W ?_;obtain⟨sa,sc,a1⟩:=so.sl;subst a1;refine jfw so (W.all λ_ _=>DE.len) λR3 a0 hfz=>?_
 subst hE;refine jla (l:=eNw (S0 y (Bi c).length T) (S0 D (AY c.AG).length O) (S0 j (c.AG.toNat * 16) (c.AG.toNat * 16)) (.slice sa rows.length sc)) (by exact z_n 13) rfl ?_;refine jS (eNw (S0 y (Bi c).length T) (S0 D (AY c.AG).length O) (S0 j (c.AG.toNat * 16) (c.AG.toNat * 16)) (.slice sa rows.length sc)) ?_;refine jla (l:=eNw (S0 y (Bi c).length T) (S0 D (AY c.AG).length O) (S0 j (c.AG.toNat * 16) (c.AG.toNat * 16)) (.slice sa rows.length sc)) (by exact z_n 13) rfl ?_;refine Ao (A:=[(y,C Ad ((Bi c).map I ++ wsp)),(D,C AS (Af eRg (AU (AY c.AG) 1 ⟨3,-1,24,24,0⟩) ++ tsp)),(j,C Az ((List.replicate (c.AG.toNat * 16) false).map Value.bool))]) (hR.trans a0) ⟨y,T,wsp,D,O,tsp,j,.slice sa rows.length sc,c6,c5,⟨rows,?_,hfz⟩,rfl,rfl⟩;rw[hn,da];exact W.mono λ_ _=>DE.le a0
theorem UZ {α β γ:Type} {f:α->β->γ} {a:α}:∀(l:List β),List.zipWith f (List.replicate l.length a) l = l.map (f a)
 | []=>rfl
 | b :: r=>by rw[dl,List.replicate_succ,List.zipWith_cons_cons,UZ r,eX]
def eBg (c:Cfg) (pv w tv m thv v:Value):List Value:=I c.AG :: I c.AB :: I c.AV :: pv :: (eNw w tv m thv ++ v :: (BW (De false 0) (SN) ++ [SN,.bool false]))
theorem OT {R:RM} {c:Cfg} {pv:Value} {Aa:List (List Sm.Op)} (hc:Bg c = true) (hp:FC R pv Aa) :
  Fn P Ko [.agg #[I c.AG,I c.AB,I c.AV],pv] R [] (λv R' A=>∃p g,v = Pt p/\A = Ag p (Sm.start c Aa) g/\Ok R' (Sm.start c Aa) g):=by
 refine RV λF=>?_
 refine z_2 ?_;have b5:=hc;unfold Bg at hc;simp only[z_b,z_d] at hc;obtain⟨g0,e6,-,-⟩:=id hp;obtain⟨W,pc,e7⟩:=e6.sl;refine ja λb1=>?_
 rw[show cl (.agg #[I c.AG,I c.AB,I c.AV]) = [I c.AG,I c.AB,I c.AV] from rfl];refine jla V rfl ?_;refine jc (Sb b5) ?_;rintro v1 R1 A1 a9 ⟨N,Q,wsp,H,O,tsp,D,g2,e5,f1,a6,rfl,rfl⟩;obtain⟨T,y,e9⟩:=a6.sl;subst e7 e9;refine jex rfl (jex rfl (ja λb2=>(jS (eNw (S0 N (Bi c).length Q) (S0 H (AY c.AG).length O) (S0 D (c.AG.toNat * 16) (c.AG.toNat * 16)) (.slice T (List.replicate c.AB.toNat (⟨[16],0,false,0⟩:Th)).length y)) (jla V rfl (jla (by exact z_n 13) rfl (jbd (cs:=eBg c (.slice W Aa.length pc) (S0 N (Bi c).length Q) (S0 H (AY c.AG).length O) (S0 D (c.AG.toNat * 16) (c.AG.toNat * 16)) (.slice T (List.replicate c.AB.toNat (⟨[16],0,false,0⟩:Th)).length y) (SN)) rfl rfl (ja λp=>?_)))))));generalize hE:(b2,C AW (eNw (S0 N (Bi c).length Q) (S0 H (AY c.AG).length O) (S0 D (c.AG.toNat * 16) (c.AG.toNat * 16)) (.slice T (List.replicate c.AB.toNat (⟨[16],0,false,0⟩:Th)).length y))) :: ([(N,C Ad ((Bi c).map I ++ wsp)),(H,C AS (Af eRg (AU (AY c.AG) 1 ⟨3,-1,24,24,0⟩) ++ tsp)),(D,C Az ((List.replicate (c.AG.toNat * 16) false).map Value.bool))] ++ (b1,C 24 [I c.AG,I c.AB,I c.AV]) :: ([] ++ F)) = E;have f4:At E b1 (C 24 [I c.AG,I c.AB,I c.AV]):=by rw[<- hE];exact inferInstance
 have f5:At E b2 (C AW (eNw (S0 N (Bi c).length Q) (S0 H (AY c.AG).length O) (S0 D (c.AG.toNat * 16) (c.AG.toNat * 16)) (.slice T (List.replicate c.AB.toNat (⟨[16],0,false,0⟩:Th)).length y))):=by rw[<- hE];exact inferInstance
 refine BC (D':=(p,C CH (eBg c (.slice W Aa.length pc) (S0 N (Bi c).length Q) (S0 H (AY c.AG).length O) (S0 D (c.AG.toNat * 16) (c.AG.toNat * 16)) (.slice T (List.replicate c.AB.toNat (⟨[16],0,false,0⟩:Th)).length y) (SN))) :: E) (by rw[<- hE]) ?_;obtain⟨n,hn⟩:∃n:Nat,c.AB = n:=⟨c.AB.toNat,Z⟩;have c5:∀(l:List Value),∀r∈l.map (Ax (thr0 [16] 0 0)),r.length = 17:=λl r hr=>by
  obtain⟨x,_,rfl⟩:=eE.1 hr;rfl
 refine Ab (λvs R' D'=>R1.le R'/\∃(j:List Value) (v:Value) (A:Chs),j.length = n/\(∀x∈j,Aw R' x [16])/\SW 183 17 (j.map (Ax (thr0 [16] 0 0))) v A/\D' = A ++ (p,C CH (eBg c (.slice W Aa.length pc) (S0 N (Bi c).length Q) (S0 H (AY c.AG).length O) (S0 D (c.AG.toNat * 16) (c.AG.toNat * 16)) (.slice T (List.replicate c.AB.toNat (⟨[16],0,false,0⟩:Th)).length y) v)) :: E/\vs = [Pt p]) (λK hK=>?_) ?_
 .refine jcI hK λK2 d1=>?_
  refine jlp (λm vs R' D'=>∃i:Nat,i<=n/\m = n - i/\R1.le R'/\∃(j:List Value) (v:Value) (A:Chs),j.length = i/\(∀x∈j,Aw R' x [16])/\SW 183 17 (j.map (Ax (thr0 [16] 0 0))) v A/\D' = A ++ (p,C CH (eBg c (.slice W Aa.length pc) (S0 N (Bi c).length Q) (S0 H (AY c.AG).length O) (S0 D (c.AG.toNat * 16) (c.AG.toNat * 16)) (.slice T (List.replicate c.AB.toNat (⟨[16],0,false,0⟩:Th)).length y) v)) :: E/\vs = [Pt b1,Pt b2,Pt p,I i])
   (n:=n) ⟨0,Z,Z,RM.le.refl R1,[],SN,[],rfl,(λx hx=>by cases hx),.inl ⟨rfl,rfl,rfl⟩,rfl,rfl⟩ ?_
  rintro m e R2 D1 K3 ⟨i,hi,hm,hR,j,v,A,hl,a3,so,hD,he⟩ d2;refine z_W ?_;refine jfo (jl rfl (jlt (jif (λhd=>?_) (λhd=>?_))));rotate_left
  .have hd:i = n:=by have:=z_g hd;omega
   subst hd;exact d1 _ _ _ ⟨hR,j,v,A,hl,a3,so,rfl,rfl⟩
  have hd:i < n:=by have:=z_f hd;omega
  obtain⟨sa,sc,e8⟩:=so.sl;subst e8;rw[df];refine jnc (jfo (jl rfl (jfo (jl rfl (jtr (a6.le hR) (by rw[dw];omega) λb3 o3 ty cs rv a4 d3 f6 a0=>?_)))));rw[List.getElem_replicate] at a4 a0;refine jfo (jlr d3 (Bt a0 rfl) (jc (Ca a4 δ) ?_));rintro _ R3 _ b0 ⟨b8,c8,g1,e4,f3,rfl,rfl⟩;refine BE (b:=b8) λR4 b4 d4=>?_
  have f0:Aw R4 (S0 b8 1 c8) [16]:=CT d4 e4;refine jbd rfl rfl (Ak (jl rfl jev) (jbs rfl rfl λb9=>(Ak (jl rfl jev) (BC (D':=(b9,C 183 (Ax (thr0 [16] 0 0) (S0 b8 1 c8))) :: (A ++ (p,C CH (eBg c (.slice W Aa.length pc) (S0 N (Bi c).length Q) (S0 H (AY c.AG).length O) (S0 D (c.AG.toNat * 16) (c.AG.toNat * 16)) (.slice T (List.replicate c.AB.toNat (⟨[16],0,false,0⟩:Th)).length y) (.slice sa j.length sc))) :: E)) (f9 _) (Al A (G:=(b9,C 183 (Ax (thr0 [16] 0 0) (S0 b8 1 c8))) :: (p,C CH (eBg c (.slice W Aa.length pc) (S0 N (Bi c).length Q) (S0 H (AY c.AG).length O) (S0 D (c.AG.toNat * 16) (c.AG.toNat * 16)) (.slice T (List.replicate c.AB.toNat (⟨[16],0,false,0⟩:Th)).length y) (.slice sa j.length sc))) :: E) ?_)))));have hx:BY R4 (A ++ ((b9,C 183 (Ax (thr0 [16] 0 0) (S0 b8 1 c8))) :: (p,C CH (eBg c (.slice W Aa.length pc) (S0 N (Bi c).length Q) (S0 H (AY c.AG).length O) (S0 D (c.AG.toNat * 16) (c.AG.toNat * 16)) (.slice T (List.replicate c.AB.toNat (⟨[16],0,false,0⟩:Th)).length y) (.slice sa j.length sc))) :: E)) (some ⟨b9,0,none⟩) (1 * 17) [(Ax (thr0 [16] 0 0) (S0 b8 1 c8))].flatten:=BY.held (cs:=(Ax (thr0 [16] 0 0) (S0 b8 1 c8))) (z_n 17);rw[df] at so;refine jaw so (c5 _) (by intro r hr;rw[dz.1 hr];rfl) rfl rfl rfl δ (by rw[eK,df];omega) hx λv' A' a7=>?_
  obtain⟨c0,c4,a5⟩:=a7.sl;have em:j.map (Ax (thr0 [16] 0 0)) ++ [(Ax (thr0 [16] 0 0) (S0 b8 1 c8))] = (j ++ [S0 b8 1 c8]).map (Ax (thr0 [16] 0 0)):=by rw[eS];rfl
  rw[em] at a7 a5;subst a5;refine jnc (jfo (js (cs':=eBg c (.slice W Aa.length pc) (S0 N (Bi c).length Q) (S0 H (AY c.AG).length O) (S0 D (c.AG.toNat * 16) (c.AG.toNat * 16)) (.slice T (List.replicate c.AB.toNat (⟨[16],0,false,0⟩:Th)).length y) (.slice c0 ((j ++ [S0 b8 1 c8]).map (Ax (thr0 [16] 0 0))).length c4)) rfl rfl (by simp[eBg,eNw,BW]) rfl (jad (Al A' (G:=(p,C CH (eBg c (.slice W Aa.length pc) (S0 N (Bi c).length Q) (S0 H (AY c.AG).length O) (S0 D (c.AG.toNat * 16) (c.AG.toNat * 16)) (.slice T (List.replicate c.AB.toNat (⟨[16],0,false,0⟩:Th)).length y) (.slice c0 ((j ++ [S0 b8 1 c8]).map (Ax (thr0 [16] 0 0))).length c4))) :: E) (d2 (n - (i + 1)) _ _ _ Z ⟨i + 1,Z,rfl,(hR.trans b0).trans b4,j ++ [S0 b8 1 c8],_,A',by rw[de,hl];rfl,?_,a7,rfl,rfl⟩)))));intro x hx;rcases eI.1 hx with hx | hx
  .exact (a3 x hx).le (b0.trans b4)
  .rw[dz.1 hx];exact f0
 rintro e R2 D1 ⟨hR,j,v,A,hl,a3,so,hD,he⟩;refine z_W ?_;rcases so with ⟨h1,_,_⟩ | ⟨hb,a2,hsp,b6,f2,rfl,rfl⟩
 .have:=congrArg List.length h1;rw[df,fP] at this;omega
 rw[df] at b6 ⊢;subst hE
 let g:Img:={ Aa:=.slice W Aa.length pc,wb:=N,wc:=Q,wsp:=wsp,tb:=H,tc:=O,tsp:=tsp,mb:=D,mc:=c.AG.toNat * 16,msp:=[],As:=.bool false,want:=I 0,AB:=.slice T (List.replicate c.AB.toNat (⟨[16],0,false,0⟩:Th)).length y,old:=SN,AI:=SN,hb:=hb,hc:=a2,hsp:=hsp,rv:=j,AR:=SN,ev:=none,esp:=[] }
 have a1:(Sm.start c Aa).th = List.replicate j.length (thr0 [16] 0 0):=by
  rw[hl];show List.replicate c.AB.toNat _ = _;rw[hn,da]
 have c9:Et (Sm.start c Aa).th j = (j.map (Ax (thr0 [16] 0 0))).flatten:=by
  rw[a1];unfold Et;rw[UZ]
 have c7:(AU (AY c.AG) 1 (⟨3,-1,24,24,0⟩:Rg)).length = (AY c.AG).length:=by simp[AU]
 have f8:(AY c.AG).length = c.AG.toNat:=by
  unfold AY;rw[if_neg Z];simp;omega
 have a8:Ch (Sm.start c Aa) g = eBg c (.slice W Aa.length pc) (S0 N (Bi c).length Q) (S0 H (AY c.AG).length O) (S0 D (c.AG.toNat * 16) (c.AG.toNat * 16)) (.slice T (List.replicate c.AB.toNat (⟨[16],0,false,0⟩:Th)).length y) (S0 hb j.length a2):=by
  have e1:(Sm.start c Aa).th.length = j.length:=by rw[a1,dw]
  have e2:(Sm.start c Aa).AA.length = (AY c.AG).length:=c7;have e3:(Sm.start c Aa).AQ.length = c.AG.toNat * 16:=by show (List.replicate _ _).length = _;rw[dw]
  unfold Ch;rw[e1,e2,e3];rfl
 have c6:Ag p (Sm.start c Aa) g = (p,C CH (eBg c (.slice W Aa.length pc) (S0 N (Bi c).length Q) (S0 H (AY c.AG).length O) (S0 D (c.AG.toNat * 16) (c.AG.toNat * 16)) (.slice T (List.replicate c.AB.toNat (⟨[16],0,false,0⟩:Th)).length y) (S0 hb j.length a2))) :: (N,C Ad ((Bi c).map I ++ wsp)) :: (H,C AS (Af eRg (AU (AY c.AG) 1 ⟨3,-1,24,24,0⟩) ++ tsp)) :: (D,C Az ((List.replicate (c.AG.toNat * 16) false).map Value.bool ++ [])) :: (hb,C Ae ((j.map (Ax (thr0 [16] 0 0))).flatten ++ hsp)) :: []:=by
  unfold Ag;rw[a8];show _ :: _ :: _ :: _ :: (hb,C Ae (Et (Sm.start c Aa).th j ++ hsp)) :: [] = _;rw[c9];rfl
 refine Al [(p,C CH (eBg c (.slice W Aa.length pc) (S0 N (Bi c).length Q) (S0 H (AY c.AG).length O) (S0 D (c.AG.toNat * 16) (c.AG.toNat * 16)) (.slice T (List.replicate c.AB.toNat (⟨[16],0,false,0⟩:Th)).length y) (S0 hb j.length a2))),(N,C Ad ((Bi c).map I ++ wsp)),(H,C AS (Af eRg (AU (AY c.AG) 1 ⟨3,-1,24,24,0⟩) ++ tsp)),(D,C Az ((List.replicate (c.AG.toNat * 16) false).map Value.bool)),(hb,C Ae ((j.map (Ax (thr0 [16] 0 0))).flatten ++ hsp))] (G:=F) (BC (D':=Ag p (Sm.start c Aa) g ++ F) (by rw[c6,eh]) (Ao (a9.trans hR) ⟨p,g,rfl,rfl,?_⟩));have b7:=a9.trans hR;refine⟨?_,.inl ⟨rfl,rfl,rfl⟩,.inl ⟨rfl,rfl,rfl⟩,.inl ⟨rfl,rfl,rfl⟩,?_,?_,λ_=>rfl,(λb c h=>by cases h),?_,?_,?_,?_,⟨rfl,rfl,rfl⟩,?_,?_,?_⟩
 .obtain⟨vs,h1,h2,h3⟩:=hp;exact⟨vs,h1.le b7,h2,λi hi=>by obtain⟨x,hx,ho⟩:=h3 i hi;exact⟨x,hx,ho.le b7⟩⟩
 .rw[a1,dw]
 .intro i h h';have e:((Sm.start c Aa).th[i]).AD = [16]:=by
   simp only[a1,List.getElem_replicate];rfl
  rw[e];exact a3 _ (dc h')
 .show (Bi c).length<=1000;rw[(ML b5).2];omega
 .show (AU (AY c.AG) 1 (⟨3,-1,24,24,0⟩:Rg)).length<=1000;omega
 .show (List.replicate _ _).length<=1000;rw[dw];omega
 .rw[a1,dw];omega
 .exact e5
 .show (AU (AY c.AG) 1 (⟨3,-1,24,24,0⟩:Rg)).length<=O;omega
 .show (List.replicate _ _).length<=c.AG.toNat * 16;simp
theorem Te {p n:Nat} {S S' : Sim} {g:Img} {R:RM} (D:Ok R S g) (hp:Pr S) (hT:TOk S.AA) (hf:S.full = false) (j:S.pause n = some S') :
  Fn P Dq [Pt p] R (Ag p S g) (DH p S' λ_=>True):=by
 refine KW λF=>?_
 refine z_1 ?_;unfold Sim.pause at j;split at j
 .cases j
 rename_i N;have N:S.sz = true:=by simpa using N
 rw[if_neg (by rw[hf];decide)] at j;dsimp only at j;have a6:=D.tl;have n1:=hT.n1;refine jl rfl ?_;rw[hf];refine CK (jss { S with stop:=false } g rfl rfl δ τ τ ?_);have H:Ok R { S with stop:=false } g:={ D with };refine jl rfl (jeq (jif (λT=>?_) (λT=>?_)))
 .rw[if_pos (eq_of_beq T)] at j;simp only[dx] at j;subst j;refine jcS (Sk H N) λ_ R2 g2 y _ A=>(B7 y trivial rfl A)
 rw[if_neg (ne_of_beq_false T)] at j;refine jeq (jif (λW=>?_) (λW=>?_))
 .rw[if_pos (eq_of_beq W)] at j;refine jcS (WN H hp j) λ_ R2 g2 y _ A=>(B7 y trivial rfl A)
 rw[if_neg (ne_of_beq_false W)] at j;refine jeq (jif (λh3=>?_) (λh3=>?_));rotate_left
 .rw[if_neg (ne_of_beq_false h3)] at j;refine jcS (XU H N hT j) λ_ R2 g2 y _ A=>(B7 y trivial rfl A)
 rw[if_pos (eq_of_beq h3)] at j;unfold Sim.update at j;obtain⟨_,-,j⟩:=AF j;simp only[dx] at j;refine jss { S with stop:=false,Ac:=3 } g rfl rfl δ τ τ ?_;generalize a4:(λ(i:Int) (x:Rg)=>{ x with AJ:=x.top - AK i }) = f at j;have a5:∀(k:Nat) (x:Rg),f k x = { x with AJ:=x.top - AK k }:=λk x=>by rw[<- a4]
 refine Ab (λvs Q O=>Q = R/\O = Ag p { S with stop:=false,Ac:=3,AA:=rows f S.AA } g ++ F/\vs = [Pt p]) (λK hK=>?_) ?_;rotate_left
 .rintro e R1 D1 ⟨hR,hD,he⟩;subst hR;refine z_W ?_;refine jl rfl (jl rfl (jbd rfl rfl (jss { S with stop:=false,Ac:=3,AA:=rows f S.AA,col:={ De S.col.As S.col.want with pc:=6,r:=1,p:=16 } } { g with AR:=SN } rfl rfl δ τ τ ?_)));subst j;refine B7 (RM.le.refl R1) trivial rfl ?_;exact { H with AR:=.inl ⟨rfl,rfl,rfl⟩,tl:=by simpa [rows] using D.tl,tk:=by simpa [rows] using D.tk }
 refine jcI hK λK2 a0=>?_
 refine jlp (λm vs Q O=>Q = R/\∃k:Nat,1<=k/\k<=S.AA.length + 1/\O = Ag p { S with stop:=false,Ac:=3,AA:=CO f k S.AA } g ++ F/\vs = [Pt p,I k]/\m = S.AA.length + 1 - k)
  (n:=S.AA.length) ⟨rfl,1,z_n 1,Z,by rw[IW],rfl,Z⟩ ?_
 rintro m e R4 D4 K3 ⟨a2,k,k0,k1,hD,he,hm⟩ a1;subst a2;refine z_W ?_;refine jl rfl (jln (jlt (jif (λhc=>?_) (λhc=>?_))));rotate_left
 .have hc:S.AA.length<=k:=by have:=z_g hc;rw[Cd] at this;omega
  refine a0 _ _ _ ⟨rfl,?_,rfl⟩;rw[IZ hc]
 have hc:k < S.AA.length:=by have:=z_f hc;rw[Cd] at this;omega
 have RR:=hT.row k Z Z;have t0:=RR.t0;have t1:=RR.t1;rw[EL hc] at t0 t1;have a3:=Br (r:=(k:Int)) Z Z;refine jl rfl (CC (by rw[Cd];exact hc) (Sq (p:=p) (by simpa using hc) ?_));rw[show ({ S with stop:=false,Ac:=3,AA:=CO f k S.AA }:Sim).AA[k]'(by simpa using hc) = S.AA[k] from Iq hc];refine ja λb5=>(js (cs':=eRg (S.AA[k])) rfl rfl V rfl (jfo (jl rfl (jp (Bf k) (jsu (jfo (Ak (jl rfl jev) (js (cs':=eRg { S.AA[k] with AJ:=(S.AA[k]).top - AK k }) rfl rfl V rfl (jl rfl (jla V rfl (CC (by rw[Cd];exact hc) (VF (p:=p) { S with stop:=false,Ac:=3,AA:=CO f (k + 1) S.AA } (by simpa using hc) (by rw[<- Iu k0 hc,a5]) (jad (Al (Ag p { S with stop:=false,Ac:=3,AA:=CO f (k + 1) S.AA } g) (G:=F) (a1 (S.AA.length + 1 - (k + 1)) _ _ _ Z ⟨rfl,k + 1,Z,Z,rfl,rfl,rfl⟩)))))))))))))))
end Go.Lf
end
