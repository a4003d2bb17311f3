/- A part of the proof of the given row. Conditions: none. -/
import Derived.Test.YthifcapakfcfnaaGreatAH
set_option linter.unusedVariables false
set_option linter.unusedSimpArgs false
set_option maxRecDepth 100000
section
namespace Go.Lf
open Go Sm
theorem SI {R:RM} {D:Chs} {v:Value} {l:List Int} {i:Int} {k:Value→M} (h:B9 R v l) (h0:0≤i) (h1:i < l.length) (H:∀q:Value,(∀(D' : Chs) (k' : Value→M),J R D' (k' (I (l[i.toNat]'(ω))))→J R D' (L1 q k'))→J R D (k q)):J R D (IA 1 v (I i) k):=by
 rcases h with ⟨_,h2,_⟩ | ⟨b,o,cap,t,cs,rfl,h2,h3,h4,h5⟩
 ·omega
 ·refine jia h0 h1 (H _ λD' k' H'=>jlr h2 ?_ H');have:=congrArg (λl=>l[i.toNat]?) h4;simp only[Ub,UX,Uv] at this;rw[if_pos ω,Tl (by omega:i.toNat < l.length)] at this;rw[UY,this];rfl
theorem Ll {S S' : Sim} (h:S.look = some S'):S'.c = S.c∧S'.AI = S.AI:=by
 unfold Sim.look at h;split at h
 ·cases h
 obtain⟨_,_,h⟩:=A7 h;obtain⟨_,_,h⟩:=A7 h;obtain⟨⟨v,S1⟩,hr,h⟩:=A7 h;have e:=C8 hr;subst e;obtain⟨_,_,h⟩:=A7 h;simp only[Tq] at h;subst h;exact⟨rfl,rfl⟩
theorem MB {S S' : Sim} (h:S.mark = some S'):S'.c = S.c∧S'.AI = S.AI:=by
 unfold Sim.mark at h;split at h
 ·cases h
 dsimp only at h;split at h
 ·split at h
  ·simp only[Tq] at h;subst h;exact⟨rfl,rfl⟩
  ·simp only[Tq] at h;subst h;exact⟨rfl,rfl⟩
 obtain⟨a,_,h⟩:=A7 h;obtain⟨row,_,h⟩:=A7 h;obtain⟨b,_,h⟩:=A7 h;split at h
 ·obtain⟨_,_,h⟩:=A7 h;obtain⟨⟨v,S1⟩,hr,h⟩:=A7 h;have e:=C8 hr;subst e;obtain⟨_,_,h⟩:=A7 h;simp only[Tq] at h;subst h;exact⟨rfl,rfl⟩
 ·simp only[Tq] at h;subst h;exact⟨rfl,rfl⟩
def Pr (S:Sim):Prop:=inR S.c.AF∧∀a∈S.AI,AQ a≤9223372036854775807
theorem KO {t:List Rg} {AF:Int} {held:List Int} {i:Nat} (h:i < (AX t AF held).2.length) :
  ∃t',BU (((AX t AF held).2.take i).foldl (λt r=>(BU t r).getD []) t) ((AX t AF held).2[i]) = some t'∧t'.length = t.length∧(((AX t AF held).2.take i).foldl (λt r=>(BU t r).getD []) t).length = t.length:=by
 cases hok:BF t with
 | false=>
  have:AX t AF held = ([],[]):=by unfold AX;rw[hok];rfl
  rw[this] at h;exact absurd h σ
 | true=>
  have T:=BL.1 hok;obtain⟨c1,c2,_⟩:=choose_spec T;generalize (AX t AF held).2 = q at c1 c2 h ⊢;obtain⟨f1,f2,f3⟩:=JD (q.take i) t T (c1.sublist (List.take_sublist _ _)) λr hr=>by
   obtain⟨a1,a2,a3,_⟩:=c2 r (UO hr);exact⟨a1,a2,ω⟩
  obtain⟨a1,a2,a3,_⟩:=c2 q[i] (U6 h);have hni:q[i] ∉ q.take i:=by
   intro hm;obtain⟨j,hj,e⟩:=UE hm;rw[UA] at hj;rw[List.getElem_take] at e;have:=(List.getElem_inj c1).1 e;omega
  have e:=f3 q[i] a1 a2;rw[if_neg hni] at e;obtain⟨d1,d2⟩:=Ey f1 a1 (by rw[f2];exact a2) (by rw[e];omega);exact⟨_,d1,by rw[CP,f2],f2⟩
theorem OY {p n:Nat} {S S' : Sim} {g:Img} {R:RM} (hok:Ok R S g) (hp:Pr S) (hS:S.choose n = some S') :
  Fn P Fp [Pt p] R (AU p S g) (CK p S' λ_=>True):=by
 refine JU λF=>?_
 refine z_1 ?_;unfold Sim.choose at hS;obtain⟨S0,hS0,hS⟩:=A7 hS;refine AY (λvs R' D'=>R.le R'∧∃g0,Ok R' S0 g0∧S0.sz = true∧Pr S0∧D' = AU p S0 g0 ++ F∧vs = [Pt p]) (λK hK=>?_) ?_
 ·refine jcI hK λK2 hK2=>?_
  refine jlp (λm vs R' D'=>R.le R'∧∃S1 g1,Ok R' S1 g1∧Pr S1∧Sim.drain m S1 = some S0∧D' = AU p S1 g1 ++ F∧vs = [Pt p])
   ⟨RM.le.refl R,S,g,hok,hp,hS0,rfl,rfl⟩ ?_
  rintro m e R1 D1 K3 ⟨hR1,S1,g1,ok1,hp1,hdr,hD,he⟩ hK3;refine z_W ?_;clear hD;cases m with
  | zero=>exact absurd hdr (by simp[Sim.drain])
  | succ m=>
  unfold Sim.drain at hdr;split at hdr
  ·cases hdr
  rename_i hz;have hz:S1.sz = true:=by simpa using hz
  refine jor [Pt p] ((decide ((S1.col.AD.length:Int) > 0)) || (decide ((S1.old.length:Int) > 0))) (λK' hK'=>?_) (λe c u ho he=>?_)
  ·refine jl rfl (Ep ok1.AD (jgr (jgO hK' λh1 hN=>jl rfl (Ep ok1.old (jgr hN)))))
  refine z_V ?_;refine jor [Pt p] ((decide ((S1.col.AD.length:Int) > 0) || decide ((S1.old.length:Int) > 0)) || (S1.col.pc == 2)) (λK' hK'=>?_) (λe c u ho he=>?_)
  ·rw[ho];refine jgO hK' λh1 hN=>jl rfl (jeq hN)
  refine z_V ?_;rw[ho];refine jif (λhc=>?_) (λhc=>?_)
  ·simp only[U8,z_d,beq_iff_eq] at hc;rw[if_pos ω] at hdr;have hd2:∃S2,(if S1.col.pc = 2 then S1.look else S1.mark) = some S2∧Sim.drain m S2 = some S0:=by
    dsimp only at hdr;by_cases c2:S1.col.pc = 2
    ·rw[if_pos c2] at hdr ⊢;exact A7 hdr
    ·rw[if_neg c2] at hdr ⊢;exact A7 hdr
   obtain⟨S2,h2,hdr⟩:=hd2;refine AY (λvs R' D'=>R.le R'∧∃g2,Ok R' S2 g2∧Pr S2∧D' = AU p S2 g2 ++ F∧vs = [Pt p]) (λK4 hK4=>?_) ?_;rotate_left
   ·rintro e R2 D2 ⟨hR2,g2,ok2,hp2,hD,he⟩;refine z_W ?_;clear hD;exact hK3 m _ _ _ ω ⟨hR2,S2,g2,ok2,hp2,hdr,rfl,rfl⟩
   refine jl rfl (jeq (jif (λh3=>?_) (λh3=>?_)))
   ·rw[if_pos (eq_of_beq h3)] at h2;obtain⟨k1,k2⟩:=Ll h2;refine jcS (P5 ok1 h2) λ_ R2 g2 hR2 _ ok2=>(hK4 _ _ _ ⟨hR1.trans hR2,g2,ok2,by unfold Pr;rw[k1,k2];exact hp1,rfl,rfl⟩)
   ·rw[if_neg (ne_of_beq_false h3)] at h2;obtain⟨k1,k2⟩:=MB h2;refine jcS (PZ ok1 h2) λ_ R2 g2 hR2 _ ok2=>(hK4 _ _ _ ⟨hR1.trans hR2,g2,ok2,by unfold Pr;rw[k1,k2];exact hp1,rfl,rfl⟩)
  ·simp only[Tp,decide_eq_false_iff_not,beq_eq_false_iff_ne] at hc;rw[if_neg ω] at hdr;simp only[Tq] at hdr;subst hdr;exact hK2 _ _ _ ⟨hR1,g1,ok1,hz,hp1,rfl,rfl⟩
 rintro e R1 D1 ⟨hR1,g0,ok0,hz,hp0,hD,he⟩;refine z_W ?_;clear hD;clear hp hS0 hok;have hsz:=EU hz;have htl:=ok0.tl;refine jss { S0 with stop:=false } g0 rfl rfl δ τ τ ?_;dsimp only at hS;obtain⟨t4,ht4,hS⟩:=A7 hS;refine AY (λvs R' D'=>R' = R1∧∃v A,SO (S0.AI.map AQ) v A∧D' = A ++ (AU p { S0 with stop:=false } g0 ++ F)∧vs = [Pt p,v]) (λK hK=>?_) ?_
 ·refine jcI hK λK2 hK2=>?_
  refine jlp (λm vs R' D'=>R' = R1∧∃(i:Nat) (v:Value) (A:Chs),i≤S0.AI.length∧SO ((S0.AI.take i).map AQ) v A∧D' = A ++ (AU p { S0 with stop:=false } g0 ++ F)∧vs = [Pt p,v,I i]∧m = S0.AI.length - i)
   (n:=S0.AI.length) ⟨rfl,0,SN,[],ω,.inl ⟨σ,rfl,rfl⟩,rfl,rfl,ω⟩ ?_
  rintro m e R2 D2 K3 ⟨hR,i,v,A,hi,so,hD,he,hm⟩ hK3;subst hR;refine z_W ?_;clear hD;refine jl rfl (Ep ok0.AI (jlt (jif (λhc=>?_) (λhc=>?_))));rotate_left
  ·have hc:=z_g hc;rw[UG ω] at so;exact hK2 _ _ _ ⟨rfl,v,A,so,rfl,rfl⟩
  have hc:i < S0.AI.length:=by have:=z_f hc;omega
  refine jl rfl (Ca ok0.AI ω ω ?_);have e0:S0.AI[((i:Nat):Int).toNat]'(ω) = S0.AI[i]:=σ
  rw[e0];refine jp (CX _ (hp0.2 _ (U6 hc))) (jbs rfl rfl λb1=>(Aj U9.symm ?_));have hx:Ay R2 (A ++ ((b1,C 3 [I (AQ S0.AI[i])]) :: (AU p { S0 with stop:=false } g0 ++ F))) (some ⟨b1,0,none⟩) (1 * 1) ([AQ S0.AI[i]].map I):=Ay.held (cs:=[I (AQ S0.AI[i])]) (z_n 1);obtain⟨sa,sn,sc,rfl⟩:=so.sl;have hpl:=hsz.2.2.2.1;refine jas so rfl (by rw[Tr,UA,U0];omega) hx λv' A' so'=>(jad (B7 A' (G:=AU p { S0 with stop:=false } g0 ++ F) (hK3 (S0.AI.length - (i + 1)) _ _ _ ω ⟨rfl,i + 1,v',A',ω,by rw[UL hc,Uk];exact so',rfl,rfl,rfl⟩)))
 rintro e R2 D2 ⟨hR,v,A,so,hD,he⟩;subst hR;refine z_W ?_;clear hD;refine IN so λR2 hR2 hint=>?_
 have hR2':=hR1.trans hR2;have ok1:Ok R2 { S0 with stop:=false } g0:={ ok0.le hR2 with };refine jl (v:=.slice (some ⟨g0.tb,0,none⟩) S0.A0.length g0.tc) rfl (jl rfl ?_);have hpl:=hsz.2.2.2.1;refine jmk (J0 S0.c.AF hp0.1 ω hint (by rw[Tr];omega)) ?_;rintro _ _ ⟨v1,v2,A1,A2,so1,so2,rfl,rfl⟩;refine jex rfl (jex rfl ?_);rw[Tu];refine IN so1 λR3 hR3 hi1=>(IN so2 λR4 hR4 hi2=>?_)
 have hi1:=hi1.le hR4;have ok2:=(ok1.le hR3).le hR4;have hR4':=(hR2'.trans hR3).trans hR4;clear ok1 ok0 hint so so1 so2 hR3 hR4 hR2 hR2' hR1;have cd:∀i (h:i < (AX S0.A0 S0.c.AF (S0.AI.map AQ)).2.length),_:=λi h=>KO h
 generalize hq:AX S0.A0 S0.c.AF (S0.AI.map AQ) = q at ht4 hS hi1 hi2 cd ⊢;obtain⟨q1,q2⟩:=q;dsimp only at ht4 hS hi1 hi2 cd ⊢;generalize htf:q2.foldl (λt r=>(BU t r).getD []) S0.A0 = tf at ht4;have hl2:q2.length < 1000000:=by
  have:=FU (S0.AI.map AQ) S0.A0.tail 1;have e2:q2 = (AX S0.A0 S0.c.AF (S0.AI.map AQ)).2:=by rw[hq]
  rw[V7] at this;rw[e2];unfold AX;split
  ·dsimp only;omega
  ·simp
 have hl1:q1.length < 1000000:=by
  have:=Dj S0.A0 (S0.AI.map AQ) 16 1 S0.c.AF;have e2:q1 = (AX S0.A0 S0.c.AF (S0.AI.map AQ)).1:=by rw[hq]
  rw[e2];unfold AX;split
  ·dsimp only;omega
  ·simp
 refine AY (λvs R' D'=>R' = R4∧∃g1,Ok R4 { S0 with stop:=false,A0:=tf } g1∧D' = AU p { S0 with stop:=false,A0:=tf } g1 ++ F∧vs = [Pt p,v1]) (λK hK=>?_) ?_
 ·refine jcI hK λK2 hK2=>?_
  refine jlp (λm vs R' D'=>R' = R4∧∃(i:Nat) (t1:List Rg) (g1:Img),i≤q2.length∧t1 = (q2.take i).foldl (λt r=>(BU t r).getD []) S0.A0∧Ok R4 { S0 with stop:=false,A0:=t1 } g1∧D' = AU p { S0 with stop:=false,A0:=t1 } g1 ++ F∧vs = [Pt p,v1,v2,I i]∧m = q2.length - i)
   (n:=q2.length) ⟨rfl,0,S0.A0,g0,ω,rfl,ok2,rfl,rfl,ω⟩ ?_
  rintro m e R5 D5 K3 ⟨hR,i,t1,g1,hi,ht1,ok1,hD,he,hm⟩ hK3;subst hR;refine z_W ?_;clear hD;refine Ep hi2 (jlt (jif (λhc=>?_) (λhc=>?_)));rotate_left
  ·have hc:=z_g hc;rw[UG ω,htf] at ht1;subst ht1;exact hK2 _ _ _ ⟨rfl,g1,ok1,rfl,rfl⟩
  have hc:i < q2.length:=by have:=z_f hc;omega
  obtain⟨t',d1,d2,d3⟩:=cd i hc;rw[← ht1] at d1 d3;refine jl rfl (Ca hi2 ω ω ?_);have e0:q2[((i:Nat):Int).toNat]'(ω) = q2[i]:=σ
  rw[e0];refine jmk (Gr (t:=t1) _ ω) ?_;rw[d1];rintro _ _ ⟨sv,⟨b4,c4,sp4,hc4,rfl,rfl⟩,rfl⟩;refine jex rfl (jex rfl (LY (jad (hK3 (q2.length - (i + 1)) _ _ _ ω ⟨rfl,i + 1,t',{ g1 with tb:=b4,tc:=c4,tsp:=sp4 },ω,?_,ok1.tab ω _ _ _ hc4,rfl,rfl,rfl⟩))));rw[UL hc,List.foldl_append,← ht1];simp only[V2,List.foldl_nil,d1,Uj]
 rintro e R5 D5 ⟨hR,g1,ok1,hD,he⟩;subst hR;refine z_W ?_;clear hD;clear cd hi2 htf ok2;refine AY (λvs R' D'=>R' = R5∧∃g1,Ok R5 { S0 with stop:=false,A0:=t4 } g1∧D' = AU p { S0 with stop:=false,A0:=t4 } g1 ++ F∧vs = [Pt p,v1]) (λK hK=>?_) ?_
 ·refine jcI hK λK2 hK2=>?_
  refine jlp (λm vs R' D'=>R' = R5∧∃(i:Nat) (t1:List Rg),i≤q1.length∧Ih (q1.drop i) t1 = some t4∧Ok R5 { S0 with stop:=false,A0:=t1 } g1∧D' = AU p { S0 with stop:=false,A0:=t1 } g1 ++ F∧vs = [Pt p,v1,I i]∧m = q1.length - i)
   (n:=q1.length) ⟨rfl,0,tf,ω,ht4,ok1,rfl,rfl,ω⟩ ?_
  rintro m e R6 D6 K3 ⟨hR,i,t1,hi,hk4,ok1,hD,he,hm⟩ hK3;subst hR;refine z_W ?_;clear hD;refine Ep hi1 (jlt (jif (λhc=>?_) (λhc=>?_)));rotate_left
  ·have hc:=z_g hc;rw[Tx ω] at hk4;simp only[Ih,Tq] at hk4;subst hk4;exact hK2 _ _ _ ⟨rfl,g1,ok1,rfl,rfl⟩
  have hc:i < q1.length:=by have:=z_f hc;omega
  rw[Ts hc] at hk4;unfold Ih at hk4;obtain⟨x,hx,hk4⟩:=A7 hk4;obtain⟨x0,x1,x2,x3⟩:=Ad hx;have e0:q1[((i:Nat):Int).toNat]'(ω) = q1[i]:=σ
  have htl1:=ok1.tl;refine jl rfl (SI hi1 ω ω λqq hqq=>hqq _ _ ?_);rw[e0] at hqq ⊢;obtain⟨k,hk⟩:∃k:Nat,q1[i] = k:=⟨q1[i].toNat,ω⟩;rw[hk] at hqq hk4 ⊢;have hkl:k < t1.length:=ω
  have hxk:t1[k] = x:=by rw[← x3];simp only[hk,Tj]
  refine Bk hkl (M2 (p:=p) hkl (ja λb2=>(Aq (jl rfl jev) (Aq (hqq _ _ jev) (Aq (M2 (p:=p) hkl jev) ?_)))));have hxk' : ({ S0 with stop:=false,A0:=t1 }:Sim).A0[k] = x:=hxk;rw[hxk'];refine js (cs':=eRg x) rfl rfl σ rfl (js (cs':=eRg { x with kind:=4 }) rfl rfl σ rfl (jl rfl (Ca hi1 ω ω ?_)));rw[e0,hk];refine jla σ rfl (Bk hkl (Ng (p:=p) { S0 with stop:=false,A0:=t1.set k { x with kind:=4 } } hkl τ (jad (B7 (AU p { S0 with stop:=false,A0:=t1.set k { x with kind:=4 } } g1) (G:=F) (hK3 (q1.length - (i + 1)) _ _ _ ω ⟨rfl,i + 1,t1.set k { x with kind:=4 },ω,?_,{ ok1 with tl:=by simpa using htl1,tk:=by simpa using ok1.tk },rfl,rfl,rfl⟩)))));rw[← hk4];simp[AM]
 rintro e R6 D6 ⟨hR,g1,ok1,hD,he⟩;subst hR;refine z_W ?_;clear hD;refine Ep hi1 (jeq (jif (λhc=>?_) (λhc=>?_)))
 ·rw[if_pos (by have:=eq_of_beq hc;omega)] at hS;refine jcS (Oh ok1 hS) λ_ R7 g7 hR7 _ ok7=>(Ae (hR4'.trans hR7) trivial rfl ok7)
 ·rw[if_neg (by have:=ne_of_beq_false hc;omega)] at hS;simp only[Tq] at hS;refine jss { S0 with stop:=false,A0:=t4,AW:=2 } g1 rfl rfl δ τ τ (jl rfl (jl rfl (jbd rfl rfl (jss { S0 with stop:=false,A0:=t4,AW:=2,col:={ Cd S0.col.Ai S0.col.want with pc:=5,r:=1,p:=16 } } { g1 with AD:=SN } rfl rfl δ τ τ ?_))));subst hS;refine Ae hR4' trivial rfl ?_;exact { ok1 with AD:=.inl ⟨rfl,rfl,rfl⟩ }
theorem I6 {S:Sim}:∀{l l' : List Int},S.rootsF l = some l'→l'.length = l.length∧∀k (h:k < l.length) (h' : k < l'.length),∃f,S.from_ l[k] = some f∧(if f then idx S.A5 l[k] else some l[k]) = some l'[k]
 | [],l',e=>by
  simp only[Sim.rootsF,Tq] at e;subst e;exact⟨rfl,λk h=>absurd h σ⟩
 | a :: r,l',e=>by
  unfold Sim.rootsF at e;obtain⟨f,hf,e⟩:=A7 e;have e2:∃b,(if f then idx S.A5 a else some a) = some b∧∃r',S.rootsF r = some r'∧b :: r' = l':=by
   cases f with
   | true=>
    obtain⟨b,hb,e⟩:=A7 e;obtain⟨r',hr,e⟩:=A7 e;simp only[Tq] at e;exact⟨b,hb,r',hr,e⟩
   | false=>
    obtain⟨b,hb,e⟩:=A7 e;obtain⟨r',hr,e⟩:=A7 e;simp only[Tq] at e;exact⟨b,hb,r',hr,e⟩
  obtain⟨b,hb,r',hr,rfl⟩:=e2;obtain⟨h1,h2⟩:=I6 hr;refine⟨by simp[h1],λk h h'=>?_⟩;cases k with
  | zero=>exact⟨f,hf,hb⟩
  | succ k=>exact h2 k (by simpa using h) (by simpa using h')
theorem LG {S:Sim}:∀{l l' : List Thr},S.thsF l = some l'→l'.length = l.length∧∀k (h:k < l.length) (h' : k < l'.length),∃r,S.rootsF l[k].AA = some r∧l'[k] = { l[k] with AA:=r }
 | [],l',e=>by
  simp only[Sim.thsF,Tq] at e;subst e;exact⟨rfl,λk h=>absurd h σ⟩
 | a :: r,l',e=>by
  unfold Sim.thsF at e;obtain⟨r1,h1,e⟩:=A7 e;obtain⟨r',hr,e⟩:=A7 e;simp only[Tq] at e;subst e;obtain⟨g1,g2⟩:=LG hr;refine⟨by simp[g1],λk h h'=>?_⟩;cases k with
  | zero=>exact⟨r1,h1,rfl⟩
  | succ k=>exact g2 k (by simpa using h) (by simpa using h')
theorem jsi {R:RM} {b k:Nat} {l:List Int} {sp:List Value} {w:Int} {D D' : Chs} {m:M} (hk:k < l.length) [a:At D b (C AZ (l.map I ++ sp))] [u:Up D b (C AZ (l.map I ++ sp)) (C AZ ((l.set k w).map I ++ sp)) D'] (H:J R D' m):J R D (ST 1 (.pointer (some ⟨b,0 + k * 1,none⟩)) (I w) m):=by
 rw[Tw,UY];refine js (cs':=(l.set k w).map I ++ sp) rfl rfl (by simp;omega) ?_ H;rw[show cl (I w) = [I w] from rfl,EK (by simp;omega),List.set_append_left _ _ (by simpa using hk),VD]
theorem Ia {α:Type} {l l' : List α} {k:Nat} (hl:l'.length = l.length) (hk:k < l.length):(l'.take k ++ l.drop k).set k (l'[k]'(ω)) = l'.take (k + 1) ++ l.drop (k + 1):=by
 have e1:(l'.take k).length = k:=by simp;omega
 rw[Uo _ _ ω,e1,Nat.sub_self,Ts hk,List.set_cons_zero,UL ω,Tu,List.singleton_append]
theorem LI {α:Type} {l l' : List α} {k:Nat} (hl:l'.length = l.length) (hk:k < l.length) (h:k < (l'.take k ++ l.drop k).length):(l'.take k ++ l.drop k)[k] = l[k]:=by
 have e1:(l'.take k).length = k:=by simp;omega
 rw[VB ω,List.getElem_drop];congr 1;omega
theorem E5 {α:Type} {l l' : List α} {k:Nat} (hl:l'.length = l.length):(l'.take k ++ l.drop k).length = l.length:=by simp;omega
theorem PN {p:Nat} {S S' : Sim} {g:Img} {R:RM} (hok:Ok R S g) (hz:S.sz = true) (hT:TOk S.A0) (hS:S.finish = some S') :
  Fn P GE [Pt p] R (AU p S g) (CK p S' λ_=>True):=by
 refine KF λF=>?_
 refine z_1 ?_;unfold Sim.finish at hS;obtain⟨th,hth,hS⟩:=A7 hS;obtain⟨tl1,tl2⟩:=LG hth;have hsz:=EU hz;have hhl:=hok.hl;have htl:=hok.tl;refine AY (λvs R' D'=>R.le R'∧∃g1,Ok R' { S with th:=th } g1∧D' = AU p { S with th:=th } g1 ++ F∧vs = [Pt p]) (λK hK=>?_) ?_
 ·refine jcI hK λK2 hK2=>?_
  refine jlp (λm vs R' D'=>R.le R'∧∃(i:Nat) (g1:Img),i≤S.th.length∧Ok R' { S with th:=th.take i ++ S.th.drop i } g1∧D' = AU p { S with th:=th.take i ++ S.th.drop i } g1 ++ F∧vs = [Pt p,I i]∧m = S.th.length - i)
   ⟨RM.le.refl R,0,g,ω,by simpa using hok,σ,rfl,ω⟩ ?_
  rintro m e R1 D1 K3 ⟨hR,i,g1,hi,ok1,hD,he,hm⟩ hK3;refine z_W ?_;refine jl rfl (jln (jlt (jif (λhc=>?_) (λhc=>?_))));rotate_left
  ·have hc:i = S.th.length:=by have:=z_g hc;rw[E5 tl1] at this;omega
   have e1:th.take i ++ S.th.drop i = th:=by rw[UG ω,Tx ω,UP]
   rw[e1] at ok1 ⊢;exact hK2 _ _ _ ⟨hR,g1,ok1,rfl,rfl⟩
  have hc:i < S.th.length:=by have:=z_f hc;rw[E5 tl1] at this;omega
  obtain⟨r',hr',et⟩:=tl2 i hc ω;obtain⟨rl1,rl2⟩:=I6 hr';have hti:idx (th.take i ++ S.th.drop i) i = some (S.th[i]):=by
   unfold idx;rw[if_pos ω,Tj,Tl (by rw[E5 tl1];exact hc),LI tl1 hc]
  have hri:=hsz.2.2.2.2 _ (U6 hc);generalize hS1:({ S with th:=th.take i ++ S.th.drop i }:Sim) = S1 at ok1 ⊢;have e1:S1.th = th.take i ++ S.th.drop i:=by rw[← hS1]
  have e2:S1.A5 = S.A5:=by rw[← hS1]
  have e3:∀a,S1.from_ a = S.from_ a:=λa=>by rw[← hS1];rfl
  rw[← e1] at hti;refine Es ok1 hti rfl λb a cap hv=>(jl rfl (jc (Br hv hri) ?_))
  rintro _ R2 _ hR2 ⟨b4,c4,sp4,hc4,hsp4,rfl,rfl⟩;refine js rfl rfl (by simp[Ac]) rfl (Aj (D':=(b4,C AZ ((S.th[i]).AA.map I ++ sp4)) :: (b,C AS (Ac (S.th[i]) (S0 b4 (S.th[i]).AA.length c4))) :: (AU p S1 g1 ++ F)) (UV _) (B7 (AU p S1 g1) (G:=(b4,C AZ ((S.th[i]).AA.map I ++ sp4)) :: (b,C AS (Ac (S.th[i]) (S0 b4 (S.th[i]).AA.length c4))) :: F) ?_));have ok2:=ok1.le hR2;have hRR:=hR.trans hR2;refine AY (λvs R' D'=>R.le R'∧∃g2,Ok R' S1 g2∧D' = AU p S1 g2 ++ (b4,C AZ (r'.map I ++ sp4)) :: (b,C AS (Ac (S.th[i]) (S0 b4 (S.th[i]).AA.length c4))) :: F∧vs = [Pt p,I i,Pt b]) (λK4 hK4=>?_) ?_;rotate_left
  ·rintro e R3 D3 ⟨hR3,g2,ok3,hD,he⟩;refine z_W ?_;refine Aj U9 (Bc (b:=b4) λR4 hR4 hb4=>?_);have hv2:=Bj (c:=c4) hb4 ω;have ok4:=ok3.le hR4;have ev:Ac (S.th[i]) (S0 b4 (S.th[i]).AA.length c4) = Ac { S.th[i] with AA:=r' } (S0 b4 r'.length c4):=by rw[rl1];rfl
   rw[ev];refine Eb { S1 with th:=AM S1.th i { S.th[i] with AA:=r' } } ok4 ω (by rw[e1,E5 tl1];omega) hv2 τ λg5 ok5=>(jad ?_)
   have e5:({ S1 with th:=AM S1.th i { S.th[i] with AA:=r' } }:Sim) = { S with th:=th.take (i + 1) ++ S.th.drop (i + 1) }:=by
    rw[← hS1,← et];have:=Ia tl1 hc;simp only[AM,Tj,this]
   rw[e5] at ok5 ⊢;refine B7 (AU p { S with th:=th.take (i + 1) ++ S.th.drop (i + 1) } g5) (G:=F) (hK3 (S.th.length - (i + 1)) _ _ _ ω ⟨hR3.trans hR4,i + 1,g5,ω,ok5,rfl,rfl,rfl⟩)
  refine jcI hK4 λK5 hK5=>?_
  refine jlp (λm vs R' D'=>R.le R'∧∃(k:Nat) (g2:Img) (l:List Int),k≤(S.th[i]).AA.length∧l = r'.take k ++ (S.th[i]).AA.drop k∧Ok R' S1 g2∧D' = AU p S1 g2 ++ (b4,C AZ (l.map I ++ sp4)) :: (b,C AS (Ac (S.th[i]) (S0 b4 (S.th[i]).AA.length c4))) :: F∧vs = [Pt p,I i,Pt b,I k]∧m = (S.th[i]).AA.length - k)
   ⟨hRR,0,g1,(S.th[i]).AA,ω,σ,ok2,rfl,rfl,ω⟩ ?_
  rintro m e R3 D3 K6 ⟨hR3,k,g2,l,hk,hl,ok3,hD,he,hm⟩ hK6;refine z_W ?_;have hll:l.length = (S.th[i]).AA.length:=by rw[hl,E5 rl1]
  refine jl rfl (jln (jlt (jif (λhd=>?_) (λhd=>?_))));rotate_left
  ·have hd:k = (S.th[i]).AA.length:=by have:=z_g hd;omega
   have:l = r':=by rw[hl,UG ω,Tx ω,UP]
   subst this;exact hK5 _ _ _ ⟨hR3,g2,ok3,rfl,rfl⟩
  have hd:k < (S.th[i]).AA.length:=by have:=z_f hd;omega
  obtain⟨f,hf,hw⟩:=rl2 k hd ω;obtain⟨y,hy⟩:∃y,r'[k]'(ω) = y:=⟨_,rfl⟩;rw[hy] at hw;have hlk:l[k]'(ω) = (S.th[i]).AA[k]:=by subst hl;exact LI rl1 hd ω
  refine AY (λvs R' D'=>R.le R'∧∃g2,Ok R' S1 g2∧D' = AU p S1 g2 ++ (b4,C AZ ((l.set k y).map I ++ sp4)) :: (b,C AS (Ac (S.th[i]) (S0 b4 (S.th[i]).AA.length c4))) :: F∧vs = [Pt p,I i,Pt b,I k]) (λK7 hK7=>?_) ?_;rotate_left
  ·rintro e R4 D4 ⟨hR4,g3,ok4,hD,he⟩;refine z_W ?_;refine jad (hK6 ((S.th[i]).AA.length - (k + 1)) _ _ _ ω ⟨hR4,k + 1,g3,l.set k y,ω,by rw[hl,← hy];exact Ia rl1 hd,ok4,rfl,rfl,rfl⟩)
  refine jcI hK7 λK8 hK8=>?_
  have gk:∀g' : Img,(l.map I ++ sp4)[0 + k * 1]? = some (I (S.th[i]).AA[k]):=λ_=>by
   rw[Tw,UY,Fh ω,hlk]
  refine jl rfl (Bk hd (jl (gk g) (jcS (Hk ok3 ((e3 _).trans hf)) λ_ R4 g3 hR4 hr ok4=>?_)));subst hr;refine jif (λhff=>?_) (λhff=>?_)
  ·subst hff;rw[if_pos rfl] at hw;obtain⟨w0,w1,w2,w3⟩:=Ad hw;refine jl rfl (jl rfl (jl rfl (Bk hd (jl (gk g) (jia w0 (by rw[e2];exact w1) (jl (v:=I y) ?_ ?_))))))
   ·rw[Tw,UY,Fh (by rw[e2];exact w2)];simp only[e2,w3]
   refine Bk hd (jsi ω (hK8 _ _ _ ⟨hR3.trans hR4,g3,ok4,rfl,rfl⟩))
  ·subst hff;simp only[U1,if_false,Tq] at hw;refine hK8 _ _ _ ⟨hR3.trans hR4,g3,ok4,?_,rfl⟩;have:l.set k y = l:=by rw[← hw,← hlk];exact List.set_getElem_self _
   rw[this]
 rintro e R1 D1 ⟨hR1,g1,ok1,hD,he⟩;refine z_W ?_;generalize hdd:CG S.A0.length 1 S.A0 = td at hS;refine AY (λvs R' D'=>R' = R1∧∃g2,Ok R' { S with th:=th,A0:=td } g2∧D' = AU p { S with th:=th,A0:=td } g2 ++ F∧vs = [Pt p]) (λK hK=>?_) ?_;rotate_left
 ·rintro e R2 D2 ⟨hR2,g2,ok2,hD,he⟩;subst hR2;refine z_W ?_;refine jcS (Oh ok2 hS) λ_ R7 g7 hR7 _ ok7=>(Ae (hR1.trans hR7) trivial rfl ok7)
 refine jcI hK λK2 hK2=>?_
 refine jlp (λm vs R' D'=>R' = R1∧∃(i:Nat) (t1:List Rg) (g2:Img),1≤i∧i≤S.A0.length∧TOk t1∧t1.length = S.A0.length∧CG (S.A0.length + 1 - i) i t1 = td∧Ok R' { S with th:=th,A0:=t1 } g2∧D' = AU p { S with th:=th,A0:=t1 } g2 ++ F∧vs = [Pt p,I i]∧m = S.A0.length + 1 - i)
  (n:=S.A0.length) ⟨rfl,1,S.A0,g1,ω,by have:=hT.n0;omega,hT,rfl,hdd,ok1,rfl,rfl,ω⟩ ?_
 rintro m e R2 D2 K3 ⟨hR2,i,t1,g2,hi0,hi1,T,htl1,hdf,ok2,hD,he,hm⟩ hK3;subst hR2;refine z_W ?_;refine jl (v:=.slice (some ⟨g2.tb,0,none⟩) t1.length g2.tc) rfl (jln (jlt (jif (λhc=>?_) (λhc=>?_))));rotate_left
 ·have hc:i = S.A0.length:=by have:=z_g hc;omega
  have:t1 = td:=by
   rw[← hdf,show S.A0.length + 1 - i = 0 + 1 by omega];unfold CG;rw[UM ω]
  subst this;exact hK2 _ _ _ ⟨rfl,g2,ok2,rfl,rfl⟩
 have hc:i < t1.length:=by have:=z_f hc;omega
 rw[show S.A0.length + 1 - i = (S.A0.length + 1 - (i + 1)) + 1 by omega] at hdf;unfold CG at hdf;rw[Tl hc] at hdf;simp only at hdf;refine AY (λvs R' D'=>R' = R2∧∃(t2:List Rg) (g3:Img),TOk t2∧t2.length = S.A0.length∧CG (S.A0.length + 1 - (i + 1)) (i + 1) t2 = td∧Ok R' { S with th:=th,A0:=t2 } g3∧D' = AU p { S with th:=th,A0:=t2 } g3 ++ F∧vs = [Pt p,I i]) (λK4 hK4=>?_) ?_;rotate_left
 ·rintro e R3 D3 ⟨hR3,t2,g3,T2,hl2,hd2,ok3,hD,he⟩;subst hR3;refine z_W ?_;refine jad (hK3 (S.A0.length + 1 - (i + 1)) _ _ _ ω ⟨rfl,i + 1,t2,g3,ω,ω,T2,hl2,hd2,ok3,rfl,rfl,rfl⟩)
 refine jcI hK4 λK5 hK5=>?_
 refine jl rfl (Bk hc (jl (by rw[Tw];exact Bv hc rfl) (jeq (jif (λhk=>?_) (λhk=>?_)))))
 ·rw[if_pos hk] at hdf;have hk4:(rv t1 i).kind = 4:=by rw[E7 hc];exact eq_of_beq hk
  obtain⟨d1,d2⟩:=Ey (r:=i) T ω ω ω;rw[d1] at hdf;simp only[Uj] at hdf;refine jl rfl (jmk (Gr (t:=t1) _ ω) ?_);rw[d1];rintro _ _ ⟨sv,⟨b4,c4,sp4,hc4,rfl,rfl⟩,rfl⟩;refine jex rfl (jex rfl (LY (hK5 _ _ _ ⟨rfl,AM t1 i (DJ i),{ g2 with tb:=b4,tc:=c4,tsp:=sp4 },d2,by rw[CP,htl1],hdf,ok2.tab (by rw[CP];omega) _ _ _ hc4,rfl,rfl⟩)))
 ·rw[if_neg (by rw[hk];decide)] at hdf;exact hK5 _ _ _ ⟨rfl,t1,g2,T,htl1,hdf,ok2,rfl,rfl⟩
theorem B9.sl {R:RM} {v:Value} {l:List Int} (h:B9 R v l):∃a c,v = .slice a l.length c:=by
 obtain⟨a,cap,hsv,-⟩:=B9.reads (D:=[]) h;exact⟨a,cap,hsv⟩
theorem JH (a:Option Addr) (n c:Nat) (hn:n < 1000000000000):Pu Gc [.slice a n c] (.bool (BW n)):=by
 intro R;refine L8 λF=>?_
 refine z_1 ?_;have eq:(n:Int).tdiv 16 = (n / 16:Nat):=by rw[Uw ω];omega
 have er:(n:Int).tmod 16 = (n % 16:Nat):=by rw[Int.tmod_eq_emod_of_nonneg ω];omega
 refine jln (Pk δ ⟨ω,ω⟩ ?_);rw[eq];refine jan [I ((n / 16:Nat):Int)] (((n:Int).tmod 16 == 0) && (decide (((n / 16:Nat):Int)≥2))) (λK' hK'=>?_) (λe c u ho he=>?_)
 ·refine jln (NW δ (jeq (jgA hK' λh1 hN=>jge hN)))
 refine z_V ?_;refine jan [] ((((n:Int).tmod 16 == 0) && decide (((n / 16:Nat):Int)≥2)) && (decide (((n / 16:Nat):Int)≤12))) (λK' hK'=>?_) (λe c u ho he=>?_)
 ·rw[ho];refine jgA hK' λh1 hN=>jle hN
 refine z_V ?_;rw[ho];refine BC (A:=[]) (RM.le.refl R) ?_;congr 1;unfold BW;rw[er,Ul];simp only[z_b,z_d,beq_iff_eq];constructor<;>rintro⟨⟨h1,h2⟩,h3⟩<;>exact⟨⟨ω,ω⟩,ω⟩
theorem IV (x:Option Addr) (n cc:Nat) (a size:Int) (hn:n < 1000000000000):Pu Ho [.slice x n cc,I a,I size] (.bool (fits n a size)):=by
 intro R;refine Lc λF=>?_
 refine z_3 ?_;refine jan [.slice x n cc,I a,I size] ((BW n) && (decide (size > 0))) (λK' hK'=>?_) (λe c u ho he=>?_)
 ·refine jp (JH x n cc hn) (jgA hK' λh1 hN=>jgr hN)
 refine z_V ?_;refine jan [.slice x n cc,I a,I size] ((BW n && decide (size > 0)) && (decide (size≤16))) (λK' hK'=>?_) (λe c u ho he=>?_)
 ·rw[ho];refine jgA hK' λh1 hN=>jle hN
 refine z_V ?_;refine jan [.slice x n cc,I a,I size] ((BW n && decide (size > 0) && decide (size≤16)) && (decide (a≥16))) (λK' hK'=>?_) (λe c u ho he=>?_)
 ·rw[ho];refine jgA hK' λh1 hN=>jge hN
 refine z_V ?_;refine jan [I a,I size] ((BW n && decide (size > 0) && decide (size≤16) && decide (a≥16)) && (decide (a < n))) (λK' hK'=>?_) (λe c u ho he=>?_)
 ·rw[ho];refine jgA hK' λh1 hN=>jln (jlt hN)
 refine z_V ?_;refine jan [] ((BW n && decide (size > 0) && decide (size≤16) && decide (a≥16) && decide (a < n)) && (AQ a == AQ (a + size - 1))) (λK' hK'=>?_) (λe c u ho he=>?_)
 ·rw[ho];refine jgA hK' λh1 hN=>?_
  have h2:=h1;simp only[z_b,z_d] at h2;have r1:AQ a≤9223372036854775807:=by unfold AQ;split<;>omega
  have r2:AQ (a + size - 1)≤9223372036854775807:=by unfold AQ;split<;>omega
  refine jp (CX a r1) (jad (jsu (jp (CX _ r2) (jeq hN))))
 refine z_V ?_;rw[ho];refine BC (A:=[]) (RM.le.refl R) ?_;congr 1
theorem JC {n:Int}:∀{l:List Int} {i:Nat} (h:i < l.length),l[i] = n→(∀k (hk:k < l.length),k < i→l[k]≠n)→l.idxOf n = i
 | [],i,h,_,_=>absurd h σ
 | a :: r,0,_,e,_=>by
  have e:a = n:=e;rw[List.idxOf_cons,e];simp
 | a :: r,i + 1,h,e,Bf=>by
  have h0:a≠n:=Bf 0 σ ω;have:=JC (by simpa using h) (by simpa using e) (λk hk hki=>by have:=Bf (k + 1) (by simpa using hk) ω;simpa using this);rw[List.idxOf_cons,this];have:(a == n) = false:=by simpa using h0
  rw[this];rfl
def eTh (t:AV) (rv nv:Value):List Value:=[I t.at_,I t.moved,I t.sh.refs,I t.sh.nums,rv,nv]
def ThV (R:RM) (v:Value) (t:AV):Prop:=∃rv nv,v = .agg (eTh t rv nv).toArray∧B9 R rv t.refs∧B9 R nv t.nums
theorem ThV.le {R R' : RM} {v:Value} {t:AV} (h:R.le R') (H:ThV R v t):ThV R' v t:=by
 obtain⟨rv,nv,h1,h2,h3⟩:=H;exact⟨rv,nv,h1,h2.le h,h3.le h⟩
theorem F2 {n:Nat} {a size:Int} (h:fits n a size = true):16≤a∧a + size≤n∧0 < size∧size≤16:=by
 unfold fits BW at h;simp only[z_b,z_d,beq_iff_eq] at h;obtain⟨⟨⟨⟨⟨⟨⟨h1,h2⟩,h3⟩,h4⟩,h5⟩,h6⟩,h7⟩,h8⟩:=h;unfold AQ at h8;rw[if_neg ω,if_neg ω] at h8;refine⟨h6,?_,h4,h5⟩;omega
theorem GP {w:Int} (h:(AN w).2 = true):0≤(AN w).1.refs∧(AN w).1.refs≤4∧0≤(AN w).1.nums∧(AN w).1.nums≤4∧AC (AN w).1 = 2 + (AN w).1.refs + (AN w).1.nums:=by
 unfold AN at h ⊢;split at h
 ·rename_i hc;rw[if_pos hc];have h1:Ao ⟨w / 16,w % 16⟩ = true:=by
   unfold Ao;simp only[z_b,z_d];omega
  refine⟨by dsimp only;omega,by dsimp only;omega,by dsimp only;omega,by dsimp only;omega,?_⟩;unfold AC;rw[if_pos h1]
 ·exact absurd h δ
theorem Kd {w:List Int} {k i:Nat} (h:k + i < w.length):(w.drop k).take (i + 1) = (w.drop k).take i ++ [w[k + i]]:=by
 rw[UL (by rw[Ud];omega),List.getElem_drop]
theorem O8 {R:RM} {wv:Value} {w:List Int} (a:Int) (h:B9 R wv w) (hl:w.length < 1000000000000) :
  Fn P Gp [wv,I a] R [] (λv R' A=>A = []∧∃x,ThV R' x (Am w a).1∧v = .tuple #[x,.bool (Am w a).2]):=by
 refine La λF=>?_
 refine z_2 ?_;obtain⟨wa,wc,hwv⟩:=h.sl;refine ja λb1=>?_
 have none_:∀(R1:RM) (G:Chs),R.le R1→(Am w a) = (EM,false)→∀{D:Chs} [At D b1 (C BG (eTh EM (SN) (SN)))] [Sf D F],True:=λ_ _ _ _ _ _ _=>trivial
 clear none_;rw[hwv];refine jp (IV wa w.length wc a 2 hl) (jif (λh2=>?_) (λh2=>?_))
 ·have h2:fits w.length a 2 = false:=by simpa using h2
  have et:Am w a = (EM,false):=by unfold Am;rw[h2];rfl
  refine jbd rfl rfl ?_;refine js rfl rfl (by exact z_n 6) rfl ?_;refine jla (by exact z_n 6) rfl ?_;refine BC (RM.le.refl R) ⟨rfl,_,?_,by rw[et]⟩;rw[et];exact⟨_,_,rfl,.inl ⟨rfl,rfl,rfl⟩,.inl ⟨rfl,rfl,rfl⟩⟩
 have h2:fits w.length a 2 = true:=by simpa using h2
 obtain⟨a0,a1,-,-⟩:=F2 h2;obtain⟨n,rfl⟩:∃n:Nat,a = n:=⟨a.toNat,ω⟩;rw[← hwv];refine jad (Ca h ω ω ?_);have e1:w[((n:Int) + 1).toNat]'(ω) = w[n + 1]:=getElem_congr_idx ω;rw[e1];refine jp (Dd _) (jex rfl (jex rfl ?_));have eg:w.getD (((n:Int)).toNat + 1) 0 = w[n + 1]:=by
  rw[Tj,Ty,Tl ω,Uj]
 have et0:Am w n = if (AN w[n + 1]).2 && fits w.length n (AC (AN w[n + 1]).1) then (⟨n,w.getD ((n:Int)).toNat 0,(AN w[n + 1]).1,seg w (n + 2) (AN w[n + 1]).1.refs,seg w (n + 2 + (AN w[n + 1]).1.refs) (AN w[n + 1]).1.nums⟩,true) else (EM,false):=by
  unfold Am;rw[if_pos h2,eg]
 have sr:=@GP w[n + 1];generalize AN w[n + 1] = s at et0 sr ⊢;obtain⟨s,sb⟩:=s;dsimp only at et0 sr ⊢;refine ja λb2=>?_
 refine js (cs':=[I s.refs,I s.nums]) rfl rfl σ rfl ?_;rw[hwv];refine jor [.slice wa w.length wc,I n,Pt b1,Pt b2] ((!sb) || (!fits w.length n (AC s))) (λK' hK'=>?_) (λe c u ho he=>?_)
 ·refine jgO hK' λh1 hN=>jla (l:=[I s.refs,I s.nums]) σ rfl (jp (Bm s) (jp (IV wa w.length wc n (AC s) hl) hN))
 refine z_V ?_;rw[ho];refine jif (λh3=>?_) (λh3=>?_)
 ·have et:Am w n = (EM,false):=by
   rw[et0,if_neg];intro hh;simp only[U8,UC,z_b] at h3 hh;rcases h3 with h3 | h3
   ·rw[h3] at hh;exact absurd hh.1 δ
   ·rw[h3] at hh;exact absurd hh.2 δ
  refine jbd rfl rfl ?_;refine js rfl rfl (by exact z_n 6) rfl ?_;refine jla (by exact z_n 6) rfl ?_;refine BC (RM.le.refl R) ⟨rfl,_,?_,by rw[et]⟩;rw[et];exact⟨_,_,rfl,.inl ⟨rfl,rfl,rfl⟩,.inl ⟨rfl,rfl,rfl⟩⟩
 simp only[Tp,UR] at h3;obtain⟨h3,h4⟩:=h3;obtain⟨s1,s2,s3,s4,s5⟩:=sr h3;obtain⟨-,f1,-,-⟩:=F2 h4;rw[h3,h4] at et0;simp only[Bool.and_self,if_true] at et0;have eg0:w.getD ((n:Int)).toNat 0 = w[n]:=by rw[Tj,Ty,Tl ω,Uj]
 rw[eg0] at et0;obtain⟨⟨r,hr⟩,⟨m,hm⟩⟩:(∃r:Nat,s.refs = r)∧(∃m:Nat,s.nums = m):=⟨⟨s.refs.toNat,ω⟩,⟨s.nums.toNat,ω⟩⟩;have es1:seg w ((n:Int) + 2) s.refs = (w.drop (n + 2)).take r:=by unfold seg;rw[hr,show ((n:Int) + 2).toNat = n + 2 by omega,Tj]
 have es2:seg w ((n:Int) + 2 + s.refs) s.nums = (w.drop (n + 2 + r)).take m:=by unfold seg;rw[hr,hm,show ((n:Int) + 2 + r).toNat = n + 2 + r by omega,Tj]
 rw[es1,es2] at et0;rw[← hwv];refine SI h ω ω λq hq=>hq _ _ ?_
 have e2:w[((n:Int)).toNat]'(ω) = w[n]:=getElem_congr_idx ω;rw[e2] at hq ⊢;refine jla σ rfl ?_;refine jbd rfl rfl ?_;refine ja λb3=>?_
 refine Aq (hq _ _ jev) (Aq (jla σ rfl jev) ?_);refine js rfl rfl (by exact z_n 6) rfl ?_;generalize hE:((b2,C F6 [I s.refs,I s.nums]) :: (b1,C BG (cl z59)) :: ([] ++ F)) = E;have ea:At E b1 (C BG (cl z59)):=by rw[← hE];exact inferInstance
 have ea2:At E b2 (C F6 [I s.refs,I s.nums]):=by rw[← hE];exact inferInstance
 refine AY (λvs R' D'=>R.le R'∧∃v1,B9 R' v1 ((w.drop (n + 2)).take r)∧D' = (b3,C BG (eTh ⟨n,w[n],s,[],[]⟩ v1 (SN))) :: E∧vs = [wv,I n,Pt b1,Pt b2,Pt b3]) (λK hK=>?_) ?_
 ·refine jcI hK λK2 hK2=>?_
  refine jlp (λk vs R' D'=>R' = R∧∃(i:Nat) (v1:Value) (A:Chs),i≤r∧SO ((w.drop (n + 2)).take i) v1 A∧D' = A ++ ((b3,C BG (eTh ⟨n,w[n],s,[],[]⟩ v1 (SN))) :: E)∧vs = [wv,I n,Pt b1,Pt b2,Pt b3,I i]∧k = r - i)
   (n:=r) ⟨rfl,0,SN,[],ω,.inl ⟨σ,rfl,rfl⟩,by rw[← hE];rfl,rfl,ω⟩ ?_
  rintro k e R1 D1 K3 ⟨hR,i,v1,A,hi,so,hD,he,hk⟩ hK3;subst hR;refine z_W ?_;clear hD;obtain⟨sa,sn,sc,hsl⟩:=so.sl;refine jl rfl (jlt (jif (λhc=>?_) (λhc=>?_)));rotate_left
  ·have hc:i = r:=by have:=z_g hc;omega
   subst hc;refine IN so λR2 hR2 hint=>?_
   exact hK2 _ _ _ ⟨hR2,v1,hint,rfl,rfl⟩
  have hc:i < r:=by have:=z_f hc;omega
  subst hsl;refine jl rfl (jad (jad (Ca h ω ω ?_)));have e3:w[((n:Int) + 2 + i).toNat]'(ω) = w[n + 2 + i]:=getElem_congr_idx ω;rw[e3];refine jbs rfl rfl λb4=>?_
  refine Aq (jl rfl jev) ?_;refine Aj U9.symm ?_;have hx:Ay R1 (A ++ ((b4,C 3 [I w[n + 2 + i]]) :: (b3,C BG (eTh ⟨n,w[n],s,[],[]⟩ (.slice sa sn sc) (SN))) :: E)) (some ⟨b4,0,none⟩) (1 * 1) ([w[n + 2 + i]].map I):=Ay.held (cs:=[I w[n + 2 + i]]) (z_n 1);refine jas so rfl (by rw[UA,U0];omega) hx λv' A' so'=>?_
  obtain⟨sa',sn',sc',rfl⟩:=so'.sl;refine jS (eTh ⟨n,w[n],s,[],[]⟩ (.slice sa' sn' sc') (SN)) ?_;refine jad ?_;refine B7 A' (G:=(b3,C BG (eTh ⟨n,w[n],s,[],[]⟩ (.slice sa' sn' sc') (SN))) :: E) ?_;exact hK3 (r - (i + 1)) _ _ _ ω ⟨rfl,i + 1,_,A',ω,by rw[Kd ω];exact so',rfl,rfl,rfl⟩
 rintro e R1 D1 ⟨hR,v1,hv1,hD,he⟩;refine z_W ?_;clear hD;obtain⟨ta,tc,htv⟩:=hv1.sl;have h1:=h.le hR;refine AY (λvs R' D'=>R.le R'∧B9 R' v1 ((w.drop (n + 2)).take r)∧∃v2,B9 R' v2 ((w.drop (n + 2 + r)).take m)∧D' = (b3,C BG (eTh ⟨n,w[n],s,[],[]⟩ v1 v2)) :: E∧vs = [Pt b1,Pt b3]) (λK hK=>?_) ?_
 ·refine jcI hK λK2 hK2=>?_
  refine jlp (λk vs R' D'=>R' = R1∧∃(i:Nat) (v2:Value) (A:Chs),i≤m∧SO ((w.drop (n + 2 + r)).take i) v2 A∧D' = A ++ ((b3,C BG (eTh ⟨n,w[n],s,[],[]⟩ v1 v2)) :: E)∧vs = [wv,I n,Pt b1,Pt b2,Pt b3,I i]∧k = m - i)
   (n:=m) ⟨rfl,0,SN,[],ω,.inl ⟨σ,rfl,rfl⟩,rfl,rfl,ω⟩ ?_
  rintro k e R2 D2 K3 ⟨hR2,i,v2,A,hi,so,hD,he,hk⟩ hK3;subst hR2;refine z_W ?_;clear hD;obtain⟨sa,sn,sc,hsl⟩:=so.sl;refine jl (v:=I s.nums) rfl (jlt (jif (λhc=>?_) (λhc=>?_)));rotate_left
  ·have hc:i = m:=by have:=z_g hc;omega
   subst hc;refine IN so λR3 hR3 hint=>?_
   exact hK2 _ _ _ ⟨hR.trans hR3,hv1.le hR3,v2,hint,rfl,rfl⟩
  have hc:i < m:=by have:=z_f hc;omega
  subst hsl;refine jl (v:=.slice sa sn sc) (by rw[htv];rfl) (jad (jl (v:=I s.refs) rfl (jad (jad (Ca h1 ω ω ?_)))));have e3:w[((n:Int) + 2 + s.refs + i).toNat]'(ω) = w[n + 2 + r + i]:=getElem_congr_idx ω;rw[e3];refine jbs (cs:=[I w[n + 2 + r + i]]) rfl rfl λb4=>?_
  refine Aq (jl (v:=.slice sa sn sc) (by rw[htv];rfl) jev) ?_;refine Aj U9.symm ?_;have hx:Ay R2 (A ++ ((b4,C 3 [I w[n + 2 + r + i]]) :: (b3,C BG (eTh ⟨n,w[n],s,[],[]⟩ v1 (.slice sa sn sc))) :: E)) (some ⟨b4,0,none⟩) (1 * 1) ([w[n + 2 + r + i]].map I):=Ay.held (t:=AZ) (cs:=[I w[n + 2 + r + i]]) (o:=0) (n:=1 * 1) (z_n 1);refine jas so rfl (by rw[UA,U0];omega) hx λv' A' so'=>?_
  obtain⟨sa',sn',sc',rfl⟩:=so'.sl;refine js (cs':=eTh ⟨n,w[n],s,[],[]⟩ v1 (.slice sa' sn' sc')) rfl rfl (by simp[eTh]) (by rw[htv];rfl) ?_;refine jad ?_;refine B7 A' (G:=(b3,C BG (eTh ⟨n,w[n],s,[],[]⟩ v1 (.slice sa' sn' sc'))) :: E) ?_;exact hK3 (m - (i + 1)) _ _ _ ω ⟨rfl,i + 1,_,A',ω,by rw[Kd ω];exact so',rfl,rfl,rfl⟩
 rintro e R2 D2 ⟨hR2,hv1,v2,hv2,hD,he⟩;refine z_W ?_;clear hD;obtain⟨ua,uc,huv⟩:=hv2.sl;subst htv huv hE;refine jla (l:=eTh ⟨n,w[n],s,[],[]⟩ _ _) (by exact z_n 6) rfl ?_;refine jS (eTh ⟨n,w[n],s,[],[]⟩ _ _) ?_;refine jla (l:=eTh ⟨n,w[n],s,[],[]⟩ _ _) (by exact z_n 6) rfl ?_;refine BC (A:=[]) hR2 ⟨rfl,_,?_,by rw[et0]⟩;rw[et0];exact⟨_,_,rfl,hv1,hv2⟩
def SW (t w:Nat) (rows:List (List Value)) (v:Value) (A:Chs):Prop:=
 (rows = []∧v = SN∧A = [])∨∃b c sp,rows.length≤c∧sp.length = (c - rows.length) * w∧v = S0 b rows.length c∧A = [(b,C t (rows.flatten ++ sp))]
theorem SW.sl {t w:Nat} {rows:List (List Value)} {v:Value} {A:Chs} (h:SW t w rows v A):∃a c,v = .slice a rows.length c:=by
 rcases h with ⟨rfl,rfl,_⟩ | ⟨b,c,sp,_,_,rfl,_⟩<;>exact⟨_,_,rfl⟩
theorem jaw {R:RM} {A E:Chs} {t w by_:Nat} {rows rows2:List (List Value)} {v:Value} {xa:Option Addr} {m cx:Nat} {zs:List Value} {k:Value→M} (so:SW t w rows v A)
  (hw:∀r∈rows,r.length = w) (hw2:∀r∈rows2,r.length = w) (hz:zs.length = w) (hf:Bn rows2.flatten = true) (hm:m = rows2.length) (hb:by_≠0) (hl:by_ * (2 * (rows.length + rows2.length) + 200)≤2 ^ 48) (hx:Ay R (A ++ E) xa (m * w) rows2.flatten)
  (H:∀v' A',SW t w (rows ++ rows2) v' A'→J R (A' ++ E) (k v')):J R (A ++ E) (AP t w by_ zs v (.slice xa m cx) k):=by
 subst hm;have fl:∀n,(List.replicate n zs).flatten.length = n * w:=λn=>by
  rw[BT (by intro x hx;rw[(Ue.1 hx).2,hz])];simp
 have l1:=BT hw;have l2:=BT hw2;rcases so with ⟨rfl,rfl,rfl⟩ | ⟨b,c,sp,hc,hsp,rfl,rfl⟩
 ·refine jap hx (by rw[V4];exact Ay.none_) hb (by simpa using hl) (λhc h hst=>?_) (λb c hc=>?_)
  ·have h0:rows2 = []:=UU.1 ω;subst h0;have:=H (SN) [] (.inl ⟨rfl,rfl,rfl⟩) h hst;simpa using this
  ·have:=H (S0 b rows2.length c) [(b,C t (rows2.flatten ++ (List.replicate (c - rows2.length) zs).flatten))] (.inr ⟨b,c,(List.replicate (c - rows2.length) zs).flatten,by simpa using hc,by rw[fl];simp,σ,σ⟩);simpa using this
 ·refine PL hx (by rw[Tn,l1,hsp,← Nat.add_mul];congr 1;omega) hc l2 hf hb hl (λh=>?_) (λb' c' h=>?_)
  ·have el:lay (rows.flatten ++ sp) (rows.length * w) rows2.flatten = (rows ++ rows2).flatten ++ sp.drop (rows2.length * w):=by
    rw[F5 ω,l1,Nat.sub_self];simp[lay,l2]
   rw[el];have:=H (S0 b (rows ++ rows2).length c) [(b,C t ((rows ++ rows2).flatten ++ sp.drop (rows2.length * w)))] (.inr ⟨b,c,_,by simpa using h,by rw[Ud,hsp,← Nat.sub_mul,Tn];congr 1;omega,rfl,rfl⟩);simpa using this
  ·refine Aj (Uq _ _ _) (CN ?_);have:=H (.slice (some ⟨b',0,none⟩) (rows ++ rows2).length c') [(b',C t ((rows ++ rows2).flatten ++ (List.replicate (c' - (rows.length + rows2.length)) zs).flatten))] (.inr ⟨b',c',_,by simpa using h,by rw[fl,Tn],rfl,rfl⟩);rw[UW ω,UG ω];simpa using this
theorem jfw {R:RM} {A E:Chs} {t w:Nat} {rows:List (List Value)} {v:Value} {m:M} (so:SW t w rows v A) (hw:∀r∈rows,r.length = w) (H:∀R',R.le R'→Fz R' v w rows.length rows.flatten→J R' E m):J R (A ++ E) m:=by
 rcases so with ⟨rfl,rfl,rfl⟩ | ⟨b,c,sp,hc,hsp,rfl,rfl⟩
 ·exact H R (RM.le.refl _) (.inl ⟨rfl,rfl,rfl⟩)
 ·refine Bc (t:=⟨UV _⟩) λR2 hR2 hb=>(H R2 hR2 (.inr ⟨b,0,c,t,_,rfl,hb,by rw[Tn,BT hw];omega,by rw[Ur,← BT hw];simp,hc⟩))
def Rw {α:Type} (p:List Value→α→Prop) (rows:List (List Value)) (l:List α):Prop:=rows.length = l.length∧∀i (h:i < rows.length) (h' : i < l.length),p rows[i] l[i]
theorem Rw.nil {α:Type} {p:List Value→α→Prop}:Rw p [] []:=⟨rfl,λi h=>absurd h σ⟩
theorem Rw.app {α:Type} {p:List Value→α→Prop} {r1 r2:List (List Value)} {l1 l2:List α} (h1:Rw p r1 l1) (h2:Rw p r2 l2):Rw p (r1 ++ r2) (l1 ++ l2):=by
 refine⟨by rw[Tn,Tn,h1.1,h2.1],λi h h'=>?_⟩;by_cases c:i < r1.length
 ·rw[V1 c,V1 (by rw[← h1.1];exact c)];exact h1.2 i c _
 ·rw[VB ω,VB (by rw[← h1.1];omega)];have e:i - l1.length = i - r1.length:=by rw[h1.1]
  rw[getElem_congr_idx e];rw[Tn] at h h';have:=h1.1;exact h2.2 _ ω ω
theorem Rw.one {α:Type} {p:List Value→α→Prop} {r:List Value} {x:α} (h:p r x):Rw p [r] [x]:=by
 refine⟨rfl,λi h1 h2=>?_⟩;have:i = 0:=by simp at h1;omega
 subst this;exact h
theorem Rw.mono {α:Type} {p q:List Value→α→Prop} {r:List (List Value)} {l:List α} (h:Rw p r l) (H:∀x y,p x y→q x y):Rw q r l:=⟨h.1,λi h1 h2=>H _ _ (h.2 i h1 h2)⟩
theorem Rw.all {α:Type} {p:List Value→α→Prop} {r:List (List Value)} {l:List α} (h:Rw p r l) {q:List Value→Prop} (H:∀x y,p x y→q x):∀x∈r,q x:=by
 intro x hx;obtain⟨i,hi,rfl⟩:=UE hx;exact H _ _ (h.2 i hi (by rw[← h.1];exact hi))
theorem Ko {w:Nat}:∀{rows:List (List Value)} {i:Nat} (_:∀r∈rows,r.length = w) (h:i < rows.length),(rows.flatten.drop (i * w)).take w = rows[i]
 | [],i,_,h=>absurd h σ
 | a :: r,0,hw,_=>by
  have:a.length = w:=hw a σ;rw[V4,Ur,Un,UW ω,UG ω];rfl
 | a :: r,i + 1,hw,h=>by
  have h1:a.length = w:=hw a σ;rw[Un,Nat.succ_mul,List.drop_append,List.drop_of_length_le ω,zl,h1,Uz];exact Ko (λr hr=>hw r (by simp[hr])) (by simpa using h)
theorem Hy {R:RM} {v:Value} {w:Nat} {rows:List (List Value)} {i:Nat} (h:Fz R v w rows.length rows.flatten) (hw:∀r∈rows,r.length = w) (hi:i < rows.length) :
  ∃b o cap t cs,v = .slice (some ⟨b,o,none⟩) rows.length cap∧R b = some (C t cs)∧o + i * w + w≤cs.length∧(cs.drop (o + i * w)).take w = rows[i]:=by
 rcases h with ⟨_,h2,_⟩ | ⟨b,o,cap,t,cs,rfl,h2,h3,h4,h5⟩
 ·omega
 ·refine⟨b,o,cap,t,cs,rfl,h2,?_,?_⟩
  ·have:(i + 1) * w≤rows.length * w:=Ut w ω;rw[Nat.succ_mul] at this;omega
  ·rw[← Ko hw hi,← h4,List.drop_take,List.drop_drop,List.take_take];congr 1;have:(i + 1) * w≤rows.length * w:=Ut w ω;rw[Nat.succ_mul] at this;omega
def ThC (R:RM) (row:List Value) (t:AV):Prop:=∃rv nv,row = eTh t rv nv∧B9 R rv t.refs∧B9 R nv t.nums
theorem ThC.le {R R' : RM} {row:List Value} {t:AV} (h:R.le R') (H:ThC R row t):ThC R' row t:=by
 obtain⟨rv,nv,h1,h2,h3⟩:=H;exact⟨rv,nv,h1,h2.le h,h3.le h⟩
theorem ThC.len {R:RM} {row:List Value} {t:AV} (H:ThC R row t):row.length = 6:=by
 obtain⟨rv,nv,rfl,h2,h3⟩:=H;rfl
theorem ThC.flat {R:RM} {row:List Value} {t:AV} (H:ThC R row t):Bn row = true:=by
 obtain⟨rv,nv,rfl,h2,h3⟩:=H;obtain⟨_,_,rfl⟩:=h2.sl;obtain⟨_,_,rfl⟩:=h3.sl;rfl
def Tgs (R:RM) (v:Value) (l:List AV):Prop:=∃rows,Rw (ThC R) rows l∧Fz R v 6 rows.length rows.flatten
theorem Tgs.le {R R' : RM} {v:Value} {l:List AV} (h:R.le R') (H:Tgs R v l):Tgs R' v l:=by
 obtain⟨rows,h1,h2⟩:=H;exact⟨rows,h1.mono λ_ _=>ThC.le h,h2.le h⟩
theorem Tgs.sl {R:RM} {v:Value} {l:List AV} (H:Tgs R v l):∃a c,v = .slice a l.length c:=by
 obtain⟨rows,h1,h2⟩:=H;obtain⟨a,cap,e,-⟩:=Fz.reads (D:=[]) h2;exact⟨a,cap,by rw[e,h1.1]⟩
theorem Cq {R:RM} {D:Chs} {v:Value} {n:Nat} {k:Value→M} (h:∃a c,v = .slice a n c) (H:J R D (k (I n))):J R D (LN v k):=by
 obtain⟨a,c,rfl⟩:=h;exact H
theorem jtg {R:RM} {D:Chs} {v:Value} {l:List AV} {i:Nat} {k:Value→M} (h:Tgs R v l) (hi:i < l.length)
  (H:∀b o t cs rv nv,B9 R rv (l[i]).refs→B9 R nv (l[i]).nums→R b = some (C t cs)→o + 6≤cs.length→(cs.drop o).take 6 = eTh l[i] rv nv→J R D (k (.pointer (some ⟨b,o,none⟩)))):J R D (IA 6 v (I (i:Int)) k):=by
 obtain⟨rows,h1,h2⟩:=h;have hi' : i < rows.length:=by rw[h1.1];exact hi
 obtain⟨b,o,cap,t,cs,rfl,hb,hl,hc⟩:=Hy h2 (h1.all λ_ _=>ThC.len) hi';obtain⟨rv,nv,e,r1,r2⟩:=h1.2 i hi' hi;refine jia ω ω ?_;rw[Tj];exact H b (o + i * 6) t cs rv nv r1 r2 hb hl (by rw[hc,e])
theorem Bo {cs row:List Value} {o w f:Nat} {x:Value} (h:(cs.drop o).take w = row) (hf:row[f]? = some x):cs[o + f]? = some x:=by
 rw[← h,Ub,UX] at hf;split at hf
 ·exact hf
 ·cases hf
end Go.Lf
end
section
namespace Go.Lf
open Go Sm
theorem LJ (s:Shp):0≤AC s∧AC s≤10:=by
 unfold AC;split
 ·rename_i h;unfold Ao at h;simp only[z_b,z_d] at h;omega
 ·omega
theorem IT {w:List Int} {a:Int} (h:(Am w a).2 = true):2≤AC (Am w a).1.sh:=by
 unfold Am at h ⊢;split at h
 ·rename_i h1;rw[if_pos h1];dsimp only at h ⊢;split at h
  ·rename_i h2;rw[if_pos h2];simp only[z_b] at h2;have:=GP h2.1;dsimp only;omega
  ·exact absurd h δ
 ·exact absurd h δ
def QTs (r:Option (List AV)) (v:Value) (R:RM):Prop:=match r with
 | none=>v = .tuple #[SN,.bool false]
 | some l=>∃tv,Tgs R tv l∧v = .tuple #[tv,.bool true]
theorem MD {R:RM} {wv:Value} {w:List Int} (r top:Int) (h:B9 R wv w) (hl:w.length < 1000000000000) :
  Fn P Fv [wv,I r,I top] R [] (λv R' A=>A = []∧QTs (BR w r top) v R'):=by
 refine Jb λF=>?_
 refine z_3 ?_;obtain⟨wa,wc,hwv⟩:=h.sl;have eq:(w.length:Int).tdiv 16 = (w.length / 16:Nat):=by rw[Uw ω];omega
 rw[hwv];have br:0≤AG r∧AG r≤176:=by unfold AG;split<;>omega
 refine jor [.slice wa w.length wc,I r,I top] ((!BW w.length) || (decide (r < 1))) (λK' hK'=>?_) (λe c u ho he=>?_)
 ·refine jp (JH wa w.length wc hl) (jgO hK' λh1 hN=>jlt hN)
 refine z_V ?_;refine jor [.slice wa w.length wc,I r,I top] ((!BW w.length || decide (r < 1)) || (decide (r≥(w.length:Int).tdiv 16))) (λK' hK'=>?_) (λe c u ho he=>?_)
 ·rw[ho];refine jgO hK' λh1 hN=>jln (Pk δ ⟨ω,ω⟩ (jge hN))
 refine z_V ?_;refine jor [.slice wa w.length wc,I r,I top] ((!BW w.length || decide (r < 1) || decide (r≥(w.length:Int).tdiv 16)) || (decide (top < AG r))) (λK' hK'=>?_) (λe c u ho he=>?_)
 ·rw[ho];refine jgO hK' λh1 hN=>jp (Ax r) (jlt hN)
 refine z_V ?_;refine jor [.slice wa w.length wc,I r,I top] ((!BW w.length || decide (r < 1) || decide (r≥(w.length:Int).tdiv 16) || decide (top < AG r)) || (decide (top > AG r + 16))) (λK' hK'=>?_) (λe c u ho he=>?_)
 ·rw[ho];refine jgO hK' λh1 hN=>jp (Ax r) (jad (jgr hN))
 refine z_V ?_;rw[ho];refine jif (λh0=>?_) (λh0=>?_)
 ·refine BC (RM.le.refl R) ⟨rfl,?_⟩;have:BR w r top = none:=by
   unfold BR;rw[if_neg];intro hh;simp only[U8,UC,z_d,z_b] at h0 hh;rw[eq] at h0;obtain⟨⟨⟨⟨g1,g2⟩,g3⟩,g4⟩,g5⟩:=hh;rw[g1] at h0;rcases h0 with (((h0 | h0) | h0) | h0) | h0
   ·exact absurd h0 δ
   all_goals omega
  rw[this];exact rfl
 simp only[Tp,UR,decide_eq_false_iff_not] at h0;rw[eq] at h0;obtain⟨⟨⟨⟨g1,g2⟩,g3⟩,g4⟩,g5⟩:=h0;have et:BR w r top = Ag w 16 (AG r) top:=by
  unfold BR;rw[if_pos];simp only[z_b,z_d];exact⟨⟨⟨⟨g1,ω⟩,ω⟩,ω⟩,ω⟩
 rw[← hwv];refine jp (Ax r) (AY (λvs R' D'=>R.le R'∧∃l tv A,BR w r top = some l∧(∃rows,Rw (ThC R') rows l∧SW BG 6 rows tv A)∧D' = A ++ ([] ++ F)∧vs = [tv]) (λK hK=>?_) ?_);rotate_left
 ·rintro e R1 D1 ⟨hR,l,tv,A,hl,⟨rows,hrw,so⟩,hD,he⟩;refine z_W ?_;refine jfw so (hrw.all λ_ _=>ThC.len) λR2 hR2 hfz=>(BC (hR.trans hR2) ⟨rfl,?_⟩)
  rw[hl];exact⟨tv,⟨rows,hrw.mono λ_ _=>ThC.le hR2,hfz⟩,rfl⟩
 refine jcI hK λK2 hK2=>?_
 refine jlp (λm vs R' D'=>R.le R'∧∃(a:Int) (l:List AV) (tv:Value) (A:Chs) (rows:List (List Value)),m≤16∧AG r + 2 * (16 - m)≤a∧a≤top∧l.length≤16 - m∧(match Ag w m a top with | none=>none | some l2=>some (l ++ l2)) = BR w r top∧Rw (ThC R') rows l∧SW BG 6 rows tv A∧D' = A ++ ([] ++ F)∧vs = [wv,I top,tv,I a])
  (n:=16) ⟨RM.le.refl R,AG r,[],SN,[],[],ω,ω,ω,σ,by rw[et];cases Ag w 16 (AG r) top<;>rfl,Rw.nil,.inl ⟨rfl,rfl,rfl⟩,rfl,rfl⟩ ?_
 rintro m e R1 D1 K3 ⟨hR,a,l,tv,A,rows,hm,ha,hat,hll,hth,hrw,so,hD,he⟩ hK3;refine z_W ?_;have h1:=h.le hR;refine jlt (jif (λhc=>?_) (λhc=>?_));rotate_left
 ·have hc:=z_g hc;refine hK2 _ _ _ ⟨hR,l,tv,A,?_,⟨rows,hrw,so⟩,rfl,rfl⟩;rw[← hth];cases m<;>(unfold Ag;rw[if_neg hc];simp)
 have hc:=z_f hc;obtain⟨m,rfl⟩:∃k,m = k + 1:=⟨m - 1,ω⟩;unfold Ag at hth;rw[if_pos hc] at hth;dsimp only at hth;obtain⟨sz1,sz2⟩:=LJ (Am w a).1.sh;have tsz:=@IT w a;refine jc (O8 a h1 hl) ?_;rintro _ R2 _ hR2 ⟨rfl,x,⟨rv,nv,rfl,hrv,hnv⟩,rfl⟩;generalize Am w a = t at hth hrv hnv sz1 sz2 tsz ⊢;obtain⟨t,tb⟩:=t;dsimp only at hth hrv hnv sz1 sz2 tsz ⊢;obtain⟨ra,rc,rfl⟩:=hrv.sl;obtain⟨na,nc,rfl⟩:=hnv.sl;refine jex rfl (jex rfl (ja λb=>(js rfl rfl (by exact z_n 6) rfl (jor [wv,I top,tv,I a,Pt b] ((!tb) || (decide (a + AC t.sh > top))) (λK' hK'=>?_) (λe c u ho he=>?_)))))
 ·refine jgO hK' λh1 hN=>jfo (jla (l:=[I t.sh.refs,I t.sh.nums]) (by exact (by decide:4≤6)) rfl (jp (Bm t.sh) (jad (jgr hN))))
 refine z_V ?_;rw[ho];refine jif (λh0=>?_) (λh0=>?_)
 ·refine BC (hR.trans hR2) ⟨rfl,?_⟩;have:BR w r top = none:=by
   rw[← hth,if_neg];intro hh;simp only[U8,UC,z_d,z_b] at h0 hh;rcases h0 with h0 | h0
   ·rw[h0] at hh;exact absurd hh.1 δ
   ·omega
  rw[this];exact rfl
 simp only[Tp,UR,decide_eq_false_iff_not] at h0;obtain⟨h2,h3⟩:=h0;rw[if_pos (by rw[h2];simp;omega)] at hth;have tsz:=tsz h2;refine jla (by exact z_n 6) rfl (jbs rfl rfl λb4=>(Aj (D':=(b4,C BG (eTh t (.slice ra t.refs.length rc) (.slice na t.nums.length nc))) :: ((b,C BG (eTh t (.slice ra t.refs.length rc) (.slice na t.nums.length nc))) :: (A ++ ([] ++ F)))) (UV _) (B7 A (G:=(b4,C BG (eTh t (.slice ra t.refs.length rc) (.slice na t.nums.length nc))) :: (b,C BG (eTh t (.slice ra t.refs.length rc) (.slice na t.nums.length nc))) :: ([] ++ F)) ?_)));have hx:Ay R2 (A ++ ((b4,C BG (eTh t (.slice ra t.refs.length rc) (.slice na t.nums.length nc))) :: (b,C BG (eTh t (.slice ra t.refs.length rc) (.slice na t.nums.length nc))) :: ([] ++ F))) (some ⟨b4,0,none⟩) (1 * 6) [eTh t (.slice ra t.refs.length rc) (.slice na t.nums.length nc)].flatten:=Ay.held (cs:=eTh t (.slice ra t.refs.length rc) (.slice na t.nums.length nc)) (z_n 6);have hrl:=hrw.1;refine jaw so (hrw.all λ_ _=>ThC.len) (by intro r hr;rw[U2.1 hr];rfl) rfl rfl rfl δ (by rw[U0];omega) hx λv' A' so'=>(jfo (jla (l:=[I t.sh.refs,I t.sh.nums]) (by exact (by decide:4≤6)) rfl (jp (Bm t.sh) (jad (B7 A' (G:=[] ++ F) (hK3 m _ _ _ ω ⟨hR.trans hR2,a + AC t.sh,l ++ [t],v',A',rows ++ [eTh t (.slice ra t.refs.length rc) (.slice na t.nums.length nc)],ω,ω,ω,by rw[Tn,U0];omega,?_,(hrw.mono λ_ _=>ThC.le hR2).app (Rw.one ⟨_,_,rfl,hrv,hnv⟩),so',rfl,rfl⟩))))))
 rw[← hth];cases Ag w m (a + AC t.sh) top with
 | none=>rfl
 | some l2=>simp
def RdI (R:RM) (D:Chs) (v:Value) (l:List Int):Prop:=(∃a c,v = .slice a l.length c)∧∀(F:Chs) (i:Nat) (h:i < l.length) (k:Value→M),J R (D ++ F) (k (I l[i]))→J R (D ++ F) (IA 1 v (I (i:Int)) λx=>L1 x k)
theorem B9.rd {R:RM} {D:Chs} {v:Value} {l:List Int} (h:B9 R v l):RdI R D v l:=
 ⟨h.sl,λF i hi k H=>Ca h ω ω (by rw[getElem_congr_idx (Tj i)];exact H)⟩
theorem SO.rd {R:RM} {A E:Chs} {v:Value} {l:List Int} (h:SO l v A):RdI R (A ++ E) v l:=by
 rcases h with ⟨rfl,rfl,rfl⟩ | ⟨b,c,sp,hc,hsp,rfl,rfl⟩
 ·exact⟨⟨_,_,rfl⟩,λF i hi=>absurd hi σ⟩
 ·refine⟨⟨_,_,rfl⟩,λF i hi k H=>Bk hi (jl (by rw[Tw,UY];exact Fh hi) H)⟩
theorem GC {R:RM} {D:Chs} {v:Value} {l:List Int} (n:Int) (h:RdI R D v l) (hl:l.length < 1000000000000):Ro Gy [v,I n] (I (BV l n)) R D:=by
 refine L2 λF=>?_
 refine z_2 ?_;obtain⟨hsl,h⟩:=h;refine jlp (λm vs R' D'=>R' = R∧D' = D ++ F∧∃i:Nat,i≤l.length∧vs = [v,I n,I i]∧m = l.length - i∧∀k (hk:k < l.length),k < i→l[k]≠n)
  (n:=l.length) ⟨rfl,rfl,0,ω,rfl,ω,λk _ h=>ω⟩ ?_
 rintro m e R1 D1 K ⟨hR1,hD,i,hi,he,hm,Bf⟩ hK;subst hR1;refine z_W ?_;refine Cq hsl (jlt (jif (λhc=>?_) (λhc=>?_)))
 ·have hc:i < l.length:=by have:=z_f hc;omega
  refine h F i hc _ (jeq (jif (λhq=>?_) (λhq=>?_)))
  ·refine Bi ?_;have hq:=eq_of_beq hq;have hm:n∈l:=by rw[← hq];exact U6 hc
   unfold BV;rw[if_pos hm,JC hc hq Bf]
  ·have hq:=ne_of_beq_false hq;refine jad (hK (l.length - (i + 1)) _ _ _ ω ⟨rfl,rfl,i + 1,ω,rfl,rfl,λk hk hki=>?_⟩);by_cases c:k = i
   ·subst c;exact hq
   ·exact Bf k hk ω
 ·have hc:¬ i < l.length:=by have:=z_g hc;omega
  refine Bi ?_;have hm:n ∉ l:=by
   intro hm;obtain⟨k,hk,hkn⟩:=UE hm;exact Bf k hk ω hkn
  unfold BV;rw[if_neg hm]
theorem HR {R:RM} {A E G:Chs} {l:List Int} {v:Value} {x:Int} {b1 t cx:Nat} {k:Value→M} (so:SO l v A) (hl:l.length + 1 < 1000000000000)
  [s:Sp G A E] (H:∀v' A',SO (l ++ [x]) v' A'→J R (A' ++ E) (k v')):J R ((b1,C t [I x]) :: G) (AP AZ 1 8 [I 0] v (S0 b1 1 cx) k):=by
 have hp:((b1,C t [I x]) :: G).Perm (A ++ ((b1,C t [I x]) :: E)):=(s.p.cons _).trans U9.symm;refine Aj hp ?_;have hx:Ay R (A ++ ((b1,C t [I x]) :: E)) (some ⟨b1,0,none⟩) (1 * 1) ([x].map I):=Ay.held (cs:=[I x]) (z_n 1);refine jas so rfl (by simpa using hl) hx λv' A' so'=>(Aj U9 (CN (H v' A' so')))
theorem QN {R:RM} {A:Chs} {v:Value} {l:List Int} (a:Int) (so:SO l v A) (hl:l.length < 1000000):Fn P JJ [v,I a] R A (λv' R' A'=>R' = R∧SO (Cg l a) v' A'):=by
 refine OE λF=>?_
 refine z_2 ?_;obtain⟨sa,sn,sc,hsl⟩:=so.sl;refine jor [v,I a] ((a == 0) || (decide (BV l a≥0))) (λK' hK'=>?_) (λe c u ho he=>?_)
 ·refine jeq (jgO hK' λh1 hN=>jro (GC a so.rd ω) (jge hN))
 refine z_V ?_;rw[ho];have hp:decide (BV l a≥0) = decide (a∈l):=by
  unfold BV;by_cases c:a∈l
  ·rw[if_pos c,decide_eq_true c,decide_eq_true ω]
  ·rw[if_neg c,decide_eq_false c,decide_eq_false ω]
 rw[hp];refine jif (λh0=>?_) (λh0=>?_)
 ·simp only[U8,beq_iff_eq,z_d] at h0;refine BC (A:=A) (RM.le.refl R) ?_;unfold Cg;rw[if_pos h0];exact⟨rfl,so⟩
 ·have h0:¬ (a = 0∨a∈l):=by simpa using h0
  refine jbs rfl rfl λb1=>(HR so ω λv' A' so'=>(BC (A:=A') (RM.le.refl R) ?_))
  unfold Cg;rw[if_neg h0];exact⟨rfl,so'⟩
def Pf (l:List AV) (a:Int):Int:=match l.findIdx? λt=>t.at_ == a with | some i=>(i:Int) | none=>-1
theorem Fy {R:RM} {D:Chs} {v:Value} {l:List AV} (a:Int) (h:Tgs R v l) (hl:l.length < 1000000000000):Ro IJ [v,I a] (I (Pf l a)) R D:=by
 refine Le λF=>?_
 refine z_2 ?_;refine jlp (λm vs R' D'=>R' = R∧D' = D ++ F∧∃i:Nat,i≤l.length∧vs = [v,I a,I i]∧m = l.length - i∧∀k (hk:k < l.length),k < i→(l[k]).at_≠a)
  (n:=l.length) ⟨rfl,rfl,0,ω,rfl,ω,λk _ h=>ω⟩ ?_
 rintro m e R1 D1 K ⟨hR1,hD,i,hi,he,hm,Bf⟩ hK;subst hR1;refine z_W ?_;refine Cq h.sl (jlt (jif (λhc=>?_) (λhc=>?_)))
 ·have hc:i < l.length:=by have:=z_f hc;omega
  refine jtg h hc λb o t cs rv nv _ _ hb ho hrow=>(jfo (jlr hb (Bo hrow rfl) (jeq (jif (λhq=>?_) (λhq=>?_)))))
  ·refine Bi ?_;have hq:=eq_of_beq hq;unfold Pf;have:l.findIdx? (λt=>t.at_ == a) = some i:=by
    rw[List.findIdx?_eq_some_iff_getElem];exact⟨hc,by simpa using hq,λj hj=>by simpa using Bf j ω hj⟩
   rw[this]
  ·have hq:=ne_of_beq_false hq;refine jad (hK (l.length - (i + 1)) _ _ _ ω ⟨rfl,rfl,i + 1,ω,rfl,rfl,λk hk hki=>?_⟩);by_cases c:k = i
   ·subst c;exact hq
   ·exact Bf k hk ω
 ·have hc:¬ i < l.length:=by have:=z_g hc;omega
  refine Bi ?_;have:l.findIdx? (λt=>t.at_ == a) = none:=by
   rw[List.findIdx?_eq_none_iff];intro x hx;obtain⟨k,hk,rfl⟩:=UE hx;have:=Bf k hk ω;simpa using this
  unfold Pf;rw[this]
theorem HG {l:List AV} {a:Int} {t:AV} (h:CD l a = some t):∃(i:Nat) (hi:i < l.length),Pf l a = i∧l[i] = t:=by
 unfold CD at h;have h2:(l.findIdx? λt=>t.at_ == a)≠none:=by
  intro hn;rw[List.findIdx?_eq_none_iff] at hn;have:=List.find?_some h;have hm:=VC h;rw[hn t hm] at this;cases this
 cases hi:l.findIdx? (λt=>t.at_ == a) with
 | none=>exact absurd hi h2
 | some i=>
  have hi2:=hi;rw[List.findIdx?_eq_some_iff_getElem] at hi2;obtain⟨hlt,hp,Bf⟩:=hi2;refine⟨i,hlt,by unfold Pf;rw[hi],?_⟩;have:l.find? (λt=>t.at_ == a) = some l[i]:=by
   rw[List.find?_eq_some_iff_getElem];exact⟨hp,i,hlt,rfl,λj hj=>by simpa using Bf j hj⟩
  rw[this] at h;exact (Tq _ _).mp h
theorem HD {R:RM} {D:Chs} {v:Value} {l:List AV} {a x:Int} (h:Tgs R v l) (hl:l.length < 1000000000000) (hx:now l a = some x):Ro JE [v,I a] (I x) R D:=by
 refine Nt λF=>?_
 refine z_2 ?_;unfold now at hx;refine jeq (jif (λh0=>?_) (λh0=>?_))
 ·rw[if_pos (eq_of_beq h0)] at hx;simp only[Tq] at hx;exact Bi (by rw[hx])
 ·rw[if_neg (ne_of_beq_false h0)] at hx;obtain⟨t,ht,rfl⟩:=Option.map_eq_some_iff.1 hx;obtain⟨i,hi,hp,rfl⟩:=HG ht;refine jro (Fy a h hl) ?_;rw[hp];refine jtg h hi λb o t cs rv nv _ _ hb ho hrow=>(jfo (jlr hb (Bo hrow rfl) (Bi rfl)))
def eSt (s:Sm.Ah) (wv tv mv thv ov pv:Value):List Value:=[wv,tv,mv,I s.AW,.bool s.stop,.bool s.full,.bool s.Ai,I s.want,thv,ov,pv,I s.B8,I s.Be]
def Rgs (R:RM) (v:Value) (t:List Rg):Prop:=Fz R v 5 t.length (Aa eRg t)
def Bls (R:RM) (v:Value) (l:List Bool):Prop:=Fz R v 1 l.length (l.map Value.bool)
def DB (R:RM) (row:List Value) (t:Th):Prop:=∃rv,row = [rv,I t.next,.bool t.busy,I t.BB]∧B9 R rv t.AA
def Ths (R:RM) (v:Value) (l:List Th):Prop:=∃rows,Rw (DB R) rows l∧Fz R v 4 rows.length rows.flatten
structure StC (R:RM) (s:Sm.Ah) (wv tv mv thv ov pv:Value):Prop where
 w:B9 R wv s.A5
 t:Rgs R tv s.A0
 m:Bls R mv s.AJ
 th:Ths R thv s.AB
 o:B9 R ov s.old
 p:B9 R pv s.AI
theorem DB.le {R R' : RM} {row:List Value} {t:Th} (h:R.le R') (H:DB R row t):DB R' row t:=by
 obtain⟨rv,h1,h2⟩:=H;exact⟨rv,h1,h2.le h⟩
theorem DB.len {R:RM} {row:List Value} {t:Th} (H:DB R row t):row.length = 4:=by obtain⟨rv,rfl,h2⟩:=H;rfl
theorem DB.flat {R:RM} {row:List Value} {t:Th} (H:DB R row t):Bn row = true:=by
 obtain⟨rv,rfl,h2⟩:=H;obtain⟨_,_,rfl⟩:=h2.sl;rfl
theorem Ths.le {R R' : RM} {v:Value} {l:List Th} (h:R.le R') (H:Ths R v l):Ths R' v l:=by
 obtain⟨rows,h1,h2⟩:=H;exact⟨rows,h1.mono λ_ _=>DB.le h,h2.le h⟩
theorem Ths.sl {R:RM} {v:Value} {l:List Th} (H:Ths R v l):∃a c,v = .slice a l.length c:=by
 obtain⟨rows,h1,h2⟩:=H;obtain⟨a,cap,e,-⟩:=Fz.reads (D:=[]) h2;exact⟨a,cap,by rw[e,h1.1]⟩
theorem Fz.sl {R:RM} {v:Value} {w n:Nat} {cells:List Value} (H:Fz R v w n cells):∃a c,v = .slice a n c:=by
 obtain⟨a,cap,e,-⟩:=Fz.reads (D:=[]) H;exact⟨a,cap,e⟩
theorem StC.le {R R' : RM} {s:Sm.Ah} {wv tv mv thv ov pv:Value} (h:R.le R') (H:StC R s wv tv mv thv ov pv):StC R' s wv tv mv thv ov pv:=
 ⟨H.w.le h,Fz.le h H.t,Fz.le h H.m,H.th.le h,H.o.le h,H.p.le h⟩
theorem P9 (t:List Rg):∀r∈t.map eRg,r.length = 5:=by
 intro r hr;obtain⟨x,_,rfl⟩:=UK.1 hr;rfl
theorem jrg {R:RM} {D:Chs} {v:Value} {t:List Rg} {i:Nat} {k:Value→M} (h:Rgs R v t) (hi:i < t.length)
  (H:∀b o ty cs,R b = some (C ty cs)→o + 5≤cs.length→(cs.drop o).take 5 = eRg t[i]→J R D (k (.pointer (some ⟨b,o,none⟩)))):J R D (IA 5 v (I (i:Int)) k):=by
 have h' : Fz R v 5 (t.map eRg).length (t.map eRg).flatten:=by rw[Tr];exact h
 obtain⟨b,o,cap,ty,cs,rfl,hb,hl,hc⟩:=Hy h' (P9 t) (by simpa using hi);refine jia ω (by rw[Tr];omega) ?_;rw[Tj];exact H b (o + i * 5) ty cs hb hl (by rw[hc,V0])
theorem jtr {R:RM} {D:Chs} {v:Value} {l:List Th} {i:Nat} {k:Value→M} (h:Ths R v l) (hi:i < l.length)
  (H:∀b o ty cs rv,B9 R rv (l[i]).AA→R b = some (C ty cs)→o + 4≤cs.length→(cs.drop o).take 4 = [rv,I (l[i]).next,.bool (l[i]).busy,I (l[i]).BB]→J R D (k (.pointer (some ⟨b,o,none⟩)))):J R D (IA 4 v (I (i:Int)) k):=by
 obtain⟨rows,h1,h2⟩:=h;have hi' : i < rows.length:=by rw[h1.1];exact hi
 obtain⟨b,o,cap,ty,cs,rfl,hb,hl,hc⟩:=Hy h2 (h1.all λ_ _=>DB.len) hi';obtain⟨rv,e,r1⟩:=h1.2 i hi' hi;refine jia ω ω ?_;rw[Tj];exact H b (o + i * 4) ty cs rv r1 hb hl (by rw[hc,e])
theorem Oc {rows:List (List Value)} (h:∀r∈rows,Bn r = true):Bn rows.flatten = true:=by
 unfold Bn at h ⊢;rw[UB];intro x hx;obtain⟨r,hr,hx⟩:=List.mem_flatten.1 hx;exact UB.1 (h r hr) x hx
theorem L3 {w:List Int}:∀{n:Nat} {a top:Int} {l:List AV},Ag w n a top = some l→l.length≤n
 | 0,a,top,l,h=>by
  unfold Ag at h;split at h
  ·cases h
  ·cases h;simp
 | n + 1,a,top,l,h=>by
  unfold Ag at h;split at h
  ·dsimp only at h;split at h
   ·split at h
    ·rename_i l2 h2;cases h;have:=L3 h2;simp;omega
    ·cases h
   ·cases h
  ·cases h;simp
theorem PJ {w:List Int} {r top:Int} {l:List AV} (h:BR w r top = some l):l.length≤16:=by
 unfold BR at h;split at h
 ·exact L3 h
 ·cases h
theorem Lb {R:RM} {s:Sm.Ah} {wv tv mv thv ov pv:Value} (h:StC R s wv tv mv thv ov pv) (hw:s.A5.length < 1000000) (ht:s.A0.length < 1000000) :
  Fn P GG [.agg (eSt s wv tv mv thv ov pv).toArray] R [] (λv R' A=>A = []∧QTs (BP s) v R'):=by
 refine Jt λF=>?_
 refine z_1 ?_;refine ja λb=>?_
 rw[show cl (.agg (eSt s wv tv mv thv ov pv).toArray) = eSt s wv tv mv thv ov pv from rfl];refine AY (λvs R' D'=>R.le R'∧∃l v A,BP s = some l∧(∃rows,Rw (ThC R') rows l∧SW BG 6 rows v A)∧D' = A ++ ((b,C AT (eSt s wv tv mv thv ov pv)) :: ([] ++ F))∧vs = [v]) (λK hK=>?_) ?_;rotate_left
 ·rintro e R1 D1 ⟨hR,l,v,A,hl,⟨rows,hrw,so⟩,hD,he⟩;refine z_W ?_;refine jfw so (hrw.all λ_ _=>ThC.len) λR2 hR2 hfz=>(BC (hR.trans hR2) ⟨rfl,?_⟩)
  rw[hl];exact⟨v,⟨rows,hrw.mono λ_ _=>ThC.le hR2,hfz⟩,rfl⟩
 refine jcI hK λK2 hK2=>?_
 refine jlp (λm vs R' D'=>R.le R'∧∃(i:Nat) (l:List AV) (v:Value) (A:Chs) (rows:List (List Value)),1≤i∧i≤s.A0.length + 1∧l.length≤16 * i∧(match BI s.A5 i (s.A0.drop i) with | none=>none | some l2=>some (l ++ l2)) = BP s∧Rw (ThC R') rows l∧SW BG 6 rows v A∧D' = A ++ ((b,C AT (eSt s wv tv mv thv ov pv)) :: ([] ++ F))∧vs = [Pt b,v,I i]∧m = s.A0.length + 1 - i)
  (n:=s.A0.length) ⟨RM.le.refl R,1,[],SN,[],[],ω,ω,σ,by unfold BP;rw[List.drop_one];cases BI s.A5 1 s.A0.tail<;>rfl,Rw.nil,.inl ⟨rfl,rfl,rfl⟩,rfl,rfl,ω⟩ ?_
 rintro m e R1 D1 K3 ⟨hR,i,l,v,A,rows,hi0,hi1,hll,hth,hrw,so,hD,he,hm⟩ hK3;refine z_W ?_;have h1:=h.le hR;refine jl rfl (Cq h1.t.sl (jlt (jif (λhc=>?_) (λhc=>?_))));rotate_left
 ·have hc:=z_g hc;refine hK2 _ _ _ ⟨hR,l,v,A,?_,⟨rows,hrw,so⟩,rfl,rfl⟩;rw[← hth,Tx ω];simp[BI]
 have hc:i < s.A0.length:=by have:=z_f hc;omega
 rw[Ts hc] at hth;unfold BI at hth;refine jl rfl (jl rfl (jrg h1.t hc λb2 o2 ty cs hb ho hrow=>(jfo (jlr hb (Bo hrow rfl) (jc (MD i (s.A0[i]).top h1.w ω) ?_)))));rintro _ R2 _ hR2 ⟨rfl,hq⟩;cases hti:BR s.A5 i (s.A0[i]).top with
 | none=>
  rw[hti] at hq hth;subst hq;refine jex rfl (jex rfl (EH (BC (hR.trans hR2) ⟨rfl,?_⟩)));rw[← hth];exact rfl
 | some l1=>
  rw[hti] at hq hth;obtain⟨tv1,⟨rows1,hrw1,hfz1⟩,rfl⟩:=hq;refine O6 (jex rfl (jex rfl (DM ?_)));obtain⟨xa,cx,hxv,hx⟩:=Fz.reads hfz1;rw[hxv];have hrl:=hrw.1;have hrl1:=hrw1.1;have hl1:=PJ hti;refine jaw so (hrw.all λ_ _=>ThC.len) (hrw1.all λ_ _=>ThC.len) rfl (Oc (hrw1.all λ_ _=>ThC.flat)) rfl δ ω hx λv' A' so'=>(jad (hK3 (s.A0.length + 1 - (i + 1)) _ _ _ ω ⟨hR.trans hR2,i + 1,l ++ l1,v',A',rows ++ rows1,ω,ω,by rw[Tn];omega,?_,(hrw.mono λ_ _=>ThC.le hR2).app hrw1,so',rfl,rfl,rfl⟩))
  rw[← hth];cases BI s.A5 (i + 1) (s.A0.drop (i + 1)) with
  | none=>rfl
  | some l2=>simp
theorem Hb {R:RM} {D:Chs} {s:Sm.Ah} {wv tv mv thv ov pv:Value} (r:Int) (h:StC R s wv tv mv thv ov pv) (hp:∀a∈s.AI,AQ a≤9223372036854775807) (hl:s.AI.length < 1000000) :
  Ro Hz [.agg (eSt s wv tv mv thv ov pv).toArray,I r] (.bool (BE s.AI r)) R D:=by
 refine MW λF=>?_
 refine z_2 ?_;refine ja λb=>?_
 rw[show cl (.agg (eSt s wv tv mv thv ov pv).toArray) = eSt s wv tv mv thv ov pv from rfl];refine jlp (λm vs R' D'=>R' = R∧D' = (b,C AT (eSt s wv tv mv thv ov pv)) :: (D ++ F)∧∃i:Nat,i≤s.AI.length∧vs = [I r,Pt b,I i]∧m = s.AI.length - i∧BE (s.AI.drop i) r = BE s.AI r)
  (n:=s.AI.length) ⟨rfl,rfl,0,ω,rfl,ω,by rw[Ur]⟩ ?_
 rintro m e R1 D1 K ⟨hR1,hD,i,hi,he,hm,Bf⟩ hK;subst hR1;refine z_W ?_;refine jl rfl (Cq h.p.sl (jlt (jif (λhc=>?_) (λhc=>?_))))
 ·have hc:i < s.AI.length:=by have:=z_f hc;omega
  refine jl rfl (Ca h.p ω ω ?_);rw[getElem_congr_idx (Tj i)];rw[Ts hc] at Bf;refine jp (CX _ (hp _ (U6 hc))) (jeq (jif (λhq=>?_) (λhq=>?_)))
  ·refine Bi ?_;rw[← Bf];unfold BE;rw[List.any_cons,hq,VH]
  ·refine jad (hK (s.AI.length - (i + 1)) _ _ _ ω ⟨rfl,rfl,i + 1,ω,rfl,rfl,?_⟩);rw[← Bf];unfold BE;rw[List.any_cons,hq,Uh]
 ·have hc:¬ i < s.AI.length:=by have:=z_g hc;omega
  refine Bi ?_;rw[← Bf,Tx ω];rfl
theorem HN (had:List Int) (a:Int):had.length≤(Cg had a).length:=by
 unfold Cg;split<;>simp
theorem Df {l:List AV}:∀{xs acc r:List Int},BX l xs acc = some r→acc.length≤r.length
 | [],acc,r,h=>by cases h;exact z_n _
 | x :: xs,acc,r,h=>by
  unfold BX at h;obtain⟨y,_,h⟩:=A7 h;have:=Df h;have:=HN acc y;omega
theorem Fi {l:List AV}:∀{ts:List Th} {acc r:List Int},Cz l ts acc = some r→acc.length≤r.length
 | [],acc,r,h=>by cases h;exact z_n _
 | x :: xs,acc,r,h=>by
  unfold Cz at h;obtain⟨y,h1,h⟩:=A7 h;have:=Df h1;have:=Fi h;omega
theorem IK:∀(ps acc:List Int),acc.length≤(ps.foldl Cg acc).length
 | [],acc=>z_n _
 | p :: ps,acc=>by
  have h1:=HN acc p;have h2:=IK ps (Cg acc p);rw[V2];omega
theorem Eu {l:List AV}:∀{n i:Nat} {out r:List Int},BM l n i out = some r→out.length≤r.length∧r.length + 1≤i + n
 | 0,i,out,r,h=>by cases h
 | n + 1,i,out,r,h=>by
  unfold BM at h;split at h
  ·rename_i hn;cases h;have:=List.getElem?_eq_none_iff.1 hn;exact⟨z_n _,ω⟩
  ·obtain⟨t,_,h⟩:=A7 h;obtain⟨y,h1,h⟩:=A7 h;have:=Df h1;obtain⟨h2,h3⟩:=Eu h;exact⟨ω,ω⟩
theorem H5 {s:Sm.Ah} {l:List AV} {r:List Int} (h:DR s l = some r):r.length≤l.length + 1:=by
 unfold DR at h;obtain⟨y,_,h⟩:=A7 h;have:=(Eu h).2;omega
theorem NJ {acc:List Int} {x:Int} {R:RM} {D:Chs} {v:Value} {A:Chs} (c:((x != 0) && decide (BV acc x < 0)) = false) (so:SO acc v A):SO (Cg acc x) v A:=by
 unfold Cg;rw[if_pos]
 ·exact so
 ·unfold BV at c;by_cases h:x = 0
  ·exact .inl h
  ·by_cases hm:x∈acc
   ·exact .inr hm
   ·rw[if_neg hm] at c;simp[h] at c
theorem J5 {acc:List Int} {x:Int} (c:((x != 0) && decide (BV acc x < 0)) = true):Cg acc x = acc ++ [x]:=by
 unfold Cg;rw[if_neg];simp only[z_b,bne_iff_ne,ne_eq,z_d] at c;rintro (h | h)
 ·exact c.1 h
 ·unfold BV at c;rw[if_pos h] at c;omega
theorem LL {R:RM} {s:Sm.Ah} {wv tv mv thv ov pv lv:Value} {l:List AV} {AH:List Int} (h:StC R s wv tv mv thv ov pv) (hlv:Tgs R lv l) (hll:l.length < 900000) (hr:DR s l = some AH) (hn:s.AB.length < 1000000) (hrl:∀t∈s.AB,t.AA.length < 1000000000) (hpl:s.AI.length < 1000000) (hrf:∀t∈l,t.refs.length < 1000000000) :
  Fn P FH [.agg (eSt s wv tv mv thv ov pv).toArray,lv] R [] (λv _ A=>SO AH v A):=by
 refine Im λF=>?_
 refine z_2 ?_;have hlen:=H5 hr;unfold DR at hr;obtain⟨out0,hr0,hr1⟩:=A7 hr;have hl1:=(Eu hr1).1;have hl0:=IK s.AI out0;refine ja λb=>?_
 rw[show cl (.agg (eSt s wv tv mv thv ov pv).toArray) = eSt s wv tv mv thv ov pv from rfl];generalize hE:((b,C AT (eSt s wv tv mv thv ov pv)) :: ([] ++ F)) = E;have ea:At E b (C AT (eSt s wv tv mv thv ov pv)):=by rw[← hE];exact inferInstance
 have ef:Sf E F:=by rw[← hE];exact inferInstance
 refine AY (λvs R' D'=>R' = R∧∃v A,SO out0 v A∧D' = A ++ E∧vs = [lv,Pt b,v]) (λK hK=>?_) ?_
 ·refine jcI hK λK2 hK2=>?_
  refine jlp (λm vs R' D'=>R' = R∧∃(i:Nat) (acc:List Int) (v:Value) (A:Chs),i≤s.AB.length∧Cz l (s.AB.drop i) acc = some out0∧SO acc v A∧D' = A ++ E∧vs = [lv,Pt b,v,I i]∧m = s.AB.length - i)
   (n:=s.AB.length) ⟨rfl,0,[],SN,[],ω,hr0,.inl ⟨rfl,rfl,rfl⟩,rfl,rfl,ω⟩ ?_
  rintro m e R1 D1 K3 ⟨hR,i,acc,v,A,hi,hra,so,hD,he,hm⟩ hK3;subst hR;refine z_W ?_;clear hD;refine jl rfl (Cq h.th.sl (jlt (jif (λhc=>?_) (λhc=>?_))));rotate_left
  ·have hc:=z_g hc;rw[Tx ω] at hra;cases hra;exact hK2 _ _ _ ⟨rfl,v,A,so,rfl,rfl⟩
  have hc:i < s.AB.length:=by have:=z_f hc;omega
  rw[Ts hc] at hra;unfold Cz at hra;obtain⟨acc1,hna,hra⟩:=A7 hra;have hl2:=Fi hra;have hri:=hrl _ (U6 hc);refine AY (λvs R' D'=>R' = R1∧∃v A,SO acc1 v A∧D' = A ++ E∧vs = [lv,Pt b,v,I i]) (λK4 hK4=>?_) ?_;rotate_left
  ·rintro e R2 D2 ⟨hR,v,A,so,hD,he⟩;subst hR;refine z_W ?_;clear hD;refine jad (hK3 (s.AB.length - (i + 1)) _ _ _ ω ⟨rfl,i + 1,acc1,v,A,ω,hra,so,rfl,rfl,rfl⟩)
  refine jcI hK4 λK5 hK5=>?_
  refine jcI hK5 λK6 hK6=>?_
  refine jlp (λm vs R' D'=>R' = R1∧∃(j:Nat) (acc:List Int) (v:Value) (A:Chs),j≤(s.AB[i]).AA.length∧BX l ((s.AB[i]).AA.drop j) acc = some acc1∧SO acc v A∧D' = A ++ E∧vs = [lv,Pt b,v,I i,I j]∧m = (s.AB[i]).AA.length - j)
   (n:=(s.AB[i]).AA.length) ⟨rfl,0,acc,v,A,ω,hna,so,rfl,rfl,ω⟩ ?_
  clear hna so;rintro m e R2 D2 K7 ⟨hR,j,acc,v,A,hj,hna,so,hD,he,hm⟩ hK7;subst hR;refine z_W ?_;clear hD;have hl3:=Df hna;refine jl rfl (jtr h.th hc λb2 o2 ty cs rv hrv hb ho hrow=>(jfo (jlr hb (Bo hrow rfl) (Cq hrv.sl (jlt (jif (λhd=>?_) (λhd=>?_)))))));rotate_left
  ·have hd:=z_g hd;rw[Tx ω] at hna;cases hna;exact hK6 _ _ _ ⟨rfl,v,A,so,rfl,rfl⟩
  have hd:j < (s.AB[i]).AA.length:=by have:=z_f hd;omega
  rw[Ts hd] at hna;unfold BX at hna;obtain⟨x,hx,hna⟩:=A7 hna;refine AY (λvs R' D'=>R' = R2∧∃v A,SO (Cg acc x) v A∧D' = A ++ E∧vs = [lv,Pt b,v,I i,I j]) (λK8 hK8=>?_) ?_;rotate_left
  ·rintro e R3 D3 ⟨hR,v,A,so,hD,he⟩;subst hR;refine z_W ?_;clear hD;refine jad (hK7 ((s.AB[i]).AA.length - (j + 1)) _ _ _ ω ⟨rfl,j + 1,_,v,A,ω,hna,so,rfl,rfl,rfl⟩)
  refine jcI hK8 λK9 hK9=>?_
  refine jl rfl (jtr h.th hc λb2 o2 ty cs rv hrv hb ho hrow=>(jfo (jlr hb (Bo hrow rfl) (Ca hrv ω ω ?_))));rw[getElem_congr_idx (Tj j)];refine jro (HD hlv ω hx) ?_;obtain⟨sa,sn,sc,hsl⟩:=so.sl;refine jan [lv,Pt b,v,I i,I j,I x] (((x != 0)) && (decide (BV acc x < 0))) (λK' hK'=>?_) (λe c u ho he=>?_)
  ·refine jne (jgA hK' λh1 hN=>jro (GC x so.rd ω) (jlt hN))
  refine z_V ?_;rw[ho];refine jif (λh0=>?_) (λh0=>?_)
  ·refine jbs rfl rfl λb1=>(HR so ω λv' A' so'=>(hK9 _ _ _ ⟨rfl,v',A',by rw[J5 h0];exact so',rfl,rfl⟩))
  ·exact hK9 _ _ _ ⟨rfl,v,A,NJ (R:=R2) (D:=[]) h0 so,rfl,rfl⟩
 rintro e R1 D1 ⟨hR,v,A,so,hD,he⟩;subst hR;refine z_W ?_;clear hD;generalize hou:s.AI.foldl Cg out0 = out1 at hr1 hl1 hl0;refine AY (λvs R' D'=>R' = R1∧∃v A,SO out1 v A∧D' = A ++ E∧vs = [lv,v]) (λK hK=>?_) ?_
 ·refine jcI hK λK2 hK2=>?_
  refine jlp (λm vs R' D'=>R' = R1∧∃(i:Nat) (acc:List Int) (v:Value) (A:Chs),i≤s.AI.length∧(s.AI.drop i).foldl Cg acc = out1∧SO acc v A∧D' = A ++ E∧vs = [lv,Pt b,v,I i]∧m = s.AI.length - i)
   (n:=s.AI.length) ⟨rfl,0,out0,v,A,ω,hou,so,rfl,rfl,ω⟩ ?_
  rintro m e R1 D1 K3 ⟨hR,i,acc,v,A,hi,hra,so,hD,he,hm⟩ hK3;subst hR;refine z_W ?_;clear hD;refine jl rfl (Cq h.p.sl (jlt (jif (λhc=>?_) (λhc=>?_))));rotate_left
  ·have hc:=z_g hc;rw[Tx ω,List.foldl_nil] at hra;subst hra;exact hK2 _ _ _ ⟨rfl,v,A,so,rfl,rfl⟩
  have hc:i < s.AI.length:=by have:=z_f hc;omega
  rw[Ts hc,V2] at hra;have hl2:=IK (s.AI.drop (i + 1)) (Cg acc s.AI[i]);have hl3:=HN acc s.AI[i];rw[hra] at hl2;refine jl rfl (Ca h.p ω ω ?_);rw[getElem_congr_idx (Tj i)];refine jc (QN _ so ω) ?_;rintro v' R2 A' hR2 ⟨hRR,so'⟩;subst hRR;refine jad (hK3 (s.AI.length - (i + 1)) _ _ _ ω ⟨rfl,i + 1,_,v',A',ω,hra,so',rfl,rfl,rfl⟩)
 clear so hr0;rintro e R2 D2 ⟨hR,v,A,so,hD,he⟩;subst hR;refine z_W ?_;clear hD;refine AY (λvs R' D'=>R' = R2∧∃v A,SO AH v A∧D' = A ++ E∧vs = [v]) (λK hK=>?_) ?_;rotate_left
 ·rintro e R3 D3 ⟨hR,v,A,so,hD,he⟩;subst hR;refine z_W ?_;clear hD;exact BC (RM.le.refl R3) so
 refine jcI hK λK2 hK2=>?_
 refine jlp (λm vs R' D'=>R' = R2∧∃(k:Nat) (acc:List Int) (v:Value) (A:Chs),BM l m k acc = some AH∧SO acc v A∧D' = A ++ E∧vs = [lv,v,I k])
  ⟨rfl,0,out1,v,A,hr1,so,rfl,rfl⟩ ?_
 clear so;rintro m e R3 D3 K3 ⟨hR,i,acc,v,A,hra,so,hD,he⟩ hK3;subst hR;refine z_W ?_;clear hD;obtain⟨hl2,hl3⟩:=Eu hra;obtain⟨m,rfl⟩:∃k,m = k + 1:=by
  cases m with
  | zero=>cases hra
  | succ m=>exact⟨m,rfl⟩
 unfold BM at hra;obtain⟨hsl,hrd⟩:=so.rd;refine Cq hsl (jlt (jif (λhc=>?_) (λhc=>?_)));rotate_left
 ·have hc:=z_g hc;rw[UM ω] at hra;cases hra;exact hK2 _ _ _ ⟨rfl,v,A,so,rfl,rfl⟩
 have hc:i < acc.length:=by have:=z_f hc;omega
 rw[Tl hc] at hra;obtain⟨t,ht,hra⟩:=A7 hra;obtain⟨acc1,hna,hra⟩:=A7 hra;have hl4:=(Eu hra).1;refine AY (λvs R' D'=>R' = R3∧∃v A,SO acc1 v A∧D' = A ++ E∧vs = [lv,v,I i]) (λK4 hK4=>?_) ?_;rotate_left
 ·rintro e R2 D2 ⟨hR,v,A,so,hD,he⟩;subst hR;refine z_W ?_;clear hD;refine jad (hK3 m _ _ _ ω ⟨rfl,i + 1,acc1,v,A,hra,so,rfl,rfl⟩)
 refine jcI hK4 λK5 hK5=>?_
 refine Aj (by rw[UP]) (hrd [] i hc _ ?_);rw[UP];obtain⟨n,hn2,hp,rfl⟩:=HG ht;refine jro (Fy _ hlv ω) ?_;rw[hp];refine jtg hlv hn2 λb2 o2 ty cs rv nv hrv hnv hb ho hrow=>?_
 have hrfn:=hrf _ (U6 hn2);obtain⟨ra,rc,rfl⟩:=hrv.sl;obtain⟨na,nc,rfl⟩:=hnv.sl;refine KL hb ho hrow (ja λb3=>(js rfl rfl (by exact z_n 6) rfl (Aj U9.symm (AY (λvs R' D'=>R' = R3∧∃v A,SO acc1 v A∧D' = A ++ E∧vs = [lv,v,I i]) (λK6 hK6=>?_) ?_))));rotate_left
 ·rintro e R2 D2 ⟨hR,v,A,so,hD,he⟩;refine z_W ?_;clear hD;exact hK5 _ _ _ ⟨hR,v,A,so,rfl,rfl⟩
 refine jlp (λm vs R' D'=>R' = R3∧∃(j:Nat) (acc:List Int) (v:Value) (A:Chs),j≤(l[n]).refs.length∧BX l ((l[n]).refs.drop j) acc = some acc1∧SO acc v A∧D' = A ++ ((b3,C BG (eTh l[n] (.slice ra l[n].refs.length rc) (.slice na l[n].nums.length nc))) :: E)∧vs = [lv,v,I i,Pt b3,I j]∧m = (l[n]).refs.length - j)
  (n:=(l[n]).refs.length) ⟨rfl,0,acc,v,A,ω,hna,so,rfl,rfl,ω⟩ ?_
 clear hna so hrd;rintro m2 e R2 D2 K7 ⟨hR,j,acc,v,A,hj,hna,so,hD,he,hm⟩ hK7;subst hR;refine z_W ?_;clear hD;have hl5:=Df hna;refine jl rfl (jln (jlt (jif (λhd=>?_) (λhd=>?_))));rotate_left
 ·have hd:=z_g hd;rw[Tx ω] at hna;cases hna;refine B7 A (G:=E) (hK6 _ _ _ ⟨rfl,v,A,so,rfl,rfl⟩)
 have hd:j < (l[n]).refs.length:=by have:=z_f hd;omega
 rw[Ts hd] at hna;unfold BX at hna;obtain⟨x,hx,hna⟩:=A7 hna;refine AY (λvs R' D'=>R' = R2∧∃v A,SO (Cg acc x) v A∧D' = A ++ ((b3,C BG (eTh l[n] (.slice ra l[n].refs.length rc) (.slice na l[n].nums.length nc))) :: E)∧vs = [lv,v,I i,Pt b3,I j]) (λK8 hK8=>?_) ?_;rotate_left
 ·rintro e R3 D3 ⟨hR,v,A,so,hD,he⟩;subst hR;refine z_W ?_;clear hD;refine jad (hK7 ((l[n]).refs.length - (j + 1)) _ _ _ ω ⟨rfl,j + 1,_,v,A,ω,hna,so,rfl,rfl,rfl⟩)
 refine jcI hK8 λK9 hK9=>?_
 refine jl rfl (Ca hrv ω ω ?_);rw[getElem_congr_idx (Tj j)];refine jro (HD hlv ω hx) ?_;obtain⟨sa,sn,sc,hsl⟩:=so.sl;refine jan [lv,v,I i,Pt b3,I j,I x] (((x != 0)) && (decide (BV acc x < 0))) (λK' hK'=>?_) (λe c u ho he=>?_)
 ·refine jne (jgA hK' λh1 hN=>jro (GC x so.rd ω) (jlt hN))
 refine z_V ?_;rw[ho];refine jif (λh0=>?_) (λh0=>?_)
 ·refine jbs rfl rfl λb1=>(HR so ω λv' A' so'=>(hK9 _ _ _ ⟨rfl,v',A',by rw[J5 h0];exact so',rfl,rfl⟩))
 ·exact hK9 _ _ _ ⟨rfl,v,A,NJ (R:=R2) (D:=[]) h0 so,rfl,rfl⟩
theorem TD {R:RM} {A E:Chs} {l:List Int} {v:Value} {x:Int} {i:Nat} {m:M} (so:SO l v A) (hi:i < l.length) (H:∀A',SO (l.set i x) v A'→J R (A' ++ E) m):J R (A ++ E) (IA 1 v (I (i:Int)) λq=>ST 1 q (I x) m):=by
 rcases so with ⟨rfl,_,_⟩ | ⟨b,c,sp,hc,hsp,rfl,rfl⟩
 ·exact absurd hi σ
 ·refine Bk hi (jsi hi (H _ (.inr ⟨b,c,sp,by simpa using hc,by simpa using hsp,by rw[U3],rfl⟩)))
theorem Ks (l:List Int) (x:Int):(El l x).length = l.length + 1:=by
 unfold El;have:∀k,DC l x k≤k:=by
  intro k;induction k with
  | zero=>exact z_n 0
  | succ k ih=>unfold DC;split<;>omega
 have:=this l.length;simp only[Tn,UA,U4,Ud];omega
theorem He:∀(l acc:List Int),(l.foldl El acc).length = acc.length + l.length
 | [],acc=>σ
 | a :: r,acc=>by rw[V2,He r,Ks];simp;omega
theorem Me {R:RM} {v:Value} {l:List Int} (h:B9 R v l) (hl:l.length < 1000000):Fn P Fm [v] R [] (λv' R' A=>R' = R∧SO (Ch l) v' A):=by
 refine JZ λF=>?_
 refine z_1 ?_;refine AY (λvs R' D'=>R' = R∧∃v' A,SO (Ch l) v' A∧D' = A ++ F∧vs = [v']) (λK hK=>?_) ?_;rotate_left
 ·rintro e R3 D3 ⟨hR,v',A,so,hD,he⟩;subst hR;refine z_W ?_;clear hD;exact BC (RM.le.refl R3) ⟨rfl,so⟩
 refine jcI hK λK2 hK2=>?_
 refine jlp (λm vs R' D'=>R' = R∧∃(k:Nat) (acc:List Int) (v' : Value) (A:Chs),k≤l.length∧acc.length = k∧(l.drop k).foldl El acc = Ch l∧SO acc v' A∧D' = A ++ F∧vs = [v,v',I k]∧m = l.length - k)
  (n:=l.length) ⟨rfl,0,[],SN,[],ω,rfl,rfl,.inl ⟨rfl,rfl,rfl⟩,rfl,rfl,ω⟩ ?_
 rintro m e R1 D1 K3 ⟨hR,k,acc,v',A,hk,hal,hra,so,hD,he,hm⟩ hK3;subst hR;refine z_W ?_;clear hD;refine Cq h.sl (jlt (jif (λhc=>?_) (λhc=>?_)));rotate_left
 ·have hc:=z_g hc;rw[Tx ω,List.foldl_nil] at hra;subst hra;exact hK2 _ _ _ ⟨rfl,v',A,so,rfl,rfl⟩
 have hc:k < l.length:=by have:=z_f hc;omega
 rw[Ts hc,V2] at hra;refine AY (λvs R' D'=>R' = R1∧∃v' A,SO (El acc l[k]) v' A∧D' = A ++ F∧vs = [v,v',I k]) (λK4 hK4=>?_) ?_;rotate_left
 ·rintro e R2 D2 ⟨hR,v',A,so,hD,he⟩;subst hR;refine z_W ?_;clear hD;refine jad (hK3 (l.length - (k + 1)) _ _ _ ω ⟨rfl,k + 1,_,v',A,ω,by rw[Ks,hal],hra,so,rfl,rfl,rfl⟩)
 refine jcI hK4 λK5 hK5=>?_
 obtain⟨hsl,-⟩:=so.rd (R:=R1) (E:=F);refine Cq hsl (Ca h ω ω ?_);rw[getElem_congr_idx (Tj k)];generalize l[k] = x at hK5;refine jbs rfl rfl λb1=>(HR so ω λv2 A2 so2=>(AY (λvs R' D'=>R' = R1∧∃v' A,SO (El acc x) v' A∧D' = A ++ F∧vs = [v,v',I k]) (λK6 hK6=>?_) ?_))
 rotate_left
 ·rintro e R2 D2 ⟨hR,v',A,so,hD,he⟩;refine z_W ?_;clear hD;exact hK5 _ _ _ ⟨hR,v',A,so,rfl,rfl⟩
 refine jlp (λm vs R' D'=>R' = R1∧∃(i:Nat) (cur:List Int) (A:Chs),i≤acc.length∧cur = acc.take i ++ x :: acc.drop i∧DC acc x i = DC acc x acc.length∧SO cur v2 A∧D' = A ++ F∧vs = [v,v2,I k,I i]∧m = i)
  ⟨rfl,acc.length,acc ++ [x],A2,ω,σ,rfl,so2,rfl,rfl,rfl⟩ ?_
 clear so so2;rintro m2 e R2 D2 K7 ⟨hR,i,cur,A,hi,hcur,hip,so,hD,he,hm⟩ hK7;subst hR;refine z_W ?_;clear hD;have hcl:cur.length = acc.length + 1:=by rw[hcur];simp;omega
 obtain⟨-,hrd⟩:=so.rd;have hrd' : ∀(i:Nat) (h:i < cur.length) (k:Value→M),J R2 (A ++ F) (k (I cur[i]))→J R2 (A ++ F) (IA 1 v2 (I (i:Int)) λx=>L1 x k):=λi h k H=>by
  have:=hrd [] i h k (by rw[UP];exact H);rw[UP] at this;exact this
 have gi:cur[i]'(ω) = x:=by
  subst hcur;rw[VB (by simp;omega)];simp[Nat.min_eq_left hi]
 cases i with
 | zero=>
  refine CQ (jgr ?_);rw[decide_eq_false δ];refine jft (Bq λe he=>?_);refine z_V ?_;refine EW (DM (hK6 _ _ _ ⟨rfl,v2,A,?_,rfl,rfl⟩));have:El acc x = cur:=by
   unfold El;rw[← hip,hcur];rfl
  rw[this];exact so
 | succ i=>
  have gp:cur[i]'(ω) = acc[i]'(ω):=by
   subst hcur;rw[V1 (by simp;omega),List.getElem_take]
  obtain⟨y,hy⟩:∃y,acc[i]'(ω) = y:=⟨_,rfl⟩;rw[hy] at gp;have es:((i + 1:Nat):Int) - 1 = (i:Nat):=ω
  have hip2:(if x < acc.getD i 0 then DC acc x i else i + 1) = DC acc x acc.length:=hip;rw[Ty,Tl ω,Uj,hy] at hip2;refine CQ (jgr ?_);rw[decide_eq_true ω];refine jtt (jsu ?_);rw[es];refine hrd' i ω _ (hrd' (i + 1) ω _ (jgr (Bq λe he=>?_)));refine z_V ?_;rw[gp,gi];refine Ea (jif (λh1=>?_) (λh1=>?_))
  ·have h1:x < y:=z_f h1;rw[if_pos h1] at hip2;refine jsu ?_;rw[es];refine hrd' i ω _ (jsu ?_);rw[es];refine hrd' (i + 1) ω _ (TD so ω λA3 so3=>(TD so3 (by rw[U3];omega) λA4 so4=>(jsu ?_)));rw[es];rw[gp,gi] at so4;refine hK7 i _ _ _ ω ⟨rfl,i,_,A4,ω,?_,hip2,so4,rfl,rfl,rfl⟩;have e1:acc.take (i + 1) = acc.take i ++ [y]:=by rw[UL ω,hy]
   have e2:acc.drop i = y :: acc.drop (i + 1):=by rw[Ts ω,hy]
   have l1:(acc.take i).length = i:=by simp;omega
   rw[hcur,e1,e2,Tu,Uo _ _ ω,Uo _ _ ω,l1];simp
  ·have h1:¬ x < y:=z_g h1;rw[if_neg h1] at hip2;refine hK6 _ _ _ ⟨rfl,v2,A,?_,rfl,rfl⟩;have:El acc x = cur:=by
    unfold El;rw[← hip2,hcur]
   rw[this];exact so
def TB (l:List AV):Prop:=∀t∈l,0≤t.at_∧t.at_ < 1000000∧t.refs.length≤4∧t.nums.length≤4
theorem Sk {w:List Int} {a:Int} (hl:w.length < 1000000) (h:(Am w a).2 = true):0≤(Am w a).1.at_∧(Am w a).1.at_ < 1000000∧(Am w a).1.refs.length≤4∧(Am w a).1.nums.length≤4:=by
 unfold Am at h ⊢;split at h
 ·rename_i h1;rw[if_pos h1];dsimp only at h ⊢;split at h
  ·rename_i h2;rw[if_pos h2];simp only[z_b] at h2;have:=GP h2.1;have:=F2 h1;dsimp only;refine⟨ω,ω,?_,?_⟩
   ·unfold seg;rw[UA];omega
   ·unfold seg;rw[UA];omega
  ·exact absurd h δ
 ·exact absurd h δ
theorem NF {w:List Int} (hl:w.length < 1000000):∀{n:Nat} {a top:Int} {l:List AV},Ag w n a top = some l→TB l
 | 0,a,top,l,h=>by
  unfold Ag at h;split at h
  ·cases h
  ·cases h;intro t ht;cases ht
 | n + 1,a,top,l,h=>by
  unfold Ag at h;split at h
  ·dsimp only at h;split at h
   ·rename_i hc;simp only[z_b] at hc;split at h
    ·rename_i l2 h2;cases h;intro t ht;rcases Tv.1 ht with rfl | ht
     ·exact Sk hl hc.1
     ·exact NF hl h2 t ht
    ·cases h
   ·cases h
  ·cases h;intro t ht;cases ht
theorem Q5 {w:List Int} (hl:w.length < 1000000):∀{t:List Rg} {r:Nat} {l:List AV},BI w r t = some l→TB l∧l.length≤16 * t.length
 | [],r,l,h=>by
  cases h;exact⟨λt ht=>(by cases ht),σ⟩
 | x :: t,r,l,h=>by
  unfold BI at h;split at h
  ·cases h
  ·rename_i a ha;split at h
   ·cases h
   ·rename_i b hb;cases h;obtain⟨h1,h2⟩:=Q5 hl hb;have h3:=PJ ha;have h4:TB a:=by
     unfold BR at ha;split at ha
     ·exact NF hl ha
     ·cases ha
    refine⟨λt ht=>?_,by rw[Tn,U4];omega⟩;rcases U7.1 ht with ht | ht
    ·exact h4 t ht
    ·exact h1 t ht
theorem ED {w w' : List Int} {a v:Int} (h:Sm.wr w a v = some w'):0≤a∧a < w.length∧w' = w.set a.toNat v:=by
 unfold Sm.wr at h;split at h
 ·rename_i hc;cases h;exact⟨hc.1,hc.2,rfl⟩
 ·cases h
theorem Po {R:RM} {s:Sm.Ah} {wv tv mv thv ov pv lv:Value} {l:List AV} {w w' : List Int} {t t' : List Rg} {wsp tsp:List Value} {bw cw bt ct:Nat} (h:StC R s wv tv mv thv ov pv) (hlv:Tgs R lv l) (htb:TB l) (hll:l.length < 1000000)
  (hp:∀a∈s.AI,AQ a≤9223372036854775807) (hpl:s.AI.length < 1000000) (hS:stay s l w t = some (w',t')) :
  Fn P IC [.agg (eSt s wv tv mv thv ov pv).toArray,lv,S0 bw w.length cw,S0 bt t.length ct] R
   [(bw,C AZ (w.map I ++ wsp)),(bt,C AK (Aa eRg t ++ tsp))] (λ_ R' A=>R' = R∧w'.length = w.length∧t'.length = t.length∧A = [(bw,C AZ (w'.map I ++ wsp)),(bt,C AK (Aa eRg t' ++ tsp))]):=by
 refine MO λF=>?_
 refine z_4 ?_;refine ja λb=>?_
 rw[show cl (.agg (eSt s wv tv mv thv ov pv).toArray) = eSt s wv tv mv thv ov pv from rfl];refine jlp (λm vs R' D'=>R' = R∧∃(i:Nat) (w1:List Int) (t1:List Rg),i≤l.length∧w1.length = w.length∧t1.length = t.length∧stay s (l.drop i) w1 t1 = some (w',t')∧D' = (b,C AT (eSt s wv tv mv thv ov pv)) :: (bw,C AZ (w1.map I ++ wsp)) :: (bt,C AK (Aa eRg t1 ++ tsp)) :: F∧vs = [lv,S0 bw w.length cw,S0 bt t.length ct,Pt b,I i]∧m = l.length - i)
  (n:=l.length) ⟨rfl,0,w,t,ω,rfl,rfl,hS,rfl,rfl,ω⟩ ?_
 clear hS;rintro m e R1 D1 K ⟨hR,i,w1,t1,hi,hwl,htl,hS,hD,he,hm⟩ hK;subst hR;refine z_W ?_;clear hD;refine Cq hlv.sl (jlt (jif (λhc=>?_) (λhc=>?_)));rotate_left
 ·have hc:=z_g hc;rw[Tx ω] at hS;cases hS;refine BC (RM.le.refl R1) ⟨rfl,hwl,htl,rfl⟩
 have hc:i < l.length:=by have:=z_f hc;omega
 rw[Ts hc] at hS;obtain⟨a0,a1,r1,n1⟩:=htb _ (U6 hc);unfold stay at hS;dsimp only at hS;have hreg:AQ (l[i]).at_≤9223372036854775807:=by unfold AQ;split<;>omega
 refine AY (λvs R' D'=>R' = R1∧∃(w2:List Int) (t2:List Rg),w2.length = w.length∧t2.length = t.length∧stay s (l.drop (i + 1)) w2 t2 = some (w',t')∧D' = (b,C AT (eSt s wv tv mv thv ov pv)) :: (bw,C AZ (w2.map I ++ wsp)) :: (bt,C AK (Aa eRg t2 ++ tsp)) :: F∧vs = [lv,S0 bw w.length cw,S0 bt t.length ct,Pt b,I i]) (λK4 hK4=>?_) ?_;rotate_left
 ·rintro e R2 D2 ⟨hR,w2,t2,hwl2,htl2,hS2,hD,he⟩;subst hR;refine z_W ?_;clear hD;refine jad (hK (l.length - (i + 1)) _ _ _ ω ⟨rfl,i + 1,w2,t2,ω,hwl2,htl2,hS2,rfl,rfl,rfl⟩)
 refine jcI hK4 λK5 hK5=>?_
 obtain⟨rows,hrw,hfz⟩:=hlv;have hi' : i < rows.length:=by rw[hrw.1];exact hc
 obtain⟨bl,ol,capl,tyl,csl,hlve,hbl,hol,hcl⟩:=Hy hfz (hrw.all λ_ _=>ThC.len) hi';obtain⟨rv,nv,erow,hrv,hnv⟩:=hrw.2 i hi' hc;rw[erow] at hcl;have hlv:Tgs R1 lv l:=⟨rows,hrw,hfz⟩;have ia:∀{D:Chs} {k:Value→M},J R1 D (k (.pointer (some ⟨bl,ol + i * 6,none⟩)))→J R1 D (IA 6 lv (I (i:Int)) k):=λH=>by
  rw[hlve];refine jia ω ω ?_;rw[Tj];exact H
 have g0:csl[ol + i * 6 + 0]? = some (I (l[i]).at_):=Bo hcl rfl;have g4:csl[ol + i * 6 + 4]? = some rv:=Bo hcl rfl;have g5:csl[ol + i * 6 + 5]? = some nv:=Bo hcl rfl;have g2:(csl.drop (ol + i * 6 + 2)).take 2 = [I (l[i]).sh.refs,I (l[i]).sh.nums]:=by
  have:=congrArg (λx=>(x.drop 2).take 2) hcl;simp only[List.drop_take,List.drop_drop,List.take_take] at this;simpa [eTh] using this
 refine ia (jfo (jlr hbl g0 (jp (CX _ hreg) (jla (by exact z_n 13) rfl ?_))));refine jro (Hb (AQ (l[i]).at_) h hp hpl) (jif (λhh=>?_) (λhh=>?_));rotate_left
 ·rw[if_neg (by rw[hh];decide)] at hS;exact hK5 _ _ _ ⟨rfl,w1,t1,hwl,htl,hS,rfl,rfl⟩
 rw[if_pos hh] at hS;obtain⟨w2,hw2,hS⟩:=A7 hS;obtain⟨w3,hw3,hS⟩:=A7 hS;obtain⟨w4,hw4,hS⟩:=A7 hS;obtain⟨row,hrow,hS⟩:=A7 hS;obtain⟨row2,hrow2,hS⟩:=A7 hS;obtain⟨q1,q2,q3⟩:=ED hw2;obtain⟨q4,q5,q6⟩:=ED hw3;refine ia (jfo (jlr hbl g0 (ia (jfo (jlr hbl g0 (jia q1 ω (jsi ω ?_)))))));rw[← q3];refine ia (jfo (jlr hbl g0 (jad (ia (jfo (KL hbl ω g2 (jp (DU (l[i]).sh) ?_)))))));have hl2:w2.length = w1.length:=by rw[q3,U3]
 refine jia q4 ω (Aq (jlr hbl g0 jev) (jsi ω ?_));rw[← q6];have hl3:w3.length = w2.length:=by rw[q6,U3]
 obtain⟨z0,z1,z2,z3⟩:=Ad hrow;obtain⟨y0,y1,y2,y3⟩:=Ad hrow2;obtain⟨k0,hk0⟩:∃k:Nat,AQ (l[i]).at_ = k:=⟨(AQ (l[i]).at_).toNat,ω⟩;refine AY (λvs R' D'=>R' = R1∧w4.length = w.length∧D' = (b,C AT (eSt s wv tv mv thv ov pv)) :: (bw,C AZ (w4.map I ++ wsp)) :: (bt,C AK (Aa eRg t1 ++ tsp)) :: F∧vs = [lv,S0 bw w.length cw,S0 bt t.length ct,Pt b,I i,I (AQ (l[i]).at_)]) (λK6 hK6=>?_) ?_;rotate_left
 ·rintro e R2 D2 ⟨hR,hwl2,hD,he⟩;subst hR;refine z_W ?_;clear hD;rw[hk0] at hS ⊢;have hk1:k0 < s.A0.length:=ω
  have hk2:k0 < t1.length:=ω
  have ez:s.A0[k0] = row:=by rw[← z3];exact getElem_congr_idx ω
  refine jl rfl (jrg h.t hk1 λb2 o2 ty cs hb ho hrw2=>(jfo (jlr hb (Bo hrw2 rfl) (jl rfl (jrg h.t hk1 λb3 o3 ty3 cs3 hb3 ho3 hrw3=>(jfo (jlr hb3 (Bo hrw3 rfl) ?_)))))));rw[ez];refine jbd rfl rfl (Bk ω (HL (x:=⟨3,-1,row.top,row.top,0⟩) hk2 (hK5 _ _ _ ⟨rfl,w4,t1.set k0 ⟨3,-1,row.top,row.top,0⟩,hwl2,by rw[U3];exact htl,by simpa [AM] using hS,rfl,rfl⟩)))
 refine jcI hK6 λK7 hK7=>?_
 refine jlp (λm vs R' D'=>R' = R1∧∃(k:Nat) (w5:List Int),k≤(l[i]).nums.length∧w5.length = w.length∧wrs w5 ((l[i]).at_ + 2 + (l[i]).refs.length + k) ((l[i]).nums.drop k) = some w4∧D' = (b,C AT (eSt s wv tv mv thv ov pv)) :: (bw,C AZ (w5.map I ++ wsp)) :: (bt,C AK (Aa eRg t1 ++ tsp)) :: F∧vs = [lv,S0 bw w.length cw,S0 bt t.length ct,Pt b,I i,I (AQ (l[i]).at_),I k]∧m = (l[i]).nums.length - k)
  (n:=(l[i]).nums.length) ⟨rfl,0,w3,ω,ω,by simpa using hw4,rfl,rfl,ω⟩ ?_
 rintro m3 e R2 D2 K8 ⟨hR,k,w5,hk,hwl5,hws,hD,he,hm⟩ hK8;subst hR;refine z_W ?_;clear hD;refine ia (jfo (jlr hbl g5 (Cq hnv.sl (jlt (jif (λhd=>?_) (λhd=>?_))))));rotate_left
 ·have hd:=z_g hd;rw[Tx ω] at hws;cases hws;exact hK7 _ _ _ ⟨rfl,hwl5,rfl,rfl⟩
 have hd:k < (l[i]).nums.length:=by have:=z_f hd;omega
 rw[Ts hd] at hws;unfold wrs at hws;obtain⟨w6,hw6,hws⟩:=A7 hws;obtain⟨p1,p2,p3⟩:=ED hw6;refine ia (jfo (jlr hbl g0 (jad (ia (jfo (jlr hbl g4 (Cq hrv.sl (jad (jad (ia (jfo (jlr hbl g5 (Ca hnv ω ω ?_)))))))))))));rw[getElem_congr_idx (Tj k)];refine jia p1 ω (jsi ω ?_);rw[← p3];refine jad (hK8 ((l[i]).nums.length - (k + 1)) _ _ _ ω ⟨rfl,k + 1,w6,ω,by rw[p3,U3];exact hwl5,by rw[← hws];congr 1;omega,rfl,rfl,rfl⟩)
end Go.Lf
end
